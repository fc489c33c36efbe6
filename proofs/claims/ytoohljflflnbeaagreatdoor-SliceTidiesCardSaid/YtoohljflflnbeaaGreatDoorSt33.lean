/- Parts. -/
import Derived.Test.YtoohljflflnbeaaGreatDoorSt30
import Derived.Test.YtoohljflflnbeaaGreatDoorSt32
import Derived.Laws.OwnMore
set_option linter.unusedSimpArgs false
set_option linter.unusedVariables false
set_option maxHeartbeats 16000000
set_option maxRecDepth 100000
open Go.Proofs.Tryz
namespace Go.Proofs.YtoohljflflnbeaaGreatDoor
open Go.Av Go.Shelf Go.RowKit
theorem Tz (w:World) (x:Nat) (hx:x<=1114111):Calls prog 238 #[.int .i32 x] w fun e w'=>e = .returned (.bool (o9 x))/\w'=w:=by
 go_enter func238,ntmps238
 go_wp2
 go_ret
 refine⟨?_,rfl⟩;unfold o9;by_cases h:x=32
 .simp[h]
 .have h2:¬ ((x:Int)=32):=aa
  simp[h,h2]
theorem IY (G:aF) (t:Tx) (ht:t.length < 2^30):aH prog G 237 [dS t,.fn (.func 238) []] (.sl (some true) ((gx t).map fun s=>[dS s])):=by
 refine Cd (fU.of func237 rfl rfl) fun X w vs j8 bc cm cY=>?_
 obtain⟨u,v,rfl⟩:∃ u v,vs = #[u,v]:=by
  match vs,bc with
  | ⟨[u,v]⟩,_=>exact⟨u,v,rfl⟩
 have hu:=(cm 0 u _ rfl rfl).scalar;have hv:=cm 1 v _ rfl rfl;subst hu
 obtain rfl:v = .func (.func 238) #[] #[]:=by
  generalize hy:D.fn _ _=y at hv;cases hv<;>cases hy;rename_i arr hn _;obtain rfl:arr = #[]:=Array.size_eq_zero_iff.1 hn;rfl
 have hL:Lays.n229 prog Tryz.Lb:={ Tryz.Ud with };have hp:PredAtRunes prog 238 #[] o9 w:=fun W x hx _=>(Tz W x hx).mono fun e w' ⟨he,hw⟩=>⟨he,0,by rw[hw];rfl⟩;have fG:=Any.strings_FieldsFunc_runes hL 238 #[] (enters_of func238 ag rfl) o9 (bs t) w (by rw[bD];omega) hp ag ag;refine fG.mono fun e w' ⟨A,he,hA,Fe,hB⟩=>⟨_,he,sy hB,?_⟩;rw[<- IZ,IS]
 have hlen:(Lib.goFieldsP o9 (bs t)).length=(gx t).length:=by rw[<- IZ,abq]
 have mQ:=CV t;refine Mh (fun hx=>by have:=j8 _ hx;omega) (aa8 _) (by rw[hlen];unfold maxLen;omega) fun i hi=>?_;have hc:=Fe.cellAt i aa;rw[hc];simp[hi]
end Go.Proofs.YtoohljflflnbeaaGreatDoor
namespace Go.Proofs.YtoohljflflnbeaaGreatDoor
open Go.Av
def dt:Ex->List UInt8
 | .b5 b=>[if b then 49 else 48]
 | .bit _=>[98,105,116]
 | .ef _=>[94]
 | .eb _=>[126]
 | .not _=>[33]
 | .and _=>[38]
 | .or _=>[124]
def oP:Ex->List UInt8
 | .bit s=>s
 | .ef s=>s
 | .eb s=>s
 | _=>[]
def qI:Ex->D
 | .not e=>.sl none [[dR e]]
 | .and l=>.sl none (uc l)
 | .or l=>.sl none (uc l)
 | _=>cJ
theorem mz (e:Ex):dR e = .ip [dS (dt e),dS (oP e),qI e]:=by cases e<;>simp[dR,dt,oP,qI]
theorem ba (k:List UInt8) (arr:Array UInt8):ay .eql (bs k) ⟨arr⟩=some (True,.bool (decide (k=arr.toList))):=by
 have h:(bs k).toList=k:=aJ k
 have h2:(⟨arr⟩:ByteArray).toList=arr.toList:=by rw[ByteArray.toList_eq]
 unfold ay;dsimp only;rw[h,h2];congr 3;by_cases e:k=arr.toList
 .subst e;simp
 .rw[decide_eq_false e,beq_eq_false_iff_ne.2 e]
theorem FQ {x:Ex} (h:dt x=[124]):aB x 2=40 :: (aB x 0 ++ [41])/\aB x 1=40 :: (aB x 0 ++ [41]):=by
 cases x<;>simp[dt]at h
 .rename_i b;cases b<;>simp at h
 .simp[aB]
theorem FN {x:Ex} (h:dt x=[38]):aB x 2=40 :: (aB x 0 ++ [41])/\aB x 1=aB x 0:=by
 cases x<;>simp[dt]at h
 .rename_i b;cases b<;>simp at h
 .simp[aB]
theorem FP {x:Ex} (h1:dt x≠[124]) (h2:dt x≠[38]):aB x 2=aB x 0/\aB x 1=aB x 0:=by
 cases x<;>simp[dt]at h1 h2<;>simp[aB]
theorem FV:(⟨#[40]⟩:ByteArray)=bs [40]:=rfl
theorem zd:(⟨#[41]⟩:ByteArray)=bs [41]:=rfl
theorem KN:(⟨#[32]⟩:ByteArray)=bs [32]:=rfl
theorem KO:(⟨#[33,40]⟩:ByteArray)=bs [33,40]:=rfl
theorem Wv (G:aF):∀ (n:Nat) (e:Ex),SizeOf.sizeOf e<=n->(aB e 2).length<=2^30->aH prog G 110 [dR e] (dS (aB e 0)):=by
 intro n
 induction n with
 | zero=>intro e bc;cases e<;>simp at bc
 | succ n ih=>
  intro e bc hlen;have fw:=(Aq @acC (Aq @acB (Aq @ba @cJ.eq_1)))
  cases e with
  | b5 b=>
   cases b with
   | true=>
    rw[dR];refine aH.aU (aw _) func110 rfl rfl (rs:=[.tmp 2]) results110 (by simp[ntmps110]) fun X=>?_;simp only[ntmps110,List.map];refine af fw [0] [] ?_;refine ah fun K1 aI=>af fw [0,11] [] ?_;refine bd (af fw [0,11,12] [] ?_);refine aj (ah fun K2 ak=>?_);refine af fw [0,11,18] [] ?_;refine aj (fc fw ak [0,11,18] [] ?_);refine aj (af fw [0,11,30] [] ?_);refine aj (ah fun K4 cF=>?_);refine af fw [0,11,64] [] ?_;refine aj (fc fw cF [0,64] [] ?_);refine aj (ax (aI _ ?_));refine af fw [2] [] ?_;refine bt ?_;simp[D.le,D.le.go,aL,ab,dS,ba,cJ,aB,dS,D.le_refl]
   | false=>
    rw[dR];refine aH.aU (aw _) func110 rfl rfl (rs:=[.tmp 2]) results110 (by simp[ntmps110]) fun X=>?_;simp only[ntmps110,List.map];refine af fw [0] [] ?_;refine ah fun K1 aI=>af fw [0,11] [] ?_;refine bd (af fw [0,11,12] [] ?_);refine aj (ah fun K2 ak=>?_);refine af fw [0,11,18] [] ?_;refine aj (fc fw ak [0,11,18] [] ?_);refine aj (af fw [0,11,30] [] ?_);refine aj (ah fun K4 cF=>?_);refine af fw [0,11,64] [] ?_;refine aj (fc fw cF [0,64] [] ?_);refine aj (ax (aI _ ?_));refine af fw [2] [] ?_;refine bt ?_;simp[D.le,D.le.go,aL,ab,dS,ba,cJ,aB,dS,D.le_refl]
  | bit s=>
   rw[dR];refine aH.aU (aw _) func110 rfl rfl (rs:=[.tmp 2]) results110 (by simp[ntmps110]) fun X=>?_;simp only[ntmps110,List.map];refine af fw [0] [] ?_;refine ah fun K1 aI=>af fw [0,11] [] ?_;refine bd (af fw [0,11,12] [] ?_);refine aD (af fw [2] [] ?_);refine bt ?_;simp[D.le,D.le.go,aL,ab,dS,ba,cJ,aB,dS,D.le_refl]
  | ef s=>
   have h1:ay .add (bs [94]) (bs s)=some (True,.string (bs (94 :: s))):=j3 [94] _ (by simp[aB]at hlen ⊢;omega);rw[dR];refine aH.aU (aw _) func110 rfl rfl (rs:=[.tmp 2]) results110 (by simp[ntmps110]) fun X=>?_;simp only[ntmps110,List.map];refine af fw [0] [] ?_;refine ah fun K1 aI=>af fw [0,11] [] ?_;refine bd (af fw [0,11,12] [] ?_);refine aj (ah fun K2 ak=>?_);refine af fw [0,11,18] [] ?_;refine aD (ax (ak _ ?_));refine aD ?_;have qf:=(Aq fw @h1);refine gh [2] [] ?_;refine bt ?_;simp[D.le,D.le.go,aL,ab,dS,ba,cJ,aB,dS,D.le_refl]
  | eb s=>
   have h1:ay .add (bs [126]) (bs s)=some (True,.string (bs (126 :: s))):=j3 [126] _ (by simp[aB]at hlen ⊢;omega);rw[dR];refine aH.aU (aw _) func110 rfl rfl (rs:=[.tmp 2]) results110 (by simp[ntmps110]) fun X=>?_;simp only[ntmps110,List.map];refine af fw [0] [] ?_;refine ah fun K1 aI=>af fw [0,11] [] ?_;refine bd (af fw [0,11,12] [] ?_);refine aj (ah fun K2 ak=>?_);refine af fw [0,11,18] [] ?_;refine aj (fc fw ak [0,11,18] [] ?_);refine aD ?_;have qf:=(Aq fw @h1);refine gh [2] [] ?_;refine bt ?_;simp[D.le,D.le.go,aL,ab,dS,ba,cJ,aB,dS,D.le_refl]
  | not x=>
   have yC:(aB x 2).length<=2^30:=by simp[aB]at hlen;omega
   have hc:=ih x (by simp at bc;omega) yC;have aaa:=(tM x 0).1;rw[dR];have hf:=mz x
   refine (fun uI eQ=>?_) (fun (hk:dt x=[38]\/dt x=[124])=>(by
    rcases hk with h | h
    .exact (FN h).1
    .exact (FQ h).1:aB x 2=40 :: (aB x 0 ++ [41]))) (fun (hk:dt x≠[38]/\dt x≠[124])=>(FP hk.2 hk.1).1)
   rw[hf]at hc ⊢;generalize dt x=kd at hc uI eQ ⊢;generalize oP x=nm at hc ⊢;generalize qI x=of at hc ⊢;by_cases yt:kd=[38]
   .subst yt;have hw:=uI (.inl rfl);have h1:ay .add (bs [33,40]) (bs (aB x 0))=some (True,.string (bs (33 :: 40 :: aB x 0))):=j3 [33,40] _ (by simp;omega);have h2:ay .add (bs (33 :: 40 :: aB x 0)) (bs [41])=some (True,.string (bs (33 :: 40 :: (aB x 0 ++ [41])))):=j3 (33 :: 40 :: aB x 0) [41] (by simp;omega);refine aH.aU (aw _) func110 rfl rfl (rs:=[.tmp 2]) results110 (by simp[ntmps110]) fun X=>?_;simp only[ntmps110,List.map];refine af fw [0] [] ?_;refine ah fun K1 aI=>af fw [0,11] [] ?_;refine bd (af fw [0,11,12] [] ?_);refine aj (ah fun K2 ak=>?_);refine af fw [0,11,18] [] ?_;refine aj (fc fw ak [0,11,18] [] ?_);refine aj (af fw [0,11,30] [] ?_);refine aD (ah fun K3 bF=>?_);refine af fw [0,3] [] ?_;refine af fw [0,46] [] ?_;refine aD ?_;have qf:=(Aq fw (Aq @KO (Aq @h1 (Aq @h2 @zd))));refine eC hc [2] [] ?_;refine bt ?_;simp[D.le,D.le.go,aL,ab,dS,ba,cJ,aB,dS,hw,D.le_refl]
   by_cases yq:kd=[124]
   .subst yq;have hw:=uI (.inr rfl);have h1:ay .add (bs [33,40]) (bs (aB x 0))=some (True,.string (bs (33 :: 40 :: aB x 0))):=j3 [33,40] _ (by simp;omega);have h2:ay .add (bs (33 :: 40 :: aB x 0)) (bs [41])=some (True,.string (bs (33 :: 40 :: (aB x 0 ++ [41])))):=j3 (33 :: 40 :: aB x 0) [41] (by simp;omega);refine aH.aU (aw _) func110 rfl rfl (rs:=[.tmp 2]) results110 (by simp[ntmps110]) fun X=>?_;simp only[ntmps110,List.map];refine af fw [0] [] ?_;refine ah fun K1 aI=>af fw [0,11] [] ?_;refine bd (af fw [0,11,12] [] ?_);refine aj (ah fun K2 ak=>?_);refine af fw [0,11,18] [] ?_;refine aj (fc fw ak [0,11,18] [] ?_);refine aj (af fw [0,11,30] [] ?_);refine aD (ah fun K3 bF=>?_);refine af fw [0,3] [] ?_;refine af fw [0,46] [] ?_;refine aD ?_;have qf:=(Aq fw (Aq @KO (Aq @h1 (Aq @h2 @zd))));refine eC hc [2] [] ?_;refine bt ?_;simp[D.le,D.le.go,aL,ab,dS,ba,cJ,aB,dS,hw,D.le_refl]
   have hw:=eQ ⟨yt,yq⟩;have h1:ay .add (bs [33]) (bs (aB x 0))=some (True,.string (bs (33 :: aB x 0))):=j3 [33] _ (by simp;omega);refine aH.aU (aw _) func110 rfl rfl (rs:=[.tmp 2]) results110 (by simp[ntmps110]) fun X=>?_;simp only[ntmps110,List.map];refine af fw [0] [] ?_;refine ah fun K1 aI=>af fw [0,11] [] ?_;refine bd (af fw [0,11,12] [] ?_);refine aj (ah fun K2 ak=>?_);refine af fw [0,11,18] [] ?_;refine aj (fc fw ak [0,11,18] [] ?_);refine aj (af fw [0,11,30] [] ?_);refine aD (ah fun K3 bF=>?_);refine af fw [0,3] [] ?_;have qf:=(Aq fw (Aq @yt @yq));refine aC [0,46] [] ?_;refine aj (ax (bF _ ?_));have qf:=(Aq fw (Aq @FU @h1));refine eC hc [2] [] ?_;refine bt ?_;simp[D.le,D.le.go,aL,ab,dS,ba,cJ,aB,dS,hw,D.le_refl]
  | and l=>
   have hj:(Lib.join (l.map fun e=>aB e 2) [32,38,32]).length+2<=2^30:=by
    rw[aB,if_pos aa,nY]at hlen;simp at hlen;omega
   have hn:=Ax (l.map fun e=>aB e 2) [32,38,32];rw[abq]at hn;have wc:[32,38,32].length=3:=rfl
   have lM:l.length<=2^30:=by simp at hn;omega
   have gM:∀ x∈l,aH prog G 110 [dR x] (dS (aB x 0))/\(aB x 0).length<=2^30:=fun x hx=>by
    have h1:=BZ (l.map fun e=>aB e 2) [32,38,32];have h2:=B1 (abE.2 ⟨x,hx,rfl⟩:aB x 2∈l.map fun e=>aB e 2);have h3:=(tM x 2).2;have h4:=(tM x 0).1;have h5:=aba hx;exact⟨ih x (by simp only[Ex.and.sizeOf_spec]at bc;omega) aa,aa⟩
   have e1:aB (.and l) 0=Lib.join (l.map fun e=>aB e 2) [32,38,32]:=by
    rw[aB,nY];simp
   have kL:=BM G (l.map fun e=>aB e 2) [32,38,32] aa (by simp;omega);rw[show ((l.map fun e=>aB e 2).map fun s=>[dS s])=l.map fun e=>[dS (aB e 2)] by rw[IS];rfl]at kL;have fW:ay .add (bs [32]) (bs [38])=some (True,.string (bs [32,38])):=j3 [32] [38] al;have lO:ay .add (bs [32,38]) (bs [32])=some (True,.string (bs [32,38,32])):=j3 [32,38] [32] al;rw[dR,pr,e1];clear e1;refine aH.aU (aw _) func110 rfl rfl (rs:=[.tmp 2]) results110 (by simp[ntmps110]) fun X=>?_;simp only[ntmps110,List.map];refine af fw [0] [] ?_;refine ah fun K1 aI=>af fw [0,11] [] ?_;refine bd (af fw [0,11,12] [] ?_);refine aj (ah fun K2 ak=>?_);refine af fw [0,11,18] [] ?_;refine aj (fc fw ak [0,11,18] [] ?_);refine aj (af fw [0,11,30] [] ?_);refine aj (ah fun K4 cF=>?_);refine af fw [0,11,64] [] ?_;refine aD (ax (cF _ ?_));refine aD (af fw [0,4] [] ?_);refine ah fun K5 cI=>af fw [0,4,70,71,72] [] ?_;refine eD (S:=Nat) (fun i=>i<=l.length) (fun i=>⟨bl [(0,.d (.ip [dS [38],dS [],.sl none (l.map fun e=>[dR e])])),(4,.own 300 0 i),(70,.d (.sl none (l.map fun e=>[dR e]))),(71,int l.length),(72,int i)],au [(300,.sl 9 1 (List.take i (l.map fun e=>[dS (aB e 2)])))]⟩) (fun i=>l.length - i) 0 ?_ aa ?_
   .refine (aY.qb 4 300 9 1 rfl rfl).trans ?_;refine bL (Aq fw @acB)
   .intro i hi;refine af fw [0,4,70,71,72,73] [300] ?_;refine ah fun K6 fN=>ga (b:=i < l.length) (by simp[D.le,D.le.go,aL,ab,dS,ba,cJ]) (fun hc=>?_) (fun hc=>?_)
    .have dG:i < l.length:=hc;obtain⟨cA,yC⟩:=gM _ (aa6 dG)
     have da:∀ g:Ex->List D,List.take (i+1) (List.map g l)=List.take i (List.map g l) ++ [g l[i]]:=fun g=>by
      rw[aa7 (by simp;exact dG),List.getElem_map]
     have hf:=mz l[i];have uI:=@FQ l[i];have hand:=@FN l[i];have eQ:=@FP l[i];rw[hf]at cA;refine ax (fN _ (ah fun K7 eF=>bd ?_));have qf:=(Aq fw (Aq @dG @hf));refine aC [0,4,6,70,71,72] [300] ?_;refine bB fw cA [0,4,6,7,70,71,72] [300] ?_;refine ah fun K8 eg=>?_;refine (fun cM=>?_) (fun (σ:St) himp=>eg σ (AW.imp (τ:=⟨bl [(0,.d (.ip [dS [38],dS [],.sl none (l.map fun e=>[dR e])])),(4,.own 300 0 i),(7,.d (dS (aB (l[i]'dG) 2))),(70,.d (.sl none (l.map fun e=>[dR e]))),(71,int l.length),(72,int i)],au [(300,.sl 9 1 (List.take i (l.map fun e=>[dS (aB e 2)])))]⟩) himp ?_))
     .have h1:ay .add (bs [40]) (bs (aB l[i] 0))=some (True,.string (bs (40 :: aB l[i] 0))):=j3 [40] _ (by simp;omega);have h2:ay .add (bs (40 :: aB l[i] 0)) (bs [41])=some (True,.string (bs (40 :: (aB l[i] 0 ++ [41])))):=j3 (40 :: aB l[i] 0) [41] (by simp;omega);by_cases r5:dt l[i]=[124]
      .have hw:=((uI r5).1);have qf:=(Aq fw @r5);refine aC [0,4,7,70,71,72,96] [300] ?_;refine aD ?_;have qf:=(Aq fw (Aq @FV (Aq @zd (Aq @h1 @h2))));refine w6 ?_;(try simp only[bY,b9]);refine cM _ ?_;refine bL (Aq fw (Aq @hw @acB))
      by_cases r6:dt l[i]=[38]
      .have hw:=((hand r6).1);have qf:=(Aq fw @r6);refine aC [0,4,7,70,71,72,96] [300] ?_;refine aD ?_;have qf:=(Aq fw (Aq @FV (Aq @zd (Aq @h1 @h2))));refine w6 ?_;(try simp only[bY,b9]);refine cM _ ?_;refine bL (Aq fw (Aq @hw @acB))
      have hw:=(eQ r5 r6).1;have qf:=(Aq fw (Aq @r5 @r6));refine aC [0,4,7,70,71,72,96] [300] ?_;refine aj (ax (cM _ ?_));refine bL (Aq fw (Aq @hw @acB))
     .refine ea (aw _) fun K' ai=>?_;(repeat refine aq fun Kq ae=>?_;simp[ab,dS,ba,cJ,dS,acm];(repeat refine⟨aa,?_⟩);refine ae _ ?_);refine aZ (ai _ ?_);refine eF _ (AW.norm [0,4,70,71,72] [300] aT (AW.st (by simp[ab,dS,ba,cJ,dS,acm];rfl) ?_));refine fe fw ?_;(try simp only[bY,b9]);refine cC.mk (i+1) aa aa ?_;refine bL (Aq fw (Aq @da @acB))
    .obtain rfl:i=l.length:=aa
     refine cX (cI _ ?_);have yV:∀ g:Ex->List D,List.take l.length (l.map g)=l.map g:=fun g=>sh al;refine AW.imp (aY.freeze 300 trivial) ?_;refine AW.st (by simp[ab,dS,ba,cJ,yV];rfl) ?_;have qf:=(Aq fw (Aq @acB (Aq @KN (Aq @fW @lO))));refine eC kL [2] [] ?_;exact bg (Aq fw @acB)
  | or l=>
   have hj:(Lib.join (l.map fun e=>aB e 1) [32,124,32]).length+2<=2^30:=by
    rw[aB,if_pos aa,nY]at hlen;simp at hlen;omega
   have hn:=Ax (l.map fun e=>aB e 1) [32,124,32];rw[abq]at hn;have wc:[32,124,32].length=3:=rfl
   have lM:l.length<=2^30:=by simp at hn;omega
   have gM:∀ x∈l,aH prog G 110 [dR x] (dS (aB x 0))/\(aB x 0).length<=2^30:=fun x hx=>by
    have h1:=BZ (l.map fun e=>aB e 1) [32,124,32];have h2:=B1 (abE.2 ⟨x,hx,rfl⟩:aB x 1∈l.map fun e=>aB e 1);have h3:=(tM x 1).2;have h4:=(tM x 0).1;have h5:=aba hx;exact⟨ih x (by simp only[Ex.or.sizeOf_spec]at bc;omega) aa,aa⟩
   have e1:aB (.or l) 0=Lib.join (l.map fun e=>aB e 1) [32,124,32]:=by
    rw[aB,nY];simp
   have kL:=BM G (l.map fun e=>aB e 1) [32,124,32] aa (by simp;omega);rw[show ((l.map fun e=>aB e 1).map fun s=>[dS s])=l.map fun e=>[dS (aB e 1)] by rw[IS];rfl]at kL;have fW:ay .add (bs [32]) (bs [124])=some (True,.string (bs [32,124])):=j3 [32] [124] al;have lO:ay .add (bs [32,124]) (bs [32])=some (True,.string (bs [32,124,32])):=j3 [32,124] [32] al;rw[dR,pr,e1];clear e1;refine aH.aU (aw _) func110 rfl rfl (rs:=[.tmp 2]) results110 (by simp[ntmps110]) fun X=>?_;simp only[ntmps110,List.map];refine af fw [0] [] ?_;refine ah fun K1 aI=>af fw [0,11] [] ?_;refine bd (af fw [0,11,12] [] ?_);refine aj (ah fun K2 ak=>?_);refine af fw [0,11,18] [] ?_;refine aj (fc fw ak [0,11,18] [] ?_);refine aj (af fw [0,11,30] [] ?_);refine aj (ah fun K4 cF=>?_);refine af fw [0,11,64] [] ?_;refine aj (fc fw cF [0,64] [] ?_);refine aD (af fw [0,4] [] ?_);refine ah fun K5 cI=>af fw [0,4,70,71,72] [] ?_;refine eD (S:=Nat) (fun i=>i<=l.length) (fun i=>⟨bl [(0,.d (.ip [dS [124],dS [],.sl none (l.map fun e=>[dR e])])),(4,.own 300 0 i),(70,.d (.sl none (l.map fun e=>[dR e]))),(71,int l.length),(72,int i)],au [(300,.sl 9 1 (List.take i (l.map fun e=>[dS (aB e 1)])))]⟩) (fun i=>l.length - i) 0 ?_ aa ?_
   .refine (aY.qb 4 300 9 1 rfl rfl).trans ?_;refine bL (Aq fw @acB)
   .intro i hi;refine af fw [0,4,70,71,72,73] [300] ?_;refine ah fun K6 fN=>ga (b:=i < l.length) (by simp[D.le,D.le.go,aL,ab,dS,ba,cJ]) (fun hc=>?_) (fun hc=>?_)
    .have dG:i < l.length:=hc;obtain⟨cA,yC⟩:=gM _ (aa6 dG)
     have da:∀ g:Ex->List D,List.take (i+1) (List.map g l)=List.take i (List.map g l) ++ [g l[i]]:=fun g=>by
      rw[aa7 (by simp;exact dG),List.getElem_map]
     have hf:=mz l[i];have uI:=@FQ l[i];have hand:=@FN l[i];have eQ:=@FP l[i];rw[hf]at cA;refine ax (fN _ (ah fun K7 eF=>bd ?_));have qf:=(Aq fw (Aq @dG @hf));refine aC [0,4,6,70,71,72] [300] ?_;refine bB fw cA [0,4,6,7,70,71,72] [300] ?_;refine ah fun K8 eg=>?_;refine (fun cM=>?_) (fun (σ:St) himp=>eg σ (AW.imp (τ:=⟨bl [(0,.d (.ip [dS [124],dS [],.sl none (l.map fun e=>[dR e])])),(4,.own 300 0 i),(7,.d (dS (aB (l[i]'dG) 1))),(70,.d (.sl none (l.map fun e=>[dR e]))),(71,int l.length),(72,int i)],au [(300,.sl 9 1 (List.take i (l.map fun e=>[dS (aB e 1)])))]⟩) himp ?_))
     .have h1:ay .add (bs [40]) (bs (aB l[i] 0))=some (True,.string (bs (40 :: aB l[i] 0))):=j3 [40] _ (by simp;omega);have h2:ay .add (bs (40 :: aB l[i] 0)) (bs [41])=some (True,.string (bs (40 :: (aB l[i] 0 ++ [41])))):=j3 (40 :: aB l[i] 0) [41] (by simp;omega);by_cases r5:dt l[i]=[124]
      .have hw:=((uI r5).2);have qf:=(Aq fw @r5);refine aC [0,4,7,70,71,72,96] [300] ?_;refine aD ?_;have qf:=(Aq fw (Aq @FV (Aq @zd (Aq @h1 @h2))));refine w6 ?_;(try simp only[bY,b9]);refine cM _ ?_;refine bL (Aq fw (Aq @hw @acB))
      by_cases r6:dt l[i]=[38]
      .have hw:=(hand r6).2;have qf:=(Aq fw @r6);refine aC [0,4,7,70,71,72,96] [300] ?_;refine aj (ax (cM _ ?_));refine bL (Aq fw (Aq @hw @acB))
      have hw:=(eQ r5 r6).2;have qf:=(Aq fw (Aq @r5 @r6));refine aC [0,4,7,70,71,72,96] [300] ?_;refine aj (ax (cM _ ?_));refine bL (Aq fw (Aq @hw @acB))
     .refine ea (aw _) fun K' ai=>?_;(repeat refine aq fun Kq ae=>?_;simp[ab,dS,ba,cJ,dS,acm];(repeat refine⟨aa,?_⟩);refine ae _ ?_);refine aZ (ai _ ?_);refine eF _ (AW.norm [0,4,70,71,72] [300] aT (AW.st (by simp[ab,dS,ba,cJ,dS,acm];rfl) ?_));refine fe fw ?_;(try simp only[bY,b9]);refine cC.mk (i+1) aa aa ?_;refine bL (Aq fw (Aq @da @acB))
    .obtain rfl:i=l.length:=aa
     refine cX (cI _ ?_);have yV:∀ g:Ex->List D,List.take l.length (l.map g)=l.map g:=fun g=>sh al;refine AW.imp (aY.freeze 300 trivial) ?_;refine AW.st (by simp[ab,dS,ba,cJ,yV];rfl) ?_;have qf:=(Aq fw (Aq @acB (Aq @KN (Aq @fW @lO))));refine eC kL [2] [] ?_;exact bg (Aq fw @acB)
theorem u6 (G:aF) (e:Ex) (hlen:(aB e 2).length<=2^30):aH prog G 110 [dR e] (dS (aB e 0)):=Wv G _ e (aa8 _) hlen
theorem Cq {r r' s:Nat} (h:r≠r') (hs:s≠r') (hr:s≠r) (row nP:Row):na r r' (au [(s,nP),(r,row)])=au [(s,nP.tr (fR r r') (fQ r r')),(r',row.tr (fR r r') (fQ r r'))]:=by
 funext q;unfold na;by_cases h1:q=r'
 .subst h1;simp[au,List.lookup,beq_eq_false_iff_ne.2 (abY hs),beq_eq_false_iff_ne.2 (abY hr)]
 .rw[if_neg h1];by_cases h2:q=r
  .subst h2;simp[au,List.lookup,beq_eq_false_iff_ne.2 h1,beq_eq_false_iff_ne.2 (abY hr)]
  .by_cases h3:q=s
   .subst h3;simp[au,List.lookup,h2,beq_eq_false_iff_ne.2 h1,beq_eq_false_iff_ne.2 h2]
   .simp[au,List.lookup,h2,beq_eq_false_iff_ne.2 h1,beq_eq_false_iff_ne.2 h2,beq_eq_false_iff_ne.2 h3]
def kZ:Option Ex->D
 | some x=>dR x
 | none=>.v (.pointer none)
theorem Nz (G:aF) (t:List UInt8) (ht:t.length<=2000):Reads G t [500] [] 202 [.ref 500 0 0,.d (ab 0)] 20 (jt t (cf t 20)):=
 Mf G t ht 0 20 (Vw G t ht 20 0 (aa8 _) rfl)
theorem GF {t:List UInt8} {c:Int} {p:Option Nat} (h:(gB t).2=some (c,p)):0 < c:=by
 unfold gB at h;split at h
 .simp at h;omega
 .rename_i hl;obtain⟨yF,kF,hr⟩:=Nz (fun _=>none) t aa;split at h
  .rename_i c' p' q' he;simp at h;have:=(hr 0 (acv _)).2 _ _ _ he;omega
  .split at h
   .simp at h;omega
   .cases h
theorem zr {t:List UInt8} (h:(gB t).2=none):∃ x,(gB t).1=some x:=by
 unfold gB at h ⊢;split at h
 .cases h
 .rw[if_neg ‹_›];split at h
  .cases h
  .split at h
   .cases h
   .rw[if_neg ‹_›];exact⟨_,rfl⟩
theorem ac2:type_of% (Aq @kZ.eq_1 (Aq @kZ.eq_2 (Aq @acD (Aq @acE (Aq @acF (Aq @acG @acH)))))):=(Aq @kZ.eq_1 (Aq @kZ.eq_2 (Aq @acD (Aq @acE (Aq @acF (Aq @acG @acH))))))
theorem Wo (G:aF) (hF:tS G) (t:List UInt8) (ht:t.length < 2^60):aH prog G 134 [dS t] (.bI [kZ (gB t).1,dv (gB t).2]):=by
 unfold gB;unfold tS at hF;by_cases hl:2000 < t.length
 .have eX:(2000:Int) < (t.length:Int):=aa
  have hb:=Ds G 4;rw[if_pos hl];refine aH.aU (aw _) func134 rfl rfl (rs:=[.tmp 2,.cell 3 52]) results134 (by simp[ntmps134]) fun X=>?_;simp only[ntmps134,List.map];have fw:=acT;refine af fw [0,3] [3] ?_;refine ah fun K1 aI=>?_;have qf:=(Aq fw (Aq @bD (Aq @hl @eX)));refine aC [0,3,8] [3] ?_;refine aD (bB fw hb [2,3] [3] ?_);exact bg (Aq fw ac2)
 have eX:¬ (2000:Int) < (t.length:Int):=aa
 rw[if_neg hl];obtain⟨yF,kF,hr⟩:=Nz G t aa;have hc:=(hr 0 (acv _)).1;have he:=(hr 0 (acv _)).2
 cases ho:jt t (cf t 20) 0 with
 | err c p q=>
  rw[ho]at hc;obtain⟨h1,h2,h3⟩:=he _ _ _ ho
  have h0:¬ c=0:=aa
  generalize yF 0=y at hc h2;generalize kF 0=k at hc h3;refine aH.aU (aw _) func134 rfl rfl (rs:=[.tmp 2,.cell 3 52]) results134 (by simp[ntmps134]) fun X=>?_;simp only[ntmps134,List.map];have fw:=acT;refine af fw [0,3] [3] ?_;refine ah fun K1 aI=>?_;have qf:=(Aq fw (Aq @bD (Aq @hl @eX)));refine aC [0,3,8] [3] ?_;refine aj (ax (aI _ ?_));have qf:=(Aq fw @hF);refine aC [0,3,4] [3,13] ?_;refine AW.imp (aY.dT (r:=13) (r':=500) trivial al) ?_;refine AW.st (by simp[fR,fQ,Go.Av.dT,Cq];rfl) ?_;refine bA (Aq fw (Aq @ic.eq_1 (Aq @ic.eq_2 (Aq @gT.eq_1 (Aq @gT.eq_2 (Aq @eR.eq_1 (Aq @eR.eq_2 (Aq @pR.eq_1 @pR.eq_2)))))))) hc [0,3,4,5] [3,500] ?_;refine ah fun K2 ak=>?_;have qf:=(Aq fw @h0);refine aC [3,4,5,43] [3,500] ?_;refine aj (ax (ak _ ?_));refine ah fun K3 bF=>?_;have qf:=(Aq fw @h0);refine aC [3,4,5,51] [3,500] ?_;refine aD (nZ (aw _) ag [(3,500),(5,3)] [2,3] [3,500] aT ag fun K' ai=>?_);(repeat refine lv fun Kq ae=>?_;simp[ab,bJ,dS];(repeat refine⟨aa,?_⟩);refine ae _ ?_);refine nU (ai _ ?_);refine AW.st (by simp[ab,bJ,dS];rfl) ?_;exact bg (Aq fw ac2)
 | ok x k=>
  rw[ho]at hc;dsimp only[ic,gT,eR,pR]at hc;have hk:=(sd (kp t 20) 0 x k (acv _) ho).2;have fI:=zu G t k aa hk 0 (-1);have mb:=iD hk;have eW:=zt G t (aQ t k) aa mb 3;rw[qM hk]at eW
  have mL:aQ t k < t.length\/nL t k=0:=by
   by_cases h:aQ t k < t.length
   .exact .inl h
   .exact .inr (by unfold nL;rw[aa5,abS aa];rfl)
  obtain⟨cx,hx⟩:=j5 x;dsimp only;generalize aQ t k=j at fI mb eW mL ⊢;generalize nL t k=b at fI mL;by_cases hj:j < t.length
  .have fH:(j:Int) < (t.length:Int):=aa
   rw[if_pos hj];rw[hx]at hc;by_cases hb:((b.toNat:Int)=0)
   .have yc:b.toNat=0:=aa
    refine aH.aU (aw _) func134 rfl rfl (rs:=[.tmp 2,.cell 3 52]) results134 (by simp[ntmps134]) fun X=>?_;simp only[ntmps134,List.map];have fw:=acT;refine af fw [0,3] [3] ?_;refine ah fun K1 aI=>?_;have qf:=(Aq fw (Aq @bD (Aq @hl @eX)));refine aC [0,3,8] [3] ?_;refine aj (ax (aI _ ?_));have qf:=(Aq fw @hF);refine aC [0,3,4] [3,13] ?_;refine AW.imp (aY.dT (r:=13) (r':=500) trivial al) ?_;refine AW.st (by simp[fR,fQ,Go.Av.dT,Cq];rfl) ?_;refine bA fw hc [0,3,4,5] [3,500] ?_;refine ah fun K2 ak=>?_;have qf:=(Aq fw (Aq @hb (Aq @yc (Aq @bD (Aq @hj @fH)))));refine iA fI [3,4,5,43] [3,500] ?_;refine aD (ea (aw _) fun K' ai=>?_);(repeat refine aq fun Kq ae=>?_;simp[ab,bJ,dS];(repeat refine⟨aa,?_⟩);refine ae _ ?_);refine aq fun Kq ae=>?_;simp[ab,bJ,dS];refine ch.mc (eW) ?_ ?_ ?_ ?_ ?_<;>simp[ab,bJ,dS];refine ae _ ?_;(repeat refine aq fun Kq ae=>?_;simp[ab,bJ,dS];(repeat refine⟨aa,?_⟩);refine ae _ ?_);refine aZ (ai _ ?_);refine ak _ (AW.norm [3,4,5] [3,500] aT (AW.st (by simp[ab,bJ,dS];rfl) ?_));refine ah fun K3 bF=>af fw [3,4,5,51] [3,500] ?_;refine aD (nZ (aw _) ag [(3,500),(5,3)] [2,3] [3,500] aT ag fun K' ai=>?_);(repeat refine lv fun Kq ae=>?_;simp[ab,bJ,dS];(repeat refine⟨aa,?_⟩);refine ae _ ?_);refine nU (ai _ ?_);refine AW.st (by simp[ab,bJ,dS];rfl) ?_;exact bg (Aq fw ac2)
   .have yc:¬ b.toNat=0:=aa
    refine aH.aU (aw _) func134 rfl rfl (rs:=[.tmp 2,.cell 3 52]) results134 (by simp[ntmps134]) fun X=>?_;simp only[ntmps134,List.map];have fw:=acT;refine af fw [0,3] [3] ?_;refine ah fun K1 aI=>?_;have qf:=(Aq fw (Aq @bD (Aq @hl @eX)));refine aC [0,3,8] [3] ?_;refine aj (ax (aI _ ?_));have qf:=(Aq fw @hF);refine aC [0,3,4] [3,13] ?_;refine AW.imp (aY.dT (r:=13) (r':=500) trivial al) ?_;refine AW.st (by simp[fR,fQ,Go.Av.dT,Cq];rfl) ?_;refine bA fw hc [0,3,4,5] [3,500] ?_;refine ah fun K2 ak=>?_;have qf:=(Aq fw (Aq @hb (Aq @yc (Aq @bD (Aq @hj @fH)))));refine iA fI [3,4,5,43] [3,500] ?_;refine aD (ea (aw _) fun K' ai=>?_);(repeat refine aq fun Kq ae=>?_;simp[ab,bJ,dS];(repeat refine⟨aa,?_⟩);refine ae _ ?_);refine aq fun Kq ae=>?_;simp[ab,bJ,dS];refine ch.mc (eW) ?_ ?_ ?_ ?_ ?_<;>simp[ab,bJ,dS];refine ae _ ?_;(repeat refine aq fun Kq ae=>?_;simp[ab,bJ,dS];(repeat refine⟨aa,?_⟩);refine ae _ ?_);refine aZ (ai _ ?_);refine ak _ (AW.norm [3,4,5] [3,500] aT (AW.st (by simp[ab,bJ,dS];rfl) ?_));refine ah fun K3 bF=>af fw [3,4,5,51] [3,500] ?_;refine aD (nZ (aw _) ag [(3,500),(5,3)] [2,3] [3,500] aT ag fun K' ai=>?_);(repeat refine lv fun Kq ae=>?_;simp[ab,bJ,dS];(repeat refine⟨aa,?_⟩);refine ae _ ?_);refine nU (ai _ ?_);refine AW.st (by simp[ab,bJ,dS];rfl) ?_;exact bg (Aq fw ac2)
  .have fH:¬ (j:Int) < (t.length:Int):=aa
   have hb:((b.toNat:Int)=0):=by
    rcases mL with h | h
    .exact absurd h hj
    .rw[h];rfl
   have yc:b.toNat=0:=aa
   rw[if_neg hj];simp only[kZ];rw[hx]at hc ⊢;refine aH.aU (aw _) func134 rfl rfl (rs:=[.tmp 2,.cell 3 52]) results134 (by simp[ntmps134]) fun X=>?_;simp only[ntmps134,List.map];have fw:=acT;refine af fw [0,3] [3] ?_;refine ah fun K1 aI=>?_;have qf:=(Aq fw (Aq @bD (Aq @hl @eX)));refine aC [0,3,8] [3] ?_;refine aj (ax (aI _ ?_));have qf:=(Aq fw @hF);refine aC [0,3,4] [3,13] ?_;refine AW.imp (aY.dT (r:=13) (r':=500) trivial al) ?_;refine AW.st (by simp[fR,fQ,Go.Av.dT,Cq];rfl) ?_;refine bA fw hc [0,3,4,5] [3,500] ?_;refine ah fun K2 ak=>?_;have qf:=(Aq fw (Aq @hb (Aq @yc (Aq @bD (Aq @hj @fH)))));refine iA fI [3,4,5,43] [3,500] ?_;refine aj (ax (ak _ ?_));refine ah fun K3 bF=>af fw [3,4,5,51] [3,500] ?_;refine aj (ax (bF _ ?_));refine nZ (aw _) ag [(3,3)] [2,3] [3,500] aT ag fun K' ai=>?_;(repeat refine lv fun Kq ae=>?_;simp[ab,bJ,dS,hF];(repeat refine⟨aa,?_⟩);refine ae _ ?_);refine nU (ai _ ?_);refine AW.st (by simp[ab,bJ,dS,hF];rfl) ?_;exact bg (Aq fw (Aq @acD (Aq @acE (Aq @acF (Aq @acG @acH)))))
theorem la:(⟨#[97]⟩:ByteArray)=bs [97]:=rfl
theorem lb:(⟨#[98]⟩:ByteArray)=bs [98]:=rfl
structure gE where
 name:Tx
 kind:Int
 count:Int
structure gy where
 kind:Int
 name:Tx
 cond:Option Ex
structure dJ where
 names:List gE
 ao:List gy
def dy (p:dJ) (s:Tx):Int:=idx (fun n:gE=>n.name == s) p.names
theorem Lx (p:dJ) {i:Nat} (hi:i < p.names.length):0<=dy p p.names[i].name/\dy p p.names[i].name<=i:=by
 have bw:¬ dy p p.names[i].name < 0:=fun h=>by
  have:=Tf h _ (aa6 hi);simp at this
 obtain⟨k,hk,he,_⟩:=wI bw;refine⟨aa,?_⟩;apply abH;intro bf
 have yn:i < k:=by unfold dy at bf;omega
 unfold idx at he
 cases hf:p.names.findIdx? (fun n:gE=>n.name == p.names[i].name) with
 | none=>rw[hf]at he;simp at he
 | some k'=>
  rw[hf]at he;simp only[Int.ofNat.injEq,Int.natCast_inj]at he
  have mJ:k'=k:=by simpa using he
  subst mJ;have:=(abF.1 hf).2.2 i yn;simp at this
def l6 {α:Type} (f:Nat->α->Int):List α->Nat->Option (Int×Nat)
 | [],_=>none
 | x :: l,i=>if f i x=0 then l6 f l (i+1) else some (f i x,i)
theorem xO {α:Type} {f:Nat->α->Int}:∀ {l:List α} {i:Nat} {e:Int} {k:Nat},l6 f l i=some (e,k)->i<=k/\k < i+l.length/\e≠0
 | x :: l,i,e,k,h=>by
  rw[l6]at h;split at h
  .have:=xO h;simp only[aa9];omega
  .rename_i bw;obtain⟨h1,h2⟩:=dI h;rw[h1]at bw;simp only[aa9];exact⟨aa,aa,bw⟩
theorem DW {α:Type} {f:Nat->α->Int}:∀ {l:List α} {i:Nat},l6 f l i=none->∀ k (hk:k < l.length),f (i+k) l[k]=0
 | x :: l,i,h,k,hk=>by
  rw[l6]at h;split at h
  .rename_i h0
   cases k with
   | zero=>simpa using h0
   | succ k=>
    have:=DW h k (by simpa using hk);simpa[abZ,Nat.add_comm 1 k]using this
  .cases h
def Ay (n:gE):Bool:=decide (n.kind=3) || decide (n.kind=4)
def l4 (p:dJ) (i:Nat) (n:gE):Int:=
 if !gr n.name then 5 else if decide (n.kind < 1) || decide (n.kind > 4) then 1 else if (Ay n && (decide (n.count < 1) || decide (n.count > 7))) || (!Ay n && decide (n.count≠0)) then 2 else if dy p n.name < i then 9 else 0
def jw (k:Int):Int:=if k<=3 then 2 else if k=4 then 3 else 4
def kC (p:dJ) (r:gy):Int:=match r.cond with
 | none=>1
 | some e=>if decide (r.kind < 1) || decide (r.kind > 6) then 1 else if dy p r.name < 0 then 7
  else if jw r.kind≠(p.names.getD (dy p r.name).toNat ⟨[],0,0⟩).kind then 1 else if (iQ true e).any fun s=>decide (dy p s < 0) then 7 else 0
def gJ (p:dJ):Option (Int×Option Nat):=
 if p.names.length > 12\/p.ao.length > 40 then some (4,none) else match l6 (l4 p) p.names 0 with
  | some (e,i)=>some (e,some i)
  | none=>match l6 (fun _ r=>kC p r) p.ao 0 with
   | some (e,i)=>some (e,some (p.names.length+i))
   | none=>none
def Dr (p:dJ) (i:Nat) (n:gE):Int:=
 if !gr n.name then 5 else if !(decide (1<=n.kind) && decide (n.kind<=4)) then 1 else if (decide (n.kind >= 3) && !(decide (1<=n.count) && decide (n.count<=7))) || (decide (n.kind < 3) && decide (n.count≠0)) then 2 else if dy p n.name≠i then 9 else 0
theorem OP (p:dJ) (i:Nat) (hi:i < p.names.length):Dr p i p.names[i]=l4 p i p.names[i]:=by
 have hle:=Lx p hi;generalize hn:p.names[i]=n at hle ⊢;unfold l4 Dr Ay
 cases kc:gr n.name with
 | false=>simp
 | true=>
  by_cases hk:1<=n.kind/\n.kind<=4
  .have e1:(!(decide (1<=n.kind) && decide (n.kind<=4)))=false:=by simp[hk.1,hk.2]
   have e2:(decide (n.kind < 1) || decide (n.kind > 4))=false:=by simp;omega
   have e3:((decide (n.kind >= 3) && !(decide (1<=n.count) && decide (n.count<=7))) || (decide (n.kind < 3) && decide (n.count≠0)))=(((decide (n.kind=3) || decide (n.kind=4)) && (decide (n.count < 1) || decide (n.count > 7))) || (!(decide (n.kind=3) || decide (n.kind=4)) && decide (n.count≠0))):=by
    have:n.kind=1\/n.kind=2\/n.kind=3\/n.kind=4:=aa
    have ec:(!(decide (1<=n.count) && decide (n.count<=7)))=(decide (n.count < 1) || decide (n.count > 7)):=by
     by_cases h1:1<=n.count<;>by_cases h2:n.count<=7<;>simp[h1,h2]<;>omega
    rw[ec]
    rcases this with h | h | h | h<;>simp[h]
   rw[e1,e2,e3];have e4:(dy p n.name≠(i:Int))=(dy p n.name < (i:Int)):=propext ⟨fun h=>aa,fun h=>aa⟩;simp only[e4]
  .have e1:(!(decide (1<=n.kind) && decide (n.kind<=4)))=true:=by
    rw[<- Bool.decide_and];simp;omega
   have e2:(decide (n.kind < 1) || decide (n.kind > 4))=true:=by simp;omega
   rw[e1,e2];simp
structure NZ (p:dJ):Prop where
 names:p.names.length<=12
 ao:p.ao.length<=40
 name:∀ n∈p.names,gr n.name=true/\1<=n.kind/\n.kind<=4
 count:∀ n∈p.names,(n.kind < 3/\n.count=0)\/(3<=n.kind/\1<=n.count/\n.count<=7)
 num:∀ i (hi:i < p.names.length),dy p p.names[i].name=i
theorem xz {p:dJ} (h:gJ p=none):NZ p:=by
 unfold gJ at h;split at h
 .cases h
 .rename_i hl;split at h
  .cases h
  .rename_i hN;have dk:=fun i hi=>DW hN i hi
   have one:∀ i (hi:i < p.names.length),gr p.names[i].name=true/\1<=p.names[i].kind/\p.names[i].kind<=4/\((p.names[i].kind < 3/\p.names[i].count=0)\/(3<=p.names[i].kind/\1<=p.names[i].count/\p.names[i].count<=7))/\dy p p.names[i].name=i:=fun i hi=>by
    have hb:=dk i hi;have hle:=Lx p hi;rw[abe]at hb;generalize p.names[i]=n at hb hle ⊢;unfold l4 Ay at hb;split at hb
    .omega
    .rename_i h1;split at hb
     .omega
     .rename_i h2;split at hb
      .omega
      .rename_i h3;split at hb
       .omega
       .rename_i h4;simp at h1 h2 h3;refine⟨h1,aa,aa,?_,aa⟩;by_cases hk:n.kind=3\/n.kind=4
        .exact .inr ⟨aa,by have:=h3.1 hk;omega,by have:=h3.1 hk;omega⟩
        .have:=h3.2 aa aa;exact .inl ⟨aa,aa⟩
   refine⟨aa,aa,fun n hn=>?_,fun n hn=>?_,fun i hi=>(one i hi).2.2.2.2⟩
   .obtain⟨i,hi,rfl⟩:=abv.1 hn;exact⟨(one i hi).1,(one i hi).2.1,(one i hi).2.2.1⟩
   .obtain⟨i,hi,rfl⟩:=abv.1 hn;exact (one i hi).2.2.2.1
def bH (n:gE):List D:=[dS n.name,.v (.int .i64 n.kind),.v (.int .i64 n.count)]
def AB (n:gE):D:=.agg (bH n)
def ey (l:List gE):D:=.sl none (l.map bH)
def dC (c:Option Ex):D:=match c with
 | none=>.v .nilIface
 | some e=>dE e
def cW (r:gy):List D:=[.v (.int .i64 r.kind),dS r.name,dC r.cond]
def DH (r:gy):D:=.agg (cW r)
def kH (l:List gy):D:=.sl none (l.map cW)
def j4 (p:dJ):List D:=[ey p.names,kH p.ao]
def ir (p:dJ):D:=.agg (j4 p)
theorem Tk (G:aF) (k:Option Bool) (xs:List gE) (g:FuncId) (caps:List D) (p:gE->Bool) (hl:xs.length < 2^62) (ha:C3 G g caps AB p xs) :
  aH prog G 113 [.sl k (xs.map bH),.fn (.func g) caps] (.v (.int .i64 (idx p xs))):=by
 refine aH.aU (aw _) func113 rfl rfl (rs:=[.tmp 4]) results113 (by simp[ntmps113]) fun X=>?_;simp only[ntmps113,List.map];refine aO [0,1] [] ?_;refine ah fun K1 aI=>aO [0,1,7,8] [] ?_;refine eD (S:=Nat) (fun n=>n<=xs.length/\∀ i (hi:i < xs.length),i < n->p xs[i]=false) (fun n=>⟨bl [(0,.d (.sl k (xs.map bH))),(1,.d (.fn (.func g) caps)),(7,int xs.length),(8,int n)],au []⟩) (fun n=>xs.length - n) 0 ?_ al ?_
 .refine ko
 .rintro n ⟨hn,hp⟩;refine aO [0,1,7,8,9] [] ?_;refine ah fun K2 ak=>ga (b:=n < xs.length) (by simp[D.le,D.le.go,aL]) (fun hc=>?_) (fun hc=>?_)
  .refine ax (ak _ (ah fun K3 bF=>bd (aO [0,1,5,7,8] [] ?_)));have x8:=ha xs[n] al;simp only[AB,bH]at x8;have qf:=(Aq @hc @bH.eq_1);refine eC x8 [0,1,5,7,8,16] [] ?_;refine tN _ rfl (fun jD=>?_) (fun jD=>?_)
   .refine aO [4] [] ?_;refine bt ?_;simp[D.le,D.le.go,aL];exact (y7 hc jD fun i hi=>hp i aa hi).symm
   .refine ax (bF _ (fK ?_));(try simp only[bY,b9]);refine cC.mk (n+1) ⟨aa,fun i hi bn=>?_⟩ aa ?_
    .by_cases h:i=n
     .subst h;exact jD
     .exact hp i hi aa
    refine ko
  .refine cX (aI _ (aO [4] [] ?_));refine bt ?_;simp[D.le,D.le.go,aL];exact (y8 fun i hi=>hp i hi aa).symm
theorem Tm (G:aF) (k:Option Bool) (xs:List (List UInt8)) (g:FuncId) (caps:List D) (p:(List UInt8)->Bool) (hl:xs.length < 2^62) (ha:C3 G g caps dS p xs) :
  aH prog G 209 [.sl k (xs.map (fun s=>[dS s])),.fn (.func g) caps] (.v (.int .i64 (idx p xs))):=by
 refine aH.aU (aw _) func209 rfl rfl (rs:=[.tmp 4]) results209 (by simp[ntmps209]) fun X=>?_;simp only[ntmps209,List.map];refine aO [0,1] [] ?_;refine ah fun K1 aI=>aO [0,1,7,8] [] ?_;refine eD (S:=Nat) (fun n=>n<=xs.length/\∀ i (hi:i < xs.length),i < n->p xs[i]=false) (fun n=>⟨bl [(0,.d (.sl k (xs.map (fun s=>[dS s])))),(1,.d (.fn (.func g) caps)),(7,int xs.length),(8,int n)],au []⟩) (fun n=>xs.length - n) 0 ?_ al ?_
 .refine bL @acB
 .rintro n ⟨hn,hp⟩;refine aO [0,1,7,8,9] [] ?_;refine ah fun K2 ak=>ga (b:=n < xs.length) (by simp[D.le,D.le.go,aL]) (fun hc=>?_) (fun hc=>?_)
  .refine ax (ak _ (ah fun K3 bF=>bd (aO [0,1,5,7,8] [] ?_)));have x8:=ha xs[n] al;simp only[dS]at x8;have qf:=(Aq @hc @acB);refine eC x8 [0,1,5,7,8,16] [] ?_;refine tN _ rfl (fun jD=>?_) (fun jD=>?_)
   .refine aO [4] [] ?_;refine bt ?_;simp[D.le,D.le.go,aL];exact (y7 hc jD fun i hi=>hp i aa hi).symm
   .refine ax (bF _ (fK ?_));(try simp only[bY,b9]);refine cC.mk (n+1) ⟨aa,fun i hi bn=>?_⟩ aa ?_
    .by_cases h:i=n
     .subst h;exact jD
     .exact hp i hi aa
    refine bL @acB
  .refine cX (aI _ (aO [4] [] ?_));refine bt ?_;simp[D.le,D.le.go,aL];exact (y8 fun i hi=>hp i hi aa).symm
theorem Pn (G:aF) (k:Option Bool) (xs:List (List UInt8)) (g:FuncId) (caps:List D) (p:List UInt8->Bool) (hl:xs.length < 2^62) (ha:C3 G g caps dS p xs) :
  aH prog G 144 [.sl k (xs.map fun s=>[dS s]),.fn (.func g) caps] (.v (.bool (xs.any p))):=by
 refine aH.aU (aw _) func144 rfl rfl (rs:=[.tmp 4]) results144 (by simp[ntmps144]) fun X=>?_;simp only[ntmps144,List.map];refine aO [0,1] [] ?_;refine bB trivial (Tm G k xs g caps p hl ha) [4] [] ?_;refine bt ?_;simp[D.le,D.le.go,aL];exact Kl p xs
theorem Ug (G:aF) (n:gE) (s:List UInt8):aH prog G 114 [AB n,.ip [dS s]] (.v (.bool (n.name == s))):=by
 simp only[AB,bH,dS];refine aH.aU (aw _) func114 rfl rfl (rs:=[.tmp 3]) results114 (by simp[ntmps114]) fun X=>?_;simp only[ntmps114,List.map];refine aO [1,2] [2] ?_;refine rg [3] [2] aT fun K' ai=>?_;(repeat refine aq fun Kq ae=>?_;simp[ay,aJ];(repeat refine⟨aa,?_⟩);refine ae _ ?_);refine aZ (ai _ (AW.st (by simp[ay,aJ];rfl) ?_));exact kr
theorem F6 (G:aF) (p:dJ) (hp:p.names.length < 2^62) (s:List UInt8):aH prog G 42 [ir p,dS s] (.v (.int .i64 (dy p s))):=by
 have hi:=Tk G none p.names 114 [.ip [dS s]] (fun n=>n.name == s) hp fun n _=>Ug G n s;unfold dy;simp only[ir,j4,ey,dS]at hi ⊢;generalize kH p.ao=R at *;generalize idx (fun n:gE=>n.name == s) p.names=z at hi ⊢;refine aH.aU (aw _) func42 rfl rfl (rs:=[.tmp 4]) results42 (by simp[ntmps42]) fun X=>?_;simp only[ntmps42,List.map];refine af @kH.eq_1 [2,3] [2,3] ?_;refine fF 3 ?_;refine bB trivial hi [4] [2] ?_;exact kr
theorem Lc (G:aF) (p:dJ) (hp:p.names.length < 2^62) (s:List UInt8):aH prog G 214 [dS s,.ip (j4 p)] (.v (.bool (decide (dy p s < 0)))):=by
 have hi:=F6 G p hp s;simp only[ir,j4,ey,kH,dS]at hi ⊢;refine aH.aU (aw _) func214 rfl rfl (rs:=[.tmp 3]) results214 (by simp[ntmps214]) fun X=>?_;simp only[ntmps214,List.map];refine aO [0,1] [] ?_;refine bB trivial hi [3] [] ?_;exact kr
structure N6 (T:Prop):Prop where
 out:T
theorem s7 {T U:Prop} (h:N6 T->U) (t:T):U:=h ⟨t⟩
theorem Ly {p:dJ} {s:List UInt8} (h:¬ dy p s < 0):∃ k:Nat,∃ hk:k < p.names.length,dy p s=k:=by
 obtain⟨k,hk,he,_⟩:=wI h;exact⟨k,hk,he⟩
theorem Uf (G:aF) (p:dJ) (hp:p.names.length < 2^62) (r:gy) (hb:∀ e,r.cond=some e->bE e<=2^28/\(iQ true e).length < 2^62):aH prog G 158 [ir p,DH r] (.v (.int .i64 (kC p r))):=by
 obtain⟨kind,name,cond⟩:=r;dsimp only at hb;have dw:=F6 G p hp name;have eN:=fun s=>Lc G p hp s;simp only[ir,j4,ey,kH,DH,cW,dS]at dw eN ⊢
 cases cond with
 | none=>
  have iW:kC p ⟨kind,name,none⟩=1:=rfl;generalize kC p ⟨kind,name,none⟩=res at iW;refine aH.aU (aw _) func158 rfl rfl (rs:=[.tmp 4]) results158 (by simp[ntmps158]) fun X=>?_;simp only[ntmps158,List.map];have fw:=(Aq @dC.eq_1 @dC.eq_2);refine af fw [2,3] [2,3] ?_;refine ah fun K1 aI=>?_;by_cases h1:kind < 1
  .have qf:=(Aq fw @h1);refine aC [2,3,19] [2,3] ?_;refine aD (af fw [4] [] ?_);exact bg (Aq fw @iW)
  .by_cases h2:kind > 6
   .have qf:=(Aq fw (Aq @h1 @h2));refine aC [2,3,19] [2,3] ?_;refine aD (af fw [4] [] ?_);exact bg (Aq fw @iW)
   .have qf:=(Aq fw (Aq @h1 @h2));refine aC [2,3,19] [2,3] ?_;refine aD (af fw [4] [] ?_);exact bg (Aq fw @iW)
 | some e=>
  have iW:kC p ⟨kind,name,some e⟩=if decide (kind < 1) || decide (kind > 6) then 1 else if dy p name < 0 then 7
   else if jw kind≠(p.names.getD (dy p name).toNat ⟨[],0,0⟩).kind then 1 else if (iQ true e).any fun s=>decide (dy p s < 0) then 7 else 0:=rfl
  generalize kC p ⟨kind,name,some e⟩=res at iW;obtain⟨sM,dX⟩:=hb e rfl;have rQ:=UW G e sM;have vX:=Pn G none (iQ true e) 214 [.ip (j4 p)] (fun s=>decide (dy p s < 0)) dX fun s _=>Lc G p hp s;have Es:dC (some e)=dE e:=rfl;rw[Es];obtain⟨tx,cx,hx⟩:=gk e;rw[hx]at rQ ⊢;simp only[j4,ey,kH,dS]at rQ vX;generalize ((iQ true e).any fun s=>decide (dy p s < 0))=an at iW vX;generalize iQ true e=nm at rQ vX;refine aH.aU (aw _) func158 rfl rfl (rs:=[.tmp 4]) results158 (by simp[ntmps158]) fun X=>?_;simp only[ntmps158,List.map];have fw:=(Aq @dC.eq_1 @dC.eq_2);refine af fw [2,3] [2,3] ?_;refine jk fw 2 ?_;refine jk fw 3 ?_;refine ah fun K1 aI=>?_;by_cases h1:kind < 1
  .rw[if_pos (by simp[h1])]at iW;have qf:=(Aq fw @h1);refine aC [2,3,19] [] ?_;refine aD (af fw [4] [] ?_);exact bg (Aq fw @iW)
  by_cases h2:kind > 6
  .rw[if_pos (by simp[h2])]at iW;have qf:=(Aq fw (Aq @h1 @h2));refine aC [2,3,19] [] ?_;refine aD (af fw [4] [] ?_);exact bg (Aq fw @iW)
  rw[if_neg (by simp[h1,h2])]at iW;have qf:=(Aq fw (Aq @h1 @h2));refine aC [2,3,19] [] ?_;refine aj (ax (aI _ ?_));refine bB fw dw [2,3,5] [] ?_;refine ah fun K2 ak=>af fw [2,3,5,25] [] ?_;by_cases h3:dy p name < 0
  .rw[if_pos h3]at iW;refine eJ (by simp[h3]) (af fw [4] [] ?_);exact bg (Aq fw @iW)
  rw[if_neg h3]at iW;obtain⟨k,hk,sS⟩:=Ly h3
  have oD:p.names.getD (dy p name).toNat ⟨[],0,0⟩=p.names[k]:=by
   rw[sS,ab0,aa5,IN hk];rfl
  rw[oD]at iW;refine gW (by simp[h3]) (ax (ak _ ?_));refine ah fun K3 bF=>?_;have gm:bH p.names[k]=[dS p.names[k].name,.v (.int .i64 p.names[k].kind),.v (.int .i64 p.names[k].count)]:=rfl;generalize mJ:p.names[k].kind=kk at iW gm
  refine' s7 (fun e8=>?_) ?_
  rotate_left
  .have ma:=h1;by_cases fy:kind=1
   .have qf:=(Aq fw @fy);refine aC [2,3,5,6] [] ?_;refine AW.st (show _=(⟨bl [(2,.d (.ip [.sl none (p.names.map bH),.sl none (p.ao.map cW)])),(3,.d (.ip [.v (.int .i64 kind),.v (.string (bs name)),.b6 tx cx])),(5,int (dy p name)),(6,int (jw kind))],au []⟩:St) by rw[fy]<;>rfl) ?_;exact e8.out
   by_cases fy:kind=2
   .have qf:=(Aq fw @fy);refine aC [2,3,5,6] [] ?_;refine AW.st (show _=(⟨bl [(2,.d (.ip [.sl none (p.names.map bH),.sl none (p.ao.map cW)])),(3,.d (.ip [.v (.int .i64 kind),.v (.string (bs name)),.b6 tx cx])),(5,int (dy p name)),(6,int (jw kind))],au []⟩:St) by rw[fy]<;>rfl) ?_;exact e8.out
   by_cases fy:kind=3
   .have qf:=(Aq fw @fy);refine aC [2,3,5,6] [] ?_;refine AW.st (show _=(⟨bl [(2,.d (.ip [.sl none (p.names.map bH),.sl none (p.ao.map cW)])),(3,.d (.ip [.v (.int .i64 kind),.v (.string (bs name)),.b6 tx cx])),(5,int (dy p name)),(6,int (jw kind))],au []⟩:St) by rw[fy]<;>rfl) ?_;exact e8.out
   by_cases fy:kind=4
   .have qf:=(Aq fw @fy);refine aC [2,3,5,6] [] ?_;refine AW.st (show _=(⟨bl [(2,.d (.ip [.sl none (p.names.map bH),.sl none (p.ao.map cW)])),(3,.d (.ip [.v (.int .i64 kind),.v (.string (bs name)),.b6 tx cx])),(5,int (dy p name)),(6,int (jw kind))],au []⟩:St) by rw[fy]<;>rfl) ?_;exact e8.out
   by_cases fy:kind=5
   .have qf:=(Aq fw @fy);refine aC [2,3,5,6] [] ?_;refine AW.st (show _=(⟨bl [(2,.d (.ip [.sl none (p.names.map bH),.sl none (p.ao.map cW)])),(3,.d (.ip [.v (.int .i64 kind),.v (.string (bs name)),.b6 tx cx])),(5,int (dy p name)),(6,int (jw kind))],au []⟩:St) by rw[fy]<;>rfl) ?_;exact e8.out
   have fy:kind=6:=aa
   have qf:=(Aq fw @fy);refine aC [2,3,5,6] [] ?_;refine AW.st (show _=(⟨bl [(2,.d (.ip [.sl none (p.names.map bH),.sl none (p.ao.map cW)])),(3,.d (.ip [.v (.int .i64 kind),.v (.string (bs name)),.b6 tx cx])),(5,int (dy p name)),(6,int (jw kind))],au []⟩:St) by rw[fy]<;>rfl) ?_;exact e8.out
  .rw[sS];have qf:=(Aq fw (Aq @hk @gm));refine aC [2,3,37] [] ?_;by_cases h4:kk=jw kind
   .rw[if_neg (by simp[h4])]at iW;refine gW (by simp[h4]) (ax (bF _ ?_));refine ah fun K4 cF=>rg [42] [] aT fun K' ai=>?_;(repeat refine aq fun Kq ae=>?_;simp[dC];(repeat refine⟨aa,?_⟩);refine ae _ ?_);refine aq fun Kq ae=>?_;simp[dC];refine ch.data (rQ) bq (by first | exact D.aV _ | simp[aL,IS,AT,D.le,D.le.go,D.le_refl,D.aV,dC]) ?_;refine ae _ ?_;simp only[aR,cw];(repeat refine aq fun Kq ae=>?_;simp[dC];(repeat refine⟨aa,?_⟩);refine ae _ ?_);refine aq fun Kq ae=>?_;simp[dC];refine ch.data (vX) bq (by first | exact D.aV _ | simp[aL,IS,AT,D.le,D.le.go,D.le_refl,D.aV,dC]) ?_;refine ae _ ?_;simp only[aR,cw];(repeat refine aq fun Kq ae=>?_;simp[dC];(repeat refine⟨aa,?_⟩);refine ae _ ?_);refine aZ (ai _ (AW.st (by simp[dC];rfl) ?_))
    cases an with
    | true=>
     rw[if_pos rfl]at iW;refine aD (af fw [4] [] ?_);exact bg (Aq fw @iW)
    | false=>
     rw[if_neg bh]at iW;refine aj (ax (cF _ ?_));refine af fw [4] [] ?_;exact bg (Aq fw @iW)
   .rw[if_pos (fun h=>h4 h.symm)]at iW;refine eJ (by simp[h4]) (af fw [4] [] ?_);exact bg (Aq fw @iW)
theorem xN {α:Type} {f:Nat->α->Int}:∀ {l:List α} {i n:Nat} (hn:n < l.length),(∀ k (hk:k < l.length),k < n->f (i+k) l[k]=0)->f (i+n) l[n]≠0->l6 f l i=some (f (i+n) l[n],i+n)
 | x :: l,i,0,_,_,bw=>by rw[l6,if_neg (show ¬ f i x=0 from bw)];rfl
 | x :: l,i,n+1,hn,hb,bw=>by
  have h0:f i x=0:=hb 0 al aa
  have e:∀ k,i+1+k=i+(k+1):=fun k=>aa
  rw[l6,if_pos h0,xN (l:=l) (i:=i+1) (n:=n) (by simpa using hn) (fun k hk me=>by rw[e];exact hb (k+1) (by simpa using hk) aa) (by rw[e];exact bw),e];rfl
theorem xP {α:Type} {f:Nat->α->Int}:∀ {l:List α} {i:Nat},(∀ k (hk:k < l.length),f (i+k) l[k]=0)->l6 f l i=none
 | [],_,_=>rfl
 | x :: l,i,hb=>by
  have e:∀ k,i+1+k=i+(k+1):=fun k=>aa
  rw[l6,if_pos (show f i x=0 from hb 0 al),xP fun k hk=>by rw[e];exact hb (k+1) (by simpa using hk)]
structure Aa (p:dJ):Prop where
 nl:p.names.length < 2^62
 rl:p.ao.length < 2^62
 nn:∀ n∈p.names,n.name.length < 2^60
 cb:∀ r∈p.ao,∀ e,r.cond=some e->bE e<=2^28/\(iQ true e).length < 2^62
theorem KP (G:aF) (p:dJ) (hp:Aa p):aH prog G 81 [ir p] (bC (gJ p)):=by
 obtain⟨dX,fO,uG,Em⟩:=hp
 have uJ:gJ p=if p.names.length > 12\/p.ao.length > 40 then some (4,none) else match l6 (l4 p) p.names 0 with
  | some (e,i)=>some (e,some i)
  | none=>match l6 (fun _ r=>kC p r) p.ao 0 with
   | some (e,i)=>some (e,some (p.names.length+i))
   | none=>none:=rfl
 generalize iO:gJ p=res;rw[uJ]at iO;have dw:=fun s=>F6 G p dX s;have iK:=fun r h=>Uf G p dX r h;simp only[ir,j4,ey,kH,dS]at dw iK ⊢;refine aH.aU (aw _) func81 rfl rfl (rs:=[.tmp 2]) results81 (by simp[ntmps81]) fun X=>?_;simp only[ntmps81,List.map];refine aO [1] [1] ?_;refine fF 1 ?_;refine ah fun K1 aI=>?_;by_cases g0:(p.names.length:Int) > 12
 .rw[if_pos (.inl aa)]at iO;have qf:=@g0;refine aC [1,19] [] ?_;refine aD (aO [2] [] ?_);refine bt ?_;simp[D.le,D.le.go,aL];simp[<- iO,bC,D.le]
 by_cases g1:(p.ao.length:Int) > 40
 .rw[if_pos (.inr aa)]at iO;have qf:=(Aq @g0 @g1);refine aC [1,19] [] ?_;refine aD (aO [2] [] ?_);refine bt ?_;simp[D.le,D.le.go,aL];simp[<- iO,bC,D.le]
 rw[if_neg aa]at iO;have qf:=(Aq @g0 @g1);refine aC [1,19] [] ?_;refine aj (ax (aI _ ?_));refine ah fun K2 ak=>aO [1,22,23,24] [] ?_;refine eD (S:=Nat) (fun n=>n<=p.names.length/\∀ k (hk:k < p.names.length),k < n->l4 p k p.names[k]=0) (fun n=>⟨bl [(1,.d (.ip [.sl none (p.names.map bH),.sl none (p.ao.map cW)])),(22,.d (.sl none (p.names.map bH))),(23,int p.names.length),(24,int n)],au []⟩) (fun n=>p.names.length - n) 0 ?_ al ?_
 .refine ko
 .rintro n ⟨hn,hb⟩;refine aO [1,22,23,24,25] [] ?_;refine ah fun K3 bF=>ga (b:=n < p.names.length) (by simp[D.le,D.le.go,aL]) (fun hc=>?_) (fun hc=>?_)
  .have bf:=hc
   have cM:l4 p n p.names[n]≠0->res=some (l4 p n p.names[n],some n):=fun bw=>by
    rw[<- iO,xN (i:=0) bf (fun k hk me=>by rw[abe];exact hb k hk me) (by rw[abe];exact bw)];simp
   have jS:=uG _ (aa6 bf);have gm:bH p.names[n]=[dS p.names[n].name,.v (.int .i64 p.names[n].kind),.v (.int .i64 p.names[n].count)]:=rfl
   have cj:l4 p n p.names[n]=if !gr p.names[n].name then 5 else if decide (p.names[n].kind < 1) || decide (p.names[n].kind > 4) then 1 else if ((decide (p.names[n].kind=3) || decide (p.names[n].kind=4)) && (decide (p.names[n].count < 1) || decide (p.names[n].count > 7))) || (!(decide (p.names[n].kind=3) || decide (p.names[n].kind=4)) && decide (p.names[n].count≠0)) then 2 else if dy p p.names[n].name < n then 9 else 0:=rfl
   generalize hv:l4 p n p.names[n]=v at cj cM;generalize p.names[n].name=nm at jS gm cj;generalize p.names[n].kind=kd at gm cj;generalize p.names[n].count=ct at gm cj;have kc:=Lp G nm jS;have uH:=dw nm;simp only[dS]at gm kc;generalize gr nm=nf at kc cj;refine ax (bF _ (ah fun K4 cF=>bd ?_));have qf:=(Aq @bf @gm);refine aC [1,3,4,22,23,24] [4] ?_;refine fF 4 ?_
   refine' s7 (fun bO=>?_) ?_
   rotate_left
   .by_cases k3:kd=3
    .have qf:=@k3;refine aC [1,3,4,5,22,23,24] [] ?_;refine AW.st (show _=(⟨bl [(1,.d (.ip [.sl none (p.names.map bH),.sl none (p.ao.map cW)])),(3,int n),(4,.d (.ip [.v (.string (bs nm)),.v (.int .i64 kd),.v (.int .i64 ct)])),(5,.d (.v (.bool (decide (kd=3) || decide (kd=4))))),(22,.d (.sl none (p.names.map bH))),(23,int p.names.length),(24,int n)],au []⟩:St) by rw[k3]<;>rfl) ?_;exact bO.out
    .by_cases k4:kd=4
     .have qf:=(Aq @k3 @k4);refine aC [1,3,4,5,22,23,24] [] ?_;refine AW.st (show _=(⟨bl [(1,.d (.ip [.sl none (p.names.map bH),.sl none (p.ao.map cW)])),(3,int n),(4,.d (.ip [.v (.string (bs nm)),.v (.int .i64 kd),.v (.int .i64 ct)])),(5,.d (.v (.bool (decide (kd=3) || decide (kd=4))))),(22,.d (.sl none (p.names.map bH))),(23,int p.names.length),(24,int n)],au []⟩:St) by rw[k4]<;>rfl) ?_;exact bO.out
     .have e:(decide (kd=3) || decide (kd=4))=false:=by simp[k3,k4]
      have qf:=(Aq @k3 @k4);refine aC [1,3,4,5,22,23,24] [] ?_;refine AW.st (show _=(⟨bl [(1,.d (.ip [.sl none (p.names.map bH),.sl none (p.ao.map cW)])),(3,int n),(4,.d (.ip [.v (.string (bs nm)),.v (.int .i64 kd),.v (.int .i64 ct)])),(5,.d (.v (.bool (decide (kd=3) || decide (kd=4))))),(22,.d (.sl none (p.names.map bH))),(23,int p.names.length),(24,int n)],au []⟩:St) by rw[e]<;>rfl) ?_;exact bO.out
   .generalize (decide (kd=3) || decide (kd=4))=cB at cj;refine aO [1,3,4,5,6,22,23,24] [] ?_;refine ah fun K5 cI=>?_
    refine' s7 (fun e8=>?_) ?_
    rotate_left
    .refine bd (bB trivial kc [1,3,4,5,6,22,23,24,37] [] ?_);by_cases wm:nf=true
     rotate_left
     .have JX:nf=false:=by simpa using wm
      rw[if_pos (by simp[JX])]at cj;rw[JX];refine aD (fc trivial cI [1,3,6,22,23,24] [] ?_);refine AW.st (show _=(⟨bl [(1,.d (.ip [.sl none (p.names.map bH),.sl none (p.ao.map cW)])),(3,int n),(6,int v),(22,.d (.sl none (p.names.map bH))),(23,int p.names.length),(24,int n)],au []⟩:St) by rw[cj]<;>rfl) ?_;exact e8.out
     .rw[if_neg (by simp[wm])]at cj;rw[wm];refine aj ?_;by_cases k1:kd < 1
      .rw[if_pos (by simp[k1])]at cj;have qf:=@k1;refine aC [1,3,4,5,6,22,23,24,42] [] ?_;refine aD (fc trivial cI [1,3,6,22,23,24] [] ?_);refine AW.st (show _=(⟨bl [(1,.d (.ip [.sl none (p.names.map bH),.sl none (p.ao.map cW)])),(3,int n),(6,int v),(22,.d (.sl none (p.names.map bH))),(23,int p.names.length),(24,int n)],au []⟩:St) by rw[cj]<;>rfl) ?_;exact e8.out
      by_cases k2:kd > 4
      .rw[if_pos (by simp[k2])]at cj;have qf:=(Aq @k1 @k2);refine aC [1,3,4,5,6,22,23,24,42] [] ?_;refine aD (fc trivial cI [1,3,6,22,23,24] [] ?_);refine AW.st (show _=(⟨bl [(1,.d (.ip [.sl none (p.names.map bH),.sl none (p.ao.map cW)])),(3,int n),(6,int v),(22,.d (.sl none (p.names.map bH))),(23,int p.names.length),(24,int n)],au []⟩:St) by rw[cj]<;>rfl) ?_;exact e8.out
      rw[if_neg (by simp[k1,k2])]at cj;have qf:=(Aq @k1 @k2);refine aC [1,3,4,5,6,22,23,24,42] [] ?_;refine aj ?_;by_cases Jy:cB=true
      .rw[Jy]at cj ⊢;by_cases c1:ct < 1
       .rw[if_pos (by simp[c1])]at cj;have qf:=@c1;refine aC [1,3,4,6,22,23,24,51] [] ?_;refine aD (fc trivial cI [1,3,6,22,23,24] [] ?_);refine AW.st (show _=(⟨bl [(1,.d (.ip [.sl none (p.names.map bH),.sl none (p.ao.map cW)])),(3,int n),(6,int v),(22,.d (.sl none (p.names.map bH))),(23,int p.names.length),(24,int n)],au []⟩:St) by rw[cj]<;>rfl) ?_;exact e8.out
       by_cases c2:ct > 7
       .rw[if_pos (by simp[c2])]at cj;have qf:=(Aq @c1 @c2);refine aC [1,3,4,6,22,23,24,51] [] ?_;refine aD (fc trivial cI [1,3,6,22,23,24] [] ?_);refine AW.st (show _=(⟨bl [(1,.d (.ip [.sl none (p.names.map bH),.sl none (p.ao.map cW)])),(3,int n),(6,int v),(22,.d (.sl none (p.names.map bH))),(23,int p.names.length),(24,int n)],au []⟩:St) by rw[cj]<;>rfl) ?_;exact e8.out
       rw[if_neg (by simp[c1,c2])]at cj;have qf:=(Aq @c1 @c2);refine aC [1,3,4,6,22,23,24,51] [] ?_;refine aj (bB trivial uH [1,3,6,22,23,24,72] [] ?_);by_cases c9:dy p nm < n
       .rw[if_pos c9]at cj;refine eJ (by simp[c9]) (fc trivial cI [1,3,6,22,23,24] [] ?_);refine AW.st (show _=(⟨bl [(1,.d (.ip [.sl none (p.names.map bH),.sl none (p.ao.map cW)])),(3,int n),(6,int v),(22,.d (.sl none (p.names.map bH))),(23,int p.names.length),(24,int n)],au []⟩:St) by rw[cj]<;>rfl) ?_;exact e8.out
       .rw[if_neg c9]at cj;refine gW (by simp[c9]) (ax ?_);refine cI _ (AW.norm [1,3,6,22,23,24] [] aT (AW.st bq ?_));refine AW.st (show _=(⟨bl [(1,.d (.ip [.sl none (p.names.map bH),.sl none (p.ao.map cW)])),(3,int n),(6,int v),(22,.d (.sl none (p.names.map bH))),(23,int p.names.length),(24,int n)],au []⟩:St) by rw[cj]<;>rfl) ?_;exact e8.out
      .have Rc:cB=false:=by simpa using Jy
       rw[Rc]at cj ⊢;by_cases c0:ct=0
       .rw[if_neg (by simp[c0])]at cj;have qf:=@c0;refine aC [1,3,4,6,22,23,24,51] [] ?_;refine aj (bB trivial uH [1,3,6,22,23,24,72] [] ?_);by_cases c9:dy p nm < n
        .rw[if_pos c9]at cj;refine eJ (by simp[c9]) (fc trivial cI [1,3,6,22,23,24] [] ?_);refine AW.st (show _=(⟨bl [(1,.d (.ip [.sl none (p.names.map bH),.sl none (p.ao.map cW)])),(3,int n),(6,int v),(22,.d (.sl none (p.names.map bH))),(23,int p.names.length),(24,int n)],au []⟩:St) by rw[cj]<;>rfl) ?_;exact e8.out
        .rw[if_neg c9]at cj;refine gW (by simp[c9]) (ax ?_);refine cI _ (AW.norm [1,3,6,22,23,24] [] aT (AW.st bq ?_));refine AW.st (show _=(⟨bl [(1,.d (.ip [.sl none (p.names.map bH),.sl none (p.ao.map cW)])),(3,int n),(6,int v),(22,.d (.sl none (p.names.map bH))),(23,int p.names.length),(24,int n)],au []⟩:St) by rw[cj]<;>rfl) ?_;exact e8.out
       .rw[if_pos (by simp[c0])]at cj;have qf:=@c0;refine aC [1,3,4,6,22,23,24,51] [] ?_;refine aD (fc trivial cI [1,3,6,22,23,24] [] ?_);refine AW.st (show _=(⟨bl [(1,.d (.ip [.sl none (p.names.map bH),.sl none (p.ao.map cW)])),(3,int n),(6,int v),(22,.d (.sl none (p.names.map bH))),(23,int p.names.length),(24,int n)],au []⟩:St) by rw[cj]<;>rfl) ?_;exact e8.out
    .by_cases o7:v=0
     .have qf:=@o7;refine aC [1,3,6,22,23,24,80] [] ?_;refine aj (ax ?_);refine cF _ ?_;refine fK ?_;(try simp only[bY,b9]);refine cC.mk (n+1) ⟨aa,fun k hk me=>?_⟩ aa ?_
      .by_cases h:k=n
       .subst h;rw[hv,o7]
       .exact hb k hk aa
      refine ko
     .have qf:=@o7;refine aC [1,3,6,22,23,24,80] [] ?_;refine aD (aO [2] [84] ?_);refine bt ?_;simp[D.le,D.le.go,aL];simp[cM o7,bC,D.le,D.le.go]
  .rw[xP fun k hk=>by rw[abe];exact hb k hk aa]at iO;dsimp only at iO;refine cX (ak _ (ah fun K6 fN=>aO [1,88,89,90] [] ?_));refine eD (S:=Nat) (fun n=>n<=p.ao.length/\∀ k (hk:k < p.ao.length),k < n->kC p p.ao[k]=0) (fun n=>⟨bl [(1,.d (.ip [.sl none (p.names.map bH),.sl none (p.ao.map cW)])),(88,.d (.sl none (p.ao.map cW))),(89,int p.ao.length),(90,int n)],au []⟩) (fun n=>p.ao.length - n) 0 ?_ al ?_
   .refine ko
   .rintro n ⟨hn,hb⟩;refine aO [1,88,89,90,91] [] ?_;refine ah fun K7 eF=>ga (b:=n < p.ao.length) (by simp[D.le,D.le.go,aL]) (fun hc=>?_) (fun hc=>?_)
    .have bf:=hc
     have cM:kC p p.ao[n]≠0->res=some (kC p p.ao[n],some (p.names.length+n)):=fun bw=>by
      rw[<- iO,xN (i:=0) bf (fun k hk me=>hb k hk me) bw];simp
     have gm:cW p.ao[n]=[.v (.int .i64 p.ao[n].kind),dS p.ao[n].name,dC p.ao[n].cond]:=rfl;have eN:=iK p.ao[n] (Em _ (aa6 bf));simp only[DH,gm]at eN;generalize hv:kC p p.ao[n]=v at eN cM
     obtain⟨tc,Es,SV⟩:∃ tc,dC p.ao[n].cond=tc/\((∃ a b,tc = .b6 a b)\/tc = .v .nilIface):=by
      cases p.ao[n].cond with
      | none=>exact⟨_,rfl,.inr rfl⟩
      | some e=>obtain⟨a,b,h⟩:=gk e;exact⟨_,rfl,.inl ⟨a,b,h⟩⟩
     rw[Es]at gm eN;generalize p.ao[n].kind=kd at gm eN;generalize p.ao[n].name=nm at gm eN;simp only[dS]at gm eN
     have Bs:(p.names.length:Int)+(n:Int)<=2^62:=aa
     refine ax (eF _ (ah fun K8 eg=>bd ?_))
     rcases SV with⟨ta,tb2,rfl⟩ | rfl
     all_goals
      .have qf:=(Aq @bf @gm);refine aC [1,7,8,88,89,90] [8] ?_;refine fF 8 ?_;refine bB trivial eN [1,7,9,88,89,90] [] ?_;by_cases o7:v=0
       .have qf:=@o7;refine aC [1,7,9,88,89,90,99] [] ?_;refine aj (ax (eg _ ?_));refine fK ?_;(try simp only[bY,b9]);refine cC.mk (n+1) ⟨aa,fun k hk me=>?_⟩ aa ?_
        .by_cases h:k=n
         .subst h;rw[hv,o7]
         .exact hb k hk aa
        refine ko
       .have qf:=@o7;refine aC [1,7,9,88,89,90,99] [] ?_;refine aD (aO [2] [107] ?_);refine bt ?_;simp[D.le,D.le.go,aL];simp[cM o7,bC,D.le,D.le.go]
    .rw[xP fun k hk=>hb k hk aa]at iO;refine cX (fN _ (aO [2] [] ?_));refine bt ?_;simp[D.le,D.le.go,aL];simp[<- iO,bC]
theorem acO:type_of% @ey.eq_1:=@ey.eq_1
