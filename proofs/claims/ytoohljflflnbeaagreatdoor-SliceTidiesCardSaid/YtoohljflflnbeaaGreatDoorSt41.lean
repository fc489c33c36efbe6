/- Parts. -/
import Derived.Test.YtoohljflflnbeaaGreatDoorSt40
import Derived.Sort.Walk0
import Derived.Shelf.Slices.CompactI
import Derived.Ground.Names2Prog
set_option linter.unusedSectionVars false
set_option linter.unusedSimpArgs false
set_option linter.unusedVariables false
set_option maxHeartbeats 32000000
set_option maxRecDepth 100000
open Go.Proofs.Tryz
namespace Go.Proofs.YtoohljflflnbeaaGreatDoor
open Go.Av
def oN (all:Bool):List UInt8:=if all then [98,105,116,94,126] else [94,126]
theorem U4 (all:Bool) (e:Ex):fD all e=ib (dP all e) ++ gu all (lR e):=by
 cases e<;>simp[fD,lR,gu,dP,ib]
theorem U3 (all:Bool) (e:Ex):(oP e=[]/\ib (dP all e)=[])\/(oP e≠[]/\Lib.contains (oN all) (dt e)=false/\ib (dP all e)=[])\/(oP e≠[]/\Lib.contains (oN all) (dt e)=true/\ib (dP all e)=[oP e]):=by
 have c1:Lib.contains (oN true) [98,105,116]=true:=by decide +kernel
 have c2:Lib.contains (oN false) [98,105,116]=false:=by decide +kernel
 have c3:∀ all,Lib.contains (oN all) [94]=true:=by decide +kernel
 have c4:∀ all,Lib.contains (oN all) [126]=true:=by decide +kernel
 cases e with
 | bit s=>
  by_cases hs:s=[]
  .subst hs;cases all<;>exact .inl ⟨rfl,rfl⟩
  .cases all with
   | true=>exact .inr (.inr ⟨hs,c1,by simp[dP,ib,oP,hs]⟩)
   | false=>exact .inr (.inl ⟨hs,c2,by simp[dP,ib]⟩)
 | ef s=>
  by_cases hs:s=[]
  .subst hs;exact .inl ⟨rfl,rfl⟩
  .exact .inr (.inr ⟨hs,c3 _,by simp[dP,ib,oP,hs]⟩)
 | eb s=>
  by_cases hs:s=[]
  .subst hs;exact .inl ⟨rfl,rfl⟩
  .exact .inr (.inr ⟨hs,c4 _,by simp[dP,ib,oP,hs]⟩)
 | _=>exact .inl ⟨rfl,rfl⟩
def iF:AV:=.fn (.func 245) [.ref 501 0 0,.ref 502 0 0,.ref 504 0 0]
def fT (all:Bool) (l:List Tx):List (Nat×Row):=[(501,.box 9 [.d (dS (oN all))]),(502,.box 58 [.own 503 0 l.length]),(503,.sl 9 1 (l.map fun s=>[dS s])),(504,.box 359 [iF])]
theorem Ib (a b:Tx):ay .lss (bs a) (bs b)=some (True,.bool (decide (a < b))):=by
 simp only[ay,aJ,bytesLess_eq]
theorem xv (a b:Tx):ay .neq (bs a) (bs b)=some (True,.bool (!decide (a=b))):=by
 simp only[ay,aJ]
 have h:(a == b)=decide (a=b):=by
  by_cases e:a=b
  .subst e;exact (beq_self_eq_true a).trans (decide_eq_true rfl).symm
  .exact (beq_eq_false_iff_ne.2 e).trans (decide_eq_false e).symm
 rw[h]
theorem VF (m:List (List D)) (z x:List D) (k:Nat) (hk:k<=m.length) (hm:∀ el∈m,el.length=1/\∀ c∈el,D.one c=true) (hz:z.length=1/\∀ c∈z,D.one c=true) :
  ∃ news pt:List (List D),∃ w0:D,((m ++ [z]).drop k).take (m.length+1 - k)=news/\(∀ el∈news,el.length=1)/\(∀ el∈news,∀ c∈el,D.one c=true)/\
   om (m ++ [z]) news (k+1) (m.length+1 - (k+1))=pt/\pt.length=m.length+1/\pt[k]? = some [w0]/\pt.set k x=m.take k ++ x :: m.drop k/\(k=m.length->pt=m ++ [z]):=by
 have h1:((m ++ [z]).drop k).take (m.length+1 - k)=m.drop k ++ [z]:=by
  rw[sh al,List.drop_append_of_le_length hk]
 have h2:(m.drop k ++ [z]).take (m.length+1 - (k+1))=m.drop k:=by
  rw[List.take_append_of_le_length al,sh al]
 have h3:om (m ++ [z]) (m.drop k ++ [z]) (k+1) (m.length+1 - (k+1))=(m ++ [z]).take (k+1) ++ m.drop k:=by
  unfold om;rw[h2,List.drop_of_length_le (l:=m ++ [z]) (by simp;omega),abK]
 have o5:∀ el∈m.drop k ++ [z],el.length=1/\∀ c∈el,D.one c=true:=fun el bu=>by
  rcases abr.1 bu with h | h
  .exact hm el (acg h)
  .rw[abV]at h;subst h;exact hz
 have hl:((m ++ [z]).take (k+1) ++ m.drop k).length=m.length+1:=by simp;omega
 have mJ:k < (m ++ [z]).length:=by simp;omega
 have RN:((m ++ [z]).take (k+1) ++ m.drop k)[k]? = some ((m ++ [z])[k]):=by
  rw[abQ (by simp;omega),abf,if_pos aa,IN mJ]
 have gn:∃ w0,(m ++ [z])[k]=[w0]:=by
  have hq:((m ++ [z])[k]).length=1:=by
   rcases abr.1 (aa6 mJ)with h | h
   .exact (hm _ h).1
   .rw[abV]at h;rw[h];exact hz.1
  exact abw.1 hq
 obtain⟨w0,nH⟩:=gn;refine⟨_,_,w0,h1,fun el bu=>(o5 el bu).1,fun el bu=>(o5 el bu).2,h3,hl,by rw[RN,nH],?_,fun e=>?_⟩
 .rw[aa7 mJ,aco,List.set_append_right _ _ (by simp;omega)]
  have e1:((m ++ [z]).take k).length=k:=by simp;omega
  rw[e1,Nat.sub_self,List.take_append_of_le_length hk];rfl
 .subst e;rw[sh al,List.drop_of_length_le al,abK]
theorem WG (G:aF) (hM:nh G) (all:Bool):∀ (n:Nat) (e:Ex),SizeOf.sizeOf e<=n->∀ l0:List Tx,l0.length+bE e<=2^39->MC prog G [501,502,504] 245 ([.d (dR e)] ++ [.ref 501 0 0,.ref 502 0 0,.ref 504 0 0]) (au (fT all l0)) (.d (.bI [])) (au (fT all (kS l0 (fD all e)))):=by
 intro n
 induction n with
 | zero=>intro e bc;cases e<;>simp at bc
 | succ n ih=>
  intro e bc l0 hb;have gM:∀ x∈lR e,∀ l1:List Tx,l1.length+bE x<=2^39->MC prog G [501,502,504] 245 ([.d (dR x)] ++ [.ref 501 0 0,.ref 502 0 0,.ref 504 0 0]) (au (fT all l1)) (.d (.bI [])) (au (fT all (kS l1 (fD all x)))):=fun x hx=>ih x (by have:=YS hx;omega);clear ih;have qt:=ON e;have lM:=lA (lR e);have dX:=zn all (lR e);have Bq:=U3 all e
  have SA:(ib (dP all e)).length<=1:=by unfold ib;split<;>simp
  have ov:(ib (dP all e)).length+bx (lR e)<=bE e:=by
   cases e<;>simp[lR,bE,bx]<;>first | omega | (simp[ib,dP]<;>omega) | skip
  have fG:=WJ G hM (oN all) (dt e) (by cases all<;>simp[oN])
  have de:(oN all).length<=5:=by cases all<;>simp[oN]
  rw[U4,Kp,mz,Vb];generalize lR e=l at gM qt lM dX ov ⊢;generalize dt e=kd at fG Bq ⊢;generalize oP e=nm at Bq ⊢;generalize kR e=kk;generalize gn:ib (dP all e)=on at Bq ov SA ⊢;generalize nD:kS l0 on=p5;have jT:=FI on l0;rw[nD]at jT;clear bc;refine MC.aU (aw _) func245 rfl rfl (rs:=[]) results245 (by simp[ntmps245]) rfl fun X=>?_;simp only[ntmps245];have fw:=(Aq @acC (Aq @acB (Aq @fT.eq_1 @iF.eq_1)));refine ah fun K1 aI=>?_;refine (fun cM=>?_) (fun (σ:St) himp=>aI σ (AW.imp (τ:=⟨bl [(0,.d (.ip [dS kd,dS nm,.sl kk (l.map fun x=>[dR x])])),(3,.ref 504 0 0)],au (fT all p5)⟩) himp ?_))
  .rcases Bq with⟨h1,h2⟩ | ⟨h1,h2,h3⟩ | ⟨h1,h2,h3⟩
   .subst h1 h2
    have hq:l0=p5:=by rw[<- nD];rfl
    subst hq;have qf:=(Aq fw (Aq @xv @bM));refine gh [0,2,3,20] [501,502,503,504] ?_;refine aj (ax (cM _ ?_));refine bL fw
   .subst h3
    have hq:l0=p5:=by rw[<- nD];rfl
    subst hq;rw[h2]at fG
    have mL:ay .neq (bs nm) ⟨#[]⟩=some (True,.bool true):=by
     have:=xv nm [];rw[decide_eq_false h1]at this;exact this
    have qf:=(Aq fw @mL);refine GN fG [0,2,3,20] [501,502,503,504] ?_;refine aj (ax (cM _ ?_));refine bL fw
   .subst h3;rw[h2]at fG
    have mL:ay .neq (bs nm) ⟨#[]⟩=some (True,.bool true):=by
     have:=xv nm [];rw[decide_eq_false h1]at this;exact this
    have qf:=(Aq fw @mL);refine GN fG [0,2,3,20] [501,502,503,504] ?_;refine aD (af fw [0,2,3,5] [501,502,503,504] ?_);refine ah fun K2 ak=>?_;refine (fun Bk=>?_) (fun (k:Nat) (hk:k<=l0.length) (hp:∀ i (hi:i < l0.length),i < k->l0[i]'hi < nm) (hx:∀ hk:k < l0.length,¬ l0[k]'hk < nm) (σ:St) himp=>ak σ (AW.imp (τ:=⟨bl [(0,.d (.ip [dS kd,dS nm,.sl kk (l.map fun x=>[dR x])])),(2,.ref 502 0 0),(3,.ref 504 0 0),(5,int k)],au (fT all l0)⟩) himp ?_))
    .refine eD (S:=Nat) (fun k=>k<=l0.length/\∀ i (hi:i < l0.length),i < k->l0[i] < nm) (fun k=>⟨bl [(0,.d (.ip [dS kd,dS nm,.sl kk (l.map fun x=>[dR x])])),(2,.ref 502 0 0),(3,.ref 504 0 0),(5,int k)],au (fT all l0)⟩) (fun k=>l0.length - k) 0 ?_ al ?_
     .refine bL fw
     .rintro k ⟨hk,hp⟩;refine ah fun K3 bF=>?_;by_cases de:k < l0.length
      .cases bf:decide (l0[k] < nm) with
       | true=>
        have eV:ay .lss (bs l0[k]) (bs nm)=some (True,.bool true):=by rw[Ib,bf]
        have qf:=(Aq fw (Aq @de @eV));refine gh [0,2,3,5,35] [501,502,503,504] ?_;refine aD (ax (bF _ ?_));refine bd (fe fw ?_);(try simp only[bY,b9]);refine cC.mk (k+1) ⟨aa,fun i hi yn=>?_⟩ aa ?_
        .by_cases he:i=k
         .subst he;exact of_decide_eq_true bf
         .exact hp i hi aa
        refine bL fw
       | false=>
        have eV:ay .lss (bs l0[k]) (bs nm)=some (True,.bool false):=by rw[Ib,bf]
        have qf:=(Aq fw (Aq @de @eV));refine gh [0,2,3,5,35] [501,502,503,504] ?_;refine aj (cX (Bk k hk hp (fun _=>of_decide_eq_false bf) _ ?_));refine bL fw
      .have qf:=(Aq fw @de);refine gh [0,2,3,5,35] [501,502,503,504] ?_;refine aj (cX (Bk k hk hp (fun h=>absurd h de) _ ?_));refine bL fw
    .have RX:=Ku nm l0 k hk hp hx;have rR:p5=kT nm l0:=nD.symm;rw[RX]at rR;by_cases de:k < l0.length
     .by_cases he:l0[k]=nm
      .have x9:ay .neq (bs l0[k]) (bs nm)=some (True,.bool false):=by rw[xv,he,decide_eq_true rfl];rfl
       rw[if_pos ⟨de,he⟩]at rR
       have bw:¬ k=l0.length:=aa
       have qf:=(Aq fw (Aq @de (Aq @x9 @bw)));refine gh [0,2,3,5,52] [501,502,503,504] ?_;refine aj (ax (cM _ ?_));refine bL (Aq fw @rR)
      .have x9:ay .neq (bs l0[k]) (bs nm)=some (True,.bool true):=by rw[xv,decide_eq_false he];rfl
       rw[if_neg (fun ⟨_,h⟩=>he h)]at rR
       have bw:¬ k=l0.length:=aa
       have qf:=(Aq fw (Aq @de (Aq @x9 @bw)));refine gh [0,2,3,5,52] [501,502,503,504] ?_;refine aD (rg [0,2,3,5] [501,502,503,504] (cy rfl) fun K' ai=>?_);(repeat refine aq fun Kq ae=>?_;simp[ab,dS,fT,iF,sh];(repeat refine⟨aa,?_⟩);refine ae _ ?_);refine aZ (ai _ (AW.st (by simp[ab,dS,fT,iF,sh];rfl) ?_))
       have fy:k+1<=l0.length+1:=aa
       have jB:¬ (k:Int)=(l0.length:Int)+1:=aa
       have EM:((l0.length:Int)+1 - ((k:Int)+1)).toNat=l0.length+1 - (k+1):=aa
       have hle:k+(l0.length+1 - k)<=l0.length+1:=aa
       have Se:k+1+(l0.length - k)<=l0.length+1:=aa
       obtain⟨news,pt,w0,q1,q2,q3,q4,q5,q6,q7,_⟩:=VF (l0.map fun s=>[dS s]) [dS []] [dS nm] k (by simpa using hk) (by intro el bu;obtain⟨s,_,rfl⟩:=abE.1 bu;simp[dS,D.one]) (by simp[dS,D.one])
       have q8:List.take k (l0.map fun s=>[dS s]) ++ [dS nm] :: List.drop k (l0.map fun s=>[dS s])=p5.map fun s=>[dS s]:=by rw[rR];simp
       rw[q8]at q7
       have q9:p5.length=l0.length+1:=by rw[rR];simp;omega
       rw[abq]at q1 q4 q5;rw[Nat.add_sub_add_right]at q4;simp only[dS]at q1 q4 q7;rw[<- bM]at q1 q4
       have GM:(pt[k]' aa).tail=[]:=by
        have:=q6;rw[IN aa]at this;rw[AI this];rfl
       have VH:=eq_true (And.intro q2 q3);have VI:=eq_true q2;have VJ:=eq_true q3
       have Sa:k < l0.length+1:=aa
       have qf:=(Aq fw (Aq @fy (Aq @hk (Aq @bw (Aq @jB (Aq @EM (Aq @hle (Aq @Se (Aq @q1 (Aq @VH (Aq @VI (Aq @VJ @q4))))))))))));refine gh [0,2,3,5] [501,502,503,504] ?_;refine C1 (aw _) ag ag fun K' ai=>?_;(repeat refine fm fun Kq ae=>?_;simp[ab,dS,fT,iF,q5,q6,q7,GM,Sa];(repeat refine⟨aa,?_⟩);refine ae _ ?_);refine kW (ai _ ?_);(try simp only[bY,b9]);refine cM _ ?_;refine aY.fo (cy rfl) (by simp[ab,dS,fT,iF,q9,q7,GM]) (by simp[ab,dS,fT,iF,q9,q7,GM])
     .obtain rfl:k=l0.length:=aa
      rw[if_neg (fun ⟨h,_⟩=>de h),abo,List.drop_length]at rR;have qf:=(Aq fw @de);refine gh [0,2,3,5,52] [501,502,503,504] ?_;refine aD (rg [0,2,3,5] [501,502,503,504] (cy rfl) fun K' ai=>?_);(repeat refine aq fun Kq ae=>?_;simp[ab,dS,fT,iF,sh];(repeat refine⟨aa,?_⟩);refine ae _ ?_);refine aZ (ai _ (AW.st (by simp[ab,dS,fT,iF,sh];rfl) ?_))
      have jB:¬ (l0.length:Int)=(l0.length:Int)+1:=aa
      have EM:¬ (l0.length:Int)+1=0:=aa
      have q8:(l0.map fun s=>[dS s]) ++ [[dS nm]]=p5.map fun s=>[dS s]:=by rw[rR];simp
      have q9:p5.length=l0.length+1:=by rw[rR];simp
      simp only[dS]at q8;have qf:=(Aq fw (Aq @jB (Aq @EM (Aq @D.one.eq_1 (Aq @D.one.eq_2 (Aq @D.one.eq_3 @D.one.eq_4))))));refine gh [0,2,3,5] [501,502,503,504] ?_;refine C1 (aw _) ag ag fun K' ai=>?_;(repeat refine fm fun Kq ae=>?_;simp[ab,dS,fT,iF];(repeat refine⟨aa,?_⟩);refine ae _ ?_);refine kW (ai _ ?_);(try simp only[bY,b9]);refine cM _ ?_;refine aY.fo (cy rfl) (by simp[ab,dS,fT,iF,q9,q8]) (by simp[ab,dS,fT,iF,q9,q8])
  .simp only[ace]at gM;refine af fw [3,74,75,76] [501,502,503,504] ?_;refine eD (S:=Nat) (fun i=>i<=l.length) (fun i=>⟨bl [(3,.ref 504 0 0),(74,.d (.sl kk (l.map fun x=>[dR x]))),(75,int l.length),(76,int i)],au (fT all (kS p5 (gu all (l.take i))))⟩) (fun i=>l.length - i) 0 ?_ aa ?_
   .refine aY.fo (cy rfl) (by simp[ab,dS,fT,iF,gu,Ks]) (by simp[ab,dS,fT,iF,gu,Ks])
   .intro i hi;refine af fw [3,74,75,76,77] [501,502,503,504] ?_;refine ah fun K4 cF=>ga (b:=i < l.length) (by simp[D.le,D.le.go,aL,ab,dS,fT,iF]) (fun hc=>?_) (fun hc=>?_)
    .have dG:i < l.length:=hc;have h1:=Gr all dG;have h2:=zn all (l.take i);have h3:=Dp dG;have h4:=FI (gu all (l.take i)) p5;have cA:=gM _ (aa6 dG) (kS p5 (gu all (l.take i))) aa;rw[<- Kp,<- h1]at cA;have hf:=mz l[i];rw[hf]at cA;refine ax (cF _ (ah fun K5 cI=>bd ?_));have qf:=(Aq fw (Aq @dG @hf));refine aC [3,7,74,75,76] [501,502,503,504] ?_;refine ea (aw _) fun K' ai=>?_;(repeat refine aq fun Kq ae=>?_;simp[ab,dS,fT,iF];(repeat refine⟨aa,?_⟩);refine ae _ ?_);refine aq fun Kq ae=>?_;simp[ab,dS,fT,iF];refine ch.mc (cA) ?_ ?_ ?_ ?_ ?_<;>simp[ab,dS,fT,iF];refine ae _ ?_;(repeat refine aq fun Kq ae=>?_;simp[ab,dS,fT,iF];(repeat refine⟨aa,?_⟩);refine ae _ ?_);refine aZ (ai _ ?_);refine cI _ (AW.norm [3,74,75,76] [501,502,503,504] (cy rfl) (AW.st (by simp[ab,dS,fT,iF];rfl) ?_));refine fe fw ?_;(try simp only[bY,b9]);refine cC.mk (i+1) aa aa ?_;refine bL fw
    .obtain rfl:i=l.length:=aa
     refine cX ?_;simp[D.le_refl,abo,fT,iF,dS]
theorem US (G:aF) (hM:nh G) (all:Bool) (e:Ex) (hb:bE e<=2^28):aH prog G 185 [dR e,dS (oN all)] (.sl none ((iQ all e).map fun s=>[dS s])):=by
 have hw:=WG G hM all _ e (aa8 _) [] (by simp;omega);have jS:=Tn all e;rw[jS]at hw;simp only[ace]at hw;generalize iQ all e=l at hw ⊢;clear jS;rw[mz]at hw ⊢;refine aH.aU (aw _) func185 rfl rfl (rs:=[.tmp 4]) results185 (by simp[ntmps185]) fun X=>?_;simp only[ntmps185,List.map];have fw:=(Aq @acC (Aq @acB (Aq @fT.eq_1 @iF.eq_1)));refine af fw [0,3] [3] ?_;refine af fw [0,3,5] [3,5] ?_;refine af fw [0,3,5,6] [3,5,6] ?_;refine af fw [0,5,6] [3,5,6] ?_;refine AW.imp (aY.dT (r:=3) (r':=501) trivial al) ?_;refine AW.st (by simp[fR,fQ,Go.Av.dT,w7];rfl) ?_;refine AW.imp (aY.dT (r:=5) (r':=502) trivial al) ?_;refine AW.st (by simp[fR,fQ,Go.Av.dT,w7];rfl) ?_;refine AW.imp (aY.dT (r:=6) (r':=504) trivial al) ?_;refine AW.st (by simp[fR,fQ,Go.Av.dT,w7];rfl) ?_;refine AW.imp (aY.n7 502 0 503 9 1 rfl rfl rfl) ?_;refine AW.imp (τ:=⟨bl [(0,.d (.ip [dS (dt e),dS (oP e),qI e])),(5,.ref 502 0 0),(6,.ref 504 0 0)],au (fT all [])⟩) ?_ ?_
 .refine bL (Aq fw (Aq @fT.eq_1 @iF.eq_1))
 refine bA fw hw [5] [502,503] ?_;refine af (Aq fw (Aq @fT.eq_1 @iF.eq_1)) [4] [502,503] ?_;have da:List.take l.length (l.map fun s=>[dS s])=l.map fun s=>[dS s]:=sh al;simp only[dS]at da;refine AW.imp (aY.freeze 503 trivial) ?_;refine AW.st (by simp[ab,dS,fT,iF,da];rfl) ?_;exact bg (Aq fw @da)
theorem Wi (G:aF) (hM:nh G) (e:Ex) (hb:bE e<=2^28):aH prog G 109 [dR e] (.sl none ((iQ true e).map fun s=>[dS s])):=by
 have hs:=US G hM true e hb;rw[mz]at hs ⊢;generalize iQ true e=l at hs ⊢;have hk:dS (oN true) = .v (.string ⟨#[98,105,116,94,126]⟩):=rfl;rw[hk]at hs;refine aH.aU (aw _) func109 rfl rfl (rs:=[.tmp 2]) results109 (by simp[ntmps109]) fun X=>?_;simp only[ntmps109,List.map];have fw:=(Aq @acC (Aq @acB (Aq @fT.eq_1 @iF.eq_1)));refine af fw [0] [] ?_;refine bB fw hs [2] [] ?_;exact bg fw
theorem OQ (p:dJ) (i:Nat) (hi:i < p.names.length):l4 p i p.names[i]=if !pq p.names[i].name then 5 else if !(decide (1<=p.names[i].kind) && decide (p.names[i].kind<=4)) then 1 else if (decide (p.names[i].kind >= 3) && !(decide (1<=p.names[i].count) && decide (p.names[i].count<=7))) || (decide (p.names[i].kind < 3) && decide (p.names[i].count≠0)) then 2 else if dy p p.names[i].name≠i then 9 else 0:=by
 rw[<- OP p i hi,Dr,Lo]
theorem Ia (p:dJ) (k:Int) (s:Tx) (e:Ex):kC p ⟨k,s,some e⟩=if !(decide (1<=k) && decide (k<=6)) then 1 else if dy p s < 0 then 7 else if !decide (jw k=(p.names.getD (dy p s).toNat ⟨[],0,0⟩).kind) then 1 else if (iQ true e).any fun s=>decide (dy p s < 0) then 7 else 0:=by
 have h:(decide (k < 1) || decide (k > 6)) = !(decide (1<=k) && decide (k<=6)):=by
  by_cases h1:1<=k<;>by_cases h2:k<=6<;>simp[h1,h2]<;>omega
 show (if decide (k < 1) || decide (k > 6) then (1:Int) else _)=_;rw[h];simp only[Bool.not_eq_true',decide_eq_false_iff_not,ne_eq]
theorem acU:type_of% (Aq @acD (Aq @acE (Aq @acF (Aq @acG (Aq @acH @acC))))):=(Aq @acD (Aq @acE (Aq @acF (Aq @acG (Aq @acH @acC)))))
theorem Uh (G:aF) (hF:tS G) (hM:nh G) (p:dJ) (hp:Aa p):aH prog G 177 [fq p] (dv (gJ p)):=by
 unfold tS at hF;obtain⟨dX,fO,uG,Em⟩:=hp
 have uJ:gJ p=if p.names.length > 12\/p.ao.length > 40 then some (4,none) else match l6 (l4 p) p.names 0 with
  | some (e,i)=>some (e,some i)
  | none=>match l6 (fun _ r=>kC p r) p.ao 0 with
   | some (e,i)=>some (e,some (p.names.length+i))
   | none=>none:=rfl
 generalize iO:gJ p=res;rw[uJ]at iO;have dw:=fun s=>ZC G p dX s;have Ef:=Ds G 4;simp only[fq,gX,ey,dS]at dw ⊢;simp only[ab]at hF Ef;refine aH.aU (aw _) func177 rfl rfl (rs:=[.cell 2 52]) results177 (by simp[ntmps177]) fun X=>?_;simp only[ntmps177,List.map];refine aO [1,2] [1,2] ?_;refine fF 1 ?_;refine ah fun K1 aI=>?_;by_cases g0:(p.names.length:Int) > 12
 .rw[if_pos (.inl aa)]at iO;have qf:=@g0;refine aC [1,2,20] [2] ?_;refine aD (bB trivial Ef [2] [2] ?_);refine bt ?_;simp[D.le,D.le.go,aL];simp[<- iO,dv,codeF,cr,ab,D.le,D.le.go]
 by_cases g1:(p.ao.length:Int) > 40
 .rw[if_pos (.inr aa)]at iO;have qf:=(Aq @g0 @g1);refine aC [1,2,20] [2] ?_;refine aD (bB trivial Ef [2] [2] ?_);refine bt ?_;simp[D.le,D.le.go,aL];simp[<- iO,dv,codeF,cr,ab,D.le,D.le.go]
 rw[if_neg aa]at iO;have qf:=(Aq @g0 @g1);refine aC [1,2,20] [2] ?_;refine aj (ax (aI _ ?_));refine ah fun K2 ak=>aO [1,2,23,24,25] [2] ?_;refine eD (S:=Nat) (fun n=>n<=p.names.length/\∀ k (hk:k < p.names.length),k < n->l4 p k p.names[k]=0) (fun n=>⟨bl [(1,.d (.ip [.sl none (p.names.map bH),.sl none (p.ao.map dV)])),(2,.ref 2 0 0),(23,.d (.sl none (p.names.map bH))),(24,int p.names.length),(25,int n)],au [(2,.box 52 [int 0,int 0])]⟩) (fun n=>p.names.length - n) 0 ?_ al ?_
 .refine ko
 .rintro n ⟨hn,hb⟩;refine aO [1,2,23,24,25,26] [2] ?_;refine ah fun K3 bF=>ga (b:=n < p.names.length) (by simp[D.le,D.le.go,aL]) (fun hc=>?_) (fun hc=>?_)
  .have bf:=hc
   have cM:l4 p n p.names[n]≠0->res=some (l4 p n p.names[n],some n):=fun bw=>by
    rw[<- iO,xN (i:=0) bf (fun k hk me=>by rw[abe];exact hb k hk me) (by rw[abe];exact bw)];simp
   have jS:=uG _ (aa6 bf);have gm:bH p.names[n]=[dS p.names[n].name,.v (.int .i64 p.names[n].kind),.v (.int .i64 p.names[n].count)]:=rfl;have cj:=OQ p n bf;have kc:=Lr G p.names[n].name jS;generalize hv:l4 p n p.names[n]=v at cj cM;generalize p.names[n].name=nm at jS gm cj kc;generalize p.names[n].kind=kd at gm cj;generalize p.names[n].count=ct at gm cj;have uH:=dw nm;have hU:=Ho G kd 1 4;have mh:=Ho G ct 1 7;simp only[dS]at gm kc;simp only[ab]at hU mh;generalize pq nm=nf at kc cj;generalize mM:(decide (1<=kd) && decide (kd<=4))=q1 at hU cj;generalize mN:(decide (1<=ct) && decide (ct<=7))=q2 at mh cj;refine ax (bF _ (ah fun K4 cF=>bd ?_));have qf:=(Aq @bf @gm);refine aC [1,2,3,4,23,24,25] [2,4] ?_;refine fF 4 ?_;refine ah fun K5 cI=>bB trivial kc [1,2,3,4,23,24,25,33] [2] ?_
   cases nf with
   | false=>
    rw[if_pos al]at cj;have hr:=cM (by rw[cj];decide);rw[cj]at hr;refine aD (aO [2] [2] ?_);exact bg (Aq @hr acU)
   | true=>
    rw[if_neg bh]at cj;refine aj (ax (cI _ ?_));refine ah fun K6 fN=>bB trivial hU [1,2,3,4,23,24,25,39] [2] ?_
    cases q1 with
    | false=>
     rw[if_pos al]at cj;have hr:=cM (by rw[cj];decide);rw[cj]at hr;refine aD (aO [2] [2] ?_);exact bg (Aq @hr acU)
    | true=>
     rw[if_neg bh]at cj;refine aj (ax (fN _ ?_));refine ah fun K7 eF=>?_;by_cases k3:kd >= 3
     .have iY:¬ kd < 3:=aa
      cases q2 with
      | false=>
       have qf:=(Aq @k3 @iY);refine eC mh [1,2,3,4,23,24,25,60] [2] ?_;rw[if_pos (by simp[k3])]at cj;have hr:=cM (by rw[cj];decide);rw[cj]at hr;refine aD (aO [2] [2] ?_);exact bg (Aq @hr acU)
      | true=>
       rw[if_neg (by simp[iY])]at cj;have qf:=(Aq @k3 @iY);refine eC mh [1,2,3,4,23,24,25,60] [2] ?_;refine aj (ax (eF _ ?_));refine bB trivial uH [1,2,3,23,24,25,68] [2] ?_;by_cases c9:dy p nm=n
       .rw[if_neg (by simp[c9])]at cj;refine gW (by simp[c9]) (ax (cF _ ?_));refine fK ?_;(try simp only[bY,b9]);refine cC.mk (n+1) ⟨aa,fun k hk me=>?_⟩ aa ?_
        .by_cases h:k=n
         .subst h;rw[hv,cj]
         .exact hb k hk aa
        refine ko
       .rw[if_pos c9]at cj;have hr:=cM (by rw[cj];decide);rw[cj]at hr;refine eJ (by simp[c9]) (aO [2] [2] ?_);exact bg (Aq @hr acU)
     .have iY:kd < 3:=aa
      by_cases c0:ct=0
      .rw[if_neg (by simp[k3,c0])]at cj;have qf:=(Aq @k3 (Aq @iY @c0));refine aC [1,2,3,4,23,24,25,60] [2] ?_;refine aj (ax (eF _ ?_));refine bB trivial uH [1,2,3,23,24,25,68] [2] ?_;by_cases c9:dy p nm=n
       .rw[if_neg (by simp[c9])]at cj;refine gW (by simp[c9]) (ax (cF _ ?_));refine fK ?_;(try simp only[bY,b9]);refine cC.mk (n+1) ⟨aa,fun k hk me=>?_⟩ aa ?_
        .by_cases h:k=n
         .subst h;rw[hv,cj]
         .exact hb k hk aa
        refine ko
       .rw[if_pos c9]at cj;have hr:=cM (by rw[cj];decide);rw[cj]at hr;refine eJ (by simp[c9]) (aO [2] [2] ?_);exact bg (Aq @hr acU)
      .have qf:=(Aq @k3 (Aq @iY @c0));refine aC [1,2,3,4,23,24,25,60] [2] ?_;rw[if_pos (by simp[iY,c0])]at cj;have hr:=cM (by rw[cj];decide);rw[cj]at hr;refine aD (aO [2] [2] ?_);exact bg (Aq @hr acU)
  .rw[xP fun k hk=>by rw[abe];exact hb k hk aa]at iO;dsimp only at iO;refine cX (ak _ (ah fun K8 eg=>aO [1,2,73,74,75] [2] ?_));refine eD (S:=Nat) (fun n=>n<=p.ao.length/\∀ k (hk:k < p.ao.length),k < n->kC p p.ao[k]=0) (fun n=>⟨bl [(1,.d (.ip [.sl none (p.names.map bH),.sl none (p.ao.map dV)])),(2,.ref 2 0 0),(73,.d (.sl none (p.ao.map dV))),(74,int p.ao.length),(75,int n)],au [(2,.box 52 [int 0,int 0])]⟩) (fun n=>p.ao.length - n) 0 ?_ al ?_
   .refine ko
   .rintro n ⟨hn,hb⟩;refine aO [1,2,73,74,75,76] [2] ?_;refine ah fun K9 gd=>ga (b:=n < p.ao.length) (by simp[D.le,D.le.go,aL]) (fun hc=>?_) (fun hc=>?_)
    .have bf:=hc
     have cM:kC p p.ao[n]≠0->res=some (kC p p.ao[n],some (p.names.length+n)):=fun bw=>by
      rw[<- iO,xN (i:=0) bf (fun k hk me=>hb k hk me) bw];simp
     have En:=Em p.ao[n] (aa6 bf);obtain⟨⟨kd,nm,cd⟩,oI⟩:∃ r,p.ao[n]=r:=⟨_,rfl⟩
     have hzero:kC p ⟨kd,nm,cd⟩=0->∀ k (hk:k < p.ao.length),k < n+1->kC p p.ao[k]=0:=fun h0 k hk me=>by
      by_cases h:k=n
      .subst h;rw[oI];exact h0
      .exact hb k hk aa
     rw[oI]at cM En
     have gm:dV p.ao[n]=[.v (.int .i64 kd),dS nm,kZ cd]:=by rw[oI];rfl
     dsimp only at En;obtain⟨v,hv⟩:∃ v,kC p ⟨kd,nm,cd⟩=v:=⟨_,rfl⟩;rw[hv]at cM hzero;have cj:=hv.symm;have hU:=Ho G kd 1 6;have uH:=dw nm;simp only[dS]at gm;simp only[ab]at hU;refine ax (gd _ (ah fun ky gb=>bd ?_))
     have cR:(p.names.length:Int)+n < 2^63:=aa
     cases cd with
     | none=>
      have fi:v=1:=cj;have hr:=cM (by rw[fi];decide);rw[fi]at hr;simp only[kZ]at gm;generalize mM:(decide (1<=kd) && decide (kd<=6))=q1 at hU;have qf:=(Aq @bf @gm);refine aC [1,2,5,6,73,74,75] [2,6] ?_;refine fF 6 ?_;refine aO [1,2,6,7,73,74,75] [2] ?_;refine ah fun xl qm=>?_
      cases q1 with
      | false=>
       refine bB trivial hU [1,2,6,7,73,74,75,93] [2] ?_;refine aD (aO [2] [2] ?_);exact bg (Aq @hr acU)
      | true=>
       refine bB trivial hU [1,2,6,7,73,74,75,93] [2] ?_;refine aD (aO [2] [2] ?_);exact bg (Aq @hr acU)
     | some e=>
      obtain⟨sM,Sq⟩:=En e rfl;rw[Ia]at cj;have rQ:=Wi G hM e sM;simp only[kZ]at gm;obtain⟨ec,Eu⟩:∃ c,dR e = .ip c:=⟨_,mz e⟩;rw[Eu]at gm rQ;generalize iQ true e=ne at rQ Sq cj;simp only[dS]at rQ;generalize mM:(decide (1<=kd) && decide (kd<=6))=q1 at hU cj;have qf:=(Aq @bf @gm);refine aC [1,2,5,6,73,74,75] [2,6] ?_;refine fF 6 ?_;refine aO [1,2,6,7,73,74,75] [2] ?_;refine ah fun xl qm=>?_
      cases q1 with
      | false=>
       refine bB trivial hU [1,2,6,7,73,74,75,93] [2] ?_;rw[if_pos al]at cj;have hr:=cM (by rw[cj];decide);rw[cj]at hr;refine aD (aO [2] [2] ?_);exact bg (Aq @hr acU)
      | true=>
       rw[if_neg bh]at cj
       have dr:1<=kd/\kd<=6:=by simpa using mM
       refine bB trivial hU [1,2,6,7,73,74,75,93] [2] ?_;refine aj (ax (qm _ ?_));refine bB trivial uH [1,2,6,7,8,73,74,75] [2] ?_;refine ah fun zX qn=>aO [1,2,6,7,8,73,74,75,101] [2] ?_;by_cases c7:dy p nm < 0
       .rw[if_pos c7]at cj;have hr:=cM (by rw[cj];decide);rw[cj]at hr;refine eJ (by simp[c7]) (aO [2] [2] ?_);exact bg (Aq @hr acU)
       rw[if_neg c7]at cj;obtain⟨k,hk,sS⟩:=Ly c7
       have oD:p.names.getD (dy p nm).toNat ⟨[],0,0⟩=p.names[k]:=by
        rw[sS,ab0,aa5,IN hk];rfl
       rw[oD]at cj;refine gW (by simp[c7]) (ax (qn _ ?_));refine ah fun zY rv=>?_;have ow:bH p.names[k]=[dS p.names[k].name,.v (.int .i64 p.names[k].kind),.v (.int .i64 p.names[k].count)]:=rfl;generalize mJ:p.names[k].kind=kk at cj ow;rw[sS]
       refine' s7 (fun bO=>?_) ?_
       rotate_left
       .by_cases k1:kd=1
        .refine vo (aw _) ag ([0]) (List.range 13) [1,2,6,7,73,74,75,116] [2] aT ag fun K' ai=>?_;(repeat refine sg rfl fun K2 ak=>?_;simp[k1,hk,ow];(repeat refine⟨aa,?_⟩);refine ak _ ?_;clear ak K2);refine vf (ai _ ?_);refine AW.st (by simp[k1,hk,ow];rfl) ?_;refine AW.st (show _=(⟨bl [(1,.d (.ip [.sl none (p.names.map bH),.sl none (p.ao.map dV)])),(2,.ref 2 0 0),(6,.d (.ip [.v (.int .i64 kd),.v (.string (bs nm)),.ip ec])),(7,int ((p.names.length:Int)+n)),(73,.d (.sl none (p.ao.map dV))),(74,int p.ao.length),(75,int n),(116,.d (.v (.bool (!decide (jw kd=kk)))))],au [(2,.box 52 [int 0,int 0])]⟩:St) by rw[k1,show jw 1=2 from rfl]<;>rfl) ?_;exact bO.out
        by_cases k2:kd=2
        .refine vo (aw _) ag ([0]) (List.range 13) [1,2,6,7,73,74,75,116] [2] aT ag fun K' ai=>?_;(repeat refine sg rfl fun K2 ak=>?_;simp[k2,hk,ow];(repeat refine⟨aa,?_⟩);refine ak _ ?_;clear ak K2);refine vf (ai _ ?_);refine AW.st (by simp[k2,hk,ow];rfl) ?_;refine AW.st (show _=(⟨bl [(1,.d (.ip [.sl none (p.names.map bH),.sl none (p.ao.map dV)])),(2,.ref 2 0 0),(6,.d (.ip [.v (.int .i64 kd),.v (.string (bs nm)),.ip ec])),(7,int ((p.names.length:Int)+n)),(73,.d (.sl none (p.ao.map dV))),(74,int p.ao.length),(75,int n),(116,.d (.v (.bool (!decide (jw kd=kk)))))],au [(2,.box 52 [int 0,int 0])]⟩:St) by rw[k2,show jw 2=2 from rfl]<;>rfl) ?_;exact bO.out
        by_cases k3:kd=3
        .refine vo (aw _) ag ([0]) (List.range 13) [1,2,6,7,73,74,75,116] [2] aT ag fun K' ai=>?_;(repeat refine sg rfl fun K2 ak=>?_;simp[k3,hk,ow];(repeat refine⟨aa,?_⟩);refine ak _ ?_;clear ak K2);refine vf (ai _ ?_);refine AW.st (by simp[k3,hk,ow];rfl) ?_;refine AW.st (show _=(⟨bl [(1,.d (.ip [.sl none (p.names.map bH),.sl none (p.ao.map dV)])),(2,.ref 2 0 0),(6,.d (.ip [.v (.int .i64 kd),.v (.string (bs nm)),.ip ec])),(7,int ((p.names.length:Int)+n)),(73,.d (.sl none (p.ao.map dV))),(74,int p.ao.length),(75,int n),(116,.d (.v (.bool (!decide (jw kd=kk)))))],au [(2,.box 52 [int 0,int 0])]⟩:St) by rw[k3,show jw 3=2 from rfl]<;>rfl) ?_;exact bO.out
        by_cases k4:kd=4
        .refine vo (aw _) ag ([0]) (List.range 13) [1,2,6,7,73,74,75,116] [2] aT ag fun K' ai=>?_;(repeat refine sg rfl fun K2 ak=>?_;simp[k4,hk,ow];(repeat refine⟨aa,?_⟩);refine ak _ ?_;clear ak K2);refine vf (ai _ ?_);refine AW.st (by simp[k4,hk,ow];rfl) ?_;refine AW.st (show _=(⟨bl [(1,.d (.ip [.sl none (p.names.map bH),.sl none (p.ao.map dV)])),(2,.ref 2 0 0),(6,.d (.ip [.v (.int .i64 kd),.v (.string (bs nm)),.ip ec])),(7,int ((p.names.length:Int)+n)),(73,.d (.sl none (p.ao.map dV))),(74,int p.ao.length),(75,int n),(116,.d (.v (.bool (!decide (jw kd=kk)))))],au [(2,.box 52 [int 0,int 0])]⟩:St) by rw[k4,show jw 4=3 from rfl]<;>rfl) ?_;exact bO.out
        by_cases k5:kd=5
        .refine vo (aw _) ag ([0]) (List.range 13) [1,2,6,7,73,74,75,116] [2] aT ag fun K' ai=>?_;(repeat refine sg rfl fun K2 ak=>?_;simp[k5,hk,ow];(repeat refine⟨aa,?_⟩);refine ak _ ?_;clear ak K2);refine vf (ai _ ?_);refine AW.st (by simp[k5,hk,ow];rfl) ?_;refine AW.st (show _=(⟨bl [(1,.d (.ip [.sl none (p.names.map bH),.sl none (p.ao.map dV)])),(2,.ref 2 0 0),(6,.d (.ip [.v (.int .i64 kd),.v (.string (bs nm)),.ip ec])),(7,int ((p.names.length:Int)+n)),(73,.d (.sl none (p.ao.map dV))),(74,int p.ao.length),(75,int n),(116,.d (.v (.bool (!decide (jw kd=kk)))))],au [(2,.box 52 [int 0,int 0])]⟩:St) by rw[k5,show jw 5=4 from rfl]<;>rfl) ?_;exact bO.out
        have k6:kd=6:=aa
        refine vo (aw _) ag ([0]) (List.range 13) [1,2,6,7,73,74,75,116] [2] aT ag fun K' ai=>?_;(repeat refine sg rfl fun K2 ak=>?_;simp[k6,hk,ow];(repeat refine⟨aa,?_⟩);refine ak _ ?_;clear ak K2);refine vf (ai _ ?_);refine AW.st (by simp[k6,hk,ow];rfl) ?_;refine AW.st (show _=(⟨bl [(1,.d (.ip [.sl none (p.names.map bH),.sl none (p.ao.map dV)])),(2,.ref 2 0 0),(6,.d (.ip [.v (.int .i64 kd),.v (.string (bs nm)),.ip ec])),(7,int ((p.names.length:Int)+n)),(73,.d (.sl none (p.ao.map dV))),(74,int p.ao.length),(75,int n),(116,.d (.v (.bool (!decide (jw kd=kk)))))],au [(2,.box 52 [int 0,int 0])]⟩:St) by rw[k6,show jw 6=4 from rfl]<;>rfl) ?_;exact bO.out
       .generalize hwk:(!decide (jw kd=kk))=wk at cj
        cases wk with
        | true=>
         rw[if_pos rfl]at cj;have hr:=cM (by rw[cj];decide);rw[cj]at hr;refine aD (aO [2] [2] ?_);exact bg (Aq @hr acU)
        | false=>
         rw[if_neg bh]at cj;refine aj (ax (rv _ ?_));refine bB trivial rQ [1,2,7,73,74,75,121,122,123] [2] ?_;refine eD (S:=Nat) (fun m=>m<=ne.length/\∀ j (hj:j < ne.length),j < m->¬ dy p ne[j] < 0) (fun m=>⟨bl [(1,.d (.ip [.sl none (p.names.map bH),.sl none (p.ao.map dV)])),(2,.ref 2 0 0),(7,int ((p.names.length:Int)+n)),(73,.d (.sl none (p.ao.map dV))),(74,int p.ao.length),(75,int n),(121,.d (.sl none (ne.map fun s=>[.v (.string (bs s))]))),(122,int ne.length),(123,int m)],au [(2,.box 52 [int 0,int 0])]⟩) (fun m=>ne.length - m) 0 ?_ al ?_
         .refine ko
         .rintro m ⟨hm,hj⟩;refine aO [1,2,7,73,74,75,121,122,123,124] [2] ?_;refine ah fun xm ry=>ga (b:=m < ne.length) (by simp[D.le,D.le.go,aL]) (fun hc=>?_) (fun hc=>?_)
          .have JV:=hc;have Su:=dw ne[m]
           have Q0:dy p ne[m] < 0->v=7:=fun h=>by
            rw[cj,if_pos (List.any_eq_true.2 ⟨_,aa6 JV,by simpa using h⟩)]
           have uF:¬ dy p ne[m] < 0->∀ j (h:j < ne.length),j < m+1->¬ dy p ne[j] < 0:=fun h0 j h JK=>by
            by_cases he:j=m
            .subst he;exact h0
            .exact hj j h aa
           refine ax (ry _ (ah fun zZ pB=>bd ?_));have qf:=@JV;refine aC [1,2,7,10,73,74,75,121,122,123] [2] ?_;refine bB trivial Su [1,2,7,73,74,75,121,122,123,130] [2] ?_;by_cases Ap:dy p ne[m] < 0
           .have Ju:=Q0 Ap;have hr:=cM (by rw[Ju];decide);rw[Ju]at hr;refine eJ (by simp[Ap]) (aO [2] [2] ?_);exact bg (Aq @hr acU)
           .refine gW (by simp[Ap]) (ax (pB _ ?_));refine fK ?_;(try simp only[bY,b9]);refine cC.mk (m+1) ⟨aa,uF Ap⟩ aa ?_;refine ko
          .have vX:(ne.any fun s=>decide (dy p s < 0))=false:=by
            rw[List.any_eq_false];intro s hs;obtain⟨j,j9,rfl⟩:=abv.1 hs;simpa using hj j j9 aa
           rw[vX,if_neg bh]at cj;refine cX (gb _ (fK ?_));(try simp only[bY,b9]);refine cC.mk (n+1) ⟨aa,hzero cj⟩ aa ?_;refine ko
    .rw[xP fun k hk=>hb k hk aa]at iO;refine cX (eg _ ?_);have qf:=@hF;refine aC [2] [2] ?_;refine bt ?_;simp[D.le,D.le.go,aL];simp[<- iO,dv,codeF,cr,ab,D.le,D.le.go]
theorem It {p:dJ} (h:gJ p=none):∀ r∈p.ao,(1<=r.kind/\r.kind<=6)/\¬ dy p r.name < 0/\∃ e,r.cond=some e/\∀ s∈iQ true e,¬ dy p s < 0:=fun r hr=>by
 unfold gJ at h;split at h
 .cases h
 split at h
 .cases h
 split at h
 .cases h
 rename_i hB;obtain⟨k,hk,rfl⟩:=abv.1 hr;have h0:=DW hB k hk;generalize p.ao[k]=r at h0;obtain⟨kd,nm,cd⟩:=r
 cases cd with
 | none=>cases (show (1:Int)=0 from h0)
 | some e=>
  rw[Ia]at h0;split at h0
  .cases h0
  rename_i h1;split at h0
  .cases h0
  rename_i h2;split at h0
  .cases h0
  split at h0
  .cases h0
  rename_i h4;refine⟨by simpa using h1,h2,e,rfl,fun s hs hn=>h4 ?_⟩;exact List.any_eq_true.2 ⟨s,hs,by simpa using hn⟩
theorem Ld (G:aF) (k0:Option Bool) (t:List (List UInt8)) (s:List UInt8) (hs:s≠[]) (ht:t.length < 2^60):aH prog G 175 [.sl k0 (t.map fun x=>[dS x]),dS s] (ab (idx (fun x=>x == s) t)):=by
 have gF:s.isEmpty=false:=by rw[ab9];exact hs
 refine aH.aU (aw _) func175 rfl rfl (rs:=[.tmp 4]) results175 (by simp[ntmps175]) fun X=>?_;simp only[ntmps175,List.map];have fw:=@acC;refine af fw [0,1] [] ?_;refine ah fun K1 aI=>af fw [1,7,8,9] [] ?_;refine eD (S:=Nat) (fun n=>n<=t.length/\∀ i (hi:i < t.length),i < n->(t[i] == s)=false) (fun n=>⟨bl [(1,.d (dS s)),(7,.d (.sl k0 (t.map fun x=>[dS x]))),(8,int t.length),(9,int n)],au []⟩) (fun n=>t.length - n) 0 ?_ al ?_
 .refine bL fw
 .rintro n ⟨hn,hp⟩;refine af fw [1,7,8,9,10] [] ?_;refine ah fun K2 ak=>ga (b:=n < t.length) (by simp[D.le,D.le.go,aL,ab]) (fun hc=>?_) (fun hc=>?_)
  .have mf:n < t.length:=hc;refine ax (ak _ (ah fun K3 bF=>bd ?_));have qf:=(Aq fw @mf);refine aC [1,5,6,7,8,9] [] ?_
   cases he:(t[n] == s) with
   | true=>
    have o3:t[n]=s:=by simpa using he
    refine rg [1,5,7,8,9,20] [] aT fun K' ai=>?_;(repeat refine aq fun Kq ae=>?_;simp[ab,dS,o3,ay,bM,aJ,hs,gF];(repeat refine⟨aa,?_⟩);refine ae _ ?_);refine aZ (ai _ (AW.st (by simp[ab,dS,o3,ay,bM,aJ,hs,gF];rfl) ?_));refine aD (af fw [4] [] ?_);refine bt ?_;simp[D.le,D.le.go,aL,ab];exact (y7 mf he fun i hi=>hp i aa hi).symm
   | false=>
    have o3:¬ t[n]=s:=by simpa using he
    refine rg [1,5,7,8,9,20] [] aT fun K' ai=>?_;(repeat refine aq fun Kq ae=>?_;simp[ab,dS,he,o3,ay,bM,aJ];(repeat refine⟨aa,?_⟩);refine ae _ ?_);refine aZ (ai _ (AW.st (by simp[ab,dS,he,o3,ay,bM,aJ];rfl) ?_));refine aj (ax ?_);refine bF _ (AW.norm [1,7,8,9] [] aT (AW.st (by simp[ab];rfl) ?_));refine fe fw ?_;(try simp only[bY,b9]);refine cC.mk (n+1) ⟨aa,fun i hi bn=>?_⟩ aa ?_
    .by_cases h:i=n
     .subst h;exact he
     .exact hp i hi aa
    refine bL (Aq fw @acB)
  .refine cX (aI _ (af fw [4] [] ?_));refine bt ?_;simp[D.le,D.le.go,aL,ab];exact (y8 fun i hi=>hp i hi aa).symm
def vt (G:aF):Prop:=G 2=some (.ip [.sl none [[.v (.string (bs []))],[.v (.string (bs [105,110,112,117,116]))],[.v (.string (bs [99,111,105,108]))],[.v (.string (bs [116,105,109,101,114]))],[.v (.string (bs [99,111,117,110,116,101,114]))]]])
def vu (G:aF):Prop:=G 3=some (.ip [.sl none [[.v (.string (bs []))],[.v (.string (bs []))],[.v (.string (bs [115,101,116]))],[.v (.string (bs [114,101,115,101,116]))],[.v (.string (bs [114,117,110]))],[.v (.string (bs [99,111,117,110,116]))],[.v (.string (bs [122,101,114,111]))]]])
theorem adb:type_of% (Aq @js @aN):=(Aq @js @aN)
theorem VC (G:aF) (lI:vt G) (k7:vu G) (p:dJ) (hp:sv p):aH prog G 34 [fq p] (.v (.string (bs (zx p)))):=by
 unfold vt at lI;unfold vu at k7;have hT:zx p=jb p.names ++ iB p.ao:=rfl;have ⟨jS,Fl,dX,fO,_⟩:=hp;have hN:=Lq hp;have hR:=MV hp;simp only[fq,gX,ey];refine aH.aU (aw _) func34 rfl rfl (rs:=[.tmp 2]) results34 (by simp[ntmps34]) fun X=>?_;simp only[ntmps34,List.map];refine aO [1] [1] ?_;refine fF 1 ?_;have qf:=@bR;refine aC [1,3] [] ?_;refine ah fun K1 aI=>aO [1,3,9,10,11] [] ?_;refine eD (S:=Nat) (fun i=>i<=p.names.length) (fun i=>⟨bl [(1,.d (.ip [.sl none (p.names.map bH),.sl none (p.ao.map dV)])),(3,.d (.v (.string (bs (jb (p.names.take i)))))),(9,.d (.sl none (p.names.map bH))),(10,int p.names.length),(11,int i)],au []⟩) (fun i=>p.names.length - i) 0 ?_ al ?_
 .refine aY.fo aT (by simp[B3]) (by simp[B3])
 .intro i hi;have ET:=hN i;generalize o0:jb (p.names.take i)=cur at ET ⊢;refine aO [1,3,9,10,11,12] [] ?_;refine ah fun K2 ak=>ga (b:=i < p.names.length) (by simp[D.le,D.le.go,aL]) (fun hc=>?_) (fun hc=>?_)
  .have dG:=hc;obtain⟨dr,yf,E7⟩:=jS _ (aa6 dG)
   have ek:jb (p.names.take (i+1))=cur ++ pZ p.names[i]:=by rw[jb,AP dG,<- o0];rfl
   have mf:pZ p.names[i]=sO p.names[i].kind ++ p.names[i].name ++ (if 3<=p.names[i].kind then 32 :: qi p.names[i].count.toNat else []) ++ [10]:=rfl;have k8:bH p.names[i]=[.v (.string (bs p.names[i].name)),.v (.int .i64 p.names[i].kind),.v (.int .i64 p.names[i].count)]:=rfl;have tj:=Y5 G p.names[i].count yf;have iN:=AD (n:=p.names[i].count.toNat) aa;generalize pZ p.names[i]=nt at ek mf;generalize qi p.names[i].count.toNat=dj at tj iN mf;generalize p.names[i].name=nm at E7 mf k8;generalize p.names[i].kind=kd at dr mf k8;generalize p.names[i].count=ct at yf k8 tj;refine ax (ak _ (ah fun K3 bF=>bd ?_));have qf:=(Aq @dG @k8);refine aC [1,3,5,9,10,11] [5] ?_;refine fF 5 ?_;obtain⟨c1,c8⟩:∃ c,c=cur ++ (sO kd ++ nm):=⟨_,rfl⟩;have RS:=Et kd
   have Sd:c1.length<=2^20+2^10+8:=by rw[c8,abb,abb];omega
   refine' s7 (fun bO=>?_) ?_
   rotate_left
   .by_cases k1:kd=1
    .have qf:=(Aq @k1 (Aq @lI adb));refine gh [1,3,5,9,10,11] [] ?_;refine AW.st (show _=(⟨bl [(1,.d (.ip [.sl none (p.names.map bH),.sl none (p.ao.map dV)])),(3,.d (.v (.string (bs c1)))),(5,.d (.ip [.v (.string (bs nm)),.v (.int .i64 kd),.v (.int .i64 ct)])),(9,.d (.sl none (p.names.map bH))),(10,int p.names.length),(11,int i)],au []⟩:St) by rw[c8,k1]<;>rfl) ?_;exact bO.out
    by_cases k2:kd=2
    .have qf:=(Aq @k2 (Aq @lI adb));refine gh [1,3,5,9,10,11] [] ?_;refine AW.st (show _=(⟨bl [(1,.d (.ip [.sl none (p.names.map bH),.sl none (p.ao.map dV)])),(3,.d (.v (.string (bs c1)))),(5,.d (.ip [.v (.string (bs nm)),.v (.int .i64 kd),.v (.int .i64 ct)])),(9,.d (.sl none (p.names.map bH))),(10,int p.names.length),(11,int i)],au []⟩:St) by rw[c8,k2]<;>rfl) ?_;exact bO.out
    by_cases k3:kd=3
    .have qf:=(Aq @k3 (Aq @lI adb));refine gh [1,3,5,9,10,11] [] ?_;refine AW.st (show _=(⟨bl [(1,.d (.ip [.sl none (p.names.map bH),.sl none (p.ao.map dV)])),(3,.d (.v (.string (bs c1)))),(5,.d (.ip [.v (.string (bs nm)),.v (.int .i64 kd),.v (.int .i64 ct)])),(9,.d (.sl none (p.names.map bH))),(10,int p.names.length),(11,int i)],au []⟩:St) by rw[c8,k3]<;>rfl) ?_;exact bO.out
    have k4:kd=4:=aa
    have qf:=(Aq @k4 (Aq @lI adb));refine gh [1,3,5,9,10,11] [] ?_;refine AW.st (show _=(⟨bl [(1,.d (.ip [.sl none (p.names.map bH),.sl none (p.ao.map dV)])),(3,.d (.v (.string (bs c1)))),(5,.d (.ip [.v (.string (bs nm)),.v (.int .i64 kd),.v (.int .i64 ct)])),(9,.d (.sl none (p.names.map bH))),(10,int p.names.length),(11,int i)],au []⟩:St) by rw[c8,k4]<;>rfl) ?_;exact bO.out
   .refine ah fun K4 cF=>aO [1,3,5,9,10,11,28] [] ?_;by_cases k3:3<=kd
    .have e7:jb (p.names.take (i+1))=c1 ++ 32 :: (dj ++ [10]):=by rw[ek,mf,if_pos k3,c8];simp
     refine eJ (by simp[k3]) (ea (aw _) fun K' ai=>?_);(repeat refine aq fun Kq ae=>?_;simp[js,aN];(repeat refine⟨aa,?_⟩);refine ae _ ?_);refine aq fun Kq ae=>?_;simp[js,aN];refine ch.kU (tj) bq (by first | exact D.aV _ | simp[aL,IS,AT,D.le,D.le.go,D.le_refl,D.aV,js,aN]) (by simp[D.scalar]) ?_;refine ae _ ?_;simp only[aR,cw];(repeat refine aq fun Kq ae=>?_;simp[js,aN];(repeat refine⟨aa,?_⟩);refine ae _ ?_);refine aZ (ai _ ?_);refine cF _ (AW.norm [1,3,9,10,11] [] aT (AW.st (by simp[js,aN];rfl) ?_));have qf:=(Aq @bQ @aN);refine nN bF [1,3,9,10,11] [] ?_;refine fK ?_;(try simp only[bY,b9]);refine cC.mk (i+1) aa aa ?_;refine bL @e7
    .have e7:jb (p.names.take (i+1))=c1 ++ [10]:=by rw[ek,mf,if_neg k3,c8];simp
     refine gW (by simp;omega) ?_;refine ax ?_;refine cF _ (AW.norm [1,3,9,10,11] [] aT (AW.st bq ?_));have qf:=(Aq @bQ @aN);refine nN bF [1,3,9,10,11] [] ?_;refine fK ?_;(try simp only[bY,b9]);refine cC.mk (i+1) aa aa ?_;refine bL @e7
  .obtain rfl:i=p.names.length:=aa
   rw[abo]at o0;refine cX (aI _ (ah fun K5 cI=>aO [3,40,41,42] [] ?_));refine eD (S:=Nat) (fun j=>j<=p.ao.length) (fun j=>⟨bl [(3,.d (.v (.string (bs (cur ++ iB (p.ao.take j)))))),(40,.d (.sl none (p.ao.map dV))),(41,int p.ao.length),(42,int j)],au []⟩) (fun j=>p.ao.length - j) 0 ?_ al ?_
   .refine aY.fo aT (by simp[Cv,abK]) (by simp[Cv,abK])
   .intro j hj;have qu:=hR j
    have oG:(cur ++ iB (p.ao.take j)).length<=2^20+2^36:=by rw[abb];omega
    generalize sN:cur ++ iB (p.ao.take j)=d1 at oG ⊢;refine aO [3,40,41,42,43] [] ?_;refine ah fun K6 fN=>ga (b:=j < p.ao.length) (by simp[D.le,D.le.go,aL]) (fun hc=>?_) (fun hc=>?_)
    .have j9:=hc;obtain⟨dr,oI,e,Eo,sM,_⟩:=Fl _ (aa6 j9)
     have ek:cur ++ iB (p.ao.take (j+1))=d1 ++ qL p.ao[j]:=by rw[iB,AP j9,<- sN,aco];rfl
     have kf:qL p.ao[j]=j7 p.ao[j].kind ++ p.ao[j].name ++ [32,61,32] ++ vD p.ao[j].cond ++ [10]:=rfl;have gO:dV p.ao[j]=[.v (.int .i64 p.ao[j].kind),.v (.string (bs p.ao[j].name)),kZ p.ao[j].cond]:=rfl;rw[Eo]at kf gO;have dB:=u6 G e (acb (pj e) aa);have mQ:=Hy e;simp only[dS]at dB;simp only[vD,kZ]at kf gO;obtain⟨ec,Eu⟩:∃ c,dR e = .ip c:=⟨_,mz e⟩;rw[Eu]at gO dB;generalize aB e 0=tx at kf dB mQ;generalize qL p.ao[j]=rt at ek kf;generalize p.ao[j].name=nm at oI kf gO;generalize p.ao[j].kind=kd at dr kf gO;refine ax (fN _ (ah fun K7 eF=>bd ?_));have qf:=(Aq @j9 @gO);refine aC [3,7,40,41,42] [7] ?_;refine fF 7 ?_;refine ah fun K8 eg=>?_;have cY:=JA kd
     refine' s7 (fun bO=>?_) ?_
     rotate_left
     .by_cases k1:kd=1
      .have qf:=@k1;refine aC [3,7,40,41,42,48] [] ?_;refine aj (ax ?_);refine eg _ (AW.norm [3,7,40,41,42] [] aT (AW.st bq ?_));refine AW.st (show _=(⟨bl [(3,.d (.v (.string (bs (d1 ++ j7 kd))))),(7,.d (.ip [.v (.int .i64 kd),.v (.string (bs nm)),.ip ec])),(40,.d (.sl none (p.ao.map dV))),(41,int p.ao.length),(42,int j)],au []⟩:St) by rw[k1,show j7 1=[] from rfl,abK]<;>rfl) ?_;exact bO.out
      by_cases k2:kd=2
      .have qf:=@k2;refine aC [3,7,40,41,42,48] [] ?_;refine aD ?_;have qf:=(Aq @k7 adb);refine nN eg [3,7,40,41,42] [] ?_;refine AW.st (show _=(⟨bl [(3,.d (.v (.string (bs (d1 ++ j7 kd))))),(7,.d (.ip [.v (.int .i64 kd),.v (.string (bs nm)),.ip ec])),(40,.d (.sl none (p.ao.map dV))),(41,int p.ao.length),(42,int j)],au []⟩:St) by rw[k2]<;>rfl) ?_;exact bO.out
      by_cases k3:kd=3
      .have qf:=@k3;refine aC [3,7,40,41,42,48] [] ?_;refine aD ?_;have qf:=(Aq @k7 adb);refine nN eg [3,7,40,41,42] [] ?_;refine AW.st (show _=(⟨bl [(3,.d (.v (.string (bs (d1 ++ j7 kd))))),(7,.d (.ip [.v (.int .i64 kd),.v (.string (bs nm)),.ip ec])),(40,.d (.sl none (p.ao.map dV))),(41,int p.ao.length),(42,int j)],au []⟩:St) by rw[k3]<;>rfl) ?_;exact bO.out
      by_cases k4:kd=4
      .have qf:=@k4;refine aC [3,7,40,41,42,48] [] ?_;refine aD ?_;have qf:=(Aq @k7 adb);refine nN eg [3,7,40,41,42] [] ?_;refine AW.st (show _=(⟨bl [(3,.d (.v (.string (bs (d1 ++ j7 kd))))),(7,.d (.ip [.v (.int .i64 kd),.v (.string (bs nm)),.ip ec])),(40,.d (.sl none (p.ao.map dV))),(41,int p.ao.length),(42,int j)],au []⟩:St) by rw[k4]<;>rfl) ?_;exact bO.out
      by_cases k5:kd=5
      .have qf:=@k5;refine aC [3,7,40,41,42,48] [] ?_;refine aD ?_;have qf:=(Aq @k7 adb);refine nN eg [3,7,40,41,42] [] ?_;refine AW.st (show _=(⟨bl [(3,.d (.v (.string (bs (d1 ++ j7 kd))))),(7,.d (.ip [.v (.int .i64 kd),.v (.string (bs nm)),.ip ec])),(40,.d (.sl none (p.ao.map dV))),(41,int p.ao.length),(42,int j)],au []⟩:St) by rw[k5]<;>rfl) ?_;exact bO.out
      have k6:kd=6:=aa
      have qf:=@k6;refine aC [3,7,40,41,42,48] [] ?_;refine aD ?_;have qf:=(Aq @k7 adb);refine nN eg [3,7,40,41,42] [] ?_;refine AW.st (show _=(⟨bl [(3,.d (.v (.string (bs (d1 ++ j7 kd))))),(7,.d (.ip [.v (.int .i64 kd),.v (.string (bs nm)),.ip ec])),(40,.d (.sl none (p.ao.map dV))),(41,int p.ao.length),(42,int j)],au []⟩:St) by rw[k6]<;>rfl) ?_;exact bO.out
     .have e7:cur ++ iB (p.ao.take (j+1))=(d1 ++ j7 kd) ++ (nm ++ 32 :: 61 :: 32 :: (tx ++ [10])):=by rw[ek,kf];simp
      generalize Ru:d1 ++ j7 kd=d2 at e7 ⊢
      have Z8:d2.length<=2^20+2^36+6:=by rw[<- Ru,abb];omega
      refine C1 (aw _) ag ag fun K' ai=>?_;(repeat refine fm fun Kq ae=>?_;simp[bZ,bQ,aN];(repeat refine⟨aa,?_⟩);refine ae _ ?_);refine fm fun Kq ae=>?_;simp[bZ,bQ,aN];refine lC.data (dB) bq bq (by first | exact D.aV _ | simp[aL,IS,AT,D.le,D.le.go,D.le_refl,D.aV,bZ,bQ,aN]) ?_;refine ae _ ?_;simp only[aR,cw];(repeat refine fm fun Kq ae=>?_;simp[bZ,bQ,aN];(repeat refine⟨aa,?_⟩);refine ae _ ?_);refine kW (ai _ ?_);refine eF _ (AW.norm [3,40,41,42] [] aT (AW.st (by simp[bZ,bQ,aN];rfl) ?_));refine fK ?_;(try simp only[bY,b9]);refine cC.mk (j+1) aa aa ?_;refine bL @e7
    .obtain rfl:j=p.ao.length:=aa
     rw[abo]at sN;refine cX (cI _ (aO [2] [] ?_));refine bt ?_;simp[D.le,D.le.go,aL];rw[hT,o0,sN]
structure N7 (T:Prop):Prop where
 out:T
theorem KQ {T U:Prop} (h:N7 T->U) (t:T):U:=h ⟨t⟩
theorem ze:(⟨#[48]⟩:ByteArray)=bs [48]:=rfl
theorem zf:(⟨#[49]⟩:ByteArray)=bs [49]:=rfl
theorem KH {x:Ex} (h:wL x=false):¬ dt x=[33]:=by
 cases x with
 | not y=>cases h
 | b5 b=>cases b<;>simp[dt]
 | _=>simp[dt]
theorem IE (and:Bool) (l:List Ex):dR (sJ and l) = .ip [dS [if and then 38 else 124],dS [],.sl none (l.map fun e=>[dR e])]:=by cases and<;>simp[sJ,dR,pr]
theorem ac6:type_of% (Aq @acC (Aq @acB @ba)):=(Aq @acC (Aq @acB @ba))
theorem GQ (G:aF) (x:Ex):aH prog G 193 [dR x] (dR (eA x)):=by
 by_cases hN:∃ y,x = .not y
 .obtain⟨y,rfl⟩:=hN;obtain⟨c,hy⟩:=j5 y;show aH _ _ _ _ (dR y);rw[dR,hy];refine aH.aU (aw _) func193 rfl rfl (rs:=[.tmp 2]) results193 (by simp[ntmps193]) fun X=>?_;simp only[ntmps193,List.map];have fw:=ac6;refine af fw [0] [] ?_;refine ah fun K1 aI=>af fw [0,7] [] ?_;refine aD (af fw [2] [] ?_);exact bg fw
 .have hn:wL x=false:=by
   cases x with
   | not y=>exact absurd ⟨y,rfl⟩ hN
   | _=>rfl
  have hk:=KH hn;rw[LS hn,dR,mz x];refine aH.aU (aw _) func193 rfl rfl (rs:=[.tmp 2]) results193 (by simp[ntmps193]) fun X=>?_;simp only[ntmps193,List.map];have fw:=ac6;refine af fw [0] [] ?_;refine ah fun K1 aI=>?_;have qf:=(Aq fw @hk);refine aC [0,7] [] ?_;refine aj (ax (aI _ ?_));have qf:=(Aq fw @FU);refine aC [2] [15,17] ?_;refine AW.imp (aY.freeze 15 trivial) ?_;refine AW.st (by simp[ab,dS,ba];rfl) ?_;refine jk fw 17 ?_;refine bt ?_;simp[D.le,D.le.go,aL,ab,dS,ba,dS,bM,D.le_refl,D.aV]
theorem FO {y:Ex} (h:jq y=false):¬ dt y=[48]/\¬ dt y=[49]:=by
 cases y with
 | b5 b=>cases h
 | _=>simp[dt]
theorem TC {y:Ex} (h1:∀ m,y≠.and m) (h2:∀ m,y≠.or m):¬ dt y=[38]/\¬ dt y=[124]:=by
 cases y with
 | and m=>exact absurd rfl (h1 m)
 | or m=>exact absurd rfl (h2 m)
 | b5 b=>cases b<;>simp[dt]
 | _=>simp[dt]
theorem Dc:∀ (l out r:List Ex),gz out l=none->gz out (l ++ r)=none
 | [],out,r,h=>by cases h
 | x :: l,out,r,h=>by
  rw[aby,gz];rw[gz]at h
  cases ha:mv out x with
  | none=>rfl
  | some o=>rw[ha]at h;exact Dc l o r h
theorem Db:∀ (l out o:List Ex) (x:Ex),gz out l=some o->gz out (l ++ [x])=mv o x
 | [],out,o,x,h=>by
  obtain rfl:=AI h;rw[abL,gz];cases mv out x<;>rfl
 | y :: l,out,o,x,h=>by
  rw[aby,gz];rw[gz]at h
  cases ha:mv out y with
  | none=>rw[ha]at h;cases h
  | some o2=>rw[ha]at h;exact Db l o2 o x h
theorem GU {and:Bool}:∀ (l:List Ex) (out:List Ex) (r:List Ex),eB and out l=none->eB and out (l ++ r)=none
 | [],out,r,h=>by cases h
 | x :: l,out,r,h=>by
  rw[aby,eB];rw[eB]at h
  cases hp:iz and x with
  | none=>rfl
  | some i=>
   rw[hp]at h;dsimp only at h ⊢
   cases ha:gz out i with
   | none=>rfl
   | some o=>
    rw[ha]at h;exact GU l o r h
theorem GS {and:Bool}:∀ (l:List Ex) (out o:List Ex) (x:Ex),eB and out l=some o->eB and out (l ++ [x])=(match iz and x with | none=>none | some i=>gz o i)
 | [],out,o,x,h=>by
  obtain rfl:=AI h;rw[abL,eB]
  cases hp:iz and x with
  | none=>rfl
  | some i=>
   dsimp only
   cases ha:gz out i with
   | none=>rfl
   | some o=>rfl
 | y :: l,out,o,x,h=>by
  rw[aby,eB];rw[eB]at h
  cases hp:iz and y with
  | none=>rw[hp]at h;cases h
  | some i=>
   rw[hp]at h;dsimp only at h ⊢
   cases ha:gz out i with
   | none=>rw[ha]at h;cases h
   | some o2=>
    rw[ha]at h;exact GS l o2 o x h
theorem I3 {and:Bool} {l out o:List Ex} (hg:n5 and out) (hl:∀ x∈l,jq x=false/\pW and x=false/\ji x) (h:gz out l=some o):n5 and o:=by
 rcases Af (fun _=>true) (fun _=>true) l out hg hl with⟨a,_⟩ | ⟨o',a,b,_,_⟩
 .rw[h]at a;cases a
 .rw[h]at a;obtain rfl:=AI a;exact b
theorem L3 {and:Bool} {x:Ex} (hx:ji x) {i:List Ex} (h:iz and x=some i):∀ y∈i,jq y=false/\pW and y=false/\ji y:=by
 rcases L2 (fun _=>true) (fun _=>true) (and:=and) hx with⟨a,_⟩ | ⟨i',a,_,b,_⟩
 .rw[h]at a;cases a
 .rw[h]at a;obtain rfl:=AI a;exact b
theorem Hf {x:Ex} (h:ew x):ji (cu x):=(Hi (fun _=>true) (fun _=>true) _ x (aa8 _) h).1
theorem Bf {out:List Ex} {x:Ex} {j:Nat} (hj:j < out.length):fV (out.take (j+1)) x=(fV (out.take j) x || (fZ out[j] == fZ x)):=by
 unfold fV;rw[aa7 hj,List.any_append];simp
theorem Jq {out:List Ex} {x:Ex} {j:Nat} (hj:j < out.length) (h:fZ out[j]=fZ x):fV out x=true:=by
 unfold fV;exact List.any_eq_true.2 ⟨_,aa6 hj,by simp[h]⟩
theorem Wr (G:aF) (l:List Ex) (hw:∀ x∈l,ew x) (hb:bx l<=2^27) (gM:∀ x∈l,aH prog G 124 [dR x] (dR (cu x))):aH prog G 124 [.ip [dS [38],dS [],.sl none (l.map fun e=>[dR e])]] (dR (ez true (eB true [] (gD l)))):=by
 have lM:=lA l;rw[xd]
 have lJ:∀ n,bx ((l.take n).map cu)<=bx l:=by
  have h:∀ l2:List Ex,bx (l2.map cu)<=bx l2:=by
   intro l2
   induction l2 with
   | nil=>simp
   | cons x l2 ih=>have:=zP x;simp only[abj,bx];omega
  intro n;have:=lz (l.take n) (l.drop n);rw[abm]at this;have:=h (l.take n);omega
 refine aH.aU (aw _) func124 rfl rfl (rs:=[.tmp 2]) results124 (by simp[ntmps124]) fun X=>?_;simp only[ntmps124,List.map];have fw:=ac6;refine af fw [0] [] ?_;refine ah fun K1 aI=>af fw [0,19] [] ?_;refine bd (af fw [0,19,20] [] ?_);refine aj (ah fun K3 bF=>?_);refine af fw [0,19,43] [] ?_;refine aD (ax (bF _ ?_));refine aD (af fw [0,4,5] [] ?_);refine ah fun K4 cF=>af fw [0,4,5,50] [] ?_;refine aj (ax (cF _ ?_));refine af fw [0,4,5,6] [] ?_;refine ah fun K5 cI=>af fw [0,4,5,6,54,55,56] [] ?_;refine eD (S:=Nat×List Ex) (fun z=>z.1<=l.length/\eB true [] ((l.take z.1).map cu)=some z.2/\n5 true z.2) (fun z=>⟨bl [(0,.d (.ip [dS [38],dS [],.sl none (l.map fun e=>[dR e])])),(4,.d (dS [49])),(5,.d (dS [48])),(6,.own 300 0 z.2.length),(54,.d (.sl none (l.map fun e=>[dR e]))),(55,int l.length),(56,int z.1)],au [(300,.sl 119 1 (z.2.map fun e=>[dR e]))]⟩) (fun z=>l.length - z.1) (0,[]) ?_ ⟨aa,rfl,al,al⟩ ?_
 .refine (aY.qb 6 300 119 1 rfl rfl).trans ?_;refine aY.fo aT (by simp[ab,dS,ba,dS,ze,zf]) (by simp[ab,dS,ba,dS,ze,zf])
 .rintro⟨n,out⟩ ⟨hn,hp,hg⟩;dsimp only at hn hp hg ⊢;refine af fw [0,4,5,6,54,55,56,57] [300] ?_;refine ah fun K6 fN=>ga (b:=n < l.length) (by simp[D.le,D.le.go,aL,ab,dS,ba]) (fun hc=>?_) (fun hc=>?_)
  .have dX:n < l.length:=hc;have ed:=GS ((l.take n).map cu) [] out (cu l[n]) hp;have bO:=GU (and:=true) ((l.take (n+1)).map cu) [] ((l.drop (n+1)).map cu);rw[<- abt,abm]at bO
   have e1:(l.take n).map cu ++ [cu l[n]]=(l.take (n+1)).map cu:=by
    rw[aa7 dX,abt];rfl
   rw[e1]at ed;have rC:=se _ _ _ hp;simp only[bx,abe]at rC
   have ye:bx out+bE (cu l[n])<=2^28:=by
    have h1:=lJ (n+1);rw[<- e1,lz]at h1;simp only[bx]at h1;omega
   have yT:=Hf (hw _ (aa6 dX));have dB:=gM _ (aa6 dX);obtain⟨cx,hx⟩:=j5 l[n];rw[hx]at dB;refine ax (fN _ (ah fun K7 eF=>bd ?_));have qf:=(Aq fw (Aq @dX @hx));refine aC [0,4,5,6,8,54,55,56] [300] ?_;clear gM;generalize cu l[n]=y at dB ed ye yT;have y4:=mz y;rw[y4]at dB;refine bB fw dB [0,4,5,6,9,54,55,56] [300] ?_;refine af fw [0,4,5,6,9,10,54,55,56] [300,63] ?_;refine AW.imp (aY.freeze 63 trivial) ?_;refine AW.st (by simp[ab,dS,ba];rfl) ?_;refine ah fun K8 eg=>?_;by_cases dk:y = .b5 false
   .subst dk;have pJ:iz true (.b5 false)=none:=rfl;rw[pJ]at ed;have hE:=bO ed;have e7:dR (ez true none) = .ip [dS [48],dS [],cJ]:=rfl;have dr:dt (.b5 false)=[48]:=rfl;refine lZ (aw _) ag [0,4,5,6,9,10,54,55,56,72] [300] aT ag fun K' ai=>?_;(repeat refine fm fun Kq ae=>?_;simp[ab,dS,ba,dr,ay,aJ];(repeat refine⟨aa,?_⟩);refine ae _ ?_);refine kW (ai _ ?_);refine AW.st (by simp[ab,dS,ba,dr,ay,aJ];rfl) ?_;refine aj (ax (eg _ ?_));refine ah fun K9 gd=>rg [0,4,5,6,9,10,54,55,56,82] [300] aT fun K' ai=>?_;(repeat refine aq fun Kq ae=>?_;simp[ab,dS,ba,dr,aJ,ay];(repeat refine⟨aa,?_⟩);refine ae _ ?_);refine aZ (ai _ (AW.st (by simp[ab,dS,ba,dr,aJ,ay];rfl) ?_));refine aj (ax (gd _ ?_));refine ah fun ky gb=>rg [0,4,5,6,10,54,55,56,88] [300] aT fun K' ai=>?_;(repeat refine aq fun Kq ae=>?_;simp[ab,dS,ba,dr,aJ,ay];(repeat refine⟨aa,?_⟩);refine ae _ ?_);refine aZ (ai _ (AW.st (by simp[ab,dS,ba,dr,aJ,ay];rfl) ?_));refine aD (af (Aq fw @cJ.eq_1) [2] [300,91] ?_);refine jk fw 91 ?_;refine bt ?_;simp[D.le,D.le.go,aL,ab,dS,ba,hE,e7,dS,cJ,bM,D.le_refl,D.aV]
   obtain⟨i,gQ⟩:∃ i,iz true y=some i:=by
    cases yL:iz true y with
    | some i=>exact⟨i,rfl⟩
    | none=>
     exfalso;apply dk
     cases y with
     | b5 b=>cases b<;>first | rfl | cases yL
     | _=>cases yL
   rw[gQ]at ed;dsimp only at ed;have yU:=L3 yT gQ;have Ej:=Ch gQ;obtain⟨k,hk⟩:∃ k:Option Bool,k=if jq y then some false else none:=⟨_,rfl⟩
   refine' KQ (fun e8=>?_) ?_
   rotate_left
   .by_cases lL:jq y=true
    .have hy:y = .b5 true:=by
      cases y with
      | b5 b=>cases b<;>first | rfl | exact absurd rfl dk
      | _=>cases lL
     have nz:i=[]:=by rw[hy]at gQ;exact (AI gQ).symm
     have ma:k=some false:=by rw[hk,lL];rfl
     have dr:dt y=[49]:=by rw[hy];rfl
     refine lZ (aw _) ag [0,4,5,6,9,10,54,55,56,72] [300] aT ag fun K' ai=>?_;(repeat refine fm fun Kq ae=>?_;simp[ab,dS,ba,dr,ay,aJ];(repeat refine⟨aa,?_⟩);refine ae _ ?_);refine kW (ai _ ?_);refine AW.st (by simp[ab,dS,ba,dr,ay,aJ];rfl) ?_;refine aj (ax (eg _ ?_));refine ah fun K9 gd=>rg [0,4,5,6,9,10,54,55,56,82] [300] aT fun K' ai=>?_;(repeat refine aq fun Kq ae=>?_;simp[ab,dS,ba,dr,aJ,ay];(repeat refine⟨aa,?_⟩);refine ae _ ?_);refine aZ (ai _ (AW.st (by simp[ab,dS,ba,dr,aJ,ay];rfl) ?_));refine aD (fc fw gd [0,4,5,6,9,10,54,55,56] [300] ?_);refine ah fun ky gb=>rg [0,4,5,6,10,54,55,56,88] [300] aT fun K' ai=>?_;(repeat refine aq fun Kq ae=>?_;simp[ab,dS,ba,dr,aJ,ay];(repeat refine⟨aa,?_⟩);refine ae _ ?_);refine aZ (ai _ (AW.st (by simp[ab,dS,ba,dr,aJ,ay];rfl) ?_));refine aj (ax (gb _ ?_));refine AW.imp (τ:=⟨bl [(0,.d (.ip [dS [38],dS [],.sl none (l.map fun e=>[dR e])])),(4,.d (dS [49])),(5,.d (dS [48])),(6,.own 300 0 out.length),(10,.d (.sl k (i.map fun e=>[dR e]))),(54,.d (.sl none (l.map fun e=>[dR e]))),(55,int l.length),(56,int n)],au [(300,.sl 119 1 (out.map fun e=>[dR e]))]⟩) ?_ ?_
     .refine bL (Aq fw (Aq @acB (Aq @nz @ma)))
     exact e8.out
    have qp:jq y=false:=by simpa using lL
    obtain⟨iZ,jr⟩:=FO qp
    have ma:k=none:=by rw[hk,qp];rfl
    by_cases gP:∃ m,y = .and m
    .obtain⟨m,hm⟩:=gP
     have nz:i=m:=by rw[hm]at gQ;exact (AI gQ).symm
     have dr:dt y=[38]:=by rw[hm];rfl
     have Fa:qI y = .sl none (i.map fun e=>[dR e]):=by rw[hm,nz];simp[qI,pr]
     refine lZ (aw _) ag [0,4,5,6,9,10,54,55,56,72] [300] aT ag fun K' ai=>?_;(repeat refine fm fun Kq ae=>?_;simp[ab,dS,ba,dr,ay,aJ];(repeat refine⟨aa,?_⟩);refine ae _ ?_);refine kW (ai _ ?_);refine AW.st (by simp[ab,dS,ba,dr,ay,aJ];rfl) ?_;refine aD ?_;have qf:=(Aq fw @Fa);refine nN eg [0,4,5,6,9,10,54,55,56] [300] ?_;refine ah fun K9 gd=>rg [0,4,5,6,9,10,54,55,56,82] [300] aT fun K' ai=>?_;(repeat refine aq fun Kq ae=>?_;simp[ab,dS,ba,dr,aJ,ay];(repeat refine⟨aa,?_⟩);refine ae _ ?_);refine aZ (ai _ (AW.st (by simp[ab,dS,ba,dr,aJ,ay];rfl) ?_));refine aj (ax (gd _ ?_));refine ah fun ky gb=>rg [0,4,5,6,10,54,55,56,88] [300] aT fun K' ai=>?_;(repeat refine aq fun Kq ae=>?_;simp[ab,dS,ba,dr,aJ,ay];(repeat refine⟨aa,?_⟩);refine ae _ ?_);refine aZ (ai _ (AW.st (by simp[ab,dS,ba,dr,aJ,ay];rfl) ?_));refine aj (ax (gb _ ?_));refine AW.imp (τ:=⟨bl [(0,.d (.ip [dS [38],dS [],.sl none (l.map fun e=>[dR e])])),(4,.d (dS [49])),(5,.d (dS [48])),(6,.own 300 0 out.length),(10,.d (.sl k (i.map fun e=>[dR e]))),(54,.d (.sl none (l.map fun e=>[dR e]))),(55,int l.length),(56,int n)],au [(300,.sl 119 1 (out.map fun e=>[dR e]))]⟩) ?_ ?_
     .refine bL (Aq fw (Aq @acB @ma))
     exact e8.out
    have mJ:¬ dt y=[38]:=by
     cases y with
     | and m=>exact absurd ⟨m,rfl⟩ gP
     | b5 b=>cases b<;>simp[dt]
     | _=>simp[dt]
    have nz:i=[y]:=by
     cases y with
     | and m=>exact absurd ⟨m,rfl⟩ gP
     | b5 b=>cases qp
     | _=>exact (AI gQ).symm
    have qt:(dt y == [38])=false:=by simpa using mJ
    have rJ:(dt y == [48])=false:=by simpa using iZ
    have rK:(dt y == [49])=false:=by simpa using jr
    refine lZ (aw _) ag [0,4,5,6,9,10,54,55,56,72] [300] aT ag fun K' ai=>?_;(repeat refine fm fun Kq ae=>?_;simp[ab,dS,ba,mJ,qt,ay,aJ];(repeat refine⟨aa,?_⟩);refine ae _ ?_);refine kW (ai _ ?_);refine AW.st (by simp[ab,dS,ba,mJ,qt,ay,aJ];rfl) ?_;refine aj (ax (eg _ ?_));refine ah fun K9 gd=>rg [0,4,5,6,9,10,54,55,56,82] [300] aT fun K' ai=>?_;(repeat refine aq fun Kq ae=>?_;simp[ab,dS,ba,iZ,jr,rJ,rK,aJ,ay];(repeat refine⟨aa,?_⟩);refine ae _ ?_);refine aZ (ai _ (AW.st (by simp[ab,dS,ba,iZ,jr,rJ,rK,aJ,ay];rfl) ?_));refine aj (ax (gd _ ?_));refine ah fun ky gb=>rg [0,4,5,6,10,54,55,56,88] [300] aT fun K' ai=>?_;(repeat refine aq fun Kq ae=>?_;simp[ab,dS,ba,iZ,jr,rJ,rK,aJ,ay];(repeat refine⟨aa,?_⟩);refine ae _ ?_);refine aZ (ai _ (AW.st (by simp[ab,dS,ba,iZ,jr,rJ,rK,aJ,ay];rfl) ?_));refine aj (ax (gb _ ?_));refine AW.imp (τ:=⟨bl [(0,.d (.ip [dS [38],dS [],.sl none (l.map fun e=>[dR e])])),(4,.d (dS [49])),(5,.d (dS [48])),(6,.own 300 0 out.length),(10,.d (.sl k (i.map fun e=>[dR e]))),(54,.d (.sl none (l.map fun e=>[dR e]))),(55,int l.length),(56,int n)],au [(300,.sl 119 1 (out.map fun e=>[dR e]))]⟩) ?_ ?_
    .refine bL (Aq fw (Aq @acB (Aq @ma (Aq @nz @y4))))
    exact e8.out
   .refine af fw [0,4,5,6,54,55,56,92,93,94] [300] ?_;have dG:=lA i;refine eD (S:=Nat×List Ex) (fun z=>z.1<=i.length/\gz out (i.take z.1)=some z.2/\n5 true z.2) (fun z=>⟨bl [(0,.d (.ip [dS [38],dS [],.sl none (l.map fun e=>[dR e])])),(4,.d (dS [49])),(5,.d (dS [48])),(6,.own 300 0 z.2.length),(54,.d (.sl none (l.map fun e=>[dR e]))),(55,int l.length),(56,int n),(92,.d (.sl k (i.map fun e=>[dR e]))),(93,int i.length),(94,int z.1)],au [(300,.sl 119 1 (z.2.map fun e=>[dR e]))]⟩) (fun z=>i.length - z.1) (0,out) ?_ ⟨aa,rfl,hg⟩ ?_
    .refine bL (Aq fw @acB)
    .rintro⟨m,o⟩ ⟨hm,pK,cM⟩;dsimp only at hm pK cM ⊢;refine af fw [0,4,5,6,54,55,56,92,93,94,95] [300] ?_;refine ah fun xl qm=>ga (b:=m < i.length) (by simp[D.le,D.le.go,aL,ab,dS,ba]) (fun hc=>?_) (fun hc=>?_)
     .have fj:m < i.length:=hc;have lP:=yU _ (aa6 fj);have jo:=Db (i.take m) out o i[m] pK;have yR:=Dc (i.take (m+1)) out (i.drop (m+1));rw[abm]at yR;rw[<- aa7 fj]at jo;have Q7:=Ae _ _ _ pK;have da:=lz (i.take m) (i.drop m);rw[abm]at da;have Q6:=qd (aa6 fj);have jT:=lA o;have Fb:∀ z∈o,bE z<=bx o:=fun z hz=>qd hz;rw[<- add_same cM lP]at jo;have Q8:=LR i[m];have rX:=GQ G i[m];have rY:=u6 G (eA i[m]) (by have:=pj (eA i[m]);omega);have uN:=u6 G i[m] (by have:=pj i[m];omega);have hU:aB (eA i[m]) 0=fZ (eA i[m]):=rfl;have mh:aB i[m] 0=fZ i[m]:=rfl;rw[hU]at rY;rw[mh]at uN;obtain⟨co,oZ⟩:=j5 (eA i[m]);obtain⟨ci,gN⟩:=j5 i[m];rw[oZ]at rX rY;rw[gN]at rX uN;refine ax (qm _ (ah fun zX qn=>bd ?_));have qf:=(Aq fw (Aq @fj @gN));refine aC [0,4,5,6,12,54,55,56,92,93,94] [300] ?_;refine af fw [0,4,5,6,12,13,54,55,56,92,93,94] [300] ?_;refine ah fun zY rv=>af fw [0,4,5,6,12,13,54,55,56,92,93,94,98,99,100] [300] ?_;refine eD (S:=Nat) (fun j=>j<=o.length/\fV (o.take j) (eA (i[m]'fj))=false) (fun j=>⟨bl [(0,.d (.ip [dS [38],dS [],.sl none (l.map fun e=>[dR e])])),(4,.d (dS [49])),(5,.d (dS [48])),(6,.own 300 0 o.length),(12,.d (.ip ci)),(54,.d (.sl none (l.map fun e=>[dR e]))),(55,int l.length),(56,int n),(92,.d (.sl k (i.map fun e=>[dR e]))),(93,int i.length),(94,int m),(13,.d (.v (.bool (fV (o.take j) (i[m]'fj))))),(98,.own 300 0 o.length),(99,int o.length),(100,int j)],au [(300,.sl 119 1 (o.map fun e=>[dR e]))]⟩) (fun j=>o.length - j) 0 ?_ ⟨aa,rfl⟩ ?_
      .refine bL (Aq fw (Aq @acB @fV.eq_1))
      .rintro j ⟨hj,eQ⟩;refine af fw [0,4,5,6,12,13,54,55,56,92,93,94,98,99,100,101] [300] ?_;refine ah fun xm ry=>ga (b:=j < o.length) (by simp[D.le,D.le.go,aL,ab,dS,ba]) (fun hc=>?_) (fun hc=>?_)
       .have mH:j < o.length:=hc;have pQ:=u6 G o[j] (by have:=pj o[j];have:=Fb _ (aa6 mH);omega);have pS:aB o[j] 0=fZ o[j]:=rfl;rw[pS]at pQ;have kh:=Bf (x:=eA (i[m]'fj)) mH;have rW:=Bf (x:=i[m]'fj) mH;have EL:=Jq (x:=eA (i[m]'fj)) mH;obtain⟨cz,yg⟩:=j5 o[j];rw[yg]at pQ;refine ax (ry _ (ah fun zZ pB=>bd ?_));have qf:=(Aq fw (Aq @mH @yg));refine aC [0,4,5,6,12,13,15,54,55,56,92,93,94,98,99,100] [300] ?_;refine ah fun N4 D7=>?_;by_cases heq:fZ (o[j]'mH)=fZ (eA (i[m]'fj))
        .have rO:nk o (i[m]'fj)=none:=by unfold nk;rw[if_pos (EL heq)]
         rw[rO]at jo;rw[yR jo]at ed;have hE:=bO ed;have e7:dR (ez true none) = .ip [dS [48],dS [],cJ]:=rfl;refine rg [0,4,5,6,12,13,15,54,55,56,92,93,94,98,99,100,109] [300] aT fun K' ai=>?_;(repeat refine aq fun Kq ae=>?_;simp[ab,dS,ba,heq,ay,aJ];(repeat refine⟨aa,?_⟩);refine ae _ ?_);refine aq fun Kq ae=>?_;simp[ab,dS,ba,heq,ay,aJ];refine ch.data (pQ) bq (by first | exact D.aV _ | simp[aL,IS,AT,D.le,D.le.go,D.le_refl,D.aV,ab,dS,ba,heq,ay,aJ]) ?_;refine ae _ ?_;simp only[aR,cw];(repeat refine aq fun Kq ae=>?_;simp[ab,dS,ba,heq,ay,aJ];(repeat refine⟨aa,?_⟩);refine ae _ ?_);refine aq fun Kq ae=>?_;simp[ab,dS,ba,heq,ay,aJ];refine ch.data (rX) bq (by first | exact D.aV _ | simp[aL,IS,AT,D.le,D.le.go,D.le_refl,D.aV,ab,dS,ba,heq,ay,aJ]) ?_;refine ae _ ?_;simp only[aR,cw];(repeat refine aq fun Kq ae=>?_;simp[ab,dS,ba,heq,ay,aJ];(repeat refine⟨aa,?_⟩);refine ae _ ?_);refine aq fun Kq ae=>?_;simp[ab,dS,ba,heq,ay,aJ];refine ch.data (rY) bq (by first | exact D.aV _ | simp[aL,IS,AT,D.le,D.le.go,D.le_refl,D.aV,ab,dS,ba,heq,ay,aJ]) ?_;refine ae _ ?_;simp only[aR,cw];(repeat refine aq fun Kq ae=>?_;simp[ab,dS,ba,heq,ay,aJ];(repeat refine⟨aa,?_⟩);refine ae _ ?_);refine aZ (ai _ (AW.st (by simp[ab,dS,ba,heq,ay,aJ];rfl) ?_));refine aD (af (Aq fw @cJ.eq_1) [2] [300,112] ?_);refine jk fw 112 ?_;refine bt ?_;simp[D.le,D.le.go,aL,ab,dS,ba,hE,e7,dS,cJ,bM,D.le_refl,D.aV]
        have iL:(fZ (o[j]'mH) == fZ (eA (i[m]'fj)))=false:=by simpa using heq
        rw[eQ,iL]at kh;refine rg [0,4,5,6,12,13,15,54,55,56,92,93,94,98,99,100,109] [300] aT fun K' ai=>?_;(repeat refine aq fun Kq ae=>?_;simp[ab,dS,ba,heq,iL,ay,aJ];(repeat refine⟨aa,?_⟩);refine ae _ ?_);refine aq fun Kq ae=>?_;simp[ab,dS,ba,heq,iL,ay,aJ];refine ch.data (pQ) bq (by first | exact D.aV _ | simp[aL,IS,AT,D.le,D.le.go,D.le_refl,D.aV,ab,dS,ba,heq,iL,ay,aJ]) ?_;refine ae _ ?_;simp only[aR,cw];(repeat refine aq fun Kq ae=>?_;simp[ab,dS,ba,heq,iL,ay,aJ];(repeat refine⟨aa,?_⟩);refine ae _ ?_);refine aq fun Kq ae=>?_;simp[ab,dS,ba,heq,iL,ay,aJ];refine ch.data (rX) bq (by first | exact D.aV _ | simp[aL,IS,AT,D.le,D.le.go,D.le_refl,D.aV,ab,dS,ba,heq,iL,ay,aJ]) ?_;refine ae _ ?_;simp only[aR,cw];(repeat refine aq fun Kq ae=>?_;simp[ab,dS,ba,heq,iL,ay,aJ];(repeat refine⟨aa,?_⟩);refine ae _ ?_);refine aq fun Kq ae=>?_;simp[ab,dS,ba,heq,iL,ay,aJ];refine ch.data (rY) bq (by first | exact D.aV _ | simp[aL,IS,AT,D.le,D.le.go,D.le_refl,D.aV,ab,dS,ba,heq,iL,ay,aJ]) ?_;refine ae _ ?_;simp only[aR,cw];(repeat refine aq fun Kq ae=>?_;simp[ab,dS,ba,heq,iL,ay,aJ];(repeat refine⟨aa,?_⟩);refine ae _ ?_);refine aZ (ai _ (AW.st (by simp[ab,dS,ba,heq,iL,ay,aJ];rfl) ?_));refine aj (ax (D7 _ ?_))
        cases pP:fV (o.take j) (i[m]'fj) with
        | true=>
         rw[pP]at rW;refine fc fw pB [0,4,5,6,12,13,54,55,56,92,93,94,98,99,100] [300] ?_;refine fe fw ?_;(try simp only[bY,b9]);refine cC.mk (j+1) ⟨aa,kh⟩ aa ?_;refine bL (Aq fw (Aq @acB @rW))
        | false=>
         rw[pP]at rW;refine ea (aw _) fun K' ai=>?_;(repeat refine aq fun Kq ae=>?_;simp[ab,dS,ba,ay,aJ];(repeat refine⟨aa,?_⟩);refine ae _ ?_);refine aq fun Kq ae=>?_;simp[ab,dS,ba,ay,aJ];refine ch.data (pQ) bq (by first | exact D.aV _ | simp[aL,IS,AT,D.le,D.le.go,D.le_refl,D.aV,ab,dS,ba,ay,aJ]) ?_;refine ae _ ?_;simp only[aR,cw];(repeat refine aq fun Kq ae=>?_;simp[ab,dS,ba,ay,aJ];(repeat refine⟨aa,?_⟩);refine ae _ ?_);refine aq fun Kq ae=>?_;simp[ab,dS,ba,ay,aJ];refine ch.data (uN) bq (by first | exact D.aV _ | simp[aL,IS,AT,D.le,D.le.go,D.le_refl,D.aV,ab,dS,ba,ay,aJ]) ?_;refine ae _ ?_;simp only[aR,cw];(repeat refine aq fun Kq ae=>?_;simp[ab,dS,ba,ay,aJ];(repeat refine⟨aa,?_⟩);refine ae _ ?_);refine aZ (ai _ ?_);refine pB _ (AW.norm [0,4,5,6,12,13,54,55,56,92,93,94,98,99,100] [300] aT (AW.st (by simp[ab,dS,ba,ay,aJ];rfl) ?_));refine fe fw ?_;(try simp only[bY,b9]);refine cC.mk (j+1) ⟨aa,kh⟩ aa ?_;refine bL (Aq fw (Aq @acB @rW))
       .obtain rfl:j=o.length:=aa
        rw[abo]at eQ ⊢;refine cX (rv _ ?_)
        cases pP:fV o (i[m]'fj) with
        | true=>
         have mD:nk o (i[m]'fj)=some o:=by unfold nk;rw[if_neg (by rw[eQ];simp),if_pos pP]
         rw[mD]at jo;refine af fw [0,4,5,6,12,54,55,56,92,93,94,123] [300] ?_;refine aj (ax (qn _ ?_));refine fe fw ?_;(try simp only[bY,b9]);refine cC.mk (m+1,o) ⟨by dsimp only;omega,jo,cM⟩ (by dsimp only;omega) ?_;refine bL (Aq fw @acB)
        | false=>
         have mD:nk o (i[m]'fj)=some (o ++ [i[m]'fj]):=by unfold nk;rw[if_neg (by rw[eQ];simp),if_neg (by rw[pP];simp)]
         rw[mD]at jo;have ym:=I3 hg (fun z hz=>yU z (abi hz)) jo;refine af fw [0,4,5,6,12,54,55,56,92,93,94,123] [300] ?_;refine aD (ea (aw _) fun K' ai=>?_);(repeat refine aq fun Kq ae=>?_;simp[ab,dS,ba,sh];(repeat refine⟨aa,?_⟩);refine ae _ ?_);refine aZ (ai _ ?_);refine qn _ (AW.norm [0,4,5,6,54,55,56,92,93,94] [300] aT (AW.st (by simp[ab,dS,ba,sh];rfl) ?_));refine fe fw ?_;(try simp only[bY,b9]);refine cC.mk (m+1,o ++ [i[m]'fj]) ⟨by dsimp only;omega,jo,ym⟩ (by dsimp only;omega) ?_;refine bL (Aq fw (Aq @acB @gN))
     .obtain rfl:m=i.length:=aa
      rw[abo]at pK;rw[pK]at ed;refine cX (eF _ (fe fw ?_));(try simp only[bY,b9]);refine cC.mk (n+1,o) ⟨by dsimp only;omega,ed,cM⟩ (by dsimp only;omega) ?_;refine bL (Aq fw @acB)
  .obtain rfl:n=l.length:=aa
   rw[abo]at hp;have jT:=lA out;have rC:=se _ _ _ hp;have eG:=lJ l.length;rw[abo]at eG;simp only[bx,abe]at rC;refine cX (cI _ (ah fun N5 D8=>af fw [0,4,6,131] [300] ?_));refine bd ?_
   match out,jT,hp with
   | [],_,hp=>
    have e7:dR (ez true (some [])) = .ip [dS [49],dS [],cJ]:=rfl;refine af fw [0,4,6,131,132] [300] ?_;refine aD (af (Aq fw @cJ.eq_1) [2] [300,136] ?_);refine jk fw 136 ?_;refine bt ?_;simp[D.le,D.le.go,aL,ab,dS,ba,hp,e7,dS,cJ,bM,D.le_refl,D.aV]
   | [x],_,hp=>
    have e7:ez true (some [x])=x:=rfl;obtain⟨cx,hx⟩:=j5 x;refine af fw [0,4,6,131,132] [300] ?_;refine aj (af fw [0,6,137] [300] ?_);refine aD ?_;have qf:=(Aq fw @hx);refine aC [2] [300] ?_;exact bg (Aq fw (Aq @hp (Aq @e7 @hx)))
   | x :: y :: q,jT,hp=>
    have e7:dR (ez true (some (x :: y :: q))) = .ip [dS [38],dS [],.sl none ((x :: y :: q).map fun e=>[dR e])]:=IE true _
    have kM:¬ (((x :: y :: q).length:Int)=0):=by simp;omega
    have iM:¬ (((x :: y :: q).length:Int)=1):=by simp;omega
    generalize x :: y :: q=o at kM iM jT hp e7 ⊢
    have ux:¬ o.length=0:=aa
    have uy:¬ o.length=1:=aa
    have uz:¬ o=[]:=by rintro rfl;simp at kM
    have qf:=(Aq fw (Aq @kM (Aq @ux @uz)));refine aC [0,4,6,131,132] [300] ?_;refine aj ?_;have qf:=(Aq fw (Aq @iM @uy));refine aC [0,6,137] [300] ?_;refine aj (ax (D8 _ ?_));refine AW.imp (aY.freeze 300 trivial) ?_;refine AW.st (by simp[ab,dS,ba,sh];rfl) ?_;refine af fw [2] [148] ?_;refine jk fw 148 ?_;refine bt ?_;simp[D.le,D.le.go,aL,ab,dS,ba,hp,e7,dS,bM,D.le_refl,D.aV]
theorem Wt (G:aF) (l:List Ex) (hw:∀ x∈l,ew x) (hb:bx l<=2^27) (gM:∀ x∈l,aH prog G 124 [dR x] (dR (cu x))):aH prog G 124 [.ip [dS [124],dS [],.sl none (l.map fun e=>[dR e])]] (dR (ez false (eB false [] (gD l)))):=by
 have lM:=lA l;rw[xd]
 have lJ:∀ n,bx ((l.take n).map cu)<=bx l:=by
  have h:∀ l2:List Ex,bx (l2.map cu)<=bx l2:=by
   intro l2
   induction l2 with
   | nil=>simp
   | cons x l2 ih=>have:=zP x;simp only[abj,bx];omega
  intro n;have:=lz (l.take n) (l.drop n);rw[abm]at this;have:=h (l.take n);omega
 refine aH.aU (aw _) func124 rfl rfl (rs:=[.tmp 2]) results124 (by simp[ntmps124]) fun X=>?_;simp only[ntmps124,List.map];have fw:=ac6;refine af fw [0] [] ?_;refine ah fun K1 aI=>af fw [0,19] [] ?_;refine bd (af fw [0,19,20] [] ?_);refine aj (ah fun K3 bF=>?_);refine af fw [0,19,43] [] ?_;refine aj (fc fw bF [0,43] [] ?_);refine aD (af fw [0,4,5] [] ?_);refine ah fun K4 cF=>af fw [0,4,5,50] [] ?_;refine aD (fc fw cF [0,4,5] [] ?_);refine af fw [0,4,5,6] [] ?_;refine ah fun K5 cI=>af fw [0,4,5,6,54,55,56] [] ?_;refine eD (S:=Nat×List Ex) (fun z=>z.1<=l.length/\eB false [] ((l.take z.1).map cu)=some z.2/\n5 false z.2) (fun z=>⟨bl [(0,.d (.ip [dS [124],dS [],.sl none (l.map fun e=>[dR e])])),(4,.d (dS [48])),(5,.d (dS [49])),(6,.own 300 0 z.2.length),(54,.d (.sl none (l.map fun e=>[dR e]))),(55,int l.length),(56,int z.1)],au [(300,.sl 119 1 (z.2.map fun e=>[dR e]))]⟩) (fun z=>l.length - z.1) (0,[]) ?_ ⟨aa,rfl,al,al⟩ ?_
 .refine (aY.qb 6 300 119 1 rfl rfl).trans ?_;refine aY.fo aT (by simp[ab,dS,ba,dS,ze,zf]) (by simp[ab,dS,ba,dS,ze,zf])
 .rintro⟨n,out⟩ ⟨hn,hp,hg⟩;dsimp only at hn hp hg ⊢;refine af fw [0,4,5,6,54,55,56,57] [300] ?_;refine ah fun K6 fN=>ga (b:=n < l.length) (by simp[D.le,D.le.go,aL,ab,dS,ba]) (fun hc=>?_) (fun hc=>?_)
  .have dX:n < l.length:=hc;have ed:=GS ((l.take n).map cu) [] out (cu l[n]) hp;have bO:=GU (and:=false) ((l.take (n+1)).map cu) [] ((l.drop (n+1)).map cu);rw[<- abt,abm]at bO
   have e1:(l.take n).map cu ++ [cu l[n]]=(l.take (n+1)).map cu:=by
    rw[aa7 dX,abt];rfl
   rw[e1]at ed;have rC:=se _ _ _ hp;simp only[bx,abe]at rC
   have ye:bx out+bE (cu l[n])<=2^28:=by
    have h1:=lJ (n+1);rw[<- e1,lz]at h1;simp only[bx]at h1;omega
   have yT:=Hf (hw _ (aa6 dX));have dB:=gM _ (aa6 dX);obtain⟨cx,hx⟩:=j5 l[n];rw[hx]at dB;refine ax (fN _ (ah fun K7 eF=>bd ?_));have qf:=(Aq fw (Aq @dX @hx));refine aC [0,4,5,6,8,54,55,56] [300] ?_;clear gM;generalize cu l[n]=y at dB ed ye yT;have y4:=mz y;rw[y4]at dB;refine bB fw dB [0,4,5,6,9,54,55,56] [300] ?_;refine af fw [0,4,5,6,9,10,54,55,56] [300,63] ?_;refine AW.imp (aY.freeze 63 trivial) ?_;refine AW.st (by simp[ab,dS,ba];rfl) ?_;refine ah fun K8 eg=>?_;by_cases dk:y = .b5 true
   .subst dk;have pJ:iz false (.b5 true)=none:=rfl;rw[pJ]at ed;have hE:=bO ed;have e7:dR (ez false none) = .ip [dS [49],dS [],cJ]:=rfl;have dr:dt (.b5 true)=[49]:=rfl;refine lZ (aw _) ag [0,4,5,6,9,10,54,55,56,72] [300] aT ag fun K' ai=>?_;(repeat refine fm fun Kq ae=>?_;simp[ab,dS,ba,dr,ay,aJ];(repeat refine⟨aa,?_⟩);refine ae _ ?_);refine kW (ai _ ?_);refine AW.st (by simp[ab,dS,ba,dr,ay,aJ];rfl) ?_;refine aj (ax (eg _ ?_));refine ah fun K9 gd=>rg [0,4,5,6,9,10,54,55,56,82] [300] aT fun K' ai=>?_;(repeat refine aq fun Kq ae=>?_;simp[ab,dS,ba,dr,aJ,ay];(repeat refine⟨aa,?_⟩);refine ae _ ?_);refine aZ (ai _ (AW.st (by simp[ab,dS,ba,dr,aJ,ay];rfl) ?_));refine aj (ax (gd _ ?_));refine ah fun ky gb=>rg [0,4,5,6,10,54,55,56,88] [300] aT fun K' ai=>?_;(repeat refine aq fun Kq ae=>?_;simp[ab,dS,ba,dr,aJ,ay];(repeat refine⟨aa,?_⟩);refine ae _ ?_);refine aZ (ai _ (AW.st (by simp[ab,dS,ba,dr,aJ,ay];rfl) ?_));refine aD (af (Aq fw @cJ.eq_1) [2] [300,91] ?_);refine jk fw 91 ?_;refine bt ?_;simp[D.le,D.le.go,aL,ab,dS,ba,hE,e7,dS,cJ,bM,D.le_refl,D.aV]
   obtain⟨i,gQ⟩:∃ i,iz false y=some i:=by
    cases yL:iz false y with
    | some i=>exact⟨i,rfl⟩
    | none=>
     exfalso;apply dk
     cases y with
     | b5 b=>cases b<;>first | rfl | cases yL
     | _=>cases yL
   rw[gQ]at ed;dsimp only at ed;have yU:=L3 yT gQ;have Ej:=Ch gQ;obtain⟨k,hk⟩:∃ k:Option Bool,k=if jq y then some false else none:=⟨_,rfl⟩
   refine' KQ (fun e8=>?_) ?_
   rotate_left
   .by_cases lL:jq y=true
    .have hy:y = .b5 false:=by
      cases y with
      | b5 b=>cases b<;>first | rfl | exact absurd rfl dk
      | _=>cases lL
     have nz:i=[]:=by rw[hy]at gQ;exact (AI gQ).symm
     have ma:k=some false:=by rw[hk,lL];rfl
     have dr:dt y=[48]:=by rw[hy];rfl
     refine lZ (aw _) ag [0,4,5,6,9,10,54,55,56,72] [300] aT ag fun K' ai=>?_;(repeat refine fm fun Kq ae=>?_;simp[ab,dS,ba,dr,ay,aJ];(repeat refine⟨aa,?_⟩);refine ae _ ?_);refine kW (ai _ ?_);refine AW.st (by simp[ab,dS,ba,dr,ay,aJ];rfl) ?_;refine aj (ax (eg _ ?_));refine ah fun K9 gd=>rg [0,4,5,6,9,10,54,55,56,82] [300] aT fun K' ai=>?_;(repeat refine aq fun Kq ae=>?_;simp[ab,dS,ba,dr,aJ,ay];(repeat refine⟨aa,?_⟩);refine ae _ ?_);refine aZ (ai _ (AW.st (by simp[ab,dS,ba,dr,aJ,ay];rfl) ?_));refine aD (fc fw gd [0,4,5,6,9,10,54,55,56] [300] ?_);refine ah fun ky gb=>rg [0,4,5,6,10,54,55,56,88] [300] aT fun K' ai=>?_;(repeat refine aq fun Kq ae=>?_;simp[ab,dS,ba,dr,aJ,ay];(repeat refine⟨aa,?_⟩);refine ae _ ?_);refine aZ (ai _ (AW.st (by simp[ab,dS,ba,dr,aJ,ay];rfl) ?_));refine aj (ax (gb _ ?_));refine AW.imp (τ:=⟨bl [(0,.d (.ip [dS [124],dS [],.sl none (l.map fun e=>[dR e])])),(4,.d (dS [48])),(5,.d (dS [49])),(6,.own 300 0 out.length),(10,.d (.sl k (i.map fun e=>[dR e]))),(54,.d (.sl none (l.map fun e=>[dR e]))),(55,int l.length),(56,int n)],au [(300,.sl 119 1 (out.map fun e=>[dR e]))]⟩) ?_ ?_
     .refine bL (Aq fw (Aq @acB (Aq @nz @ma)))
     exact e8.out
    have qp:jq y=false:=by simpa using lL
    obtain⟨iZ,jr⟩:=FO qp
    have ma:k=none:=by rw[hk,qp];rfl
    by_cases gP:∃ m,y = .or m
    .obtain⟨m,hm⟩:=gP
     have nz:i=m:=by rw[hm]at gQ;exact (AI gQ).symm
     have dr:dt y=[124]:=by rw[hm];rfl
     have Fa:qI y = .sl none (i.map fun e=>[dR e]):=by rw[hm,nz];simp[qI,pr]
     refine lZ (aw _) ag [0,4,5,6,9,10,54,55,56,72] [300] aT ag fun K' ai=>?_;(repeat refine fm fun Kq ae=>?_;simp[ab,dS,ba,dr,ay,aJ];(repeat refine⟨aa,?_⟩);refine ae _ ?_);refine kW (ai _ ?_);refine AW.st (by simp[ab,dS,ba,dr,ay,aJ];rfl) ?_;refine aD ?_;have qf:=(Aq fw @Fa);refine nN eg [0,4,5,6,9,10,54,55,56] [300] ?_;refine ah fun K9 gd=>rg [0,4,5,6,9,10,54,55,56,82] [300] aT fun K' ai=>?_;(repeat refine aq fun Kq ae=>?_;simp[ab,dS,ba,dr,aJ,ay];(repeat refine⟨aa,?_⟩);refine ae _ ?_);refine aZ (ai _ (AW.st (by simp[ab,dS,ba,dr,aJ,ay];rfl) ?_));refine aj (ax (gd _ ?_));refine ah fun ky gb=>rg [0,4,5,6,10,54,55,56,88] [300] aT fun K' ai=>?_;(repeat refine aq fun Kq ae=>?_;simp[ab,dS,ba,dr,aJ,ay];(repeat refine⟨aa,?_⟩);refine ae _ ?_);refine aZ (ai _ (AW.st (by simp[ab,dS,ba,dr,aJ,ay];rfl) ?_));refine aj (ax (gb _ ?_));refine AW.imp (τ:=⟨bl [(0,.d (.ip [dS [124],dS [],.sl none (l.map fun e=>[dR e])])),(4,.d (dS [48])),(5,.d (dS [49])),(6,.own 300 0 out.length),(10,.d (.sl k (i.map fun e=>[dR e]))),(54,.d (.sl none (l.map fun e=>[dR e]))),(55,int l.length),(56,int n)],au [(300,.sl 119 1 (out.map fun e=>[dR e]))]⟩) ?_ ?_
     .refine bL (Aq fw (Aq @acB @ma))
     exact e8.out
    have mJ:¬ dt y=[124]:=by
     cases y with
     | or m=>exact absurd ⟨m,rfl⟩ gP
     | b5 b=>cases b<;>simp[dt]
     | _=>simp[dt]
    have nz:i=[y]:=by
     cases y with
     | or m=>exact absurd ⟨m,rfl⟩ gP
     | b5 b=>cases qp
     | _=>exact (AI gQ).symm
    have qt:(dt y == [124])=false:=by simpa using mJ
    have rJ:(dt y == [48])=false:=by simpa using iZ
    have rK:(dt y == [49])=false:=by simpa using jr
    refine lZ (aw _) ag [0,4,5,6,9,10,54,55,56,72] [300] aT ag fun K' ai=>?_;(repeat refine fm fun Kq ae=>?_;simp[ab,dS,ba,mJ,qt,ay,aJ];(repeat refine⟨aa,?_⟩);refine ae _ ?_);refine kW (ai _ ?_);refine AW.st (by simp[ab,dS,ba,mJ,qt,ay,aJ];rfl) ?_;refine aj (ax (eg _ ?_));refine ah fun K9 gd=>rg [0,4,5,6,9,10,54,55,56,82] [300] aT fun K' ai=>?_;(repeat refine aq fun Kq ae=>?_;simp[ab,dS,ba,iZ,jr,rJ,rK,aJ,ay];(repeat refine⟨aa,?_⟩);refine ae _ ?_);refine aZ (ai _ (AW.st (by simp[ab,dS,ba,iZ,jr,rJ,rK,aJ,ay];rfl) ?_));refine aj (ax (gd _ ?_));refine ah fun ky gb=>rg [0,4,5,6,10,54,55,56,88] [300] aT fun K' ai=>?_;(repeat refine aq fun Kq ae=>?_;simp[ab,dS,ba,iZ,jr,rJ,rK,aJ,ay];(repeat refine⟨aa,?_⟩);refine ae _ ?_);refine aZ (ai _ (AW.st (by simp[ab,dS,ba,iZ,jr,rJ,rK,aJ,ay];rfl) ?_));refine aj (ax (gb _ ?_));refine AW.imp (τ:=⟨bl [(0,.d (.ip [dS [124],dS [],.sl none (l.map fun e=>[dR e])])),(4,.d (dS [48])),(5,.d (dS [49])),(6,.own 300 0 out.length),(10,.d (.sl k (i.map fun e=>[dR e]))),(54,.d (.sl none (l.map fun e=>[dR e]))),(55,int l.length),(56,int n)],au [(300,.sl 119 1 (out.map fun e=>[dR e]))]⟩) ?_ ?_
    .refine bL (Aq fw (Aq @acB (Aq @ma (Aq @nz @y4))))
    exact e8.out
   .refine af fw [0,4,5,6,54,55,56,92,93,94] [300] ?_;have dG:=lA i;refine eD (S:=Nat×List Ex) (fun z=>z.1<=i.length/\gz out (i.take z.1)=some z.2/\n5 false z.2) (fun z=>⟨bl [(0,.d (.ip [dS [124],dS [],.sl none (l.map fun e=>[dR e])])),(4,.d (dS [48])),(5,.d (dS [49])),(6,.own 300 0 z.2.length),(54,.d (.sl none (l.map fun e=>[dR e]))),(55,int l.length),(56,int n),(92,.d (.sl k (i.map fun e=>[dR e]))),(93,int i.length),(94,int z.1)],au [(300,.sl 119 1 (z.2.map fun e=>[dR e]))]⟩) (fun z=>i.length - z.1) (0,out) ?_ ⟨aa,rfl,hg⟩ ?_
    .refine bL (Aq fw @acB)
    .rintro⟨m,o⟩ ⟨hm,pK,cM⟩;dsimp only at hm pK cM ⊢;refine af fw [0,4,5,6,54,55,56,92,93,94,95] [300] ?_;refine ah fun xl qm=>ga (b:=m < i.length) (by simp[D.le,D.le.go,aL,ab,dS,ba]) (fun hc=>?_) (fun hc=>?_)
     .have fj:m < i.length:=hc;have lP:=yU _ (aa6 fj);have jo:=Db (i.take m) out o i[m] pK;have yR:=Dc (i.take (m+1)) out (i.drop (m+1));rw[abm]at yR;rw[<- aa7 fj]at jo;have Q7:=Ae _ _ _ pK;have da:=lz (i.take m) (i.drop m);rw[abm]at da;have Q6:=qd (aa6 fj);have jT:=lA o;have Fb:∀ z∈o,bE z<=bx o:=fun z hz=>qd hz;rw[<- add_same cM lP]at jo;have Q8:=LR i[m];have rX:=GQ G i[m];have rY:=u6 G (eA i[m]) (by have:=pj (eA i[m]);omega);have uN:=u6 G i[m] (by have:=pj i[m];omega);have hU:aB (eA i[m]) 0=fZ (eA i[m]):=rfl;have mh:aB i[m] 0=fZ i[m]:=rfl;rw[hU]at rY;rw[mh]at uN;obtain⟨co,oZ⟩:=j5 (eA i[m]);obtain⟨ci,gN⟩:=j5 i[m];rw[oZ]at rX rY;rw[gN]at rX uN;refine ax (qm _ (ah fun zX qn=>bd ?_));have qf:=(Aq fw (Aq @fj @gN));refine aC [0,4,5,6,12,54,55,56,92,93,94] [300] ?_;refine af fw [0,4,5,6,12,13,54,55,56,92,93,94] [300] ?_;refine ah fun zY rv=>af fw [0,4,5,6,12,13,54,55,56,92,93,94,98,99,100] [300] ?_;refine eD (S:=Nat) (fun j=>j<=o.length/\fV (o.take j) (eA (i[m]'fj))=false) (fun j=>⟨bl [(0,.d (.ip [dS [124],dS [],.sl none (l.map fun e=>[dR e])])),(4,.d (dS [48])),(5,.d (dS [49])),(6,.own 300 0 o.length),(12,.d (.ip ci)),(54,.d (.sl none (l.map fun e=>[dR e]))),(55,int l.length),(56,int n),(92,.d (.sl k (i.map fun e=>[dR e]))),(93,int i.length),(94,int m),(13,.d (.v (.bool (fV (o.take j) (i[m]'fj))))),(98,.own 300 0 o.length),(99,int o.length),(100,int j)],au [(300,.sl 119 1 (o.map fun e=>[dR e]))]⟩) (fun j=>o.length - j) 0 ?_ ⟨aa,rfl⟩ ?_
      .refine bL (Aq fw (Aq @acB @fV.eq_1))
      .rintro j ⟨hj,eQ⟩;refine af fw [0,4,5,6,12,13,54,55,56,92,93,94,98,99,100,101] [300] ?_;refine ah fun xm ry=>ga (b:=j < o.length) (by simp[D.le,D.le.go,aL,ab,dS,ba]) (fun hc=>?_) (fun hc=>?_)
       .have mH:j < o.length:=hc;have pQ:=u6 G o[j] (by have:=pj o[j];have:=Fb _ (aa6 mH);omega);have pS:aB o[j] 0=fZ o[j]:=rfl;rw[pS]at pQ;have kh:=Bf (x:=eA (i[m]'fj)) mH;have rW:=Bf (x:=i[m]'fj) mH;have EL:=Jq (x:=eA (i[m]'fj)) mH;obtain⟨cz,yg⟩:=j5 o[j];rw[yg]at pQ;refine ax (ry _ (ah fun zZ pB=>bd ?_));have qf:=(Aq fw (Aq @mH @yg));refine aC [0,4,5,6,12,13,15,54,55,56,92,93,94,98,99,100] [300] ?_;refine ah fun N4 D7=>?_;by_cases heq:fZ (o[j]'mH)=fZ (eA (i[m]'fj))
        .have rO:nk o (i[m]'fj)=none:=by unfold nk;rw[if_pos (EL heq)]
         rw[rO]at jo;rw[yR jo]at ed;have hE:=bO ed;have e7:dR (ez false none) = .ip [dS [49],dS [],cJ]:=rfl;refine rg [0,4,5,6,12,13,15,54,55,56,92,93,94,98,99,100,109] [300] aT fun K' ai=>?_;(repeat refine aq fun Kq ae=>?_;simp[ab,dS,ba,heq,ay,aJ];(repeat refine⟨aa,?_⟩);refine ae _ ?_);refine aq fun Kq ae=>?_;simp[ab,dS,ba,heq,ay,aJ];refine ch.data (pQ) bq (by first | exact D.aV _ | simp[aL,IS,AT,D.le,D.le.go,D.le_refl,D.aV,ab,dS,ba,heq,ay,aJ]) ?_;refine ae _ ?_;simp only[aR,cw];(repeat refine aq fun Kq ae=>?_;simp[ab,dS,ba,heq,ay,aJ];(repeat refine⟨aa,?_⟩);refine ae _ ?_);refine aq fun Kq ae=>?_;simp[ab,dS,ba,heq,ay,aJ];refine ch.data (rX) bq (by first | exact D.aV _ | simp[aL,IS,AT,D.le,D.le.go,D.le_refl,D.aV,ab,dS,ba,heq,ay,aJ]) ?_;refine ae _ ?_;simp only[aR,cw];(repeat refine aq fun Kq ae=>?_;simp[ab,dS,ba,heq,ay,aJ];(repeat refine⟨aa,?_⟩);refine ae _ ?_);refine aq fun Kq ae=>?_;simp[ab,dS,ba,heq,ay,aJ];refine ch.data (rY) bq (by first | exact D.aV _ | simp[aL,IS,AT,D.le,D.le.go,D.le_refl,D.aV,ab,dS,ba,heq,ay,aJ]) ?_;refine ae _ ?_;simp only[aR,cw];(repeat refine aq fun Kq ae=>?_;simp[ab,dS,ba,heq,ay,aJ];(repeat refine⟨aa,?_⟩);refine ae _ ?_);refine aZ (ai _ (AW.st (by simp[ab,dS,ba,heq,ay,aJ];rfl) ?_));refine aD (af (Aq fw @cJ.eq_1) [2] [300,112] ?_);refine jk fw 112 ?_;refine bt ?_;simp[D.le,D.le.go,aL,ab,dS,ba,hE,e7,dS,cJ,bM,D.le_refl,D.aV]
        have iL:(fZ (o[j]'mH) == fZ (eA (i[m]'fj)))=false:=by simpa using heq
        rw[eQ,iL]at kh;refine rg [0,4,5,6,12,13,15,54,55,56,92,93,94,98,99,100,109] [300] aT fun K' ai=>?_;(repeat refine aq fun Kq ae=>?_;simp[ab,dS,ba,heq,iL,ay,aJ];(repeat refine⟨aa,?_⟩);refine ae _ ?_);refine aq fun Kq ae=>?_;simp[ab,dS,ba,heq,iL,ay,aJ];refine ch.data (pQ) bq (by first | exact D.aV _ | simp[aL,IS,AT,D.le,D.le.go,D.le_refl,D.aV,ab,dS,ba,heq,iL,ay,aJ]) ?_;refine ae _ ?_;simp only[aR,cw];(repeat refine aq fun Kq ae=>?_;simp[ab,dS,ba,heq,iL,ay,aJ];(repeat refine⟨aa,?_⟩);refine ae _ ?_);refine aq fun Kq ae=>?_;simp[ab,dS,ba,heq,iL,ay,aJ];refine ch.data (rX) bq (by first | exact D.aV _ | simp[aL,IS,AT,D.le,D.le.go,D.le_refl,D.aV,ab,dS,ba,heq,iL,ay,aJ]) ?_;refine ae _ ?_;simp only[aR,cw];(repeat refine aq fun Kq ae=>?_;simp[ab,dS,ba,heq,iL,ay,aJ];(repeat refine⟨aa,?_⟩);refine ae _ ?_);refine aq fun Kq ae=>?_;simp[ab,dS,ba,heq,iL,ay,aJ];refine ch.data (rY) bq (by first | exact D.aV _ | simp[aL,IS,AT,D.le,D.le.go,D.le_refl,D.aV,ab,dS,ba,heq,iL,ay,aJ]) ?_;refine ae _ ?_;simp only[aR,cw];(repeat refine aq fun Kq ae=>?_;simp[ab,dS,ba,heq,iL,ay,aJ];(repeat refine⟨aa,?_⟩);refine ae _ ?_);refine aZ (ai _ (AW.st (by simp[ab,dS,ba,heq,iL,ay,aJ];rfl) ?_));refine aj (ax (D7 _ ?_))
        cases pP:fV (o.take j) (i[m]'fj) with
        | true=>
         rw[pP]at rW;refine fc fw pB [0,4,5,6,12,13,54,55,56,92,93,94,98,99,100] [300] ?_;refine fe fw ?_;(try simp only[bY,b9]);refine cC.mk (j+1) ⟨aa,kh⟩ aa ?_;refine bL (Aq fw (Aq @acB @rW))
        | false=>
         rw[pP]at rW;refine ea (aw _) fun K' ai=>?_;(repeat refine aq fun Kq ae=>?_;simp[ab,dS,ba,ay,aJ];(repeat refine⟨aa,?_⟩);refine ae _ ?_);refine aq fun Kq ae=>?_;simp[ab,dS,ba,ay,aJ];refine ch.data (pQ) bq (by first | exact D.aV _ | simp[aL,IS,AT,D.le,D.le.go,D.le_refl,D.aV,ab,dS,ba,ay,aJ]) ?_;refine ae _ ?_;simp only[aR,cw];(repeat refine aq fun Kq ae=>?_;simp[ab,dS,ba,ay,aJ];(repeat refine⟨aa,?_⟩);refine ae _ ?_);refine aq fun Kq ae=>?_;simp[ab,dS,ba,ay,aJ];refine ch.data (uN) bq (by first | exact D.aV _ | simp[aL,IS,AT,D.le,D.le.go,D.le_refl,D.aV,ab,dS,ba,ay,aJ]) ?_;refine ae _ ?_;simp only[aR,cw];(repeat refine aq fun Kq ae=>?_;simp[ab,dS,ba,ay,aJ];(repeat refine⟨aa,?_⟩);refine ae _ ?_);refine aZ (ai _ ?_);refine pB _ (AW.norm [0,4,5,6,12,13,54,55,56,92,93,94,98,99,100] [300] aT (AW.st (by simp[ab,dS,ba,ay,aJ];rfl) ?_));refine fe fw ?_;(try simp only[bY,b9]);refine cC.mk (j+1) ⟨aa,kh⟩ aa ?_;refine bL (Aq fw (Aq @acB @rW))
       .obtain rfl:j=o.length:=aa
        rw[abo]at eQ ⊢;refine cX (rv _ ?_)
        cases pP:fV o (i[m]'fj) with
        | true=>
         have mD:nk o (i[m]'fj)=some o:=by unfold nk;rw[if_neg (by rw[eQ];simp),if_pos pP]
         rw[mD]at jo;refine af fw [0,4,5,6,12,54,55,56,92,93,94,123] [300] ?_;refine aj (ax (qn _ ?_));refine fe fw ?_;(try simp only[bY,b9]);refine cC.mk (m+1,o) ⟨by dsimp only;omega,jo,cM⟩ (by dsimp only;omega) ?_;refine bL (Aq fw @acB)
        | false=>
         have mD:nk o (i[m]'fj)=some (o ++ [i[m]'fj]):=by unfold nk;rw[if_neg (by rw[eQ];simp),if_neg (by rw[pP];simp)]
         rw[mD]at jo;have ym:=I3 hg (fun z hz=>yU z (abi hz)) jo;refine af fw [0,4,5,6,12,54,55,56,92,93,94,123] [300] ?_;refine aD (ea (aw _) fun K' ai=>?_);(repeat refine aq fun Kq ae=>?_;simp[ab,dS,ba,sh];(repeat refine⟨aa,?_⟩);refine ae _ ?_);refine aZ (ai _ ?_);refine qn _ (AW.norm [0,4,5,6,54,55,56,92,93,94] [300] aT (AW.st (by simp[ab,dS,ba,sh];rfl) ?_));refine fe fw ?_;(try simp only[bY,b9]);refine cC.mk (m+1,o ++ [i[m]'fj]) ⟨by dsimp only;omega,jo,ym⟩ (by dsimp only;omega) ?_;refine bL (Aq fw (Aq @acB @gN))
     .obtain rfl:m=i.length:=aa
      rw[abo]at pK;rw[pK]at ed;refine cX (eF _ (fe fw ?_));(try simp only[bY,b9]);refine cC.mk (n+1,o) ⟨by dsimp only;omega,ed,cM⟩ (by dsimp only;omega) ?_;refine bL (Aq fw @acB)
  .obtain rfl:n=l.length:=aa
   rw[abo]at hp;have jT:=lA out;have rC:=se _ _ _ hp;have eG:=lJ l.length;rw[abo]at eG;simp only[bx,abe]at rC;refine cX (cI _ (ah fun N5 D8=>af fw [0,4,6,131] [300] ?_));refine bd ?_
   match out,jT,hp with
   | [],_,hp=>
    have e7:dR (ez false (some [])) = .ip [dS [48],dS [],cJ]:=rfl;refine af fw [0,4,6,131,132] [300] ?_;refine aD (af (Aq fw @cJ.eq_1) [2] [300,136] ?_);refine jk fw 136 ?_;refine bt ?_;simp[D.le,D.le.go,aL,ab,dS,ba,hp,e7,dS,cJ,bM,D.le_refl,D.aV]
   | [x],_,hp=>
    have e7:ez false (some [x])=x:=rfl;obtain⟨cx,hx⟩:=j5 x;refine af fw [0,4,6,131,132] [300] ?_;refine aj (af fw [0,6,137] [300] ?_);refine aD ?_;have qf:=(Aq fw @hx);refine aC [2] [300] ?_;exact bg (Aq fw (Aq @hp (Aq @e7 @hx)))
   | x :: y :: q,jT,hp=>
    have e7:dR (ez false (some (x :: y :: q))) = .ip [dS [124],dS [],.sl none ((x :: y :: q).map fun e=>[dR e])]:=IE false _
    have kM:¬ (((x :: y :: q).length:Int)=0):=by simp;omega
    have iM:¬ (((x :: y :: q).length:Int)=1):=by simp;omega
    generalize x :: y :: q=o at kM iM jT hp e7 ⊢
    have ux:¬ o.length=0:=aa
    have uy:¬ o.length=1:=aa
    have uz:¬ o=[]:=by rintro rfl;simp at kM
    have qf:=(Aq fw (Aq @kM (Aq @ux @uz)));refine aC [0,4,6,131,132] [300] ?_;refine aj ?_;have qf:=(Aq fw (Aq @iM @uy));refine aC [0,6,137] [300] ?_;refine aj (ax (D8 _ ?_));refine AW.imp (aY.freeze 300 trivial) ?_;refine AW.st (by simp[ab,dS,ba,sh];rfl) ?_;refine af fw [2] [148] ?_;refine jk fw 148 ?_;refine bt ?_;simp[D.le,D.le.go,aL,ab,dS,ba,hp,e7,dS,bM,D.le_refl,D.aV]
theorem Ws (G:aF):∀ (n:Nat) (e:Ex),SizeOf.sizeOf e<=n->ew e->bE e<=2^27->aH prog G 124 [dR e] (dR (cu e)):=by
 intro n
 induction n with
 | zero=>intro e bc;cases e<;>simp at bc
 | succ n ih=>
  intro e bc hw hb;by_cases hN:∃ x,e = .not x
  .obtain⟨x,rfl⟩:=hN;have hc:=ih x (by simp at bc;omega) hw (by simp only[bE]at hb;omega);have ho:=GQ G (cu x);obtain⟨cx,hx⟩:=j5 x;rw[cu,dR,hx];rw[hx]at hc;generalize cu x=y at hc ho ⊢;by_cases lL:jq y=true
   .obtain⟨b,rfl⟩:∃ b,y = .b5 b:=by
     cases y with
     | b5 b=>exact⟨b,rfl⟩
     | _=>cases lL
    cases b with
    | false=>
     have hf:dR (ll (.b5 false)) = .ip [dS [49],dS [],cJ]:=rfl;have hg:dR (.b5 false) = .ip [dS [48],dS [],cJ]:=rfl;rw[hf];rw[hg]at hc;refine aH.aU (aw _) func124 rfl rfl (rs:=[.tmp 2]) results124 (by simp[ntmps124]) fun X=>?_;simp only[ntmps124,List.map];have fw:=ac6;refine af fw [0] [] ?_;refine ah fun K1 aI=>af fw [0,19] [] ?_;refine bd (af fw [0,19,20] [] ?_);refine aD (bB fw hc [3] [] ?_);refine ah fun K2 ak=>af fw [3,32] [] ?_;refine bd (af fw [3,32,33] [] ?_);refine aD ?_;have qf:=(Aq fw (Aq @cJ.eq_1 @zf));refine aC [2] [36] ?_;refine jk fw 36 ?_;refine bt ?_;simp[D.le,D.le.go,aL,ab,dS,ba,dS,cJ,bM,D.le_refl,D.aV]
    | true=>
     have hf:dR (ll (.b5 true)) = .ip [dS [48],dS [],cJ]:=rfl;have hg:dR (.b5 true) = .ip [dS [49],dS [],cJ]:=rfl;rw[hf];rw[hg]at hc;refine aH.aU (aw _) func124 rfl rfl (rs:=[.tmp 2]) results124 (by simp[ntmps124]) fun X=>?_;simp only[ntmps124,List.map];have fw:=ac6;refine af fw [0] [] ?_;refine ah fun K1 aI=>af fw [0,19] [] ?_;refine bd (af fw [0,19,20] [] ?_);refine aD (bB fw hc [3] [] ?_);refine ah fun K2 ak=>af fw [3,32] [] ?_;refine bd (af fw [3,32,33] [] ?_);refine aj (af fw [3,37] [] ?_);refine aD ?_;have qf:=(Aq fw (Aq @cJ.eq_1 @ze));refine aC [2] [40] ?_;refine jk fw 40 ?_;refine bt ?_;simp[D.le,D.le.go,aL,ab,dS,ba,dS,cJ,bM,D.le_refl,D.aV]
   .have qp:jq y=false:=by simpa using lL
    obtain⟨iZ,jr⟩:=FO qp
    have bw:ll y=eA y:=by
     cases y with
     | b5 b=>cases qp
     | _=>rfl
    rw[bw];obtain⟨co,oZ⟩:=j5 (eA y);rw[oZ]at ho ⊢;rw[mz y]at hc ho;refine aH.aU (aw _) func124 rfl rfl (rs:=[.tmp 2]) results124 (by simp[ntmps124]) fun X=>?_;simp only[ntmps124,List.map];have fw:=ac6;refine af fw [0] [] ?_;refine ah fun K1 aI=>af fw [0,19] [] ?_;refine bd (af fw [0,19,20] [] ?_);refine aD (bB fw hc [3] [] ?_);refine ah fun K2 ak=>af fw [3,32] [] ?_;refine bd ?_;have qf:=(Aq fw @iZ);refine aC [3,32,33] [] ?_;refine aj ?_;have qf:=(Aq fw @jr);refine aC [3,37] [] ?_;refine aj (ax (ak _ ?_));refine bB fw ho [2] [] ?_;exact bg fw
  by_cases hA:∃ l,e = .and l
  .obtain⟨l,rfl⟩:=hA;have:=Wr G l ((kz _).1 hw.2) (by simp only[bE]at hb;omega) (fun x hx=>ih x (by have:=aba hx;simp only[Ex.and.sizeOf_spec]at bc;omega) ((kz _).1 hw.2 x hx) (by have:=qd hx;simp only[bE]at hb;omega));rw[cu,dR,pr];exact this
  by_cases hO:∃ l,e = .or l
  .obtain⟨l,rfl⟩:=hO;have:=Wt G l ((kz _).1 hw.2) (by simp only[bE]at hb;omega) (fun x hx=>ih x (by have:=aba hx;simp only[Ex.or.sizeOf_spec]at bc;omega) ((kz _).1 hw.2 x hx) (by have:=qd hx;simp only[bE]at hb;omega));rw[cu,dR,pr];exact this
  have hid:cu e=e:=by
   cases e with
   | not x=>exact absurd ⟨x,rfl⟩ hN
   | and x=>exact absurd ⟨x,rfl⟩ hA
   | or x=>exact absurd ⟨x,rfl⟩ hO
   | _=>rfl
  have R5:¬ dt e=[33]:=KH (by
   cases e with
   | not x=>exact absurd ⟨x,rfl⟩ hN
   | _=>rfl)
  obtain⟨yt,yq⟩:=TC (y:=e) (fun m h=>hA ⟨m,h⟩) (fun m h=>hO ⟨m,h⟩);rw[hid,mz e];refine aH.aU (aw _) func124 rfl rfl (rs:=[.tmp 2]) results124 (by simp[ntmps124]) fun X=>?_;simp only[ntmps124,List.map];have fw:=ac6;refine af fw [0] [] ?_;refine ah fun K1 aI=>af fw [0,19] [] ?_;refine bd ?_;have qf:=(Aq fw @R5);refine aC [0,19,20] [] ?_;refine aj (ah fun K3 bF=>?_);have qf:=(Aq fw @yt);refine aC [0,19,43] [] ?_;refine aj ?_;have qf:=(Aq fw @yq);refine nN bF [0,43] [] ?_;refine aj (ax (aI _ ?_));refine af fw [2] [] ?_;exact bg fw
theorem Wu (G:aF) (e:Ex) (hw:ew e) (hb:bE e<=2^27):aH prog G 124 [dR e] (dR (cu e)):=Ws G _ e (aa8 _) hw hb
theorem Dx {p:dJ} {c:Int} {o:Option Nat} (h:gJ p=some (c,o)):c≠0:=by
 unfold gJ at h;split at h
 .simp only[BY,aa4]at h;omega
 split at h
 .rename_i hf;simp only[BY,aa4]at h;have:=(xO hf).2.2;rw[<- h.1];exact this
 split at h
 .rename_i hf;simp only[BY,aa4]at h;have:=(xO hf).2.2;rw[<- h.1];exact this
 .cases h
theorem Gl {s:Tx} (h:gr s=true):s≠[]/\s.length<=8:=by
 unfold gr at h;simp only[OF,decide_eq_true_eq]at h;exact⟨h.1,h.2.1⟩
theorem Ul {s:Tx} {r:gy} (h:fY s = .nQ r):∃ e,r.cond=some e/\ew e/\lE e<=20/\bE e<=10000:=by
 unfold fY at h;split at h
 .obtain⟨k,nm,hm,hr⟩:=MQ h;obtain⟨e,he,hp,_,hn,_⟩:=MU hr;exact⟨e,he,(GG hp).1,(GG hp).2,LX hp⟩
 .exact absurd h Lm
def vq (r:gy):Prop:=∃ e,r.cond=some e/\ew e/\lE e<=20/\bE e<=10000
theorem L6 {l:List Tx}:∀ {k:Nat} {s:ni},fE l k = .inr s->∀ r∈s.ao,vq r
 | 0,s,h=>by
  simp only[fE,acy]at h;subst h;simp[nM]
 | k+1,s,h=>by
  rw[fE]at h
  cases hk:fE l k with
  | inl e=>rw[hk]at h;cases h
  | inr s0=>
   rw[hk]at h;dsimp only at h;have ih:=L6 hk;unfold jY at h;split at h
   .simp only[acy]at h;subst h;exact ih
   .split at h
    .cases h
    .cases h
    .split at h
     .simp only[acy]at h;subst h;exact ih
     .cases h
    .rename_i r hr;simp only[acy]at h;subst h;intro r' lg
     rcases abr.1 lg with h1 | h1
     .exact ih r' h1
     .obtain rfl:=abV.1 h1;exact Ul hr
theorem Vu {t:Tx} {p:dJ} (h:ie t=(none,p)):gJ p=none/\∀ r∈p.ao,vq r:=by
 unfold ie at h;split at h
 .cases h
 .split at h
  .cases h
  .rename_i s hs;split at h
   .rename_i hc;simp only[aa4,true_and]at h;subst h;exact⟨hc,L6 hs⟩
   .cases h
   .cases h
theorem Vt {t:Tx} {e:Int×Option Nat} (h:(ie t).1=some e):(ie t).2=⟨[],[]⟩:=by
 by_cases h1:20000 < t.length
 .unfold ie;rw[if_pos h1]
 .cases hs:fE (eE 10 t) (eE 10 t).length with
  | inl ci=>obtain⟨c,i⟩:=ci;rw[GC aa hs]
  | inr s=>
   rw[GD aa hs]at h ⊢
   cases hc:gJ ⟨s.names,s.ao⟩ with
   | none=>rw[hc]at h;cases h
   | some co=>
    obtain⟨c,o⟩:=co;cases o<;>rfl
theorem Nq {p:dJ} (hc:gJ p=none) (hk:∀ r∈p.ao,vq r):sv p:=by
 have hg:=xz hc;have hr:=It hc;refine⟨fun n hn=>?_,fun r J2=>?_,?_,?_,fun he=>?_⟩
 .obtain⟨h1,h2,h3⟩:=hg.name n hn;have h4:=Gl h1
  rcases hg.count n hn with h5 | h5<;>exact⟨⟨h2,h3⟩,aa,aa⟩
 .obtain⟨h1,h2,_⟩:=hr r J2;obtain⟨e,he,hw,_,hb⟩:=hk r J2;obtain⟨k,hk,sS,Sb⟩:=wI h2
  have Sc:p.names[k].name=r.name:=by simpa using Sb
  have h4:=Gl (hg.name _ (aa6 hk)).1;rw[Sc]at h4;exact⟨h1,aa,e,he,aa,hw⟩
 .have:=hg.names;omega
 .have:=hg.ao;omega
 .cases jW:p.ao with
  | nil=>rfl
  | cons r l=>
   obtain⟨_,h2,_⟩:=hr r (by rw[jW];simp);obtain⟨k,hk,_⟩:=wI h2;rw[he]at hk;simp at hk
structure qa where
 is:List Bool
 ct:List Int
def Ic (p:dJ) (l:List Bool) (s:Tx):Bool:=l.getD (dy p s).toNat false
def P9 (is b7:Tx->Bool):Option Ex->Bool
 | some e=>gK is b7 e
 | none=>false
def nd (s:qa) (i:Nat) (m:Int) (yes:Bool):qa:=
 let c:=if yes then (if s.ct.getD i 0+1 < m then s.ct.getD i 0+1 else m) else s.ct.getD i 0
 ⟨s.is.set i (decide (m<=c)),s.ct.set i c⟩
def NJ (s:qa) (i:Nat):qa:=⟨s.is.set i false,s.ct.set i 0⟩
def WD (p:dJ) (sc t:qa) (r:gy):qa:=
 let i:=(dy p r.name).toNat
 let yes:=P9 (Ic p t.is) (Ic p sc.is) r.cond
 let m:=(p.names.getD i ⟨[],0,0⟩).count
 if r.kind=1 then ⟨t.is.set i yes,t.ct⟩
 else if r.kind=2 then ⟨t.is.set i (t.is.getD i false || yes),t.ct⟩
 else if r.kind=3 then ⟨t.is.set i (t.is.getD i false && !yes),t.ct⟩
 else if r.kind=4 then (if yes then nd t i m yes else NJ (nd t i m yes) i)
 else if r.kind=5 then nd t i m yes
 else if r.kind=6 then (if yes then NJ t i else t)
 else t
def Mb (at':List Int) (uX:List Bool) (is:List Bool):Nat->List Bool
 | 0=>is
 | k+1=>(Mb at' uX is k).set (at'.getD k 0).toNat (uX.getD k false)
def FH (p:dJ):List Int:=KK p.names 1 p.names.length
def PE (p:dJ) (s:qa) (uX:List Bool):qa:=p.ao.foldl (WD p s) ⟨Mb (FH p) uX s.is (FH p).length,s.ct⟩
def M8 (p:dJ) (s:qa) (uX:List Bool):(Int×Option Nat) ⊕ qa:=match gJ p with
 | some e=>.inl e
 | none=>if uX.length≠(FH p).length\/s.is.length≠p.names.length\/s.ct.length≠p.names.length then .inl (2,none) else .inr (PE p s uX)
def wJ:Ex->Bool
 | .b5 b=>!b
 | _=>false
def y6 (k:Int):Bool:=k == 2 || k == 3 || k == 6 || k == 5
def sI (r:gy):Bool:=y6 r.kind && (match r.cond with | some e=>wJ (cu e) | none=>false)
def si (r:gy):gy:=⟨r.kind,r.name,r.cond.map cu⟩
def fS (l:List gy):List gy:=(l.filter fun r=>!sI r).map si
def p8 (p:dJ):dJ:=⟨p.names,fS p.ao⟩
theorem CJ:fS []=[]:=rfl
theorem Nk {l:List gy} {i:Nat} (h:i < l.length):fS (l.take (i+1))=fS (l.take i) ++ (if sI l[i] then [] else [si l[i]]):=by
 rw[aa7 h,fS,fS,List.filter_append,abt];cases hg:sI l[i]<;>simp[hg]
theorem Hg (l:List gy):(fS l).length<=l.length:=by
 rw[fS,abq];exact List.length_filter_le _ _
theorem Y1 {l:List gy} {r:gy} (h:r∈fS l):∃ s∈l,sI s=false/\r=si s:=by
 rw[fS,abE]at h;obtain⟨s,hs,rfl⟩:=h;rw[List.mem_filter]at hs;exact⟨s,hs.1,by simpa using hs.2,rfl⟩
theorem Y2 {e:Ex} (h:ew e):ew (cu e):=tI _ (Hf h)
theorem Nr {p:dJ} (hp:sv p):sv (p8 p):=by
 obtain⟨h1,h2,h3,h4,h5⟩:=hp;refine⟨h1,fun r hr=>?_,h3,?_,fun h=>?_⟩
 .obtain⟨s,hs,_,rfl⟩:=Y1 hr;obtain⟨ha,hb,e,he,sM,hw⟩:=h2 s hs;refine⟨ha,hb,cu e,?_,?_,Y2 hw⟩
  .show s.cond.map cu=_;rw[he];rfl
  .have:=zP e;omega
 .have:=Hg p.ao;show (fS p.ao).length<=100;omega
 .show fS p.ao=[];rw[h5 h];rfl
theorem KL {p:dJ} (hc:gJ p=none):∀ r∈p.ao,1<=r.kind/\r.kind<=6:=fun r hr=>(It hc r hr).1
end Go.Proofs.YtoohljflflnbeaaGreatDoor
namespace Go.Av
section
variable {P:Program} {T:Ty} {Mv X:Nat->Prop} {G:aF} {N:Fr} {w:World} {μ:Mu} {a:Act} {σ:St} {ops:Array Oper}
def patch (R:List Nat) (H0 H2:Heap):Heap:=fun q=>if R.contains q then H0 q else H2 q
def HM (R:List Nat) (H:Heap):Prop:=∀ q,R.contains q=true->H q=none\/∃ (t:TypeId) (cs:List D),H q=some (.box t (cs.map AV.d))
def N8 (R:List Nat) (H0 H:Heap):Prop:=∀ q,R.contains q=false->H0 q=H q
def LC (R:List Nat):AV->Bool
 | .ref r _ _=>!R.contains r
 | _=>true
def N0 (P:Program) (G:aF) (cg R:List Nat) (g:FuncId) (xs:List AV) (H:Heap) (y:AV) (H2:Heap):Prop:=
 HM R H/\(∀ q,R.contains q=true->H2 q=H q)/\∀ H0,HM R H0->N8 R H0 H->HC P G cg g xs H0 y (patch R H0 H2)
def QV (P:Program) (T:Ty) (Mv:Nat->Prop) (G:aF) (cg R:List Nat) (ops:Array Oper) (ex:List (Nat×AV)) (g:FuncId) (xs:List AV) (σ:St) (dst:Option Tmp) (K:St->Prop):Prop:=∃ y H2,(∀ r∈cg,Mv r)/\N0 P G cg R g xs σ.H y H2/\(∀ p∈ex,jg T ops σ.H H2 p/\LC R p.2=true)/\mu cg y/\K ⟨aR σ.env dst y,H2⟩
def W5 (P:Program) (T:Ty) (Mv:Nat->Prop) (G:aF) (N:Fr) (cg R db hv:List Nat) (ex:List (Nat×AV)) (ops:Array Oper) (i:Nat) (o:Oper) (σ:St) (K:St->Prop):Prop:=iy N o/\o.guard=none/\
 if db.contains i=true then (match nu T G σ.env o with
  | some (c,y)=>c/\K ⟨aR σ.env o.dst (.d y),σ.H⟩
  | none=>False)
 else if hv.contains i=true then (match eH o.op with
  | some c=>match lx G σ.env c with
   | some (g,xs)=>QV P T Mv G cg R ops ex g xs σ o.dst K
   | none=>False
  | none=>False)
 else kindOf o.op≠9/\r7 G ex i o σ.env/\match eH o.op with
  | some c=>mw P G c σ.env o.dst σ.H [] [] K
  | none=>Ci T G Mv cg o σ K
end
attribute [simp] W5
attribute [simp] LC
end Go.Av
namespace Go.Proofs.YtoohljflflnbeaaGreatDoor
open Go.Av
theorem WV {p:dJ} (eN:gJ p=none) (hk:∀ r∈p.ao,vq r):Aa p:=by
 have hg:=xz eN;have jS:=hg.names;have oI:=hg.ao;refine⟨aa,aa,fun n hn=>?_,fun r hr e he=>?_⟩
 .have:=Gl (hg.name n hn).1;omega
 .obtain⟨e',mF,_,_,hb⟩:=hk r hr;rw[he]at mF;obtain rfl:=AI mF;have h1:=Lib.compact_length_le (nS (fD true e));have h2:=vc (fD true e);have h3:=B9 true e;refine⟨aa,?_⟩;unfold iQ;omega
theorem Pc (G:aF) (l:List gE) (h:l.length < 2^40):aH prog G 122 [ey l] (ey l):=by
 have yy:(l.map bH).length=l.length:=al
 have q1:(∀ el∈l.map bH,el.length=3)=True:=eq_true fun el h=>by obtain⟨b,_,rfl⟩:=abE.1 h;rfl
 have q2:(∀ el∈l.map bH,∀ c∈el,c.one=true)=True:=eq_true fun el h c hc=>by
  obtain⟨b,_,rfl⟩:=abE.1 h;simp only[bH,abg,List.not_mem_nil,or_false]at hc
  rcases hc with rfl | rfl | rfl<;>rfl
 simp only[ey];rw[<- yy]at h;generalize l.map bH=L at *;refine aH.aU (aw _) func122 rfl rfl (rs:=[.tmp 2]) results122 (by simp[ntmps122]) fun X=>?_;simp only[ntmps122,List.map];refine AW.U1 0 rfl ?_ fun hl=>?_
 .refine aO [0] [] ?_;refine ah fun K1 aI=>aO [0,4] [] ?_;refine tN false rfl (fun hc=>by cases hc) (fun hc=>?_);refine ax (aI _ ?_);have qf:=(Aq @q1 @q2);refine aC [2] [5,7] ?_;exact kr
 .refine aO [0] [] ?_;refine ah fun K1 aI=>aO [0,4] [] ?_;refine tN true rfl (fun hc=>?_) (fun hc=>by cases hc);refine aO [2] [] ?_;refine bt ?_;simp[D.le,D.le.go,aL];simpa using hl
theorem Pz (e:Ex):∃ ty cc,dE e = .b6 ty cc/\((ty=163/\∃ b,cc = .v (.bool b)/\wJ e = !b)\/(ty≠163/\wJ e=false)):=by
 cases e with
 | b5 b=>exact⟨_,_,rfl,.inl ⟨rfl,b,rfl,rfl⟩⟩
 | bit s=>exact⟨_,_,rfl,.inr ⟨bh,rfl⟩⟩
 | ef s=>exact⟨_,_,rfl,.inr ⟨bh,rfl⟩⟩
 | eb s=>exact⟨_,_,rfl,.inr ⟨bh,rfl⟩⟩
 | not e=>exact⟨_,_,rfl,.inr ⟨bh,rfl⟩⟩
 | and l=>exact⟨_,_,rfl,.inr ⟨bh,rfl⟩⟩
 | or l=>exact⟨_,_,rfl,.inr ⟨bh,rfl⟩⟩
theorem YC (G:aF) (p:dJ) (eN:gJ p=none) (hk:∀ r∈p.ao,vq r):aH prog G 47 [ir p] (.bI [ir (p8 p),.v .nilIface]):=by
 have cK:=KP G p (WV eN hk);rw[eN]at cK;have e6:=Pc G p.names (by have:=(xz eN).names;omega);have oI:=(xz eN).ao;have de:=KL eN
 have QQ:(p.ao.map cW).length=p.ao.length:=al
 have Eb:∀ i (h:i < p.ao.length),(p.ao.map cW)[i]? = some (cW p.ao[i]):=fun i h=>by simp[h]
 have ek:=fun i (h:i < p.ao.length)=>Nk h;have gR:=fun i=>(Hg (p.ao.take i));simp only[ir,j4,ey,kH,bC,p8]at cK e6 ⊢;generalize p.names.map bH=NN at *;generalize p.ao.map cW=RR at *;refine aH.aU (aw _) func47 rfl rfl (rs:=[.cell 2 28,.tmp 3]) results47 (by simp[ntmps47]) fun X=>?_;simp only[ntmps47,List.map];refine aO [1,2] [1,2] ?_;refine fF 1 ?_;refine ah fun K1 aI=>bB trivial cK [1,2,4] [2] ?_;refine aO [1,2,4,14] [2] ?_;refine aj (ax (aI _ ?_));refine bB trivial e6 [1,2,5] [2,5] ?_;refine ah fun K2 ak=>aO [2,5,22,23,24] [2,5] ?_;refine eD (S:=Nat) (fun i=>i<=p.ao.length) (fun i=>⟨bl [(2,.ref 2 0 0),(5,.ref 5 0 0),(22,.d (.sl none RR)),(23,int RR.length),(24,int i)],au [(2,.box 28 [.d (.sl (some false) []),.d (.sl (some false) [])]),(5,.box 28 [.d (.sl none NN),.own 55 0 (fS (p.ao.take i)).length]),(55,.sl 153 3 ((fS (p.ao.take i)).map cW))]⟩) (fun i=>p.ao.length - i) 0 ?_ aa ?_
 .refine (aY.n7 5 1 55 153 3 rfl rfl rfl).trans ?_;refine aY.fo aT (by simp[CJ]) (by simp[CJ])
 .intro i hi;have ek:=ek i;have gR:=gR i
  have cR:((fS (p.ao.take i)).map cW).length=(fS (p.ao.take i)).length:=al
  have mG:i=p.ao.length->fS (p.ao.take i)=fS p.ao:=fun h=>by rw[sh aa]
  have da:(p.ao.take i).length<=40:=by rw[abk];omega
  generalize hP:fS (p.ao.take i)=P0 at ek gR mG cR ⊢;refine aO [2,5,22,23,24,25] [2,5,55] ?_;refine ah fun K3 bF=>ga (b:=i < RR.length) (by simp[D.le,D.le.go,aL]) (fun hc=>?_) (fun hc=>?_)
  .have bf:i < p.ao.length:=aa
   have ek:=ek bf;obtain⟨e,he,Ke,hd,sM⟩:=hk p.ao[i] (aa6 bf);have dr:=de _ (aa6 bf);have cH:=Y4 G e aa
   have EJ:sI p.ao[i]=(y6 p.ao[i].kind && wJ (cu e)):=by unfold sI;rw[he]
   have jF:cW (si p.ao[i])=[.v (.int .i64 p.ao[i].kind),.v (.string (bs p.ao[i].name)),dE (cu e)]:=by
    unfold cW si;rw[he];rfl
   have o4:RR[i]=[.v (.int .i64 p.ao[i].kind),.v (.string (bs p.ao[i].name)),dE e]:=by
    have:=Eb i bf;rw[IN hc]at this;rw[AI this];unfold cW;rw[he];rfl
   obtain⟨t0,c0,gA⟩:=gk e;obtain⟨ty,cc,cA,me⟩:=Pz (cu e);rw[gA]at cH o4;rw[cA]at cH jF;rw[EJ]at ek;generalize hq:si p.ao[i]=q at ek jF;generalize p.ao[i].kind=kd at o4 jF dr ek;generalize bs p.ao[i].name=nm at o4 jF;generalize wJ (cu e)=fz at me ek;refine ax (bF _ (ah fun K4 cF=>bd ?_));have qf:=(Aq @hc @o4);refine aC [2,5,7,22,23,24] [2,5,55,7] ?_;refine bB trivial cH [2,5,7,22,23,24] [2,5,55,7] ?_;obtain⟨kb,qt⟩:∃ b,y6 kd=b:=⟨_,rfl⟩;rw[qt]at ek
   refine' s7 (fun bO=>?_) ?_
   rotate_left
   .rcases (show kd=1\/kd=2\/kd=3\/kd=4\/kd=5\/kd=6 by omega)with uw | uw | uw | uw | uw | uw
    all_goals
     have qf:=@uw;refine aC [2,5,7,8,22,23,24] [2,5,55,7] ?_;refine AW.st (show _=(⟨bl [(2,.ref 2 0 0),(5,.ref 5 0 0),(7,.ref 7 0 0),(8,.d (.v (.bool kb))),(22,.d (.sl none RR)),(23,int RR.length),(24,int i)],au [(2,.box 28 [.d (.sl (some false) []),.d (.sl (some false) [])]),(5,.box 28 [.d (.sl none NN),.own 55 0 P0.length]),(55,.sl 153 3 (P0.map cW)),(7,.box 153 [.d (.v (.int .i64 kd)),.d (.v (.string nm)),.d (.b6 ty cc)])]⟩:St) by rw[<- qt,uw]<;>rfl) ?_;exact bO.out
   refine ah fun K5 cI=>?_
   rcases me with⟨sY,b,hb,hf⟩ | ⟨bw,hf⟩
   .have qf:=(Aq @acJ (Aq @acK (Aq @acI (Aq @sY @hb))));refine aC [2,5,7,8,9,10,22,23,24] [2,5,55,7] ?_
    cases b with
    | true=>
     have hs:fS (p.ao.take (i+1))=P0 ++ [q]:=by rw[ek,hf];simp
     refine aO [2,5,7,22,23,24,63] [2,5,55,7] ?_;refine aj (ax (cI _ ?_));refine ea (aw _) fun K' ai=>?_;(repeat refine aq fun Kq ae=>?_;simp[cR,sh];(repeat refine⟨aa,?_⟩);refine ae _ ?_);refine aZ (ai _ ?_);refine cF _ (AW.norm [2,5,22,23,24] [2,5,55] aT (AW.st (by simp[cR,sh];rfl) ?_));refine fK ?_;(try simp only[bY,b9]);refine cC.mk (i+1) aa aa ?_;rw[hs];refine bL (Aq @jF (Aq @sY @hb))
    | false=>
     cases kb with
     | true=>
      have hs:fS (p.ao.take (i+1))=P0:=by rw[ek,hf];simp
      refine aO [2,5,7,22,23,24,63] [2,5,55,7] ?_;refine aD (cX (cF _ ?_));refine fK ?_;(try simp only[bY,b9]);refine cC.mk (i+1) aa aa ?_;rw[hs];refine ko
     | false=>
      have hs:fS (p.ao.take (i+1))=P0 ++ [q]:=by rw[ek,hf];simp
      refine aO [2,5,7,22,23,24,63] [2,5,55,7] ?_;refine aj (ax (cI _ ?_));refine ea (aw _) fun K' ai=>?_;(repeat refine aq fun Kq ae=>?_;simp[cR,sh];(repeat refine⟨aa,?_⟩);refine ae _ ?_);refine aZ (ai _ ?_);refine cF _ (AW.norm [2,5,22,23,24] [2,5,55] aT (AW.st (by simp[cR,sh];rfl) ?_));refine fK ?_;(try simp only[bY,b9]);refine cC.mk (i+1) aa aa ?_;rw[hs];refine bL (Aq @jF (Aq @sY @hb))
   .have qf:=(Aq @acJ (Aq @acK (Aq @acI @bw)));refine aC [2,5,7,8,9,10,22,23,24] [2,5,55,7] ?_
    have hs:fS (p.ao.take (i+1))=P0 ++ [q]:=by rw[ek,hf];simp
    refine aO [2,5,7,22,23,24,63] [2,5,55,7] ?_;refine aj (ax (cI _ ?_));refine ea (aw _) fun K' ai=>?_;(repeat refine aq fun Kq ae=>?_;simp[cR,sh];(repeat refine⟨aa,?_⟩);refine ae _ ?_);refine aZ (ai _ ?_);refine cF _ (AW.norm [2,5,22,23,24] [2,5,55] aT (AW.st (by simp[cR,sh];rfl) ?_));refine fK ?_;(try simp only[bY,b9]);refine cC.mk (i+1) aa aa ?_;rw[hs];refine bL @jF
  .have bw:i=p.ao.length:=aa
   refine cX (ak _ ?_);rw[mG bw]at cR ⊢;refine aO [2,3] [2,5,55] ?_;refine bt ?_;simp[D.le,D.le.go,aL,cR,sh]
theorem Qi (e:Ex):wJ e=(dt e == [48]):=by
 cases e with
 | b5 b=>cases b<;>rfl
 | _=>rfl
theorem Td {k:Int} (h:1<=k/\k<=6):y6 k=(decide (k≠1) && decide (k≠4)):=by
 rcases (show k=1\/k=2\/k=3\/k=4\/k=5\/k=6 by omega)with rfl | rfl | rfl | rfl | rfl | rfl<;>rfl
theorem ZM (G:aF) (p:dJ) (eN:gJ p=none) (hk:∀ r∈p.ao,vq r):aH prog G 48 [fq p] (fq (p8 p)):=by
 have oI:=(xz eN).ao;have de:=KL eN
 have QQ:(p.ao.map dV).length=p.ao.length:=al
 have Eb:∀ i (h:i < p.ao.length),(p.ao.map dV)[i]? = some (dV p.ao[i]):=fun i h=>by simp[h]
 have ek:=fun i (h:i < p.ao.length)=>Nk h;have gR:=fun i=>(Hg (p.ao.take i));simp only[fq,gX,ey,p8];generalize p.names.map bH=NN at *;generalize p.ao.map dV=RR at *;refine aH.aU (aw _) func48 rfl rfl (rs:=[.cell 2 62]) results48 (by simp[ntmps48]) fun X=>?_;simp only[ntmps48,List.map];refine aO [1,2] [1,2] ?_;refine fF 1 ?_;refine aO [1,2,3] [2,3] ?_;refine ah fun K1 aI=>aO [2,3,10,11,12] [2,3] ?_;refine eD (S:=Nat) (fun i=>i<=p.ao.length) (fun i=>⟨bl [(2,.ref 2 0 0),(3,.ref 3 0 0),(10,.d (.sl none RR)),(11,int RR.length),(12,int i)],au [(2,.box 62 [.d (.sl (some false) []),.d (.sl (some false) [])]),(3,.box 62 [.d (.sl none NN),.own 55 0 (fS (p.ao.take i)).length]),(55,.sl 203 3 ((fS (p.ao.take i)).map dV))]⟩) (fun i=>p.ao.length - i) 0 ?_ aa ?_
 .refine (aY.n7 3 1 55 203 3 rfl rfl rfl).trans ?_;refine aY.fo aT (by simp[CJ]) (by simp[CJ])
 .intro i hi;have ek:=ek i;have gR:=gR i
  have cR:((fS (p.ao.take i)).map dV).length=(fS (p.ao.take i)).length:=al
  have mG:i=p.ao.length->fS (p.ao.take i)=fS p.ao:=fun h=>by rw[sh aa]
  have da:(p.ao.take i).length<=40:=by rw[abk];omega
  generalize hP:fS (p.ao.take i)=P0 at ek gR mG cR ⊢;refine aO [2,3,10,11,12,13] [2,3,55] ?_;refine ah fun K2 ak=>ga (b:=i < RR.length) (by simp[D.le,D.le.go,aL]) (fun hc=>?_) (fun hc=>?_)
  .have bf:i < p.ao.length:=aa
   have ek:=ek bf;obtain⟨e,he,Ke,hd,sM⟩:=hk p.ao[i] (aa6 bf);have dr:=de _ (aa6 bf);have cH:=Wu G e Ke aa
   have EJ:sI p.ao[i]=(y6 p.ao[i].kind && (dt (cu e) == [48])):=by unfold sI;rw[he];exact congrArg _ (Qi _)
   have jF:dV (si p.ao[i])=[.v (.int .i64 p.ao[i].kind),.v (.string (bs p.ao[i].name)),dR (cu e)]:=by
    unfold dV si;rw[he];rfl
   have o4:RR[i]=[.v (.int .i64 p.ao[i].kind),.v (.string (bs p.ao[i].name)),dR e]:=by
    have:=Eb i bf;rw[IN hc]at this;rw[AI this];unfold dV;rw[he];rfl
   obtain⟨c0,gA⟩:=j5 e;rw[gA]at cH o4;rw[mz (cu e)]at cH jF;rw[EJ,Td dr]at ek;generalize hq:si p.ao[i]=q at ek jF;generalize p.ao[i].kind=kd at o4 jF dr ek;generalize bs p.ao[i].name=nm at o4 jF;simp only[dS]at cH jF;generalize dt (cu e)=K at cH jF ek;generalize D.v (.string (bs (oP (cu e))))=n0 at cH jF;refine ax (ak _ (ah fun K3 bF=>bd ?_));have qf:=(Aq @hc @o4);refine aC [2,3,5,10,11,12] [2,3,55,5] ?_;refine bB trivial cH [2,3,5,10,11,12] [2,3,55,5] ?_;refine ah fun K4 cF=>?_;by_cases hK:K=[48]
   .have xS:(K == [48])=true:=by simpa using hK
    by_cases h1:kd=1
    .have hs:fS (p.ao.take (i+1))=P0 ++ [q]:=by rw[ek,h1];simp
     refine rg [2,3,5,10,11,12,35] [2,3,55,5] aT fun K' ai=>?_;(repeat refine aq fun Kq ae=>?_;simp[hK,h1,aJ,ay];(repeat refine⟨aa,?_⟩);refine ae _ ?_);refine aZ (ai _ (AW.st (by simp[hK,h1,aJ,ay];rfl) ?_));refine aj (ax (cF _ ?_));refine ea (aw _) fun K' ai=>?_;(repeat refine aq fun Kq ae=>?_;simp[cR,sh];(repeat refine⟨aa,?_⟩);refine ae _ ?_);refine aZ (ai _ ?_);refine bF _ (AW.norm [2,3,10,11,12] [2,3,55] aT (AW.st (by simp[cR,sh];rfl) ?_));refine fK ?_;(try simp only[bY,b9]);refine cC.mk (i+1) aa aa ?_;rw[hs];refine bL (Aq @jF (Aq @hK @h1))
    .by_cases h4:kd=4
     .have hs:fS (p.ao.take (i+1))=P0 ++ [q]:=by rw[ek,h4];simp
      refine rg [2,3,5,10,11,12,35] [2,3,55,5] aT fun K' ai=>?_;(repeat refine aq fun Kq ae=>?_;simp[hK,h1,h4,aJ,ay];(repeat refine⟨aa,?_⟩);refine ae _ ?_);refine aZ (ai _ (AW.st (by simp[hK,h1,h4,aJ,ay];rfl) ?_));refine aj (ax (cF _ ?_));refine ea (aw _) fun K' ai=>?_;(repeat refine aq fun Kq ae=>?_;simp[cR,sh];(repeat refine⟨aa,?_⟩);refine ae _ ?_);refine aZ (ai _ ?_);refine bF _ (AW.norm [2,3,10,11,12] [2,3,55] aT (AW.st (by simp[cR,sh];rfl) ?_));refine fK ?_;(try simp only[bY,b9]);refine cC.mk (i+1) aa aa ?_;rw[hs];refine bL (Aq @jF (Aq @hK @h4))
     .have hs:fS (p.ao.take (i+1))=P0:=by rw[ek,xS];simp[h1,h4]
      refine rg [2,3,5,10,11,12,35] [2,3,55,5] aT fun K' ai=>?_;(repeat refine aq fun Kq ae=>?_;simp[hK,h1,h4,aJ,ay];(repeat refine⟨aa,?_⟩);refine ae _ ?_);refine aZ (ai _ (AW.st (by simp[hK,h1,h4,aJ,ay];rfl) ?_));refine aD (cX (bF _ ?_));refine fK ?_;(try simp only[bY,b9]);refine cC.mk (i+1) aa aa ?_;rw[hs];refine ko
   .have xS:(K == [48])=false:=by simpa using hK
    have hs:fS (p.ao.take (i+1))=P0 ++ [q]:=by rw[ek,xS];simp
    refine rg [2,3,5,10,11,12,35] [2,3,55,5] aT fun K' ai=>?_;(repeat refine aq fun Kq ae=>?_;simp[hK,xS,aJ,ay];(repeat refine⟨aa,?_⟩);refine ae _ ?_);refine aZ (ai _ (AW.st (by simp[hK,xS,aJ,ay];rfl) ?_));refine aj (ax (cF _ ?_));refine ea (aw _) fun K' ai=>?_;(repeat refine aq fun Kq ae=>?_;simp[cR,sh];(repeat refine⟨aa,?_⟩);refine ae _ ?_);refine aZ (ai _ ?_);refine bF _ (AW.norm [2,3,10,11,12] [2,3,55] aT (AW.st (by simp[cR,sh];rfl) ?_));refine fK ?_;(try simp only[bY,b9]);refine cC.mk (i+1) aa aa ?_;rw[hs];refine bL @jF
  .have bw:i=p.ao.length:=aa
   refine cX (aI _ ?_);rw[mG bw]at cR ⊢;refine aO [2] [2,3,55] ?_;refine bt ?_;simp[D.le,D.le.go,aL,cR,sh]
