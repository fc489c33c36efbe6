/-
  Texts that belong together,in one file: U4,RN,U5,LW,Sh9.
-/
import Derived.Test.YtdigkhaofjmgkaaGreatDoorMk23
import Derived.Test.YtdigkhaofjmgkaaGreatDoorMk24
import Derived.Sort.Walk0
set_option linter.unusedSimpArgs false
set_option linter.unusedVariables false
namespace Go.Proofs.YtdigkhaofjmgkaaGreatDoor
open Go.Av
def acw (all:Bool):List UInt8:=if all then [98,105,116,94,126] else [94,126]
theorem UD (all:Bool) (e:Ex):cf all e=eE (cm all e) ++ aaQ all (jD e):=by
 cases e<;>simp [cf,jD,aaQ,cm,eE]
theorem UC (all:Bool) (e:Ex):(mL e=[]/\eE (cm all e)=[])\/(mL e≠[]/\Lib.contains (acw all) (rF e)=false/\eE (cm all e)=[])\/(mL e≠[]/\Lib.contains (acw all) (rF e)=true/\eE (cm all e)=[mL e]):=by
 have c1:Lib.contains (acw true) [98,105,116]=true:=by decide +kernel
 have c2:Lib.contains (acw false) [98,105,116]=false:=by decide +kernel
 have c3:∀ all,Lib.contains (acw all) [94]=true:=by decide +kernel
 have c4:∀ all,Lib.contains (acw all) [126]=true:=by decide +kernel
 cases e with
 | bit s=>
  by_cases hs:s=[]
  .subst hs;cases all<;>exact .inl ⟨rfl,rfl⟩
  .cases all with
   | true=>exact .inr (.inr ⟨hs,c1,by simp [cm,eE,mL,hs]⟩)
   | false=>exact .inr (.inl ⟨hs,c2,by simp [cm,eE]⟩)
 | fQ s=>
  by_cases hs:s=[]
  .subst hs;exact .inl ⟨rfl,rfl⟩
  .exact .inr (.inr ⟨hs,c3 _,by simp [cm,eE,mL,hs]⟩)
 | fC s=>
  by_cases hs:s=[]
  .subst hs;exact .inl ⟨rfl,rfl⟩
  .exact .inr (.inr ⟨hs,c4 _,by simp [cm,eE,mL,hs]⟩)
 | _=>exact .inl ⟨rfl,rfl⟩
def gn:AV:=.fn (.func 194) [.ref 501 0 0,.ref 502 0 0,.ref 504 0 0]
def aaZ (all:Bool) (l:List Tx):List (Nat×Row):=[(501,.box 9 [.d (dS (acw all))]),(502,.box 174 [.own 503 0 l.length]),(503,.sl 9 1 (l.map fun s=>[dS s])),(504,.box 307 [gn])]
theorem FE (a b:Tx):aN .lss (bs a) (bs b)=some (True,.bool (decide (a < b))):=by
 simp only [aN,aT,bytesLess_eq]
theorem uG (a b:Tx):aN .neq (bs a) (bs b)=some (True,.bool (!decide (a=b))):=by
 simp only [aN,aT]
 have h:(a == b)=decide (a=b):=by
  by_cases e:a=b
  .subst e;exact (beq_self_eq_true a).trans (decide_eq_true rfl).symm
  .exact (beq_eq_false_iff_ne.2 e).trans (decide_eq_false e).symm
 rw [h]
theorem Vo (m:List (List D)) (z x:List D) (k:Nat) (hk:k<=m.length) (hm:∀ el∈m,el.length=1/\∀ c∈el,D.one c=true) (hz:z.length=1/\∀ c∈z,D.one c=true) :
  ∃ news mo:List (List D),∃ w0:D,((m ++ [z]).drop k).take (m.length+1 - k)=news/\(∀ el∈news,el.length=1)/\(∀ el∈news,∀ c∈el,D.one c=true)/\
   k9 (m ++ [z]) news (k+1) (m.length+1 - (k+1))=mo/\mo.length=m.length+1/\mo[k]? = some [w0]/\mo.set k x=m.take k ++ x :: m.drop k/\(k=m.length->mo=m ++ [z]):=by
 have h1:((m ++ [z]).drop k).take (m.length+1 - k)=m.drop k ++ [z]:=by
  rw [List.take_of_length_le (by simp),List.drop_append_of_le_length hk]
 have h2:(m.drop k ++ [z]).take (m.length+1 - (k+1))=m.drop k:=by
  rw [List.take_append_of_le_length (by simp),List.take_of_length_le (by simp)]
 have h3:k9 (m ++ [z]) (m.drop k ++ [z]) (k+1) (m.length+1 - (k+1))=(m ++ [z]).take (k+1) ++ m.drop k:=by
  unfold k9;rw [h2,List.drop_of_length_le (l:=m ++ [z]) (by simp;omega),List.append_nil]
 have jz:∀ el∈m.drop k ++ [z],el.length=1/\∀ c∈el,D.one c=true:=fun el ba=>by
  rcases List.mem_append.1 ba with h | h
  .exact hm el (List.mem_of_mem_drop h)
  .rw [List.mem_singleton] at h;subst h;exact hz
 have hl:((m ++ [z]).take (k+1) ++ m.drop k).length=m.length+1:=by simp;omega
 have ie:k < (m ++ [z]).length:=by simp;omega
 have lk:((m ++ [z]).take (k+1) ++ m.drop k)[k]? = some ((m ++ [z])[k]):=by
  rw [List.getElem?_append_left (by simp;omega),List.getElem?_take,if_pos (by omega),List.getElem?_eq_getElem ie]
 have abx:∃ w0,(m ++ [z])[k]=[w0]:=by
  have hq:((m ++ [z])[k]).length=1:=by
   rcases List.mem_append.1 (List.getElem_mem ie) with h | h
   .exact (hm _ h).1
   .rw [List.mem_singleton] at h;rw [h];exact hz.1
  exact List.length_eq_one_iff.1 hq
 obtain ⟨w0,lr⟩:=abx;refine ⟨_,_,w0,h1,fun el ba=>(jz el ba).1,fun el ba=>(jz el ba).2,h3,hl,by rw [lk,lr],?_,fun e=>?_⟩
 .rw [List.take_succ_eq_append_getElem ie,List.append_assoc,List.set_append_right _ _ (by simp;omega)]
  have e1:((m ++ [z]).take k).length=k:=by simp;omega
  rw [e1,Nat.sub_self,List.take_append_of_le_length hk];rfl
 .subst e;rw [List.take_of_length_le (by simp),List.drop_of_length_le (by simp),List.append_nil]
set_option maxHeartbeats 32000000 in
set_option maxRecDepth 100000 in
theorem Ws (G:ao) (hM:abJ G) (all:Bool):∀ (n:Nat) (e:Ex),SizeOf.sizeOf e<=n->∀ l0:List Tx,l0.length+bE e<=2^39->MC Tryz.prog G [501,502,504] 194 ([.d (dR e)] ++ [.ref 501 0 0,.ref 502 0 0,.ref 504 0 0]) (ZX (aaZ all l0)) (.d (.Z4 [])) (ZX (aaZ all (iG l0 (cf all e)))):=by
 intro n
 induction n with
 | zero=>intro e aI;cases e<;>simp at aI
 | succ n ih=>
  intro e aI l0 hb;have jt:∀ x∈jD e,∀ l1:List Tx,l1.length+bE x<=2^39->MC Tryz.prog G [501,502,504] 194 ([.d (dR x)] ++ [.ref 501 0 0,.ref 502 0 0,.ref 504 0 0]) (ZX (aaZ all l1)) (.d (.Z4 [])) (ZX (aaZ all (iG l1 (cf all x)))):=fun x hx=>ih x (by have:=W9 hx;omega);clear ih;have yy:=Mr e;have kM:=o7 (jD e);have eg:=wG all (jD e);have yz:=UC all e
  have QH:(eE (cm all e)).length<=1:=by unfold eE;split<;>simp
  have kI:(eE (cm all e)).length+eH (jD e)<=bE e:=by
   cases e<;>simp [jD,bE,eH]<;>first | omega | (simp [eE,cm]<;>omega) | skip
  have fj:=Wv G hM (acw all) (rF e) (by cases all<;>simp [acw])
  have cj:(acw all).length<=5:=by cases all<;>simp [acw]
  rw [UD,ae6,mX,UM];generalize jD e=l at jt yy kM eg kI ⊢;generalize rF e=kd at fj yz ⊢;generalize mL e=nm at yz ⊢;generalize kR e=kk;generalize abx:eE (cm all e)=on at yz kI QH ⊢;generalize acY:iG l0 on=mO;have CJ:=Dg on l0;rw [acY] at CJ;clear aI;refine MC.aD (ZZ _) Tryz.func194 rfl rfl (rs:=[]) Tryz.results194 (by simp [Tryz.ntmps194]) rfl fun X=>?_;simp only [Tryz.ntmps194];have fw:=(Aq @ab.eq_1 (Aq @dS.eq_1 (Aq @aaZ.eq_1 @gn.eq_1)));refine ae fun K1 ay=>?_;refine (fun dZ=>?_) (fun (σ:St) himp=>ay σ (AW.imp (τ:=⟨aX [(0,.d (.ip [dS kd,dS nm,.sl kk (l.map fun x=>[dR x])])),(3,.ref 504 0 0)],ZX (aaZ all mO)⟩) himp ?_))
  .rcases yz with ⟨h1,h2⟩ | ⟨h1,h2,h3⟩ | ⟨h1,h2,h3⟩
   .subst h1 h2
    have hq:l0=mO:=by rw [<- acY];rfl
    subst hq;have qf:=(Aq fw (Aq @uG @bo));refine fP [0,2,3,20] [501,502,503,504] ?_;refine ag rfl ?_;refine ah (dZ _ ?_);refine aU fw
   .subst h3
    have hq:l0=mO:=by rw [<- acY];rfl
    subst hq;rw [h2] at fj
    have hnb:aN .neq (bs nm) ⟨#[]⟩=some (True,.bool true):=by
     have:=uG nm [];rw [decide_eq_false h1] at this;exact this
    have qf:=(Aq fw @hnb);refine rU fj [0,2,3,20] [501,502,503,504] ?_;refine ag rfl ?_;refine ah (dZ _ ?_);refine aU fw
   .subst h3;rw [h2] at fj
    have hnb:aN .neq (bs nm) ⟨#[]⟩=some (True,.bool true):=by
     have:=uG nm [];rw [decide_eq_false h1] at this;exact this
    have qf:=(Aq fw @hnb);refine rU fj [0,2,3,20] [501,502,503,504] ?_;refine ak rfl ?_;refine ZW fw [0,2,3,5] [501,502,503,504] ?_;refine ae fun K2 aa=>?_;refine (fun yt=>?_) (fun (k:Nat) (hk:k<=l0.length) (hp:∀ i (hi:i < l0.length),i < k->l0[i]'hi < nm) (hx:∀ hk:k < l0.length,¬ l0[k]'hk < nm) (σ:St) himp=>aa σ (AW.imp (τ:=⟨aX [(0,.d (.ip [dS kd,dS nm,.sl kk (l.map fun x=>[dR x])])),(2,.ref 502 0 0),(3,.ref 504 0 0),(5,int k)],ZX (aaZ all l0)⟩) himp ?_))
    .refine aam (S:=Nat) (fun k=>k<=l0.length/\∀ i (hi:i < l0.length),i < k->l0[i] < nm) (fun k=>⟨aX [(0,.d (.ip [dS kd,dS nm,.sl kk (l.map fun x=>[dR x])])),(2,.ref 502 0 0),(3,.ref 504 0 0),(5,int k)],ZX (aaZ all l0)⟩) (fun k=>l0.length - k) 0 ?_ (by simp) ?_
     .refine aU fw
     .rintro k ⟨hk,hp⟩;refine ae fun K3 aQ=>?_;by_cases cj:k < l0.length
      .cases ax:decide (l0[k] < nm) with
       | true=>
        have ey:aN .lss (bs l0[k]) (bs nm)=some (True,.bool true):=by rw [FE,ax]
        have qf:=(Aq fw (Aq @cj @ey));refine fP [0,2,3,5,35] [501,502,503,504] ?_;refine ak rfl ?_;refine ah (aQ _ ?_);refine aR ?_;refine reQ fw ?_;(try simp only [aM,aP]);refine aV.mk (k+1) ⟨by omega,fun i hi vx=>?_⟩ (by omega) ?_
        .by_cases he:i=k
         .subst he;exact of_decide_eq_true ax
         .exact hp i hi (by omega)
        refine aU fw
       | false=>
        have ey:aN .lss (bs l0[k]) (bs nm)=some (True,.bool false):=by rw [FE,ax]
        have qf:=(Aq fw (Aq @cj @ey));refine fP [0,2,3,5,35] [501,502,503,504] ?_;refine ag rfl ?_;refine bH (yt k hk hp (fun _=>of_decide_eq_false ax) _ ?_);refine aU fw
      .have qf:=(Aq fw @cj);refine fP [0,2,3,5,35] [501,502,503,504] ?_;refine ag rfl ?_;refine bH (yt k hk hp (fun h=>absurd h cj) _ ?_);refine aU fw
    .have Qa:=H6 nm l0 k hk hp hx;have oG:mO=iH nm l0:=acY.symm;rw [Qa] at oG;by_cases cj:k < l0.length
     .by_cases he:l0[k]=nm
      .have BW:aN .neq (bs l0[k]) (bs nm)=some (True,.bool false):=by rw [uG,he,decide_eq_true rfl];rfl
       rw [if_pos ⟨cj,he⟩] at oG
       have aL:¬ k=l0.length:=by omega
       have qf:=(Aq fw (Aq @cj (Aq @BW @aL)));refine fP [0,2,3,5,52] [501,502,503,504] ?_;refine ag rfl ?_;refine ah (dZ _ ?_);refine aU (Aq fw @oG)
      .have BW:aN .neq (bs l0[k]) (bs nm)=some (True,.bool true):=by rw [uG,decide_eq_false he];rfl
       rw [if_neg (fun ⟨_,h⟩=>he h)] at oG
       have aL:¬ k=l0.length:=by omega
       have qf:=(Aq fw (Aq @cj (Aq @BW @aL)));refine fP [0,2,3,5,52] [501,502,503,504] ?_;refine ak rfl ?_;refine rg [0,2,3,5] [501,502,503,504] (cC rfl) fun K' af=>?_;(repeat (refine Z0 fun K2 aa=>?_;simp [ab,dS,aaZ,gn,List.take_of_length_le];(repeat (refine ⟨by omega,?_⟩));refine aa _ ?_;clear aa K2));refine Z9 (af _ (AW.st (by simp [ab,dS,aaZ,gn,List.take_of_length_le];rfl) ?_));clear af K'
       have hk1:k+1<=l0.length+1:=by omega
       have ea:¬ (k:Int)=(l0.length:Int)+1:=by omega
       have jb:((l0.length:Int)+1 - ((k:Int)+1)).toNat=l0.length+1 - (k+1):=by omega
       have hle:k+(l0.length+1 - k)<=l0.length+1:=by omega
       have Qq:k+1+(l0.length - k)<=l0.length+1:=by omega
       obtain ⟨news,mo,w0,q1,q2,q3,q4,q5,q6,q7,_⟩:=Vo (l0.map fun s=>[dS s]) [dS []] [dS nm] k (by simpa using hk) (by intro el ba;obtain ⟨s,_,rfl⟩:=List.mem_map.1 ba;simp [dS,D.one]) (by simp [dS,D.one])
       have q8:List.take k (l0.map fun s=>[dS s]) ++ [dS nm] :: List.drop k (l0.map fun s=>[dS s])=mO.map fun s=>[dS s]:=by rw [oG];simp
       rw [q8] at q7
       have q9:mO.length=l0.length+1:=by rw [oG];simp;omega
       rw [List.length_map] at q1 q4 q5;rw [Nat.add_sub_add_right] at q4;simp only [dS] at q1 q4 q7;rw [<- bo] at q1 q4
       have Ek:(mo[k]'(by omega)).tail=[]:=by
        have:=q6;rw [List.getElem?_eq_getElem (by omega)] at this;rw [Option.some.inj this];rfl
       have Vr:=eq_true (And.intro q2 q3);have Vs:=eq_true q2;have Vt:=eq_true q3
       have Qm:k < l0.length+1:=by omega
       have qf:=(Aq fw (Aq @hk1 (Aq @hk (Aq @aL (Aq @ea (Aq @jb (Aq @hle (Aq @Qq (Aq @q1 (Aq @Vr (Aq @Vs (Aq @Vt @q4))))))))))));refine fP [0,2,3,5] [501,502,503,504] ?_;refine uo (ZZ _) (by kernel_rfl) (by kernel_rfl) fun K' af=>?_;(repeat (refine fo fun K2 aa=>?_;simp [ab,dS,aaZ,gn,q5,q6,q7,Ek,Qm];(repeat (refine ⟨by omega,?_⟩));refine aa _ ?_;clear aa K2));refine kZ (af _ ?_);clear af K';(try simp only [aM,aP]);refine dZ _ ?_;refine Z1.dK (cC rfl) (by simp [ab,dS,aaZ,gn,q9,q7,Ek]) (by simp [ab,dS,aaZ,gn,q9,q7,Ek])
     .obtain rfl:k=l0.length:=by omega
      rw [if_neg (fun ⟨h,_⟩=>cj h),List.take_length,List.drop_length] at oG;have qf:=(Aq fw @cj);refine fP [0,2,3,5,52] [501,502,503,504] ?_;refine ak rfl ?_;refine rg [0,2,3,5] [501,502,503,504] (cC rfl) fun K' af=>?_;(repeat (refine Z0 fun K2 aa=>?_;simp [ab,dS,aaZ,gn,List.take_of_length_le];(repeat (refine ⟨by omega,?_⟩));refine aa _ ?_;clear aa K2));refine Z9 (af _ (AW.st (by simp [ab,dS,aaZ,gn,List.take_of_length_le];rfl) ?_));clear af K'
      have ea:¬ (l0.length:Int)=(l0.length:Int)+1:=by omega
      have jb:¬ (l0.length:Int)+1=0:=by omega
      have q8:(l0.map fun s=>[dS s]) ++ [[dS nm]]=mO.map fun s=>[dS s]:=by rw [oG];simp
      have q9:mO.length=l0.length+1:=by rw [oG];simp
      simp only [dS] at q8;have qf:=(Aq fw (Aq @ea (Aq @jb (Aq @D.one.eq_1 (Aq @D.one.eq_2 (Aq @D.one.eq_3 @D.one.eq_4))))));refine fP [0,2,3,5] [501,502,503,504] ?_;refine uo (ZZ _) (by kernel_rfl) (by kernel_rfl) fun K' af=>?_;(repeat (refine fo fun K2 aa=>?_;simp [ab,dS,aaZ,gn];(repeat (refine ⟨by omega,?_⟩));refine aa _ ?_;clear aa K2));refine kZ (af _ ?_);clear af K';(try simp only [aM,aP]);refine dZ _ ?_;refine Z1.dK (cC rfl) (by simp [ab,dS,aaZ,gn,q9,q8]) (by simp [ab,dS,aaZ,gn,q9,q8])
  .simp only [List.singleton_append] at jt;refine ZW fw [3,74,75,76] [501,502,503,504] ?_;refine aam (S:=Nat) (fun i=>i<=l.length) (fun i=>⟨aX [(3,.ref 504 0 0),(74,.d (.sl kk (l.map fun x=>[dR x]))),(75,int l.length),(76,int i)],ZX (aaZ all (iG mO (aaQ all (l.take i))))⟩) (fun i=>l.length - i) 0 ?_ (by omega) ?_
   .refine Z1.dK (cC rfl) (by simp [ab,dS,aaZ,gn,aaQ,H4]) (by simp [ab,dS,aaZ,gn,aaQ,H4])
   .intro i hi;refine ZW fw [3,74,75,76,77] [501,502,503,504] ?_;refine ae fun K4 bN=>?_;refine dG (b:=i < l.length) (by simp [D.le,D.le.go,aB,ab,dS,aaZ,gn]) (fun hc=>?_) (fun hc=>?_)
    .have cQ:i < l.length:=hc;have h1:=DV all cQ;have h2:=wG all (l.take i);have h3:=AU cQ;have h4:=Dg (aaQ all (l.take i)) mO;have hcc:=jt _ (List.getElem_mem cQ) (iG mO (aaQ all (l.take i))) (by omega);rw [<- ae6,<- h1] at hcc;have hf:=mX l[i];rw [hf] at hcc;refine ah (bN _ ?_);refine ae fun K5 hK5=>?_;refine aR ?_;have qf:=(Aq fw (Aq @cQ @hf));refine al [3,7,74,75,76] [501,502,503,504] ?_;refine aaG (ZZ _) fun K' af=>?_;(repeat (refine Z0 fun K2 aa=>?_;simp [ab,dS,aaZ,gn];(repeat (refine ⟨by omega,?_⟩));refine aa _ ?_;clear aa K2));refine Z0 fun K2 aa=>?_;simp [ab,dS,aaZ,gn];refine aap.mc (hcc) ?_ ?_ ?_ ?_ ?_<;>simp [ab,dS,aaZ,gn];refine aa _ ?_;clear aa K2;(repeat (refine Z0 fun K2 aa=>?_;simp [ab,dS,aaZ,gn];(repeat (refine ⟨by omega,?_⟩));refine aa _ ?_;clear aa K2));refine Z9 (af _ ?_);clear af K';refine hK5 _ (AW.norm [3,74,75,76] [501,502,503,504] (cC rfl) (AW.st (by simp [ab,dS,aaZ,gn];rfl) ?_));refine reQ fw ?_;(try simp only [aM,aP]);refine aV.mk (i+1) (by omega) (by omega) ?_;refine aU fw
    .obtain rfl:i=l.length:=by omega
     refine bH ?_;simp [D.le_refl,List.take_length,aaZ,gn,dS]
theorem l7 {r r':Nat} (hr:r≠r') (l:List (Nat×Row)) (hl:∀ p∈l,p.1≠r'):l6 r r' (ZX l)=ZX (l.map fun p=>(if p.1=r then r' else p.1,p.2.tr (eS r r') (aa2 r r'))):=by
 funext q;unfold l6
 induction l with
 | nil=>simp [ZX,List.lookup]
 | cons p l ih=>
  have ih:=ih fun p hp=>hl p (by simp [hp]);have hp:=hl p (by simp);obtain ⟨k,row⟩:=p;simp only [ZX,List.lookup,List.map_cons] at ih ⊢;by_cases h1:q=r'
  .subst h1;simp only [if_true] at ih ⊢;by_cases h2:k=r
   .subst h2;simp
   .have a1:(r == k)=false:=by simpa using fun e=>h2 e.symm
    have a2:(q == k)=false:=by simpa using fun e=>hp e.symm
    simp only [h2,if_false,a1,a2];exact ih
  .simp only [h1,if_false] at ih ⊢;by_cases h2:q=r
   .subst h2;simp only [if_true] at ih ⊢;by_cases h3:k=q
    .have a1:(q == r')=false:=by simpa using h1
     simp only [h3,if_true,a1];exact ih
    .have a1:(q == k)=false:=by simpa using fun e=>h3 e.symm
     simp only [h3,if_false,a1];exact ih
   .simp only [h2,if_false] at ih ⊢;by_cases h3:k=r
    .have a1:(q == k)=false:=by rw [h3];simpa using h2
     have a2:(q == r')=false:=by simpa using h1
     simp only [h3,if_true,a2] at a1 ⊢;rw [a1];exact ih
    .simp only [h3,if_false];by_cases h4:q=k
     .subst h4;simp
     .have a1:(q == k)=false:=by simpa using h4
      simp only [a1];exact ih
set_option maxHeartbeats 8000000 in
theorem IY (G:ao) (hM:abJ G) (all:Bool) (e:Ex) (hb:bE e<=2^28):aw Tryz.prog G 147 [dR e,dS (acw all)] (.sl none ((aaE all e).map fun s=>[dS s])):=by
 have hw:=Ws G hM all _ e (Nat.le_refl _) [] (by simp;omega);have ez:=afI all e;rw [ez] at hw;simp only [List.singleton_append] at hw;generalize aaE all e=l at hw ⊢;clear ez;rw [mX] at hw ⊢;refine aw.aD (ZZ _) Tryz.func147 rfl rfl (rs:=[.tmp 4]) Tryz.results147 (by simp [Tryz.ntmps147]) fun X=>?_;simp only [Tryz.ntmps147,List.map];have fw:=(Aq @ab.eq_1 (Aq @dS.eq_1 (Aq @aaZ.eq_1 @gn.eq_1)));refine ZW fw [0,3] [3] ?_;refine ZW fw [0,3,5] [3,5] ?_;refine ZW fw [0,3,5,6] [3,5,6] ?_;refine ZW fw [0,5,6] [3,5,6] ?_;refine AW.imp (Z1.ren (r:=3) (r':=501) trivial (by simp)) ?_;refine AW.st (by simp [eS,aa2,Go.Av.ren,l7];rfl) ?_;refine AW.imp (Z1.ren (r:=5) (r':=502) trivial (by simp)) ?_;refine AW.st (by simp [eS,aa2,Go.Av.ren,l7];rfl) ?_;refine AW.imp (Z1.ren (r:=6) (r':=504) trivial (by simp)) ?_;refine AW.st (by simp [eS,aa2,Go.Av.ren,l7];rfl) ?_;refine AW.imp (Z1.lK 502 0 503 9 1 rfl rfl rfl) ?_;refine AW.imp (τ:=⟨aX [(0,.d (.ip [dS (rF e),dS (mL e),wH e])),(5,.ref 502 0 0),(6,.ref 504 0 0)],ZX (aaZ all [])⟩) ?_ ?_
 .refine aU (Aq fw (Aq @aaZ.eq_1 @gn.eq_1))
 refine Z8 fw hw [5] [502,503] ?_;refine ZW (Aq fw (Aq @aaZ.eq_1 @gn.eq_1)) [4] [502,503] ?_;have cq:List.take l.length (l.map fun s=>[dS s])=l.map fun s=>[dS s]:=List.take_of_length_le (by simp);simp only [dS] at cq;refine AW.imp (Z1.freeze 503 trivial) ?_;refine AW.st (by simp [ab,dS,aaZ,gn,cq];rfl) ?_;exact aK (Aq fw @cq)
theorem V4 (G:ao) (hM:abJ G) (e:Ex) (hb:bE e<=2^28):aw Tryz.prog G 95 [dR e] (.sl none ((aaE true e).map fun s=>[dS s])):=by
 have hs:=IY G hM true e hb;rw [mX] at hs ⊢;generalize aaE true e=l at hs ⊢;have hk:dS (acw true) = .v (.string ⟨#[98,105,116,94,126]⟩):=rfl;rw [hk] at hs;refine aw.aD (ZZ _) Tryz.func95 rfl rfl (rs:=[.tmp 2]) Tryz.results95 (by simp [Tryz.ntmps95]) fun X=>?_;simp only [Tryz.ntmps95,List.map];have fw:=(Aq @ab.eq_1 (Aq @dS.eq_1 (Aq @aaZ.eq_1 @gn.eq_1)));refine ZW fw [0] [] ?_;refine Z6 fw hs [2] [] ?_;exact aK fw
theorem VJ (G:ao) (hM:abJ G) (e:Ex) (hb:bE e<=2^28):aw Tryz.prog G 179 [dR e] (.sl none ((aaE false e).map fun s=>[dS s])):=by
 have hs:=IY G hM false e hb;rw [mX] at hs ⊢;generalize aaE false e=l at hs ⊢;have hk:dS (acw false) = .v (.string ⟨#[94,126]⟩):=rfl;rw [hk] at hs;refine aw.aD (ZZ _) Tryz.func179 rfl rfl (rs:=[.tmp 2]) Tryz.results179 (by simp [Tryz.ntmps179]) fun X=>?_;simp only [Tryz.ntmps179,List.map];have fw:=(Aq @ab.eq_1 (Aq @dS.eq_1 (Aq @aaZ.eq_1 @gn.eq_1)));refine ZW fw [0] [] ?_;refine Z6 fw hs [2] [] ?_;exact aK fw
theorem afs (p:aF) (i:Nat) (hi:i < p.names.length):jN p i p.names[i]=if !ml p.names[i].name then 5 else if !(decide (1<=p.names[i].kind) && decide (p.names[i].kind<=4)) then 1 else if (decide (p.names[i].kind >= 3) && !(decide (1<=p.names[i].count) && decide (p.names[i].count<=7))) || (decide (p.names[i].kind < 3) && decide (p.names[i].count≠0)) then 2 else if bB p p.names[i].name≠i then 9 else 0:=by
 rw [<- Mt p i hi,aeR,IW]
theorem aeQ (p:aF) (k:Int) (s:Tx) (e:Ex):ir p ⟨k,s,some e⟩=if !(decide (1<=k) && decide (k<=6)) then 1 else if bB p s < 0 then 7 else if !decide (gp k=(p.names.getD (bB p s).toNat ⟨[],0,0⟩).kind) then 1 else if (aaE true e).any fun s=>decide (bB p s < 0) then 7 else 0:=by
 have h:(decide (k < 1) || decide (k > 6)) = !(decide (1<=k) && decide (k<=6)):=by
  by_cases h1:1<=k<;>by_cases h2:k<=6<;>simp [h1,h2]<;>omega
 show (if decide (k < 1) || decide (k > 6) then (1:Int) else _)=_;rw [h];simp only [Bool.not_eq_true',decide_eq_false_iff_not,ne_eq]
set_option maxHeartbeats 16000000 in
theorem Sj (G:ao) (hF:ql G) (hM:abJ G) (p:aF) (hp:xp p):aw Tryz.prog G 119 [cN p] (ch (aar p)):=by
 unfold ql at hF;obtain ⟨eg,dN,lV,sT⟩:=hp
 have hr2:aar p=if p.names.length > 12\/p.ZY.length > 40 then some (4,none) else match jP (jN p) p.names 0 with
  | some (e,i)=>some (e,some i)
  | none=>match jP (fun _ r=>ir p r) p.ZY 0 with
   | some (e,i)=>some (e,some (p.names.length+i))
   | none=>none:=rfl
 generalize gM:aar p=res;rw [hr2] at gM;have bA:=fun s=>Lf G p eg s;have BX:=xx G 4;simp only [cN,cPw,bR,dS] at bA ⊢;simp only [ab] at hF BX;refine aw.aD (ZZ _) Tryz.func119 rfl rfl (rs:=[.cell 2 124]) Tryz.results119 (by simp [Tryz.ntmps119]) fun X=>?_;simp only [Tryz.ntmps119,List.map];refine aq [1,2] [1,2] ?_;refine dX 1 ?_;refine ae fun K1 ay=>?_;by_cases g0:(p.names.length:Int) > 12
 .rw [if_pos (.inl (by omega))] at gM;have qf:=@g0;refine al [1,2,20] [2] ?_;refine ak rfl ?_;refine Z6 trivial BX [2] [2] ?_;refine bk ?_;simp [D.le,D.le.go,aB];simp [<- gM,ch,codeF,aab,ab,D.le,D.le.go]
 by_cases g1:(p.ZY.length:Int) > 40
 .rw [if_pos (.inr (by omega))] at gM;have qf:=(Aq @g0 @g1);refine al [1,2,20] [2] ?_;refine ak rfl ?_;refine Z6 trivial BX [2] [2] ?_;refine bk ?_;simp [D.le,D.le.go,aB];simp [<- gM,ch,codeF,aab,ab,D.le,D.le.go]
 rw [if_neg (by omega)] at gM;have qf:=(Aq @g0 @g1);refine al [1,2,20] [2] ?_;refine ag rfl ?_;refine ah (ay _ ?_);refine ae fun K2 aa=>?_;refine aq [1,2,23,24,25] [2] ?_;refine aam (S:=Nat) (fun n=>n<=p.names.length/\∀ k (hk:k < p.names.length),k < n->jN p k p.names[k]=0) (fun n=>⟨aX [(1,.d (.ip [.sl none (p.names.map Z3),.sl none (p.ZY.map cZ)])),(2,.ref 2 0 0),(23,.d (.sl none (p.names.map Z3))),(24,int p.names.length),(25,int n)],ZX [(2,.box 124 [int 0,int 0])]⟩) (fun n=>p.names.length - n) 0 ?_ (by simp) ?_
 .refine cw
 .rintro n ⟨hn,hb⟩;refine aq [1,2,23,24,25,26] [2] ?_;refine ae fun K3 aQ=>?_;refine dG (b:=n < p.names.length) (by simp [D.le,D.le.go,aB]) (fun hc=>?_) (fun hc=>?_)
  .have ax:=hc
   have dZ:jN p n p.names[n]≠0->res=some (jN p n p.names[n],some n):=fun aL=>by
    rw [<- gM,uS (i:=0) ax (fun k hk hkn=>by rw [Nat.zero_add];exact hb k hk hkn) (by rw [Nat.zero_add];exact aL)];simp
   have ez:=lV _ (List.getElem_mem ax);have aa7:Z3 p.names[n]=[dS p.names[n].name,.v (.int .i64 p.names[n].kind),.v (.int .i64 p.names[n].count)]:=rfl;have bt:=afs p n ax;have ig:=ae8 G p.names[n].name ez;generalize hv:jN p n p.names[n]=v at bt dZ;generalize p.names[n].name=nm at ez aa7 bt ig;generalize p.names[n].kind=kd at aa7 bt;generalize p.names[n].count=ct at aa7 bt;have jf:=bA nm;have gx:=E0 G kd 1 4;have lY:=E0 G ct 1 7;simp only [dS] at aa7 ig;simp only [ab] at gx lY;generalize ml nm=nf at ig bt;generalize fI:(decide (1<=kd) && decide (kd<=4))=q1 at gx bt;generalize e8:(decide (1<=ct) && decide (ct<=7))=q2 at lY bt;refine ah (aQ _ ?_);refine ae fun K4 bN=>?_;refine aR ?_;have qf:=(Aq @ax @aa7);refine al [1,2,3,4,23,24,25] [2,4] ?_;refine dX 4 ?_;refine ae fun K5 hK5=>?_;refine Z6 trivial ig [1,2,3,4,23,24,25,33] [2] ?_
   cases nf with
   | false=>
    rw [if_pos (by simp)] at bt;have hr:=dZ (by rw [bt];decide);rw [bt] at hr;refine ak rfl ?_;refine aq [2] [2] ?_;exact aK (Aq @hr (Aq @ch.eq_1 (Aq @codeF.eq_1 (Aq @codeF.eq_2 (Aq @aab.eq_1 (Aq @aab.eq_2 @ab.eq_1))))))
   | true=>
    rw [if_neg (by decide)] at bt;refine ag rfl ?_;refine ah (hK5 _ ?_);refine ae fun K6 de=>?_;refine Z6 trivial gx [1,2,3,4,23,24,25,39] [2] ?_
    cases q1 with
    | false=>
     rw [if_pos (by simp)] at bt;have hr:=dZ (by rw [bt];decide);rw [bt] at hr;refine ak rfl ?_;refine aq [2] [2] ?_;exact aK (Aq @hr (Aq @ch.eq_1 (Aq @codeF.eq_1 (Aq @codeF.eq_2 (Aq @aab.eq_1 (Aq @aab.eq_2 @ab.eq_1))))))
    | true=>
     rw [if_neg (by decide)] at bt;refine ag rfl ?_;refine ah (de _ ?_);refine ae fun K7 dy=>?_;by_cases k3:kd >= 3
     .have fK:¬ kd < 3:=by omega
      cases q2 with
      | false=>
       have qf:=(Aq @k3 @fK);refine aaF lY [1,2,3,4,23,24,25,60] [2] ?_;rw [if_pos (by simp [k3])] at bt;have hr:=dZ (by rw [bt];decide);rw [bt] at hr;refine ak rfl ?_;refine aq [2] [2] ?_;exact aK (Aq @hr (Aq @ch.eq_1 (Aq @codeF.eq_1 (Aq @codeF.eq_2 (Aq @aab.eq_1 (Aq @aab.eq_2 @ab.eq_1))))))
      | true=>
       rw [if_neg (by simp [fK])] at bt;have qf:=(Aq @k3 @fK);refine aaF lY [1,2,3,4,23,24,25,60] [2] ?_;refine ag rfl ?_;refine ah (dy _ ?_);refine Z6 trivial jf [1,2,3,23,24,25,68] [2] ?_;by_cases c9:bB p nm=n
       .rw [if_neg (by simp [c9])] at bt;refine ag (by simp [c9]) ?_;refine ah (bN _ ?_);refine cI ?_;(try simp only [aM,aP]);refine aV.mk (n+1) ⟨by omega,fun k hk hkn=>?_⟩ (by omega) ?_
        .by_cases h:k=n
         .subst h;rw [hv,bt]
         .exact hb k hk (by omega)
        refine cw
       .rw [if_pos c9] at bt;have hr:=dZ (by rw [bt];decide);rw [bt] at hr;refine ak (by simp [c9]) ?_;refine aq [2] [2] ?_;exact aK (Aq @hr (Aq @ch.eq_1 (Aq @codeF.eq_1 (Aq @codeF.eq_2 (Aq @aab.eq_1 (Aq @aab.eq_2 @ab.eq_1))))))
     .have fK:kd < 3:=by omega
      by_cases c0:ct=0
      .rw [if_neg (by simp [k3,c0])] at bt;have qf:=(Aq @k3 (Aq @fK @c0));refine al [1,2,3,4,23,24,25,60] [2] ?_;refine ag rfl ?_;refine ah (dy _ ?_);refine Z6 trivial jf [1,2,3,23,24,25,68] [2] ?_;by_cases c9:bB p nm=n
       .rw [if_neg (by simp [c9])] at bt;refine ag (by simp [c9]) ?_;refine ah (bN _ ?_);refine cI ?_;(try simp only [aM,aP]);refine aV.mk (n+1) ⟨by omega,fun k hk hkn=>?_⟩ (by omega) ?_
        .by_cases h:k=n
         .subst h;rw [hv,bt]
         .exact hb k hk (by omega)
        refine cw
       .rw [if_pos c9] at bt;have hr:=dZ (by rw [bt];decide);rw [bt] at hr;refine ak (by simp [c9]) ?_;refine aq [2] [2] ?_;exact aK (Aq @hr (Aq @ch.eq_1 (Aq @codeF.eq_1 (Aq @codeF.eq_2 (Aq @aab.eq_1 (Aq @aab.eq_2 @ab.eq_1))))))
      .have qf:=(Aq @k3 (Aq @fK @c0));refine al [1,2,3,4,23,24,25,60] [2] ?_;rw [if_pos (by simp [fK,c0])] at bt;have hr:=dZ (by rw [bt];decide);rw [bt] at hr;refine ak rfl ?_;refine aq [2] [2] ?_;exact aK (Aq @hr (Aq @ch.eq_1 (Aq @codeF.eq_1 (Aq @codeF.eq_2 (Aq @aab.eq_1 (Aq @aab.eq_2 @ab.eq_1))))))
  .rw [uU fun k hk=>by rw [Nat.zero_add];exact hb k hk (by omega)] at gM;dsimp only at gM;refine bH (aa _ ?_);refine ae fun K8 dz=>?_;refine aq [1,2,73,74,75] [2] ?_;refine aam (S:=Nat) (fun n=>n<=p.ZY.length/\∀ k (hk:k < p.ZY.length),k < n->ir p p.ZY[k]=0) (fun n=>⟨aX [(1,.d (.ip [.sl none (p.names.map Z3),.sl none (p.ZY.map cZ)])),(2,.ref 2 0 0),(73,.d (.sl none (p.ZY.map cZ))),(74,int p.ZY.length),(75,int n)],ZX [(2,.box 124 [int 0,int 0])]⟩) (fun n=>p.ZY.length - n) 0 ?_ (by simp) ?_
   .refine cw
   .rintro n ⟨hn,hb⟩;refine aq [1,2,73,74,75,76] [2] ?_;refine ae fun K9 hK9=>?_;refine dG (b:=n < p.ZY.length) (by simp [D.le,D.le.go,aB]) (fun hc=>?_) (fun hc=>?_)
    .have ax:=hc
     have dZ:ir p p.ZY[n]≠0->res=some (ir p p.ZY[n],some (p.names.length+n)):=fun aL=>by
      rw [<- gM,uS (i:=0) ax (fun k hk hkn=>hb k hk hkn) aL];simp
     have B6:=sT p.ZY[n] (List.getElem_mem ax);obtain ⟨⟨kd,nm,cd⟩,oK⟩:∃ r,p.ZY[n]=r:=⟨_,rfl⟩
     have hzero:ir p ⟨kd,nm,cd⟩=0->∀ k (hk:k < p.ZY.length),k < n+1->ir p p.ZY[k]=0:=fun h0 k hk hkn=>by
      by_cases h:k=n
      .subst h;rw [oK];exact h0
      .exact hb k hk (by omega)
     rw [oK] at dZ B6
     have aa7:cZ p.ZY[n]=[.v (.int .i64 kd),dS nm,iu cd]:=by rw [oK];rfl
     dsimp only at B6;obtain ⟨v,hv⟩:∃ v,ir p ⟨kd,nm,cd⟩=v:=⟨_,rfl⟩;rw [hv] at dZ hzero;have bt:=hv.symm;have gx:=E0 G kd 1 6;have jf:=bA nm;simp only [dS] at aa7;simp only [ab] at gx;refine ah (hK9 _ ?_);refine ae fun kb aaA=>?_;refine aR ?_
     have df:(p.names.length:Int)+n < 2^63:=by omega
     cases cd with
     | none=>
      have c6:v=1:=bt;have hr:=dZ (by rw [c6];decide);rw [c6] at hr;simp only [iu] at aa7;generalize fI:(decide (1<=kd) && decide (kd<=6))=q1 at gx;have qf:=(Aq @ax @aa7);refine al [1,2,5,6,73,74,75] [2,6] ?_;refine dX 6 ?_;refine aq [1,2,6,7,73,74,75] [2] ?_;refine ae fun nT iW=>?_
      cases q1 with
      | false=>
       refine Z6 trivial gx [1,2,6,7,73,74,75,93] [2] ?_;refine ak rfl ?_;refine aq [2] [2] ?_;exact aK (Aq @hr (Aq @ch.eq_1 (Aq @codeF.eq_1 (Aq @codeF.eq_2 (Aq @aab.eq_1 (Aq @aab.eq_2 @ab.eq_1))))))
      | true=>
       refine Z6 trivial gx [1,2,6,7,73,74,75,93] [2] ?_;refine ak rfl ?_;refine aq [2] [2] ?_;exact aK (Aq @hr (Aq @ch.eq_1 (Aq @codeF.eq_1 (Aq @codeF.eq_2 (Aq @aab.eq_1 (Aq @aab.eq_2 @ab.eq_1))))))
     | some e=>
      obtain ⟨B3,QA⟩:=B6 e rfl;rw [aeQ] at bt;have fG:=V4 G hM e B3;simp only [iu] at aa7;obtain ⟨ec,Cd⟩:∃ c,dR e = .ip c:=⟨_,mX e⟩;rw [Cd] at aa7 fG;generalize aaE true e=ne at fG QA bt;simp only [dS] at fG;generalize fI:(decide (1<=kd) && decide (kd<=6))=q1 at gx bt;have qf:=(Aq @ax @aa7);refine al [1,2,5,6,73,74,75] [2,6] ?_;refine dX 6 ?_;refine aq [1,2,6,7,73,74,75] [2] ?_;refine ae fun nT iW=>?_
      cases q1 with
      | false=>
       refine Z6 trivial gx [1,2,6,7,73,74,75,93] [2] ?_;rw [if_pos (by simp)] at bt;have hr:=dZ (by rw [bt];decide);rw [bt] at hr;refine ak rfl ?_;refine aq [2] [2] ?_;exact aK (Aq @hr (Aq @ch.eq_1 (Aq @codeF.eq_1 (Aq @codeF.eq_2 (Aq @aab.eq_1 (Aq @aab.eq_2 @ab.eq_1))))))
      | true=>
       rw [if_neg (by decide)] at bt
       have dB:1<=kd/\kd<=6:=by simpa using fI
       refine Z6 trivial gx [1,2,6,7,73,74,75,93] [2] ?_;refine ag rfl ?_;refine ah (iW _ ?_);refine Z6 trivial jf [1,2,6,7,8,73,74,75] [2] ?_;refine ae fun sd abB=>?_;refine aq [1,2,6,7,8,73,74,75,101] [2] ?_;by_cases c7:bB p nm < 0
       .rw [if_pos c7] at bt;have hr:=dZ (by rw [bt];decide);rw [bt] at hr;refine ak (by simp [c7]) ?_;refine aq [2] [2] ?_;exact aK (Aq @hr (Aq @ch.eq_1 (Aq @codeF.eq_1 (Aq @codeF.eq_2 (Aq @aab.eq_1 (Aq @aab.eq_2 @ab.eq_1))))))
       rw [if_neg c7] at bt;obtain ⟨k,hk,hke⟩:=Jb c7
       have ja:p.names.getD (bB p nm).toNat ⟨[],0,0⟩=p.names[k]:=by
        rw [hke,Int.toNat_natCast,List.getD_eq_getElem?_getD,List.getElem?_eq_getElem hk];rfl
       rw [ja] at bt;refine ag (by simp [c7]) ?_;refine ah (abB _ ?_);refine ae fun jK eI=>?_;have lh:Z3 p.names[k]=[dS p.names[k].name,.v (.int .i64 p.names[k].kind),.v (.int .i64 p.names[k].count)]:=rfl;generalize ie:p.names[k].kind=kk at bt lh;rw [hke]
       refine' ze (fun dO=>?_) ?_
       rotate_left
       .by_cases k1:kd=1
        .refine r9 (ZZ _) (by kernel_rfl) ([0]) (List.range 13) [1,2,6,7,73,74,75,116] [2] (fun _ _=>trivial) (by kernel_rfl) fun K' af=>?_;(repeat (refine adl rfl fun K2 aa=>?_;simp [k1,hk,lh];(repeat (refine ⟨by omega,?_⟩));refine aa _ ?_;clear aa K2));refine r3 (af _ ?_);refine AW.st (by simp [k1,hk,lh];rfl) ?_;clear af K';refine AW.st (show _=(⟨aX [(1,.d (.ip [.sl none (p.names.map Z3),.sl none (p.ZY.map cZ)])),(2,.ref 2 0 0),(6,.d (.ip [.v (.int .i64 kd),.v (.string (bs nm)),.ip ec])),(7,int ((p.names.length:Int)+n)),(73,.d (.sl none (p.ZY.map cZ))),(74,int p.ZY.length),(75,int n),(116,.d (.v (.bool (!decide (gp kd=kk)))))],ZX [(2,.box 124 [int 0,int 0])]⟩:St) by rw [k1,show gp 1=2 from rfl]<;>rfl) ?_;exact dO.out
        by_cases k2:kd=2
        .refine r9 (ZZ _) (by kernel_rfl) ([0]) (List.range 13) [1,2,6,7,73,74,75,116] [2] (fun _ _=>trivial) (by kernel_rfl) fun K' af=>?_;(repeat (refine adl rfl fun K2 aa=>?_;simp [k2,hk,lh];(repeat (refine ⟨by omega,?_⟩));refine aa _ ?_;clear aa K2));refine r3 (af _ ?_);refine AW.st (by simp [k2,hk,lh];rfl) ?_;clear af K';refine AW.st (show _=(⟨aX [(1,.d (.ip [.sl none (p.names.map Z3),.sl none (p.ZY.map cZ)])),(2,.ref 2 0 0),(6,.d (.ip [.v (.int .i64 kd),.v (.string (bs nm)),.ip ec])),(7,int ((p.names.length:Int)+n)),(73,.d (.sl none (p.ZY.map cZ))),(74,int p.ZY.length),(75,int n),(116,.d (.v (.bool (!decide (gp kd=kk)))))],ZX [(2,.box 124 [int 0,int 0])]⟩:St) by rw [k2,show gp 2=2 from rfl]<;>rfl) ?_;exact dO.out
        by_cases k3:kd=3
        .refine r9 (ZZ _) (by kernel_rfl) ([0]) (List.range 13) [1,2,6,7,73,74,75,116] [2] (fun _ _=>trivial) (by kernel_rfl) fun K' af=>?_;(repeat (refine adl rfl fun K2 aa=>?_;simp [k3,hk,lh];(repeat (refine ⟨by omega,?_⟩));refine aa _ ?_;clear aa K2));refine r3 (af _ ?_);refine AW.st (by simp [k3,hk,lh];rfl) ?_;clear af K';refine AW.st (show _=(⟨aX [(1,.d (.ip [.sl none (p.names.map Z3),.sl none (p.ZY.map cZ)])),(2,.ref 2 0 0),(6,.d (.ip [.v (.int .i64 kd),.v (.string (bs nm)),.ip ec])),(7,int ((p.names.length:Int)+n)),(73,.d (.sl none (p.ZY.map cZ))),(74,int p.ZY.length),(75,int n),(116,.d (.v (.bool (!decide (gp kd=kk)))))],ZX [(2,.box 124 [int 0,int 0])]⟩:St) by rw [k3,show gp 3=2 from rfl]<;>rfl) ?_;exact dO.out
        by_cases k4:kd=4
        .refine r9 (ZZ _) (by kernel_rfl) ([0]) (List.range 13) [1,2,6,7,73,74,75,116] [2] (fun _ _=>trivial) (by kernel_rfl) fun K' af=>?_;(repeat (refine adl rfl fun K2 aa=>?_;simp [k4,hk,lh];(repeat (refine ⟨by omega,?_⟩));refine aa _ ?_;clear aa K2));refine r3 (af _ ?_);refine AW.st (by simp [k4,hk,lh];rfl) ?_;clear af K';refine AW.st (show _=(⟨aX [(1,.d (.ip [.sl none (p.names.map Z3),.sl none (p.ZY.map cZ)])),(2,.ref 2 0 0),(6,.d (.ip [.v (.int .i64 kd),.v (.string (bs nm)),.ip ec])),(7,int ((p.names.length:Int)+n)),(73,.d (.sl none (p.ZY.map cZ))),(74,int p.ZY.length),(75,int n),(116,.d (.v (.bool (!decide (gp kd=kk)))))],ZX [(2,.box 124 [int 0,int 0])]⟩:St) by rw [k4,show gp 4=3 from rfl]<;>rfl) ?_;exact dO.out
        by_cases k5:kd=5
        .refine r9 (ZZ _) (by kernel_rfl) ([0]) (List.range 13) [1,2,6,7,73,74,75,116] [2] (fun _ _=>trivial) (by kernel_rfl) fun K' af=>?_;(repeat (refine adl rfl fun K2 aa=>?_;simp [k5,hk,lh];(repeat (refine ⟨by omega,?_⟩));refine aa _ ?_;clear aa K2));refine r3 (af _ ?_);refine AW.st (by simp [k5,hk,lh];rfl) ?_;clear af K';refine AW.st (show _=(⟨aX [(1,.d (.ip [.sl none (p.names.map Z3),.sl none (p.ZY.map cZ)])),(2,.ref 2 0 0),(6,.d (.ip [.v (.int .i64 kd),.v (.string (bs nm)),.ip ec])),(7,int ((p.names.length:Int)+n)),(73,.d (.sl none (p.ZY.map cZ))),(74,int p.ZY.length),(75,int n),(116,.d (.v (.bool (!decide (gp kd=kk)))))],ZX [(2,.box 124 [int 0,int 0])]⟩:St) by rw [k5,show gp 5=4 from rfl]<;>rfl) ?_;exact dO.out
        have k6:kd=6:=by omega
        refine r9 (ZZ _) (by kernel_rfl) ([0]) (List.range 13) [1,2,6,7,73,74,75,116] [2] (fun _ _=>trivial) (by kernel_rfl) fun K' af=>?_;(repeat (refine adl rfl fun K2 aa=>?_;simp [k6,hk,lh];(repeat (refine ⟨by omega,?_⟩));refine aa _ ?_;clear aa K2));refine r3 (af _ ?_);refine AW.st (by simp [k6,hk,lh];rfl) ?_;clear af K';refine AW.st (show _=(⟨aX [(1,.d (.ip [.sl none (p.names.map Z3),.sl none (p.ZY.map cZ)])),(2,.ref 2 0 0),(6,.d (.ip [.v (.int .i64 kd),.v (.string (bs nm)),.ip ec])),(7,int ((p.names.length:Int)+n)),(73,.d (.sl none (p.ZY.map cZ))),(74,int p.ZY.length),(75,int n),(116,.d (.v (.bool (!decide (gp kd=kk)))))],ZX [(2,.box 124 [int 0,int 0])]⟩:St) by rw [k6,show gp 6=4 from rfl]<;>rfl) ?_;exact dO.out
       .generalize YJ:(!decide (gp kd=kk))=wk at bt
        cases wk with
        | true=>
         rw [if_pos rfl] at bt;have hr:=dZ (by rw [bt];decide);rw [bt] at hr;refine ak rfl ?_;refine aq [2] [2] ?_;exact aK (Aq @hr (Aq @ch.eq_1 (Aq @codeF.eq_1 (Aq @codeF.eq_2 (Aq @aab.eq_1 (Aq @aab.eq_2 @ab.eq_1))))))
        | false=>
         rw [if_neg (by decide)] at bt;refine ag rfl ?_;refine ah (eI _ ?_);refine Z6 trivial fG [1,2,7,73,74,75,121,122,123] [2] ?_;refine aam (S:=Nat) (fun m=>m<=ne.length/\∀ j (hj:j < ne.length),j < m->¬ bB p ne[j] < 0) (fun m=>⟨aX [(1,.d (.ip [.sl none (p.names.map Z3),.sl none (p.ZY.map cZ)])),(2,.ref 2 0 0),(7,int ((p.names.length:Int)+n)),(73,.d (.sl none (p.ZY.map cZ))),(74,int p.ZY.length),(75,int n),(121,.d (.sl none (ne.map fun s=>[.v (.string (bs s))]))),(122,int ne.length),(123,int m)],ZX [(2,.box 124 [int 0,int 0])]⟩) (fun m=>ne.length - m) 0 ?_ (by simp) ?_
         .refine cw
         .rintro m ⟨hm,hj⟩;refine aq [1,2,7,73,74,75,121,122,123,124] [2] ?_;refine ae fun K14 adb=>?_;refine dG (b:=m < ne.length) (by simp [D.le,D.le.go,aB]) (fun hc=>?_) (fun hc=>?_)
          .have pH:=hc;have QD:=bA ne[m]
           have Pm:bB p ne[m] < 0->v=7:=fun h=>by
            rw [bt,if_pos (List.any_eq_true.2 ⟨_,List.getElem_mem pH,by simpa using h⟩)]
           have nj:¬ bB p ne[m] < 0->∀ j (h:j < ne.length),j < m+1->¬ bB p ne[j] < 0:=fun h0 j h yw=>by
            by_cases he:j=m
            .subst he;exact h0
            .exact hj j h (by omega)
           refine ah (adb _ ?_);refine ae fun Aw qI=>?_;refine aR ?_;have qf:=@pH;refine al [1,2,7,10,73,74,75,121,122,123] [2] ?_;refine Z6 trivial QD [1,2,7,73,74,75,121,122,123,130] [2] ?_;by_cases xC:bB p ne[m] < 0
           .have G4:=Pm xC;have hr:=dZ (by rw [G4];decide);rw [G4] at hr;refine ak (by simp [xC]) ?_;refine aq [2] [2] ?_;exact aK (Aq @hr (Aq @ch.eq_1 (Aq @codeF.eq_1 (Aq @codeF.eq_2 (Aq @aab.eq_1 (Aq @aab.eq_2 @ab.eq_1))))))
           .refine ag (by simp [xC]) ?_;refine ah (qI _ ?_);refine cI ?_;(try simp only [aM,aP]);refine aV.mk (m+1) ⟨by omega,nj xC⟩ (by omega) ?_;refine cw
          .have py:(ne.any fun s=>decide (bB p s < 0))=false:=by
            rw [List.any_eq_false];intro s hs;obtain ⟨j,ju,rfl⟩:=List.mem_iff_getElem.1 hs;simpa using hj j ju (by omega)
           rw [py,if_neg (by decide)] at bt;refine bH (aaA _ ?_);refine cI ?_;(try simp only [aM,aP]);refine aV.mk (n+1) ⟨by omega,hzero bt⟩ (by omega) ?_;refine cw
    .rw [uU fun k hk=>hb k hk (by omega)] at gM;refine bH (dz _ ?_);have qf:=@hF;refine al [2] [2] ?_;refine bk ?_;simp [D.le,D.le.go,aB];simp [<- gM,ch,codeF,aab,ab,D.le,D.le.go]
end Go.Proofs.YtdigkhaofjmgkaaGreatDoor
namespace Go.Proofs
open Go.Shelf
def Tryz.Iu:Go.Shelf.Ren:=⟨fun | 189=>128 | 125=>184 | 257=>183 | 128=>227 | 129=>228 | 294=>218 | 295=>219 | 296=>220 | 297=>221 | 298=>222 | 299=>223 | 216=>224 | 300=>225 | 301=>226 | 328=>247 | 329=>248 | 330=>249 | 331=>250 | 332=>251 | 215=>198 | 343=>273 | n=>n,fun | 28=>46 | 3=>3 | 46=>156 | 0=>0 | 51=>300 | 53=>303 | 4=>4 | 183=>324 | 182=>323 | 131=>202 | 5=>5 | 9=>9 | 218=>348 | 222=>352 | 228=>372 | 229=>373 | n=>n,fun | n=>n⟩
theorem Tryz.Sb:Go.Proofs.Lays.n189 Tryz.prog Tryz.Iu:={
 mixed:=by kernel_rfl
 f125:=Tryz.func184.trans (congrArg some (by kernel_rfl))
 f128:=Tryz.func227.trans (congrArg some (by kernel_rfl))
 f129:=Tryz.func228.trans (congrArg some (by kernel_rfl))
 f189:=Tryz.func128.trans (congrArg some (by kernel_rfl))
 f215:=Tryz.func198.trans (congrArg some (by kernel_rfl))
 f216:=Tryz.func224.trans (congrArg some (by kernel_rfl))
 f257:=Tryz.func183.trans (congrArg some (by kernel_rfl))
 f294:=Tryz.func218.trans (congrArg some (by kernel_rfl))
 f295:=Tryz.func219.trans (congrArg some (by kernel_rfl))
 f296:=Tryz.func220.trans (congrArg some (by kernel_rfl))
 f297:=Tryz.func221.trans (congrArg some (by kernel_rfl))
 f298:=Tryz.func222.trans (congrArg some (by kernel_rfl))
 f299:=Tryz.func223.trans (congrArg some (by kernel_rfl))
 f300:=Tryz.func225.trans (congrArg some (by kernel_rfl))
 f301:=Tryz.func226.trans (congrArg some (by kernel_rfl))
 f328:=Tryz.func247.trans (congrArg some (by kernel_rfl))
 f329:=Tryz.func248.trans (congrArg some (by kernel_rfl))
 f330:=Tryz.func249.trans (congrArg some (by kernel_rfl))
 f331:=Tryz.func250.trans (congrArg some (by kernel_rfl))
 f332:=Tryz.func251.trans (congrArg some (by kernel_rfl))
 f343:=Tryz.func273.trans (congrArg some (by kernel_rfl))
 t0:=Tryz.underlying0
 a0:=Tryz.isAgg0
 z0:=Tryz.sizeOf0
 v0:=Tryz.zeroValue0
 t3:=Tryz.underlying3
 a3:=Tryz.isAgg3
 z3:=Tryz.sizeOf3
 v3:=Tryz.zeroValue3
 t4:=Tryz.underlying4
 a4:=Tryz.isAgg4
 z4:=Tryz.sizeOf4
 v4:=Tryz.zeroValue4
 t5:=Tryz.underlying5
 a5:=Tryz.isAgg5
 z5:=Tryz.sizeOf5
 v5:=Tryz.zeroValue5
 t9:=Tryz.underlying9
 a9:=Tryz.isAgg9
 z9:=Tryz.sizeOf9
 v9:=Tryz.zeroValue9
 t28:=Tryz.underlying46
 a28:=Tryz.isAgg46
 z28:=Tryz.sizeOf46
 v28:=Tryz.zeroValue46
 t46:=Tryz.underlying156
 a46:=Tryz.isAgg156
 z46:=Tryz.sizeOf156
 v46:=Tryz.zeroValue156
 t51:=Tryz.underlying300
 a51:=Tryz.isAgg300
 z51:=Tryz.sizeOf300
 v51:=Tryz.zeroValue300
 t53:=Tryz.underlying303
 a53:=Tryz.isAgg303
 z53:=Tryz.sizeOf303
 v53:=Tryz.zeroValue303
 t131:=Tryz.underlying202
 a131:=Tryz.isAgg202
 z131:=Tryz.sizeOf202
 v131:=Tryz.zeroValue202
 t182:=Tryz.underlying323
 a182:=Tryz.isAgg323
 z182:=Tryz.sizeOf323
 v182:=Tryz.zeroValue323
 t183:=Tryz.underlying324
 a183:=Tryz.isAgg324
 z183:=Tryz.sizeOf324
 v183:=Tryz.zeroValue324
 t218:=Tryz.underlying348
 a218:=Tryz.isAgg348
 z218:=Tryz.sizeOf348
 v218:=Tryz.zeroValue348
 t222:=Tryz.underlying352
 a222:=Tryz.isAgg352
 z222:=Tryz.sizeOf352
 v222:=Tryz.zeroValue352
 t228:=Tryz.underlying372
 a228:=Tryz.isAgg372
 z228:=Tryz.sizeOf372
 v228:=Tryz.zeroValue372
 t229:=Tryz.underlying373
 a229:=Tryz.isAgg373
 z229:=Tryz.sizeOf373
 v229:=Tryz.zeroValue373 }
end Go.Proofs
