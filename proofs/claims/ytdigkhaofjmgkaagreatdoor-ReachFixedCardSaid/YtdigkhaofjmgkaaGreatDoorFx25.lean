/- Parts. -/
import Derived.Test.YtdigkhaofjmgkaaGreatDoorFx23
import Derived.Test.YtdigkhaofjmgkaaGreatDoorFx24
import Derived.Sort.Walk0
set_option linter.unusedSimpArgs false
set_option linter.unusedVariables false
set_option maxHeartbeats 32000000
set_option maxRecDepth 100000
open Go.Proofs.Tryz
namespace Go.Proofs.YtdigkhaofjmgkaaGreatDoor
open Go.Av
def lC (all:Bool):List UInt8:=if all then [98,105,116,94,126] else [94,126]
theorem Ve (all:Bool) (e:Ex):ck all e=eV (cu all e) ++ ef all (jV e):=by
 cases e<;>simp[ck,jV,ef,cu,eV]
theorem Vd (all:Bool) (e:Ex):(nU e=[]/\eV (cu all e)=[])\/(nU e≠[]/\Lib.contains (lC all) (sV e)=false/\eV (cu all e)=[])\/(nU e≠[]/\Lib.contains (lC all) (sV e)=true/\eV (cu all e)=[nU e]):=by
 have c1:Lib.contains (lC true) [98,105,116]=true:=by decide +kernel
 have c2:Lib.contains (lC false) [98,105,116]=false:=by decide +kernel
 have c3:∀ all,Lib.contains (lC all) [94]=true:=by decide +kernel
 have c4:∀ all,Lib.contains (lC all) [126]=true:=by decide +kernel
 cases e with
 | bit s=>
  by_cases hs:s=[]
  .subst hs;cases all<;>exact .inl ⟨rfl,rfl⟩
  .cases all with
   | true=>exact .inr (.inr ⟨hs,c1,by simp[cu,eV,nU,hs]⟩)
   | false=>exact .inr (.inl ⟨hs,c2,by simp[cu,eV]⟩)
 | adb s=>
  by_cases hs:s=[]
  .subst hs;exact .inl ⟨rfl,rfl⟩
  .exact .inr (.inr ⟨hs,c3 _,by simp[cu,eV,nU,hs]⟩)
 | fT s=>
  by_cases hs:s=[]
  .subst hs;exact .inl ⟨rfl,rfl⟩
  .exact .inr (.inr ⟨hs,c4 _,by simp[cu,eV,nU,hs]⟩)
 | _=>exact .inl ⟨rfl,rfl⟩
def gJ:AV:=.fn (.func 194) [.ref 501 0 0,.ref 502 0 0,.ref 504 0 0]
def eK (all:Bool) (l:List Tx):List (Nat×Row):=[(501,.box 9 [.d (dS (lC all))]),(502,.box 174 [.own 503 0 l.length]),(503,.sl 9 1 (l.map fun s=>[dS s])),(504,.box 307 [gJ])]
theorem GX (a b:Tx):aO .lss (bs a) (bs b)=some (True,.bool (decide (a < b))):=by
 simp only[aO,aY,bytesLess_eq]
theorem vU (a b:Tx):aO .neq (bs a) (bs b)=some (True,.bool (!decide (a=b))):=by
 simp only[aO,aY]
 have h:(a == b)=decide (a=b):=by
  by_cases e:a=b
  .subst e;exact (beq_self_eq_true a).trans (decide_eq_true rfl).symm
  .exact (beq_eq_false_iff_ne.2 e).trans (decide_eq_false e).symm
 rw[h]
theorem V0 (m:List (List D)) (z x:List D) (k:Nat) (hk:k<=m.length) (hm:∀ el∈m,el.length=1/\∀ c∈el,D.one c=true) (hz:z.length=1/\∀ c∈z,D.one c=true) :
  ∃ news np:List (List D),∃ w0:D,((m ++ [z]).drop k).take (m.length+1 - k)=news/\(∀ el∈news,el.length=1)/\(∀ el∈news,∀ c∈el,D.one c=true)/\
   lV (m ++ [z]) news (k+1) (m.length+1 - (k+1))=np/\np.length=m.length+1/\np[k]? = some [w0]/\np.set k x=m.take k ++ x :: m.drop k/\(k=m.length->np=m ++ [z]):=by
 have h1:((m ++ [z]).drop k).take (m.length+1 - k)=m.drop k ++ [z]:=by
  rw[sh (by simp),List.drop_append_of_le_length hk]
 have h2:(m.drop k ++ [z]).take (m.length+1 - (k+1))=m.drop k:=by
  rw[aep (by simp),sh (by simp)]
 have h3:lV (m ++ [z]) (m.drop k ++ [z]) (k+1) (m.length+1 - (k+1))=(m ++ [z]).take (k+1) ++ m.drop k:=by
  unfold lV;rw[h2,List.drop_of_length_le (l:=m ++ [z]) (by simp;omega),adp]
 have adJ:∀ el∈m.drop k ++ [z],el.length=1/\∀ c∈el,D.one c=true:=fun el hel=>by
  rcases ab4.1 hel with h | h
  .exact hm el (ac7 h)
  .rw[acV]at h;subst h;exact hz
 have hl:((m ++ [z]).take (k+1) ++ m.drop k).length=m.length+1:=by simp;omega
 have hkk:k < (m ++ [z]).length:=by simp;omega
 have hgk:((m ++ [z]).take (k+1) ++ m.drop k)[k]? = some ((m ++ [z])[k]):=by
  rw[adB (by simp;omega),acu,if_pos (by omega),By hkk]
 have adK:∃ w0,(m ++ [z])[k]=[w0]:=by
  have hq:((m ++ [z])[k]).length=1:=by
   rcases ab4.1 (abH hkk)with h | h
   .exact (hm _ h).1
   .rw[acV]at h;rw[h];exact hz.1
  exact acX.1 hq
 obtain⟨w0,l6⟩:=adK;refine⟨_,_,w0,h1,fun el hel=>(adJ el hel).1,fun el hel=>(adJ el hel).2,h3,hl,by rw[hgk,l6],?_,fun e=>?_⟩
 .rw[abR hkk,adU,List.set_append_right _ _ (by simp;omega)]
  have e1:((m ++ [z]).take k).length=k:=by simp;omega
  rw[e1,Nat.sub_self,aep hk];rfl
 .subst e;rw[sh (by simp),List.drop_of_length_le (by simp),adp]
theorem YB (G:aq) (hM:adP G) (all:Bool):∀ (n:Nat) (e:Ex),SizeOf.sizeOf e<=n->∀ l0:List Tx,l0.length+bE e<=2^39->MC prog G [501,502,504] 194 ([.d (dR e)] ++ [.ref 501 0 0,.ref 502 0 0,.ref 504 0 0]) (ak (eK all l0)) (.d (.aW [])) (ak (eK all (ja l0 (ck all e)))):=by
 intro n
 induction n with
 | zero=>intro e aK;cases e<;>simp at aK
 | succ n ih=>
  intro e aK l0 hb;have jL:∀ x∈jV e,∀ l1:List Tx,l1.length+bE x<=2^39->MC prog G [501,502,504] 194 ([.d (dR x)] ++ [.ref 501 0 0,.ref 502 0 0,.ref 504 0 0]) (ak (eK all l1)) (.d (.aW [])) (ak (eK all (ja l1 (ck all x)))):=fun x hx=>ih x (by have:=Zr hx;omega);clear ih;have R8:=N4 e;have lr:=qi (jV e);have hnl:=xQ all (jV e);have zI:=Vd all e
  have Sw:(eV (cu all e)).length<=1:=by unfold eV;split<;>simp
  have hbd:(eV (cu all e)).length+eY (jV e)<=bE e:=by
   cases e<;>simp[jV,bE,eY]<;>first | omega | (simp[eV,cu]<;>omega) | skip
  have fC:=YG G hM (lC all) (sV e) (by cases all<;>simp[lC])
  have hkl:(lC all).length<=5:=by cases all<;>simp[lC]
  rw[Ve,JG,od,Vo];generalize jV e=l at jL R8 lr hnl hbd ⊢;generalize sV e=kd at fC zI ⊢;generalize nU e=nm at zI ⊢;generalize kR e=kk;generalize adK:eV (cu all e)=on at zI hbd Sw ⊢;generalize ae9:ja l0 on=nX;have DS:=Eh on l0;rw[ae9]at DS;clear aK;refine MC.abS (al _) func194 rfl rfl (rs:=[]) results194 (by simp[ntmps194]) rfl fun X=>?_;simp only[ntmps194];have fw:=(Aq @afg (Aq @afi (Aq @eK.eq_1 @gJ.eq_1)));refine af fun K1 ax=>?_;refine (fun ek=>?_) (fun (σ:St) himp=>ax σ (AW.imp (τ:=⟨aV [(0,.d (.ip [dS kd,dS nm,.sl kk (l.map fun x=>[dR x])])),(3,.ref 504 0 0)],ak (eK all nX)⟩) himp ?_))
  .rcases zI with⟨h1,h2⟩ | ⟨h1,h2,h3⟩ | ⟨h1,h2,h3⟩
   .subst h1 h2
    have hq:l0=nX:=by rw[<- ae9];rfl
    subst hq;have qf:=(Aq fw (Aq @vU @br));refine fQ [0,2,3,20] [501,502,503,504] ?_;refine abN rfl ?_;refine abO (ek _ ?_);refine abW fw
   .subst h3
    have hq:l0=nX:=by rw[<- ae9];rfl
    subst hq;rw[h2]at fC
    have kL:aO .neq (bs nm) ⟨#[]⟩=some (True,.bool true):=by
     have:=vU nm [];rw[decide_eq_false h1]at this;exact this
    have qf:=(Aq fw @kL);refine aga fC [0,2,3,20] [501,502,503,504] ?_;refine abN rfl ?_;refine abO (ek _ ?_);refine abW fw
   .subst h3;rw[h2]at fC
    have kL:aO .neq (bs nm) ⟨#[]⟩=some (True,.bool true):=by
     have:=vU nm [];rw[decide_eq_false h1]at this;exact this
    have qf:=(Aq fw @kL);refine aga fC [0,2,3,20] [501,502,503,504] ?_;refine abP rfl ?_;refine rgq fw [0,2,3,5] [501,502,503,504] ?_;refine af fun K2 aa=>?_;refine (fun zD=>?_) (fun (k:Nat) (hk:k<=l0.length) (hp:∀ i (hi:i < l0.length),i < k->l0[i]'hi < nm) (hx:∀ hk:k < l0.length,¬ l0[k]'hk < nm) (σ:St) himp=>aa σ (AW.imp (τ:=⟨aV [(0,.d (.ip [dS kd,dS nm,.sl kk (l.map fun x=>[dR x])])),(2,.ref 502 0 0),(3,.ref 504 0 0),(5,int k)],ak (eK all l0)⟩) himp ?_))
    .refine bQ (S:=Nat) (fun k=>k<=l0.length/\∀ i (hi:i < l0.length),i < k->l0[i] < nm) (fun k=>⟨aV [(0,.d (.ip [dS kd,dS nm,.sl kk (l.map fun x=>[dR x])])),(2,.ref 502 0 0),(3,.ref 504 0 0),(5,int k)],ak (eK all l0)⟩) (fun k=>l0.length - k) 0 ?_ (by simp) ?_
     .refine abW fw
     .rintro k ⟨hk,hp⟩;refine af fun K3 aQ=>?_;by_cases hkl:k < l0.length
      .cases au:decide (l0[k] < nm) with
       | true=>
        have hb2:aO .lss (bs l0[k]) (bs nm)=some (True,.bool true):=by rw[GX,au]
        have qf:=(Aq fw (Aq @hkl @hb2));refine fQ [0,2,3,5,35] [501,502,503,504] ?_;refine abP rfl ?_;refine abO (aQ _ ?_);refine aR ?_;refine reQ fw ?_;(try simp only[aJ,aL]);refine aS.mk (k+1) ⟨by omega,fun i hi wW=>?_⟩ (by omega) ?_
        .by_cases he:i=k
         .subst he;exact of_decide_eq_true au
         .exact hp i hi (by omega)
        refine abW fw
       | false=>
        have hb2:aO .lss (bs l0[k]) (bs nm)=some (True,.bool false):=by rw[GX,au]
        have qf:=(Aq fw (Aq @hkl @hb2));refine fQ [0,2,3,5,35] [501,502,503,504] ?_;refine abN rfl ?_;refine bx (zD k hk hp (fun _=>of_decide_eq_false au) _ ?_);refine abW fw
      .have qf:=(Aq fw @hkl);refine fQ [0,2,3,5,35] [501,502,503,504] ?_;refine abN rfl ?_;refine bx (zD k hk hp (fun h=>absurd h hkl) _ ?_);refine abW fw
    .have RY:=JK nm l0 k hk hp hx;have pN:nX=jb nm l0:=ae9.symm;rw[RY]at pN;by_cases hkl:k < l0.length
     .by_cases he:l0[k]=nm
      .have oo:aO .neq (bs l0[k]) (bs nm)=some (True,.bool false):=by rw[vU,he,decide_eq_true rfl];rfl
       rw[if_pos ⟨hkl,he⟩]at pN
       have aI:¬ k=l0.length:=by omega
       have qf:=(Aq fw (Aq @hkl (Aq @oo @aI)));refine fQ [0,2,3,5,52] [501,502,503,504] ?_;refine abN rfl ?_;refine abO (ek _ ?_);refine abW (Aq fw @pN)
      .have oo:aO .neq (bs l0[k]) (bs nm)=some (True,.bool true):=by rw[vU,decide_eq_false he];rfl
       rw[if_neg (fun ⟨_,h⟩=>he h)]at pN
       have aI:¬ k=l0.length:=by omega
       have qf:=(Aq fw (Aq @hkl (Aq @oo @aI)));refine fQ [0,2,3,5,52] [501,502,503,504] ?_;refine abP rfl ?_;refine rg [0,2,3,5] [501,502,503,504] (cJ rfl) fun K' ae=>?_;(repeat (refine sxn fun K2 aa=>?_;simp[ab,dS,eK,gJ,sh];(repeat (refine⟨by omega,?_⟩));refine aa _ ?_;clear aa K2));refine sxz (ae _ (AW.st (by simp[ab,dS,eK,gJ,sh];rfl) ?_));clear ae K'
       have bq:k+1<=l0.length+1:=by omega
       have eE:¬ (k:Int)=(l0.length:Int)+1:=by omega
       have jr:((l0.length:Int)+1 - ((k:Int)+1)).toNat=l0.length+1 - (k+1):=by omega
       have hle:k+(l0.length+1 - k)<=l0.length+1:=by omega
       have Sg:k+1+(l0.length - k)<=l0.length+1:=by omega
       obtain⟨news,np,w0,q1,q2,q3,q4,q5,q6,q7,_⟩:=V0 (l0.map fun s=>[dS s]) [dS []] [dS nm] k (by simpa using hk) (by intro el hel;obtain⟨s,_,rfl⟩:=acD.1 hel;simp[dS,D.one]) (by simp[dS,D.one])
       have q8:List.take k (l0.map fun s=>[dS s]) ++ [dS nm] :: List.drop k (l0.map fun s=>[dS s])=nX.map fun s=>[dS s]:=by rw[pN];simp
       rw[q8]at q7
       have q9:nX.length=l0.length+1:=by rw[pN];simp;omega
       rw[ac1]at q1 q4 q5;rw[Nat.add_sub_add_right]at q4;simp only[dS]at q1 q4 q7;rw[<- br]at q1 q4
       have Fw:(np[k]'(by omega)).tail=[]:=by
        have:=q6;rw[By (by omega)]at this;rw[AI this];rfl
       have V3:=eq_true (And.intro q2 q3);have V4:=eq_true q2;have V5:=eq_true q3
       have Sb:k < l0.length+1:=by omega
       have qf:=(Aq fw (Aq @bq (Aq @hk (Aq @aI (Aq @eE (Aq @jr (Aq @hle (Aq @Sg (Aq @q1 (Aq @V3 (Aq @V4 (Aq @V5 @q4))))))))))));refine fQ [0,2,3,5] [501,502,503,504] ?_;refine aeR (al _) (by kernel_rfl) (by kernel_rfl) fun K' ae=>?_;(repeat (refine eC fun K2 aa=>?_;simp[ab,dS,eK,gJ,q5,q6,q7,Fw,Sb];(repeat (refine⟨by omega,?_⟩));refine aa _ ?_;clear aa K2));refine iL (ae _ ?_);clear ae K';(try simp only[aJ,aL]);refine ek _ ?_;refine aB.to' (cJ rfl) (by simp[ab,dS,eK,gJ,q9,q7,Fw]) (by simp[ab,dS,eK,gJ,q9,q7,Fw])
     .obtain rfl:k=l0.length:=by omega
      rw[if_neg (fun ⟨h,_⟩=>hkl h),ac0,List.drop_length]at pN;have qf:=(Aq fw @hkl);refine fQ [0,2,3,5,52] [501,502,503,504] ?_;refine abP rfl ?_;refine rg [0,2,3,5] [501,502,503,504] (cJ rfl) fun K' ae=>?_;(repeat (refine sxn fun K2 aa=>?_;simp[ab,dS,eK,gJ,sh];(repeat (refine⟨by omega,?_⟩));refine aa _ ?_;clear aa K2));refine sxz (ae _ (AW.st (by simp[ab,dS,eK,gJ,sh];rfl) ?_));clear ae K'
      have eE:¬ (l0.length:Int)=(l0.length:Int)+1:=by omega
      have jr:¬ (l0.length:Int)+1=0:=by omega
      have q8:(l0.map fun s=>[dS s]) ++ [[dS nm]]=nX.map fun s=>[dS s]:=by rw[pN];simp
      have q9:nX.length=l0.length+1:=by rw[pN];simp
      simp only[dS]at q8;have qf:=(Aq fw (Aq @eE (Aq @jr (Aq @D.one.eq_1 (Aq @D.one.eq_2 (Aq @D.one.eq_3 @D.one.eq_4))))));refine fQ [0,2,3,5] [501,502,503,504] ?_;refine aeR (al _) (by kernel_rfl) (by kernel_rfl) fun K' ae=>?_;(repeat (refine eC fun K2 aa=>?_;simp[ab,dS,eK,gJ];(repeat (refine⟨by omega,?_⟩));refine aa _ ?_;clear aa K2));refine iL (ae _ ?_);clear ae K';(try simp only[aJ,aL]);refine ek _ ?_;refine aB.to' (cJ rfl) (by simp[ab,dS,eK,gJ,q9,q8]) (by simp[ab,dS,eK,gJ,q9,q8])
  .simp only[adO]at jL;refine rgq fw [3,74,75,76] [501,502,503,504] ?_;refine bQ (S:=Nat) (fun i=>i<=l.length) (fun i=>⟨aV [(3,.ref 504 0 0),(74,.d (.sl kk (l.map fun x=>[dR x]))),(75,int l.length),(76,int i)],ak (eK all (ja nX (ef all (l.take i))))⟩) (fun i=>l.length - i) 0 ?_ (by omega) ?_
   .refine aB.to' (cJ rfl) (by simp[ab,dS,eK,gJ,ef,JI]) (by simp[ab,dS,eK,gJ,ef,JI])
   .intro i hi;refine rgq fw [3,74,75,76,77] [501,502,503,504] ?_;refine af fun K4 bK=>?_;refine eh (b:=i < l.length) (by simp[D.le,D.le.go,aC,ab,dS,eK,gJ]) (fun hc=>?_) (fun hc=>?_)
    .have c6:i < l.length:=hc;have h1:=E5 all c6;have h2:=xQ all (l.take i);have h3:=B2 c6;have h4:=Eh (ef all (l.take i)) nX;have bT:=jL _ (abH c6) (ja nX (ef all (l.take i))) (by omega);rw[<- JG,<- h1]at bT;have hf:=od l[i];rw[hf]at bT;refine abO (bK _ ?_);refine af fun K5 bB=>?_;refine aR ?_;have qf:=(Aq fw (Aq @c6 @hf));refine abQ [3,7,74,75,76] [501,502,503,504] ?_;refine cR (al _) fun K' ae=>?_;(repeat (refine sxn fun K2 aa=>?_;simp[ab,dS,eK,gJ];(repeat (refine⟨by omega,?_⟩));refine aa _ ?_;clear aa K2));refine sxn fun K2 aa=>?_;simp[ab,dS,eK,gJ];refine ab8.mc (bT) ?_ ?_ ?_ ?_ ?_<;>simp[ab,dS,eK,gJ];refine aa _ ?_;clear aa K2;(repeat (refine sxn fun K2 aa=>?_;simp[ab,dS,eK,gJ];(repeat (refine⟨by omega,?_⟩));refine aa _ ?_;clear aa K2));refine sxz (ae _ ?_);clear ae K';refine bB _ (AW.norm [3,74,75,76] [501,502,503,504] (cJ rfl) (AW.st (by simp[ab,dS,eK,gJ];rfl) ?_));refine reQ fw ?_;(try simp only[aJ,aL]);refine aS.mk (i+1) (by omega) (by omega) ?_;refine abW fw
    .obtain rfl:i=l.length:=by omega
     refine bx ?_;simp[D.le_refl,ac0,eK,gJ,dS]
theorem mZ {r r':Nat} (hr:r≠r') (l:List (Nat×Row)) (hl:∀ p∈l,p.1≠r'):mY r r' (ak l)=ak (l.map fun p=>(if p.1=r then r' else p.1,p.2.tr (fb r r') (ac4 r r'))):=by
 funext q;unfold mY
 induction l with
 | nil=>simp[ak,List.lookup]
 | cons p l ih=>
  have ih:=ih fun p hp=>hl p (by simp[hp]);have hp:=hl p (by simp);obtain⟨k,row⟩:=p;simp only[ak,List.lookup,acJ]at ih ⊢;by_cases h1:q=r'
  .subst h1;simp only[if_true]at ih ⊢;by_cases h2:k=r
   .subst h2;simp
   .have a1:(r == k)=false:=by simpa using fun e=>h2 e.symm
    have a2:(q == k)=false:=by simpa using fun e=>hp e.symm
    simp only[h2,if_false,a1,a2];exact ih
  .simp only[h1,if_false]at ih ⊢;by_cases h2:q=r
   .subst h2;simp only[if_true]at ih ⊢;by_cases h3:k=q
    .have a1:(q == r')=false:=by simpa using h1
     simp only[h3,if_true,a1];exact ih
    .have a1:(q == k)=false:=by simpa using fun e=>h3 e.symm
     simp only[h3,if_false,a1];exact ih
   .simp only[h2,if_false]at ih ⊢;by_cases h3:k=r
    .have a1:(q == k)=false:=by rw[h3];simpa using h2
     have a2:(q == r')=false:=by simpa using h1
     simp only[h3,if_true,a2]at a1 ⊢;rw[a1];exact ih
    .simp only[h3,if_false];by_cases h4:q=k
     .subst h4;simp
     .have a1:(q == k)=false:=by simpa using h4
      simp only[a1];exact ih
theorem Kv (G:aq) (hM:adP G) (all:Bool) (e:Ex) (hb:bE e<=2^28):ar prog G 147 [dR e,dS (lC all)] (.sl none ((dv all e).map fun s=>[dS s])):=by
 have hw:=YB G hM all _ e (abL _) [] (by simp;omega);have fj:=To all e;rw[fj]at hw;simp only[adO]at hw;generalize dv all e=l at hw ⊢;clear fj;rw[od]at hw ⊢;refine ar.abS (al _) func147 rfl rfl (rs:=[.tmp 4]) results147 (by simp[ntmps147]) fun X=>?_;simp only[ntmps147,List.map];have fw:=(Aq @afg (Aq @afi (Aq @eK.eq_1 @gJ.eq_1)));refine rgq fw [0,3] [3] ?_;refine rgq fw [0,3,5] [3,5] ?_;refine rgq fw [0,3,5,6] [3,5,6] ?_;refine rgq fw [0,5,6] [3,5,6] ?_;refine AW.imp (aB.ren (r:=3) (r':=501) trivial (by simp)) ?_;refine AW.st (by simp[fb,ac4,Go.Av.ren,mZ];rfl) ?_;refine AW.imp (aB.ren (r:=5) (r':=502) trivial (by simp)) ?_;refine AW.st (by simp[fb,ac4,Go.Av.ren,mZ];rfl) ?_;refine AW.imp (aB.ren (r:=6) (r':=504) trivial (by simp)) ?_;refine AW.st (by simp[fb,ac4,Go.Av.ren,mZ];rfl) ?_;refine AW.imp (aB.nj 502 0 503 9 1 rfl rfl rfl) ?_;refine AW.imp (τ:=⟨aV [(0,.d (.ip [dS (sV e),dS (nU e),xR e])),(5,.ref 502 0 0),(6,.ref 504 0 0)],ak (eK all [])⟩) ?_ ?_
 .refine abW (Aq fw (Aq @eK.eq_1 @gJ.eq_1))
 refine bf fw hw [5] [502,503] ?_;refine rgq (Aq fw (Aq @eK.eq_1 @gJ.eq_1)) [4] [502,503] ?_;have cw:List.take l.length (l.map fun s=>[dS s])=l.map fun s=>[dS s]:=sh (by simp);simp only[dS]at cw;refine AW.imp (aB.freeze 503 trivial) ?_;refine AW.st (by simp[ab,dS,eK,gJ,cw];rfl) ?_;exact aN (Aq fw @cw)
theorem Yc (G:aq) (hM:adP G) (e:Ex) (hb:bE e<=2^28):ar prog G 95 [dR e] (.sl none ((dv true e).map fun s=>[dS s])):=by
 have hs:=Kv G hM true e hb;rw[od]at hs ⊢;generalize dv true e=l at hs ⊢;have hk:dS (lC true) = .v (.string ⟨#[98,105,116,94,126]⟩):=rfl;rw[hk]at hs;refine ar.abS (al _) func95 rfl rfl (rs:=[.tmp 2]) results95 (by simp[ntmps95]) fun X=>?_;simp only[ntmps95,List.map];have fw:=(Aq @afg (Aq @afi (Aq @eK.eq_1 @gJ.eq_1)));refine rgq fw [0] [] ?_;refine aT fw hs [2] [] ?_;exact aN fw
theorem Wo (G:aq) (hM:adP G) (e:Ex) (hb:bE e<=2^28):ar prog G 179 [dR e] (.sl none ((dv false e).map fun s=>[dS s])):=by
 have hs:=Kv G hM false e hb;rw[od]at hs ⊢;generalize dv false e=l at hs ⊢;have hk:dS (lC false) = .v (.string ⟨#[94,126]⟩):=rfl;rw[hk]at hs;refine ar.abS (al _) func179 rfl rfl (rs:=[.tmp 2]) results179 (by simp[ntmps179]) fun X=>?_;simp only[ntmps179,List.map];have fw:=(Aq @afg (Aq @afi (Aq @eK.eq_1 @gJ.eq_1)));refine rgq fw [0] [] ?_;refine aT fw hs [2] [] ?_;exact aN fw
theorem N7 (p:PgP) (i:Nat) (hi:i < p.names.length):j5 p i p.names[i]=if !aeU p.names[i].name then 5 else if !(decide (1<=p.names[i].kind) && decide (p.names[i].kind<=4)) then 1 else if (decide (p.names[i].kind >= 3) && !(decide (1<=p.names[i].count) && decide (p.names[i].count<=7))) || (decide (p.names[i].kind < 3) && decide (p.names[i].count≠0)) then 2 else if bF p p.names[i].name≠i then 9 else 0:=by
 rw[<- N6 p i hi,B4,Kt]
theorem B3 (p:PgP) (k:Int) (s:Tx) (e:Ex):iO p ⟨k,s,some e⟩=if !(decide (1<=k) && decide (k<=6)) then 1 else if bF p s < 0 then 7 else if !decide (gK k=(p.names.getD (bF p s).toNat ⟨[],0,0⟩).kind) then 1 else if (dv true e).any fun s=>decide (bF p s < 0) then 7 else 0:=by
 have h:(decide (k < 1) || decide (k > 6)) = !(decide (1<=k) && decide (k<=6)):=by
  by_cases h1:1<=k<;>by_cases h2:k<=6<;>simp[h1,h2]<;>omega
 show (if decide (k < 1) || decide (k > 6) then (1:Int) else _)=_;rw[h];simp only[aez,decide_eq_false_iff_not,ne_eq]
theorem Ue (G:aq) (hF:qe G) (hM:adP G) (p:PgP) (hp:yB p):ar prog G 119 [cX p] (aci (acg p)):=by
 unfold qe at hF;obtain⟨hnl,hrl,ov,uo⟩:=hp
 have nJ:acg p=if p.names.length > 12\/p.ao.length > 40 then some (4,none) else match j7 (j5 p) p.names 0 with
  | some (e,i)=>some (e,some i)
  | none=>match j7 (fun _ r=>iO p r) p.ao 0 with
   | some (e,i)=>some (e,some (p.names.length+i))
   | none=>none:=rfl
 generalize adf:acg p=res;rw[nJ]at adf;have ab3:=fun s=>MP G p hnl s;have C8:=yI G 4;simp only[cX,eu,bO,dS]at ab3 ⊢;simp only[ab]at hF C8;refine ar.abS (al _) func119 rfl rfl (rs:=[.cell 2 124]) results119 (by simp[ntmps119]) fun X=>?_;simp only[ntmps119,List.map];refine ah [1,2] [1,2] ?_;refine dX 1 ?_;refine af fun K1 ax=>?_;by_cases g0:(p.names.length:Int) > 12
 .rw[if_pos (.inl (by omega))]at adf;have qf:=@g0;refine abQ [1,2,20] [2] ?_;refine abP rfl ?_;refine aT trivial C8 [2] [2] ?_;refine ab1 ?_;simp[D.le,D.le.go,aC];simp[<- adf,aci,codeF,bw,ab,D.le,D.le.go]
 by_cases g1:(p.ao.length:Int) > 40
 .rw[if_pos (.inr (by omega))]at adf;have qf:=(Aq @g0 @g1);refine abQ [1,2,20] [2] ?_;refine abP rfl ?_;refine aT trivial C8 [2] [2] ?_;refine ab1 ?_;simp[D.le,D.le.go,aC];simp[<- adf,aci,codeF,bw,ab,D.le,D.le.go]
 rw[if_neg (by omega)]at adf;have qf:=(Aq @g0 @g1);refine abQ [1,2,20] [2] ?_;refine abN rfl ?_;refine abO (ax _ ?_);refine af fun K2 aa=>?_;refine ah [1,2,23,24,25] [2] ?_;refine bQ (S:=Nat) (fun n=>n<=p.names.length/\∀ k (hk:k < p.names.length),k < n->j5 p k p.names[k]=0) (fun n=>⟨aV [(1,.d (.ip [.sl none (p.names.map cNm),.sl none (p.ao.map cL)])),(2,.ref 2 0 0),(23,.d (.sl none (p.names.map cNm))),(24,int p.names.length),(25,int n)],ak [(2,.box 124 [int 0,int 0])]⟩) (fun n=>p.names.length - n) 0 ?_ (by simp) ?_
 .refine bJ
 .rintro n ⟨hn,hb⟩;refine ah [1,2,23,24,25,26] [2] ?_;refine af fun K3 aQ=>?_;refine eh (b:=n < p.names.length) (by simp[D.le,D.le.go,aC]) (fun hc=>?_) (fun hc=>?_)
  .have au:=hc
   have ek:j5 p n p.names[n]≠0->res=some (j5 p n p.names[n],some n):=fun aI=>by
    rw[<- adf,we (i:=0) au (fun k hk kJ=>by rw[acR];exact hb k hk kJ) (by rw[acR];exact aI)];simp
   have fj:=ov _ (abH au);have ac6:cNm p.names[n]=[dS p.names[n].name,.v (.int .i64 p.names[n].kind),.v (.int .i64 p.names[n].count)]:=rfl;have bz:=N7 p n au;have ad8:=Ky G p.names[n].name fj;generalize hv:j5 p n p.names[n]=v at bz ek;generalize p.names[n].name=nm at fj ac6 bz ad8;generalize p.names[n].kind=kd at ac6 bz;generalize p.names[n].count=ct at ac6 bz;have jx:=ab3 nm;have gQ:=Gf G kd 1 4;have jz:=Gf G ct 1 7;simp only[dS]at ac6 ad8;simp only[ab]at gQ jz;generalize aeU nm=nf at ad8 bz;generalize gO:(decide (1<=kd) && decide (kd<=4))=q1 at gQ bz;generalize eS:(decide (1<=ct) && decide (ct<=7))=q2 at jz bz;refine abO (aQ _ ?_);refine af fun K4 bK=>?_;refine aR ?_;have qf:=(Aq @au @ac6);refine abQ [1,2,3,4,23,24,25] [2,4] ?_;refine dX 4 ?_;refine af fun K5 bB=>?_;refine aT trivial ad8 [1,2,3,4,23,24,25,33] [2] ?_
   cases nf with
   | false=>
    rw[if_pos (by simp)]at bz;have hr:=ek (by rw[bz];decide);rw[bz]at hr;refine abP rfl ?_;refine ah [2] [2] ?_;exact aN (Aq @hr (Aq @afj (Aq @afm (Aq @afn (Aq @afo (Aq @afs @afg))))))
   | true=>
    rw[if_neg (by decide)]at bz;refine abN rfl ?_;refine abO (bB _ ?_);refine af fun K6 cq=>?_;refine aT trivial gQ [1,2,3,4,23,24,25,39] [2] ?_
    cases q1 with
    | false=>
     rw[if_pos (by simp)]at bz;have hr:=ek (by rw[bz];decide);rw[bz]at hr;refine abP rfl ?_;refine ah [2] [2] ?_;exact aN (Aq @hr (Aq @afj (Aq @afm (Aq @afn (Aq @afo (Aq @afs @afg))))))
    | true=>
     rw[if_neg (by decide)]at bz;refine abN rfl ?_;refine abO (cq _ ?_);refine af fun K7 de=>?_;by_cases k3:kd >= 3
     .have gb:¬ kd < 3:=by omega
      cases q2 with
      | false=>
       have qf:=(Aq @k3 @gb);refine dr jz [1,2,3,4,23,24,25,60] [2] ?_;rw[if_pos (by simp[k3])]at bz;have hr:=ek (by rw[bz];decide);rw[bz]at hr;refine abP rfl ?_;refine ah [2] [2] ?_;exact aN (Aq @hr (Aq @afj (Aq @afm (Aq @afn (Aq @afo (Aq @afs @afg))))))
      | true=>
       rw[if_neg (by simp[gb])]at bz;have qf:=(Aq @k3 @gb);refine dr jz [1,2,3,4,23,24,25,60] [2] ?_;refine abN rfl ?_;refine abO (de _ ?_);refine aT trivial jx [1,2,3,23,24,25,68] [2] ?_;by_cases c9:bF p nm=n
       .rw[if_neg (by simp[c9])]at bz;refine abN (by simp[c9]) ?_;refine abO (bK _ ?_);refine re0 ?_;(try simp only[aJ,aL]);refine aS.mk (n+1) ⟨by omega,fun k hk kJ=>?_⟩ (by omega) ?_
        .by_cases h:k=n
         .subst h;rw[hv,bz]
         .exact hb k hk (by omega)
        refine bJ
       .rw[if_pos c9]at bz;have hr:=ek (by rw[bz];decide);rw[bz]at hr;refine abP (by simp[c9]) ?_;refine ah [2] [2] ?_;exact aN (Aq @hr (Aq @afj (Aq @afm (Aq @afn (Aq @afo (Aq @afs @afg))))))
     .have gb:kd < 3:=by omega
      by_cases c0:ct=0
      .rw[if_neg (by simp[k3,c0])]at bz;have qf:=(Aq @k3 (Aq @gb @c0));refine abQ [1,2,3,4,23,24,25,60] [2] ?_;refine abN rfl ?_;refine abO (de _ ?_);refine aT trivial jx [1,2,3,23,24,25,68] [2] ?_;by_cases c9:bF p nm=n
       .rw[if_neg (by simp[c9])]at bz;refine abN (by simp[c9]) ?_;refine abO (bK _ ?_);refine re0 ?_;(try simp only[aJ,aL]);refine aS.mk (n+1) ⟨by omega,fun k hk kJ=>?_⟩ (by omega) ?_
        .by_cases h:k=n
         .subst h;rw[hv,bz]
         .exact hb k hk (by omega)
        refine bJ
       .rw[if_pos c9]at bz;have hr:=ek (by rw[bz];decide);rw[bz]at hr;refine abP (by simp[c9]) ?_;refine ah [2] [2] ?_;exact aN (Aq @hr (Aq @afj (Aq @afm (Aq @afn (Aq @afo (Aq @afs @afg))))))
      .have qf:=(Aq @k3 (Aq @gb @c0));refine abQ [1,2,3,4,23,24,25,60] [2] ?_;rw[if_pos (by simp[gb,c0])]at bz;have hr:=ek (by rw[bz];decide);rw[bz]at hr;refine abP rfl ?_;refine ah [2] [2] ?_;exact aN (Aq @hr (Aq @afj (Aq @afm (Aq @afn (Aq @afo (Aq @afs @afg))))))
  .rw[wh fun k hk=>by rw[acR];exact hb k hk (by omega)]at adf;dsimp only at adf;refine bx (aa _ ?_);refine af fun K8 dz=>?_;refine ah [1,2,73,74,75] [2] ?_;refine bQ (S:=Nat) (fun n=>n<=p.ao.length/\∀ k (hk:k < p.ao.length),k < n->iO p p.ao[k]=0) (fun n=>⟨aV [(1,.d (.ip [.sl none (p.names.map cNm),.sl none (p.ao.map cL)])),(2,.ref 2 0 0),(73,.d (.sl none (p.ao.map cL))),(74,int p.ao.length),(75,int n)],ak [(2,.box 124 [int 0,int 0])]⟩) (fun n=>p.ao.length - n) 0 ?_ (by simp) ?_
   .refine bJ
   .rintro n ⟨hn,hb⟩;refine ah [1,2,73,74,75,76] [2] ?_;refine af fun K9 hK9=>?_;refine eh (b:=n < p.ao.length) (by simp[D.le,D.le.go,aC]) (fun hc=>?_) (fun hc=>?_)
    .have au:=hc
     have ek:iO p p.ao[n]≠0->res=some (iO p p.ao[n],some (p.names.length+n)):=fun aI=>by
      rw[<- adf,we (i:=0) au (fun k hk kJ=>hb k hk kJ) aI];simp
     have De:=uo p.ao[n] (abH au);obtain⟨⟨kd,nm,cd⟩,pQ⟩:∃ r,p.ao[n]=r:=⟨_,rfl⟩
     have hzero:iO p ⟨kd,nm,cd⟩=0->∀ k (hk:k < p.ao.length),k < n+1->iO p p.ao[k]=0:=fun h0 k hk kJ=>by
      by_cases h:k=n
      .subst h;rw[pQ];exact h0
      .exact hb k hk (by omega)
     rw[pQ]at ek De
     have ac6:cL p.ao[n]=[.v (.int .i64 kd),dS nm,iP cd]:=by rw[pQ];rfl
     dsimp only at De;obtain⟨v,hv⟩:∃ v,iO p ⟨kd,nm,cd⟩=v:=⟨_,rfl⟩;rw[hv]at ek hzero;have bz:=hv.symm;have gQ:=Gf G kd 1 6;have jx:=ab3 nm;simp only[dS]at ac6;simp only[ab]at gQ;refine abO (hK9 _ ?_);refine af fun K10 dy=>?_;refine aR ?_
     have dt:(p.names.length:Int)+n < 2^63:=by omega
     cases cd with
     | none=>
      have hb1:v=1:=bz;have hr:=ek (by rw[hb1];decide);rw[hb1]at hr;simp only[iP]at ac6;generalize gO:(decide (1<=kd) && decide (kd<=6))=q1 at gQ;have qf:=(Aq @au @ac6);refine abQ [1,2,5,6,73,74,75] [2,6] ?_;refine dX 6 ?_;refine ah [1,2,6,7,73,74,75] [2] ?_;refine af fun K11 j9=>?_
      cases q1 with
      | false=>
       refine aT trivial gQ [1,2,6,7,73,74,75,93] [2] ?_;refine abP rfl ?_;refine ah [2] [2] ?_;exact aN (Aq @hr (Aq @afj (Aq @afm (Aq @afn (Aq @afo (Aq @afs @afg))))))
      | true=>
       refine aT trivial gQ [1,2,6,7,73,74,75,93] [2] ?_;refine abP rfl ?_;refine ah [2] [2] ?_;exact aN (Aq @hr (Aq @afj (Aq @afm (Aq @afn (Aq @afo (Aq @afs @afg))))))
     | some e=>
      obtain⟨hbe,Sp⟩:=De e rfl;rw[B3]at bz;have fZ:=Yc G hM e hbe;simp only[iP]at ac6;obtain⟨ec,Dk⟩:∃ c,dR e = .ip c:=⟨_,od e⟩;rw[Dk]at ac6 fZ;generalize dv true e=ne at fZ Sp bz;simp only[dS]at fZ;generalize gO:(decide (1<=kd) && decide (kd<=6))=q1 at gQ bz;have qf:=(Aq @au @ac6);refine abQ [1,2,5,6,73,74,75] [2,6] ?_;refine dX 6 ?_;refine ah [1,2,6,7,73,74,75] [2] ?_;refine af fun K11 j9=>?_
      cases q1 with
      | false=>
       refine aT trivial gQ [1,2,6,7,73,74,75,93] [2] ?_;rw[if_pos (by simp)]at bz;have hr:=ek (by rw[bz];decide);rw[bz]at hr;refine abP rfl ?_;refine ah [2] [2] ?_;exact aN (Aq @hr (Aq @afj (Aq @afm (Aq @afn (Aq @afo (Aq @afs @afg))))))
      | true=>
       rw[if_neg (by decide)]at bz
       have hkd:1<=kd/\kd<=6:=by simpa using gO
       refine aT trivial gQ [1,2,6,7,73,74,75,93] [2] ?_;refine abN rfl ?_;refine abO (j9 _ ?_);refine aT trivial jx [1,2,6,7,8,73,74,75] [2] ?_;refine af fun K12 adR=>?_;refine ah [1,2,6,7,8,73,74,75,101] [2] ?_;by_cases c7:bF p nm < 0
       .rw[if_pos c7]at bz;have hr:=ek (by rw[bz];decide);rw[bz]at hr;refine abP (by simp[c7]) ?_;refine ah [2] [2] ?_;exact aN (Aq @hr (Aq @afj (Aq @afm (Aq @afn (Aq @afo (Aq @afs @afg))))))
       rw[if_neg c7]at bz;obtain⟨k,hk,hke⟩:=KH c7
       have jq:p.names.getD (bF p nm).toNat ⟨[],0,0⟩=p.names[k]:=by
        rw[hke,abX,abJ,By hk];rfl
       rw[jq]at bz;refine abN (by simp[c7]) ?_;refine abO (adR _ ?_);refine af fun j2 eZ=>?_;have hcN:cNm p.names[k]=[dS p.names[k].name,.v (.int .i64 p.names[k].kind),.v (.int .i64 p.names[k].count)]:=rfl;generalize hkk:p.names[k].kind=kk at bz hcN;rw[hke]
       refine' Ap (fun cU=>?_) ?_
       rotate_left
       .by_cases k1:kd=1
        .refine tv (al _) (by kernel_rfl) ([0]) (List.range 13) [1,2,6,7,73,74,75,116] [2] (fun _ _=>trivial) (by kernel_rfl) fun K' ae=>?_;(repeat (refine qa rfl fun K2 aa=>?_;simp[k1,hk,hcN];(repeat (refine⟨by omega,?_⟩));refine aa _ ?_;clear aa K2));refine tp (ae _ ?_);refine AW.st (by simp[k1,hk,hcN];rfl) ?_;clear ae K';refine AW.st (show _=(⟨aV [(1,.d (.ip [.sl none (p.names.map cNm),.sl none (p.ao.map cL)])),(2,.ref 2 0 0),(6,.d (.ip [.v (.int .i64 kd),.v (.string (bs nm)),.ip ec])),(7,int ((p.names.length:Int)+n)),(73,.d (.sl none (p.ao.map cL))),(74,int p.ao.length),(75,int n),(116,.d (.v (.bool (!decide (gK kd=kk)))))],ak [(2,.box 124 [int 0,int 0])]⟩:St) by rw[k1,show gK 1=2 from rfl]<;>rfl) ?_;exact cU.out
        by_cases k2:kd=2
        .refine tv (al _) (by kernel_rfl) ([0]) (List.range 13) [1,2,6,7,73,74,75,116] [2] (fun _ _=>trivial) (by kernel_rfl) fun K' ae=>?_;(repeat (refine qa rfl fun K2 aa=>?_;simp[k2,hk,hcN];(repeat (refine⟨by omega,?_⟩));refine aa _ ?_;clear aa K2));refine tp (ae _ ?_);refine AW.st (by simp[k2,hk,hcN];rfl) ?_;clear ae K';refine AW.st (show _=(⟨aV [(1,.d (.ip [.sl none (p.names.map cNm),.sl none (p.ao.map cL)])),(2,.ref 2 0 0),(6,.d (.ip [.v (.int .i64 kd),.v (.string (bs nm)),.ip ec])),(7,int ((p.names.length:Int)+n)),(73,.d (.sl none (p.ao.map cL))),(74,int p.ao.length),(75,int n),(116,.d (.v (.bool (!decide (gK kd=kk)))))],ak [(2,.box 124 [int 0,int 0])]⟩:St) by rw[k2,show gK 2=2 from rfl]<;>rfl) ?_;exact cU.out
        by_cases k3:kd=3
        .refine tv (al _) (by kernel_rfl) ([0]) (List.range 13) [1,2,6,7,73,74,75,116] [2] (fun _ _=>trivial) (by kernel_rfl) fun K' ae=>?_;(repeat (refine qa rfl fun K2 aa=>?_;simp[k3,hk,hcN];(repeat (refine⟨by omega,?_⟩));refine aa _ ?_;clear aa K2));refine tp (ae _ ?_);refine AW.st (by simp[k3,hk,hcN];rfl) ?_;clear ae K';refine AW.st (show _=(⟨aV [(1,.d (.ip [.sl none (p.names.map cNm),.sl none (p.ao.map cL)])),(2,.ref 2 0 0),(6,.d (.ip [.v (.int .i64 kd),.v (.string (bs nm)),.ip ec])),(7,int ((p.names.length:Int)+n)),(73,.d (.sl none (p.ao.map cL))),(74,int p.ao.length),(75,int n),(116,.d (.v (.bool (!decide (gK kd=kk)))))],ak [(2,.box 124 [int 0,int 0])]⟩:St) by rw[k3,show gK 3=2 from rfl]<;>rfl) ?_;exact cU.out
        by_cases k4:kd=4
        .refine tv (al _) (by kernel_rfl) ([0]) (List.range 13) [1,2,6,7,73,74,75,116] [2] (fun _ _=>trivial) (by kernel_rfl) fun K' ae=>?_;(repeat (refine qa rfl fun K2 aa=>?_;simp[k4,hk,hcN];(repeat (refine⟨by omega,?_⟩));refine aa _ ?_;clear aa K2));refine tp (ae _ ?_);refine AW.st (by simp[k4,hk,hcN];rfl) ?_;clear ae K';refine AW.st (show _=(⟨aV [(1,.d (.ip [.sl none (p.names.map cNm),.sl none (p.ao.map cL)])),(2,.ref 2 0 0),(6,.d (.ip [.v (.int .i64 kd),.v (.string (bs nm)),.ip ec])),(7,int ((p.names.length:Int)+n)),(73,.d (.sl none (p.ao.map cL))),(74,int p.ao.length),(75,int n),(116,.d (.v (.bool (!decide (gK kd=kk)))))],ak [(2,.box 124 [int 0,int 0])]⟩:St) by rw[k4,show gK 4=3 from rfl]<;>rfl) ?_;exact cU.out
        by_cases k5:kd=5
        .refine tv (al _) (by kernel_rfl) ([0]) (List.range 13) [1,2,6,7,73,74,75,116] [2] (fun _ _=>trivial) (by kernel_rfl) fun K' ae=>?_;(repeat (refine qa rfl fun K2 aa=>?_;simp[k5,hk,hcN];(repeat (refine⟨by omega,?_⟩));refine aa _ ?_;clear aa K2));refine tp (ae _ ?_);refine AW.st (by simp[k5,hk,hcN];rfl) ?_;clear ae K';refine AW.st (show _=(⟨aV [(1,.d (.ip [.sl none (p.names.map cNm),.sl none (p.ao.map cL)])),(2,.ref 2 0 0),(6,.d (.ip [.v (.int .i64 kd),.v (.string (bs nm)),.ip ec])),(7,int ((p.names.length:Int)+n)),(73,.d (.sl none (p.ao.map cL))),(74,int p.ao.length),(75,int n),(116,.d (.v (.bool (!decide (gK kd=kk)))))],ak [(2,.box 124 [int 0,int 0])]⟩:St) by rw[k5,show gK 5=4 from rfl]<;>rfl) ?_;exact cU.out
        have k6:kd=6:=by omega
        refine tv (al _) (by kernel_rfl) ([0]) (List.range 13) [1,2,6,7,73,74,75,116] [2] (fun _ _=>trivial) (by kernel_rfl) fun K' ae=>?_;(repeat (refine qa rfl fun K2 aa=>?_;simp[k6,hk,hcN];(repeat (refine⟨by omega,?_⟩));refine aa _ ?_;clear aa K2));refine tp (ae _ ?_);refine AW.st (by simp[k6,hk,hcN];rfl) ?_;clear ae K';refine AW.st (show _=(⟨aV [(1,.d (.ip [.sl none (p.names.map cNm),.sl none (p.ao.map cL)])),(2,.ref 2 0 0),(6,.d (.ip [.v (.int .i64 kd),.v (.string (bs nm)),.ip ec])),(7,int ((p.names.length:Int)+n)),(73,.d (.sl none (p.ao.map cL))),(74,int p.ao.length),(75,int n),(116,.d (.v (.bool (!decide (gK kd=kk)))))],ak [(2,.box 124 [int 0,int 0])]⟩:St) by rw[k6,show gK 6=4 from rfl]<;>rfl) ?_;exact cU.out
       .generalize hwk:(!decide (gK kd=kk))=wk at bz
        cases wk with
        | true=>
         rw[if_pos rfl]at bz;have hr:=ek (by rw[bz];decide);rw[bz]at hr;refine abP rfl ?_;refine ah [2] [2] ?_;exact aN (Aq @hr (Aq @afj (Aq @afm (Aq @afn (Aq @afo (Aq @afs @afg))))))
        | false=>
         rw[if_neg (by decide)]at bz;refine abN rfl ?_;refine abO (eZ _ ?_);refine aT trivial fZ [1,2,7,73,74,75,121,122,123] [2] ?_;refine bQ (S:=Nat) (fun m=>m<=ne.length/\∀ j (hj:j < ne.length),j < m->¬ bF p ne[j] < 0) (fun m=>⟨aV [(1,.d (.ip [.sl none (p.names.map cNm),.sl none (p.ao.map cL)])),(2,.ref 2 0 0),(7,int ((p.names.length:Int)+n)),(73,.d (.sl none (p.ao.map cL))),(74,int p.ao.length),(75,int n),(121,.d (.sl none (ne.map fun s=>[.v (.string (bs s))]))),(122,int ne.length),(123,int m)],ak [(2,.box 124 [int 0,int 0])]⟩) (fun m=>ne.length - m) 0 ?_ (by simp) ?_
         .refine bJ
         .rintro m ⟨hm,hj⟩;refine ah [1,2,7,73,74,75,121,122,123,124] [2] ?_;refine af fun vJ po=>?_;refine eh (b:=m < ne.length) (by simp[D.le,D.le.go,aC]) (fun hc=>?_) (fun hc=>?_)
          .have qU:=hc;have Ss:=ab3 ne[m]
           have Q8:bF p ne[m] < 0->v=7:=fun h=>by
            rw[bz,if_pos (ad1.2 ⟨_,abH qU,by simpa using h⟩)]
           have ou:¬ bF p ne[m] < 0->∀ j (h:j < ne.length),j < m+1->¬ bF p ne[j] < 0:=fun h0 j h zG=>by
            by_cases he:j=m
            .subst he;exact h0
            .exact hj j h (by omega)
           refine abO (po _ ?_);refine af fun BH r3=>?_;refine aR ?_;have qf:=@qU;refine abQ [1,2,7,10,73,74,75,121,122,123] [2] ?_;refine aT trivial Ss [1,2,7,73,74,75,121,122,123,130] [2] ?_;by_cases yN:bF p ne[m] < 0
           .have qG:=Q8 yN;have hr:=ek (by rw[qG];decide);rw[qG]at hr;refine abP (by simp[yN]) ?_;refine ah [2] [2] ?_;exact aN (Aq @hr (Aq @afj (Aq @afm (Aq @afn (Aq @afo (Aq @afs @afg))))))
           .refine abN (by simp[yN]) ?_;refine abO (r3 _ ?_);refine re0 ?_;(try simp only[aJ,aL]);refine aS.mk (m+1) ⟨by omega,ou yN⟩ (by omega) ?_;refine bJ
          .have qF:(ne.any fun s=>decide (bF p s < 0))=false:=by
            rw[List.any_eq_false];intro s hs;obtain⟨j,fg,rfl⟩:=aco.1 hs;simpa using hj j fg (by omega)
           rw[qF,if_neg (by decide)]at bz;refine bx (dy _ ?_);refine re0 ?_;(try simp only[aJ,aL]);refine aS.mk (n+1) ⟨by omega,hzero bz⟩ (by omega) ?_;refine bJ
    .rw[wh fun k hk=>hb k hk (by omega)]at adf;refine bx (dz _ ?_);have qf:=@hF;refine abQ [2] [2] ?_;refine ab1 ?_;simp[D.le,D.le.go,aC];simp[<- adf,aci,codeF,bw,ab,D.le,D.le.go]
end Go.Proofs.YtdigkhaofjmgkaaGreatDoor
namespace Go.Proofs
open Go.Shelf
def Tryz.J6:Go.Shelf.Ren:=⟨fun | 189=>128 | 125=>184 | 257=>183 | 128=>227 | 129=>228 | 294=>218 | 295=>219 | 296=>220 | 297=>221 | 298=>222 | 299=>223 | 216=>224 | 300=>225 | 301=>226 | 328=>247 | 329=>248 | 330=>249 | 331=>250 | 332=>251 | 215=>198 | 343=>273 | n=>n,fun | 28=>46 | 3=>3 | 46=>156 | 0=>0 | 51=>300 | 53=>303 | 4=>4 | 183=>324 | 182=>323 | 131=>202 | 5=>5 | 9=>9 | 218=>348 | 222=>352 | 228=>372 | 229=>373 | n=>n,fun | n=>n⟩
theorem Tryz.T6:Go.Proofs.Lays.n189 prog Tryz.J6:={
 mixed:=by kernel_rfl
 f125:=func184.trans (congrArg some (by kernel_rfl))
 f128:=func227.trans (congrArg some (by kernel_rfl))
 f129:=func228.trans (congrArg some (by kernel_rfl))
 f189:=func128.trans (congrArg some (by kernel_rfl))
 f215:=func198.trans (congrArg some (by kernel_rfl))
 f216:=func224.trans (congrArg some (by kernel_rfl))
 f257:=func183.trans (congrArg some (by kernel_rfl))
 f294:=func218.trans (congrArg some (by kernel_rfl))
 f295:=func219.trans (congrArg some (by kernel_rfl))
 f296:=func220.trans (congrArg some (by kernel_rfl))
 f297:=func221.trans (congrArg some (by kernel_rfl))
 f298:=func222.trans (congrArg some (by kernel_rfl))
 f299:=func223.trans (congrArg some (by kernel_rfl))
 f300:=func225.trans (congrArg some (by kernel_rfl))
 f301:=func226.trans (congrArg some (by kernel_rfl))
 f328:=func247.trans (congrArg some (by kernel_rfl))
 f329:=func248.trans (congrArg some (by kernel_rfl))
 f330:=func249.trans (congrArg some (by kernel_rfl))
 f331:=func250.trans (congrArg some (by kernel_rfl))
 f332:=func251.trans (congrArg some (by kernel_rfl))
 f343:=func273.trans (congrArg some (by kernel_rfl))
 t0:=underlying0
 a0:=isAgg0
 z0:=sizeOf0
 v0:=zeroValue0
 t3:=underlying3
 a3:=isAgg3
 z3:=sizeOf3
 v3:=zeroValue3
 t4:=underlying4
 a4:=isAgg4
 z4:=sizeOf4
 v4:=zeroValue4
 t5:=underlying5
 a5:=isAgg5
 z5:=sizeOf5
 v5:=zeroValue5
 t9:=underlying9
 a9:=isAgg9
 z9:=sizeOf9
 v9:=zeroValue9
 t28:=underlying46
 a28:=isAgg46
 z28:=sizeOf46
 v28:=zeroValue46
 t46:=underlying156
 a46:=isAgg156
 z46:=sizeOf156
 v46:=zeroValue156
 t51:=underlying300
 a51:=isAgg300
 z51:=sizeOf300
 v51:=zeroValue300
 t53:=underlying303
 a53:=isAgg303
 z53:=sizeOf303
 v53:=zeroValue303
 t131:=underlying202
 a131:=isAgg202
 z131:=sizeOf202
 v131:=zeroValue202
 t182:=underlying323
 a182:=isAgg323
 z182:=sizeOf323
 v182:=zeroValue323
 t183:=underlying324
 a183:=isAgg324
 z183:=sizeOf324
 v183:=zeroValue324
 t218:=underlying348
 a218:=isAgg348
 z218:=sizeOf348
 v218:=zeroValue348
 t222:=underlying352
 a222:=isAgg352
 z222:=sizeOf352
 v222:=zeroValue352
 t228:=underlying372
 a228:=isAgg372
 z228:=sizeOf372
 v228:=zeroValue372
 t229:=underlying373
 a229:=isAgg373
 z229:=sizeOf373
 v229:=zeroValue373 }
