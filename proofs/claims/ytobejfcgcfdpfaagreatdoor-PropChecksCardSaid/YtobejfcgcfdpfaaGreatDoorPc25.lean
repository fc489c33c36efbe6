/- Parts. -/
import Derived.Test.YtobejfcgcfdpfaaGreatDoorPc23
import Derived.Test.YtobejfcgcfdpfaaGreatDoorPc24
import Derived.Sort.Walk0
set_option linter.unusedSimpArgs false
set_option linter.unusedVariables false
set_option maxHeartbeats 32000000
set_option maxRecDepth 100000
open Go.Proofs.Tryz
namespace Go.Proofs.YtobejfcgcfdpfaaGreatDoor
open Go.Av
def qP (all:Bool):List UInt8:=if all then [98,105,116,94,126] else [94,126]
theorem afh (all:Bool) (e:Ex):dH all e=iK (eh all e) ++ gJ all (o3 e):=by
 cases e<;>simp[dH,o3,gJ,eh,iK]
theorem afg (all:Bool) (e:Ex):(tR e=[]/\iK (eh all e)=[])\/(tR e≠[]/\Lib.contains (qP all) (Ad e)=false/\iK (eh all e)=[])\/(tR e≠[]/\Lib.contains (qP all) (Ad e)=true/\iK (eh all e)=[tR e]):=by
 have c1:Lib.contains (qP true) [98,105,116]=true:=by decide +kernel
 have c2:Lib.contains (qP false) [98,105,116]=false:=by decide +kernel
 have c3:∀ all,Lib.contains (qP all) [94]=true:=by decide +kernel
 have c4:∀ all,Lib.contains (qP all) [126]=true:=by decide +kernel
 cases e with
 | bit s=>
  by_cases hs:s=[]
  .subst hs;cases all<;>exact .inl ⟨rfl,rfl⟩
  .cases all with
   | true=>exact .inr (.inr ⟨hs,c1,by simp[eh,iK,tR,hs]⟩)
   | false=>exact .inr (.inl ⟨hs,c2,by simp[eh,iK]⟩)
 | jV s=>
  by_cases hs:s=[]
  .subst hs;exact .inl ⟨rfl,rfl⟩
  .exact .inr (.inr ⟨hs,c3 _,by simp[eh,iK,tR,hs]⟩)
 | jL s=>
  by_cases hs:s=[]
  .subst hs;exact .inl ⟨rfl,rfl⟩
  .exact .inr (.inr ⟨hs,c4 _,by simp[eh,iK,tR,hs]⟩)
 | _=>exact .inl ⟨rfl,rfl⟩
def kp:AV:=.fn (.func 121) [.ref 501 0 0,.ref 502 0 0,.ref 504 0 0]
def iA (all:Bool) (l:List Tx):List (Nat×Row):=[(501,.box 9 [.d (dS (qP all))]),(502,.box 77 [.own 503 0 l.length]),(503,.sl 9 1 (l.map fun s=>[dS s])),(504,.box 205 [kp])]
theorem QA (a b:Tx):bu .lss (bs a) (bs b)=some (True,.bool (decide (a < b))):=by
 simp only[bu,bA,bytesLess_eq]
theorem Dg (a b:Tx):bu .neq (bs a) (bs b)=some (True,.bool (!decide (a=b))):=by
 simp only[bu,bA]
 have h:(a == b)=decide (a=b):=by
  by_cases e:a=b
  .subst e;exact (beq_self_eq_true a).trans (decide_eq_true rfl).symm
  .exact (beq_eq_false_iff_ne.2 e).trans (decide_eq_false e).symm
 rw[h]
theorem ahM (m:List (List D)) (z x:List D) (k:Nat) (hk:k<=m.length) (hm:∀ el∈m,el.length=1/\∀ c∈el,D.one c=true) (hz:z.length=1/\∀ c∈z,D.one c=true) :
  ∃ news td:List (List D),∃ w0:D,((m ++ [z]).drop k).take (m.length+1 - k)=news/\(∀ el∈news,el.length=1)/\(∀ el∈news,∀ c∈el,D.one c=true)/\
   oN (m ++ [z]) news (k+1) (m.length+1 - (k+1))=td/\td.length=m.length+1/\td[k]? = some [w0]/\td.set k x=m.take k ++ x :: m.drop k/\(k=m.length->td=m ++ [z]):=by
 have h1:((m ++ [z]).drop k).take (m.length+1 - k)=m.drop k ++ [z]:=by
  rw[sh ak,List.drop_append_of_le_length hk]
 have h2:(m.drop k ++ [z]).take (m.length+1 - (k+1))=m.drop k:=by
  rw[anh ak,sh ak]
 have h3:oN (m ++ [z]) (m.drop k ++ [z]) (k+1) (m.length+1 - (k+1))=(m ++ [z]).take (k+1) ++ m.drop k:=by
  unfold oN;rw[h2,List.drop_of_length_le (l:=m ++ [z]) (by simp;omega),am0]
 have oZ:∀ el∈m.drop k ++ [z],el.length=1/\∀ c∈el,D.one c=true:=fun el bn=>by
  rcases amq.1 bn with h | h
  .exact hm el (am3 h)
  .rw[amD]at h;subst h;exact hz
 have hl:((m ++ [z]).take (k+1) ++ m.drop k).length=m.length+1:=by simp;omega
 have mM:k < (m ++ [z]).length:=by simp;omega
 have oW:((m ++ [z]).take (k+1) ++ m.drop k)[k]? = some ((m ++ [z])[k]):=by
  rw[anq (by simp;omega),amv,if_pos aa,AT mM]
 have lH:∃ w0,(m ++ [z])[k]=[w0]:=by
  have hq:((m ++ [z])[k]).length=1:=by
   rcases amq.1 (By mM)with h | h
   .exact (hm _ h).1
   .rw[amD]at h;rw[h];exact hz.1
  exact amW.1 hq
 obtain⟨w0,rL⟩:=lH;refine⟨_,_,w0,h1,fun el bn=>(oZ el bn).1,fun el bn=>(oZ el bn).2,h3,hl,by rw[oW,rL],?_,fun e=>?_⟩
 .rw[aml mM,am4,List.set_append_right _ _ (by simp;omega)]
  have e1:((m ++ [z]).take k).length=k:=by simp;omega
  rw[e1,Nat.sub_self,anh hk];rfl
 .subst e;rw[sh ak,List.drop_of_length_le ak,am0]
theorem aoG:type_of% (Aq @an8 (Aq @an9 (Aq @iA.eq_1 @kp.eq_1))):=(Aq @an8 (Aq @an9 (Aq @iA.eq_1 @kp.eq_1)))
theorem aiS (G:aB) (hM:ky G) (all:Bool):∀ (n:Nat) (e:Ex),SizeOf.sizeOf e<=n->∀ l0:List Tx,l0.length+bE e<=2^39->MC prog G [501,502,504] 121 ([.d (dR e)] ++ [.ref 501 0 0,.ref 502 0 0,.ref 504 0 0]) (aw (iA all l0)) (.d (.bz [])) (aw (iA all (nF l0 (dH all e)))):=by
 intro n
 induction n with
 | zero=>intro e bp;cases e<;>simp at bp
 | succ n ih=>
  intro e bp l0 hb;have lB:∀ x∈o3 e,∀ l1:List Tx,l1.length+bE x<=2^39->MC prog G [501,502,504] 121 ([.d (dR x)] ++ [.ref 501 0 0,.ref 502 0 0,.ref 504 0 0]) (aw (iA all l1)) (.d (.bz [])) (aw (iA all (nF l1 (dH all x)))):=fun x hx=>ih x (by have:=ajH hx;omega);clear ih;have hkb:=Ze e;have od:=w7 (o3 e);have fz:=Ff all (o3 e);have HH:=afg all e
  have hon:(iK (eh all e)).length<=1:=by unfold iK;split<;>simp
  have qB:(iK (eh all e)).length+iP (o3 e)<=bE e:=by
   cases e<;>simp[o3,bE,iP]<;>first | omega | (simp[iK,eh]<;>omega) | skip
  have ju:=aiV G hM (qP all) (Ad e) (by cases all<;>simp[qP])
  have dO:(qP all).length<=5:=by cases all<;>simp[qP]
  rw[afh,Ud,ui,afq];generalize o3 e=l at lB hkb od fz qB ⊢;generalize Ad e=kd at ju HH ⊢;generalize tR e=nm at HH ⊢;generalize kR e=kk;generalize lH:iK (eh all e)=on at HH qB hon ⊢;generalize uH:nF l0 on=tU;have Eu:=Ny on l0;rw[uH]at Eu;clear bp;refine MC.aO (ay _) func121 rfl rfl (rs:=[]) results121 (by simp[ntmps121]) rfl fun X=>?_;simp only[ntmps121];have fw:=aoG;refine ag fun K1 aF=>?_;refine (fun gw=>?_) (fun (σ:St) himp=>aF σ (AW.imp (τ:=⟨bg [(0,.d (.ip [dS kd,dS nm,.sl kk (l.map fun x=>[dR x])])),(3,.ref 504 0 0)],aw (iA all tU)⟩) himp ?_))
  .rcases HH with⟨h1,h2⟩ | ⟨h1,h2,h3⟩ | ⟨h1,h2,h3⟩
   .subst h1 h2
    have hq:l0=tU:=by rw[<- uH];rfl
    subst hq;have qf:=(Aq fw (Aq @Dg @cu));refine il [0,2,3,20] [501,502,503,504] ?_;refine al (aq (gw _ ?_));refine bo fw
   .subst h3
    have hq:l0=tU:=by rw[<- uH];rfl
    subst hq;rw[h2]at ju
    have gg:bu .neq (bs nm) ⟨#[]⟩=some (True,.bool true):=by
     have:=Dg nm [];rw[decide_eq_false h1]at this;exact this
    have qf:=(Aq fw @gg);refine u1 ju [0,2,3,20] [501,502,503,504] ?_;refine al (aq (gw _ ?_));refine bo fw
   .subst h3;rw[h2]at ju
    have gg:bu .neq (bs nm) ⟨#[]⟩=some (True,.bool true):=by
     have:=Dg nm [];rw[decide_eq_false h1]at this;exact this
    have qf:=(Aq fw @gg);refine u1 ju [0,2,3,20] [501,502,503,504] ?_;refine aJ (ae fw [0,2,3,5] [501,502,503,504] ?_);refine ag fun K2 au=>?_;refine (fun Hz=>?_) (fun (k:Nat) (hk:k<=l0.length) (hp:∀ i (hi:i < l0.length),i < k->l0[i]'hi < nm) (hx:∀ hk:k < l0.length,¬ l0[k]'hk < nm) (σ:St) himp=>au σ (AW.imp (τ:=⟨bg [(0,.d (.ip [dS kd,dS nm,.sl kk (l.map fun x=>[dR x])])),(2,.ref 502 0 0),(3,.ref 504 0 0),(5,int k)],aw (iA all l0)⟩) himp ?_))
    .refine ch (S:=Nat) (fun k=>k<=l0.length/\∀ i (hi:i < l0.length),i < k->l0[i] < nm) (fun k=>⟨bg [(0,.d (.ip [dS kd,dS nm,.sl kk (l.map fun x=>[dR x])])),(2,.ref 502 0 0),(3,.ref 504 0 0),(5,int k)],aw (iA all l0)⟩) (fun k=>l0.length - k) 0 ?_ ak ?_
     .refine bo fw
     .rintro k ⟨hk,hp⟩;refine ag fun K3 aX=>?_;by_cases dO:k < l0.length
      .cases aG:decide (l0[k] < nm) with
       | true=>
        have fk:bu .lss (bs l0[k]) (bs nm)=some (True,.bool true):=by rw[QA,aG]
        have qf:=(Aq fw (Aq @dO @fk));refine il [0,2,3,5,35] [501,502,503,504] ?_;refine aJ (aq (aX _ ?_));refine bf (cA fw ?_);(try simp only[aT,aW]);refine aZ.mk (k+1) ⟨aa,fun i hi D8=>?_⟩ aa ?_
        .by_cases he:i=k
         .subst he;exact of_decide_eq_true aG
         .exact hp i hi aa
        refine bo fw
       | false=>
        have fk:bu .lss (bs l0[k]) (bs nm)=some (True,.bool false):=by rw[QA,aG]
        have qf:=(Aq fw (Aq @dO @fk));refine il [0,2,3,5,35] [501,502,503,504] ?_;refine al (bL (Hz k hk hp (fun _=>of_decide_eq_false aG) _ ?_));refine bo fw
      .have qf:=(Aq fw @dO);refine il [0,2,3,5,35] [501,502,503,504] ?_;refine al (bL (Hz k hk hp (fun h=>absurd h dO) _ ?_));refine bo fw
    .have aco:=Uh nm l0 k hk hp hx;have wu:tU=nG nm l0:=uH.symm;rw[aco]at wu;by_cases dO:k < l0.length
     .by_cases he:l0[k]=nm
      .have LK:bu .neq (bs l0[k]) (bs nm)=some (True,.bool false):=by rw[Dg,he,decide_eq_true rfl];rfl
       rw[if_pos ⟨dO,he⟩]at wu
       have bq:¬ k=l0.length:=aa
       have qf:=(Aq fw (Aq @dO (Aq @LK @bq)));refine il [0,2,3,5,52] [501,502,503,504] ?_;refine al (aq (gw _ ?_));refine bo (Aq fw @wu)
      .have LK:bu .neq (bs l0[k]) (bs nm)=some (True,.bool true):=by rw[Dg,decide_eq_false he];rfl
       rw[if_neg (fun ⟨_,h⟩=>he h)]at wu
       have bq:¬ k=l0.length:=aa
       have qf:=(Aq fw (Aq @dO (Aq @LK @bq)));refine il [0,2,3,5,52] [501,502,503,504] ?_;refine aJ (rg [0,2,3,5] [501,502,503,504] (dT rfl) fun K' ao=>?_);(repeat refine aK fun Kq af=>?_;simp[ab,dS,iA,kp,sh];(repeat refine⟨aa,?_⟩);refine af _ ?_);refine bH (ao _ (AW.st (by simp[ab,dS,iA,kp,sh];rfl) ?_))
       have bO:k+1<=l0.length+1:=aa
       have gx:¬ (k:Int)=(l0.length:Int)+1:=aa
       have n7:((l0.length:Int)+1 - ((k:Int)+1)).toNat=l0.length+1 - (k+1):=aa
       have hle:k+(l0.length+1 - k)<=l0.length+1:=aa
       have acB:k+1+(l0.length - k)<=l0.length+1:=aa
       obtain⟨news,td,w0,q1,q2,q3,q4,q5,q6,q7,_⟩:=ahM (l0.map fun s=>[dS s]) [dS []] [dS nm] k (by simpa using hk) (by intro el bn;obtain⟨s,_,rfl⟩:=amS.1 bn;simp[dS,D.one]) (by simp[dS,D.one])
       have q8:List.take k (l0.map fun s=>[dS s]) ++ [dS nm] :: List.drop k (l0.map fun s=>[dS s])=tU.map fun s=>[dS s]:=by rw[wu];simp
       rw[q8]at q7
       have q9:tU.length=l0.length+1:=by rw[wu];simp;omega
       rw[amT]at q1 q4 q5;rw[Nat.add_sub_add_right]at q4;simp only[dS]at q1 q4 q7;rw[<- cu]at q1 q4
       have OW:(td[k]' aa).tail=[]:=by
        have:=q6;rw[AT aa]at this;rw[AI this];rfl
       have q23:=eq_true (And.intro q2 q3);have q2t:=eq_true q2;have q3t:=eq_true q3
       have acz:k < l0.length+1:=aa
       have qf:=(Aq fw (Aq @bO (Aq @hk (Aq @bq (Aq @gx (Aq @n7 (Aq @hle (Aq @acB (Aq @q1 (Aq @q23 (Aq @q2t (Aq @q3t @q4))))))))))));refine il [0,2,3,5] [501,502,503,504] ?_;refine yK (ay _) ah ah fun K' ao=>?_;(repeat refine gC fun Kq af=>?_;simp[ab,dS,iA,kp,q5,q6,q7,OW,acz];(repeat refine⟨aa,?_⟩);refine af _ ?_);refine o8 (ao _ ?_);(try simp only[aT,aW]);refine gw _ ?_;refine aL.ek (dT rfl) (by simp[ab,dS,iA,kp,q9,q7,OW]) (by simp[ab,dS,iA,kp,q9,q7,OW])
     .obtain rfl:k=l0.length:=aa
      rw[if_neg (fun ⟨h,_⟩=>dO h),am8,List.drop_length]at wu;have qf:=(Aq fw @dO);refine il [0,2,3,5,52] [501,502,503,504] ?_;refine aJ (rg [0,2,3,5] [501,502,503,504] (dT rfl) fun K' ao=>?_);(repeat refine aK fun Kq af=>?_;simp[ab,dS,iA,kp,sh];(repeat refine⟨aa,?_⟩);refine af _ ?_);refine bH (ao _ (AW.st (by simp[ab,dS,iA,kp,sh];rfl) ?_))
      have gx:¬ (l0.length:Int)=(l0.length:Int)+1:=aa
      have n7:¬ (l0.length:Int)+1=0:=aa
      have q8:(l0.map fun s=>[dS s]) ++ [[dS nm]]=tU.map fun s=>[dS s]:=by rw[wu];simp
      have q9:tU.length=l0.length+1:=by rw[wu];simp
      simp only[dS]at q8;have qf:=(Aq fw (Aq @gx (Aq @n7 (Aq @D.one.eq_1 (Aq @D.one.eq_2 (Aq @D.one.eq_3 @D.one.eq_4))))));refine il [0,2,3,5] [501,502,503,504] ?_;refine yK (ay _) ah ah fun K' ao=>?_;(repeat refine gC fun Kq af=>?_;simp[ab,dS,iA,kp];(repeat refine⟨aa,?_⟩);refine af _ ?_);refine o8 (ao _ ?_);(try simp only[aT,aW]);refine gw _ ?_;refine aL.ek (dT rfl) (by simp[ab,dS,iA,kp,q9,q8]) (by simp[ab,dS,iA,kp,q9,q8])
  .simp only[ank]at lB;refine ae fw [3,74,75,76] [501,502,503,504] ?_;refine ch (S:=Nat) (fun i=>i<=l.length) (fun i=>⟨bg [(3,.ref 504 0 0),(74,.d (.sl kk (l.map fun x=>[dR x]))),(75,int l.length),(76,int i)],aw (iA all (nF tU (gJ all (l.take i))))⟩) (fun i=>l.length - i) 0 ?_ aa ?_
   .refine aL.ek (dT rfl) (by simp[ab,dS,iA,kp,gJ,Uf]) (by simp[ab,dS,iA,kp,gJ,Uf])
   .intro i hi;refine ae fw [3,74,75,76,77] [501,502,503,504] ?_;refine ag fun K4 b6=>eY (b:=i < l.length) (by simp[D.le,D.le.go,aP,ab,dS,iA,kp]) (fun hc=>?_) (fun hc=>?_)
    .have dr:i < l.length:=hc;have h1:=Ow all dr;have h2:=Ff all (l.take i);have h3:=Kk dr;have h4:=Ny (gJ all (l.take i)) tU;have cU:=lB _ (By dr) (nF tU (gJ all (l.take i))) aa;rw[<- Ud,<- h1]at cU;have hf:=ui l[i];rw[hf]at cU;refine aq (b6 _ (ag fun K5 b5=>bf ?_));have qf:=(Aq fw (Aq @dr @hf));refine ax [3,7,74,75,76] [501,502,503,504] ?_;refine fD (ay _) fun K' ao=>?_;(repeat refine aK fun Kq af=>?_;simp[ab,dS,iA,kp];(repeat refine⟨aa,?_⟩);refine af _ ?_);refine aK fun Kq af=>?_;simp[ab,dS,iA,kp];refine cZ.mc (cU) ?_ ?_ ?_ ?_ ?_<;>simp[ab,dS,iA,kp];refine af _ ?_;(repeat refine aK fun Kq af=>?_;simp[ab,dS,iA,kp];(repeat refine⟨aa,?_⟩);refine af _ ?_);refine bH (ao _ ?_);refine b5 _ (AW.norm [3,74,75,76] [501,502,503,504] (dT rfl) (AW.st (by simp[ab,dS,iA,kp];rfl) ?_));refine cA fw ?_;(try simp only[aT,aW]);refine aZ.mk (i+1) aa aa ?_;refine bo fw
    .obtain rfl:i=l.length:=aa
     refine bL ?_;simp[D.le_refl,am8,iA,kp,dS]
theorem rZ {r r':Nat} (hr:r≠r') (l:List (Nat×Row)) (hl:∀ p∈l,p.1≠r'):sT r r' (aw l)=aw (l.map fun p=>(if p.1=r then r' else p.1,p.2.tr (iN r r') (iM r r'))):=by
 funext q;unfold sT
 induction l with
 | nil=>simp[aw,List.lookup]
 | cons p l ih=>
  have ih:=ih fun p hp=>hl p (by simp[hp]);have hp:=hl p ak;obtain⟨k,row⟩:=p;simp only[aw,List.lookup,amE]at ih ⊢;by_cases h1:q=r'
  .subst h1;simp only[if_true]at ih ⊢;by_cases h2:k=r
   .subst h2;simp
   .have a1:(r == k)=false:=by simpa using fun e=>h2 e.symm
    have a2:(q == k)=false:=by simpa using fun e=>hp e.symm
    simp only[h2,if_false,a1,a2];exact ih
  .simp only[h1,if_false]at ih ⊢;by_cases h2:q=r
   .subst h2;simp only[if_true]at ih ⊢;by_cases h3:k=q
    .have a1:(q == r')=false:=by simpa using h1
     simp only[h3,if_true,a1];exact ih
    .have a1:(q == k)=false:=by simpa using fun e=>h3 e.symm
     simp only[h3,if_false,a1];exact ih
   .simp only[h2,if_false]at ih ⊢;by_cases h3:k=r
    .have a1:(q == k)=false:=by rw[h3];simpa using h2
     have a2:(q == r')=false:=by simpa using h1
     simp only[h3,if_true,a2]at a1 ⊢;rw[a1];exact ih
    .simp only[h3,if_false];by_cases h4:q=k
     .subst h4;simp
     .have a1:(q == k)=false:=by simpa using h4
      simp only[a1];exact ih
theorem Vc (G:aB) (hM:ky G) (all:Bool) (e:Ex) (hb:bE e<=2^28):aD prog G 80 [dR e,dS (qP all)] (.sl none ((ey all e).map fun s=>[dS s])):=by
 have hw:=aiS G hM all _ e (amh _) [] (by simp;omega);have fL:=adz all e;rw[fL]at hw;simp only[ank]at hw;generalize ey all e=l at hw ⊢;clear fL;rw[ui]at hw ⊢;refine aD.aO (ay _) func80 rfl rfl (rs:=[.tmp 4]) results80 (by simp[ntmps80]) fun X=>?_;simp only[ntmps80,List.map];have fw:=aoG;refine ae fw [0,3] [3] ?_;refine ae fw [0,3,5] [3,5] ?_;refine ae fw [0,3,5,6] [3,5,6] ?_;refine ae fw [0,5,6] [3,5,6] ?_;refine AW.imp (aL.eb (r:=3) (r':=501) trivial ak) ?_;refine AW.st (by simp[iN,iM,Go.Av.eb,rZ];rfl) ?_;refine AW.imp (aL.eb (r:=5) (r':=502) trivial ak) ?_;refine AW.st (by simp[iN,iM,Go.Av.eb,rZ];rfl) ?_;refine AW.imp (aL.eb (r:=6) (r':=504) trivial ak) ?_;refine AW.st (by simp[iN,iM,Go.Av.eb,rZ];rfl) ?_;refine AW.imp (aL.s6 502 0 503 9 1 rfl rfl rfl) ?_;refine AW.imp (τ:=⟨bg [(0,.d (.ip [dS (Ad e),dS (tR e),Fg e])),(5,.ref 502 0 0),(6,.ref 504 0 0)],aw (iA all [])⟩) ?_ ?_
 .refine bo (Aq fw (Aq @iA.eq_1 @kp.eq_1))
 refine bK fw hw [5] [502,503] ?_;refine ae (Aq fw (Aq @iA.eq_1 @kp.eq_1)) [4] [502,503] ?_;have dA:List.take l.length (l.map fun s=>[dS s])=l.map fun s=>[dS s]:=sh ak;simp only[dS]at dA;refine AW.imp (aL.freeze 503 trivial) ?_;refine AW.st (by simp[ab,dS,iA,kp,dA];rfl) ?_;exact aY (Aq fw @dA)
theorem Wv (G:aB) (hM:ky G) (e:Ex) (hb:bE e<=2^28):aD prog G 35 [dR e] (.sl none ((ey true e).map fun s=>[dS s])):=by
 have hs:=Vc G hM true e hb;rw[ui]at hs ⊢;generalize ey true e=l at hs ⊢;have hk:dS (qP true) = .v (.string ⟨#[98,105,116,94,126]⟩):=rfl;rw[hk]at hs;refine aD.aO (ay _) func35 rfl rfl (rs:=[.tmp 2]) results35 (by simp[ntmps35]) fun X=>?_;simp only[ntmps35,List.map];have fw:=aoG;refine ae fw [0] [] ?_;refine bh fw hs [2] [] ?_;exact aY fw
theorem ah9 (G:aB) (hM:ky G) (e:Ex) (hb:bE e<=2^28):aD prog G 144 [dR e] (.sl none ((ey false e).map fun s=>[dS s])):=by
 have hs:=Vc G hM false e hb;rw[ui]at hs ⊢;generalize ey false e=l at hs ⊢;have hk:dS (qP false) = .v (.string ⟨#[94,126]⟩):=rfl;rw[hk]at hs;refine aD.aO (ay _) func144 rfl rfl (rs:=[.tmp 2]) results144 (by simp[ntmps144]) fun X=>?_;simp only[ntmps144,List.map];have fw:=aoG;refine ae fw [0] [] ?_;refine bh fw hs [2] [] ?_;exact aY fw
theorem Zh (p:aM) (i:Nat) (hi:i < p.names.length):ph p i p.names[i]=if !s7 p.names[i].name then 5 else if !(decide (1<=p.names[i].kind) && decide (p.names[i].kind<=4)) then 1 else if (decide (p.names[i].kind >= 3) && !(decide (1<=p.names[i].count) && decide (p.names[i].count<=7))) || (decide (p.names[i].kind < 3) && decide (p.names[i].count≠0)) then 2 else if b7 p p.names[i].name≠i then 9 else 0:=by
 rw[<- Zg p i hi,Km,Va]
theorem Kl (p:aM) (k:Int) (s:Tx) (e:Ex):nh p ⟨k,s,some e⟩=if !(decide (1<=k) && decide (k<=6)) then 1 else if b7 p s < 0 then 7 else if !decide (kr k=(p.names.getD (b7 p s).toNat ⟨[],0,0⟩).kind) then 1 else if (ey true e).any fun s=>decide (b7 p s < 0) then 7 else 0:=by
 have h:(decide (k < 1) || decide (k > 6)) = !(decide (1<=k) && decide (k<=6)):=by
  by_cases h1:1<=k<;>by_cases h2:k<=6<;>simp[h1,h2]<;>omega
 show (if decide (k < 1) || decide (k > 6) then (1:Int) else _)=_;rw[h];simp only[ant,decide_eq_false_iff_not,ne_eq]
theorem aov:type_of% (Aq @aod (Aq @aoe (Aq @aof (Aq @aog (Aq @aoh @an8))))):=(Aq @aod (Aq @aoe (Aq @aof (Aq @aog (Aq @aoh @an8)))))
theorem aem (G:aB) (hF:ve G) (hM:ky G) (p:aM) (hp:F4 p):aD prog G 90 [eB p] (dN (cO p)):=by
 unfold ve at hF;obtain⟨fz,eC,sD,BG⟩:=hp
 have zL:cO p=if p.names.length > 12\/p.aC.length > 40 then some (4,none) else match pq (ph p) p.names 0 with
  | some (e,i)=>some (e,some i)
  | none=>match pq (fun _ r=>nh p r) p.aC 0 with
   | some (e,i)=>some (e,some (p.names.length+i))
   | none=>none:=rfl
 generalize kS:cO p=res;rw[zL]at kS;have cy:=fun s=>PR G p fz s;have LL:=Gb G 4;simp only[eB,fF,ck,dS]at cy ⊢;simp only[ab]at hF LL;refine aD.aO (ay _) func90 rfl rfl (rs:=[.cell 2 68]) results90 (by simp[ntmps90]) fun X=>?_;simp only[ntmps90,List.map];refine ar [1,2] [1,2] ?_;refine gu 1 ?_;refine ag fun K1 aF=>?_;by_cases g0:(p.names.length:Int) > 12
 .rw[if_pos (.inl aa)]at kS;have qf:=@g0;refine ax [1,2,20] [2] ?_;refine aJ (bh trivial LL [2] [2] ?_);refine bW ?_;simp[D.le,D.le.go,aP];simp[<- kS,dN,codeF,cz,ab,D.le,D.le.go]
 by_cases g1:(p.aC.length:Int) > 40
 .rw[if_pos (.inr aa)]at kS;have qf:=(Aq @g0 @g1);refine ax [1,2,20] [2] ?_;refine aJ (bh trivial LL [2] [2] ?_);refine bW ?_;simp[D.le,D.le.go,aP];simp[<- kS,dN,codeF,cz,ab,D.le,D.le.go]
 rw[if_neg aa]at kS;have qf:=(Aq @g0 @g1);refine ax [1,2,20] [2] ?_;refine al (aq (aF _ ?_));refine ag fun K2 au=>ar [1,2,23,24,25] [2] ?_;refine ch (S:=Nat) (fun n=>n<=p.names.length/\∀ k (hk:k < p.names.length),k < n->ph p k p.names[k]=0) (fun n=>⟨bg [(1,.d (.ip [.sl none (p.names.map bw),.sl none (p.aC.map ez)])),(2,.ref 2 0 0),(23,.d (.sl none (p.names.map bw))),(24,int p.names.length),(25,int n)],aw [(2,.box 68 [int 0,int 0])]⟩) (fun n=>p.names.length - n) 0 ?_ ak ?_
 .refine cg
 .rintro n ⟨hn,hb⟩;refine ar [1,2,23,24,25,26] [2] ?_;refine ag fun K3 aX=>eY (b:=n < p.names.length) (by simp[D.le,D.le.go,aP]) (fun hc=>?_) (fun hc=>?_)
  .have aG:=hc
   have gw:ph p n p.names[n]≠0->res=some (ph p n p.names[n],some n):=fun bq=>by
    rw[<- kS,Dy (i:=0) aG (fun k hk ld=>by rw[amR];exact hb k hk ld) (by rw[amR];exact bq)];simp
   have fL:=sD _ (By aG);have jf:bw p.names[n]=[dS p.names[n].name,.v (.int .i64 p.names[n].kind),.v (.int .i64 p.names[n].count)]:=rfl;have cD:=Zh p n aG;have mN:=Vf G p.names[n].name fL;generalize hv:ph p n p.names[n]=v at cD gw;generalize p.names[n].name=nm at fL jf cD mN;generalize p.names[n].kind=kd at jf cD;generalize p.names[n].count=ct at jf cD;have mf:=cy nm;have kC:=PQ G kd 1 4;have sJ:=PQ G ct 1 7;simp only[dS]at jf mN;simp only[ab]at kC sJ;generalize s7 nm=nf at mN cD;generalize lI:(decide (1<=kd) && decide (kd<=4))=q1 at kC cD;generalize p9:(decide (1<=ct) && decide (ct<=7))=q2 at sJ cD;refine aq (aX _ (ag fun K4 b6=>bf ?_));have qf:=(Aq @aG @jf);refine ax [1,2,3,4,23,24,25] [2,4] ?_;refine gu 4 ?_;refine ag fun K5 b5=>bh trivial mN [1,2,3,4,23,24,25,33] [2] ?_
   cases nf with
   | false=>
    rw[if_pos ak]at cD;have hr:=gw (by rw[cD];decide);rw[cD]at hr;refine aJ (ar [2] [2] ?_);exact aY (Aq @hr aov)
   | true=>
    rw[if_neg bD]at cD;refine al (aq (b5 _ ?_));refine ag fun K6 dy=>bh trivial kC [1,2,3,4,23,24,25,39] [2] ?_
    cases q1 with
    | false=>
     rw[if_pos ak]at cD;have hr:=gw (by rw[cD];decide);rw[cD]at hr;refine aJ (ar [2] [2] ?_);exact aY (Aq @hr aov)
    | true=>
     rw[if_neg bD]at cD;refine al (aq (dy _ ?_));refine ag fun K7 eH=>?_;by_cases k3:kd >= 3
     .have jP:¬ kd < 3:=aa
      cases q2 with
      | false=>
       have qf:=(Aq @k3 @jP);refine eF sJ [1,2,3,4,23,24,25,60] [2] ?_;rw[if_pos (by simp[k3])]at cD;have hr:=gw (by rw[cD];decide);rw[cD]at hr;refine aJ (ar [2] [2] ?_);exact aY (Aq @hr aov)
      | true=>
       rw[if_neg (by simp[jP])]at cD;have qf:=(Aq @k3 @jP);refine eF sJ [1,2,3,4,23,24,25,60] [2] ?_;refine al (aq (eH _ ?_));refine bh trivial mf [1,2,3,23,24,25,68] [2] ?_;by_cases c9:b7 p nm=n
       .rw[if_neg (by simp[c9])]at cD;refine bU (by simp[c9]) (aq (b6 _ ?_));refine cK ?_;(try simp only[aT,aW]);refine aZ.mk (n+1) ⟨aa,fun k hk ld=>?_⟩ aa ?_
        .by_cases h:k=n
         .subst h;rw[hv,cD]
         .exact hb k hk aa
        refine cg
       .rw[if_pos c9]at cD;have hr:=gw (by rw[cD];decide);rw[cD]at hr;refine bR (by simp[c9]) (ar [2] [2] ?_);exact aY (Aq @hr aov)
     .have jP:kd < 3:=aa
      by_cases c0:ct=0
      .rw[if_neg (by simp[k3,c0])]at cD;have qf:=(Aq @k3 (Aq @jP @c0));refine ax [1,2,3,4,23,24,25,60] [2] ?_;refine al (aq (eH _ ?_));refine bh trivial mf [1,2,3,23,24,25,68] [2] ?_;by_cases c9:b7 p nm=n
       .rw[if_neg (by simp[c9])]at cD;refine bU (by simp[c9]) (aq (b6 _ ?_));refine cK ?_;(try simp only[aT,aW]);refine aZ.mk (n+1) ⟨aa,fun k hk ld=>?_⟩ aa ?_
        .by_cases h:k=n
         .subst h;rw[hv,cD]
         .exact hb k hk aa
        refine cg
       .rw[if_pos c9]at cD;have hr:=gw (by rw[cD];decide);rw[cD]at hr;refine bR (by simp[c9]) (ar [2] [2] ?_);exact aY (Aq @hr aov)
      .have qf:=(Aq @k3 (Aq @jP @c0));refine ax [1,2,3,4,23,24,25,60] [2] ?_;rw[if_pos (by simp[jP,c0])]at cD;have hr:=gw (by rw[cD];decide);rw[cD]at hr;refine aJ (ar [2] [2] ?_);exact aY (Aq @hr aov)
  .rw[DA fun k hk=>by rw[amR];exact hb k hk aa]at kS;dsimp only at kS;refine bL (au _ (ag fun K8 eo=>ar [1,2,73,74,75] [2] ?_));refine ch (S:=Nat) (fun n=>n<=p.aC.length/\∀ k (hk:k < p.aC.length),k < n->nh p p.aC[k]=0) (fun n=>⟨bg [(1,.d (.ip [.sl none (p.names.map bw),.sl none (p.aC.map ez)])),(2,.ref 2 0 0),(73,.d (.sl none (p.aC.map ez))),(74,int p.aC.length),(75,int n)],aw [(2,.box 68 [int 0,int 0])]⟩) (fun n=>p.aC.length - n) 0 ?_ ak ?_
   .refine cg
   .rintro n ⟨hn,hb⟩;refine ar [1,2,73,74,75,76] [2] ?_;refine ag fun K9 jt=>eY (b:=n < p.aC.length) (by simp[D.le,D.le.go,aP]) (fun hc=>?_) (fun hc=>?_)
    .have aG:=hc
     have gw:nh p p.aC[n]≠0->res=some (nh p p.aC[n],some (p.names.length+n)):=fun bq=>by
      rw[<- kS,Dy (i:=0) aG (fun k hk ld=>hb k hk ld) bq];simp
     have LR:=BG p.aC[n] (By aG);obtain⟨⟨kd,nm,cd⟩,wy⟩:∃ r,p.aC[n]=r:=⟨_,rfl⟩
     have hzero:nh p ⟨kd,nm,cd⟩=0->∀ k (hk:k < p.aC.length),k < n+1->nh p p.aC[k]=0:=fun h0 k hk ld=>by
      by_cases h:k=n
      .subst h;rw[wy];exact h0
      .exact hb k hk aa
     rw[wy]at gw LR
     have jf:ez p.aC[n]=[.v (.int .i64 kd),dS nm,lQ cd]:=by rw[wy];rfl
     dsimp only at LR;obtain⟨v,hv⟩:∃ v,nh p ⟨kd,nm,cd⟩=v:=⟨_,rfl⟩;rw[hv]at gw hzero;have cD:=hv.symm;have kC:=PQ G kd 1 6;have mf:=cy nm;simp only[dS]at jf;simp only[ab]at kC;refine aq (jt _ (ag fun oJ e6=>bf ?_))
     have eu:(p.names.length:Int)+n < 2^63:=aa
     cases cd with
     | none=>
      have e9:v=1:=cD;have hr:=gw (by rw[e9];decide);rw[e9]at hr;simp only[lQ]at jf;generalize lI:(decide (1<=kd) && decide (kd<=6))=q1 at kC;have qf:=(Aq @aG @jf);refine ax [1,2,5,6,73,74,75] [2,6] ?_;refine gu 6 ?_;refine ar [1,2,6,7,73,74,75] [2] ?_;refine ag fun vg nW=>?_
      cases q1 with
      | false=>
       refine bh trivial kC [1,2,6,7,73,74,75,93] [2] ?_;refine aJ (ar [2] [2] ?_);exact aY (Aq @hr aov)
      | true=>
       refine bh trivial kC [1,2,6,7,73,74,75,93] [2] ?_;refine aJ (ar [2] [2] ?_);exact aY (Aq @hr aov)
     | some e=>
      obtain⟨zr,acL⟩:=LR e rfl;rw[Kl]at cD;have jN:=Wv G hM e zr;simp only[lQ]at jf;obtain⟨ec,L0⟩:∃ c,dR e = .ip c:=⟨_,ui e⟩;rw[L0]at jf jN;generalize ey true e=ne at jN acL cD;simp only[dS]at jN;generalize lI:(decide (1<=kd) && decide (kd<=6))=q1 at kC cD;have qf:=(Aq @aG @jf);refine ax [1,2,5,6,73,74,75] [2,6] ?_;refine gu 6 ?_;refine ar [1,2,6,7,73,74,75] [2] ?_;refine ag fun vg nW=>?_
      cases q1 with
      | false=>
       refine bh trivial kC [1,2,6,7,73,74,75,93] [2] ?_;rw[if_pos ak]at cD;have hr:=gw (by rw[cD];decide);rw[cD]at hr;refine aJ (ar [2] [2] ?_);exact aY (Aq @hr aov)
      | true=>
       rw[if_neg bD]at cD
       have gH:1<=kd/\kd<=6:=by simpa using lI
       refine bh trivial kC [1,2,6,7,73,74,75,93] [2] ?_;refine al (aq (nW _ ?_));refine bh trivial mf [1,2,6,7,8,73,74,75] [2] ?_;refine ag fun yS k7=>ar [1,2,6,7,8,73,74,75,101] [2] ?_;by_cases c7:b7 p nm < 0
       .rw[if_pos c7]at cD;have hr:=gw (by rw[cD];decide);rw[cD]at hr;refine bR (by simp[c7]) (ar [2] [2] ?_);exact aY (Aq @hr aov)
       rw[if_neg c7]at cD;obtain⟨k,hk,lF⟩:=Vq c7
       have iG:p.names.getD (b7 p nm).toNat ⟨[],0,0⟩=p.names[k]:=by
        rw[lF,amd,ame,AT hk];rfl
       rw[iG]at cD;refine bU (by simp[c7]) (aq (k7 _ ?_));refine ag fun oK im=>?_;have rD:bw p.names[k]=[dS p.names[k].name,.v (.int .i64 p.names[k].kind),.v (.int .i64 p.names[k].count)]:=rfl;generalize mM:p.names[k].kind=kk at cD rD;rw[lF]
       refine' Iz (fun dW=>?_) ?_
       rotate_left
       .by_cases k1:kd=1
        .refine AX (ay _) ah ([0]) (List.range 13) [1,2,6,7,73,74,75,116] [2] aQ ah fun K' ao=>?_;(repeat refine wR rfl fun K2 au=>?_;simp[k1,hk,rD];(repeat refine⟨aa,?_⟩);refine au _ ?_;clear au K2);refine AK (ao _ ?_);refine AW.st (by simp[k1,hk,rD];rfl) ?_;refine AW.st (show _=(⟨bg [(1,.d (.ip [.sl none (p.names.map bw),.sl none (p.aC.map ez)])),(2,.ref 2 0 0),(6,.d (.ip [.v (.int .i64 kd),.v (.string (bs nm)),.ip ec])),(7,int ((p.names.length:Int)+n)),(73,.d (.sl none (p.aC.map ez))),(74,int p.aC.length),(75,int n),(116,.d (.v (.bool (!decide (kr kd=kk)))))],aw [(2,.box 68 [int 0,int 0])]⟩:St) by rw[k1,show kr 1=2 from rfl]<;>rfl) ?_;exact dW.out
        by_cases k2:kd=2
        .refine AX (ay _) ah ([0]) (List.range 13) [1,2,6,7,73,74,75,116] [2] aQ ah fun K' ao=>?_;(repeat refine wR rfl fun K2 au=>?_;simp[k2,hk,rD];(repeat refine⟨aa,?_⟩);refine au _ ?_;clear au K2);refine AK (ao _ ?_);refine AW.st (by simp[k2,hk,rD];rfl) ?_;refine AW.st (show _=(⟨bg [(1,.d (.ip [.sl none (p.names.map bw),.sl none (p.aC.map ez)])),(2,.ref 2 0 0),(6,.d (.ip [.v (.int .i64 kd),.v (.string (bs nm)),.ip ec])),(7,int ((p.names.length:Int)+n)),(73,.d (.sl none (p.aC.map ez))),(74,int p.aC.length),(75,int n),(116,.d (.v (.bool (!decide (kr kd=kk)))))],aw [(2,.box 68 [int 0,int 0])]⟩:St) by rw[k2,show kr 2=2 from rfl]<;>rfl) ?_;exact dW.out
        by_cases k3:kd=3
        .refine AX (ay _) ah ([0]) (List.range 13) [1,2,6,7,73,74,75,116] [2] aQ ah fun K' ao=>?_;(repeat refine wR rfl fun K2 au=>?_;simp[k3,hk,rD];(repeat refine⟨aa,?_⟩);refine au _ ?_;clear au K2);refine AK (ao _ ?_);refine AW.st (by simp[k3,hk,rD];rfl) ?_;refine AW.st (show _=(⟨bg [(1,.d (.ip [.sl none (p.names.map bw),.sl none (p.aC.map ez)])),(2,.ref 2 0 0),(6,.d (.ip [.v (.int .i64 kd),.v (.string (bs nm)),.ip ec])),(7,int ((p.names.length:Int)+n)),(73,.d (.sl none (p.aC.map ez))),(74,int p.aC.length),(75,int n),(116,.d (.v (.bool (!decide (kr kd=kk)))))],aw [(2,.box 68 [int 0,int 0])]⟩:St) by rw[k3,show kr 3=2 from rfl]<;>rfl) ?_;exact dW.out
        by_cases k4:kd=4
        .refine AX (ay _) ah ([0]) (List.range 13) [1,2,6,7,73,74,75,116] [2] aQ ah fun K' ao=>?_;(repeat refine wR rfl fun K2 au=>?_;simp[k4,hk,rD];(repeat refine⟨aa,?_⟩);refine au _ ?_;clear au K2);refine AK (ao _ ?_);refine AW.st (by simp[k4,hk,rD];rfl) ?_;refine AW.st (show _=(⟨bg [(1,.d (.ip [.sl none (p.names.map bw),.sl none (p.aC.map ez)])),(2,.ref 2 0 0),(6,.d (.ip [.v (.int .i64 kd),.v (.string (bs nm)),.ip ec])),(7,int ((p.names.length:Int)+n)),(73,.d (.sl none (p.aC.map ez))),(74,int p.aC.length),(75,int n),(116,.d (.v (.bool (!decide (kr kd=kk)))))],aw [(2,.box 68 [int 0,int 0])]⟩:St) by rw[k4,show kr 4=3 from rfl]<;>rfl) ?_;exact dW.out
        by_cases k5:kd=5
        .refine AX (ay _) ah ([0]) (List.range 13) [1,2,6,7,73,74,75,116] [2] aQ ah fun K' ao=>?_;(repeat refine wR rfl fun K2 au=>?_;simp[k5,hk,rD];(repeat refine⟨aa,?_⟩);refine au _ ?_;clear au K2);refine AK (ao _ ?_);refine AW.st (by simp[k5,hk,rD];rfl) ?_;refine AW.st (show _=(⟨bg [(1,.d (.ip [.sl none (p.names.map bw),.sl none (p.aC.map ez)])),(2,.ref 2 0 0),(6,.d (.ip [.v (.int .i64 kd),.v (.string (bs nm)),.ip ec])),(7,int ((p.names.length:Int)+n)),(73,.d (.sl none (p.aC.map ez))),(74,int p.aC.length),(75,int n),(116,.d (.v (.bool (!decide (kr kd=kk)))))],aw [(2,.box 68 [int 0,int 0])]⟩:St) by rw[k5,show kr 5=4 from rfl]<;>rfl) ?_;exact dW.out
        have k6:kd=6:=aa
        refine AX (ay _) ah ([0]) (List.range 13) [1,2,6,7,73,74,75,116] [2] aQ ah fun K' ao=>?_;(repeat refine wR rfl fun K2 au=>?_;simp[k6,hk,rD];(repeat refine⟨aa,?_⟩);refine au _ ?_;clear au K2);refine AK (ao _ ?_);refine AW.st (by simp[k6,hk,rD];rfl) ?_;refine AW.st (show _=(⟨bg [(1,.d (.ip [.sl none (p.names.map bw),.sl none (p.aC.map ez)])),(2,.ref 2 0 0),(6,.d (.ip [.v (.int .i64 kd),.v (.string (bs nm)),.ip ec])),(7,int ((p.names.length:Int)+n)),(73,.d (.sl none (p.aC.map ez))),(74,int p.aC.length),(75,int n),(116,.d (.v (.bool (!decide (kr kd=kk)))))],aw [(2,.box 68 [int 0,int 0])]⟩:St) by rw[k6,show kr 6=4 from rfl]<;>rfl) ?_;exact dW.out
       .generalize Ns:(!decide (kr kd=kk))=wk at cD
        cases wk with
        | true=>
         rw[if_pos rfl]at cD;have hr:=gw (by rw[cD];decide);rw[cD]at hr;refine aJ (ar [2] [2] ?_);exact aY (Aq @hr aov)
        | false=>
         rw[if_neg bD]at cD;refine al (aq (im _ ?_));refine bh trivial jN [1,2,7,73,74,75,121,122,123] [2] ?_;refine ch (S:=Nat) (fun m=>m<=ne.length/\∀ j (hj:j < ne.length),j < m->¬ b7 p ne[j] < 0) (fun m=>⟨bg [(1,.d (.ip [.sl none (p.names.map bw),.sl none (p.aC.map ez)])),(2,.ref 2 0 0),(7,int ((p.names.length:Int)+n)),(73,.d (.sl none (p.aC.map ez))),(74,int p.aC.length),(75,int n),(121,.d (.sl none (ne.map fun s=>[.v (.string (bs s))]))),(122,int ne.length),(123,int m)],aw [(2,.box 68 [int 0,int 0])]⟩) (fun m=>ne.length - m) 0 ?_ ak ?_
         .refine cg
         .rintro m ⟨hm,hj⟩;refine ar [1,2,7,73,74,75,121,122,123,124] [2] ?_;refine ag fun CY vH=>eY (b:=m < ne.length) (by simp[D.le,D.le.go,aP]) (fun hc=>?_) (fun hc=>?_)
          .have xK:=hc;have HO:=cy ne[m]
           have abN:b7 p ne[m] < 0->v=7:=fun h=>by
            rw[cD,if_pos (anr.2 ⟨_,By xK,by simpa using h⟩)]
           have uF:¬ b7 p ne[m] < 0->∀ j (h:j < ne.length),j < m+1->¬ b7 p ne[j] < 0:=fun h0 j h HE=>by
            by_cases he:j=m
            .subst he;exact h0
            .exact hj j h aa
           refine aq (vH _ (ag fun J2 zi=>bf ?_));have qf:=@xK;refine ax [1,2,7,10,73,74,75,121,122,123] [2] ?_;refine bh trivial HO [1,2,7,73,74,75,121,122,123,130] [2] ?_;by_cases Gi:b7 p ne[m] < 0
           .have sr:=abN Gi;have hr:=gw (by rw[sr];decide);rw[sr]at hr;refine bR (by simp[Gi]) (ar [2] [2] ?_);exact aY (Aq @hr aov)
           .refine bU (by simp[Gi]) (aq (zi _ ?_));refine cK ?_;(try simp only[aT,aW]);refine aZ.mk (m+1) ⟨aa,uF Gi⟩ aa ?_;refine cg
          .have xz:(ne.any fun s=>decide (b7 p s < 0))=false:=by
            rw[anX];intro s hs;obtain⟨j,mb,rfl⟩:=amz.1 hs;simpa using hj j mb aa
           rw[xz,if_neg bD]at cD;refine bL (e6 _ (cK ?_));(try simp only[aT,aW]);refine aZ.mk (n+1) ⟨aa,hzero cD⟩ aa ?_;refine cg
    .rw[DA fun k hk=>hb k hk aa]at kS;refine bL (eo _ ?_);have qf:=@hF;refine ax [2] [2] ?_;refine bW ?_;simp[D.le,D.le.go,aP];simp[<- kS,dN,codeF,cz,ab,D.le,D.le.go]
end Go.Proofs.YtobejfcgcfdpfaaGreatDoor
namespace Go.Proofs
open Go.Shelf
def Tryz.UD:Go.Shelf.Ren:=⟨fun | 189=>99 | 125=>149 | 257=>148 | 128=>181 | 129=>182 | 294=>172 | 295=>173 | 296=>174 | 297=>175 | 298=>176 | 299=>177 | 216=>178 | 300=>179 | 301=>180 | 328=>212 | 329=>213 | 330=>214 | 331=>215 | 332=>216 | 215=>119 | 343=>236 | n=>n,fun | 28=>36 | 3=>3 | 46=>198 | 0=>0 | 51=>234 | 53=>237 | 4=>4 | 183=>253 | 182=>252 | 131=>167 | 5=>5 | 9=>9 | 218=>293 | 222=>297 | 228=>326 | 229=>327 | n=>n,fun | n=>n⟩
theorem Tryz.aee:Go.Proofs.Lays.n189 prog Tryz.UD:={
 mixed:=ah
 f125:=func149.trans aU
 f128:=func181.trans aU
 f129:=func182.trans aU
 f189:=func99.trans aU
 f215:=func119.trans aU
 f216:=func178.trans aU
 f257:=func148.trans aU
 f294:=func172.trans aU
 f295:=func173.trans aU
 f296:=func174.trans aU
 f297:=func175.trans aU
 f298:=func176.trans aU
 f299:=func177.trans aU
 f300:=func179.trans aU
 f301:=func180.trans aU
 f328:=func212.trans aU
 f329:=func213.trans aU
 f330:=func214.trans aU
 f331:=func215.trans aU
 f332:=func216.trans aU
 f343:=func236.trans aU
 t0:=underlying0
 a0:=isAgg0
 z0:=sizeOf0
 v0:=zeroValue0
 t3:=underlying3
 a3:=isAgg3
 z3:=sizeOf3
 v3:=zeroValue3
 t4:=underlying4
 a4:=isAgg4
 z4:=sizeOf4
 v4:=zeroValue4
 t5:=underlying5
 a5:=isAgg5
 z5:=sizeOf5
 v5:=zeroValue5
 t9:=underlying9
 a9:=isAgg9
 z9:=sizeOf9
 v9:=zeroValue9
 t28:=underlying36
 a28:=isAgg36
 z28:=sizeOf36
 v28:=zeroValue36
 t46:=underlying198
 a46:=isAgg198
 z46:=sizeOf198
 v46:=zeroValue198
 t51:=underlying234
 a51:=isAgg234
 z51:=sizeOf234
 v51:=zeroValue234
 t53:=underlying237
 a53:=isAgg237
 z53:=sizeOf237
 v53:=zeroValue237
 t131:=underlying167
 a131:=isAgg167
 z131:=sizeOf167
 v131:=zeroValue167
 t182:=underlying252
 a182:=isAgg252
 z182:=sizeOf252
 v182:=zeroValue252
 t183:=underlying253
 a183:=isAgg253
 z183:=sizeOf253
 v183:=zeroValue253
 t218:=underlying293
 a218:=isAgg293
 z218:=sizeOf293
 v218:=zeroValue293
 t222:=underlying297
 a222:=isAgg297
 z222:=sizeOf297
 v222:=zeroValue297
 t228:=underlying326
 a228:=isAgg326
 z228:=sizeOf326
 v228:=zeroValue326
 t229:=underlying327
 a229:=isAgg327
 z229:=sizeOf327
 v229:=zeroValue327 }
