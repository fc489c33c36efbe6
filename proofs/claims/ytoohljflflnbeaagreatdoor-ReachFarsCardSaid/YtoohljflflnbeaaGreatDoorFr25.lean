/- Parts. -/
import Derived.Test.YtoohljflflnbeaaGreatDoorFr23
import Derived.Test.YtoohljflflnbeaaGreatDoorFr24
import Derived.Sort.Walk0
set_option linter.unusedSimpArgs false
set_option linter.unusedVariables false
set_option maxHeartbeats 32000000
set_option maxRecDepth 100000
open Go.Proofs.Tryz
namespace Go.Proofs.YtoohljflflnbeaaGreatDoor
open Go.Av
def p0 (all:Bool):List UInt8:=if all then [98,105,116,94,126] else [94,126]
theorem acZ (all:Bool) (e:Ex):dv all e=ie (dK all e) ++ gb all (nH e):=by
 cases e<;>simp[dv,nH,gb,dK,ie]
theorem acY (all:Bool) (e:Ex):(sD e=[]/\ie (dK all e)=[])\/(sD e≠[]/\Lib.contains (p0 all) (yM e)=false/\ie (dK all e)=[])\/(sD e≠[]/\Lib.contains (p0 all) (yM e)=true/\ie (dK all e)=[sD e]):=by
 have c1:Lib.contains (p0 true) [98,105,116]=true:=by decide +kernel
 have c2:Lib.contains (p0 false) [98,105,116]=false:=by decide +kernel
 have c3:∀ all,Lib.contains (p0 all) [94]=true:=by decide +kernel
 have c4:∀ all,Lib.contains (p0 all) [126]=true:=by decide +kernel
 cases e with
 | bit s=>
  by_cases hs:s=[]
  .subst hs;cases all<;>exact .inl ⟨rfl,rfl⟩
  .cases all with
   | true=>exact .inr (.inr ⟨hs,c1,by simp[dK,ie,sD,hs]⟩)
   | false=>exact .inr (.inl ⟨hs,c2,by simp[dK,ie]⟩)
 | jA s=>
  by_cases hs:s=[]
  .subst hs;exact .inl ⟨rfl,rfl⟩
  .exact .inr (.inr ⟨hs,c3 _,by simp[dK,ie,sD,hs]⟩)
 | jm s=>
  by_cases hs:s=[]
  .subst hs;exact .inl ⟨rfl,rfl⟩
  .exact .inr (.inr ⟨hs,c4 _,by simp[dK,ie,sD,hs]⟩)
 | _=>exact .inl ⟨rfl,rfl⟩
def jX:AV:=.fn (.func 245) [.ref 501 0 0,.ref 502 0 0,.ref 504 0 0]
def gT (all:Bool) (l:List Tx):List (Nat×Row):=[(501,.box 9 [.d (dS (p0 all))]),(502,.box 58 [.own 503 0 l.length]),(503,.sl 9 1 (l.map fun s=>[dS s])),(504,.box 359 [jX])]
theorem Oh (a b:Tx):bo .lss (bs a) (bs b)=some (True,.bool (decide (a < b))):=by
 simp only[bo,bu,bytesLess_eq]
theorem BP (a b:Tx):bo .neq (bs a) (bs b)=some (True,.bool (!decide (a=b))):=by
 simp only[bo,bu]
 have h:(a == b)=decide (a=b):=by
  by_cases e:a=b
  .subst e;exact (beq_self_eq_true a).trans (decide_eq_true rfl).symm
  .exact (beq_eq_false_iff_ne.2 e).trans (decide_eq_false e).symm
 rw[h]
theorem adZ (m:List (List D)) (z x:List D) (k:Nat) (hk:k<=m.length) (hm:∀ el∈m,el.length=1/\∀ c∈el,D.one c=true) (hz:z.length=1/\∀ c∈z,D.one c=true) :
  ∃ news sd:List (List D),∃ w0:D,((m ++ [z]).drop k).take (m.length+1 - k)=news/\(∀ el∈news,el.length=1)/\(∀ el∈news,∀ c∈el,D.one c=true)/\
   nu (m ++ [z]) news (k+1) (m.length+1 - (k+1))=sd/\sd.length=m.length+1/\sd[k]? = some [w0]/\sd.set k x=m.take k ++ x :: m.drop k/\(k=m.length->sd=m ++ [z]):=by
 have h1:((m ++ [z]).drop k).take (m.length+1 - k)=m.drop k ++ [z]:=by
  rw[sh ak,List.drop_append_of_le_length hk]
 have h2:(m.drop k ++ [z]).take (m.length+1 - (k+1))=m.drop k:=by
  rw[akN ak,sh ak]
 have h3:nu (m ++ [z]) (m.drop k ++ [z]) (k+1) (m.length+1 - (k+1))=(m ++ [z]).take (k+1) ++ m.drop k:=by
  unfold nu;rw[h2,List.drop_of_length_le (l:=m ++ [z]) (by simp;omega),ako]
 have nE:∀ el∈m.drop k ++ [z],el.length=1/\∀ c∈el,D.one c=true:=fun el ba=>by
  rcases ajR.1 ba with h | h
  .exact hm el (aks h)
  .rw[aj3]at h;subst h;exact hz
 have hl:((m ++ [z]).take (k+1) ++ m.drop k).length=m.length+1:=by simp;omega
 have mR:k < (m ++ [z]).length:=by simp;omega
 have qC:((m ++ [z]).take (k+1) ++ m.drop k)[k]? = some ((m ++ [z])[k]):=by
  rw[akL (by simp;omega),ajU,if_pos aa,AT mR]
 have kY:∃ w0,(m ++ [z])[k]=[w0]:=by
  have hq:((m ++ [z])[k]).length=1:=by
   rcases ajR.1 (By mR)with h | h
   .exact (hm _ h).1
   .rw[aj3]at h;rw[h];exact hz.1
  exact akk.1 hq
 obtain⟨w0,qL⟩:=kY;refine⟨_,_,w0,h1,fun el ba=>(nE el ba).1,fun el ba=>(nE el ba).2,h3,hl,by rw[qC,qL],?_,fun e=>?_⟩
 .rw[ajO mR,akt,List.set_append_right _ _ (by simp;omega)]
  have e1:((m ++ [z]).take k).length=k:=by simp;omega
  rw[e1,Nat.sub_self,akN hk];rfl
 .subst e;rw[sh ak,List.drop_of_length_le ak,ako]
theorem al2:type_of% (Aq @alv (Aq @alw (Aq @gT.eq_1 @jX.eq_1))):=(Aq @alv (Aq @alw (Aq @gT.eq_1 @jX.eq_1)))
theorem agx (G:ay) (hM:k9 G) (all:Bool):∀ (n:Nat) (e:Ex),SizeOf.sizeOf e<=n->∀ l0:List Tx,l0.length+bE e<=2^39->MC prog G [501,502,504] 245 ([.d (dR e)] ++ [.ref 501 0 0,.ref 502 0 0,.ref 504 0 0]) (aq (gT all l0)) (.d (.bz [])) (aq (gT all (mo l0 (dv all e)))):=by
 intro n
 induction n with
 | zero=>intro e bd;cases e<;>simp at bd
 | succ n ih=>
  intro e bd l0 hb;have nz:∀ x∈nH e,∀ l1:List Tx,l1.length+bE x<=2^39->MC prog G [501,502,504] 245 ([.d (dR x)] ++ [.ref 501 0 0,.ref 502 0 0,.ref 504 0 0]) (aq (gT all l1)) (.d (.bz [])) (aq (gT all (mo l1 (dv all x)))):=fun x hx=>ih x (by have:=ahm hx;omega);clear ih;have hkb:=Wm e;have pN:=vF (nH e);have fD:=DI all (nH e);have FZ:=acY all e
  have hon:(ie (dK all e)).length<=1:=by unfold ie;split<;>simp
  have pH:(ie (dK all e)).length+il (nH e)<=bE e:=by
   cases e<;>simp[nH,bE,il]<;>first | omega | (simp[ie,dK]<;>omega) | skip
  have iW:=agA G hM (p0 all) (yM e) (by cases all<;>simp[p0])
  have dB:(p0 all).length<=5:=by cases all<;>simp[p0]
  rw[acZ,Rj,sR,ac8];generalize nH e=l at nz hkb pN fD pH ⊢;generalize yM e=kd at iW FZ ⊢;generalize sD e=nm at FZ ⊢;generalize kR e=kk;generalize kY:ie (dK all e)=on at FZ pH hon ⊢;generalize td:mo l0 on=sG;have CZ:=Lp on l0;rw[td]at CZ;clear bd;refine MC.aQ (aC _) func245 rfl rfl (rs:=[]) results245 (by simp[ntmps245]) rfl fun X=>?_;simp only[ntmps245];have fw:=al2;refine ag fun K1 aF=>?_;refine (fun fO=>?_) (fun (σ:St) himp=>aF σ (AW.imp (τ:=⟨bp [(0,.d (.ip [dS kd,dS nm,.sl kk (l.map fun x=>[dR x])])),(3,.ref 504 0 0)],aq (gT all sG)⟩) himp ?_))
  .rcases FZ with⟨h1,h2⟩ | ⟨h1,h2,h3⟩ | ⟨h1,h2,h3⟩
   .subst h1 h2
    have hq:l0=sG:=by rw[<- td];rfl
    subst hq;have qf:=(Aq fw (Aq @BP @b7));refine iz [0,2,3,20] [501,502,503,504] ?_;refine al (ar (fO _ ?_));refine bt fw
   .subst h3
    have hq:l0=sG:=by rw[<- td];rfl
    subst hq;rw[h2]at iW
    have oZ:bo .neq (bs nm) ⟨#[]⟩=some (True,.bool true):=by
     have:=BP nm [];rw[decide_eq_false h1]at this;exact this
    have qf:=(Aq fw @oZ);refine Bk iW [0,2,3,20] [501,502,503,504] ?_;refine al (ar (fO _ ?_));refine bt fw
   .subst h3;rw[h2]at iW
    have oZ:bo .neq (bs nm) ⟨#[]⟩=some (True,.bool true):=by
     have:=BP nm [];rw[decide_eq_false h1]at this;exact this
    have qf:=(Aq fw @oZ);refine Bk iW [0,2,3,20] [501,502,503,504] ?_;refine aJ (ae fw [0,2,3,5] [501,502,503,504] ?_);refine ag fun K2 aw=>?_;refine (fun FT=>?_) (fun (k:Nat) (hk:k<=l0.length) (hp:∀ i (hi:i < l0.length),i < k->l0[i]'hi < nm) (hx:∀ hk:k < l0.length,¬ l0[k]'hk < nm) (σ:St) himp=>aw σ (AW.imp (τ:=⟨bp [(0,.d (.ip [dS kd,dS nm,.sl kk (l.map fun x=>[dR x])])),(2,.ref 502 0 0),(3,.ref 504 0 0),(5,int k)],aq (gT all l0)⟩) himp ?_))
    .refine cG (S:=Nat) (fun k=>k<=l0.length/\∀ i (hi:i < l0.length),i < k->l0[i] < nm) (fun k=>⟨bp [(0,.d (.ip [dS kd,dS nm,.sl kk (l.map fun x=>[dR x])])),(2,.ref 502 0 0),(3,.ref 504 0 0),(5,int k)],aq (gT all l0)⟩) (fun k=>l0.length - k) 0 ?_ ak ?_
     .refine bt fw
     .rintro k ⟨hk,hp⟩;refine ag fun K3 aZ=>?_;by_cases dB:k < l0.length
      .cases aH:decide (l0[k] < nm) with
       | true=>
        have ea:bo .lss (bs l0[k]) (bs nm)=some (True,.bool true):=by rw[Oh,aH]
        have qf:=(Aq fw (Aq @dB @ea));refine iz [0,2,3,5,35] [501,502,503,504] ?_;refine aJ (ar (aZ _ ?_));refine bg (cD fw ?_);(try simp only[aV,aX]);refine bh.mk (k+1) ⟨aa,fun i hi CF=>?_⟩ aa ?_
        .by_cases he:i=k
         .subst he;exact of_decide_eq_true aH
         .exact hp i hi aa
        refine bt fw
       | false=>
        have ea:bo .lss (bs l0[k]) (bs nm)=some (True,.bool false):=by rw[Oh,aH]
        have qf:=(Aq fw (Aq @dB @ea));refine iz [0,2,3,5,35] [501,502,503,504] ?_;refine al (b5 (FT k hk hp (fun _=>of_decide_eq_false aH) _ ?_));refine bt fw
      .have qf:=(Aq fw @dB);refine iz [0,2,3,5,35] [501,502,503,504] ?_;refine al (b5 (FT k hk hp (fun h=>absurd h dB) _ ?_));refine bt fw
    .have aag:=Rn nm l0 k hk hp hx;have u5:sG=mv nm l0:=td.symm;rw[aag]at u5;by_cases dB:k < l0.length
     .by_cases he:l0[k]=nm
      .have JG:bo .neq (bs l0[k]) (bs nm)=some (True,.bool false):=by rw[BP,he,decide_eq_true rfl];rfl
       rw[if_pos ⟨dB,he⟩]at u5
       have bf:¬ k=l0.length:=aa
       have qf:=(Aq fw (Aq @dB (Aq @JG @bf)));refine iz [0,2,3,5,52] [501,502,503,504] ?_;refine al (ar (fO _ ?_));refine bt (Aq fw @u5)
      .have JG:bo .neq (bs l0[k]) (bs nm)=some (True,.bool true):=by rw[BP,decide_eq_false he];rfl
       rw[if_neg (fun ⟨_,h⟩=>he h)]at u5
       have bf:¬ k=l0.length:=aa
       have qf:=(Aq fw (Aq @dB (Aq @JG @bf)));refine iz [0,2,3,5,52] [501,502,503,504] ?_;refine aJ (rg [0,2,3,5] [501,502,503,504] (ew rfl) fun K' ao=>?_);(repeat refine aK fun Kq af=>?_;simp[ab,dS,gT,jX,sh];(repeat refine⟨aa,?_⟩);refine af _ ?_);refine bJ (ao _ (AW.st (by simp[ab,dS,gT,jX,sh];rfl) ?_))
       have bQ:k+1<=l0.length+1:=aa
       have gJ:¬ (k:Int)=(l0.length:Int)+1:=aa
       have mO:((l0.length:Int)+1 - ((k:Int)+1)).toNat=l0.length+1 - (k+1):=aa
       have hle:k+(l0.length+1 - k)<=l0.length+1:=aa
       have aas:k+1+(l0.length - k)<=l0.length+1:=aa
       obtain⟨news,sd,w0,q1,q2,q3,q4,q5,q6,q7,_⟩:=adZ (l0.map fun s=>[dS s]) [dS []] [dS nm] k (by simpa using hk) (by intro el ba;obtain⟨s,_,rfl⟩:=akh.1 ba;simp[dS,D.one]) (by simp[dS,D.one])
       have q8:List.take k (l0.map fun s=>[dS s]) ++ [dS nm] :: List.drop k (l0.map fun s=>[dS s])=sG.map fun s=>[dS s]:=by rw[u5];simp
       rw[q8]at q7
       have q9:sG.length=l0.length+1:=by rw[u5];simp;omega
       rw[aki]at q1 q4 q5;rw[Nat.add_sub_add_right]at q4;simp only[dS]at q1 q4 q7;rw[<- b7]at q1 q4
       have MG:(sd[k]' aa).tail=[]:=by
        have:=q6;rw[AT aa]at this;rw[AI this];rfl
       have q23:=eq_true (And.intro q2 q3);have q2t:=eq_true q2;have q3t:=eq_true q3
       have aaq:k < l0.length+1:=aa
       have qf:=(Aq fw (Aq @bQ (Aq @hk (Aq @bf (Aq @gJ (Aq @mO (Aq @hle (Aq @aas (Aq @q1 (Aq @q23 (Aq @q2t (Aq @q3t @q4))))))))))));refine iz [0,2,3,5] [501,502,503,504] ?_;refine BB (aC _) ah ah fun K' ao=>?_;(repeat refine ja fun Kq af=>?_;simp[ab,dS,gT,jX,q5,q6,q7,MG,aaq];(repeat refine⟨aa,?_⟩);refine af _ ?_);refine qd (ao _ ?_);(try simp only[aV,aX]);refine fO _ ?_;refine aM.dk (ew rfl) (by simp[ab,dS,gT,jX,q9,q7,MG]) (by simp[ab,dS,gT,jX,q9,q7,MG])
     .obtain rfl:k=l0.length:=aa
      rw[if_neg (fun ⟨h,_⟩=>dB h),akH,List.drop_length]at u5;have qf:=(Aq fw @dB);refine iz [0,2,3,5,52] [501,502,503,504] ?_;refine aJ (rg [0,2,3,5] [501,502,503,504] (ew rfl) fun K' ao=>?_);(repeat refine aK fun Kq af=>?_;simp[ab,dS,gT,jX,sh];(repeat refine⟨aa,?_⟩);refine af _ ?_);refine bJ (ao _ (AW.st (by simp[ab,dS,gT,jX,sh];rfl) ?_))
      have gJ:¬ (l0.length:Int)=(l0.length:Int)+1:=aa
      have mO:¬ (l0.length:Int)+1=0:=aa
      have q8:(l0.map fun s=>[dS s]) ++ [[dS nm]]=sG.map fun s=>[dS s]:=by rw[u5];simp
      have q9:sG.length=l0.length+1:=by rw[u5];simp
      simp only[dS]at q8;have qf:=(Aq fw (Aq @gJ (Aq @mO (Aq @D.one.eq_1 (Aq @D.one.eq_2 (Aq @D.one.eq_3 @D.one.eq_4))))));refine iz [0,2,3,5] [501,502,503,504] ?_;refine BB (aC _) ah ah fun K' ao=>?_;(repeat refine ja fun Kq af=>?_;simp[ab,dS,gT,jX];(repeat refine⟨aa,?_⟩);refine af _ ?_);refine qd (ao _ ?_);(try simp only[aV,aX]);refine fO _ ?_;refine aM.dk (ew rfl) (by simp[ab,dS,gT,jX,q9,q8]) (by simp[ab,dS,gT,jX,q9,q8])
  .simp only[akE]at nz;refine ae fw [3,74,75,76] [501,502,503,504] ?_;refine cG (S:=Nat) (fun i=>i<=l.length) (fun i=>⟨bp [(3,.ref 504 0 0),(74,.d (.sl kk (l.map fun x=>[dR x]))),(75,int l.length),(76,int i)],aq (gT all (mo sG (gb all (l.take i))))⟩) (fun i=>l.length - i) 0 ?_ aa ?_
   .refine aM.dk (ew rfl) (by simp[ab,dS,gT,jX,gb,Rl]) (by simp[ab,dS,gT,jX,gb,Rl])
   .intro i hi;refine ae fw [3,74,75,76,77] [501,502,503,504] ?_;refine ag fun K4 cr=>fG (b:=i < l.length) (by simp[D.le,D.le.go,aR,ab,dS,gT,jX]) (fun hc=>?_) (fun hc=>?_)
    .have dM:i < l.length:=hc;have h1:=Md all dM;have h2:=DI all (l.take i);have h3:=Ir dM;have h4:=Lp (gb all (l.take i)) sG;have cK:=nz _ (By dM) (mo sG (gb all (l.take i))) aa;rw[<- Rj,<- h1]at cK;have hf:=sR l[i];rw[hf]at cK;refine ar (cr _ (ag fun K5 cg=>bg ?_));have qf:=(Aq fw (Aq @dM @hf));refine au [3,7,74,75,76] [501,502,503,504] ?_;refine fH (aC _) fun K' ao=>?_;(repeat refine aK fun Kq af=>?_;simp[ab,dS,gT,jX];(repeat refine⟨aa,?_⟩);refine af _ ?_);refine aK fun Kq af=>?_;simp[ab,dS,gT,jX];refine cX.mc (cK) ?_ ?_ ?_ ?_ ?_<;>simp[ab,dS,gT,jX];refine af _ ?_;(repeat refine aK fun Kq af=>?_;simp[ab,dS,gT,jX];(repeat refine⟨aa,?_⟩);refine af _ ?_);refine bJ (ao _ ?_);refine cg _ (AW.norm [3,74,75,76] [501,502,503,504] (ew rfl) (AW.st (by simp[ab,dS,gT,jX];rfl) ?_));refine cD fw ?_;(try simp only[aV,aX]);refine bh.mk (i+1) aa aa ?_;refine bt fw
    .obtain rfl:i=l.length:=aa
     refine b5 ?_;simp[D.le_refl,akH,gT,jX,dS]
theorem qU {r r':Nat} (hr:r≠r') (l:List (Nat×Row)) (hl:∀ p∈l,p.1≠r'):rU r r' (aq l)=aq (l.map fun p=>(if p.1=r then r' else p.1,p.2.tr (ik r r') (ij r r'))):=by
 funext q;unfold rU
 induction l with
 | nil=>simp[aq,List.lookup]
 | cons p l ih=>
  have ih:=ih fun p hp=>hl p (by simp[hp]);have hp:=hl p ak;obtain⟨k,row⟩:=p;simp only[aq,List.lookup,aj6]at ih ⊢;by_cases h1:q=r'
  .subst h1;simp only[if_true]at ih ⊢;by_cases h2:k=r
   .subst h2;simp
   .have a1:(r == k)=false:=by simpa using fun e=>h2 e.symm
    have a2:(q == k)=false:=by simpa using fun e=>hp e.symm
    simp only[h2,if_false,a1,a2];exact ih
  .simp only[h1,if_false]at ih ⊢;by_cases h2:q=r
   .subst h2;simp only[if_true]at ih ⊢;by_cases h3:k=q
    .have a1:(q == r')=false:=by simpa using h1
     simp only[h3,if_true,a1];exact ih
    .have a1:(q == k)=false:=by simpa using fun e=>h3 e.symm
     simp only[h3,if_false,a1];exact ih
   .simp only[h2,if_false]at ih ⊢;by_cases h3:k=r
    .have a1:(q == k)=false:=by rw[h3];simpa using h2
     have a2:(q == r')=false:=by simpa using h1
     simp only[h3,if_true,a2]at a1 ⊢;rw[a1];exact ih
    .simp only[h3,if_false];by_cases h4:q=k
     .subst h4;simp
     .have a1:(q == k)=false:=by simpa using h4
      simp only[a1];exact ih
theorem Ss (G:ay) (hM:k9 G) (all:Bool) (e:Ex) (hb:bE e<=2^28):aD prog G 185 [dR e,dS (p0 all)] (.sl none ((fj all e).map fun s=>[dS s])):=by
 have hw:=agx G hM all _ e (ajJ _) [] (by simp;omega);have iF:=abf all e;rw[iF]at hw;simp only[akE]at hw;generalize fj all e=l at hw ⊢;clear iF;rw[sR]at hw ⊢;refine aD.aQ (aC _) func185 rfl rfl (rs:=[.tmp 4]) results185 (by simp[ntmps185]) fun X=>?_;simp only[ntmps185,List.map];have fw:=al2;refine ae fw [0,3] [3] ?_;refine ae fw [0,3,5] [3,5] ?_;refine ae fw [0,3,5,6] [3,5,6] ?_;refine ae fw [0,5,6] [3,5,6] ?_;refine AW.imp (aM.dI (r:=3) (r':=501) trivial ak) ?_;refine AW.st (by simp[ik,ij,Go.Av.dI,qU];rfl) ?_;refine AW.imp (aM.dI (r:=5) (r':=502) trivial ak) ?_;refine AW.st (by simp[ik,ij,Go.Av.dI,qU];rfl) ?_;refine AW.imp (aM.dI (r:=6) (r':=504) trivial ak) ?_;refine AW.st (by simp[ik,ij,Go.Av.dI,qU];rfl) ?_;refine AW.imp (aM.r8 502 0 503 9 1 rfl rfl rfl) ?_;refine AW.imp (τ:=⟨bp [(0,.d (.ip [dS (yM e),dS (sD e),DJ e])),(5,.ref 502 0 0),(6,.ref 504 0 0)],aq (gT all [])⟩) ?_ ?_
 .refine bt (Aq fw (Aq @gT.eq_1 @jX.eq_1))
 refine bG fw hw [5] [502,503] ?_;refine ae (Aq fw (Aq @gT.eq_1 @jX.eq_1)) [4] [502,503] ?_;have cY:List.take l.length (l.map fun s=>[dS s])=l.map fun s=>[dS s]:=sh ak;simp only[dS]at cY;refine AW.imp (aM.freeze 503 trivial) ?_;refine AW.st (by simp[ab,dS,gT,jX,cY];rfl) ?_;exact aU (Aq fw @cY)
theorem agc (G:ay) (hM:k9 G) (e:Ex) (hb:bE e<=2^28):aD prog G 109 [dR e] (.sl none ((fj true e).map fun s=>[dS s])):=by
 have hs:=Ss G hM true e hb;rw[sR]at hs ⊢;generalize fj true e=l at hs ⊢;have hk:dS (p0 true) = .v (.string ⟨#[98,105,116,94,126]⟩):=rfl;rw[hk]at hs;refine aD.aQ (aC _) func109 rfl rfl (rs:=[.tmp 2]) results109 (by simp[ntmps109]) fun X=>?_;simp only[ntmps109,List.map];have fw:=al2;refine ae fw [0] [] ?_;refine br fw hs [2] [] ?_;exact aU fw
theorem aek (G:ay) (hM:k9 G) (e:Ex) (hb:bE e<=2^28):aD prog G 292 [dR e] (.sl none ((fj false e).map fun s=>[dS s])):=by
 have hs:=Ss G hM false e hb;rw[sR]at hs ⊢;generalize fj false e=l at hs ⊢;have hk:dS (p0 false) = .v (.string ⟨#[94,126]⟩):=rfl;rw[hk]at hs;refine aD.aQ (aC _) func292 rfl rfl (rs:=[.tmp 2]) results292 (by simp[ntmps292]) fun X=>?_;simp only[ntmps292,List.map];have fw:=al2;refine ae fw [0] [] ?_;refine br fw hs [2] [] ?_;exact aU fw
theorem Wp (p:aS) (i:Nat) (hi:i < p.names.length):nW p i p.names[i]=if !sc p.names[i].name then 5 else if !(decide (1<=p.names[i].kind) && decide (p.names[i].kind<=4)) then 1 else if (decide (p.names[i].kind >= 3) && !(decide (1<=p.names[i].count) && decide (p.names[i].count<=7))) || (decide (p.names[i].kind < 3) && decide (p.names[i].count≠0)) then 2 else if cw p p.names[i].name≠i then 9 else 0:=by
 rw[<- Wo p i hi,Iu,Sq]
theorem It (p:aS) (k:Int) (s:Tx) (e:Ex):l7 p ⟨k,s,some e⟩=if !(decide (1<=k) && decide (k<=6)) then 1 else if cw p s < 0 then 7 else if !decide (jY k=(p.names.getD (cw p s).toNat ⟨[],0,0⟩).kind) then 1 else if (fj true e).any fun s=>decide (cw p s < 0) then 7 else 0:=by
 have h:(decide (k < 1) || decide (k > 6)) = !(decide (1<=k) && decide (k<=6)):=by
  by_cases h1:1<=k<;>by_cases h2:k<=6<;>simp[h1,h2]<;>omega
 show (if decide (k < 1) || decide (k > 6) then (1:Int) else _)=_;rw[h];simp only[akP,decide_eq_false_iff_not,ne_eq]
theorem alR:type_of% (Aq @alx (Aq @aly (Aq @alz (Aq @alA (Aq @alB @alv))))):=(Aq @alx (Aq @aly (Aq @alz (Aq @alA (Aq @alB @alv)))))
theorem ab1 (G:ay) (hF:vB G) (hM:k9 G) (p:aS) (hp:Et p):aD prog G 177 [eF p] (dz (c8 p)):=by
 unfold vB at hF;obtain⟨fD,fq,s8,Ai⟩:=hp
 have yl:c8 p=if p.names.length > 12\/p.ax.length > 40 then some (4,none) else match n7 (nW p) p.names 0 with
  | some (e,i)=>some (e,some i)
  | none=>match n7 (fun _ r=>l7 p r) p.ax 0 with
   | some (e,i)=>some (e,some (p.names.length+i))
   | none=>none:=rfl
 generalize ko:c8 p=res;rw[yl]at ko;have cu:=fun s=>Va G p fD s;have JH:=EC G 4;simp only[eF,gr,cE,dS]at cu ⊢;simp only[ab]at hF JH;refine aD.aQ (aC _) func177 rfl rfl (rs:=[.cell 2 52]) results177 (by simp[ntmps177]) fun X=>?_;simp only[ntmps177,List.map];refine aB [1,2] [1,2] ?_;refine gv 1 ?_;refine ag fun K1 aF=>?_;by_cases g0:(p.names.length:Int) > 12
 .rw[if_pos (.inl aa)]at ko;have qf:=@g0;refine au [1,2,20] [2] ?_;refine aJ (br trivial JH [2] [2] ?_);refine bT ?_;simp[D.le,D.le.go,aR];simp[<- ko,dz,codeF,ch,ab,D.le,D.le.go]
 by_cases g1:(p.ax.length:Int) > 40
 .rw[if_pos (.inr aa)]at ko;have qf:=(Aq @g0 @g1);refine au [1,2,20] [2] ?_;refine aJ (br trivial JH [2] [2] ?_);refine bT ?_;simp[D.le,D.le.go,aR];simp[<- ko,dz,codeF,ch,ab,D.le,D.le.go]
 rw[if_neg aa]at ko;have qf:=(Aq @g0 @g1);refine au [1,2,20] [2] ?_;refine al (ar (aF _ ?_));refine ag fun K2 aw=>aB [1,2,23,24,25] [2] ?_;refine cG (S:=Nat) (fun n=>n<=p.names.length/\∀ k (hk:k < p.names.length),k < n->nW p k p.names[k]=0) (fun n=>⟨bp [(1,.d (.ip [.sl none (p.names.map bw),.sl none (p.ax.map eo)])),(2,.ref 2 0 0),(23,.d (.sl none (p.names.map bw))),(24,int p.names.length),(25,int n)],aq [(2,.box 52 [int 0,int 0])]⟩) (fun n=>p.names.length - n) 0 ?_ ak ?_
 .refine df
 .rintro n ⟨hn,hb⟩;refine aB [1,2,23,24,25,26] [2] ?_;refine ag fun K3 aZ=>fG (b:=n < p.names.length) (by simp[D.le,D.le.go,aR]) (fun hc=>?_) (fun hc=>?_)
  .have aH:=hc
   have fO:nW p n p.names[n]≠0->res=some (nW p n p.names[n],some n):=fun bf=>by
    rw[<- ko,B8 (i:=0) aH (fun k hk nD=>by rw[akg];exact hb k hk nD) (by rw[akg];exact bf)];simp
   have iF:=s8 _ (By aH);have iN:bw p.names[n]=[dS p.names[n].name,.v (.int .i64 p.names[n].kind),.v (.int .i64 p.names[n].count)]:=rfl;have ck:=Wp p n aH;have lT:=Sw G p.names[n].name iF;generalize hv:nW p n p.names[n]=v at ck fO;generalize p.names[n].name=nm at iF iN ck lT;generalize p.names[n].kind=kd at iN ck;generalize p.names[n].count=ct at iN ck;have mT:=cu nm;have j5:=Nv G kd 1 4;have rK:=Nv G ct 1 7;simp only[dS]at iN lT;simp only[ab]at j5 rK;generalize sc nm=nf at lT ck;generalize kZ:(decide (1<=kd) && decide (kd<=4))=q1 at j5 ck;generalize o6:(decide (1<=ct) && decide (ct<=7))=q2 at rK ck;refine ar (aZ _ (ag fun K4 cr=>bg ?_));have qf:=(Aq @aH @iN);refine au [1,2,3,4,23,24,25] [2,4] ?_;refine gv 4 ?_;refine ag fun K5 cg=>br trivial lT [1,2,3,4,23,24,25,33] [2] ?_
   cases nf with
   | false=>
    rw[if_pos ak]at ck;have hr:=fO (by rw[ck];decide);rw[ck]at hr;refine aJ (aB [2] [2] ?_);exact aU (Aq @hr alR)
   | true=>
    rw[if_neg bF]at ck;refine al (ar (cg _ ?_));refine ag fun K6 eB=>br trivial j5 [1,2,3,4,23,24,25,39] [2] ?_
    cases q1 with
    | false=>
     rw[if_pos ak]at ck;have hr:=fO (by rw[ck];decide);rw[ck]at hr;refine aJ (aB [2] [2] ?_);exact aU (Aq @hr alR)
    | true=>
     rw[if_neg bF]at ck;refine al (ar (eB _ ?_));refine ag fun K7 eO=>?_;by_cases k3:kd >= 3
     .have ju:¬ kd < 3:=aa
      cases q2 with
      | false=>
       have qf:=(Aq @k3 @ju);refine e7 rK [1,2,3,4,23,24,25,60] [2] ?_;rw[if_pos (by simp[k3])]at ck;have hr:=fO (by rw[ck];decide);rw[ck]at hr;refine aJ (aB [2] [2] ?_);exact aU (Aq @hr alR)
      | true=>
       rw[if_neg (by simp[ju])]at ck;have qf:=(Aq @k3 @ju);refine e7 rK [1,2,3,4,23,24,25,60] [2] ?_;refine al (ar (eO _ ?_));refine br trivial mT [1,2,3,23,24,25,68] [2] ?_;by_cases c9:cw p nm=n
       .rw[if_neg (by simp[c9])]at ck;refine b9 (by simp[c9]) (ar (cr _ ?_));refine dN ?_;(try simp only[aV,aX]);refine bh.mk (n+1) ⟨aa,fun k hk nD=>?_⟩ aa ?_
        .by_cases h:k=n
         .subst h;rw[hv,ck]
         .exact hb k hk aa
        refine df
       .rw[if_pos c9]at ck;have hr:=fO (by rw[ck];decide);rw[ck]at hr;refine b8 (by simp[c9]) (aB [2] [2] ?_);exact aU (Aq @hr alR)
     .have ju:kd < 3:=aa
      by_cases c0:ct=0
      .rw[if_neg (by simp[k3,c0])]at ck;have qf:=(Aq @k3 (Aq @ju @c0));refine au [1,2,3,4,23,24,25,60] [2] ?_;refine al (ar (eO _ ?_));refine br trivial mT [1,2,3,23,24,25,68] [2] ?_;by_cases c9:cw p nm=n
       .rw[if_neg (by simp[c9])]at ck;refine b9 (by simp[c9]) (ar (cr _ ?_));refine dN ?_;(try simp only[aV,aX]);refine bh.mk (n+1) ⟨aa,fun k hk nD=>?_⟩ aa ?_
        .by_cases h:k=n
         .subst h;rw[hv,ck]
         .exact hb k hk aa
        refine df
       .rw[if_pos c9]at ck;have hr:=fO (by rw[ck];decide);rw[ck]at hr;refine b8 (by simp[c9]) (aB [2] [2] ?_);exact aU (Aq @hr alR)
      .have qf:=(Aq @k3 (Aq @ju @c0));refine au [1,2,3,4,23,24,25,60] [2] ?_;rw[if_pos (by simp[ju,c0])]at ck;have hr:=fO (by rw[ck];decide);rw[ck]at hr;refine aJ (aB [2] [2] ?_);exact aU (Aq @hr alR)
  .rw[Ca fun k hk=>by rw[akg];exact hb k hk aa]at ko;dsimp only at ko;refine b5 (aw _ (ag fun K8 eX=>aB [1,2,73,74,75] [2] ?_));refine cG (S:=Nat) (fun n=>n<=p.ax.length/\∀ k (hk:k < p.ax.length),k < n->l7 p p.ax[k]=0) (fun n=>⟨bp [(1,.d (.ip [.sl none (p.names.map bw),.sl none (p.ax.map eo)])),(2,.ref 2 0 0),(73,.d (.sl none (p.ax.map eo))),(74,int p.ax.length),(75,int n)],aq [(2,.box 52 [int 0,int 0])]⟩) (fun n=>p.ax.length - n) 0 ?_ ak ?_
   .refine df
   .rintro n ⟨hn,hb⟩;refine aB [1,2,73,74,75,76] [2] ?_;refine ag fun K9 j2=>fG (b:=n < p.ax.length) (by simp[D.le,D.le.go,aR]) (fun hc=>?_) (fun hc=>?_)
    .have aH:=hc
     have fO:l7 p p.ax[n]≠0->res=some (l7 p p.ax[n],some (p.names.length+n)):=fun bf=>by
      rw[<- ko,B8 (i:=0) aH (fun k hk nD=>hb k hk nD) bf];simp
     have JO:=Ai p.ax[n] (By aH);obtain⟨⟨kd,nm,cd⟩,u9⟩:∃ r,p.ax[n]=r:=⟨_,rfl⟩
     have hzero:l7 p ⟨kd,nm,cd⟩=0->∀ k (hk:k < p.ax.length),k < n+1->l7 p p.ax[k]=0:=fun h0 k hk nD=>by
      by_cases h:k=n
      .subst h;rw[u9];exact h0
      .exact hb k hk aa
     rw[u9]at fO JO
     have iN:eo p.ax[n]=[.v (.int .i64 kd),dS nm,l9 cd]:=by rw[u9];rfl
     dsimp only at JO;obtain⟨v,hv⟩:∃ v,l7 p ⟨kd,nm,cd⟩=v:=⟨_,rfl⟩;rw[hv]at fO hzero;have ck:=hv.symm;have j5:=Nv G kd 1 6;have mT:=cu nm;simp only[dS]at iN;simp only[ab]at j5;refine ar (j2 _ (ag fun nS eJ=>bg ?_))
     have eY:(p.names.length:Int)+n < 2^63:=aa
     cases cd with
     | none=>
      have e9:v=1:=ck;have hr:=fO (by rw[e9];decide);rw[e9]at hr;simp only[l9]at iN;generalize kZ:(decide (1<=kd) && decide (kd<=6))=q1 at j5;have qf:=(Aq @aH @iN);refine au [1,2,5,6,73,74,75] [2,6] ?_;refine gv 6 ?_;refine aB [1,2,6,7,73,74,75] [2] ?_;refine ag fun ud mL=>?_
      cases q1 with
      | false=>
       refine br trivial j5 [1,2,6,7,73,74,75,93] [2] ?_;refine aJ (aB [2] [2] ?_);exact aU (Aq @hr alR)
      | true=>
       refine br trivial j5 [1,2,6,7,73,74,75,93] [2] ?_;refine aJ (aB [2] [2] ?_);exact aU (Aq @hr alR)
     | some e=>
      obtain⟨JL,aaB⟩:=JO e rfl;rw[It]at ck;have jq:=agc G hM e JL;simp only[l9]at iN;obtain⟨ec,JY⟩:∃ c,dR e = .ip c:=⟨_,sR e⟩;rw[JY]at iN jq;generalize fj true e=ne at jq aaB ck;simp only[dS]at jq;generalize kZ:(decide (1<=kd) && decide (kd<=6))=q1 at j5 ck;have qf:=(Aq @aH @iN);refine au [1,2,5,6,73,74,75] [2,6] ?_;refine gv 6 ?_;refine aB [1,2,6,7,73,74,75] [2] ?_;refine ag fun ud mL=>?_
      cases q1 with
      | false=>
       refine br trivial j5 [1,2,6,7,73,74,75,93] [2] ?_;rw[if_pos ak]at ck;have hr:=fO (by rw[ck];decide);rw[ck]at hr;refine aJ (aB [2] [2] ?_);exact aU (Aq @hr alR)
      | true=>
       rw[if_neg bF]at ck
       have gZ:1<=kd/\kd<=6:=by simpa using kZ
       refine br trivial j5 [1,2,6,7,73,74,75,93] [2] ?_;refine al (ar (mL _ ?_));refine br trivial mT [1,2,6,7,8,73,74,75] [2] ?_;refine ag fun xp kB=>aB [1,2,6,7,8,73,74,75,101] [2] ?_;by_cases c7:cw p nm < 0
       .rw[if_pos c7]at ck;have hr:=fO (by rw[ck];decide);rw[ck]at hr;refine b8 (by simp[c7]) (aB [2] [2] ?_);exact aU (Aq @hr alR)
       rw[if_neg c7]at ck;obtain⟨k,hk,kX⟩:=SG c7
       have mN:p.names.getD (cw p nm).toNat ⟨[],0,0⟩=p.names[k]:=by
        rw[kX,ajI,OF,AT hk];rfl
       rw[mN]at ck;refine b9 (by simp[c7]) (ar (kB _ ?_));refine ag fun nq gH=>?_;have qA:bw p.names[k]=[dS p.names[k].name,.v (.int .i64 p.names[k].kind),.v (.int .i64 p.names[k].count)]:=rfl;generalize mR:p.names[k].kind=kk at ck qA;rw[kX]
       refine' GM (fun eL=>?_) ?_
       rotate_left
       .by_cases k1:kd=1
        .refine zq (aC _) ah ([0]) (List.range 13) [1,2,6,7,73,74,75,116] [2] aN ah fun K' ao=>?_;(repeat refine vt rfl fun K2 aw=>?_;simp[k1,hk,qA];(repeat refine⟨aa,?_⟩);refine aw _ ?_;clear aw K2);refine zg (ao _ ?_);refine AW.st (by simp[k1,hk,qA];rfl) ?_;refine AW.st (show _=(⟨bp [(1,.d (.ip [.sl none (p.names.map bw),.sl none (p.ax.map eo)])),(2,.ref 2 0 0),(6,.d (.ip [.v (.int .i64 kd),.v (.string (bs nm)),.ip ec])),(7,int ((p.names.length:Int)+n)),(73,.d (.sl none (p.ax.map eo))),(74,int p.ax.length),(75,int n),(116,.d (.v (.bool (!decide (jY kd=kk)))))],aq [(2,.box 52 [int 0,int 0])]⟩:St) by rw[k1,show jY 1=2 from rfl]<;>rfl) ?_;exact eL.out
        by_cases k2:kd=2
        .refine zq (aC _) ah ([0]) (List.range 13) [1,2,6,7,73,74,75,116] [2] aN ah fun K' ao=>?_;(repeat refine vt rfl fun K2 aw=>?_;simp[k2,hk,qA];(repeat refine⟨aa,?_⟩);refine aw _ ?_;clear aw K2);refine zg (ao _ ?_);refine AW.st (by simp[k2,hk,qA];rfl) ?_;refine AW.st (show _=(⟨bp [(1,.d (.ip [.sl none (p.names.map bw),.sl none (p.ax.map eo)])),(2,.ref 2 0 0),(6,.d (.ip [.v (.int .i64 kd),.v (.string (bs nm)),.ip ec])),(7,int ((p.names.length:Int)+n)),(73,.d (.sl none (p.ax.map eo))),(74,int p.ax.length),(75,int n),(116,.d (.v (.bool (!decide (jY kd=kk)))))],aq [(2,.box 52 [int 0,int 0])]⟩:St) by rw[k2,show jY 2=2 from rfl]<;>rfl) ?_;exact eL.out
        by_cases k3:kd=3
        .refine zq (aC _) ah ([0]) (List.range 13) [1,2,6,7,73,74,75,116] [2] aN ah fun K' ao=>?_;(repeat refine vt rfl fun K2 aw=>?_;simp[k3,hk,qA];(repeat refine⟨aa,?_⟩);refine aw _ ?_;clear aw K2);refine zg (ao _ ?_);refine AW.st (by simp[k3,hk,qA];rfl) ?_;refine AW.st (show _=(⟨bp [(1,.d (.ip [.sl none (p.names.map bw),.sl none (p.ax.map eo)])),(2,.ref 2 0 0),(6,.d (.ip [.v (.int .i64 kd),.v (.string (bs nm)),.ip ec])),(7,int ((p.names.length:Int)+n)),(73,.d (.sl none (p.ax.map eo))),(74,int p.ax.length),(75,int n),(116,.d (.v (.bool (!decide (jY kd=kk)))))],aq [(2,.box 52 [int 0,int 0])]⟩:St) by rw[k3,show jY 3=2 from rfl]<;>rfl) ?_;exact eL.out
        by_cases k4:kd=4
        .refine zq (aC _) ah ([0]) (List.range 13) [1,2,6,7,73,74,75,116] [2] aN ah fun K' ao=>?_;(repeat refine vt rfl fun K2 aw=>?_;simp[k4,hk,qA];(repeat refine⟨aa,?_⟩);refine aw _ ?_;clear aw K2);refine zg (ao _ ?_);refine AW.st (by simp[k4,hk,qA];rfl) ?_;refine AW.st (show _=(⟨bp [(1,.d (.ip [.sl none (p.names.map bw),.sl none (p.ax.map eo)])),(2,.ref 2 0 0),(6,.d (.ip [.v (.int .i64 kd),.v (.string (bs nm)),.ip ec])),(7,int ((p.names.length:Int)+n)),(73,.d (.sl none (p.ax.map eo))),(74,int p.ax.length),(75,int n),(116,.d (.v (.bool (!decide (jY kd=kk)))))],aq [(2,.box 52 [int 0,int 0])]⟩:St) by rw[k4,show jY 4=3 from rfl]<;>rfl) ?_;exact eL.out
        by_cases k5:kd=5
        .refine zq (aC _) ah ([0]) (List.range 13) [1,2,6,7,73,74,75,116] [2] aN ah fun K' ao=>?_;(repeat refine vt rfl fun K2 aw=>?_;simp[k5,hk,qA];(repeat refine⟨aa,?_⟩);refine aw _ ?_;clear aw K2);refine zg (ao _ ?_);refine AW.st (by simp[k5,hk,qA];rfl) ?_;refine AW.st (show _=(⟨bp [(1,.d (.ip [.sl none (p.names.map bw),.sl none (p.ax.map eo)])),(2,.ref 2 0 0),(6,.d (.ip [.v (.int .i64 kd),.v (.string (bs nm)),.ip ec])),(7,int ((p.names.length:Int)+n)),(73,.d (.sl none (p.ax.map eo))),(74,int p.ax.length),(75,int n),(116,.d (.v (.bool (!decide (jY kd=kk)))))],aq [(2,.box 52 [int 0,int 0])]⟩:St) by rw[k5,show jY 5=4 from rfl]<;>rfl) ?_;exact eL.out
        have k6:kd=6:=aa
        refine zq (aC _) ah ([0]) (List.range 13) [1,2,6,7,73,74,75,116] [2] aN ah fun K' ao=>?_;(repeat refine vt rfl fun K2 aw=>?_;simp[k6,hk,qA];(repeat refine⟨aa,?_⟩);refine aw _ ?_;clear aw K2);refine zg (ao _ ?_);refine AW.st (by simp[k6,hk,qA];rfl) ?_;refine AW.st (show _=(⟨bp [(1,.d (.ip [.sl none (p.names.map bw),.sl none (p.ax.map eo)])),(2,.ref 2 0 0),(6,.d (.ip [.v (.int .i64 kd),.v (.string (bs nm)),.ip ec])),(7,int ((p.names.length:Int)+n)),(73,.d (.sl none (p.ax.map eo))),(74,int p.ax.length),(75,int n),(116,.d (.v (.bool (!decide (jY kd=kk)))))],aq [(2,.box 52 [int 0,int 0])]⟩:St) by rw[k6,show jY 6=4 from rfl]<;>rfl) ?_;exact eL.out
       .generalize Lj:(!decide (jY kd=kk))=wk at ck
        cases wk with
        | true=>
         rw[if_pos rfl]at ck;have hr:=fO (by rw[ck];decide);rw[ck]at hr;refine aJ (aB [2] [2] ?_);exact aU (Aq @hr alR)
        | false=>
         rw[if_neg bF]at ck;refine al (ar (gH _ ?_));refine br trivial jq [1,2,7,73,74,75,121,122,123] [2] ?_;refine cG (S:=Nat) (fun m=>m<=ne.length/\∀ j (hj:j < ne.length),j < m->¬ cw p ne[j] < 0) (fun m=>⟨bp [(1,.d (.ip [.sl none (p.names.map bw),.sl none (p.ax.map eo)])),(2,.ref 2 0 0),(7,int ((p.names.length:Int)+n)),(73,.d (.sl none (p.ax.map eo))),(74,int p.ax.length),(75,int n),(121,.d (.sl none (ne.map fun s=>[.v (.string (bs s))]))),(122,int ne.length),(123,int m)],aq [(2,.box 52 [int 0,int 0])]⟩) (fun m=>ne.length - m) 0 ?_ ak ?_
         .refine df
         .rintro m ⟨hm,hj⟩;refine aB [1,2,7,73,74,75,121,122,123,124] [2] ?_;refine ag fun BF uI=>fG (b:=m < ne.length) (by simp[D.le,D.le.go,aR]) (fun hc=>?_) (fun hc=>?_)
          .have wy:=hc;have aaD:=cu ne[m]
           have ZA:cw p ne[m] < 0->v=7:=fun h=>by
            rw[ck,if_pos (akT.2 ⟨_,By wy,by simpa using h⟩)]
           have s7:¬ cw p ne[m] < 0->∀ j (h:j < ne.length),j < m+1->¬ cw p ne[j] < 0:=fun h0 j h FW=>by
            by_cases he:j=m
            .subst he;exact h0
            .exact hj j h aa
           refine ar (uI _ (ag fun H7 xM=>bg ?_));have qf:=@wy;refine au [1,2,7,10,73,74,75,121,122,123] [2] ?_;refine br trivial aaD [1,2,7,73,74,75,121,122,123,130] [2] ?_;by_cases EI:cw p ne[m] < 0
           .have rA:=ZA EI;have hr:=fO (by rw[rA];decide);rw[rA]at hr;refine b8 (by simp[EI]) (aB [2] [2] ?_);exact aU (Aq @hr alR)
           .refine b9 (by simp[EI]) (ar (xM _ ?_));refine dN ?_;(try simp only[aV,aX]);refine bh.mk (m+1) ⟨aa,s7 EI⟩ aa ?_;refine df
          .have wa:(ne.any fun s=>decide (cw p s < 0))=false:=by
            rw[List.any_eq_false];intro s hs;obtain⟨j,nB,rfl⟩:=aj1.1 hs;simpa using hj j nB aa
           rw[wa,if_neg bF]at ck;refine b5 (eJ _ (dN ?_));(try simp only[aV,aX]);refine bh.mk (n+1) ⟨aa,hzero ck⟩ aa ?_;refine df
    .rw[Ca fun k hk=>hb k hk aa]at ko;refine b5 (eX _ ?_);have qf:=@hF;refine au [2] [2] ?_;refine bT ?_;simp[D.le,D.le.go,aR];simp[<- ko,dz,codeF,ch,ab,D.le,D.le.go]
end Go.Proofs.YtoohljflflnbeaaGreatDoor
namespace Go.Proofs
open Go.Shelf
def Tryz.RN:Go.Shelf.Ren:=⟨fun | 189=>161 | 125=>218 | 257=>217 | 128=>273 | 129=>274 | 294=>264 | 295=>265 | 296=>266 | 297=>267 | 298=>268 | 299=>269 | 216=>270 | 300=>271 | 301=>272 | 328=>300 | 329=>301 | 330=>302 | 331=>303 | 332=>304 | 215=>219 | 343=>327 | n=>n,fun | 28=>41 | 3=>3 | 46=>205 | 0=>0 | 51=>374 | 53=>377 | 4=>4 | 183=>389 | 182=>388 | 131=>285 | 5=>5 | 9=>9 | 218=>412 | 222=>416 | 228=>431 | 229=>432 | n=>n,fun | n=>n⟩
theorem Tryz.abT:Go.Proofs.Lays.n189 prog Tryz.RN:={
 mixed:=ah
 f125:=func218.trans aP
 f128:=func273.trans aP
 f129:=func274.trans aP
 f189:=func161.trans aP
 f215:=func219.trans aP
 f216:=func270.trans aP
 f257:=func217.trans aP
 f294:=func264.trans aP
 f295:=func265.trans aP
 f296:=func266.trans aP
 f297:=func267.trans aP
 f298:=func268.trans aP
 f299:=func269.trans aP
 f300:=func271.trans aP
 f301:=func272.trans aP
 f328:=func300.trans aP
 f329:=func301.trans aP
 f330:=func302.trans aP
 f331:=func303.trans aP
 f332:=func304.trans aP
 f343:=func327.trans aP
 t0:=underlying0
 a0:=isAgg0
 z0:=sizeOf0
 v0:=zeroValue0
 t3:=underlying3
 a3:=isAgg3
 z3:=sizeOf3
 v3:=zeroValue3
 t4:=underlying4
 a4:=isAgg4
 z4:=sizeOf4
 v4:=zeroValue4
 t5:=underlying5
 a5:=isAgg5
 z5:=sizeOf5
 v5:=zeroValue5
 t9:=underlying9
 a9:=isAgg9
 z9:=sizeOf9
 v9:=zeroValue9
 t28:=underlying41
 a28:=isAgg41
 z28:=sizeOf41
 v28:=zeroValue41
 t46:=underlying205
 a46:=isAgg205
 z46:=sizeOf205
 v46:=zeroValue205
 t51:=underlying374
 a51:=isAgg374
 z51:=sizeOf374
 v51:=zeroValue374
 t53:=underlying377
 a53:=isAgg377
 z53:=sizeOf377
 v53:=zeroValue377
 t131:=underlying285
 a131:=isAgg285
 z131:=sizeOf285
 v131:=zeroValue285
 t182:=underlying388
 a182:=isAgg388
 z182:=sizeOf388
 v182:=zeroValue388
 t183:=underlying389
 a183:=isAgg389
 z183:=sizeOf389
 v183:=zeroValue389
 t218:=underlying412
 a218:=isAgg412
 z218:=sizeOf412
 v218:=zeroValue412
 t222:=underlying416
 a222:=isAgg416
 z222:=sizeOf416
 v222:=zeroValue416
 t228:=underlying431
 a228:=isAgg431
 z228:=sizeOf431
 v228:=zeroValue431
 t229:=underlying432
 a229:=isAgg432
 z229:=sizeOf432
 v229:=zeroValue432 }
