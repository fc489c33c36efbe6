/- Parts. -/
import Derived.Test.YtoohljflflnbeaaGreatDoorBo23
import Derived.Test.YtoohljflflnbeaaGreatDoorBo24
import Derived.Sort.Walk0
set_option linter.unusedSimpArgs false
set_option linter.unusedVariables false
set_option maxHeartbeats 32000000
set_option maxRecDepth 100000
open Go.Proofs.Tryz
namespace Go.Proofs.YtoohljflflnbeaaGreatDoor
open Go.Av
def py (all:Bool):List UInt8:=if all then [98,105,116,94,126] else [94,126]
theorem abN (all:Bool) (e:Ex):du all e=gG (dH all e) ++ fO all (nq e):=by
 cases e<;>simp[du,nq,fO,dH,gG]
theorem abM (all:Bool) (e:Ex):(rI e=[]/\gG (dH all e)=[])\/(rI e≠[]/\Lib.contains (py all) (xH e)=false/\gG (dH all e)=[])\/(rI e≠[]/\Lib.contains (py all) (xH e)=true/\gG (dH all e)=[rI e]):=by
 have c1:Lib.contains (py true) [98,105,116]=true:=by decide +kernel
 have c2:Lib.contains (py false) [98,105,116]=false:=by decide +kernel
 have c3:∀ all,Lib.contains (py all) [94]=true:=by decide +kernel
 have c4:∀ all,Lib.contains (py all) [126]=true:=by decide +kernel
 cases e with
 | bit s=>
  by_cases hs:s=[]
  .subst hs;cases all<;>exact .inl ⟨rfl,rfl⟩
  .cases all with
   | true=>exact .inr (.inr ⟨hs,c1,by simp[dH,gG,rI,hs]⟩)
   | false=>exact .inr (.inl ⟨hs,c2,by simp[dH,gG]⟩)
 | jk s=>
  by_cases hs:s=[]
  .subst hs;exact .inl ⟨rfl,rfl⟩
  .exact .inr (.inr ⟨hs,c3 _,by simp[dH,gG,rI,hs]⟩)
 | ja s=>
  by_cases hs:s=[]
  .subst hs;exact .inl ⟨rfl,rfl⟩
  .exact .inr (.inr ⟨hs,c4 _,by simp[dH,gG,rI,hs]⟩)
 | _=>exact .inl ⟨rfl,rfl⟩
def jE:AV:=.fn (.func 245) [.ref 501 0 0,.ref 502 0 0,.ref 504 0 0]
def gy (all:Bool) (l:List Tx):List (Nat×Row):=[(501,.box 9 [.d (dS (py all))]),(502,.box 58 [.own 503 0 l.length]),(503,.sl 9 1 (l.map fun s=>[dS s])),(504,.box 359 [jE])]
theorem LI (a b:Tx):bf .lss (bs a) (bs b)=some (True,.bool (decide (a < b))):=by
 simp only[bf,bt,bytesLess_eq]
theorem Ar (a b:Tx):bf .neq (bs a) (bs b)=some (True,.bool (!decide (a=b))):=by
 simp only[bf,bt]
 have h:(a == b)=decide (a=b):=by
  by_cases e:a=b
  .subst e;exact (beq_self_eq_true a).trans (decide_eq_true rfl).symm
  .exact (beq_eq_false_iff_ne.2 e).trans (decide_eq_false e).symm
 rw[h]
theorem acB (m:List (List D)) (z x:List D) (k:Nat) (hk:k<=m.length) (hm:∀ el∈m,el.length=1/\∀ c∈el,D.one c=true) (hz:z.length=1/\∀ c∈z,D.one c=true) :
  ∃ news ri:List (List D),∃ w0:D,((m ++ [z]).drop k).take (m.length+1 - k)=news/\(∀ el∈news,el.length=1)/\(∀ el∈news,∀ c∈el,D.one c=true)/\
   pS (m ++ [z]) news (k+1) (m.length+1 - (k+1))=ri/\ri.length=m.length+1/\ri[k]? = some [w0]/\ri.set k x=m.take k ++ x :: m.drop k/\(k=m.length->ri=m ++ [z]):=by
 have h1:((m ++ [z]).drop k).take (m.length+1 - k)=m.drop k ++ [z]:=by
  rw[sh ak,List.drop_append_of_le_length hk]
 have h2:(m.drop k ++ [z]).take (m.length+1 - (k+1))=m.drop k:=by
  rw[ahS ak,sh ak]
 have h3:pS (m ++ [z]) (m.drop k ++ [z]) (k+1) (m.length+1 - (k+1))=(m ++ [z]).take (k+1) ++ m.drop k:=by
  unfold pS;rw[h2,List.drop_of_length_le (l:=m ++ [z]) (by simp;omega),ahm]
 have ng:∀ el∈m.drop k ++ [z],el.length=1/\∀ c∈el,D.one c=true:=fun el bz=>by
  rcases agN.1 bz with h | h
  .exact hm el (ahf h)
  .rw[ahc]at h;subst h;exact hz
 have hl:((m ++ [z]).take (k+1) ++ m.drop k).length=m.length+1:=by simp;omega
 have lL:k < (m ++ [z]).length:=by simp;omega
 have p3:((m ++ [z]).take (k+1) ++ m.drop k)[k]? = some ((m ++ [z])[k]):=by
  rw[ahA (by simp;omega),agP,if_pos aa,By lL]
 have kN:∃ w0,(m ++ [z])[k]=[w0]:=by
  have hq:((m ++ [z])[k]).length=1:=by
   rcases agN.1 (OF lL)with h | h
   .exact (hm _ h).1
   .rw[ahc]at h;rw[h];exact hz.1
  exact ag7.1 hq
 obtain⟨w0,p8⟩:=kN;refine⟨_,_,w0,h1,fun el bz=>(ng el bz).1,fun el bz=>(ng el bz).2,h3,hl,by rw[p3,p8],?_,fun e=>?_⟩
 .rw[agB lL,ahI,List.set_append_right _ _ (by simp;omega)]
  have e1:((m ++ [z]).take k).length=k:=by simp;omega
  rw[e1,Nat.sub_self,ahS hk];rfl
 .subst e;rw[sh ak,List.drop_of_length_le ak,ahm]
theorem aiO:type_of% (Aq @aih (Aq @aii (Aq @gy.eq_1 @jE.eq_1))):=(Aq @aih (Aq @aii (Aq @gy.eq_1 @jE.eq_1)))
theorem adB (G:aC) (hM:j3 G) (all:Bool):∀ (n:Nat) (e:Ex),SizeOf.sizeOf e<=n->∀ l0:List Tx,l0.length+bE e<=2^39->MC prog G [501,502,504] 245 ([.d (dR e)] ++ [.ref 501 0 0,.ref 502 0 0,.ref 504 0 0]) (aw (gy all l0)) (.d (.bx [])) (aw (gy all (l7 l0 (du all e)))):=by
 intro n
 induction n with
 | zero=>intro e bg;cases e<;>simp at bg
 | succ n ih=>
  intro e bg l0 hb;have nc:∀ x∈nq e,∀ l1:List Tx,l1.length+bE x<=2^39->MC prog G [501,502,504] 245 ([.d (dR x)] ++ [.ref 501 0 0,.ref 502 0 0,.ref 504 0 0]) (aw (gy all l1)) (.d (.bx [])) (aw (gy all (l7 l1 (du all x)))):=fun x hx=>ih x (by have:=aeh hx;omega);clear ih;have Y2:=Tz e;have pn:=uF (nq e);have fN:=Cl all (nq e);have Ep:=abM all e
  have Zs:(gG (dH all e)).length<=1:=by unfold gG;split<;>simp
  have pc:(gG (dH all e)).length+gK (nq e)<=bE e:=by
   cases e<;>simp[nq,bE,gK]<;>first | omega | (simp[gG,dH]<;>omega) | skip
  have iF:=adE G hM (py all) (xH e) (by cases all<;>simp[py])
  have dA:(py all).length<=5:=by cases all<;>simp[py]
  rw[abN,OI,rX,abV];generalize nq e=l at nc Y2 pn fN pc ⊢;generalize xH e=kd at iF Ep ⊢;generalize rI e=nm at Ep ⊢;generalize kR e=kk;generalize kN:gG (dH all e)=on at Ep pc Zs ⊢;generalize sd:l7 l0 on=rL;have Iq:=I5 on l0;rw[sd]at Iq;clear bg;refine MC.aQ (aB _) func245 rfl rfl (rs:=[]) results245 (by simp[ntmps245]) rfl fun X=>?_;simp only[ntmps245];have fw:=aiO;refine ag fun K1 aF=>?_;refine (fun fY=>?_) (fun (σ:St) himp=>aF σ (AW.imp (τ:=⟨bn [(0,.d (.ip [dS kd,dS nm,.sl kk (l.map fun x=>[dR x])])),(3,.ref 504 0 0)],aw (gy all rL)⟩) himp ?_))
  .rcases Ep with⟨h1,h2⟩ | ⟨h1,h2,h3⟩ | ⟨h1,h2,h3⟩
   .subst h1 h2
    have hq:l0=rL:=by rw[<- sd];rfl
    subst hq;have qf:=(Aq fw (Aq @Ar @bX));refine iV [0,2,3,20] [501,502,503,504] ?_;refine al (ar (fY _ ?_));refine bq fw
   .subst h3
    have hq:l0=rL:=by rw[<- sd];rfl
    subst hq;rw[h2]at iF
    have oK:bf .neq (bs nm) ⟨#[]⟩=some (True,.bool true):=by
     have:=Ar nm [];rw[decide_eq_false h1]at this;exact this
    have qf:=(Aq fw @oK);refine vB iF [0,2,3,20] [501,502,503,504] ?_;refine al (ar (fY _ ?_));refine bq fw
   .subst h3;rw[h2]at iF
    have oK:bf .neq (bs nm) ⟨#[]⟩=some (True,.bool true):=by
     have:=Ar nm [];rw[decide_eq_false h1]at this;exact this
    have qf:=(Aq fw @oK);refine vB iF [0,2,3,20] [501,502,503,504] ?_;refine aI (ae fw [0,2,3,5] [501,502,503,504] ?_);refine ag fun K2 au=>?_;refine (fun Ej=>?_) (fun (k:Nat) (hk:k<=l0.length) (hp:∀ i (hi:i < l0.length),i < k->l0[i]'hi < nm) (hx:∀ hk:k < l0.length,¬ l0[k]'hk < nm) (σ:St) himp=>au σ (AW.imp (τ:=⟨bn [(0,.d (.ip [dS kd,dS nm,.sl kk (l.map fun x=>[dR x])])),(2,.ref 502 0 0),(3,.ref 504 0 0),(5,int k)],aw (gy all l0)⟩) himp ?_))
    .refine cy (S:=Nat) (fun k=>k<=l0.length/\∀ i (hi:i < l0.length),i < k->l0[i] < nm) (fun k=>⟨bn [(0,.d (.ip [dS kd,dS nm,.sl kk (l.map fun x=>[dR x])])),(2,.ref 502 0 0),(3,.ref 504 0 0),(5,int k)],aw (gy all l0)⟩) (fun k=>l0.length - k) 0 ?_ ak ?_
     .refine bq fw
     .rintro k ⟨hk,hp⟩;refine ag fun K3 aU=>?_;by_cases dA:k < l0.length
      .cases aG:decide (l0[k] < nm) with
       | true=>
        have gB:bf .lss (bs l0[k]) (bs nm)=some (True,.bool true):=by rw[LI,aG]
        have qf:=(Aq fw (Aq @dA @gB));refine iV [0,2,3,5,35] [501,502,503,504] ?_;refine aI (ar (aU _ ?_));refine bd (cE fw ?_);(try simp only[aT,aV]);refine ba.mk (k+1) ⟨aa,fun i hi Bq=>?_⟩ aa ?_
        .by_cases he:i=k
         .subst he;exact of_decide_eq_true aG
         .exact hp i hi aa
        refine bq fw
       | false=>
        have gB:bf .lss (bs l0[k]) (bs nm)=some (True,.bool false):=by rw[LI,aG]
        have qf:=(Aq fw (Aq @dA @gB));refine iV [0,2,3,5,35] [501,502,503,504] ?_;refine al (bW (Ej k hk hp (fun _=>of_decide_eq_false aG) _ ?_));refine bq fw
      .have qf:=(Aq fw @dA);refine iV [0,2,3,5,35] [501,502,503,504] ?_;refine al (bW (Ej k hk hp (fun h=>absurd h dA) _ ?_));refine bq fw
    .have YR:=OM nm l0 k hk hp hx;have tU:rL=l8 nm l0:=sd.symm;rw[YR]at tU;by_cases dA:k < l0.length
     .by_cases he:l0[k]=nm
      .have Hs:bf .neq (bs l0[k]) (bs nm)=some (True,.bool false):=by rw[Ar,he,decide_eq_true rfl];rfl
       rw[if_pos ⟨dA,he⟩]at tU
       have bl:¬ k=l0.length:=aa
       have qf:=(Aq fw (Aq @dA (Aq @Hs @bl)));refine iV [0,2,3,5,52] [501,502,503,504] ?_;refine al (ar (fY _ ?_));refine bq (Aq fw @tU)
      .have Hs:bf .neq (bs l0[k]) (bs nm)=some (True,.bool true):=by rw[Ar,decide_eq_false he];rfl
       rw[if_neg (fun ⟨_,h⟩=>he h)]at tU
       have bl:¬ k=l0.length:=aa
       have qf:=(Aq fw (Aq @dA (Aq @Hs @bl)));refine iV [0,2,3,5,52] [501,502,503,504] ?_;refine aI (rg [0,2,3,5] [501,502,503,504] (eh rfl) fun K' ao=>?_);(repeat refine aM fun Kq af=>?_;simp[ab,dS,gy,jE,sh];(repeat refine⟨aa,?_⟩);refine af _ ?_);refine bK (ao _ (AW.st (by simp[ab,dS,gy,jE,sh];rfl) ?_))
       have bC:k+1<=l0.length+1:=aa
       have fZ:¬ (k:Int)=(l0.length:Int)+1:=aa
       have mw:((l0.length:Int)+1 - ((k:Int)+1)).toNat=l0.length+1 - (k+1):=aa
       have hle:k+(l0.length+1 - k)<=l0.length+1:=aa
       have Y9:k+1+(l0.length - k)<=l0.length+1:=aa
       obtain⟨news,ri,w0,q1,q2,q3,q4,q5,q6,q7,_⟩:=acB (l0.map fun s=>[dS s]) [dS []] [dS nm] k (by simpa using hk) (by intro el bz;obtain⟨s,_,rfl⟩:=ag3.1 bz;simp[dS,D.one]) (by simp[dS,D.one])
       have q8:List.take k (l0.map fun s=>[dS s]) ++ [dS nm] :: List.drop k (l0.map fun s=>[dS s])=rL.map fun s=>[dS s]:=by rw[tU];simp
       rw[q8]at q7
       have q9:rL.length=l0.length+1:=by rw[tU];simp;omega
       rw[ag5]at q1 q4 q5;rw[Nat.add_sub_add_right]at q4;simp only[dS]at q1 q4 q7;rw[<- bX]at q1 q4
       have Kd:(ri[k]' aa).tail=[]:=by
        have:=q6;rw[By aa]at this;rw[AI this];rfl
       have q23:=eq_true (And.intro q2 q3);have q2t:=eq_true q2;have q3t:=eq_true q3
       have Y5:k < l0.length+1:=aa
       have qf:=(Aq fw (Aq @bC (Aq @hk (Aq @bl (Aq @fZ (Aq @mw (Aq @hle (Aq @Y9 (Aq @q1 (Aq @q23 (Aq @q2t (Aq @q3t @q4))))))))))));refine iV [0,2,3,5] [501,502,503,504] ?_;refine vO (aB _) ah ah fun K' ao=>?_;(repeat refine eK fun Kq af=>?_;simp[ab,dS,gy,jE,q5,q6,q7,Kd,Y5];(repeat refine⟨aa,?_⟩);refine af _ ?_);refine mQ (ao _ ?_);(try simp only[aT,aV]);refine fY _ ?_;refine aK.fk (eh rfl) (by simp[ab,dS,gy,jE,q9,q7,Kd]) (by simp[ab,dS,gy,jE,q9,q7,Kd])
     .obtain rfl:k=l0.length:=aa
      rw[if_neg (fun ⟨h,_⟩=>dA h),aho,List.drop_length]at tU;have qf:=(Aq fw @dA);refine iV [0,2,3,5,52] [501,502,503,504] ?_;refine aI (rg [0,2,3,5] [501,502,503,504] (eh rfl) fun K' ao=>?_);(repeat refine aM fun Kq af=>?_;simp[ab,dS,gy,jE,sh];(repeat refine⟨aa,?_⟩);refine af _ ?_);refine bK (ao _ (AW.st (by simp[ab,dS,gy,jE,sh];rfl) ?_))
      have fZ:¬ (l0.length:Int)=(l0.length:Int)+1:=aa
      have mw:¬ (l0.length:Int)+1=0:=aa
      have q8:(l0.map fun s=>[dS s]) ++ [[dS nm]]=rL.map fun s=>[dS s]:=by rw[tU];simp
      have q9:rL.length=l0.length+1:=by rw[tU];simp
      simp only[dS]at q8;have qf:=(Aq fw (Aq @fZ (Aq @mw (Aq @D.one.eq_1 (Aq @D.one.eq_2 (Aq @D.one.eq_3 @D.one.eq_4))))));refine iV [0,2,3,5] [501,502,503,504] ?_;refine vO (aB _) ah ah fun K' ao=>?_;(repeat refine eK fun Kq af=>?_;simp[ab,dS,gy,jE];(repeat refine⟨aa,?_⟩);refine af _ ?_);refine mQ (ao _ ?_);(try simp only[aT,aV]);refine fY _ ?_;refine aK.fk (eh rfl) (by simp[ab,dS,gy,jE,q9,q8]) (by simp[ab,dS,gy,jE,q9,q8])
  .simp only[ahv]at nc;refine ae fw [3,74,75,76] [501,502,503,504] ?_;refine cy (S:=Nat) (fun i=>i<=l.length) (fun i=>⟨bn [(3,.ref 504 0 0),(74,.d (.sl kk (l.map fun x=>[dR x]))),(75,int l.length),(76,int i)],aw (gy all (l7 rL (fO all (l.take i))))⟩) (fun i=>l.length - i) 0 ?_ aa ?_
   .refine aK.fk (eh rfl) (by simp[ab,dS,gy,jE,fO,OK]) (by simp[ab,dS,gy,jE,fO,OK])
   .intro i hi;refine ae fw [3,74,75,76,77] [501,502,503,504] ?_;refine ag fun K4 ck=>eE (b:=i < l.length) (by simp[D.le,D.le.go,aL,ab,dS,gy,jE]) (fun hc=>?_) (fun hc=>?_)
    .have dD:i < l.length:=hc;have h1:=JL all dD;have h2:=Cl all (l.take i);have h3:=Gv dD;have h4:=I5 (fO all (l.take i)) rL;have cG:=nc _ (OF dD) (l7 rL (fO all (l.take i))) aa;rw[<- OI,<- h1]at cG;have hf:=rX l[i];rw[hf]at cG;refine ar (ck _ (ag fun K5 b9=>bd ?_));have qf:=(Aq fw (Aq @dD @hf));refine ay [3,7,74,75,76] [501,502,503,504] ?_;refine eU (aB _) fun K' ao=>?_;(repeat refine aM fun Kq af=>?_;simp[ab,dS,gy,jE];(repeat refine⟨aa,?_⟩);refine af _ ?_);refine aM fun Kq af=>?_;simp[ab,dS,gy,jE];refine dT.mc (cG) ?_ ?_ ?_ ?_ ?_<;>simp[ab,dS,gy,jE];refine af _ ?_;(repeat refine aM fun Kq af=>?_;simp[ab,dS,gy,jE];(repeat refine⟨aa,?_⟩);refine af _ ?_);refine bK (ao _ ?_);refine b9 _ (AW.norm [3,74,75,76] [501,502,503,504] (eh rfl) (AW.st (by simp[ab,dS,gy,jE];rfl) ?_));refine cE fw ?_;(try simp only[aT,aV]);refine ba.mk (i+1) aa aa ?_;refine bq fw
    .obtain rfl:i=l.length:=aa
     refine bW ?_;simp[D.le_refl,aho,gy,jE,dS]
theorem qS {r r':Nat} (hr:r≠r') (l:List (Nat×Row)) (hl:∀ p∈l,p.1≠r'):qR r r' (aw l)=aw (l.map fun p=>(if p.1=r then r' else p.1,p.2.tr (gR r r') (gQ r r'))):=by
 funext q;unfold qR
 induction l with
 | nil=>simp[aw,List.lookup]
 | cons p l ih=>
  have ih:=ih fun p hp=>hl p (by simp[hp]);have hp:=hl p ak;obtain⟨k,row⟩:=p;simp only[aw,List.lookup,agW]at ih ⊢;by_cases h1:q=r'
  .subst h1;simp only[if_true]at ih ⊢;by_cases h2:k=r
   .subst h2;simp
   .have a1:(r == k)=false:=by simpa using fun e=>h2 e.symm
    have a2:(q == k)=false:=by simpa using fun e=>hp e.symm
    simp only[h2,if_false,a1,a2];exact ih
  .simp only[h1,if_false]at ih ⊢;by_cases h2:q=r
   .subst h2;simp only[if_true]at ih ⊢;by_cases h3:k=q
    .have a1:(q == r')=false:=by simpa using h1
     simp only[h3,if_true,a1];exact ih
    .have a1:(q == k)=false:=by simpa using fun e=>h3 e.symm
     simp only[h3,if_false,a1];exact ih
   .simp only[h2,if_false]at ih ⊢;by_cases h3:k=r
    .have a1:(q == k)=false:=by rw[h3];simpa using h2
     have a2:(q == r')=false:=by simpa using h1
     simp only[h3,if_true,a2]at a1 ⊢;rw[a1];exact ih
    .simp only[h3,if_false];by_cases h4:q=k
     .subst h4;simp
     .have a1:(q == k)=false:=by simpa using h4
      simp only[a1];exact ih
theorem PB (G:aC) (hM:j3 G) (all:Bool) (e:Ex) (hb:bE e<=2^28):aD prog G 185 [dR e,dS (py all)] (.sl none ((fi all e).map fun s=>[dS s])):=by
 have hw:=adB G hM all _ e (agD _) [] (by simp;omega);have fy:=aah all e;rw[fy]at hw;simp only[ahv]at hw;generalize fi all e=l at hw ⊢;clear fy;rw[rX]at hw ⊢;refine aD.aQ (aB _) func185 rfl rfl (rs:=[.tmp 4]) results185 (by simp[ntmps185]) fun X=>?_;simp only[ntmps185,List.map];have fw:=aiO;refine ae fw [0,3] [3] ?_;refine ae fw [0,3,5] [3,5] ?_;refine ae fw [0,3,5,6] [3,5,6] ?_;refine ae fw [0,5,6] [3,5,6] ?_;refine AW.imp (aK.dM (r:=3) (r':=501) trivial ak) ?_;refine AW.st (by simp[gR,gQ,Go.Av.dM,qS];rfl) ?_;refine AW.imp (aK.dM (r:=5) (r':=502) trivial ak) ?_;refine AW.st (by simp[gR,gQ,Go.Av.dM,qS];rfl) ?_;refine AW.imp (aK.dM (r:=6) (r':=504) trivial ak) ?_;refine AW.st (by simp[gR,gQ,Go.Av.dM,qS];rfl) ?_;refine AW.imp (aK.o7 502 0 503 9 1 rfl rfl rfl) ?_;refine AW.imp (τ:=⟨bn [(0,.d (.ip [dS (xH e),dS (rI e),Cm e])),(5,.ref 502 0 0),(6,.ref 504 0 0)],aw (gy all [])⟩) ?_ ?_
 .refine bq (Aq fw (Aq @gy.eq_1 @jE.eq_1))
 refine bD fw hw [5] [502,503] ?_;refine ae (Aq fw (Aq @gy.eq_1 @jE.eq_1)) [4] [502,503] ?_;have dK:List.take l.length (l.map fun s=>[dS s])=l.map fun s=>[dS s]:=sh ak;simp only[dS]at dK;refine AW.imp (aK.freeze 503 trivial) ?_;refine AW.st (by simp[ab,dS,gy,jE,dK];rfl) ?_;exact aW (Aq fw @dK)
theorem adj (G:aC) (hM:j3 G) (e:Ex) (hb:bE e<=2^28):aD prog G 109 [dR e] (.sl none ((fi true e).map fun s=>[dS s])):=by
 have hs:=PB G hM true e hb;rw[rX]at hs ⊢;generalize fi true e=l at hs ⊢;have hk:dS (py true) = .v (.string ⟨#[98,105,116,94,126]⟩):=rfl;rw[hk]at hs;refine aD.aQ (aB _) func109 rfl rfl (rs:=[.tmp 2]) results109 (by simp[ntmps109]) fun X=>?_;simp only[ntmps109,List.map];have fw:=aiO;refine ae fw [0] [] ?_;refine br fw hs [2] [] ?_;exact aW fw
theorem acV (G:aC) (hM:j3 G) (e:Ex) (hb:bE e<=2^28):aD prog G 292 [dR e] (.sl none ((fi false e).map fun s=>[dS s])):=by
 have hs:=PB G hM false e hb;rw[rX]at hs ⊢;generalize fi false e=l at hs ⊢;have hk:dS (py false) = .v (.string ⟨#[94,126]⟩):=rfl;rw[hk]at hs;refine aD.aQ (aB _) func292 rfl rfl (rs:=[.tmp 2]) results292 (by simp[ntmps292]) fun X=>?_;simp only[ntmps292,List.map];have fw:=aiO;refine ae fw [0] [] ?_;refine br fw hs [2] [] ?_;exact aW fw
theorem TE (p:aP) (i:Nat) (hi:i < p.names.length):nG p i p.names[i]=if !re p.names[i].name then 5 else if !(decide (1<=p.names[i].kind) && decide (p.names[i].kind<=4)) then 1 else if (decide (p.names[i].kind >= 3) && !(decide (1<=p.names[i].count) && decide (p.names[i].count<=7))) || (decide (p.names[i].kind < 3) && decide (p.names[i].count≠0)) then 2 else if bH p p.names[i].name≠i then 9 else 0:=by
 rw[<- TB p i hi,Gx,Pz]
theorem Gw (p:aP) (k:Int) (s:Tx) (e:Ex):lT p ⟨k,s,some e⟩=if !(decide (1<=k) && decide (k<=6)) then 1 else if bH p s < 0 then 7 else if !decide (jF k=(p.names.getD (bH p s).toNat ⟨[],0,0⟩).kind) then 1 else if (fi true e).any fun s=>decide (bH p s < 0) then 7 else 0:=by
 have h:(decide (k < 1) || decide (k > 6)) = !(decide (1<=k) && decide (k<=6)):=by
  by_cases h1:1<=k<;>by_cases h2:k<=6<;>simp[h1,h2]<;>omega
 show (if decide (k < 1) || decide (k > 6) then (1:Int) else _)=_;rw[h];simp only[ahY,decide_eq_false_iff_not,ne_eq]
theorem aiD:type_of% (Aq @aij (Aq @aik (Aq @ail (Aq @aim (Aq @ain @aih))))):=(Aq @aij (Aq @aik (Aq @ail (Aq @aim (Aq @ain @aih)))))
theorem aaZ (G:aC) (hF:uD G) (hM:j3 G) (p:aP) (hp:Da p):aD prog G 177 [dU p] (dw (dr p)):=by
 unfold uD at hF;obtain⟨fN,eY,qF,y6⟩:=hp
 have xe:dr p=if p.names.length > 12\/p.ax.length > 40 then some (4,none) else match nI (nG p) p.names 0 with
  | some (e,i)=>some (e,some i)
  | none=>match nI (fun _ r=>lT p r) p.ax 0 with
   | some (e,i)=>some (e,some (p.names.length+i))
   | none=>none:=rfl
 generalize il:dr p=res;rw[xe]at il;have b5:=fun s=>KV G p fN s;have uX:=Dj G 4;simp only[dU,ft,cj,dS]at b5 ⊢;simp only[ab]at hF uX;refine aD.aQ (aB _) func177 rfl rfl (rs:=[.cell 2 52]) results177 (by simp[ntmps177]) fun X=>?_;simp only[ntmps177,List.map];refine aq [1,2] [1,2] ?_;refine fI 1 ?_;refine ag fun K1 aF=>?_;by_cases g0:(p.names.length:Int) > 12
 .rw[if_pos (.inl aa)]at il;have qf:=@g0;refine ay [1,2,20] [2] ?_;refine aI (br trivial uX [2] [2] ?_);refine bR ?_;simp[D.le,D.le.go,aL];simp[<- il,dw,codeF,b7,ab,D.le,D.le.go]
 by_cases g1:(p.ax.length:Int) > 40
 .rw[if_pos (.inr aa)]at il;have qf:=(Aq @g0 @g1);refine ay [1,2,20] [2] ?_;refine aI (br trivial uX [2] [2] ?_);refine bR ?_;simp[D.le,D.le.go,aL];simp[<- il,dw,codeF,b7,ab,D.le,D.le.go]
 rw[if_neg aa]at il;have qf:=(Aq @g0 @g1);refine ay [1,2,20] [2] ?_;refine al (ar (aF _ ?_));refine ag fun K2 au=>aq [1,2,23,24,25] [2] ?_;refine cy (S:=Nat) (fun n=>n<=p.names.length/\∀ k (hk:k < p.names.length),k < n->nG p k p.names[k]=0) (fun n=>⟨bn [(1,.d (.ip [.sl none (p.names.map bo),.sl none (p.ax.map eg)])),(2,.ref 2 0 0),(23,.d (.sl none (p.names.map bo))),(24,int p.names.length),(25,int n)],aw [(2,.box 52 [int 0,int 0])]⟩) (fun n=>p.names.length - n) 0 ?_ ak ?_
 .refine cI
 .rintro n ⟨hn,hb⟩;refine aq [1,2,23,24,25,26] [2] ?_;refine ag fun K3 aU=>eE (b:=n < p.names.length) (by simp[D.le,D.le.go,aL]) (fun hc=>?_) (fun hc=>?_)
  .have aG:=hc
   have fY:nG p n p.names[n]≠0->res=some (nG p n p.names[n],some n):=fun bl=>by
    rw[<- il,AJ (i:=0) aG (fun k hk oH=>by rw[ag4];exact hb k hk oH) (by rw[ag4];exact bl)];simp
   have fy:=qF _ (OF aG);have ic:bo p.names[n]=[dS p.names[n].name,.v (.int .i64 p.names[n].kind),.v (.int .i64 p.names[n].count)]:=rfl;have bY:=TE p n aG;have lM:=PE G p.names[n].name fy;generalize hv:nG p n p.names[n]=v at bY fY;generalize p.names[n].name=nm at fy ic bY lM;generalize p.names[n].kind=kd at ic bY;generalize p.names[n].count=ct at ic bY;have jJ:=b5 nm;have jK:=KU G kd 1 4;have qI:=KU G ct 1 7;simp only[dS]at ic lM;simp only[ab]at jK qI;generalize re nm=nf at lM bY;generalize kQ:(decide (1<=kd) && decide (kd<=4))=q1 at jK bY;generalize oP:(decide (1<=ct) && decide (ct<=7))=q2 at qI bY;refine ar (aU _ (ag fun K4 ck=>bd ?_));have qf:=(Aq @aG @ic);refine ay [1,2,3,4,23,24,25] [2,4] ?_;refine fI 4 ?_;refine ag fun K5 b9=>br trivial lM [1,2,3,4,23,24,25,33] [2] ?_
   cases nf with
   | false=>
    rw[if_pos ak]at bY;have hr:=fY (by rw[bY];decide);rw[bY]at hr;refine aI (aq [2] [2] ?_);exact aW (Aq @hr aiD)
   | true=>
    rw[if_neg bO]at bY;refine al (ar (b9 _ ?_));refine ag fun K6 eH=>br trivial jK [1,2,3,4,23,24,25,39] [2] ?_
    cases q1 with
    | false=>
     rw[if_pos ak]at bY;have hr:=fY (by rw[bY];decide);rw[bY]at hr;refine aI (aq [2] [2] ?_);exact aW (Aq @hr aiD)
    | true=>
     rw[if_neg bO]at bY;refine al (ar (eH _ ?_));refine ag fun K7 eL=>?_;by_cases k3:kd >= 3
     .have jf:¬ kd < 3:=aa
      cases q2 with
      | false=>
       have qf:=(Aq @k3 @jf);refine fj qI [1,2,3,4,23,24,25,60] [2] ?_;rw[if_pos (by simp[k3])]at bY;have hr:=fY (by rw[bY];decide);rw[bY]at hr;refine aI (aq [2] [2] ?_);exact aW (Aq @hr aiD)
      | true=>
       rw[if_neg (by simp[jf])]at bY;have qf:=(Aq @k3 @jf);refine fj qI [1,2,3,4,23,24,25,60] [2] ?_;refine al (ar (eL _ ?_));refine br trivial jJ [1,2,3,23,24,25,68] [2] ?_;by_cases c9:bH p nm=n
       .rw[if_neg (by simp[c9])]at bY;refine cw (by simp[c9]) (ar (ck _ ?_));refine c6 ?_;(try simp only[aT,aV]);refine ba.mk (n+1) ⟨aa,fun k hk oH=>?_⟩ aa ?_
        .by_cases h:k=n
         .subst h;rw[hv,bY]
         .exact hb k hk aa
        refine cI
       .rw[if_pos c9]at bY;have hr:=fY (by rw[bY];decide);rw[bY]at hr;refine cm (by simp[c9]) (aq [2] [2] ?_);exact aW (Aq @hr aiD)
     .have jf:kd < 3:=aa
      by_cases c0:ct=0
      .rw[if_neg (by simp[k3,c0])]at bY;have qf:=(Aq @k3 (Aq @jf @c0));refine ay [1,2,3,4,23,24,25,60] [2] ?_;refine al (ar (eL _ ?_));refine br trivial jJ [1,2,3,23,24,25,68] [2] ?_;by_cases c9:bH p nm=n
       .rw[if_neg (by simp[c9])]at bY;refine cw (by simp[c9]) (ar (ck _ ?_));refine c6 ?_;(try simp only[aT,aV]);refine ba.mk (n+1) ⟨aa,fun k hk oH=>?_⟩ aa ?_
        .by_cases h:k=n
         .subst h;rw[hv,bY]
         .exact hb k hk aa
        refine cI
       .rw[if_pos c9]at bY;have hr:=fY (by rw[bY];decide);rw[bY]at hr;refine cm (by simp[c9]) (aq [2] [2] ?_);exact aW (Aq @hr aiD)
      .have qf:=(Aq @k3 (Aq @jf @c0));refine ay [1,2,3,4,23,24,25,60] [2] ?_;rw[if_pos (by simp[jf,c0])]at bY;have hr:=fY (by rw[bY];decide);rw[bY]at hr;refine aI (aq [2] [2] ?_);exact aW (Aq @hr aiD)
  .rw[AL fun k hk=>by rw[ag4];exact hb k hk aa]at il;dsimp only at il;refine bW (au _ (ag fun K8 fA=>aq [1,2,73,74,75] [2] ?_));refine cy (S:=Nat) (fun n=>n<=p.ax.length/\∀ k (hk:k < p.ax.length),k < n->lT p p.ax[k]=0) (fun n=>⟨bn [(1,.d (.ip [.sl none (p.names.map bo),.sl none (p.ax.map eg)])),(2,.ref 2 0 0),(73,.d (.sl none (p.ax.map eg))),(74,int p.ax.length),(75,int n)],aw [(2,.box 52 [int 0,int 0])]⟩) (fun n=>p.ax.length - n) 0 ?_ ak ?_
   .refine cI
   .rintro n ⟨hn,hb⟩;refine aq [1,2,73,74,75,76] [2] ?_;refine ag fun K9 jt=>eE (b:=n < p.ax.length) (by simp[D.le,D.le.go,aL]) (fun hc=>?_) (fun hc=>?_)
    .have aG:=hc
     have fY:lT p p.ax[n]≠0->res=some (lT p p.ax[n],some (p.names.length+n)):=fun bl=>by
      rw[<- il,AJ (i:=0) aG (fun k hk oH=>hb k hk oH) bl];simp
     have Hz:=y6 p.ax[n] (OF aG);obtain⟨⟨kd,nm,cd⟩,tX⟩:∃ r,p.ax[n]=r:=⟨_,rfl⟩
     have hzero:lT p ⟨kd,nm,cd⟩=0->∀ k (hk:k < p.ax.length),k < n+1->lT p p.ax[k]=0:=fun h0 k hk oH=>by
      by_cases h:k=n
      .subst h;rw[tX];exact h0
      .exact hb k hk aa
     rw[tX]at fY Hz
     have ic:eg p.ax[n]=[.v (.int .i64 kd),dS nm,lV cd]:=by rw[tX];rfl
     dsimp only at Hz;obtain⟨v,hv⟩:∃ v,lT p ⟨kd,nm,cd⟩=v:=⟨_,rfl⟩;rw[hv]at fY hzero;have bY:=hv.symm;have jK:=KU G kd 1 6;have jJ:=b5 nm;simp only[dS]at ic;simp only[ab]at jK;refine ar (jt _ (ag fun ot e7=>bd ?_))
     have fg:(p.names.length:Int)+n < 2^63:=aa
     cases cd with
     | none=>
      have eM:v=1:=bY;have hr:=fY (by rw[eM];decide);rw[eM]at hr;simp only[lV]at ic;generalize kQ:(decide (1<=kd) && decide (kd<=6))=q1 at jK;have qf:=(Aq @aG @ic);refine ay [1,2,5,6,73,74,75] [2,6] ?_;refine fI 6 ?_;refine aq [1,2,6,7,73,74,75] [2] ?_;refine ag fun sR mj=>?_
      cases q1 with
      | false=>
       refine br trivial jK [1,2,6,7,73,74,75,93] [2] ?_;refine aI (aq [2] [2] ?_);exact aW (Aq @hr aiD)
      | true=>
       refine br trivial jK [1,2,6,7,73,74,75,93] [2] ?_;refine aI (aq [2] [2] ?_);exact aW (Aq @hr aiD)
     | some e=>
      obtain⟨Hw,Zj⟩:=Hz e rfl;rw[Gw]at bY;have jd:=adj G hM e Hw;simp only[lV]at ic;obtain⟨ec,HG⟩:∃ c,dR e = .ip c:=⟨_,rX e⟩;rw[HG]at ic jd;generalize fi true e=ne at jd Zj bY;simp only[dS]at jd;generalize kQ:(decide (1<=kd) && decide (kd<=6))=q1 at jK bY;have qf:=(Aq @aG @ic);refine ay [1,2,5,6,73,74,75] [2,6] ?_;refine fI 6 ?_;refine aq [1,2,6,7,73,74,75] [2] ?_;refine ag fun sR mj=>?_
      cases q1 with
      | false=>
       refine br trivial jK [1,2,6,7,73,74,75,93] [2] ?_;rw[if_pos ak]at bY;have hr:=fY (by rw[bY];decide);rw[bY]at hr;refine aI (aq [2] [2] ?_);exact aW (Aq @hr aiD)
      | true=>
       rw[if_neg bO]at bY
       have ga:1<=kd/\kd<=6:=by simpa using kQ
       refine br trivial jK [1,2,6,7,73,74,75,93] [2] ?_;refine al (ar (mj _ ?_));refine br trivial jJ [1,2,6,7,8,73,74,75] [2] ?_;refine ag fun vY j9=>aq [1,2,6,7,8,73,74,75,101] [2] ?_;by_cases c7:bH p nm < 0
       .rw[if_pos c7]at bY;have hr:=fY (by rw[bY];decide);rw[bY]at hr;refine cm (by simp[c7]) (aq [2] [2] ?_);exact aW (Aq @hr aiD)
       rw[if_neg c7]at bY;obtain⟨k,hk,kM⟩:=PR c7
       have ka:p.names.getD (bH p nm).toNat ⟨[],0,0⟩=p.names[k]:=by
        rw[kM,agO,agw,By hk];rfl
       rw[ka]at bY;refine cw (by simp[c7]) (ar (j9 _ ?_));refine ag fun mT gp=>?_;have pY:bo p.names[k]=[dS p.names[k].name,.v (.int .i64 p.names[k].kind),.v (.int .i64 p.names[k].count)]:=rfl;generalize lL:p.names[k].kind=kk at bY pY;rw[kM]
       refine' B7 (fun dP=>?_) ?_
       rotate_left
       .by_cases k1:kd=1
        .refine yc (aB _) ah ([0]) (List.range 13) [1,2,6,7,73,74,75,116] [2] aN ah fun K' ao=>?_;(repeat refine uB rfl fun K2 au=>?_;simp[k1,hk,pY];(repeat refine⟨aa,?_⟩);refine au _ ?_;clear au K2);refine x6 (ao _ ?_);refine AW.st (by simp[k1,hk,pY];rfl) ?_;refine AW.st (show _=(⟨bn [(1,.d (.ip [.sl none (p.names.map bo),.sl none (p.ax.map eg)])),(2,.ref 2 0 0),(6,.d (.ip [.v (.int .i64 kd),.v (.string (bs nm)),.ip ec])),(7,int ((p.names.length:Int)+n)),(73,.d (.sl none (p.ax.map eg))),(74,int p.ax.length),(75,int n),(116,.d (.v (.bool (!decide (jF kd=kk)))))],aw [(2,.box 52 [int 0,int 0])]⟩:St) by rw[k1,show jF 1=2 from rfl]<;>rfl) ?_;exact dP.out
        by_cases k2:kd=2
        .refine yc (aB _) ah ([0]) (List.range 13) [1,2,6,7,73,74,75,116] [2] aN ah fun K' ao=>?_;(repeat refine uB rfl fun K2 au=>?_;simp[k2,hk,pY];(repeat refine⟨aa,?_⟩);refine au _ ?_;clear au K2);refine x6 (ao _ ?_);refine AW.st (by simp[k2,hk,pY];rfl) ?_;refine AW.st (show _=(⟨bn [(1,.d (.ip [.sl none (p.names.map bo),.sl none (p.ax.map eg)])),(2,.ref 2 0 0),(6,.d (.ip [.v (.int .i64 kd),.v (.string (bs nm)),.ip ec])),(7,int ((p.names.length:Int)+n)),(73,.d (.sl none (p.ax.map eg))),(74,int p.ax.length),(75,int n),(116,.d (.v (.bool (!decide (jF kd=kk)))))],aw [(2,.box 52 [int 0,int 0])]⟩:St) by rw[k2,show jF 2=2 from rfl]<;>rfl) ?_;exact dP.out
        by_cases k3:kd=3
        .refine yc (aB _) ah ([0]) (List.range 13) [1,2,6,7,73,74,75,116] [2] aN ah fun K' ao=>?_;(repeat refine uB rfl fun K2 au=>?_;simp[k3,hk,pY];(repeat refine⟨aa,?_⟩);refine au _ ?_;clear au K2);refine x6 (ao _ ?_);refine AW.st (by simp[k3,hk,pY];rfl) ?_;refine AW.st (show _=(⟨bn [(1,.d (.ip [.sl none (p.names.map bo),.sl none (p.ax.map eg)])),(2,.ref 2 0 0),(6,.d (.ip [.v (.int .i64 kd),.v (.string (bs nm)),.ip ec])),(7,int ((p.names.length:Int)+n)),(73,.d (.sl none (p.ax.map eg))),(74,int p.ax.length),(75,int n),(116,.d (.v (.bool (!decide (jF kd=kk)))))],aw [(2,.box 52 [int 0,int 0])]⟩:St) by rw[k3,show jF 3=2 from rfl]<;>rfl) ?_;exact dP.out
        by_cases k4:kd=4
        .refine yc (aB _) ah ([0]) (List.range 13) [1,2,6,7,73,74,75,116] [2] aN ah fun K' ao=>?_;(repeat refine uB rfl fun K2 au=>?_;simp[k4,hk,pY];(repeat refine⟨aa,?_⟩);refine au _ ?_;clear au K2);refine x6 (ao _ ?_);refine AW.st (by simp[k4,hk,pY];rfl) ?_;refine AW.st (show _=(⟨bn [(1,.d (.ip [.sl none (p.names.map bo),.sl none (p.ax.map eg)])),(2,.ref 2 0 0),(6,.d (.ip [.v (.int .i64 kd),.v (.string (bs nm)),.ip ec])),(7,int ((p.names.length:Int)+n)),(73,.d (.sl none (p.ax.map eg))),(74,int p.ax.length),(75,int n),(116,.d (.v (.bool (!decide (jF kd=kk)))))],aw [(2,.box 52 [int 0,int 0])]⟩:St) by rw[k4,show jF 4=3 from rfl]<;>rfl) ?_;exact dP.out
        by_cases k5:kd=5
        .refine yc (aB _) ah ([0]) (List.range 13) [1,2,6,7,73,74,75,116] [2] aN ah fun K' ao=>?_;(repeat refine uB rfl fun K2 au=>?_;simp[k5,hk,pY];(repeat refine⟨aa,?_⟩);refine au _ ?_;clear au K2);refine x6 (ao _ ?_);refine AW.st (by simp[k5,hk,pY];rfl) ?_;refine AW.st (show _=(⟨bn [(1,.d (.ip [.sl none (p.names.map bo),.sl none (p.ax.map eg)])),(2,.ref 2 0 0),(6,.d (.ip [.v (.int .i64 kd),.v (.string (bs nm)),.ip ec])),(7,int ((p.names.length:Int)+n)),(73,.d (.sl none (p.ax.map eg))),(74,int p.ax.length),(75,int n),(116,.d (.v (.bool (!decide (jF kd=kk)))))],aw [(2,.box 52 [int 0,int 0])]⟩:St) by rw[k5,show jF 5=4 from rfl]<;>rfl) ?_;exact dP.out
        have k6:kd=6:=aa
        refine yc (aB _) ah ([0]) (List.range 13) [1,2,6,7,73,74,75,116] [2] aN ah fun K' ao=>?_;(repeat refine uB rfl fun K2 au=>?_;simp[k6,hk,pY];(repeat refine⟨aa,?_⟩);refine au _ ?_;clear au K2);refine x6 (ao _ ?_);refine AW.st (by simp[k6,hk,pY];rfl) ?_;refine AW.st (show _=(⟨bn [(1,.d (.ip [.sl none (p.names.map bo),.sl none (p.ax.map eg)])),(2,.ref 2 0 0),(6,.d (.ip [.v (.int .i64 kd),.v (.string (bs nm)),.ip ec])),(7,int ((p.names.length:Int)+n)),(73,.d (.sl none (p.ax.map eg))),(74,int p.ax.length),(75,int n),(116,.d (.v (.bool (!decide (jF kd=kk)))))],aw [(2,.box 52 [int 0,int 0])]⟩:St) by rw[k6,show jF 6=4 from rfl]<;>rfl) ?_;exact dP.out
       .generalize hwk:(!decide (jF kd=kk))=wk at bY
        cases wk with
        | true=>
         rw[if_pos rfl]at bY;have hr:=fY (by rw[bY];decide);rw[bY]at hr;refine aI (aq [2] [2] ?_);exact aW (Aq @hr aiD)
        | false=>
         rw[if_neg bO]at bY;refine al (ar (gp _ ?_));refine br trivial jd [1,2,7,73,74,75,121,122,123] [2] ?_;refine cy (S:=Nat) (fun m=>m<=ne.length/\∀ j (hj:j < ne.length),j < m->¬ bH p ne[j] < 0) (fun m=>⟨bn [(1,.d (.ip [.sl none (p.names.map bo),.sl none (p.ax.map eg)])),(2,.ref 2 0 0),(7,int ((p.names.length:Int)+n)),(73,.d (.sl none (p.ax.map eg))),(74,int p.ax.length),(75,int n),(121,.d (.sl none (ne.map fun s=>[.v (.string (bs s))]))),(122,int ne.length),(123,int m)],aw [(2,.box 52 [int 0,int 0])]⟩) (fun m=>ne.length - m) 0 ?_ ak ?_
         .refine cI
         .rintro m ⟨hm,hj⟩;refine aq [1,2,7,73,74,75,121,122,123,124] [2] ?_;refine ag fun yh rr=>eE (b:=m < ne.length) (by simp[D.le,D.le.go,aL]) (fun hc=>?_) (fun hc=>?_)
          .have u9:=hc;have Zm:=b5 ne[m]
           have X2:bH p ne[m] < 0->v=7:=fun h=>by
            rw[bY,if_pos (ahp.2 ⟨_,OF u9,by simpa using h⟩)]
           have sb:¬ bH p ne[m] < 0->∀ j (h:j < ne.length),j < m+1->¬ bH p ne[j] < 0:=fun h0 j h En=>by
            by_cases he:j=m
            .subst he;exact h0
            .exact hj j h aa
           refine ar (rr _ (ag fun C7 tw=>bd ?_));have qf:=@u9;refine ay [1,2,7,10,73,74,75,121,122,123] [2] ?_;refine br trivial Zm [1,2,7,73,74,75,121,122,123,130] [2] ?_;by_cases Dp:bH p ne[m] < 0
           .have tG:=X2 Dp;have hr:=fY (by rw[tG];decide);rw[tG]at hr;refine cm (by simp[Dp]) (aq [2] [2] ?_);exact aW (Aq @hr aiD)
           .refine cw (by simp[Dp]) (ar (tw _ ?_));refine c6 ?_;(try simp only[aT,aV]);refine ba.mk (m+1) ⟨aa,sb Dp⟩ aa ?_;refine cI
          .have r7:(ne.any fun s=>decide (bH p s < 0))=false:=by
            rw[List.any_eq_false];intro s hs;obtain⟨j,iQ,rfl⟩:=agG.1 hs;simpa using hj j iQ aa
           rw[r7,if_neg bO]at bY;refine bW (e7 _ (c6 ?_));(try simp only[aT,aV]);refine ba.mk (n+1) ⟨aa,hzero bY⟩ aa ?_;refine cI
    .rw[AL fun k hk=>hb k hk aa]at il;refine bW (fA _ ?_);have qf:=@hF;refine ay [2] [2] ?_;refine bR ?_;simp[D.le,D.le.go,aL];simp[<- il,dw,codeF,b7,ab,D.le,D.le.go]
end Go.Proofs.YtoohljflflnbeaaGreatDoor
namespace Go.Proofs
open Go.Shelf
def Tryz.O7:Go.Shelf.Ren:=⟨fun | 189=>161 | 125=>218 | 257=>217 | 128=>273 | 129=>274 | 294=>264 | 295=>265 | 296=>266 | 297=>267 | 298=>268 | 299=>269 | 216=>270 | 300=>271 | 301=>272 | 328=>300 | 329=>301 | 330=>302 | 331=>303 | 332=>304 | 215=>219 | 343=>327 | n=>n,fun | 28=>41 | 3=>3 | 46=>205 | 0=>0 | 51=>374 | 53=>377 | 4=>4 | 183=>389 | 182=>388 | 131=>285 | 5=>5 | 9=>9 | 218=>412 | 222=>416 | 228=>431 | 229=>432 | n=>n,fun | n=>n⟩
theorem Tryz.aaR:Go.Proofs.Lays.n189 prog Tryz.O7:={
 mixed:=ah
 f125:=func218.trans aO
 f128:=func273.trans aO
 f129:=func274.trans aO
 f189:=func161.trans aO
 f215:=func219.trans aO
 f216:=func270.trans aO
 f257:=func217.trans aO
 f294:=func264.trans aO
 f295:=func265.trans aO
 f296:=func266.trans aO
 f297:=func267.trans aO
 f298:=func268.trans aO
 f299:=func269.trans aO
 f300:=func271.trans aO
 f301:=func272.trans aO
 f328:=func300.trans aO
 f329:=func301.trans aO
 f330:=func302.trans aO
 f331:=func303.trans aO
 f332:=func304.trans aO
 f343:=func327.trans aO
 t0:=underlying0
 a0:=isAgg0
 z0:=sizeOf0
 v0:=zeroValue0
 t3:=underlying3
 a3:=isAgg3
 z3:=sizeOf3
 v3:=zeroValue3
 t4:=underlying4
 a4:=isAgg4
 z4:=sizeOf4
 v4:=zeroValue4
 t5:=underlying5
 a5:=isAgg5
 z5:=sizeOf5
 v5:=zeroValue5
 t9:=underlying9
 a9:=isAgg9
 z9:=sizeOf9
 v9:=zeroValue9
 t28:=underlying41
 a28:=isAgg41
 z28:=sizeOf41
 v28:=zeroValue41
 t46:=underlying205
 a46:=isAgg205
 z46:=sizeOf205
 v46:=zeroValue205
 t51:=underlying374
 a51:=isAgg374
 z51:=sizeOf374
 v51:=zeroValue374
 t53:=underlying377
 a53:=isAgg377
 z53:=sizeOf377
 v53:=zeroValue377
 t131:=underlying285
 a131:=isAgg285
 z131:=sizeOf285
 v131:=zeroValue285
 t182:=underlying388
 a182:=isAgg388
 z182:=sizeOf388
 v182:=zeroValue388
 t183:=underlying389
 a183:=isAgg389
 z183:=sizeOf389
 v183:=zeroValue389
 t218:=underlying412
 a218:=isAgg412
 z218:=sizeOf412
 v218:=zeroValue412
 t222:=underlying416
 a222:=isAgg416
 z222:=sizeOf416
 v222:=zeroValue416
 t228:=underlying431
 a228:=isAgg431
 z228:=sizeOf431
 v228:=zeroValue431
 t229:=underlying432
 a229:=isAgg432
 z229:=sizeOf432
 v229:=zeroValue432 }
