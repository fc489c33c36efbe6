/- Parts. -/
import Derived.Test.YtdigkhaofjmgkaaGreatDoorMs23
import Derived.Test.YtdigkhaofjmgkaaGreatDoorMs24
import Derived.Sort.Walk0
set_option linter.unusedSimpArgs false
set_option linter.unusedVariables false
set_option maxHeartbeats 32000000
set_option maxRecDepth 100000
open Go.Proofs.Tryz
namespace Go.Proofs.YtdigkhaofjmgkaaGreatDoor
open Go.Av
def adf (all:Bool):List UInt8:=if all then [98,105,116,94,126] else [94,126]
theorem U9 (all:Bool) (e:Ex):ck all e=eQ (nmE all e) ++ abu all (jU e):=by
 cases e<;>simp[ck,jU,abu,nmE,eQ]
theorem U8 (all:Bool) (e:Ex):(nq e=[]/\eQ (nmE all e)=[])\/(nq e≠[]/\Lib.contains (adf all) (sr e)=false/\eQ (nmE all e)=[])\/(nq e≠[]/\Lib.contains (adf all) (sr e)=true/\eQ (nmE all e)=[nq e]):=by
 have c1:Lib.contains (adf true) [98,105,116]=true:=by decide +kernel
 have c2:Lib.contains (adf false) [98,105,116]=false:=by decide +kernel
 have c3:∀ all,Lib.contains (adf all) [94]=true:=by decide +kernel
 have c4:∀ all,Lib.contains (adf all) [126]=true:=by decide +kernel
 cases e with
 | bit s=>
  by_cases hs:s=[]
  .subst hs;cases all<;>exact .inl ⟨rfl,rfl⟩
  .cases all with
   | true=>exact .inr (.inr ⟨hs,c1,by simp[nmE,eQ,nq,hs]⟩)
   | false=>exact .inr (.inl ⟨hs,c2,by simp[nmE,eQ]⟩)
 | abP s=>
  by_cases hs:s=[]
  .subst hs;exact .inl ⟨rfl,rfl⟩
  .exact .inr (.inr ⟨hs,c3 _,by simp[nmE,eQ,nq,hs]⟩)
 | fS s=>
  by_cases hs:s=[]
  .subst hs;exact .inl ⟨rfl,rfl⟩
  .exact .inr (.inr ⟨hs,c4 _,by simp[nmE,eQ,nq,hs]⟩)
 | _=>exact .inl ⟨rfl,rfl⟩
def gH:AV:=.fn (.func 194) [.ref 501 0 0,.ref 502 0 0,.ref 504 0 0]
def eK (all:Bool) (l:List Tx):List (Nat×Row):=[(501,.box 9 [.d (dS (adf all))]),(502,.box 174 [.own 503 0 l.length]),(503,.sl 9 1 (l.map fun s=>[dS s])),(504,.box 307 [gH])]
theorem FK (a b:Tx):aS .lss (bs a) (bs b)=some (True,.bool (decide (a < b))):=by
 simp only[aS,aZ,bytesLess_eq]
theorem vm (a b:Tx):aS .neq (bs a) (bs b)=some (True,.bool (!decide (a=b))):=by
 simp only[aS,aZ]
 have h:(a == b)=decide (a=b):=by
  by_cases e:a=b
  .subst e;exact (beq_self_eq_true a).trans (decide_eq_true rfl).symm
  .exact (beq_eq_false_iff_ne.2 e).trans (decide_eq_false e).symm
 rw[h]
theorem VV (m:List (List D)) (z x:List D) (k:Nat) (hk:k<=m.length) (hm:∀ el∈m,el.length=1/\∀ c∈el,D.one c=true) (hz:z.length=1/\∀ c∈z,D.one c=true) :
  ∃ news mQ:List (List D),∃ w0:D,((m ++ [z]).drop k).take (m.length+1 - k)=news/\(∀ el∈news,el.length=1)/\(∀ el∈news,∀ c∈el,D.one c=true)/\
   lH (m ++ [z]) news (k+1) (m.length+1 - (k+1))=mQ/\mQ.length=m.length+1/\mQ[k]? = some [w0]/\mQ.set k x=m.take k ++ x :: m.drop k/\(k=m.length->mQ=m ++ [z]):=by
 have h1:((m ++ [z]).drop k).take (m.length+1 - k)=m.drop k ++ [z]:=by
  rw[List.take_of_length_le (by simp),List.drop_append_of_le_length hk]
 have h2:(m.drop k ++ [z]).take (m.length+1 - (k+1))=m.drop k:=by
  rw[List.take_append_of_le_length (by simp),List.take_of_length_le (by simp)]
 have h3:lH (m ++ [z]) (m.drop k ++ [z]) (k+1) (m.length+1 - (k+1))=(m ++ [z]).take (k+1) ++ m.drop k:=by
  unfold lH;rw[h2,List.drop_of_length_le (l:=m ++ [z]) (by simp;omega),List.append_nil]
 have jP:∀ el∈m.drop k ++ [z],el.length=1/\∀ c∈el,D.one c=true:=fun el hel=>by
  rcases List.mem_append.1 hel with h | h
  .exact hm el (List.mem_of_mem_drop h)
  .rw[List.mem_singleton]at h;subst h;exact hz
 have hl:((m ++ [z]).take (k+1) ++ m.drop k).length=m.length+1:=by simp;omega
 have iA:k < (m ++ [z]).length:=by simp;omega
 have lN:((m ++ [z]).take (k+1) ++ m.drop k)[k]? = some ((m ++ [z])[k]):=by
  rw[List.getElem?_append_left (by simp;omega),List.getElem?_take,if_pos (by omega),List.getElem?_eq_getElem iA]
 have acn:∃ w0,(m ++ [z])[k]=[w0]:=by
  have hq:((m ++ [z])[k]).length=1:=by
   rcases List.mem_append.1 (List.getElem_mem iA)with h | h
   .exact (hm _ h).1
   .rw[List.mem_singleton]at h;rw[h];exact hz.1
  exact List.length_eq_one_iff.1 hq
 obtain⟨w0,lT⟩:=acn;refine⟨_,_,w0,h1,fun el hel=>(jP el hel).1,fun el hel=>(jP el hel).2,h3,hl,by rw[lN,lT],?_,fun e=>?_⟩
 .rw[List.take_succ_eq_append_getElem iA,List.append_assoc,List.set_append_right _ _ (by simp;omega)]
  have e1:((m ++ [z]).take k).length=k:=by simp;omega
  rw[e1,Nat.sub_self,List.take_append_of_le_length hk];rfl
 .subst e;rw[List.take_of_length_le (by simp),List.drop_of_length_le (by simp),List.append_nil]
theorem agM (G:ao) (hM:acb G) (all:Bool):∀ (n:Nat) (e:Ex),SizeOf.sizeOf e<=n->∀ l0:List Tx,l0.length+bE e<=2^39->MC prog G [501,502,504] 194 ([.d (dR e)] ++ [.ref 501 0 0,.ref 502 0 0,.ref 504 0 0]) (ak (eK all l0)) (.d (.tup [])) (ak (eK all (iZ l0 (ck all e)))):=by
 intro n
 induction n with
 | zero=>intro e aK;cases e<;>simp at aK
 | succ n ih=>
  intro e aK l0 hb;have jJ:∀ x∈jU e,∀ l1:List Tx,l1.length+bE x<=2^39->MC prog G [501,502,504] 194 ([.d (dR x)] ++ [.ref 501 0 0,.ref 502 0 0,.ref 504 0 0]) (ak (eK all l1)) (.d (.tup [])) (ak (eK all (iZ l1 (ck all x)))):=fun x hx=>ih x (by have:=XL hx;omega);clear ih;have QI:=MP e;have ld:=pO (jU e);have hnl:=w5 all (jU e);have yU:=U8 all e
  have Q7:(eQ (nmE all e)).length<=1:=by unfold eQ;split<;>simp
  have k8:(eQ (nmE all e)).length+eU (jU e)<=bE e:=by
   cases e<;>simp[jU,bE,eU]<;>first | omega | (simp[eQ,nmE]<;>omega) | skip
  have fC:=W5 G hM (adf all) (sr e) (by cases all<;>simp[adf])
  have cr:(adf all).length<=5:=by cases all<;>simp[adf]
  rw[U9,Ij,nF,Vj];generalize jU e=l at jJ QI ld hnl k8 ⊢;generalize sr e=kd at fC yU ⊢;generalize nq e=nm at yU ⊢;generalize kR e=kk;generalize acn:eQ (nmE all e)=on at yU k8 Q7 ⊢;generalize nP:iZ l0 on=nt;have CS:=Dj on l0;rw[nP]at CS;clear aK;refine MC.aC (aay _) func194 rfl rfl (rs:=[]) results194 (by simp[ntmps194]) rfl fun X=>?_;simp only[ntmps194];have fw:=(Aq @ab.eq_1 (Aq @dS.eq_1 (Aq @eK.eq_1 @gH.eq_1)));refine ae fun K1 au=>?_;refine (fun hgo=>?_) (fun (σ:St) himp=>au σ (AW.imp (τ:=⟨lst [(0,.d (.ip [dS kd,dS nm,.sl kk (l.map fun x=>[dR x])])),(3,.ref 504 0 0)],ak (eK all nt)⟩) himp ?_))
  .rcases yU with⟨h1,h2⟩ | ⟨h1,h2,h3⟩ | ⟨h1,h2,h3⟩
   .subst h1 h2
    have hq:l0=nt:=by rw[<- nP];rfl
    subst hq;have qf:=(Aq fw (Aq @vm @br));refine fv [0,2,3,20] [501,502,503,504] ?_;refine ag rfl ?_;refine ah (hgo _ ?_);refine aX fw
   .subst h3
    have hq:l0=nt:=by rw[<- nP];rfl
    subst hq;rw[h2]at fC
    have kJ:aS .neq (bs nm) ⟨#[]⟩=some (True,.bool true):=by
     have:=vm nm [];rw[decide_eq_false h1]at this;exact this
    have qf:=(Aq fw @kJ);refine uN fC [0,2,3,20] [501,502,503,504] ?_;refine ag rfl ?_;refine ah (hgo _ ?_);refine aX fw
   .subst h3;rw[h2]at fC
    have kJ:aS .neq (bs nm) ⟨#[]⟩=some (True,.bool true):=by
     have:=vm nm [];rw[decide_eq_false h1]at this;exact this
    have qf:=(Aq fw @kJ);refine uN fC [0,2,3,20] [501,502,503,504] ?_;refine aax rfl ?_;refine rgq fw [0,2,3,5] [501,502,503,504] ?_;refine ae fun K2 aa=>?_;refine (fun yP=>?_) (fun (k:Nat) (hk:k<=l0.length) (hp:∀ i (hi:i < l0.length),i < k->l0[i]'hi < nm) (hx:∀ hk:k < l0.length,¬ l0[k]'hk < nm) (σ:St) himp=>aa σ (AW.imp (τ:=⟨lst [(0,.d (.ip [dS kd,dS nm,.sl kk (l.map fun x=>[dR x])])),(2,.ref 502 0 0),(3,.ref 504 0 0),(5,int k)],ak (eK all l0)⟩) himp ?_))
    .refine bZ (S:=Nat) (fun k=>k<=l0.length/\∀ i (hi:i < l0.length),i < k->l0[i] < nm) (fun k=>⟨lst [(0,.d (.ip [dS kd,dS nm,.sl kk (l.map fun x=>[dR x])])),(2,.ref 502 0 0),(3,.ref 504 0 0),(5,int k)],ak (eK all l0)⟩) (fun k=>l0.length - k) 0 ?_ (by simp) ?_
     .refine aX fw
     .rintro k ⟨hk,hp⟩;refine ae fun K3 aH=>?_;by_cases cr:k < l0.length
      .cases ay:decide (l0[k] < nm) with
       | true=>
        have dA:aS .lss (bs l0[k]) (bs nm)=some (True,.bool true):=by rw[FK,ay]
        have qf:=(Aq fw (Aq @cr @dA));refine fv [0,2,3,5,35] [501,502,503,504] ?_;refine aax rfl ?_;refine ah (aH _ ?_);refine aU ?_;refine bO fw ?_;(try simp only[aM,aP]);refine aV.mk (k+1) ⟨by omega,fun i hi wb=>?_⟩ (by omega) ?_
        .by_cases he:i=k
         .subst he;exact of_decide_eq_true ay
         .exact hp i hi (by omega)
        refine aX fw
       | false=>
        have dA:aS .lss (bs l0[k]) (bs nm)=some (True,.bool false):=by rw[FK,ay]
        have qf:=(Aq fw (Aq @cr @dA));refine fv [0,2,3,5,35] [501,502,503,504] ?_;refine ag rfl ?_;refine bG (yP k hk hp (fun _=>of_decide_eq_false ay) _ ?_);refine aX fw
      .have qf:=(Aq fw @cr);refine fv [0,2,3,5,35] [501,502,503,504] ?_;refine ag rfl ?_;refine bG (yP k hk hp (fun h=>absurd h cr) _ ?_);refine aX fw
    .have Qy:=Io nm l0 k hk hp hx;have pa:nt=ja nm l0:=nP.symm;rw[Qy]at pa;by_cases cr:k < l0.length
     .by_cases he:l0[k]=nm
      .have B6:aS .neq (bs l0[k]) (bs nm)=some (True,.bool false):=by rw[vm,he,decide_eq_true rfl];rfl
       rw[if_pos ⟨cr,he⟩]at pa
       have aO:¬ k=l0.length:=by omega
       have qf:=(Aq fw (Aq @cr (Aq @B6 @aO)));refine fv [0,2,3,5,52] [501,502,503,504] ?_;refine ag rfl ?_;refine ah (hgo _ ?_);refine aX (Aq fw @pa)
      .have B6:aS .neq (bs l0[k]) (bs nm)=some (True,.bool true):=by rw[vm,decide_eq_false he];rfl
       rw[if_neg (fun ⟨_,h⟩=>he h)]at pa
       have aO:¬ k=l0.length:=by omega
       have qf:=(Aq fw (Aq @cr (Aq @B6 @aO)));refine fv [0,2,3,5,52] [501,502,503,504] ?_;refine aax rfl ?_;refine rg [0,2,3,5] [501,502,503,504] (cK rfl) fun K' af=>?_;(repeat (refine sxn fun K2 aa=>?_;simp[ab,dS,eK,gH,List.take_of_length_le];(repeat (refine⟨by omega,?_⟩));refine aa _ ?_;clear aa K2));refine sxz (af _ (AW.st (by simp[ab,dS,eK,gH,List.take_of_length_le];rfl) ?_));clear af K'
       have bg:k+1<=l0.length+1:=by omega
       have hi2:¬ (k:Int)=(l0.length:Int)+1:=by omega
       have jr:((l0.length:Int)+1 - ((k:Int)+1)).toNat=l0.length+1 - (k+1):=by omega
       have hle:k+(l0.length+1 - k)<=l0.length+1:=by omega
       have QP:k+1+(l0.length - k)<=l0.length+1:=by omega
       obtain⟨news,mQ,w0,q1,q2,q3,q4,q5,q6,q7,_⟩:=VV (l0.map fun s=>[dS s]) [dS []] [dS nm] k (by simpa using hk) (by intro el hel;obtain⟨s,_,rfl⟩:=List.mem_map.1 hel;simp[dS,D.one]) (by simp[dS,D.one])
       have q8:List.take k (l0.map fun s=>[dS s]) ++ [dS nm] :: List.drop k (l0.map fun s=>[dS s])=nt.map fun s=>[dS s]:=by rw[pa];simp
       rw[q8]at q7
       have q9:nt.length=l0.length+1:=by rw[pa];simp;omega
       rw[List.length_map]at q1 q4 q5;rw[Nat.add_sub_add_right]at q4;simp only[dS]at q1 q4 q7;rw[<- br]at q1 q4
       have En:(mQ[k]'(by omega)).tail=[]:=by
        have:=q6;rw[List.getElem?_eq_getElem (by omega)]at this;rw[Option.some.inj this];rfl
       have V0:=eq_true (And.intro q2 q3);have V1:=eq_true q2;have V2:=eq_true q3
       have QL:k < l0.length+1:=by omega
       have qf:=(Aq fw (Aq @bg (Aq @hk (Aq @aO (Aq @hi2 (Aq @jr (Aq @hle (Aq @QP (Aq @q1 (Aq @V0 (Aq @V1 (Aq @V2 @q4))))))))))));refine fv [0,2,3,5] [501,502,503,504] ?_;refine qT (aay _) (by kernel_rfl) (by kernel_rfl) fun K' af=>?_;(repeat (refine cH fun K2 aa=>?_;simp[ab,dS,eK,gH,q5,q6,q7,En,QL];(repeat (refine⟨by omega,?_⟩));refine aa _ ?_;clear aa K2));refine jh (af _ ?_);clear af K';(try simp only[aM,aP]);refine hgo _ ?_;refine aB.dK (cK rfl) (by simp[ab,dS,eK,gH,q9,q7,En]) (by simp[ab,dS,eK,gH,q9,q7,En])
     .obtain rfl:k=l0.length:=by omega
      rw[if_neg (fun ⟨h,_⟩=>cr h),List.take_length,List.drop_length]at pa;have qf:=(Aq fw @cr);refine fv [0,2,3,5,52] [501,502,503,504] ?_;refine aax rfl ?_;refine rg [0,2,3,5] [501,502,503,504] (cK rfl) fun K' af=>?_;(repeat (refine sxn fun K2 aa=>?_;simp[ab,dS,eK,gH,List.take_of_length_le];(repeat (refine⟨by omega,?_⟩));refine aa _ ?_;clear aa K2));refine sxz (af _ (AW.st (by simp[ab,dS,eK,gH,List.take_of_length_le];rfl) ?_));clear af K'
      have hi2:¬ (l0.length:Int)=(l0.length:Int)+1:=by omega
      have jr:¬ (l0.length:Int)+1=0:=by omega
      have q8:(l0.map fun s=>[dS s]) ++ [[dS nm]]=nt.map fun s=>[dS s]:=by rw[pa];simp
      have q9:nt.length=l0.length+1:=by rw[pa];simp
      simp only[dS]at q8;have qf:=(Aq fw (Aq @hi2 (Aq @jr (Aq @D.one.eq_1 (Aq @D.one.eq_2 (Aq @D.one.eq_3 @D.one.eq_4))))));refine fv [0,2,3,5] [501,502,503,504] ?_;refine qT (aay _) (by kernel_rfl) (by kernel_rfl) fun K' af=>?_;(repeat (refine cH fun K2 aa=>?_;simp[ab,dS,eK,gH];(repeat (refine⟨by omega,?_⟩));refine aa _ ?_;clear aa K2));refine jh (af _ ?_);clear af K';(try simp only[aM,aP]);refine hgo _ ?_;refine aB.dK (cK rfl) (by simp[ab,dS,eK,gH,q9,q8]) (by simp[ab,dS,eK,gH,q9,q8])
  .simp only[List.singleton_append]at jJ;refine rgq fw [3,74,75,76] [501,502,503,504] ?_;refine bZ (S:=Nat) (fun i=>i<=l.length) (fun i=>⟨lst [(3,.ref 504 0 0),(74,.d (.sl kk (l.map fun x=>[dR x]))),(75,int l.length),(76,int i)],ak (eK all (iZ nt (abu all (l.take i))))⟩) (fun i=>l.length - i) 0 ?_ (by omega) ?_
   .refine aB.dK (cK rfl) (by simp[ab,dS,eK,gH,abu,Il]) (by simp[ab,dS,eK,gH,abu,Il])
   .intro i hi;refine rgq fw [3,74,75,76,77] [501,502,503,504] ?_;refine ae fun K4 hK4=>?_;refine dw (b:=i < l.length) (by simp[D.le,D.le.go,aaA,ab,dS,eK,gH]) (fun hc=>?_) (fun hc=>?_)
    .have c6:i < l.length:=hc;have h1:=DX all c6;have h2:=w5 all (l.take i);have h3:=A7 c6;have h4:=Dj (abu all (l.take i)) nt;have bW:=jJ _ (List.getElem_mem c6) (iZ nt (abu all (l.take i))) (by omega);rw[<- Ij,<- h1]at bW;have hf:=nF l[i];rw[hf]at bW;refine ah (hK4 _ ?_);refine ae fun K5 bN=>?_;refine aU ?_;have qf:=(Aq fw (Aq @c6 @hf));refine al [3,7,74,75,76] [501,502,503,504] ?_;refine abl (aay _) fun K' af=>?_;(repeat (refine sxn fun K2 aa=>?_;simp[ab,dS,eK,gH];(repeat (refine⟨by omega,?_⟩));refine aa _ ?_;clear aa K2));refine sxn fun K2 aa=>?_;simp[ab,dS,eK,gH];refine aaT.mc (bW) ?_ ?_ ?_ ?_ ?_<;>simp[ab,dS,eK,gH];refine aa _ ?_;clear aa K2;(repeat (refine sxn fun K2 aa=>?_;simp[ab,dS,eK,gH];(repeat (refine⟨by omega,?_⟩));refine aa _ ?_;clear aa K2));refine sxz (af _ ?_);clear af K';refine bN _ (AW.norm [3,74,75,76] [501,502,503,504] (cK rfl) (AW.st (by simp[ab,dS,eK,gH];rfl) ?_));refine bO fw ?_;(try simp only[aM,aP]);refine aV.mk (i+1) (by omega) (by omega) ?_;refine aX fw
    .obtain rfl:i=l.length:=by omega
     refine bG ?_;simp[D.le_refl,List.take_length,eK,gH,dS]
theorem mC {r r':Nat} (hr:r≠r') (l:List (Nat×Row)) (hl:∀ p∈l,p.1≠r'):mB r r' (ak l)=ak (l.map fun p=>(if p.1=r then r' else p.1,p.2.tr (abI r r') (abH r r'))):=by
 funext q;unfold mB
 induction l with
 | nil=>simp[ak,List.lookup]
 | cons p l ih=>
  have ih:=ih fun p hp=>hl p (by simp[hp]);have hp:=hl p (by simp);obtain⟨k,row⟩:=p;simp only[ak,List.lookup,List.map_cons]at ih ⊢;by_cases h1:q=r'
  .subst h1;simp only[if_true]at ih ⊢;by_cases h2:k=r
   .subst h2;simp
   .have a1:(r == k)=false:=by simpa using fun e=>h2 e.symm
    have a2:(q == k)=false:=by simpa using fun e=>hp e.symm
    simp only[h2,if_false,a1,a2];exact ih
  .simp only[h1,if_false]at ih ⊢;by_cases h2:q=r
   .subst h2;simp only[if_true]at ih ⊢;by_cases h3:k=q
    .have a1:(q == r')=false:=by simpa using h1
     simp only[h3,if_true,a1];exact ih
    .have a1:(q == k)=false:=by simpa using fun e=>h3 e.symm
     simp only[h3,if_false,a1];exact ih
   .simp only[h2,if_false]at ih ⊢;by_cases h3:k=r
    .have a1:(q == k)=false:=by rw[h3];simpa using h2
     have a2:(q == r')=false:=by simpa using h1
     simp only[h3,if_true,a2]at a1 ⊢;rw[a1];exact ih
    .simp only[h3,if_false];by_cases h4:q=k
     .subst h4;simp
     .have a1:(q == k)=false:=by simpa using h4
      simp only[a1];exact ih
theorem Ji (G:ao) (hM:acb G) (all:Bool) (e:Ex) (hb:bE e<=2^28):ar prog G 147 [dR e,dS (adf all)] (.sl none ((du all e).map fun s=>[dS s])):=by
 have hw:=agM G hM all _ e (Nat.le_refl _) [] (by simp;omega);have dX:=R0 all e;rw[dX]at hw;simp only[List.singleton_append]at hw;generalize du all e=l at hw ⊢;clear dX;rw[nF]at hw ⊢;refine ar.aC (aay _) func147 rfl rfl (rs:=[.tmp 4]) results147 (by simp[ntmps147]) fun X=>?_;simp only[ntmps147,List.map];have fw:=(Aq @ab.eq_1 (Aq @dS.eq_1 (Aq @eK.eq_1 @gH.eq_1)));refine rgq fw [0,3] [3] ?_;refine rgq fw [0,3,5] [3,5] ?_;refine rgq fw [0,3,5,6] [3,5,6] ?_;refine rgq fw [0,5,6] [3,5,6] ?_;refine AW.imp (aB.ren (r:=3) (r':=501) trivial (by simp)) ?_;refine AW.st (by simp[abI,abH,Go.Av.ren,mC];rfl) ?_;refine AW.imp (aB.ren (r:=5) (r':=502) trivial (by simp)) ?_;refine AW.st (by simp[abI,abH,Go.Av.ren,mC];rfl) ?_;refine AW.imp (aB.ren (r:=6) (r':=504) trivial (by simp)) ?_;refine AW.st (by simp[abI,abH,Go.Av.ren,mC];rfl) ?_;refine AW.imp (aB.mL 502 0 503 9 1 rfl rfl rfl) ?_;refine AW.imp (τ:=⟨lst [(0,.d (.ip [dS (sr e),dS (nq e),w7 e])),(5,.ref 502 0 0),(6,.ref 504 0 0)],ak (eK all [])⟩) ?_ ?_
 .refine aX (Aq fw (Aq @eK.eq_1 @gH.eq_1))
 refine rgm fw hw [5] [502,503] ?_;refine rgq (Aq fw (Aq @eK.eq_1 @gH.eq_1)) [4] [502,503] ?_;have cy:List.take l.length (l.map fun s=>[dS s])=l.map fun s=>[dS s]:=List.take_of_length_le (by simp);simp only[dS]at cy;refine AW.imp (aB.freeze 503 trivial) ?_;refine AW.st (by simp[ab,dS,eK,gH,cy];rfl) ?_;exact aG (Aq fw @cy)
theorem WD (G:ao) (hM:acb G) (e:Ex) (hb:bE e<=2^28):ar prog G 95 [dR e] (.sl none ((du true e).map fun s=>[dS s])):=by
 have hs:=Ji G hM true e hb;rw[nF]at hs ⊢;generalize du true e=l at hs ⊢;have hk:dS (adf true) = .v (.string ⟨#[98,105,116,94,126]⟩):=rfl;rw[hk]at hs;refine ar.aC (aay _) func95 rfl rfl (rs:=[.tmp 2]) results95 (by simp[ntmps95]) fun X=>?_;simp only[ntmps95,List.map];have fw:=(Aq @ab.eq_1 (Aq @dS.eq_1 (Aq @eK.eq_1 @gH.eq_1)));refine rgq fw [0] [] ?_;refine aR fw hs [2] [] ?_;exact aG fw
theorem Wi (G:ao) (hM:acb G) (e:Ex) (hb:bE e<=2^28):ar prog G 179 [dR e] (.sl none ((du false e).map fun s=>[dS s])):=by
 have hs:=Ji G hM false e hb;rw[nF]at hs ⊢;generalize du false e=l at hs ⊢;have hk:dS (adf false) = .v (.string ⟨#[94,126]⟩):=rfl;rw[hk]at hs;refine ar.aC (aay _) func179 rfl rfl (rs:=[.tmp 2]) results179 (by simp[ntmps179]) fun X=>?_;simp only[ntmps179,List.map];have fw:=(Aq @ab.eq_1 (Aq @dS.eq_1 (Aq @eK.eq_1 @gH.eq_1)));refine rgq fw [0] [] ?_;refine aR fw hs [2] [] ?_;exact aG fw
theorem MS (p:PgP) (i:Nat) (hi:i < p.names.length):j3 p i p.names[i]=if !mN p.names[i].name then 5 else if !(decide (1<=p.names[i].kind) && decide (p.names[i].kind<=4)) then 1 else if (decide (p.names[i].kind >= 3) && !(decide (1<=p.names[i].count) && decide (p.names[i].count<=7))) || (decide (p.names[i].kind < 3) && decide (p.names[i].count≠0)) then 2 else if aaL p p.names[i].name≠i then 9 else 0:=by
 rw[<- MR p i hi,A9,Jg]
theorem A8 (p:PgP) (k:Int) (s:Tx) (e:Ex):iJ p ⟨k,s,some e⟩=if !(decide (1<=k) && decide (k<=6)) then 1 else if aaL p s < 0 then 7 else if !decide (gI k=(p.names.getD (aaL p s).toNat ⟨[],0,0⟩).kind) then 1 else if (du true e).any fun s=>decide (aaL p s < 0) then 7 else 0:=by
 have h:(decide (k < 1) || decide (k > 6)) = !(decide (1<=k) && decide (k<=6)):=by
  by_cases h1:1<=k<;>by_cases h2:k<=6<;>simp[h1,h2]<;>omega
 show (if decide (k < 1) || decide (k > 6) then (1:Int) else _)=_;rw[h];simp only[Bool.not_eq_true',decide_eq_false_iff_not,ne_eq]
theorem SR (G:ao) (hF:pK G) (hM:acb G) (p:PgP) (hp:xO p):ar prog G 119 [cE p] (aa0 (cf p)):=by
 unfold pK at hF;obtain⟨hnl,dZ,kL,tG⟩:=hp
 have ni:cf p=if p.names.length > 12\/p.aaw.length > 40 then some (4,none) else match j6 (j3 p) p.names 0 with
  | some (e,i)=>some (e,some i)
  | none=>match j6 (fun _ r=>iJ p r) p.aaw 0 with
   | some (e,i)=>some (e,some (p.names.length+i))
   | none=>none:=rfl
 generalize gZ:cf p=res;rw[ni]at gZ;have bD:=fun s=>LD G p hnl s;have B7:=xV G 4;simp only[cE,dM,bK,dS]at bD ⊢;simp only[ab]at hF B7;refine ar.aC (aay _) func119 rfl rfl (rs:=[.cell 2 124]) results119 (by simp[ntmps119]) fun X=>?_;simp only[ntmps119,List.map];refine aq [1,2] [1,2] ?_;refine dV 1 ?_;refine ae fun K1 au=>?_;by_cases g0:(p.names.length:Int) > 12
 .rw[if_pos (.inl (by omega))]at gZ;have qf:=@g0;refine al [1,2,20] [2] ?_;refine aax rfl ?_;refine aR trivial B7 [2] [2] ?_;refine bn ?_;simp[D.le,D.le.go,aaA];simp[<- gZ,aa0,codeF,bx,ab,D.le,D.le.go]
 by_cases g1:(p.aaw.length:Int) > 40
 .rw[if_pos (.inr (by omega))]at gZ;have qf:=(Aq @g0 @g1);refine al [1,2,20] [2] ?_;refine aax rfl ?_;refine aR trivial B7 [2] [2] ?_;refine bn ?_;simp[D.le,D.le.go,aaA];simp[<- gZ,aa0,codeF,bx,ab,D.le,D.le.go]
 rw[if_neg (by omega)]at gZ;have qf:=(Aq @g0 @g1);refine al [1,2,20] [2] ?_;refine ag rfl ?_;refine ah (au _ ?_);refine ae fun K2 aa=>?_;refine aq [1,2,23,24,25] [2] ?_;refine bZ (S:=Nat) (fun n=>n<=p.names.length/\∀ k (hk:k < p.names.length),k < n->j3 p k p.names[k]=0) (fun n=>⟨lst [(1,.d (.ip [.sl none (p.names.map aW),.sl none (p.aaw.map cM)])),(2,.ref 2 0 0),(23,.d (.sl none (p.names.map aW))),(24,int p.names.length),(25,int n)],ak [(2,.box 124 [int 0,int 0])]⟩) (fun n=>p.names.length - n) 0 ?_ (by simp) ?_
 .refine aa2
 .rintro n ⟨hn,hb⟩;refine aq [1,2,23,24,25,26] [2] ?_;refine ae fun K3 aH=>?_;refine dw (b:=n < p.names.length) (by simp[D.le,D.le.go,aaA]) (fun hc=>?_) (fun hc=>?_)
  .have ay:=hc
   have hgo:j3 p n p.names[n]≠0->res=some (j3 p n p.names[n],some n):=fun aO=>by
    rw[<- gZ,vy (i:=0) ay (fun k hk kG=>by rw[Nat.zero_add];exact hb k hk kG) (by rw[Nat.zero_add];exact aO)];simp
   have dX:=kL _ (List.getElem_mem ay);have abK:aW p.names[n]=[dS p.names[n].name,.v (.int .i64 p.names[n].kind),.v (.int .i64 p.names[n].count)]:=rfl;have bo:=MS p n ay;have acO:=Jl G p.names[n].name dX;generalize hv:j3 p n p.names[n]=v at bo hgo;generalize p.names[n].name=nm at dX abK bo acO;generalize p.names[n].kind=kd at abK bo;generalize p.names[n].count=ct at abK bo;have jw:=bD nm;have gM:=E4 G kd 1 4;have hw2:=E4 G ct 1 7;simp only[dS]at abK acO;simp only[ab]at gM hw2;generalize mN nm=nf at acO bo;generalize hq1:(decide (1<=kd) && decide (kd<=4))=q1 at gM bo;generalize dY:(decide (1<=ct) && decide (ct<=7))=q2 at hw2 bo;refine ah (aH _ ?_);refine ae fun K4 hK4=>?_;refine aU ?_;have qf:=(Aq @ay @abK);refine al [1,2,3,4,23,24,25] [2,4] ?_;refine dV 4 ?_;refine ae fun K5 bN=>?_;refine aR trivial acO [1,2,3,4,23,24,25,33] [2] ?_
   cases nf with
   | false=>
    rw[if_pos (by simp)]at bo;have hr:=hgo (by rw[bo];decide);rw[bo]at hr;refine aax rfl ?_;refine aq [2] [2] ?_;exact aG (Aq @hr (Aq @aa0.eq_1 (Aq @codeF.eq_1 (Aq @codeF.eq_2 (Aq @bx.eq_1 (Aq @bx.eq_2 @ab.eq_1))))))
   | true=>
    rw[if_neg (by decide)]at bo;refine ag rfl ?_;refine ah (bN _ ?_);refine ae fun K6 hK6=>?_;refine aR trivial gM [1,2,3,4,23,24,25,39] [2] ?_
    cases q1 with
    | false=>
     rw[if_pos (by simp)]at bo;have hr:=hgo (by rw[bo];decide);rw[bo]at hr;refine aax rfl ?_;refine aq [2] [2] ?_;exact aG (Aq @hr (Aq @aa0.eq_1 (Aq @codeF.eq_1 (Aq @codeF.eq_2 (Aq @bx.eq_1 (Aq @bx.eq_2 @ab.eq_1))))))
    | true=>
     rw[if_neg (by decide)]at bo;refine ag rfl ?_;refine ah (hK6 _ ?_);refine ae fun K7 dW=>?_;by_cases k3:kd >= 3
     .have ga:¬ kd < 3:=by omega
      cases q2 with
      | false=>
       have qf:=(Aq @k3 @ga);refine dv hw2 [1,2,3,4,23,24,25,60] [2] ?_;rw[if_pos (by simp[k3])]at bo;have hr:=hgo (by rw[bo];decide);rw[bo]at hr;refine aax rfl ?_;refine aq [2] [2] ?_;exact aG (Aq @hr (Aq @aa0.eq_1 (Aq @codeF.eq_1 (Aq @codeF.eq_2 (Aq @bx.eq_1 (Aq @bx.eq_2 @ab.eq_1))))))
      | true=>
       rw[if_neg (by simp[ga])]at bo;have qf:=(Aq @k3 @ga);refine dv hw2 [1,2,3,4,23,24,25,60] [2] ?_;refine ag rfl ?_;refine ah (dW _ ?_);refine aR trivial jw [1,2,3,23,24,25,68] [2] ?_;by_cases c9:aaL p nm=n
       .rw[if_neg (by simp[c9])]at bo;refine ag (by simp[c9]) ?_;refine ah (hK4 _ ?_);refine cG ?_;(try simp only[aM,aP]);refine aV.mk (n+1) ⟨by omega,fun k hk kG=>?_⟩ (by omega) ?_
        .by_cases h:k=n
         .subst h;rw[hv,bo]
         .exact hb k hk (by omega)
        refine aa2
       .rw[if_pos c9]at bo;have hr:=hgo (by rw[bo];decide);rw[bo]at hr;refine aax (by simp[c9]) ?_;refine aq [2] [2] ?_;exact aG (Aq @hr (Aq @aa0.eq_1 (Aq @codeF.eq_1 (Aq @codeF.eq_2 (Aq @bx.eq_1 (Aq @bx.eq_2 @ab.eq_1))))))
     .have ga:kd < 3:=by omega
      by_cases c0:ct=0
      .rw[if_neg (by simp[k3,c0])]at bo;have qf:=(Aq @k3 (Aq @ga @c0));refine al [1,2,3,4,23,24,25,60] [2] ?_;refine ag rfl ?_;refine ah (dW _ ?_);refine aR trivial jw [1,2,3,23,24,25,68] [2] ?_;by_cases c9:aaL p nm=n
       .rw[if_neg (by simp[c9])]at bo;refine ag (by simp[c9]) ?_;refine ah (hK4 _ ?_);refine cG ?_;(try simp only[aM,aP]);refine aV.mk (n+1) ⟨by omega,fun k hk kG=>?_⟩ (by omega) ?_
        .by_cases h:k=n
         .subst h;rw[hv,bo]
         .exact hb k hk (by omega)
        refine aa2
       .rw[if_pos c9]at bo;have hr:=hgo (by rw[bo];decide);rw[bo]at hr;refine aax (by simp[c9]) ?_;refine aq [2] [2] ?_;exact aG (Aq @hr (Aq @aa0.eq_1 (Aq @codeF.eq_1 (Aq @codeF.eq_2 (Aq @bx.eq_1 (Aq @bx.eq_2 @ab.eq_1))))))
      .have qf:=(Aq @k3 (Aq @ga @c0));refine al [1,2,3,4,23,24,25,60] [2] ?_;rw[if_pos (by simp[ga,c0])]at bo;have hr:=hgo (by rw[bo];decide);rw[bo]at hr;refine aax rfl ?_;refine aq [2] [2] ?_;exact aG (Aq @hr (Aq @aa0.eq_1 (Aq @codeF.eq_1 (Aq @codeF.eq_2 (Aq @bx.eq_1 (Aq @bx.eq_2 @ab.eq_1))))))
  .rw[vA fun k hk=>by rw[Nat.zero_add];exact hb k hk (by omega)]at gZ;dsimp only at gZ;refine bG (aa _ ?_);refine ae fun K8 ez=>?_;refine aq [1,2,73,74,75] [2] ?_;refine bZ (S:=Nat) (fun n=>n<=p.aaw.length/\∀ k (hk:k < p.aaw.length),k < n->iJ p p.aaw[k]=0) (fun n=>⟨lst [(1,.d (.ip [.sl none (p.names.map aW),.sl none (p.aaw.map cM)])),(2,.ref 2 0 0),(73,.d (.sl none (p.aaw.map cM))),(74,int p.aaw.length),(75,int n)],ak [(2,.box 124 [int 0,int 0])]⟩) (fun n=>p.aaw.length - n) 0 ?_ (by simp) ?_
   .refine aa2
   .rintro n ⟨hn,hb⟩;refine aq [1,2,73,74,75,76] [2] ?_;refine ae fun K9 hK9=>?_;refine dw (b:=n < p.aaw.length) (by simp[D.le,D.le.go,aaA]) (fun hc=>?_) (fun hc=>?_)
    .have ay:=hc
     have hgo:iJ p p.aaw[n]≠0->res=some (iJ p p.aaw[n],some (p.names.length+n)):=fun aO=>by
      rw[<- gZ,vy (i:=0) ay (fun k hk kG=>hb k hk kG) aO];simp
     have Ce:=tG p.aaw[n] (List.getElem_mem ay);obtain⟨⟨kd,nm,cd⟩,hrn⟩:∃ r,p.aaw[n]=r:=⟨_,rfl⟩
     have hzero:iJ p ⟨kd,nm,cd⟩=0->∀ k (hk:k < p.aaw.length),k < n+1->iJ p p.aaw[k]=0:=fun h0 k hk kG=>by
      by_cases h:k=n
      .subst h;rw[hrn];exact h0
      .exact hb k hk (by omega)
     rw[hrn]at hgo Ce
     have abK:cM p.aaw[n]=[.v (.int .i64 kd),dS nm,iK cd]:=by rw[hrn];rfl
     dsimp only at Ce;obtain⟨v,hv⟩:∃ v,iJ p ⟨kd,nm,cd⟩=v:=⟨_,rfl⟩;rw[hv]at hgo hzero;have bo:=hv.symm;have gM:=E4 G kd 1 6;have jw:=bD nm;simp only[dS]at abK;simp only[ab]at gM;refine ah (hK9 _ ?_);refine ae fun kZ dz=>?_;refine aU ?_
     have de:(p.names.length:Int)+n < 2^63:=by omega
     cases cd with
     | none=>
      have cY:v=1:=bo;have hr:=hgo (by rw[cY];decide);rw[cY]at hr;simp only[iK]at abK;generalize hq1:(decide (1<=kd) && decide (kd<=6))=q1 at gM;have qf:=(Aq @ay @abK);refine al [1,2,5,6,73,74,75] [2,6] ?_;refine dV 6 ?_;refine aq [1,2,6,7,73,74,75] [2] ?_;refine ae fun pL j8=>?_
      cases q1 with
      | false=>
       refine aR trivial gM [1,2,6,7,73,74,75,93] [2] ?_;refine aax rfl ?_;refine aq [2] [2] ?_;exact aG (Aq @hr (Aq @aa0.eq_1 (Aq @codeF.eq_1 (Aq @codeF.eq_2 (Aq @bx.eq_1 (Aq @bx.eq_2 @ab.eq_1))))))
      | true=>
       refine aR trivial gM [1,2,6,7,73,74,75,93] [2] ?_;refine aax rfl ?_;refine aq [2] [2] ?_;exact aG (Aq @hr (Aq @aa0.eq_1 (Aq @codeF.eq_1 (Aq @codeF.eq_2 (Aq @bx.eq_1 (Aq @bx.eq_2 @ab.eq_1))))))
     | some e=>
      obtain⟨Cb,Q0⟩:=Ce e rfl;rw[A8]at bo;have fW:=WD G hM e Cb;simp only[iK]at abK;obtain⟨ec,Cl⟩:∃ c,dR e = .ip c:=⟨_,nF e⟩;rw[Cl]at abK fW;generalize du true e=ne at fW Q0 bo;simp only[dS]at fW;generalize hq1:(decide (1<=kd) && decide (kd<=6))=q1 at gM bo;have qf:=(Aq @ay @abK);refine al [1,2,5,6,73,74,75] [2,6] ?_;refine dV 6 ?_;refine aq [1,2,6,7,73,74,75] [2] ?_;refine ae fun pL j8=>?_
      cases q1 with
      | false=>
       refine aR trivial gM [1,2,6,7,73,74,75,93] [2] ?_;rw[if_pos (by simp)]at bo;have hr:=hgo (by rw[bo];decide);rw[bo]at hr;refine aax rfl ?_;refine aq [2] [2] ?_;exact aG (Aq @hr (Aq @aa0.eq_1 (Aq @codeF.eq_1 (Aq @codeF.eq_2 (Aq @bx.eq_1 (Aq @bx.eq_2 @ab.eq_1))))))
      | true=>
       rw[if_neg (by decide)]at bo
       have hkd:1<=kd/\kd<=6:=by simpa using hq1
       refine aR trivial gM [1,2,6,7,73,74,75,93] [2] ?_;refine ag rfl ?_;refine ah (j8 _ ?_);refine aR trivial jw [1,2,6,7,8,73,74,75] [2] ?_;refine ae fun s3 acs=>?_;refine aq [1,2,6,7,8,73,74,75,101] [2] ?_;by_cases c7:aaL p nm < 0
       .rw[if_pos c7]at bo;have hr:=hgo (by rw[bo];decide);rw[bo]at hr;refine aax (by simp[c7]) ?_;refine aq [2] [2] ?_;exact aG (Aq @hr (Aq @aa0.eq_1 (Aq @codeF.eq_1 (Aq @codeF.eq_2 (Aq @bx.eq_1 (Aq @bx.eq_2 @ab.eq_1))))))
       rw[if_neg c7]at bo;obtain⟨k,hk,hke⟩:=Jv c7
       have jq:p.names.getD (aaL p nm).toNat ⟨[],0,0⟩=p.names[k]:=by
        rw[hke,Int.toNat_natCast,List.getD_eq_getElem?_getD,List.getElem?_eq_getElem hk];rfl
       rw[jq]at bo;refine ag (by simp[c7]) ?_;refine ah (acs _ ?_);refine ae fun j0 eW=>?_;have lL:aW p.names[k]=[dS p.names[k].name,.v (.int .i64 p.names[k].kind),.v (.int .i64 p.names[k].count)]:=rfl;generalize iA:p.names[k].kind=kk at bo lL;rw[hke]
       refine' zu (fun cZ=>?_) ?_
       rotate_left
       .by_cases k1:kd=1
        .refine sY (aay _) (by kernel_rfl) ([0]) (List.range 13) [1,2,6,7,73,74,75,116] [2] (fun _ _=>trivial) (by kernel_rfl) fun K' af=>?_;(repeat (refine pE rfl fun K2 aa=>?_;simp[k1,hk,lL];(repeat (refine⟨by omega,?_⟩));refine aa _ ?_;clear aa K2));refine sR (af _ ?_);refine AW.st (by simp[k1,hk,lL];rfl) ?_;clear af K';refine AW.st (show _=(⟨lst [(1,.d (.ip [.sl none (p.names.map aW),.sl none (p.aaw.map cM)])),(2,.ref 2 0 0),(6,.d (.ip [.v (.int .i64 kd),.v (.string (bs nm)),.ip ec])),(7,int ((p.names.length:Int)+n)),(73,.d (.sl none (p.aaw.map cM))),(74,int p.aaw.length),(75,int n),(116,.d (.v (.bool (!decide (gI kd=kk)))))],ak [(2,.box 124 [int 0,int 0])]⟩:St) by rw[k1,show gI 1=2 from rfl]<;>rfl) ?_;exact cZ.out
        by_cases k2:kd=2
        .refine sY (aay _) (by kernel_rfl) ([0]) (List.range 13) [1,2,6,7,73,74,75,116] [2] (fun _ _=>trivial) (by kernel_rfl) fun K' af=>?_;(repeat (refine pE rfl fun K2 aa=>?_;simp[k2,hk,lL];(repeat (refine⟨by omega,?_⟩));refine aa _ ?_;clear aa K2));refine sR (af _ ?_);refine AW.st (by simp[k2,hk,lL];rfl) ?_;clear af K';refine AW.st (show _=(⟨lst [(1,.d (.ip [.sl none (p.names.map aW),.sl none (p.aaw.map cM)])),(2,.ref 2 0 0),(6,.d (.ip [.v (.int .i64 kd),.v (.string (bs nm)),.ip ec])),(7,int ((p.names.length:Int)+n)),(73,.d (.sl none (p.aaw.map cM))),(74,int p.aaw.length),(75,int n),(116,.d (.v (.bool (!decide (gI kd=kk)))))],ak [(2,.box 124 [int 0,int 0])]⟩:St) by rw[k2,show gI 2=2 from rfl]<;>rfl) ?_;exact cZ.out
        by_cases k3:kd=3
        .refine sY (aay _) (by kernel_rfl) ([0]) (List.range 13) [1,2,6,7,73,74,75,116] [2] (fun _ _=>trivial) (by kernel_rfl) fun K' af=>?_;(repeat (refine pE rfl fun K2 aa=>?_;simp[k3,hk,lL];(repeat (refine⟨by omega,?_⟩));refine aa _ ?_;clear aa K2));refine sR (af _ ?_);refine AW.st (by simp[k3,hk,lL];rfl) ?_;clear af K';refine AW.st (show _=(⟨lst [(1,.d (.ip [.sl none (p.names.map aW),.sl none (p.aaw.map cM)])),(2,.ref 2 0 0),(6,.d (.ip [.v (.int .i64 kd),.v (.string (bs nm)),.ip ec])),(7,int ((p.names.length:Int)+n)),(73,.d (.sl none (p.aaw.map cM))),(74,int p.aaw.length),(75,int n),(116,.d (.v (.bool (!decide (gI kd=kk)))))],ak [(2,.box 124 [int 0,int 0])]⟩:St) by rw[k3,show gI 3=2 from rfl]<;>rfl) ?_;exact cZ.out
        by_cases k4:kd=4
        .refine sY (aay _) (by kernel_rfl) ([0]) (List.range 13) [1,2,6,7,73,74,75,116] [2] (fun _ _=>trivial) (by kernel_rfl) fun K' af=>?_;(repeat (refine pE rfl fun K2 aa=>?_;simp[k4,hk,lL];(repeat (refine⟨by omega,?_⟩));refine aa _ ?_;clear aa K2));refine sR (af _ ?_);refine AW.st (by simp[k4,hk,lL];rfl) ?_;clear af K';refine AW.st (show _=(⟨lst [(1,.d (.ip [.sl none (p.names.map aW),.sl none (p.aaw.map cM)])),(2,.ref 2 0 0),(6,.d (.ip [.v (.int .i64 kd),.v (.string (bs nm)),.ip ec])),(7,int ((p.names.length:Int)+n)),(73,.d (.sl none (p.aaw.map cM))),(74,int p.aaw.length),(75,int n),(116,.d (.v (.bool (!decide (gI kd=kk)))))],ak [(2,.box 124 [int 0,int 0])]⟩:St) by rw[k4,show gI 4=3 from rfl]<;>rfl) ?_;exact cZ.out
        by_cases k5:kd=5
        .refine sY (aay _) (by kernel_rfl) ([0]) (List.range 13) [1,2,6,7,73,74,75,116] [2] (fun _ _=>trivial) (by kernel_rfl) fun K' af=>?_;(repeat (refine pE rfl fun K2 aa=>?_;simp[k5,hk,lL];(repeat (refine⟨by omega,?_⟩));refine aa _ ?_;clear aa K2));refine sR (af _ ?_);refine AW.st (by simp[k5,hk,lL];rfl) ?_;clear af K';refine AW.st (show _=(⟨lst [(1,.d (.ip [.sl none (p.names.map aW),.sl none (p.aaw.map cM)])),(2,.ref 2 0 0),(6,.d (.ip [.v (.int .i64 kd),.v (.string (bs nm)),.ip ec])),(7,int ((p.names.length:Int)+n)),(73,.d (.sl none (p.aaw.map cM))),(74,int p.aaw.length),(75,int n),(116,.d (.v (.bool (!decide (gI kd=kk)))))],ak [(2,.box 124 [int 0,int 0])]⟩:St) by rw[k5,show gI 5=4 from rfl]<;>rfl) ?_;exact cZ.out
        have k6:kd=6:=by omega
        refine sY (aay _) (by kernel_rfl) ([0]) (List.range 13) [1,2,6,7,73,74,75,116] [2] (fun _ _=>trivial) (by kernel_rfl) fun K' af=>?_;(repeat (refine pE rfl fun K2 aa=>?_;simp[k6,hk,lL];(repeat (refine⟨by omega,?_⟩));refine aa _ ?_;clear aa K2));refine sR (af _ ?_);refine AW.st (by simp[k6,hk,lL];rfl) ?_;clear af K';refine AW.st (show _=(⟨lst [(1,.d (.ip [.sl none (p.names.map aW),.sl none (p.aaw.map cM)])),(2,.ref 2 0 0),(6,.d (.ip [.v (.int .i64 kd),.v (.string (bs nm)),.ip ec])),(7,int ((p.names.length:Int)+n)),(73,.d (.sl none (p.aaw.map cM))),(74,int p.aaw.length),(75,int n),(116,.d (.v (.bool (!decide (gI kd=kk)))))],ak [(2,.box 124 [int 0,int 0])]⟩:St) by rw[k6,show gI 6=4 from rfl]<;>rfl) ?_;exact cZ.out
       .generalize Zl:(!decide (gI kd=kk))=wk at bo
        cases wk with
        | true=>
         rw[if_pos rfl]at bo;have hr:=hgo (by rw[bo];decide);rw[bo]at hr;refine aax rfl ?_;refine aq [2] [2] ?_;exact aG (Aq @hr (Aq @aa0.eq_1 (Aq @codeF.eq_1 (Aq @codeF.eq_2 (Aq @bx.eq_1 (Aq @bx.eq_2 @ab.eq_1))))))
        | false=>
         rw[if_neg (by decide)]at bo;refine ag rfl ?_;refine ah (eW _ ?_);refine aR trivial fW [1,2,7,73,74,75,121,122,123] [2] ?_;refine bZ (S:=Nat) (fun m=>m<=ne.length/\∀ j (hj:j < ne.length),j < m->¬ aaL p ne[j] < 0) (fun m=>⟨lst [(1,.d (.ip [.sl none (p.names.map aW),.sl none (p.aaw.map cM)])),(2,.ref 2 0 0),(7,int ((p.names.length:Int)+n)),(73,.d (.sl none (p.aaw.map cM))),(74,int p.aaw.length),(75,int n),(121,.d (.sl none (ne.map fun s=>[.v (.string (bs s))]))),(122,int ne.length),(123,int m)],ak [(2,.box 124 [int 0,int 0])]⟩) (fun m=>ne.length - m) 0 ?_ (by simp) ?_
         .refine aa2
         .rintro m ⟨hm,hj⟩;refine aq [1,2,7,73,74,75,121,122,123,124] [2] ?_;refine ae fun vb oM=>?_;refine dw (b:=m < ne.length) (by simp[D.le,D.le.go,aaA]) (fun hc=>?_) (fun hc=>?_)
          .have qk:=hc;have Q3:=bD ne[m]
           have agf:aaL p ne[m] < 0->v=7:=fun h=>by
            rw[bo,if_pos (List.any_eq_true.2 ⟨_,List.getElem_mem qk,by simpa using h⟩)]
           have nN:¬ aaL p ne[m] < 0->∀ j (h:j < ne.length),j < m+1->¬ aaL p ne[j] < 0:=fun h0 j h yS=>by
            by_cases he:j=m
            .subst he;exact h0
            .exact hj j h (by omega)
           refine ah (oM _ ?_);refine ae fun AJ rm=>?_;refine aU ?_;have qf:=@qk;refine al [1,2,7,10,73,74,75,121,122,123] [2] ?_;refine aR trivial Q3 [1,2,7,73,74,75,121,122,123,130] [2] ?_;by_cases c7b:aaL p ne[m] < 0
           .have mY:=agf c7b;have hr:=hgo (by rw[mY];decide);rw[mY]at hr;refine aax (by simp[c7b]) ?_;refine aq [2] [2] ?_;exact aG (Aq @hr (Aq @aa0.eq_1 (Aq @codeF.eq_1 (Aq @codeF.eq_2 (Aq @bx.eq_1 (Aq @bx.eq_2 @ab.eq_1))))))
           .refine ag (by simp[c7b]) ?_;refine ah (rm _ ?_);refine cG ?_;(try simp only[aM,aP]);refine aV.mk (m+1) ⟨by omega,nN c7b⟩ (by omega) ?_;refine aa2
          .have p8:(ne.any fun s=>decide (aaL p s < 0))=false:=by
            rw[List.any_eq_false];intro s hs;obtain⟨j,jL,rfl⟩:=List.mem_iff_getElem.1 hs;simpa using hj j jL (by omega)
           rw[p8,if_neg (by decide)]at bo;refine bG (dz _ ?_);refine cG ?_;(try simp only[aM,aP]);refine aV.mk (n+1) ⟨by omega,hzero bo⟩ (by omega) ?_;refine aa2
    .rw[vA fun k hk=>hb k hk (by omega)]at gZ;refine bG (ez _ ?_);have qf:=@hF;refine al [2] [2] ?_;refine bn ?_;simp[D.le,D.le.go,aaA];simp[<- gZ,aa0,codeF,bx,ab,D.le,D.le.go]
end Go.Proofs.YtdigkhaofjmgkaaGreatDoor
namespace Go.Proofs
open Go.Shelf
def Tryz.IK:Go.Shelf.Ren:=⟨fun | 189=>128 | 125=>184 | 257=>183 | 128=>227 | 129=>228 | 294=>218 | 295=>219 | 296=>220 | 297=>221 | 298=>222 | 299=>223 | 216=>224 | 300=>225 | 301=>226 | 328=>247 | 329=>248 | 330=>249 | 331=>250 | 332=>251 | 215=>198 | 343=>273 | n=>n,fun | 28=>46 | 3=>3 | 46=>156 | 0=>0 | 51=>300 | 53=>303 | 4=>4 | 183=>324 | 182=>323 | 131=>202 | 5=>5 | 9=>9 | 218=>348 | 222=>352 | 228=>372 | 229=>373 | n=>n,fun | n=>n⟩
theorem Tryz.SJ:Go.Proofs.Lays.n189 prog Tryz.IK:={
 mixed:=by kernel_rfl
 f125:=func184.trans (congrArg some (by kernel_rfl))
 f128:=func227.trans (congrArg some (by kernel_rfl))
 f129:=func228.trans (congrArg some (by kernel_rfl))
 f189:=func128.trans (congrArg some (by kernel_rfl))
 f215:=func198.trans (congrArg some (by kernel_rfl))
 f216:=func224.trans (congrArg some (by kernel_rfl))
 f257:=func183.trans (congrArg some (by kernel_rfl))
 f294:=func218.trans (congrArg some (by kernel_rfl))
 f295:=func219.trans (congrArg some (by kernel_rfl))
 f296:=func220.trans (congrArg some (by kernel_rfl))
 f297:=func221.trans (congrArg some (by kernel_rfl))
 f298:=func222.trans (congrArg some (by kernel_rfl))
 f299:=func223.trans (congrArg some (by kernel_rfl))
 f300:=func225.trans (congrArg some (by kernel_rfl))
 f301:=func226.trans (congrArg some (by kernel_rfl))
 f328:=func247.trans (congrArg some (by kernel_rfl))
 f329:=func248.trans (congrArg some (by kernel_rfl))
 f330:=func249.trans (congrArg some (by kernel_rfl))
 f331:=func250.trans (congrArg some (by kernel_rfl))
 f332:=func251.trans (congrArg some (by kernel_rfl))
 f343:=func273.trans (congrArg some (by kernel_rfl))
 t0:=underlying0
 a0:=isAgg0
 z0:=sizeOf0
 v0:=zeroValue0
 t3:=underlying3
 a3:=isAgg3
 z3:=sizeOf3
 v3:=zeroValue3
 t4:=underlying4
 a4:=isAgg4
 z4:=sizeOf4
 v4:=zeroValue4
 t5:=underlying5
 a5:=isAgg5
 z5:=sizeOf5
 v5:=zeroValue5
 t9:=underlying9
 a9:=isAgg9
 z9:=sizeOf9
 v9:=zeroValue9
 t28:=underlying46
 a28:=isAgg46
 z28:=sizeOf46
 v28:=zeroValue46
 t46:=underlying156
 a46:=isAgg156
 z46:=sizeOf156
 v46:=zeroValue156
 t51:=underlying300
 a51:=isAgg300
 z51:=sizeOf300
 v51:=zeroValue300
 t53:=underlying303
 a53:=isAgg303
 z53:=sizeOf303
 v53:=zeroValue303
 t131:=underlying202
 a131:=isAgg202
 z131:=sizeOf202
 v131:=zeroValue202
 t182:=underlying323
 a182:=isAgg323
 z182:=sizeOf323
 v182:=zeroValue323
 t183:=underlying324
 a183:=isAgg324
 z183:=sizeOf324
 v183:=zeroValue324
 t218:=underlying348
 a218:=isAgg348
 z218:=sizeOf348
 v218:=zeroValue348
 t222:=underlying352
 a222:=isAgg352
 z222:=sizeOf352
 v222:=zeroValue352
 t228:=underlying372
 a228:=isAgg372
 z228:=sizeOf372
 v228:=zeroValue372
 t229:=underlying373
 a229:=isAgg373
 z229:=sizeOf373
 v229:=zeroValue373 }
