/-
  Texts that belong together,in one file: U4,RN,U5,LW,LE0,SC1,SP1,Av36.
-/
import Derived.Test.YthnjfeielmbfkaaGreatDoorSy25
import Derived.Sort.Walk0
set_option linter.unusedSectionVars false
set_option linter.unusedSimpArgs false
set_option linter.unusedVariables false
namespace Go.Proofs.YthnjfeielmbfkaaGreatDoor
open Go.Av
def kAll (all:Bool):List UInt8:=if all then [98,105,116,94,126] else [94,126]
theorem nmsE_kids (all:Bool) (e:Ex):nmsE all e=one1 (nmE all e) ++ nmsL all (kidsR e):=by
 cases e<;>simp [nmsE,kidsR,nmsL,nmE,one1]
theorem nmE_kind (all:Bool) (e:Ex):(nmR e=[]∧one1 (nmE all e)=[])∨(nmR e≠[]∧Lib.contains (kAll all) (kdR e)=false∧one1 (nmE all e)=[])∨(nmR e≠[]∧Lib.contains (kAll all) (kdR e)=true∧one1 (nmE all e)=[nmR e]):=by
 have c1:Lib.contains (kAll true) [98,105,116]=true:=by decide +kernel
 have c2:Lib.contains (kAll false) [98,105,116]=false:=by decide +kernel
 have c3:∀ all,Lib.contains (kAll all) [94]=true:=by decide +kernel
 have c4:∀ all,Lib.contains (kAll all) [126]=true:=by decide +kernel
 cases e with
 | bit s=>
  by_cases hs:s=[]
  ·subst hs;cases all<;>exact .inl ⟨rfl,rfl⟩
  ·cases all with
   | true=>exact .inr (.inr ⟨hs,c1,by simp [nmE,one1,nmR,hs]⟩)
   | false=>exact .inr (.inl ⟨hs,c2,by simp [nmE,one1]⟩)
 | rise s=>
  by_cases hs:s=[]
  ·subst hs;exact .inl ⟨rfl,rfl⟩
  ·exact .inr (.inr ⟨hs,c3 _,by simp [nmE,one1,nmR,hs]⟩)
 | fall s=>
  by_cases hs:s=[]
  ·subst hs;exact .inl ⟨rfl,rfl⟩
  ·exact .inr (.inr ⟨hs,c4 _,by simp [nmE,one1,nmR,hs]⟩)
 | _=>exact .inl ⟨rfl,rfl⟩
def wFn:AV:=.fn (.func 237) [.ref 501 0 0,.ref 502 0 0,.ref 504 0 0]
def wRow (all:Bool) (l:List Tx):List (Nat×Row):=[(501,.box 9 [.d (dS (kAll all))]),(502,.box 169 [.own 503 0 l.length]),(503,.sl 9 1 (l.map fun s=>[dS s])),(504,.box 329 [wFn])]
theorem binS_lt (a b:Tx):binS .lss (bs a) (bs b)=some (True,.bool (decide (a < b))):=by
 simp only [binS,bs_list,bytesLess_eq]
theorem binS_ne (a b:Tx):binS .neq (bs a) (bs b)=some (True,.bool (!decide (a=b))):=by
 simp only [binS,bs_list]
 have h:(a == b)=decide (a=b):=by
  by_cases e:a=b
  ·subst e;exact (beq_self_eq_true a).trans (decide_eq_true rfl).symm
  ·exact (beq_eq_false_iff_ne.2 e).trans (decide_eq_false e).symm
 rw [h]
theorem put_in (m:List (List D)) (z x:List D) (k:Nat) (hk:k≤m.length) (hm:∀ el∈m,el.length=1∧∀ c∈el,D.one c=true) (hz:z.length=1∧∀ c∈z,D.one c=true) :
  ∃ news els2:List (List D),∃ w0:D,((m ++ [z]).drop k).take (m.length+1 - k)=news∧(∀ el∈news,el.length=1)∧(∀ el∈news,∀ c∈el,D.one c=true)∧
   copyEls (m ++ [z]) news (k+1) (m.length+1 - (k+1))=els2∧els2.length=m.length+1∧els2[k]? = some [w0]∧els2.set k x=m.take k ++ x :: m.drop k∧(k=m.length→els2=m ++ [z]):=by
 have h1:((m ++ [z]).drop k).take (m.length+1 - k)=m.drop k ++ [z]:=by
  rw [List.take_of_length_le (by simp),List.drop_append_of_le_length hk]
 have h2:(m.drop k ++ [z]).take (m.length+1 - (k+1))=m.drop k:=by
  rw [List.take_append_of_le_length (by simp),List.take_of_length_le (by simp)]
 have h3:copyEls (m ++ [z]) (m.drop k ++ [z]) (k+1) (m.length+1 - (k+1))=(m ++ [z]).take (k+1) ++ m.drop k:=by
  unfold copyEls;rw [h2,List.drop_of_length_le (l:=m ++ [z]) (by simp;omega),List.append_nil]
 have hmem:∀ el∈m.drop k ++ [z],el.length=1∧∀ c∈el,D.one c=true:=fun el hel=>by
  rcases List.mem_append.1 hel with h | h
  ·exact hm el (List.mem_of_mem_drop h)
  ·rw [List.mem_singleton] at h;subst h;exact hz
 have hl:((m ++ [z]).take (k+1) ++ m.drop k).length=m.length+1:=by simp;omega
 have hkk:k < (m ++ [z]).length:=by simp;omega
 have hgk:((m ++ [z]).take (k+1) ++ m.drop k)[k]? = some ((m ++ [z])[k]):=by
  rw [List.getElem?_append_left (by simp;omega),List.getElem?_take,if_pos (by omega),List.getElem?_eq_getElem hkk]
 have hone:∃ w0,(m ++ [z])[k]=[w0]:=by
  have hq:((m ++ [z])[k]).length=1:=by
   rcases List.mem_append.1 (List.getElem_mem hkk) with h | h
   ·exact (hm _ h).1
   ·rw [List.mem_singleton] at h;rw [h];exact hz.1
  exact List.length_eq_one_iff.1 hq
 obtain ⟨w0,hw0⟩:=hone
 refine ⟨_,_,w0,h1,fun el hel=>(hmem el hel).1,fun el hel=>(hmem el hel).2,h3,hl,by rw [hgk,hw0],?_,fun e=>?_⟩
 ·rw [List.take_succ_eq_append_getElem hkk,List.append_assoc,List.set_append_right _ _ (by simp;omega)]
  have e1:((m ++ [z]).take k).length=k:=by simp;omega
  rw [e1,Nat.sub_self,List.take_append_of_le_length hk]
  rfl
 ·subst e;rw [List.take_of_length_le (by simp),List.drop_of_length_le (by simp),List.append_nil]
set_option maxHeartbeats 32000000 in
set_option maxRecDepth 100000 in
theorem rwalk_at (G:Glob) (hM:HasMax G) (all:Bool):∀ (n:Nat) (e:Ex),SizeOf.sizeOf e≤n→∀ l0:List Tx,l0.length+bE e≤2^39→MC Tryz.prog G [501,502,504] 237 ([.d (dR e)] ++ [.ref 501 0 0,.ref 502 0 0,.ref 504 0 0]) (hlst (wRow all l0)) (.d (.tup [])) (hlst (wRow all (insL l0 (nmsE all e)))):=by
 intro n
 induction n with
 | zero=>intro e hsz;cases e<;>simp at hsz
 | succ n ih=>
  intro e hsz l0 hb
  have hch:∀ x∈kidsR e,∀ l1:List Tx,l1.length+bE x≤2^39→MC Tryz.prog G [501,502,504] 237 ([.d (dR x)] ++ [.ref 501 0 0,.ref 502 0 0,.ref 504 0 0]) (hlst (wRow all l1)) (.d (.tup [])) (hlst (wRow all (insL l1 (nmsE all x)))):=fun x hx=>ih x (by have:=sz_kids hx;omega)
  clear ih
  have hkb:=bE_kids e
  have hln:=bEs_len (kidsR e)
  have hnl:=nmsL_len all (kidsR e)
  have hkind:=nmE_kind all e
  have hon:(one1 (nmE all e)).length≤1:=by unfold one1;split<;>simp
  have hbd:(one1 (nmE all e)).length+bEs (kidsR e)≤bE e:=by
   cases e<;>simp [kidsR,bE,bEs]<;>first | omega | (simp [one1,nmE]<;>omega) | skip
  have hcon:=scontains_spec G hM (kAll all) (kdR e) (by cases all<;>simp [kAll])
  have hkl:(kAll all).length≤5:=by cases all<;>simp [kAll]
  rw [nmsE_kids,insL_app,dR_form,ofR_form];generalize kidsR e=l at hch hkb hln hnl hbd ⊢;generalize kdR e=kd at hcon hkind ⊢;generalize nmR e=nm at hkind ⊢;generalize kR e=kk;generalize hone:one1 (nmE all e)=on at hkind hbd hon ⊢;generalize hout:insL l0 on=out1
  have hol:=insL_len on l0
  rw [hout] at hol;clear hsz;refine MC.of_body (tyOf_good _) Tryz.func237 rfl rfl (rs:=[]) Tryz.results237 (by simp [Tryz.ntmps237]) rfl fun X=>?_;simp only [Tryz.ntmps237]
  have fw:=(Aq @dNum.eq_1 (Aq @dS.eq_1 (Aq @wRow.eq_1 @wFn.eq_1)))
  refine AW_then fun K1 hK1=>?_;refine (fun hgo=>?_) (fun (σ:St) himp=>hK1 σ (AW.imp (τ:=⟨lst [(0,.d (.ip [dS kd,dS nm,.sl kk (l.map fun x=>[dR x])])),(3,.ref 504 0 0)],hlst (wRow all out1)⟩) himp ?_))
  ·rcases hkind with ⟨h1,h2⟩ | ⟨h1,h2,h3⟩ | ⟨h1,h2,h3⟩
   ·subst h1 h2
    have hq:l0=out1:=by rw [← hout];rfl
    subst hq
    have qf:=(Aq fw (Aq @binS_ne @bs_nil))
    refine rdqv [0,2,3,20] [501,502,503,504] ?_;refine AW_ff rfl ?_;refine AW_skip (hgo _ ?_);refine Imp.to' (notIn_ok rfl) (by simp [dNum,dS,wRow,wFn]) (by simp [dNum,dS,wRow,wFn])
   ·subst h3
    have hq:l0=out1:=by rw [← hout];rfl
    subst hq;rw [h2] at hcon
    have hnb:binS .neq (bs nm) ⟨#[]⟩=some (True,.bool true):=by
     have:=binS_ne nm []
     rw [decide_eq_false h1] at this;exact this
    have qf:=(Aq fw @hnb)
    refine rdcv hcon [0,2,3,20] [501,502,503,504] ?_;refine AW_ff rfl ?_;refine AW_skip (hgo _ ?_);refine Imp.to' (notIn_ok rfl) (by simp [dNum,dS,wRow,wFn]) (by simp [dNum,dS,wRow,wFn])
   ·subst h3;rw [h2] at hcon
    have hnb:binS .neq (bs nm) ⟨#[]⟩=some (True,.bool true):=by
     have:=binS_ne nm []
     rw [decide_eq_false h1] at this;exact this
    have qf:=(Aq fw @hnb)
    refine rdcv hcon [0,2,3,20] [501,502,503,504] ?_;refine AW_tt rfl ?_;refine rgq fw [0,2,3,5] [501,502,503,504] ?_;refine AW_then fun K2 hK2=>?_;refine (fun hgo2=>?_) (fun (k:Nat) (hk:k≤l0.length) (hp:∀ i (hi:i < l0.length),i < k→l0[i]'hi < nm) (hx:∀ hk:k < l0.length,¬ l0[k]'hk < nm) (σ:St) himp=>hK2 σ (AW.imp (τ:=⟨lst [(0,.d (.ip [dS kd,dS nm,.sl kk (l.map fun x=>[dR x])])),(2,.ref 502 0 0),(3,.ref 504 0 0),(5,int k)],hlst (wRow all l0)⟩) himp ?_))
    ·refine AW_for (S:=Nat) (fun k=>k≤l0.length∧∀ i (hi:i < l0.length),i < k→l0[i] < nm) (fun k=>⟨lst [(0,.d (.ip [dS kd,dS nm,.sl kk (l.map fun x=>[dR x])])),(2,.ref 502 0 0),(3,.ref 504 0 0),(5,int k)],hlst (wRow all l0)⟩) (fun k=>l0.length - k) 0 ?_ (by simp) ?_
     ·refine Imp.to' (notIn_ok rfl) (by simp [dNum,dS,wRow,wFn]) (by simp [dNum,dS,wRow,wFn])
     ·rintro k ⟨hk,hp⟩
      refine AW_then fun K3 hK3=>?_
      by_cases hkl:k < l0.length
      ·cases hlt:decide (l0[k] < nm) with
       | true=>
        have hb2:binS .lss (bs l0[k]) (bs nm)=some (True,.bool true):=by rw [binS_lt,hlt]
        have qf:=(Aq fw (Aq @hkl @hb2))
        refine rdqv [0,2,3,5,35] [501,502,503,504] ?_;refine AW_tt rfl ?_;refine AW_skip (hK3 _ ?_);refine AW_block ?_;refine AW_re (tyOf_good _) fun K' hK'=>?_;(repeat (refine sxn fun K2 hK2=>?_;simp [dNum,dS,wRow,wFn];(repeat (refine ⟨by omega,?_⟩));refine hK2 _ ?_;clear hK2 K2));refine sxz (hK' _ ?_);clear hK' K';(try simp only [thn,inb]);refine Again.mk (k+1) ⟨by omega,fun i hi hik=>?_⟩ (by omega) ?_
        ·by_cases he:i=k
         ·subst he;exact of_decide_eq_true hlt
         ·exact hp i hi (by omega)
        refine Imp.to' (notIn_ok rfl) (by simp [dNum,dS,wRow,wFn]) (by simp [dNum,dS,wRow,wFn])
       | false=>
        have hb2:binS .lss (bs l0[k]) (bs nm)=some (True,.bool false):=by rw [binS_lt,hlt]
        have qf:=(Aq fw (Aq @hkl @hb2))
        refine rdqv [0,2,3,5,35] [501,502,503,504] ?_;refine AW_ff rfl ?_;refine AW_exit (hgo2 k hk hp (fun _=>of_decide_eq_false hlt) _ ?_);refine Imp.to' (notIn_ok rfl) (by simp [dNum,dS,wRow,wFn]) (by simp [dNum,dS,wRow,wFn])
      ·have qf:=(Aq fw @hkl)
       refine rdqv [0,2,3,5,35] [501,502,503,504] ?_;refine AW_ff rfl ?_;refine AW_exit (hgo2 k hk hp (fun h=>absurd h hkl) _ ?_);refine Imp.to' (notIn_ok rfl) (by simp [dNum,dS,wRow,wFn]) (by simp [dNum,dS,wRow,wFn])
    ·have hins:=insT_at nm l0 k hk hp hx
     have ho2:out1=insT nm l0:=hout.symm
     rw [hins] at ho2
     by_cases hkl:k < l0.length
     ·by_cases he:l0[k]=nm
      ·have hb3:binS .neq (bs l0[k]) (bs nm)=some (True,.bool false):=by rw [binS_ne,he,decide_eq_true rfl];rfl
       rw [if_pos ⟨hkl,he⟩] at ho2
       have hne:¬ k=l0.length:=by omega
       have qf:=(Aq fw (Aq @hkl (Aq @hb3 @hne)))
       refine rdqv [0,2,3,5,52] [501,502,503,504] ?_;refine AW_ff rfl ?_;refine AW_skip (hgo _ ?_);refine Imp.to' (notIn_ok rfl) (by simp [dNum,dS,wRow,wFn,ho2]) (by simp [dNum,dS,wRow,wFn,ho2])
      ·have hb3:binS .neq (bs l0[k]) (bs nm)=some (True,.bool true):=by rw [binS_ne,decide_eq_false he];rfl
       rw [if_neg (fun ⟨_,h⟩=>he h)] at ho2
       have hne:¬ k=l0.length:=by omega
       have qf:=(Aq fw (Aq @hkl (Aq @hb3 @hne)))
       refine rdqv [0,2,3,5,52] [501,502,503,504] ?_;refine AW_tt rfl ?_;refine rg [0,2,3,5] [501,502,503,504] (notIn_ok rfl) fun K' hK'=>?_;(repeat (refine sxn fun K2 hK2=>?_;simp [dNum,dS,wRow,wFn,List.take_of_length_le];(repeat (refine ⟨by omega,?_⟩));refine hK2 _ ?_;clear hK2 K2));refine sxz (hK' _ (AW.st (by simp [dNum,dS,wRow,wFn,List.take_of_length_le];rfl) ?_));clear hK' K'
       have hk1:k+1≤l0.length+1:=by omega
       have hi2:¬ (k:Int)=(l0.length:Int)+1:=by omega
       have hi3:((l0.length:Int)+1 - ((k:Int)+1)).toNat=l0.length+1 - (k+1):=by omega
       have hle:k+(l0.length+1 - k)≤l0.length+1:=by omega
       have hle2:k+1+(l0.length - k)≤l0.length+1:=by omega
       obtain ⟨news,els2,w0,q1,q2,q3,q4,q5,q6,q7,_⟩:=put_in (l0.map fun s=>[dS s]) [dS []] [dS nm] k (by simpa using hk) (by intro el hel;obtain ⟨s,_,rfl⟩:=List.mem_map.1 hel;simp [dS,D.one]) (by simp [dS,D.one])
       have q8:List.take k (l0.map fun s=>[dS s]) ++ [dS nm] :: List.drop k (l0.map fun s=>[dS s])=out1.map fun s=>[dS s]:=by rw [ho2];simp
       rw [q8] at q7
       have q9:out1.length=l0.length+1:=by rw [ho2];simp;omega
       rw [List.length_map] at q1 q4 q5;rw [Nat.add_sub_add_right] at q4;simp only [dS] at q1 q4 q7;rw [← bs_nil] at q1 q4
       have q10:(els2[k]'(by omega)).tail=[]:=by
        have:=q6
        rw [List.getElem?_eq_getElem (by omega)] at this;rw [Option.some.inj this]
        rfl
       have q23:=eq_true (And.intro q2 q3)
       have q2t:=eq_true q2
       have q3t:=eq_true q3
       have hkl1:k < l0.length+1:=by omega
       have qf:=(Aq fw (Aq @hk1 (Aq @hk (Aq @hne (Aq @hi2 (Aq @hi3 (Aq @hle (Aq @hle2 (Aq @q1 (Aq @q23 (Aq @q2t (Aq @q3t @q4))))))))))))
       refine rdqv [0,2,3,5] [501,502,503,504] ?_;refine AW_rde (tyOf_good _) (by kernel_rfl) (by kernel_rfl) fun K' hK'=>?_;(repeat (refine sxd_next fun K2 hK2=>?_;simp [dNum,dS,wRow,wFn,q5,q6,q7,q10,hkl1];(repeat (refine ⟨by omega,?_⟩));refine hK2 _ ?_;clear hK2 K2));refine sxd_nil (hK' _ ?_);clear hK' K';(try simp only [thn,inb]);refine hgo _ ?_;refine Imp.to' (notIn_ok rfl) (by simp [dNum,dS,wRow,wFn,q9,q7,q10]) (by simp [dNum,dS,wRow,wFn,q9,q7,q10])
     ·obtain rfl:k=l0.length:=by omega
      rw [if_neg (fun ⟨h,_⟩=>hkl h),List.take_length,List.drop_length] at ho2
      have qf:=(Aq fw @hkl)
      refine rdqv [0,2,3,5,52] [501,502,503,504] ?_;refine AW_tt rfl ?_;refine rg [0,2,3,5] [501,502,503,504] (notIn_ok rfl) fun K' hK'=>?_;(repeat (refine sxn fun K2 hK2=>?_;simp [dNum,dS,wRow,wFn,List.take_of_length_le];(repeat (refine ⟨by omega,?_⟩));refine hK2 _ ?_;clear hK2 K2));refine sxz (hK' _ (AW.st (by simp [dNum,dS,wRow,wFn,List.take_of_length_le];rfl) ?_));clear hK' K'
      have hi2:¬ (l0.length:Int)=(l0.length:Int)+1:=by omega
      have hi3:¬ (l0.length:Int)+1=0:=by omega
      have q8:(l0.map fun s=>[dS s]) ++ [[dS nm]]=out1.map fun s=>[dS s]:=by rw [ho2];simp
      have q9:out1.length=l0.length+1:=by rw [ho2];simp
      simp only [dS] at q8
      have qf:=(Aq fw (Aq @hi2 (Aq @hi3 (Aq @D.one.eq_1 (Aq @D.one.eq_2 (Aq @D.one.eq_3 @D.one.eq_4))))))
      refine rdqv [0,2,3,5] [501,502,503,504] ?_;refine AW_rde (tyOf_good _) (by kernel_rfl) (by kernel_rfl) fun K' hK'=>?_;(repeat (refine sxd_next fun K2 hK2=>?_;simp [dNum,dS,wRow,wFn];(repeat (refine ⟨by omega,?_⟩));refine hK2 _ ?_;clear hK2 K2));refine sxd_nil (hK' _ ?_);clear hK' K';(try simp only [thn,inb]);refine hgo _ ?_;refine Imp.to' (notIn_ok rfl) (by simp [dNum,dS,wRow,wFn,q9,q8]) (by simp [dNum,dS,wRow,wFn,q9,q8])
  ·simp only [List.singleton_append] at hch;refine rgq fw [3,74,75,76] [501,502,503,504] ?_;refine AW_for (S:=Nat) (fun i=>i≤l.length) (fun i=>⟨lst [(3,.ref 504 0 0),(74,.d (.sl kk (l.map fun x=>[dR x]))),(75,int l.length),(76,int i)],hlst (wRow all (insL out1 (nmsL all (l.take i))))⟩) (fun i=>l.length - i) 0 ?_ (by omega) ?_
   ·refine Imp.to' (notIn_ok rfl) (by simp [dNum,dS,wRow,wFn,nmsL,insL_nil]) (by simp [dNum,dS,wRow,wFn,nmsL,insL_nil])
   ·intro i hi
    refine rgq fw [3,74,75,76,77] [501,502,503,504] ?_;refine AW_then fun K4 hK4=>?_;refine AW_cond' (b:=i < l.length) (by simp [D.le,D.le.go,takeMap,dNum,dS,wRow,wFn]) (fun hc=>?_) (fun hc=>?_)
    ·have hil:i < l.length:=hc
     have h1:=nmsL_take all hil
     have h2:=nmsL_len all (l.take i)
     have h3:=bEs_take hil
     have h4:=insL_len (nmsL all (l.take i)) out1
     have hcc:=hch _ (List.getElem_mem hil) (insL out1 (nmsL all (l.take i))) (by omega)
     rw [← insL_app,← h1] at hcc
     have hf:=dR_form l[i]
     rw [hf] at hcc;refine AW_skip (hK4 _ ?_);refine AW_then fun K5 hK5=>?_;refine AW_block ?_
     have qf:=(Aq fw (Aq @hil @hf))
     refine rgqv [3,7,74,75,76] [501,502,503,504] ?_;refine AW_re (tyOf_good _) fun K' hK'=>?_;(repeat (refine sxn fun K2 hK2=>?_;simp [dNum,dS,wRow,wFn];(repeat (refine ⟨by omega,?_⟩));refine hK2 _ ?_;clear hK2 K2));refine sxn fun K2 hK2=>?_;simp [dNum,dS,wRow,wFn];refine callK.mc (hcc) ?_ ?_ ?_ ?_ ?_<;>simp [dNum,dS,wRow,wFn];refine hK2 _ ?_;clear hK2 K2;(repeat (refine sxn fun K2 hK2=>?_;simp [dNum,dS,wRow,wFn];(repeat (refine ⟨by omega,?_⟩));refine hK2 _ ?_;clear hK2 K2));refine sxz (hK' _ ?_);clear hK' K';refine hK5 _ (AW.norm [3,74,75,76] [501,502,503,504] (notIn_ok rfl) (AW.st (by simp [dNum,dS,wRow,wFn];rfl) ?_));refine AW_re (tyOf_good _) fun K' hK'=>?_;(repeat (refine sxn fun K2 hK2=>?_;simp [dNum,dS,wRow,wFn];(repeat (refine ⟨by omega,?_⟩));refine hK2 _ ?_;clear hK2 K2));refine sxz (hK' _ ?_);clear hK' K';(try simp only [thn,inb]);refine Again.mk (i+1) (by omega) (by omega) ?_;refine Imp.to' (notIn_ok rfl) (by simp [dNum,dS,wRow,wFn]) (by simp [dNum,dS,wRow,wFn])
    ·obtain rfl:i=l.length:=by omega
     refine AW_exit ?_;simp [D.le_refl,List.take_length,wRow,wFn,dS]
end Go.Proofs.YthnjfeielmbfkaaGreatDoor
namespace Go.Proofs.YthnjfeielmbfkaaGreatDoor
open Go.Av
theorem renH_hlst {r r':Nat} (hr:r≠r') (l:List (Nat×Row)) (hl:∀ p∈l,p.1≠r'):renH r r' (hlst l)=hlst (l.map fun p=>(if p.1=r then r' else p.1,p.2.tr (renO r r') (renF r r'))):=by
 funext q
 unfold renH
 induction l with
 | nil=>simp [hlst,List.lookup]
 | cons p l ih=>
  have ih:=ih fun p hp=>hl p (by simp [hp])
  have hp:=hl p (by simp)
  obtain ⟨k,row⟩:=p
  simp only [hlst,List.lookup,List.map_cons] at ih ⊢
  by_cases h1:q=r'
  ·subst h1;simp only [if_true] at ih ⊢
   by_cases h2:k=r
   ·subst h2;simp
   ·have a1:(r == k)=false:=by simpa using fun e=>h2 e.symm
    have a2:(q == k)=false:=by simpa using fun e=>hp e.symm
    simp only [h2,if_false,a1,a2];exact ih
  ·simp only [h1,if_false] at ih ⊢
   by_cases h2:q=r
   ·subst h2;simp only [if_true] at ih ⊢
    by_cases h3:k=q
    ·have a1:(q == r')=false:=by simpa using h1
     simp only [h3,if_true,a1];exact ih
    ·have a1:(q == k)=false:=by simpa using fun e=>h3 e.symm
     simp only [h3,if_false,a1];exact ih
   ·simp only [h2,if_false] at ih ⊢
    by_cases h3:k=r
    ·have a1:(q == k)=false:=by rw [h3];simpa using h2
     have a2:(q == r')=false:=by simpa using h1
     simp only [h3,if_true,a2] at a1 ⊢;rw [a1];exact ih
    ·simp only [h3,if_false]
     by_cases h4:q=k
     ·subst h4;simp
     ·have a1:(q == k)=false:=by simpa using h4
      simp only [a1];exact ih
end Go.Proofs.YthnjfeielmbfkaaGreatDoor
namespace Go.Proofs.YthnjfeielmbfkaaGreatDoor
open Go.Av
set_option maxHeartbeats 8000000 in
theorem named_spec (G:Glob) (hM:HasMax G) (all:Bool) (e:Ex) (hb:bE e≤2^28):PureC Tryz.prog G 187 [dR e,dS (kAll all)] (.sl none ((namesE all e).map fun s=>[dS s])):=by
 have hw:=rwalk_at G hM all _ e (Nat.le_refl _) [] (by simp;omega)
 have hnm:=insL_names all e
 rw [hnm] at hw;simp only [List.singleton_append] at hw;generalize namesE all e=l at hw ⊢;clear hnm;rw [dR_form] at hw ⊢;refine PureC.of_body (tyOf_good _) Tryz.func187 rfl rfl (rs:=[.tmp 4]) Tryz.results187 (by simp [Tryz.ntmps187]) fun X=>?_;simp only [Tryz.ntmps187,List.map]
 have fw:=(Aq @dNum.eq_1 (Aq @dS.eq_1 (Aq @wRow.eq_1 @wFn.eq_1)))
 refine rgq fw [0,3] [3] ?_;refine rgq fw [0,3,5] [3,5] ?_;refine rgq fw [0,3,5,6] [3,5,6] ?_;refine rgq fw [0,5,6] [3,5,6] ?_;refine AW.imp (Imp.ren (r:=3) (r':=501) trivial (by simp)) ?_;refine AW.st (by simp [renO,renF,Go.Av.ren,renH_hlst];rfl) ?_;refine AW.imp (Imp.ren (r:=5) (r':=502) trivial (by simp)) ?_;refine AW.st (by simp [renO,renF,Go.Av.ren,renH_hlst];rfl) ?_;refine AW.imp (Imp.ren (r:=6) (r':=504) trivial (by simp)) ?_;refine AW.st (by simp [renO,renF,Go.Av.ren,renH_hlst];rfl) ?_;refine AW.imp (Imp.adoptCell 502 0 503 9 1 rfl rfl rfl) ?_;refine AW.imp (τ:=⟨lst [(0,.d (.ip [dS (kdR e),dS (nmR e),ofR e])),(5,.ref 502 0 0),(6,.ref 504 0 0)],hlst (wRow all [])⟩) ?_ ?_
 ·refine Imp.to' (fun _ _=>trivial) (by simp [dNum,dS,wRow,wFn,wRow,wFn]) (by simp [dNum,dS,wRow,wFn,wRow,wFn])
 refine rgm fw hw [5] [502,503] ?_;refine rgq (Aq fw (Aq @wRow.eq_1 @wFn.eq_1)) [4] [502,503] ?_
 have htk:List.take l.length (l.map fun s=>[dS s])=l.map fun s=>[dS s]:=List.take_of_length_le (by simp)
 simp only [dS] at htk;refine AW.imp (Imp.freeze 503 trivial) ?_;refine AW.st (by simp [dNum,dS,wRow,wFn,htk];rfl) ?_;refine AW_ret ?_;simp [D.le,D.le.go,takeMap,dNum,dS,wRow,wFn,D.le_refl,D.leGo_refl,htk]
theorem rnames_spec (G:Glob) (hM:HasMax G) (e:Ex) (hb:bE e≤2^28):PureC Tryz.prog G 139 [dR e] (.sl none ((namesE true e).map fun s=>[dS s])):=by
 have hs:=named_spec G hM true e hb
 rw [dR_form] at hs ⊢;generalize namesE true e=l at hs ⊢
 have hk:dS (kAll true) = .v (.string ⟨#[98,105,116,94,126]⟩):=rfl
 rw [hk] at hs;refine PureC.of_body (tyOf_good _) Tryz.func139 rfl rfl (rs:=[.tmp 2]) Tryz.results139 (by simp [Tryz.ntmps139]) fun X=>?_;simp only [Tryz.ntmps139,List.map]
 have fw:=(Aq @dNum.eq_1 (Aq @dS.eq_1 (Aq @wRow.eq_1 @wFn.eq_1)))
 refine rgq fw [0] [] ?_;refine rgc fw hs [2] [] ?_;refine AW_ret ?_;simp [D.le,D.le.go,takeMap,dNum,dS,wRow,wFn,D.le_refl,D.leGo_refl]
end Go.Proofs.YthnjfeielmbfkaaGreatDoor
namespace Go.Proofs.YthnjfeielmbfkaaGreatDoor
open Go.Av
theorem badW_form (p:PgP) (i:Nat) (hi:i < p.names.length):badN p i p.names[i]=if !checkNF p.names[i].name then 5 else if !(decide (1≤p.names[i].kind) && decide (p.names[i].kind≤4)) then 1 else if (decide (p.names[i].kind ≥ 3) && !(decide (1≤p.names[i].count) && decide (p.names[i].count≤7))) || (decide (p.names[i].kind < 3) && decide (p.names[i].count≠0)) then 2 else if numP p p.names[i].name≠i then 9 else 0:=by
 rw [← badN_same p i hi,badN2,name_same]
theorem badGw_some (p:PgP) (k:Int) (s:Tx) (e:Ex):badG p ⟨k,s,some e⟩=if !(decide (1≤k) && decide (k≤6)) then 1 else if numP p s < 0 then 7 else if !decide (wantP k=(p.names.getD (numP p s).toNat ⟨[],0,0⟩).kind) then 1 else if (namesE true e).any fun s=>decide (numP p s < 0) then 7 else 0:=by
 have h:(decide (k < 1) || decide (k > 6)) = !(decide (1≤k) && decide (k≤6)):=by
  by_cases h1:1≤k<;>by_cases h2:k≤6<;>simp [h1,h2]<;>omega
 show (if decide (k < 1) || decide (k > 6) then (1:Int) else _)=_
 rw [h];simp only [Bool.not_eq_true',decide_eq_false_iff_not,ne_eq]
set_option maxHeartbeats 16000000 in
theorem ldw_check (G:Glob) (hF:HasFine G) (hM:HasMax G) (p:PgP) (hp:SmallP p):PureC Tryz.prog G 89 [dPw p] (dFault (checkP p)):=by
 unfold HasFine at hF
 obtain ⟨hnl,hrl,hnn,hcb⟩:=hp
 have hr2:checkP p=if p.names.length > 12∨p.rungs.length > 40 then some (4,none) else match firstBad (badN p) p.names 0 with
  | some (e,i)=>some (e,some i)
  | none=>match firstBad (fun _ r=>badG p r) p.rungs 0 with
   | some (e,i)=>some (e,some (p.names.length+i))
   | none=>none:=rfl
 generalize hres:checkP p=res;rw [hr2] at hres
 have hnum:=fun s=>wnum_spec G p hnl s
 have hb4:=bare0_spec G 4
 simp only [dPw,cPw,dNms,dS] at hnum ⊢;simp only [dNum] at hF hb4;refine PureC.of_body (tyOf_good _) Tryz.func89 rfl rfl (rs:=[.cell 2 64]) Tryz.results89 (by simp [Tryz.ntmps89]) fun X=>?_;simp only [Tryz.ntmps89,List.map];refine rg0 [1,2] [1,2] ?_;refine AW.imp (Imp.freezeB 1 trivial) ?_;refine AW.st (by simp;rfl) ?_;refine AW_then fun K1 hK1=>?_
 by_cases g0:(p.names.length:Int) > 12
 ·rw [if_pos (.inl (by omega))] at hres
  have qf:=@g0
  refine rgqv [1,2,20] [2] ?_;refine AW_tt rfl ?_;refine rgc trivial hb4 [2] [2] ?_;refine AW_ret ?_;simp [D.le,D.le.go,takeMap];simp [← hres,dFault,codeF,placeF,dNum,D.le,D.le.go]
 by_cases g1:(p.rungs.length:Int) > 40
 ·rw [if_pos (.inr (by omega))] at hres
  have qf:=(Aq @g0 @g1)
  refine rgqv [1,2,20] [2] ?_;refine AW_tt rfl ?_;refine rgc trivial hb4 [2] [2] ?_;refine AW_ret ?_;simp [D.le,D.le.go,takeMap];simp [← hres,dFault,codeF,placeF,dNum,D.le,D.le.go]
 rw [if_neg (by omega)] at hres
 have qf:=(Aq @g0 @g1)
 refine rgqv [1,2,20] [2] ?_;refine AW_ff rfl ?_;refine AW_skip (hK1 _ ?_);refine AW_then fun K2 hK2=>?_;refine rg0 [1,2,23,24,25] [2] ?_;refine AW_for (S:=Nat) (fun n=>n≤p.names.length∧∀ k (hk:k < p.names.length),k < n→badN p k p.names[k]=0) (fun n=>⟨lst [(1,.d (.ip [.sl none (p.names.map cNm),.sl none (p.rungs.map cRw')])),(2,.ref 2 0 0),(23,.d (.sl none (p.names.map cNm))),(24,int p.names.length),(25,int n)],hlst [(2,.box 64 [int 0,int 0])]⟩) (fun n=>p.names.length - n) 0 ?_ (by simp) ?_
 ·refine Imp.to' (fun _ _=>trivial) (by simp) (by simp)
 ·rintro n ⟨hn,hb⟩
  refine rg0 [1,2,23,24,25,26] [2] ?_;refine AW_then fun K3 hK3=>?_;refine AW_cond' (b:=n < p.names.length) (by simp [D.le,D.le.go,takeMap]) (fun hc=>?_) (fun hc=>?_)
  ·have hlt:=hc
   have hgo:badN p n p.names[n]≠0→res=some (badN p n p.names[n],some n):=fun hne=>by
    rw [← hres,firstBad_at (i:=0) hlt (fun k hk hkn=>by rw [Nat.zero_add];exact hb k hk hkn) (by rw [Nat.zero_add];exact hne)];simp
   have hnm:=hnn _ (List.getElem_mem hlt)
   have hcells:cNm p.names[n]=[dS p.names[n].name,.v (.int .i64 p.names[n].kind),.v (.int .i64 p.names[n].count)]:=rfl
   have hbad:=badW_form p n hlt
   have hname:=ncheck_spec G p.names[n].name hnm
   generalize hv:badN p n p.names[n]=v at hbad hgo;generalize p.names[n].name=nm at hnm hcells hbad hname;generalize p.names[n].kind=kd at hcells hbad;generalize p.names[n].count=ct at hcells hbad
   have hnu:=hnum nm
   have hw1:=within_spec G kd 1 4
   have hw2:=within_spec G ct 1 7
   simp only [dS] at hcells hname;simp only [dNum] at hw1 hw2;generalize checkNF nm=nf at hname hbad;generalize hq1:(decide (1≤kd) && decide (kd≤4))=q1 at hw1 hbad;generalize hq2:(decide (1≤ct) && decide (ct≤7))=q2 at hw2 hbad;refine AW_skip (hK3 _ ?_);refine AW_then fun K4 hK4=>?_;refine AW_block ?_
   have qf:=(Aq @hlt @hcells)
   refine rgqv [1,2,3,4,23,24,25] [2,4] ?_;refine AW.imp (Imp.freezeB 4 trivial) ?_;refine AW.st (by simp;rfl) ?_;refine AW_then fun K5 hK5=>?_;refine rgc trivial hname [1,2,3,4,23,24,25,33] [2] ?_
   cases nf with
   | false=>
    rw [if_pos (by simp)] at hbad
    have hr:=hgo (by rw [hbad];decide)
    rw [hbad] at hr;refine AW_tt rfl ?_;refine rg0 [2] [2] ?_;refine AW_ret ?_;simp [D.le,D.le.go,takeMap,hr,dFault,codeF,placeF,dNum]
   | true=>
    rw [if_neg (by decide)] at hbad;refine AW_ff rfl ?_;refine AW_skip (hK5 _ ?_);refine AW_then fun K6 hK6=>?_;refine rgc trivial hw1 [1,2,3,4,23,24,25,39] [2] ?_
    cases q1 with
    | false=>
     rw [if_pos (by simp)] at hbad
     have hr:=hgo (by rw [hbad];decide)
     rw [hbad] at hr;refine AW_tt rfl ?_;refine rg0 [2] [2] ?_;refine AW_ret ?_;simp [D.le,D.le.go,takeMap,hr,dFault,codeF,placeF,dNum]
    | true=>
     rw [if_neg (by decide)] at hbad;refine AW_ff rfl ?_;refine AW_skip (hK6 _ ?_);refine AW_then fun K7 hK7=>?_
     by_cases k3:kd ≥ 3
     ·have k3':¬ kd < 3:=by omega
      cases q2 with
      | false=>
       have qf:=(Aq @k3 @k3')
       refine rgcv hw2 [1,2,3,4,23,24,25,60] [2] ?_;rw [if_pos (by simp [k3])] at hbad
       have hr:=hgo (by rw [hbad];decide)
       rw [hbad] at hr;refine AW_tt rfl ?_;refine rg0 [2] [2] ?_;refine AW_ret ?_;simp [D.le,D.le.go,takeMap,hr,dFault,codeF,placeF,dNum]
      | true=>
       rw [if_neg (by simp [k3'])] at hbad
       have qf:=(Aq @k3 @k3')
       refine rgcv hw2 [1,2,3,4,23,24,25,60] [2] ?_;refine AW_ff rfl ?_;refine AW_skip (hK7 _ ?_);refine rgc trivial hnu [1,2,3,23,24,25,68] [2] ?_
       by_cases c9:numP p nm=n
       ·rw [if_neg (by simp [c9])] at hbad;refine AW_cond false (by simp [c9]) (fun h=>by cases h) (fun _=>?_);refine AW_skip (hK4 _ ?_);refine AW_re (tyOf_good _) fun K' hK'=>?_;(repeat (refine sxn fun K2 hK2=>?_;simp;(repeat (refine ⟨by omega,?_⟩));refine hK2 _ ?_;clear hK2 K2));refine sxz (hK' _ ?_);clear hK' K';(try simp only [thn,inb]);refine Again.mk (n+1) ⟨by omega,fun k hk hkn=>?_⟩ (by omega) ?_
        ·by_cases h:k=n
         ·subst h;rw [hv,hbad]
         ·exact hb k hk (by omega)
        refine Imp.to' (fun _ _=>trivial) (by simp) (by simp)
       ·rw [if_pos c9] at hbad
        have hr:=hgo (by rw [hbad];decide)
        rw [hbad] at hr;refine AW_cond true (by simp [c9]) (fun _=>?_) (fun h=>by cases h);refine rg0 [2] [2] ?_;refine AW_ret ?_;simp [D.le,D.le.go,takeMap,hr,dFault,codeF,placeF,dNum]
     ·have k3':kd < 3:=by omega
      by_cases c0:ct=0
      ·rw [if_neg (by simp [k3,c0])] at hbad
       have qf:=(Aq @k3 (Aq @k3' @c0))
       refine rgqv [1,2,3,4,23,24,25,60] [2] ?_;refine AW_ff rfl ?_;refine AW_skip (hK7 _ ?_);refine rgc trivial hnu [1,2,3,23,24,25,68] [2] ?_
       by_cases c9:numP p nm=n
       ·rw [if_neg (by simp [c9])] at hbad;refine AW_cond false (by simp [c9]) (fun h=>by cases h) (fun _=>?_);refine AW_skip (hK4 _ ?_);refine AW_re (tyOf_good _) fun K' hK'=>?_;(repeat (refine sxn fun K2 hK2=>?_;simp;(repeat (refine ⟨by omega,?_⟩));refine hK2 _ ?_;clear hK2 K2));refine sxz (hK' _ ?_);clear hK' K';(try simp only [thn,inb]);refine Again.mk (n+1) ⟨by omega,fun k hk hkn=>?_⟩ (by omega) ?_
        ·by_cases h:k=n
         ·subst h;rw [hv,hbad]
         ·exact hb k hk (by omega)
        refine Imp.to' (fun _ _=>trivial) (by simp) (by simp)
       ·rw [if_pos c9] at hbad
        have hr:=hgo (by rw [hbad];decide)
        rw [hbad] at hr;refine AW_cond true (by simp [c9]) (fun _=>?_) (fun h=>by cases h);refine rg0 [2] [2] ?_;refine AW_ret ?_;simp [D.le,D.le.go,takeMap,hr,dFault,codeF,placeF,dNum]
      ·have qf:=(Aq @k3 (Aq @k3' @c0))
       refine rgqv [1,2,3,4,23,24,25,60] [2] ?_;rw [if_pos (by simp [k3',c0])] at hbad
       have hr:=hgo (by rw [hbad];decide)
       rw [hbad] at hr;refine AW_tt rfl ?_;refine rg0 [2] [2] ?_;refine AW_ret ?_;simp [D.le,D.le.go,takeMap,hr,dFault,codeF,placeF,dNum]
  ·rw [firstBad_ok fun k hk=>by rw [Nat.zero_add];exact hb k hk (by omega)] at hres
   dsimp only at hres
   refine AW_exit (hK2 _ ?_);refine AW_then fun K8 hK8=>?_;refine rg0 [1,2,73,74,75] [2] ?_;refine AW_for (S:=Nat) (fun n=>n≤p.rungs.length∧∀ k (hk:k < p.rungs.length),k < n→badG p p.rungs[k]=0) (fun n=>⟨lst [(1,.d (.ip [.sl none (p.names.map cNm),.sl none (p.rungs.map cRw')])),(2,.ref 2 0 0),(73,.d (.sl none (p.rungs.map cRw'))),(74,int p.rungs.length),(75,int n)],hlst [(2,.box 64 [int 0,int 0])]⟩) (fun n=>p.rungs.length - n) 0 ?_ (by simp) ?_
   ·refine Imp.to' (fun _ _=>trivial) (by simp) (by simp)
   ·rintro n ⟨hn,hb⟩
    refine rg0 [1,2,73,74,75,76] [2] ?_;refine AW_then fun K9 hK9=>?_;refine AW_cond' (b:=n < p.rungs.length) (by simp [D.le,D.le.go,takeMap]) (fun hc=>?_) (fun hc=>?_)
    ·have hlt:=hc
     have hgo:badG p p.rungs[n]≠0→res=some (badG p p.rungs[n],some (p.names.length+n)):=fun hne=>by
      rw [← hres,firstBad_at (i:=0) hlt (fun k hk hkn=>hb k hk hkn) hne];simp
     have hcb2:=hcb p.rungs[n] (List.getElem_mem hlt)
     obtain ⟨⟨kd,nm,cd⟩,hrn⟩:∃ r,p.rungs[n]=r:=⟨_,rfl⟩
     have hzero:badG p ⟨kd,nm,cd⟩=0→∀ k (hk:k < p.rungs.length),k < n+1→badG p p.rungs[k]=0:=fun h0 k hk hkn=>by
      by_cases h:k=n
      ·subst h;rw [hrn];exact h0
      ·exact hb k hk (by omega)
     rw [hrn] at hgo hcb2
     have hcells:cRw' p.rungs[n]=[.v (.int .i64 kd),dS nm,dOR cd]:=by rw [hrn];rfl
     dsimp only at hcb2
     obtain ⟨v,hv⟩:∃ v,badG p ⟨kd,nm,cd⟩=v:=⟨_,rfl⟩
     rw [hv] at hgo hzero
     have hbad:=hv.symm
     have hw1:=within_spec G kd 1 6
     have hnu:=hnum nm
     simp only [dS] at hcells;simp only [dNum] at hw1;refine AW_skip (hK9 _ ?_);refine AW_then fun K10 hK10=>?_;refine AW_block ?_
     have hpl:(p.names.length:Int)+n < 2^63:=by omega
     cases cd with
     | none=>
      have hb1:v=1:=hbad
      have hr:=hgo (by rw [hb1];decide)
      rw [hb1] at hr;simp only [dOR] at hcells;generalize hq1:(decide (1≤kd) && decide (kd≤6))=q1 at hw1
      have qf:=(Aq @hlt @hcells)
      refine rgqv [1,2,5,6,73,74,75] [2,6] ?_;refine AW.imp (Imp.freezeB 6 trivial) ?_;refine AW.st (by simp;rfl) ?_;refine rg0 [1,2,6,7,73,74,75] [2] ?_;refine AW_then fun K11 hK11=>?_
      cases q1 with
      | false=>
       refine rgc trivial hw1 [1,2,6,7,73,74,75,93] [2] ?_;refine AW_tt rfl ?_;refine rg0 [2] [2] ?_;refine AW_ret ?_;simp [D.le,D.le.go,takeMap,hr,dFault,codeF,placeF,dNum]
      | true=>
       refine rgc trivial hw1 [1,2,6,7,73,74,75,93] [2] ?_;refine AW_tt rfl ?_;refine rg0 [2] [2] ?_;refine AW_ret ?_;simp [D.le,D.le.go,takeMap,hr,dFault,codeF,placeF,dNum]
     | some e=>
      obtain ⟨hbe,hnel⟩:=hcb2 e rfl
      rw [badGw_some] at hbad
      have hns:=rnames_spec G hM e hbe
      simp only [dOR] at hcells
      obtain ⟨ec,hec⟩:∃ c,dR e = .ip c:=⟨_,dR_form e⟩
      rw [hec] at hcells hns;generalize namesE true e=ne at hns hnel hbad;simp only [dS] at hns;generalize hq1:(decide (1≤kd) && decide (kd≤6))=q1 at hw1 hbad
      have qf:=(Aq @hlt @hcells)
      refine rgqv [1,2,5,6,73,74,75] [2,6] ?_;refine AW.imp (Imp.freezeB 6 trivial) ?_;refine AW.st (by simp;rfl) ?_;refine rg0 [1,2,6,7,73,74,75] [2] ?_;refine AW_then fun K11 hK11=>?_
      cases q1 with
      | false=>
       refine rgc trivial hw1 [1,2,6,7,73,74,75,93] [2] ?_;rw [if_pos (by simp)] at hbad
       have hr:=hgo (by rw [hbad];decide)
       rw [hbad] at hr;refine AW_tt rfl ?_;refine rg0 [2] [2] ?_;refine AW_ret ?_;simp [D.le,D.le.go,takeMap,hr,dFault,codeF,placeF,dNum]
      | true=>
       rw [if_neg (by decide)] at hbad
       have hkd:1≤kd∧kd≤6:=by simpa using hq1
       refine rgc trivial hw1 [1,2,6,7,73,74,75,93] [2] ?_;refine AW_ff rfl ?_;refine AW_skip (hK11 _ ?_);refine rgc trivial hnu [1,2,6,7,8,73,74,75] [2] ?_;refine AW_then fun K12 hK12=>?_;refine rg0 [1,2,6,7,8,73,74,75,101] [2] ?_
       by_cases c7:numP p nm < 0
       ·rw [if_pos c7] at hbad
        have hr:=hgo (by rw [hbad];decide)
        rw [hbad] at hr;refine AW_cond true (by simp [c7]) (fun _=>?_) (fun h=>by cases h);refine rg0 [2] [2] ?_;refine AW_ret ?_;simp [D.le,D.le.go,takeMap,hr,dFault,codeF,placeF,dNum]
       rw [if_neg c7] at hbad
       obtain ⟨k,hk,hke⟩:=numP_pos c7
       have hgd:p.names.getD (numP p nm).toNat ⟨[],0,0⟩=p.names[k]:=by
        rw [hke,Int.toNat_natCast,List.getD_eq_getElem?_getD,List.getElem?_eq_getElem hk];rfl
       rw [hgd] at hbad;refine AW_cond false (by simp [c7]) (fun h=>by cases h) (fun _=>?_);refine AW_skip (hK12 _ ?_);refine AW_then fun K13 hK13=>?_
       have hcN:cNm p.names[k]=[dS p.names[k].name,.v (.int .i64 p.names[k].kind),.v (.int .i64 p.names[k].count)]:=rfl
       generalize hkk:p.names[k].kind=kk at hbad hcN;rw [hke];refine' lateG (fun hst=>?_) ?_
       rotate_left
       ·by_cases k1:kd=1
        ·refine AW_rb (tyOf_good _) (by kernel_rfl) ([0]) (List.range 13) [1,2,6,7,73,74,75,116] [2] (fun _ _=>trivial) (by kernel_rfl) fun K' hK'=>?_;(repeat (refine sxb_nextO rfl fun K2 hK2=>?_;simp [k1,hk,hcN];(repeat (refine ⟨by omega,?_⟩));refine hK2 _ ?_;clear hK2 K2));refine sxb_nilO (hK' _ ?_);refine AW.st (by simp [k1,hk,hcN];rfl) ?_;clear hK' K';refine AW.st (show _=(⟨lst [(1,.d (.ip [.sl none (p.names.map cNm),.sl none (p.rungs.map cRw')])),(2,.ref 2 0 0),(6,.d (.ip [.v (.int .i64 kd),.v (.string (bs nm)),.ip ec])),(7,int ((p.names.length:Int)+n)),(73,.d (.sl none (p.rungs.map cRw'))),(74,int p.rungs.length),(75,int n),(116,.d (.v (.bool (!decide (wantP kd=kk)))))],hlst [(2,.box 64 [int 0,int 0])]⟩:St) by rw [k1,show wantP 1=2 from rfl]<;>rfl) ?_;exact hst.out
        by_cases k2:kd=2
        ·refine AW_rb (tyOf_good _) (by kernel_rfl) ([0]) (List.range 13) [1,2,6,7,73,74,75,116] [2] (fun _ _=>trivial) (by kernel_rfl) fun K' hK'=>?_;(repeat (refine sxb_nextO rfl fun K2 hK2=>?_;simp [k2,hk,hcN];(repeat (refine ⟨by omega,?_⟩));refine hK2 _ ?_;clear hK2 K2));refine sxb_nilO (hK' _ ?_);refine AW.st (by simp [k2,hk,hcN];rfl) ?_;clear hK' K';refine AW.st (show _=(⟨lst [(1,.d (.ip [.sl none (p.names.map cNm),.sl none (p.rungs.map cRw')])),(2,.ref 2 0 0),(6,.d (.ip [.v (.int .i64 kd),.v (.string (bs nm)),.ip ec])),(7,int ((p.names.length:Int)+n)),(73,.d (.sl none (p.rungs.map cRw'))),(74,int p.rungs.length),(75,int n),(116,.d (.v (.bool (!decide (wantP kd=kk)))))],hlst [(2,.box 64 [int 0,int 0])]⟩:St) by rw [k2,show wantP 2=2 from rfl]<;>rfl) ?_;exact hst.out
        by_cases k3:kd=3
        ·refine AW_rb (tyOf_good _) (by kernel_rfl) ([0]) (List.range 13) [1,2,6,7,73,74,75,116] [2] (fun _ _=>trivial) (by kernel_rfl) fun K' hK'=>?_;(repeat (refine sxb_nextO rfl fun K2 hK2=>?_;simp [k3,hk,hcN];(repeat (refine ⟨by omega,?_⟩));refine hK2 _ ?_;clear hK2 K2));refine sxb_nilO (hK' _ ?_);refine AW.st (by simp [k3,hk,hcN];rfl) ?_;clear hK' K';refine AW.st (show _=(⟨lst [(1,.d (.ip [.sl none (p.names.map cNm),.sl none (p.rungs.map cRw')])),(2,.ref 2 0 0),(6,.d (.ip [.v (.int .i64 kd),.v (.string (bs nm)),.ip ec])),(7,int ((p.names.length:Int)+n)),(73,.d (.sl none (p.rungs.map cRw'))),(74,int p.rungs.length),(75,int n),(116,.d (.v (.bool (!decide (wantP kd=kk)))))],hlst [(2,.box 64 [int 0,int 0])]⟩:St) by rw [k3,show wantP 3=2 from rfl]<;>rfl) ?_;exact hst.out
        by_cases k4:kd=4
        ·refine AW_rb (tyOf_good _) (by kernel_rfl) ([0]) (List.range 13) [1,2,6,7,73,74,75,116] [2] (fun _ _=>trivial) (by kernel_rfl) fun K' hK'=>?_;(repeat (refine sxb_nextO rfl fun K2 hK2=>?_;simp [k4,hk,hcN];(repeat (refine ⟨by omega,?_⟩));refine hK2 _ ?_;clear hK2 K2));refine sxb_nilO (hK' _ ?_);refine AW.st (by simp [k4,hk,hcN];rfl) ?_;clear hK' K';refine AW.st (show _=(⟨lst [(1,.d (.ip [.sl none (p.names.map cNm),.sl none (p.rungs.map cRw')])),(2,.ref 2 0 0),(6,.d (.ip [.v (.int .i64 kd),.v (.string (bs nm)),.ip ec])),(7,int ((p.names.length:Int)+n)),(73,.d (.sl none (p.rungs.map cRw'))),(74,int p.rungs.length),(75,int n),(116,.d (.v (.bool (!decide (wantP kd=kk)))))],hlst [(2,.box 64 [int 0,int 0])]⟩:St) by rw [k4,show wantP 4=3 from rfl]<;>rfl) ?_;exact hst.out
        by_cases k5:kd=5
        ·refine AW_rb (tyOf_good _) (by kernel_rfl) ([0]) (List.range 13) [1,2,6,7,73,74,75,116] [2] (fun _ _=>trivial) (by kernel_rfl) fun K' hK'=>?_;(repeat (refine sxb_nextO rfl fun K2 hK2=>?_;simp [k5,hk,hcN];(repeat (refine ⟨by omega,?_⟩));refine hK2 _ ?_;clear hK2 K2));refine sxb_nilO (hK' _ ?_);refine AW.st (by simp [k5,hk,hcN];rfl) ?_;clear hK' K';refine AW.st (show _=(⟨lst [(1,.d (.ip [.sl none (p.names.map cNm),.sl none (p.rungs.map cRw')])),(2,.ref 2 0 0),(6,.d (.ip [.v (.int .i64 kd),.v (.string (bs nm)),.ip ec])),(7,int ((p.names.length:Int)+n)),(73,.d (.sl none (p.rungs.map cRw'))),(74,int p.rungs.length),(75,int n),(116,.d (.v (.bool (!decide (wantP kd=kk)))))],hlst [(2,.box 64 [int 0,int 0])]⟩:St) by rw [k5,show wantP 5=4 from rfl]<;>rfl) ?_;exact hst.out
        have k6:kd=6:=by omega
        refine AW_rb (tyOf_good _) (by kernel_rfl) ([0]) (List.range 13) [1,2,6,7,73,74,75,116] [2] (fun _ _=>trivial) (by kernel_rfl) fun K' hK'=>?_;(repeat (refine sxb_nextO rfl fun K2 hK2=>?_;simp [k6,hk,hcN];(repeat (refine ⟨by omega,?_⟩));refine hK2 _ ?_;clear hK2 K2));refine sxb_nilO (hK' _ ?_);refine AW.st (by simp [k6,hk,hcN];rfl) ?_;clear hK' K';refine AW.st (show _=(⟨lst [(1,.d (.ip [.sl none (p.names.map cNm),.sl none (p.rungs.map cRw')])),(2,.ref 2 0 0),(6,.d (.ip [.v (.int .i64 kd),.v (.string (bs nm)),.ip ec])),(7,int ((p.names.length:Int)+n)),(73,.d (.sl none (p.rungs.map cRw'))),(74,int p.rungs.length),(75,int n),(116,.d (.v (.bool (!decide (wantP kd=kk)))))],hlst [(2,.box 64 [int 0,int 0])]⟩:St) by rw [k6,show wantP 6=4 from rfl]<;>rfl) ?_;exact hst.out
       ·generalize hwk:(!decide (wantP kd=kk))=wk at hbad
        cases wk with
        | true=>
         rw [if_pos rfl] at hbad
         have hr:=hgo (by rw [hbad];decide)
         rw [hbad] at hr;refine AW_tt rfl ?_;refine rg0 [2] [2] ?_;refine AW_ret ?_;simp [D.le,D.le.go,takeMap,hr,dFault,codeF,placeF,dNum]
        | false=>
         rw [if_neg (by decide)] at hbad;refine AW_ff rfl ?_;refine AW_skip (hK13 _ ?_);refine rgc trivial hns [1,2,7,73,74,75,121,122,123] [2] ?_;refine AW_for (S:=Nat) (fun m=>m≤ne.length∧∀ j (hj:j < ne.length),j < m→¬ numP p ne[j] < 0) (fun m=>⟨lst [(1,.d (.ip [.sl none (p.names.map cNm),.sl none (p.rungs.map cRw')])),(2,.ref 2 0 0),(7,int ((p.names.length:Int)+n)),(73,.d (.sl none (p.rungs.map cRw'))),(74,int p.rungs.length),(75,int n),(121,.d (.sl none (ne.map fun s=>[.v (.string (bs s))]))),(122,int ne.length),(123,int m)],hlst [(2,.box 64 [int 0,int 0])]⟩) (fun m=>ne.length - m) 0 ?_ (by simp) ?_
         ·refine Imp.to' (fun _ _=>trivial) (by simp) (by simp)
         ·rintro m ⟨hm,hj⟩
          refine rg0 [1,2,7,73,74,75,121,122,123,124] [2] ?_;refine AW_then fun K14 hK14=>?_;refine AW_cond' (b:=m < ne.length) (by simp [D.le,D.le.go,takeMap]) (fun hc=>?_) (fun hc=>?_)
          ·have hmt:=hc
           have hnu2:=hnum ne[m]
           have hanyT:numP p ne[m] < 0→v=7:=fun h=>by
            rw [hbad,if_pos (List.any_eq_true.2 ⟨_,List.getElem_mem hmt,by simpa using h⟩)]
           have hnext:¬ numP p ne[m] < 0→∀ j (h:j < ne.length),j < m+1→¬ numP p ne[j] < 0:=fun h0 j h hjm=>by
            by_cases he:j=m
            ·subst he;exact h0
            ·exact hj j h (by omega)
           refine AW_skip (hK14 _ ?_);refine AW_then fun K15 hK15=>?_;refine AW_block ?_
           have qf:=@hmt
           refine rgqv [1,2,7,10,73,74,75,121,122,123] [2] ?_;refine rgc trivial hnu2 [1,2,7,73,74,75,121,122,123,130] [2] ?_
           by_cases c7b:numP p ne[m] < 0
           ·have hb7:=hanyT c7b
            have hr:=hgo (by rw [hb7];decide)
            rw [hb7] at hr;refine AW_cond true (by simp [c7b]) (fun _=>?_) (fun h=>by cases h);refine rg0 [2] [2] ?_;refine AW_ret ?_;simp [D.le,D.le.go,takeMap,hr,dFault,codeF,placeF,dNum]
           ·refine AW_cond false (by simp [c7b]) (fun h=>by cases h) (fun _=>?_);refine AW_skip (hK15 _ ?_);refine AW_re (tyOf_good _) fun K' hK'=>?_;(repeat (refine sxn fun K2 hK2=>?_;simp;(repeat (refine ⟨by omega,?_⟩));refine hK2 _ ?_;clear hK2 K2));refine sxz (hK' _ ?_);clear hK' K';(try simp only [thn,inb]);refine Again.mk (m+1) ⟨by omega,hnext c7b⟩ (by omega) ?_;refine Imp.to' (fun _ _=>trivial) (by simp) (by simp)
          ·have hany:(ne.any fun s=>decide (numP p s < 0))=false:=by
            rw [List.any_eq_false]
            intro s hs
            obtain ⟨j,hjl,rfl⟩:=List.mem_iff_getElem.1 hs
            simpa using hj j hjl (by omega)
           rw [hany,if_neg (by decide)] at hbad;refine AW_exit (hK10 _ ?_);refine AW_re (tyOf_good _) fun K' hK'=>?_;(repeat (refine sxn fun K2 hK2=>?_;simp;(repeat (refine ⟨by omega,?_⟩));refine hK2 _ ?_;clear hK2 K2));refine sxz (hK' _ ?_);clear hK' K';(try simp only [thn,inb]);refine Again.mk (n+1) ⟨by omega,hzero hbad⟩ (by omega) ?_;refine Imp.to' (fun _ _=>trivial) (by simp) (by simp)
    ·rw [firstBad_ok fun k hk=>hb k hk (by omega)] at hres;refine AW_exit (hK8 _ ?_)
     have qf:=@hF
     refine rgqv [2] [2] ?_;refine AW_ret ?_;simp [D.le,D.le.go,takeMap];simp [← hres,dFault,codeF,placeF,dNum,D.le,D.le.go]
end Go.Proofs.YthnjfeielmbfkaaGreatDoor
namespace Go.Proofs.YthnjfeielmbfkaaGreatDoor
open Go.Av
theorem nms_sub {s:Tx}:∀ (n:Nat) (e:Ex),SizeOf.sizeOf e≤n→s∈nmsE false e→s∈nmsE true e
 | 0,e,hn,_=>by cases e<;>simp at hn
 | n+1,e,hn,h=>by
  have many:∀ l:List Ex,(∀ x∈l,SizeOf.sizeOf x≤n)→s∈nmsL false l→s∈nmsL true l:=by
   intro l
   induction l with
   | nil=>intro _ h;simp [nmsL] at h
   | cons x l ih=>
    intro hl h
    rw [nmsL,List.mem_append] at h ⊢
    rcases h with h | h
    ·exact .inl (nms_sub n x (hl x (by simp)) h)
    ·exact .inr (ih (fun y hy=>hl y (by simp [hy])) h)
  have inside:∀ (l:List Ex),SizeOf.sizeOf l≤n→∀ x∈l,SizeOf.sizeOf x≤n:=fun l hl x hx=>by
   have:=List.sizeOf_lt_of_mem hx;omega
  cases e with
  | cst b=>simp [nmsE,nmE,one1] at h
  | bit t=>simp [nmsE,nmE,one1] at h
  | rise t=>exact h
  | fall t=>exact h
  | not e=>exact nms_sub n e (by simp at hn;omega) h
  | and l=>exact many l (inside l (by simp at hn;omega)) h
  | or l=>exact many l (inside l (by simp at hn;omega)) h
theorem names_sub {s:Tx} {e:Ex} (h:s∈namesE false e):s∈namesE true e:=namesE_mem.2 (nms_sub _ e (Nat.le_refl _) (namesE_mem.1 h))
theorem checkP_rung {p:PgP} (h:checkP p=none):∀ r∈p.rungs,(1≤r.kind∧r.kind≤6)∧¬ numP p r.name < 0∧∃ e,r.cond=some e∧∀ s∈namesE true e,¬ numP p s < 0:=fun r hr=>by
 unfold checkP at h
 split at h
 ·cases h
 split at h
 ·cases h
 split at h
 ·cases h
 rename_i hB
 obtain ⟨k,hk,rfl⟩:=List.mem_iff_getElem.1 hr
 have h0:=firstBad_none hB k hk
 generalize p.rungs[k]=r at h0
 obtain ⟨kd,nm,cd⟩:=r
 cases cd with
 | none=>cases (show (1:Int)=0 from h0)
 | some e=>
  rw [badGw_some] at h0
  split at h0
  ·cases h0
  rename_i h1
  split at h0
  ·cases h0
  rename_i h2
  split at h0
  ·cases h0
  split at h0
  ·cases h0
  rename_i h4
  refine ⟨by simpa using h1,h2,e,rfl,fun s hs hn=>h4 ?_⟩;exact List.any_eq_true.2 ⟨s,hs,by simpa using hn⟩
end Go.Proofs.YthnjfeielmbfkaaGreatDoor
namespace Go.Proofs.YthnjfeielmbfkaaGreatDoor
open Go.Av
structure StP where
 is:List Bool
 ct:List Int
def startP (p:PgP):StP:=⟨List.replicate p.names.length false,List.replicate p.names.length 0⟩
def bitF (p:PgP) (l:List Bool) (s:Tx):Bool:=l.getD (numP p s).toNat false
def evC (is was:Tx→Bool):Option Ex→Bool
 | some e=>evE is was e
 | none=>false
def runS (s:StP) (i:Nat) (m:Int) (yes:Bool):StP:=
 let c:=if yes then (if s.ct.getD i 0+1 < m then s.ct.getD i 0+1 else m) else s.ct.getD i 0
 ⟨s.is.set i (decide (m≤c)),s.ct.set i c⟩
def zeroS (s:StP) (i:Nat):StP:=⟨s.is.set i false,s.ct.set i 0⟩
def rungS (p:PgP) (old t:StP) (r:RgP):StP:=
 let i:=(numP p r.name).toNat
 let yes:=evC (bitF p t.is) (bitF p old.is) r.cond
 let m:=(p.names.getD i ⟨[],0,0⟩).count
 if r.kind=1 then ⟨t.is.set i yes,t.ct⟩
 else if r.kind=2 then ⟨t.is.set i (t.is.getD i false || yes),t.ct⟩
 else if r.kind=3 then ⟨t.is.set i (t.is.getD i false && !yes),t.ct⟩
 else if r.kind=4 then (if yes then runS t i m yes else zeroS (runS t i m yes) i)
 else if r.kind=5 then runS t i m yes
 else if r.kind=6 then (if yes then zeroS t i else t)
 else t
def putIn (at':List Int) (inn:List Bool) (is:List Bool):Nat→List Bool
 | 0=>is
 | k+1=>(putIn at' inn is k).set (at'.getD k 0).toNat (inn.getD k false)
def inputP (p:PgP):List Int:=kindN p.names 1 p.names.length
def doP (p:PgP) (s:StP) (inn:List Bool):StP:=p.rungs.foldl (rungS p s) ⟨putIn (inputP p) inn s.is (inputP p).length,s.ct⟩
def stepP (p:PgP) (s:StP) (inn:List Bool):(Int×Option Nat) ⊕ StP:=match checkP p with
 | some e=>.inl e
 | none=>if inn.length≠(inputP p).length∨s.is.length≠p.names.length∨s.ct.length≠p.names.length then .inl (2,none) else .inr (doP p s inn)
def dBl (l:List Bool):D:=.sl none (l.map fun b=>[.v (.bool b)])
def dIl (l:List Int):D:=.sl none (l.map fun n=>[.v (.int .i64 n)])
def cSt (s:StP):List D:=[dBl s.is,dIl s.ct]
def dSt (s:StP):D:=.agg (cSt s)
theorem getD_of {α:Type} {l:List α} {i:Nat} {d:α} (h:i < l.length):l.getD i d=l[i]:=by
 rw [List.getD_eq_getElem?_getD,List.getElem?_eq_getElem h];rfl
theorem numP_lt {p:PgP} {s:Tx} (h:¬ numP p s < 0):(numP p s).toNat < p.names.length∧numP p s=((numP p s).toNat:Int):=by
 obtain ⟨k,hk,hke,_⟩:=idx_pos h
 have e:numP p s=(k:Int):=hke
 rw [e];exact ⟨by simpa using hk,by simp⟩
set_option maxHeartbeats 2000000 in
theorem ask1 (G:Glob) (p:PgP) (hp:p.names.length < 2^62) (s:StP) (hl:s.is.length=p.names.length):TellsOn (fun nm=>¬ numP p nm < 0) G 112 [.ip (cSt s),.ip (cPg p)] (bitF p s.is):=by
 intro nm hn
 have hnum:=lc_num G p hp nm
 obtain ⟨h1,h2⟩:=numP_lt hn
 have hi:(numP p nm).toNat < s.is.length:=by omega
 have hbv:bitF p s.is nm=s.is[(numP p nm).toNat]:=by unfold bitF;exact getD_of hi
 rw [hbv];rw [h2] at hnum;clear h1 h2 hbv hn;simp only [dPg,cPg,dNms,dRgs,dS] at hnum;simp only [cSt,dBl,dIl,cPg,dNms,dRgs];generalize hix:(numP p nm).toNat=i at hnum hi ⊢;clear hix hl hp;generalize p.names.map cNm=NN at hnum ⊢;generalize p.rungs.map cRg=RR at hnum ⊢;generalize s.is=L at hi ⊢;generalize s.ct.map (fun n=>[D.v (.int .i64 n)])=CC;refine PureC.of_body (tyOf_good _) Tryz.func112 rfl rfl (rs:=[.tmp 4]) Tryz.results112 (by simp [Tryz.ntmps112]) fun X=>?_;simp only [Tryz.ntmps112,List.map]
 have fw:=@dS.eq_1
 refine rgq fw [0,1,2] [] ?_
 have qf:=(Aq fw @hi)
 refine rdcv hnum [4] [] ?_;refine AW_ret ?_;simp [D.le,D.le.go,takeMap,dS]
set_option maxHeartbeats 2000000 in
theorem ask2 (G:Glob) (p:PgP) (hp:p.names.length < 2^62) (s:StP) (hl:s.is.length=p.names.length):TellsOn (fun nm=>¬ numP p nm < 0) G 113 [.ip (cSt s),.ip (cPg p)] (bitF p s.is):=by
 intro nm hn
 have hnum:=lc_num G p hp nm
 obtain ⟨h1,h2⟩:=numP_lt hn
 have hi:(numP p nm).toNat < s.is.length:=by omega
 have hbv:bitF p s.is nm=s.is[(numP p nm).toNat]:=by unfold bitF;exact getD_of hi
 rw [hbv];rw [h2] at hnum;clear h1 h2 hbv hn;simp only [dPg,cPg,dNms,dRgs,dS] at hnum;simp only [cSt,dBl,dIl,cPg,dNms,dRgs];generalize hix:(numP p nm).toNat=i at hnum hi ⊢;clear hix hl hp;generalize p.names.map cNm=NN at hnum ⊢;generalize p.rungs.map cRg=RR at hnum ⊢;generalize s.is=L at hi ⊢;generalize s.ct.map (fun n=>[D.v (.int .i64 n)])=CC;refine PureC.of_body (tyOf_good _) Tryz.func113 rfl rfl (rs:=[.tmp 4]) Tryz.results113 (by simp [Tryz.ntmps113]) fun X=>?_;simp only [Tryz.ntmps113,List.map]
 have fw:=@dS.eq_1
 refine rgq fw [0,1,2] [] ?_
 have qf:=(Aq fw @hi)
 refine rdcv hnum [4] [] ?_;refine AW_ret ?_;simp [D.le,D.le.go,takeMap,dS]
def stR (s:StP):List (Nat×Row):=[(7,.box 45 [.own 701 0 s.is.length,.own 702 0 s.ct.length]),(701,.sl 4 1 (s.is.map fun b=>[.v (.bool b)])),(702,.sl 3 1 (s.ct.map fun n=>[.v (.int .i64 n)]))]
set_option maxHeartbeats 4000000 in
theorem run_mc (G:Glob) (s:StP) (i:Nat) (m:Int) (yes:Bool) (hi:i < s.is.length) (hc:i < s.ct.length) (hb:∀ x∈s.ct,0≤x∧x≤2^40):MC Tryz.prog G [7] 115 [.ref 7 0 0,.d (dNum i),.d (dNum m),.d (.v (.bool yes))] (hlst (stR s)) (.d (.tup [])) (hlst (stR (runS s i m yes))):=by
 have hci:s.ct.getD i 0=s.ct[i]:=getD_of hc
 have hbd:=hb s.ct[i] (List.getElem_mem hc)
 have hgc:(s.ct.map fun n=>[D.v (.int .i64 n)])[i]? = some [.v (.int .i64 s.ct[i])]:=by simp [hc]
 simp only [stR,runS,hci]
 cases yes with
 | true=>
  simp only [if_true];refine MC.of_body (tyOf_good _) Tryz.func115 rfl rfl (rs:=[]) Tryz.results115 (by simp [Tryz.ntmps115]) rfl fun X=>?_;simp only [Tryz.ntmps115]
  have fw:=@dNum.eq_1
  refine AW_then fun K1 hK1=>?_;refine rgq fw [0,1,2,8] [7,701,702] ?_;refine AW_tt rfl ?_;refine AW_rdge (tyOf_good _) (by kernel_rfl) [(3,7),(9,7),(11,702),(12,702),(15,702),(16,702)] (by kernel_rfl) fun K' hK'=>?_;(repeat (refine sxg_next fun K2 hK2=>?_;simp [dNum,hc];(repeat (refine ⟨by omega,?_⟩));refine hK2 _ ?_;clear hK2 K2));refine sxg_nil (hK' _ ?_);clear hK' K';refine hK1 _ (AW.norm [0,1,2] [7,701,702] (notIn_ok rfl) (AW.st (by simp [dNum,hc];rfl) ?_));refine AW_rdge (tyOf_good _) (by kernel_rfl) [(3,7),(8,7),(10,702),(11,702),(14,701),(15,701)] (by kernel_rfl) fun K' hK'=>?_;(repeat (refine sxg_next fun K2 hK2=>?_;simp [dNum,hc,hi];(repeat (refine ⟨by omega,?_⟩));refine hK2 _ ?_;clear hK2 K2));refine sxg_nil (hK' _ ?_);clear hK' K';(try simp only [thn,inb]);simp [D.le,D.le.go,List.map_set]
 | false=>
  simp only [Bool.false_eq_true,if_false];refine MC.of_body (tyOf_good _) Tryz.func115 rfl rfl (rs:=[]) Tryz.results115 (by simp [Tryz.ntmps115]) rfl fun X=>?_;simp only [Tryz.ntmps115]
  have fw:=@dNum.eq_1
  refine AW_then fun K1 hK1=>?_;refine rgq fw [0,1,2,8] [7,701,702] ?_;refine AW_ff rfl ?_;refine AW_skip (hK1 _ ?_);refine AW_rdge (tyOf_good _) (by kernel_rfl) [(3,7),(8,7),(10,702),(11,702),(14,701),(15,701)] (by kernel_rfl) fun K' hK'=>?_;(repeat (refine sxg_next fun K2 hK2=>?_;simp [dNum,hc,hi];(repeat (refine ⟨by omega,?_⟩));refine hK2 _ ?_;clear hK2 K2));refine sxg_nil (hK' _ ?_);clear hK' K';(try simp only [thn,inb]);simp [D.le,D.le.go,List.map_set]
end Go.Proofs.YthnjfeielmbfkaaGreatDoor
namespace Go.Proofs.YthnjfeielmbfkaaGreatDoor
open Go.Av
theorem checkP_want {p:PgP} (h:checkP p=none):∀ r∈p.rungs,(p.names.getD (numP p r.name).toNat ⟨[],0,0⟩).kind=wantP r.kind:=fun r hr=>by
 unfold checkP at h
 split at h
 ·cases h
 split at h
 ·cases h
 split at h
 ·cases h
 rename_i hB
 obtain ⟨k,hk,rfl⟩:=List.mem_iff_getElem.1 hr
 have h0:=firstBad_none hB k hk
 generalize p.rungs[k]=r at h0
 obtain ⟨kd,nm,cd⟩:=r
 cases cd with
 | none=>cases (show (1:Int)=0 from h0)
 | some e=>
  rw [badGw_some] at h0
  split at h0
  ·cases h0
  split at h0
  ·cases h0
  split at h0
  ·cases h0
  rename_i h3
  simp only [Bool.not_eq_true',decide_eq_false_iff_not,Classical.not_not] at h3;exact h3.symm
structure InvS (p:PgP) (s:StP):Prop where
 l1:s.is.length=p.names.length
 l2:s.ct.length=p.names.length
 lo:∀ k,0≤s.ct.getD k 0
 hi:∀ k (hk:k < p.names.length),s.ct.getD k 0≤p.names[k].count
 at':∀ k (hk:k < p.names.length),3≤p.names[k].kind→s.is.getD k false=decide (s.ct.getD k 0=p.names[k].count)
theorem getD_rep {α:Type} (n k:Nat) (x:α):(List.replicate n x).getD k x=x:=by
 rw [List.getD_eq_getElem?_getD,List.getElem?_replicate]
 split<;>rfl
theorem getD_set_same {α:Type} {l:List α} {i:Nat} {x d:α} (h:i < l.length):(l.set i x).getD i d=x:=by
 rw [List.getD_eq_getElem?_getD,List.getElem?_set_self h];rfl
theorem getD_set_other {α:Type} {l:List α} {i k:Nat} {x d:α} (h:i≠k):(l.set i x).getD k d=l.getD k d:=by
 rw [List.getD_eq_getElem?_getD,List.getElem?_set_ne h,List.getD_eq_getElem?_getD]
theorem start_inv {p:PgP} (h:GoodP p):InvS p (startP p):=by
 refine ⟨by simp [startP],by simp [startP],fun k=>?_,fun k hk=>?_,fun k hk h3=>?_⟩
 ·show 0≤(List.replicate _ (0:Int)).getD k 0
  rw [getD_rep];exact Int.le_refl _
 ·show (List.replicate _ (0:Int)).getD k 0≤_
  rw [getD_rep]
  rcases h.count _ (List.getElem_mem hk) with h1 | h1<;>omega
 ·show (List.replicate _ false).getD k false=decide ((List.replicate _ (0:Int)).getD k 0=_)
  rw [getD_rep,getD_rep]
  rcases h.count _ (List.getElem_mem hk) with h1 | h1
  ·omega
  ·exact (decide_eq_false (by omega)).symm
theorem set_inv {p:PgP} {t:StP} (ht:InvS p t) {i:Nat} (hi:i < p.names.length) (hk:p.names[i].kind < 3) (b:Bool):InvS p ⟨t.is.set i b,t.ct⟩:=by
 refine ⟨by simp [ht.l1],ht.l2,ht.lo,ht.hi,fun k hk' h3=>?_⟩
 have hne:i≠k:=fun e=>by subst e;omega
 show (t.is.set i b).getD k false=_
 rw [getD_set_other hne];exact ht.at' k hk' h3
theorem zero_inv {p:PgP} (hg:GoodP p) {t:StP} (ht:InvS p t) {i:Nat} (hi:i < p.names.length):InvS p (zeroS t i):=by
 refine ⟨by simp [zeroS,ht.l1],by simp [zeroS,ht.l2],fun k=>?_,fun k hk=>?_,fun k hk h3=>?_⟩
 ·show 0≤(t.ct.set i 0).getD k 0
  by_cases e:i=k
  ·subst e;rw [getD_set_same (by rw [ht.l2];exact hi)];exact Int.le_refl _
  ·rw [getD_set_other e];exact ht.lo k
 ·show (t.ct.set i 0).getD k 0≤_
  by_cases e:i=k
  ·subst e;rw [getD_set_same (by rw [ht.l2];exact hi)]
   rcases hg.count _ (List.getElem_mem hk) with h1 | h1<;>omega
  ·rw [getD_set_other e];exact ht.hi k hk
 ·show (t.is.set i false).getD k false=decide ((t.ct.set i 0).getD k 0=_)
  by_cases e:i=k
  ·subst e;rw [getD_set_same (by first | (rw [ht.l1];exact hi) | (rw [ht.l2];exact hi)),getD_set_same (by first | (rw [ht.l2];exact hi) | (rw [ht.l1];exact hi))]
   rcases hg.count _ (List.getElem_mem hk) with h1 | h1
   ·omega
   ·exact (decide_eq_false (by omega)).symm
  ·rw [getD_set_other e,getD_set_other e];exact ht.at' k hk h3
theorem run_inv {p:PgP} (hg:GoodP p) {t:StP} (ht:InvS p t) {i:Nat} (hi:i < p.names.length) (yes:Bool):InvS p (runS t i p.names[i].count yes):=by
 have h0:=ht.lo i
 have h1:=ht.hi i hi
 have hc0:=hg.count _ (List.getElem_mem hi)
 obtain ⟨c,hcd,hc⟩:∃ c,c=(if yes then (if t.ct.getD i 0+1 < p.names[i].count then t.ct.getD i 0+1 else p.names[i].count) else t.ct.getD i 0)∧0≤c∧c≤p.names[i].count:=⟨_,rfl,by split<;>(try split)<;>omega,by split<;>(try split)<;>omega⟩
 have e:runS t i p.names[i].count yes=⟨t.is.set i (decide (p.names[i].count≤c)),t.ct.set i c⟩:=by
  rw [hcd];rfl
 rw [e];refine ⟨by simp [ht.l1],by simp [ht.l2],fun k=>?_,fun k hk=>?_,fun k hk h3=>?_⟩
 ·show 0≤(t.ct.set i c).getD k 0
  by_cases e:i=k
  ·subst e;rw [getD_set_same (by rw [ht.l2];exact hi)];omega
  ·rw [getD_set_other e];exact ht.lo k
 ·show (t.ct.set i c).getD k 0≤_
  by_cases e:i=k
  ·subst e;rw [getD_set_same (by rw [ht.l2];exact hi)];omega
  ·rw [getD_set_other e];exact ht.hi k hk
 ·show (t.is.set i _).getD k false=decide ((t.ct.set i c).getD k 0=_)
  by_cases e:i=k
  ·subst e;rw [getD_set_same (by first | (rw [ht.l1];exact hi) | (rw [ht.l2];exact hi)),getD_set_same (by first | (rw [ht.l2];exact hi) | (rw [ht.l1];exact hi))]
   congr 1
   exact propext ⟨fun h=>by omega,fun h=>by omega⟩
  ·rw [getD_set_other e,getD_set_other e];exact ht.at' k hk h3
theorem rung_at {p:PgP} (hc:checkP p=none) {r:RgP} (hr:r∈p.rungs):∃ i,∃ hi:i < p.names.length,numP p r.name=(i:Int)∧p.names[i].kind=wantP r.kind∧p.names.getD i ⟨[],0,0⟩=p.names[i]:=by
 obtain ⟨_,h2,_⟩:=checkP_rung hc r hr
 obtain ⟨h3,h4⟩:=numP_lt h2
 have h5:=checkP_want hc r hr
 have h6:p.names.getD (numP p r.name).toNat ⟨[],0,0⟩=p.names[(numP p r.name).toNat]:=getD_of h3
 rw [h6] at h5;exact ⟨_,h3,h4,h5,h6⟩
theorem rung_inv {p:PgP} (hc:checkP p=none) {r:RgP} (hr:r∈p.rungs) (old:StP) {t:StP} (ht:InvS p t):InvS p (rungS p old t r)∧∀ k (hk:k < p.names.length),p.names[k].kind=1→(rungS p old t r).is.getD k false=t.is.getD k false:=by
 have hg:=checkP_good hc
 obtain ⟨i,hi,hn,hw,hd⟩:=rung_at hc hr
 obtain ⟨hk,_⟩:=checkP_rung hc r hr
 unfold rungS;simp only [hn,Int.toNat_natCast,hd]
 have hw1:p.names[i].kind≠1:=by rw [hw];unfold wantP;split<;>(try split)<;>omega
 have off:∀ k (hk:k < p.names.length),p.names[k].kind=1→i≠k:=fun k hk h1 e=>by subst e;exact hw1 h1
 have hlow:r.kind≤3→p.names[i].kind < 3:=fun h=>by rw [hw];unfold wantP;rw [if_pos h];omega
 split
 ·exact ⟨set_inv ht hi (hlow (by omega)) _,fun k hk h1=>getD_set_other (off k hk h1)⟩
 split
 ·exact ⟨set_inv ht hi (hlow (by omega)) _,fun k hk h1=>getD_set_other (off k hk h1)⟩
 split
 ·exact ⟨set_inv ht hi (hlow (by omega)) _,fun k hk h1=>getD_set_other (off k hk h1)⟩
 split
 ·split
  ·exact ⟨run_inv hg ht hi _,fun k hk h1=>getD_set_other (off k hk h1)⟩
  ·refine ⟨zero_inv hg (run_inv hg ht hi _) hi,fun k hk h1=>?_⟩
   show ((runS t i _ _).is.set i false).getD k false=_
   rw [getD_set_other (off k hk h1)];exact getD_set_other (off k hk h1)
 split
 ·exact ⟨run_inv hg ht hi _,fun k hk h1=>getD_set_other (off k hk h1)⟩
 split
 ·split
  ·exact ⟨zero_inv hg ht hi,fun k hk h1=>getD_set_other (off k hk h1)⟩
  ·exact ⟨ht,fun k hk h1=>rfl⟩
 ·exact ⟨ht,fun k hk h1=>rfl⟩
theorem rungs_inv {p:PgP} (hc:checkP p=none) (old:StP):∀ (l:List RgP) {t:StP},(∀ r∈l,r∈p.rungs)→InvS p t→InvS p (l.foldl (rungS p old) t)∧∀ k (hk:k < p.names.length),p.names[k].kind=1→(l.foldl (rungS p old) t).is.getD k false=t.is.getD k false
 | [],t,_,ht=>⟨ht,fun k hk h1=>rfl⟩
 | r :: l,t,hl,ht=>by
  obtain ⟨h1,h2⟩:=rung_inv hc (hl r (by simp)) old ht
  obtain ⟨h3,h4⟩:=rungs_inv hc old l (fun r hr=>hl r (by simp [hr])) h1
  exact ⟨h3,fun k hk hk1=>(h4 k hk hk1).trans (h2 k hk hk1)⟩
theorem kindN_mem {l:List NmP} {k:Int} {x:Int}:∀ {n:Nat},n≤l.length→(x∈kindN l k n↔∃ i,∃ hi:i < l.length,i < n∧x=(i:Int)∧l[i].kind=k)
 | 0,_=>by simp [kindN]
 | n+1,hn=>by
  rw [kindN_succ (by omega),List.mem_append,kindN_mem (by omega)]
  constructor
  ·rintro (⟨i,hi,h1,h2,h3⟩ | h)
   ·exact ⟨i,hi,by omega,h2,h3⟩
   ·split at h
    ·rename_i hk
     exact ⟨n,by omega,by omega,by simpa using h,hk⟩
    ·cases h
  ·rintro ⟨i,hi,h1,h2,h3⟩
   by_cases e:i=n
   ·subst e
    right;rw [if_pos h3];simp [h2]
   ·exact .inl ⟨i,hi,by omega,h2,h3⟩
theorem kindN_nodup {l:List NmP} {k:Int}:∀ {n:Nat},n≤l.length→(kindN l k n).Nodup
 | 0,_=>by simp [kindN]
 | n+1,hn=>by
  rw [kindN_succ (by omega),List.nodup_append];refine ⟨kindN_nodup (by omega),by split<;>simp,fun a ha b hb e=>?_⟩;subst e
  obtain ⟨i,hi,h1,h2,_⟩:=(kindN_mem (by omega)).1 ha
  split at hb
  ·have:a=(n:Int):=by simpa using hb
   omega
  ·cases hb
theorem input_at {p:PgP} {j:Nat} (hj:j < (inputP p).length):∃ i,∃ hi:i < p.names.length,(inputP p)[j]=(i:Int)∧p.names[i].kind=1:=by
 obtain ⟨i,hi,_,h2,h3⟩:=(kindN_mem (Nat.le_refl _)).1 (List.getElem_mem hj)
 exact ⟨i,hi,h2,h3⟩
theorem putIn_succ {at':List Int} {inn is:List Bool} {k i:Nat} (h:k < at'.length) (hi:at'[k]=(i:Int)):putIn at' inn is (k+1)=(putIn at' inn is k).set i (inn.getD k false):=by
 rw [putIn,getD_of h,hi];rfl
theorem putIn_inv {p:PgP} (inn:List Bool) {s:StP} (hs:InvS p s):∀ k,k≤(inputP p).length→InvS p ⟨putIn (inputP p) inn s.is k,s.ct⟩∧∀ j (hj:j < k) (hj2:j < (inputP p).length),(putIn (inputP p) inn s.is k).getD (inputP p)[j].toNat false=inn.getD j false
 | 0,_=>⟨hs,fun j hj=>absurd hj (by omega)⟩
 | k+1,hk=>by
  obtain ⟨h1,h2⟩:=putIn_inv inn hs k (by omega)
  obtain ⟨i,hi,he,h3⟩:=input_at (p:=p) (j:=k) (by omega)
  rw [putIn_succ (by omega) he];refine ⟨set_inv h1 hi (by omega) _,fun j hj hj2=>?_⟩
  by_cases e:j=k
  ·subst e;rw [he,Int.toNat_natCast,getD_set_same (by rw [h1.l1];exact hi)]
  ·have hne:i≠(inputP p)[j].toNat:=fun e2=>by
    obtain ⟨i2,hi2,he2,_⟩:=input_at (p:=p) hj2
    rw [he2,Int.toNat_natCast] at e2
    have:(inputP p)[j]=(inputP p)[k]:=by rw [he,he2,e2]
    exact e ((List.getElem_inj (kindN_nodup (Nat.le_refl _))).1 this)
   rw [getD_set_other hne];exact h2 j (by omega) hj2
theorem do_inv {p:PgP} (hc:checkP p=none) {s:StP} (hs:InvS p s) (inn:List Bool):InvS p (doP p s inn)∧∀ j (hj:j < (inputP p).length),(doP p s inn).is.getD (inputP p)[j].toNat false=inn.getD j false:=by
 obtain ⟨h1,h2⟩:=putIn_inv inn hs (inputP p).length (Nat.le_refl _)
 obtain ⟨h3,h4⟩:=rungs_inv hc s p.rungs (fun r hr=>hr) h1
 refine ⟨h3,fun j hj=>?_⟩
 obtain ⟨i,hi,he,hk⟩:=input_at hj
 have:=h2 j hj hj
 rw [he,Int.toNat_natCast] at this ⊢;exact (h4 i hi hk).trans this
def playP (p:PgP) (s:StP):List (List Bool)→List StP
 | []=>[]
 | x :: l=>doP p s x :: playP p (doP p s x) l
theorem playP_len (p:PgP):∀ (s:StP) (l:List (List Bool)),(playP p s l).length=l.length
 | _,[]=>rfl
 | s,x :: l=>by rw [playP,List.length_cons,List.length_cons,playP_len]
def behindP (p:PgP) (s:StP) (l:List (List Bool)) (k:Nat):StP:=(l.take k).foldl (doP p) s
theorem behind_succ (p:PgP) (s:StP) {l:List (List Bool)} {k:Nat} (hk:k < l.length):behindP p s l (k+1)=doP p (behindP p s l k) l[k]:=by
 unfold behindP;rw [List.take_succ_eq_append_getElem hk,List.foldl_append];rfl
theorem playP_get (p:PgP):∀ (s:StP) (l:List (List Bool)) (k:Nat) (hk:k < (playP p s l).length),(playP p s l)[k]=behindP p s l (k+1)
 | s,x :: l,0,_=>rfl
 | s,x :: l,k+1,hk=>by
  have:=playP_get p (doP p s x) l k (by simpa [playP] using hk)
  simp only [playP,List.getElem_cons_succ];rw [this]
  rfl
theorem playP_take (p:PgP) (s:StP) {l:List (List Bool)} {k:Nat} (hk:k < l.length):(playP p s l).take (k+1)=(playP p s l).take k ++ [behindP p s l (k+1)]:=by
 have hk':k < (playP p s l).length:=by rw [playP_len];exact hk
 rw [List.take_succ_eq_append_getElem hk',playP_get]
theorem behind_inv {p:PgP} (hc:checkP p=none) (l:List (List Bool)):∀ k,k≤l.length→InvS p (behindP p (startP p) l k)
 | 0,_=>start_inv (checkP_good hc)
 | k+1,hk=>by
  rw [behind_succ _ _ (by omega)];exact (do_inv hc (behind_inv hc l k (by omega)) _).1
theorem inv_small {p:PgP} (hc:checkP p=none) {s:StP} (hs:InvS p s):∀ x∈s.ct,0≤x∧x≤2^20:=fun x hx=>by
 obtain ⟨k,hk,rfl⟩:=List.mem_iff_getElem.1 hx
 have hk2:k < p.names.length:=by rw [← hs.l2];exact hk
 have h1:=hs.lo k
 have h2:=hs.hi k hk2
 rw [getD_of hk] at h1 h2
 rcases (checkP_good hc).count _ (List.getElem_mem hk2) with h3 | h3<;>omega
end Go.Proofs.YthnjfeielmbfkaaGreatDoor
namespace Go.Av
section
variable {P:Program} {T:Ty} {Mv X:Nat→Prop} {G:Glob} {N:Fr} {w w':World} {μ:Mu} {a:Act} {σ:St} {ops:Array Oper} {db:List Nat} {fp:List (Nat×Nat)}
def QStep (P:Program) (T:Ty) (Mv:Nat→Prop) (G:Glob) (N:Fr) (db:List Nat) (fp:List (Nat×Nat)) (i:Nat) (o:Oper) (σ σ':St):Prop:=
 FStep P T Mv G N db i o σ σ'∧(db.contains i=false→touchC G fp σ.env i o.op)
theorem FStep.env {i:Nat} {o:Oper} {σ σ':St} (h:FStep P T Mv G N db i o σ σ'):∃ v,σ'.env=putd σ.env o.dst v:=by
 rcases h.2.2 with ⟨_,c,y,_,_,rfl⟩ | ⟨_,_,x,H',_,rfl⟩
 ·exact ⟨_,rfl⟩
 ·exact ⟨_,rfl⟩
def compatQ (db:List Nat) (fp:List (Nat×Nat)) (ops:Array Oper) (i j:Nat) (oi oj:Oper):Bool:=compatB db ops i j oi oj || (!db.contains i && !db.contains j && oi.apart ops oj && isLS oi.op && isLS oj.op && match fp.lookup i,fp.lookup j with
 | some r,some r'=>!(r == r')
 | _,_=>false)
theorem qswap {i j:Nat} {oi oj:Oper} (hc:compatQ db fp ops i j oi oj=true) {σ σ1 σ2:St} (h1:QStep P T Mv G N db fp i oi σ σ1) (h2:QStep P T Mv G N db fp j oj σ1 σ2) :
  ∃ σ3,QStep P T Mv G N db fp j oj σ σ3∧QStep P T Mv G N db fp i oi σ3 σ2:=by
 obtain ⟨s1,t1⟩:=h1
 obtain ⟨s2,t2⟩:=h2
 have hap:oi.apart ops oj=true:=by
  simp only [compatQ,compatB,Bool.or_eq_true,Bool.and_eq_true] at hc
  rcases hc with hc | hc
  ·exact hc.1
  ·exact hc.1.1.1.2
 have agj:∀ v,Agree oj.op (putd σ.env oi.dst v) σ.env:=fun v t ht=>(agree_put hap (e:=σ.env) (v:=v)).1 t (looks_of_op ht)
 have agi:∀ v,Agree oi.op σ.env (putd σ.env oj.dst v):=fun v t ht=>((agree_put hap (e:=σ.env) (v:=v)).2.1 t (looks_of_op ht)).symm
 have hne:=(agree_put hap (e:=σ.env) (v:=und)).2.2
 obtain ⟨v1,ev1⟩:=s1.env
 have main:∃ σ3,FStep P T Mv G N db j oj σ σ3∧FStep P T Mv G N db i oi σ3 σ2:=by
  simp only [compatQ,Bool.or_eq_true] at hc
  rcases hc with hc | hc
  ·exact fswap hc s1 s2
  ·simp only [Bool.and_eq_true,Bool.not_eq_true'] at hc
   obtain ⟨⟨⟨⟨⟨bi,bj⟩,_⟩,li⟩,lj⟩,hfp⟩:=hc
   have t1':=t1 bi
   have t2':=t2 bj
   cases hfi:fp.lookup i with
   | none=>simp [hfi] at hfp
   | some r=>
    cases hfj:fp.lookup j with
    | none=>simp [hfi,hfj] at hfp
    | some r'=>
     have hr:r≠r':=by simpa [hfi,hfj] using hfp
     obtain ⟨di,gi,s1⟩:=s1
     obtain ⟨dj,gj,s2⟩:=s2
     rcases s1 with ⟨b,_⟩ | ⟨_,k1,x,H',e1,rfl⟩
     ·rw [bi] at b;cases b
     rcases s2 with ⟨b,_⟩ | ⟨_,k2,z,H2,e2,rfl⟩
     ·rw [bj] at b;cases b
     dsimp only at e2 t2' ev1
     simp only [touchC,hfi] at t1';simp only [touchC,hfj] at t2'
     obtain ⟨u,rfl,loc1⟩:=e1.touch t1'
     have e2:=e2.congr k2 (agj _)
     obtain ⟨u',rfl,loc2⟩:=e2.touch (onRow_congr (agj _) t2')
     refine ⟨⟨putd σ.env oj.dst z,pset σ.H r' u'⟩,⟨dj,gj,.inr ⟨bj,k2,z,pset σ.H r' u',loc2 σ.H (pset_ne (H:=σ.H) (u:=u) (Ne.symm hr)).symm,rfl⟩⟩,di,gi,.inr ⟨bi,k1,x,pset (pset σ.H r' u') r u,(loc1 (pset σ.H r' u') (pset_ne hr)).congr k1 (agi _),?_⟩⟩;rw [pset_comm hr,putd_comm hne]
 obtain ⟨σ3,f1,f2⟩:=main
 obtain ⟨v3,ev3⟩:=f1.env
 refine ⟨σ3,⟨f1,fun hb=>?_⟩,f2,fun hb=>?_⟩
 ·have h:=t2 hb
  rw [ev1] at h;exact touchC_congr (agj _) h
 ·rw [ev3];exact touchC_congr (agi _) (t1 hb)
def runQ (P:Program) (T:Ty) (Mv:Nat→Prop) (G:Glob) (N:Fr) (db:List Nat) (fp:List (Nat×Nat)) (ops:Array Oper):List Nat→St→St→Prop
 | [],σ,σ'=>σ=σ'
 | i :: l,σ,σ'=>∃ o,ops[i]? = some o∧∃ σ1,QStep P T Mv G N db fp i o σ σ1∧runQ P T Mv G N db fp ops l σ1 σ'
theorem runQ_front {p:Nat} {op:Oper} (hp:ops[p]? = some op):∀ (l1:List Nat) {l2:List Nat} {σ σ':St},(∀ q∈l1,∀ oq,ops[q]? = some oq→compatQ db fp ops q p oq op=true)→runQ P T Mv G N db fp ops (l1 ++ p :: l2) σ σ'→runQ P T Mv G N db fp ops (p :: (l1 ++ l2)) σ σ':=by
 intro l1
 induction l1 with
 | nil=>intro l2 σ σ' _ h;exact h
 | cons q l1 ih=>
  intro l2 σ σ' hall h
  obtain ⟨oq,hq,σ1,s1,rest⟩:=h
  obtain ⟨o',ho',σ2,s2,rest2⟩:=ih (fun q' hq'=>hall q' (by simp [hq'])) rest
  rw [hp] at ho'
  obtain rfl:=Option.some.inj ho'
  obtain ⟨σ3,f1,f2⟩:=qswap (hall q (by simp) oq hq) s1 s2
  exact ⟨op,hp,σ3,f1,oq,hq,σ2,f2,rest2⟩
def okDrawQ (db:List Nat) (fp:List (Nat×Nat)) (ord:List Nat) (ops:Array Oper):Bool:=
 let t:=tb ops
 ord.length == ops.size && (ord.all fun i=>decide (i < ops.size)) && ((List.range ops.size).all fun i=>ord.contains i) && decide ord.Nodup &&
 ((List.range ops.size).all fun j=>match ops[j]? with
  | some oj=>oj.after.all fun e=>!Region.binds .any e || e.on < j
  | none=>true) &&
 go t ord
where
 go (t:List Nat):List Nat→Bool
 | []=>true
 | a :: l=>(l.all fun b=>match ops[a]?,ops[b]? with
  | some oa,some ob=>(oa.after.all fun e=>!Region.binds .any e || !(e.on == b)) && ((t.getD b 0).testBit a || compatQ db fp ops a b oa ob)
  | _,_=>true) && go t l
def PairQ (db:List Nat) (fp:List (Nat×Nat)) (ops:Array Oper) (a b:Nat):Prop:=∀ oa ob,ops[a]? = some oa→ops[b]? = some ob→
 (∀ e∈oa.after,Region.binds .any e=true→e.on≠b)∧(((tb ops).getD b 0).testBit a=true∨compatQ db fp ops a b oa ob=true)
theorem pairsQ_of:∀ {l:List Nat},okDrawQ.go db fp ops (tb ops) l=true→l.Pairwise (PairQ db fp ops)
 | [],_=>.nil
 | a :: l,h=>by
  simp only [okDrawQ.go,Bool.and_eq_true] at h;refine .cons (fun b hb oa ob hoa hob=>?_) (pairsQ_of h.2)
  have:=List.all_eq_true.1 h.1 b hb
  simp only [hoa,hob,Bool.and_eq_true,Bool.or_eq_true] at this;refine ⟨fun e he hbi heq=>?_,this.2⟩
  have h1:=Array.all_eq_true_iff_forall_mem.1 this.1 e he
  simp [hbi,heq] at h1
theorem anyQ_ok (hg:Good P T) (hlt:∀ j oj,ops[j]? = some oj→∀ e∈oj.after,Region.binds .any e=true→e.on < j) {Q:Exit→St→Prop} {w0:World} {μ0:Mu} {σn:St} (hQ:Q .normal σn):∀ (n:Nat) (R:List Nat) (listed:Array Bool) (w:World) (μ:Mu) (a:Act) (σ:St),R.length=n→R.Nodup→
  (∀ j,j∈R↔j < ops.size∧listed.getD j true=false)→listed.size=ops.size→R.Pairwise (PairQ db fp ops)→
  (∀ j oj,ops[j]? = some oj→listed.getD j false=true→∀ e∈oj.after,Region.binds .any e=true→listed.getD e.on false=true)→runQ P T Mv G N db fp ops R σ σn→In w X G μ N a σ→Ev Mv w0 μ0 w μ→
  wpAnyIn (wd N.ro) 0 P .any ops (After Mv X G N w0 μ0 Q) n listed a w:=by
 intro n
 induction n with
 | zero=>
  intro R listed w μ a σ hl _ hR hsz _ _ hrun hi hev
  have:R=[]:=List.eq_nil_of_length_eq_zero hl
  subst this
  have hr:Region.ready .any ops listed=[]:=by
   apply List.eq_nil_iff_forall_not_mem.2
   intro j hj
   obtain ⟨h1,o,ho,_⟩:=mem_ready.1 hj
   exact absurd ((hR j).2 ⟨(Array.getElem?_eq_some_iff.1 ho).1,h1⟩) (by simp)
  have:σ=σn:=hrun
  subst this;exact ⟨hr,μ,σ,hQ,hi,hev⟩
 | succ n ih=>
  intro R listed w μ a σ hl hnd hR hsz hpw hdown hrun hi hev
  refine ⟨fun hr=>?_,fun i hir=>?_⟩
  ·cases R with
   | nil=>simp at hl
   | cons j R=>
    obtain ⟨hj1,hj2⟩:=(hR j).1 (by simp)
    have hoj:ops[j]? = some ops[j]:=by simp [hj1]
    have hjr:j∈Region.ready .any ops listed:=by
     refine mem_ready.2 ⟨hj2,ops[j],hoj,fun e he hb=>?_⟩
     have hlt':=hlt j ops[j] hoj e he hb
     have hlt2:e.on < ops.size:=by omega
     have hne:e.on ∉ (j :: R):=by
      intro hm
      rcases List.mem_cons.1 hm with h | h
      ·omega
      ·exact ((List.pairwise_cons.1 hpw).1 _ h ops[j] ops[e.on] hoj (by simp [hlt2])).1 e he hb rfl
     have:=mt (hR e.on).2 hne
     have hls:e.on < listed.size:=by omega
     simp only [hlt2,true_and,Array.getD_eq_getD_getElem?] at this ⊢;simp [hls] at this ⊢;exact this
    rw [hr] at hjr
    cases hjr
  ·obtain ⟨hi1,oi,hoi,hall⟩:=mem_ready.1 hir
   have hiR:i∈R:=(hR i).2 ⟨(Array.getElem?_eq_some_iff.1 hoi).1,hi1⟩
   obtain ⟨R1,R2,rfl⟩:=List.append_of_mem hiR
   have hfront:=runQ_front (P:=P) (T:=T) (Mv:=Mv) (G:=G) (N:=N) (db:=db) (fp:=fp) hoi R1 (fun q hq oq hoq=>by
    have hpq:PairQ db fp ops q i:=(List.pairwise_append.1 hpw).2.2 q hq i (by simp)
    rcases (hpq oq oi hoq hoi).2 with h | h
    ·exfalso
     have hlq:=behindL hlt hdown i i oi (Nat.le_refl _) hoi hall q h
     have hq2:=((hR q).1 (by simp [hq])).2
     have hqs:q < listed.size:=by have:=(Array.getElem?_eq_some_iff.1 hoq).1;omega
     simp [Array.getD_eq_getD_getElem?,hqs] at hlq hq2;rw [hlq] at hq2;cases hq2
    ·exact h) hrun
   obtain ⟨o',ho',σ1,hstep,hrest⟩:=hfront
   rw [hoi] at ho'
   obtain rfl:=Option.some.inj ho'
   refine hstep.1.ok hg hi hoi fun w' μ' a' hin hev'=>?_
   have hnd':(R1 ++ R2).Nodup:=by
    have:=hnd
    rw [List.nodup_append] at this ⊢
    obtain ⟨g1,g2,g3⟩:=this
    exact ⟨g1,(List.nodup_cons.1 g2).2,fun x hx y hy=>g3 x hx y (by simp [hy])⟩
   have hi_not:i ∉ R1 ++ R2:=by
    have:=hnd
    rw [List.nodup_append] at this
    obtain ⟨g1,g2,g3⟩:=this
    intro hm
    rcases List.mem_append.1 hm with h | h
    ·exact g3 i h i (by simp) rfl
    ·exact (List.nodup_cons.1 g2).1 h
   refine ih (R1 ++ R2) _ w' μ' a' σ1 (by simp at hl ⊢;omega) hnd' (fun j=>?_) (by simpa using hsz) ?_ ?_ hrest hin (hev.trans hev')
   ·by_cases hji:j=i
    ·subst hji
     have hls:j < listed.size:=by rw [hsz];exact (Array.getElem?_eq_some_iff.1 hoi).1
     simp [hls];simpa using hi_not
    ·rw [getD_set_ne true (Ne.symm hji)];rw [← hR j];simp [hji]
   ·rw [List.pairwise_append] at hpw ⊢
    obtain ⟨g1,g2,g3⟩:=hpw
    exact ⟨g1,(List.pairwise_cons.1 g2).2,fun x hx y hy=>g3 x hx y (by simp [hy])⟩
   ·intro j oj hoj hlj e he hb
    by_cases hji:j=i
    ·subst hji;rw [hoi] at hoj
     obtain rfl:=Option.some.inj hoj
     exact getD_set_true (hall e he hb)
    ·rw [getD_set_ne false (Ne.symm hji)] at hlj;exact getD_set_true (hdown j oj hoj hlj e he hb)
def stepQ (P:Program) (T:Ty) (Mv:Nat→Prop) (G:Glob) (N:Fr) (db:List Nat) (fp:List (Nat×Nat)) (i:Nat) (o:Oper) (σ:St) (K:St→Prop):Prop:=okDst N o∧o.guard=none∧
 if db.contains i=true then (match dataW T G σ.env o with
  | some (c,y)=>c∧K ⟨putd σ.env o.dst (.d y),σ.H⟩
  | none=>False)
 else touchC G fp σ.env i o.op∧kindOf o.op≠9∧match isCall o.op with
  | some c=>callD P G c σ.env o.dst σ.H [] [] K
  | none=>plainL T G Mv o σ [] K
def sxQ (P:Program) (T:Ty) (Mv:Nat→Prop) (G:Glob) (N:Fr) (db:List Nat) (fp:List (Nat×Nat)) (K:St→Prop):List (Nat×Oper)→St→Prop
 | [],σ=>K σ
 | (i,o) :: rest,σ=>stepQ P T Mv G N db fp i o σ (sxQ P T Mv G N db fp K rest)
theorem sxQ_run {K:St→Prop}:∀ (l:List Nat) (σ:St),(∀ i∈l,i < ops.size)→sxQ P T Mv G N db fp K (inOrder ops l) σ→∃ σn,K σn∧runQ P T Mv G N db fp ops l σ σn:=by
 intro l
 induction l with
 | nil=>intro σ _ h;exact ⟨σ,h,rfl⟩
 | cons i l ih=>
  intro σ hl h
  have hi:=hl i (by simp)
  have ho:ops[i]? = some ops[i]:=by simp [hi]
  simp only [inOrder,ho] at h;generalize ops[i]=o at ho h;simp only [sxQ,stepQ] at h
  obtain ⟨hd,hgu,h⟩:=h
  have fin:∀ σ1,QStep P T Mv G N db fp i o σ σ1→sxQ P T Mv G N db fp K (inOrder ops l) σ1→∃ σn,K σn∧runQ P T Mv G N db fp ops (i :: l) σ σn:=fun σ1 hs h1=>by
   obtain ⟨σn,hk,hr⟩:=ih σ1 (fun j hj=>hl j (by simp [hj])) h1
   exact ⟨σn,hk,o,ho,σ1,hs,hr⟩
  split at h
  ·rename_i hb
   split at h
   ·rename_i c y hw
    obtain ⟨hc,h⟩:=h
    exact fin _ ⟨⟨hd,hgu,.inl ⟨hb,c,y,hw,hc,rfl⟩⟩,fun e=>by rw [hb] at e;cases e⟩ h
   ·exact h.elim
  ·rename_i hb
   have hb:db.contains i=false:=by simpa using hb
   obtain ⟨htc,hk,h⟩:=h
   split at h
   ·rename_i c hc
    obtain ⟨y,g,ds,ht,hp,hoff,h⟩:=h
    refine fin _ ⟨⟨hd,hgu,.inr ⟨hb,hk,.d y,σ.H,?_,rfl⟩⟩,fun _=>htc⟩ h;unfold Ex;simp only [hc];exact ⟨y,⟨g,_,ht,.inl ⟨ds,rfl,hp⟩⟩,rfl,trivial⟩
   ·rename_i hc
    unfold plainL at h
    split at h
    ·rename_i hw
     split at h
     ·rename_i c x σ1 h1
      obtain ⟨hcc,hoff,h⟩:=h
      have he:=wr_env hk h1
      obtain ⟨e,H⟩:=σ
      obtain ⟨e1,H1⟩:=σ1
      dsimp only at he
      subst he;refine fin _ ⟨⟨hd,hgu,.inr ⟨hb,hk,x,H1,?_,rfl⟩⟩,fun _=>htc⟩ h;unfold Ex;simp only [hc];rw [if_pos hw];exact ⟨c,h1,hcc⟩
     ·exact h.elim
    ·rename_i hw
     split at h
     ·rename_i c x h1
      obtain ⟨hcc,hoff,h⟩:=h
      refine fin _ ⟨⟨hd,hgu,.inr ⟨hb,hk,x,σ.H,?_,rfl⟩⟩,fun _=>htc⟩ h;unfold Ex;simp only [hc];rw [if_neg hw];exact ⟨c,h1,hcc,trivial⟩
     ·exact h.elim
theorem AW_regionQ (hg:Good P T) (hm:P.follows .mixedOrders=true) (db:List Nat) (fp:List (Nat×Nat)) (ord:List Nat) {id:Nat} (hok:okDrawQ db fp ord ops=true) {Q:Exit→St→Prop} {σ:St} (h:sxQ P T Mv G N db fp (fun σ'=>Q .normal σ') (inOrder ops ord) σ):AW P Mv X G N (.region id ops true) Q σ:=fun w μ a hi=>by
 unfold okDrawQ at hok;simp only [Bool.and_eq_true] at hok
 obtain ⟨⟨⟨⟨⟨h1,h2⟩,h3⟩,h4⟩,h5⟩,h6⟩:=hok
 have hlen:ord.length=ops.size:=by simpa using h1
 have hlt:∀ i∈ord,i < ops.size:=fun i hi=>by simpa using List.all_eq_true.1 h2 i hi
 have hall:∀ i,i < ops.size→i∈ord:=fun i hi=>by simpa using List.all_eq_true.1 h3 i (List.mem_range.2 hi)
 have hnd:ord.Nodup:=by simpa using h4
 have hedge:∀ j oj,ops[j]? = some oj→∀ e∈oj.after,Region.binds .any e=true→e.on < j:=fun j oj hoj e he hb=>by
  have:=List.all_eq_true.1 h5 j (List.mem_range.2 (Array.getElem?_eq_some_iff.1 hoj).1)
  simp only [hoj] at this
  have:=Array.all_eq_true_iff_forall_mem.1 this e he
  simpa [hb] using this
 obtain ⟨σn,hQ,hrun⟩:=sxQ_run ord σ hlt h
 refine wpIn_region_any hm ?_
 obtain ⟨hin,hev⟩:=hi.grew (Mv:=Mv) (Grew.drew w)
 refine anyQ_ok hg hedge hQ ops.size ord _ w.drew μ a σ hlen hnd (fun j=>?_) (by simp) (pairsQ_of h6) ?_ hrun hin hev
 ·constructor
  ·intro hj
   have:=hlt j hj
   simp [Array.getD_eq_getD_getElem?,this]
  ·intro hj
   exact hall j hj.1
 ·intro j oj hoj hlj
  have hj:=(Array.getElem?_eq_some_iff.1 hoj).1
  simp [Array.getD_eq_getD_getElem?,hj] at hlj
theorem AW_rQ (hg:Good P T) (hm:P.follows .mixedOrders=true) (db:List Nat) (fp:List (Nat×Nat)) (ord:List Nat) (l ns:List Nat) (hM:∀ r,ns.contains r=false→Mv r) {id:Nat} (hok:okDrawQ db fp ord ops=true) {y:Code} {Q:Exit→St→Prop} {σ:St}
  (h:∀ K:St→Prop,(∀ τ:St,AW P Mv X G N y Q (τ.norm l ns)→K τ)→sxQ P T Mv G N db fp K (inOrder ops ord) σ):AW P Mv X G N (.seq (.region id ops true) y) Q σ:=
 AW_seq (AW_regionQ hg hm db fp ord hok (h _ fun _ h=>h.norm l ns hM))
theorem sxQ_nextO {K:St→Prop} {i:Nat} {l:List Nat} {o:Oper} (ho:ops[i]? = some o) (h:∀ K':St→Prop,(∀ τ,sxQ P T Mv G N db fp K (inOrder ops l) τ→K' τ)→stepQ P T Mv G N db fp i o σ K'):sxQ P T Mv G N db fp K (inOrder ops (i :: l)) σ:=by
 have:inOrder ops (i :: l)=(i,o) :: inOrder ops l:=by simp [inOrder,ho]
 rw [this];exact h _ fun _ h=>h
theorem sxQ_nilO {K:St→Prop} (h:K σ):sxQ P T Mv G N db fp K (inOrder ops []) σ:=h
end
attribute [simp] stepQ
end Go.Av
