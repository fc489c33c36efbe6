/-
  Texts that belong together,in one file: U1.
-/
import Derived.Test.YthnjfeielmbfkaaGreatDoorSy23
set_option linter.unusedSimpArgs false
set_option linter.unusedVariables false
namespace Go.Proofs.YthnjfeielmbfkaaGreatDoor
open Go.Av
def cntE (is was:List UInt8→Bool):List Ex→Nat
 | []=>0
 | e :: l=>(if evE is was e then 1 else 0)+cntE is was l
theorem cntE_app (is was:List UInt8→Bool):∀ a b:List Ex,cntE is was (a ++ b)=cntE is was a+cntE is was b
 | [],b=>by simp [cntE]
 | e :: a,b=>by simp only [List.cons_append,cntE,cntE_app is was a b];omega
theorem cntE_le (is was:List UInt8→Bool):∀ l:List Ex,cntE is was l≤l.length
 | []=>by simp [cntE]
 | e :: l=>by have:=cntE_le is was l;simp only [cntE,List.length_cons];split<;>omega
theorem cntE_take (is was:List UInt8→Bool) {l:List Ex} {i:Nat} (hi:i < l.length):cntE is was (l.take (i+1))=cntE is was (l.take i)+(if evE is was l[i] then 1 else 0):=by
 rw [List.take_succ_eq_append_getElem hi,cntE_app];simp [cntE]
theorem cntE_and (is was:List UInt8→Bool):∀ l:List Ex,decide (cntE is was l=l.length)=evA is was l
 | []=>rfl
 | e :: l=>by
  have h1:=cntE_and is was l
  have h2:=cntE_le is was l
  rw [evA,← h1];simp only [cntE,List.length_cons]
  rcases Bool.eq_false_or_eq_true (evE is was e) with hE | hE
  ·simp [hE,Nat.add_comm 1]
  ·have:¬ cntE is was l=l.length+1:=by omega
   simp [hE,this]
theorem cntE_or (is was:List UInt8→Bool):∀ l:List Ex,decide (0 < cntE is was l)=evO is was l
 | []=>rfl
 | e :: l=>by
  have h1:=cntE_or is was l
  rw [evO,← h1];simp only [cntE]
  rcases Bool.eq_false_or_eq_true (evE is was e) with hE | hE
  ·simp [hE];omega
  ·simp [hE]
set_option maxHeartbeats 32000000 in
set_option maxRecDepth 100000 in
theorem reval_at (G:Glob) (g1 g2:FuncId) (c1 c2:List D) (is was:List UInt8→Bool) (S1 S2:List UInt8→Prop) (h1:TellsOn S1 G g1 c1 is) (h2:TellsOn S2 G g2 c2 was):∀ (n:Nat) (e:Ex),SizeOf.sizeOf e≤n→AskE S1 S2 e→WfE e→bE e≤2^28→PureC Tryz.prog G 79 [dR e,.fn (.func g1) c1,.fn (.func g2) c2] (.v (.bool (evE is was e))):=by
 intro n
 induction n with
 | zero=>intro e hsz;cases e<;>simp at hsz
 | succ n ih=>
  intro e hsz hask hwf hb
  have fw:=(Aq @dNum.eq_1 (Aq @dS.eq_1 (Aq @binS_eq @dNil.eq_1)))
  cases e with
  | cst b=>
   cases b with
   | true=>
    rw [dR];refine PureC.of_body (tyOf_good _) Tryz.func79 rfl rfl (rs:=[.tmp 6]) Tryz.results79 (by simp [Tryz.ntmps79]) fun X=>?_;simp only [Tryz.ntmps79,List.map];refine rgq fw [0,1,2] [] ?_;refine AW_then fun K1 hK1=>?_;refine rgq fw [0,1,2,13] [] ?_;refine AW_block ?_;refine rgq fw [0,1,2,13,14] [] ?_;refine AW_tt rfl ?_;refine rgq fw [6] [] ?_;refine AW_ret ?_;simp [D.le,D.le.go,takeMap,dNum,dS,binS_eq,dNil,evE]
   | false=>
    rw [dR];refine PureC.of_body (tyOf_good _) Tryz.func79 rfl rfl (rs:=[.tmp 6]) Tryz.results79 (by simp [Tryz.ntmps79]) fun X=>?_;simp only [Tryz.ntmps79,List.map];refine rgq fw [0,1,2] [] ?_;refine AW_then fun K1 hK1=>?_;refine rgq fw [0,1,2,13] [] ?_;refine AW_block ?_;refine rgq fw [0,1,2,13,14] [] ?_;refine AW_ff rfl ?_;refine rgq fw [0,1,2,13,16] [] ?_;refine AW_ff rfl ?_;refine rgq fw [0,1,2,13,24] [] ?_;refine AW_ff rfl ?_;refine rgq fw [0,1,2,13,41] [] ?_;refine AW_ff rfl ?_;refine rgq fw [0,1,2,13,58] [] ?_;refine AW_ff rfl ?_;refine AW_then fun K2 hK2=>?_;refine rgq fw [0,1,2,13,70] [] ?_;refine AW_ff rfl ?_;refine reK fw hK2 [0,1,2,70] [] ?_;refine AW_ff rfl ?_;refine AW_skip (hK1 _ ?_);refine rgq fw [6] [] ?_;refine AW_ret ?_;simp [D.le,D.le.go,takeMap,dNum,dS,binS_eq,dNil,evE]
  | bit s=>
   rw [AskE] at hask
   have hi:=h1 s hask
   rw [dR,evE];refine PureC.of_body (tyOf_good _) Tryz.func79 rfl rfl (rs:=[.tmp 6]) Tryz.results79 (by simp [Tryz.ntmps79]) fun X=>?_;simp only [Tryz.ntmps79,List.map];refine rgq fw [0,1,2] [] ?_;refine AW_then fun K1 hK1=>?_;refine rgq fw [0,1,2,13] [] ?_;refine AW_block ?_;refine rgq fw [0,1,2,13,14] [] ?_;refine AW_ff rfl ?_;refine rgq fw [0,1,2,13,16] [] ?_;refine AW_tt rfl ?_;refine rgc fw hi [6] [] ?_;refine AW_ret ?_;simp [D.le,D.le.go,takeMap,dNum,dS,binS_eq,dNil]
  | rise s=>
   rw [AskE] at hask
   have hi:=h1 s hask.1
   have hw:=h2 s hask.2
   rw [dR,evE]
   cases hx:is s with
   | false=>
    rw [hx] at hi;refine PureC.of_body (tyOf_good _) Tryz.func79 rfl rfl (rs:=[.tmp 6]) Tryz.results79 (by simp [Tryz.ntmps79]) fun X=>?_;simp only [Tryz.ntmps79,List.map];refine rgq fw [0,1,2] [] ?_;refine AW_then fun K1 hK1=>?_;refine rgq fw [0,1,2,13] [] ?_;refine AW_block ?_;refine rgq fw [0,1,2,13,14] [] ?_;refine AW_ff rfl ?_;refine rgq fw [0,1,2,13,16] [] ?_;refine AW_ff rfl ?_;refine rgq fw [0,1,2,13,24] [] ?_;refine AW_tt rfl ?_;refine rgc fw hi [6] [] ?_;refine AW_ret ?_;simp [D.le,D.le.go,takeMap,dNum,dS,binS_eq,dNil]
   | true=>
    rw [hx] at hi;refine PureC.of_body (tyOf_good _) Tryz.func79 rfl rfl (rs:=[.tmp 6]) Tryz.results79 (by simp [Tryz.ntmps79]) fun X=>?_;simp only [Tryz.ntmps79,List.map];refine rgq fw [0,1,2] [] ?_;refine AW_then fun K1 hK1=>?_;refine rgq fw [0,1,2,13] [] ?_;refine AW_block ?_;refine rgq fw [0,1,2,13,14] [] ?_;refine AW_ff rfl ?_;refine rgq fw [0,1,2,13,16] [] ?_;refine AW_ff rfl ?_;refine rgq fw [0,1,2,13,24] [] ?_;refine AW_tt rfl ?_;refine rg [6] [] (fun _ _=>trivial) fun K' hK'=>?_;(repeat (refine sxn fun K2 hK2=>?_;simp [dNum,dS,binS_eq,dNil];(repeat (refine ⟨by omega,?_⟩));refine hK2 _ ?_;clear hK2 K2));refine sxn fun K2 hK2=>?_;simp [dNum,dS,binS_eq,dNil];refine callK.data (hi) (by simp;rfl) (by first | exact D.leGo_refl _ | simp [takeMap,List.map_map,Function.comp_def,D.le,D.le.go,D.le_refl,D.leGo_refl,dNum,dS,binS_eq,dNil]) ?_;refine hK2 _ ?_;clear hK2 K2;simp only [putd,upd_lst];(repeat (refine sxn fun K2 hK2=>?_;simp [dNum,dS,binS_eq,dNil];(repeat (refine ⟨by omega,?_⟩));refine hK2 _ ?_;clear hK2 K2));refine sxn fun K2 hK2=>?_;simp [dNum,dS,binS_eq,dNil];refine callK.data (hw) (by simp;rfl) (by first | exact D.leGo_refl _ | simp [takeMap,List.map_map,Function.comp_def,D.le,D.le.go,D.le_refl,D.leGo_refl,dNum,dS,binS_eq,dNil]) ?_;refine hK2 _ ?_;clear hK2 K2;simp only [putd,upd_lst];(repeat (refine sxn fun K2 hK2=>?_;simp [dNum,dS,binS_eq,dNil];(repeat (refine ⟨by omega,?_⟩));refine hK2 _ ?_;clear hK2 K2));refine sxz (hK' _ (AW.st (by simp [dNum,dS,binS_eq,dNil];rfl) ?_));clear hK' K';refine AW_ret ?_;simp [D.le,D.le.go,takeMap,dNum,dS,binS_eq,dNil]
  | fall s=>
   rw [AskE] at hask
   have hi:=h2 s hask.2
   have hw:=h1 s hask.1
   rw [dR,evE];rw [Bool.and_comm]
   cases hx:was s with
   | false=>
    rw [hx] at hi;refine PureC.of_body (tyOf_good _) Tryz.func79 rfl rfl (rs:=[.tmp 6]) Tryz.results79 (by simp [Tryz.ntmps79]) fun X=>?_;simp only [Tryz.ntmps79,List.map];refine rgq fw [0,1,2] [] ?_;refine AW_then fun K1 hK1=>?_;refine rgq fw [0,1,2,13] [] ?_;refine AW_block ?_;refine rgq fw [0,1,2,13,14] [] ?_;refine AW_ff rfl ?_;refine rgq fw [0,1,2,13,16] [] ?_;refine AW_ff rfl ?_;refine rgq fw [0,1,2,13,24] [] ?_;refine AW_ff rfl ?_;refine rgq fw [0,1,2,13,41] [] ?_;refine AW_tt rfl ?_;refine rgc fw hi [6] [] ?_;refine AW_ret ?_;simp [D.le,D.le.go,takeMap,dNum,dS,binS_eq,dNil]
   | true=>
    rw [hx] at hi;refine PureC.of_body (tyOf_good _) Tryz.func79 rfl rfl (rs:=[.tmp 6]) Tryz.results79 (by simp [Tryz.ntmps79]) fun X=>?_;simp only [Tryz.ntmps79,List.map];refine rgq fw [0,1,2] [] ?_;refine AW_then fun K1 hK1=>?_;refine rgq fw [0,1,2,13] [] ?_;refine AW_block ?_;refine rgq fw [0,1,2,13,14] [] ?_;refine AW_ff rfl ?_;refine rgq fw [0,1,2,13,16] [] ?_;refine AW_ff rfl ?_;refine rgq fw [0,1,2,13,24] [] ?_;refine AW_ff rfl ?_;refine rgq fw [0,1,2,13,41] [] ?_;refine AW_tt rfl ?_;refine rg [6] [] (fun _ _=>trivial) fun K' hK'=>?_;(repeat (refine sxn fun K2 hK2=>?_;simp [dNum,dS,binS_eq,dNil];(repeat (refine ⟨by omega,?_⟩));refine hK2 _ ?_;clear hK2 K2));refine sxn fun K2 hK2=>?_;simp [dNum,dS,binS_eq,dNil];refine callK.data (hi) (by simp;rfl) (by first | exact D.leGo_refl _ | simp [takeMap,List.map_map,Function.comp_def,D.le,D.le.go,D.le_refl,D.leGo_refl,dNum,dS,binS_eq,dNil]) ?_;refine hK2 _ ?_;clear hK2 K2;simp only [putd,upd_lst];(repeat (refine sxn fun K2 hK2=>?_;simp [dNum,dS,binS_eq,dNil];(repeat (refine ⟨by omega,?_⟩));refine hK2 _ ?_;clear hK2 K2));refine sxn fun K2 hK2=>?_;simp [dNum,dS,binS_eq,dNil];refine callK.data (hw) (by simp;rfl) (by first | exact D.leGo_refl _ | simp [takeMap,List.map_map,Function.comp_def,D.le,D.le.go,D.le_refl,D.leGo_refl,dNum,dS,binS_eq,dNil]) ?_;refine hK2 _ ?_;clear hK2 K2;simp only [putd,upd_lst];(repeat (refine sxn fun K2 hK2=>?_;simp [dNum,dS,binS_eq,dNil];(repeat (refine ⟨by omega,?_⟩));refine hK2 _ ?_;clear hK2 K2));refine sxz (hK' _ (AW.st (by simp [dNum,dS,binS_eq,dNil];rfl) ?_));clear hK' K';refine AW_ret ?_;simp [D.le,D.le.go,takeMap,dNum,dS,binS_eq,dNil]
  | not x=>
   have hc:=ih x (by simp at hsz;omega) (by rwa [AskE] at hask) (by simpa [WfE] using hwf) (by simp only [bE] at hb;omega)
   rw [dR,evE];rw [dR_form x] at hc ⊢;refine PureC.of_body (tyOf_good _) Tryz.func79 rfl rfl (rs:=[.tmp 6]) Tryz.results79 (by simp [Tryz.ntmps79]) fun X=>?_;simp only [Tryz.ntmps79,List.map];refine rgq fw [0,1,2] [] ?_;refine AW_then fun K1 hK1=>?_;refine rgq fw [0,1,2,13] [] ?_;refine AW_block ?_;refine rgq fw [0,1,2,13,14] [] ?_;refine AW_ff rfl ?_;refine rgq fw [0,1,2,13,16] [] ?_;refine AW_ff rfl ?_;refine rgq fw [0,1,2,13,24] [] ?_;refine AW_ff rfl ?_;refine rgq fw [0,1,2,13,41] [] ?_;refine AW_ff rfl ?_;refine rgq fw [0,1,2,13,58] [] ?_;refine AW_tt rfl ?_;refine rgc fw hc [6] [] ?_;refine AW_ret ?_;simp [D.le,D.le.go,takeMap,dNum,dS,binS_eq,dNil]
  | and l=>
   have hln:=bEs_len l
   simp only [bE] at hb
   have hwl:2≤l.length∧∀ x∈l,WfE x:=by rw [WfE] at hwf;exact ⟨hwf.1,(WfEs_iff l).1 hwf.2⟩
   have hch:∀ x∈l,PureC Tryz.prog G 79 [dR x,.fn (.func g1) c1,.fn (.func g2) c2] (.v (.bool (evE is was x))):=fun x hx=>by
    have h5:=List.sizeOf_lt_of_mem hx
    exact ih x (by simp only [Ex.and.sizeOf_spec] at hsz;omega) (by rw [AskE,AskL_iff] at hask;exact hask x hx) (hwl.2 x hx) (by have:=bEs_mem hx;omega)
   have hcnt:=cntE_and is was l
   rw [evE,← hcnt];rw [dR,dRs_map];clear hcnt;refine PureC.of_body (tyOf_good _) Tryz.func79 rfl rfl (rs:=[.tmp 6]) Tryz.results79 (by simp [Tryz.ntmps79]) fun X=>?_;simp only [Tryz.ntmps79,List.map];refine rgq fw [0,1,2] [] ?_;refine AW_then fun K1 hK1=>?_;refine rgq fw [0,1,2,13] [] ?_;refine AW_block ?_;refine rgq fw [0,1,2,13,14] [] ?_;refine AW_ff rfl ?_;refine rgq fw [0,1,2,13,16] [] ?_;refine AW_ff rfl ?_;refine rgq fw [0,1,2,13,24] [] ?_;refine AW_ff rfl ?_;refine rgq fw [0,1,2,13,41] [] ?_;refine AW_ff rfl ?_;refine rgq fw [0,1,2,13,58] [] ?_;refine AW_ff rfl ?_;refine AW_then fun K2 hK2=>?_;refine rgq fw [0,1,2,13,70] [] ?_;refine AW_tt rfl ?_;refine AW_skip (hK2 _ ?_);refine AW_tt rfl ?_;refine rgq fw [0,1,2,7] [] ?_;refine AW_then fun K3 hK3=>?_;refine rgq fw [0,1,2,7,76,77,78] [] ?_;refine AW_for (S:=Nat) (fun i=>i≤l.length) (fun i=>⟨lst [(0,.d (.ip [dS [38],dS [],.sl none (l.map fun e=>[dR e])])),(1,.d (.fn (.func g1) c1)),(2,.d (.fn (.func g2) c2)),(7,int (cntE is was (l.take i):Nat)),(76,.d (.sl none (l.map fun e=>[dR e]))),(77,int l.length),(78,int i)],hlst []⟩) (fun i=>l.length - i) 0 ?_ (by omega) ?_
   ·refine Imp.to' (fun _ _=>trivial) (by simp [dNum,dS,binS_eq,dNil,cntE]) (by simp [dNum,dS,binS_eq,dNil,cntE])
   ·intro i hi
    have hcl:=cntE_le is was (l.take i)
    rw [List.length_take] at hcl;refine rgq fw [0,1,2,7,76,77,78,79] [] ?_;refine AW_then fun K4 hK4=>?_;refine AW_cond' (b:=i < l.length) (by simp [D.le,D.le.go,takeMap,dNum,dS,binS_eq,dNil]) (fun hc=>?_) (fun hc=>?_)
    ·have hil:i < l.length:=hc
     have hcc:=hch _ (List.getElem_mem hil)
     have htk:=cntE_take is was hil
     have hf:=dR_form l[i]
     rw [hf] at hcc;refine AW_skip (hK4 _ ?_);refine AW_then fun K5 hK5=>?_;refine AW_block ?_
     have qf:=(Aq fw (Aq @hil @hf))
     refine rgqv [0,1,2,7,9,76,77,78] [] ?_;refine rgc fw hcc [0,1,2,7,76,77,78,85] [] ?_
     cases hv:evE is was l[i] with
     | true=>
      rw [hv] at htk;refine AW_cond true (by simp [hv]) (fun _=>?_) (fun h=>by cases h);refine reK fw hK5 [0,1,2,7,76,77,78] [] ?_;refine AW_re (tyOf_good _) fun K' hK'=>?_;(repeat (refine sxn fun K2 hK2=>?_;simp [dNum,dS,binS_eq,dNil];(repeat (refine ⟨by omega,?_⟩));refine hK2 _ ?_;clear hK2 K2));refine sxz (hK' _ ?_);clear hK' K';(try simp only [thn,inb]);refine Again.mk (i+1) (by omega) (by omega) ?_;refine Imp.to' (fun _ _=>trivial) (by simp [dNum,dS,binS_eq,dNil,htk]) (by simp [dNum,dS,binS_eq,dNil,htk])
     | false=>
      rw [hv] at htk;refine AW_cond false (by simp [hv]) (fun h=>by cases h) (fun _=>?_);refine AW_skip (hK5 _ ?_);refine AW_re (tyOf_good _) fun K' hK'=>?_;(repeat (refine sxn fun K2 hK2=>?_;simp [dNum,dS,binS_eq,dNil];(repeat (refine ⟨by omega,?_⟩));refine hK2 _ ?_;clear hK2 K2));refine sxz (hK' _ ?_);clear hK' K';(try simp only [thn,inb]);refine Again.mk (i+1) (by omega) (by omega) ?_;refine Imp.to' (fun _ _=>trivial) (by simp [dNum,dS,binS_eq,dNil,htk]) (by simp [dNum,dS,binS_eq,dNil,htk])
    ·obtain rfl:i=l.length:=by omega
     refine AW_exit (hK3 _ ?_);rw [List.take_length] at hcl ⊢;refine rgq fw [6] [] ?_;refine AW_ret ?_;simp [D.le,D.le.go,takeMap,dNum,dS,binS_eq,dNil]
  | or l=>
   have hln:=bEs_len l
   simp only [bE] at hb
   have hwl:2≤l.length∧∀ x∈l,WfE x:=by rw [WfE] at hwf;exact ⟨hwf.1,(WfEs_iff l).1 hwf.2⟩
   have hch:∀ x∈l,PureC Tryz.prog G 79 [dR x,.fn (.func g1) c1,.fn (.func g2) c2] (.v (.bool (evE is was x))):=fun x hx=>by
    have h5:=List.sizeOf_lt_of_mem hx
    exact ih x (by simp only [Ex.or.sizeOf_spec] at hsz;omega) (by rw [AskE,AskL_iff] at hask;exact hask x hx) (hwl.2 x hx) (by have:=bEs_mem hx;omega)
   have hcnt:=cntE_or is was l
   rw [evE,← hcnt];rw [dR,dRs_map];clear hcnt;refine PureC.of_body (tyOf_good _) Tryz.func79 rfl rfl (rs:=[.tmp 6]) Tryz.results79 (by simp [Tryz.ntmps79]) fun X=>?_;simp only [Tryz.ntmps79,List.map];refine rgq fw [0,1,2] [] ?_;refine AW_then fun K1 hK1=>?_;refine rgq fw [0,1,2,13] [] ?_;refine AW_block ?_;refine rgq fw [0,1,2,13,14] [] ?_;refine AW_ff rfl ?_;refine rgq fw [0,1,2,13,16] [] ?_;refine AW_ff rfl ?_;refine rgq fw [0,1,2,13,24] [] ?_;refine AW_ff rfl ?_;refine rgq fw [0,1,2,13,41] [] ?_;refine AW_ff rfl ?_;refine rgq fw [0,1,2,13,58] [] ?_;refine AW_ff rfl ?_;refine AW_then fun K2 hK2=>?_;refine rgq fw [0,1,2,13,70] [] ?_;refine AW_ff rfl ?_;refine reK fw hK2 [0,1,2,70] [] ?_;refine AW_tt rfl ?_;refine rgq fw [0,1,2,7] [] ?_;refine AW_then fun K3 hK3=>?_;refine rgq fw [0,1,2,7,76,77,78] [] ?_;refine AW_for (S:=Nat) (fun i=>i≤l.length) (fun i=>⟨lst [(0,.d (.ip [dS [124],dS [],.sl none (l.map fun e=>[dR e])])),(1,.d (.fn (.func g1) c1)),(2,.d (.fn (.func g2) c2)),(7,int (cntE is was (l.take i):Nat)),(76,.d (.sl none (l.map fun e=>[dR e]))),(77,int l.length),(78,int i)],hlst []⟩) (fun i=>l.length - i) 0 ?_ (by omega) ?_
   ·refine Imp.to' (fun _ _=>trivial) (by simp [dNum,dS,binS_eq,dNil,cntE]) (by simp [dNum,dS,binS_eq,dNil,cntE])
   ·intro i hi
    have hcl:=cntE_le is was (l.take i)
    rw [List.length_take] at hcl;refine rgq fw [0,1,2,7,76,77,78,79] [] ?_;refine AW_then fun K4 hK4=>?_;refine AW_cond' (b:=i < l.length) (by simp [D.le,D.le.go,takeMap,dNum,dS,binS_eq,dNil]) (fun hc=>?_) (fun hc=>?_)
    ·have hil:i < l.length:=hc
     have hcc:=hch _ (List.getElem_mem hil)
     have htk:=cntE_take is was hil
     have hf:=dR_form l[i]
     rw [hf] at hcc;refine AW_skip (hK4 _ ?_);refine AW_then fun K5 hK5=>?_;refine AW_block ?_
     have qf:=(Aq fw (Aq @hil @hf))
     refine rgqv [0,1,2,7,9,76,77,78] [] ?_;refine rgc fw hcc [0,1,2,7,76,77,78,85] [] ?_
     cases hv:evE is was l[i] with
     | true=>
      rw [hv] at htk;refine AW_cond true (by simp [hv]) (fun _=>?_) (fun h=>by cases h);refine reK fw hK5 [0,1,2,7,76,77,78] [] ?_;refine AW_re (tyOf_good _) fun K' hK'=>?_;(repeat (refine sxn fun K2 hK2=>?_;simp [dNum,dS,binS_eq,dNil];(repeat (refine ⟨by omega,?_⟩));refine hK2 _ ?_;clear hK2 K2));refine sxz (hK' _ ?_);clear hK' K';(try simp only [thn,inb]);refine Again.mk (i+1) (by omega) (by omega) ?_;refine Imp.to' (fun _ _=>trivial) (by simp [dNum,dS,binS_eq,dNil,htk]) (by simp [dNum,dS,binS_eq,dNil,htk])
     | false=>
      rw [hv] at htk;refine AW_cond false (by simp [hv]) (fun h=>by cases h) (fun _=>?_);refine AW_skip (hK5 _ ?_);refine AW_re (tyOf_good _) fun K' hK'=>?_;(repeat (refine sxn fun K2 hK2=>?_;simp [dNum,dS,binS_eq,dNil];(repeat (refine ⟨by omega,?_⟩));refine hK2 _ ?_;clear hK2 K2));refine sxz (hK' _ ?_);clear hK' K';(try simp only [thn,inb]);refine Again.mk (i+1) (by omega) (by omega) ?_;refine Imp.to' (fun _ _=>trivial) (by simp [dNum,dS,binS_eq,dNil,htk]) (by simp [dNum,dS,binS_eq,dNil,htk])
    ·obtain rfl:i=l.length:=by omega
     refine AW_exit (hK3 _ ?_);rw [List.take_length] at hcl ⊢
     by_cases h0:0 < cntE is was l
     ·have qf:=(Aq fw @h0)
      refine rgqv [6] [] ?_;refine AW_ret ?_;simp [D.le,D.le.go,takeMap,dNum,dS,binS_eq,dNil,h0]
     ·have hz:cntE is was l=0:=by omega
      have hne:¬ l.length=0:=by omega
      have hne2:¬ 0=(l.length:Int):=by omega
      have qf:=(Aq fw (Aq @h0 (Aq @hz (Aq @hne @hne2))))
      refine rgqv [6] [] ?_;refine AW_ret ?_;simp [D.le,D.le.go,takeMap,dNum,dS,binS_eq,dNil,h0,hz,hne,hne2]
theorem reval_on (G:Glob) (g1 g2:FuncId) (c1 c2:List D) (is was:List UInt8→Bool) (S1 S2:List UInt8→Prop) (h1:TellsOn S1 G g1 c1 is) (h2:TellsOn S2 G g2 c2 was) (e:Ex) (ha:AskE S1 S2 e) (hw:WfE e) (hb:bE e≤2^28):PureC Tryz.prog G 79 [dR e,.fn (.func g1) c1,.fn (.func g2) c2] (.v (.bool (evE is was e))):=
 reval_at G g1 g2 c1 c2 is was S1 S2 h1 h2 _ e (Nat.le_refl _) ha hw hb
def kidsR:Ex→List Ex
 | .not e=>[e]
 | .and l=>l
 | .or l=>l
 | _=>[]
def kR:Ex→Option Bool
 | .not _=>none
 | .and _=>none
 | .or _=>none
 | _=>some false
theorem ofR_form (e:Ex):ofR e = .sl (kR e) ((kidsR e).map fun x=>[dR x]):=by
 cases e<;>simp [ofR,kidsR,kR,dNil,dRs_map]
theorem bE_kids (e:Ex):bEs (kidsR e)≤bE e:=by cases e<;>simp [bE,kidsR,bEs]<;>omega
theorem sz_kids {e x:Ex} (h:x∈kidsR e):SizeOf.sizeOf x < SizeOf.sizeOf e:=by
 cases e with
 | not y=>simp only [kidsR,List.mem_singleton] at h;subst h;simp
 | and l=>simp only [kidsR] at h;have:=List.sizeOf_lt_of_mem h;simp only [Ex.and.sizeOf_spec];omega
 | or l=>simp only [kidsR] at h;have:=List.sizeOf_lt_of_mem h;simp only [Ex.or.sizeOf_spec];omega
 | _=>simp [kidsR] at h
end Go.Proofs.YthnjfeielmbfkaaGreatDoor
