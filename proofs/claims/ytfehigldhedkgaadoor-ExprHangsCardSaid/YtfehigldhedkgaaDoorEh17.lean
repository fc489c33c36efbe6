/-
  Texts that belong together, in one file: Av31, A5, A3, W2, A7, V6, V8, W3, R1, RS.
-/
import Derived.Test.YtfehigldhedkgaaDoorEh16
import Derived.Scope
/-
  Scopes that are left without a jump.
-/
namespace Go.Av

def noG (Q : Exit → St → Prop) : Exit → St → Prop
  | .goto _, _ => False
  | e, σ => Q e σ
section
variable {P : Program} {Mv X : Nat → Prop} {G : Glob} {N : Nat} {σ : St}
end
attribute [simp] noG
end Go.Av

/-
  expr.Text, by each kind's method.
-/
namespace Go.Proofs.YtfehigldhedkgaaDoor
set_option linter.unusedSimpArgs false
set_option linter.unusedVariables false
open Go.Av

theorem inv_Const : Invs Tryd.prog 104 "Text" 183 := fun v w => by kernel_rfl
set_option maxHeartbeats 4000000 in
theorem mtext_Const (G : Glob) (b : Bool) (hlen : (wrE (.cst b) 2).length ≤ 2^30) : PureC Tryd.prog G 183 [.v (.bool b)] (dS (wrE (.cst b) 0)) := by
  have hw := write_spec G (.cst b) hlen 0 (by omega)
  rw [dE] at hw
  generalize wrE (.cst b) 0 = r at hw ⊢
  refine PureC.of_body (tyOf_good _) Tryd.func183 rfl rfl (rs := [.tmp 2]) Tryd.results183 (by simp [Tryd.ntmps183]) fun X => ?_
  simp only [Tryd.ntmps183, List.map]
  refine AW_rg (tyOf_good _) [0] [] (fun _ _ => trivial) fun K' hK' => ?_
  repeat (refine sxf_next fun K2 hK2 => ?_; simp [dNum, dS]; (repeat (refine ⟨by omega, ?_⟩)); refine hK2 _ ?_; clear hK2 K2)
  refine sxf_nil (hK' _ ?_)
  refine AW.st (by simp [dNum, dS]; rfl) ?_
  clear hK' K'
  refine AW_rg (tyOf_good _) [2] [] (fun _ _ => trivial) fun K' hK' => ?_
  repeat (refine sxf_next fun K2 hK2 => ?_; simp [dNum, dS]; (repeat (refine ⟨by omega, ?_⟩)); refine hK2 _ ?_; clear hK2 K2)
  refine sxf_next fun K2 hK2 => ?_
  simp [dNum, dS]
  refine callK.data (hw) (by simp; rfl) (by first | exact D.leGo_refl _ | simp [takeMap, List.map_map, Function.comp_def, D.le, D.le.go, D.le_refl, D.leGo_refl, dNum, dS]) ?_
  refine hK2 _ ?_
  clear hK2 K2
  simp only [putd, upd_lst]
  repeat (refine sxf_next fun K2 hK2 => ?_; simp [dNum, dS]; (repeat (refine ⟨by omega, ?_⟩)); refine hK2 _ ?_; clear hK2 K2)
  refine sxf_nil (hK' _ ?_)
  refine AW.st (by simp [dNum, dS]; rfl) ?_
  clear hK' K'
  refine AW_ret ?_
  simp [D.le, D.le.go, takeMap, dNum, dS, D.le_refl]
theorem inv_Bit : Invs Tryd.prog 105 "Text" 186 := fun v w => by kernel_rfl
set_option maxHeartbeats 4000000 in
theorem mtext_Bit (G : Glob) (s : List UInt8) (hlen : (wrE (.bit s) 2).length ≤ 2^30) : PureC Tryd.prog G 186 [dS s] (dS (wrE (.bit s) 0)) := by
  have hw := write_spec G (.bit s) hlen 0 (by omega)
  rw [dE] at hw
  generalize wrE (.bit s) 0 = r at hw ⊢
  refine PureC.of_body (tyOf_good _) Tryd.func186 rfl rfl (rs := [.tmp 2]) Tryd.results186 (by simp [Tryd.ntmps186]) fun X => ?_
  simp only [Tryd.ntmps186, List.map]
  refine AW_rg (tyOf_good _) [0] [] (fun _ _ => trivial) fun K' hK' => ?_
  repeat (refine sxf_next fun K2 hK2 => ?_; simp [dNum, dS]; (repeat (refine ⟨by omega, ?_⟩)); refine hK2 _ ?_; clear hK2 K2)
  refine sxf_nil (hK' _ ?_)
  refine AW.st (by simp [dNum, dS]; rfl) ?_
  clear hK' K'
  refine AW_rg (tyOf_good _) [2] [] (fun _ _ => trivial) fun K' hK' => ?_
  repeat (refine sxf_next fun K2 hK2 => ?_; simp [dNum, dS]; (repeat (refine ⟨by omega, ?_⟩)); refine hK2 _ ?_; clear hK2 K2)
  refine sxf_next fun K2 hK2 => ?_
  simp [dNum, dS]
  refine callK.data (hw) (by simp; rfl) (by first | exact D.leGo_refl _ | simp [takeMap, List.map_map, Function.comp_def, D.le, D.le.go, D.le_refl, D.leGo_refl, dNum, dS]) ?_
  refine hK2 _ ?_
  clear hK2 K2
  simp only [putd, upd_lst]
  repeat (refine sxf_next fun K2 hK2 => ?_; simp [dNum, dS]; (repeat (refine ⟨by omega, ?_⟩)); refine hK2 _ ?_; clear hK2 K2)
  refine sxf_nil (hK' _ ?_)
  refine AW.st (by simp [dNum, dS]; rfl) ?_
  clear hK' K'
  refine AW_ret ?_
  simp [D.le, D.le.go, takeMap, dNum, dS, D.le_refl]
theorem inv_Rise : Invs Tryd.prog 106 "Text" 187 := fun v w => by kernel_rfl
set_option maxHeartbeats 4000000 in
theorem mtext_Rise (G : Glob) (s : List UInt8) (hlen : (wrE (.rise s) 2).length ≤ 2^30) : PureC Tryd.prog G 187 [dS s] (dS (wrE (.rise s) 0)) := by
  have hw := write_spec G (.rise s) hlen 0 (by omega)
  rw [dE] at hw
  generalize wrE (.rise s) 0 = r at hw ⊢
  refine PureC.of_body (tyOf_good _) Tryd.func187 rfl rfl (rs := [.tmp 2]) Tryd.results187 (by simp [Tryd.ntmps187]) fun X => ?_
  simp only [Tryd.ntmps187, List.map]
  refine AW_rg (tyOf_good _) [0] [] (fun _ _ => trivial) fun K' hK' => ?_
  repeat (refine sxf_next fun K2 hK2 => ?_; simp [dNum, dS]; (repeat (refine ⟨by omega, ?_⟩)); refine hK2 _ ?_; clear hK2 K2)
  refine sxf_nil (hK' _ ?_)
  refine AW.st (by simp [dNum, dS]; rfl) ?_
  clear hK' K'
  refine AW_rg (tyOf_good _) [2] [] (fun _ _ => trivial) fun K' hK' => ?_
  repeat (refine sxf_next fun K2 hK2 => ?_; simp [dNum, dS]; (repeat (refine ⟨by omega, ?_⟩)); refine hK2 _ ?_; clear hK2 K2)
  refine sxf_next fun K2 hK2 => ?_
  simp [dNum, dS]
  refine callK.data (hw) (by simp; rfl) (by first | exact D.leGo_refl _ | simp [takeMap, List.map_map, Function.comp_def, D.le, D.le.go, D.le_refl, D.leGo_refl, dNum, dS]) ?_
  refine hK2 _ ?_
  clear hK2 K2
  simp only [putd, upd_lst]
  repeat (refine sxf_next fun K2 hK2 => ?_; simp [dNum, dS]; (repeat (refine ⟨by omega, ?_⟩)); refine hK2 _ ?_; clear hK2 K2)
  refine sxf_nil (hK' _ ?_)
  refine AW.st (by simp [dNum, dS]; rfl) ?_
  clear hK' K'
  refine AW_ret ?_
  simp [D.le, D.le.go, takeMap, dNum, dS, D.le_refl]
theorem inv_Fall : Invs Tryd.prog 107 "Text" 188 := fun v w => by kernel_rfl
set_option maxHeartbeats 4000000 in
theorem mtext_Fall (G : Glob) (s : List UInt8) (hlen : (wrE (.fall s) 2).length ≤ 2^30) : PureC Tryd.prog G 188 [dS s] (dS (wrE (.fall s) 0)) := by
  have hw := write_spec G (.fall s) hlen 0 (by omega)
  rw [dE] at hw
  generalize wrE (.fall s) 0 = r at hw ⊢
  refine PureC.of_body (tyOf_good _) Tryd.func188 rfl rfl (rs := [.tmp 2]) Tryd.results188 (by simp [Tryd.ntmps188]) fun X => ?_
  simp only [Tryd.ntmps188, List.map]
  refine AW_rg (tyOf_good _) [0] [] (fun _ _ => trivial) fun K' hK' => ?_
  repeat (refine sxf_next fun K2 hK2 => ?_; simp [dNum, dS]; (repeat (refine ⟨by omega, ?_⟩)); refine hK2 _ ?_; clear hK2 K2)
  refine sxf_nil (hK' _ ?_)
  refine AW.st (by simp [dNum, dS]; rfl) ?_
  clear hK' K'
  refine AW_rg (tyOf_good _) [2] [] (fun _ _ => trivial) fun K' hK' => ?_
  repeat (refine sxf_next fun K2 hK2 => ?_; simp [dNum, dS]; (repeat (refine ⟨by omega, ?_⟩)); refine hK2 _ ?_; clear hK2 K2)
  refine sxf_next fun K2 hK2 => ?_
  simp [dNum, dS]
  refine callK.data (hw) (by simp; rfl) (by first | exact D.leGo_refl _ | simp [takeMap, List.map_map, Function.comp_def, D.le, D.le.go, D.le_refl, D.leGo_refl, dNum, dS]) ?_
  refine hK2 _ ?_
  clear hK2 K2
  simp only [putd, upd_lst]
  repeat (refine sxf_next fun K2 hK2 => ?_; simp [dNum, dS]; (repeat (refine ⟨by omega, ?_⟩)); refine hK2 _ ?_; clear hK2 K2)
  refine sxf_nil (hK' _ ?_)
  refine AW.st (by simp [dNum, dS]; rfl) ?_
  clear hK' K'
  refine AW_ret ?_
  simp [D.le, D.le.go, takeMap, dNum, dS, D.le_refl]
theorem inv_Not : Invs Tryd.prog 109 "Text" 189 := fun v w => by kernel_rfl
set_option maxHeartbeats 4000000 in
theorem mtext_Not (G : Glob) (x : Ex) (hlen : (wrE (.not x) 2).length ≤ 2^30) : PureC Tryd.prog G 189 [.agg [dE x]] (dS (wrE (.not x) 0)) := by
  have hw := write_spec G (.not x) hlen 0 (by omega)
  rw [dE] at hw
  generalize wrE (.not x) 0 = r at hw ⊢
  obtain ⟨tx, cx, hx⟩ := dE_ifc x
  rw [hx] at hw ⊢
  refine PureC.of_body (tyOf_good _) Tryd.func189 rfl rfl (rs := [.tmp 2]) Tryd.results189 (by simp [Tryd.ntmps189]) fun X => ?_
  simp only [Tryd.ntmps189, List.map]
  refine AW_rg (tyOf_good _) [1] [1] (fun _ _ => trivial) fun K' hK' => ?_
  repeat (refine sxf_next fun K2 hK2 => ?_; simp [dNum, dS]; (repeat (refine ⟨by omega, ?_⟩)); refine hK2 _ ?_; clear hK2 K2)
  refine sxf_nil (hK' _ ?_)
  refine AW.st (by simp [dNum, dS]; rfl) ?_
  clear hK' K'
  refine AW_rg (tyOf_good _) [2] [1] (fun _ _ => trivial) fun K' hK' => ?_
  repeat (refine sxf_next fun K2 hK2 => ?_; simp [dNum, dS]; (repeat (refine ⟨by omega, ?_⟩)); refine hK2 _ ?_; clear hK2 K2)
  refine sxf_next fun K2 hK2 => ?_
  simp [dNum, dS]
  refine callK.data (hw) (by simp; rfl) (by first | exact D.leGo_refl _ | simp [takeMap, List.map_map, Function.comp_def, D.le, D.le.go, D.le_refl, D.leGo_refl, dNum, dS]) ?_
  refine hK2 _ ?_
  clear hK2 K2
  simp only [putd, upd_lst]
  repeat (refine sxf_next fun K2 hK2 => ?_; simp [dNum, dS]; (repeat (refine ⟨by omega, ?_⟩)); refine hK2 _ ?_; clear hK2 K2)
  refine sxf_nil (hK' _ ?_)
  refine AW.st (by simp [dNum, dS]; rfl) ?_
  clear hK' K'
  refine AW_ret ?_
  simp [D.le, D.le.go, takeMap, dNum, dS, D.le_refl]
theorem inv_And : Invs Tryd.prog 111 "Text" 190 := fun v w => by kernel_rfl
set_option maxHeartbeats 4000000 in
theorem mtext_And (G : Glob) (l : List Ex) (hlen : (wrE (.and l) 2).length ≤ 2^30) : PureC Tryd.prog G 190 [.sl none (dEs l)] (dS (wrE (.and l) 0)) := by
  have hw := write_spec G (.and l) hlen 0 (by omega)
  rw [dE] at hw
  generalize wrE (.and l) 0 = r at hw ⊢
  refine PureC.of_body (tyOf_good _) Tryd.func190 rfl rfl (rs := [.tmp 2]) Tryd.results190 (by simp [Tryd.ntmps190]) fun X => ?_
  simp only [Tryd.ntmps190, List.map]
  refine AW_rg (tyOf_good _) [0] [] (fun _ _ => trivial) fun K' hK' => ?_
  repeat (refine sxf_next fun K2 hK2 => ?_; simp [dNum, dS]; (repeat (refine ⟨by omega, ?_⟩)); refine hK2 _ ?_; clear hK2 K2)
  refine sxf_nil (hK' _ ?_)
  refine AW.st (by simp [dNum, dS]; rfl) ?_
  clear hK' K'
  refine AW_rg (tyOf_good _) [2] [] (fun _ _ => trivial) fun K' hK' => ?_
  repeat (refine sxf_next fun K2 hK2 => ?_; simp [dNum, dS]; (repeat (refine ⟨by omega, ?_⟩)); refine hK2 _ ?_; clear hK2 K2)
  refine sxf_next fun K2 hK2 => ?_
  simp [dNum, dS]
  refine callK.data (hw) (by simp; rfl) (by first | exact D.leGo_refl _ | simp [takeMap, List.map_map, Function.comp_def, D.le, D.le.go, D.le_refl, D.leGo_refl, dNum, dS]) ?_
  refine hK2 _ ?_
  clear hK2 K2
  simp only [putd, upd_lst]
  repeat (refine sxf_next fun K2 hK2 => ?_; simp [dNum, dS]; (repeat (refine ⟨by omega, ?_⟩)); refine hK2 _ ?_; clear hK2 K2)
  refine sxf_nil (hK' _ ?_)
  refine AW.st (by simp [dNum, dS]; rfl) ?_
  clear hK' K'
  refine AW_ret ?_
  simp [D.le, D.le.go, takeMap, dNum, dS, D.le_refl]
theorem inv_Or : Invs Tryd.prog 114 "Text" 191 := fun v w => by kernel_rfl
set_option maxHeartbeats 4000000 in
theorem mtext_Or (G : Glob) (l : List Ex) (hlen : (wrE (.or l) 2).length ≤ 2^30) : PureC Tryd.prog G 191 [.sl none (dEs l)] (dS (wrE (.or l) 0)) := by
  have hw := write_spec G (.or l) hlen 0 (by omega)
  rw [dE] at hw
  generalize wrE (.or l) 0 = r at hw ⊢
  refine PureC.of_body (tyOf_good _) Tryd.func191 rfl rfl (rs := [.tmp 2]) Tryd.results191 (by simp [Tryd.ntmps191]) fun X => ?_
  simp only [Tryd.ntmps191, List.map]
  refine AW_rg (tyOf_good _) [0] [] (fun _ _ => trivial) fun K' hK' => ?_
  repeat (refine sxf_next fun K2 hK2 => ?_; simp [dNum, dS]; (repeat (refine ⟨by omega, ?_⟩)); refine hK2 _ ?_; clear hK2 K2)
  refine sxf_nil (hK' _ ?_)
  refine AW.st (by simp [dNum, dS]; rfl) ?_
  clear hK' K'
  refine AW_rg (tyOf_good _) [2] [] (fun _ _ => trivial) fun K' hK' => ?_
  repeat (refine sxf_next fun K2 hK2 => ?_; simp [dNum, dS]; (repeat (refine ⟨by omega, ?_⟩)); refine hK2 _ ?_; clear hK2 K2)
  refine sxf_next fun K2 hK2 => ?_
  simp [dNum, dS]
  refine callK.data (hw) (by simp; rfl) (by first | exact D.leGo_refl _ | simp [takeMap, List.map_map, Function.comp_def, D.le, D.le.go, D.le_refl, D.leGo_refl, dNum, dS]) ?_
  refine hK2 _ ?_
  clear hK2 K2
  simp only [putd, upd_lst]
  repeat (refine sxf_next fun K2 hK2 => ?_; simp [dNum, dS]; (repeat (refine ⟨by omega, ?_⟩)); refine hK2 _ ?_; clear hK2 K2)
  refine sxf_nil (hK' _ ?_)
  refine AW.st (by simp [dNum, dS]; rfl) ?_
  clear hK' K'
  refine AW_ret ?_
  simp [D.le, D.le.go, takeMap, dNum, dS, D.le_refl]

set_option maxHeartbeats 4000000 in
theorem etext_spec (G : Glob) (e : Ex) (hlen : (wrE e 2).length ≤ 2^30) : PureC Tryd.prog G 19 [dE e] (dS (wrE e 0)) := by
  cases e with
  | cst b =>
    have hm := mtext_Const G b hlen
    rw [dE]
    generalize wrE (.cst b) 0 = r at hm ⊢
    refine PureC.of_body (tyOf_good _) Tryd.func19 rfl rfl (rs := [.tmp 2]) Tryd.results19 (by simp [Tryd.ntmps19]) fun X => ?_
    simp only [Tryd.ntmps19, List.map]
    refine AW_rg (tyOf_good _) [0] [] (fun _ _ => trivial) fun K' hK' => ?_
    repeat (refine sxf_next fun K2 hK2 => ?_; simp [dNum, dS]; (repeat (refine ⟨by omega, ?_⟩)); refine hK2 _ ?_; clear hK2 K2)
    refine sxf_nil (hK' _ ?_)
    refine AW.st (by simp [dNum, dS]; rfl) ?_
    clear hK' K'
    refine AW_then fun K1 hK1 => ?_
    refine AW_rg (tyOf_good _) [0, 4] [] (fun _ _ => trivial) fun K' hK' => ?_
    repeat (refine sxf_next fun K2 hK2 => ?_; simp [dNum, dS]; (repeat (refine ⟨by omega, ?_⟩)); refine hK2 _ ?_; clear hK2 K2)
    refine sxf_nil (hK' _ ?_)
    refine AW.st (by simp [dNum, dS]; rfl) ?_
    clear hK' K'
    refine AW_cond false rfl (fun h => by cases h) (fun _ => ?_)
    refine AW_skip (hK1 _ ?_)
    refine AW_ri (tyOf_good _) [2] [] (fun _ _ => trivial) fun K' hK' => ?_
    repeat (refine sxi_next fun K2 hK2 => ?_; simp [dNum, dS]; (repeat (refine ⟨by omega, ?_⟩)); refine hK2 _ ?_; clear hK2 K2)
    refine sxi_next fun K2 hK2 => ?_
    simp [dNum, dS]
    refine ⟨_, _, ⟨rfl, rfl⟩, _, inv_Const, callK.data (hm) (by simp; rfl) (by first | exact D.leGo_refl _ | simp [takeMap, List.map_map, Function.comp_def, D.le, D.le.go, D.le_refl, D.leGo_refl, dNum, dS]) ?_⟩
    refine hK2 _ ?_
    clear hK2 K2
    simp only [putd, upd_lst]
    repeat (refine sxi_next fun K2 hK2 => ?_; simp [dNum, dS]; (repeat (refine ⟨by omega, ?_⟩)); refine hK2 _ ?_; clear hK2 K2)
    refine sxi_nil (hK' _ ?_)
    refine AW.st (by simp [dNum, dS]; rfl) ?_
    clear hK' K'
    refine AW_ret ?_
    simp [D.le, D.le.go, takeMap, dNum, dS, D.le_refl]
  | bit s =>
    have hm := mtext_Bit G s hlen
    rw [dE]
    generalize wrE (.bit s) 0 = r at hm ⊢
    refine PureC.of_body (tyOf_good _) Tryd.func19 rfl rfl (rs := [.tmp 2]) Tryd.results19 (by simp [Tryd.ntmps19]) fun X => ?_
    simp only [Tryd.ntmps19, List.map]
    refine AW_rg (tyOf_good _) [0] [] (fun _ _ => trivial) fun K' hK' => ?_
    repeat (refine sxf_next fun K2 hK2 => ?_; simp [dNum, dS]; (repeat (refine ⟨by omega, ?_⟩)); refine hK2 _ ?_; clear hK2 K2)
    refine sxf_nil (hK' _ ?_)
    refine AW.st (by simp [dNum, dS]; rfl) ?_
    clear hK' K'
    refine AW_then fun K1 hK1 => ?_
    refine AW_rg (tyOf_good _) [0, 4] [] (fun _ _ => trivial) fun K' hK' => ?_
    repeat (refine sxf_next fun K2 hK2 => ?_; simp [dNum, dS]; (repeat (refine ⟨by omega, ?_⟩)); refine hK2 _ ?_; clear hK2 K2)
    refine sxf_nil (hK' _ ?_)
    refine AW.st (by simp [dNum, dS]; rfl) ?_
    clear hK' K'
    refine AW_cond false rfl (fun h => by cases h) (fun _ => ?_)
    refine AW_skip (hK1 _ ?_)
    refine AW_ri (tyOf_good _) [2] [] (fun _ _ => trivial) fun K' hK' => ?_
    repeat (refine sxi_next fun K2 hK2 => ?_; simp [dNum, dS]; (repeat (refine ⟨by omega, ?_⟩)); refine hK2 _ ?_; clear hK2 K2)
    refine sxi_next fun K2 hK2 => ?_
    simp [dNum, dS]
    refine ⟨_, _, ⟨rfl, rfl⟩, _, inv_Bit, callK.data (hm) (by simp; rfl) (by first | exact D.leGo_refl _ | simp [takeMap, List.map_map, Function.comp_def, D.le, D.le.go, D.le_refl, D.leGo_refl, dNum, dS]) ?_⟩
    refine hK2 _ ?_
    clear hK2 K2
    simp only [putd, upd_lst]
    repeat (refine sxi_next fun K2 hK2 => ?_; simp [dNum, dS]; (repeat (refine ⟨by omega, ?_⟩)); refine hK2 _ ?_; clear hK2 K2)
    refine sxi_nil (hK' _ ?_)
    refine AW.st (by simp [dNum, dS]; rfl) ?_
    clear hK' K'
    refine AW_ret ?_
    simp [D.le, D.le.go, takeMap, dNum, dS, D.le_refl]
  | rise s =>
    have hm := mtext_Rise G s hlen
    rw [dE]
    generalize wrE (.rise s) 0 = r at hm ⊢
    refine PureC.of_body (tyOf_good _) Tryd.func19 rfl rfl (rs := [.tmp 2]) Tryd.results19 (by simp [Tryd.ntmps19]) fun X => ?_
    simp only [Tryd.ntmps19, List.map]
    refine AW_rg (tyOf_good _) [0] [] (fun _ _ => trivial) fun K' hK' => ?_
    repeat (refine sxf_next fun K2 hK2 => ?_; simp [dNum, dS]; (repeat (refine ⟨by omega, ?_⟩)); refine hK2 _ ?_; clear hK2 K2)
    refine sxf_nil (hK' _ ?_)
    refine AW.st (by simp [dNum, dS]; rfl) ?_
    clear hK' K'
    refine AW_then fun K1 hK1 => ?_
    refine AW_rg (tyOf_good _) [0, 4] [] (fun _ _ => trivial) fun K' hK' => ?_
    repeat (refine sxf_next fun K2 hK2 => ?_; simp [dNum, dS]; (repeat (refine ⟨by omega, ?_⟩)); refine hK2 _ ?_; clear hK2 K2)
    refine sxf_nil (hK' _ ?_)
    refine AW.st (by simp [dNum, dS]; rfl) ?_
    clear hK' K'
    refine AW_cond false rfl (fun h => by cases h) (fun _ => ?_)
    refine AW_skip (hK1 _ ?_)
    refine AW_ri (tyOf_good _) [2] [] (fun _ _ => trivial) fun K' hK' => ?_
    repeat (refine sxi_next fun K2 hK2 => ?_; simp [dNum, dS]; (repeat (refine ⟨by omega, ?_⟩)); refine hK2 _ ?_; clear hK2 K2)
    refine sxi_next fun K2 hK2 => ?_
    simp [dNum, dS]
    refine ⟨_, _, ⟨rfl, rfl⟩, _, inv_Rise, callK.data (hm) (by simp; rfl) (by first | exact D.leGo_refl _ | simp [takeMap, List.map_map, Function.comp_def, D.le, D.le.go, D.le_refl, D.leGo_refl, dNum, dS]) ?_⟩
    refine hK2 _ ?_
    clear hK2 K2
    simp only [putd, upd_lst]
    repeat (refine sxi_next fun K2 hK2 => ?_; simp [dNum, dS]; (repeat (refine ⟨by omega, ?_⟩)); refine hK2 _ ?_; clear hK2 K2)
    refine sxi_nil (hK' _ ?_)
    refine AW.st (by simp [dNum, dS]; rfl) ?_
    clear hK' K'
    refine AW_ret ?_
    simp [D.le, D.le.go, takeMap, dNum, dS, D.le_refl]
  | fall s =>
    have hm := mtext_Fall G s hlen
    rw [dE]
    generalize wrE (.fall s) 0 = r at hm ⊢
    refine PureC.of_body (tyOf_good _) Tryd.func19 rfl rfl (rs := [.tmp 2]) Tryd.results19 (by simp [Tryd.ntmps19]) fun X => ?_
    simp only [Tryd.ntmps19, List.map]
    refine AW_rg (tyOf_good _) [0] [] (fun _ _ => trivial) fun K' hK' => ?_
    repeat (refine sxf_next fun K2 hK2 => ?_; simp [dNum, dS]; (repeat (refine ⟨by omega, ?_⟩)); refine hK2 _ ?_; clear hK2 K2)
    refine sxf_nil (hK' _ ?_)
    refine AW.st (by simp [dNum, dS]; rfl) ?_
    clear hK' K'
    refine AW_then fun K1 hK1 => ?_
    refine AW_rg (tyOf_good _) [0, 4] [] (fun _ _ => trivial) fun K' hK' => ?_
    repeat (refine sxf_next fun K2 hK2 => ?_; simp [dNum, dS]; (repeat (refine ⟨by omega, ?_⟩)); refine hK2 _ ?_; clear hK2 K2)
    refine sxf_nil (hK' _ ?_)
    refine AW.st (by simp [dNum, dS]; rfl) ?_
    clear hK' K'
    refine AW_cond false rfl (fun h => by cases h) (fun _ => ?_)
    refine AW_skip (hK1 _ ?_)
    refine AW_ri (tyOf_good _) [2] [] (fun _ _ => trivial) fun K' hK' => ?_
    repeat (refine sxi_next fun K2 hK2 => ?_; simp [dNum, dS]; (repeat (refine ⟨by omega, ?_⟩)); refine hK2 _ ?_; clear hK2 K2)
    refine sxi_next fun K2 hK2 => ?_
    simp [dNum, dS]
    refine ⟨_, _, ⟨rfl, rfl⟩, _, inv_Fall, callK.data (hm) (by simp; rfl) (by first | exact D.leGo_refl _ | simp [takeMap, List.map_map, Function.comp_def, D.le, D.le.go, D.le_refl, D.leGo_refl, dNum, dS]) ?_⟩
    refine hK2 _ ?_
    clear hK2 K2
    simp only [putd, upd_lst]
    repeat (refine sxi_next fun K2 hK2 => ?_; simp [dNum, dS]; (repeat (refine ⟨by omega, ?_⟩)); refine hK2 _ ?_; clear hK2 K2)
    refine sxi_nil (hK' _ ?_)
    refine AW.st (by simp [dNum, dS]; rfl) ?_
    clear hK' K'
    refine AW_ret ?_
    simp [D.le, D.le.go, takeMap, dNum, dS, D.le_refl]
  | not x =>
    have hm := mtext_Not G x hlen
    rw [dE]
    generalize wrE (.not x) 0 = r at hm ⊢
    obtain ⟨tx, cx, hx⟩ := dE_ifc x
    rw [hx] at hm ⊢
    refine PureC.of_body (tyOf_good _) Tryd.func19 rfl rfl (rs := [.tmp 2]) Tryd.results19 (by simp [Tryd.ntmps19]) fun X => ?_
    simp only [Tryd.ntmps19, List.map]
    refine AW_rg (tyOf_good _) [0] [] (fun _ _ => trivial) fun K' hK' => ?_
    repeat (refine sxf_next fun K2 hK2 => ?_; simp [dNum, dS]; (repeat (refine ⟨by omega, ?_⟩)); refine hK2 _ ?_; clear hK2 K2)
    refine sxf_nil (hK' _ ?_)
    refine AW.st (by simp [dNum, dS]; rfl) ?_
    clear hK' K'
    refine AW_then fun K1 hK1 => ?_
    refine AW_rg (tyOf_good _) [0, 4] [] (fun _ _ => trivial) fun K' hK' => ?_
    repeat (refine sxf_next fun K2 hK2 => ?_; simp [dNum, dS]; (repeat (refine ⟨by omega, ?_⟩)); refine hK2 _ ?_; clear hK2 K2)
    refine sxf_nil (hK' _ ?_)
    refine AW.st (by simp [dNum, dS]; rfl) ?_
    clear hK' K'
    refine AW_cond false rfl (fun h => by cases h) (fun _ => ?_)
    refine AW_skip (hK1 _ ?_)
    refine AW_ri (tyOf_good _) [2] [] (fun _ _ => trivial) fun K' hK' => ?_
    repeat (refine sxi_next fun K2 hK2 => ?_; simp [dNum, dS]; (repeat (refine ⟨by omega, ?_⟩)); refine hK2 _ ?_; clear hK2 K2)
    refine sxi_next fun K2 hK2 => ?_
    simp [dNum, dS]
    refine ⟨_, _, ⟨rfl, rfl⟩, _, inv_Not, callK.data (hm) (by simp; rfl) (by first | exact D.leGo_refl _ | simp [takeMap, List.map_map, Function.comp_def, D.le, D.le.go, D.le_refl, D.leGo_refl, dNum, dS]) ?_⟩
    refine hK2 _ ?_
    clear hK2 K2
    simp only [putd, upd_lst]
    repeat (refine sxi_next fun K2 hK2 => ?_; simp [dNum, dS]; (repeat (refine ⟨by omega, ?_⟩)); refine hK2 _ ?_; clear hK2 K2)
    refine sxi_nil (hK' _ ?_)
    refine AW.st (by simp [dNum, dS]; rfl) ?_
    clear hK' K'
    refine AW_ret ?_
    simp [D.le, D.le.go, takeMap, dNum, dS, D.le_refl]
  | and l =>
    have hm := mtext_And G l hlen
    rw [dE]
    generalize wrE (.and l) 0 = r at hm ⊢
    refine PureC.of_body (tyOf_good _) Tryd.func19 rfl rfl (rs := [.tmp 2]) Tryd.results19 (by simp [Tryd.ntmps19]) fun X => ?_
    simp only [Tryd.ntmps19, List.map]
    refine AW_rg (tyOf_good _) [0] [] (fun _ _ => trivial) fun K' hK' => ?_
    repeat (refine sxf_next fun K2 hK2 => ?_; simp [dNum, dS]; (repeat (refine ⟨by omega, ?_⟩)); refine hK2 _ ?_; clear hK2 K2)
    refine sxf_nil (hK' _ ?_)
    refine AW.st (by simp [dNum, dS]; rfl) ?_
    clear hK' K'
    refine AW_then fun K1 hK1 => ?_
    refine AW_rg (tyOf_good _) [0, 4] [] (fun _ _ => trivial) fun K' hK' => ?_
    repeat (refine sxf_next fun K2 hK2 => ?_; simp [dNum, dS]; (repeat (refine ⟨by omega, ?_⟩)); refine hK2 _ ?_; clear hK2 K2)
    refine sxf_nil (hK' _ ?_)
    refine AW.st (by simp [dNum, dS]; rfl) ?_
    clear hK' K'
    refine AW_cond false rfl (fun h => by cases h) (fun _ => ?_)
    refine AW_skip (hK1 _ ?_)
    refine AW_ri (tyOf_good _) [2] [] (fun _ _ => trivial) fun K' hK' => ?_
    repeat (refine sxi_next fun K2 hK2 => ?_; simp [dNum, dS]; (repeat (refine ⟨by omega, ?_⟩)); refine hK2 _ ?_; clear hK2 K2)
    refine sxi_next fun K2 hK2 => ?_
    simp [dNum, dS]
    refine ⟨_, _, ⟨rfl, rfl⟩, _, inv_And, callK.data (hm) (by simp; rfl) (by first | exact D.leGo_refl _ | simp [takeMap, List.map_map, Function.comp_def, D.le, D.le.go, D.le_refl, D.leGo_refl, dNum, dS]) ?_⟩
    refine hK2 _ ?_
    clear hK2 K2
    simp only [putd, upd_lst]
    repeat (refine sxi_next fun K2 hK2 => ?_; simp [dNum, dS]; (repeat (refine ⟨by omega, ?_⟩)); refine hK2 _ ?_; clear hK2 K2)
    refine sxi_nil (hK' _ ?_)
    refine AW.st (by simp [dNum, dS]; rfl) ?_
    clear hK' K'
    refine AW_ret ?_
    simp [D.le, D.le.go, takeMap, dNum, dS, D.le_refl]
  | or l =>
    have hm := mtext_Or G l hlen
    rw [dE]
    generalize wrE (.or l) 0 = r at hm ⊢
    refine PureC.of_body (tyOf_good _) Tryd.func19 rfl rfl (rs := [.tmp 2]) Tryd.results19 (by simp [Tryd.ntmps19]) fun X => ?_
    simp only [Tryd.ntmps19, List.map]
    refine AW_rg (tyOf_good _) [0] [] (fun _ _ => trivial) fun K' hK' => ?_
    repeat (refine sxf_next fun K2 hK2 => ?_; simp [dNum, dS]; (repeat (refine ⟨by omega, ?_⟩)); refine hK2 _ ?_; clear hK2 K2)
    refine sxf_nil (hK' _ ?_)
    refine AW.st (by simp [dNum, dS]; rfl) ?_
    clear hK' K'
    refine AW_then fun K1 hK1 => ?_
    refine AW_rg (tyOf_good _) [0, 4] [] (fun _ _ => trivial) fun K' hK' => ?_
    repeat (refine sxf_next fun K2 hK2 => ?_; simp [dNum, dS]; (repeat (refine ⟨by omega, ?_⟩)); refine hK2 _ ?_; clear hK2 K2)
    refine sxf_nil (hK' _ ?_)
    refine AW.st (by simp [dNum, dS]; rfl) ?_
    clear hK' K'
    refine AW_cond false rfl (fun h => by cases h) (fun _ => ?_)
    refine AW_skip (hK1 _ ?_)
    refine AW_ri (tyOf_good _) [2] [] (fun _ _ => trivial) fun K' hK' => ?_
    repeat (refine sxi_next fun K2 hK2 => ?_; simp [dNum, dS]; (repeat (refine ⟨by omega, ?_⟩)); refine hK2 _ ?_; clear hK2 K2)
    refine sxi_next fun K2 hK2 => ?_
    simp [dNum, dS]
    refine ⟨_, _, ⟨rfl, rfl⟩, _, inv_Or, callK.data (hm) (by simp; rfl) (by first | exact D.leGo_refl _ | simp [takeMap, List.map_map, Function.comp_def, D.le, D.le.go, D.le_refl, D.leGo_refl, dNum, dS]) ?_⟩
    refine hK2 _ ?_
    clear hK2 K2
    simp only [putd, upd_lst]
    repeat (refine sxi_next fun K2 hK2 => ?_; simp [dNum, dS]; (repeat (refine ⟨by omega, ?_⟩)); refine hK2 _ ?_; clear hK2 K2)
    refine sxi_nil (hK' _ ?_)
    refine AW.st (by simp [dNum, dS]; rfl) ?_
    clear hK' K'
    refine AW_ret ?_
    simp [D.le, D.le.go, takeMap, dNum, dS, D.le_refl]
end Go.Proofs.YtfehigldhedkgaaDoor

/-
  The document's reader of expressions: rows of parts.
-/
namespace Go.Proofs.YtfehigldhedkgaaDoor
set_option linter.unusedSimpArgs false
set_option linter.unusedVariables false
open Go.Av

/-! ### Expressions as data, as the document keeps them -/
theorem cells_one {y : D} (h : y.one = true) : valCells (.d y) = some [.d y] := by
  cases y <;> first | (simp [valCells, AV.one, D.one] at h ⊢; done) | (simp [D.one] at h; simp [valCells, AV.one, D.one, h])

/-! ### What comes of reading -/
/-! ### Where a row of parts ends, if it fails -/
end Go.Proofs.YtfehigldhedkgaaDoor

/-
  The names of an expression: walk, sorted, Names, Edges.
-/
namespace Go.Proofs.YtfehigldhedkgaaDoor
set_option linter.unusedSimpArgs false
set_option linter.unusedVariables false
open Go.Av

/-- What a contact names; all: bits, too. -/
def nmE (all : Bool) : Ex → List UInt8
  | .bit s => if all then s else []
  | .rise s => s
  | .fall s => s
  | _ => []
def one1 (s : List UInt8) : List (List UInt8) := if s = [] then [] else [s]
mutual
def nmsE (all : Bool) : Ex → List (List UInt8)
  | .not e => nmsE all e
  | .and l => nmsL all l
  | .or l => nmsL all l
  | e => one1 (nmE all e)
def nmsL (all : Bool) : List Ex → List (List UInt8)
  | [] => []
  | e :: l => nmsE all e ++ nmsL all l
end
theorem nmsL_app (all : Bool) : ∀ a b : List Ex, nmsL all (a ++ b) = nmsL all a ++ nmsL all b
  | [], b => rfl
  | e :: a, b => by simp [nmsL, nmsL_app all a b]
theorem nmsL_take (all : Bool) {l : List Ex} {i : Nat} (hi : i < l.length) : nmsL all (l.take (i + 1)) = nmsL all (l.take i) ++ nmsE all l[i] := by
  rw [List.take_succ_eq_append_getElem hi, nmsL_app]
  simp [nmsL]
theorem nms_b (all : Bool) : ∀ (n : Nat) (e : Ex), SizeOf.sizeOf e ≤ n → (nmsE all e).length ≤ bE e
  | 0, e, hn => by cases e <;> simp at hn
  | n + 1, e, hn => by
    have many : ∀ l : List Ex, (∀ x ∈ l, SizeOf.sizeOf x ≤ n) → (nmsL all l).length ≤ bEs l := by
      intro l
      induction l with
      | nil => intro _; simp [nmsL]
      | cons x l ih =>
        intro h
        have a := ih fun y hy => h y (by simp [hy])
        have b := nms_b all n x (h x (by simp))
        simp only [nmsL, bEs, List.length_append]
        omega
    have hone : ∀ s, (one1 s).length ≤ 1 := fun s => by unfold one1; split <;> simp
    have hp := bE_pos e
    cases e with
    | not x => have := nms_b all n x (by simp at hn; omega); simp only [nmsE, bE]; omega
    | and l =>
      have := many l fun x hx => by have := List.sizeOf_lt_of_mem hx; simp only [Ex.and.sizeOf_spec] at hn; omega
      simp only [nmsE, bE]; omega
    | or l =>
      have := many l fun x hx => by have := List.sizeOf_lt_of_mem hx; simp only [Ex.or.sizeOf_spec] at hn; omega
      simp only [nmsE, bE]; omega
    | cst b => have := hone (nmE all (.cst b)); simp only [nmsE]; omega
    | bit s => have := hone (nmE all (.bit s)); simp only [nmsE]; omega
    | rise s => have := hone (nmE all (.rise s)); simp only [nmsE]; omega
    | fall s => have := hone (nmE all (.fall s)); simp only [nmsE]; omega
theorem nms_len (all : Bool) (e : Ex) : (nmsE all e).length ≤ bE e := nms_b all _ e (Nat.le_refl _)
theorem nmsL_len (all : Bool) : ∀ l : List Ex, (nmsL all l).length ≤ bEs l
  | [] => by simp [nmsL]
  | e :: l => by have := nms_len all e; have := nmsL_len all l; simp only [nmsL, bEs, List.length_append]; omega

/-- What is gathered. -/
def nRow (l : List (List UInt8)) : List (Nat × Row) := [(502, .box 49 [.own 503 0 l.length]), (503, .sl 9 1 (l.map fun s => [dS s]))]
def fnOf (all : Bool) : FuncId := if all then 65 else 66
set_option maxHeartbeats 8000000 in
theorem names1_spec (G : Glob) (e : Ex) : PureC Tryd.prog G 65 [dE e] (dS (nmE true e)) := by
  by_cases h1 : ∃ s, e = .bit s
  · obtain ⟨s, rfl⟩ := h1
    rw [dE]
    refine PureC.of_body (tyOf_good _) Tryd.func65 rfl rfl (rs := [.tmp 2]) Tryd.results65 (by simp [Tryd.ntmps65]) fun X => ?_
    simp only [Tryd.ntmps65, List.map]
    refine AW_rg (tyOf_good _) [0] [] (fun _ _ => trivial) fun K' hK' => ?_
    repeat (refine sxf_next fun K2 hK2 => ?_; simp [dNum, dS, pairA, assertA]; (repeat (refine ⟨by omega, ?_⟩)); refine hK2 _ ?_; clear hK2 K2)
    refine sxf_nil (hK' _ ?_)
    refine AW.st (by simp [dNum, dS, pairA, assertA]; rfl) ?_
    clear hK' K'
    refine AW_then fun K1 hK1 => ?_
    refine AW_rg (tyOf_good _) [6] [] (fun _ _ => trivial) fun K' hK' => ?_
    repeat (refine sxf_next fun K2 hK2 => ?_; simp [dNum, dS, pairA, assertA]; (repeat (refine ⟨by omega, ?_⟩)); refine hK2 _ ?_; clear hK2 K2)
    refine sxf_nil (hK' _ ?_)
    refine AW.st (by simp [dNum, dS, pairA, assertA]; rfl) ?_
    clear hK' K'
    refine AW_block ?_
    refine AW_rg (tyOf_good _) [6, 8, 9] [] (fun _ _ => trivial) fun K' hK' => ?_
    repeat (refine sxf_next fun K2 hK2 => ?_; simp [dNum, dS, pairA, assertA]; (repeat (refine ⟨by omega, ?_⟩)); refine hK2 _ ?_; clear hK2 K2)
    refine sxf_nil (hK' _ ?_)
    refine AW.st (by simp [dNum, dS, pairA, assertA]; rfl) ?_
    clear hK' K'
    refine AW_cond true rfl (fun _ => ?_) (fun h => by cases h)
    refine AW_rg (tyOf_good _) [3] [] (fun _ _ => trivial) fun K' hK' => ?_
    repeat (refine sxf_next fun K2 hK2 => ?_; simp [dNum, dS, pairA, assertA]; (repeat (refine ⟨by omega, ?_⟩)); refine hK2 _ ?_; clear hK2 K2)
    refine sxf_nil (hK' _ ?_)
    refine AW.st (by simp [dNum, dS, pairA, assertA]; rfl) ?_
    clear hK' K'
    refine AW_rg (tyOf_good _) [2] [] (fun _ _ => trivial) fun K' hK' => ?_
    repeat (refine sxf_next fun K2 hK2 => ?_; simp [dNum, dS, pairA, assertA]; (repeat (refine ⟨by omega, ?_⟩)); refine hK2 _ ?_; clear hK2 K2)
    refine sxf_nil (hK' _ ?_)
    refine AW.st (by simp [dNum, dS, pairA, assertA]; rfl) ?_
    clear hK' K'
    refine AW_ret ?_
    simp [D.le, D.le.go, takeMap, dNum, dS, pairA, assertA, nmE, dS, D.le_refl]
  by_cases h2 : ∃ s, e = .rise s
  · obtain ⟨s, rfl⟩ := h2
    rw [dE]
    refine PureC.of_body (tyOf_good _) Tryd.func65 rfl rfl (rs := [.tmp 2]) Tryd.results65 (by simp [Tryd.ntmps65]) fun X => ?_
    simp only [Tryd.ntmps65, List.map]
    refine AW_rg (tyOf_good _) [0] [] (fun _ _ => trivial) fun K' hK' => ?_
    repeat (refine sxf_next fun K2 hK2 => ?_; simp [dNum, dS, pairA, assertA]; (repeat (refine ⟨by omega, ?_⟩)); refine hK2 _ ?_; clear hK2 K2)
    refine sxf_nil (hK' _ ?_)
    refine AW.st (by simp [dNum, dS, pairA, assertA]; rfl) ?_
    clear hK' K'
    refine AW_then fun K1 hK1 => ?_
    refine AW_rg (tyOf_good _) [6] [] (fun _ _ => trivial) fun K' hK' => ?_
    repeat (refine sxf_next fun K2 hK2 => ?_; simp [dNum, dS, pairA, assertA]; (repeat (refine ⟨by omega, ?_⟩)); refine hK2 _ ?_; clear hK2 K2)
    refine sxf_nil (hK' _ ?_)
    refine AW.st (by simp [dNum, dS, pairA, assertA]; rfl) ?_
    clear hK' K'
    refine AW_block ?_
    refine AW_rg (tyOf_good _) [6, 8, 9] [] (fun _ _ => trivial) fun K' hK' => ?_
    repeat (refine sxf_next fun K2 hK2 => ?_; simp [dNum, dS, pairA, assertA]; (repeat (refine ⟨by omega, ?_⟩)); refine hK2 _ ?_; clear hK2 K2)
    refine sxf_nil (hK' _ ?_)
    refine AW.st (by simp [dNum, dS, pairA, assertA]; rfl) ?_
    clear hK' K'
    refine AW_cond false rfl (fun h => by cases h) (fun _ => ?_)
    refine AW_rg (tyOf_good _) [6, 12, 13] [] (fun _ _ => trivial) fun K' hK' => ?_
    repeat (refine sxf_next fun K2 hK2 => ?_; simp [dNum, dS, pairA, assertA]; (repeat (refine ⟨by omega, ?_⟩)); refine hK2 _ ?_; clear hK2 K2)
    refine sxf_nil (hK' _ ?_)
    refine AW.st (by simp [dNum, dS, pairA, assertA]; rfl) ?_
    clear hK' K'
    refine AW_cond true rfl (fun _ => ?_) (fun h => by cases h)
    refine AW_rg (tyOf_good _) [4] [] (fun _ _ => trivial) fun K' hK' => ?_
    repeat (refine sxf_next fun K2 hK2 => ?_; simp [dNum, dS, pairA, assertA]; (repeat (refine ⟨by omega, ?_⟩)); refine hK2 _ ?_; clear hK2 K2)
    refine sxf_nil (hK' _ ?_)
    refine AW.st (by simp [dNum, dS, pairA, assertA]; rfl) ?_
    clear hK' K'
    refine AW_rg (tyOf_good _) [2] [] (fun _ _ => trivial) fun K' hK' => ?_
    repeat (refine sxf_next fun K2 hK2 => ?_; simp [dNum, dS, pairA, assertA]; (repeat (refine ⟨by omega, ?_⟩)); refine hK2 _ ?_; clear hK2 K2)
    refine sxf_nil (hK' _ ?_)
    refine AW.st (by simp [dNum, dS, pairA, assertA]; rfl) ?_
    clear hK' K'
    refine AW_ret ?_
    simp [D.le, D.le.go, takeMap, dNum, dS, pairA, assertA, nmE, dS, D.le_refl]
  by_cases h3 : ∃ s, e = .fall s
  · obtain ⟨s, rfl⟩ := h3
    rw [dE]
    refine PureC.of_body (tyOf_good _) Tryd.func65 rfl rfl (rs := [.tmp 2]) Tryd.results65 (by simp [Tryd.ntmps65]) fun X => ?_
    simp only [Tryd.ntmps65, List.map]
    refine AW_rg (tyOf_good _) [0] [] (fun _ _ => trivial) fun K' hK' => ?_
    repeat (refine sxf_next fun K2 hK2 => ?_; simp [dNum, dS, pairA, assertA]; (repeat (refine ⟨by omega, ?_⟩)); refine hK2 _ ?_; clear hK2 K2)
    refine sxf_nil (hK' _ ?_)
    refine AW.st (by simp [dNum, dS, pairA, assertA]; rfl) ?_
    clear hK' K'
    refine AW_then fun K1 hK1 => ?_
    refine AW_rg (tyOf_good _) [6] [] (fun _ _ => trivial) fun K' hK' => ?_
    repeat (refine sxf_next fun K2 hK2 => ?_; simp [dNum, dS, pairA, assertA]; (repeat (refine ⟨by omega, ?_⟩)); refine hK2 _ ?_; clear hK2 K2)
    refine sxf_nil (hK' _ ?_)
    refine AW.st (by simp [dNum, dS, pairA, assertA]; rfl) ?_
    clear hK' K'
    refine AW_block ?_
    refine AW_rg (tyOf_good _) [6, 8, 9] [] (fun _ _ => trivial) fun K' hK' => ?_
    repeat (refine sxf_next fun K2 hK2 => ?_; simp [dNum, dS, pairA, assertA]; (repeat (refine ⟨by omega, ?_⟩)); refine hK2 _ ?_; clear hK2 K2)
    refine sxf_nil (hK' _ ?_)
    refine AW.st (by simp [dNum, dS, pairA, assertA]; rfl) ?_
    clear hK' K'
    refine AW_cond false rfl (fun h => by cases h) (fun _ => ?_)
    refine AW_rg (tyOf_good _) [6, 12, 13] [] (fun _ _ => trivial) fun K' hK' => ?_
    repeat (refine sxf_next fun K2 hK2 => ?_; simp [dNum, dS, pairA, assertA]; (repeat (refine ⟨by omega, ?_⟩)); refine hK2 _ ?_; clear hK2 K2)
    refine sxf_nil (hK' _ ?_)
    refine AW.st (by simp [dNum, dS, pairA, assertA]; rfl) ?_
    clear hK' K'
    refine AW_cond false rfl (fun h => by cases h) (fun _ => ?_)
    refine AW_rg (tyOf_good _) [16, 17] [] (fun _ _ => trivial) fun K' hK' => ?_
    repeat (refine sxf_next fun K2 hK2 => ?_; simp [dNum, dS, pairA, assertA]; (repeat (refine ⟨by omega, ?_⟩)); refine hK2 _ ?_; clear hK2 K2)
    refine sxf_nil (hK' _ ?_)
    refine AW.st (by simp [dNum, dS, pairA, assertA]; rfl) ?_
    clear hK' K'
    refine AW_cond true rfl (fun _ => ?_) (fun h => by cases h)
    refine AW_rg (tyOf_good _) [5] [] (fun _ _ => trivial) fun K' hK' => ?_
    repeat (refine sxf_next fun K2 hK2 => ?_; simp [dNum, dS, pairA, assertA]; (repeat (refine ⟨by omega, ?_⟩)); refine hK2 _ ?_; clear hK2 K2)
    refine sxf_nil (hK' _ ?_)
    refine AW.st (by simp [dNum, dS, pairA, assertA]; rfl) ?_
    clear hK' K'
    refine AW_rg (tyOf_good _) [2] [] (fun _ _ => trivial) fun K' hK' => ?_
    repeat (refine sxf_next fun K2 hK2 => ?_; simp [dNum, dS, pairA, assertA]; (repeat (refine ⟨by omega, ?_⟩)); refine hK2 _ ?_; clear hK2 K2)
    refine sxf_nil (hK' _ ?_)
    refine AW.st (by simp [dNum, dS, pairA, assertA]; rfl) ?_
    clear hK' K'
    refine AW_ret ?_
    simp [D.le, D.le.go, takeMap, dNum, dS, pairA, assertA, nmE, dS, D.le_refl]
  have hk : ∃ t c, dE e = .ifc t c ∧ ¬ t = 105 ∧ ¬ t = 106 ∧ ¬ t = 107 ∧ nmE true e = [] := by
    cases e with
    | bit s => exact absurd ⟨s, rfl⟩ h1
    | rise s => exact absurd ⟨s, rfl⟩ h2
    | fall s => exact absurd ⟨s, rfl⟩ h3
    | cst b => exact ⟨_, _, by rw [dE], by decide, by decide, by decide, rfl⟩
    | not b => exact ⟨_, _, by rw [dE], by decide, by decide, by decide, rfl⟩
    | and b => exact ⟨_, _, by rw [dE], by decide, by decide, by decide, rfl⟩
    | or b => exact ⟨_, _, by rw [dE], by decide, by decide, by decide, rfl⟩
  obtain ⟨t, c, hy, a1, a2, a3, a4⟩ := hk
  rw [a4, hy]
  refine PureC.of_body (tyOf_good _) Tryd.func65 rfl rfl (rs := [.tmp 2]) Tryd.results65 (by simp [Tryd.ntmps65]) fun X => ?_
  simp only [Tryd.ntmps65, List.map]
  refine AW_rg (tyOf_good _) [0] [] (fun _ _ => trivial) fun K' hK' => ?_
  repeat (refine sxf_next fun K2 hK2 => ?_; simp [dNum, dS, pairA, assertA]; (repeat (refine ⟨by omega, ?_⟩)); refine hK2 _ ?_; clear hK2 K2)
  refine sxf_nil (hK' _ ?_)
  refine AW.st (by simp [dNum, dS, pairA, assertA]; rfl) ?_
  clear hK' K'
  refine AW_then fun K1 hK1 => ?_
  refine AW_rg (tyOf_good _) [6] [] (fun _ _ => trivial) fun K' hK' => ?_
  repeat (refine sxf_next fun K2 hK2 => ?_; simp [dNum, dS, pairA, assertA]; (repeat (refine ⟨by omega, ?_⟩)); refine hK2 _ ?_; clear hK2 K2)
  refine sxf_nil (hK' _ ?_)
  refine AW.st (by simp [dNum, dS, pairA, assertA]; rfl) ?_
  clear hK' K'
  refine AW_block ?_
  refine AW_rg (tyOf_good _) [6, 8, 9] [] (fun _ _ => trivial) fun K' hK' => ?_
  repeat (refine sxf_next fun K2 hK2 => ?_; simp [dNum, dS, pairA, assertA, a1]; (repeat (refine ⟨by omega, ?_⟩)); refine hK2 _ ?_; clear hK2 K2)
  refine sxf_nil (hK' _ ?_)
  refine AW.st (by simp [dNum, dS, pairA, assertA, a1]; rfl) ?_
  clear hK' K'
  refine AW_cond false rfl (fun h => by cases h) (fun _ => ?_)
  refine AW_rg (tyOf_good _) [6, 12, 13] [] (fun _ _ => trivial) fun K' hK' => ?_
  repeat (refine sxf_next fun K2 hK2 => ?_; simp [dNum, dS, pairA, assertA, a2]; (repeat (refine ⟨by omega, ?_⟩)); refine hK2 _ ?_; clear hK2 K2)
  refine sxf_nil (hK' _ ?_)
  refine AW.st (by simp [dNum, dS, pairA, assertA, a2]; rfl) ?_
  clear hK' K'
  refine AW_cond false rfl (fun h => by cases h) (fun _ => ?_)
  refine AW_rg (tyOf_good _) [16, 17] [] (fun _ _ => trivial) fun K' hK' => ?_
  repeat (refine sxf_next fun K2 hK2 => ?_; simp [dNum, dS, pairA, assertA, a3]; (repeat (refine ⟨by omega, ?_⟩)); refine hK2 _ ?_; clear hK2 K2)
  refine sxf_nil (hK' _ ?_)
  refine AW.st (by simp [dNum, dS, pairA, assertA, a3]; rfl) ?_
  clear hK' K'
  refine AW_cond false rfl (fun h => by cases h) (fun _ => ?_)
  refine AW_skip (hK1 _ ?_)
  refine AW_rg (tyOf_good _) [2] [] (fun _ _ => trivial) fun K' hK' => ?_
  repeat (refine sxf_next fun K2 hK2 => ?_; simp [dNum, dS, pairA, assertA]; (repeat (refine ⟨by omega, ?_⟩)); refine hK2 _ ?_; clear hK2 K2)
  refine sxf_nil (hK' _ ?_)
  refine AW.st (by simp [dNum, dS, pairA, assertA]; rfl) ?_
  clear hK' K'
  refine AW_ret ?_
  simp [D.le, D.le.go, takeMap, dNum, dS, pairA, assertA, dS, bs_nil, D.le_refl]
set_option maxHeartbeats 8000000 in
theorem edges1_spec (G : Glob) (e : Ex) : PureC Tryd.prog G 66 [dE e] (dS (nmE false e)) := by
  by_cases h2 : ∃ s, e = .rise s
  · obtain ⟨s, rfl⟩ := h2
    rw [dE]
    refine PureC.of_body (tyOf_good _) Tryd.func66 rfl rfl (rs := [.tmp 2]) Tryd.results66 (by simp [Tryd.ntmps66]) fun X => ?_
    simp only [Tryd.ntmps66, List.map]
    refine AW_rg (tyOf_good _) [0] [] (fun _ _ => trivial) fun K' hK' => ?_
    repeat (refine sxf_next fun K2 hK2 => ?_; simp [dNum, dS, pairA, assertA]; (repeat (refine ⟨by omega, ?_⟩)); refine hK2 _ ?_; clear hK2 K2)
    refine sxf_nil (hK' _ ?_)
    refine AW.st (by simp [dNum, dS, pairA, assertA]; rfl) ?_
    clear hK' K'
    refine AW_then fun K1 hK1 => ?_
    refine AW_rg (tyOf_good _) [5] [] (fun _ _ => trivial) fun K' hK' => ?_
    repeat (refine sxf_next fun K2 hK2 => ?_; simp [dNum, dS, pairA, assertA]; (repeat (refine ⟨by omega, ?_⟩)); refine hK2 _ ?_; clear hK2 K2)
    refine sxf_nil (hK' _ ?_)
    refine AW.st (by simp [dNum, dS, pairA, assertA]; rfl) ?_
    clear hK' K'
    refine AW_block ?_
    refine AW_rg (tyOf_good _) [5, 7, 8] [] (fun _ _ => trivial) fun K' hK' => ?_
    repeat (refine sxf_next fun K2 hK2 => ?_; simp [dNum, dS, pairA, assertA]; (repeat (refine ⟨by omega, ?_⟩)); refine hK2 _ ?_; clear hK2 K2)
    refine sxf_nil (hK' _ ?_)
    refine AW.st (by simp [dNum, dS, pairA, assertA]; rfl) ?_
    clear hK' K'
    refine AW_cond true rfl (fun _ => ?_) (fun h => by cases h)
    refine AW_rg (tyOf_good _) [3] [] (fun _ _ => trivial) fun K' hK' => ?_
    repeat (refine sxf_next fun K2 hK2 => ?_; simp [dNum, dS, pairA, assertA]; (repeat (refine ⟨by omega, ?_⟩)); refine hK2 _ ?_; clear hK2 K2)
    refine sxf_nil (hK' _ ?_)
    refine AW.st (by simp [dNum, dS, pairA, assertA]; rfl) ?_
    clear hK' K'
    refine AW_rg (tyOf_good _) [2] [] (fun _ _ => trivial) fun K' hK' => ?_
    repeat (refine sxf_next fun K2 hK2 => ?_; simp [dNum, dS, pairA, assertA]; (repeat (refine ⟨by omega, ?_⟩)); refine hK2 _ ?_; clear hK2 K2)
    refine sxf_nil (hK' _ ?_)
    refine AW.st (by simp [dNum, dS, pairA, assertA]; rfl) ?_
    clear hK' K'
    refine AW_ret ?_
    simp [D.le, D.le.go, takeMap, dNum, dS, pairA, assertA, nmE, dS, D.le_refl]
  by_cases h3 : ∃ s, e = .fall s
  · obtain ⟨s, rfl⟩ := h3
    rw [dE]
    refine PureC.of_body (tyOf_good _) Tryd.func66 rfl rfl (rs := [.tmp 2]) Tryd.results66 (by simp [Tryd.ntmps66]) fun X => ?_
    simp only [Tryd.ntmps66, List.map]
    refine AW_rg (tyOf_good _) [0] [] (fun _ _ => trivial) fun K' hK' => ?_
    repeat (refine sxf_next fun K2 hK2 => ?_; simp [dNum, dS, pairA, assertA]; (repeat (refine ⟨by omega, ?_⟩)); refine hK2 _ ?_; clear hK2 K2)
    refine sxf_nil (hK' _ ?_)
    refine AW.st (by simp [dNum, dS, pairA, assertA]; rfl) ?_
    clear hK' K'
    refine AW_then fun K1 hK1 => ?_
    refine AW_rg (tyOf_good _) [5] [] (fun _ _ => trivial) fun K' hK' => ?_
    repeat (refine sxf_next fun K2 hK2 => ?_; simp [dNum, dS, pairA, assertA]; (repeat (refine ⟨by omega, ?_⟩)); refine hK2 _ ?_; clear hK2 K2)
    refine sxf_nil (hK' _ ?_)
    refine AW.st (by simp [dNum, dS, pairA, assertA]; rfl) ?_
    clear hK' K'
    refine AW_block ?_
    refine AW_rg (tyOf_good _) [5, 7, 8] [] (fun _ _ => trivial) fun K' hK' => ?_
    repeat (refine sxf_next fun K2 hK2 => ?_; simp [dNum, dS, pairA, assertA]; (repeat (refine ⟨by omega, ?_⟩)); refine hK2 _ ?_; clear hK2 K2)
    refine sxf_nil (hK' _ ?_)
    refine AW.st (by simp [dNum, dS, pairA, assertA]; rfl) ?_
    clear hK' K'
    refine AW_cond false rfl (fun h => by cases h) (fun _ => ?_)
    refine AW_rg (tyOf_good _) [11, 12] [] (fun _ _ => trivial) fun K' hK' => ?_
    repeat (refine sxf_next fun K2 hK2 => ?_; simp [dNum, dS, pairA, assertA]; (repeat (refine ⟨by omega, ?_⟩)); refine hK2 _ ?_; clear hK2 K2)
    refine sxf_nil (hK' _ ?_)
    refine AW.st (by simp [dNum, dS, pairA, assertA]; rfl) ?_
    clear hK' K'
    refine AW_cond true rfl (fun _ => ?_) (fun h => by cases h)
    refine AW_rg (tyOf_good _) [4] [] (fun _ _ => trivial) fun K' hK' => ?_
    repeat (refine sxf_next fun K2 hK2 => ?_; simp [dNum, dS, pairA, assertA]; (repeat (refine ⟨by omega, ?_⟩)); refine hK2 _ ?_; clear hK2 K2)
    refine sxf_nil (hK' _ ?_)
    refine AW.st (by simp [dNum, dS, pairA, assertA]; rfl) ?_
    clear hK' K'
    refine AW_rg (tyOf_good _) [2] [] (fun _ _ => trivial) fun K' hK' => ?_
    repeat (refine sxf_next fun K2 hK2 => ?_; simp [dNum, dS, pairA, assertA]; (repeat (refine ⟨by omega, ?_⟩)); refine hK2 _ ?_; clear hK2 K2)
    refine sxf_nil (hK' _ ?_)
    refine AW.st (by simp [dNum, dS, pairA, assertA]; rfl) ?_
    clear hK' K'
    refine AW_ret ?_
    simp [D.le, D.le.go, takeMap, dNum, dS, pairA, assertA, nmE, dS, D.le_refl]
  have hk : ∃ t c, dE e = .ifc t c ∧ ¬ t = 106 ∧ ¬ t = 107 ∧ nmE false e = [] := by
    cases e with
    | rise s => exact absurd ⟨s, rfl⟩ h2
    | fall s => exact absurd ⟨s, rfl⟩ h3
    | cst b => exact ⟨_, _, by rw [dE], by decide, by decide, rfl⟩
    | bit b => exact ⟨_, _, by rw [dE], by decide, by decide, rfl⟩
    | not b => exact ⟨_, _, by rw [dE], by decide, by decide, rfl⟩
    | and b => exact ⟨_, _, by rw [dE], by decide, by decide, rfl⟩
    | or b => exact ⟨_, _, by rw [dE], by decide, by decide, rfl⟩
  obtain ⟨t, c, hy, a2, a3, a4⟩ := hk
  rw [a4, hy]
  refine PureC.of_body (tyOf_good _) Tryd.func66 rfl rfl (rs := [.tmp 2]) Tryd.results66 (by simp [Tryd.ntmps66]) fun X => ?_
  simp only [Tryd.ntmps66, List.map]
  refine AW_rg (tyOf_good _) [0] [] (fun _ _ => trivial) fun K' hK' => ?_
  repeat (refine sxf_next fun K2 hK2 => ?_; simp [dNum, dS, pairA, assertA]; (repeat (refine ⟨by omega, ?_⟩)); refine hK2 _ ?_; clear hK2 K2)
  refine sxf_nil (hK' _ ?_)
  refine AW.st (by simp [dNum, dS, pairA, assertA]; rfl) ?_
  clear hK' K'
  refine AW_then fun K1 hK1 => ?_
  refine AW_rg (tyOf_good _) [5] [] (fun _ _ => trivial) fun K' hK' => ?_
  repeat (refine sxf_next fun K2 hK2 => ?_; simp [dNum, dS, pairA, assertA]; (repeat (refine ⟨by omega, ?_⟩)); refine hK2 _ ?_; clear hK2 K2)
  refine sxf_nil (hK' _ ?_)
  refine AW.st (by simp [dNum, dS, pairA, assertA]; rfl) ?_
  clear hK' K'
  refine AW_block ?_
  refine AW_rg (tyOf_good _) [5, 7, 8] [] (fun _ _ => trivial) fun K' hK' => ?_
  repeat (refine sxf_next fun K2 hK2 => ?_; simp [dNum, dS, pairA, assertA, a2]; (repeat (refine ⟨by omega, ?_⟩)); refine hK2 _ ?_; clear hK2 K2)
  refine sxf_nil (hK' _ ?_)
  refine AW.st (by simp [dNum, dS, pairA, assertA, a2]; rfl) ?_
  clear hK' K'
  refine AW_cond false rfl (fun h => by cases h) (fun _ => ?_)
  refine AW_rg (tyOf_good _) [11, 12] [] (fun _ _ => trivial) fun K' hK' => ?_
  repeat (refine sxf_next fun K2 hK2 => ?_; simp [dNum, dS, pairA, assertA, a3]; (repeat (refine ⟨by omega, ?_⟩)); refine hK2 _ ?_; clear hK2 K2)
  refine sxf_nil (hK' _ ?_)
  refine AW.st (by simp [dNum, dS, pairA, assertA, a3]; rfl) ?_
  clear hK' K'
  refine AW_cond false rfl (fun h => by cases h) (fun _ => ?_)
  refine AW_skip (hK1 _ ?_)
  refine AW_rg (tyOf_good _) [2] [] (fun _ _ => trivial) fun K' hK' => ?_
  repeat (refine sxf_next fun K2 hK2 => ?_; simp [dNum, dS, pairA, assertA]; (repeat (refine ⟨by omega, ?_⟩)); refine hK2 _ ?_; clear hK2 K2)
  refine sxf_nil (hK' _ ?_)
  refine AW.st (by simp [dNum, dS, pairA, assertA]; rfl) ?_
  clear hK' K'
  refine AW_ret ?_
  simp [D.le, D.le.go, takeMap, dNum, dS, pairA, assertA, dS, bs_nil, D.le_refl]
theorem name1_spec (G : Glob) (all : Bool) (e : Ex) : PureC Tryd.prog G (fnOf all) [dE e] (dS (nmE all e)) := by
  cases all with
  | true => exact names1_spec G e
  | false => exact edges1_spec G e

set_option maxHeartbeats 8000000 in
theorem gather_spec (G : Glob) (all : Bool) (l : List (List UInt8)) (e : Ex) (hl : l.length < 2^40) : MC Tryd.prog G [502] 87 ([.d (dE e)] ++ [.d (.ip [.fn (.func (fnOf all)) []]), .ref 502 0 0]) (hlst (nRow l)) (.d (.tup [])) (hlst (nRow (l ++ one1 (nmE all e)))) := by
  have hn := name1_spec G all e
  obtain ⟨t, c, hx⟩ := dE_ifc e
  rw [hx] at hn ⊢
  generalize fnOf all = g at hn ⊢
  generalize nmE all e = s at hn ⊢
  by_cases hs : s = []
  · subst hs
    have he : l ++ one1 [] = l := by simp [one1]
    rw [he]
    refine MC.of_body (tyOf_good _) Tryd.func87 rfl rfl (rs := []) Tryd.results87 (by simp [Tryd.ntmps87]) rfl fun X => ?_
    simp only [Tryd.ntmps87]
    refine AW_rg (tyOf_good _) [2, 4] [502, 503] (notIn_ok rfl) fun K' hK' => ?_
    repeat (refine sxf_next fun K2 hK2 => ?_; simp [dNum, dS, nRow]; (repeat (refine ⟨by omega, ?_⟩)); refine hK2 _ ?_; clear hK2 K2)
    refine sxf_next fun K2 hK2 => ?_
    simp [dNum, dS, nRow]
    refine callK.data (hn) (by simp; rfl) (by first | exact D.leGo_refl _ | simp [takeMap, List.map_map, Function.comp_def, D.le, D.le.go, D.le_refl, D.leGo_refl, dNum, dS, nRow]) ?_
    refine hK2 _ ?_
    clear hK2 K2
    simp only [putd, upd_lst]
    repeat (refine sxf_next fun K2 hK2 => ?_; simp [dNum, dS, nRow]; (repeat (refine ⟨by omega, ?_⟩)); refine hK2 _ ?_; clear hK2 K2)
    refine sxf_nil (hK' _ ?_)
    refine AW.st (by simp [dNum, dS, nRow]; rfl) ?_
    clear hK' K'
    refine AW_rg (tyOf_good _) [2, 4, 9] [502, 503] (notIn_ok rfl) fun K' hK' => ?_
    repeat (refine sxf_next fun K2 hK2 => ?_; simp [dNum, dS, nRow, binS, bs_list, bs_nil]; (repeat (refine ⟨by omega, ?_⟩)); refine hK2 _ ?_; clear hK2 K2)
    refine sxf_nil (hK' _ ?_)
    refine AW.st (by simp [dNum, dS, nRow, binS, bs_list, bs_nil]; rfl) ?_
    clear hK' K'
    refine AW_cond false rfl (fun h => by cases h) (fun _ => ?_)
    refine AW_skip ?_
    simp [D.le_refl, nRow, dS]
  · have he : one1 s = [s] := by unfold one1; rw [if_neg hs]
    have hse : s.isEmpty = false := by rw [List.isEmpty_eq_false_iff]; exact hs
    have hsb : (s == []) = false := by simpa using hs
    rw [he]
    refine MC.of_body (tyOf_good _) Tryd.func87 rfl rfl (rs := []) Tryd.results87 (by simp [Tryd.ntmps87]) rfl fun X => ?_
    simp only [Tryd.ntmps87]
    refine AW_rg (tyOf_good _) [2, 4] [502, 503] (notIn_ok rfl) fun K' hK' => ?_
    repeat (refine sxf_next fun K2 hK2 => ?_; simp [dNum, dS, nRow]; (repeat (refine ⟨by omega, ?_⟩)); refine hK2 _ ?_; clear hK2 K2)
    refine sxf_next fun K2 hK2 => ?_
    simp [dNum, dS, nRow]
    refine callK.data (hn) (by simp; rfl) (by first | exact D.leGo_refl _ | simp [takeMap, List.map_map, Function.comp_def, D.le, D.le.go, D.le_refl, D.leGo_refl, dNum, dS, nRow]) ?_
    refine hK2 _ ?_
    clear hK2 K2
    simp only [putd, upd_lst]
    repeat (refine sxf_next fun K2 hK2 => ?_; simp [dNum, dS, nRow]; (repeat (refine ⟨by omega, ?_⟩)); refine hK2 _ ?_; clear hK2 K2)
    refine sxf_nil (hK' _ ?_)
    refine AW.st (by simp [dNum, dS, nRow]; rfl) ?_
    clear hK' K'
    refine AW_rg (tyOf_good _) [2, 4, 9] [502, 503] (notIn_ok rfl) fun K' hK' => ?_
    repeat (refine sxf_next fun K2 hK2 => ?_; simp [dNum, dS, nRow, binS, bs_list, bs_nil, hs, hse, hsb]; (repeat (refine ⟨by omega, ?_⟩)); refine hK2 _ ?_; clear hK2 K2)
    refine sxf_nil (hK' _ ?_)
    refine AW.st (by simp [dNum, dS, nRow, binS, bs_list, bs_nil, hs, hse, hsb]; rfl) ?_
    clear hK' K'
    refine AW_cond true rfl (fun _ => ?_) (fun h => by cases h)
    refine AW_re (tyOf_good _) fun K' hK' => ?_
    repeat (refine sxf_next fun K2 hK2 => ?_; simp [dNum, dS, nRow, List.take_of_length_le]; (repeat (refine ⟨by omega, ?_⟩)); refine hK2 _ ?_; clear hK2 K2)
    refine sxf_nil (hK' _ ?_)
    clear hK' K'
    try simp only [thn, inb]
    simp [D.le_refl, nRow, dS]

set_option maxHeartbeats 16000000 in
theorem walkN_at (G : Glob) (all : Bool) : ∀ (m : Nat) (e : Ex), SizeOf.sizeOf e ≤ m → ∀ l0 : List (List UInt8), l0.length + bE e ≤ 2^39 → MC Tryd.prog G [502] 51 [.d (dE e), .fn (.func 87) [.d (.ip [.fn (.func (fnOf all)) []]), .ref 502 0 0]] (hlst (nRow l0)) (.d (.tup [])) (hlst (nRow (l0 ++ nmsE all e))) := by
  intro m
  induction m with
  | zero => intro e hsz; cases e <;> simp at hsz
  | succ m ih =>
    intro e hsz l0 hb
    have hbp := bE_pos e
    by_cases hN : ∃ x, e = .not x
    · obtain ⟨x, rfl⟩ := hN
      simp only [bE] at hb
      obtain ⟨tx, cx, hx⟩ := dE_ifc x
      have hs1 := gather_spec G all l0 (.not x) (by omega)
      have hnil : one1 (nmE all (.not x)) = [] := rfl
      rw [hnil, List.append_nil, List.singleton_append] at hs1
      have hc := ih x (by simp at hsz; omega) l0 (by omega)
      rw [nmsE]
      rw [dE, hx]
      rw [dE, hx] at hs1
      rw [hx] at hc
      generalize l0 ++ nmsE all x = l1 at hc ⊢
      generalize fnOf all = g at hc hs1 ⊢
      refine MC.of_body (tyOf_good _) Tryd.func51 rfl rfl (rs := []) Tryd.results51 (by simp [Tryd.ntmps51]) rfl fun X => ?_
      simp only [Tryd.ntmps51]
      refine AW_rg (tyOf_good _) [0, 1] [502, 503] (notIn_ok rfl) fun K' hK' => ?_
      repeat (refine sxf_next fun K2 hK2 => ?_; simp [dNum, dS, nRow, pairA, assertA]; (repeat (refine ⟨by omega, ?_⟩)); refine hK2 _ ?_; clear hK2 K2)
      refine sxf_next fun K2 hK2 => ?_
      simp [dNum, dS, nRow, pairA, assertA]
      refine callK.mc (hs1) (by simp [dNum, dS, nRow, pairA, assertA]) (by simp [dNum, dS, nRow, pairA, assertA]) (by simp [dNum, dS, nRow, pairA, assertA]) (by simp [dNum, dS, nRow, pairA, assertA]) ?_
      simp [dNum, dS, nRow, pairA, assertA]
      refine hK2 _ ?_
      clear hK2 K2
      repeat (refine sxf_next fun K2 hK2 => ?_; simp [dNum, dS, nRow, pairA, assertA]; (repeat (refine ⟨by omega, ?_⟩)); refine hK2 _ ?_; clear hK2 K2)
      refine sxf_nil (hK' _ ?_)
      refine AW.st (by simp [dNum, dS, nRow, pairA, assertA]; rfl) ?_
      clear hK' K'
      refine AW_rg (tyOf_good _) [1, 14] [502, 503] (notIn_ok rfl) fun K' hK' => ?_
      repeat (refine sxf_next fun K2 hK2 => ?_; simp [dNum, dS, nRow, pairA, assertA]; (repeat (refine ⟨by omega, ?_⟩)); refine hK2 _ ?_; clear hK2 K2)
      refine sxf_nil (hK' _ ?_)
      refine AW.st (by simp [dNum, dS, nRow, pairA, assertA]; rfl) ?_
      clear hK' K'
      refine AW_block ?_
      refine AW_rg (tyOf_good _) [1, 14, 16, 17] [502, 503] (notIn_ok rfl) fun K' hK' => ?_
      repeat (refine sxf_next fun K2 hK2 => ?_; simp [dNum, dS, nRow, pairA, assertA]; (repeat (refine ⟨by omega, ?_⟩)); refine hK2 _ ?_; clear hK2 K2)
      refine sxf_nil (hK' _ ?_)
      refine AW.st (by simp [dNum, dS, nRow, pairA, assertA]; rfl) ?_
      clear hK' K'
      refine AW_cond true rfl (fun _ => ?_) (fun h => by cases h)
      refine AW_rg (tyOf_good _) [1, 4] [4, 502, 503] (notIn_ok rfl) fun K' hK' => ?_
      repeat (refine sxf_next fun K2 hK2 => ?_; simp [dNum, dS, nRow, pairA, assertA]; (repeat (refine ⟨by omega, ?_⟩)); refine hK2 _ ?_; clear hK2 K2)
      refine sxf_nil (hK' _ ?_)
      refine AW.st (by simp [dNum, dS, nRow, pairA, assertA]; rfl) ?_
      clear hK' K'
      refine AW_re (tyOf_good _) fun K' hK' => ?_
      repeat (refine sxf_next fun K2 hK2 => ?_; simp [dNum, dS, nRow, pairA, assertA]; (repeat (refine ⟨by omega, ?_⟩)); refine hK2 _ ?_; clear hK2 K2)
      refine sxf_next fun K2 hK2 => ?_
      simp [dNum, dS, nRow, pairA, assertA]
      refine callK.mc (hc) (by simp [dNum, dS, nRow, pairA, assertA]) (by simp [dNum, dS, nRow, pairA, assertA]) (by simp [dNum, dS, nRow, pairA, assertA]) (by simp [dNum, dS, nRow, pairA, assertA]) ?_
      simp [dNum, dS, nRow, pairA, assertA]
      refine hK2 _ ?_
      clear hK2 K2
      repeat (refine sxf_next fun K2 hK2 => ?_; simp [dNum, dS, nRow, pairA, assertA]; (repeat (refine ⟨by omega, ?_⟩)); refine hK2 _ ?_; clear hK2 K2)
      refine sxf_nil (hK' _ ?_)
      clear hK' K'
      try simp only [thn, inb]
      simp [D.le_refl, nRow, dS]
    by_cases hand : ∃ l, e = .and l
    · obtain ⟨l, rfl⟩ := hand
      simp only [bE] at hb
      have hs1 := gather_spec G all l0 (.and l) (by omega)
      have hnil : one1 (nmE all (.and l)) = [] := rfl
      rw [hnil, List.append_nil, List.singleton_append] at hs1
      have hch := fun (x : Ex) (hx : x ∈ l) => ih x (by have := List.sizeOf_lt_of_mem hx; simp only [Ex.and.sizeOf_spec] at hsz; omega)
      have hln := bEs_len l
      rw [nmsE]
      rw [dE, dEs_map]
      rw [dE, dEs_map] at hs1
      clear ih
      generalize hg : fnOf all = g at hch hs1 ⊢
      refine MC.of_body (tyOf_good _) Tryd.func51 rfl rfl (rs := []) Tryd.results51 (by simp [Tryd.ntmps51]) rfl fun X => ?_
      simp only [Tryd.ntmps51]
      refine AW_rg (tyOf_good _) [0, 1] [502, 503] (notIn_ok rfl) fun K' hK' => ?_
      repeat (refine sxf_next fun K2 hK2 => ?_; simp [dNum, dS, nRow, pairA, assertA]; (repeat (refine ⟨by omega, ?_⟩)); refine hK2 _ ?_; clear hK2 K2)
      refine sxf_next fun K2 hK2 => ?_
      simp [dNum, dS, nRow, pairA, assertA]
      refine callK.mc (hs1) (by simp [dNum, dS, nRow, pairA, assertA]) (by simp [dNum, dS, nRow, pairA, assertA]) (by simp [dNum, dS, nRow, pairA, assertA]) (by simp [dNum, dS, nRow, pairA, assertA]) ?_
      simp [dNum, dS, nRow, pairA, assertA]
      refine hK2 _ ?_
      clear hK2 K2
      repeat (refine sxf_next fun K2 hK2 => ?_; simp [dNum, dS, nRow, pairA, assertA]; (repeat (refine ⟨by omega, ?_⟩)); refine hK2 _ ?_; clear hK2 K2)
      refine sxf_nil (hK' _ ?_)
      refine AW.st (by simp [dNum, dS, nRow, pairA, assertA]; rfl) ?_
      clear hK' K'
      refine AW_rg (tyOf_good _) [1, 14] [502, 503] (notIn_ok rfl) fun K' hK' => ?_
      repeat (refine sxf_next fun K2 hK2 => ?_; simp [dNum, dS, nRow, pairA, assertA]; (repeat (refine ⟨by omega, ?_⟩)); refine hK2 _ ?_; clear hK2 K2)
      refine sxf_nil (hK' _ ?_)
      refine AW.st (by simp [dNum, dS, nRow, pairA, assertA]; rfl) ?_
      clear hK' K'
      refine AW_block ?_
      refine AW_rg (tyOf_good _) [1, 14, 16, 17] [502, 503] (notIn_ok rfl) fun K' hK' => ?_
      repeat (refine sxf_next fun K2 hK2 => ?_; simp [dNum, dS, nRow, pairA, assertA]; (repeat (refine ⟨by omega, ?_⟩)); refine hK2 _ ?_; clear hK2 K2)
      refine sxf_nil (hK' _ ?_)
      refine AW.st (by simp [dNum, dS, nRow, pairA, assertA]; rfl) ?_
      clear hK' K'
      refine AW_cond false rfl (fun h => by cases h) (fun _ => ?_)
      refine AW_rg (tyOf_good _) [1, 14, 23, 24] [502, 503] (notIn_ok rfl) fun K' hK' => ?_
      repeat (refine sxf_next fun K2 hK2 => ?_; simp [dNum, dS, nRow, pairA, assertA]; (repeat (refine ⟨by omega, ?_⟩)); refine hK2 _ ?_; clear hK2 K2)
      refine sxf_nil (hK' _ ?_)
      refine AW.st (by simp [dNum, dS, nRow, pairA, assertA]; rfl) ?_
      clear hK' K'
      refine AW_cond true rfl (fun _ => ?_) (fun h => by cases h)
      refine AW_rg (tyOf_good _) [1, 5] [502, 503] (notIn_ok rfl) fun K' hK' => ?_
      repeat (refine sxf_next fun K2 hK2 => ?_; simp [dNum, dS, nRow, pairA, assertA]; (repeat (refine ⟨by omega, ?_⟩)); refine hK2 _ ?_; clear hK2 K2)
      refine sxf_nil (hK' _ ?_)
      refine AW.st (by simp [dNum, dS, nRow, pairA, assertA]; rfl) ?_
      clear hK' K'
      refine AW_rg (tyOf_good _) [1, 25, 26, 27] [502, 503] (notIn_ok rfl) fun K' hK' => ?_
      repeat (refine sxf_next fun K2 hK2 => ?_; simp [dNum, dS, nRow, pairA, assertA]; (repeat (refine ⟨by omega, ?_⟩)); refine hK2 _ ?_; clear hK2 K2)
      refine sxf_nil (hK' _ ?_)
      refine AW.st (by simp [dNum, dS, nRow, pairA, assertA]; rfl) ?_
      clear hK' K'
      refine AW_for (S := Nat) (fun i => i ≤ l.length) (fun i => ⟨lst [(1, .fn (.func 87) [.d (.ip [.fn (.func g) []]), .ref 502 0 0]), (25, .d (.sl none (l.map fun e => [dE e]))), (26, int l.length), (27, int i)], hlst (nRow (l0 ++ nmsL all (l.take i)))⟩) (fun i => l.length - i) 0 ?_ (by omega) ?_
      · refine Imp.to' (notIn_ok rfl) (by simp [dNum, dS, nRow, pairA, assertA, nmsL]) (by simp [dNum, dS, nRow, pairA, assertA, nmsL])
      · intro i hi
        refine AW_rg (tyOf_good _) [1, 25, 26, 27, 28] [502, 503] (notIn_ok rfl) fun K' hK' => ?_
        repeat (refine sxf_next fun K2 hK2 => ?_; simp [dNum, dS, nRow, pairA, assertA]; (repeat (refine ⟨by omega, ?_⟩)); refine hK2 _ ?_; clear hK2 K2)
        refine sxf_nil (hK' _ ?_)
        refine AW.st (by simp [dNum, dS, nRow, pairA, assertA]; rfl) ?_
        clear hK' K'
        refine AW_then fun K1 hK1 => ?_
        refine AW_cond' (b := i < l.length) (by simp [D.le, D.le.go, takeMap, dNum, dS, nRow, pairA, assertA]) (fun hc => ?_) (fun hc => ?_)
        · have hil : i < l.length := hc
          have h1 := nmsL_take all hil
          have h2 := nmsL_len all (l.take i)
          have h3 := bEs_take hil
          have hcc := hch _ (List.getElem_mem hil) (l0 ++ nmsL all (l.take i)) (by rw [List.length_append]; omega)
          rw [List.append_assoc, ← h1] at hcc
          obtain ⟨tx, cx, hx⟩ := dE_ifc l[i]
          rw [hx] at hcc
          refine AW_skip (hK1 _ ?_)
          refine AW_then fun K2 hK2 => ?_
          refine AW_block ?_
          refine AW_rg (tyOf_good _) [1, 7, 25, 26, 27] [502, 503] (notIn_ok rfl) fun K' hK' => ?_
          repeat (refine sxf_next fun K2 hK2 => ?_; simp [dNum, dS, nRow, pairA, assertA, hil, hx]; (repeat (refine ⟨by omega, ?_⟩)); refine hK2 _ ?_; clear hK2 K2)
          refine sxf_nil (hK' _ ?_)
          refine AW.st (by simp [dNum, dS, nRow, pairA, assertA, hil, hx]; rfl) ?_
          clear hK' K'
          refine AW_re (tyOf_good _) fun K' hK' => ?_
          repeat (refine sxf_next fun K2 hK2 => ?_; simp [dNum, dS, nRow, pairA, assertA]; (repeat (refine ⟨by omega, ?_⟩)); refine hK2 _ ?_; clear hK2 K2)
          refine sxf_next fun K2 hK2 => ?_
          simp [dNum, dS, nRow, pairA, assertA]
          refine callK.mc (hcc) (by simp [dNum, dS, nRow, pairA, assertA]) (by simp [dNum, dS, nRow, pairA, assertA]) (by simp [dNum, dS, nRow, pairA, assertA]) (by simp [dNum, dS, nRow, pairA, assertA]) ?_
          simp [dNum, dS, nRow, pairA, assertA]
          refine hK2 _ ?_
          clear hK2 K2
          repeat (refine sxf_next fun K2 hK2 => ?_; simp [dNum, dS, nRow, pairA, assertA]; (repeat (refine ⟨by omega, ?_⟩)); refine hK2 _ ?_; clear hK2 K2)
          refine sxf_nil (hK' _ ?_)
          clear hK' K'
          refine hK2 _ (AW.norm [1, 25, 26, 27] [502, 503] (notIn_ok rfl) (AW.st (by simp [dNum, dS, nRow, pairA, assertA]; rfl) ?_))
          refine AW_re (tyOf_good _) fun K' hK' => ?_
          repeat (refine sxf_next fun K2 hK2 => ?_; simp [dNum, dS, nRow, pairA, assertA]; (repeat (refine ⟨by omega, ?_⟩)); refine hK2 _ ?_; clear hK2 K2)
          refine sxf_nil (hK' _ ?_)
          clear hK' K'
          try simp only [thn, inb]
          refine Again.mk (i + 1) (by omega) (by omega) ?_
          refine Imp.to' (notIn_ok rfl) (by simp [dNum, dS, nRow, pairA, assertA]) (by simp [dNum, dS, nRow, pairA, assertA])
        · obtain rfl : i = l.length := by omega
          refine AW_exit ?_
          simp [D.le_refl, List.take_length, nRow, dS]
    by_cases hor : ∃ l, e = .or l
    · obtain ⟨l, rfl⟩ := hor
      simp only [bE] at hb
      have hs1 := gather_spec G all l0 (.or l) (by omega)
      have hnil : one1 (nmE all (.or l)) = [] := rfl
      rw [hnil, List.append_nil, List.singleton_append] at hs1
      have hch := fun (x : Ex) (hx : x ∈ l) => ih x (by have := List.sizeOf_lt_of_mem hx; simp only [Ex.or.sizeOf_spec] at hsz; omega)
      have hln := bEs_len l
      rw [nmsE]
      rw [dE, dEs_map]
      rw [dE, dEs_map] at hs1
      clear ih
      generalize hg : fnOf all = g at hch hs1 ⊢
      refine MC.of_body (tyOf_good _) Tryd.func51 rfl rfl (rs := []) Tryd.results51 (by simp [Tryd.ntmps51]) rfl fun X => ?_
      simp only [Tryd.ntmps51]
      refine AW_rg (tyOf_good _) [0, 1] [502, 503] (notIn_ok rfl) fun K' hK' => ?_
      repeat (refine sxf_next fun K2 hK2 => ?_; simp [dNum, dS, nRow, pairA, assertA]; (repeat (refine ⟨by omega, ?_⟩)); refine hK2 _ ?_; clear hK2 K2)
      refine sxf_next fun K2 hK2 => ?_
      simp [dNum, dS, nRow, pairA, assertA]
      refine callK.mc (hs1) (by simp [dNum, dS, nRow, pairA, assertA]) (by simp [dNum, dS, nRow, pairA, assertA]) (by simp [dNum, dS, nRow, pairA, assertA]) (by simp [dNum, dS, nRow, pairA, assertA]) ?_
      simp [dNum, dS, nRow, pairA, assertA]
      refine hK2 _ ?_
      clear hK2 K2
      repeat (refine sxf_next fun K2 hK2 => ?_; simp [dNum, dS, nRow, pairA, assertA]; (repeat (refine ⟨by omega, ?_⟩)); refine hK2 _ ?_; clear hK2 K2)
      refine sxf_nil (hK' _ ?_)
      refine AW.st (by simp [dNum, dS, nRow, pairA, assertA]; rfl) ?_
      clear hK' K'
      refine AW_rg (tyOf_good _) [1, 14] [502, 503] (notIn_ok rfl) fun K' hK' => ?_
      repeat (refine sxf_next fun K2 hK2 => ?_; simp [dNum, dS, nRow, pairA, assertA]; (repeat (refine ⟨by omega, ?_⟩)); refine hK2 _ ?_; clear hK2 K2)
      refine sxf_nil (hK' _ ?_)
      refine AW.st (by simp [dNum, dS, nRow, pairA, assertA]; rfl) ?_
      clear hK' K'
      refine AW_block ?_
      refine AW_rg (tyOf_good _) [1, 14, 16, 17] [502, 503] (notIn_ok rfl) fun K' hK' => ?_
      repeat (refine sxf_next fun K2 hK2 => ?_; simp [dNum, dS, nRow, pairA, assertA]; (repeat (refine ⟨by omega, ?_⟩)); refine hK2 _ ?_; clear hK2 K2)
      refine sxf_nil (hK' _ ?_)
      refine AW.st (by simp [dNum, dS, nRow, pairA, assertA]; rfl) ?_
      clear hK' K'
      refine AW_cond false rfl (fun h => by cases h) (fun _ => ?_)
      refine AW_rg (tyOf_good _) [1, 14, 23, 24] [502, 503] (notIn_ok rfl) fun K' hK' => ?_
      repeat (refine sxf_next fun K2 hK2 => ?_; simp [dNum, dS, nRow, pairA, assertA]; (repeat (refine ⟨by omega, ?_⟩)); refine hK2 _ ?_; clear hK2 K2)
      refine sxf_nil (hK' _ ?_)
      refine AW.st (by simp [dNum, dS, nRow, pairA, assertA]; rfl) ?_
      clear hK' K'
      refine AW_cond false rfl (fun h => by cases h) (fun _ => ?_)
      refine AW_rg (tyOf_good _) [1, 36, 37] [502, 503] (notIn_ok rfl) fun K' hK' => ?_
      repeat (refine sxf_next fun K2 hK2 => ?_; simp [dNum, dS, nRow, pairA, assertA]; (repeat (refine ⟨by omega, ?_⟩)); refine hK2 _ ?_; clear hK2 K2)
      refine sxf_nil (hK' _ ?_)
      refine AW.st (by simp [dNum, dS, nRow, pairA, assertA]; rfl) ?_
      clear hK' K'
      refine AW_cond true rfl (fun _ => ?_) (fun h => by cases h)
      refine AW_rg (tyOf_good _) [1, 8] [502, 503] (notIn_ok rfl) fun K' hK' => ?_
      repeat (refine sxf_next fun K2 hK2 => ?_; simp [dNum, dS, nRow, pairA, assertA]; (repeat (refine ⟨by omega, ?_⟩)); refine hK2 _ ?_; clear hK2 K2)
      refine sxf_nil (hK' _ ?_)
      refine AW.st (by simp [dNum, dS, nRow, pairA, assertA]; rfl) ?_
      clear hK' K'
      refine AW_rg (tyOf_good _) [1, 38, 39, 40] [502, 503] (notIn_ok rfl) fun K' hK' => ?_
      repeat (refine sxf_next fun K2 hK2 => ?_; simp [dNum, dS, nRow, pairA, assertA]; (repeat (refine ⟨by omega, ?_⟩)); refine hK2 _ ?_; clear hK2 K2)
      refine sxf_nil (hK' _ ?_)
      refine AW.st (by simp [dNum, dS, nRow, pairA, assertA]; rfl) ?_
      clear hK' K'
      refine AW_for (S := Nat) (fun i => i ≤ l.length) (fun i => ⟨lst [(1, .fn (.func 87) [.d (.ip [.fn (.func g) []]), .ref 502 0 0]), (38, .d (.sl none (l.map fun e => [dE e]))), (39, int l.length), (40, int i)], hlst (nRow (l0 ++ nmsL all (l.take i)))⟩) (fun i => l.length - i) 0 ?_ (by omega) ?_
      · refine Imp.to' (notIn_ok rfl) (by simp [dNum, dS, nRow, pairA, assertA, nmsL]) (by simp [dNum, dS, nRow, pairA, assertA, nmsL])
      · intro i hi
        refine AW_rg (tyOf_good _) [1, 38, 39, 40, 41] [502, 503] (notIn_ok rfl) fun K' hK' => ?_
        repeat (refine sxf_next fun K2 hK2 => ?_; simp [dNum, dS, nRow, pairA, assertA]; (repeat (refine ⟨by omega, ?_⟩)); refine hK2 _ ?_; clear hK2 K2)
        refine sxf_nil (hK' _ ?_)
        refine AW.st (by simp [dNum, dS, nRow, pairA, assertA]; rfl) ?_
        clear hK' K'
        refine AW_then fun K1 hK1 => ?_
        refine AW_cond' (b := i < l.length) (by simp [D.le, D.le.go, takeMap, dNum, dS, nRow, pairA, assertA]) (fun hc => ?_) (fun hc => ?_)
        · have hil : i < l.length := hc
          have h1 := nmsL_take all hil
          have h2 := nmsL_len all (l.take i)
          have h3 := bEs_take hil
          have hcc := hch _ (List.getElem_mem hil) (l0 ++ nmsL all (l.take i)) (by rw [List.length_append]; omega)
          rw [List.append_assoc, ← h1] at hcc
          obtain ⟨tx, cx, hx⟩ := dE_ifc l[i]
          rw [hx] at hcc
          refine AW_skip (hK1 _ ?_)
          refine AW_then fun K2 hK2 => ?_
          refine AW_block ?_
          refine AW_rg (tyOf_good _) [1, 10, 38, 39, 40] [502, 503] (notIn_ok rfl) fun K' hK' => ?_
          repeat (refine sxf_next fun K2 hK2 => ?_; simp [dNum, dS, nRow, pairA, assertA, hil, hx]; (repeat (refine ⟨by omega, ?_⟩)); refine hK2 _ ?_; clear hK2 K2)
          refine sxf_nil (hK' _ ?_)
          refine AW.st (by simp [dNum, dS, nRow, pairA, assertA, hil, hx]; rfl) ?_
          clear hK' K'
          refine AW_re (tyOf_good _) fun K' hK' => ?_
          repeat (refine sxf_next fun K2 hK2 => ?_; simp [dNum, dS, nRow, pairA, assertA]; (repeat (refine ⟨by omega, ?_⟩)); refine hK2 _ ?_; clear hK2 K2)
          refine sxf_next fun K2 hK2 => ?_
          simp [dNum, dS, nRow, pairA, assertA]
          refine callK.mc (hcc) (by simp [dNum, dS, nRow, pairA, assertA]) (by simp [dNum, dS, nRow, pairA, assertA]) (by simp [dNum, dS, nRow, pairA, assertA]) (by simp [dNum, dS, nRow, pairA, assertA]) ?_
          simp [dNum, dS, nRow, pairA, assertA]
          refine hK2 _ ?_
          clear hK2 K2
          repeat (refine sxf_next fun K2 hK2 => ?_; simp [dNum, dS, nRow, pairA, assertA]; (repeat (refine ⟨by omega, ?_⟩)); refine hK2 _ ?_; clear hK2 K2)
          refine sxf_nil (hK' _ ?_)
          clear hK' K'
          refine hK2 _ (AW.norm [1, 38, 39, 40] [502, 503] (notIn_ok rfl) (AW.st (by simp [dNum, dS, nRow, pairA, assertA]; rfl) ?_))
          refine AW_re (tyOf_good _) fun K' hK' => ?_
          repeat (refine sxf_next fun K2 hK2 => ?_; simp [dNum, dS, nRow, pairA, assertA]; (repeat (refine ⟨by omega, ?_⟩)); refine hK2 _ ?_; clear hK2 K2)
          refine sxf_nil (hK' _ ?_)
          clear hK' K'
          try simp only [thn, inb]
          refine Again.mk (i + 1) (by omega) (by omega) ?_
          refine Imp.to' (notIn_ok rfl) (by simp [dNum, dS, nRow, pairA, assertA]) (by simp [dNum, dS, nRow, pairA, assertA])
        · obtain rfl : i = l.length := by omega
          refine AW_exit ?_
          simp [D.le_refl, List.take_length, nRow, dS]
    have hk : ∃ t c, dE e = .ifc t c ∧ ¬ t = 109 ∧ ¬ t = 111 ∧ ¬ t = 114 ∧ nmsE all e = one1 (nmE all e) := by
      cases e with
      | not z => exact absurd ⟨z, rfl⟩ hN
      | and l => exact absurd ⟨l, rfl⟩ hand
      | or l => exact absurd ⟨l, rfl⟩ hor
      | cst b => exact ⟨_, _, by rw [dE], by decide, by decide, by decide, rfl⟩
      | bit s => exact ⟨_, _, by rw [dE], by decide, by decide, by decide, rfl⟩
      | rise s => exact ⟨_, _, by rw [dE], by decide, by decide, by decide, rfl⟩
      | fall s => exact ⟨_, _, by rw [dE], by decide, by decide, by decide, rfl⟩
    obtain ⟨t, c, hy, h1, h2, h3, h4⟩ := hk
    have hs1 := gather_spec G all l0 e (by omega)
    rw [List.singleton_append] at hs1
    rw [h4, hy]
    rw [hy] at hs1
    generalize l0 ++ one1 (nmE all e) = l1 at hs1 ⊢
    generalize fnOf all = g at hs1 ⊢
    refine MC.of_body (tyOf_good _) Tryd.func51 rfl rfl (rs := []) Tryd.results51 (by simp [Tryd.ntmps51]) rfl fun X => ?_
    simp only [Tryd.ntmps51]
    refine AW_rg (tyOf_good _) [0, 1] [502, 503] (notIn_ok rfl) fun K' hK' => ?_
    repeat (refine sxf_next fun K2 hK2 => ?_; simp [dNum, dS, nRow, pairA, assertA]; (repeat (refine ⟨by omega, ?_⟩)); refine hK2 _ ?_; clear hK2 K2)
    refine sxf_next fun K2 hK2 => ?_
    simp [dNum, dS, nRow, pairA, assertA]
    refine callK.mc (hs1) (by simp [dNum, dS, nRow, pairA, assertA]) (by simp [dNum, dS, nRow, pairA, assertA]) (by simp [dNum, dS, nRow, pairA, assertA]) (by simp [dNum, dS, nRow, pairA, assertA]) ?_
    simp [dNum, dS, nRow, pairA, assertA]
    refine hK2 _ ?_
    clear hK2 K2
    repeat (refine sxf_next fun K2 hK2 => ?_; simp [dNum, dS, nRow, pairA, assertA]; (repeat (refine ⟨by omega, ?_⟩)); refine hK2 _ ?_; clear hK2 K2)
    refine sxf_nil (hK' _ ?_)
    refine AW.st (by simp [dNum, dS, nRow, pairA, assertA]; rfl) ?_
    clear hK' K'
    refine AW_rg (tyOf_good _) [1, 14] [502, 503] (notIn_ok rfl) fun K' hK' => ?_
    repeat (refine sxf_next fun K2 hK2 => ?_; simp [dNum, dS, nRow, pairA, assertA]; (repeat (refine ⟨by omega, ?_⟩)); refine hK2 _ ?_; clear hK2 K2)
    refine sxf_nil (hK' _ ?_)
    refine AW.st (by simp [dNum, dS, nRow, pairA, assertA]; rfl) ?_
    clear hK' K'
    refine AW_block ?_
    refine AW_rg (tyOf_good _) [1, 14, 16, 17] [502, 503] (notIn_ok rfl) fun K' hK' => ?_
    repeat (refine sxf_next fun K2 hK2 => ?_; simp [dNum, dS, nRow, pairA, assertA, h1]; (repeat (refine ⟨by omega, ?_⟩)); refine hK2 _ ?_; clear hK2 K2)
    refine sxf_nil (hK' _ ?_)
    refine AW.st (by simp [dNum, dS, nRow, pairA, assertA, h1]; rfl) ?_
    clear hK' K'
    refine AW_cond false rfl (fun h => by cases h) (fun _ => ?_)
    refine AW_rg (tyOf_good _) [1, 14, 23, 24] [502, 503] (notIn_ok rfl) fun K' hK' => ?_
    repeat (refine sxf_next fun K2 hK2 => ?_; simp [dNum, dS, nRow, pairA, assertA, h2]; (repeat (refine ⟨by omega, ?_⟩)); refine hK2 _ ?_; clear hK2 K2)
    refine sxf_nil (hK' _ ?_)
    refine AW.st (by simp [dNum, dS, nRow, pairA, assertA, h2]; rfl) ?_
    clear hK' K'
    refine AW_cond false rfl (fun h => by cases h) (fun _ => ?_)
    refine AW_rg (tyOf_good _) [1, 36, 37] [502, 503] (notIn_ok rfl) fun K' hK' => ?_
    repeat (refine sxf_next fun K2 hK2 => ?_; simp [dNum, dS, nRow, pairA, assertA, h3]; (repeat (refine ⟨by omega, ?_⟩)); refine hK2 _ ?_; clear hK2 K2)
    refine sxf_nil (hK' _ ?_)
    refine AW.st (by simp [dNum, dS, nRow, pairA, assertA, h3]; rfl) ?_
    clear hK' K'
    refine AW_cond false rfl (fun h => by cases h) (fun _ => ?_)
    refine AW_skip ?_
    simp [D.le_refl, nRow, dS]

def namesE (all : Bool) (e : Ex) : List (List UInt8) := Lib.compact (sortT (nmsE all e))
set_option maxHeartbeats 8000000 in
theorem sorted_spec (G : Glob) (all : Bool) (e : Ex) (hb : bE e ≤ 2^28) : PureC Tryd.prog G 64 [dE e, .fn (.func (fnOf all)) []] (.sl none ((namesE all e).map fun s => [dS s])) := by
  have hlen := nms_len all e
  have hw := walkN_at G all _ e (Nat.le_refl _) [] (by simp; omega)
  rw [List.nil_append] at hw
  have hso := sort_mc G 503 9 (nmsE all e) (by omega)
  have hco := compact_mc G 503 9 (sortT (nmsE all e)) (by rw [sortT_len]; omega)
  rw [sortT_len] at hco
  have hcl := Lib.compact_length_le (sortT (nmsE all e))
  rw [sortT_len] at hcl
  unfold namesE
  obtain ⟨tx, cx, hx⟩ := dE_ifc e
  rw [hx] at hw ⊢
  generalize fnOf all = g at hw ⊢
  generalize nmsE all e = l at hw hso hco hcl hlen ⊢
  generalize sortT l = z at hso hco hcl ⊢
  have htk : List.take (Lib.compact z).length ((Lib.compact z ++ List.replicate (l.length - (Lib.compact z).length) []).map fun s => [dS s]) = (Lib.compact z).map fun s => [dS s] := by
    rw [List.map_append, List.take_append_of_le_length (by simp), List.take_of_length_le (by simp)]
  have hyl : (Lib.compact z ++ List.replicate (l.length - (Lib.compact z).length) []).length = l.length := by simp; omega
  generalize Lib.compact z ++ List.replicate (l.length - (Lib.compact z).length) [] = y at hco htk hyl
  generalize Lib.compact z = c at hco hcl htk ⊢
  refine PureC.of_body (tyOf_good _) Tryd.func64 rfl rfl (rs := [.tmp 4]) Tryd.results64 (by simp [Tryd.ntmps64]) fun X => ?_
  simp only [Tryd.ntmps64, List.map]
  refine AW_rg (tyOf_good _) [0, 3] [3] (fun _ _ => trivial) fun K' hK' => ?_
  repeat (refine sxf_next fun K2 hK2 => ?_; simp [dNum, dS, nRow, pairA, assertA]; (repeat (refine ⟨by omega, ?_⟩)); refine hK2 _ ?_; clear hK2 K2)
  refine sxf_nil (hK' _ ?_)
  refine AW.st (by simp [dNum, dS, nRow, pairA, assertA]; rfl) ?_
  clear hK' K'
  refine AW.imp (Imp.freezeB 3 trivial) ?_
  refine AW.st (by simp [dNum, dS, nRow, pairA, assertA]; rfl) ?_
  refine AW_rg (tyOf_good _) [0, 3, 5] [5] (fun _ _ => trivial) fun K' hK' => ?_
  repeat (refine sxf_next fun K2 hK2 => ?_; simp [dNum, dS, nRow, pairA, assertA]; (repeat (refine ⟨by omega, ?_⟩)); refine hK2 _ ?_; clear hK2 K2)
  refine sxf_nil (hK' _ ?_)
  refine AW.st (by simp [dNum, dS, nRow, pairA, assertA]; rfl) ?_
  clear hK' K'
  refine AW.imp (Imp.ren (r := 5) (r' := 502) trivial (by simp)) ?_
  refine AW.st (by simp [renO, renF, Go.Av.ren, renH_one]; rfl) ?_
  refine AW.imp (Imp.adoptCell 502 0 503 9 1 rfl rfl rfl) ?_
  refine AW.imp (τ := ⟨lst [(0, .d (.ifc tx cx)), (3, .d (.ip [.fn (.func g) []])), (5, .ref 502 0 0)], hlst (nRow [])⟩) ?_ ?_
  · refine Imp.to' (fun _ _ => trivial) (by simp [dNum, dS, nRow, pairA, assertA, nRow]) (by simp [dNum, dS, nRow, pairA, assertA, nRow])
  refine AW_rg (tyOf_good _) [5] [502, 503] (fun _ _ => trivial) fun K' hK' => ?_
  repeat (refine sxf_next fun K2 hK2 => ?_; simp [dNum, dS, nRow, pairA, assertA]; (repeat (refine ⟨by omega, ?_⟩)); refine hK2 _ ?_; clear hK2 K2)
  refine sxf_next fun K2 hK2 => ?_
  simp [dNum, dS, nRow, pairA, assertA]
  refine callK.mc (hw) (by simp [dNum, dS, nRow, pairA, assertA]) (by simp [dNum, dS, nRow, pairA, assertA]) (by simp [dNum, dS, nRow, pairA, assertA]) (by simp [dNum, dS, nRow, pairA, assertA]) ?_
  simp [dNum, dS, nRow, pairA, assertA]
  refine hK2 _ ?_
  clear hK2 K2
  repeat (refine sxf_next fun K2 hK2 => ?_; simp [dNum, dS, nRow, pairA, assertA]; (repeat (refine ⟨by omega, ?_⟩)); refine hK2 _ ?_; clear hK2 K2)
  refine sxf_nil (hK' _ ?_)
  refine AW.st (by simp [dNum, dS, nRow, pairA, assertA]; rfl) ?_
  clear hK' K'
  refine AW_rg (tyOf_good _) [5] [502, 503] (fun _ _ => trivial) fun K' hK' => ?_
  repeat (refine sxf_next fun K2 hK2 => ?_; simp [dNum, dS, nRow, pairA, assertA]; (repeat (refine ⟨by omega, ?_⟩)); refine hK2 _ ?_; clear hK2 K2)
  refine sxf_next fun K2 hK2 => ?_
  simp [dNum, dS, nRow, pairA, assertA]
  refine callK.mc (hso) (by simp [dNum, dS, nRow, pairA, assertA]) (by simp [dNum, dS, nRow, pairA, assertA]) (by simp [dNum, dS, nRow, pairA, assertA]) (by simp [dNum, dS, nRow, pairA, assertA]) ?_
  simp [dNum, dS, nRow, pairA, assertA]
  refine hK2 _ ?_
  clear hK2 K2
  repeat (refine sxf_next fun K2 hK2 => ?_; simp [dNum, dS, nRow, pairA, assertA]; (repeat (refine ⟨by omega, ?_⟩)); refine hK2 _ ?_; clear hK2 K2)
  refine sxf_nil (hK' _ ?_)
  refine AW.st (by simp [dNum, dS, nRow, pairA, assertA]; rfl) ?_
  clear hK' K'
  refine AW_rg (tyOf_good _) [4] [502, 503] (fun _ _ => trivial) fun K' hK' => ?_
  repeat (refine sxf_next fun K2 hK2 => ?_; simp [dNum, dS, nRow, pairA, assertA]; (repeat (refine ⟨by omega, ?_⟩)); refine hK2 _ ?_; clear hK2 K2)
  refine sxf_next fun K2 hK2 => ?_
  simp [dNum, dS, nRow, pairA, assertA]
  refine callK.mc (hco) (by simp [dNum, dS, nRow, pairA, assertA]) (by simp [dNum, dS, nRow, pairA, assertA]) (by simp [dNum, dS, nRow, pairA, assertA]) (by simp [dNum, dS, nRow, pairA, assertA]) ?_
  simp [dNum, dS, nRow, pairA, assertA]
  refine hK2 _ ?_
  clear hK2 K2
  repeat (refine sxf_next fun K2 hK2 => ?_; simp [dNum, dS, nRow, pairA, assertA]; (repeat (refine ⟨by omega, ?_⟩)); refine hK2 _ ?_; clear hK2 K2)
  refine sxf_nil (hK' _ ?_)
  refine AW.st (by simp [dNum, dS, nRow, pairA, assertA]; rfl) ?_
  clear hK' K'
  have hle : c.length ≤ y.length := by omega
  by_cases hcy : c.length = y.length
  · have htk2 : (y.map fun s => [dS s]) = c.map fun s => [dS s] := by rw [← htk, hcy, List.take_of_length_le (by simp)]
    simp only [dS] at htk2
    refine AW.imp (Imp.freeze 503 trivial) ?_
    refine AW.st (by simp [dNum, dS, nRow, pairA, assertA, hcy, hle, htk2]; rfl) ?_
    refine AW_ret ?_
    simp [D.le, D.le.go, takeMap, dNum, dS, nRow, pairA, assertA, D.le_refl, D.leGo_refl, hcy, htk2]
  · simp only [dS] at htk
    refine AW.imp (Imp.freeze 503 trivial) ?_
    refine AW.st (by simp [dNum, dS, nRow, pairA, assertA, hcy, hle, htk]; rfl) ?_
    refine AW_ret ?_
    simp [D.le, D.le.go, takeMap, dNum, dS, nRow, pairA, assertA, D.le_refl, D.leGo_refl, htk]
theorem namesE_spec (G : Glob) (e : Ex) (hb : bE e ≤ 2^28) : PureC Tryd.prog G 28 [dE e] (.sl none ((namesE true e).map fun s => [dS s])) := by
  have hs := sorted_spec G true e hb
  obtain ⟨tx, cx, hx⟩ := dE_ifc e
  rw [hx] at hs ⊢
  generalize namesE true e = l at hs ⊢
  simp only [fnOf, if_true, if_false, Bool.false_eq_true] at hs
  refine PureC.of_body (tyOf_good _) Tryd.func28 rfl rfl (rs := [.tmp 2]) Tryd.results28 (by simp [Tryd.ntmps28]) fun X => ?_
  simp only [Tryd.ntmps28, List.map]
  refine AW_rg (tyOf_good _) [0] [] (fun _ _ => trivial) fun K' hK' => ?_
  repeat (refine sxf_next fun K2 hK2 => ?_; simp [dNum, dS, nRow, pairA, assertA]; (repeat (refine ⟨by omega, ?_⟩)); refine hK2 _ ?_; clear hK2 K2)
  refine sxf_nil (hK' _ ?_)
  refine AW.st (by simp [dNum, dS, nRow, pairA, assertA]; rfl) ?_
  clear hK' K'
  refine AW_rg (tyOf_good _) [2] [] (fun _ _ => trivial) fun K' hK' => ?_
  repeat (refine sxf_next fun K2 hK2 => ?_; simp [dNum, dS, nRow, pairA, assertA]; (repeat (refine ⟨by omega, ?_⟩)); refine hK2 _ ?_; clear hK2 K2)
  refine sxf_next fun K2 hK2 => ?_
  simp [dNum, dS, nRow, pairA, assertA]
  refine callK.data (hs) (by simp; rfl) (by first | exact D.leGo_refl _ | simp [takeMap, List.map_map, Function.comp_def, D.le, D.le.go, D.le_refl, D.leGo_refl, dNum, dS, nRow, pairA, assertA]) ?_
  refine hK2 _ ?_
  clear hK2 K2
  simp only [putd, upd_lst]
  repeat (refine sxf_next fun K2 hK2 => ?_; simp [dNum, dS, nRow, pairA, assertA]; (repeat (refine ⟨by omega, ?_⟩)); refine hK2 _ ?_; clear hK2 K2)
  refine sxf_nil (hK' _ ?_)
  refine AW.st (by simp [dNum, dS, nRow, pairA, assertA]; rfl) ?_
  clear hK' K'
  refine AW_ret ?_
  simp [D.le, D.le.go, takeMap, dNum, dS, nRow, pairA, assertA, D.le_refl, D.leGo_refl]
theorem edgesE_spec (G : Glob) (e : Ex) (hb : bE e ≤ 2^28) : PureC Tryd.prog G 29 [dE e] (.sl none ((namesE false e).map fun s => [dS s])) := by
  have hs := sorted_spec G false e hb
  obtain ⟨tx, cx, hx⟩ := dE_ifc e
  rw [hx] at hs ⊢
  generalize namesE false e = l at hs ⊢
  simp only [fnOf, if_true, if_false, Bool.false_eq_true] at hs
  refine PureC.of_body (tyOf_good _) Tryd.func29 rfl rfl (rs := [.tmp 2]) Tryd.results29 (by simp [Tryd.ntmps29]) fun X => ?_
  simp only [Tryd.ntmps29, List.map]
  refine AW_rg (tyOf_good _) [0] [] (fun _ _ => trivial) fun K' hK' => ?_
  repeat (refine sxf_next fun K2 hK2 => ?_; simp [dNum, dS, nRow, pairA, assertA]; (repeat (refine ⟨by omega, ?_⟩)); refine hK2 _ ?_; clear hK2 K2)
  refine sxf_nil (hK' _ ?_)
  refine AW.st (by simp [dNum, dS, nRow, pairA, assertA]; rfl) ?_
  clear hK' K'
  refine AW_rg (tyOf_good _) [2] [] (fun _ _ => trivial) fun K' hK' => ?_
  repeat (refine sxf_next fun K2 hK2 => ?_; simp [dNum, dS, nRow, pairA, assertA]; (repeat (refine ⟨by omega, ?_⟩)); refine hK2 _ ?_; clear hK2 K2)
  refine sxf_next fun K2 hK2 => ?_
  simp [dNum, dS, nRow, pairA, assertA]
  refine callK.data (hs) (by simp; rfl) (by first | exact D.leGo_refl _ | simp [takeMap, List.map_map, Function.comp_def, D.le, D.le.go, D.le_refl, D.leGo_refl, dNum, dS, nRow, pairA, assertA]) ?_
  refine hK2 _ ?_
  clear hK2 K2
  simp only [putd, upd_lst]
  repeat (refine sxf_next fun K2 hK2 => ?_; simp [dNum, dS, nRow, pairA, assertA]; (repeat (refine ⟨by omega, ?_⟩)); refine hK2 _ ?_; clear hK2 K2)
  refine sxf_nil (hK' _ ?_)
  refine AW.st (by simp [dNum, dS, nRow, pairA, assertA]; rfl) ?_
  clear hK' K'
  refine AW_ret ?_
  simp [D.le, D.le.go, takeMap, dNum, dS, nRow, pairA, assertA, D.le_refl, D.leGo_refl]
end Go.Proofs.YtfehigldhedkgaaDoor

/-
  ExprParse, and what ExprParses says.
-/
namespace Go.Proofs.YtfehigldhedkgaaDoor
set_option linter.unusedSimpArgs false
set_option linter.unusedVariables false
open Go.Av

theorem parse_none {t : List UInt8} {e : Int × Option Nat} (h : (parseM t).2 = some e) : (parseM t).1 = none := by
  unfold parseM at h ⊢
  split at h
  · rw [if_pos ‹_›]
  · rw [if_neg ‹_›]
    split at h
    · rfl
    · split at h
      · rw [if_pos ‹_›]
      · cases h
theorem parse_some {t : List UInt8} (h : (parseM t).2 = none) : ∃ x, (parseM t).1 = some x := by
  unfold parseM at h ⊢
  split at h
  · cases h
  · rw [if_neg ‹_›]
    split at h
    · cases h
    · split at h
      · cases h
      · rw [if_neg ‹_›]
        exact ⟨_, rfl⟩

end Go.Proofs.YtfehigldhedkgaaDoor

/-
  What an expression says: Eval; names among some.
-/
namespace Go.Proofs.YtfehigldhedkgaaDoor
set_option linter.unusedSimpArgs false
set_option linter.unusedVariables false
open Go.Av

theorem idx_some {α : Type} (p : α → Bool) (l : List α) : decide (0 ≤ idx p l) = l.any p := by
  unfold idx
  cases h : l.findIdx? p with
  | none =>
    rw [List.findIdx?_eq_none_iff] at h
    have : l.any p = false := by rw [List.any_eq_false]; intro x hx; simp [h x hx]
    rw [this]; simp
  | some i =>
    rw [List.findIdx?_eq_some_iff_getElem] at h
    obtain ⟨hi, hp, _⟩ := h
    have : l.any p = true := List.any_eq_true.2 ⟨_, List.getElem_mem hi, hp⟩
    rw [this]; simp
theorem evA_any (is was : List UInt8 → Bool) : ∀ l : List Ex, evA is was l = !(l.any fun e => !evE is was e)
  | [] => rfl
  | e :: l => by rw [evA, evA_any is was l]; simp
theorem evO_any (is was : List UInt8 → Bool) : ∀ l : List Ex, evO is was l = l.any fun e => evE is was e
  | [] => rfl
  | e :: l => by rw [evO, evO_any is was l]; simp

set_option maxHeartbeats 1000000 in
theorem indexAnd_spec (G : Glob) (k : Option Bool) (xs : List Ex) (g : FuncId) (caps : List D) (p : Ex → Bool) (hl : xs.length < 2^63) (ha : ∀ x ∈ xs, PureC Tryd.prog G g (dE x :: caps) (.v (.bool (p x)))) :
    PureC Tryd.prog G 77 [.sl k (xs.map fun x => [dE x]), .fn (.func g) caps] (.v (.int .i64 (idx p xs))) := by
  refine PureC.of_body (tyOf_good _) Tryd.func77 rfl rfl (rs := [.tmp 4]) Tryd.results77 (by simp [Tryd.ntmps77]) fun X => ?_
  simp only [Tryd.ntmps77, List.map]
  refine AW_rg (tyOf_good _) [0, 1] [] (fun _ _ => trivial) fun K' hK' => ?_
  repeat (refine sxf_next fun K2 hK2 => ?_; simp; (repeat (refine ⟨by omega, ?_⟩)); refine hK2 _ ?_; clear hK2 K2)
  refine sxf_nil (hK' _ ?_)
  refine AW.st (by simp; rfl) ?_
  clear hK' K'
  refine AW_then fun K1 hK1 => ?_
  refine AW_rg (tyOf_good _) [0, 1, 7, 8] [] (fun _ _ => trivial) fun K' hK' => ?_
  repeat (refine sxf_next fun K2 hK2 => ?_; simp; (repeat (refine ⟨by omega, ?_⟩)); refine hK2 _ ?_; clear hK2 K2)
  refine sxf_nil (hK' _ ?_)
  refine AW.st (by simp; rfl) ?_
  clear hK' K'
  refine AW_for (S := Nat) (fun n => n ≤ xs.length ∧ ∀ i (hi : i < xs.length), i < n → p xs[i] = false) (fun n => ⟨lst [(0, .d (.sl k (xs.map fun x => [dE x]))), (1, .d (.fn (.func g) caps)), (7, int xs.length), (8, int n)], hlst []⟩) (fun n => xs.length - n) 0 ?_ (by simp) ?_
  · refine Imp.to' (fun _ _ => trivial) (by simp) (by simp)
  · rintro n ⟨hn, hp⟩
    refine AW_rg (tyOf_good _) [0, 1, 7, 8, 9] [] (fun _ _ => trivial) fun K' hK' => ?_
    repeat (refine sxf_next fun K2 hK2 => ?_; simp; (repeat (refine ⟨by omega, ?_⟩)); refine hK2 _ ?_; clear hK2 K2)
    refine sxf_nil (hK' _ ?_)
    refine AW.st (by simp; rfl) ?_
    clear hK' K'
    refine AW_then fun K2 hK2 => ?_
    refine AW_cond' (b := n < xs.length) (by simp [D.le, D.le.go, takeMap]) (fun hc => ?_) (fun hc => ?_)
    · have hax := ha xs[n] (by simp)
      refine AW_skip (hK2 _ ?_)
      refine AW_then fun K3 hK3 => ?_
      refine AW_block ?_
      refine AW_rg (tyOf_good _) [0, 1, 5, 7, 8] [] (fun _ _ => trivial) fun K' hK' => ?_
      repeat (refine sxf_next fun K2 hK2 => ?_; simp; (repeat (refine ⟨by omega, ?_⟩)); refine hK2 _ ?_; clear hK2 K2)
      refine sxf_nil (hK' _ ?_)
      refine AW.st (by simp; rfl) ?_
      clear hK' K'
      refine AW_rg (tyOf_good _) [0, 1, 5, 7, 8, 16] [] (fun _ _ => trivial) fun K' hK' => ?_
      repeat (refine sxf_next fun K2 hK2 => ?_; simp [hc]; (repeat (refine ⟨by omega, ?_⟩)); refine hK2 _ ?_; clear hK2 K2)
      refine sxf_next fun K2 hK2 => ?_
      simp [hc]
      refine callK.data (hax) (by simp; rfl) (by first | exact D.leGo_refl _ | simp [takeMap, List.map_map, Function.comp_def, D.le, D.le.go, D.le_refl, D.leGo_refl, hc]) ?_
      refine hK2 _ ?_
      clear hK2 K2
      simp only [putd, upd_lst]
      repeat (refine sxf_next fun K2 hK2 => ?_; simp [hc]; (repeat (refine ⟨by omega, ?_⟩)); refine hK2 _ ?_; clear hK2 K2)
      refine sxf_nil (hK' _ ?_)
      refine AW.st (by simp [hc]; rfl) ?_
      clear hK' K'
      refine AW_cond _ rfl (fun hp2 => ?_) (fun hp2 => ?_)
      · refine AW_rg (tyOf_good _) [4] [] (fun _ _ => trivial) fun K' hK' => ?_
        repeat (refine sxf_next fun K2 hK2 => ?_; simp; (repeat (refine ⟨by omega, ?_⟩)); refine hK2 _ ?_; clear hK2 K2)
        refine sxf_nil (hK' _ ?_)
        refine AW.st (by simp; rfl) ?_
        clear hK' K'
        refine AW_ret ?_
        simp [D.le, D.le.go, takeMap]
        exact (idx_hit hc hp2 fun i hi => hp i (by omega) hi).symm
      · refine AW_skip (hK3 _ ?_)
        refine AW_re (tyOf_good _) fun K' hK' => ?_
        repeat (refine sxf_next fun K2 hK2 => ?_; simp; (repeat (refine ⟨by omega, ?_⟩)); refine hK2 _ ?_; clear hK2 K2)
        refine sxf_nil (hK' _ ?_)
        clear hK' K'
        try simp only [thn, inb]
        refine Again.mk (n + 1) ⟨by omega, fun i hi hin => ?_⟩ (by omega) ?_
        · by_cases h : i = n
          · subst h; exact hp2
          · exact hp i hi (by omega)
        refine Imp.to' (fun _ _ => trivial) (by simp) (by simp)
    · refine AW_exit (hK1 _ ?_)
      refine AW_rg (tyOf_good _) [4] [] (fun _ _ => trivial) fun K' hK' => ?_
      repeat (refine sxf_next fun K2 hK2 => ?_; simp; (repeat (refine ⟨by omega, ?_⟩)); refine hK2 _ ?_; clear hK2 K2)
      refine sxf_nil (hK' _ ?_)
      refine AW.st (by simp; rfl) ?_
      clear hK' K'
      refine AW_ret ?_
      simp [D.le, D.le.go, takeMap]
      exact (idx_miss fun i hi => hp i hi (by omega)).symm
theorem containsAnd_spec (G : Glob) (k : Option Bool) (xs : List Ex) (g : FuncId) (caps : List D) (p : Ex → Bool) (hl : xs.length < 2^63) (ha : ∀ x ∈ xs, PureC Tryd.prog G g (dE x :: caps) (.v (.bool (p x)))) :
    PureC Tryd.prog G 53 [.sl k (xs.map fun x => [dE x]), .fn (.func g) caps] (.v (.bool (xs.any p))) := by
  have hi := indexAnd_spec G k xs g caps p hl ha
  have hd := idx_some p xs
  generalize idx p xs = r at hi hd
  rw [← hd]
  refine PureC.of_body (tyOf_good _) Tryd.func53 rfl rfl (rs := [.tmp 4]) Tryd.results53 (by simp [Tryd.ntmps53]) fun X => ?_
  simp only [Tryd.ntmps53, List.map]
  refine AW_rg (tyOf_good _) [0, 1] [] (fun _ _ => trivial) fun K' hK' => ?_
  repeat (refine sxf_next fun K2 hK2 => ?_; simp; (repeat (refine ⟨by omega, ?_⟩)); refine hK2 _ ?_; clear hK2 K2)
  refine sxf_nil (hK' _ ?_)
  refine AW.st (by simp; rfl) ?_
  clear hK' K'
  refine AW_rg (tyOf_good _) [4] [] (fun _ _ => trivial) fun K' hK' => ?_
  repeat (refine sxf_next fun K2 hK2 => ?_; simp; (repeat (refine ⟨by omega, ?_⟩)); refine hK2 _ ?_; clear hK2 K2)
  refine sxf_next fun K2 hK2 => ?_
  simp
  refine callK.data (hi) (by simp; rfl) (by first | exact D.leGo_refl _ | simp [takeMap, List.map_map, Function.comp_def, D.le, D.le.go, D.le_refl, D.leGo_refl]) ?_
  refine hK2 _ ?_
  clear hK2 K2
  simp only [putd, upd_lst]
  repeat (refine sxf_next fun K2 hK2 => ?_; simp; (repeat (refine ⟨by omega, ?_⟩)); refine hK2 _ ?_; clear hK2 K2)
  refine sxf_nil (hK' _ ?_)
  refine AW.st (by simp; rfl) ?_
  clear hK' K'
  refine AW_ret ?_
  simp [D.le, D.le.go, takeMap]

set_option maxHeartbeats 1000000 in
theorem indexOr_spec (G : Glob) (k : Option Bool) (xs : List Ex) (g : FuncId) (caps : List D) (p : Ex → Bool) (hl : xs.length < 2^63) (ha : ∀ x ∈ xs, PureC Tryd.prog G g (dE x :: caps) (.v (.bool (p x)))) :
    PureC Tryd.prog G 78 [.sl k (xs.map fun x => [dE x]), .fn (.func g) caps] (.v (.int .i64 (idx p xs))) := by
  refine PureC.of_body (tyOf_good _) Tryd.func78 rfl rfl (rs := [.tmp 4]) Tryd.results78 (by simp [Tryd.ntmps78]) fun X => ?_
  simp only [Tryd.ntmps78, List.map]
  refine AW_rg (tyOf_good _) [0, 1] [] (fun _ _ => trivial) fun K' hK' => ?_
  repeat (refine sxf_next fun K2 hK2 => ?_; simp; (repeat (refine ⟨by omega, ?_⟩)); refine hK2 _ ?_; clear hK2 K2)
  refine sxf_nil (hK' _ ?_)
  refine AW.st (by simp; rfl) ?_
  clear hK' K'
  refine AW_then fun K1 hK1 => ?_
  refine AW_rg (tyOf_good _) [0, 1, 7, 8] [] (fun _ _ => trivial) fun K' hK' => ?_
  repeat (refine sxf_next fun K2 hK2 => ?_; simp; (repeat (refine ⟨by omega, ?_⟩)); refine hK2 _ ?_; clear hK2 K2)
  refine sxf_nil (hK' _ ?_)
  refine AW.st (by simp; rfl) ?_
  clear hK' K'
  refine AW_for (S := Nat) (fun n => n ≤ xs.length ∧ ∀ i (hi : i < xs.length), i < n → p xs[i] = false) (fun n => ⟨lst [(0, .d (.sl k (xs.map fun x => [dE x]))), (1, .d (.fn (.func g) caps)), (7, int xs.length), (8, int n)], hlst []⟩) (fun n => xs.length - n) 0 ?_ (by simp) ?_
  · refine Imp.to' (fun _ _ => trivial) (by simp) (by simp)
  · rintro n ⟨hn, hp⟩
    refine AW_rg (tyOf_good _) [0, 1, 7, 8, 9] [] (fun _ _ => trivial) fun K' hK' => ?_
    repeat (refine sxf_next fun K2 hK2 => ?_; simp; (repeat (refine ⟨by omega, ?_⟩)); refine hK2 _ ?_; clear hK2 K2)
    refine sxf_nil (hK' _ ?_)
    refine AW.st (by simp; rfl) ?_
    clear hK' K'
    refine AW_then fun K2 hK2 => ?_
    refine AW_cond' (b := n < xs.length) (by simp [D.le, D.le.go, takeMap]) (fun hc => ?_) (fun hc => ?_)
    · have hax := ha xs[n] (by simp)
      refine AW_skip (hK2 _ ?_)
      refine AW_then fun K3 hK3 => ?_
      refine AW_block ?_
      refine AW_rg (tyOf_good _) [0, 1, 5, 7, 8] [] (fun _ _ => trivial) fun K' hK' => ?_
      repeat (refine sxf_next fun K2 hK2 => ?_; simp; (repeat (refine ⟨by omega, ?_⟩)); refine hK2 _ ?_; clear hK2 K2)
      refine sxf_nil (hK' _ ?_)
      refine AW.st (by simp; rfl) ?_
      clear hK' K'
      refine AW_rg (tyOf_good _) [0, 1, 5, 7, 8, 16] [] (fun _ _ => trivial) fun K' hK' => ?_
      repeat (refine sxf_next fun K2 hK2 => ?_; simp [hc]; (repeat (refine ⟨by omega, ?_⟩)); refine hK2 _ ?_; clear hK2 K2)
      refine sxf_next fun K2 hK2 => ?_
      simp [hc]
      refine callK.data (hax) (by simp; rfl) (by first | exact D.leGo_refl _ | simp [takeMap, List.map_map, Function.comp_def, D.le, D.le.go, D.le_refl, D.leGo_refl, hc]) ?_
      refine hK2 _ ?_
      clear hK2 K2
      simp only [putd, upd_lst]
      repeat (refine sxf_next fun K2 hK2 => ?_; simp [hc]; (repeat (refine ⟨by omega, ?_⟩)); refine hK2 _ ?_; clear hK2 K2)
      refine sxf_nil (hK' _ ?_)
      refine AW.st (by simp [hc]; rfl) ?_
      clear hK' K'
      refine AW_cond _ rfl (fun hp2 => ?_) (fun hp2 => ?_)
      · refine AW_rg (tyOf_good _) [4] [] (fun _ _ => trivial) fun K' hK' => ?_
        repeat (refine sxf_next fun K2 hK2 => ?_; simp; (repeat (refine ⟨by omega, ?_⟩)); refine hK2 _ ?_; clear hK2 K2)
        refine sxf_nil (hK' _ ?_)
        refine AW.st (by simp; rfl) ?_
        clear hK' K'
        refine AW_ret ?_
        simp [D.le, D.le.go, takeMap]
        exact (idx_hit hc hp2 fun i hi => hp i (by omega) hi).symm
      · refine AW_skip (hK3 _ ?_)
        refine AW_re (tyOf_good _) fun K' hK' => ?_
        repeat (refine sxf_next fun K2 hK2 => ?_; simp; (repeat (refine ⟨by omega, ?_⟩)); refine hK2 _ ?_; clear hK2 K2)
        refine sxf_nil (hK' _ ?_)
        clear hK' K'
        try simp only [thn, inb]
        refine Again.mk (n + 1) ⟨by omega, fun i hi hin => ?_⟩ (by omega) ?_
        · by_cases h : i = n
          · subst h; exact hp2
          · exact hp i hi (by omega)
        refine Imp.to' (fun _ _ => trivial) (by simp) (by simp)
    · refine AW_exit (hK1 _ ?_)
      refine AW_rg (tyOf_good _) [4] [] (fun _ _ => trivial) fun K' hK' => ?_
      repeat (refine sxf_next fun K2 hK2 => ?_; simp; (repeat (refine ⟨by omega, ?_⟩)); refine hK2 _ ?_; clear hK2 K2)
      refine sxf_nil (hK' _ ?_)
      refine AW.st (by simp; rfl) ?_
      clear hK' K'
      refine AW_ret ?_
      simp [D.le, D.le.go, takeMap]
      exact (idx_miss fun i hi => hp i hi (by omega)).symm
theorem containsOr_spec (G : Glob) (k : Option Bool) (xs : List Ex) (g : FuncId) (caps : List D) (p : Ex → Bool) (hl : xs.length < 2^63) (ha : ∀ x ∈ xs, PureC Tryd.prog G g (dE x :: caps) (.v (.bool (p x)))) :
    PureC Tryd.prog G 55 [.sl k (xs.map fun x => [dE x]), .fn (.func g) caps] (.v (.bool (xs.any p))) := by
  have hi := indexOr_spec G k xs g caps p hl ha
  have hd := idx_some p xs
  generalize idx p xs = r at hi hd
  rw [← hd]
  refine PureC.of_body (tyOf_good _) Tryd.func55 rfl rfl (rs := [.tmp 4]) Tryd.results55 (by simp [Tryd.ntmps55]) fun X => ?_
  simp only [Tryd.ntmps55, List.map]
  refine AW_rg (tyOf_good _) [0, 1] [] (fun _ _ => trivial) fun K' hK' => ?_
  repeat (refine sxf_next fun K2 hK2 => ?_; simp; (repeat (refine ⟨by omega, ?_⟩)); refine hK2 _ ?_; clear hK2 K2)
  refine sxf_nil (hK' _ ?_)
  refine AW.st (by simp; rfl) ?_
  clear hK' K'
  refine AW_rg (tyOf_good _) [4] [] (fun _ _ => trivial) fun K' hK' => ?_
  repeat (refine sxf_next fun K2 hK2 => ?_; simp; (repeat (refine ⟨by omega, ?_⟩)); refine hK2 _ ?_; clear hK2 K2)
  refine sxf_next fun K2 hK2 => ?_
  simp
  refine callK.data (hi) (by simp; rfl) (by first | exact D.leGo_refl _ | simp [takeMap, List.map_map, Function.comp_def, D.le, D.le.go, D.le_refl, D.leGo_refl]) ?_
  refine hK2 _ ?_
  clear hK2 K2
  simp only [putd, upd_lst]
  repeat (refine sxf_next fun K2 hK2 => ?_; simp; (repeat (refine ⟨by omega, ?_⟩)); refine hK2 _ ?_; clear hK2 K2)
  refine sxf_nil (hK' _ ?_)
  refine AW.st (by simp; rfl) ?_
  clear hK' K'
  refine AW_ret ?_
  simp [D.le, D.le.go, takeMap]

/-! ### Names among some -/
set_option maxHeartbeats 2000000 in
theorem among1_spec (G : Glob) (k : Option Bool) (l : List (List UInt8)) (s : List UInt8) (hl : l.length < 2^60) : PureC Tryd.prog G 57 [dS s, .ip [.sl k (l.map fun x => [dS x])]] (.v (.bool (l.any fun x => x == s))) := by
  refine PureC.of_body (tyOf_good _) Tryd.func57 rfl rfl (rs := [.tmp 3]) Tryd.results57 (by simp [Tryd.ntmps57]) fun X => ?_
  simp only [Tryd.ntmps57, List.map]
  refine AW_rg (tyOf_good _) [0, 1] [] (fun _ _ => trivial) fun K' hK' => ?_
  repeat (refine sxf_next fun K2 hK2 => ?_; simp [dNum, dS]; (repeat (refine ⟨by omega, ?_⟩)); refine hK2 _ ?_; clear hK2 K2)
  refine sxf_nil (hK' _ ?_)
  refine AW.st (by simp [dNum, dS]; rfl) ?_
  clear hK' K'
  refine AW_then fun K1 hK1 => ?_
  refine AW_rg (tyOf_good _) [0, 1, 4] [] (fun _ _ => trivial) fun K' hK' => ?_
  repeat (refine sxf_next fun K2 hK2 => ?_; simp [dNum, dS]; (repeat (refine ⟨by omega, ?_⟩)); refine hK2 _ ?_; clear hK2 K2)
  refine sxf_nil (hK' _ ?_)
  refine AW.st (by simp [dNum, dS]; rfl) ?_
  clear hK' K'
  refine AW_for (S := Nat) (fun n => n ≤ l.length ∧ ∀ i (hi : i < l.length), i < n → (l[i] == s) = false) (fun n => ⟨lst [(0, .d (dS s)), (1, .d (.ip [.sl k (l.map fun x => [dS x])])), (4, int n)], hlst []⟩) (fun n => l.length - n) 0 ?_ (by simp) ?_
  · refine Imp.to' (fun _ _ => trivial) (by simp [dNum, dS]) (by simp [dNum, dS])
  · rintro n ⟨hn, hp⟩
    refine AW_then fun K2 hK2 => ?_
    refine AW_rg (tyOf_good _) [0, 1, 4, 8] [] (fun _ _ => trivial) fun K' hK' => ?_
    repeat (refine sxf_next fun K2 hK2 => ?_; simp [dNum, dS]; (repeat (refine ⟨by omega, ?_⟩)); refine hK2 _ ?_; clear hK2 K2)
    refine sxf_nil (hK' _ ?_)
    refine AW.st (by simp [dNum, dS]; rfl) ?_
    clear hK' K'
    refine AW_cond' (b := n < l.length) (by simp [D.le, D.le.go, takeMap, dNum, dS]) (fun hc => ?_) (fun hc => ?_)
    · have hnl : n < l.length := hc
      refine AW_skip (hK2 _ ?_)
      refine AW_then fun K3 hK3 => ?_
      refine AW_block ?_
      cases he : (l[n] == s) with
      | true =>
        have he2 : l[n] = s := by simpa using he
        refine AW_rg (tyOf_good _) [0, 1, 4, 16] [] (fun _ _ => trivial) fun K' hK' => ?_
        repeat (refine sxf_next fun K2 hK2 => ?_; simp [dNum, dS, hnl, he, he2, binS, bs_list]; (repeat (refine ⟨by omega, ?_⟩)); refine hK2 _ ?_; clear hK2 K2)
        refine sxf_nil (hK' _ ?_)
        refine AW.st (by simp [dNum, dS, hnl, he, he2, binS, bs_list]; rfl) ?_
        clear hK' K'
        refine AW_cond true rfl (fun _ => ?_) (fun h => by cases h)
        refine AW_rg (tyOf_good _) [3] [] (fun _ _ => trivial) fun K' hK' => ?_
        repeat (refine sxf_next fun K2 hK2 => ?_; simp [dNum, dS]; (repeat (refine ⟨by omega, ?_⟩)); refine hK2 _ ?_; clear hK2 K2)
        refine sxf_nil (hK' _ ?_)
        refine AW.st (by simp [dNum, dS]; rfl) ?_
        clear hK' K'
        have hany : (l.any fun x => x == s) = true := List.any_eq_true.2 ⟨_, List.getElem_mem hnl, he⟩
        refine AW_ret ?_
        simp [D.le, D.le.go, takeMap, dNum, dS, hany]
      | false =>
        have he2 : ¬ l[n] = s := by simpa using he
        refine AW_rg (tyOf_good _) [0, 1, 4, 16] [] (fun _ _ => trivial) fun K' hK' => ?_
        repeat (refine sxf_next fun K2 hK2 => ?_; simp [dNum, dS, hnl, he, he2, binS, bs_list]; (repeat (refine ⟨by omega, ?_⟩)); refine hK2 _ ?_; clear hK2 K2)
        refine sxf_nil (hK' _ ?_)
        refine AW.st (by simp [dNum, dS, hnl, he, he2, binS, bs_list]; rfl) ?_
        clear hK' K'
        refine AW_cond false rfl (fun h => by cases h) (fun _ => ?_)
        refine AW_skip (hK3 _ ?_)
        refine AW_re (tyOf_good _) fun K' hK' => ?_
        repeat (refine sxf_next fun K2 hK2 => ?_; simp [dNum, dS]; (repeat (refine ⟨by omega, ?_⟩)); refine hK2 _ ?_; clear hK2 K2)
        refine sxf_nil (hK' _ ?_)
        clear hK' K'
        try simp only [thn, inb]
        refine Again.mk (n + 1) ⟨by omega, fun i hi hin => ?_⟩ (by omega) ?_
        · by_cases h : i = n
          · subst h; exact he
          · exact hp i hi (by omega)
        refine Imp.to' (fun _ _ => trivial) (by simp [dNum, dS]) (by simp [dNum, dS])
    · refine AW_exit (hK1 _ ?_)
      have hany : (l.any fun x => x == s) = false := by
        rw [List.any_eq_false]
        intro x hx
        obtain ⟨i, hi, rfl⟩ := List.mem_iff_getElem.1 hx
        simp [hp i hi (by omega)]
      refine AW_rg (tyOf_good _) [3] [] (fun _ _ => trivial) fun K' hK' => ?_
      repeat (refine sxf_next fun K2 hK2 => ?_; simp [dNum, dS]; (repeat (refine ⟨by omega, ?_⟩)); refine hK2 _ ?_; clear hK2 K2)
      refine sxf_nil (hK' _ ?_)
      refine AW.st (by simp [dNum, dS]; rfl) ?_
      clear hK' K'
      refine AW_ret ?_
      simp [D.le, D.le.go, takeMap, dNum, dS, hany]
def dAm (k : Option Bool) (l : List (List UInt8)) : D := .fn (.func 57) [.ip [.sl k (l.map fun x => [dS x])]]
theorem among_spec (G : Glob) (k : Option Bool) (l : List (List UInt8)) : PureC Tryd.prog G 22 [.sl k (l.map fun x => [dS x])] (dAm k l) := by
  refine PureC.of_body (tyOf_good _) Tryd.func22 rfl rfl (rs := [.tmp 2]) Tryd.results22 (by simp [Tryd.ntmps22]) fun X => ?_
  simp only [Tryd.ntmps22, List.map]
  refine AW_rg (tyOf_good _) [1] [1] (fun _ _ => trivial) fun K' hK' => ?_
  repeat (refine sxf_next fun K2 hK2 => ?_; simp [dNum, dS]; (repeat (refine ⟨by omega, ?_⟩)); refine hK2 _ ?_; clear hK2 K2)
  refine sxf_nil (hK' _ ?_)
  refine AW.st (by simp [dNum, dS]; rfl) ?_
  clear hK' K'
  refine AW.imp (Imp.freezeB 1 trivial) ?_
  refine AW.st (by simp [dNum, dS]; rfl) ?_
  refine AW_rg (tyOf_good _) [2] [] (fun _ _ => trivial) fun K' hK' => ?_
  repeat (refine sxf_next fun K2 hK2 => ?_; simp [dNum, dS]; (repeat (refine ⟨by omega, ?_⟩)); refine hK2 _ ?_; clear hK2 K2)
  refine sxf_nil (hK' _ ?_)
  refine AW.st (by simp [dNum, dS]; rfl) ?_
  clear hK' K'
  refine AW_ret ?_
  simp [D.le, D.le.go, takeMap, dNum, dS, dAm, D.le_refl, D.leGo_refl]

/-! ### Eval -/
/-- A function that tells of names. -/
def Tells (G : Glob) (g : FuncId) (caps : List D) (p : List UInt8 → Bool) : Prop := ∀ s, PureC Tryd.prog G g (dS s :: caps) (.v (.bool (p s)))
theorem among_tells (G : Glob) (k : Option Bool) (l : List (List UInt8)) (hl : l.length < 2^60) : Tells G 57 [.ip [.sl k (l.map fun x => [dS x])]] (fun s => l.any fun x => x == s) := fun s => among1_spec G k l s hl

set_option maxHeartbeats 32000000 in
theorem eval_at (G : Glob) (g1 g2 : FuncId) (c1 c2 : List D) (is was : List UInt8 → Bool) (h1 : Tells G g1 c1 is) (h2 : Tells G g2 c2 was) : ∀ (n : Nat) (e : Ex), SizeOf.sizeOf e ≤ n → bE e ≤ 2^28 → PureC Tryd.prog G 21 [dE e, .fn (.func g1) c1, .fn (.func g2) c2] (.v (.bool (evE is was e))) := by
  intro n
  induction n with
  | zero => intro e hsz; cases e <;> simp at hsz
  | succ n ih =>
    intro e hsz hb
    cases e with
    | cst b =>
      rw [dE]
      refine PureC.of_body (tyOf_good _) Tryd.func21 rfl rfl (rs := [.tmp 6]) Tryd.results21 (by simp [Tryd.ntmps21]) fun X => ?_
      simp only [Tryd.ntmps21, List.map]
      refine AW_rg (tyOf_good _) [0, 4, 5] [4, 5] (fun _ _ => trivial) fun K' hK' => ?_
      repeat (refine sxf_next fun K2 hK2 => ?_; simp [dNum, dS, pairA, assertA]; (repeat (refine ⟨by omega, ?_⟩)); refine hK2 _ ?_; clear hK2 K2)
      refine sxf_nil (hK' _ ?_)
      refine AW.st (by simp [dNum, dS, pairA, assertA]; rfl) ?_
      clear hK' K'
      refine AW.imp (Imp.freezeB 4 trivial) ?_
      refine AW.st (by simp [dNum, dS, pairA, assertA]; rfl) ?_
      refine AW.imp (Imp.freezeB 5 trivial) ?_
      refine AW.st (by simp [dNum, dS, pairA, assertA]; rfl) ?_
      refine AW_then fun K1 hK1 => ?_
      refine AW_rg (tyOf_good _) [4, 5, 14] [] (fun _ _ => trivial) fun K' hK' => ?_
      repeat (refine sxf_next fun K2 hK2 => ?_; simp [dNum, dS, pairA, assertA]; (repeat (refine ⟨by omega, ?_⟩)); refine hK2 _ ?_; clear hK2 K2)
      refine sxf_nil (hK' _ ?_)
      refine AW.st (by simp [dNum, dS, pairA, assertA]; rfl) ?_
      clear hK' K'
      refine AW_block ?_
      refine AW_rg (tyOf_good _) [4, 5, 14, 16, 17] [] (fun _ _ => trivial) fun K' hK' => ?_
      repeat (refine sxf_next fun K2 hK2 => ?_; simp [dNum, dS, pairA, assertA]; (repeat (refine ⟨by omega, ?_⟩)); refine hK2 _ ?_; clear hK2 K2)
      refine sxf_nil (hK' _ ?_)
      refine AW.st (by simp [dNum, dS, pairA, assertA]; rfl) ?_
      clear hK' K'
      refine AW_cond true rfl (fun _ => ?_) (fun h => by cases h)
      refine AW_rg (tyOf_good _) [7] [] (fun _ _ => trivial) fun K' hK' => ?_
      repeat (refine sxf_next fun K2 hK2 => ?_; simp [dNum, dS, pairA, assertA]; (repeat (refine ⟨by omega, ?_⟩)); refine hK2 _ ?_; clear hK2 K2)
      refine sxf_nil (hK' _ ?_)
      refine AW.st (by simp [dNum, dS, pairA, assertA]; rfl) ?_
      clear hK' K'
      refine AW_rg (tyOf_good _) [6] [] (fun _ _ => trivial) fun K' hK' => ?_
      repeat (refine sxf_next fun K2 hK2 => ?_; simp [dNum, dS, pairA, assertA]; (repeat (refine ⟨by omega, ?_⟩)); refine hK2 _ ?_; clear hK2 K2)
      refine sxf_nil (hK' _ ?_)
      refine AW.st (by simp [dNum, dS, pairA, assertA]; rfl) ?_
      clear hK' K'
      refine AW_ret ?_
      simp [D.le, D.le.go, takeMap, dNum, dS, pairA, assertA, evE]
    | bit s =>
      have hi := h1 s
      rw [dE, evE]
      refine PureC.of_body (tyOf_good _) Tryd.func21 rfl rfl (rs := [.tmp 6]) Tryd.results21 (by simp [Tryd.ntmps21]) fun X => ?_
      simp only [Tryd.ntmps21, List.map]
      refine AW_rg (tyOf_good _) [0, 4, 5] [4, 5] (fun _ _ => trivial) fun K' hK' => ?_
      repeat (refine sxf_next fun K2 hK2 => ?_; simp [dNum, dS, pairA, assertA]; (repeat (refine ⟨by omega, ?_⟩)); refine hK2 _ ?_; clear hK2 K2)
      refine sxf_nil (hK' _ ?_)
      refine AW.st (by simp [dNum, dS, pairA, assertA]; rfl) ?_
      clear hK' K'
      refine AW.imp (Imp.freezeB 4 trivial) ?_
      refine AW.st (by simp [dNum, dS, pairA, assertA]; rfl) ?_
      refine AW.imp (Imp.freezeB 5 trivial) ?_
      refine AW.st (by simp [dNum, dS, pairA, assertA]; rfl) ?_
      refine AW_then fun K1 hK1 => ?_
      refine AW_rg (tyOf_good _) [4, 5, 14] [] (fun _ _ => trivial) fun K' hK' => ?_
      repeat (refine sxf_next fun K2 hK2 => ?_; simp [dNum, dS, pairA, assertA]; (repeat (refine ⟨by omega, ?_⟩)); refine hK2 _ ?_; clear hK2 K2)
      refine sxf_nil (hK' _ ?_)
      refine AW.st (by simp [dNum, dS, pairA, assertA]; rfl) ?_
      clear hK' K'
      refine AW_block ?_
      refine AW_rg (tyOf_good _) [4, 5, 14, 16, 17] [] (fun _ _ => trivial) fun K' hK' => ?_
      repeat (refine sxf_next fun K2 hK2 => ?_; simp [dNum, dS, pairA, assertA]; (repeat (refine ⟨by omega, ?_⟩)); refine hK2 _ ?_; clear hK2 K2)
      refine sxf_nil (hK' _ ?_)
      refine AW.st (by simp [dNum, dS, pairA, assertA]; rfl) ?_
      clear hK' K'
      refine AW_cond false rfl (fun h => by cases h) (fun _ => ?_)
      refine AW_rg (tyOf_good _) [4, 5, 14, 20, 21] [] (fun _ _ => trivial) fun K' hK' => ?_
      repeat (refine sxf_next fun K2 hK2 => ?_; simp [dNum, dS, pairA, assertA]; (repeat (refine ⟨by omega, ?_⟩)); refine hK2 _ ?_; clear hK2 K2)
      refine sxf_nil (hK' _ ?_)
      refine AW.st (by simp [dNum, dS, pairA, assertA]; rfl) ?_
      clear hK' K'
      refine AW_cond true rfl (fun _ => ?_) (fun h => by cases h)
      refine AW_rg (tyOf_good _) [4, 8] [] (fun _ _ => trivial) fun K' hK' => ?_
      repeat (refine sxf_next fun K2 hK2 => ?_; simp [dNum, dS, pairA, assertA]; (repeat (refine ⟨by omega, ?_⟩)); refine hK2 _ ?_; clear hK2 K2)
      refine sxf_nil (hK' _ ?_)
      refine AW.st (by simp [dNum, dS, pairA, assertA]; rfl) ?_
      clear hK' K'
      refine AW_rg (tyOf_good _) [6] [] (fun _ _ => trivial) fun K' hK' => ?_
      repeat (refine sxf_next fun K2 hK2 => ?_; simp [dNum, dS, pairA, assertA]; (repeat (refine ⟨by omega, ?_⟩)); refine hK2 _ ?_; clear hK2 K2)
      refine sxf_next fun K2 hK2 => ?_
      simp [dNum, dS, pairA, assertA]
      refine callK.data (hi) (by simp; rfl) (by first | exact D.leGo_refl _ | simp [takeMap, List.map_map, Function.comp_def, D.le, D.le.go, D.le_refl, D.leGo_refl, dNum, dS, pairA, assertA]) ?_
      refine hK2 _ ?_
      clear hK2 K2
      simp only [putd, upd_lst]
      repeat (refine sxf_next fun K2 hK2 => ?_; simp [dNum, dS, pairA, assertA]; (repeat (refine ⟨by omega, ?_⟩)); refine hK2 _ ?_; clear hK2 K2)
      refine sxf_nil (hK' _ ?_)
      refine AW.st (by simp [dNum, dS, pairA, assertA]; rfl) ?_
      clear hK' K'
      refine AW_ret ?_
      simp [D.le, D.le.go, takeMap, dNum, dS, pairA, assertA]
    | rise s =>
      have hi := h1 s
      have hw := h2 s
      rw [dE, evE]
      cases hs : is s with
      | false =>
        rw [hs] at hi
        refine PureC.of_body (tyOf_good _) Tryd.func21 rfl rfl (rs := [.tmp 6]) Tryd.results21 (by simp [Tryd.ntmps21]) fun X => ?_
        simp only [Tryd.ntmps21, List.map]
        refine AW_rg (tyOf_good _) [0, 4, 5] [4, 5] (fun _ _ => trivial) fun K' hK' => ?_
        repeat (refine sxf_next fun K2 hK2 => ?_; simp [dNum, dS, pairA, assertA]; (repeat (refine ⟨by omega, ?_⟩)); refine hK2 _ ?_; clear hK2 K2)
        refine sxf_nil (hK' _ ?_)
        refine AW.st (by simp [dNum, dS, pairA, assertA]; rfl) ?_
        clear hK' K'
        refine AW.imp (Imp.freezeB 4 trivial) ?_
        refine AW.st (by simp [dNum, dS, pairA, assertA]; rfl) ?_
        refine AW.imp (Imp.freezeB 5 trivial) ?_
        refine AW.st (by simp [dNum, dS, pairA, assertA]; rfl) ?_
        refine AW_then fun K1 hK1 => ?_
        refine AW_rg (tyOf_good _) [4, 5, 14] [] (fun _ _ => trivial) fun K' hK' => ?_
        repeat (refine sxf_next fun K2 hK2 => ?_; simp [dNum, dS, pairA, assertA]; (repeat (refine ⟨by omega, ?_⟩)); refine hK2 _ ?_; clear hK2 K2)
        refine sxf_nil (hK' _ ?_)
        refine AW.st (by simp [dNum, dS, pairA, assertA]; rfl) ?_
        clear hK' K'
        refine AW_block ?_
        refine AW_rg (tyOf_good _) [4, 5, 14, 16, 17] [] (fun _ _ => trivial) fun K' hK' => ?_
        repeat (refine sxf_next fun K2 hK2 => ?_; simp [dNum, dS, pairA, assertA]; (repeat (refine ⟨by omega, ?_⟩)); refine hK2 _ ?_; clear hK2 K2)
        refine sxf_nil (hK' _ ?_)
        refine AW.st (by simp [dNum, dS, pairA, assertA]; rfl) ?_
        clear hK' K'
        refine AW_cond false rfl (fun h => by cases h) (fun _ => ?_)
        refine AW_rg (tyOf_good _) [4, 5, 14, 20, 21] [] (fun _ _ => trivial) fun K' hK' => ?_
        repeat (refine sxf_next fun K2 hK2 => ?_; simp [dNum, dS, pairA, assertA]; (repeat (refine ⟨by omega, ?_⟩)); refine hK2 _ ?_; clear hK2 K2)
        refine sxf_nil (hK' _ ?_)
        refine AW.st (by simp [dNum, dS, pairA, assertA]; rfl) ?_
        clear hK' K'
        refine AW_cond false rfl (fun h => by cases h) (fun _ => ?_)
        refine AW_rg (tyOf_good _) [4, 5, 14, 26, 27] [] (fun _ _ => trivial) fun K' hK' => ?_
        repeat (refine sxf_next fun K2 hK2 => ?_; simp [dNum, dS, pairA, assertA]; (repeat (refine ⟨by omega, ?_⟩)); refine hK2 _ ?_; clear hK2 K2)
        refine sxf_nil (hK' _ ?_)
        refine AW.st (by simp [dNum, dS, pairA, assertA]; rfl) ?_
        clear hK' K'
        refine AW_cond true rfl (fun _ => ?_) (fun h => by cases h)
        refine AW_rg (tyOf_good _) [4, 5, 9] [] (fun _ _ => trivial) fun K' hK' => ?_
        repeat (refine sxf_next fun K2 hK2 => ?_; simp [dNum, dS, pairA, assertA]; (repeat (refine ⟨by omega, ?_⟩)); refine hK2 _ ?_; clear hK2 K2)
        refine sxf_nil (hK' _ ?_)
        refine AW.st (by simp [dNum, dS, pairA, assertA]; rfl) ?_
        clear hK' K'
        refine AW_rg (tyOf_good _) [6] [] (fun _ _ => trivial) fun K' hK' => ?_
        repeat (refine sxf_next fun K2 hK2 => ?_; simp [dNum, dS, pairA, assertA]; (repeat (refine ⟨by omega, ?_⟩)); refine hK2 _ ?_; clear hK2 K2)
        refine sxf_next fun K2 hK2 => ?_
        simp [dNum, dS, pairA, assertA]
        refine callK.data (hi) (by simp; rfl) (by first | exact D.leGo_refl _ | simp [takeMap, List.map_map, Function.comp_def, D.le, D.le.go, D.le_refl, D.leGo_refl, dNum, dS, pairA, assertA]) ?_
        refine hK2 _ ?_
        clear hK2 K2
        simp only [putd, upd_lst]
        repeat (refine sxf_next fun K2 hK2 => ?_; simp [dNum, dS, pairA, assertA]; (repeat (refine ⟨by omega, ?_⟩)); refine hK2 _ ?_; clear hK2 K2)
        refine sxf_nil (hK' _ ?_)
        refine AW.st (by simp [dNum, dS, pairA, assertA]; rfl) ?_
        clear hK' K'
        refine AW_ret ?_
        simp [D.le, D.le.go, takeMap, dNum, dS, pairA, assertA]
      | true =>
        rw [hs] at hi
        refine PureC.of_body (tyOf_good _) Tryd.func21 rfl rfl (rs := [.tmp 6]) Tryd.results21 (by simp [Tryd.ntmps21]) fun X => ?_
        simp only [Tryd.ntmps21, List.map]
        refine AW_rg (tyOf_good _) [0, 4, 5] [4, 5] (fun _ _ => trivial) fun K' hK' => ?_
        repeat (refine sxf_next fun K2 hK2 => ?_; simp [dNum, dS, pairA, assertA]; (repeat (refine ⟨by omega, ?_⟩)); refine hK2 _ ?_; clear hK2 K2)
        refine sxf_nil (hK' _ ?_)
        refine AW.st (by simp [dNum, dS, pairA, assertA]; rfl) ?_
        clear hK' K'
        refine AW.imp (Imp.freezeB 4 trivial) ?_
        refine AW.st (by simp [dNum, dS, pairA, assertA]; rfl) ?_
        refine AW.imp (Imp.freezeB 5 trivial) ?_
        refine AW.st (by simp [dNum, dS, pairA, assertA]; rfl) ?_
        refine AW_then fun K1 hK1 => ?_
        refine AW_rg (tyOf_good _) [4, 5, 14] [] (fun _ _ => trivial) fun K' hK' => ?_
        repeat (refine sxf_next fun K2 hK2 => ?_; simp [dNum, dS, pairA, assertA]; (repeat (refine ⟨by omega, ?_⟩)); refine hK2 _ ?_; clear hK2 K2)
        refine sxf_nil (hK' _ ?_)
        refine AW.st (by simp [dNum, dS, pairA, assertA]; rfl) ?_
        clear hK' K'
        refine AW_block ?_
        refine AW_rg (tyOf_good _) [4, 5, 14, 16, 17] [] (fun _ _ => trivial) fun K' hK' => ?_
        repeat (refine sxf_next fun K2 hK2 => ?_; simp [dNum, dS, pairA, assertA]; (repeat (refine ⟨by omega, ?_⟩)); refine hK2 _ ?_; clear hK2 K2)
        refine sxf_nil (hK' _ ?_)
        refine AW.st (by simp [dNum, dS, pairA, assertA]; rfl) ?_
        clear hK' K'
        refine AW_cond false rfl (fun h => by cases h) (fun _ => ?_)
        refine AW_rg (tyOf_good _) [4, 5, 14, 20, 21] [] (fun _ _ => trivial) fun K' hK' => ?_
        repeat (refine sxf_next fun K2 hK2 => ?_; simp [dNum, dS, pairA, assertA]; (repeat (refine ⟨by omega, ?_⟩)); refine hK2 _ ?_; clear hK2 K2)
        refine sxf_nil (hK' _ ?_)
        refine AW.st (by simp [dNum, dS, pairA, assertA]; rfl) ?_
        clear hK' K'
        refine AW_cond false rfl (fun h => by cases h) (fun _ => ?_)
        refine AW_rg (tyOf_good _) [4, 5, 14, 26, 27] [] (fun _ _ => trivial) fun K' hK' => ?_
        repeat (refine sxf_next fun K2 hK2 => ?_; simp [dNum, dS, pairA, assertA]; (repeat (refine ⟨by omega, ?_⟩)); refine hK2 _ ?_; clear hK2 K2)
        refine sxf_nil (hK' _ ?_)
        refine AW.st (by simp [dNum, dS, pairA, assertA]; rfl) ?_
        clear hK' K'
        refine AW_cond true rfl (fun _ => ?_) (fun h => by cases h)
        refine AW_rg (tyOf_good _) [4, 5, 9] [] (fun _ _ => trivial) fun K' hK' => ?_
        repeat (refine sxf_next fun K2 hK2 => ?_; simp [dNum, dS, pairA, assertA]; (repeat (refine ⟨by omega, ?_⟩)); refine hK2 _ ?_; clear hK2 K2)
        refine sxf_nil (hK' _ ?_)
        refine AW.st (by simp [dNum, dS, pairA, assertA]; rfl) ?_
        clear hK' K'
        refine AW_rg (tyOf_good _) [6] [] (fun _ _ => trivial) fun K' hK' => ?_
        repeat (refine sxf_next fun K2 hK2 => ?_; simp [dNum, dS, pairA, assertA]; (repeat (refine ⟨by omega, ?_⟩)); refine hK2 _ ?_; clear hK2 K2)
        refine sxf_next fun K2 hK2 => ?_
        simp [dNum, dS, pairA, assertA]
        refine callK.data (hi) (by simp; rfl) (by first | exact D.leGo_refl _ | simp [takeMap, List.map_map, Function.comp_def, D.le, D.le.go, D.le_refl, D.leGo_refl, dNum, dS, pairA, assertA]) ?_
        refine hK2 _ ?_
        clear hK2 K2
        simp only [putd, upd_lst]
        repeat (refine sxf_next fun K2 hK2 => ?_; simp [dNum, dS, pairA, assertA]; (repeat (refine ⟨by omega, ?_⟩)); refine hK2 _ ?_; clear hK2 K2)
        refine sxf_next fun K2 hK2 => ?_
        simp [dNum, dS, pairA, assertA]
        refine callK.data (hw) (by simp; rfl) (by first | exact D.leGo_refl _ | simp [takeMap, List.map_map, Function.comp_def, D.le, D.le.go, D.le_refl, D.leGo_refl, dNum, dS, pairA, assertA]) ?_
        refine hK2 _ ?_
        clear hK2 K2
        simp only [putd, upd_lst]
        repeat (refine sxf_next fun K2 hK2 => ?_; simp [dNum, dS, pairA, assertA]; (repeat (refine ⟨by omega, ?_⟩)); refine hK2 _ ?_; clear hK2 K2)
        refine sxf_nil (hK' _ ?_)
        refine AW.st (by simp [dNum, dS, pairA, assertA]; rfl) ?_
        clear hK' K'
        refine AW_ret ?_
        simp [D.le, D.le.go, takeMap, dNum, dS, pairA, assertA]
    | fall s =>
      have hi := h1 s
      have hw := h2 s
      rw [dE, evE]
      cases hs : is s with
      | true =>
        rw [hs] at hi
        refine PureC.of_body (tyOf_good _) Tryd.func21 rfl rfl (rs := [.tmp 6]) Tryd.results21 (by simp [Tryd.ntmps21]) fun X => ?_
        simp only [Tryd.ntmps21, List.map]
        refine AW_rg (tyOf_good _) [0, 4, 5] [4, 5] (fun _ _ => trivial) fun K' hK' => ?_
        repeat (refine sxf_next fun K2 hK2 => ?_; simp [dNum, dS, pairA, assertA]; (repeat (refine ⟨by omega, ?_⟩)); refine hK2 _ ?_; clear hK2 K2)
        refine sxf_nil (hK' _ ?_)
        refine AW.st (by simp [dNum, dS, pairA, assertA]; rfl) ?_
        clear hK' K'
        refine AW.imp (Imp.freezeB 4 trivial) ?_
        refine AW.st (by simp [dNum, dS, pairA, assertA]; rfl) ?_
        refine AW.imp (Imp.freezeB 5 trivial) ?_
        refine AW.st (by simp [dNum, dS, pairA, assertA]; rfl) ?_
        refine AW_then fun K1 hK1 => ?_
        refine AW_rg (tyOf_good _) [4, 5, 14] [] (fun _ _ => trivial) fun K' hK' => ?_
        repeat (refine sxf_next fun K2 hK2 => ?_; simp [dNum, dS, pairA, assertA]; (repeat (refine ⟨by omega, ?_⟩)); refine hK2 _ ?_; clear hK2 K2)
        refine sxf_nil (hK' _ ?_)
        refine AW.st (by simp [dNum, dS, pairA, assertA]; rfl) ?_
        clear hK' K'
        refine AW_block ?_
        refine AW_rg (tyOf_good _) [4, 5, 14, 16, 17] [] (fun _ _ => trivial) fun K' hK' => ?_
        repeat (refine sxf_next fun K2 hK2 => ?_; simp [dNum, dS, pairA, assertA]; (repeat (refine ⟨by omega, ?_⟩)); refine hK2 _ ?_; clear hK2 K2)
        refine sxf_nil (hK' _ ?_)
        refine AW.st (by simp [dNum, dS, pairA, assertA]; rfl) ?_
        clear hK' K'
        refine AW_cond false rfl (fun h => by cases h) (fun _ => ?_)
        refine AW_rg (tyOf_good _) [4, 5, 14, 20, 21] [] (fun _ _ => trivial) fun K' hK' => ?_
        repeat (refine sxf_next fun K2 hK2 => ?_; simp [dNum, dS, pairA, assertA]; (repeat (refine ⟨by omega, ?_⟩)); refine hK2 _ ?_; clear hK2 K2)
        refine sxf_nil (hK' _ ?_)
        refine AW.st (by simp [dNum, dS, pairA, assertA]; rfl) ?_
        clear hK' K'
        refine AW_cond false rfl (fun h => by cases h) (fun _ => ?_)
        refine AW_rg (tyOf_good _) [4, 5, 14, 26, 27] [] (fun _ _ => trivial) fun K' hK' => ?_
        repeat (refine sxf_next fun K2 hK2 => ?_; simp [dNum, dS, pairA, assertA]; (repeat (refine ⟨by omega, ?_⟩)); refine hK2 _ ?_; clear hK2 K2)
        refine sxf_nil (hK' _ ?_)
        refine AW.st (by simp [dNum, dS, pairA, assertA]; rfl) ?_
        clear hK' K'
        refine AW_cond false rfl (fun h => by cases h) (fun _ => ?_)
        refine AW_rg (tyOf_good _) [4, 5, 14, 38, 39] [] (fun _ _ => trivial) fun K' hK' => ?_
        repeat (refine sxf_next fun K2 hK2 => ?_; simp [dNum, dS, pairA, assertA]; (repeat (refine ⟨by omega, ?_⟩)); refine hK2 _ ?_; clear hK2 K2)
        refine sxf_nil (hK' _ ?_)
        refine AW.st (by simp [dNum, dS, pairA, assertA]; rfl) ?_
        clear hK' K'
        refine AW_cond true rfl (fun _ => ?_) (fun h => by cases h)
        refine AW_rg (tyOf_good _) [4, 5, 10] [] (fun _ _ => trivial) fun K' hK' => ?_
        repeat (refine sxf_next fun K2 hK2 => ?_; simp [dNum, dS, pairA, assertA]; (repeat (refine ⟨by omega, ?_⟩)); refine hK2 _ ?_; clear hK2 K2)
        refine sxf_nil (hK' _ ?_)
        refine AW.st (by simp [dNum, dS, pairA, assertA]; rfl) ?_
        clear hK' K'
        refine AW_rg (tyOf_good _) [6] [] (fun _ _ => trivial) fun K' hK' => ?_
        repeat (refine sxf_next fun K2 hK2 => ?_; simp [dNum, dS, pairA, assertA]; (repeat (refine ⟨by omega, ?_⟩)); refine hK2 _ ?_; clear hK2 K2)
        refine sxf_next fun K2 hK2 => ?_
        simp [dNum, dS, pairA, assertA]
        refine callK.data (hi) (by simp; rfl) (by first | exact D.leGo_refl _ | simp [takeMap, List.map_map, Function.comp_def, D.le, D.le.go, D.le_refl, D.leGo_refl, dNum, dS, pairA, assertA]) ?_
        refine hK2 _ ?_
        clear hK2 K2
        simp only [putd, upd_lst]
        repeat (refine sxf_next fun K2 hK2 => ?_; simp [dNum, dS, pairA, assertA]; (repeat (refine ⟨by omega, ?_⟩)); refine hK2 _ ?_; clear hK2 K2)
        refine sxf_nil (hK' _ ?_)
        refine AW.st (by simp [dNum, dS, pairA, assertA]; rfl) ?_
        clear hK' K'
        refine AW_ret ?_
        simp [D.le, D.le.go, takeMap, dNum, dS, pairA, assertA]
      | false =>
        rw [hs] at hi
        refine PureC.of_body (tyOf_good _) Tryd.func21 rfl rfl (rs := [.tmp 6]) Tryd.results21 (by simp [Tryd.ntmps21]) fun X => ?_
        simp only [Tryd.ntmps21, List.map]
        refine AW_rg (tyOf_good _) [0, 4, 5] [4, 5] (fun _ _ => trivial) fun K' hK' => ?_
        repeat (refine sxf_next fun K2 hK2 => ?_; simp [dNum, dS, pairA, assertA]; (repeat (refine ⟨by omega, ?_⟩)); refine hK2 _ ?_; clear hK2 K2)
        refine sxf_nil (hK' _ ?_)
        refine AW.st (by simp [dNum, dS, pairA, assertA]; rfl) ?_
        clear hK' K'
        refine AW.imp (Imp.freezeB 4 trivial) ?_
        refine AW.st (by simp [dNum, dS, pairA, assertA]; rfl) ?_
        refine AW.imp (Imp.freezeB 5 trivial) ?_
        refine AW.st (by simp [dNum, dS, pairA, assertA]; rfl) ?_
        refine AW_then fun K1 hK1 => ?_
        refine AW_rg (tyOf_good _) [4, 5, 14] [] (fun _ _ => trivial) fun K' hK' => ?_
        repeat (refine sxf_next fun K2 hK2 => ?_; simp [dNum, dS, pairA, assertA]; (repeat (refine ⟨by omega, ?_⟩)); refine hK2 _ ?_; clear hK2 K2)
        refine sxf_nil (hK' _ ?_)
        refine AW.st (by simp [dNum, dS, pairA, assertA]; rfl) ?_
        clear hK' K'
        refine AW_block ?_
        refine AW_rg (tyOf_good _) [4, 5, 14, 16, 17] [] (fun _ _ => trivial) fun K' hK' => ?_
        repeat (refine sxf_next fun K2 hK2 => ?_; simp [dNum, dS, pairA, assertA]; (repeat (refine ⟨by omega, ?_⟩)); refine hK2 _ ?_; clear hK2 K2)
        refine sxf_nil (hK' _ ?_)
        refine AW.st (by simp [dNum, dS, pairA, assertA]; rfl) ?_
        clear hK' K'
        refine AW_cond false rfl (fun h => by cases h) (fun _ => ?_)
        refine AW_rg (tyOf_good _) [4, 5, 14, 20, 21] [] (fun _ _ => trivial) fun K' hK' => ?_
        repeat (refine sxf_next fun K2 hK2 => ?_; simp [dNum, dS, pairA, assertA]; (repeat (refine ⟨by omega, ?_⟩)); refine hK2 _ ?_; clear hK2 K2)
        refine sxf_nil (hK' _ ?_)
        refine AW.st (by simp [dNum, dS, pairA, assertA]; rfl) ?_
        clear hK' K'
        refine AW_cond false rfl (fun h => by cases h) (fun _ => ?_)
        refine AW_rg (tyOf_good _) [4, 5, 14, 26, 27] [] (fun _ _ => trivial) fun K' hK' => ?_
        repeat (refine sxf_next fun K2 hK2 => ?_; simp [dNum, dS, pairA, assertA]; (repeat (refine ⟨by omega, ?_⟩)); refine hK2 _ ?_; clear hK2 K2)
        refine sxf_nil (hK' _ ?_)
        refine AW.st (by simp [dNum, dS, pairA, assertA]; rfl) ?_
        clear hK' K'
        refine AW_cond false rfl (fun h => by cases h) (fun _ => ?_)
        refine AW_rg (tyOf_good _) [4, 5, 14, 38, 39] [] (fun _ _ => trivial) fun K' hK' => ?_
        repeat (refine sxf_next fun K2 hK2 => ?_; simp [dNum, dS, pairA, assertA]; (repeat (refine ⟨by omega, ?_⟩)); refine hK2 _ ?_; clear hK2 K2)
        refine sxf_nil (hK' _ ?_)
        refine AW.st (by simp [dNum, dS, pairA, assertA]; rfl) ?_
        clear hK' K'
        refine AW_cond true rfl (fun _ => ?_) (fun h => by cases h)
        refine AW_rg (tyOf_good _) [4, 5, 10] [] (fun _ _ => trivial) fun K' hK' => ?_
        repeat (refine sxf_next fun K2 hK2 => ?_; simp [dNum, dS, pairA, assertA]; (repeat (refine ⟨by omega, ?_⟩)); refine hK2 _ ?_; clear hK2 K2)
        refine sxf_nil (hK' _ ?_)
        refine AW.st (by simp [dNum, dS, pairA, assertA]; rfl) ?_
        clear hK' K'
        refine AW_rg (tyOf_good _) [6] [] (fun _ _ => trivial) fun K' hK' => ?_
        repeat (refine sxf_next fun K2 hK2 => ?_; simp [dNum, dS, pairA, assertA]; (repeat (refine ⟨by omega, ?_⟩)); refine hK2 _ ?_; clear hK2 K2)
        refine sxf_next fun K2 hK2 => ?_
        simp [dNum, dS, pairA, assertA]
        refine callK.data (hi) (by simp; rfl) (by first | exact D.leGo_refl _ | simp [takeMap, List.map_map, Function.comp_def, D.le, D.le.go, D.le_refl, D.leGo_refl, dNum, dS, pairA, assertA]) ?_
        refine hK2 _ ?_
        clear hK2 K2
        simp only [putd, upd_lst]
        repeat (refine sxf_next fun K2 hK2 => ?_; simp [dNum, dS, pairA, assertA]; (repeat (refine ⟨by omega, ?_⟩)); refine hK2 _ ?_; clear hK2 K2)
        refine sxf_next fun K2 hK2 => ?_
        simp [dNum, dS, pairA, assertA]
        refine callK.data (hw) (by simp; rfl) (by first | exact D.leGo_refl _ | simp [takeMap, List.map_map, Function.comp_def, D.le, D.le.go, D.le_refl, D.leGo_refl, dNum, dS, pairA, assertA]) ?_
        refine hK2 _ ?_
        clear hK2 K2
        simp only [putd, upd_lst]
        repeat (refine sxf_next fun K2 hK2 => ?_; simp [dNum, dS, pairA, assertA]; (repeat (refine ⟨by omega, ?_⟩)); refine hK2 _ ?_; clear hK2 K2)
        refine sxf_nil (hK' _ ?_)
        refine AW.st (by simp [dNum, dS, pairA, assertA]; rfl) ?_
        clear hK' K'
        refine AW_ret ?_
        simp [D.le, D.le.go, takeMap, dNum, dS, pairA, assertA]
    | not x =>
      have hc := ih x (by simp at hsz; omega) (by simp only [bE] at hb; omega)
      obtain ⟨tx, cx, hx⟩ := dE_ifc x
      rw [dE, evE, hx]
      rw [hx] at hc
      generalize evE is was x = r at hc ⊢
      refine PureC.of_body (tyOf_good _) Tryd.func21 rfl rfl (rs := [.tmp 6]) Tryd.results21 (by simp [Tryd.ntmps21]) fun X => ?_
      simp only [Tryd.ntmps21, List.map]
      refine AW_rg (tyOf_good _) [0, 4, 5] [4, 5] (fun _ _ => trivial) fun K' hK' => ?_
      repeat (refine sxf_next fun K2 hK2 => ?_; simp [dNum, dS, pairA, assertA]; (repeat (refine ⟨by omega, ?_⟩)); refine hK2 _ ?_; clear hK2 K2)
      refine sxf_nil (hK' _ ?_)
      refine AW.st (by simp [dNum, dS, pairA, assertA]; rfl) ?_
      clear hK' K'
      refine AW.imp (Imp.freezeB 4 trivial) ?_
      refine AW.st (by simp [dNum, dS, pairA, assertA]; rfl) ?_
      refine AW.imp (Imp.freezeB 5 trivial) ?_
      refine AW.st (by simp [dNum, dS, pairA, assertA]; rfl) ?_
      refine AW_then fun K1 hK1 => ?_
      refine AW_rg (tyOf_good _) [4, 5, 14] [] (fun _ _ => trivial) fun K' hK' => ?_
      repeat (refine sxf_next fun K2 hK2 => ?_; simp [dNum, dS, pairA, assertA]; (repeat (refine ⟨by omega, ?_⟩)); refine hK2 _ ?_; clear hK2 K2)
      refine sxf_nil (hK' _ ?_)
      refine AW.st (by simp [dNum, dS, pairA, assertA]; rfl) ?_
      clear hK' K'
      refine AW_block ?_
      refine AW_rg (tyOf_good _) [4, 5, 14, 16, 17] [] (fun _ _ => trivial) fun K' hK' => ?_
      repeat (refine sxf_next fun K2 hK2 => ?_; simp [dNum, dS, pairA, assertA]; (repeat (refine ⟨by omega, ?_⟩)); refine hK2 _ ?_; clear hK2 K2)
      refine sxf_nil (hK' _ ?_)
      refine AW.st (by simp [dNum, dS, pairA, assertA]; rfl) ?_
      clear hK' K'
      refine AW_cond false rfl (fun h => by cases h) (fun _ => ?_)
      refine AW_rg (tyOf_good _) [4, 5, 14, 20, 21] [] (fun _ _ => trivial) fun K' hK' => ?_
      repeat (refine sxf_next fun K2 hK2 => ?_; simp [dNum, dS, pairA, assertA]; (repeat (refine ⟨by omega, ?_⟩)); refine hK2 _ ?_; clear hK2 K2)
      refine sxf_nil (hK' _ ?_)
      refine AW.st (by simp [dNum, dS, pairA, assertA]; rfl) ?_
      clear hK' K'
      refine AW_cond false rfl (fun h => by cases h) (fun _ => ?_)
      refine AW_rg (tyOf_good _) [4, 5, 14, 26, 27] [] (fun _ _ => trivial) fun K' hK' => ?_
      repeat (refine sxf_next fun K2 hK2 => ?_; simp [dNum, dS, pairA, assertA]; (repeat (refine ⟨by omega, ?_⟩)); refine hK2 _ ?_; clear hK2 K2)
      refine sxf_nil (hK' _ ?_)
      refine AW.st (by simp [dNum, dS, pairA, assertA]; rfl) ?_
      clear hK' K'
      refine AW_cond false rfl (fun h => by cases h) (fun _ => ?_)
      refine AW_rg (tyOf_good _) [4, 5, 14, 38, 39] [] (fun _ _ => trivial) fun K' hK' => ?_
      repeat (refine sxf_next fun K2 hK2 => ?_; simp [dNum, dS, pairA, assertA]; (repeat (refine ⟨by omega, ?_⟩)); refine hK2 _ ?_; clear hK2 K2)
      refine sxf_nil (hK' _ ?_)
      refine AW.st (by simp [dNum, dS, pairA, assertA]; rfl) ?_
      clear hK' K'
      refine AW_cond false rfl (fun h => by cases h) (fun _ => ?_)
      refine AW_rg (tyOf_good _) [4, 5, 14, 50, 51] [] (fun _ _ => trivial) fun K' hK' => ?_
      repeat (refine sxf_next fun K2 hK2 => ?_; simp [dNum, dS, pairA, assertA]; (repeat (refine ⟨by omega, ?_⟩)); refine hK2 _ ?_; clear hK2 K2)
      refine sxf_nil (hK' _ ?_)
      refine AW.st (by simp [dNum, dS, pairA, assertA]; rfl) ?_
      clear hK' K'
      refine AW_cond true rfl (fun _ => ?_) (fun h => by cases h)
      refine AW_rg (tyOf_good _) [4, 5, 11] [11] (fun _ _ => trivial) fun K' hK' => ?_
      repeat (refine sxf_next fun K2 hK2 => ?_; simp [dNum, dS, pairA, assertA]; (repeat (refine ⟨by omega, ?_⟩)); refine hK2 _ ?_; clear hK2 K2)
      refine sxf_nil (hK' _ ?_)
      refine AW.st (by simp [dNum, dS, pairA, assertA]; rfl) ?_
      clear hK' K'
      refine AW_rg (tyOf_good _) [6] [11] (fun _ _ => trivial) fun K' hK' => ?_
      repeat (refine sxf_next fun K2 hK2 => ?_; simp [dNum, dS, pairA, assertA]; (repeat (refine ⟨by omega, ?_⟩)); refine hK2 _ ?_; clear hK2 K2)
      refine sxf_next fun K2 hK2 => ?_
      simp [dNum, dS, pairA, assertA]
      refine callK.data (hc) (by simp; rfl) (by first | exact D.leGo_refl _ | simp [takeMap, List.map_map, Function.comp_def, D.le, D.le.go, D.le_refl, D.leGo_refl, dNum, dS, pairA, assertA]) ?_
      refine hK2 _ ?_
      clear hK2 K2
      simp only [putd, upd_lst]
      repeat (refine sxf_next fun K2 hK2 => ?_; simp [dNum, dS, pairA, assertA]; (repeat (refine ⟨by omega, ?_⟩)); refine hK2 _ ?_; clear hK2 K2)
      refine sxf_nil (hK' _ ?_)
      refine AW.st (by simp [dNum, dS, pairA, assertA]; rfl) ?_
      clear hK' K'
      refine AW_ret ?_
      simp [D.le, D.le.go, takeMap, dNum, dS, pairA, assertA]
    | and l =>
      have hch : ∀ x ∈ l, PureC Tryd.prog G 54 [dE x, .ip [.fn (.func g1) c1], .ip [.fn (.func g2) c2]] (.v (.bool (!evE is was x))) := fun x hx => by
        have hc := ih x (by have := List.sizeOf_lt_of_mem hx; simp only [Ex.and.sizeOf_spec] at hsz; omega) (by have := bEs_mem hx; simp only [bE] at hb; omega)
        obtain ⟨tx, cx, hxx⟩ := dE_ifc x
        rw [hxx] at hc ⊢
        generalize evE is was x = r at hc ⊢
        refine PureC.of_body (tyOf_good _) Tryd.func54 rfl rfl (rs := [.tmp 4]) Tryd.results54 (by simp [Tryd.ntmps54]) fun X => ?_
        simp only [Tryd.ntmps54, List.map]
        refine AW_rg (tyOf_good _) [0, 1, 2] [] (fun _ _ => trivial) fun K' hK' => ?_
        repeat (refine sxf_next fun K2 hK2 => ?_; simp [dNum, dS, pairA, assertA]; (repeat (refine ⟨by omega, ?_⟩)); refine hK2 _ ?_; clear hK2 K2)
        refine sxf_nil (hK' _ ?_)
        refine AW.st (by simp [dNum, dS, pairA, assertA]; rfl) ?_
        clear hK' K'
        refine AW_rg (tyOf_good _) [4] [] (fun _ _ => trivial) fun K' hK' => ?_
        repeat (refine sxf_next fun K2 hK2 => ?_; simp [dNum, dS, pairA, assertA]; (repeat (refine ⟨by omega, ?_⟩)); refine hK2 _ ?_; clear hK2 K2)
        refine sxf_next fun K2 hK2 => ?_
        simp [dNum, dS, pairA, assertA]
        refine callK.data (hc) (by simp; rfl) (by first | exact D.leGo_refl _ | simp [takeMap, List.map_map, Function.comp_def, D.le, D.le.go, D.le_refl, D.leGo_refl, dNum, dS, pairA, assertA]) ?_
        refine hK2 _ ?_
        clear hK2 K2
        simp only [putd, upd_lst]
        repeat (refine sxf_next fun K2 hK2 => ?_; simp [dNum, dS, pairA, assertA]; (repeat (refine ⟨by omega, ?_⟩)); refine hK2 _ ?_; clear hK2 K2)
        refine sxf_nil (hK' _ ?_)
        refine AW.st (by simp [dNum, dS, pairA, assertA]; rfl) ?_
        clear hK' K'
        refine AW_ret ?_
        simp [D.le, D.le.go, takeMap, dNum, dS, pairA, assertA]
      have hln := bEs_len l
      have hcf := containsAnd_spec G none l 54 [.ip [.fn (.func g1) c1], .ip [.fn (.func g2) c2]] (fun x => !evE is was x) (by simp only [bE] at hb; omega) hch
      rw [dE, dEs_map, evE, evA_any]
      generalize l.any (fun x => !evE is was x) = r at hcf ⊢
      refine PureC.of_body (tyOf_good _) Tryd.func21 rfl rfl (rs := [.tmp 6]) Tryd.results21 (by simp [Tryd.ntmps21]) fun X => ?_
      simp only [Tryd.ntmps21, List.map]
      refine AW_rg (tyOf_good _) [0, 4, 5] [4, 5] (fun _ _ => trivial) fun K' hK' => ?_
      repeat (refine sxf_next fun K2 hK2 => ?_; simp [dNum, dS, pairA, assertA]; (repeat (refine ⟨by omega, ?_⟩)); refine hK2 _ ?_; clear hK2 K2)
      refine sxf_nil (hK' _ ?_)
      refine AW.st (by simp [dNum, dS, pairA, assertA]; rfl) ?_
      clear hK' K'
      refine AW.imp (Imp.freezeB 4 trivial) ?_
      refine AW.st (by simp [dNum, dS, pairA, assertA]; rfl) ?_
      refine AW.imp (Imp.freezeB 5 trivial) ?_
      refine AW.st (by simp [dNum, dS, pairA, assertA]; rfl) ?_
      refine AW_then fun K1 hK1 => ?_
      refine AW_rg (tyOf_good _) [4, 5, 14] [] (fun _ _ => trivial) fun K' hK' => ?_
      repeat (refine sxf_next fun K2 hK2 => ?_; simp [dNum, dS, pairA, assertA]; (repeat (refine ⟨by omega, ?_⟩)); refine hK2 _ ?_; clear hK2 K2)
      refine sxf_nil (hK' _ ?_)
      refine AW.st (by simp [dNum, dS, pairA, assertA]; rfl) ?_
      clear hK' K'
      refine AW_block ?_
      refine AW_rg (tyOf_good _) [4, 5, 14, 16, 17] [] (fun _ _ => trivial) fun K' hK' => ?_
      repeat (refine sxf_next fun K2 hK2 => ?_; simp [dNum, dS, pairA, assertA]; (repeat (refine ⟨by omega, ?_⟩)); refine hK2 _ ?_; clear hK2 K2)
      refine sxf_nil (hK' _ ?_)
      refine AW.st (by simp [dNum, dS, pairA, assertA]; rfl) ?_
      clear hK' K'
      refine AW_cond false rfl (fun h => by cases h) (fun _ => ?_)
      refine AW_rg (tyOf_good _) [4, 5, 14, 20, 21] [] (fun _ _ => trivial) fun K' hK' => ?_
      repeat (refine sxf_next fun K2 hK2 => ?_; simp [dNum, dS, pairA, assertA]; (repeat (refine ⟨by omega, ?_⟩)); refine hK2 _ ?_; clear hK2 K2)
      refine sxf_nil (hK' _ ?_)
      refine AW.st (by simp [dNum, dS, pairA, assertA]; rfl) ?_
      clear hK' K'
      refine AW_cond false rfl (fun h => by cases h) (fun _ => ?_)
      refine AW_rg (tyOf_good _) [4, 5, 14, 26, 27] [] (fun _ _ => trivial) fun K' hK' => ?_
      repeat (refine sxf_next fun K2 hK2 => ?_; simp [dNum, dS, pairA, assertA]; (repeat (refine ⟨by omega, ?_⟩)); refine hK2 _ ?_; clear hK2 K2)
      refine sxf_nil (hK' _ ?_)
      refine AW.st (by simp [dNum, dS, pairA, assertA]; rfl) ?_
      clear hK' K'
      refine AW_cond false rfl (fun h => by cases h) (fun _ => ?_)
      refine AW_rg (tyOf_good _) [4, 5, 14, 38, 39] [] (fun _ _ => trivial) fun K' hK' => ?_
      repeat (refine sxf_next fun K2 hK2 => ?_; simp [dNum, dS, pairA, assertA]; (repeat (refine ⟨by omega, ?_⟩)); refine hK2 _ ?_; clear hK2 K2)
      refine sxf_nil (hK' _ ?_)
      refine AW.st (by simp [dNum, dS, pairA, assertA]; rfl) ?_
      clear hK' K'
      refine AW_cond false rfl (fun h => by cases h) (fun _ => ?_)
      refine AW_rg (tyOf_good _) [4, 5, 14, 50, 51] [] (fun _ _ => trivial) fun K' hK' => ?_
      repeat (refine sxf_next fun K2 hK2 => ?_; simp [dNum, dS, pairA, assertA]; (repeat (refine ⟨by omega, ?_⟩)); refine hK2 _ ?_; clear hK2 K2)
      refine sxf_nil (hK' _ ?_)
      refine AW.st (by simp [dNum, dS, pairA, assertA]; rfl) ?_
      clear hK' K'
      refine AW_cond false rfl (fun h => by cases h) (fun _ => ?_)
      refine AW_rg (tyOf_good _) [4, 5, 14, 59, 60] [] (fun _ _ => trivial) fun K' hK' => ?_
      repeat (refine sxf_next fun K2 hK2 => ?_; simp [dNum, dS, pairA, assertA]; (repeat (refine ⟨by omega, ?_⟩)); refine hK2 _ ?_; clear hK2 K2)
      refine sxf_nil (hK' _ ?_)
      refine AW.st (by simp [dNum, dS, pairA, assertA]; rfl) ?_
      clear hK' K'
      refine AW_cond true rfl (fun _ => ?_) (fun h => by cases h)
      refine AW_rg (tyOf_good _) [4, 5, 12] [] (fun _ _ => trivial) fun K' hK' => ?_
      repeat (refine sxf_next fun K2 hK2 => ?_; simp [dNum, dS, pairA, assertA]; (repeat (refine ⟨by omega, ?_⟩)); refine hK2 _ ?_; clear hK2 K2)
      refine sxf_nil (hK' _ ?_)
      refine AW.st (by simp [dNum, dS, pairA, assertA]; rfl) ?_
      clear hK' K'
      refine AW_rg (tyOf_good _) [6] [] (fun _ _ => trivial) fun K' hK' => ?_
      repeat (refine sxf_next fun K2 hK2 => ?_; simp [dNum, dS, pairA, assertA]; (repeat (refine ⟨by omega, ?_⟩)); refine hK2 _ ?_; clear hK2 K2)
      refine sxf_next fun K2 hK2 => ?_
      simp [dNum, dS, pairA, assertA]
      refine callK.data (hcf) (by simp; rfl) (by first | exact D.leGo_refl _ | simp [takeMap, List.map_map, Function.comp_def, D.le, D.le.go, D.le_refl, D.leGo_refl, dNum, dS, pairA, assertA]) ?_
      refine hK2 _ ?_
      clear hK2 K2
      simp only [putd, upd_lst]
      repeat (refine sxf_next fun K2 hK2 => ?_; simp [dNum, dS, pairA, assertA]; (repeat (refine ⟨by omega, ?_⟩)); refine hK2 _ ?_; clear hK2 K2)
      refine sxf_nil (hK' _ ?_)
      refine AW.st (by simp [dNum, dS, pairA, assertA]; rfl) ?_
      clear hK' K'
      refine AW_ret ?_
      simp [D.le, D.le.go, takeMap, dNum, dS, pairA, assertA]
    | or l =>
      have hch : ∀ x ∈ l, PureC Tryd.prog G 56 [dE x, .ip [.fn (.func g1) c1], .ip [.fn (.func g2) c2]] (.v (.bool (evE is was x))) := fun x hx => by
        have hc := ih x (by have := List.sizeOf_lt_of_mem hx; simp only [Ex.or.sizeOf_spec] at hsz; omega) (by have := bEs_mem hx; simp only [bE] at hb; omega)
        obtain ⟨tx, cx, hxx⟩ := dE_ifc x
        rw [hxx] at hc ⊢
        generalize evE is was x = r at hc ⊢
        refine PureC.of_body (tyOf_good _) Tryd.func56 rfl rfl (rs := [.tmp 4]) Tryd.results56 (by simp [Tryd.ntmps56]) fun X => ?_
        simp only [Tryd.ntmps56, List.map]
        refine AW_rg (tyOf_good _) [0, 1, 2] [] (fun _ _ => trivial) fun K' hK' => ?_
        repeat (refine sxf_next fun K2 hK2 => ?_; simp [dNum, dS, pairA, assertA]; (repeat (refine ⟨by omega, ?_⟩)); refine hK2 _ ?_; clear hK2 K2)
        refine sxf_nil (hK' _ ?_)
        refine AW.st (by simp [dNum, dS, pairA, assertA]; rfl) ?_
        clear hK' K'
        refine AW_rg (tyOf_good _) [4] [] (fun _ _ => trivial) fun K' hK' => ?_
        repeat (refine sxf_next fun K2 hK2 => ?_; simp [dNum, dS, pairA, assertA]; (repeat (refine ⟨by omega, ?_⟩)); refine hK2 _ ?_; clear hK2 K2)
        refine sxf_next fun K2 hK2 => ?_
        simp [dNum, dS, pairA, assertA]
        refine callK.data (hc) (by simp; rfl) (by first | exact D.leGo_refl _ | simp [takeMap, List.map_map, Function.comp_def, D.le, D.le.go, D.le_refl, D.leGo_refl, dNum, dS, pairA, assertA]) ?_
        refine hK2 _ ?_
        clear hK2 K2
        simp only [putd, upd_lst]
        repeat (refine sxf_next fun K2 hK2 => ?_; simp [dNum, dS, pairA, assertA]; (repeat (refine ⟨by omega, ?_⟩)); refine hK2 _ ?_; clear hK2 K2)
        refine sxf_nil (hK' _ ?_)
        refine AW.st (by simp [dNum, dS, pairA, assertA]; rfl) ?_
        clear hK' K'
        refine AW_ret ?_
        simp [D.le, D.le.go, takeMap, dNum, dS, pairA, assertA]
      have hln := bEs_len l
      have hcf := containsOr_spec G none l 56 [.ip [.fn (.func g1) c1], .ip [.fn (.func g2) c2]] (fun x => evE is was x) (by simp only [bE] at hb; omega) hch
      rw [dE, dEs_map, evE, evO_any]
      generalize l.any (fun x => evE is was x) = r at hcf ⊢
      refine PureC.of_body (tyOf_good _) Tryd.func21 rfl rfl (rs := [.tmp 6]) Tryd.results21 (by simp [Tryd.ntmps21]) fun X => ?_
      simp only [Tryd.ntmps21, List.map]
      refine AW_rg (tyOf_good _) [0, 4, 5] [4, 5] (fun _ _ => trivial) fun K' hK' => ?_
      repeat (refine sxf_next fun K2 hK2 => ?_; simp [dNum, dS, pairA, assertA]; (repeat (refine ⟨by omega, ?_⟩)); refine hK2 _ ?_; clear hK2 K2)
      refine sxf_nil (hK' _ ?_)
      refine AW.st (by simp [dNum, dS, pairA, assertA]; rfl) ?_
      clear hK' K'
      refine AW.imp (Imp.freezeB 4 trivial) ?_
      refine AW.st (by simp [dNum, dS, pairA, assertA]; rfl) ?_
      refine AW.imp (Imp.freezeB 5 trivial) ?_
      refine AW.st (by simp [dNum, dS, pairA, assertA]; rfl) ?_
      refine AW_then fun K1 hK1 => ?_
      refine AW_rg (tyOf_good _) [4, 5, 14] [] (fun _ _ => trivial) fun K' hK' => ?_
      repeat (refine sxf_next fun K2 hK2 => ?_; simp [dNum, dS, pairA, assertA]; (repeat (refine ⟨by omega, ?_⟩)); refine hK2 _ ?_; clear hK2 K2)
      refine sxf_nil (hK' _ ?_)
      refine AW.st (by simp [dNum, dS, pairA, assertA]; rfl) ?_
      clear hK' K'
      refine AW_block ?_
      refine AW_rg (tyOf_good _) [4, 5, 14, 16, 17] [] (fun _ _ => trivial) fun K' hK' => ?_
      repeat (refine sxf_next fun K2 hK2 => ?_; simp [dNum, dS, pairA, assertA]; (repeat (refine ⟨by omega, ?_⟩)); refine hK2 _ ?_; clear hK2 K2)
      refine sxf_nil (hK' _ ?_)
      refine AW.st (by simp [dNum, dS, pairA, assertA]; rfl) ?_
      clear hK' K'
      refine AW_cond false rfl (fun h => by cases h) (fun _ => ?_)
      refine AW_rg (tyOf_good _) [4, 5, 14, 20, 21] [] (fun _ _ => trivial) fun K' hK' => ?_
      repeat (refine sxf_next fun K2 hK2 => ?_; simp [dNum, dS, pairA, assertA]; (repeat (refine ⟨by omega, ?_⟩)); refine hK2 _ ?_; clear hK2 K2)
      refine sxf_nil (hK' _ ?_)
      refine AW.st (by simp [dNum, dS, pairA, assertA]; rfl) ?_
      clear hK' K'
      refine AW_cond false rfl (fun h => by cases h) (fun _ => ?_)
      refine AW_rg (tyOf_good _) [4, 5, 14, 26, 27] [] (fun _ _ => trivial) fun K' hK' => ?_
      repeat (refine sxf_next fun K2 hK2 => ?_; simp [dNum, dS, pairA, assertA]; (repeat (refine ⟨by omega, ?_⟩)); refine hK2 _ ?_; clear hK2 K2)
      refine sxf_nil (hK' _ ?_)
      refine AW.st (by simp [dNum, dS, pairA, assertA]; rfl) ?_
      clear hK' K'
      refine AW_cond false rfl (fun h => by cases h) (fun _ => ?_)
      refine AW_rg (tyOf_good _) [4, 5, 14, 38, 39] [] (fun _ _ => trivial) fun K' hK' => ?_
      repeat (refine sxf_next fun K2 hK2 => ?_; simp [dNum, dS, pairA, assertA]; (repeat (refine ⟨by omega, ?_⟩)); refine hK2 _ ?_; clear hK2 K2)
      refine sxf_nil (hK' _ ?_)
      refine AW.st (by simp [dNum, dS, pairA, assertA]; rfl) ?_
      clear hK' K'
      refine AW_cond false rfl (fun h => by cases h) (fun _ => ?_)
      refine AW_rg (tyOf_good _) [4, 5, 14, 50, 51] [] (fun _ _ => trivial) fun K' hK' => ?_
      repeat (refine sxf_next fun K2 hK2 => ?_; simp [dNum, dS, pairA, assertA]; (repeat (refine ⟨by omega, ?_⟩)); refine hK2 _ ?_; clear hK2 K2)
      refine sxf_nil (hK' _ ?_)
      refine AW.st (by simp [dNum, dS, pairA, assertA]; rfl) ?_
      clear hK' K'
      refine AW_cond false rfl (fun h => by cases h) (fun _ => ?_)
      refine AW_rg (tyOf_good _) [4, 5, 14, 59, 60] [] (fun _ _ => trivial) fun K' hK' => ?_
      repeat (refine sxf_next fun K2 hK2 => ?_; simp [dNum, dS, pairA, assertA]; (repeat (refine ⟨by omega, ?_⟩)); refine hK2 _ ?_; clear hK2 K2)
      refine sxf_nil (hK' _ ?_)
      refine AW.st (by simp [dNum, dS, pairA, assertA]; rfl) ?_
      clear hK' K'
      refine AW_cond false rfl (fun h => by cases h) (fun _ => ?_)
      refine AW_rg (tyOf_good _) [4, 5, 66, 67] [] (fun _ _ => trivial) fun K' hK' => ?_
      repeat (refine sxf_next fun K2 hK2 => ?_; simp [dNum, dS, pairA, assertA]; (repeat (refine ⟨by omega, ?_⟩)); refine hK2 _ ?_; clear hK2 K2)
      refine sxf_nil (hK' _ ?_)
      refine AW.st (by simp [dNum, dS, pairA, assertA]; rfl) ?_
      clear hK' K'
      refine AW_cond true rfl (fun _ => ?_) (fun h => by cases h)
      refine AW_rg (tyOf_good _) [4, 5, 13] [] (fun _ _ => trivial) fun K' hK' => ?_
      repeat (refine sxf_next fun K2 hK2 => ?_; simp [dNum, dS, pairA, assertA]; (repeat (refine ⟨by omega, ?_⟩)); refine hK2 _ ?_; clear hK2 K2)
      refine sxf_nil (hK' _ ?_)
      refine AW.st (by simp [dNum, dS, pairA, assertA]; rfl) ?_
      clear hK' K'
      refine AW_rg (tyOf_good _) [6] [] (fun _ _ => trivial) fun K' hK' => ?_
      repeat (refine sxf_next fun K2 hK2 => ?_; simp [dNum, dS, pairA, assertA]; (repeat (refine ⟨by omega, ?_⟩)); refine hK2 _ ?_; clear hK2 K2)
      refine sxf_next fun K2 hK2 => ?_
      simp [dNum, dS, pairA, assertA]
      refine callK.data (hcf) (by simp; rfl) (by first | exact D.leGo_refl _ | simp [takeMap, List.map_map, Function.comp_def, D.le, D.le.go, D.le_refl, D.leGo_refl, dNum, dS, pairA, assertA]) ?_
      refine hK2 _ ?_
      clear hK2 K2
      simp only [putd, upd_lst]
      repeat (refine sxf_next fun K2 hK2 => ?_; simp [dNum, dS, pairA, assertA]; (repeat (refine ⟨by omega, ?_⟩)); refine hK2 _ ?_; clear hK2 K2)
      refine sxf_nil (hK' _ ?_)
      refine AW.st (by simp [dNum, dS, pairA, assertA]; rfl) ?_
      clear hK' K'
      refine AW_ret ?_
      simp [D.le, D.le.go, takeMap, dNum, dS, pairA, assertA]
theorem eval_spec (G : Glob) (g1 g2 : FuncId) (c1 c2 : List D) (is was : List UInt8 → Bool) (h1 : Tells G g1 c1 is) (h2 : Tells G g2 c2 was) (e : Ex) (hb : bE e ≤ 2^28) : PureC Tryd.prog G 21 [dE e, .fn (.func g1) c1, .fn (.func g2) c2] (.v (.bool (evE is was e))) := eval_at G g1 g2 c1 c2 is was h1 h2 _ e (Nat.le_refl _) hb
end Go.Proofs.YtfehigldhedkgaaDoor

/-
  What ExprBack and ExprTidy say.
-/
namespace Go.Proofs.YtfehigldhedkgaaDoor
set_option linter.unusedSimpArgs false
set_option linter.unusedVariables false
open Go.Av

def exAB : Ex := .and [.bit [97], .not (.bit [98])]
theorem exAB_wf : WfE exAB := by
  simp only [exAB, WfE, WfEs]
  exact ⟨by simp, by decide +kernel, by decide +kernel, trivial⟩
theorem exAB_text : wrE exAB 0 = [97, 32, 38, 32, 33, 98] := by simp [exAB, wrE, wrL, Lib.join, List.intercalate]
theorem exAB_parse : parseM [97, 32, 38, 32, 33, 98] = (some exAB, none) := by
  have := parse_back exAB_wf (by simp [exAB, dpI, dpA, dpE]) (by rw [exAB_text]; simp)
  rw [exAB_text] at this
  exact this
theorem la : (⟨#[97]⟩ : ByteArray) = bs [97] := rfl
theorem lb : (⟨#[98]⟩ : ByteArray) = bs [98] := rfl
theorem lab : (⟨#[97, 32, 38, 32, 33, 98]⟩ : ByteArray) = bs [97, 32, 38, 32, 33, 98] := rfl

set_option maxHeartbeats 16000000 in
theorem says_spec (G : Glob) : PureC Tryd.prog G 18 [] (.v (.bool true)) := by
  have hp := parse_spec G [97, 32, 38, 32, 33, 98] (by decide)
  rw [exAB_parse] at hp
  have hbe : bE exAB ≤ 2^28 := by simp [exAB, bE, bEs]
  have ha1 := among_spec G none [[97]]
  have ha2 := among_spec G (some false) []
  have ha3 := among_spec G none [[97], [98]]
  have he1 := eval_spec G _ _ _ _ _ _ (among_tells G none [[97]] (by decide)) (among_tells G (some false) [] (by decide)) exAB hbe
  have he2 := eval_spec G _ _ _ _ _ _ (among_tells G none [[97], [98]] (by decide)) (among_tells G (some false) [] (by decide)) exAB hbe
  have hr1 : evE (fun s => [[97]].any fun x => x == s) (fun s => ([] : List (List UInt8)).any fun x => x == s) exAB = true := by simp [exAB, evE, evA]
  have hr2 : evE (fun s => [[97], [98]].any fun x => x == s) (fun s => ([] : List (List UInt8)).any fun x => x == s) exAB = false := by simp [exAB, evE, evA]
  rw [hr1] at he1
  rw [hr2] at he2
  have htx := etext_spec G exAB (by have := wr_len exAB; omega)
  rw [exAB_text] at htx
  obtain ⟨t, c, hx⟩ := dE_ifc exAB
  simp only [dOE] at hp
  rw [hx] at hp he1 he2 htx
  simp only [List.map_cons, List.map_nil] at ha1 ha2 ha3 he1 he2
  refine PureC.of_body (tyOf_good _) Tryd.func18 rfl rfl (rs := [.tmp 0]) Tryd.results18 (by simp [Tryd.ntmps18]) fun X => ?_
  simp only [Tryd.ntmps18, List.map]
  refine AW_rg (tyOf_good _) [] [] (fun _ _ => trivial) fun K' hK' => ?_
  repeat (refine sxf_next fun K2 hK2 => ?_; simp [dNum, dS]; (repeat (refine ⟨by omega, ?_⟩)); refine hK2 _ ?_; clear hK2 K2)
  refine sxf_nil (hK' _ ?_)
  refine AW.st (by simp [dNum, dS]; rfl) ?_
  clear hK' K'
  refine AW_rg (tyOf_good _) [1, 2] [] (fun _ _ => trivial) fun K' hK' => ?_
  repeat (refine sxf_next fun K2 hK2 => ?_; simp [dNum, dS, dErr, lab]; (repeat (refine ⟨by omega, ?_⟩)); refine hK2 _ ?_; clear hK2 K2)
  refine sxf_next fun K2 hK2 => ?_
  simp [dNum, dS, dErr, lab]
  refine callK.data (hp) (by simp; rfl) (by first | exact D.leGo_refl _ | simp [takeMap, List.map_map, Function.comp_def, D.le, D.le.go, D.le_refl, D.leGo_refl, dNum, dS, dErr, lab]) ?_
  refine hK2 _ ?_
  clear hK2 K2
  simp only [putd, upd_lst]
  repeat (refine sxf_next fun K2 hK2 => ?_; simp [dNum, dS, dErr, lab]; (repeat (refine ⟨by omega, ?_⟩)); refine hK2 _ ?_; clear hK2 K2)
  refine sxf_nil (hK' _ ?_)
  refine AW.st (by simp [dNum, dS, dErr, lab]; rfl) ?_
  clear hK' K'
  refine AW_rg (tyOf_good _) [0] [] (fun _ _ => trivial) fun K' hK' => ?_
  repeat (refine sxf_next fun K2 hK2 => ?_; simp [dNum, dS, dAm, la, lb, lab, binS, bs_list]; (repeat (refine ⟨by omega, ?_⟩)); refine hK2 _ ?_; clear hK2 K2)
  refine sxf_next fun K2 hK2 => ?_
  simp [dNum, dS, dAm, la, lb, lab, binS, bs_list]
  refine callK.frz 15 (by first | rfl | (simp [dNum, dS, dAm, la, lb, lab, binS, bs_list]; rfl)) trivial ?_
  simp [dNum, dS, dAm, la, lb, lab, binS, bs_list]
  refine callK.data (ha1) (by simp; rfl) (by first | exact D.leGo_refl _ | simp [takeMap, List.map_map, Function.comp_def, D.le, D.le.go, D.le_refl, D.leGo_refl, dNum, dS, dAm, la, lb, lab, binS, bs_list]) ?_
  refine hK2 _ ?_
  clear hK2 K2
  simp only [putd, upd_lst]
  repeat (refine sxf_next fun K2 hK2 => ?_; simp [dNum, dS, dAm, la, lb, lab, binS, bs_list]; (repeat (refine ⟨by omega, ?_⟩)); refine hK2 _ ?_; clear hK2 K2)
  refine sxf_next fun K2 hK2 => ?_
  simp [dNum, dS, dAm, la, lb, lab, binS, bs_list]
  refine callK.data (ha2) (by simp; rfl) (by first | exact D.leGo_refl _ | simp [takeMap, List.map_map, Function.comp_def, D.le, D.le.go, D.le_refl, D.leGo_refl, dNum, dS, dAm, la, lb, lab, binS, bs_list]) ?_
  refine hK2 _ ?_
  clear hK2 K2
  simp only [putd, upd_lst]
  repeat (refine sxf_next fun K2 hK2 => ?_; simp [dNum, dS, dAm, la, lb, lab, binS, bs_list]; (repeat (refine ⟨by omega, ?_⟩)); refine hK2 _ ?_; clear hK2 K2)
  refine sxf_next fun K2 hK2 => ?_
  simp [dNum, dS, dAm, la, lb, lab, binS, bs_list]
  refine callK.data (he1) (by simp; rfl) (by first | exact D.leGo_refl _ | simp [takeMap, List.map_map, Function.comp_def, D.le, D.le.go, D.le_refl, D.leGo_refl, dNum, dS, dAm, la, lb, lab, binS, bs_list]) ?_
  refine hK2 _ ?_
  clear hK2 K2
  simp only [putd, upd_lst]
  repeat (refine sxf_next fun K2 hK2 => ?_; simp [dNum, dS, dAm, la, lb, lab, binS, bs_list]; (repeat (refine ⟨by omega, ?_⟩)); refine hK2 _ ?_; clear hK2 K2)
  refine sxf_next fun K2 hK2 => ?_
  simp [dNum, dS, dAm, la, lb, lab, binS, bs_list]
  refine callK.frz 22 (by first | rfl | (simp [dNum, dS, dAm, la, lb, lab, binS, bs_list]; rfl)) trivial ?_
  simp [dNum, dS, dAm, la, lb, lab, binS, bs_list]
  refine callK.data (ha3) (by simp; rfl) (by first | exact D.leGo_refl _ | simp [takeMap, List.map_map, Function.comp_def, D.le, D.le.go, D.le_refl, D.leGo_refl, dNum, dS, dAm, la, lb, lab, binS, bs_list]) ?_
  refine hK2 _ ?_
  clear hK2 K2
  simp only [putd, upd_lst]
  repeat (refine sxf_next fun K2 hK2 => ?_; simp [dNum, dS, dAm, la, lb, lab, binS, bs_list]; (repeat (refine ⟨by omega, ?_⟩)); refine hK2 _ ?_; clear hK2 K2)
  refine sxf_next fun K2 hK2 => ?_
  simp [dNum, dS, dAm, la, lb, lab, binS, bs_list]
  refine callK.data (ha2) (by simp; rfl) (by first | exact D.leGo_refl _ | simp [takeMap, List.map_map, Function.comp_def, D.le, D.le.go, D.le_refl, D.leGo_refl, dNum, dS, dAm, la, lb, lab, binS, bs_list]) ?_
  refine hK2 _ ?_
  clear hK2 K2
  simp only [putd, upd_lst]
  repeat (refine sxf_next fun K2 hK2 => ?_; simp [dNum, dS, dAm, la, lb, lab, binS, bs_list]; (repeat (refine ⟨by omega, ?_⟩)); refine hK2 _ ?_; clear hK2 K2)
  refine sxf_next fun K2 hK2 => ?_
  simp [dNum, dS, dAm, la, lb, lab, binS, bs_list]
  refine callK.data (he2) (by simp; rfl) (by first | exact D.leGo_refl _ | simp [takeMap, List.map_map, Function.comp_def, D.le, D.le.go, D.le_refl, D.leGo_refl, dNum, dS, dAm, la, lb, lab, binS, bs_list]) ?_
  refine hK2 _ ?_
  clear hK2 K2
  simp only [putd, upd_lst]
  repeat (refine sxf_next fun K2 hK2 => ?_; simp [dNum, dS, dAm, la, lb, lab, binS, bs_list]; (repeat (refine ⟨by omega, ?_⟩)); refine hK2 _ ?_; clear hK2 K2)
  refine sxf_next fun K2 hK2 => ?_
  simp [dNum, dS, dAm, la, lb, lab, binS, bs_list]
  refine callK.data (htx) (by simp; rfl) (by first | exact D.leGo_refl _ | simp [takeMap, List.map_map, Function.comp_def, D.le, D.le.go, D.le_refl, D.leGo_refl, dNum, dS, dAm, la, lb, lab, binS, bs_list]) ?_
  refine hK2 _ ?_
  clear hK2 K2
  simp only [putd, upd_lst]
  repeat (refine sxf_next fun K2 hK2 => ?_; simp [dNum, dS, dAm, la, lb, lab, binS, bs_list]; (repeat (refine ⟨by omega, ?_⟩)); refine hK2 _ ?_; clear hK2 K2)
  refine sxf_nil (hK' _ ?_)
  refine AW.st (by simp [dNum, dS, dAm, la, lb, lab, binS, bs_list]; rfl) ?_
  clear hK' K'
  refine AW_ret ?_
  simp [D.le, D.le.go, takeMap, dNum, dS]
theorem tells2 (G : Glob) (is was : List (List UInt8)) (h1 : is.length ≤ 20) (h2 : was.length ≤ 20) (e : Ex) (hb : bE e ≤ 2^28) : PureC Tryd.prog G 21 [dE e, dAm none is, dAm none was] (.v (.bool (evE (fun s => is.any fun x => x == s) (fun s => was.any fun x => x == s) e))) :=
  eval_spec G _ _ _ _ _ _ (among_tells G none is (by omega)) (among_tells G none was (by omega)) e hb

end Go.Proofs.YtfehigldhedkgaaDoor

/-
  What ExprHangs says: an expression hangs on its names alone.
-/
namespace Go.Proofs.YtfehigldhedkgaaDoor
set_option linter.unusedSimpArgs false
set_option linter.unusedVariables false
open Go.Av

/-! ### Plain -/
theorem mem_one1 {s x : List UInt8} : x ∈ one1 s ↔ x = s ∧ s ≠ [] := by
  unfold one1
  split
  · rename_i h; simp [h]
  · rename_i h; simp [h]
theorem mem_nmsL {all : Bool} {s : List UInt8} : ∀ {l : List Ex}, s ∈ nmsL all l ↔ ∃ e ∈ l, s ∈ nmsE all e
  | [] => by simp [nmsL]
  | e :: l => by simp [nmsL, mem_nmsL (l := l)]
theorem edges_names : ∀ (n : Nat) (e : Ex), SizeOf.sizeOf e ≤ n → ∀ s, s ∈ nmsE false e → s ∈ nmsE true e
  | 0, e, hn => by cases e <;> simp at hn
  | n + 1, e, hn => by
    intro s hs
    cases e with
    | not x => exact edges_names n x (by simp at hn; omega) s hs
    | and l =>
      simp only [nmsE] at hs ⊢
      obtain ⟨x, hx, h⟩ := mem_nmsL.1 hs
      exact mem_nmsL.2 ⟨x, hx, edges_names n x (by have := List.sizeOf_lt_of_mem hx; simp only [Ex.and.sizeOf_spec] at hn; omega) s h⟩
    | or l =>
      simp only [nmsE] at hs ⊢
      obtain ⟨x, hx, h⟩ := mem_nmsL.1 hs
      exact mem_nmsL.2 ⟨x, hx, edges_names n x (by have := List.sizeOf_lt_of_mem hx; simp only [Ex.or.sizeOf_spec] at hn; omega) s h⟩
    | cst b => exact hs
    | bit s' => simp only [nmsE, nmE] at hs; simp [one1] at hs
    | rise s' => exact hs
    | fall s' => exact hs
theorem ev_names (is was is' was' : List UInt8 → Bool) : ∀ (n : Nat) (e : Ex), SizeOf.sizeOf e ≤ n → WfE e → (∀ s ∈ nmsE true e, is s = is' s) → (∀ s ∈ nmsE false e, was s = was' s) → evE is was e = evE is' was' e
  | 0, e, hn => by cases e <;> simp at hn
  | n + 1, e, hn => by
    intro hw h1 h2
    have many : ∀ l : List Ex, (∀ x ∈ l, SizeOf.sizeOf x ≤ n ∧ WfE x) → (∀ s ∈ nmsL true l, is s = is' s) → (∀ s ∈ nmsL false l, was s = was' s) → evA is was l = evA is' was' l ∧ evO is was l = evO is' was' l := by
      intro l
      induction l with
      | nil => intro _ _ _; exact ⟨rfl, rfl⟩
      | cons x l ih =>
        intro h a b
        have hx := ev_names is was is' was' n x (h x (by simp)).1 (h x (by simp)).2 (fun s hs => a s (by simp [nmsL, hs])) (fun s hs => b s (by simp [nmsL, hs]))
        obtain ⟨p, q⟩ := ih (fun y hy => h y (by simp [hy])) (fun s hs => a s (by simp [nmsL, hs])) (fun s hs => b s (by simp [nmsL, hs]))
        simp only [evA, evO, hx, p, q, and_self]
    have hne : ∀ s : List UInt8, nameF s = true → s ≠ [] := fun s h => (name_facts h).1
    cases e with
    | cst b => rfl
    | bit s => exact h1 s (by simp only [nmsE]; exact mem_one1.2 ⟨rfl, hne s hw⟩)
    | rise s =>
      have a := h1 s (by simp only [nmsE]; exact mem_one1.2 ⟨rfl, hne s hw⟩)
      have b := h2 s (by simp only [nmsE]; exact mem_one1.2 ⟨rfl, hne s hw⟩)
      simp only [evE, a, b]
    | fall s =>
      have a := h1 s (by simp only [nmsE]; exact mem_one1.2 ⟨rfl, hne s hw⟩)
      have b := h2 s (by simp only [nmsE]; exact mem_one1.2 ⟨rfl, hne s hw⟩)
      simp only [evE, a, b]
    | not x =>
      have := ev_names is was is' was' n x (by simp at hn; omega) hw h1 h2
      simp only [evE, this]
    | and l => exact (many l (fun x hx => ⟨by have := List.sizeOf_lt_of_mem hx; simp only [Ex.and.sizeOf_spec] at hn; omega, (WfEs_iff _).1 hw.2 x hx⟩) h1 h2).1
    | or l => exact (many l (fun x hx => ⟨by have := List.sizeOf_lt_of_mem hx; simp only [Ex.or.sizeOf_spec] at hn; omega, (WfEs_iff _).1 hw.2 x hx⟩) h1 h2).2
theorem mem_compactUpTo (d : Array (List UInt8)) : ∀ (m : Nat), m ≤ d.size → ∀ j, j < m → d[j]! ∈ Lib.compactUpTo d m
  | 0, _, j, h => by omega
  | m + 1, hm, j, hj => by
    rw [Lib.compactUpTo_succ]
    by_cases hjm : j < m
    · exact List.mem_append_left _ (mem_compactUpTo d m (by omega) j hjm)
    · obtain rfl : j = m := by omega
      by_cases hk : Lib.keeps d j = true
      · exact List.mem_append_right _ (by simp [hk])
      · have hj0 : j ≠ 0 := by rintro rfl; exact hk (Lib.keeps_lt_one d 0 (by omega))
        have he : d[j]! = d[j - 1]! := by
          unfold Lib.keeps at hk
          simp [hj0] at hk
          first | exact hk | exact hk.symm
        rw [he]
        exact List.mem_append_left _ (mem_compactUpTo d j (by omega) (j - 1) (by omega))
theorem compactUpTo_mem (d : Array (List UInt8)) : ∀ (m : Nat), m ≤ d.size → ∀ x ∈ Lib.compactUpTo d m, ∃ j, j < m ∧ x = d[j]!
  | 0, _, x, h => by simp [Lib.compactUpTo] at h
  | m + 1, hm, x, h => by
    rw [Lib.compactUpTo_succ] at h
    rcases List.mem_append.1 h with h | h
    · obtain ⟨j, hj, e⟩ := compactUpTo_mem d m (by omega) x h
      exact ⟨j, by omega, e⟩
    · split at h
      · simp at h; exact ⟨m, by omega, h⟩
      · simp at h
theorem mem_namesE {all : Bool} {e : Ex} {s : List UInt8} : s ∈ namesE all e ↔ s ∈ nmsE all e := by
  unfold namesE
  have h0 : ∀ l : List (List UInt8), s ∈ Lib.compact l ↔ s ∈ l := by
    intro l
    unfold Lib.compact
    constructor
    · intro h
      obtain ⟨j, hj, rfl⟩ := compactUpTo_mem l.toArray l.length (by simp) s h
      rw [getElem!_pos l.toArray j (by simpa using hj)]
      simp
    · intro h
      obtain ⟨j, hj, rfl⟩ := List.mem_iff_getElem.1 h
      have := mem_compactUpTo l.toArray l.length (by simp) j hj
      rw [getElem!_pos l.toArray j (by simpa using hj)] at this
      simpa using this
  rw [h0]
  unfold sortT
  exact List.mem_mergeSort
theorem any_iff {l : List (List UInt8)} {s : List UInt8} : (l.any fun x => x == s) = true ↔ s ∈ l := by
  rw [List.any_eq_true]
  constructor
  · rintro ⟨x, hx, h⟩
    obtain rfl : x = s := by simpa using h
    exact hx
  · intro h
    exact ⟨s, h, by simp⟩
/-- What is added to a list of those that are, without what is named. -/
def addN (nm l : List (List UInt8)) : List (List UInt8) := l.filter fun s => !(nm.any fun x => x == s)
theorem addN_take {nm l : List (List UInt8)} {i : Nat} (hi : i < l.length) : addN nm (l.take (i + 1)) = addN nm (l.take i) ++ (if (nm.any fun x => x == l[i]) then [] else [l[i]]) := by
  unfold addN
  rw [List.take_succ_eq_append_getElem hi, List.filter_append]
  congr 1
  simp only [List.filter_cons, List.filter_nil]
  cases h : (nm.any fun x => x == l[i]) <;> simp
theorem addN_any {nm l is : List (List UInt8)} {s : List UInt8} (hs : s ∈ nm) : ((is ++ addN nm l).any fun x => x == s) = is.any fun x => x == s := by
  rw [Bool.eq_iff_iff, any_iff, any_iff, List.mem_append]
  constructor
  · rintro (h | h)
    · exact h
    · exfalso
      unfold addN at h
      obtain ⟨_, h2⟩ := List.mem_filter.1 h
      have := any_iff.2 hs
      rw [this] at h2
      cases h2
  · exact .inl
theorem addN_len (nm l : List (List UInt8)) (i : Nat) : (addN nm (l.take i)).length ≤ l.length := by
  unfold addN
  have h1 := List.length_filter_le (fun s => !(nm.any fun x => x == s)) (l.take i)
  have h2 : (l.take i).length ≤ l.length := by rw [List.length_take]; omega
  omega

set_option maxHeartbeats 32000000 in
theorem ehangs_spec (G : Glob) (t : List UInt8) (is was more : List (List UInt8)) : PureC Tryd.prog G 8 [dS t, .sl none (is.map fun s => [dS s]), .sl none (was.map fun s => [dS s]), .sl none (more.map fun s => [dS s])] (.v (.bool true)) := by
  by_cases h1 : 900 < t.length
  · have h1' : (900 : Int) < (t.length : Int) := by omega
    refine PureC.of_body (tyOf_good _) Tryd.func8 rfl rfl (rs := [.tmp 8]) Tryd.results8 (by simp [Tryd.ntmps8]) fun X => ?_
    simp only [Tryd.ntmps8, List.map]
    refine AW_rg (tyOf_good _) [0, 1, 2, 3] [] (fun _ _ => trivial) fun K' hK' => ?_
    repeat (refine sxf_next fun K2 hK2 => ?_; simp [dNum, dS]; (repeat (refine ⟨by omega, ?_⟩)); refine hK2 _ ?_; clear hK2 K2)
    refine sxf_nil (hK' _ ?_)
    refine AW.st (by simp [dNum, dS]; rfl) ?_
    clear hK' K'
    refine AW_then fun K1 hK1 => ?_
    refine AW_rg (tyOf_good _) [0, 1, 2, 3, 34] [] (fun _ _ => trivial) fun K' hK' => ?_
    repeat (refine sxf_next fun K2 hK2 => ?_; simp [dNum, dS, bs_size, h1, h1']; (repeat (refine ⟨by omega, ?_⟩)); refine hK2 _ ?_; clear hK2 K2)
    refine sxf_nil (hK' _ ?_)
    refine AW.st (by simp [dNum, dS, bs_size, h1, h1']; rfl) ?_
    clear hK' K'
    refine AW_cond true rfl (fun _ => ?_) (fun h => by cases h)
    refine AW_rg (tyOf_good _) [8] [] (fun _ _ => trivial) fun K' hK' => ?_
    repeat (refine sxf_next fun K2 hK2 => ?_; simp [dNum, dS]; (repeat (refine ⟨by omega, ?_⟩)); refine hK2 _ ?_; clear hK2 K2)
    refine sxf_nil (hK' _ ?_)
    refine AW.st (by simp [dNum, dS]; rfl) ?_
    clear hK' K'
    refine AW_ret ?_
    simp [D.le, D.le.go, takeMap, dNum, dS]
  have h1' : ¬ (900 : Int) < (t.length : Int) := by omega
  by_cases h2 : 20 < is.length
  · have h2' : (20 : Int) < (is.length : Int) := by omega
    refine PureC.of_body (tyOf_good _) Tryd.func8 rfl rfl (rs := [.tmp 8]) Tryd.results8 (by simp [Tryd.ntmps8]) fun X => ?_
    simp only [Tryd.ntmps8, List.map]
    refine AW_rg (tyOf_good _) [0, 1, 2, 3] [] (fun _ _ => trivial) fun K' hK' => ?_
    repeat (refine sxf_next fun K2 hK2 => ?_; simp [dNum, dS]; (repeat (refine ⟨by omega, ?_⟩)); refine hK2 _ ?_; clear hK2 K2)
    refine sxf_nil (hK' _ ?_)
    refine AW.st (by simp [dNum, dS]; rfl) ?_
    clear hK' K'
    refine AW_then fun K1 hK1 => ?_
    refine AW_rg (tyOf_good _) [0, 1, 2, 3, 34] [] (fun _ _ => trivial) fun K' hK' => ?_
    repeat (refine sxf_next fun K2 hK2 => ?_; simp [dNum, dS, bs_size, h1, h1', h2, h2']; (repeat (refine ⟨by omega, ?_⟩)); refine hK2 _ ?_; clear hK2 K2)
    refine sxf_nil (hK' _ ?_)
    refine AW.st (by simp [dNum, dS, bs_size, h1, h1', h2, h2']; rfl) ?_
    clear hK' K'
    refine AW_cond true rfl (fun _ => ?_) (fun h => by cases h)
    refine AW_rg (tyOf_good _) [8] [] (fun _ _ => trivial) fun K' hK' => ?_
    repeat (refine sxf_next fun K2 hK2 => ?_; simp [dNum, dS]; (repeat (refine ⟨by omega, ?_⟩)); refine hK2 _ ?_; clear hK2 K2)
    refine sxf_nil (hK' _ ?_)
    refine AW.st (by simp [dNum, dS]; rfl) ?_
    clear hK' K'
    refine AW_ret ?_
    simp [D.le, D.le.go, takeMap, dNum, dS]
  have h2' : ¬ (20 : Int) < (is.length : Int) := by omega
  by_cases h3 : 20 < was.length
  · have h3' : (20 : Int) < (was.length : Int) := by omega
    refine PureC.of_body (tyOf_good _) Tryd.func8 rfl rfl (rs := [.tmp 8]) Tryd.results8 (by simp [Tryd.ntmps8]) fun X => ?_
    simp only [Tryd.ntmps8, List.map]
    refine AW_rg (tyOf_good _) [0, 1, 2, 3] [] (fun _ _ => trivial) fun K' hK' => ?_
    repeat (refine sxf_next fun K2 hK2 => ?_; simp [dNum, dS]; (repeat (refine ⟨by omega, ?_⟩)); refine hK2 _ ?_; clear hK2 K2)
    refine sxf_nil (hK' _ ?_)
    refine AW.st (by simp [dNum, dS]; rfl) ?_
    clear hK' K'
    refine AW_then fun K1 hK1 => ?_
    refine AW_rg (tyOf_good _) [0, 1, 2, 3, 34] [] (fun _ _ => trivial) fun K' hK' => ?_
    repeat (refine sxf_next fun K2 hK2 => ?_; simp [dNum, dS, bs_size, h1, h1', h2, h2', h3, h3']; (repeat (refine ⟨by omega, ?_⟩)); refine hK2 _ ?_; clear hK2 K2)
    refine sxf_nil (hK' _ ?_)
    refine AW.st (by simp [dNum, dS, bs_size, h1, h1', h2, h2', h3, h3']; rfl) ?_
    clear hK' K'
    refine AW_cond true rfl (fun _ => ?_) (fun h => by cases h)
    refine AW_rg (tyOf_good _) [8] [] (fun _ _ => trivial) fun K' hK' => ?_
    repeat (refine sxf_next fun K2 hK2 => ?_; simp [dNum, dS]; (repeat (refine ⟨by omega, ?_⟩)); refine hK2 _ ?_; clear hK2 K2)
    refine sxf_nil (hK' _ ?_)
    refine AW.st (by simp [dNum, dS]; rfl) ?_
    clear hK' K'
    refine AW_ret ?_
    simp [D.le, D.le.go, takeMap, dNum, dS]
  have h3' : ¬ (20 : Int) < (was.length : Int) := by omega
  by_cases h4 : 20 < more.length
  · have h4' : (20 : Int) < (more.length : Int) := by omega
    refine PureC.of_body (tyOf_good _) Tryd.func8 rfl rfl (rs := [.tmp 8]) Tryd.results8 (by simp [Tryd.ntmps8]) fun X => ?_
    simp only [Tryd.ntmps8, List.map]
    refine AW_rg (tyOf_good _) [0, 1, 2, 3] [] (fun _ _ => trivial) fun K' hK' => ?_
    repeat (refine sxf_next fun K2 hK2 => ?_; simp [dNum, dS]; (repeat (refine ⟨by omega, ?_⟩)); refine hK2 _ ?_; clear hK2 K2)
    refine sxf_nil (hK' _ ?_)
    refine AW.st (by simp [dNum, dS]; rfl) ?_
    clear hK' K'
    refine AW_then fun K1 hK1 => ?_
    refine AW_rg (tyOf_good _) [0, 1, 2, 3, 34] [] (fun _ _ => trivial) fun K' hK' => ?_
    repeat (refine sxf_next fun K2 hK2 => ?_; simp [dNum, dS, bs_size, h1, h1', h2, h2', h3, h3', h4, h4']; (repeat (refine ⟨by omega, ?_⟩)); refine hK2 _ ?_; clear hK2 K2)
    refine sxf_nil (hK' _ ?_)
    refine AW.st (by simp [dNum, dS, bs_size, h1, h1', h2, h2', h3, h3', h4, h4']; rfl) ?_
    clear hK' K'
    refine AW_cond true rfl (fun _ => ?_) (fun h => by cases h)
    refine AW_rg (tyOf_good _) [8] [] (fun _ _ => trivial) fun K' hK' => ?_
    repeat (refine sxf_next fun K2 hK2 => ?_; simp [dNum, dS]; (repeat (refine ⟨by omega, ?_⟩)); refine hK2 _ ?_; clear hK2 K2)
    refine sxf_nil (hK' _ ?_)
    refine AW.st (by simp [dNum, dS]; rfl) ?_
    clear hK' K'
    refine AW_ret ?_
    simp [D.le, D.le.go, takeMap, dNum, dS]
  have h4' : ¬ (20 : Int) < (more.length : Int) := by omega
  have hsay := says_spec G
  have hp := parse_spec G t (by omega)
  cases hpm : parseM t with
  | mk ox oe =>
  rw [hpm] at hp
  cases oe with
  | some e =>
    obtain ⟨c, p⟩ := e
    have hn : ox = none := by
      have := parse_none (t := t) (e := (c, p)) (by rw [hpm])
      rw [hpm] at this
      exact this
    subst hn
    have hne : ∃ te ce, dErr (some (c, p)) = .ifc te ce := by cases p <;> exact ⟨_, _, rfl⟩
    obtain ⟨te, ce, hee⟩ := hne
    simp only [dOE] at hp
    rw [hee] at hp
    refine PureC.of_body (tyOf_good _) Tryd.func8 rfl rfl (rs := [.tmp 8]) Tryd.results8 (by simp [Tryd.ntmps8]) fun X => ?_
    simp only [Tryd.ntmps8, List.map]
    refine AW_rg (tyOf_good _) [0, 1, 2, 3] [] (fun _ _ => trivial) fun K' hK' => ?_
    repeat (refine sxf_next fun K2 hK2 => ?_; simp [dNum, dS]; (repeat (refine ⟨by omega, ?_⟩)); refine hK2 _ ?_; clear hK2 K2)
    refine sxf_nil (hK' _ ?_)
    refine AW.st (by simp [dNum, dS]; rfl) ?_
    clear hK' K'
    refine AW_then fun K1 hK1 => ?_
    refine AW_rg (tyOf_good _) [0, 1, 2, 3, 34] [] (fun _ _ => trivial) fun K' hK' => ?_
    repeat (refine sxf_next fun K2 hK2 => ?_; simp [dNum, dS, bs_size, h1, h1', h2, h2', h3, h3', h4, h4']; (repeat (refine ⟨by omega, ?_⟩)); refine hK2 _ ?_; clear hK2 K2)
    refine sxf_nil (hK' _ ?_)
    refine AW.st (by simp [dNum, dS, bs_size, h1, h1', h2, h2', h3, h3', h4, h4']; rfl) ?_
    clear hK' K'
    refine AW_cond false rfl (fun h => by cases h) (fun _ => ?_)
    refine AW_skip (hK1 _ ?_)
    refine AW_rg (tyOf_good _) [1, 2, 3, 9, 10] [] (fun _ _ => trivial) fun K' hK' => ?_
    repeat (refine sxf_next fun K2 hK2 => ?_; simp [dNum, dS]; (repeat (refine ⟨by omega, ?_⟩)); refine hK2 _ ?_; clear hK2 K2)
    refine sxf_next fun K2 hK2 => ?_
    simp [dNum, dS]
    refine callK.data (hp) (by simp; rfl) (by first | exact D.leGo_refl _ | simp [takeMap, List.map_map, Function.comp_def, D.le, D.le.go, D.le_refl, D.leGo_refl, dNum, dS]) ?_
    refine hK2 _ ?_
    clear hK2 K2
    simp only [putd, upd_lst]
    repeat (refine sxf_next fun K2 hK2 => ?_; simp [dNum, dS]; (repeat (refine ⟨by omega, ?_⟩)); refine hK2 _ ?_; clear hK2 K2)
    refine sxf_nil (hK' _ ?_)
    refine AW.st (by simp [dNum, dS]; rfl) ?_
    clear hK' K'
    refine AW_then fun K2 hK2 => ?_
    refine AW_rg (tyOf_good _) [1, 2, 3, 9, 45] [] (fun _ _ => trivial) fun K' hK' => ?_
    repeat (refine sxf_next fun K2 hK2 => ?_; simp [dNum, dS]; (repeat (refine ⟨by omega, ?_⟩)); refine hK2 _ ?_; clear hK2 K2)
    refine sxf_next fun K2 hK2 => ?_
    simp [dNum, dS]
    refine callK.data (hsay) (by simp; rfl) (by first | exact D.leGo_refl _ | simp [takeMap, List.map_map, Function.comp_def, D.le, D.le.go, D.le_refl, D.leGo_refl, dNum, dS]) ?_
    refine hK2 _ ?_
    clear hK2 K2
    simp only [putd, upd_lst]
    repeat (refine sxf_next fun K2 hK2 => ?_; simp [dNum, dS]; (repeat (refine ⟨by omega, ?_⟩)); refine hK2 _ ?_; clear hK2 K2)
    refine sxf_nil (hK' _ ?_)
    refine AW.st (by simp [dNum, dS]; rfl) ?_
    clear hK' K'
    refine AW_cond true rfl (fun _ => ?_) (fun h => by cases h)
    refine AW_rg (tyOf_good _) [8] [] (fun _ _ => trivial) fun K' hK' => ?_
    repeat (refine sxf_next fun K2 hK2 => ?_; simp [dNum, dS]; (repeat (refine ⟨by omega, ?_⟩)); refine hK2 _ ?_; clear hK2 K2)
    refine sxf_next fun K2 hK2 => ?_
    simp [dNum, dS]
    refine callK.data (hsay) (by simp; rfl) (by first | exact D.leGo_refl _ | simp [takeMap, List.map_map, Function.comp_def, D.le, D.le.go, D.le_refl, D.leGo_refl, dNum, dS]) ?_
    refine hK2 _ ?_
    clear hK2 K2
    simp only [putd, upd_lst]
    repeat (refine sxf_next fun K2 hK2 => ?_; simp [dNum, dS]; (repeat (refine ⟨by omega, ?_⟩)); refine hK2 _ ?_; clear hK2 K2)
    refine sxf_nil (hK' _ ?_)
    refine AW.st (by simp [dNum, dS]; rfl) ?_
    clear hK' K'
    refine AW_ret ?_
    simp [D.le, D.le.go, takeMap, dNum, dS]
  | none =>
    obtain ⟨x, hx⟩ := parse_some (t := t) (by rw [hpm])
    have hb := parse_b hx
    obtain ⟨hwf, hdp⟩ := parse_wf hx
    rw [hpm] at hx
    dsimp only at hx
    subst hx
    have hnm := namesE_spec G x (by omega)
    have hed := edgesE_spec G x (by omega)
    have hl1 : (namesE true x).length ≤ 2^28 := by
      have h1 := Lib.compact_length_le (sortT (nmsE true x))
      have h2 := sortT_len (nmsE true x)
      have h3 := nms_len true x
      unfold namesE
      omega
    have hl2 : (namesE false x).length ≤ 2^28 := by
      have h1 := Lib.compact_length_le (sortT (nmsE false x))
      have h2 := sortT_len (nmsE false x)
      have h3 := nms_len false x
      unfold namesE
      omega
    have hsub : ∀ s ∈ namesE false x, ((namesE true x).any fun y => y == s) = true := fun s hs => any_iff.2 (mem_namesE.2 (edges_names _ x (Nat.le_refl _) s (mem_namesE.1 hs)))
    have hlaw : evE (fun s => (is ++ addN (namesE true x) more).any fun y => y == s) (fun s => (was ++ addN (namesE false x) more).any fun y => y == s) x = evE (fun s => is.any fun y => y == s) (fun s => was.any fun y => y == s) x :=
      ev_names _ _ _ _ _ x (Nat.le_refl _) hwf (fun s hs => addN_any (mem_namesE.2 hs)) (fun s hs => addN_any (mem_namesE.2 hs))
    have hA := addN_len (namesE true x) more more.length
    have hB := addN_len (namesE false x) more more.length
    rw [List.take_length] at hA hB
    have hev1 := eval_spec G _ _ _ _ _ _ (among_tells G none (is ++ addN (namesE true x) more) (by rw [List.length_append]; omega)) (among_tells G none (was ++ addN (namesE false x) more) (by rw [List.length_append]; omega)) x (by omega)
    have hev2 := tells2 G is was (by omega) (by omega) x (by omega)
    rw [hlaw] at hev1
    have ha1 := among_spec G none is
    have ha2 := among_spec G none was
    have ha3 := among_spec G none (is ++ addN (namesE true x) more)
    have ha4 := among_spec G none (was ++ addN (namesE false x) more)
    have han := among_spec G none (namesE true x)
    have hae := among_spec G none (namesE false x)
    have htn := among_tells G none (namesE true x) (by omega)
    have hte := among_tells G none (namesE false x) (by omega)
    have hAt := addN_len (namesE true x) more
    have hBt := addN_len (namesE false x) more
    obtain ⟨tx, cx, hcx⟩ := dE_ifc x
    simp only [dOE] at hp
    rw [hcx] at hp hnm hed hev1 hev2
    generalize evE (fun s => is.any fun y => y == s) (fun s => was.any fun y => y == s) x = r at hev1 hev2
    clear hlaw hA hB
    have hT1 : ∀ i (hi : i < more.length), addN (namesE true x) (more.take (i + 1)) = addN (namesE true x) (more.take i) ++ (if ((namesE true x).any fun y => y == more[i]) then [] else [more[i]]) := fun i hi => addN_take hi
    have hT2 : ∀ i (hi : i < more.length), addN (namesE false x) (more.take (i + 1)) = addN (namesE false x) (more.take i) ++ (if ((namesE false x).any fun y => y == more[i]) then [] else [more[i]]) := fun i hi => addN_take hi
    generalize namesE true x = nm at *
    generalize namesE false x = ed at *
    refine PureC.of_body (tyOf_good _) Tryd.func8 rfl rfl (rs := [.tmp 8]) Tryd.results8 (by simp [Tryd.ntmps8]) fun X => ?_
    simp only [Tryd.ntmps8, List.map]
    refine AW_rg (tyOf_good _) [0, 1, 2, 3] [] (fun _ _ => trivial) fun K' hK' => ?_
    repeat (refine sxf_next fun K2 hK2 => ?_; simp [dNum, dS]; (repeat (refine ⟨by omega, ?_⟩)); refine hK2 _ ?_; clear hK2 K2)
    refine sxf_nil (hK' _ ?_)
    refine AW.st (by simp [dNum, dS]; rfl) ?_
    clear hK' K'
    refine AW_then fun K1 hK1 => ?_
    refine AW_rg (tyOf_good _) [0, 1, 2, 3, 34] [] (fun _ _ => trivial) fun K' hK' => ?_
    repeat (refine sxf_next fun K2 hK2 => ?_; simp [dNum, dS, bs_size, h1, h1', h2, h2', h3, h3', h4, h4']; (repeat (refine ⟨by omega, ?_⟩)); refine hK2 _ ?_; clear hK2 K2)
    refine sxf_nil (hK' _ ?_)
    refine AW.st (by simp [dNum, dS, bs_size, h1, h1', h2, h2', h3, h3', h4, h4']; rfl) ?_
    clear hK' K'
    refine AW_cond false rfl (fun h => by cases h) (fun _ => ?_)
    refine AW_skip (hK1 _ ?_)
    refine AW_rg (tyOf_good _) [1, 2, 3, 9, 10] [] (fun _ _ => trivial) fun K' hK' => ?_
    repeat (refine sxf_next fun K2 hK2 => ?_; simp [dNum, dS, dErr]; (repeat (refine ⟨by omega, ?_⟩)); refine hK2 _ ?_; clear hK2 K2)
    refine sxf_next fun K2 hK2 => ?_
    simp [dNum, dS, dErr]
    refine callK.data (hp) (by simp; rfl) (by first | exact D.leGo_refl _ | simp [takeMap, List.map_map, Function.comp_def, D.le, D.le.go, D.le_refl, D.leGo_refl, dNum, dS, dErr]) ?_
    refine hK2 _ ?_
    clear hK2 K2
    simp only [putd, upd_lst]
    repeat (refine sxf_next fun K2 hK2 => ?_; simp [dNum, dS, dErr]; (repeat (refine ⟨by omega, ?_⟩)); refine hK2 _ ?_; clear hK2 K2)
    refine sxf_nil (hK' _ ?_)
    refine AW.st (by simp [dNum, dS, dErr]; rfl) ?_
    clear hK' K'
    refine AW_then fun K2 hK2 => ?_
    refine AW_rg (tyOf_good _) [1, 2, 3, 9, 45] [] (fun _ _ => trivial) fun K' hK' => ?_
    repeat (refine sxf_next fun K2 hK2 => ?_; simp [dNum, dS]; (repeat (refine ⟨by omega, ?_⟩)); refine hK2 _ ?_; clear hK2 K2)
    refine sxf_next fun K2 hK2 => ?_
    simp [dNum, dS]
    refine callK.data (hsay) (by simp; rfl) (by first | exact D.leGo_refl _ | simp [takeMap, List.map_map, Function.comp_def, D.le, D.le.go, D.le_refl, D.leGo_refl, dNum, dS]) ?_
    refine hK2 _ ?_
    clear hK2 K2
    simp only [putd, upd_lst]
    repeat (refine sxf_next fun K2 hK2 => ?_; simp [dNum, dS]; (repeat (refine ⟨by omega, ?_⟩)); refine hK2 _ ?_; clear hK2 K2)
    refine sxf_nil (hK' _ ?_)
    refine AW.st (by simp [dNum, dS]; rfl) ?_
    clear hK' K'
    refine AW_cond false rfl (fun h => by cases h) (fun _ => ?_)
    refine AW_skip (hK2 _ ?_)
    refine AW_rg (tyOf_good _) [1, 2, 3, 9, 11, 12] [] (fun _ _ => trivial) fun K' hK' => ?_
    repeat (refine sxf_next fun K2 hK2 => ?_; simp [dNum, dS]; (repeat (refine ⟨by omega, ?_⟩)); refine hK2 _ ?_; clear hK2 K2)
    refine sxf_next fun K2 hK2 => ?_
    simp [dNum, dS]
    refine callK.data (hnm) (by simp; rfl) (by first | exact D.leGo_refl _ | simp [takeMap, List.map_map, Function.comp_def, D.le, D.le.go, D.le_refl, D.leGo_refl, dNum, dS]) ?_
    refine hK2 _ ?_
    clear hK2 K2
    simp only [putd, upd_lst]
    repeat (refine sxf_next fun K2 hK2 => ?_; simp [dNum, dS]; (repeat (refine ⟨by omega, ?_⟩)); refine hK2 _ ?_; clear hK2 K2)
    refine sxf_next fun K2 hK2 => ?_
    simp [dNum, dS]
    refine callK.data (hed) (by simp; rfl) (by first | exact D.leGo_refl _ | simp [takeMap, List.map_map, Function.comp_def, D.le, D.le.go, D.le_refl, D.leGo_refl, dNum, dS]) ?_
    refine hK2 _ ?_
    clear hK2 K2
    simp only [putd, upd_lst]
    repeat (refine sxf_next fun K2 hK2 => ?_; simp [dNum, dS]; (repeat (refine ⟨by omega, ?_⟩)); refine hK2 _ ?_; clear hK2 K2)
    refine sxf_nil (hK' _ ?_)
    refine AW.st (by simp [dNum, dS]; rfl) ?_
    clear hK' K'
    refine AW_rg (tyOf_good _) [1, 2, 3, 9, 11, 12, 13, 14] [55, 58] (fun _ _ => trivial) fun K' hK' => ?_
    repeat (refine sxf_next fun K2 hK2 => ?_; simp [dNum, dS, List.take_of_length_le]; (repeat (refine ⟨by omega, ?_⟩)); refine hK2 _ ?_; clear hK2 K2)
    refine sxf_nil (hK' _ ?_)
    refine AW.st (by simp [dNum, dS, List.take_of_length_le]; rfl) ?_
    clear hK' K'
    refine AW_then fun K3 hK3 => ?_
    refine AW_rg (tyOf_good _) [1, 2, 3, 9, 11, 12, 13, 14, 15] [55, 58] (fun _ _ => trivial) fun K' hK' => ?_
    repeat (refine sxf_next fun K2 hK2 => ?_; simp [dNum, dS]; (repeat (refine ⟨by omega, ?_⟩)); refine hK2 _ ?_; clear hK2 K2)
    refine sxf_nil (hK' _ ?_)
    refine AW.st (by simp [dNum, dS]; rfl) ?_
    clear hK' K'
    refine AW_for (S := Nat) (fun i => i ≤ more.length) (fun i => ⟨lst [(1, .d (.sl none (is.map fun s => [dS s]))), (2, .d (.sl none (was.map fun s => [dS s]))), (3, .d (.sl none (more.map fun s => [dS s]))), (9, .d (.ifc tx cx)), (11, .d (.sl none (nm.map fun s => [dS s]))), (12, .d (.sl none (ed.map fun s => [dS s]))), (13, .own 55 0 (is ++ addN nm (more.take i)).length), (14, .own 58 0 (was ++ addN ed (more.take i)).length), (15, int i)], hlst [(55, .sl 9 1 ((is ++ addN nm (more.take i)).map fun s => [dS s])), (58, .sl 9 1 ((was ++ addN ed (more.take i)).map fun s => [dS s]))]⟩) (fun i => more.length - i) 0 ?_ (by omega) ?_
    · refine Imp.to' (fun _ _ => trivial) (by simp [dNum, dS, addN]) (by simp [dNum, dS, addN])
    · intro i hi
      refine AW_then fun K4 hK4 => ?_
      refine AW_rg (tyOf_good _) [1, 2, 3, 9, 11, 12, 13, 14, 15, 64] [55, 58] (fun _ _ => trivial) fun K' hK' => ?_
      repeat (refine sxf_next fun K2 hK2 => ?_; simp [dNum, dS]; (repeat (refine ⟨by omega, ?_⟩)); refine hK2 _ ?_; clear hK2 K2)
      refine sxf_nil (hK' _ ?_)
      refine AW.st (by simp [dNum, dS]; rfl) ?_
      clear hK' K'
      refine AW_cond' (b := i < more.length) (by simp [D.le, D.le.go, takeMap, dNum, dS]) (fun hc => ?_) (fun hc => ?_)
      · have hil : i < more.length := hc
        have hn1 := htn more[i]
        have he1 := hte more[i]
        dsimp only at hn1 he1
        have t1 := hT1 i hil
        have t2 := hT2 i hil
        have l1 := hAt i
        have l2 := hBt i
        refine AW_skip (hK4 _ ?_)
        refine AW_then fun K5 hK5 => ?_
        refine AW_block ?_
        refine AW_then fun K6 hK6 => ?_
        cases hm1 : (nm.any fun y => y == more[i]) with
        | true =>
          rw [hm1] at hn1
          rw [hm1, if_pos rfl, List.append_nil] at t1
          refine AW_rd (tyOf_good _) (by kernel_rfl) [1, 2, 3, 9, 11, 12, 13, 14, 15, 74] [55, 58] (fun _ _ => trivial) (by kernel_rfl) fun K' hK' => ?_
          repeat (refine sxd_next fun K2 hK2 => ?_; simp [dNum, dS, hil, dAm]; (repeat (refine ⟨by omega, ?_⟩)); refine hK2 _ ?_; clear hK2 K2)
          refine sxd_next fun K2 hK2 => ?_
          simp [dNum, dS, hil, dAm]
          refine callQ.data (han) (by simp; rfl) (by simp; rfl) (by first | exact D.leGo_refl _ | simp [takeMap, List.map_map, Function.comp_def, D.le, D.le.go, D.le_refl, D.leGo_refl, dNum, dS, hil, dAm]) ?_
          refine hK2 _ ?_
          clear hK2 K2
          simp only [putd, upd_lst]
          repeat (refine sxd_next fun K2 hK2 => ?_; simp [dNum, dS, hil, dAm]; (repeat (refine ⟨by omega, ?_⟩)); refine hK2 _ ?_; clear hK2 K2)
          refine sxd_next fun K2 hK2 => ?_
          simp [dNum, dS, hil, dAm]
          refine callQ.data (hn1) (by simp; rfl) (by simp; rfl) (by first | exact D.leGo_refl _ | simp [takeMap, List.map_map, Function.comp_def, D.le, D.le.go, D.le_refl, D.leGo_refl, dNum, dS, hil, dAm]) ?_
          refine hK2 _ ?_
          clear hK2 K2
          simp only [putd, upd_lst]
          repeat (refine sxd_next fun K2 hK2 => ?_; simp [dNum, dS, hil, dAm]; (repeat (refine ⟨by omega, ?_⟩)); refine hK2 _ ?_; clear hK2 K2)
          refine sxd_nil (hK' _ ?_)
          refine AW.st (by simp [dNum, dS, hil, dAm]; rfl) ?_
          clear hK' K'
          refine AW_cond false rfl (fun h => by cases h) (fun _ => ?_)
          refine AW_skip (hK6 _ ?_)
          cases hm2 : (ed.any fun y => y == more[i]) with
          | true =>
            rw [hm2] at he1
            rw [hm2, if_pos rfl, List.append_nil] at t2
            refine AW_rd (tyOf_good _) (by kernel_rfl) [1, 2, 3, 9, 11, 12, 13, 14, 15, 89] [55, 58] (fun _ _ => trivial) (by kernel_rfl) fun K' hK' => ?_
            repeat (refine sxd_next fun K2 hK2 => ?_; simp [dNum, dS, hil, dAm]; (repeat (refine ⟨by omega, ?_⟩)); refine hK2 _ ?_; clear hK2 K2)
            refine sxd_next fun K2 hK2 => ?_
            simp [dNum, dS, hil, dAm]
            refine callQ.data (hae) (by simp; rfl) (by simp; rfl) (by first | exact D.leGo_refl _ | simp [takeMap, List.map_map, Function.comp_def, D.le, D.le.go, D.le_refl, D.leGo_refl, dNum, dS, hil, dAm]) ?_
            refine hK2 _ ?_
            clear hK2 K2
            simp only [putd, upd_lst]
            repeat (refine sxd_next fun K2 hK2 => ?_; simp [dNum, dS, hil, dAm]; (repeat (refine ⟨by omega, ?_⟩)); refine hK2 _ ?_; clear hK2 K2)
            refine sxd_next fun K2 hK2 => ?_
            simp [dNum, dS, hil, dAm]
            refine callQ.data (he1) (by simp; rfl) (by simp; rfl) (by first | exact D.leGo_refl _ | simp [takeMap, List.map_map, Function.comp_def, D.le, D.le.go, D.le_refl, D.leGo_refl, dNum, dS, hil, dAm]) ?_
            refine hK2 _ ?_
            clear hK2 K2
            simp only [putd, upd_lst]
            repeat (refine sxd_next fun K2 hK2 => ?_; simp [dNum, dS, hil, dAm]; (repeat (refine ⟨by omega, ?_⟩)); refine hK2 _ ?_; clear hK2 K2)
            refine sxd_nil (hK' _ ?_)
            refine AW.st (by simp [dNum, dS, hil, dAm]; rfl) ?_
            clear hK' K'
            refine AW_cond false rfl (fun h => by cases h) (fun _ => ?_)
            refine AW_skip (hK5 _ ?_)
            refine AW_re (tyOf_good _) fun K' hK' => ?_
            repeat (refine sxf_next fun K2 hK2 => ?_; simp [dNum, dS]; (repeat (refine ⟨by omega, ?_⟩)); refine hK2 _ ?_; clear hK2 K2)
            refine sxf_nil (hK' _ ?_)
            clear hK' K'
            try simp only [thn, inb]
            refine Again.mk (i + 1) (by omega) (by omega) ?_
            refine Imp.to' (fun _ _ => trivial) (by simp [dNum, dS, t1, t2]) (by simp [dNum, dS, t1, t2])
          | false =>
            rw [hm2] at he1
            rw [hm2, if_neg (by simp)] at t2
            refine AW_rd (tyOf_good _) (by kernel_rfl) [1, 2, 3, 9, 11, 12, 13, 14, 15, 89] [55, 58] (fun _ _ => trivial) (by kernel_rfl) fun K' hK' => ?_
            repeat (refine sxd_next fun K2 hK2 => ?_; simp [dNum, dS, hil, dAm]; (repeat (refine ⟨by omega, ?_⟩)); refine hK2 _ ?_; clear hK2 K2)
            refine sxd_next fun K2 hK2 => ?_
            simp [dNum, dS, hil, dAm]
            refine callQ.data (hae) (by simp; rfl) (by simp; rfl) (by first | exact D.leGo_refl _ | simp [takeMap, List.map_map, Function.comp_def, D.le, D.le.go, D.le_refl, D.leGo_refl, dNum, dS, hil, dAm]) ?_
            refine hK2 _ ?_
            clear hK2 K2
            simp only [putd, upd_lst]
            repeat (refine sxd_next fun K2 hK2 => ?_; simp [dNum, dS, hil, dAm]; (repeat (refine ⟨by omega, ?_⟩)); refine hK2 _ ?_; clear hK2 K2)
            refine sxd_next fun K2 hK2 => ?_
            simp [dNum, dS, hil, dAm]
            refine callQ.data (he1) (by simp; rfl) (by simp; rfl) (by first | exact D.leGo_refl _ | simp [takeMap, List.map_map, Function.comp_def, D.le, D.le.go, D.le_refl, D.leGo_refl, dNum, dS, hil, dAm]) ?_
            refine hK2 _ ?_
            clear hK2 K2
            simp only [putd, upd_lst]
            repeat (refine sxd_next fun K2 hK2 => ?_; simp [dNum, dS, hil, dAm]; (repeat (refine ⟨by omega, ?_⟩)); refine hK2 _ ?_; clear hK2 K2)
            refine sxd_nil (hK' _ ?_)
            refine AW.st (by simp [dNum, dS, hil, dAm]; rfl) ?_
            clear hK' K'
            refine AW_cond true rfl (fun _ => ?_) (fun h => by cases h)
            refine AW_re (tyOf_good _) fun K' hK' => ?_
            repeat (refine sxf_next fun K2 hK2 => ?_; simp [dNum, dS, hil, List.take_of_length_le]; (repeat (refine ⟨by omega, ?_⟩)); refine hK2 _ ?_; clear hK2 K2)
            refine sxf_nil (hK' _ ?_)
            clear hK' K'
            refine hK5 _ (AW.norm [1, 2, 3, 9, 11, 12, 13, 14, 15] [55, 58] (fun _ _ => trivial) (AW.st (by simp [dNum, dS, hil, List.take_of_length_le]; rfl) ?_))
            refine AW_re (tyOf_good _) fun K' hK' => ?_
            repeat (refine sxf_next fun K2 hK2 => ?_; simp [dNum, dS]; (repeat (refine ⟨by omega, ?_⟩)); refine hK2 _ ?_; clear hK2 K2)
            refine sxf_nil (hK' _ ?_)
            clear hK' K'
            try simp only [thn, inb]
            refine Again.mk (i + 1) (by omega) (by omega) ?_
            refine Imp.to' (fun _ _ => trivial) (by simp [dNum, dS, t1, t2, Int.add_assoc, Nat.add_assoc]) (by simp [dNum, dS, t1, t2, Int.add_assoc, Nat.add_assoc])
        | false =>
          rw [hm1] at hn1
          rw [hm1, if_neg (by simp)] at t1
          refine AW_rd (tyOf_good _) (by kernel_rfl) [1, 2, 3, 9, 11, 12, 13, 14, 15, 74] [55, 58] (fun _ _ => trivial) (by kernel_rfl) fun K' hK' => ?_
          repeat (refine sxd_next fun K2 hK2 => ?_; simp [dNum, dS, hil, dAm]; (repeat (refine ⟨by omega, ?_⟩)); refine hK2 _ ?_; clear hK2 K2)
          refine sxd_next fun K2 hK2 => ?_
          simp [dNum, dS, hil, dAm]
          refine callQ.data (han) (by simp; rfl) (by simp; rfl) (by first | exact D.leGo_refl _ | simp [takeMap, List.map_map, Function.comp_def, D.le, D.le.go, D.le_refl, D.leGo_refl, dNum, dS, hil, dAm]) ?_
          refine hK2 _ ?_
          clear hK2 K2
          simp only [putd, upd_lst]
          repeat (refine sxd_next fun K2 hK2 => ?_; simp [dNum, dS, hil, dAm]; (repeat (refine ⟨by omega, ?_⟩)); refine hK2 _ ?_; clear hK2 K2)
          refine sxd_next fun K2 hK2 => ?_
          simp [dNum, dS, hil, dAm]
          refine callQ.data (hn1) (by simp; rfl) (by simp; rfl) (by first | exact D.leGo_refl _ | simp [takeMap, List.map_map, Function.comp_def, D.le, D.le.go, D.le_refl, D.leGo_refl, dNum, dS, hil, dAm]) ?_
          refine hK2 _ ?_
          clear hK2 K2
          simp only [putd, upd_lst]
          repeat (refine sxd_next fun K2 hK2 => ?_; simp [dNum, dS, hil, dAm]; (repeat (refine ⟨by omega, ?_⟩)); refine hK2 _ ?_; clear hK2 K2)
          refine sxd_nil (hK' _ ?_)
          refine AW.st (by simp [dNum, dS, hil, dAm]; rfl) ?_
          clear hK' K'
          refine AW_cond true rfl (fun _ => ?_) (fun h => by cases h)
          refine AW_re (tyOf_good _) fun K' hK' => ?_
          repeat (refine sxf_next fun K2 hK2 => ?_; simp [dNum, dS, hil, List.take_of_length_le]; (repeat (refine ⟨by omega, ?_⟩)); refine hK2 _ ?_; clear hK2 K2)
          refine sxf_nil (hK' _ ?_)
          clear hK' K'
          refine hK6 _ (AW.norm [1, 2, 3, 9, 11, 12, 13, 14, 15] [55, 58] (fun _ _ => trivial) (AW.st (by simp [dNum, dS, hil, List.take_of_length_le]; rfl) ?_))
          cases hm2 : (ed.any fun y => y == more[i]) with
          | true =>
            rw [hm2] at he1
            rw [hm2, if_pos rfl, List.append_nil] at t2
            refine AW_rd (tyOf_good _) (by kernel_rfl) [1, 2, 3, 9, 11, 12, 13, 14, 15, 89] [55, 58] (fun _ _ => trivial) (by kernel_rfl) fun K' hK' => ?_
            repeat (refine sxd_next fun K2 hK2 => ?_; simp [dNum, dS, hil, dAm]; (repeat (refine ⟨by omega, ?_⟩)); refine hK2 _ ?_; clear hK2 K2)
            refine sxd_next fun K2 hK2 => ?_
            simp [dNum, dS, hil, dAm]
            refine callQ.data (hae) (by simp; rfl) (by simp; rfl) (by first | exact D.leGo_refl _ | simp [takeMap, List.map_map, Function.comp_def, D.le, D.le.go, D.le_refl, D.leGo_refl, dNum, dS, hil, dAm]) ?_
            refine hK2 _ ?_
            clear hK2 K2
            simp only [putd, upd_lst]
            repeat (refine sxd_next fun K2 hK2 => ?_; simp [dNum, dS, hil, dAm]; (repeat (refine ⟨by omega, ?_⟩)); refine hK2 _ ?_; clear hK2 K2)
            refine sxd_next fun K2 hK2 => ?_
            simp [dNum, dS, hil, dAm]
            refine callQ.data (he1) (by simp; rfl) (by simp; rfl) (by first | exact D.leGo_refl _ | simp [takeMap, List.map_map, Function.comp_def, D.le, D.le.go, D.le_refl, D.leGo_refl, dNum, dS, hil, dAm]) ?_
            refine hK2 _ ?_
            clear hK2 K2
            simp only [putd, upd_lst]
            repeat (refine sxd_next fun K2 hK2 => ?_; simp [dNum, dS, hil, dAm]; (repeat (refine ⟨by omega, ?_⟩)); refine hK2 _ ?_; clear hK2 K2)
            refine sxd_nil (hK' _ ?_)
            refine AW.st (by simp [dNum, dS, hil, dAm]; rfl) ?_
            clear hK' K'
            refine AW_cond false rfl (fun h => by cases h) (fun _ => ?_)
            refine AW_skip (hK5 _ ?_)
            refine AW_re (tyOf_good _) fun K' hK' => ?_
            repeat (refine sxf_next fun K2 hK2 => ?_; simp [dNum, dS]; (repeat (refine ⟨by omega, ?_⟩)); refine hK2 _ ?_; clear hK2 K2)
            refine sxf_nil (hK' _ ?_)
            clear hK' K'
            try simp only [thn, inb]
            refine Again.mk (i + 1) (by omega) (by omega) ?_
            refine Imp.to' (fun _ _ => trivial) (by simp [dNum, dS, t1, t2, Int.add_assoc, Nat.add_assoc]) (by simp [dNum, dS, t1, t2, Int.add_assoc, Nat.add_assoc])
          | false =>
            rw [hm2] at he1
            rw [hm2, if_neg (by simp)] at t2
            refine AW_rd (tyOf_good _) (by kernel_rfl) [1, 2, 3, 9, 11, 12, 13, 14, 15, 89] [55, 58] (fun _ _ => trivial) (by kernel_rfl) fun K' hK' => ?_
            repeat (refine sxd_next fun K2 hK2 => ?_; simp [dNum, dS, hil, dAm]; (repeat (refine ⟨by omega, ?_⟩)); refine hK2 _ ?_; clear hK2 K2)
            refine sxd_next fun K2 hK2 => ?_
            simp [dNum, dS, hil, dAm]
            refine callQ.data (hae) (by simp; rfl) (by simp; rfl) (by first | exact D.leGo_refl _ | simp [takeMap, List.map_map, Function.comp_def, D.le, D.le.go, D.le_refl, D.leGo_refl, dNum, dS, hil, dAm]) ?_
            refine hK2 _ ?_
            clear hK2 K2
            simp only [putd, upd_lst]
            repeat (refine sxd_next fun K2 hK2 => ?_; simp [dNum, dS, hil, dAm]; (repeat (refine ⟨by omega, ?_⟩)); refine hK2 _ ?_; clear hK2 K2)
            refine sxd_next fun K2 hK2 => ?_
            simp [dNum, dS, hil, dAm]
            refine callQ.data (he1) (by simp; rfl) (by simp; rfl) (by first | exact D.leGo_refl _ | simp [takeMap, List.map_map, Function.comp_def, D.le, D.le.go, D.le_refl, D.leGo_refl, dNum, dS, hil, dAm]) ?_
            refine hK2 _ ?_
            clear hK2 K2
            simp only [putd, upd_lst]
            repeat (refine sxd_next fun K2 hK2 => ?_; simp [dNum, dS, hil, dAm]; (repeat (refine ⟨by omega, ?_⟩)); refine hK2 _ ?_; clear hK2 K2)
            refine sxd_nil (hK' _ ?_)
            refine AW.st (by simp [dNum, dS, hil, dAm]; rfl) ?_
            clear hK' K'
            refine AW_cond true rfl (fun _ => ?_) (fun h => by cases h)
            refine AW_re (tyOf_good _) fun K' hK' => ?_
            repeat (refine sxf_next fun K2 hK2 => ?_; simp [dNum, dS, hil, List.take_of_length_le]; (repeat (refine ⟨by omega, ?_⟩)); refine hK2 _ ?_; clear hK2 K2)
            refine sxf_nil (hK' _ ?_)
            clear hK' K'
            refine hK5 _ (AW.norm [1, 2, 3, 9, 11, 12, 13, 14, 15] [55, 58] (fun _ _ => trivial) (AW.st (by simp [dNum, dS, hil, List.take_of_length_le]; rfl) ?_))
            refine AW_re (tyOf_good _) fun K' hK' => ?_
            repeat (refine sxf_next fun K2 hK2 => ?_; simp [dNum, dS]; (repeat (refine ⟨by omega, ?_⟩)); refine hK2 _ ?_; clear hK2 K2)
            refine sxf_nil (hK' _ ?_)
            clear hK' K'
            try simp only [thn, inb]
            refine Again.mk (i + 1) (by omega) (by omega) ?_
            refine Imp.to' (fun _ _ => trivial) (by simp [dNum, dS, t1, t2, Int.add_assoc, Nat.add_assoc]) (by simp [dNum, dS, t1, t2, Int.add_assoc, Nat.add_assoc])
      · obtain rfl : i = more.length := by omega
        rw [List.take_length]
        have hla : is.length + (addN nm more).length = (is ++ addN nm more).length := by simp
        have hlb : was.length + (addN ed more).length = (was ++ addN ed more).length := by simp
        have hla2 : ∀ g : List UInt8 → List D, is.map g ++ (addN nm more).map g = (is ++ addN nm more).map g := fun g => by simp
        have hlb2 : ∀ g : List UInt8 → List D, was.map g ++ (addN ed more).map g = (was ++ addN ed more).map g := fun g => by simp
        generalize is ++ addN nm more = la at ha3 hev1 hla hla2 ⊢
        generalize was ++ addN ed more = lb at ha4 hev1 hlb hlb2 ⊢
        refine AW_exit (hK3 _ ?_)
        refine AW_then fun K7 hK7 => ?_
        refine AW_rg (tyOf_good _) [1, 2, 9, 11, 12, 13, 14, 16] [55, 58] (fun _ _ => trivial) fun K' hK' => ?_
        repeat (refine sxf_next fun K2 hK2 => ?_; simp [dNum, dS]; (repeat (refine ⟨by omega, ?_⟩)); refine hK2 _ ?_; clear hK2 K2)
        refine sxf_nil (hK' _ ?_)
        refine AW.st (by simp [dNum, dS]; rfl) ?_
        clear hK' K'
        refine AW_for (S := Nat) (fun j => j ≤ ed.length) (fun j => ⟨lst [(1, .d (.sl none (is.map fun s => [dS s]))), (2, .d (.sl none (was.map fun s => [dS s]))), (9, .d (.ifc tx cx)), (11, .d (.sl none (nm.map fun s => [dS s]))), (12, .d (.sl none (ed.map fun s => [dS s]))), (13, .own 55 0 la.length), (14, .own 58 0 lb.length), (16, int j)], hlst [(55, .sl 9 1 (la.map fun s => [dS s])), (58, .sl 9 1 (lb.map fun s => [dS s]))]⟩) (fun j => ed.length - j) 0 ?_ (by omega) ?_
        · refine Imp.to' (fun _ _ => trivial) (by simp [dNum, dS, hla, hlb, hla2, hlb2]) (by simp [dNum, dS, hla, hlb, hla2, hlb2])
        · intro j hj
          refine AW_then fun K8 hK8 => ?_
          refine AW_rg (tyOf_good _) [1, 2, 9, 11, 12, 13, 14, 16, 100] [55, 58] (fun _ _ => trivial) fun K' hK' => ?_
          repeat (refine sxf_next fun K2 hK2 => ?_; simp [dNum, dS]; (repeat (refine ⟨by omega, ?_⟩)); refine hK2 _ ?_; clear hK2 K2)
          refine sxf_nil (hK' _ ?_)
          refine AW.st (by simp [dNum, dS]; rfl) ?_
          clear hK' K'
          refine AW_cond' (b := j < ed.length) (by simp [D.le, D.le.go, takeMap, dNum, dS]) (fun hc => ?_) (fun hc => ?_)
          · have hje : j < ed.length := hc
            have hn1 := htn ed[j]
            dsimp only at hn1
            rw [hsub _ (List.getElem_mem hje)] at hn1
            refine AW_skip (hK8 _ ?_)
            refine AW_then fun K9 hK9 => ?_
            refine AW_block ?_
            refine AW_rd (tyOf_good _) (by kernel_rfl) [1, 2, 9, 11, 12, 13, 14, 16, 110] [55, 58] (fun _ _ => trivial) (by kernel_rfl) fun K' hK' => ?_
            repeat (refine sxd_next fun K2 hK2 => ?_; simp [dNum, dS, hje, dAm]; (repeat (refine ⟨by omega, ?_⟩)); refine hK2 _ ?_; clear hK2 K2)
            refine sxd_next fun K2 hK2 => ?_
            simp [dNum, dS, hje, dAm]
            refine callQ.data (han) (by simp; rfl) (by simp; rfl) (by first | exact D.leGo_refl _ | simp [takeMap, List.map_map, Function.comp_def, D.le, D.le.go, D.le_refl, D.leGo_refl, dNum, dS, hje, dAm]) ?_
            refine hK2 _ ?_
            clear hK2 K2
            simp only [putd, upd_lst]
            repeat (refine sxd_next fun K2 hK2 => ?_; simp [dNum, dS, hje, dAm]; (repeat (refine ⟨by omega, ?_⟩)); refine hK2 _ ?_; clear hK2 K2)
            refine sxd_next fun K2 hK2 => ?_
            simp [dNum, dS, hje, dAm]
            refine callQ.data (hn1) (by simp; rfl) (by simp; rfl) (by first | exact D.leGo_refl _ | simp [takeMap, List.map_map, Function.comp_def, D.le, D.le.go, D.le_refl, D.leGo_refl, dNum, dS, hje, dAm]) ?_
            refine hK2 _ ?_
            clear hK2 K2
            simp only [putd, upd_lst]
            repeat (refine sxd_next fun K2 hK2 => ?_; simp [dNum, dS, hje, dAm]; (repeat (refine ⟨by omega, ?_⟩)); refine hK2 _ ?_; clear hK2 K2)
            refine sxd_nil (hK' _ ?_)
            refine AW.st (by simp [dNum, dS, hje, dAm]; rfl) ?_
            clear hK' K'
            refine AW_cond false rfl (fun h => by cases h) (fun _ => ?_)
            refine AW_skip (hK9 _ ?_)
            refine AW_re (tyOf_good _) fun K' hK' => ?_
            repeat (refine sxf_next fun K2 hK2 => ?_; simp [dNum, dS]; (repeat (refine ⟨by omega, ?_⟩)); refine hK2 _ ?_; clear hK2 K2)
            refine sxf_nil (hK' _ ?_)
            clear hK' K'
            try simp only [thn, inb]
            refine Again.mk (j + 1) (by omega) (by omega) ?_
            refine Imp.to' (fun _ _ => trivial) (by simp [dNum, dS]) (by simp [dNum, dS])
          · refine AW_exit (hK7 _ ?_)
            refine AW_rg (tyOf_good _) [8] [] (fun _ _ => trivial) fun K' hK' => ?_
            repeat (refine sxf_next fun K2 hK2 => ?_; simp [dNum, dS, dAm, List.take_of_length_le]; (repeat (refine ⟨by omega, ?_⟩)); refine hK2 _ ?_; clear hK2 K2)
            refine sxf_next fun K2 hK2 => ?_
            simp [dNum, dS, dAm, List.take_of_length_le]
            refine callK.frz 55 (by first | rfl | (simp [dNum, dS, dAm, List.take_of_length_le]; rfl)) trivial ?_
            simp [dNum, dS, dAm, List.take_of_length_le]
            refine callK.data (ha3) (by simp; rfl) (by first | exact D.leGo_refl _ | simp [takeMap, List.map_map, Function.comp_def, D.le, D.le.go, D.le_refl, D.leGo_refl, dNum, dS, dAm, List.take_of_length_le]) ?_
            refine hK2 _ ?_
            clear hK2 K2
            simp only [putd, upd_lst]
            repeat (refine sxf_next fun K2 hK2 => ?_; simp [dNum, dS, dAm, List.take_of_length_le]; (repeat (refine ⟨by omega, ?_⟩)); refine hK2 _ ?_; clear hK2 K2)
            refine sxf_next fun K2 hK2 => ?_
            simp [dNum, dS, dAm, List.take_of_length_le]
            refine callK.frz 58 (by first | rfl | (simp [dNum, dS, dAm, List.take_of_length_le]; rfl)) trivial ?_
            simp [dNum, dS, dAm, List.take_of_length_le]
            refine callK.data (ha4) (by simp; rfl) (by first | exact D.leGo_refl _ | simp [takeMap, List.map_map, Function.comp_def, D.le, D.le.go, D.le_refl, D.leGo_refl, dNum, dS, dAm, List.take_of_length_le]) ?_
            refine hK2 _ ?_
            clear hK2 K2
            simp only [putd, upd_lst]
            repeat (refine sxf_next fun K2 hK2 => ?_; simp [dNum, dS, dAm, List.take_of_length_le]; (repeat (refine ⟨by omega, ?_⟩)); refine hK2 _ ?_; clear hK2 K2)
            refine sxf_next fun K2 hK2 => ?_
            simp [dNum, dS, dAm, List.take_of_length_le]
            refine callK.data (hev1) (by simp; rfl) (by first | exact D.leGo_refl _ | simp [takeMap, List.map_map, Function.comp_def, D.le, D.le.go, D.le_refl, D.leGo_refl, dNum, dS, dAm, List.take_of_length_le]) ?_
            refine hK2 _ ?_
            clear hK2 K2
            simp only [putd, upd_lst]
            repeat (refine sxf_next fun K2 hK2 => ?_; simp [dNum, dS, dAm, List.take_of_length_le]; (repeat (refine ⟨by omega, ?_⟩)); refine hK2 _ ?_; clear hK2 K2)
            refine sxf_next fun K2 hK2 => ?_
            simp [dNum, dS, dAm, List.take_of_length_le]
            refine callK.data (ha1) (by simp; rfl) (by first | exact D.leGo_refl _ | simp [takeMap, List.map_map, Function.comp_def, D.le, D.le.go, D.le_refl, D.leGo_refl, dNum, dS, dAm, List.take_of_length_le]) ?_
            refine hK2 _ ?_
            clear hK2 K2
            simp only [putd, upd_lst]
            repeat (refine sxf_next fun K2 hK2 => ?_; simp [dNum, dS, dAm, List.take_of_length_le]; (repeat (refine ⟨by omega, ?_⟩)); refine hK2 _ ?_; clear hK2 K2)
            refine sxf_next fun K2 hK2 => ?_
            simp [dNum, dS, dAm, List.take_of_length_le]
            refine callK.data (ha2) (by simp; rfl) (by first | exact D.leGo_refl _ | simp [takeMap, List.map_map, Function.comp_def, D.le, D.le.go, D.le_refl, D.leGo_refl, dNum, dS, dAm, List.take_of_length_le]) ?_
            refine hK2 _ ?_
            clear hK2 K2
            simp only [putd, upd_lst]
            repeat (refine sxf_next fun K2 hK2 => ?_; simp [dNum, dS, dAm, List.take_of_length_le]; (repeat (refine ⟨by omega, ?_⟩)); refine hK2 _ ?_; clear hK2 K2)
            refine sxf_next fun K2 hK2 => ?_
            simp [dNum, dS, dAm, List.take_of_length_le]
            refine callK.data (hev2) (by simp; rfl) (by first | exact D.leGo_refl _ | simp [takeMap, List.map_map, Function.comp_def, D.le, D.le.go, D.le_refl, D.leGo_refl, dNum, dS, dAm, List.take_of_length_le]) ?_
            refine hK2 _ ?_
            clear hK2 K2
            simp only [putd, upd_lst]
            repeat (refine sxf_next fun K2 hK2 => ?_; simp [dNum, dS, dAm, List.take_of_length_le]; (repeat (refine ⟨by omega, ?_⟩)); refine hK2 _ ?_; clear hK2 K2)
            refine sxf_nil (hK' _ ?_)
            refine AW.st (by simp [dNum, dS, dAm, List.take_of_length_le]; rfl) ?_
            clear hK' K'
            refine AW_ret ?_
            simp [D.le, D.le.go, takeMap, dNum, dS]
end Go.Proofs.YtfehigldhedkgaaDoor

/-
  Tables, as they are read.
-/
namespace Go.Proofs.YtfehigldhedkgaaDoor
set_option linter.unusedSimpArgs false
set_option linter.unusedVariables false
open Go.Av Go.ChangeShapes Go.WideShapes Go.ChangeAt Go.RowKit

theorem law_own : ownKnob Tryd.prog.godebug = none := by kernel_rfl
theorem law_laidOut : laidOutB Tryd.prog = true := by kernel_rfl
section
variable {H : Type} {enc : TypeId × Value → H} {w : World} {base : Nat} {spare : Nat → Bool} {held : Bool} {X : Nat → Prop}

end

end Go.Proofs.YtfehigldhedkgaaDoor

/-
  Texts and lists of texts, as the statements' arguments are read; the globals Fine and none.
-/
namespace Go.Proofs.YtfehigldhedkgaaDoor
set_option linter.unusedSimpArgs false
set_option linter.unusedVariables false
open Go.Av Go.ChangeShapes Go.WideShapes Go.ChangeAt Go.RowKit

section
variable {H : Type} {enc : TypeId × Value → H} {w : World} {base : Nat} {spare : Nat → Bool} {held : Bool} {X : Nat → Prop}
theorem reads_text : ReadsAs enc Tryd.prog w base spare held X 9 (fun _ : List UInt8 => True) (fun s => [dS s]) := by
  intro fuel cs x h
  obtain ⟨s, rfl, rfl, _⟩ := DataW.trod_string Tryd.underlying9 h
  refine ⟨s.data.toList, trivial, .one ?_⟩
  unfold dS
  have : bs s.data.toList = s := by cases s; simp [bs]
  rw [this]
  exact .v _
theorem cells_text : Tryd.prog.cellsOf 9 = 1 := by kernel_rfl
def dTexts (l : List (List UInt8)) : D := .sl none (l.map fun s => [dS s])
theorem reads_texts (hX : ∀ b, ¬ X b) : ReadsAs enc Tryd.prog w base spare held X 49 (fun _ : List (List UInt8) => True) (fun l => [dTexts l]) := by
  intro fuel cs x h
  obtain ⟨l, _, hr⟩ := reads_slice Tryd.underlying49 cells_text (by omega) hX reads_text fuel cs x h
  exact ⟨l, trivial, hr⟩
end

end Go.Proofs.YtfehigldhedkgaaDoor
