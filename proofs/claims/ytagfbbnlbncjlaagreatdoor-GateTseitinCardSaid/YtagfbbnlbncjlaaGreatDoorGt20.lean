/-
  Texts that belong together, in one file: GA8, R1.
-/
import Derived.Test.YtagfbbnlbncjlaaGreatDoorGt19
/-
  What GateTseitin says.
-/
namespace Go.Proofs.YtagfbbnlbncjlaaGreatDoor
set_option linter.unusedSimpArgs false
set_option linter.unusedVariables false
open Go.Av

/-- The names of which values are true. -/
def pickTo (l : List Tx) (off : Nat) (β : Nat → Bool) (m : Nat) : List Tx := (List.range m).filterMap fun i => if β (off + i + 1) then some (l.getD i []) else none
theorem pickTo_succ (l : List Tx) (off : Nat) (β : Nat → Bool) (m : Nat) : pickTo l off β (m + 1) = pickTo l off β m ++ (if β (off + m + 1) then [l.getD m []] else []) := by
  unfold pickTo
  rw [List.range_succ, List.filterMap_append]
  congr 1
  cases h : β (off + m + 1) <;> simp [h]
theorem pickTo_len (l : List Tx) (off : Nat) (β : Nat → Bool) (m : Nat) : (pickTo l off β m).length ≤ m := by
  unfold pickTo
  refine Nat.le_trans (List.length_filterMap_le _ _) (by simp)
theorem pickTo_any {l : List Tx} (hs : l.Pairwise (· < ·)) (off : Nat) (β : Nat → Bool) {s : Tx} (h : s ∈ l) : ((pickTo l off β l.length).any fun x => x == s) = β (off + ixT l s + 1) := by
  have hlt := ixT_lt h
  have hget := ixT_get h
  cases hb : β (off + ixT l s + 1) with
  | true =>
    refine List.any_eq_true.2 ⟨s, ?_, by simp⟩
    unfold pickTo
    refine List.mem_filterMap.2 ⟨ixT l s, by simpa using hlt, ?_⟩
    rw [if_pos hb]
    simp [hlt, hget]
  | false =>
    rw [List.any_eq_false]
    intro x hx hxs
    have hxs : x = s := by simpa using hxs
    subst hxs
    unfold pickTo at hx
    obtain ⟨i, hi, hx⟩ := List.mem_filterMap.1 hx
    have hi : i < l.length := by simpa using hi
    split at hx
    · rename_i hbi
      obtain hx := Option.some.inj hx
      simp [hi] at hx
      have : i = ixT l x := by
        apply Classical.byContradiction
        intro hne
        exact srt_ne hs hi hlt hne (by rw [hget, hx])
      rw [this, hb] at hbi
      cases hbi
    · cases hx

set_option maxHeartbeats 32000000 in
theorem gtseitin_spec (G : Glob) (hG : HasErr G) (t : List UInt8) (is was : List (List UInt8)) : PureC Tryz.prog G 5 [dS t, .sl none (is.map fun s => [dS s]), .sl none (was.map fun s => [dS s])] (.v (.bool true)) := by
  by_cases h1 : 300 < t.length
  · have h1' : (300 : Int) < (t.length : Int) := by omega
    refine PureC.of_body (tyOf_good _) Tryz.func5 rfl rfl (rs := [.tmp 6]) Tryz.results5 (by simp [Tryz.ntmps5]) fun X => ?_
    simp only [Tryz.ntmps5, List.map]
    refine AW_rg (tyOf_good _) [0, 1, 2] [] (fun _ _ => trivial) fun K' hK' => ?_
    repeat (refine sxf_next fun K2 hK2 => ?_; simp [dNum, dErr]; (repeat (refine ⟨by omega, ?_⟩)); refine hK2 _ ?_; clear hK2 K2)
    refine sxf_nil (hK' _ ?_)
    refine AW.st (by simp [dNum, dErr]; rfl) ?_
    clear hK' K'
    refine AW_then fun K1 hK1 => ?_
    refine AW_rg (tyOf_good _) [0, 1, 2, 30] [] (fun _ _ => trivial) fun K' hK' => ?_
    repeat (refine sxf_next fun K2 hK2 => ?_; simp [dNum, dErr, bs_size, dS, h1, h1']; (repeat (refine ⟨by omega, ?_⟩)); refine hK2 _ ?_; clear hK2 K2)
    refine sxf_nil (hK' _ ?_)
    refine AW.st (by simp [dNum, dErr, bs_size, dS, h1, h1']; rfl) ?_
    clear hK' K'
    refine AW_cond true rfl (fun _ => ?_) (fun h => by cases h)
    refine AW_rg (tyOf_good _) [6] [] (fun _ _ => trivial) fun K' hK' => ?_
    repeat (refine sxf_next fun K2 hK2 => ?_; simp [dNum, dErr]; (repeat (refine ⟨by omega, ?_⟩)); refine hK2 _ ?_; clear hK2 K2)
    refine sxf_nil (hK' _ ?_)
    refine AW.st (by simp [dNum, dErr]; rfl) ?_
    clear hK' K'
    refine AW_ret ?_
    simp [D.le, D.le.go, takeMap, dNum, dErr]
  have h1' : ¬ (300 : Int) < (t.length : Int) := by omega
  by_cases h2 : 20 < is.length
  · have h2' : (20 : Int) < (is.length : Int) := by omega
    refine PureC.of_body (tyOf_good _) Tryz.func5 rfl rfl (rs := [.tmp 6]) Tryz.results5 (by simp [Tryz.ntmps5]) fun X => ?_
    simp only [Tryz.ntmps5, List.map]
    refine AW_rg (tyOf_good _) [0, 1, 2] [] (fun _ _ => trivial) fun K' hK' => ?_
    repeat (refine sxf_next fun K2 hK2 => ?_; simp [dNum, dErr]; (repeat (refine ⟨by omega, ?_⟩)); refine hK2 _ ?_; clear hK2 K2)
    refine sxf_nil (hK' _ ?_)
    refine AW.st (by simp [dNum, dErr]; rfl) ?_
    clear hK' K'
    refine AW_then fun K1 hK1 => ?_
    refine AW_rg (tyOf_good _) [0, 1, 2, 30] [] (fun _ _ => trivial) fun K' hK' => ?_
    repeat (refine sxf_next fun K2 hK2 => ?_; simp [dNum, dErr, bs_size, dS, h1, h1', h2, h2']; (repeat (refine ⟨by omega, ?_⟩)); refine hK2 _ ?_; clear hK2 K2)
    refine sxf_nil (hK' _ ?_)
    refine AW.st (by simp [dNum, dErr, bs_size, dS, h1, h1', h2, h2']; rfl) ?_
    clear hK' K'
    refine AW_cond true rfl (fun _ => ?_) (fun h => by cases h)
    refine AW_rg (tyOf_good _) [6] [] (fun _ _ => trivial) fun K' hK' => ?_
    repeat (refine sxf_next fun K2 hK2 => ?_; simp [dNum, dErr]; (repeat (refine ⟨by omega, ?_⟩)); refine hK2 _ ?_; clear hK2 K2)
    refine sxf_nil (hK' _ ?_)
    refine AW.st (by simp [dNum, dErr]; rfl) ?_
    clear hK' K'
    refine AW_ret ?_
    simp [D.le, D.le.go, takeMap, dNum, dErr]
  have h2' : ¬ (20 : Int) < (is.length : Int) := by omega
  by_cases h3 : 20 < was.length
  · have h3' : (20 : Int) < (was.length : Int) := by omega
    refine PureC.of_body (tyOf_good _) Tryz.func5 rfl rfl (rs := [.tmp 6]) Tryz.results5 (by simp [Tryz.ntmps5]) fun X => ?_
    simp only [Tryz.ntmps5, List.map]
    refine AW_rg (tyOf_good _) [0, 1, 2] [] (fun _ _ => trivial) fun K' hK' => ?_
    repeat (refine sxf_next fun K2 hK2 => ?_; simp [dNum, dErr]; (repeat (refine ⟨by omega, ?_⟩)); refine hK2 _ ?_; clear hK2 K2)
    refine sxf_nil (hK' _ ?_)
    refine AW.st (by simp [dNum, dErr]; rfl) ?_
    clear hK' K'
    refine AW_then fun K1 hK1 => ?_
    refine AW_rg (tyOf_good _) [0, 1, 2, 30] [] (fun _ _ => trivial) fun K' hK' => ?_
    repeat (refine sxf_next fun K2 hK2 => ?_; simp [dNum, dErr, bs_size, dS, h1, h1', h2, h2', h3, h3']; (repeat (refine ⟨by omega, ?_⟩)); refine hK2 _ ?_; clear hK2 K2)
    refine sxf_nil (hK' _ ?_)
    refine AW.st (by simp [dNum, dErr, bs_size, dS, h1, h1', h2, h2', h3, h3']; rfl) ?_
    clear hK' K'
    refine AW_cond true rfl (fun _ => ?_) (fun h => by cases h)
    refine AW_rg (tyOf_good _) [6] [] (fun _ _ => trivial) fun K' hK' => ?_
    repeat (refine sxf_next fun K2 hK2 => ?_; simp [dNum, dErr]; (repeat (refine ⟨by omega, ?_⟩)); refine hK2 _ ?_; clear hK2 K2)
    refine sxf_nil (hK' _ ?_)
    refine AW.st (by simp [dNum, dErr]; rfl) ?_
    clear hK' K'
    refine AW_ret ?_
    simp [D.le, D.le.go, takeMap, dNum, dErr]
  have h3' : ¬ (20 : Int) < (was.length : Int) := by omega
  have hgt := gated_spec G hG
  have hp := parse_spec G t (by omega)
  cases hpm : parseM t with
  | mk ox oe =>
  rw [hpm] at hp
  cases oe with
  | some e =>
    obtain ⟨c, p⟩ := e
    have hn : ox = none := by
      have := parse_none (t := t) (e := (c, p)) (by rw [hpm])
      rw [hpm] at this
      exact this
    subst hn
    have hne : ∃ te ce, dErr (some (c, p)) = .ifc te ce := by cases p <;> exact ⟨_, _, rfl⟩
    obtain ⟨te, ce, hee⟩ := hne
    simp only [dOE] at hp
    rw [hee] at hp
    refine PureC.of_body (tyOf_good _) Tryz.func5 rfl rfl (rs := [.tmp 6]) Tryz.results5 (by simp [Tryz.ntmps5]) fun X => ?_
    simp only [Tryz.ntmps5, List.map]
    refine AW_rg (tyOf_good _) [0, 1, 2] [] (fun _ _ => trivial) fun K' hK' => ?_
    repeat (refine sxf_next fun K2 hK2 => ?_; simp [dNum]; (repeat (refine ⟨by omega, ?_⟩)); refine hK2 _ ?_; clear hK2 K2)
    refine sxf_nil (hK' _ ?_)
    refine AW.st (by simp [dNum]; rfl) ?_
    clear hK' K'
    refine AW_then fun K1 hK1 => ?_
    refine AW_rg (tyOf_good _) [0, 1, 2, 30] [] (fun _ _ => trivial) fun K' hK' => ?_
    repeat (refine sxf_next fun K2 hK2 => ?_; simp [dNum, bs_size, dS, h1, h1', h2, h2', h3, h3']; (repeat (refine ⟨by omega, ?_⟩)); refine hK2 _ ?_; clear hK2 K2)
    refine sxf_nil (hK' _ ?_)
    refine AW.st (by simp [dNum, bs_size, dS, h1, h1', h2, h2', h3, h3']; rfl) ?_
    clear hK' K'
    refine AW_cond false rfl (fun h => by cases h) (fun _ => ?_)
    refine AW_skip (hK1 _ ?_)
    refine AW_rg (tyOf_good _) [1, 2, 7, 8] [] (fun _ _ => trivial) fun K' hK' => ?_
    repeat (refine sxf_next fun K2 hK2 => ?_; simp [dNum]; (repeat (refine ⟨by omega, ?_⟩)); refine hK2 _ ?_; clear hK2 K2)
    refine sxf_next fun K2 hK2 => ?_
    simp [dNum]
    refine callK.data (hp) (by simp; rfl) (by first | exact D.leGo_refl _ | simp [takeMap, List.map_map, Function.comp_def, D.le, D.le.go, D.le_refl, D.leGo_refl, dNum]) ?_
    refine hK2 _ ?_
    clear hK2 K2
    simp only [putd, upd_lst]
    repeat (refine sxf_next fun K2 hK2 => ?_; simp [dNum]; (repeat (refine ⟨by omega, ?_⟩)); refine hK2 _ ?_; clear hK2 K2)
    refine sxf_nil (hK' _ ?_)
    refine AW.st (by simp [dNum]; rfl) ?_
    clear hK' K'
    refine AW_then fun K2 hK2 => ?_
    refine AW_rg (tyOf_good _) [1, 2, 7, 41] [] (fun _ _ => trivial) fun K' hK' => ?_
    repeat (refine sxf_next fun K2 hK2 => ?_; simp [dNum]; (repeat (refine ⟨by omega, ?_⟩)); refine hK2 _ ?_; clear hK2 K2)
    refine sxf_next fun K2 hK2 => ?_
    simp [dNum]
    refine callK.data (hgt) (by simp; rfl) (by first | exact D.leGo_refl _ | simp [takeMap, List.map_map, Function.comp_def, D.le, D.le.go, D.le_refl, D.leGo_refl, dNum]) ?_
    refine hK2 _ ?_
    clear hK2 K2
    simp only [putd, upd_lst]
    repeat (refine sxf_next fun K2 hK2 => ?_; simp [dNum]; (repeat (refine ⟨by omega, ?_⟩)); refine hK2 _ ?_; clear hK2 K2)
    refine sxf_nil (hK' _ ?_)
    refine AW.st (by simp [dNum]; rfl) ?_
    clear hK' K'
    refine AW_cond true rfl (fun _ => ?_) (fun h => by cases h)
    refine AW_rg (tyOf_good _) [6] [] (fun _ _ => trivial) fun K' hK' => ?_
    repeat (refine sxf_next fun K2 hK2 => ?_; simp [dNum]; (repeat (refine ⟨by omega, ?_⟩)); refine hK2 _ ?_; clear hK2 K2)
    refine sxf_next fun K2 hK2 => ?_
    simp [dNum]
    refine callK.data (hgt) (by simp; rfl) (by first | exact D.leGo_refl _ | simp [takeMap, List.map_map, Function.comp_def, D.le, D.le.go, D.le_refl, D.leGo_refl, dNum]) ?_
    refine hK2 _ ?_
    clear hK2 K2
    simp only [putd, upd_lst]
    repeat (refine sxf_next fun K2 hK2 => ?_; simp [dNum]; (repeat (refine ⟨by omega, ?_⟩)); refine hK2 _ ?_; clear hK2 K2)
    refine sxf_nil (hK' _ ?_)
    refine AW.st (by simp [dNum]; rfl) ?_
    clear hK' K'
    refine AW_ret ?_
    simp [D.le, D.le.go, takeMap, dNum]
  | none =>
    obtain ⟨x, hx⟩ := parse_some (t := t) (by rw [hpm])
    have hb := parse_b hx
    obtain ⟨hwf, hdp⟩ := parse_wf hx
    rw [hpm] at hx
    dsimp only at hx
    subst hx
    have hns := namesE_spec G x (by omega)
    have hes := edgesE_spec G x (by omega)
    obtain ⟨tx, cx, hcx⟩ := dE_ifc x
    simp only [dOE, dErr] at hp
    have hn1 := names_sz true x
    have hn2 := names_sz false x
    have hzb := size_b x
    by_cases h6 : 6 < (namesE true x).length + (namesE false x).length
    · have h6' : (6 : Int) < ((namesE true x).length : Int) + ((namesE false x).length : Int) := by omega
      rw [hcx] at hp hns hes
      generalize namesE true x = ns at *
      generalize namesE false x = es at *
      refine PureC.of_body (tyOf_good _) Tryz.func5 rfl rfl (rs := [.tmp 6]) Tryz.results5 (by simp [Tryz.ntmps5]) fun X => ?_
      simp only [Tryz.ntmps5, List.map]
      refine AW_rg (tyOf_good _) [0, 1, 2] [] (fun _ _ => trivial) fun K' hK' => ?_
      repeat (refine sxf_next fun K2 hK2 => ?_; simp [dNum]; (repeat (refine ⟨by omega, ?_⟩)); refine hK2 _ ?_; clear hK2 K2)
      refine sxf_nil (hK' _ ?_)
      refine AW.st (by simp [dNum]; rfl) ?_
      clear hK' K'
      refine AW_then fun K1 hK1 => ?_
      refine AW_rg (tyOf_good _) [0, 1, 2, 30] [] (fun _ _ => trivial) fun K' hK' => ?_
      repeat (refine sxf_next fun K2 hK2 => ?_; simp [dNum, bs_size, dS, h1, h1', h2, h2', h3, h3']; (repeat (refine ⟨by omega, ?_⟩)); refine hK2 _ ?_; clear hK2 K2)
      refine sxf_nil (hK' _ ?_)
      refine AW.st (by simp [dNum, bs_size, dS, h1, h1', h2, h2', h3, h3']; rfl) ?_
      clear hK' K'
      refine AW_cond false rfl (fun h => by cases h) (fun _ => ?_)
      refine AW_skip (hK1 _ ?_)
      refine AW_rg (tyOf_good _) [1, 2, 7, 8] [] (fun _ _ => trivial) fun K' hK' => ?_
      repeat (refine sxf_next fun K2 hK2 => ?_; simp [dNum]; (repeat (refine ⟨by omega, ?_⟩)); refine hK2 _ ?_; clear hK2 K2)
      refine sxf_next fun K2 hK2 => ?_
      simp [dNum]
      refine callK.data (hp) (by simp; rfl) (by first | exact D.leGo_refl _ | simp [takeMap, List.map_map, Function.comp_def, D.le, D.le.go, D.le_refl, D.leGo_refl, dNum]) ?_
      refine hK2 _ ?_
      clear hK2 K2
      simp only [putd, upd_lst]
      repeat (refine sxf_next fun K2 hK2 => ?_; simp [dNum]; (repeat (refine ⟨by omega, ?_⟩)); refine hK2 _ ?_; clear hK2 K2)
      refine sxf_nil (hK' _ ?_)
      refine AW.st (by simp [dNum]; rfl) ?_
      clear hK' K'
      refine AW_then fun K2 hK2 => ?_
      refine AW_rg (tyOf_good _) [1, 2, 7, 41] [] (fun _ _ => trivial) fun K' hK' => ?_
      repeat (refine sxf_next fun K2 hK2 => ?_; simp [dNum]; (repeat (refine ⟨by omega, ?_⟩)); refine hK2 _ ?_; clear hK2 K2)
      refine sxf_next fun K2 hK2 => ?_
      simp [dNum]
      refine callK.data (hgt) (by simp; rfl) (by first | exact D.leGo_refl _ | simp [takeMap, List.map_map, Function.comp_def, D.le, D.le.go, D.le_refl, D.leGo_refl, dNum]) ?_
      refine hK2 _ ?_
      clear hK2 K2
      simp only [putd, upd_lst]
      repeat (refine sxf_next fun K2 hK2 => ?_; simp [dNum]; (repeat (refine ⟨by omega, ?_⟩)); refine hK2 _ ?_; clear hK2 K2)
      refine sxf_nil (hK' _ ?_)
      refine AW.st (by simp [dNum]; rfl) ?_
      clear hK' K'
      refine AW_cond false rfl (fun h => by cases h) (fun _ => ?_)
      refine AW_skip (hK2 _ ?_)
      refine AW_rg (tyOf_good _) [1, 2, 7, 9, 10] [] (fun _ _ => trivial) fun K' hK' => ?_
      repeat (refine sxf_next fun K2 hK2 => ?_; simp [dNum]; (repeat (refine ⟨by omega, ?_⟩)); refine hK2 _ ?_; clear hK2 K2)
      refine sxf_next fun K2 hK2 => ?_
      simp [dNum]
      refine callK.data (hns) (by simp; rfl) (by first | exact D.leGo_refl _ | simp [takeMap, List.map_map, Function.comp_def, D.le, D.le.go, D.le_refl, D.leGo_refl, dNum]) ?_
      refine hK2 _ ?_
      clear hK2 K2
      simp only [putd, upd_lst]
      repeat (refine sxf_next fun K2 hK2 => ?_; simp [dNum]; (repeat (refine ⟨by omega, ?_⟩)); refine hK2 _ ?_; clear hK2 K2)
      refine sxf_next fun K2 hK2 => ?_
      simp [dNum]
      refine callK.data (hes) (by simp; rfl) (by first | exact D.leGo_refl _ | simp [takeMap, List.map_map, Function.comp_def, D.le, D.le.go, D.le_refl, D.leGo_refl, dNum]) ?_
      refine hK2 _ ?_
      clear hK2 K2
      simp only [putd, upd_lst]
      repeat (refine sxf_next fun K2 hK2 => ?_; simp [dNum]; (repeat (refine ⟨by omega, ?_⟩)); refine hK2 _ ?_; clear hK2 K2)
      refine sxf_nil (hK' _ ?_)
      refine AW.st (by simp [dNum]; rfl) ?_
      clear hK' K'
      refine AW_then fun K3 hK3 => ?_
      refine AW_rg (tyOf_good _) [1, 2, 7, 9, 10, 52] [] (fun _ _ => trivial) fun K' hK' => ?_
      repeat (refine sxf_next fun K2 hK2 => ?_; simp [dNum, h6']; (repeat (refine ⟨by omega, ?_⟩)); refine hK2 _ ?_; clear hK2 K2)
      refine sxf_nil (hK' _ ?_)
      refine AW.st (by simp [dNum, h6']; rfl) ?_
      clear hK' K'
      refine AW_cond true (by simp [h6']) (fun _ => ?_) (fun h => by cases h)
      refine AW_rg (tyOf_good _) [6] [] (fun _ _ => trivial) fun K' hK' => ?_
      repeat (refine sxf_next fun K2 hK2 => ?_; simp [dNum]; (repeat (refine ⟨by omega, ?_⟩)); refine hK2 _ ?_; clear hK2 K2)
      refine sxf_nil (hK' _ ?_)
      refine AW.st (by simp [dNum]; rfl) ?_
      clear hK' K'
      refine AW_ret ?_
      simp [D.le, D.le.go, takeMap, dNum]
    have h6' : ¬ (6 : Int) < ((namesE true x).length : Int) + ((namesE false x).length : Int) := by omega
    have hts := tell_spec G hG
    by_cases hsz : 300 < szN x
    · have hof := gof_limit G x (by omega) hsz
      have ht := hts (some (4, none))
      simp only [dErr] at hof ht
      rw [hcx] at hp hns hes hof
      generalize namesE true x = ns at *
      generalize namesE false x = es at *
      refine PureC.of_body (tyOf_good _) Tryz.func5 rfl rfl (rs := [.tmp 6]) Tryz.results5 (by simp [Tryz.ntmps5]) fun X => ?_
      simp only [Tryz.ntmps5, List.map]
      refine AW_rg (tyOf_good _) [0, 1, 2] [] (fun _ _ => trivial) fun K' hK' => ?_
      repeat (refine sxf_next fun K2 hK2 => ?_; simp [dNum]; (repeat (refine ⟨by omega, ?_⟩)); refine hK2 _ ?_; clear hK2 K2)
      refine sxf_nil (hK' _ ?_)
      refine AW.st (by simp [dNum]; rfl) ?_
      clear hK' K'
      refine AW_then fun K1 hK1 => ?_
      refine AW_rg (tyOf_good _) [0, 1, 2, 30] [] (fun _ _ => trivial) fun K' hK' => ?_
      repeat (refine sxf_next fun K2 hK2 => ?_; simp [dNum, bs_size, dS, h1, h1', h2, h2', h3, h3']; (repeat (refine ⟨by omega, ?_⟩)); refine hK2 _ ?_; clear hK2 K2)
      refine sxf_nil (hK' _ ?_)
      refine AW.st (by simp [dNum, bs_size, dS, h1, h1', h2, h2', h3, h3']; rfl) ?_
      clear hK' K'
      refine AW_cond false rfl (fun h => by cases h) (fun _ => ?_)
      refine AW_skip (hK1 _ ?_)
      refine AW_rg (tyOf_good _) [1, 2, 7, 8] [] (fun _ _ => trivial) fun K' hK' => ?_
      repeat (refine sxf_next fun K2 hK2 => ?_; simp [dNum]; (repeat (refine ⟨by omega, ?_⟩)); refine hK2 _ ?_; clear hK2 K2)
      refine sxf_next fun K2 hK2 => ?_
      simp [dNum]
      refine callK.data (hp) (by simp; rfl) (by first | exact D.leGo_refl _ | simp [takeMap, List.map_map, Function.comp_def, D.le, D.le.go, D.le_refl, D.leGo_refl, dNum]) ?_
      refine hK2 _ ?_
      clear hK2 K2
      simp only [putd, upd_lst]
      repeat (refine sxf_next fun K2 hK2 => ?_; simp [dNum]; (repeat (refine ⟨by omega, ?_⟩)); refine hK2 _ ?_; clear hK2 K2)
      refine sxf_nil (hK' _ ?_)
      refine AW.st (by simp [dNum]; rfl) ?_
      clear hK' K'
      refine AW_then fun K2 hK2 => ?_
      refine AW_rg (tyOf_good _) [1, 2, 7, 41] [] (fun _ _ => trivial) fun K' hK' => ?_
      repeat (refine sxf_next fun K2 hK2 => ?_; simp [dNum]; (repeat (refine ⟨by omega, ?_⟩)); refine hK2 _ ?_; clear hK2 K2)
      refine sxf_next fun K2 hK2 => ?_
      simp [dNum]
      refine callK.data (hgt) (by simp; rfl) (by first | exact D.leGo_refl _ | simp [takeMap, List.map_map, Function.comp_def, D.le, D.le.go, D.le_refl, D.leGo_refl, dNum]) ?_
      refine hK2 _ ?_
      clear hK2 K2
      simp only [putd, upd_lst]
      repeat (refine sxf_next fun K2 hK2 => ?_; simp [dNum]; (repeat (refine ⟨by omega, ?_⟩)); refine hK2 _ ?_; clear hK2 K2)
      refine sxf_nil (hK' _ ?_)
      refine AW.st (by simp [dNum]; rfl) ?_
      clear hK' K'
      refine AW_cond false rfl (fun h => by cases h) (fun _ => ?_)
      refine AW_skip (hK2 _ ?_)
      refine AW_rg (tyOf_good _) [1, 2, 7, 9, 10] [] (fun _ _ => trivial) fun K' hK' => ?_
      repeat (refine sxf_next fun K2 hK2 => ?_; simp [dNum]; (repeat (refine ⟨by omega, ?_⟩)); refine hK2 _ ?_; clear hK2 K2)
      refine sxf_next fun K2 hK2 => ?_
      simp [dNum]
      refine callK.data (hns) (by simp; rfl) (by first | exact D.leGo_refl _ | simp [takeMap, List.map_map, Function.comp_def, D.le, D.le.go, D.le_refl, D.leGo_refl, dNum]) ?_
      refine hK2 _ ?_
      clear hK2 K2
      simp only [putd, upd_lst]
      repeat (refine sxf_next fun K2 hK2 => ?_; simp [dNum]; (repeat (refine ⟨by omega, ?_⟩)); refine hK2 _ ?_; clear hK2 K2)
      refine sxf_next fun K2 hK2 => ?_
      simp [dNum]
      refine callK.data (hes) (by simp; rfl) (by first | exact D.leGo_refl _ | simp [takeMap, List.map_map, Function.comp_def, D.le, D.le.go, D.le_refl, D.leGo_refl, dNum]) ?_
      refine hK2 _ ?_
      clear hK2 K2
      simp only [putd, upd_lst]
      repeat (refine sxf_next fun K2 hK2 => ?_; simp [dNum]; (repeat (refine ⟨by omega, ?_⟩)); refine hK2 _ ?_; clear hK2 K2)
      refine sxf_nil (hK' _ ?_)
      refine AW.st (by simp [dNum]; rfl) ?_
      clear hK' K'
      refine AW_then fun K3 hK3 => ?_
      refine AW_rg (tyOf_good _) [1, 2, 7, 9, 10, 52] [] (fun _ _ => trivial) fun K' hK' => ?_
      repeat (refine sxf_next fun K2 hK2 => ?_; simp [dNum, h6']; (repeat (refine ⟨by omega, ?_⟩)); refine hK2 _ ?_; clear hK2 K2)
      refine sxf_nil (hK' _ ?_)
      refine AW.st (by simp [dNum, h6']; rfl) ?_
      clear hK' K'
      refine AW_cond false (by simp [h6']) (fun h => by cases h) (fun _ => ?_)
      refine AW_skip (hK3 _ ?_)
      refine AW_rg (tyOf_good _) [1, 2, 7, 8, 9, 10, 11, 12] [11] (fun _ _ => trivial) fun K' hK' => ?_
      repeat (refine sxf_next fun K2 hK2 => ?_; simp [dNum]; (repeat (refine ⟨by omega, ?_⟩)); refine hK2 _ ?_; clear hK2 K2)
      refine sxf_next fun K2 hK2 => ?_
      simp [dNum]
      refine callK.data (hof) (by simp; rfl) (by first | exact D.leGo_refl _ | simp [takeMap, List.map_map, Function.comp_def, D.le, D.le.go, D.le_refl, D.leGo_refl, dNum]) ?_
      refine hK2 _ ?_
      clear hK2 K2
      simp only [putd, upd_lst]
      repeat (refine sxf_next fun K2 hK2 => ?_; simp [dNum]; (repeat (refine ⟨by omega, ?_⟩)); refine hK2 _ ?_; clear hK2 K2)
      refine sxf_nil (hK' _ ?_)
      refine AW.st (by simp [dNum]; rfl) ?_
      clear hK' K'
      refine AW_then fun K4 hK4 => ?_
      refine AW_rg (tyOf_good _) [1, 2, 7, 8, 9, 10, 11, 12, 64] [11] (fun _ _ => trivial) fun K' hK' => ?_
      repeat (refine sxf_next fun K2 hK2 => ?_; simp [dNum]; (repeat (refine ⟨by omega, ?_⟩)); refine hK2 _ ?_; clear hK2 K2)
      refine sxf_nil (hK' _ ?_)
      refine AW.st (by simp [dNum]; rfl) ?_
      clear hK' K'
      refine AW_cond true rfl (fun _ => ?_) (fun h => by cases h)
      refine AW_rg (tyOf_good _) [6] [] (fun _ _ => trivial) fun K' hK' => ?_
      repeat (refine sxf_next fun K2 hK2 => ?_; simp [dNum, codeF]; (repeat (refine ⟨by omega, ?_⟩)); refine hK2 _ ?_; clear hK2 K2)
      refine sxf_next fun K2 hK2 => ?_
      simp [dNum, codeF]
      refine callK.data (ht) (by simp; rfl) (by first | exact D.leGo_refl _ | simp [takeMap, List.map_map, Function.comp_def, D.le, D.le.go, D.le_refl, D.leGo_refl, dNum, codeF]) ?_
      refine hK2 _ ?_
      clear hK2 K2
      simp only [putd, upd_lst]
      repeat (refine sxf_next fun K2 hK2 => ?_; simp [dNum, codeF]; (repeat (refine ⟨by omega, ?_⟩)); refine hK2 _ ?_; clear hK2 K2)
      refine sxf_nil (hK' _ ?_)
      refine AW.st (by simp [dNum, codeF]; rfl) ?_
      clear hK' K'
      refine AW_ret ?_
      simp [D.le, D.le.go, takeMap, dNum]
    have hN : ∀ s ∈ nmsE true x, s ∈ namesE true x := fun s hs => namesE_mem.2 hs
    have hE : ∀ s ∈ nmsE false x, s ∈ namesE false x := fun s hs => namesE_mem.2 hs
    have hof := gof_spec G x hwf (by omega) (by omega)
    have hso := gsolve_e G x hwf (by omega) (by omega)
    obtain ⟨_, hse1, hse2⟩ := ts_search hN hE hwf
    have hbd := tsE_bounds x (by omega) (by omega)
    have hvars : (namesE true x).length + (namesE false x).length ≤ (tsE x).2.1 := litG_vars (namesE true x) (namesE false x) _ x (Nat.le_refl _) ((namesE true x).length + (namesE false x).length, [])
    have hne0 : (tsE x).1 ≠ 0 := (ts_tells hN hE hwf).2.1.1
    have hsr := namesE_srt true x
    have hsr2 := namesE_srt false x
    rw [allE_eq] at hso
    have hsE : searchF (tsAll (namesE true x) (namesE false x) x) (tsC (namesE true x) (namesE false x) x).2.1 ((namesE true x).length + (namesE false x).length + 1) [] 0 = srchE x := rfl
    rw [hsE] at hse1 hse2
    cases hr : (srchE x).1 with
    | false =>
      rw [hr] at hso
      have hno := hse2 hr (fun s => is.any fun x => x == s) (fun s => was.any fun x => x == s)
      have hev := tells2 G is was (by omega) (by omega) x (by omega)
      rw [hno] at hev
      have ha1 := among_spec G none is
      have ha2 := among_spec G none was
      have ht := hts (some (8, none))
      simp only [dErr] at ht
      clear hse1 hse2 hsE hN hE
      rw [hcx] at hp hns hes hof hev
      generalize tsE x = R at *
      generalize namesE true x = ns at *
      generalize namesE false x = es at *
      refine PureC.of_body (tyOf_good _) Tryz.func5 rfl rfl (rs := [.tmp 6]) Tryz.results5 (by simp [Tryz.ntmps5]) fun X => ?_
      simp only [Tryz.ntmps5, List.map]
      refine AW_rg (tyOf_good _) [0, 1, 2] [] (fun _ _ => trivial) fun K' hK' => ?_
      repeat (refine sxf_next fun K2 hK2 => ?_; simp [dNum]; (repeat (refine ⟨by omega, ?_⟩)); refine hK2 _ ?_; clear hK2 K2)
      refine sxf_nil (hK' _ ?_)
      refine AW.st (by simp [dNum]; rfl) ?_
      clear hK' K'
      refine AW_then fun K1 hK1 => ?_
      refine AW_rg (tyOf_good _) [0, 1, 2, 30] [] (fun _ _ => trivial) fun K' hK' => ?_
      repeat (refine sxf_next fun K2 hK2 => ?_; simp [dNum, bs_size, dS, h1, h1', h2, h2', h3, h3']; (repeat (refine ⟨by omega, ?_⟩)); refine hK2 _ ?_; clear hK2 K2)
      refine sxf_nil (hK' _ ?_)
      refine AW.st (by simp [dNum, bs_size, dS, h1, h1', h2, h2', h3, h3']; rfl) ?_
      clear hK' K'
      refine AW_cond false rfl (fun h => by cases h) (fun _ => ?_)
      refine AW_skip (hK1 _ ?_)
      refine AW_rg (tyOf_good _) [1, 2, 7, 8] [] (fun _ _ => trivial) fun K' hK' => ?_
      repeat (refine sxf_next fun K2 hK2 => ?_; simp [dNum]; (repeat (refine ⟨by omega, ?_⟩)); refine hK2 _ ?_; clear hK2 K2)
      refine sxf_next fun K2 hK2 => ?_
      simp [dNum]
      refine callK.data (hp) (by simp; rfl) (by first | exact D.leGo_refl _ | simp [takeMap, List.map_map, Function.comp_def, D.le, D.le.go, D.le_refl, D.leGo_refl, dNum]) ?_
      refine hK2 _ ?_
      clear hK2 K2
      simp only [putd, upd_lst]
      repeat (refine sxf_next fun K2 hK2 => ?_; simp [dNum]; (repeat (refine ⟨by omega, ?_⟩)); refine hK2 _ ?_; clear hK2 K2)
      refine sxf_nil (hK' _ ?_)
      refine AW.st (by simp [dNum]; rfl) ?_
      clear hK' K'
      refine AW_then fun K2 hK2 => ?_
      refine AW_rg (tyOf_good _) [1, 2, 7, 41] [] (fun _ _ => trivial) fun K' hK' => ?_
      repeat (refine sxf_next fun K2 hK2 => ?_; simp [dNum]; (repeat (refine ⟨by omega, ?_⟩)); refine hK2 _ ?_; clear hK2 K2)
      refine sxf_next fun K2 hK2 => ?_
      simp [dNum]
      refine callK.data (hgt) (by simp; rfl) (by first | exact D.leGo_refl _ | simp [takeMap, List.map_map, Function.comp_def, D.le, D.le.go, D.le_refl, D.leGo_refl, dNum]) ?_
      refine hK2 _ ?_
      clear hK2 K2
      simp only [putd, upd_lst]
      repeat (refine sxf_next fun K2 hK2 => ?_; simp [dNum]; (repeat (refine ⟨by omega, ?_⟩)); refine hK2 _ ?_; clear hK2 K2)
      refine sxf_nil (hK' _ ?_)
      refine AW.st (by simp [dNum]; rfl) ?_
      clear hK' K'
      refine AW_cond false rfl (fun h => by cases h) (fun _ => ?_)
      refine AW_skip (hK2 _ ?_)
      refine AW_rg (tyOf_good _) [1, 2, 7, 9, 10] [] (fun _ _ => trivial) fun K' hK' => ?_
      repeat (refine sxf_next fun K2 hK2 => ?_; simp [dNum]; (repeat (refine ⟨by omega, ?_⟩)); refine hK2 _ ?_; clear hK2 K2)
      refine sxf_next fun K2 hK2 => ?_
      simp [dNum]
      refine callK.data (hns) (by simp; rfl) (by first | exact D.leGo_refl _ | simp [takeMap, List.map_map, Function.comp_def, D.le, D.le.go, D.le_refl, D.leGo_refl, dNum]) ?_
      refine hK2 _ ?_
      clear hK2 K2
      simp only [putd, upd_lst]
      repeat (refine sxf_next fun K2 hK2 => ?_; simp [dNum]; (repeat (refine ⟨by omega, ?_⟩)); refine hK2 _ ?_; clear hK2 K2)
      refine sxf_next fun K2 hK2 => ?_
      simp [dNum]
      refine callK.data (hes) (by simp; rfl) (by first | exact D.leGo_refl _ | simp [takeMap, List.map_map, Function.comp_def, D.le, D.le.go, D.le_refl, D.leGo_refl, dNum]) ?_
      refine hK2 _ ?_
      clear hK2 K2
      simp only [putd, upd_lst]
      repeat (refine sxf_next fun K2 hK2 => ?_; simp [dNum]; (repeat (refine ⟨by omega, ?_⟩)); refine hK2 _ ?_; clear hK2 K2)
      refine sxf_nil (hK' _ ?_)
      refine AW.st (by simp [dNum]; rfl) ?_
      clear hK' K'
      refine AW_then fun K3 hK3 => ?_
      refine AW_rg (tyOf_good _) [1, 2, 7, 9, 10, 52] [] (fun _ _ => trivial) fun K' hK' => ?_
      repeat (refine sxf_next fun K2 hK2 => ?_; simp [dNum, h6']; (repeat (refine ⟨by omega, ?_⟩)); refine hK2 _ ?_; clear hK2 K2)
      refine sxf_nil (hK' _ ?_)
      refine AW.st (by simp [dNum, h6']; rfl) ?_
      clear hK' K'
      refine AW_cond false (by simp [h6']) (fun h => by cases h) (fun _ => ?_)
      refine AW_skip (hK3 _ ?_)
      refine AW_rg (tyOf_good _) [1, 2, 7, 8, 9, 10, 11, 12] [11, 502] (fun _ _ => trivial) fun K' hK' => ?_
      repeat (refine sxf_next fun K2 hK2 => ?_; simp [dNum]; (repeat (refine ⟨by omega, ?_⟩)); refine hK2 _ ?_; clear hK2 K2)
      refine sxf_next fun K2 hK2 => ?_
      simp [dNum]
      refine callK.mc (hof) (by simp [dNum]) (by simp [dNum]) (by simp [dNum]) (by simp [dNum]) ?_
      simp [dNum]
      refine hK2 _ ?_
      clear hK2 K2
      repeat (refine sxf_next fun K2 hK2 => ?_; simp [dNum]; (repeat (refine ⟨by omega, ?_⟩)); refine hK2 _ ?_; clear hK2 K2)
      refine sxf_nil (hK' _ ?_)
      refine AW.st (by simp [dNum]; rfl) ?_
      clear hK' K'
      refine AW_then fun K4 hK4 => ?_
      refine AW_rg (tyOf_good _) [1, 2, 7, 8, 9, 10, 11, 12, 64] [11, 502] (fun _ _ => trivial) fun K' hK' => ?_
      repeat (refine sxf_next fun K2 hK2 => ?_; simp [dNum, hne0]; (repeat (refine ⟨by omega, ?_⟩)); refine hK2 _ ?_; clear hK2 K2)
      refine sxf_nil (hK' _ ?_)
      refine AW.st (by simp [dNum, hne0]; rfl) ?_
      clear hK' K'
      refine AW_cond false (by simp [hne0]) (fun h => by cases h) (fun _ => ?_)
      refine AW_skip (hK4 _ ?_)
      have hbl := hbd.2.1
      have htk : List.take R.2.2.length (R.2.2.map fun l => [dRow l]) = R.2.2.map fun l => [dRow l] := List.take_of_length_le (by simp)
      simp only [dRow, dInts] at htk
      refine AW_rg (tyOf_good _) [1, 2, 7, 9, 10, 11] [11, 68] (fun _ _ => trivial) fun K' hK' => ?_
      repeat (refine sxf_next fun K2 hK2 => ?_; simp [dNum, htk, dRow, dInts]; (repeat (refine ⟨by omega, ?_⟩)); refine hK2 _ ?_; clear hK2 K2)
      refine sxf_nil (hK' _ ?_)
      refine AW.st (by simp [dNum, htk, dRow, dInts]; rfl) ?_
      clear hK' K'
      have htk2 : List.take (R.2.2.length + 1) ((R.2.2.map fun l => [dRow l]) ++ [[dRow [R.1]]]) = (R.2.2.map fun l => [dRow l]) ++ [[dRow [R.1]]] := List.take_of_length_le (by simp)
      simp only [dRow, dInts, dNum, List.map_cons, List.map_nil] at htk2
      refine AW.imp (Imp.freeze 68 trivial) ?_
      refine AW.st (by simp [dNum, htk2, dRow, dInts]; rfl) ?_
      simp only [Bool.false_eq_true, if_false, dErr] at hso
      refine AW_rg (tyOf_good _) [1, 2, 7, 8, 9, 10, 11, 13] [11] (fun _ _ => trivial) fun K' hK' => ?_
      repeat (refine sxf_next fun K2 hK2 => ?_; simp [dNum, dCl, dRows, dRow, dInts, htk2]; (repeat (refine ⟨by omega, ?_⟩)); refine hK2 _ ?_; clear hK2 K2)
      refine sxf_next fun K2 hK2 => ?_
      simp [dNum, dCl, dRows, dRow, dInts, htk2]
      refine callK.data (hso) (by simp; rfl) (by first | exact D.leGo_refl _ | simp [takeMap, List.map_map, Function.comp_def, D.le, D.le.go, D.le_refl, D.leGo_refl, dNum, dCl, dRows, dRow, dInts, htk2]) ?_
      refine hK2 _ ?_
      clear hK2 K2
      simp only [putd, upd_lst]
      repeat (refine sxf_next fun K2 hK2 => ?_; simp [dNum, dCl, dRows, dRow, dInts, htk2]; (repeat (refine ⟨by omega, ?_⟩)); refine hK2 _ ?_; clear hK2 K2)
      refine sxf_nil (hK' _ ?_)
      refine AW.st (by simp [dNum, dCl, dRows, dRow, dInts, htk2]; rfl) ?_
      clear hK' K'
      refine AW_then fun K5 hK5 => ?_
      refine AW_rg (tyOf_good _) [1, 2, 7, 8, 9, 10, 11, 13, 83] [11] (fun _ _ => trivial) fun K' hK' => ?_
      repeat (refine sxf_next fun K2 hK2 => ?_; simp [dNum]; (repeat (refine ⟨by omega, ?_⟩)); refine hK2 _ ?_; clear hK2 K2)
      refine sxf_nil (hK' _ ?_)
      refine AW.st (by simp [dNum]; rfl) ?_
      clear hK' K'
      refine AW_cond true rfl (fun _ => ?_) (fun h => by cases h)
      refine AW_rg (tyOf_good _) [6] [] (fun _ _ => trivial) fun K' hK' => ?_
      repeat (refine sxf_next fun K2 hK2 => ?_; simp [dNum, codeF, dAm]; (repeat (refine ⟨by omega, ?_⟩)); refine hK2 _ ?_; clear hK2 K2)
      refine sxf_next fun K2 hK2 => ?_
      simp [dNum, codeF, dAm]
      refine callK.data (ht) (by simp; rfl) (by first | exact D.leGo_refl _ | simp [takeMap, List.map_map, Function.comp_def, D.le, D.le.go, D.le_refl, D.leGo_refl, dNum, codeF, dAm]) ?_
      refine hK2 _ ?_
      clear hK2 K2
      simp only [putd, upd_lst]
      repeat (refine sxf_next fun K2 hK2 => ?_; simp [dNum, codeF, dAm]; (repeat (refine ⟨by omega, ?_⟩)); refine hK2 _ ?_; clear hK2 K2)
      refine sxf_next fun K2 hK2 => ?_
      simp [dNum, codeF, dAm]
      refine callK.data (ha1) (by simp; rfl) (by first | exact D.leGo_refl _ | simp [takeMap, List.map_map, Function.comp_def, D.le, D.le.go, D.le_refl, D.leGo_refl, dNum, codeF, dAm]) ?_
      refine hK2 _ ?_
      clear hK2 K2
      simp only [putd, upd_lst]
      repeat (refine sxf_next fun K2 hK2 => ?_; simp [dNum, codeF, dAm]; (repeat (refine ⟨by omega, ?_⟩)); refine hK2 _ ?_; clear hK2 K2)
      refine sxf_next fun K2 hK2 => ?_
      simp [dNum, codeF, dAm]
      refine callK.data (ha2) (by simp; rfl) (by first | exact D.leGo_refl _ | simp [takeMap, List.map_map, Function.comp_def, D.le, D.le.go, D.le_refl, D.leGo_refl, dNum, codeF, dAm]) ?_
      refine hK2 _ ?_
      clear hK2 K2
      simp only [putd, upd_lst]
      repeat (refine sxf_next fun K2 hK2 => ?_; simp [dNum, codeF, dAm]; (repeat (refine ⟨by omega, ?_⟩)); refine hK2 _ ?_; clear hK2 K2)
      refine sxf_next fun K2 hK2 => ?_
      simp [dNum, codeF, dAm]
      refine callK.data (hev) (by simp; rfl) (by first | exact D.leGo_refl _ | simp [takeMap, List.map_map, Function.comp_def, D.le, D.le.go, D.le_refl, D.leGo_refl, dNum, codeF, dAm]) ?_
      refine hK2 _ ?_
      clear hK2 K2
      simp only [putd, upd_lst]
      repeat (refine sxf_next fun K2 hK2 => ?_; simp [dNum, codeF, dAm]; (repeat (refine ⟨by omega, ?_⟩)); refine hK2 _ ?_; clear hK2 K2)
      refine sxf_nil (hK' _ ?_)
      refine AW.st (by simp [dNum, codeF, dAm]; rfl) ?_
      clear hK' K'
      refine AW_ret ?_
      simp [D.le, D.le.go, takeMap, dNum]
    | true =>
      rw [hr] at hso
      have hyes := hse1 hr
      have hext : evE (fun s => (pickTo (namesE true x) 0 (valT (srchE x).2.1) (namesE true x).length).any fun y => y == s) (fun s => (pickTo (namesE false x) (namesE true x).length (valT (srchE x).2.1) (namesE false x).length).any fun y => y == s) x = true := by
        refine Eq.trans ?_ hyes
        refine ev_names _ _ _ _ _ x (Nat.le_refl _) hwf (fun s hs => ?_) (fun s hs => ?_)
        · rw [pickTo_any hsr 0 _ (hN s hs)]
          unfold isTs
          rw [Nat.zero_add]
        · rw [pickTo_any hsr2 _ _ (hE s hs)]
          rfl
      clear hse1 hse2 hsE hN hE hyes
      have hpl1 := pickTo_len (namesE true x) 0 (valT (srchE x).2.1) (namesE true x).length
      have hpl2 := pickTo_len (namesE false x) (namesE true x).length (valT (srchE x).2.1) (namesE false x).length
      have ha1 := among_spec G none (pickTo (namesE true x) 0 (valT (srchE x).2.1) (namesE true x).length)
      have ha2 := among_spec G none (pickTo (namesE false x) (namesE true x).length (valT (srchE x).2.1) (namesE false x).length)
      have hev := eval_spec G _ _ _ _ _ _ (among_tells G none (pickTo (namesE true x) 0 (valT (srchE x).2.1) (namesE true x).length) (by omega)) (among_tells G none (pickTo (namesE false x) (namesE true x).length (valT (srchE x).2.1) (namesE false x).length) (by omega)) x (by omega)
      rw [hext] at hev
      rw [hcx] at hp hns hes hof hev
      simp only [if_true, dErr] at hso
      generalize valT (srchE x).2.1 = β at *
      generalize tsE x = R at *
      generalize namesE true x = ns at *
      generalize namesE false x = es at *
      refine PureC.of_body (tyOf_good _) Tryz.func5 rfl rfl (rs := [.tmp 6]) Tryz.results5 (by simp [Tryz.ntmps5]) fun X => ?_
      simp only [Tryz.ntmps5, List.map]
      refine AW_rg (tyOf_good _) [0, 1, 2] [] (fun _ _ => trivial) fun K' hK' => ?_
      repeat (refine sxf_next fun K2 hK2 => ?_; simp [dNum]; (repeat (refine ⟨by omega, ?_⟩)); refine hK2 _ ?_; clear hK2 K2)
      refine sxf_nil (hK' _ ?_)
      refine AW.st (by simp [dNum]; rfl) ?_
      clear hK' K'
      refine AW_then fun K1 hK1 => ?_
      refine AW_rg (tyOf_good _) [0, 1, 2, 30] [] (fun _ _ => trivial) fun K' hK' => ?_
      repeat (refine sxf_next fun K2 hK2 => ?_; simp [dNum, bs_size, dS, h1, h1', h2, h2', h3, h3']; (repeat (refine ⟨by omega, ?_⟩)); refine hK2 _ ?_; clear hK2 K2)
      refine sxf_nil (hK' _ ?_)
      refine AW.st (by simp [dNum, bs_size, dS, h1, h1', h2, h2', h3, h3']; rfl) ?_
      clear hK' K'
      refine AW_cond false rfl (fun h => by cases h) (fun _ => ?_)
      refine AW_skip (hK1 _ ?_)
      refine AW_rg (tyOf_good _) [1, 2, 7, 8] [] (fun _ _ => trivial) fun K' hK' => ?_
      repeat (refine sxf_next fun K2 hK2 => ?_; simp [dNum]; (repeat (refine ⟨by omega, ?_⟩)); refine hK2 _ ?_; clear hK2 K2)
      refine sxf_next fun K2 hK2 => ?_
      simp [dNum]
      refine callK.data (hp) (by simp; rfl) (by first | exact D.leGo_refl _ | simp [takeMap, List.map_map, Function.comp_def, D.le, D.le.go, D.le_refl, D.leGo_refl, dNum]) ?_
      refine hK2 _ ?_
      clear hK2 K2
      simp only [putd, upd_lst]
      repeat (refine sxf_next fun K2 hK2 => ?_; simp [dNum]; (repeat (refine ⟨by omega, ?_⟩)); refine hK2 _ ?_; clear hK2 K2)
      refine sxf_nil (hK' _ ?_)
      refine AW.st (by simp [dNum]; rfl) ?_
      clear hK' K'
      refine AW_then fun K2 hK2 => ?_
      refine AW_rg (tyOf_good _) [1, 2, 7, 41] [] (fun _ _ => trivial) fun K' hK' => ?_
      repeat (refine sxf_next fun K2 hK2 => ?_; simp [dNum]; (repeat (refine ⟨by omega, ?_⟩)); refine hK2 _ ?_; clear hK2 K2)
      refine sxf_next fun K2 hK2 => ?_
      simp [dNum]
      refine callK.data (hgt) (by simp; rfl) (by first | exact D.leGo_refl _ | simp [takeMap, List.map_map, Function.comp_def, D.le, D.le.go, D.le_refl, D.leGo_refl, dNum]) ?_
      refine hK2 _ ?_
      clear hK2 K2
      simp only [putd, upd_lst]
      repeat (refine sxf_next fun K2 hK2 => ?_; simp [dNum]; (repeat (refine ⟨by omega, ?_⟩)); refine hK2 _ ?_; clear hK2 K2)
      refine sxf_nil (hK' _ ?_)
      refine AW.st (by simp [dNum]; rfl) ?_
      clear hK' K'
      refine AW_cond false rfl (fun h => by cases h) (fun _ => ?_)
      refine AW_skip (hK2 _ ?_)
      refine AW_rg (tyOf_good _) [1, 2, 7, 9, 10] [] (fun _ _ => trivial) fun K' hK' => ?_
      repeat (refine sxf_next fun K2 hK2 => ?_; simp [dNum]; (repeat (refine ⟨by omega, ?_⟩)); refine hK2 _ ?_; clear hK2 K2)
      refine sxf_next fun K2 hK2 => ?_
      simp [dNum]
      refine callK.data (hns) (by simp; rfl) (by first | exact D.leGo_refl _ | simp [takeMap, List.map_map, Function.comp_def, D.le, D.le.go, D.le_refl, D.leGo_refl, dNum]) ?_
      refine hK2 _ ?_
      clear hK2 K2
      simp only [putd, upd_lst]
      repeat (refine sxf_next fun K2 hK2 => ?_; simp [dNum]; (repeat (refine ⟨by omega, ?_⟩)); refine hK2 _ ?_; clear hK2 K2)
      refine sxf_next fun K2 hK2 => ?_
      simp [dNum]
      refine callK.data (hes) (by simp; rfl) (by first | exact D.leGo_refl _ | simp [takeMap, List.map_map, Function.comp_def, D.le, D.le.go, D.le_refl, D.leGo_refl, dNum]) ?_
      refine hK2 _ ?_
      clear hK2 K2
      simp only [putd, upd_lst]
      repeat (refine sxf_next fun K2 hK2 => ?_; simp [dNum]; (repeat (refine ⟨by omega, ?_⟩)); refine hK2 _ ?_; clear hK2 K2)
      refine sxf_nil (hK' _ ?_)
      refine AW.st (by simp [dNum]; rfl) ?_
      clear hK' K'
      refine AW_then fun K3 hK3 => ?_
      refine AW_rg (tyOf_good _) [1, 2, 7, 9, 10, 52] [] (fun _ _ => trivial) fun K' hK' => ?_
      repeat (refine sxf_next fun K2 hK2 => ?_; simp [dNum, h6']; (repeat (refine ⟨by omega, ?_⟩)); refine hK2 _ ?_; clear hK2 K2)
      refine sxf_nil (hK' _ ?_)
      refine AW.st (by simp [dNum, h6']; rfl) ?_
      clear hK' K'
      refine AW_cond false (by simp [h6']) (fun h => by cases h) (fun _ => ?_)
      refine AW_skip (hK3 _ ?_)
      refine AW_rg (tyOf_good _) [1, 2, 7, 8, 9, 10, 11, 12] [11, 502] (fun _ _ => trivial) fun K' hK' => ?_
      repeat (refine sxf_next fun K2 hK2 => ?_; simp [dNum]; (repeat (refine ⟨by omega, ?_⟩)); refine hK2 _ ?_; clear hK2 K2)
      refine sxf_next fun K2 hK2 => ?_
      simp [dNum]
      refine callK.mc (hof) (by simp [dNum]) (by simp [dNum]) (by simp [dNum]) (by simp [dNum]) ?_
      simp [dNum]
      refine hK2 _ ?_
      clear hK2 K2
      repeat (refine sxf_next fun K2 hK2 => ?_; simp [dNum]; (repeat (refine ⟨by omega, ?_⟩)); refine hK2 _ ?_; clear hK2 K2)
      refine sxf_nil (hK' _ ?_)
      refine AW.st (by simp [dNum]; rfl) ?_
      clear hK' K'
      refine AW_then fun K4 hK4 => ?_
      refine AW_rg (tyOf_good _) [1, 2, 7, 8, 9, 10, 11, 12, 64] [11, 502] (fun _ _ => trivial) fun K' hK' => ?_
      repeat (refine sxf_next fun K2 hK2 => ?_; simp [dNum, hne0]; (repeat (refine ⟨by omega, ?_⟩)); refine hK2 _ ?_; clear hK2 K2)
      refine sxf_nil (hK' _ ?_)
      refine AW.st (by simp [dNum, hne0]; rfl) ?_
      clear hK' K'
      refine AW_cond false (by simp [hne0]) (fun h => by cases h) (fun _ => ?_)
      refine AW_skip (hK4 _ ?_)
      have hbl := hbd.2.1
      have htk : List.take R.2.2.length (R.2.2.map fun l => [dRow l]) = R.2.2.map fun l => [dRow l] := List.take_of_length_le (by simp)
      simp only [dRow, dInts] at htk
      refine AW_rg (tyOf_good _) [1, 2, 7, 9, 10, 11] [11, 68] (fun _ _ => trivial) fun K' hK' => ?_
      repeat (refine sxf_next fun K2 hK2 => ?_; simp [dNum, htk, dRow, dInts]; (repeat (refine ⟨by omega, ?_⟩)); refine hK2 _ ?_; clear hK2 K2)
      refine sxf_nil (hK' _ ?_)
      refine AW.st (by simp [dNum, htk, dRow, dInts]; rfl) ?_
      clear hK' K'
      have htk2 : List.take (R.2.2.length + 1) ((R.2.2.map fun l => [dRow l]) ++ [[dRow [R.1]]]) = (R.2.2.map fun l => [dRow l]) ++ [[dRow [R.1]]] := List.take_of_length_le (by simp)
      simp only [dRow, dInts, dNum, List.map_cons, List.map_nil] at htk2
      refine AW.imp (Imp.freeze 68 trivial) ?_
      refine AW.st (by simp [dNum, htk2, dRow, dInts]; rfl) ?_
      refine AW_rg (tyOf_good _) [1, 2, 7, 8, 9, 10, 11, 13] [11] (fun _ _ => trivial) fun K' hK' => ?_
      repeat (refine sxf_next fun K2 hK2 => ?_; simp [dNum, dCl, dRows, dRow, dInts, htk2]; (repeat (refine ⟨by omega, ?_⟩)); refine hK2 _ ?_; clear hK2 K2)
      refine sxf_next fun K2 hK2 => ?_
      simp [dNum, dCl, dRows, dRow, dInts, htk2]
      refine callK.data (hso) (by simp; rfl) (by first | exact D.leGo_refl _ | simp [takeMap, List.map_map, Function.comp_def, D.le, D.le.go, D.le_refl, D.leGo_refl, dNum, dCl, dRows, dRow, dInts, htk2]) ?_
      refine hK2 _ ?_
      clear hK2 K2
      simp only [putd, upd_lst]
      repeat (refine sxf_next fun K2 hK2 => ?_; simp [dNum, dCl, dRows, dRow, dInts, htk2]; (repeat (refine ⟨by omega, ?_⟩)); refine hK2 _ ?_; clear hK2 K2)
      refine sxf_nil (hK' _ ?_)
      refine AW.st (by simp [dNum, dCl, dRows, dRow, dInts, htk2]; rfl) ?_
      clear hK' K'
      refine AW_then fun K5 hK5 => ?_
      refine AW_rg (tyOf_good _) [1, 2, 7, 8, 9, 10, 11, 13, 83] [11] (fun _ _ => trivial) fun K' hK' => ?_
      repeat (refine sxf_next fun K2 hK2 => ?_; simp [dNum]; (repeat (refine ⟨by omega, ?_⟩)); refine hK2 _ ?_; clear hK2 K2)
      refine sxf_nil (hK' _ ?_)
      refine AW.st (by simp [dNum]; rfl) ?_
      clear hK' K'
      refine AW_cond false rfl (fun h => by cases h) (fun _ => ?_)
      refine AW_skip (hK5 _ ?_)
      refine AW_then fun K6 hK6 => ?_
      have hlt : ¬ (R.2.1 : Int) < (ns.length : Int) + (es.length : Int) := by omega
      refine AW_rg (tyOf_good _) [7, 9, 10, 13, 110] [] (fun _ _ => trivial) fun K' hK' => ?_
      repeat (refine sxf_next fun K2 hK2 => ?_; simp [dNum, dVals, hlt]; (repeat (refine ⟨by omega, ?_⟩)); refine hK2 _ ?_; clear hK2 K2)
      refine sxf_nil (hK' _ ?_)
      refine AW.st (by simp [dNum, dVals, hlt]; rfl) ?_
      clear hK' K'
      refine AW_cond false (by simp [hlt]) (fun h => by cases h) (fun _ => ?_)
      refine AW_skip (hK6 _ ?_)
      refine AW_rg (tyOf_good _) [7, 9, 10, 13, 14, 15] [] (fun _ _ => trivial) fun K' hK' => ?_
      repeat (refine sxf_next fun K2 hK2 => ?_; simp [dNum, dVals]; (repeat (refine ⟨by omega, ?_⟩)); refine hK2 _ ?_; clear hK2 K2)
      refine sxf_nil (hK' _ ?_)
      refine AW.st (by simp [dNum, dVals]; rfl) ?_
      clear hK' K'
      refine AW_then fun K7 hK7 => ?_
      refine AW_rg (tyOf_good _) [7, 9, 10, 13, 14, 15, 16] [] (fun _ _ => trivial) fun K' hK' => ?_
      repeat (refine sxf_next fun K2 hK2 => ?_; simp [dNum]; (repeat (refine ⟨by omega, ?_⟩)); refine hK2 _ ?_; clear hK2 K2)
      refine sxf_nil (hK' _ ?_)
      refine AW.st (by simp [dNum]; rfl) ?_
      clear hK' K'
      refine AW_for (S := Nat) (fun i => i ≤ ns.length) (fun i => ⟨lst [(7, .d (.ifc tx cx)), (9, .d (.sl none (ns.map fun s => [dS s]))), (10, .d (.sl none (es.map fun s => [dS s]))), (13, .d (dVals R.2.1 β)), (14, .own 300 0 (pickTo ns 0 β i).length), (15, .d (.sl (some false) [])), (16, int i)], hlst [(300, .sl 9 1 ((pickTo ns 0 β i).map fun s => [dS s]))]⟩) (fun i => ns.length - i) 0 ?_ (by omega) ?_
      · refine (Imp.adopt 14 300 9 1 rfl rfl).trans ?_
        refine Imp.to' (fun _ _ => trivial) (by simp [dNum, pickTo, dVals]) (by simp [dNum, pickTo, dVals])
      · intro i hi
        refine AW_then fun K8 hK8 => ?_
        refine AW_rg (tyOf_good _) [7, 9, 10, 13, 14, 15, 16, 114] [300] (fun _ _ => trivial) fun K' hK' => ?_
        repeat (refine sxf_next fun K2 hK2 => ?_; simp [dNum]; (repeat (refine ⟨by omega, ?_⟩)); refine hK2 _ ?_; clear hK2 K2)
        refine sxf_nil (hK' _ ?_)
        refine AW.st (by simp [dNum]; rfl) ?_
        clear hK' K'
        refine AW_cond' (b := i < ns.length) (by simp [D.le, D.le.go, takeMap, dNum]) (fun hc => ?_) (fun hc => ?_)
        · have hil : i < ns.length := hc
          have hiR : i < R.2.1 := by omega
          have hsuc := pickTo_succ ns 0 β i
          rw [Nat.zero_add] at hsuc
          have hpl := pickTo_len ns 0 β i
          refine AW_skip (hK8 _ ?_)
          refine AW_then fun K9 hK9 => ?_
          refine AW_block ?_
          refine AW_rg (tyOf_good _) [7, 9, 10, 13, 14, 15, 16, 120] [300] (fun _ _ => trivial) fun K' hK' => ?_
          repeat (refine sxf_next fun K2 hK2 => ?_; simp [dNum, dVals, hiR]; (repeat (refine ⟨by omega, ?_⟩)); refine hK2 _ ?_; clear hK2 K2)
          refine sxf_nil (hK' _ ?_)
          refine AW.st (by simp [dNum, dVals, hiR]; rfl) ?_
          clear hK' K'
          cases hbi : β (i + 1) with
          | true =>
            rw [hbi] at hsuc
            have hsl : (pickTo ns 0 β (i + 1)).length = (pickTo ns 0 β i).length + 1 := by rw [hsuc]; simp
            refine AW_cond true (by simp [hbi]) (fun _ => ?_) (fun h => by cases h)
            refine AW_re (tyOf_good _) fun K' hK' => ?_
            repeat (refine sxf_next fun K2 hK2 => ?_; simp [dNum, hil, takeMap, dS]; (repeat (refine ⟨by omega, ?_⟩)); refine hK2 _ ?_; clear hK2 K2)
            refine sxf_nil (hK' _ ?_)
            clear hK' K'
            refine hK9 _ (AW.norm [7, 9, 10, 13, 14, 15, 16] [300] (fun _ _ => trivial) (AW.st (by simp [dNum, hil, takeMap, dS]; rfl) ?_))
            refine AW_re (tyOf_good _) fun K' hK' => ?_
            repeat (refine sxf_next fun K2 hK2 => ?_; simp [dNum]; (repeat (refine ⟨by omega, ?_⟩)); refine hK2 _ ?_; clear hK2 K2)
            refine sxf_nil (hK' _ ?_)
            clear hK' K'
            try simp only [thn, inb]
            refine Again.mk (i + 1) (by omega) (by omega) ?_
            refine Imp.to' (fun _ _ => trivial) (by simp [dNum, hsl, hsuc, hil, takeMap, dVals, dS]) (by simp [dNum, hsl, hsuc, hil, takeMap, dVals, dS])
          | false =>
            rw [hbi] at hsuc
            simp only [Bool.false_eq_true, if_false, List.append_nil] at hsuc
            refine AW_cond false (by simp [hbi]) (fun h => by cases h) (fun _ => ?_)
            refine AW_skip (hK9 _ ?_)
            refine AW_re (tyOf_good _) fun K' hK' => ?_
            repeat (refine sxf_next fun K2 hK2 => ?_; simp [dNum]; (repeat (refine ⟨by omega, ?_⟩)); refine hK2 _ ?_; clear hK2 K2)
            refine sxf_nil (hK' _ ?_)
            clear hK' K'
            try simp only [thn, inb]
            refine Again.mk (i + 1) (by omega) (by omega) ?_
            refine Imp.to' (fun _ _ => trivial) (by simp [dNum, hsuc, dVals]) (by simp [dNum, hsuc, dVals])
        · obtain rfl : i = ns.length := by omega
          refine AW_exit (hK7 _ ?_)
          refine AW.imp (Imp.freeze 300 trivial) ?_
          refine AW.st (by simp [dNum]; rfl) ?_
          generalize pickTo ns 0 β ns.length = A at *
          refine AW_then fun K10 hK10 => ?_
          refine AW_rg (tyOf_good _) [7, 9, 10, 13, 14, 15, 17] [] (fun _ _ => trivial) fun K' hK' => ?_
          repeat (refine sxf_next fun K2 hK2 => ?_; simp [dNum]; (repeat (refine ⟨by omega, ?_⟩)); refine hK2 _ ?_; clear hK2 K2)
          refine sxf_nil (hK' _ ?_)
          refine AW.st (by simp [dNum]; rfl) ?_
          clear hK' K'
          refine AW_for (S := Nat) (fun i => i ≤ es.length) (fun i => ⟨lst [(7, .d (.ifc tx cx)), (9, .d (.sl none (ns.map fun s => [dS s]))), (10, .d (.sl none (es.map fun s => [dS s]))), (13, .d (dVals R.2.1 β)), (14, .d (.sl none (A.map fun s => [dS s]))), (15, .own 301 0 (pickTo es ns.length β i).length), (17, int i)], hlst [(301, .sl 9 1 ((pickTo es ns.length β i).map fun s => [dS s]))]⟩) (fun i => es.length - i) 0 ?_ (by omega) ?_
          · refine (Imp.adopt 15 301 9 1 rfl rfl).trans ?_
            refine Imp.to' (fun _ _ => trivial) (by simp [dNum, pickTo, dVals]) (by simp [dNum, pickTo, dVals])
          · intro i hi
            refine AW_then fun K11 hK11 => ?_
            refine AW_rg (tyOf_good _) [7, 9, 10, 13, 14, 15, 17, 131] [301] (fun _ _ => trivial) fun K' hK' => ?_
            repeat (refine sxf_next fun K2 hK2 => ?_; simp [dNum]; (repeat (refine ⟨by omega, ?_⟩)); refine hK2 _ ?_; clear hK2 K2)
            refine sxf_nil (hK' _ ?_)
            refine AW.st (by simp [dNum]; rfl) ?_
            clear hK' K'
            refine AW_cond' (b := i < es.length) (by simp [D.le, D.le.go, takeMap, dNum]) (fun hc => ?_) (fun hc => ?_)
            · have hil : i < es.length := hc
              have hiR : ns.length + i < R.2.1 := by omega
              have hsuc := pickTo_succ es ns.length β i
              have hpl := pickTo_len es ns.length β i
              have hcast : ((ns.length : Int) + (i : Int)).toNat = ns.length + i := by omega
              have hge0 : (0 : Int) ≤ (ns.length : Int) + (i : Int) := by omega
              have hltR : (ns.length : Int) + (i : Int) < (R.2.1 : Int) := by omega
              refine AW_skip (hK11 _ ?_)
              refine AW_then fun K12 hK12 => ?_
              refine AW_block ?_
              refine AW_rg (tyOf_good _) [7, 9, 10, 13, 14, 15, 17, 140] [301] (fun _ _ => trivial) fun K' hK' => ?_
              repeat (refine sxf_next fun K2 hK2 => ?_; simp [dNum, dVals, hiR, hcast, hge0, hltR]; (repeat (refine ⟨by omega, ?_⟩)); refine hK2 _ ?_; clear hK2 K2)
              refine sxf_nil (hK' _ ?_)
              refine AW.st (by simp [dNum, dVals, hiR, hcast, hge0, hltR]; rfl) ?_
              clear hK' K'
              cases hbi : β (ns.length + i + 1) with
              | true =>
                rw [hbi] at hsuc
                have hsl : (pickTo es ns.length β (i + 1)).length = (pickTo es ns.length β i).length + 1 := by rw [hsuc]; simp
                refine AW_cond true (by simp [hbi]) (fun _ => ?_) (fun h => by cases h)
                refine AW_re (tyOf_good _) fun K' hK' => ?_
                repeat (refine sxf_next fun K2 hK2 => ?_; simp [dNum, hil, takeMap, dS]; (repeat (refine ⟨by omega, ?_⟩)); refine hK2 _ ?_; clear hK2 K2)
                refine sxf_nil (hK' _ ?_)
                clear hK' K'
                refine hK12 _ (AW.norm [7, 9, 10, 13, 14, 15, 17] [301] (fun _ _ => trivial) (AW.st (by simp [dNum, hil, takeMap, dS]; rfl) ?_))
                refine AW_re (tyOf_good _) fun K' hK' => ?_
                repeat (refine sxf_next fun K2 hK2 => ?_; simp [dNum]; (repeat (refine ⟨by omega, ?_⟩)); refine hK2 _ ?_; clear hK2 K2)
                refine sxf_nil (hK' _ ?_)
                clear hK' K'
                try simp only [thn, inb]
                refine Again.mk (i + 1) (by omega) (by omega) ?_
                refine Imp.to' (fun _ _ => trivial) (by simp [dNum, hsl, hsuc, hil, takeMap, dVals, dS]) (by simp [dNum, hsl, hsuc, hil, takeMap, dVals, dS])
              | false =>
                rw [hbi] at hsuc
                simp only [Bool.false_eq_true, if_false, List.append_nil] at hsuc
                refine AW_cond false (by simp [hbi]) (fun h => by cases h) (fun _ => ?_)
                refine AW_skip (hK12 _ ?_)
                refine AW_re (tyOf_good _) fun K' hK' => ?_
                repeat (refine sxf_next fun K2 hK2 => ?_; simp [dNum]; (repeat (refine ⟨by omega, ?_⟩)); refine hK2 _ ?_; clear hK2 K2)
                refine sxf_nil (hK' _ ?_)
                clear hK' K'
                try simp only [thn, inb]
                refine Again.mk (i + 1) (by omega) (by omega) ?_
                refine Imp.to' (fun _ _ => trivial) (by simp [dNum, hsuc, dVals]) (by simp [dNum, hsuc, dVals])
            · obtain rfl : i = es.length := by omega
              refine AW_exit (hK10 _ ?_)
              refine AW.imp (Imp.freeze 301 trivial) ?_
              refine AW.st (by simp [dNum]; rfl) ?_
              refine AW_rg (tyOf_good _) [6] [] (fun _ _ => trivial) fun K' hK' => ?_
              repeat (refine sxf_next fun K2 hK2 => ?_; simp [dNum, dAm]; (repeat (refine ⟨by omega, ?_⟩)); refine hK2 _ ?_; clear hK2 K2)
              refine sxf_next fun K2 hK2 => ?_
              simp [dNum, dAm]
              refine callK.data (ha1) (by simp; rfl) (by first | exact D.leGo_refl _ | simp [takeMap, List.map_map, Function.comp_def, D.le, D.le.go, D.le_refl, D.leGo_refl, dNum, dAm]) ?_
              refine hK2 _ ?_
              clear hK2 K2
              simp only [putd, upd_lst]
              repeat (refine sxf_next fun K2 hK2 => ?_; simp [dNum, dAm]; (repeat (refine ⟨by omega, ?_⟩)); refine hK2 _ ?_; clear hK2 K2)
              refine sxf_next fun K2 hK2 => ?_
              simp [dNum, dAm]
              refine callK.data (ha2) (by simp; rfl) (by first | exact D.leGo_refl _ | simp [takeMap, List.map_map, Function.comp_def, D.le, D.le.go, D.le_refl, D.leGo_refl, dNum, dAm]) ?_
              refine hK2 _ ?_
              clear hK2 K2
              simp only [putd, upd_lst]
              repeat (refine sxf_next fun K2 hK2 => ?_; simp [dNum, dAm]; (repeat (refine ⟨by omega, ?_⟩)); refine hK2 _ ?_; clear hK2 K2)
              refine sxf_next fun K2 hK2 => ?_
              simp [dNum, dAm]
              refine callK.data (hev) (by simp; rfl) (by first | exact D.leGo_refl _ | simp [takeMap, List.map_map, Function.comp_def, D.le, D.le.go, D.le_refl, D.leGo_refl, dNum, dAm]) ?_
              refine hK2 _ ?_
              clear hK2 K2
              simp only [putd, upd_lst]
              repeat (refine sxf_next fun K2 hK2 => ?_; simp [dNum, dAm]; (repeat (refine ⟨by omega, ?_⟩)); refine hK2 _ ?_; clear hK2 K2)
              refine sxf_nil (hK' _ ?_)
              refine AW.st (by simp [dNum, dAm]; rfl) ?_
              clear hK' K'
              refine AW_ret ?_
              simp [D.le, D.le.go, takeMap, dNum]
end Go.Proofs.YtagfbbnlbncjlaaGreatDoor

/-
  Tables, as they are read.
-/
namespace Go.Proofs.YtagfbbnlbncjlaaGreatDoor
set_option linter.unusedSimpArgs false
set_option linter.unusedVariables false
open Go.Av Go.ChangeShapes Go.WideShapes Go.ChangeAt Go.RowKit

theorem law_own : ownKnob Tryz.prog.godebug = none := by kernel_rfl
theorem law_laidOut : laidOutB Tryz.prog = true := by kernel_rfl
section
variable {H : Type} {enc : TypeId × Value → H} {w : World} {base : Nat} {spare : Nat → Bool} {held : Bool} {X : Nat → Prop}

end

end Go.Proofs.YtagfbbnlbncjlaaGreatDoor
