/-
  Texts that belong together, in one file: E4, G1, RT4, RT5, RT6, Av22.
-/
import Derived.Test.YtnlhioeefmhklaaDoorRq13
import Derived.RegionTactic
import Derived.ChangeAlike
/-
  What plain.Place tells of an error.
-/
namespace Go.Proofs.YtnlhioeefmhklaaDoor
set_option linter.unusedSimpArgs false
set_option linter.unusedVariables false
open Go.RowKit Go.Extern.Stop Go.Stop Go.Extern
open Go.Av

theorem ta_E (v : Value) (xT : TypeId) (w : World) : (Instr.typeAssert (.iface 30 v) xT 61 true).run Tryd.prog w = .ok (.tuple #[.pointer none, .bool false]) w := by kernel_rfl
theorem ta_A (v : Value) (xT : TypeId) (w : World) : (Instr.typeAssert (.iface 61 v) xT 61 true).run Tryd.prog w = .ok (.tuple #[v, .bool true]) w := by kernel_rfl
theorem ta_noUnwrap (v : Value) (xT : TypeId) (w : World) : (Instr.typeAssert (.iface 30 v) xT 78 true).run Tryd.prog w = .ok (.tuple #[.nilIface, .bool false]) w := run_typeAssert_lacksB Tryd.underlying78 (by kernel_rfl) (by kernel_rfl) v xT w

set_option maxHeartbeats 1000000 in
theorem place_nil (w : World) : Calls Tryd.prog 15 #[.nilIface] w fun e w' => e = .returned (.tuple #[.int .i64 0, .int .i64 (-1)]) ∧ Grew w w' := by
  go_enter Tryd.func15, Tryd.ntmps15
  go_wp2_with (go_at_call 30; refine (tell_nil _).mono ?_; rintro e w' ⟨rfl, rfl⟩)
  refine wp_loop_rounds 1 ?_
  rw [rounds_succ]
  go_wp2
  go_ret2
  exact ⟨rfl, Grew.refl _⟩

set_option maxHeartbeats 1000000 in
theorem place_errno (n : Int) (w : World) (hg : w.cell? ⟨1, 0, none⟩ = some errType) : Calls Tryd.prog 15 #[.iface 30 (.int .i64 n)] w fun e w' => e = .returned (.tuple #[.int .i64 n, .int .i64 (-1)]) ∧ Grew w w' := by
  have t1 := ta_E
  have t2 := ta_noUnwrap
  go_enter Tryd.func15, Tryd.ntmps15
  go_wp2_with (go_at_call 30; refine (tell_errno n _ hg).mono ?_; rintro e w' ⟨rfl, hgr⟩)
  refine wp_loop_rounds 1 ?_
  rw [rounds_succ]
  go_wp2
  go_ret2
  exact ⟨rfl, hgr⟩

set_option maxHeartbeats 1000000 in
theorem place_at (n s : Int) (b o : Nat) (w : World) (hg : w.cell? ⟨1, 0, none⟩ = some errType) (ha : w.cell? ⟨b, o, none⟩ = some (.int .i64 n)) (hs : w.cell? ⟨b, o + 1, none⟩ = some (.int .i64 s)) :
    Calls Tryd.prog 15 #[.iface 61 (.pointer (some ⟨b, o, none⟩))] w fun e w' => e = .returned (.tuple #[.int .i64 n, .int .i64 s]) ∧ Grew w w' := by
  have t1 := ta_A
  go_enter Tryd.func15, Tryd.ntmps15
  go_wp2_with (go_at_call 30; refine (tell_at n _ _ hg ha).mono ?_; rintro e w' ⟨rfl, hgr⟩)
  have hs' : w'.cell? ⟨b, o + 1, none⟩ = some (.int .i64 s) := by rw [World.cell?_of_block (w := w) (hgr.same b (cell_lt hs))]; exact hs
  refine wp_loop_rounds 1 ?_
  rw [rounds_succ]
  go_wp2
  go_region
  all_goals (go_wp2; go_ret2; exact ⟨rfl, hgr.size, hgr.os, hgr.tape, hgr.output, hgr.same⟩)

theorem place_spec (G : Glob) (hG : HasErr G) (e : Option (Int × Option Nat)) : PureC Tryd.prog G 15 [dErr e] (.tup [.v (.int .i64 (codeF e)), .v (.int .i64 (placeF e))]) := by
  refine PureC.of_calls (Fun.of Tryd.func15 rfl rfl) fun X w vs hsz hrd hgl => ?_
  have hg := hG.cell hgl
  obtain ⟨v, rfl⟩ : ∃ v, vs = #[v] := Array.size_eq_one_iff.1 hsz
  have hv := hrd 0 v _ rfl rfl
  have two : ∀ (w' : World) (a b : Int), RD w' X (.tuple #[.int .i64 a, .int .i64 b]) (.tup [.v (.int .i64 a), .v (.int .i64 b)]) := fun w' a b => .tup rfl fun j u c hu hc => by
    match j, hu, hc with
    | 0, hu, hc => simp at hu hc; subst hu hc; exact .v _
    | 1, hu, hc => simp at hu hc; subst hu hc; exact .v _
    | j + 2, hu, hc => simp at hu
  match e, hv with
  | none, hv =>
    have := hv.scalar
    subst this
    exact (place_nil w).mono fun e w' ⟨he, hw⟩ => ⟨_, he, hw, two _ _ _⟩
  | some (c, none), hv =>
    obtain ⟨u, rfl, hu⟩ := hv.ifc_inv
    have := hu.scalar
    subst this
    exact (place_errno c w hg).mono fun e w' ⟨he, hw⟩ => ⟨_, he, hw, two _ _ _⟩
  | some (c, some s), hv =>
    obtain ⟨u, rfl, hu⟩ := hv.ifc_inv
    obtain ⟨b, off, f, rfl, _, _, hc, hr⟩ := hu.ip_inv
    have h1 := hc 0 (by simp)
    have h2 := (hr 0 _ rfl).scalar
    rw [h2] at h1
    have h3 := hc 1 (by simp)
    have h4 := (hr 1 _ rfl).scalar
    rw [h4] at h3
    exact (place_at c s b off w hg h1 h3).mono fun e w' ⟨he, hw⟩ => ⟨_, he, hw, two _ _ _⟩
end Go.Proofs.YtnlhioeefmhklaaDoor

/-
  What the statements hold answers with: like lists, errors and their places.
-/
namespace Go.Proofs.YtnlhioeefmhklaaDoor
set_option linter.unusedSimpArgs false
set_option linter.unusedVariables false
open Go.Av

def dFault (e : Option (Int × Option Nat)) : D := .agg [dNum (codeF e), dNum (placeF e)]
def HasFine (G : Glob) : Prop := G 0 = some (.ip [dNum 0, dNum (-1)])

theorem bare0_spec (G : Glob) (c : Int) : PureC Tryd.prog G 13 [dNum c] (.agg [dNum c, dNum (-1)]) := by
  refine PureC.of_body (tyOf_good _) Tryd.func13 rfl rfl (rs := [.cell 2 32]) Tryd.results13 (by simp [Tryd.ntmps13]) fun X => ?_
  simp only [Tryd.ntmps13, List.map]
  refine AW_rg (tyOf_good _) [0, 2] [2] (fun _ _ => trivial) fun K' hK' => ?_
  repeat (refine sxf_next fun K2 hK2 => ?_; simp [dNum]; (repeat (refine ⟨by omega, ?_⟩)); refine hK2 _ ?_; clear hK2 K2)
  refine sxf_nil (hK' _ ?_)
  refine AW.st (by simp [dNum]; rfl) ?_
  clear hK' K'
  refine AW_rg (tyOf_good _) [2] [2] (fun _ _ => trivial) fun K' hK' => ?_
  repeat (refine sxf_next fun K2 hK2 => ?_; simp [dNum]; (repeat (refine ⟨by omega, ?_⟩)); refine hK2 _ ?_; clear hK2 K2)
  refine sxf_nil (hK' _ ?_)
  refine AW.st (by simp [dNum]; rfl) ?_
  clear hK' K'
  refine AW_ret ?_
  simp [D.le, D.le.go, takeMap, dNum]

theorem within_spec (G : Glob) (n lo hi : Int) : PureC Tryd.prog G 12 [dNum n, dNum lo, dNum hi] (.v (.bool (decide (lo ≤ n) && decide (n ≤ hi)))) := by
  refine PureC.of_body (tyOf_good _) Tryd.func12 rfl rfl (rs := [.tmp 6]) Tryd.results12 (by simp [Tryd.ntmps12]) fun X => ?_
  simp only [Tryd.ntmps12, List.map]
  refine AW_rg (tyOf_good _) [0, 1, 2] [] (fun _ _ => trivial) fun K' hK' => ?_
  repeat (refine sxf_next fun K2 hK2 => ?_; simp [dNum]; (repeat (refine ⟨by omega, ?_⟩)); refine hK2 _ ?_; clear hK2 K2)
  refine sxf_nil (hK' _ ?_)
  refine AW.st (by simp [dNum]; rfl) ?_
  clear hK' K'
  by_cases h1 : lo ≤ n
  · refine AW_rg (tyOf_good _) [6] [] (fun _ _ => trivial) fun K' hK' => ?_
    repeat (refine sxf_next fun K2 hK2 => ?_; simp [h1]; (repeat (refine ⟨by omega, ?_⟩)); refine hK2 _ ?_; clear hK2 K2)
    refine sxf_nil (hK' _ ?_)
    refine AW.st (by simp [h1]; rfl) ?_
    clear hK' K'
    refine AW_ret ?_
    simp [D.le, D.le.go, takeMap, h1]
  · refine AW_rg (tyOf_good _) [6] [] (fun _ _ => trivial) fun K' hK' => ?_
    repeat (refine sxf_next fun K2 hK2 => ?_; simp [h1]; (repeat (refine ⟨by omega, ?_⟩)); refine hK2 _ ?_; clear hK2 K2)
    refine sxf_nil (hK' _ ?_)
    refine AW.st (by simp [h1]; rfl) ?_
    clear hK' K'
    refine AW_ret ?_
    simp [D.le, D.le.go, takeMap, h1]
theorem within_yes (G : Glob) (n lo hi : Int) (h1 : lo ≤ n) (h2 : n ≤ hi) : PureC Tryd.prog G 12 [dNum n, dNum lo, dNum hi] (.v (.bool true)) := by
  have := within_spec G n lo hi
  rwa [decide_eq_true h1, decide_eq_true h2] at this
theorem within_no (G : Glob) (n lo hi : Int) (h : n < lo ∨ hi < n) : PureC Tryd.prog G 12 [dNum n, dNum lo, dNum hi] (.v (.bool false)) := by
  have := within_spec G n lo hi
  have e : (decide (lo ≤ n) && decide (n ≤ hi)) = false := by
    rcases h with h | h
    · rw [decide_eq_false (by omega), Bool.false_and]
    · rw [decide_eq_false (p := n ≤ hi) (by omega), Bool.and_false]
  rwa [e] at this

theorem at_spec (G : Glob) (hG : HasErr G) (e e' : Option (Int × Option Nat)) : PureC Tryd.prog G 6 [dErr e, dFault e'] (.v (.bool (decide (codeF e = codeF e') && decide (placeF e = placeF e')))) := by
  have hp := place_spec G hG e
  refine PureC.of_body (tyOf_good _) Tryd.func6 rfl rfl (rs := [.tmp 4]) Tryd.results6 (by simp [Tryd.ntmps6]) fun X => ?_
  simp only [Tryd.ntmps6, List.map]
  refine AW_rg (tyOf_good _) [0, 3] [3] (fun _ _ => trivial) fun K' hK' => ?_
  repeat (refine sxf_next fun K2 hK2 => ?_; simp [dFault]; (repeat (refine ⟨by omega, ?_⟩)); refine hK2 _ ?_; clear hK2 K2)
  refine sxf_nil (hK' _ ?_)
  refine AW.st (by simp [dFault]; rfl) ?_
  clear hK' K'
  refine AW_rg (tyOf_good _) [3, 5, 6] [3] (fun _ _ => trivial) fun K' hK' => ?_
  repeat (refine sxf_next fun K2 hK2 => ?_; simp; (repeat (refine ⟨by omega, ?_⟩)); refine hK2 _ ?_; clear hK2 K2)
  refine sxf_next fun K2 hK2 => ?_
  simp
  refine callK.data (hp) (by simp; rfl) (by first | exact D.leGo_refl _ | simp [takeMap, List.map_map, Function.comp_def, D.le, D.le.go, D.le_refl, D.leGo_refl]) ?_
  refine hK2 _ ?_
  clear hK2 K2
  simp only [putd, upd_lst]
  repeat (refine sxf_next fun K2 hK2 => ?_; simp; (repeat (refine ⟨by omega, ?_⟩)); refine hK2 _ ?_; clear hK2 K2)
  refine sxf_nil (hK' _ ?_)
  refine AW.st (by simp; rfl) ?_
  clear hK' K'
  by_cases h1 : codeF e = codeF e'
  · refine AW_rg (tyOf_good _) [4] [3] (fun _ _ => trivial) fun K' hK' => ?_
    repeat (refine sxf_next fun K2 hK2 => ?_; simp [dNum, h1]; (repeat (refine ⟨by omega, ?_⟩)); refine hK2 _ ?_; clear hK2 K2)
    refine sxf_nil (hK' _ ?_)
    refine AW.st (by simp [dNum, h1]; rfl) ?_
    clear hK' K'
    refine AW_ret ?_
    simp [D.le, D.le.go, takeMap, h1]
    try exact fun _ => h1
  · refine AW_rg (tyOf_good _) [4] [3] (fun _ _ => trivial) fun K' hK' => ?_
    repeat (refine sxf_next fun K2 hK2 => ?_; simp [dNum, h1]; (repeat (refine ⟨by omega, ?_⟩)); refine hK2 _ ?_; clear hK2 K2)
    refine sxf_nil (hK' _ ?_)
    refine AW.st (by simp [dNum, h1]; rfl) ?_
    clear hK' K'
    refine AW_ret ?_
    simp [D.le, D.le.go, takeMap, h1]
    try exact fun h => absurd h h1
end Go.Proofs.YtnlhioeefmhklaaDoor

/-
  The document's routes: which tables may be (TrackCheck).
-/
namespace Go.Proofs.YtnlhioeefmhklaaDoor
set_option linter.unusedSimpArgs false
set_option linter.unusedVariables false
open Go.Av

structure Tw where
  secs : Int
  pts : Int
  rts : List RtW
def cTw (t : Tw) : List D := [.v (.int .i64 t.secs), .v (.int .i64 t.pts), dRws t.rts]
def dTw (t : Tw) : D := .agg (cTw t)
def checkW (t : Tw) : Option (Int × Option Nat) := if limT t.secs t.pts t.rts.length then some (4, none) else firstE (badW 8 2 9 t.secs t.pts) t.rts 0
def SmallN (p : Int) : Prop := -2000 ≤ p ∧ p ≤ 2000
def SmallW (t : Tw) : Prop := t.rts.length < 2^62 ∧ ∀ r ∈ t.rts, r.1.length < 2^62 ∧ r.2.length < 2^62 ∧ ∀ p ∈ r.2, SmallN p

set_option maxHeartbeats 1000000 in
theorem abs_spec (G : Glob) (n : Int) (h : SmallN n) : PureC Tryd.prog G 14 [.v (.int .i64 n)] (.v (.int .i64 (absI n))) := by
  obtain ⟨h1, h2⟩ := h
  unfold absI
  refine PureC.of_body (tyOf_good _) Tryd.func14 rfl rfl (rs := [.tmp 2]) Tryd.results14 (by simp [Tryd.ntmps14]) fun X => ?_
  simp only [Tryd.ntmps14, List.map]
  refine AW_rg (tyOf_good _) [0] [] (fun _ _ => trivial) fun K' hK' => ?_
  repeat (refine sxf_next fun K2 hK2 => ?_; simp; (repeat (refine ⟨by omega, ?_⟩)); refine hK2 _ ?_; clear hK2 K2)
  refine sxf_nil (hK' _ ?_)
  refine AW.st (by simp; rfl) ?_
  clear hK' K'
  by_cases h : -n > n
  · refine AW_rg (tyOf_good _) [2] [] (fun _ _ => trivial) fun K' hK' => ?_
    repeat (refine sxf_next fun K2 hK2 => ?_; simp [h]; (repeat (refine ⟨by omega, ?_⟩)); refine hK2 _ ?_; clear hK2 K2)
    refine sxf_nil (hK' _ ?_)
    refine AW.st (by simp [h]; rfl) ?_
    clear hK' K'
    refine AW_ret ?_
    simp [D.le, D.le.go, takeMap, h]
    try omega
  · refine AW_rg (tyOf_good _) [2] [] (fun _ _ => trivial) fun K' hK' => ?_
    repeat (refine sxf_next fun K2 hK2 => ?_; simp [h]; (repeat (refine ⟨by omega, ?_⟩)); refine hK2 _ ?_; clear hK2 K2)
    refine sxf_nil (hK' _ ?_)
    refine AW.st (by simp [h]; rfl) ?_
    clear hK' K'
    refine AW_ret ?_
    simp [D.le, D.le.go, takeMap, h]
    try omega

set_option maxHeartbeats 16000000 in
theorem wcheckT_spec (G : Glob) (hF : HasFine G) (t : Tw) (ht : SmallW t) : PureC Tryd.prog G 5 [dTw t] (dFault (checkW t)) := by
  obtain ⟨S, P, rts⟩ := t
  obtain ⟨hl, hsr⟩ := ht
  dsimp only at hl hsr
  have hr2 : checkW ⟨S, P, rts⟩ = if limT S P rts.length then some (4, none) else firstE (badW 8 2 9 S P) rts 0 := rfl
  generalize hres : checkW ⟨S, P, rts⟩ = res
  rw [hr2] at hres
  have hb4 := bare0_spec G 4
  simp only [dNum] at hb4
  refine PureC.of_body (tyOf_good _) Tryd.func5 rfl rfl (rs := [.cell 2 32]) Tryd.results5 (by simp [Tryd.ntmps5]) fun X => ?_
  simp only [Tryd.ntmps5, List.map]
  refine AW_rg (tyOf_good _) [1, 2] [1, 2] (fun _ _ => trivial) fun K' hK' => ?_
  repeat (refine sxf_next fun K2 hK2 => ?_; simp [dTw, cTw, dRws]; (repeat (refine ⟨by omega, ?_⟩)); refine hK2 _ ?_; clear hK2 K2)
  refine sxf_nil (hK' _ ?_)
  refine AW.st (by simp [dTw, cTw, dRws]; rfl) ?_
  clear hK' K'
  refine AW.imp (Imp.freezeB 1 trivial) ?_
  refine AW.st (by simp [dTw, cTw, dRws]; rfl) ?_
  refine AW_then fun K1 hK1 => ?_
  by_cases g0 : (S < 1 ∨ 3 < S)
  · rw [if_pos ((fun h => h.elim .inl fun h => .inr (.inl h)) g0 : limT S P rts.length)] at hres
    have w0 := within_no G S 1 3 (by omega)
    simp only [dNum] at w0
    refine AW_rg (tyOf_good _) [2, 33] [2] (fun _ _ => trivial) fun K' hK' => ?_
    repeat (refine sxf_next fun K2 hK2 => ?_; simp [dTw, cTw, dRws]; (repeat (refine ⟨by omega, ?_⟩)); refine hK2 _ ?_; clear hK2 K2)
    refine sxf_next fun K2 hK2 => ?_
    simp [dTw, cTw, dRws]
    refine callK.data (w0) (by simp; rfl) (by first | exact D.leGo_refl _ | simp [takeMap, List.map_map, Function.comp_def, D.le, D.le.go, D.le_refl, D.leGo_refl, dTw, cTw, dRws]) ?_
    refine hK2 _ ?_
    clear hK2 K2
    simp only [putd, upd_lst]
    repeat (refine sxf_next fun K2 hK2 => ?_; simp [dTw, cTw, dRws]; (repeat (refine ⟨by omega, ?_⟩)); refine hK2 _ ?_; clear hK2 K2)
    refine sxf_nil (hK' _ ?_)
    refine AW.st (by simp [dTw, cTw, dRws]; rfl) ?_
    clear hK' K'
    refine AW_cond true rfl (fun _ => ?_) (fun h => by cases h)
    refine AW_rg (tyOf_good _) [2] [2] (fun _ _ => trivial) fun K' hK' => ?_
    repeat (refine sxf_next fun K2 hK2 => ?_; simp [dTw, cTw, dRws]; (repeat (refine ⟨by omega, ?_⟩)); refine hK2 _ ?_; clear hK2 K2)
    refine sxf_next fun K2 hK2 => ?_
    simp [dTw, cTw, dRws]
    refine callK.data (hb4) (by simp; rfl) (by first | exact D.leGo_refl _ | simp [takeMap, List.map_map, Function.comp_def, D.le, D.le.go, D.le_refl, D.leGo_refl, dTw, cTw, dRws]) ?_
    refine hK2 _ ?_
    clear hK2 K2
    simp only [putd, upd_lst]
    repeat (refine sxf_next fun K2 hK2 => ?_; simp [dTw, cTw, dRws]; (repeat (refine ⟨by omega, ?_⟩)); refine hK2 _ ?_; clear hK2 K2)
    refine sxf_nil (hK' _ ?_)
    refine AW.st (by simp [dTw, cTw, dRws]; rfl) ?_
    clear hK' K'
    refine AW_ret ?_
    simp [D.le, D.le.go, takeMap, dTw, cTw, dRws]
    simp [← hres, dFault, codeF, placeF, dNum, D.le, D.le.go]
  have w0 := within_yes G S 1 3 (by omega) (by omega)
  simp only [dNum] at w0
  by_cases g1 : (P < 0 ∨ 2 < P)
  · rw [if_pos ((fun h => h.elim (fun h => .inr (.inr (.inl h))) fun h => .inr (.inr (.inr (.inl h)))) g1 : limT S P rts.length)] at hres
    have w1 := within_no G P 0 2 (by omega)
    simp only [dNum] at w1
    refine AW_rg (tyOf_good _) [2, 33] [2] (fun _ _ => trivial) fun K' hK' => ?_
    repeat (refine sxf_next fun K2 hK2 => ?_; simp [dTw, cTw, dRws]; (repeat (refine ⟨by omega, ?_⟩)); refine hK2 _ ?_; clear hK2 K2)
    refine sxf_next fun K2 hK2 => ?_
    simp [dTw, cTw, dRws]
    refine callK.data (w0) (by simp; rfl) (by first | exact D.leGo_refl _ | simp [takeMap, List.map_map, Function.comp_def, D.le, D.le.go, D.le_refl, D.leGo_refl, dTw, cTw, dRws]) ?_
    refine hK2 _ ?_
    clear hK2 K2
    simp only [putd, upd_lst]
    repeat (refine sxf_next fun K2 hK2 => ?_; simp [dTw, cTw, dRws]; (repeat (refine ⟨by omega, ?_⟩)); refine hK2 _ ?_; clear hK2 K2)
    refine sxf_next fun K2 hK2 => ?_
    simp [dTw, cTw, dRws]
    refine callK.data (w1) (by simp; rfl) (by first | exact D.leGo_refl _ | simp [takeMap, List.map_map, Function.comp_def, D.le, D.le.go, D.le_refl, D.leGo_refl, dTw, cTw, dRws]) ?_
    refine hK2 _ ?_
    clear hK2 K2
    simp only [putd, upd_lst]
    repeat (refine sxf_next fun K2 hK2 => ?_; simp [dTw, cTw, dRws]; (repeat (refine ⟨by omega, ?_⟩)); refine hK2 _ ?_; clear hK2 K2)
    refine sxf_nil (hK' _ ?_)
    refine AW.st (by simp [dTw, cTw, dRws]; rfl) ?_
    clear hK' K'
    refine AW_cond true rfl (fun _ => ?_) (fun h => by cases h)
    refine AW_rg (tyOf_good _) [2] [2] (fun _ _ => trivial) fun K' hK' => ?_
    repeat (refine sxf_next fun K2 hK2 => ?_; simp [dTw, cTw, dRws]; (repeat (refine ⟨by omega, ?_⟩)); refine hK2 _ ?_; clear hK2 K2)
    refine sxf_next fun K2 hK2 => ?_
    simp [dTw, cTw, dRws]
    refine callK.data (hb4) (by simp; rfl) (by first | exact D.leGo_refl _ | simp [takeMap, List.map_map, Function.comp_def, D.le, D.le.go, D.le_refl, D.leGo_refl, dTw, cTw, dRws]) ?_
    refine hK2 _ ?_
    clear hK2 K2
    simp only [putd, upd_lst]
    repeat (refine sxf_next fun K2 hK2 => ?_; simp [dTw, cTw, dRws]; (repeat (refine ⟨by omega, ?_⟩)); refine hK2 _ ?_; clear hK2 K2)
    refine sxf_nil (hK' _ ?_)
    refine AW.st (by simp [dTw, cTw, dRws]; rfl) ?_
    clear hK' K'
    refine AW_ret ?_
    simp [D.le, D.le.go, takeMap, dTw, cTw, dRws]
    simp [← hres, dFault, codeF, placeF, dNum, D.le, D.le.go]
  have w1 := within_yes G P 0 2 (by omega) (by omega)
  simp only [dNum] at w1
  by_cases g2 : ((rts.length : Int) < 1 ∨ 3 < (rts.length : Int))
  · rw [if_pos ((fun h => h.elim (fun h => .inr (.inr (.inr (.inr (.inl (by omega)))))) fun h => .inr (.inr (.inr (.inr (.inr (by omega)))))) g2 : limT S P rts.length)] at hres
    have w2 := within_no G rts.length 1 3 (by omega)
    simp only [dNum] at w2
    refine AW_rg (tyOf_good _) [2, 33] [2] (fun _ _ => trivial) fun K' hK' => ?_
    repeat (refine sxf_next fun K2 hK2 => ?_; simp [dTw, cTw, dRws]; (repeat (refine ⟨by omega, ?_⟩)); refine hK2 _ ?_; clear hK2 K2)
    refine sxf_next fun K2 hK2 => ?_
    simp [dTw, cTw, dRws]
    refine callK.data (w0) (by simp; rfl) (by first | exact D.leGo_refl _ | simp [takeMap, List.map_map, Function.comp_def, D.le, D.le.go, D.le_refl, D.leGo_refl, dTw, cTw, dRws]) ?_
    refine hK2 _ ?_
    clear hK2 K2
    simp only [putd, upd_lst]
    repeat (refine sxf_next fun K2 hK2 => ?_; simp [dTw, cTw, dRws]; (repeat (refine ⟨by omega, ?_⟩)); refine hK2 _ ?_; clear hK2 K2)
    refine sxf_next fun K2 hK2 => ?_
    simp [dTw, cTw, dRws]
    refine callK.data (w1) (by simp; rfl) (by first | exact D.leGo_refl _ | simp [takeMap, List.map_map, Function.comp_def, D.le, D.le.go, D.le_refl, D.leGo_refl, dTw, cTw, dRws]) ?_
    refine hK2 _ ?_
    clear hK2 K2
    simp only [putd, upd_lst]
    repeat (refine sxf_next fun K2 hK2 => ?_; simp [dTw, cTw, dRws]; (repeat (refine ⟨by omega, ?_⟩)); refine hK2 _ ?_; clear hK2 K2)
    refine sxf_next fun K2 hK2 => ?_
    simp [dTw, cTw, dRws]
    refine callK.data (w2) (by simp; rfl) (by first | exact D.leGo_refl _ | simp [takeMap, List.map_map, Function.comp_def, D.le, D.le.go, D.le_refl, D.leGo_refl, dTw, cTw, dRws]) ?_
    refine hK2 _ ?_
    clear hK2 K2
    simp only [putd, upd_lst]
    repeat (refine sxf_next fun K2 hK2 => ?_; simp [dTw, cTw, dRws]; (repeat (refine ⟨by omega, ?_⟩)); refine hK2 _ ?_; clear hK2 K2)
    refine sxf_nil (hK' _ ?_)
    refine AW.st (by simp [dTw, cTw, dRws]; rfl) ?_
    clear hK' K'
    refine AW_cond true rfl (fun _ => ?_) (fun h => by cases h)
    refine AW_rg (tyOf_good _) [2] [2] (fun _ _ => trivial) fun K' hK' => ?_
    repeat (refine sxf_next fun K2 hK2 => ?_; simp [dTw, cTw, dRws]; (repeat (refine ⟨by omega, ?_⟩)); refine hK2 _ ?_; clear hK2 K2)
    refine sxf_next fun K2 hK2 => ?_
    simp [dTw, cTw, dRws]
    refine callK.data (hb4) (by simp; rfl) (by first | exact D.leGo_refl _ | simp [takeMap, List.map_map, Function.comp_def, D.le, D.le.go, D.le_refl, D.leGo_refl, dTw, cTw, dRws]) ?_
    refine hK2 _ ?_
    clear hK2 K2
    simp only [putd, upd_lst]
    repeat (refine sxf_next fun K2 hK2 => ?_; simp [dTw, cTw, dRws]; (repeat (refine ⟨by omega, ?_⟩)); refine hK2 _ ?_; clear hK2 K2)
    refine sxf_nil (hK' _ ?_)
    refine AW.st (by simp [dTw, cTw, dRws]; rfl) ?_
    clear hK' K'
    refine AW_ret ?_
    simp [D.le, D.le.go, takeMap, dTw, cTw, dRws]
    simp [← hres, dFault, codeF, placeF, dNum, D.le, D.le.go]
  have w2 := within_yes G rts.length 1 3 (by omega) (by omega)
  simp only [dNum] at w2
  rw [if_neg (by unfold limT; omega)] at hres
  refine AW_rg (tyOf_good _) [1, 2, 33] [2] (fun _ _ => trivial) fun K' hK' => ?_
  repeat (refine sxf_next fun K2 hK2 => ?_; simp [dTw, cTw, dRws]; (repeat (refine ⟨by omega, ?_⟩)); refine hK2 _ ?_; clear hK2 K2)
  refine sxf_next fun K2 hK2 => ?_
  simp [dTw, cTw, dRws]
  refine callK.data (w0) (by simp; rfl) (by first | exact D.leGo_refl _ | simp [takeMap, List.map_map, Function.comp_def, D.le, D.le.go, D.le_refl, D.leGo_refl, dTw, cTw, dRws]) ?_
  refine hK2 _ ?_
  clear hK2 K2
  simp only [putd, upd_lst]
  repeat (refine sxf_next fun K2 hK2 => ?_; simp [dTw, cTw, dRws]; (repeat (refine ⟨by omega, ?_⟩)); refine hK2 _ ?_; clear hK2 K2)
  refine sxf_next fun K2 hK2 => ?_
  simp [dTw, cTw, dRws]
  refine callK.data (w1) (by simp; rfl) (by first | exact D.leGo_refl _ | simp [takeMap, List.map_map, Function.comp_def, D.le, D.le.go, D.le_refl, D.leGo_refl, dTw, cTw, dRws]) ?_
  refine hK2 _ ?_
  clear hK2 K2
  simp only [putd, upd_lst]
  repeat (refine sxf_next fun K2 hK2 => ?_; simp [dTw, cTw, dRws]; (repeat (refine ⟨by omega, ?_⟩)); refine hK2 _ ?_; clear hK2 K2)
  refine sxf_next fun K2 hK2 => ?_
  simp [dTw, cTw, dRws]
  refine callK.data (w2) (by simp; rfl) (by first | exact D.leGo_refl _ | simp [takeMap, List.map_map, Function.comp_def, D.le, D.le.go, D.le_refl, D.leGo_refl, dTw, cTw, dRws]) ?_
  refine hK2 _ ?_
  clear hK2 K2
  simp only [putd, upd_lst]
  repeat (refine sxf_next fun K2 hK2 => ?_; simp [dTw, cTw, dRws]; (repeat (refine ⟨by omega, ?_⟩)); refine hK2 _ ?_; clear hK2 K2)
  refine sxf_nil (hK' _ ?_)
  refine AW.st (by simp [dTw, cTw, dRws]; rfl) ?_
  clear hK' K'
  refine AW_cond false rfl (fun h => by cases h) (fun _ => ?_)
  refine AW_skip (hK1 _ ?_)
  refine AW_then fun K2 hK2 => ?_
  refine AW_rg (tyOf_good _) [1, 2, 36, 37, 38] [2] (fun _ _ => trivial) fun K' hK' => ?_
  repeat (refine sxf_next fun K2 hK2 => ?_; simp [dTw, cTw, dRws]; (repeat (refine ⟨by omega, ?_⟩)); refine hK2 _ ?_; clear hK2 K2)
  refine sxf_nil (hK' _ ?_)
  refine AW.st (by simp [dTw, cTw, dRws]; rfl) ?_
  clear hK' K'
  refine AW_for (S := Nat) (fun n => n ≤ rts.length ∧ ∀ k (hk : k < rts.length), k < n → badW 8 2 9 S P rts[k] = 0) (fun n => ⟨lst [(1, .d (.ip [.v (.int .i64 S), .v (.int .i64 P), .sl none (rts.map cRw)])), (2, .ref 2 0 0), (36, .d (.sl none (rts.map cRw))), (37, int rts.length), (38, int n)], hlst [(2, .box 32 [.d (.v (.int .i64 0)), .d (.v (.int .i64 0))])]⟩) (fun n => rts.length - n) 0 ?_ (by simp) ?_
  · refine Imp.to' (fun _ _ => trivial) (by simp [dTw, cTw, dRws]) (by simp [dTw, cTw, dRws])
  · rintro n ⟨hn, hb⟩
    refine AW_rg (tyOf_good _) [1, 2, 36, 37, 38, 39] [2] (fun _ _ => trivial) fun K' hK' => ?_
    repeat (refine sxf_next fun K2 hK2 => ?_; simp [dTw, cTw, dRws]; (repeat (refine ⟨by omega, ?_⟩)); refine hK2 _ ?_; clear hK2 K2)
    refine sxf_nil (hK' _ ?_)
    refine AW.st (by simp [dTw, cTw, dRws]; rfl) ?_
    clear hK' K'
    refine AW_then fun K3 hK3 => ?_
    refine AW_cond' (b := n < rts.length) (by simp [D.le, D.le.go, takeMap, dTw, cTw, dRws]) (fun hc => ?_) (fun hc => ?_)
    · have hlt := hc
      obtain ⟨hs1, hs2, hs3⟩ := hsr rts[n] (by simp)
      have hbad : badW 8 2 9 S P rts[n] = if rts[n].1 = [] then 8 else if rts[n].1.any fun s => !(decide (0 ≤ s) && decide (s ≤ S - 1)) then 2 else if rts[n].2.any fun p => !(decide (1 ≤ absI p) && decide (absI p ≤ P)) then 2
        else if twiceL (fun a b => a == b) [] rts[n].1 then 9 else if twiceL (fun a b => absI a == absI b) [] rts[n].2 then 9 else 0 := rfl
      have hgo : badW 8 2 9 S P rts[n] ≠ 0 → res = some (badW 8 2 9 S P rts[n], some n) := fun hne => by rw [← hres, firstE_at hlt (fun k hk hkn => hb k hk hkn) hne]; simp
      refine AW_skip (hK3 _ ?_)
      refine AW_then fun K4 hK4 => ?_
      refine AW_block ?_
      refine AW_rg (tyOf_good _) [1, 2, 3, 4, 36, 37, 38] [2, 4] (fun _ _ => trivial) fun K' hK' => ?_
      repeat (refine sxf_next fun K2 hK2 => ?_; simp [dTw, cTw, dRws, hc, cRw, dRow_eq]; (repeat (refine ⟨by omega, ?_⟩)); refine hK2 _ ?_; clear hK2 K2)
      refine sxf_nil (hK' _ ?_)
      refine AW.st (by simp [dTw, cTw, dRws, hc, cRw, dRow_eq]; rfl) ?_
      clear hK' K'
      refine AW.imp (Imp.freezeB 4 trivial) ?_
      refine AW.st (by simp [dTw, cTw, dRws]; rfl) ?_
      generalize hv : badW 8 2 9 S P rts[n] = v at hbad hgo
      generalize rts[n].1 = ss at hbad hs1
      generalize rts[n].2 = ps at hbad hs2 hs3
      refine AW_then fun K5 hK5 => ?_
      by_cases c0 : ss = []
      · rw [if_pos c0] at hbad
        have hg := hgo (by rw [hbad]; decide)
        rw [hbad] at hg
        refine AW_rg (tyOf_good _) [2, 3, 46] [2] (fun _ _ => trivial) fun K' hK' => ?_
        repeat (refine sxf_next fun K2 hK2 => ?_; simp [dTw, cTw, dRws, c0]; (repeat (refine ⟨by omega, ?_⟩)); refine hK2 _ ?_; clear hK2 K2)
        refine sxf_nil (hK' _ ?_)
        refine AW.st (by simp [dTw, cTw, dRws, c0]; rfl) ?_
        clear hK' K'
        refine AW_cond true rfl (fun _ => ?_) (fun h => by cases h)
        refine AW_rg (tyOf_good _) [2] [2] (fun _ _ => trivial) fun K' hK' => ?_
        repeat (refine sxf_next fun K2 hK2 => ?_; simp [dTw, cTw, dRws]; (repeat (refine ⟨by omega, ?_⟩)); refine hK2 _ ?_; clear hK2 K2)
        refine sxf_nil (hK' _ ?_)
        refine AW.st (by simp [dTw, cTw, dRws]; rfl) ?_
        clear hK' K'
        refine AW_ret ?_
        simp [D.le, D.le.go, takeMap, dTw, cTw, dRws]
        simp [hg, dFault, codeF, placeF, dNum, D.le, D.le.go]
      rw [if_neg c0] at hbad
      have c0' : ¬ ((ss.length : Int) = 0) := by simpa using c0
      refine AW_rg (tyOf_good _) [1, 2, 3, 4, 36, 37, 38, 46] [2] (fun _ _ => trivial) fun K' hK' => ?_
      repeat (refine sxf_next fun K2 hK2 => ?_; simp [dTw, cTw, dRws, c0', c0]; (repeat (refine ⟨by omega, ?_⟩)); refine hK2 _ ?_; clear hK2 K2)
      refine sxf_nil (hK' _ ?_)
      refine AW.st (by simp [dTw, cTw, dRws, c0', c0]; rfl) ?_
      clear hK' K'
      refine AW_cond false rfl (fun h => by cases h) (fun _ => ?_)
      refine AW_skip (hK5 _ ?_)
      refine AW_then fun K6 hK6 => ?_
      refine AW_rg (tyOf_good _) [1, 2, 3, 4, 36, 37, 38, 50, 51, 52] [2] (fun _ _ => trivial) fun K' hK' => ?_
      repeat (refine sxf_next fun K2 hK2 => ?_; simp [dTw, cTw, dRws]; (repeat (refine ⟨by omega, ?_⟩)); refine hK2 _ ?_; clear hK2 K2)
      refine sxf_nil (hK' _ ?_)
      refine AW.st (by simp [dTw, cTw, dRws]; rfl) ?_
      clear hK' K'
      refine AW_for (S := Nat) (fun i => i ≤ ss.length ∧ ∀ k (hk : k < ss.length), k < i → (!(decide (0 ≤ ss[k]) && decide (ss[k] ≤ S - 1))) = false) (fun i => ⟨lst [(1, .d (.ip [.v (.int .i64 S), .v (.int .i64 P), .sl none (rts.map cRw)])), (2, .ref 2 0 0), (3, int n), (4, .d (.ip [.sl none (ss.map fun x => [D.v (.int .i64 x)]), .sl none (ps.map fun x => [D.v (.int .i64 x)])])), (36, .d (.sl none (rts.map cRw))), (37, int rts.length), (38, int n), (50, .d (.sl none (ss.map fun x => [D.v (.int .i64 x)]))), (51, int ss.length), (52, int i)], hlst [(2, .box 32 [.d (.v (.int .i64 0)), .d (.v (.int .i64 0))])]⟩) (fun i => ss.length - i) 0 ?_ (by simp) ?_
      · refine Imp.to' (fun _ _ => trivial) (by simp [dTw, cTw, dRws]) (by simp [dTw, cTw, dRws])
      · rintro i ⟨hi, hbi⟩
        refine AW_rg (tyOf_good _) [1, 2, 3, 4, 36, 37, 38, 50, 51, 52, 53] [2] (fun _ _ => trivial) fun K' hK' => ?_
        repeat (refine sxf_next fun K2 hK2 => ?_; simp [dTw, cTw, dRws]; (repeat (refine ⟨by omega, ?_⟩)); refine hK2 _ ?_; clear hK2 K2)
        refine sxf_nil (hK' _ ?_)
        refine AW.st (by simp [dTw, cTw, dRws]; rfl) ?_
        clear hK' K'
        refine AW_then fun K7 hK7 => ?_
        refine AW_cond' (b := i < ss.length) (by simp [D.le, D.le.go, takeMap, dTw, cTw, dRws]) (fun hc => ?_) (fun hc => ?_)
        · have hil := hc
          refine AW_skip (hK7 _ ?_)
          refine AW_then fun K8 hK8 => ?_
          refine AW_block ?_
          refine AW_rg (tyOf_good _) [1, 2, 3, 4, 6, 36, 37, 38, 50, 51, 52] [2] (fun _ _ => trivial) fun K' hK' => ?_
          repeat (refine sxf_next fun K2 hK2 => ?_; simp [dTw, cTw, dRws, hil]; (repeat (refine ⟨by omega, ?_⟩)); refine hK2 _ ?_; clear hK2 K2)
          refine sxf_nil (hK' _ ?_)
          refine AW.st (by simp [dTw, cTw, dRws, hil]; rfl) ?_
          clear hK' K'
          have hw := within_spec G ss[i] 0 (S - 1)
          simp only [dNum] at hw
          generalize hq : (decide (0 ≤ ss[i]) && decide (ss[i] ≤ S - 1)) = q at hw
          refine AW_rg (tyOf_good _) [1, 2, 3, 4, 36, 37, 38, 50, 51, 52, 61] [2] (fun _ _ => trivial) fun K' hK' => ?_
          repeat (refine sxf_next fun K2 hK2 => ?_; simp [dTw, cTw, dRws]; (repeat (refine ⟨by omega, ?_⟩)); refine hK2 _ ?_; clear hK2 K2)
          refine sxf_next fun K2 hK2 => ?_
          simp [dTw, cTw, dRws]
          refine callK.data (hw) (by simp; rfl) (by first | exact D.leGo_refl _ | simp [takeMap, List.map_map, Function.comp_def, D.le, D.le.go, D.le_refl, D.leGo_refl, dTw, cTw, dRws]) ?_
          refine hK2 _ ?_
          clear hK2 K2
          simp only [putd, upd_lst]
          repeat (refine sxf_next fun K2 hK2 => ?_; simp [dTw, cTw, dRws]; (repeat (refine ⟨by omega, ?_⟩)); refine hK2 _ ?_; clear hK2 K2)
          refine sxf_nil (hK' _ ?_)
          refine AW.st (by simp [dTw, cTw, dRws]; rfl) ?_
          clear hK' K'
          cases q with
          | false =>
            rw [if_pos (List.any_eq_true.2 ⟨_, List.getElem_mem hil, by rw [hq]; rfl⟩)] at hbad
            have hg := hgo (by rw [hbad]; decide)
            rw [hbad] at hg
            refine AW_cond true rfl (fun _ => ?_) (fun h => by cases h)
            refine AW_rg (tyOf_good _) [2] [2] (fun _ _ => trivial) fun K' hK' => ?_
            repeat (refine sxf_next fun K2 hK2 => ?_; simp [dTw, cTw, dRws]; (repeat (refine ⟨by omega, ?_⟩)); refine hK2 _ ?_; clear hK2 K2)
            refine sxf_nil (hK' _ ?_)
            refine AW.st (by simp [dTw, cTw, dRws]; rfl) ?_
            clear hK' K'
            refine AW_ret ?_
            simp [D.le, D.le.go, takeMap, dTw, cTw, dRws]
            simp [hg, dFault, codeF, placeF, dNum, D.le, D.le.go]
          | true =>
            refine AW_cond false rfl (fun h => by cases h) (fun _ => ?_)
            refine AW_skip (hK8 _ ?_)
            refine AW_re (tyOf_good _) fun K' hK' => ?_
            repeat (refine sxf_next fun K2 hK2 => ?_; simp [dTw, cTw, dRws]; (repeat (refine ⟨by omega, ?_⟩)); refine hK2 _ ?_; clear hK2 K2)
            refine sxf_nil (hK' _ ?_)
            clear hK' K'
            try simp only [thn, inb]
            refine Again.mk (i + 1) ⟨by omega, fun k hk hki => ?_⟩ (by omega) ?_
            · by_cases h : k = i
              · subst h; rw [hq]; rfl
              · exact hbi k hk (by omega)
            refine Imp.to' (fun _ _ => trivial) (by simp [dTw, cTw, dRws]) (by simp [dTw, cTw, dRws])
        · rw [if_neg (by
            rw [Bool.not_eq_true, List.any_eq_false]
            intro x hx
            obtain ⟨k, hk, rfl⟩ := List.mem_iff_getElem.1 hx
            rw [hbi k hk (by omega)]; decide)] at hbad
          refine AW_exit (hK6 _ ?_)
          refine AW_then fun K9 hK9 => ?_
          refine AW_rg (tyOf_good _) [1, 2, 3, 4, 36, 37, 38, 66, 67, 68] [2] (fun _ _ => trivial) fun K' hK' => ?_
          repeat (refine sxf_next fun K2 hK2 => ?_; simp [dTw, cTw, dRws]; (repeat (refine ⟨by omega, ?_⟩)); refine hK2 _ ?_; clear hK2 K2)
          refine sxf_nil (hK' _ ?_)
          refine AW.st (by simp [dTw, cTw, dRws]; rfl) ?_
          clear hK' K'
          refine AW_for (S := Nat) (fun i => i ≤ ps.length ∧ ∀ k (hk : k < ps.length), k < i → (!(decide (1 ≤ absI ps[k]) && decide (absI ps[k] ≤ P))) = false) (fun i => ⟨lst [(1, .d (.ip [.v (.int .i64 S), .v (.int .i64 P), .sl none (rts.map cRw)])), (2, .ref 2 0 0), (3, int n), (4, .d (.ip [.sl none (ss.map fun x => [D.v (.int .i64 x)]), .sl none (ps.map fun x => [D.v (.int .i64 x)])])), (36, .d (.sl none (rts.map cRw))), (37, int rts.length), (38, int n), (66, .d (.sl none (ps.map fun x => [D.v (.int .i64 x)]))), (67, int ps.length), (68, int i)], hlst [(2, .box 32 [.d (.v (.int .i64 0)), .d (.v (.int .i64 0))])]⟩) (fun i => ps.length - i) 0 ?_ (by simp) ?_
          · refine Imp.to' (fun _ _ => trivial) (by simp [dTw, cTw, dRws]) (by simp [dTw, cTw, dRws])
          · rintro i ⟨hi, hbi⟩
            refine AW_rg (tyOf_good _) [1, 2, 3, 4, 36, 37, 38, 66, 67, 68, 69] [2] (fun _ _ => trivial) fun K' hK' => ?_
            repeat (refine sxf_next fun K2 hK2 => ?_; simp [dTw, cTw, dRws]; (repeat (refine ⟨by omega, ?_⟩)); refine hK2 _ ?_; clear hK2 K2)
            refine sxf_nil (hK' _ ?_)
            refine AW.st (by simp [dTw, cTw, dRws]; rfl) ?_
            clear hK' K'
            refine AW_then fun K10 hK10 => ?_
            refine AW_cond' (b := i < ps.length) (by simp [D.le, D.le.go, takeMap, dTw, cTw, dRws]) (fun hc => ?_) (fun hc => ?_)
            · have hil := hc
              refine AW_skip (hK10 _ ?_)
              refine AW_then fun K11 hK11 => ?_
              refine AW_block ?_
              refine AW_rg (tyOf_good _) [1, 2, 3, 4, 8, 36, 37, 38, 66, 67, 68] [2] (fun _ _ => trivial) fun K' hK' => ?_
              repeat (refine sxf_next fun K2 hK2 => ?_; simp [dTw, cTw, dRws, hil]; (repeat (refine ⟨by omega, ?_⟩)); refine hK2 _ ?_; clear hK2 K2)
              refine sxf_nil (hK' _ ?_)
              refine AW.st (by simp [dTw, cTw, dRws, hil]; rfl) ?_
              clear hK' K'
              have hab := abs_spec G ps[i] (hs3 _ (List.getElem_mem hil))
              have hw := within_spec G (absI ps[i]) 1 P
              simp only [dNum] at hw
              generalize hq : (decide (1 ≤ absI ps[i]) && decide (absI ps[i] ≤ P)) = q at hw
              refine AW_rd (tyOf_good _) (by kernel_rfl) [1, 2, 3, 4, 36, 37, 38, 66, 67, 68, 77] [2] (fun _ _ => trivial) (by kernel_rfl) fun K' hK' => ?_
              repeat (refine sxd_next fun K2 hK2 => ?_; simp [dTw, cTw, dRws]; (repeat (refine ⟨by omega, ?_⟩)); refine hK2 _ ?_; clear hK2 K2)
              refine sxd_next fun K2 hK2 => ?_
              simp [dTw, cTw, dRws]
              refine callQ.data (hab) (by simp; rfl) (by simp; rfl) (by first | exact D.leGo_refl _ | simp [takeMap, List.map_map, Function.comp_def, D.le, D.le.go, D.le_refl, D.leGo_refl, dTw, cTw, dRws]) ?_
              refine hK2 _ ?_
              clear hK2 K2
              simp only [putd, upd_lst]
              repeat (refine sxd_next fun K2 hK2 => ?_; simp [dTw, cTw, dRws]; (repeat (refine ⟨by omega, ?_⟩)); refine hK2 _ ?_; clear hK2 K2)
              refine sxd_next fun K2 hK2 => ?_
              simp [dTw, cTw, dRws]
              refine callQ.data (hw) (by simp; rfl) (by simp; rfl) (by first | exact D.leGo_refl _ | simp [takeMap, List.map_map, Function.comp_def, D.le, D.le.go, D.le_refl, D.leGo_refl, dTw, cTw, dRws]) ?_
              refine hK2 _ ?_
              clear hK2 K2
              simp only [putd, upd_lst]
              repeat (refine sxd_next fun K2 hK2 => ?_; simp [dTw, cTw, dRws]; (repeat (refine ⟨by omega, ?_⟩)); refine hK2 _ ?_; clear hK2 K2)
              refine sxd_nil (hK' _ ?_)
              refine AW.st (by simp [dTw, cTw, dRws]; rfl) ?_
              clear hK' K'
              cases q with
              | false =>
                rw [if_pos (List.any_eq_true.2 ⟨_, List.getElem_mem hil, by rw [hq]; rfl⟩)] at hbad
                have hg := hgo (by rw [hbad]; decide)
                rw [hbad] at hg
                refine AW_cond true rfl (fun _ => ?_) (fun h => by cases h)
                refine AW_rg (tyOf_good _) [2] [2] (fun _ _ => trivial) fun K' hK' => ?_
                repeat (refine sxf_next fun K2 hK2 => ?_; simp [dTw, cTw, dRws]; (repeat (refine ⟨by omega, ?_⟩)); refine hK2 _ ?_; clear hK2 K2)
                refine sxf_nil (hK' _ ?_)
                refine AW.st (by simp [dTw, cTw, dRws]; rfl) ?_
                clear hK' K'
                refine AW_ret ?_
                simp [D.le, D.le.go, takeMap, dTw, cTw, dRws]
                simp [hg, dFault, codeF, placeF, dNum, D.le, D.le.go]
              | true =>
                refine AW_cond false rfl (fun h => by cases h) (fun _ => ?_)
                refine AW_skip (hK11 _ ?_)
                refine AW_re (tyOf_good _) fun K' hK' => ?_
                repeat (refine sxf_next fun K2 hK2 => ?_; simp [dTw, cTw, dRws]; (repeat (refine ⟨by omega, ?_⟩)); refine hK2 _ ?_; clear hK2 K2)
                refine sxf_nil (hK' _ ?_)
                clear hK' K'
                try simp only [thn, inb]
                refine Again.mk (i + 1) ⟨by omega, fun k hk hki => ?_⟩ (by omega) ?_
                · by_cases h : k = i
                  · subst h; rw [hq]; rfl
                  · exact hbi k hk (by omega)
                refine Imp.to' (fun _ _ => trivial) (by simp [dTw, cTw, dRws]) (by simp [dTw, cTw, dRws])
            · rw [if_neg (by
                rw [Bool.not_eq_true, List.any_eq_false]
                intro x hx
                obtain ⟨k, hk, rfl⟩ := List.mem_iff_getElem.1 hx
                rw [hbi k hk (by omega)]; decide)] at hbad
              refine AW_exit (hK9 _ ?_)
              refine AW_then fun K12 hK12 => ?_
              refine AW_rg (tyOf_good _) [1, 2, 3, 4, 36, 37, 38, 82, 83, 84] [2] (fun _ _ => trivial) fun K' hK' => ?_
              repeat (refine sxf_next fun K2 hK2 => ?_; simp [dTw, cTw, dRws]; (repeat (refine ⟨by omega, ?_⟩)); refine hK2 _ ?_; clear hK2 K2)
              refine sxf_nil (hK' _ ?_)
              refine AW.st (by simp [dTw, cTw, dRws]; rfl) ?_
              clear hK' K'
              refine AW_for (S := Nat) (fun i => i ≤ ss.length ∧ ∀ k (hk : k < ss.length), k < i → ((ss.take k).any fun y => ss[k] == y) = false) (fun i => ⟨lst [(1, .d (.ip [.v (.int .i64 S), .v (.int .i64 P), .sl none (rts.map cRw)])), (2, .ref 2 0 0), (3, int n), (4, .d (.ip [.sl none (ss.map fun x => [D.v (.int .i64 x)]), .sl none (ps.map fun x => [D.v (.int .i64 x)])])), (36, .d (.sl none (rts.map cRw))), (37, int rts.length), (38, int n), (82, .d (.sl none (ss.map fun x => [D.v (.int .i64 x)]))), (83, int ss.length), (84, int i)], hlst [(2, .box 32 [.d (.v (.int .i64 0)), .d (.v (.int .i64 0))])]⟩) (fun i => ss.length - i) 0 ?_ (by simp) ?_
              · refine Imp.to' (fun _ _ => trivial) (by simp [dTw, cTw, dRws]) (by simp [dTw, cTw, dRws])
              · rintro i ⟨hi, hbi⟩
                refine AW_rg (tyOf_good _) [1, 2, 3, 4, 36, 37, 38, 82, 83, 84, 85] [2] (fun _ _ => trivial) fun K' hK' => ?_
                repeat (refine sxf_next fun K2 hK2 => ?_; simp [dTw, cTw, dRws]; (repeat (refine ⟨by omega, ?_⟩)); refine hK2 _ ?_; clear hK2 K2)
                refine sxf_nil (hK' _ ?_)
                refine AW.st (by simp [dTw, cTw, dRws]; rfl) ?_
                clear hK' K'
                refine AW_then fun K13 hK13 => ?_
                refine AW_cond' (b := i < ss.length) (by simp [D.le, D.le.go, takeMap, dTw, cTw, dRws]) (fun hc => ?_) (fun hc => ?_)
                · have hil := hc
                  refine AW_skip (hK13 _ ?_)
                  refine AW_then fun K14 hK14 => ?_
                  refine AW_block ?_
                  refine AW_rg (tyOf_good _) [1, 2, 3, 4, 9, 10, 36, 37, 38, 82, 83, 84] [2] (fun _ _ => trivial) fun K' hK' => ?_
                  repeat (refine sxf_next fun K2 hK2 => ?_; simp [dTw, cTw, dRws, hil]; (repeat (refine ⟨by omega, ?_⟩)); refine hK2 _ ?_; clear hK2 K2)
                  refine sxf_nil (hK' _ ?_)
                  refine AW.st (by simp [dTw, cTw, dRws, hil]; rfl) ?_
                  clear hK' K'
                  have hmin : min i ss.length = i := by omega
                  refine AW_rg (tyOf_good _) [1, 2, 3, 4, 10, 36, 37, 38, 82, 83, 84, 92, 93, 94] [2] (fun _ _ => trivial) fun K' hK' => ?_
                  repeat (refine sxf_next fun K2 hK2 => ?_; simp [dTw, cTw, dRws, hil, takeMap, hmin]; (repeat (refine ⟨by omega, ?_⟩)); refine hK2 _ ?_; clear hK2 K2)
                  refine sxf_nil (hK' _ ?_)
                  refine AW.st (by simp [dTw, cTw, dRws, hil, takeMap, hmin]; rfl) ?_
                  clear hK' K'
                  refine AW_for (S := Nat) (fun j => j ≤ i ∧ ∀ k (hk : k < ss.length), k < j → (ss[i] == ss[k]) = false) (fun j => ⟨lst [(1, .d (.ip [.v (.int .i64 S), .v (.int .i64 P), .sl none (rts.map cRw)])), (2, .ref 2 0 0), (3, int n), (4, .d (.ip [.sl none (ss.map fun x => [D.v (.int .i64 x)]), .sl none (ps.map fun x => [D.v (.int .i64 x)])])), (10, int ss[i]), (36, .d (.sl none (rts.map cRw))), (37, int rts.length), (38, int n), (82, .d (.sl none (ss.map fun x => [D.v (.int .i64 x)]))), (83, int ss.length), (84, int i), (92, .d (.sl none (List.take i (ss.map fun x => [D.v (.int .i64 x)])))), (93, int i), (94, int j)], hlst [(2, .box 32 [.d (.v (.int .i64 0)), .d (.v (.int .i64 0))])]⟩) (fun j => i - j) 0 ?_ (by simp) ?_
                  · refine Imp.to' (fun _ _ => trivial) (by simp [dTw, cTw, dRws]) (by simp [dTw, cTw, dRws])
                  · rintro j ⟨hj, hbj⟩
                    refine AW_rg (tyOf_good _) [1, 2, 3, 4, 10, 36, 37, 38, 82, 83, 84, 92, 93, 94, 95] [2] (fun _ _ => trivial) fun K' hK' => ?_
                    repeat (refine sxf_next fun K2 hK2 => ?_; simp [dTw, cTw, dRws]; (repeat (refine ⟨by omega, ?_⟩)); refine hK2 _ ?_; clear hK2 K2)
                    refine sxf_nil (hK' _ ?_)
                    refine AW.st (by simp [dTw, cTw, dRws]; rfl) ?_
                    clear hK' K'
                    refine AW_then fun K15 hK15 => ?_
                    refine AW_cond' (b := j < i) (by simp [D.le, D.le.go, takeMap, dTw, cTw, dRws]) (fun hc => ?_) (fun hc => ?_)
                    · have hji := hc
                      have hjl : j < ss.length := by omega
                      refine AW_skip (hK15 _ ?_)
                      refine AW_then fun K16 hK16 => ?_
                      refine AW_block ?_
                      refine AW_rg (tyOf_good _) [1, 2, 3, 4, 10, 12, 36, 37, 38, 82, 83, 84, 92, 93, 94] [2] (fun _ _ => trivial) fun K' hK' => ?_
                      repeat (refine sxf_next fun K2 hK2 => ?_; simp [dTw, cTw, dRws, hji, hjl, hmin]; (repeat (refine ⟨by omega, ?_⟩)); refine hK2 _ ?_; clear hK2 K2)
                      refine sxf_nil (hK' _ ?_)
                      refine AW.st (by simp [dTw, cTw, dRws, hji, hjl, hmin]; rfl) ?_
                      clear hK' K'
                      refine AW_rg (tyOf_good _) [1, 2, 3, 4, 10, 36, 37, 38, 82, 83, 84, 92, 93, 94, 100] [2] (fun _ _ => trivial) fun K' hK' => ?_
                      repeat (refine sxf_next fun K2 hK2 => ?_; simp [dTw, cTw, dRws]; (repeat (refine ⟨by omega, ?_⟩)); refine hK2 _ ?_; clear hK2 K2)
                      refine sxf_nil (hK' _ ?_)
                      refine AW.st (by simp [dTw, cTw, dRws]; rfl) ?_
                      clear hK' K'
                      by_cases he : ss[i] = ss[j]
                      · rw [if_pos (twiceL_hit hil (List.any_eq_true.2 ⟨ss[j], List.mem_take_iff_getElem.2 ⟨j, by omega, rfl⟩, by simpa using he⟩))] at hbad
                        have hg := hgo (by rw [hbad]; decide)
                        rw [hbad] at hg
                        refine AW_cond true (by simp [he]) (fun _ => ?_) (fun h => by cases h)
                        refine AW_rg (tyOf_good _) [2] [2] (fun _ _ => trivial) fun K' hK' => ?_
                        repeat (refine sxf_next fun K2 hK2 => ?_; simp [dTw, cTw, dRws]; (repeat (refine ⟨by omega, ?_⟩)); refine hK2 _ ?_; clear hK2 K2)
                        refine sxf_nil (hK' _ ?_)
                        refine AW.st (by simp [dTw, cTw, dRws]; rfl) ?_
                        clear hK' K'
                        refine AW_ret ?_
                        simp [D.le, D.le.go, takeMap, dTw, cTw, dRws]
                        simp [hg, dFault, codeF, placeF, dNum, D.le, D.le.go]
                      · refine AW_cond false (by simp [he]) (fun h => by cases h) (fun _ => ?_)
                        refine AW_skip (hK16 _ ?_)
                        refine AW_re (tyOf_good _) fun K' hK' => ?_
                        repeat (refine sxf_next fun K2 hK2 => ?_; simp [dTw, cTw, dRws]; (repeat (refine ⟨by omega, ?_⟩)); refine hK2 _ ?_; clear hK2 K2)
                        refine sxf_nil (hK' _ ?_)
                        clear hK' K'
                        try simp only [thn, inb]
                        refine Again.mk (j + 1) ⟨by omega, fun k hk hkj => ?_⟩ (by omega) ?_
                        · by_cases h : k = j
                          · subst h; simpa using he
                          · exact hbj k hk (by omega)
                        refine Imp.to' (fun _ _ => trivial) (by simp [dTw, cTw, dRws]) (by simp [dTw, cTw, dRws])
                    · refine AW_exit (hK14 _ ?_)
                      refine AW_re (tyOf_good _) fun K' hK' => ?_
                      repeat (refine sxf_next fun K2 hK2 => ?_; simp [dTw, cTw, dRws]; (repeat (refine ⟨by omega, ?_⟩)); refine hK2 _ ?_; clear hK2 K2)
                      refine sxf_nil (hK' _ ?_)
                      clear hK' K'
                      try simp only [thn, inb]
                      refine Again.mk (i + 1) ⟨by omega, fun k hk hki => ?_⟩ (by omega) ?_
                      · by_cases h : k = i
                        · subst h
                          rw [List.any_eq_false]
                          intro x hx
                          obtain ⟨m, hm, rfl⟩ := List.mem_take_iff_getElem.1 hx
                          have := hbj m (by omega) (by omega)
                          rw [this]; decide
                        · exact hbi k hk (by omega)
                      refine Imp.to' (fun _ _ => trivial) (by simp [dTw, cTw, dRws]) (by simp [dTw, cTw, dRws])
                · rw [if_neg (by rw [twiceL_miss fun k hk => hbi k hk (by omega)]; decide)] at hbad
                  refine AW_exit (hK12 _ ?_)
                  refine AW_rg (tyOf_good _) [1, 2, 3, 4, 36, 37, 38, 106, 107, 108] [2] (fun _ _ => trivial) fun K' hK' => ?_
                  repeat (refine sxf_next fun K2 hK2 => ?_; simp [dTw, cTw, dRws]; (repeat (refine ⟨by omega, ?_⟩)); refine hK2 _ ?_; clear hK2 K2)
                  refine sxf_nil (hK' _ ?_)
                  refine AW.st (by simp [dTw, cTw, dRws]; rfl) ?_
                  clear hK' K'
                  refine AW_for (S := Nat) (fun i => i ≤ ps.length ∧ ∀ k (hk : k < ps.length), k < i → ((ps.take k).any fun y => absI ps[k] == absI y) = false) (fun i => ⟨lst [(1, .d (.ip [.v (.int .i64 S), .v (.int .i64 P), .sl none (rts.map cRw)])), (2, .ref 2 0 0), (3, int n), (4, .d (.ip [.sl none (ss.map fun x => [D.v (.int .i64 x)]), .sl none (ps.map fun x => [D.v (.int .i64 x)])])), (36, .d (.sl none (rts.map cRw))), (37, int rts.length), (38, int n), (106, .d (.sl none (ps.map fun x => [D.v (.int .i64 x)]))), (107, int ps.length), (108, int i)], hlst [(2, .box 32 [.d (.v (.int .i64 0)), .d (.v (.int .i64 0))])]⟩) (fun i => ps.length - i) 0 ?_ (by simp) ?_
                  · refine Imp.to' (fun _ _ => trivial) (by simp [dTw, cTw, dRws]) (by simp [dTw, cTw, dRws])
                  · rintro i ⟨hi, hbi⟩
                    refine AW_rg (tyOf_good _) [1, 2, 3, 4, 36, 37, 38, 106, 107, 108, 109] [2] (fun _ _ => trivial) fun K' hK' => ?_
                    repeat (refine sxf_next fun K2 hK2 => ?_; simp [dTw, cTw, dRws]; (repeat (refine ⟨by omega, ?_⟩)); refine hK2 _ ?_; clear hK2 K2)
                    refine sxf_nil (hK' _ ?_)
                    refine AW.st (by simp [dTw, cTw, dRws]; rfl) ?_
                    clear hK' K'
                    refine AW_then fun K17 hK17 => ?_
                    refine AW_cond' (b := i < ps.length) (by simp [D.le, D.le.go, takeMap, dTw, cTw, dRws]) (fun hc => ?_) (fun hc => ?_)
                    · have hil := hc
                      refine AW_skip (hK17 _ ?_)
                      refine AW_then fun K18 hK18 => ?_
                      refine AW_block ?_
                      refine AW_rg (tyOf_good _) [1, 2, 3, 4, 13, 14, 36, 37, 38, 106, 107, 108] [2] (fun _ _ => trivial) fun K' hK' => ?_
                      repeat (refine sxf_next fun K2 hK2 => ?_; simp [dTw, cTw, dRws, hil]; (repeat (refine ⟨by omega, ?_⟩)); refine hK2 _ ?_; clear hK2 K2)
                      refine sxf_nil (hK' _ ?_)
                      refine AW.st (by simp [dTw, cTw, dRws, hil]; rfl) ?_
                      clear hK' K'
                      have hmin : min i ps.length = i := by omega
                      refine AW_rg (tyOf_good _) [1, 2, 3, 4, 14, 36, 37, 38, 106, 107, 108, 116, 117, 118] [2] (fun _ _ => trivial) fun K' hK' => ?_
                      repeat (refine sxf_next fun K2 hK2 => ?_; simp [dTw, cTw, dRws, hil, takeMap, hmin]; (repeat (refine ⟨by omega, ?_⟩)); refine hK2 _ ?_; clear hK2 K2)
                      refine sxf_nil (hK' _ ?_)
                      refine AW.st (by simp [dTw, cTw, dRws, hil, takeMap, hmin]; rfl) ?_
                      clear hK' K'
                      refine AW_for (S := Nat) (fun j => j ≤ i ∧ ∀ k (hk : k < ps.length), k < j → (absI ps[i] == absI ps[k]) = false) (fun j => ⟨lst [(1, .d (.ip [.v (.int .i64 S), .v (.int .i64 P), .sl none (rts.map cRw)])), (2, .ref 2 0 0), (3, int n), (4, .d (.ip [.sl none (ss.map fun x => [D.v (.int .i64 x)]), .sl none (ps.map fun x => [D.v (.int .i64 x)])])), (14, int ps[i]), (36, .d (.sl none (rts.map cRw))), (37, int rts.length), (38, int n), (106, .d (.sl none (ps.map fun x => [D.v (.int .i64 x)]))), (107, int ps.length), (108, int i), (116, .d (.sl none (List.take i (ps.map fun x => [D.v (.int .i64 x)])))), (117, int i), (118, int j)], hlst [(2, .box 32 [.d (.v (.int .i64 0)), .d (.v (.int .i64 0))])]⟩) (fun j => i - j) 0 ?_ (by simp) ?_
                      · refine Imp.to' (fun _ _ => trivial) (by simp [dTw, cTw, dRws]) (by simp [dTw, cTw, dRws])
                      · rintro j ⟨hj, hbj⟩
                        refine AW_rg (tyOf_good _) [1, 2, 3, 4, 14, 36, 37, 38, 106, 107, 108, 116, 117, 118, 119] [2] (fun _ _ => trivial) fun K' hK' => ?_
                        repeat (refine sxf_next fun K2 hK2 => ?_; simp [dTw, cTw, dRws]; (repeat (refine ⟨by omega, ?_⟩)); refine hK2 _ ?_; clear hK2 K2)
                        refine sxf_nil (hK' _ ?_)
                        refine AW.st (by simp [dTw, cTw, dRws]; rfl) ?_
                        clear hK' K'
                        refine AW_then fun K19 hK19 => ?_
                        refine AW_cond' (b := j < i) (by simp [D.le, D.le.go, takeMap, dTw, cTw, dRws]) (fun hc => ?_) (fun hc => ?_)
                        · have hji := hc
                          have hjl : j < ps.length := by omega
                          refine AW_skip (hK19 _ ?_)
                          refine AW_then fun K20 hK20 => ?_
                          refine AW_block ?_
                          refine AW_rg (tyOf_good _) [1, 2, 3, 4, 14, 16, 36, 37, 38, 106, 107, 108, 116, 117, 118] [2] (fun _ _ => trivial) fun K' hK' => ?_
                          repeat (refine sxf_next fun K2 hK2 => ?_; simp [dTw, cTw, dRws, hji, hjl, hmin]; (repeat (refine ⟨by omega, ?_⟩)); refine hK2 _ ?_; clear hK2 K2)
                          refine sxf_nil (hK' _ ?_)
                          refine AW.st (by simp [dTw, cTw, dRws, hji, hjl, hmin]; rfl) ?_
                          clear hK' K'
                          have ha1 := abs_spec G ps[i] (hs3 _ (List.getElem_mem hil))
                          have ha2 := abs_spec G ps[j] (hs3 _ (List.getElem_mem hjl))
                          refine AW_rg (tyOf_good _) [1, 2, 3, 4, 14, 36, 37, 38, 106, 107, 108, 116, 117, 118, 126] [2] (fun _ _ => trivial) fun K' hK' => ?_
                          repeat (refine sxf_next fun K2 hK2 => ?_; simp [dTw, cTw, dRws]; (repeat (refine ⟨by omega, ?_⟩)); refine hK2 _ ?_; clear hK2 K2)
                          refine sxf_next fun K2 hK2 => ?_
                          simp [dTw, cTw, dRws]
                          refine callK.data (ha1) (by simp; rfl) (by first | exact D.leGo_refl _ | simp [takeMap, List.map_map, Function.comp_def, D.le, D.le.go, D.le_refl, D.leGo_refl, dTw, cTw, dRws]) ?_
                          refine hK2 _ ?_
                          clear hK2 K2
                          simp only [putd, upd_lst]
                          repeat (refine sxf_next fun K2 hK2 => ?_; simp [dTw, cTw, dRws]; (repeat (refine ⟨by omega, ?_⟩)); refine hK2 _ ?_; clear hK2 K2)
                          refine sxf_next fun K2 hK2 => ?_
                          simp [dTw, cTw, dRws]
                          refine callK.data (ha2) (by simp; rfl) (by first | exact D.leGo_refl _ | simp [takeMap, List.map_map, Function.comp_def, D.le, D.le.go, D.le_refl, D.leGo_refl, dTw, cTw, dRws]) ?_
                          refine hK2 _ ?_
                          clear hK2 K2
                          simp only [putd, upd_lst]
                          repeat (refine sxf_next fun K2 hK2 => ?_; simp [dTw, cTw, dRws]; (repeat (refine ⟨by omega, ?_⟩)); refine hK2 _ ?_; clear hK2 K2)
                          refine sxf_nil (hK' _ ?_)
                          refine AW.st (by simp [dTw, cTw, dRws]; rfl) ?_
                          clear hK' K'
                          by_cases he : absI ps[i] = absI ps[j]
                          · rw [if_pos (twiceL_hit hil (List.any_eq_true.2 ⟨ps[j], List.mem_take_iff_getElem.2 ⟨j, by omega, rfl⟩, by simpa using he⟩))] at hbad
                            have hg := hgo (by rw [hbad]; decide)
                            rw [hbad] at hg
                            refine AW_cond true (by simp [he]) (fun _ => ?_) (fun h => by cases h)
                            refine AW_rg (tyOf_good _) [2] [2] (fun _ _ => trivial) fun K' hK' => ?_
                            repeat (refine sxf_next fun K2 hK2 => ?_; simp [dTw, cTw, dRws]; (repeat (refine ⟨by omega, ?_⟩)); refine hK2 _ ?_; clear hK2 K2)
                            refine sxf_nil (hK' _ ?_)
                            refine AW.st (by simp [dTw, cTw, dRws]; rfl) ?_
                            clear hK' K'
                            refine AW_ret ?_
                            simp [D.le, D.le.go, takeMap, dTw, cTw, dRws]
                            simp [hg, dFault, codeF, placeF, dNum, D.le, D.le.go]
                          · refine AW_cond false (by simp [he]) (fun h => by cases h) (fun _ => ?_)
                            refine AW_skip (hK20 _ ?_)
                            refine AW_re (tyOf_good _) fun K' hK' => ?_
                            repeat (refine sxf_next fun K2 hK2 => ?_; simp [dTw, cTw, dRws]; (repeat (refine ⟨by omega, ?_⟩)); refine hK2 _ ?_; clear hK2 K2)
                            refine sxf_nil (hK' _ ?_)
                            clear hK' K'
                            try simp only [thn, inb]
                            refine Again.mk (j + 1) ⟨by omega, fun k hk hkj => ?_⟩ (by omega) ?_
                            · by_cases h : k = j
                              · subst h; simpa using he
                              · exact hbj k hk (by omega)
                            refine Imp.to' (fun _ _ => trivial) (by simp [dTw, cTw, dRws]) (by simp [dTw, cTw, dRws])
                        · refine AW_exit (hK18 _ ?_)
                          refine AW_re (tyOf_good _) fun K' hK' => ?_
                          repeat (refine sxf_next fun K2 hK2 => ?_; simp [dTw, cTw, dRws]; (repeat (refine ⟨by omega, ?_⟩)); refine hK2 _ ?_; clear hK2 K2)
                          refine sxf_nil (hK' _ ?_)
                          clear hK' K'
                          try simp only [thn, inb]
                          refine Again.mk (i + 1) ⟨by omega, fun k hk hki => ?_⟩ (by omega) ?_
                          · by_cases h : k = i
                            · subst h
                              rw [List.any_eq_false]
                              intro x hx
                              obtain ⟨m, hm, rfl⟩ := List.mem_take_iff_getElem.1 hx
                              have := hbj m (by omega) (by omega)
                              rw [this]; decide
                            · exact hbi k hk (by omega)
                          refine Imp.to' (fun _ _ => trivial) (by simp [dTw, cTw, dRws]) (by simp [dTw, cTw, dRws])
                    · rw [if_neg (by rw [twiceL_miss fun k hk => hbi k hk (by omega)]; decide)] at hbad
                      refine AW_exit (hK4 _ ?_)
                      refine AW_re (tyOf_good _) fun K' hK' => ?_
                      repeat (refine sxf_next fun K2 hK2 => ?_; simp [dTw, cTw, dRws]; (repeat (refine ⟨by omega, ?_⟩)); refine hK2 _ ?_; clear hK2 K2)
                      refine sxf_nil (hK' _ ?_)
                      clear hK' K'
                      try simp only [thn, inb]
                      refine Again.mk (n + 1) ⟨by omega, fun k hk hkn => ?_⟩ (by omega) ?_
                      · by_cases h : k = n
                        · subst h; rw [hv, hbad]
                        · exact hb k hk (by omega)
                      refine Imp.to' (fun _ _ => trivial) (by simp [dTw, cTw, dRws]) (by simp [dTw, cTw, dRws])
    · refine AW_exit (hK2 _ ?_)
      rw [firstE_none fun k hk => hb k hk (by omega)] at hres
      have hF2 : G 0 = some (.ip [dNum 0, dNum (-1)]) := hF
      refine AW_rg (tyOf_good _) [2] [2] (fun _ _ => trivial) fun K' hK' => ?_
      repeat (refine sxf_next fun K2 hK2 => ?_; simp [dTw, cTw, dRws, hF2, dNum]; (repeat (refine ⟨by omega, ?_⟩)); refine hK2 _ ?_; clear hK2 K2)
      refine sxf_nil (hK' _ ?_)
      refine AW.st (by simp [dTw, cTw, dRws, hF2, dNum]; rfl) ?_
      clear hK' K'
      refine AW_ret ?_
      simp [D.le, D.le.go, takeMap, dTw, cTw, dRws]
      simp [← hres, dFault, codeF, placeF, dNum, D.le, D.le.go]
end Go.Proofs.YtnlhioeefmhklaaDoor

/-
  The document's routes: Clash.
-/
namespace Go.Proofs.YtnlhioeefmhklaaDoor
set_option linter.unusedSimpArgs false
set_option linter.unusedVariables false
open Go.Av

set_option maxHeartbeats 4000000 in
theorem wclash_spec (G : Glob) (a b : RtW) (ha : a.1.length < 2^62 ∧ a.2.length < 2^62) (hb : b.1.length < 2^62 ∧ b.2.length < 2^62) (hn : ∀ q ∈ b.2, SmallN q) : PureC Tryd.prog G 9 [dRw a, dRw b] (.v (.bool (clashW a b))) := by
  obtain ⟨a1, a2⟩ := a
  obtain ⟨b1, b2⟩ := b
  obtain ⟨ha1, ha2⟩ := ha
  obtain ⟨hb1, hb2⟩ := hb
  dsimp only at ha1 ha2 hb1 hb2 hn
  have hW : clashW (a1, a2) (b1, b2) = ((a1.any fun s => b1.any fun u => s == u) || a2.any fun p => b2.any fun q => p == -q) := rfl
  generalize clashW (a1, a2) (b1, b2) = W at hW
  refine PureC.of_body (tyOf_good _) Tryd.func9 rfl rfl (rs := [.tmp 4]) Tryd.results9 (by simp [Tryd.ntmps9]) fun X => ?_
  simp only [Tryd.ntmps9, List.map]
  refine AW_rg (tyOf_good _) [2, 3] [2, 3] (fun _ _ => trivial) fun K' hK' => ?_
  repeat (refine sxf_next fun K2 hK2 => ?_; simp [dRw, cRw, dRow_eq]; (repeat (refine ⟨by omega, ?_⟩)); refine hK2 _ ?_; clear hK2 K2)
  refine sxf_nil (hK' _ ?_)
  refine AW.st (by simp [dRw, cRw, dRow_eq]; rfl) ?_
  clear hK' K'
  refine AW.imp (Imp.freezeB 2 trivial) ?_
  refine AW.st (by simp [dRw, cRw, dRow_eq]; rfl) ?_
  refine AW.imp (Imp.freezeB 3 trivial) ?_
  refine AW.st (by simp [dRw, cRw, dRow_eq]; rfl) ?_
  refine AW_then fun K1 hK1 => ?_
  refine AW_rg (tyOf_good _) [2, 3, 14, 15, 16] [] (fun _ _ => trivial) fun K' hK' => ?_
  repeat (refine sxf_next fun K2 hK2 => ?_; simp [dRw, cRw, dRow_eq]; (repeat (refine ⟨by omega, ?_⟩)); refine hK2 _ ?_; clear hK2 K2)
  refine sxf_nil (hK' _ ?_)
  refine AW.st (by simp [dRw, cRw, dRow_eq]; rfl) ?_
  clear hK' K'
  refine AW_for (S := Nat) (fun i => i ≤ a1.length ∧ ∀ k (hk : k < a1.length), k < i → (b1.any fun u => a1[k] == u) = false) (fun i => ⟨lst [(2, .d (.ip [.sl none (a1.map fun x => [D.v (.int .i64 x)]), .sl none (a2.map fun x => [D.v (.int .i64 x)])])), (3, .d (.ip [.sl none (b1.map fun x => [D.v (.int .i64 x)]), .sl none (b2.map fun x => [D.v (.int .i64 x)])])), (14, .d (.sl none (a1.map fun x => [D.v (.int .i64 x)]))), (15, int a1.length), (16, int i)], hlst []⟩) (fun i => a1.length - i) 0 ?_ (by simp) ?_
  · refine Imp.to' (fun _ _ => trivial) (by simp [dRw, cRw, dRow_eq]) (by simp [dRw, cRw, dRow_eq])
  · rintro i ⟨hi, hbi⟩
    refine AW_rg (tyOf_good _) [2, 3, 14, 15, 16, 17] [] (fun _ _ => trivial) fun K' hK' => ?_
    repeat (refine sxf_next fun K2 hK2 => ?_; simp [dRw, cRw, dRow_eq]; (repeat (refine ⟨by omega, ?_⟩)); refine hK2 _ ?_; clear hK2 K2)
    refine sxf_nil (hK' _ ?_)
    refine AW.st (by simp [dRw, cRw, dRow_eq]; rfl) ?_
    clear hK' K'
    refine AW_then fun K2 hK2 => ?_
    refine AW_cond' (b := i < a1.length) (by simp [D.le, D.le.go, takeMap, dRw, cRw, dRow_eq]) (fun hc => ?_) (fun hc => ?_)
    · have hil := hc
      refine AW_skip (hK2 _ ?_)
      refine AW_then fun K3 hK3 => ?_
      refine AW_block ?_
      refine AW_rg (tyOf_good _) [2, 3, 6, 14, 15, 16] [] (fun _ _ => trivial) fun K' hK' => ?_
      repeat (refine sxf_next fun K2 hK2 => ?_; simp [dRw, cRw, dRow_eq, hil]; (repeat (refine ⟨by omega, ?_⟩)); refine hK2 _ ?_; clear hK2 K2)
      refine sxf_nil (hK' _ ?_)
      refine AW.st (by simp [dRw, cRw, dRow_eq, hil]; rfl) ?_
      clear hK' K'
      refine AW_rg (tyOf_good _) [2, 3, 6, 14, 15, 16, 21, 22, 23] [] (fun _ _ => trivial) fun K' hK' => ?_
      repeat (refine sxf_next fun K2 hK2 => ?_; simp [dRw, cRw, dRow_eq]; (repeat (refine ⟨by omega, ?_⟩)); refine hK2 _ ?_; clear hK2 K2)
      refine sxf_nil (hK' _ ?_)
      refine AW.st (by simp [dRw, cRw, dRow_eq]; rfl) ?_
      clear hK' K'
      refine AW_for (S := Nat) (fun j => j ≤ b1.length ∧ ∀ k (hk : k < b1.length), k < j → (a1[i] == b1[k]) = false) (fun j => ⟨lst [(2, .d (.ip [.sl none (a1.map fun x => [D.v (.int .i64 x)]), .sl none (a2.map fun x => [D.v (.int .i64 x)])])), (3, .d (.ip [.sl none (b1.map fun x => [D.v (.int .i64 x)]), .sl none (b2.map fun x => [D.v (.int .i64 x)])])), (6, int a1[i]), (14, .d (.sl none (a1.map fun x => [D.v (.int .i64 x)]))), (15, int a1.length), (16, int i), (21, .d (.sl none (b1.map fun x => [D.v (.int .i64 x)]))), (22, int b1.length), (23, int j)], hlst []⟩) (fun j => b1.length - j) 0 ?_ (by simp) ?_
      · refine Imp.to' (fun _ _ => trivial) (by simp [dRw, cRw, dRow_eq]) (by simp [dRw, cRw, dRow_eq])
      · rintro j ⟨hj, hbj⟩
        refine AW_rg (tyOf_good _) [2, 3, 6, 14, 15, 16, 21, 22, 23, 24] [] (fun _ _ => trivial) fun K' hK' => ?_
        repeat (refine sxf_next fun K2 hK2 => ?_; simp [dRw, cRw, dRow_eq]; (repeat (refine ⟨by omega, ?_⟩)); refine hK2 _ ?_; clear hK2 K2)
        refine sxf_nil (hK' _ ?_)
        refine AW.st (by simp [dRw, cRw, dRow_eq]; rfl) ?_
        clear hK' K'
        refine AW_then fun K4 hK4 => ?_
        refine AW_cond' (b := j < b1.length) (by simp [D.le, D.le.go, takeMap, dRw, cRw, dRow_eq]) (fun hc => ?_) (fun hc => ?_)
        · have hjl := hc
          refine AW_skip (hK4 _ ?_)
          refine AW_then fun K5 hK5 => ?_
          refine AW_block ?_
          refine AW_rg (tyOf_good _) [2, 3, 6, 8, 14, 15, 16, 21, 22, 23] [] (fun _ _ => trivial) fun K' hK' => ?_
          repeat (refine sxf_next fun K2 hK2 => ?_; simp [dRw, cRw, dRow_eq, hjl]; (repeat (refine ⟨by omega, ?_⟩)); refine hK2 _ ?_; clear hK2 K2)
          refine sxf_nil (hK' _ ?_)
          refine AW.st (by simp [dRw, cRw, dRow_eq, hjl]; rfl) ?_
          clear hK' K'
          refine AW_rg (tyOf_good _) [2, 3, 6, 14, 15, 16, 21, 22, 23, 29] [] (fun _ _ => trivial) fun K' hK' => ?_
          repeat (refine sxf_next fun K2 hK2 => ?_; simp [dRw, cRw, dRow_eq]; (repeat (refine ⟨by omega, ?_⟩)); refine hK2 _ ?_; clear hK2 K2)
          refine sxf_nil (hK' _ ?_)
          refine AW.st (by simp [dRw, cRw, dRow_eq]; rfl) ?_
          clear hK' K'
          by_cases he : a1[i] = b1[j]
          · rw [List.any_eq_true.2 ⟨a1[i], List.getElem_mem hil, List.any_eq_true.2 ⟨b1[j], List.getElem_mem hjl, by simpa using he⟩⟩, Bool.true_or] at hW
            refine AW_cond true (by simp [he]) (fun _ => ?_) (fun h => by cases h)
            refine AW_rg (tyOf_good _) [4] [] (fun _ _ => trivial) fun K' hK' => ?_
            repeat (refine sxf_next fun K2 hK2 => ?_; simp [dRw, cRw, dRow_eq]; (repeat (refine ⟨by omega, ?_⟩)); refine hK2 _ ?_; clear hK2 K2)
            refine sxf_nil (hK' _ ?_)
            refine AW.st (by simp [dRw, cRw, dRow_eq]; rfl) ?_
            clear hK' K'
            refine AW_ret ?_
            simp [D.le, D.le.go, takeMap, dRw, cRw, dRow_eq, hW]
          · refine AW_cond false (by simp [he]) (fun h => by cases h) (fun _ => ?_)
            refine AW_skip (hK5 _ ?_)
            refine AW_re (tyOf_good _) fun K' hK' => ?_
            repeat (refine sxf_next fun K2 hK2 => ?_; simp [dRw, cRw, dRow_eq]; (repeat (refine ⟨by omega, ?_⟩)); refine hK2 _ ?_; clear hK2 K2)
            refine sxf_nil (hK' _ ?_)
            clear hK' K'
            try simp only [thn, inb]
            refine Again.mk (j + 1) ⟨by omega, fun k hk hkj => ?_⟩ (by omega) ?_
            · by_cases h : k = j
              · subst h; simpa using he
              · exact hbj k hk (by omega)
            refine Imp.to' (fun _ _ => trivial) (by simp [dRw, cRw, dRow_eq]) (by simp [dRw, cRw, dRow_eq])
        · refine AW_exit (hK3 _ ?_)
          refine AW_re (tyOf_good _) fun K' hK' => ?_
          repeat (refine sxf_next fun K2 hK2 => ?_; simp [dRw, cRw, dRow_eq]; (repeat (refine ⟨by omega, ?_⟩)); refine hK2 _ ?_; clear hK2 K2)
          refine sxf_nil (hK' _ ?_)
          clear hK' K'
          try simp only [thn, inb]
          refine Again.mk (i + 1) ⟨by omega, fun k hk hki => ?_⟩ (by omega) ?_
          · by_cases h : k = i
            · subst h
              rw [List.any_eq_false]
              intro x hx
              obtain ⟨m, hm, rfl⟩ := List.mem_iff_getElem.1 hx
              rw [hbj m hm (by omega)]; decide
            · exact hbi k hk (by omega)
          refine Imp.to' (fun _ _ => trivial) (by simp [dRw, cRw, dRow_eq]) (by simp [dRw, cRw, dRow_eq])
    · have h1 : (a1.any fun s => b1.any fun u => s == u) = false := by
        rw [List.any_eq_false]
        intro x hx
        obtain ⟨m, hm, rfl⟩ := List.mem_iff_getElem.1 hx
        rw [hbi m hm (by omega)]; decide
      rw [h1, Bool.false_or] at hW
      refine AW_exit (hK1 _ ?_)
      refine AW_then fun K6 hK6 => ?_
      refine AW_rg (tyOf_good _) [3, 33, 34, 35] [] (fun _ _ => trivial) fun K' hK' => ?_
      repeat (refine sxf_next fun K2 hK2 => ?_; simp [dRw, cRw, dRow_eq]; (repeat (refine ⟨by omega, ?_⟩)); refine hK2 _ ?_; clear hK2 K2)
      refine sxf_nil (hK' _ ?_)
      refine AW.st (by simp [dRw, cRw, dRow_eq]; rfl) ?_
      clear hK' K'
      refine AW_for (S := Nat) (fun i => i ≤ a2.length ∧ ∀ k (hk : k < a2.length), k < i → (b2.any fun u => a2[k] == -u) = false) (fun i => ⟨lst [(3, .d (.ip [.sl none (b1.map fun x => [D.v (.int .i64 x)]), .sl none (b2.map fun x => [D.v (.int .i64 x)])])), (33, .d (.sl none (a2.map fun x => [D.v (.int .i64 x)]))), (34, int a2.length), (35, int i)], hlst []⟩) (fun i => a2.length - i) 0 ?_ (by simp) ?_
      · refine Imp.to' (fun _ _ => trivial) (by simp [dRw, cRw, dRow_eq]) (by simp [dRw, cRw, dRow_eq])
      · rintro i ⟨hi, hbi⟩
        refine AW_rg (tyOf_good _) [3, 33, 34, 35, 36] [] (fun _ _ => trivial) fun K' hK' => ?_
        repeat (refine sxf_next fun K2 hK2 => ?_; simp [dRw, cRw, dRow_eq]; (repeat (refine ⟨by omega, ?_⟩)); refine hK2 _ ?_; clear hK2 K2)
        refine sxf_nil (hK' _ ?_)
        refine AW.st (by simp [dRw, cRw, dRow_eq]; rfl) ?_
        clear hK' K'
        refine AW_then fun K7 hK7 => ?_
        refine AW_cond' (b := i < a2.length) (by simp [D.le, D.le.go, takeMap, dRw, cRw, dRow_eq]) (fun hc => ?_) (fun hc => ?_)
        · have hil := hc
          refine AW_skip (hK7 _ ?_)
          refine AW_then fun K8 hK8 => ?_
          refine AW_block ?_
          refine AW_rg (tyOf_good _) [3, 10, 33, 34, 35] [] (fun _ _ => trivial) fun K' hK' => ?_
          repeat (refine sxf_next fun K2 hK2 => ?_; simp [dRw, cRw, dRow_eq, hil]; (repeat (refine ⟨by omega, ?_⟩)); refine hK2 _ ?_; clear hK2 K2)
          refine sxf_nil (hK' _ ?_)
          refine AW.st (by simp [dRw, cRw, dRow_eq, hil]; rfl) ?_
          clear hK' K'
          refine AW_rg (tyOf_good _) [3, 10, 33, 34, 35, 40, 41, 42] [] (fun _ _ => trivial) fun K' hK' => ?_
          repeat (refine sxf_next fun K2 hK2 => ?_; simp [dRw, cRw, dRow_eq]; (repeat (refine ⟨by omega, ?_⟩)); refine hK2 _ ?_; clear hK2 K2)
          refine sxf_nil (hK' _ ?_)
          refine AW.st (by simp [dRw, cRw, dRow_eq]; rfl) ?_
          clear hK' K'
          refine AW_for (S := Nat) (fun j => j ≤ b2.length ∧ ∀ k (hk : k < b2.length), k < j → (a2[i] == -b2[k]) = false) (fun j => ⟨lst [(3, .d (.ip [.sl none (b1.map fun x => [D.v (.int .i64 x)]), .sl none (b2.map fun x => [D.v (.int .i64 x)])])), (10, int a2[i]), (33, .d (.sl none (a2.map fun x => [D.v (.int .i64 x)]))), (34, int a2.length), (35, int i), (40, .d (.sl none (b2.map fun x => [D.v (.int .i64 x)]))), (41, int b2.length), (42, int j)], hlst []⟩) (fun j => b2.length - j) 0 ?_ (by simp) ?_
          · refine Imp.to' (fun _ _ => trivial) (by simp [dRw, cRw, dRow_eq]) (by simp [dRw, cRw, dRow_eq])
          · rintro j ⟨hj, hbj⟩
            refine AW_rg (tyOf_good _) [3, 10, 33, 34, 35, 40, 41, 42, 43] [] (fun _ _ => trivial) fun K' hK' => ?_
            repeat (refine sxf_next fun K2 hK2 => ?_; simp [dRw, cRw, dRow_eq]; (repeat (refine ⟨by omega, ?_⟩)); refine hK2 _ ?_; clear hK2 K2)
            refine sxf_nil (hK' _ ?_)
            refine AW.st (by simp [dRw, cRw, dRow_eq]; rfl) ?_
            clear hK' K'
            refine AW_then fun K9 hK9 => ?_
            refine AW_cond' (b := j < b2.length) (by simp [D.le, D.le.go, takeMap, dRw, cRw, dRow_eq]) (fun hc => ?_) (fun hc => ?_)
            · have hjl := hc
              obtain ⟨hq1, hq2⟩ := hn _ (List.getElem_mem hjl)
              refine AW_skip (hK9 _ ?_)
              refine AW_then fun K10 hK10 => ?_
              refine AW_block ?_
              refine AW_rg (tyOf_good _) [3, 10, 12, 33, 34, 35, 40, 41, 42] [] (fun _ _ => trivial) fun K' hK' => ?_
              repeat (refine sxf_next fun K2 hK2 => ?_; simp [dRw, cRw, dRow_eq, hjl]; (repeat (refine ⟨by omega, ?_⟩)); refine hK2 _ ?_; clear hK2 K2)
              refine sxf_nil (hK' _ ?_)
              refine AW.st (by simp [dRw, cRw, dRow_eq, hjl]; rfl) ?_
              clear hK' K'
              refine AW_rg (tyOf_good _) [3, 10, 33, 34, 35, 40, 41, 42, 49] [] (fun _ _ => trivial) fun K' hK' => ?_
              repeat (refine sxf_next fun K2 hK2 => ?_; simp [dRw, cRw, dRow_eq]; (repeat (refine ⟨by omega, ?_⟩)); refine hK2 _ ?_; clear hK2 K2)
              refine sxf_nil (hK' _ ?_)
              refine AW.st (by simp [dRw, cRw, dRow_eq]; rfl) ?_
              clear hK' K'
              by_cases he : a2[i] = -b2[j]
              · rw [List.any_eq_true.2 ⟨a2[i], List.getElem_mem hil, List.any_eq_true.2 ⟨b2[j], List.getElem_mem hjl, by simpa using he⟩⟩] at hW
                refine AW_cond true (by simp [he]) (fun _ => ?_) (fun h => by cases h)
                refine AW_rg (tyOf_good _) [4] [] (fun _ _ => trivial) fun K' hK' => ?_
                repeat (refine sxf_next fun K2 hK2 => ?_; simp [dRw, cRw, dRow_eq]; (repeat (refine ⟨by omega, ?_⟩)); refine hK2 _ ?_; clear hK2 K2)
                refine sxf_nil (hK' _ ?_)
                refine AW.st (by simp [dRw, cRw, dRow_eq]; rfl) ?_
                clear hK' K'
                refine AW_ret ?_
                simp [D.le, D.le.go, takeMap, dRw, cRw, dRow_eq, hW]
              · refine AW_cond false (by simp [he]) (fun h => by cases h) (fun _ => ?_)
                refine AW_skip (hK10 _ ?_)
                refine AW_re (tyOf_good _) fun K' hK' => ?_
                repeat (refine sxf_next fun K2 hK2 => ?_; simp [dRw, cRw, dRow_eq]; (repeat (refine ⟨by omega, ?_⟩)); refine hK2 _ ?_; clear hK2 K2)
                refine sxf_nil (hK' _ ?_)
                clear hK' K'
                try simp only [thn, inb]
                refine Again.mk (j + 1) ⟨by omega, fun k hk hkj => ?_⟩ (by omega) ?_
                · by_cases h : k = j
                  · subst h; simpa using he
                  · exact hbj k hk (by omega)
                refine Imp.to' (fun _ _ => trivial) (by simp [dRw, cRw, dRow_eq]) (by simp [dRw, cRw, dRow_eq])
            · refine AW_exit (hK8 _ ?_)
              refine AW_re (tyOf_good _) fun K' hK' => ?_
              repeat (refine sxf_next fun K2 hK2 => ?_; simp [dRw, cRw, dRow_eq]; (repeat (refine ⟨by omega, ?_⟩)); refine hK2 _ ?_; clear hK2 K2)
              refine sxf_nil (hK' _ ?_)
              clear hK' K'
              try simp only [thn, inb]
              refine Again.mk (i + 1) ⟨by omega, fun k hk hki => ?_⟩ (by omega) ?_
              · by_cases h : k = i
                · subst h
                  rw [List.any_eq_false]
                  intro x hx
                  obtain ⟨m, hm, rfl⟩ := List.mem_iff_getElem.1 hx
                  rw [hbj m hm (by omega)]; decide
                · exact hbi k hk (by omega)
              refine Imp.to' (fun _ _ => trivial) (by simp [dRw, cRw, dRow_eq]) (by simp [dRw, cRw, dRow_eq])
        · have h1 : (a2.any fun p => b2.any fun q => p == -q) = false := by
            rw [List.any_eq_false]
            intro x hx
            obtain ⟨m, hm, rfl⟩ := List.mem_iff_getElem.1 hx
            rw [hbi m hm (by omega)]; decide
          rw [h1] at hW
          refine AW_exit (hK6 _ ?_)
          refine AW_rg (tyOf_good _) [4] [] (fun _ _ => trivial) fun K' hK' => ?_
          repeat (refine sxf_next fun K2 hK2 => ?_; simp [dRw, cRw, dRow_eq]; (repeat (refine ⟨by omega, ?_⟩)); refine hK2 _ ?_; clear hK2 K2)
          refine sxf_nil (hK' _ ?_)
          refine AW.st (by simp [dRw, cRw, dRow_eq]; rfl) ?_
          clear hK' K'
          refine AW_ret ?_
          simp [D.le, D.le.go, takeMap, dRw, cRw, dRow_eq, hW]
end Go.Proofs.YtnlhioeefmhklaaDoor

/-
  RouteTells: a table as the document's.
-/
namespace Go.Proofs.YtnlhioeefmhklaaDoor
set_option linter.unusedSimpArgs false
set_option linter.unusedVariables false
open Go.Av

def convR (r : Rt) : RtW := (r.1, r.2.map convP)
def badL (r : Rt) : Bool := decide (20 < r.1.length) || decide (20 < r.2.length)
def trI (rts : List Rt) (i : Nat) : List RtW := (rts.take i).map convR
theorem trI_zero (rts : List Rt) : trI rts 0 = [] := by simp [trI]
theorem trI_succ {rts : List Rt} {i : Nat} (h : i < rts.length) : trI rts (i + 1) = trI rts i ++ [convR rts[i]] := by
  unfold trI; rw [List.take_succ_eq_append_getElem h, List.map_append]; rfl
theorem trI_len {rts : List Rt} {i : Nat} (h : i ≤ rts.length) : (trI rts i).length = i := by simp [trI]; omega
def ptI (ps : List (Int × Bool)) (k : Nat) : List Int := (ps.take k).map convP
theorem ptI_zero (ps : List (Int × Bool)) : ptI ps 0 = [] := by simp [ptI]
theorem ptI_succ {ps : List (Int × Bool)} {i : Nat} (h : i < ps.length) : ptI ps (i + 1) = ptI ps i ++ [convP ps[i]] := by
  unfold ptI; rw [List.take_succ_eq_append_getElem h, List.map_append]; rfl
theorem ptI_len {ps : List (Int × Bool)} {i : Nat} (h : i ≤ ps.length) : (ptI ps i).length = i := by simp [ptI]; omega
theorem ptI_all (ps : List (Int × Bool)) : ptI ps ps.length = ps.map convP := by simp [ptI]
/-- The table that 'track' tells, and whether it is one. -/
def trackF (t : Tb) : Tw × Bool := if 8 < t.rts.length then (⟨t.secs, t.pts, []⟩, false) else match t.rts.findIdx? badL with
  | some i => (⟨t.secs, t.pts, trI t.rts i⟩, false)
  | none => (⟨t.secs, t.pts, trI t.rts t.rts.length⟩, true)

set_option maxHeartbeats 16000000 in
theorem track_spec (G : Glob) (t : Tb) : PureC Tryd.prog G 4 [dTb t] (.tup [dTw (trackF t).1, .v (.bool (trackF t).2)]) := by
  obtain ⟨S, P, rts⟩ := t
  have hr2 : trackF ⟨S, P, rts⟩ = if 8 < rts.length then (⟨S, P, []⟩, false) else match rts.findIdx? badL with
    | some i => (⟨S, P, trI rts i⟩, false)
    | none => (⟨S, P, trI rts rts.length⟩, true) := rfl
  generalize hres : trackF ⟨S, P, rts⟩ = res
  rw [hr2] at hres
  refine PureC.of_body (tyOf_good _) Tryd.func4 rfl rfl (rs := [.cell 2 27, .tmp 3]) Tryd.results4 (by simp [Tryd.ntmps4]) fun X => ?_
  simp only [Tryd.ntmps4, List.map]
  refine AW_rg (tyOf_good _) [1, 2] [1, 2] (fun _ _ => trivial) fun K' hK' => ?_
  repeat (refine sxf_next fun K2 hK2 => ?_; simp [dTb, cTb, dRts, dTw, cTw, dRws]; (repeat (refine ⟨by omega, ?_⟩)); refine hK2 _ ?_; clear hK2 K2)
  refine sxf_nil (hK' _ ?_)
  refine AW.st (by simp [dTb, cTb, dRts, dTw, cTw, dRws]; rfl) ?_
  clear hK' K'
  refine AW.imp (Imp.freezeB 1 trivial) ?_
  refine AW.st (by simp [dTb, cTb, dRts, dTw, cTw, dRws]; rfl) ?_
  refine AW_rg (tyOf_good _) [1, 2, 4] [2, 4] (fun _ _ => trivial) fun K' hK' => ?_
  repeat (refine sxf_next fun K2 hK2 => ?_; simp [dTb, cTb, dRts, dTw, cTw, dRws]; (repeat (refine ⟨by omega, ?_⟩)); refine hK2 _ ?_; clear hK2 K2)
  refine sxf_nil (hK' _ ?_)
  refine AW.st (by simp [dTb, cTb, dRts, dTw, cTw, dRws]; rfl) ?_
  clear hK' K'
  refine AW_then fun K1 hK1 => ?_
  refine AW_rg (tyOf_good _) [1, 2, 4, 18] [2, 4] (fun _ _ => trivial) fun K' hK' => ?_
  repeat (refine sxf_next fun K2 hK2 => ?_; simp [dTb, cTb, dRts, dTw, cTw, dRws]; (repeat (refine ⟨by omega, ?_⟩)); refine hK2 _ ?_; clear hK2 K2)
  refine sxf_nil (hK' _ ?_)
  refine AW.st (by simp [dTb, cTb, dRts, dTw, cTw, dRws]; rfl) ?_
  clear hK' K'
  by_cases h8 : 8 < rts.length
  · rw [if_pos h8] at hres
    refine AW_cond true (by simp; omega) (fun _ => ?_) (fun h => by cases h)
    refine AW_rg (tyOf_good _) [2, 3] [2] (fun _ _ => trivial) fun K' hK' => ?_
    repeat (refine sxf_next fun K2 hK2 => ?_; simp [dTb, cTb, dRts, dTw, cTw, dRws]; (repeat (refine ⟨by omega, ?_⟩)); refine hK2 _ ?_; clear hK2 K2)
    refine sxf_nil (hK' _ ?_)
    refine AW.st (by simp [dTb, cTb, dRts, dTw, cTw, dRws]; rfl) ?_
    clear hK' K'
    refine AW_ret ?_
    simp [D.le, D.le.go, takeMap, dTb, cTb, dRts, dTw, cTw, dRws]
    simp [← hres, D.le, D.le.go]
  rw [if_neg h8] at hres
  refine AW_cond false (by simp; omega) (fun h => by cases h) (fun _ => ?_)
  refine AW_skip (hK1 _ ?_)
  refine AW_then fun K2 hK2 => ?_
  refine AW_rg (tyOf_good _) [1, 2, 4, 5] [2, 4] (fun _ _ => trivial) fun K' hK' => ?_
  repeat (refine sxf_next fun K2 hK2 => ?_; simp [dTb, cTb, dRts, dTw, cTw, dRws]; (repeat (refine ⟨by omega, ?_⟩)); refine hK2 _ ?_; clear hK2 K2)
  refine sxf_nil (hK' _ ?_)
  refine AW.st (by simp [dTb, cTb, dRts, dTw, cTw, dRws]; rfl) ?_
  clear hK' K'
  refine AW_for (S := Nat) (fun i => i ≤ rts.length ∧ ∀ k (hk : k < rts.length), k < i → badL rts[k] = false) (fun i => ⟨lst [(1, .d (.ip [.v (.int .i64 S), .v (.int .i64 P), .sl none (rts.map cRt)])), (2, .ref 2 0 0), (4, .ref 4 0 0), (5, int i)], hlst [(2, .box 27 [.d (.v (.int .i64 0)), .d (.v (.int .i64 0)), .d (.sl (some false) [])]), (4, .box 27 [.d (.v (.int .i64 S)), .d (.v (.int .i64 P)), .own 300 0 i]), (300, .sl 45 2 ((trI rts i).map cRw))]⟩) (fun i => rts.length - i) 0 ?_ (by simp) ?_
  · refine (Imp.adoptCell 4 2 300 45 2 rfl rfl rfl).trans ?_
    refine Imp.to' (fun _ _ => trivial) (by simp [dTb, cTb, dRts, dTw, cTw, dRws, trI_zero]) (by simp [dTb, cTb, dRts, dTw, cTw, dRws, trI_zero])
  · rintro i ⟨hi, hb⟩
    have htl := trI_len hi
    refine AW_then fun K3 hK3 => ?_
    refine AW_rg (tyOf_good _) [1, 2, 4, 5, 24] [2, 4, 300] (fun _ _ => trivial) fun K' hK' => ?_
    repeat (refine sxf_next fun K2 hK2 => ?_; simp [dTb, cTb, dRts, dTw, cTw, dRws]; (repeat (refine ⟨by omega, ?_⟩)); refine hK2 _ ?_; clear hK2 K2)
    refine sxf_nil (hK' _ ?_)
    refine AW.st (by simp [dTb, cTb, dRts, dTw, cTw, dRws]; rfl) ?_
    clear hK' K'
    refine AW_cond' (b := i < rts.length) (by simp [D.le, D.le.go, takeMap, dTb, cTb, dRts, dTw, cTw, dRws]) (fun hc => ?_) (fun hc => ?_)
    · have hil := hc
      have htm : ∀ f : RtW → List D, List.take i (List.map f (trI rts i)) = List.map f (trI rts i) := fun f => List.take_of_length_le (by simp [htl])
      refine AW_skip (hK3 _ ?_)
      refine AW_then fun K4 hK4 => ?_
      refine AW_block ?_
      refine AW_rg (tyOf_good _) [1, 2, 4, 5, 6] [2, 4, 6, 300] (fun _ _ => trivial) fun K' hK' => ?_
      repeat (refine sxf_next fun K2 hK2 => ?_; simp [dTb, cTb, dRts, dTw, cTw, dRws, hil, cRt, dPts, dRow_eq]; (repeat (refine ⟨by omega, ?_⟩)); refine hK2 _ ?_; clear hK2 K2)
      refine sxf_nil (hK' _ ?_)
      refine AW.st (by simp [dTb, cTb, dRts, dTw, cTw, dRws, hil, cRt, dPts, dRow_eq]; rfl) ?_
      clear hK' K'
      refine AW.imp (Imp.freezeB 6 trivial) ?_
      refine AW.st (by simp [dTb, cTb, dRts, dTw, cTw, dRws]; rfl) ?_
      refine AW_rg (tyOf_good _) [1, 2, 4, 5, 6, 7] [2, 4, 7, 300] (fun _ _ => trivial) fun K' hK' => ?_
      repeat (refine sxf_next fun K2 hK2 => ?_; simp [dTb, cTb, dRts, dTw, cTw, dRws]; (repeat (refine ⟨by omega, ?_⟩)); refine hK2 _ ?_; clear hK2 K2)
      refine sxf_nil (hK' _ ?_)
      refine AW.st (by simp [dTb, cTb, dRts, dTw, cTw, dRws]; rfl) ?_
      clear hK' K'
      refine AW_then fun K5 hK5 => ?_
      have hbl : badL rts[i] = (decide (20 < rts[i].1.length) || decide (20 < rts[i].2.length)) := rfl
      have hsuc := trI_succ hil
      rw [show convR rts[i] = (rts[i].1, rts[i].2.map convP) from rfl] at hsuc
      have hbad : badL rts[i] = true → res = (⟨S, P, trI rts i⟩, false) := fun hh => by
        rw [← hres, List.findIdx?_eq_some_iff_getElem.2 ⟨hil, hh, fun j hj => by rw [hb j (by omega) hj]; decide⟩]
      generalize hv : badL rts[i] = v at hbl hbad
      generalize rts[i].1 = ss at hbl hsuc
      generalize rts[i].2 = ps at hbl hsuc
      by_cases ga : 20 < (ss.length : Int)
      · have hvt : v = true := by rw [hbl]; simp; omega
        refine AW_rg (tyOf_good _) [2, 4, 44] [2, 4, 300] (fun _ _ => trivial) fun K' hK' => ?_
        repeat (refine sxf_next fun K2 hK2 => ?_; simp [dTb, cTb, dRts, dTw, cTw, dRws, ga]; (repeat (refine ⟨by omega, ?_⟩)); refine hK2 _ ?_; clear hK2 K2)
        refine sxf_nil (hK' _ ?_)
        refine AW.st (by simp [dTb, cTb, dRts, dTw, cTw, dRws, ga]; rfl) ?_
        clear hK' K'
        refine AW_cond true rfl (fun _ => ?_) (fun h => by cases h)
        refine AW_rg (tyOf_good _) [2, 3] [2, 300] (fun _ _ => trivial) fun K' hK' => ?_
        repeat (refine sxf_next fun K2 hK2 => ?_; simp [dTb, cTb, dRts, dTw, cTw, dRws]; (repeat (refine ⟨by omega, ?_⟩)); refine hK2 _ ?_; clear hK2 K2)
        refine sxf_nil (hK' _ ?_)
        refine AW.st (by simp [dTb, cTb, dRts, dTw, cTw, dRws]; rfl) ?_
        clear hK' K'
        refine AW_ret ?_
        simp [D.le, D.le.go, takeMap, dTb, cTb, dRts, dTw, cTw, dRws, htl, htm]
        simp [hbad hvt, D.le, D.le.go]
      by_cases gb : 20 < (ps.length : Int)
      · have hvt : v = true := by rw [hbl]; simp; omega
        refine AW_rg (tyOf_good _) [2, 4, 44] [2, 4, 300] (fun _ _ => trivial) fun K' hK' => ?_
        repeat (refine sxf_next fun K2 hK2 => ?_; simp [dTb, cTb, dRts, dTw, cTw, dRws, ga, gb]; (repeat (refine ⟨by omega, ?_⟩)); refine hK2 _ ?_; clear hK2 K2)
        refine sxf_nil (hK' _ ?_)
        refine AW.st (by simp [dTb, cTb, dRts, dTw, cTw, dRws, ga, gb]; rfl) ?_
        clear hK' K'
        refine AW_cond true rfl (fun _ => ?_) (fun h => by cases h)
        refine AW_rg (tyOf_good _) [2, 3] [2, 300] (fun _ _ => trivial) fun K' hK' => ?_
        repeat (refine sxf_next fun K2 hK2 => ?_; simp [dTb, cTb, dRts, dTw, cTw, dRws]; (repeat (refine ⟨by omega, ?_⟩)); refine hK2 _ ?_; clear hK2 K2)
        refine sxf_nil (hK' _ ?_)
        refine AW.st (by simp [dTb, cTb, dRts, dTw, cTw, dRws]; rfl) ?_
        clear hK' K'
        refine AW_ret ?_
        simp [D.le, D.le.go, takeMap, dTb, cTb, dRts, dTw, cTw, dRws, htl, htm]
        simp [hbad hvt, D.le, D.le.go]
      have hvf : v = false := by rw [hbl]; simp; omega
      refine AW_rg (tyOf_good _) [1, 2, 4, 5, 6, 7, 44] [2, 4, 7, 300] (fun _ _ => trivial) fun K' hK' => ?_
      repeat (refine sxf_next fun K2 hK2 => ?_; simp [dTb, cTb, dRts, dTw, cTw, dRws, ga, gb]; (repeat (refine ⟨by omega, ?_⟩)); refine hK2 _ ?_; clear hK2 K2)
      refine sxf_nil (hK' _ ?_)
      refine AW.st (by simp [dTb, cTb, dRts, dTw, cTw, dRws, ga, gb]; rfl) ?_
      clear hK' K'
      refine AW_cond false rfl (fun h => by cases h) (fun _ => ?_)
      refine AW_skip (hK5 _ ?_)
      refine AW_then fun K6 hK6 => ?_
      refine AW_rg (tyOf_good _) [1, 2, 4, 5, 6, 7, 8] [2, 4, 7, 300] (fun _ _ => trivial) fun K' hK' => ?_
      repeat (refine sxf_next fun K2 hK2 => ?_; simp [dTb, cTb, dRts, dTw, cTw, dRws]; (repeat (refine ⟨by omega, ?_⟩)); refine hK2 _ ?_; clear hK2 K2)
      refine sxf_nil (hK' _ ?_)
      refine AW.st (by simp [dTb, cTb, dRts, dTw, cTw, dRws]; rfl) ?_
      clear hK' K'
      refine AW_for (S := Nat) (fun k => k ≤ ps.length) (fun k => ⟨lst [(1, .d (.ip [.v (.int .i64 S), .v (.int .i64 P), .sl none (rts.map cRt)])), (2, .ref 2 0 0), (4, .ref 4 0 0), (5, int i), (6, .d (.ip [.sl none (ss.map fun x => [D.v (.int .i64 x)]), .sl none (ps.map cPt)])), (7, .ref 7 0 0), (8, int k)], hlst [(2, .box 27 [.d (.v (.int .i64 0)), .d (.v (.int .i64 0)), .d (.sl (some false) [])]), (4, .box 27 [.d (.v (.int .i64 S)), .d (.v (.int .i64 P)), .own 300 0 i]), (300, .sl 45 2 ((trI rts i).map cRw)), (7, .box 45 [.d (.sl none (ss.map fun x => [D.v (.int .i64 x)])), .own 310 0 k]), (310, .sl 3 1 ((ptI ps k).map fun x => [D.v (.int .i64 x)]))]⟩) (fun k => ps.length - k) 0 ?_ (by simp) ?_
      · refine (Imp.adoptCell 7 1 310 3 1 rfl rfl rfl).trans ?_
        refine Imp.to' (fun _ _ => trivial) (by simp [dTb, cTb, dRts, dTw, cTw, dRws, ptI_zero]) (by simp [dTb, cTb, dRts, dTw, cTw, dRws, ptI_zero])
      · intro k hk
        have hpl := ptI_len hk
        refine AW_then fun K7 hK7 => ?_
        refine AW_rg (tyOf_good _) [1, 2, 4, 5, 6, 7, 8, 50] [2, 4, 7, 300, 310] (fun _ _ => trivial) fun K' hK' => ?_
        repeat (refine sxf_next fun K2 hK2 => ?_; simp [dTb, cTb, dRts, dTw, cTw, dRws]; (repeat (refine ⟨by omega, ?_⟩)); refine hK2 _ ?_; clear hK2 K2)
        refine sxf_nil (hK' _ ?_)
        refine AW.st (by simp [dTb, cTb, dRts, dTw, cTw, dRws]; rfl) ?_
        clear hK' K'
        refine AW_cond' (b := k < ps.length) (by simp [D.le, D.le.go, takeMap, dTb, cTb, dRts, dTw, cTw, dRws]) (fun hc => ?_) (fun hc => ?_)
        · have hkl := hc
          have hpm : ∀ f : Int → List D, List.take k (List.map f (ptI ps k)) = List.map f (ptI ps k) := fun f => List.take_of_length_le (by simp [hpl])
          have hps := ptI_succ hkl
          have hcv : convP ps[k] = if ps[k].2 then (if ps[k].1 < 0 ∨ 1000 < ps[k].1 then 1000 else ps[k].1) + 1 else -((if ps[k].1 < 0 ∨ 1000 < ps[k].1 then 1000 else ps[k].1) + 1) := rfl
          generalize hcp : convP ps[k] = cp at hps hcv
          generalize hp1 : ps[k].1 = pn at hcv
          generalize hp2 : ps[k].2 = po at hcv
          have hpl1 : (ptI ps (k + 1)).length = k + 1 := by rw [hps]; simp [hpl]
          refine AW_skip (hK7 _ ?_)
          refine AW_then fun K8 hK8 => ?_
          refine AW_block ?_
          refine AW_rg (tyOf_good _) [1, 2, 4, 5, 6, 7, 8, 9] [2, 4, 7, 300, 310] (fun _ _ => trivial) fun K' hK' => ?_
          repeat (refine sxf_next fun K2 hK2 => ?_; simp [dTb, cTb, dRts, dTw, cTw, dRws, hkl, cPt, hp1]; (repeat (refine ⟨by omega, ?_⟩)); refine hK2 _ ?_; clear hK2 K2)
          refine sxf_nil (hK' _ ?_)
          refine AW.st (by simp [dTb, cTb, dRts, dTw, cTw, dRws, hkl, cPt, hp1]; rfl) ?_
          clear hK' K'
          refine AW_then fun K9 hK9 => ?_
          by_cases h0 : pn < 0
          · refine AW_rg (tyOf_good _) [1, 2, 4, 5, 6, 7, 8, 9, 64] [2, 4, 7, 300, 310] (fun _ _ => trivial) fun K' hK' => ?_
            repeat (refine sxf_next fun K2 hK2 => ?_; simp [dTb, cTb, dRts, dTw, cTw, dRws, h0]; (repeat (refine ⟨by omega, ?_⟩)); refine hK2 _ ?_; clear hK2 K2)
            refine sxf_nil (hK' _ ?_)
            refine AW.st (by simp [dTb, cTb, dRts, dTw, cTw, dRws, h0]; rfl) ?_
            clear hK' K'
            refine AW_cond true rfl (fun _ => ?_) (fun h => by cases h)
            refine AW_re (tyOf_good _) fun K' hK' => ?_
            repeat (refine sxf_next fun K2 hK2 => ?_; simp [dTb, cTb, dRts, dTw, cTw, dRws]; (repeat (refine ⟨by omega, ?_⟩)); refine hK2 _ ?_; clear hK2 K2)
            refine sxf_nil (hK' _ ?_)
            clear hK' K'
            refine hK9 _ (AW.norm [1, 2, 4, 5, 6, 7, 8, 9] [2, 4, 7, 300, 310] (fun _ _ => trivial) (AW.st (by simp [dTb, cTb, dRts, dTw, cTw, dRws]; rfl) ?_))
            refine AW_then fun K10 hK10 => ?_
            refine AW_rg (tyOf_good _) [1, 2, 4, 5, 6, 7, 8, 9] [2, 4, 7, 300, 310] (fun _ _ => trivial) fun K' hK' => ?_
            repeat (refine sxf_next fun K2 hK2 => ?_; simp [dTb, cTb, dRts, dTw, cTw, dRws, h0]; (repeat (refine ⟨by omega, ?_⟩)); refine hK2 _ ?_; clear hK2 K2)
            refine sxf_nil (hK' _ ?_)
            refine AW.st (by simp [dTb, cTb, dRts, dTw, cTw, dRws, h0]; rfl) ?_
            clear hK' K'
            refine AW_rg (tyOf_good _) [1, 2, 4, 5, 6, 7, 8, 9, 73] [2, 4, 7, 300, 310] (fun _ _ => trivial) fun K' hK' => ?_
            repeat (refine sxf_next fun K2 hK2 => ?_; simp [dTb, cTb, dRts, dTw, cTw, dRws, hkl, cPt, hp2]; (repeat (refine ⟨by omega, ?_⟩)); refine hK2 _ ?_; clear hK2 K2)
            refine sxf_nil (hK' _ ?_)
            refine AW.st (by simp [dTb, cTb, dRts, dTw, cTw, dRws, hkl, cPt, hp2]; rfl) ?_
            clear hK' K'
            cases po with
            | true =>
              have hcv2 : cp = 1000 + 1 := by simpa [h0] using hcv
              refine AW_cond false rfl (fun h => by cases h) (fun _ => ?_)
              refine AW_skip (hK10 _ ?_)
              refine AW_re (tyOf_good _) fun K' hK' => ?_
              repeat (refine sxf_next fun K2 hK2 => ?_; simp [dTb, cTb, dRts, dTw, cTw, dRws, hpl, hpm]; (repeat (refine ⟨by omega, ?_⟩)); refine hK2 _ ?_; clear hK2 K2)
              refine sxf_nil (hK' _ ?_)
              clear hK' K'
              refine hK8 _ (AW.norm [1, 2, 4, 5, 6, 7, 8] [2, 4, 7, 300, 310] (fun _ _ => trivial) (AW.st (by simp [dTb, cTb, dRts, dTw, cTw, dRws, hpl, hpm]; rfl) ?_))
              refine AW_re (tyOf_good _) fun K' hK' => ?_
              repeat (refine sxf_next fun K2 hK2 => ?_; simp [dTb, cTb, dRts, dTw, cTw, dRws]; (repeat (refine ⟨by omega, ?_⟩)); refine hK2 _ ?_; clear hK2 K2)
              refine sxf_nil (hK' _ ?_)
              clear hK' K'
              try simp only [thn, inb]
              refine Again.mk (k + 1) (by omega) (by omega) ?_
              refine Imp.to' (fun _ _ => trivial) (by simp [dTb, cTb, dRts, dTw, cTw, dRws, hps, hcv2, hpl, hpm]) (by simp [dTb, cTb, dRts, dTw, cTw, dRws, hps, hcv2, hpl, hpm])
            | false =>
              have hcv2 : cp = -(1000 + 1) := by simpa [h0] using hcv
              refine AW_cond true rfl (fun _ => ?_) (fun h => by cases h)
              refine AW_re (tyOf_good _) fun K' hK' => ?_
              repeat (refine sxf_next fun K2 hK2 => ?_; simp [dTb, cTb, dRts, dTw, cTw, dRws]; (repeat (refine ⟨by omega, ?_⟩)); refine hK2 _ ?_; clear hK2 K2)
              refine sxf_nil (hK' _ ?_)
              clear hK' K'
              refine hK10 _ (AW.norm [1, 2, 4, 5, 6, 7, 8, 9] [2, 4, 7, 300, 310] (fun _ _ => trivial) (AW.st (by simp [dTb, cTb, dRts, dTw, cTw, dRws]; rfl) ?_))
              refine AW_re (tyOf_good _) fun K' hK' => ?_
              repeat (refine sxf_next fun K2 hK2 => ?_; simp [dTb, cTb, dRts, dTw, cTw, dRws, hpl, hpm]; (repeat (refine ⟨by omega, ?_⟩)); refine hK2 _ ?_; clear hK2 K2)
              refine sxf_nil (hK' _ ?_)
              clear hK' K'
              refine hK8 _ (AW.norm [1, 2, 4, 5, 6, 7, 8] [2, 4, 7, 300, 310] (fun _ _ => trivial) (AW.st (by simp [dTb, cTb, dRts, dTw, cTw, dRws, hpl, hpm]; rfl) ?_))
              refine AW_re (tyOf_good _) fun K' hK' => ?_
              repeat (refine sxf_next fun K2 hK2 => ?_; simp [dTb, cTb, dRts, dTw, cTw, dRws]; (repeat (refine ⟨by omega, ?_⟩)); refine hK2 _ ?_; clear hK2 K2)
              refine sxf_nil (hK' _ ?_)
              clear hK' K'
              try simp only [thn, inb]
              refine Again.mk (k + 1) (by omega) (by omega) ?_
              refine Imp.to' (fun _ _ => trivial) (by simp [dTb, cTb, dRts, dTw, cTw, dRws, hps, hcv2, hpl, hpm]) (by simp [dTb, cTb, dRts, dTw, cTw, dRws, hps, hcv2, hpl, hpm])
          · by_cases h1 : pn > 1000
            · refine AW_rg (tyOf_good _) [1, 2, 4, 5, 6, 7, 8, 9, 64] [2, 4, 7, 300, 310] (fun _ _ => trivial) fun K' hK' => ?_
              repeat (refine sxf_next fun K2 hK2 => ?_; simp [dTb, cTb, dRts, dTw, cTw, dRws, h0, h1]; (repeat (refine ⟨by omega, ?_⟩)); refine hK2 _ ?_; clear hK2 K2)
              refine sxf_nil (hK' _ ?_)
              refine AW.st (by simp [dTb, cTb, dRts, dTw, cTw, dRws, h0, h1]; rfl) ?_
              clear hK' K'
              refine AW_cond true rfl (fun _ => ?_) (fun h => by cases h)
              refine AW_re (tyOf_good _) fun K' hK' => ?_
              repeat (refine sxf_next fun K2 hK2 => ?_; simp [dTb, cTb, dRts, dTw, cTw, dRws]; (repeat (refine ⟨by omega, ?_⟩)); refine hK2 _ ?_; clear hK2 K2)
              refine sxf_nil (hK' _ ?_)
              clear hK' K'
              refine hK9 _ (AW.norm [1, 2, 4, 5, 6, 7, 8, 9] [2, 4, 7, 300, 310] (fun _ _ => trivial) (AW.st (by simp [dTb, cTb, dRts, dTw, cTw, dRws]; rfl) ?_))
              refine AW_then fun K10 hK10 => ?_
              refine AW_rg (tyOf_good _) [1, 2, 4, 5, 6, 7, 8, 9] [2, 4, 7, 300, 310] (fun _ _ => trivial) fun K' hK' => ?_
              repeat (refine sxf_next fun K2 hK2 => ?_; simp [dTb, cTb, dRts, dTw, cTw, dRws, h0, h1]; (repeat (refine ⟨by omega, ?_⟩)); refine hK2 _ ?_; clear hK2 K2)
              refine sxf_nil (hK' _ ?_)
              refine AW.st (by simp [dTb, cTb, dRts, dTw, cTw, dRws, h0, h1]; rfl) ?_
              clear hK' K'
              refine AW_rg (tyOf_good _) [1, 2, 4, 5, 6, 7, 8, 9, 73] [2, 4, 7, 300, 310] (fun _ _ => trivial) fun K' hK' => ?_
              repeat (refine sxf_next fun K2 hK2 => ?_; simp [dTb, cTb, dRts, dTw, cTw, dRws, hkl, cPt, hp2]; (repeat (refine ⟨by omega, ?_⟩)); refine hK2 _ ?_; clear hK2 K2)
              refine sxf_nil (hK' _ ?_)
              refine AW.st (by simp [dTb, cTb, dRts, dTw, cTw, dRws, hkl, cPt, hp2]; rfl) ?_
              clear hK' K'
              cases po with
              | true =>
                have hcv2 : cp = 1000 + 1 := by simpa [h0, h1] using hcv
                refine AW_cond false rfl (fun h => by cases h) (fun _ => ?_)
                refine AW_skip (hK10 _ ?_)
                refine AW_re (tyOf_good _) fun K' hK' => ?_
                repeat (refine sxf_next fun K2 hK2 => ?_; simp [dTb, cTb, dRts, dTw, cTw, dRws, hpl, hpm]; (repeat (refine ⟨by omega, ?_⟩)); refine hK2 _ ?_; clear hK2 K2)
                refine sxf_nil (hK' _ ?_)
                clear hK' K'
                refine hK8 _ (AW.norm [1, 2, 4, 5, 6, 7, 8] [2, 4, 7, 300, 310] (fun _ _ => trivial) (AW.st (by simp [dTb, cTb, dRts, dTw, cTw, dRws, hpl, hpm]; rfl) ?_))
                refine AW_re (tyOf_good _) fun K' hK' => ?_
                repeat (refine sxf_next fun K2 hK2 => ?_; simp [dTb, cTb, dRts, dTw, cTw, dRws]; (repeat (refine ⟨by omega, ?_⟩)); refine hK2 _ ?_; clear hK2 K2)
                refine sxf_nil (hK' _ ?_)
                clear hK' K'
                try simp only [thn, inb]
                refine Again.mk (k + 1) (by omega) (by omega) ?_
                refine Imp.to' (fun _ _ => trivial) (by simp [dTb, cTb, dRts, dTw, cTw, dRws, hps, hcv2, hpl, hpm]) (by simp [dTb, cTb, dRts, dTw, cTw, dRws, hps, hcv2, hpl, hpm])
              | false =>
                have hcv2 : cp = -(1000 + 1) := by simpa [h0, h1] using hcv
                refine AW_cond true rfl (fun _ => ?_) (fun h => by cases h)
                refine AW_re (tyOf_good _) fun K' hK' => ?_
                repeat (refine sxf_next fun K2 hK2 => ?_; simp [dTb, cTb, dRts, dTw, cTw, dRws]; (repeat (refine ⟨by omega, ?_⟩)); refine hK2 _ ?_; clear hK2 K2)
                refine sxf_nil (hK' _ ?_)
                clear hK' K'
                refine hK10 _ (AW.norm [1, 2, 4, 5, 6, 7, 8, 9] [2, 4, 7, 300, 310] (fun _ _ => trivial) (AW.st (by simp [dTb, cTb, dRts, dTw, cTw, dRws]; rfl) ?_))
                refine AW_re (tyOf_good _) fun K' hK' => ?_
                repeat (refine sxf_next fun K2 hK2 => ?_; simp [dTb, cTb, dRts, dTw, cTw, dRws, hpl, hpm]; (repeat (refine ⟨by omega, ?_⟩)); refine hK2 _ ?_; clear hK2 K2)
                refine sxf_nil (hK' _ ?_)
                clear hK' K'
                refine hK8 _ (AW.norm [1, 2, 4, 5, 6, 7, 8] [2, 4, 7, 300, 310] (fun _ _ => trivial) (AW.st (by simp [dTb, cTb, dRts, dTw, cTw, dRws, hpl, hpm]; rfl) ?_))
                refine AW_re (tyOf_good _) fun K' hK' => ?_
                repeat (refine sxf_next fun K2 hK2 => ?_; simp [dTb, cTb, dRts, dTw, cTw, dRws]; (repeat (refine ⟨by omega, ?_⟩)); refine hK2 _ ?_; clear hK2 K2)
                refine sxf_nil (hK' _ ?_)
                clear hK' K'
                try simp only [thn, inb]
                refine Again.mk (k + 1) (by omega) (by omega) ?_
                refine Imp.to' (fun _ _ => trivial) (by simp [dTb, cTb, dRts, dTw, cTw, dRws, hps, hcv2, hpl, hpm]) (by simp [dTb, cTb, dRts, dTw, cTw, dRws, hps, hcv2, hpl, hpm])
            · refine AW_rg (tyOf_good _) [1, 2, 4, 5, 6, 7, 8, 9, 64] [2, 4, 7, 300, 310] (fun _ _ => trivial) fun K' hK' => ?_
              repeat (refine sxf_next fun K2 hK2 => ?_; simp [dTb, cTb, dRts, dTw, cTw, dRws, h0, h1]; (repeat (refine ⟨by omega, ?_⟩)); refine hK2 _ ?_; clear hK2 K2)
              refine sxf_nil (hK' _ ?_)
              refine AW.st (by simp [dTb, cTb, dRts, dTw, cTw, dRws, h0, h1]; rfl) ?_
              clear hK' K'
              refine AW_cond false rfl (fun h => by cases h) (fun _ => ?_)
              refine AW_skip (hK9 _ ?_)
              refine AW_then fun K10 hK10 => ?_
              refine AW_rg (tyOf_good _) [1, 2, 4, 5, 6, 7, 8, 9] [2, 4, 7, 300, 310] (fun _ _ => trivial) fun K' hK' => ?_
              repeat (refine sxf_next fun K2 hK2 => ?_; simp [dTb, cTb, dRts, dTw, cTw, dRws, h0, h1]; (repeat (refine ⟨by omega, ?_⟩)); refine hK2 _ ?_; clear hK2 K2)
              refine sxf_nil (hK' _ ?_)
              refine AW.st (by simp [dTb, cTb, dRts, dTw, cTw, dRws, h0, h1]; rfl) ?_
              clear hK' K'
              refine AW_rg (tyOf_good _) [1, 2, 4, 5, 6, 7, 8, 9, 73] [2, 4, 7, 300, 310] (fun _ _ => trivial) fun K' hK' => ?_
              repeat (refine sxf_next fun K2 hK2 => ?_; simp [dTb, cTb, dRts, dTw, cTw, dRws, hkl, cPt, hp2]; (repeat (refine ⟨by omega, ?_⟩)); refine hK2 _ ?_; clear hK2 K2)
              refine sxf_nil (hK' _ ?_)
              refine AW.st (by simp [dTb, cTb, dRts, dTw, cTw, dRws, hkl, cPt, hp2]; rfl) ?_
              clear hK' K'
              cases po with
              | true =>
                have hcv2 : cp = pn + 1 := by simpa [h0, h1] using hcv
                refine AW_cond false rfl (fun h => by cases h) (fun _ => ?_)
                refine AW_skip (hK10 _ ?_)
                refine AW_re (tyOf_good _) fun K' hK' => ?_
                repeat (refine sxf_next fun K2 hK2 => ?_; simp [dTb, cTb, dRts, dTw, cTw, dRws, hpl, hpm]; (repeat (refine ⟨by omega, ?_⟩)); refine hK2 _ ?_; clear hK2 K2)
                refine sxf_nil (hK' _ ?_)
                clear hK' K'
                refine hK8 _ (AW.norm [1, 2, 4, 5, 6, 7, 8] [2, 4, 7, 300, 310] (fun _ _ => trivial) (AW.st (by simp [dTb, cTb, dRts, dTw, cTw, dRws, hpl, hpm]; rfl) ?_))
                refine AW_re (tyOf_good _) fun K' hK' => ?_
                repeat (refine sxf_next fun K2 hK2 => ?_; simp [dTb, cTb, dRts, dTw, cTw, dRws]; (repeat (refine ⟨by omega, ?_⟩)); refine hK2 _ ?_; clear hK2 K2)
                refine sxf_nil (hK' _ ?_)
                clear hK' K'
                try simp only [thn, inb]
                refine Again.mk (k + 1) (by omega) (by omega) ?_
                refine Imp.to' (fun _ _ => trivial) (by simp [dTb, cTb, dRts, dTw, cTw, dRws, hps, hcv2, hpl, hpm]) (by simp [dTb, cTb, dRts, dTw, cTw, dRws, hps, hcv2, hpl, hpm])
              | false =>
                have hcv2 : cp = -(pn + 1) := by simpa [h0, h1] using hcv
                refine AW_cond true rfl (fun _ => ?_) (fun h => by cases h)
                refine AW_re (tyOf_good _) fun K' hK' => ?_
                repeat (refine sxf_next fun K2 hK2 => ?_; simp [dTb, cTb, dRts, dTw, cTw, dRws]; (repeat (refine ⟨by omega, ?_⟩)); refine hK2 _ ?_; clear hK2 K2)
                refine sxf_nil (hK' _ ?_)
                clear hK' K'
                refine hK10 _ (AW.norm [1, 2, 4, 5, 6, 7, 8, 9] [2, 4, 7, 300, 310] (fun _ _ => trivial) (AW.st (by simp [dTb, cTb, dRts, dTw, cTw, dRws]; rfl) ?_))
                refine AW_re (tyOf_good _) fun K' hK' => ?_
                repeat (refine sxf_next fun K2 hK2 => ?_; simp [dTb, cTb, dRts, dTw, cTw, dRws, hpl, hpm]; (repeat (refine ⟨by omega, ?_⟩)); refine hK2 _ ?_; clear hK2 K2)
                refine sxf_nil (hK' _ ?_)
                clear hK' K'
                refine hK8 _ (AW.norm [1, 2, 4, 5, 6, 7, 8] [2, 4, 7, 300, 310] (fun _ _ => trivial) (AW.st (by simp [dTb, cTb, dRts, dTw, cTw, dRws, hpl, hpm]; rfl) ?_))
                refine AW_re (tyOf_good _) fun K' hK' => ?_
                repeat (refine sxf_next fun K2 hK2 => ?_; simp [dTb, cTb, dRts, dTw, cTw, dRws]; (repeat (refine ⟨by omega, ?_⟩)); refine hK2 _ ?_; clear hK2 K2)
                refine sxf_nil (hK' _ ?_)
                clear hK' K'
                try simp only [thn, inb]
                refine Again.mk (k + 1) (by omega) (by omega) ?_
                refine Imp.to' (fun _ _ => trivial) (by simp [dTb, cTb, dRts, dTw, cTw, dRws, hps, hcv2, hpl, hpm]) (by simp [dTb, cTb, dRts, dTw, cTw, dRws, hps, hcv2, hpl, hpm])
        · obtain rfl : k = ps.length := by omega
          refine AW_exit (hK6 _ ?_)
          refine AW.imp (Imp.freeze 310 trivial) ?_
          refine AW.st (by simp [dTb, cTb, dRts, dTw, cTw, dRws, hpl, ptI_all]; rfl) ?_
          refine AW_re (tyOf_good _) fun K' hK' => ?_
          repeat (refine sxf_next fun K2 hK2 => ?_; simp [dTb, cTb, dRts, dTw, cTw, dRws, htl, htm]; (repeat (refine ⟨by omega, ?_⟩)); refine hK2 _ ?_; clear hK2 K2)
          refine sxf_nil (hK' _ ?_)
          clear hK' K'
          refine hK4 _ (AW.norm [1, 2, 4, 5] [2, 4, 300] (fun _ _ => trivial) (AW.st (by simp [dTb, cTb, dRts, dTw, cTw, dRws, htl, htm]; rfl) ?_))
          refine AW_re (tyOf_good _) fun K' hK' => ?_
          repeat (refine sxf_next fun K2 hK2 => ?_; simp [dTb, cTb, dRts, dTw, cTw, dRws]; (repeat (refine ⟨by omega, ?_⟩)); refine hK2 _ ?_; clear hK2 K2)
          refine sxf_nil (hK' _ ?_)
          clear hK' K'
          try simp only [thn, inb]
          refine Again.mk (i + 1) ⟨by omega, fun j hj hji => ?_⟩ (by omega) ?_
          · by_cases h : j = i
            · subst h; rw [hv, hvf]
            · exact hb j hj (by omega)
          refine Imp.to' (fun _ _ => trivial) (by simp [dTb, cTb, dRts, dTw, cTw, dRws, hsuc, htl, htm, cRw, dRow_eq, ptI_all]) (by simp [dTb, cTb, dRts, dTw, cTw, dRws, hsuc, htl, htm, cRw, dRow_eq, ptI_all])
    · obtain rfl : i = rts.length := by omega
      have hnone : rts.findIdx? badL = none := List.findIdx?_eq_none_iff.2 fun x hx => by
        obtain ⟨m, hm, rfl⟩ := List.mem_iff_getElem.1 hx
        exact hb m hm hm
      rw [hnone] at hres
      refine AW_exit (hK2 _ ?_)
      refine AW_rg (tyOf_good _) [2, 3] [2, 300] (fun _ _ => trivial) fun K' hK' => ?_
      repeat (refine sxf_next fun K2 hK2 => ?_; simp [dTb, cTb, dRts, dTw, cTw, dRws]; (repeat (refine ⟨by omega, ?_⟩)); refine hK2 _ ?_; clear hK2 K2)
      refine sxf_nil (hK' _ ?_)
      refine AW.st (by simp [dTb, cTb, dRts, dTw, cTw, dRws]; rfl) ?_
      clear hK' K'
      have htk : ∀ f : RtW → List D, List.take rts.length (List.map f (trI rts rts.length)) = List.map f (trI rts rts.length) := fun f => List.take_of_length_le (by simp [htl])
      refine AW_ret ?_
      simp [D.le, D.le.go, takeMap, dTb, cTb, dRts, dTw, cTw, dRws, htl, htk]
      simp [← hres, D.le, D.le.go]
end Go.Proofs.YtnlhioeefmhklaaDoor

/-
  Laws over programs whose package-level variables are known.
-/
namespace Go.Av
set_option linter.unusedSimpArgs false
set_option linter.unusedVariables false
set_option linter.unusedSectionVars false
open Go.ChangeShapes Go.WideShapes Go.RowKit

theorem law_callsG {P : Program} {G : Glob} {g : FuncId} {xs : List D} {b : Bool} (hc : PureC P G g xs (.v (.bool b))) {W : World} {args : Array Value} (hgl : ∀ g x, G g = some x → RD W (fun _ => False) (.pointer (some ⟨g, 0, none⟩)) x) (hsz : args.size = xs.length)
    (hrd : ∀ (i : Nat) (u : Value) (x : D), args[i]? = some u → xs[i]? = some x → RD W (fun _ => False) u x) : Calls P g args W fun e W' => e = .returned (.bool b) ∧ Below W.heap.size W W' := by
  refine (hc.2 (fun _ => False) W (fun _ => none) args (Sim.none (by simp)) (fun g x hx => (hgl g x hx).sub fun b hb => XX_none.1 hb) (by simpa using hsz) fun i u x hu hx => ?_).mono fun e W' ⟨v, x, H', μ', he, ⟨hx, _⟩, hr, _, ev⟩ => ?_
  · rw [List.getElem?_map] at hx
    obtain ⟨d, hd, rfl⟩ := Option.map_eq_some_iff.1 hx
    exact .d ((hrd i u d hu hd).sub fun b hb => XX_none.1 hb)
  · subst hx
    have := hr.scalar
    subst this
    have hg := Ev.grew ev
    exact ⟨he, hg.os, hg.tape, hg.output, hg.size, hg.same⟩

theorem RD.cell1 {W : World} {X : Nat → Prop} {g : Nat} {v : Value} (hX : ∀ b, ¬ X b) (h : W.cell? ⟨g, 0, none⟩ = some v) : RD W X (.pointer (some ⟨g, 0, none⟩)) (.ip [.v v]) :=
  .ip (f := fun _ => v) (hX g) (cell_lt h) (fun j hj => by
    have : j = 0 := by simpa using hj
    subst this
    exact h) (fun j c hc => by
    have hj : j = 0 := by
      have := (List.getElem?_eq_some_iff.1 hc).1
      simpa using this
    subst hj
    simp at hc
    subst hc
    exact .v v)
theorem RD.at1 {W : World} {X : Nat → Prop} {x : Value} {a : D} (h0 : RD W X x a) : ∀ (i : Nat) (u : Value) (c : D), #[x][i]? = some u → [a][i]? = some c → RD W X u c := fun i u c hu hc => by
  match i, hu, hc with
  | 0, hu, hc => simp at hu hc; subst hu hc; exact h0
  | i + 1, hu, hc => simp at hu
end Go.Av
