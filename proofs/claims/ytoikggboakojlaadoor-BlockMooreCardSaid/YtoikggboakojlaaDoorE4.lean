/-
  What plain.Place tells of an error.
-/
import Derived.Test.YtoikggboakojlaaDoorE3
import Derived.RegionTactic
import Derived.ChangeAlike
namespace Go.Proofs.YtoikggboakojlaaDoor
open Go.RowKit Go.Extern.Stop Go.Stop Go.Extern
open Go.Av
set_option linter.unusedSimpArgs false
set_option linter.unusedVariables false
attribute [local simp] avOf offAll offOps kindOf Op.operands Call.operands okDst wantedS gval isCall isWr lenA descIs TypeDesc.isSlice TypeDesc.isStr binA isSh binI fit64 indexA elemSz asValD asVal TypeDesc.isAgg fieldAddrA fieldOf fieldA valCells AV.one D.one zeroD catD newsOf unA eqv nilBin constOf nilFits nilA extractA makeIfaceA indexStrA sliceA bound storeBox storeSl TypeDesc.isBool TypeDesc.isIface nilCheckA convA Value.oneCell' buildA placesA fillA makeEls exK preF freezeL AV.rows AV.rows.go plainS plainL appK appOps fromRow stepF stepD stepL rd wr evalL evalP putd mkFn mkIfc

theorem ta_E (v : Value) (xT : TypeId) (w : World) : (Instr.typeAssert (.iface 27 v) xT 109 true).run Tryd.prog w = .ok (.tuple #[.pointer none, .bool false]) w := by kernel_rfl
theorem ta_A (v : Value) (xT : TypeId) (w : World) : (Instr.typeAssert (.iface 109 v) xT 109 true).run Tryd.prog w = .ok (.tuple #[v, .bool true]) w := by kernel_rfl
theorem ta_noUnwrap (v : Value) (xT : TypeId) (w : World) : (Instr.typeAssert (.iface 27 v) xT 149 true).run Tryd.prog w = .ok (.tuple #[.nilIface, .bool false]) w := run_typeAssert_lacksB Tryd.underlying149 (by kernel_rfl) (by kernel_rfl) v xT w

set_option maxHeartbeats 1000000 in
theorem place_nil (w : World) : Calls Tryd.prog 60 #[.nilIface] w fun e w' => e = .returned (.tuple #[.int .i64 0, .int .i64 (-1)]) ∧ Grew w w' := by
  go_enter Tryd.func60, Tryd.ntmps60
  go_wp2_with (go_at_call 38; refine (tell_nil _).mono ?_; rintro e w' ⟨rfl, rfl⟩)
  refine wp_loop_rounds 1 ?_
  rw [rounds_succ]
  go_wp2
  go_ret2
  exact ⟨rfl, Grew.refl _⟩

set_option maxHeartbeats 1000000 in
theorem place_errno (n : Int) (w : World) (hg : w.cell? ⟨1, 0, none⟩ = some errType) : Calls Tryd.prog 60 #[.iface 27 (.int .i64 n)] w fun e w' => e = .returned (.tuple #[.int .i64 n, .int .i64 (-1)]) ∧ Grew w w' := by
  have t1 := ta_E
  have t2 := ta_noUnwrap
  go_enter Tryd.func60, Tryd.ntmps60
  go_wp2_with (go_at_call 38; refine (tell_errno n _ hg).mono ?_; rintro e w' ⟨rfl, hgr⟩)
  refine wp_loop_rounds 1 ?_
  rw [rounds_succ]
  go_wp2
  go_ret2
  exact ⟨rfl, hgr⟩

set_option maxHeartbeats 1000000 in
theorem place_at (n s : Int) (b o : Nat) (w : World) (hg : w.cell? ⟨1, 0, none⟩ = some errType) (ha : w.cell? ⟨b, o, none⟩ = some (.int .i64 n)) (hs : w.cell? ⟨b, o + 1, none⟩ = some (.int .i64 s)) :
    Calls Tryd.prog 60 #[.iface 109 (.pointer (some ⟨b, o, none⟩))] w fun e w' => e = .returned (.tuple #[.int .i64 n, .int .i64 s]) ∧ Grew w w' := by
  have t1 := ta_A
  go_enter Tryd.func60, Tryd.ntmps60
  go_wp2_with (go_at_call 38; refine (tell_at n _ _ hg ha).mono ?_; rintro e w' ⟨rfl, hgr⟩)
  have hs' : w'.cell? ⟨b, o + 1, none⟩ = some (.int .i64 s) := by rw [World.cell?_of_block (w := w) (hgr.same b (cell_lt hs))]; exact hs
  refine wp_loop_rounds 1 ?_
  rw [rounds_succ]
  go_wp2
  go_region
  all_goals (go_wp2; go_ret2; exact ⟨rfl, hgr.size, hgr.os, hgr.tape, hgr.output, hgr.same⟩)

theorem place_spec (G : Glob) (hG : HasErr G) (e : Option (Int × Option Nat)) : PureC Tryd.prog G 60 [dErr e] (.tup [.v (.int .i64 (codeF e)), .v (.int .i64 (placeF e))]) := by
  refine PureC.of_calls (Fun.of Tryd.func60 rfl rfl) fun X w vs hsz hrd hgl => ?_
  have hg := hG.cell hgl
  obtain ⟨v, rfl⟩ : ∃ v, vs = #[v] := Array.size_eq_one_iff.1 hsz
  have hv := hrd 0 v _ rfl rfl
  have two : ∀ (w' : World) (a b : Int), RD w' X (.tuple #[.int .i64 a, .int .i64 b]) (.tup [.v (.int .i64 a), .v (.int .i64 b)]) := fun w' a b => .tup rfl fun j u c hu hc => by
    match j, hu, hc with
    | 0, hu, hc => simp at hu hc; subst hu hc; exact .v _
    | 1, hu, hc => simp at hu hc; subst hu hc; exact .v _
    | j + 2, hu, hc => simp at hu
  match e, hv with
  | none, hv =>
    have := hv.scalar
    subst this
    exact (place_nil w).mono fun e w' ⟨he, hw⟩ => ⟨_, he, hw, two _ _ _⟩
  | some (c, none), hv =>
    obtain ⟨u, rfl, hu⟩ := hv.ifc_inv
    have := hu.scalar
    subst this
    exact (place_errno c w hg).mono fun e w' ⟨he, hw⟩ => ⟨_, he, hw, two _ _ _⟩
  | some (c, some s), hv =>
    obtain ⟨u, rfl, hu⟩ := hv.ifc_inv
    obtain ⟨b, off, f, rfl, _, _, hc, hr⟩ := hu.ip_inv
    have h1 := hc 0 (by simp)
    have h2 := (hr 0 _ rfl).scalar
    rw [h2] at h1
    have h3 := hc 1 (by simp)
    have h4 := (hr 1 _ rfl).scalar
    rw [h4] at h3
    exact (place_at c s b off w hg h1 h3).mono fun e w' ⟨he, hw⟩ => ⟨_, he, hw, two _ _ _⟩
#print axioms place_spec
end Go.Proofs.YtoikggboakojlaaDoor
