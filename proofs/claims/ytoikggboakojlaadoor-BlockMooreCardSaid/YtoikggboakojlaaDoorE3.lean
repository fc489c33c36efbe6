/-
  What api.Tell and plain.Place tell of an error.
-/
import Derived.Test.YtoikggboakojlaaDoorE2
import Derived.Test.YtoikggboakojlaaDoorF6
import Derived.Test.YtoikggboakojlaaDoorAv21
namespace Go.Proofs.YtoikggboakojlaaDoor
open Go.RowKit Go.Extern.Stop Go.Stop Go.Extern
open Go.Av
set_option linter.unusedSimpArgs false
set_option linter.unusedVariables false
attribute [local simp] avOf offAll offOps kindOf Op.operands Call.operands okDst wantedS gval isCall isWr lenA descIs TypeDesc.isSlice TypeDesc.isStr binA isSh binI fit64 indexA elemSz asValD asVal TypeDesc.isAgg fieldAddrA fieldOf fieldA valCells AV.one D.one zeroD catD newsOf unA eqv nilBin constOf nilFits nilA extractA makeIfaceA indexStrA sliceA bound storeBox storeSl TypeDesc.isBool TypeDesc.isIface nilCheckA convA Value.oneCell' buildA placesA fillA makeEls exK preF freezeL AV.rows AV.rows.go plainS plainL appK appOps fromRow stepF stepD stepL rd wr evalL evalP putd mkFn mkIfc

def errType : Value := .iface 177 (.agg #[.pointer (some ⟨6, 34, none⟩)])

theorem asWorld_grew (n : Int) (w : World) : Grew w (asWorld ⟨w.heap.size, 0, none⟩ n (w.alloc (.cells #[.int .i64 0] 27))) := by
  unfold asWorld
  refine ⟨by simp <;> omega, rfl, rfl, rfl, fun b hb => ?_⟩
  rw [Below.heap_setCell _ _ _ _ (by simp; omega)]
  repeat rw [Below.heap_alloc _ _ _ (by simp; omega)]
  exact Below.heap_alloc _ _ _ hb
theorem asWorld_cell (n : Int) (w : World) : (asWorld ⟨w.heap.size, 0, none⟩ n (w.alloc (.cells #[.int .i64 0] 27))).cell? ⟨w.heap.size, 0, none⟩ = some (.int .i64 n) := by
  unfold asWorld
  have hm : ((((w.alloc (.cells #[.int .i64 0] 27)).alloc (.cells #[.pointer (some ⟨w.heap.size, 0, none⟩)] 124)).alloc (.cells #[.pointer (some ⟨6, 124, none⟩), .pointer (some ⟨(w.alloc (.cells #[.int .i64 0] 27)).heap.size, 0, none⟩), .int .u64 150] 158)).alloc (.cells #[.pointer (some ⟨6, 124, none⟩), .pointer (some ⟨(w.alloc (.cells #[.int .i64 0] 27)).heap.size, 0, none⟩), .int .u64 150] 158) |>.alloc (.cells #[.int .i64 n] 27)).cell? ⟨w.heap.size, 0, none⟩ = some (.int .i64 0) := by
    rw [World.cell?_alloc_lt _ _ _ (by simp; omega), World.cell?_alloc_lt _ _ _ (by simp; omega), World.cell?_alloc_lt _ _ _ (by simp; omega), World.cell?_alloc_lt _ _ _ (by simp)]
    simp
  exact World.cell?_setCell_same _ _ _ hm

theorem tell_nil (w : World) : Calls Tryd.prog 38 #[.nilIface] w fun e w' => e = .returned (.int .i64 0) ∧ w' = w := by
  go_enter Tryd.func38, Tryd.ntmps38
  go_wp2
  go_ret
  exact ⟨rfl, rfl⟩

set_option maxHeartbeats 1000000 in
theorem tell_errno (n : Int) (w : World) (hg : w.cell? ⟨1, 0, none⟩ = some errType) : Calls Tryd.prog 38 #[.iface 27 (.int .i64 n)] w fun e w' => e = .returned (.int .i64 n) ∧ Grew w w' := by
  have hlt : 1 < w.heap.size := by
    rcases Nat.lt_or_ge 1 w.heap.size with h | h
    · exact h
    · simp [World.cell?, Array.getElem?_eq_none h] at hg
  have hgA : (w.alloc (.cells #[.int .i64 0] 27)).cell? ⟨1, 0, none⟩ = some errType := by rw [World.cell?_alloc_lt _ _ ⟨1, 0, none⟩ hlt]; exact hg
  have htA : (w.alloc (.cells #[.int .i64 0] 27)).cell? ⟨w.heap.size, 0, none⟩ = some (.int .i64 0) := by simp
  have hfA : (w.alloc (.cells #[.int .i64 0] 27)).frozen? ⟨w.heap.size, 0, none⟩ = false := by simp
  have hc := asWorld_cell n w
  have hgr := asWorld_grew n w
  go_enter Tryd.func38, Tryd.ntmps38
  go_wp2_with (go_at_call 72; refine (as_errno n _ (.int .i64 0) _ hgA htA hfA).mono ?_; rintro e w' ⟨rfl, rfl⟩)
  go_ret
  exact ⟨rfl, hgr⟩

set_option maxHeartbeats 1000000 in
theorem tell_at (n : Int) (a : Addr) (w : World) (hg : w.cell? ⟨1, 0, none⟩ = some errType) (ha : w.cell? a = some (.int .i64 n)) : Calls Tryd.prog 38 #[.iface 109 (.pointer (some a))] w fun e w' => e = .returned (.int .i64 n) ∧ Grew w w' := by
  have hlt : 1 < w.heap.size := by
    rcases Nat.lt_or_ge 1 w.heap.size with h | h
    · exact h
    · simp [World.cell?, Array.getElem?_eq_none h] at hg
  have hal : a.block < w.heap.size := cell_lt ha
  have hgA : (w.alloc (.cells #[.int .i64 0] 27)).cell? ⟨1, 0, none⟩ = some errType := by rw [World.cell?_alloc_lt _ _ ⟨1, 0, none⟩ hlt]; exact hg
  have haA : (w.alloc (.cells #[.int .i64 0] 27)).cell? a = some (.int .i64 n) := by rw [World.cell?_alloc_lt _ _ a hal]; exact ha
  have htA : (w.alloc (.cells #[.int .i64 0] 27)).cell? ⟨w.heap.size, 0, none⟩ = some (.int .i64 0) := by simp
  have hfA : (w.alloc (.cells #[.int .i64 0] 27)).frozen? ⟨w.heap.size, 0, none⟩ = false := by simp
  have hc := asWorld_cell n w
  have hgr := asWorld_grew n w
  go_enter Tryd.func38, Tryd.ntmps38
  go_wp2_with (go_at_call 72; refine (as_at n a _ (.int .i64 0) _ hgA haA htA hfA).mono ?_; rintro e w' ⟨rfl, rfl⟩)
  go_ret
  exact ⟨rfl, hgr⟩

/-- The code in an error, its place. -/
def codeF : Option (Int × Option Nat) → Int
  | none => 0
  | some (c, _) => c
def placeF : Option (Int × Option Nat) → Int
  | some (_, some s) => s
  | _ => -1

def HasErr (G : Glob) : Prop := G 1 = some (.ip [.v errType])
theorem HasErr.cell {G : Glob} (h : HasErr G) {w : World} {X : Nat → Prop} (hg : ∀ g x, G g = some x → RD w X (.pointer (some ⟨g, 0, none⟩)) x) : w.cell? ⟨1, 0, none⟩ = some errType := by
  have := hg _ _ h
  obtain ⟨b, off, f, hb, _, _, hc, hr⟩ := this.ip_inv
  simp only [Value.pointer.injEq, Option.some.injEq, Addr.mk.injEq, and_true] at hb
  obtain ⟨rfl, rfl⟩ := hb
  have h1 := hc 0 (by simp)
  have h2 := (hr 0 _ rfl).scalar
  rw [h2] at h1
  exact h1

theorem tell_spec (G : Glob) (hG : HasErr G) (e : Option (Int × Option Nat)) : PureC Tryd.prog G 38 [dErr e] (.v (.int .i64 (codeF e))) := by
  refine PureC.of_calls (Fun.of Tryd.func38 rfl rfl) fun X w vs hsz hrd hgl => ?_
  have hg := hG.cell hgl
  obtain ⟨v, rfl⟩ : ∃ v, vs = #[v] := Array.size_eq_one_iff.1 hsz
  have hv := hrd 0 v _ rfl rfl
  match e, hv with
  | none, hv =>
    have := hv.scalar
    subst this
    exact (tell_nil w).mono fun e w' ⟨he, hw⟩ => ⟨_, he, by rw [hw]; exact Grew.refl w, .v _⟩
  | some (c, none), hv =>
    obtain ⟨u, rfl, hu⟩ := hv.ifc_inv
    have := hu.scalar
    subst this
    exact (tell_errno c w hg).mono fun e w' ⟨he, hw⟩ => ⟨_, he, hw, .v _⟩
  | some (c, some s), hv =>
    obtain ⟨u, rfl, hu⟩ := hv.ifc_inv
    obtain ⟨b, off, f, rfl, _, _, hc, hr⟩ := hu.ip_inv
    have h1 := hc 0 (by simp)
    have h2 := (hr 0 _ rfl).scalar
    rw [h2] at h1
    exact (tell_at c ⟨b, off, none⟩ w hg h1).mono fun e w' ⟨he, hw⟩ => ⟨_, he, hw, .v _⟩
#print axioms tell_spec
end Go.Proofs.YtoikggboakojlaaDoor
