/-
  Texts that belong together, in one file: E2, F3, F5, F6, E3, E4, G1, B1, F7, P2, F10, N2, B2, B4, B6, Sh1, T1, X1, X2, X3, X8p, X4, Av29, Av30, X7, X8, Av31, A5, Sh2.
-/
import Derived.Test.YtfehigldhedkgaaDoorEp2
import Derived.RegionTactic
import Derived.ChangeAlike
import Derived.Test.YtfehigldhedkgaaDoorProg
import Derived.Ground.NamesProg
import Derived.Shelf.Strings.OnBuilder
import Derived.Lib.Join
import Derived.Shelf.Small.Strs
import Derived.Lib.IndexLaws
import Derived.Scope
import Derived.Shelf.Strings.Runes
/-
  errors.As at an error with a place; what api.Tell and plain.Place tell.
-/
namespace Go.Proofs.YtfehigldhedkgaaDoor
set_option linter.unusedSimpArgs false
set_option linter.unusedVariables false
open Go.RowKit Go.Extern.Stop Go.Stop Go.Extern
set_option linter.unusedSimpArgs false
set_option linter.unusedVariables false

set_option maxHeartbeats 8000000 in
theorem as_at (n : Int) (a t : Addr) (old : Value) (w : World) (hg : w.cell? ⟨1, 0, none⟩ = some (.iface 194 (.agg #[.pointer (some ⟨8, 36, none⟩)]))) (ha : w.cell? a = some (.int .i64 n)) (ht0 : w.cell? t = some old) (hf0 : w.frozen? t = false) :
    Calls Tryd.prog 90 #[.iface 83 (.pointer (some a)), .iface 151 (.pointer (some t))] w fun ev w' => ev = .returned (.bool true) ∧ w' = asWorld t n w := by
  have h6 := @run_callFunc_extern Tryd.prog 101 _ (fun args => ReflectliteValue.unpack (args.getD 0 (.tuple #[]))) Tryd.func101 (by kernel_rfl) (by kernel_rfl) (by kernel_rfl) (by kernel_rfl)
  have h7 := @run_callFunc_extern Tryd.prog 102 _ (ReflectliteValue.methodAny (ReflectliteValue.valueError "reflectlite.Value.Type" 0) (fun t _ _ _ => ReflectliteType.toType t)) Tryd.func102 (by kernel_rfl) (by kernel_rfl) (by kernel_rfl) (by kernel_rfl)
  have h8 := @run_callFunc_extern Tryd.prog 103 _ (ReflectliteValue.method (ReflectliteValue.valueError "reflectlite.Value.IsNil" 0) ReflectliteValue.isNil) Tryd.func103 (by kernel_rfl) (by kernel_rfl) (by kernel_rfl) (by kernel_rfl)
  have h27 := @run_callFunc_extern Tryd.prog 175 _ (ReflectliteType.abiMethod fun t => do pure (.int .u8 (← Rtype.kind t))) Tryd.func175 (by kernel_rfl) (by kernel_rfl) (by kernel_rfl) (by kernel_rfl)
  have h37 := @run_callFunc_extern Tryd.prog 198 _ (ReflectliteType.method ReflectliteType.elem) Tryd.func198 (by kernel_rfl) (by kernel_rfl) (by kernel_rfl) (by kernel_rfl)
  have h38 := @run_callFunc_extern Tryd.prog 199 _ (ReflectliteType.relation "Implements" ReflectliteType.implements_) Tryd.func199 (by kernel_rfl) (by kernel_rfl) (by kernel_rfl) (by kernel_rfl)
  have h10 := @run_callFunc_extern Tryd.prog 124 _ ReflectliteType.typeOf Tryd.func124 (by kernel_rfl) (by kernel_rfl) (by kernel_rfl) (by kernel_rfl)
  have h35 := @run_callFunc_extern Tryd.prog 196 _ (ReflectliteType.relation "AssignableTo" ReflectliteType.assignableTo) Tryd.func196 (by kernel_rfl) (by kernel_rfl) (by kernel_rfl) (by kernel_rfl)
  have h11 := @run_callFunc_extern Tryd.prog 125 _ (ReflectliteValue.method (ReflectliteValue.valueError "reflectlite.Value.Elem" 0) ReflectliteValue.elem) Tryd.func125 (by kernel_rfl) (by kernel_rfl) (by kernel_rfl) (by kernel_rfl)
  have h12 := @run_callFunc_extern Tryd.prog 126 _ ReflectliteValue.set Tryd.func126 (by kernel_rfl) (by kernel_rfl) (by kernel_rfl) (by kernel_rfl)
  have mA := rl_methodAssignableTo
  have aE := rl_assignableE
  have vE := rl_valueOfE
  have tE := rl_typeOfE
  have f6 := rl_valueOfP
  have f7 := rl_typeP
  have mK := rl_methodKind
  have mE := rl_methodElem
  have mI := rl_methodImplements
  have kP := rl_kindP
  have kE := rl_kindE
  have eP := rl_elemP
  have iE := rl_implementsE
  have n8 := rl_isNilP ⟨w.heap.size, 0, none⟩ t ((w.alloc (.cells #[.pointer (some t)] 151)).alloc (.cells #[.pointer (some ⟨8, 151, none⟩), .pointer (some ⟨w.heap.size, 0, none⟩), .int .u64 150] 163)) (by simp)
  have hlt : 1 < w.heap.size := by
    rcases Nat.lt_or_ge 1 w.heap.size with h | h
    · exact h
    · simp [World.cell?, Array.getElem?_eq_none h] at hg
  have hg2 : ((w.alloc (.cells #[.pointer (some t)] 151)).alloc (.cells #[.pointer (some ⟨8, 151, none⟩), .pointer (some ⟨w.heap.size, 0, none⟩), .int .u64 150] 163)).cell? ⟨1, 0, none⟩ = some (.iface 194 (.agg #[.pointer (some ⟨8, 36, none⟩)])) := by
    rw [World.cell?_alloc_lt _ _ ⟨1, 0, none⟩ (by simp; omega), World.cell?_alloc_lt _ _ ⟨1, 0, none⟩ hlt]; exact hg
  have htl : t.block < w.heap.size := by
    rcases Nat.lt_or_ge t.block w.heap.size with h | h
    · exact h
    · simp [World.cell?, Array.getElem?_eq_none h] at ht0
  have el := rl_elemVP ⟨w.heap.size, 0, none⟩ t (((w.alloc (.cells #[.pointer (some t)] 151)).alloc (.cells #[.pointer (some ⟨8, 151, none⟩), .pointer (some ⟨w.heap.size, 0, none⟩), .int .u64 150] 163)).alloc (.cells #[.pointer (some ⟨8, 151, none⟩), .pointer (some ⟨w.heap.size, 0, none⟩), .int .u64 150] 163)) (by rw [World.cell?_alloc_lt _ _ ⟨w.heap.size, 0, none⟩ (by simp; omega)]; simp)
  have st := rl_setE t ⟨w.heap.size + 1 + 1 + 1, 0, none⟩ n old ((((w.alloc (.cells #[.pointer (some t)] 151)).alloc (.cells #[.pointer (some ⟨8, 151, none⟩), .pointer (some ⟨w.heap.size, 0, none⟩), .int .u64 150] 163)).alloc (.cells #[.pointer (some ⟨8, 151, none⟩), .pointer (some ⟨w.heap.size, 0, none⟩), .int .u64 150] 163)).alloc (.cells #[.int .i64 n] 30))
    (by rw [World.cell?_alloc_at _ _ _ _ (by simp)]; rfl)
    (by rw [World.cell?_alloc_lt _ _ t (by simp; omega), World.cell?_alloc_lt _ _ t (by simp; omega), World.cell?_alloc_lt _ _ t (by simp; omega), World.cell?_alloc_lt _ _ t htl]; exact ht0)
    (by rw [World.frozen?_alloc_old _ _ t (by simp; omega), World.frozen?_alloc_old _ _ t (by simp; omega), World.frozen?_alloc_old _ _ t (by simp; omega), World.frozen?_alloc_old _ _ t (Nat.ne_of_lt htl)]; exact hf0)
  have tA := rl_typeOfA
  have aA := rl_assignableA
  have nA := rl_noAs
  have uA := rl_unwraps
  have mU := rl_methodUnwrap
  have hal : a.block < w.heap.size := by
    rcases Nat.lt_or_ge a.block w.heap.size with h | h
    · exact h
    · simp [World.cell?, Array.getElem?_eq_none h] at ha
  have ha3 : (((w.alloc (.cells #[.pointer (some t)] 151)).alloc (.cells #[.pointer (some ⟨8, 151, none⟩), .pointer (some ⟨w.heap.size, 0, none⟩), .int .u64 150] 163)).alloc (.cells #[.pointer (some ⟨8, 151, none⟩), .pointer (some ⟨w.heap.size, 0, none⟩), .int .u64 150] 163)).cell? a = some (.int .i64 n) := by
    rw [World.cell?_alloc_lt _ _ a (by simp; omega), World.cell?_alloc_lt _ _ a (by simp; omega), World.cell?_alloc_lt _ _ a hal]; exact ha
  go_enter Tryd.func90, Tryd.ntmps90
  go_wp2
  refine wp_loop_rounds 2 ?_
  rw [rounds_succ]
  go_wp2_with (go_at_call 181; refine (unwrap_at a n _ ha3).mono ?_; rintro e w' ⟨rfl, rfl⟩)
  rw [rounds_succ]
  go_wp2
  go_ret
  exact ⟨rfl, rfl⟩

end Go.Proofs.YtfehigldhedkgaaDoor

/-
  The closures; slices that are copied; lists that are numbered as they come.
-/
namespace Go.Proofs.YtfehigldhedkgaaDoor
set_option linter.unusedSimpArgs false
set_option linter.unusedVariables false
open Go.Av

def dNum (n : Int) : D := .v (.int .i64 n)
end Go.Proofs.YtfehigldhedkgaaDoor

/-
  Tables: few states; which tables may be.
-/
namespace Go.Proofs.YtfehigldhedkgaaDoor
set_option linter.unusedSimpArgs false
set_option linter.unusedVariables false
open Go.Av

structure Tab where
  next : List (List Int)
  tells : List (List Int)

end Go.Proofs.YtfehigldhedkgaaDoor

/-
  Which tables may be.
-/
namespace Go.Proofs.YtfehigldhedkgaaDoor
set_option linter.unusedSimpArgs false
set_option linter.unusedVariables false
open Go.Av

/-- Whether an error is told, which one, and where. -/
def dErr : Option (Int × Option Nat) → D
  | none => .v .nilIface
  | some (c, none) => .ifc 30 (.v (.int .i64 c))
  | some (c, some s) => .ifc 83 (.ip [.v (.int .i64 c), .v (.int .i64 s)])

end Go.Proofs.YtfehigldhedkgaaDoor

/-
  What api.Tell and plain.Place tell of an error.
-/
namespace Go.Proofs.YtfehigldhedkgaaDoor
set_option linter.unusedSimpArgs false
set_option linter.unusedVariables false
open Go.RowKit Go.Extern.Stop Go.Stop Go.Extern
open Go.Av

def errType : Value := .iface 194 (.agg #[.pointer (some ⟨8, 36, none⟩)])

theorem asWorld_grew (n : Int) (w : World) : Grew w (asWorld ⟨w.heap.size, 0, none⟩ n (w.alloc (.cells #[.int .i64 0] 30))) := by
  unfold asWorld
  refine ⟨by simp <;> omega, rfl, rfl, rfl, fun b hb => ?_⟩
  rw [Below.heap_setCell _ _ _ _ (by simp; omega)]
  repeat rw [Below.heap_alloc _ _ _ (by simp; omega)]
  exact Below.heap_alloc _ _ _ hb
theorem asWorld_cell (n : Int) (w : World) : (asWorld ⟨w.heap.size, 0, none⟩ n (w.alloc (.cells #[.int .i64 0] 30))).cell? ⟨w.heap.size, 0, none⟩ = some (.int .i64 n) := by
  unfold asWorld
  have hm : ((((w.alloc (.cells #[.int .i64 0] 30)).alloc (.cells #[.pointer (some ⟨w.heap.size, 0, none⟩)] 151)).alloc (.cells #[.pointer (some ⟨8, 151, none⟩), .pointer (some ⟨(w.alloc (.cells #[.int .i64 0] 30)).heap.size, 0, none⟩), .int .u64 150] 163)).alloc (.cells #[.pointer (some ⟨8, 151, none⟩), .pointer (some ⟨(w.alloc (.cells #[.int .i64 0] 30)).heap.size, 0, none⟩), .int .u64 150] 163) |>.alloc (.cells #[.int .i64 n] 30)).cell? ⟨w.heap.size, 0, none⟩ = some (.int .i64 0) := by
    rw [World.cell?_alloc_lt _ _ _ (by simp; omega), World.cell?_alloc_lt _ _ _ (by simp; omega), World.cell?_alloc_lt _ _ _ (by simp; omega), World.cell?_alloc_lt _ _ _ (by simp)]
    simp
  exact World.cell?_setCell_same _ _ _ hm

theorem tell_nil (w : World) : Calls Tryd.prog 67 #[.nilIface] w fun e w' => e = .returned (.int .i64 0) ∧ w' = w := by
  go_enter Tryd.func67, Tryd.ntmps67
  go_wp2
  go_ret
  exact ⟨rfl, rfl⟩

set_option maxHeartbeats 1000000 in
theorem tell_errno (n : Int) (w : World) (hg : w.cell? ⟨1, 0, none⟩ = some errType) : Calls Tryd.prog 67 #[.iface 30 (.int .i64 n)] w fun e w' => e = .returned (.int .i64 n) ∧ Grew w w' := by
  have hlt : 1 < w.heap.size := by
    rcases Nat.lt_or_ge 1 w.heap.size with h | h
    · exact h
    · simp [World.cell?, Array.getElem?_eq_none h] at hg
  have hgA : (w.alloc (.cells #[.int .i64 0] 30)).cell? ⟨1, 0, none⟩ = some errType := by rw [World.cell?_alloc_lt _ _ ⟨1, 0, none⟩ hlt]; exact hg
  have htA : (w.alloc (.cells #[.int .i64 0] 30)).cell? ⟨w.heap.size, 0, none⟩ = some (.int .i64 0) := by simp
  have hfA : (w.alloc (.cells #[.int .i64 0] 30)).frozen? ⟨w.heap.size, 0, none⟩ = false := by simp
  have hc := asWorld_cell n w
  have hgr := asWorld_grew n w
  go_enter Tryd.func67, Tryd.ntmps67
  go_wp2_with (go_at_call 90; refine (as_errno n _ (.int .i64 0) _ hgA htA hfA).mono ?_; rintro e w' ⟨rfl, rfl⟩)
  go_ret
  exact ⟨rfl, hgr⟩

set_option maxHeartbeats 1000000 in
theorem tell_at (n : Int) (a : Addr) (w : World) (hg : w.cell? ⟨1, 0, none⟩ = some errType) (ha : w.cell? a = some (.int .i64 n)) : Calls Tryd.prog 67 #[.iface 83 (.pointer (some a))] w fun e w' => e = .returned (.int .i64 n) ∧ Grew w w' := by
  have hlt : 1 < w.heap.size := by
    rcases Nat.lt_or_ge 1 w.heap.size with h | h
    · exact h
    · simp [World.cell?, Array.getElem?_eq_none h] at hg
  have hal : a.block < w.heap.size := cell_lt ha
  have hgA : (w.alloc (.cells #[.int .i64 0] 30)).cell? ⟨1, 0, none⟩ = some errType := by rw [World.cell?_alloc_lt _ _ ⟨1, 0, none⟩ hlt]; exact hg
  have haA : (w.alloc (.cells #[.int .i64 0] 30)).cell? a = some (.int .i64 n) := by rw [World.cell?_alloc_lt _ _ a hal]; exact ha
  have htA : (w.alloc (.cells #[.int .i64 0] 30)).cell? ⟨w.heap.size, 0, none⟩ = some (.int .i64 0) := by simp
  have hfA : (w.alloc (.cells #[.int .i64 0] 30)).frozen? ⟨w.heap.size, 0, none⟩ = false := by simp
  have hc := asWorld_cell n w
  have hgr := asWorld_grew n w
  go_enter Tryd.func67, Tryd.ntmps67
  go_wp2_with (go_at_call 90; refine (as_at n a _ (.int .i64 0) _ hgA haA htA hfA).mono ?_; rintro e w' ⟨rfl, rfl⟩)
  go_ret
  exact ⟨rfl, hgr⟩

/-- The code in an error, its place. -/
def codeF : Option (Int × Option Nat) → Int
  | none => 0
  | some (c, _) => c
def placeF : Option (Int × Option Nat) → Int
  | some (_, some s) => s
  | _ => -1

def HasErr (G : Glob) : Prop := G 1 = some (.ip [.v errType])
theorem HasErr.cell {G : Glob} (h : HasErr G) {w : World} {X : Nat → Prop} (hg : ∀ g x, G g = some x → RD w X (.pointer (some ⟨g, 0, none⟩)) x) : w.cell? ⟨1, 0, none⟩ = some errType := by
  have := hg _ _ h
  obtain ⟨b, off, f, hb, _, _, hc, hr⟩ := this.ip_inv
  simp only [Value.pointer.injEq, Option.some.injEq, Addr.mk.injEq, and_true] at hb
  obtain ⟨rfl, rfl⟩ := hb
  have h1 := hc 0 (by simp)
  have h2 := (hr 0 _ rfl).scalar
  rw [h2] at h1
  exact h1

end Go.Proofs.YtfehigldhedkgaaDoor

/-
  What plain.Place tells of an error.
-/
namespace Go.Proofs.YtfehigldhedkgaaDoor
set_option linter.unusedSimpArgs false
set_option linter.unusedVariables false
open Go.RowKit Go.Extern.Stop Go.Stop Go.Extern
open Go.Av

theorem ta_E (v : Value) (xT : TypeId) (w : World) : (Instr.typeAssert (.iface 30 v) xT 83 true).run Tryd.prog w = .ok (.tuple #[.pointer none, .bool false]) w := by kernel_rfl
theorem ta_A (v : Value) (xT : TypeId) (w : World) : (Instr.typeAssert (.iface 83 v) xT 83 true).run Tryd.prog w = .ok (.tuple #[v, .bool true]) w := by kernel_rfl
theorem ta_noUnwrap (v : Value) (xT : TypeId) (w : World) : (Instr.typeAssert (.iface 30 v) xT 131 true).run Tryd.prog w = .ok (.tuple #[.nilIface, .bool false]) w := run_typeAssert_lacksB Tryd.underlying131 (by kernel_rfl) (by kernel_rfl) v xT w

set_option maxHeartbeats 1000000 in
theorem place_nil (w : World) : Calls Tryd.prog 33 #[.nilIface] w fun e w' => e = .returned (.tuple #[.int .i64 0, .int .i64 (-1)]) ∧ Grew w w' := by
  go_enter Tryd.func33, Tryd.ntmps33
  go_wp2_with (go_at_call 67; refine (tell_nil _).mono ?_; rintro e w' ⟨rfl, rfl⟩)
  refine wp_loop_rounds 1 ?_
  rw [rounds_succ]
  go_wp2
  go_ret2
  exact ⟨rfl, Grew.refl _⟩

set_option maxHeartbeats 1000000 in
theorem place_errno (n : Int) (w : World) (hg : w.cell? ⟨1, 0, none⟩ = some errType) : Calls Tryd.prog 33 #[.iface 30 (.int .i64 n)] w fun e w' => e = .returned (.tuple #[.int .i64 n, .int .i64 (-1)]) ∧ Grew w w' := by
  have t1 := ta_E
  have t2 := ta_noUnwrap
  go_enter Tryd.func33, Tryd.ntmps33
  go_wp2_with (go_at_call 67; refine (tell_errno n _ hg).mono ?_; rintro e w' ⟨rfl, hgr⟩)
  refine wp_loop_rounds 1 ?_
  rw [rounds_succ]
  go_wp2
  go_ret2
  exact ⟨rfl, hgr⟩

set_option maxHeartbeats 1000000 in
theorem place_at (n s : Int) (b o : Nat) (w : World) (hg : w.cell? ⟨1, 0, none⟩ = some errType) (ha : w.cell? ⟨b, o, none⟩ = some (.int .i64 n)) (hs : w.cell? ⟨b, o + 1, none⟩ = some (.int .i64 s)) :
    Calls Tryd.prog 33 #[.iface 83 (.pointer (some ⟨b, o, none⟩))] w fun e w' => e = .returned (.tuple #[.int .i64 n, .int .i64 s]) ∧ Grew w w' := by
  have t1 := ta_A
  go_enter Tryd.func33, Tryd.ntmps33
  go_wp2_with (go_at_call 67; refine (tell_at n _ _ hg ha).mono ?_; rintro e w' ⟨rfl, hgr⟩)
  have hs' : w'.cell? ⟨b, o + 1, none⟩ = some (.int .i64 s) := by rw [World.cell?_of_block (w := w) (hgr.same b (cell_lt hs))]; exact hs
  refine wp_loop_rounds 1 ?_
  rw [rounds_succ]
  go_wp2
  go_region
  all_goals (go_wp2; go_ret2; exact ⟨rfl, hgr.size, hgr.os, hgr.tape, hgr.output, hgr.same⟩)

theorem place_spec (G : Glob) (hG : HasErr G) (e : Option (Int × Option Nat)) : PureC Tryd.prog G 33 [dErr e] (.tup [.v (.int .i64 (codeF e)), .v (.int .i64 (placeF e))]) := by
  refine PureC.of_calls (Fun.of Tryd.func33 rfl rfl) fun X w vs hsz hrd hgl => ?_
  have hg := hG.cell hgl
  obtain ⟨v, rfl⟩ : ∃ v, vs = #[v] := Array.size_eq_one_iff.1 hsz
  have hv := hrd 0 v _ rfl rfl
  have two : ∀ (w' : World) (a b : Int), RD w' X (.tuple #[.int .i64 a, .int .i64 b]) (.tup [.v (.int .i64 a), .v (.int .i64 b)]) := fun w' a b => .tup rfl fun j u c hu hc => by
    match j, hu, hc with
    | 0, hu, hc => simp at hu hc; subst hu hc; exact .v _
    | 1, hu, hc => simp at hu hc; subst hu hc; exact .v _
    | j + 2, hu, hc => simp at hu
  match e, hv with
  | none, hv =>
    have := hv.scalar
    subst this
    exact (place_nil w).mono fun e w' ⟨he, hw⟩ => ⟨_, he, hw, two _ _ _⟩
  | some (c, none), hv =>
    obtain ⟨u, rfl, hu⟩ := hv.ifc_inv
    have := hu.scalar
    subst this
    exact (place_errno c w hg).mono fun e w' ⟨he, hw⟩ => ⟨_, he, hw, two _ _ _⟩
  | some (c, some s), hv =>
    obtain ⟨u, rfl, hu⟩ := hv.ifc_inv
    obtain ⟨b, off, f, rfl, _, _, hc, hr⟩ := hu.ip_inv
    have h1 := hc 0 (by simp)
    have h2 := (hr 0 _ rfl).scalar
    rw [h2] at h1
    have h3 := hc 1 (by simp)
    have h4 := (hr 1 _ rfl).scalar
    rw [h4] at h3
    exact (place_at c s b off w hg h1 h3).mono fun e w' ⟨he, hw⟩ => ⟨_, he, hw, two _ _ _⟩
end Go.Proofs.YtfehigldhedkgaaDoor

/-
  What the statements hold answers with: like lists, errors and their places.
-/
namespace Go.Proofs.YtfehigldhedkgaaDoor
set_option linter.unusedSimpArgs false
set_option linter.unusedVariables false
open Go.Av

def dFault (e : Option (Int × Option Nat)) : D := .agg [dNum (codeF e), dNum (placeF e)]
def HasFine (G : Glob) : Prop := G 0 = some (.ip [dNum 0, dNum (-1)])

theorem bare0_spec (G : Glob) (c : Int) : PureC Tryd.prog G 31 [dNum c] (.agg [dNum c, dNum (-1)]) := by
  refine PureC.of_body (tyOf_good _) Tryd.func31 rfl rfl (rs := [.cell 2 32]) Tryd.results31 (by simp [Tryd.ntmps31]) fun X => ?_
  simp only [Tryd.ntmps31, List.map]
  refine AW_rg (tyOf_good _) [0, 2] [2] (fun _ _ => trivial) fun K' hK' => ?_
  repeat (refine sxf_next fun K2 hK2 => ?_; simp [dNum]; (repeat (refine ⟨by omega, ?_⟩)); refine hK2 _ ?_; clear hK2 K2)
  refine sxf_nil (hK' _ ?_)
  refine AW.st (by simp [dNum]; rfl) ?_
  clear hK' K'
  refine AW_rg (tyOf_good _) [2] [2] (fun _ _ => trivial) fun K' hK' => ?_
  repeat (refine sxf_next fun K2 hK2 => ?_; simp [dNum]; (repeat (refine ⟨by omega, ?_⟩)); refine hK2 _ ?_; clear hK2 K2)
  refine sxf_nil (hK' _ ?_)
  refine AW.st (by simp [dNum]; rfl) ?_
  clear hK' K'
  refine AW_ret ?_
  simp [D.le, D.le.go, takeMap, dNum]

theorem at_spec (G : Glob) (hG : HasErr G) (e e' : Option (Int × Option Nat)) : PureC Tryd.prog G 11 [dErr e, dFault e'] (.v (.bool (decide (codeF e = codeF e') && decide (placeF e = placeF e')))) := by
  have hp := place_spec G hG e
  refine PureC.of_body (tyOf_good _) Tryd.func11 rfl rfl (rs := [.tmp 4]) Tryd.results11 (by simp [Tryd.ntmps11]) fun X => ?_
  simp only [Tryd.ntmps11, List.map]
  refine AW_rg (tyOf_good _) [0, 3] [3] (fun _ _ => trivial) fun K' hK' => ?_
  repeat (refine sxf_next fun K2 hK2 => ?_; simp [dFault]; (repeat (refine ⟨by omega, ?_⟩)); refine hK2 _ ?_; clear hK2 K2)
  refine sxf_nil (hK' _ ?_)
  refine AW.st (by simp [dFault]; rfl) ?_
  clear hK' K'
  refine AW_rg (tyOf_good _) [3, 5, 6] [3] (fun _ _ => trivial) fun K' hK' => ?_
  repeat (refine sxf_next fun K2 hK2 => ?_; simp; (repeat (refine ⟨by omega, ?_⟩)); refine hK2 _ ?_; clear hK2 K2)
  refine sxf_next fun K2 hK2 => ?_
  simp
  refine callK.data (hp) (by simp; rfl) (by first | exact D.leGo_refl _ | simp [takeMap, List.map_map, Function.comp_def, D.le, D.le.go, D.le_refl, D.leGo_refl]) ?_
  refine hK2 _ ?_
  clear hK2 K2
  simp only [putd, upd_lst]
  repeat (refine sxf_next fun K2 hK2 => ?_; simp; (repeat (refine ⟨by omega, ?_⟩)); refine hK2 _ ?_; clear hK2 K2)
  refine sxf_nil (hK' _ ?_)
  refine AW.st (by simp; rfl) ?_
  clear hK' K'
  by_cases h1 : codeF e = codeF e'
  · refine AW_rg (tyOf_good _) [4] [3] (fun _ _ => trivial) fun K' hK' => ?_
    repeat (refine sxf_next fun K2 hK2 => ?_; simp [dNum, h1]; (repeat (refine ⟨by omega, ?_⟩)); refine hK2 _ ?_; clear hK2 K2)
    refine sxf_nil (hK' _ ?_)
    refine AW.st (by simp [dNum, h1]; rfl) ?_
    clear hK' K'
    refine AW_ret ?_
    simp [D.le, D.le.go, takeMap, h1]
    try exact fun _ => h1
  · refine AW_rg (tyOf_good _) [4] [3] (fun _ _ => trivial) fun K' hK' => ?_
    repeat (refine sxf_next fun K2 hK2 => ?_; simp [dNum, h1]; (repeat (refine ⟨by omega, ?_⟩)); refine hK2 _ ?_; clear hK2 K2)
    refine sxf_nil (hK' _ ?_)
    refine AW.st (by simp [dNum, h1]; rfl) ?_
    clear hK' K'
    refine AW_ret ?_
    simp [D.le, D.le.go, takeMap, h1]
    try exact fun h => absurd h h1
theorem at_same (G : Glob) (hG : HasErr G) (e : Option (Int × Option Nat)) : PureC Tryd.prog G 11 [dErr e, dFault e] (.v (.bool true)) := by
  have := at_spec G hG e e
  simpa using this
end Go.Proofs.YtfehigldhedkgaaDoor

/-
  Formulas: which may be.
-/
namespace Go.Proofs.YtfehigldhedkgaaDoor
set_option linter.unusedSimpArgs false
set_option linter.unusedVariables false
open Go.Av

/-- A formula, as the program's pointers make it; nil: none. -/
inductive Fm where
  | nil
  | mk (kind : Int) (name : List UInt8) (of : List Fm)

def ofK {α : Type} (l : List α) : Option Bool := match l with
  | [] => some false
  | _ => none

mutual
def dF : Fm → D
  | .nil => .v (.pointer none)
  | .mk k s l => .ip [dNum k, dS s, .sl (ofK l) (dFs l)]
def dFs : List Fm → List (List D)
  | [] => []
  | f :: l => [dF f] :: dFs l
end

end Go.Proofs.YtfehigldhedkgaaDoor

/-
  The rounds of blocks.
-/
namespace Go.Proofs.YtfehigldhedkgaaDoor
set_option linter.unusedSimpArgs false
set_option linter.unusedVariables false
open Go.Av

def Tab.n (t : Tab) : Nat := t.next.length
end Go.Proofs.YtfehigldhedkgaaDoor

/-
  Plain facts of tables: the rounds come to an end; which states are alike.
-/
namespace Go.Proofs.YtfehigldhedkgaaDoor
set_option linter.unusedSimpArgs false
set_option linter.unusedVariables false

def nx (t : Tab) (s c : Nat) : Nat := ((t.next.getD s []).getD c 0).toNat
def te (t : Tab) (s c : Nat) : Int := (t.tells.getD s []).getD c 0
end Go.Proofs.YtfehigldhedkgaaDoor

/-
  The table of blocks.
-/
namespace Go.Proofs.YtfehigldhedkgaaDoor
set_option linter.unusedSimpArgs false
set_option linter.unusedVariables false
open Go.Av

def pre (l row : List Int) (i : Nat) : List Int := (row.take i).map fun x => l.getD x.toNat 0
end Go.Proofs.YtfehigldhedkgaaDoor

/-
  Texts that may be names: the document's check; the law's walk.
-/
namespace Go.Proofs.YtfehigldhedkgaaDoor
set_option linter.unusedSimpArgs false
set_option linter.unusedVariables false
open Go.Av

theorem okAll_succ {l : List UInt8} {i : Nat} (h : okAll l i = true) (hi : i < l.length) (hc : okC i l[i] = true) : okAll l (i + 1) = true := by
  unfold okAll at h ⊢
  rw [List.range_succ, List.all_append, h]
  simp only [List.all_cons, List.all_nil, Bool.and_true, Bool.true_and]
  rw [List.getD_eq_getElem?_getD, List.getElem?_eq_getElem hi]
  exact hc
theorem okAll_fail {l : List UInt8} {i : Nat} (hi : i < l.length) (hc : okC i l[i] = false) : checkNF l = false := by
  have : okAll l l.length = false := by
    unfold okAll
    rw [List.all_eq_false]
    refine ⟨i, List.mem_range.2 hi, ?_⟩
    rw [List.getD_eq_getElem?_getD, List.getElem?_eq_getElem hi]
    simp [hc]
  unfold checkNF
  rw [this]
  rfl
theorem word_fail {l : List UInt8} (h : (([] :: wordsL).any fun x => l == x) = true) : checkNF l = false := by
  unfold checkNF
  rw [h]
  simp
theorem word_pass {l : List UInt8} (h : okAll l l.length = true) (hw : (([] :: wordsL).any fun x => l == x) = false) : decide ((l.length : Int) ≤ 8) = checkNF l := by
  unfold checkNF
  rw [h, hw]
  simp only [Bool.not_false, Bool.true_and]
  by_cases h8 : l.length ≤ 8
  · simp [h8]; omega
  · simp [h8]; omega
theorem toW (l : List UInt8) : (⟨l.toArray⟩ : ByteArray) = bs l := rfl

set_option maxHeartbeats 8000000 in
theorem ncheck_spec (G : Glob) (l : List UInt8) (hl : l.length < 2^60) : PureC Tryd.prog G 112 [dS l] (.v (.bool (checkNF l))) := by
  refine PureC.of_body (tyOf_good _) Tryd.func112 rfl rfl (rs := [.tmp 2]) Tryd.results112 (by simp [Tryd.ntmps112]) fun X => ?_
  simp only [Tryd.ntmps112, List.map]
  refine AW_rg (tyOf_good _) [0] [] (fun _ _ => trivial) fun K' hK' => ?_
  repeat (refine sxf_next fun K2 hK2 => ?_; simp [dS]; (repeat (refine ⟨by omega, ?_⟩)); refine hK2 _ ?_; clear hK2 K2)
  refine sxf_nil (hK' _ ?_)
  refine AW.st (by simp [dS]; rfl) ?_
  clear hK' K'
  refine AW_then fun K1 hK1 => ?_
  refine AW_rg (tyOf_good _) [0, 7, 8] [] (fun _ _ => trivial) fun K' hK' => ?_
  repeat (refine sxf_next fun K2 hK2 => ?_; simp [bs_size]; (repeat (refine ⟨by omega, ?_⟩)); refine hK2 _ ?_; clear hK2 K2)
  refine sxf_nil (hK' _ ?_)
  refine AW.st (by simp [bs_size]; rfl) ?_
  clear hK' K'
  refine AW_for (S := Nat) (fun i => i ≤ l.length ∧ okAll l i = true) (fun i => ⟨lst [(0, .d (dS l)), (7, int l.length), (8, int i)], hlst []⟩) (fun i => l.length - i) 0 ?_ (by simp [okAll]) ?_
  · refine Imp.to' (fun _ _ => trivial) (by simp [dS]) (by simp [dS])
  · rintro i ⟨hi0, hok⟩
    refine AW_rg (tyOf_good _) [0, 7, 8, 9] [] (fun _ _ => trivial) fun K' hK' => ?_
    repeat (refine sxf_next fun K2 hK2 => ?_; simp [dS]; (repeat (refine ⟨by omega, ?_⟩)); refine hK2 _ ?_; clear hK2 K2)
    refine sxf_nil (hK' _ ?_)
    refine AW.st (by simp [dS]; rfl) ?_
    clear hK' K'
    refine AW_then fun K2 hK2 => ?_
    refine AW_cond' (b := i < l.length) (by simp [D.le, D.le.go, takeMap]) (fun hc => ?_) (fun hc => ?_)
    · have hi : i < l.length := hc
      refine AW_skip (hK2 _ ?_)
      refine AW_then fun K3 hK3 => ?_
      refine AW_block ?_
      refine AW_rg (tyOf_good _) [0, 3, 7, 8] [] (fun _ _ => trivial) fun K' hK' => ?_
      repeat (refine sxf_next fun K2 hK2 => ?_; simp; (repeat (refine ⟨by omega, ?_⟩)); refine hK2 _ ?_; clear hK2 K2)
      refine sxf_nil (hK' _ ?_)
      refine AW.st (by simp; rfl) ?_
      clear hK' K'
      refine AW_rg (tyOf_good _) [0, 3, 4, 7, 8] [] (fun _ _ => trivial) fun K' hK' => ?_
      repeat (refine sxf_next fun K2 hK2 => ?_; simp [bs_size, bs_data, hi]; (repeat (refine ⟨by omega, ?_⟩)); refine hK2 _ ?_; clear hK2 K2)
      refine sxf_nil (hK' _ ?_)
      refine AW.st (by simp [bs_size, bs_data, hi]; rfl) ?_
      clear hK' K'
      by_cases ha : (97 : Int) ≤ (l[i].toNat : Int)
      · by_cases hb : (l[i].toNat : Int) ≤ 122
        · refine AW_rg (tyOf_good _) [0, 3, 4, 5, 7, 8] [] (fun _ _ => trivial) fun K' hK' => ?_
          repeat (refine sxf_next fun K2 hK2 => ?_; simp [ha, hb]; (repeat (refine ⟨by omega, ?_⟩)); refine hK2 _ ?_; clear hK2 K2)
          refine sxf_nil (hK' _ ?_)
          refine AW.st (by simp [ha, hb]; rfl) ?_
          clear hK' K'
          refine AW_rg (tyOf_good _) [0, 7, 8, 38] [] (fun _ _ => trivial) fun K' hK' => ?_
          repeat (refine sxf_next fun K2 hK2 => ?_; simp [ha, hb]; (repeat (refine ⟨by omega, ?_⟩)); refine hK2 _ ?_; clear hK2 K2)
          refine sxf_nil (hK' _ ?_)
          refine AW.st (by simp [ha, hb]; rfl) ?_
          clear hK' K'
          refine AW_cond false rfl (fun h => by cases h) (fun _ => ?_)
          refine AW_skip (hK3 _ ?_)
          refine AW_re (tyOf_good _) fun K' hK' => ?_
          repeat (refine sxf_next fun K2 hK2 => ?_; simp; (repeat (refine ⟨by omega, ?_⟩)); refine hK2 _ ?_; clear hK2 K2)
          refine sxf_nil (hK' _ ?_)
          clear hK' K'
          try simp only [thn, inb]
          refine Again.mk (i + 1) ⟨by omega, okAll_succ hok hi (by simp only [okC, lowC, restC, Bool.or_eq_true, Bool.and_eq_true, decide_eq_true_eq]; omega)⟩ (by omega) ?_
          refine Imp.to' (fun _ _ => trivial) (by simp [dS]) (by simp [dS])
        · by_cases hz : (i : Int) = 0
          · have hz' : i = 0 := by omega
            subst hz'
            refine AW_rg (tyOf_good _) [0, 3, 4, 5, 7, 8] [] (fun _ _ => trivial) fun K' hK' => ?_
            repeat (refine sxf_next fun K2 hK2 => ?_; simp [ha, hb]; (repeat (refine ⟨by omega, ?_⟩)); refine hK2 _ ?_; clear hK2 K2)
            refine sxf_nil (hK' _ ?_)
            refine AW.st (by simp [ha, hb]; rfl) ?_
            clear hK' K'
            refine AW_rg (tyOf_good _) [0, 7, 8, 38] [] (fun _ _ => trivial) fun K' hK' => ?_
            repeat (refine sxf_next fun K2 hK2 => ?_; simp [ha, hb]; (repeat (refine ⟨by omega, ?_⟩)); refine hK2 _ ?_; clear hK2 K2)
            refine sxf_nil (hK' _ ?_)
            refine AW.st (by simp [ha, hb]; rfl) ?_
            clear hK' K'
            refine AW_cond true rfl (fun _ => ?_) (fun h => by cases h)
            refine AW_rg (tyOf_good _) [2] [] (fun _ _ => trivial) fun K' hK' => ?_
            repeat (refine sxf_next fun K2 hK2 => ?_; simp; (repeat (refine ⟨by omega, ?_⟩)); refine hK2 _ ?_; clear hK2 K2)
            refine sxf_nil (hK' _ ?_)
            refine AW.st (by simp; rfl) ?_
            clear hK' K'
            refine AW_ret ?_
            simp [D.le, D.le.go, takeMap]
            exact okAll_fail hi (by simp only [okC, lowC, restC, Bool.or_eq_false_iff, Bool.and_eq_false_iff, decide_eq_false_iff_not]; omega)
          · have hz' : ¬ i = 0 := by omega
            by_cases hd : (48 : Int) ≤ (l[i].toNat : Int)
            · by_cases he : (l[i].toNat : Int) ≤ 57
              · refine AW_rg (tyOf_good _) [0, 3, 4, 5, 7, 8] [] (fun _ _ => trivial) fun K' hK' => ?_
                repeat (refine sxf_next fun K2 hK2 => ?_; simp [ha, hb, hz, hz', hd, he]; (repeat (refine ⟨by omega, ?_⟩)); refine hK2 _ ?_; clear hK2 K2)
                refine sxf_nil (hK' _ ?_)
                refine AW.st (by simp [ha, hb, hz, hz', hd, he]; rfl) ?_
                clear hK' K'
                refine AW_rg (tyOf_good _) [0, 7, 8, 38] [] (fun _ _ => trivial) fun K' hK' => ?_
                repeat (refine sxf_next fun K2 hK2 => ?_; simp [ha, hb, hz, hz', hd, he]; (repeat (refine ⟨by omega, ?_⟩)); refine hK2 _ ?_; clear hK2 K2)
                refine sxf_nil (hK' _ ?_)
                refine AW.st (by simp [ha, hb, hz, hz', hd, he]; rfl) ?_
                clear hK' K'
                refine AW_cond false rfl (fun h => by cases h) (fun _ => ?_)
                refine AW_skip (hK3 _ ?_)
                refine AW_re (tyOf_good _) fun K' hK' => ?_
                repeat (refine sxf_next fun K2 hK2 => ?_; simp; (repeat (refine ⟨by omega, ?_⟩)); refine hK2 _ ?_; clear hK2 K2)
                refine sxf_nil (hK' _ ?_)
                clear hK' K'
                try simp only [thn, inb]
                refine Again.mk (i + 1) ⟨by omega, okAll_succ hok hi (by simp only [okC, lowC, restC, Bool.or_eq_true, Bool.and_eq_true, decide_eq_true_eq]; omega)⟩ (by omega) ?_
                refine Imp.to' (fun _ _ => trivial) (by simp [dS]) (by simp [dS])
              · by_cases hu : (l[i].toNat : Int) = 95
                · refine AW_rg (tyOf_good _) [0, 3, 4, 5, 7, 8] [] (fun _ _ => trivial) fun K' hK' => ?_
                  repeat (refine sxf_next fun K2 hK2 => ?_; simp [ha, hb, hz, hz', hd, he, hu]; (repeat (refine ⟨by omega, ?_⟩)); refine hK2 _ ?_; clear hK2 K2)
                  refine sxf_nil (hK' _ ?_)
                  refine AW.st (by simp [ha, hb, hz, hz', hd, he, hu]; rfl) ?_
                  clear hK' K'
                  refine AW_rg (tyOf_good _) [0, 7, 8, 38] [] (fun _ _ => trivial) fun K' hK' => ?_
                  repeat (refine sxf_next fun K2 hK2 => ?_; simp [ha, hb, hz, hz', hd, he, hu]; (repeat (refine ⟨by omega, ?_⟩)); refine hK2 _ ?_; clear hK2 K2)
                  refine sxf_nil (hK' _ ?_)
                  refine AW.st (by simp [ha, hb, hz, hz', hd, he, hu]; rfl) ?_
                  clear hK' K'
                  refine AW_cond false rfl (fun h => by cases h) (fun _ => ?_)
                  refine AW_skip (hK3 _ ?_)
                  refine AW_re (tyOf_good _) fun K' hK' => ?_
                  repeat (refine sxf_next fun K2 hK2 => ?_; simp; (repeat (refine ⟨by omega, ?_⟩)); refine hK2 _ ?_; clear hK2 K2)
                  refine sxf_nil (hK' _ ?_)
                  clear hK' K'
                  try simp only [thn, inb]
                  refine Again.mk (i + 1) ⟨by omega, okAll_succ hok hi (by simp only [okC, lowC, restC, Bool.or_eq_true, Bool.and_eq_true, decide_eq_true_eq]; omega)⟩ (by omega) ?_
                  refine Imp.to' (fun _ _ => trivial) (by simp [dS]) (by simp [dS])
                · refine AW_rg (tyOf_good _) [0, 3, 4, 5, 7, 8] [] (fun _ _ => trivial) fun K' hK' => ?_
                  repeat (refine sxf_next fun K2 hK2 => ?_; simp [ha, hb, hz, hz', hd, he, hu]; (repeat (refine ⟨by omega, ?_⟩)); refine hK2 _ ?_; clear hK2 K2)
                  refine sxf_nil (hK' _ ?_)
                  refine AW.st (by simp [ha, hb, hz, hz', hd, he, hu]; rfl) ?_
                  clear hK' K'
                  refine AW_rg (tyOf_good _) [0, 7, 8, 38] [] (fun _ _ => trivial) fun K' hK' => ?_
                  repeat (refine sxf_next fun K2 hK2 => ?_; simp [ha, hb, hz, hz', hd, he, hu]; (repeat (refine ⟨by omega, ?_⟩)); refine hK2 _ ?_; clear hK2 K2)
                  refine sxf_nil (hK' _ ?_)
                  refine AW.st (by simp [ha, hb, hz, hz', hd, he, hu]; rfl) ?_
                  clear hK' K'
                  refine AW_cond true rfl (fun _ => ?_) (fun h => by cases h)
                  refine AW_rg (tyOf_good _) [2] [] (fun _ _ => trivial) fun K' hK' => ?_
                  repeat (refine sxf_next fun K2 hK2 => ?_; simp; (repeat (refine ⟨by omega, ?_⟩)); refine hK2 _ ?_; clear hK2 K2)
                  refine sxf_nil (hK' _ ?_)
                  refine AW.st (by simp; rfl) ?_
                  clear hK' K'
                  refine AW_ret ?_
                  simp [D.le, D.le.go, takeMap]
                  exact okAll_fail hi (by simp only [okC, lowC, restC, Bool.or_eq_false_iff, Bool.and_eq_false_iff, decide_eq_false_iff_not]; omega)
            · have hu : ¬ (l[i].toNat : Int) = 95 := by omega
              refine AW_rg (tyOf_good _) [0, 3, 4, 5, 7, 8] [] (fun _ _ => trivial) fun K' hK' => ?_
              repeat (refine sxf_next fun K2 hK2 => ?_; simp [ha, hb, hz, hz', hd, hu]; (repeat (refine ⟨by omega, ?_⟩)); refine hK2 _ ?_; clear hK2 K2)
              refine sxf_nil (hK' _ ?_)
              refine AW.st (by simp [ha, hb, hz, hz', hd, hu]; rfl) ?_
              clear hK' K'
              refine AW_rg (tyOf_good _) [0, 7, 8, 38] [] (fun _ _ => trivial) fun K' hK' => ?_
              repeat (refine sxf_next fun K2 hK2 => ?_; simp [ha, hb, hz, hz', hd, hu]; (repeat (refine ⟨by omega, ?_⟩)); refine hK2 _ ?_; clear hK2 K2)
              refine sxf_nil (hK' _ ?_)
              refine AW.st (by simp [ha, hb, hz, hz', hd, hu]; rfl) ?_
              clear hK' K'
              refine AW_cond true rfl (fun _ => ?_) (fun h => by cases h)
              refine AW_rg (tyOf_good _) [2] [] (fun _ _ => trivial) fun K' hK' => ?_
              repeat (refine sxf_next fun K2 hK2 => ?_; simp; (repeat (refine ⟨by omega, ?_⟩)); refine hK2 _ ?_; clear hK2 K2)
              refine sxf_nil (hK' _ ?_)
              refine AW.st (by simp; rfl) ?_
              clear hK' K'
              refine AW_ret ?_
              simp [D.le, D.le.go, takeMap]
              exact okAll_fail hi (by simp only [okC, lowC, restC, Bool.or_eq_false_iff, Bool.and_eq_false_iff, decide_eq_false_iff_not]; omega)
      · by_cases hz : (i : Int) = 0
        · have hz' : i = 0 := by omega
          subst hz'
          refine AW_rg (tyOf_good _) [0, 3, 4, 5, 7, 8] [] (fun _ _ => trivial) fun K' hK' => ?_
          repeat (refine sxf_next fun K2 hK2 => ?_; simp [ha]; (repeat (refine ⟨by omega, ?_⟩)); refine hK2 _ ?_; clear hK2 K2)
          refine sxf_nil (hK' _ ?_)
          refine AW.st (by simp [ha]; rfl) ?_
          clear hK' K'
          refine AW_rg (tyOf_good _) [0, 7, 8, 38] [] (fun _ _ => trivial) fun K' hK' => ?_
          repeat (refine sxf_next fun K2 hK2 => ?_; simp [ha]; (repeat (refine ⟨by omega, ?_⟩)); refine hK2 _ ?_; clear hK2 K2)
          refine sxf_nil (hK' _ ?_)
          refine AW.st (by simp [ha]; rfl) ?_
          clear hK' K'
          refine AW_cond true rfl (fun _ => ?_) (fun h => by cases h)
          refine AW_rg (tyOf_good _) [2] [] (fun _ _ => trivial) fun K' hK' => ?_
          repeat (refine sxf_next fun K2 hK2 => ?_; simp; (repeat (refine ⟨by omega, ?_⟩)); refine hK2 _ ?_; clear hK2 K2)
          refine sxf_nil (hK' _ ?_)
          refine AW.st (by simp; rfl) ?_
          clear hK' K'
          refine AW_ret ?_
          simp [D.le, D.le.go, takeMap]
          exact okAll_fail hi (by simp only [okC, lowC, restC, Bool.or_eq_false_iff, Bool.and_eq_false_iff, decide_eq_false_iff_not]; omega)
        · have hz' : ¬ i = 0 := by omega
          by_cases hd : (48 : Int) ≤ (l[i].toNat : Int)
          · by_cases he : (l[i].toNat : Int) ≤ 57
            · refine AW_rg (tyOf_good _) [0, 3, 4, 5, 7, 8] [] (fun _ _ => trivial) fun K' hK' => ?_
              repeat (refine sxf_next fun K2 hK2 => ?_; simp [ha, hz, hz', hd, he]; (repeat (refine ⟨by omega, ?_⟩)); refine hK2 _ ?_; clear hK2 K2)
              refine sxf_nil (hK' _ ?_)
              refine AW.st (by simp [ha, hz, hz', hd, he]; rfl) ?_
              clear hK' K'
              refine AW_rg (tyOf_good _) [0, 7, 8, 38] [] (fun _ _ => trivial) fun K' hK' => ?_
              repeat (refine sxf_next fun K2 hK2 => ?_; simp [ha, hz, hz', hd, he]; (repeat (refine ⟨by omega, ?_⟩)); refine hK2 _ ?_; clear hK2 K2)
              refine sxf_nil (hK' _ ?_)
              refine AW.st (by simp [ha, hz, hz', hd, he]; rfl) ?_
              clear hK' K'
              refine AW_cond false rfl (fun h => by cases h) (fun _ => ?_)
              refine AW_skip (hK3 _ ?_)
              refine AW_re (tyOf_good _) fun K' hK' => ?_
              repeat (refine sxf_next fun K2 hK2 => ?_; simp; (repeat (refine ⟨by omega, ?_⟩)); refine hK2 _ ?_; clear hK2 K2)
              refine sxf_nil (hK' _ ?_)
              clear hK' K'
              try simp only [thn, inb]
              refine Again.mk (i + 1) ⟨by omega, okAll_succ hok hi (by simp only [okC, lowC, restC, Bool.or_eq_true, Bool.and_eq_true, decide_eq_true_eq]; omega)⟩ (by omega) ?_
              refine Imp.to' (fun _ _ => trivial) (by simp [dS]) (by simp [dS])
            · by_cases hu : (l[i].toNat : Int) = 95
              · refine AW_rg (tyOf_good _) [0, 3, 4, 5, 7, 8] [] (fun _ _ => trivial) fun K' hK' => ?_
                repeat (refine sxf_next fun K2 hK2 => ?_; simp [ha, hz, hz', hd, he, hu]; (repeat (refine ⟨by omega, ?_⟩)); refine hK2 _ ?_; clear hK2 K2)
                refine sxf_nil (hK' _ ?_)
                refine AW.st (by simp [ha, hz, hz', hd, he, hu]; rfl) ?_
                clear hK' K'
                refine AW_rg (tyOf_good _) [0, 7, 8, 38] [] (fun _ _ => trivial) fun K' hK' => ?_
                repeat (refine sxf_next fun K2 hK2 => ?_; simp [ha, hz, hz', hd, he, hu]; (repeat (refine ⟨by omega, ?_⟩)); refine hK2 _ ?_; clear hK2 K2)
                refine sxf_nil (hK' _ ?_)
                refine AW.st (by simp [ha, hz, hz', hd, he, hu]; rfl) ?_
                clear hK' K'
                refine AW_cond false rfl (fun h => by cases h) (fun _ => ?_)
                refine AW_skip (hK3 _ ?_)
                refine AW_re (tyOf_good _) fun K' hK' => ?_
                repeat (refine sxf_next fun K2 hK2 => ?_; simp; (repeat (refine ⟨by omega, ?_⟩)); refine hK2 _ ?_; clear hK2 K2)
                refine sxf_nil (hK' _ ?_)
                clear hK' K'
                try simp only [thn, inb]
                refine Again.mk (i + 1) ⟨by omega, okAll_succ hok hi (by simp only [okC, lowC, restC, Bool.or_eq_true, Bool.and_eq_true, decide_eq_true_eq]; omega)⟩ (by omega) ?_
                refine Imp.to' (fun _ _ => trivial) (by simp [dS]) (by simp [dS])
              · refine AW_rg (tyOf_good _) [0, 3, 4, 5, 7, 8] [] (fun _ _ => trivial) fun K' hK' => ?_
                repeat (refine sxf_next fun K2 hK2 => ?_; simp [ha, hz, hz', hd, he, hu]; (repeat (refine ⟨by omega, ?_⟩)); refine hK2 _ ?_; clear hK2 K2)
                refine sxf_nil (hK' _ ?_)
                refine AW.st (by simp [ha, hz, hz', hd, he, hu]; rfl) ?_
                clear hK' K'
                refine AW_rg (tyOf_good _) [0, 7, 8, 38] [] (fun _ _ => trivial) fun K' hK' => ?_
                repeat (refine sxf_next fun K2 hK2 => ?_; simp [ha, hz, hz', hd, he, hu]; (repeat (refine ⟨by omega, ?_⟩)); refine hK2 _ ?_; clear hK2 K2)
                refine sxf_nil (hK' _ ?_)
                refine AW.st (by simp [ha, hz, hz', hd, he, hu]; rfl) ?_
                clear hK' K'
                refine AW_cond true rfl (fun _ => ?_) (fun h => by cases h)
                refine AW_rg (tyOf_good _) [2] [] (fun _ _ => trivial) fun K' hK' => ?_
                repeat (refine sxf_next fun K2 hK2 => ?_; simp; (repeat (refine ⟨by omega, ?_⟩)); refine hK2 _ ?_; clear hK2 K2)
                refine sxf_nil (hK' _ ?_)
                refine AW.st (by simp; rfl) ?_
                clear hK' K'
                refine AW_ret ?_
                simp [D.le, D.le.go, takeMap]
                exact okAll_fail hi (by simp only [okC, lowC, restC, Bool.or_eq_false_iff, Bool.and_eq_false_iff, decide_eq_false_iff_not]; omega)
          · have hu : ¬ (l[i].toNat : Int) = 95 := by omega
            refine AW_rg (tyOf_good _) [0, 3, 4, 5, 7, 8] [] (fun _ _ => trivial) fun K' hK' => ?_
            repeat (refine sxf_next fun K2 hK2 => ?_; simp [ha, hz, hz', hd, hu]; (repeat (refine ⟨by omega, ?_⟩)); refine hK2 _ ?_; clear hK2 K2)
            refine sxf_nil (hK' _ ?_)
            refine AW.st (by simp [ha, hz, hz', hd, hu]; rfl) ?_
            clear hK' K'
            refine AW_rg (tyOf_good _) [0, 7, 8, 38] [] (fun _ _ => trivial) fun K' hK' => ?_
            repeat (refine sxf_next fun K2 hK2 => ?_; simp [ha, hz, hz', hd, hu]; (repeat (refine ⟨by omega, ?_⟩)); refine hK2 _ ?_; clear hK2 K2)
            refine sxf_nil (hK' _ ?_)
            refine AW.st (by simp [ha, hz, hz', hd, hu]; rfl) ?_
            clear hK' K'
            refine AW_cond true rfl (fun _ => ?_) (fun h => by cases h)
            refine AW_rg (tyOf_good _) [2] [] (fun _ _ => trivial) fun K' hK' => ?_
            repeat (refine sxf_next fun K2 hK2 => ?_; simp; (repeat (refine ⟨by omega, ?_⟩)); refine hK2 _ ?_; clear hK2 K2)
            refine sxf_nil (hK' _ ?_)
            refine AW.st (by simp; rfl) ?_
            clear hK' K'
            refine AW_ret ?_
            simp [D.le, D.le.go, takeMap]
            exact okAll_fail hi (by simp only [okC, lowC, restC, Bool.or_eq_false_iff, Bool.and_eq_false_iff, decide_eq_false_iff_not]; omega)
    · have hil : i = l.length := by omega
      subst hil
      refine AW_exit (hK1 _ ?_)
      refine AW_then fun K4 hK4 => ?_
      refine AW_rg (tyOf_good _) [0, 40] [] (fun _ _ => trivial) fun K' hK' => ?_
      repeat (refine sxf_next fun K2 hK2 => ?_; simp; (repeat (refine ⟨by omega, ?_⟩)); refine hK2 _ ?_; clear hK2 K2)
      refine sxf_nil (hK' _ ?_)
      refine AW.st (by simp; rfl) ?_
      clear hK' K'
      refine AW_block ?_
      refine AW_then fun K5 hK5 => ?_
      by_cases hw0 : l = []
      · refine AW_rg (tyOf_good _) [0, 40, 41] [] (fun _ _ => trivial) fun K' hK' => ?_
        repeat (refine sxf_next fun K2 hK2 => ?_; simp [bs_nil, bs_list, binS, dS, toW, hw0]; (repeat (refine ⟨by omega, ?_⟩)); refine hK2 _ ?_; clear hK2 K2)
        refine sxf_nil (hK' _ ?_)
        refine AW.st (by simp [bs_nil, bs_list, binS, dS, toW, hw0]; rfl) ?_
        clear hK' K'
        refine AW_cond true rfl (fun _ => ?_) (fun h => by cases h)
        refine AW_skip (hK5 _ ?_)
        refine AW_cond true rfl (fun _ => ?_) (fun h => by cases h)
        refine AW_rg (tyOf_good _) [2] [] (fun _ _ => trivial) fun K' hK' => ?_
        repeat (refine sxf_next fun K2 hK2 => ?_; simp; (repeat (refine ⟨by omega, ?_⟩)); refine hK2 _ ?_; clear hK2 K2)
        refine sxf_nil (hK' _ ?_)
        refine AW.st (by simp; rfl) ?_
        clear hK' K'
        refine AW_ret ?_
        simp [D.le, D.le.go, takeMap]
        exact word_fail (by simp [hw0, wordsL])
      have hx0 : l.isEmpty = false := by simpa using hw0
      refine AW_rg (tyOf_good _) [0, 40, 41] [] (fun _ _ => trivial) fun K' hK' => ?_
      repeat (refine sxf_next fun K2 hK2 => ?_; simp [bs_nil, bs_list, binS, dS, toW, hw0, hx0]; (repeat (refine ⟨by omega, ?_⟩)); refine hK2 _ ?_; clear hK2 K2)
      refine sxf_nil (hK' _ ?_)
      refine AW.st (by simp [bs_nil, bs_list, binS, dS, toW, hw0, hx0]; rfl) ?_
      clear hK' K'
      refine AW_cond false rfl (fun h => by cases h) (fun _ => ?_)
      by_cases hw1 : l = [105, 110, 112, 117, 116]
      · refine AW_rg (tyOf_good _) [0, 40, 41] [] (fun _ _ => trivial) fun K' hK' => ?_
        repeat (refine sxf_next fun K2 hK2 => ?_; simp [bs_nil, bs_list, binS, dS, toW, hw1]; (repeat (refine ⟨by omega, ?_⟩)); refine hK2 _ ?_; clear hK2 K2)
        refine sxf_nil (hK' _ ?_)
        refine AW.st (by simp [bs_nil, bs_list, binS, dS, toW, hw1]; rfl) ?_
        clear hK' K'
        refine AW_cond true rfl (fun _ => ?_) (fun h => by cases h)
        refine AW_skip (hK5 _ ?_)
        refine AW_cond true rfl (fun _ => ?_) (fun h => by cases h)
        refine AW_rg (tyOf_good _) [2] [] (fun _ _ => trivial) fun K' hK' => ?_
        repeat (refine sxf_next fun K2 hK2 => ?_; simp; (repeat (refine ⟨by omega, ?_⟩)); refine hK2 _ ?_; clear hK2 K2)
        refine sxf_nil (hK' _ ?_)
        refine AW.st (by simp; rfl) ?_
        clear hK' K'
        refine AW_ret ?_
        simp [D.le, D.le.go, takeMap]
        exact word_fail (by simp [hw1, wordsL])
      have hx1 : (l == [105, 110, 112, 117, 116]) = false := by simpa using hw1
      refine AW_rg (tyOf_good _) [0, 40, 41] [] (fun _ _ => trivial) fun K' hK' => ?_
      repeat (refine sxf_next fun K2 hK2 => ?_; simp [bs_nil, bs_list, binS, dS, toW, hw1, hx1]; (repeat (refine ⟨by omega, ?_⟩)); refine hK2 _ ?_; clear hK2 K2)
      refine sxf_nil (hK' _ ?_)
      refine AW.st (by simp [bs_nil, bs_list, binS, dS, toW, hw1, hx1]; rfl) ?_
      clear hK' K'
      refine AW_cond false rfl (fun h => by cases h) (fun _ => ?_)
      by_cases hw2 : l = [99, 111, 105, 108]
      · refine AW_rg (tyOf_good _) [0, 40, 41] [] (fun _ _ => trivial) fun K' hK' => ?_
        repeat (refine sxf_next fun K2 hK2 => ?_; simp [bs_nil, bs_list, binS, dS, toW, hw2]; (repeat (refine ⟨by omega, ?_⟩)); refine hK2 _ ?_; clear hK2 K2)
        refine sxf_nil (hK' _ ?_)
        refine AW.st (by simp [bs_nil, bs_list, binS, dS, toW, hw2]; rfl) ?_
        clear hK' K'
        refine AW_cond true rfl (fun _ => ?_) (fun h => by cases h)
        refine AW_skip (hK5 _ ?_)
        refine AW_cond true rfl (fun _ => ?_) (fun h => by cases h)
        refine AW_rg (tyOf_good _) [2] [] (fun _ _ => trivial) fun K' hK' => ?_
        repeat (refine sxf_next fun K2 hK2 => ?_; simp; (repeat (refine ⟨by omega, ?_⟩)); refine hK2 _ ?_; clear hK2 K2)
        refine sxf_nil (hK' _ ?_)
        refine AW.st (by simp; rfl) ?_
        clear hK' K'
        refine AW_ret ?_
        simp [D.le, D.le.go, takeMap]
        exact word_fail (by simp [hw2, wordsL])
      have hx2 : (l == [99, 111, 105, 108]) = false := by simpa using hw2
      refine AW_rg (tyOf_good _) [0, 40, 41] [] (fun _ _ => trivial) fun K' hK' => ?_
      repeat (refine sxf_next fun K2 hK2 => ?_; simp [bs_nil, bs_list, binS, dS, toW, hw2, hx2]; (repeat (refine ⟨by omega, ?_⟩)); refine hK2 _ ?_; clear hK2 K2)
      refine sxf_nil (hK' _ ?_)
      refine AW.st (by simp [bs_nil, bs_list, binS, dS, toW, hw2, hx2]; rfl) ?_
      clear hK' K'
      refine AW_cond false rfl (fun h => by cases h) (fun _ => ?_)
      by_cases hw3 : l = [116, 105, 109, 101, 114]
      · refine AW_rg (tyOf_good _) [0, 40, 41] [] (fun _ _ => trivial) fun K' hK' => ?_
        repeat (refine sxf_next fun K2 hK2 => ?_; simp [bs_nil, bs_list, binS, dS, toW, hw3]; (repeat (refine ⟨by omega, ?_⟩)); refine hK2 _ ?_; clear hK2 K2)
        refine sxf_nil (hK' _ ?_)
        refine AW.st (by simp [bs_nil, bs_list, binS, dS, toW, hw3]; rfl) ?_
        clear hK' K'
        refine AW_cond true rfl (fun _ => ?_) (fun h => by cases h)
        refine AW_skip (hK5 _ ?_)
        refine AW_cond true rfl (fun _ => ?_) (fun h => by cases h)
        refine AW_rg (tyOf_good _) [2] [] (fun _ _ => trivial) fun K' hK' => ?_
        repeat (refine sxf_next fun K2 hK2 => ?_; simp; (repeat (refine ⟨by omega, ?_⟩)); refine hK2 _ ?_; clear hK2 K2)
        refine sxf_nil (hK' _ ?_)
        refine AW.st (by simp; rfl) ?_
        clear hK' K'
        refine AW_ret ?_
        simp [D.le, D.le.go, takeMap]
        exact word_fail (by simp [hw3, wordsL])
      have hx3 : (l == [116, 105, 109, 101, 114]) = false := by simpa using hw3
      refine AW_rg (tyOf_good _) [0, 40, 41] [] (fun _ _ => trivial) fun K' hK' => ?_
      repeat (refine sxf_next fun K2 hK2 => ?_; simp [bs_nil, bs_list, binS, dS, toW, hw3, hx3]; (repeat (refine ⟨by omega, ?_⟩)); refine hK2 _ ?_; clear hK2 K2)
      refine sxf_nil (hK' _ ?_)
      refine AW.st (by simp [bs_nil, bs_list, binS, dS, toW, hw3, hx3]; rfl) ?_
      clear hK' K'
      refine AW_cond false rfl (fun h => by cases h) (fun _ => ?_)
      by_cases hw4 : l = [99, 111, 117, 110, 116, 101, 114]
      · refine AW_rg (tyOf_good _) [0, 40, 41] [] (fun _ _ => trivial) fun K' hK' => ?_
        repeat (refine sxf_next fun K2 hK2 => ?_; simp [bs_nil, bs_list, binS, dS, toW, hw4]; (repeat (refine ⟨by omega, ?_⟩)); refine hK2 _ ?_; clear hK2 K2)
        refine sxf_nil (hK' _ ?_)
        refine AW.st (by simp [bs_nil, bs_list, binS, dS, toW, hw4]; rfl) ?_
        clear hK' K'
        refine AW_cond true rfl (fun _ => ?_) (fun h => by cases h)
        refine AW_skip (hK5 _ ?_)
        refine AW_cond true rfl (fun _ => ?_) (fun h => by cases h)
        refine AW_rg (tyOf_good _) [2] [] (fun _ _ => trivial) fun K' hK' => ?_
        repeat (refine sxf_next fun K2 hK2 => ?_; simp; (repeat (refine ⟨by omega, ?_⟩)); refine hK2 _ ?_; clear hK2 K2)
        refine sxf_nil (hK' _ ?_)
        refine AW.st (by simp; rfl) ?_
        clear hK' K'
        refine AW_ret ?_
        simp [D.le, D.le.go, takeMap]
        exact word_fail (by simp [hw4, wordsL])
      have hx4 : (l == [99, 111, 117, 110, 116, 101, 114]) = false := by simpa using hw4
      refine AW_rg (tyOf_good _) [0, 40, 41] [] (fun _ _ => trivial) fun K' hK' => ?_
      repeat (refine sxf_next fun K2 hK2 => ?_; simp [bs_nil, bs_list, binS, dS, toW, hw4, hx4]; (repeat (refine ⟨by omega, ?_⟩)); refine hK2 _ ?_; clear hK2 K2)
      refine sxf_nil (hK' _ ?_)
      refine AW.st (by simp [bs_nil, bs_list, binS, dS, toW, hw4, hx4]; rfl) ?_
      clear hK' K'
      refine AW_cond false rfl (fun h => by cases h) (fun _ => ?_)
      by_cases hw5 : l = [115, 101, 116]
      · refine AW_rg (tyOf_good _) [0, 40, 41] [] (fun _ _ => trivial) fun K' hK' => ?_
        repeat (refine sxf_next fun K2 hK2 => ?_; simp [bs_nil, bs_list, binS, dS, toW, hw5]; (repeat (refine ⟨by omega, ?_⟩)); refine hK2 _ ?_; clear hK2 K2)
        refine sxf_nil (hK' _ ?_)
        refine AW.st (by simp [bs_nil, bs_list, binS, dS, toW, hw5]; rfl) ?_
        clear hK' K'
        refine AW_cond true rfl (fun _ => ?_) (fun h => by cases h)
        refine AW_skip (hK5 _ ?_)
        refine AW_cond true rfl (fun _ => ?_) (fun h => by cases h)
        refine AW_rg (tyOf_good _) [2] [] (fun _ _ => trivial) fun K' hK' => ?_
        repeat (refine sxf_next fun K2 hK2 => ?_; simp; (repeat (refine ⟨by omega, ?_⟩)); refine hK2 _ ?_; clear hK2 K2)
        refine sxf_nil (hK' _ ?_)
        refine AW.st (by simp; rfl) ?_
        clear hK' K'
        refine AW_ret ?_
        simp [D.le, D.le.go, takeMap]
        exact word_fail (by simp [hw5, wordsL])
      have hx5 : (l == [115, 101, 116]) = false := by simpa using hw5
      refine AW_rg (tyOf_good _) [0, 40, 41] [] (fun _ _ => trivial) fun K' hK' => ?_
      repeat (refine sxf_next fun K2 hK2 => ?_; simp [bs_nil, bs_list, binS, dS, toW, hw5, hx5]; (repeat (refine ⟨by omega, ?_⟩)); refine hK2 _ ?_; clear hK2 K2)
      refine sxf_nil (hK' _ ?_)
      refine AW.st (by simp [bs_nil, bs_list, binS, dS, toW, hw5, hx5]; rfl) ?_
      clear hK' K'
      refine AW_cond false rfl (fun h => by cases h) (fun _ => ?_)
      by_cases hw6 : l = [114, 101, 115, 101, 116]
      · refine AW_rg (tyOf_good _) [0, 40, 41] [] (fun _ _ => trivial) fun K' hK' => ?_
        repeat (refine sxf_next fun K2 hK2 => ?_; simp [bs_nil, bs_list, binS, dS, toW, hw6]; (repeat (refine ⟨by omega, ?_⟩)); refine hK2 _ ?_; clear hK2 K2)
        refine sxf_nil (hK' _ ?_)
        refine AW.st (by simp [bs_nil, bs_list, binS, dS, toW, hw6]; rfl) ?_
        clear hK' K'
        refine AW_cond true rfl (fun _ => ?_) (fun h => by cases h)
        refine AW_skip (hK5 _ ?_)
        refine AW_cond true rfl (fun _ => ?_) (fun h => by cases h)
        refine AW_rg (tyOf_good _) [2] [] (fun _ _ => trivial) fun K' hK' => ?_
        repeat (refine sxf_next fun K2 hK2 => ?_; simp; (repeat (refine ⟨by omega, ?_⟩)); refine hK2 _ ?_; clear hK2 K2)
        refine sxf_nil (hK' _ ?_)
        refine AW.st (by simp; rfl) ?_
        clear hK' K'
        refine AW_ret ?_
        simp [D.le, D.le.go, takeMap]
        exact word_fail (by simp [hw6, wordsL])
      have hx6 : (l == [114, 101, 115, 101, 116]) = false := by simpa using hw6
      refine AW_rg (tyOf_good _) [0, 40, 41] [] (fun _ _ => trivial) fun K' hK' => ?_
      repeat (refine sxf_next fun K2 hK2 => ?_; simp [bs_nil, bs_list, binS, dS, toW, hw6, hx6]; (repeat (refine ⟨by omega, ?_⟩)); refine hK2 _ ?_; clear hK2 K2)
      refine sxf_nil (hK' _ ?_)
      refine AW.st (by simp [bs_nil, bs_list, binS, dS, toW, hw6, hx6]; rfl) ?_
      clear hK' K'
      refine AW_cond false rfl (fun h => by cases h) (fun _ => ?_)
      by_cases hw7 : l = [114, 117, 110]
      · refine AW_rg (tyOf_good _) [0, 40, 41] [] (fun _ _ => trivial) fun K' hK' => ?_
        repeat (refine sxf_next fun K2 hK2 => ?_; simp [bs_nil, bs_list, binS, dS, toW, hw7]; (repeat (refine ⟨by omega, ?_⟩)); refine hK2 _ ?_; clear hK2 K2)
        refine sxf_nil (hK' _ ?_)
        refine AW.st (by simp [bs_nil, bs_list, binS, dS, toW, hw7]; rfl) ?_
        clear hK' K'
        refine AW_cond true rfl (fun _ => ?_) (fun h => by cases h)
        refine AW_skip (hK5 _ ?_)
        refine AW_cond true rfl (fun _ => ?_) (fun h => by cases h)
        refine AW_rg (tyOf_good _) [2] [] (fun _ _ => trivial) fun K' hK' => ?_
        repeat (refine sxf_next fun K2 hK2 => ?_; simp; (repeat (refine ⟨by omega, ?_⟩)); refine hK2 _ ?_; clear hK2 K2)
        refine sxf_nil (hK' _ ?_)
        refine AW.st (by simp; rfl) ?_
        clear hK' K'
        refine AW_ret ?_
        simp [D.le, D.le.go, takeMap]
        exact word_fail (by simp [hw7, wordsL])
      have hx7 : (l == [114, 117, 110]) = false := by simpa using hw7
      refine AW_rg (tyOf_good _) [0, 40, 41] [] (fun _ _ => trivial) fun K' hK' => ?_
      repeat (refine sxf_next fun K2 hK2 => ?_; simp [bs_nil, bs_list, binS, dS, toW, hw7, hx7]; (repeat (refine ⟨by omega, ?_⟩)); refine hK2 _ ?_; clear hK2 K2)
      refine sxf_nil (hK' _ ?_)
      refine AW.st (by simp [bs_nil, bs_list, binS, dS, toW, hw7, hx7]; rfl) ?_
      clear hK' K'
      refine AW_cond false rfl (fun h => by cases h) (fun _ => ?_)
      by_cases hw8 : l = [99, 111, 117, 110, 116]
      · refine AW_rg (tyOf_good _) [0, 40, 41] [] (fun _ _ => trivial) fun K' hK' => ?_
        repeat (refine sxf_next fun K2 hK2 => ?_; simp [bs_nil, bs_list, binS, dS, toW, hw8]; (repeat (refine ⟨by omega, ?_⟩)); refine hK2 _ ?_; clear hK2 K2)
        refine sxf_nil (hK' _ ?_)
        refine AW.st (by simp [bs_nil, bs_list, binS, dS, toW, hw8]; rfl) ?_
        clear hK' K'
        refine AW_cond true rfl (fun _ => ?_) (fun h => by cases h)
        refine AW_skip (hK5 _ ?_)
        refine AW_cond true rfl (fun _ => ?_) (fun h => by cases h)
        refine AW_rg (tyOf_good _) [2] [] (fun _ _ => trivial) fun K' hK' => ?_
        repeat (refine sxf_next fun K2 hK2 => ?_; simp; (repeat (refine ⟨by omega, ?_⟩)); refine hK2 _ ?_; clear hK2 K2)
        refine sxf_nil (hK' _ ?_)
        refine AW.st (by simp; rfl) ?_
        clear hK' K'
        refine AW_ret ?_
        simp [D.le, D.le.go, takeMap]
        exact word_fail (by simp [hw8, wordsL])
      have hx8 : (l == [99, 111, 117, 110, 116]) = false := by simpa using hw8
      refine AW_rg (tyOf_good _) [0, 40, 41] [] (fun _ _ => trivial) fun K' hK' => ?_
      repeat (refine sxf_next fun K2 hK2 => ?_; simp [bs_nil, bs_list, binS, dS, toW, hw8, hx8]; (repeat (refine ⟨by omega, ?_⟩)); refine hK2 _ ?_; clear hK2 K2)
      refine sxf_nil (hK' _ ?_)
      refine AW.st (by simp [bs_nil, bs_list, binS, dS, toW, hw8, hx8]; rfl) ?_
      clear hK' K'
      refine AW_cond false rfl (fun h => by cases h) (fun _ => ?_)
      by_cases hw9 : l = [122, 101, 114, 111]
      · refine AW_re (tyOf_good _) fun K' hK' => ?_
        repeat (refine sxf_next fun K2 hK2 => ?_; simp [bs_nil, bs_list, binS, dS, toW, hw9]; (repeat (refine ⟨by omega, ?_⟩)); refine hK2 _ ?_; clear hK2 K2)
        refine sxf_nil (hK' _ ?_)
        clear hK' K'
        refine hK5 _ (AW.norm [0, 41] [] (fun _ _ => trivial) (AW.st (by simp [bs_nil, bs_list, binS, dS, toW, hw9]; rfl) ?_))
        refine AW_cond true rfl (fun _ => ?_) (fun h => by cases h)
        refine AW_rg (tyOf_good _) [2] [] (fun _ _ => trivial) fun K' hK' => ?_
        repeat (refine sxf_next fun K2 hK2 => ?_; simp; (repeat (refine ⟨by omega, ?_⟩)); refine hK2 _ ?_; clear hK2 K2)
        refine sxf_nil (hK' _ ?_)
        refine AW.st (by simp; rfl) ?_
        clear hK' K'
        refine AW_ret ?_
        simp [D.le, D.le.go, takeMap]
        exact word_fail (by simp [hw9, wordsL])
      have hx9 : (l == [122, 101, 114, 111]) = false := by simpa using hw9
      refine AW_re (tyOf_good _) fun K' hK' => ?_
      repeat (refine sxf_next fun K2 hK2 => ?_; simp [bs_nil, bs_list, binS, dS, toW, hw9, hx9]; (repeat (refine ⟨by omega, ?_⟩)); refine hK2 _ ?_; clear hK2 K2)
      refine sxf_nil (hK' _ ?_)
      clear hK' K'
      refine hK5 _ (AW.norm [0, 41] [] (fun _ _ => trivial) (AW.st (by simp [bs_nil, bs_list, binS, dS, toW, hw9, hx9]; rfl) ?_))
      refine AW_cond false rfl (fun h => by cases h) (fun _ => ?_)
      refine AW_skip (hK4 _ ?_)
      refine AW_rg (tyOf_good _) [2] [] (fun _ _ => trivial) fun K' hK' => ?_
      repeat (refine sxf_next fun K2 hK2 => ?_; simp [dS, bs_size]; (repeat (refine ⟨by omega, ?_⟩)); refine hK2 _ ?_; clear hK2 K2)
      refine sxf_nil (hK' _ ?_)
      refine AW.st (by simp [dS, bs_size]; rfl) ?_
      clear hK' K'
      refine AW_ret ?_
      simp [D.le, D.le.go, takeMap]
      exact word_pass hok (by simp [wordsL, hw0, hw1, hw2, hw3, hw4, hw5, hw6, hw7, hw8, hw9])

end Go.Proofs.YtfehigldhedkgaaDoor

/-
  Formulas whose kinds, names or parts may not be: the statement's walk.
-/
namespace Go.Proofs.YtfehigldhedkgaaDoor
set_option linter.unusedSimpArgs false
set_option linter.unusedVariables false
open Go.Av

def tr : Fm := .mk 2 [] []
end Go.Proofs.YtfehigldhedkgaaDoor

/-
  Formulas made of steps: plain.At, plain.Formula.
-/
namespace Go.Proofs.YtfehigldhedkgaaDoor
set_option linter.unusedSimpArgs false
set_option linter.unusedVariables false
open Go.Av

/-- A place in a list of so many. -/
def atF (n : Int) (many : Nat) : Nat := ((n % 18446744073709551616) % many).toNat
structure Stp where
  kind : Int
  a : Int
  b : Int
  name : List UInt8
/-- What a step makes of those ahead. -/
def stepF (all : List Fm) (x : Stp) : Fm :=
  if x.kind = 2 then .mk 2 [] []
  else if x.kind = 3 ∨ x.kind = 6 ∨ x.kind = 9 ∨ x.kind = 10 then .mk x.kind [] [all.getD (atF x.a all.length) .nil]
  else if x.kind = 4 ∨ x.kind = 5 ∨ x.kind = 7 ∨ x.kind = 8 then .mk x.kind [] [all.getD (atF x.a all.length) .nil, all.getD (atF x.b all.length) .nil]
  else .mk 1 x.name []
/-- It is one. -/
def IsMk (f : Fm) : Prop := ∃ k s l, f = .mk k s l
theorem IsMk.ip {f : Fm} (h : IsMk f) : ∃ c, dF f = .ip c := by
  obtain ⟨k, s, l, rfl⟩ := h
  exact ⟨_, rfl⟩
end Go.Proofs.YtfehigldhedkgaaDoor

/-
  At which times of a word a formula holds: lasso.holds.
-/
namespace Go.Proofs.YtfehigldhedkgaaDoor
set_option linter.unusedSimpArgs false
set_option linter.unusedVariables false
open Go.Av

abbrev Times := List (List (List UInt8))
end Go.Proofs.YtfehigldhedkgaaDoor

/-
  DERIVED: THE SHELF's CONTRACTS AT THIS DUMP, IN PLAIN WORDS (tools/lay-plain.mjs out of 'YtfehigldhedkgaaDoorSh1s.lean', which tools/lay-shelf.mjs wrote): THE SAME DECLARATIONS UNDER THE SAME NAMES: 'import', 'namespace', 'open', 'def', 'theorem' AND NOTHING ELSE: no command of the shelf's: FOR A HAND-IN. Each laying: the table of numbers ('.._ren') and one theorem, a field a fact of the dump's own or the kernel's comparison; each contract: ONE APPLICATION.
-/
namespace Go.Proofs
open Go.Shelf
def Tryd.lays156_ren : Go.Shelf.Ren := ⟨fun | 156 => 60 | 165 => 82 | 166 => 43 | 169 => 46 | 240 => 73 | 241 => 97 | 276 => 91 | 277 => 110 | n => n, fun | 31 => 49 | 9 => 9 | 3 => 3 | 4 => 4 | 0 => 0 | 20 => 20 | 72 => 90 | 76 => 91 | 70 => 87 | 37 => 88 | 75 => 36 | 127 => 138 | 164 => 152 | 5 => 5 | 80 => 66 | n => n, fun | n => n⟩
theorem Tryd.lays156 : Go.Proofs.Lays.n156 Tryd.prog Tryd.lays156_ren := {
  mixed := by kernel_rfl
  f156 := Tryd.func60.trans (congrArg some (by kernel_rfl))
  f165 := Tryd.func82.trans (congrArg some (by kernel_rfl))
  f166 := Tryd.func43.trans (congrArg some (by kernel_rfl))
  f169 := Tryd.func46.trans (congrArg some (by kernel_rfl))
  f240 := Tryd.func73.trans (congrArg some (by kernel_rfl))
  f241 := Tryd.func97.trans (congrArg some (by kernel_rfl))
  f276 := Tryd.func91.trans (congrArg some (by kernel_rfl))
  f277 := Tryd.func110.trans (congrArg some (by kernel_rfl))
  t0 := Tryd.underlying0
  a0 := Tryd.isAgg0
  z0 := Tryd.sizeOf0
  v0 := Tryd.zeroValue0
  t3 := Tryd.underlying3
  a3 := Tryd.isAgg3
  z3 := Tryd.sizeOf3
  v3 := Tryd.zeroValue3
  t4 := Tryd.underlying4
  a4 := Tryd.isAgg4
  z4 := Tryd.sizeOf4
  v4 := Tryd.zeroValue4
  t9 := Tryd.underlying9
  a9 := Tryd.isAgg9
  z9 := Tryd.sizeOf9
  v9 := Tryd.zeroValue9
  t20 := Tryd.underlying20
  a20 := Tryd.isAgg20
  z20 := Tryd.sizeOf20
  v20 := Tryd.zeroValue20
  t31 := Tryd.underlying49
  a31 := Tryd.isAgg49
  z31 := Tryd.sizeOf49
  v31 := Tryd.zeroValue49
  t37 := Tryd.underlying88
  a37 := Tryd.isAgg88
  z37 := Tryd.sizeOf88
  v37 := Tryd.zeroValue88
  t70 := Tryd.underlying87
  a70 := Tryd.isAgg87
  z70 := Tryd.sizeOf87
  v70 := Tryd.zeroValue87
  t72 := Tryd.underlying90
  a72 := Tryd.isAgg90
  z72 := Tryd.sizeOf90
  v72 := Tryd.zeroValue90
  t75 := Tryd.underlying36
  a75 := Tryd.isAgg36
  z75 := Tryd.sizeOf36
  v75 := Tryd.zeroValue36
  t76 := Tryd.underlying91
  a76 := Tryd.isAgg91
  z76 := Tryd.sizeOf91
  v76 := Tryd.zeroValue91
  t127 := Tryd.underlying138
  a127 := Tryd.isAgg138
  z127 := Tryd.sizeOf138
  v127 := Tryd.zeroValue138
  t164 := Tryd.underlying152
  a164 := Tryd.isAgg152
  z164 := Tryd.sizeOf152
  v164 := Tryd.zeroValue152 }
theorem Tryd.Builder_Extra_156 : Builder.Extra Tryd.prog Tryd.lays156_ren := {
  sizeBuilder := by kernel_rfl
  liesBuilder := by kernel_rfl
  t5 := Tryd.underlying5
  a5 := Tryd.isAgg5
  z5 := Tryd.sizeOf5
  v5 := Tryd.zeroValue5
  infoByte := by kernel_rfl
  cellsByte := by kernel_rfl
  sizeByte := by kernel_rfl
  neB5 := by decide }
end Go.Proofs

/-
  Formulas as texts: strings.Join, lasso.text, lasso.Text.
-/
namespace Go.Proofs.YtfehigldhedkgaaDoor
set_option linter.unusedSimpArgs false
set_option linter.unusedVariables false
open Go.Av
open Go.RowKit Go.Shelf Go.Lib

theorem bs_lit (l : List UInt8) : (⟨l.toArray⟩ : ByteArray) = bs l := rfl
theorem bs_append (a b : List UInt8) : bs a ++ bs b = bs (a ++ b) := ByteArray.ext (by simp [bs, ByteArray.data_append])
theorem binS_bs (a b : List UInt8) (h : a.length + b.length ≤ 9223372036854775807) : binS .add (bs a) (bs b) = some (True, .string (bs (a ++ b))) := by
  rw [binS, bs_append, bs_size, bs_size, eq_true h]

theorem join_spec (G : Glob) (l : List (List UInt8)) (sep : List UInt8) (hl : (Lib.join l sep).length ≤ 2^46) (hn : l.length ≤ 2^46) : PureC Tryd.prog G 60 [.sl none (l.map fun s => [dS s]), dS sep] (dS (Lib.join l sep)) := by
  refine PureC.of_calls (Fun.of Tryd.func60 rfl rfl) fun X w vs hsz hrd hgl => ?_
  obtain ⟨a, b, rfl⟩ : ∃ a b, vs = #[a, b] := by
    match vs, hsz with
    | ⟨[a, b]⟩, _ => exact ⟨a, b, rfl⟩
  have hb := (hrd 1 b _ rfl rfl).scalar
  subst hb
  have ha := hrd 0 a _ rfl rfl
  have none : ∀ (ad : Option Addr) (cap : Nat), l = [] → Calls Tryd.prog 60 #[.slice ad 0 cap, .string (bs sep)] w fun e w' => ∃ v, e = .returned v ∧ Grew w w' ∧ RD w' X v (dS (Lib.join l sep)) := fun ad cap h => by
    subst h
    have hcon := Any.strings_Join_none Tryd.lays156 Tryd.Builder_Extra_156 ad cap (bs sep) w
    exact hcon.mono fun e w' ⟨he, hw⟩ => ⟨_, he, hw ▸ Grew.refl w, .v _⟩
  rcases ha.sl_inv with ⟨rfl, hz, _⟩ | ⟨ad, cap, rfl, _, hc, hm, hr⟩
  · exact none _ _ (List.map_eq_nil_iff.1 hz)
  · rcases hr with hz | ⟨b0, off, sz, f, rfl, hX, hz, hs, hcell, hrr⟩
    · have h0 : l = [] := List.map_eq_nil_iff.1 hz
      have := none (some ad) cap h0
      rw [show (l.map fun s => [dS s]).length = 0 by rw [h0]; rfl]
      exact this
    · by_cases h0 : l = []
      · rw [show (l.map fun s => [dS s]).length = 0 by rw [h0]; rfl]
        exact none _ _ h0
      · have hpos : 0 < l.length := List.length_pos_iff.2 h0
        have hs1 : sz = 1 := (hs [dS l[0]] (List.mem_map.2 ⟨_, List.getElem_mem hpos, rfl⟩)).symm
        subst hs1
        simp only [List.length_map] at hcell hc ⊢
        have hc0 : ∀ (j : Nat) x, (l.map bs)[j]? = some x → w.cell? ⟨b0, off + j, .none⟩ = some (.string x) := fun j x hx => by
          rw [List.getElem?_map] at hx
          obtain ⟨s, hs', rfl⟩ := Option.map_eq_some_iff.1 hx
          have hj := (List.getElem?_eq_some_iff.1 hs').1
          have h1 := hcell j 0 hj (by decide)
          have h2 := (hrr j 0 [dS s] (dS s) (by rw [List.getElem?_map, hs']; rfl) rfl).scalar
          rw [Nat.mul_one, Nat.add_zero] at h1
          rw [h1, h2]
        have hbk : b0 < w.heap.size := cell_lt (hc0 0 (bs l[0]) (by simp [hpos]))
        have hml : (l.map bs).map (fun x => x.data.toList) = l := by
          rw [List.map_map]
          exact (List.map_congr_left fun s _ => rfl).trans (List.map_id _)
        have hlen : (Lib.join ((l.map bs).map (·.data.toList)) (bs sep).data.toList).length ≤ 140737488355328 := by
          rw [hml]
          show (Lib.join l sep).length ≤ _
          omega
        have hcon := Any.strings_Join Tryd.lays156 Tryd.Builder_Extra_156 b0 off cap (l.map bs) (bs sep) w hc0 hbk (by simp; omega) (by simpa using hc) hlen
        rw [hml, List.length_map] at hcon
        exact hcon.mono fun e w' ⟨he, hB⟩ => ⟨_, he, below_grew hB, .v _⟩
end Go.Proofs.YtfehigldhedkgaaDoor

/-
  Expressions, and how texts are read as such: plain.
-/
namespace Go.Proofs.YtfehigldhedkgaaDoor
set_option linter.unusedSimpArgs false
set_option linter.unusedVariables false

inductive Ex where
  | cst (b : Bool)
  | bit (s : List UInt8)
  | rise (s : List UInt8)
  | fall (s : List UInt8)
  | not (e : Ex)
  | and (l : List Ex)
  | or (l : List Ex)

/-- What is read: it, and where one is; or what is wrong, where, and what comes with it. -/
inductive Rs (α : Type) where
  | ok (x : α) (i : Nat)
  | err (c : Int) (p q : Nat)

def skipB (t : List UInt8) (i : Nat) : Nat := i + ((t.drop i).takeWhile fun c => c == 32).length
theorem skipB_blank {t : List UInt8} {i : Nat} (h : t[i]? = some 32) : skipB t i = skipB t (i + 1) := by
  obtain ⟨hi, he⟩ := List.getElem?_eq_some_iff.1 h
  unfold skipB
  rw [List.drop_eq_getElem_cons hi, he, List.takeWhile_cons]
  simp
  omega
theorem skipB_stop {t : List UInt8} {i : Nat} (h : t[i]? ≠ some 32) : skipB t i = i := by
  unfold skipB
  by_cases hi : i < t.length
  · rw [List.drop_eq_getElem_cons hi, List.takeWhile_cons]
    have : (t[i] == 32) = false := by
      rw [List.getElem?_eq_getElem hi] at h
      simpa using h
    simp [this]
  · rw [List.drop_eq_nil_of_le (by omega)]
    simp
theorem skipB_le (t : List UInt8) (i : Nat) : i ≤ skipB t i := by unfold skipB; omega
theorem skipB_len {t : List UInt8} : ∀ (n i : Nat), t.length - i = n → i ≤ t.length → skipB t i ≤ t.length ∧ t[skipB t i]? ≠ some 32
  | 0, i, h, hi => by
    have e : t[i]? = none := List.getElem?_eq_none (by omega)
    rw [skipB_stop (by rw [e]; simp)]
    exact ⟨hi, by rw [e]; simp⟩
  | n + 1, i, h, hi => by
    by_cases hb : t[i]? = some 32
    · rw [skipB_blank hb]
      exact skipB_len n (i + 1) (by omega) (by omega)
    · rw [skipB_stop hb]
      exact ⟨hi, hb⟩
theorem skipB_top {t : List UInt8} {i : Nat} (h : i ≤ t.length) : skipB t i ≤ t.length := (skipB_len _ i rfl h).1
theorem skipB_not {t : List UInt8} {i : Nat} (h : i ≤ t.length) : t[skipB t i]? ≠ some 32 := (skipB_len _ i rfl h).2
theorem skipB_idem {t : List UInt8} {i : Nat} (h : i ≤ t.length) : skipB t (skipB t i) = skipB t i := skipB_stop (skipB_not h)

def takeM (t : List UInt8) (c : UInt8) (i : Nat) : Bool × Nat := if t[skipB t i]? = some c then (true, skipB t i + 1) else (false, skipB t i)

def isSgn (c : UInt8) : Bool := [32, 38, 124, 33, 94, 126, 40, 41, 61].contains c
def tailEnd (t : List UInt8) (k : Nat) : Nat := k + ((t.drop k).takeWhile fun c => !isSgn c).length
theorem tail_step {t : List UInt8} {k : Nat} (hk : k < t.length) (h : isSgn t[k] = false) : tailEnd t k = tailEnd t (k + 1) := by
  unfold tailEnd
  rw [List.drop_eq_getElem_cons hk, List.takeWhile_cons, h]
  simp
  omega
theorem tail_stop {t : List UInt8} {k : Nat} (h : ∀ hk : k < t.length, isSgn t[k] = true) : tailEnd t k = k := by
  unfold tailEnd
  by_cases hk : k < t.length
  · rw [List.drop_eq_getElem_cons hk, List.takeWhile_cons, h hk]; simp
  · rw [List.drop_eq_nil_of_le (by omega)]; simp
theorem tail_le (t : List UInt8) (k : Nat) : k ≤ tailEnd t k := by unfold tailEnd; omega
theorem takeWhile_len {α : Type} (p : α → Bool) : ∀ l : List α, (l.takeWhile p).length ≤ l.length
  | [] => by simp
  | x :: l => by
    rw [List.takeWhile_cons]
    split
    · simp only [List.length_cons]; have := takeWhile_len p l; omega
    · simp
theorem tail_top {t : List UInt8} {k : Nat} (h : k ≤ t.length) : tailEnd t k ≤ t.length := by
  have := takeWhile_len (fun c => !isSgn c) (t.drop k)
  rw [List.length_drop] at this
  unfold tailEnd
  omega
/-- Whether a name's first byte may be there. -/
def headOk (t : List UInt8) (i : Nat) : Bool := match t[i]? with
  | some c => !isSgn c && (c != 48 && c != 49)
  | none => false
def wEnd (t : List UInt8) (i : Nat) : Nat := if headOk t i then tailEnd t (i + 1) else i
theorem headOk_lt {t : List UInt8} {i : Nat} (h : headOk t i = true) : i < t.length := by
  unfold headOk at h
  cases hi : t[i]? with
  | none => rw [hi] at h; cases h
  | some c => exact (List.getElem?_eq_some_iff.1 hi).1
theorem wEnd_le (t : List UInt8) (i : Nat) : i ≤ wEnd t i := by
  unfold wEnd
  split
  · have := tail_le t (i + 1); omega
  · omega
theorem wEnd_top {t : List UInt8} {i : Nat} (h : i ≤ t.length) : wEnd t i ≤ t.length := by
  unfold wEnd
  split
  · rename_i hh; exact tail_top (headOk_lt hh)
  · exact h
def wordS (t : List UInt8) (j : Nat) : List UInt8 := (t.drop j).take (wEnd t j - j)
/-- A name: q tells what comes with an error. -/
def wordR (t : List UInt8) (q i : Nat) : Rs (List UInt8) :=
  if wordS t (skipB t i) = [] then .err 3 (skipB t i) q else if nameF (wordS t (skipB t i)) = false then .err 5 (skipB t i) q else .ok (wordS t (skipB t i)) (wEnd t (skipB t i))
def Rs.map {α β : Type} (f : α → β) : Rs α → Rs β
  | .ok x i => .ok (f x) i
  | .err c p q => .err c p q

def sevR {α : Type} (t : List UInt8) (sign : UInt8) (f : Nat → Rs α) : Nat → Nat → List α → Rs (List α)
  | 0, i, _ => .err 0 i 0
  | n + 1, i, acc => match f i with
    | .err c p _ => .err c p 0
    | .ok x j => if (takeM t sign j).1 then sevR t sign f n (takeM t sign j).2 (acc ++ [x]) else .ok (acc ++ [x]) (takeM t sign j).2
def colA : List Ex → Ex
  | [x] => x
  | l => .and l
def colO : List Ex → Ex
  | [x] => x
  | l => .or l
def andR (t : List UInt8) (one : Nat → Rs Ex) (i : Nat) : Rs Ex := (sevR t 38 one (t.length + 1 - i) i []).map colA
def orR (t : List UInt8) (one : Nat → Rs Ex) (i : Nat) : Rs Ex := (sevR t 124 (andR t one) (t.length + 1 - i) i []).map colO
def oneR (t : List UInt8) : Nat → Nat → Rs Ex
  | 0, i => .err 4 (skipB t i) 0
  | d + 1, i =>
    if t[skipB t i]? = some 33 then (match oneR t d (skipB t i + 1) with | .ok x k => .ok (.not x) k | .err c p _ => .err c p 0)
    else if t[skipB t i]? = some 40 then (match orR t (oneR t d) (skipB t i + 1) with
      | .ok x k => if (takeM t 41 k).1 then .ok x (takeM t 41 k).2 else .err 3 (takeM t 41 k).2 0
      | .err c p _ => .err c p 0)
    else if t[skipB t i]? = some 48 then .ok (.cst false) (skipB t i + 1)
    else if t[skipB t i]? = some 49 then .ok (.cst true) (skipB t i + 1)
    else if t[skipB t i]? = some 94 then (wordR t 1 (skipB t i + 1)).map .rise
    else if t[skipB t i]? = some 126 then (wordR t 2 (skipB t i + 1)).map .fall
    else (wordR t 3 (skipB t i)).map .bit
/-- What a text is. -/
def parseM (t : List UInt8) : Option Ex × Option (Int × Option Nat) :=
  if 2000 < t.length then (none, some (4, none))
  else match orR t (oneR t 20) 0 with
    | .err c p _ => (none, some (c, some p))
    | .ok x i => if skipB t i < t.length then (none, some (3, some (skipB t i))) else (some x, none)

/-- Reading goes on. -/
def Goes {α : Type} (t : List UInt8) (f : Nat → Rs α) : Prop := ∀ i x j, i ≤ t.length → f i = .ok x j → i < j ∧ j ≤ t.length
theorem take_goes {t : List UInt8} {c : UInt8} {i : Nat} (h : i ≤ t.length) : i ≤ (takeM t c i).2 ∧ (takeM t c i).2 ≤ t.length ∧ ((takeM t c i).1 = true → i < (takeM t c i).2) := by
  have h1 := skipB_le t i
  have h2 := skipB_top h
  unfold takeM
  split
  · rename_i hc
    have := (List.getElem?_eq_some_iff.1 hc).1
    exact ⟨by dsimp only; omega, by dsimp only; omega, fun _ => by dsimp only; omega⟩
  · exact ⟨h1, h2, fun h => by cases h⟩
theorem sev_goes {α : Type} {t : List UInt8} {s : UInt8} {f : Nat → Rs α} (hf : Goes t f) : ∀ (n i : Nat) (acc l : List α) (j : Nat), i ≤ t.length → sevR t s f n i acc = .ok l j → i < j ∧ j ≤ t.length
  | 0, i, acc, l, j, _, h => by simp [sevR] at h
  | n + 1, i, acc, l, j, hi, h => by
    rw [sevR] at h
    cases hfi : f i with
    | err c p q => rw [hfi] at h; cases h
    | ok x k =>
      rw [hfi] at h
      obtain ⟨h1, h2⟩ := hf i x k hi hfi
      obtain ⟨t1, t2, t3⟩ := take_goes (c := s) h2
      dsimp only at h
      split at h
      · have := sev_goes hf n _ _ l j t2 h
        omega
      · simp only [Rs.ok.injEq] at h
        omega
theorem map_ok {α β : Type} {f : α → β} {r : Rs α} {y : β} {j : Nat} (h : r.map f = .ok y j) : ∃ x, r = .ok x j ∧ f x = y := by
  cases r with
  | ok x i => simp only [Rs.map, Rs.ok.injEq] at h; exact ⟨x, by rw [h.2], h.1⟩
  | err c p q => cases h
theorem and_goes {t : List UInt8} {one : Nat → Rs Ex} (h : Goes t one) : Goes t (andR t one) := fun i x j hi he => by
  obtain ⟨l, h1, _⟩ := map_ok he
  exact sev_goes h _ _ _ _ _ hi h1
theorem or_goes {t : List UInt8} {one : Nat → Rs Ex} (h : Goes t one) : Goes t (orR t one) := fun i x j hi he => by
  obtain ⟨l, h1, _⟩ := map_ok he
  exact sev_goes (and_goes h) _ _ _ _ _ hi h1
theorem word_goes (t : List UInt8) (q : Nat) : Goes t (wordR t q) := fun i s j hi h => by
  have h1 := skipB_le t i
  have h2 := skipB_top hi
  unfold wordR at h
  split at h
  · cases h
  · rename_i hn
    split at h
    · cases h
    · simp only [Rs.ok.injEq] at h
      obtain ⟨_, rfl⟩ := h
      have h3 := wEnd_top h2
      have h4 := wEnd_le t (skipB t i)
      refine ⟨?_, h3⟩
      rcases Nat.eq_or_lt_of_le h4 with e | e
      · exfalso
        apply hn
        unfold wordS
        rw [← e, Nat.sub_self, List.take_zero]
      · omega
theorem one_goes (t : List UInt8) : ∀ d, Goes t (oneR t d)
  | 0 => fun i x j _ h => by simp [oneR] at h
  | d + 1 => fun i x j hi h => by
    have ih := one_goes t d
    have h1 := skipB_le t i
    have h2 := skipB_top hi
    have hb : ∀ {c : UInt8}, t[skipB t i]? = some c → skipB t i < t.length := fun hc => (List.getElem?_eq_some_iff.1 hc).1
    rw [oneR] at h
    split at h
    · rename_i hc
      have := hb hc
      cases he : oneR t d (skipB t i + 1) with
      | err c p q => rw [he] at h; cases h
      | ok y k =>
        rw [he] at h
        simp only [Rs.ok.injEq] at h
        have := ih _ y k (by omega) he
        omega
    split at h
    · rename_i _ hc
      have := hb hc
      cases he : orR t (oneR t d) (skipB t i + 1) with
      | err c p q => rw [he] at h; cases h
      | ok y k =>
        rw [he] at h
        dsimp only at h
        have h3 := or_goes ih _ y k (by omega) he
        obtain ⟨t1, t2, t3⟩ := take_goes (c := 41) h3.2
        split at h
        · simp only [Rs.ok.injEq] at h
          omega
        · cases h
    split at h
    · rename_i _ _ hc
      have := hb hc
      simp only [Rs.ok.injEq] at h
      omega
    split at h
    · rename_i _ _ _ hc
      have := hb hc
      simp only [Rs.ok.injEq] at h
      omega
    split at h
    · rename_i _ _ _ _ hc
      have := hb hc
      obtain ⟨s, h3, _⟩ := map_ok h
      have := word_goes t 1 _ s j (by omega) h3
      omega
    split at h
    · rename_i _ _ _ _ _ hc
      have := hb hc
      obtain ⟨s, h3, _⟩ := map_ok h
      have := word_goes t 2 _ s j (by omega) h3
      omega
    · obtain ⟨s, h3, _⟩ := map_ok h
      have := word_goes t 3 _ s j h2 h3
      omega

/-! ### How they are written -/
mutual
def wrE : Ex → Nat → List UInt8
  | .cst b, _ => if b then [49] else [48]
  | .bit s, _ => s
  | .rise s, _ => 94 :: s
  | .fall s, _ => 126 :: s
  | .not e, _ => 33 :: wrE e 2
  | .and l, k => if 2 ≤ k then [40] ++ Lib.join (wrL l 2) [32, 38, 32] ++ [41] else Lib.join (wrL l 2) [32, 38, 32]
  | .or l, k => if 1 ≤ k then [40] ++ Lib.join (wrL l 1) [32, 124, 32] ++ [41] else Lib.join (wrL l 1) [32, 124, 32]
def wrL : List Ex → Nat → List (List UInt8)
  | [], _ => []
  | e :: l, k => wrE e k :: wrL l k
end
theorem wrL_map : ∀ (l : List Ex) (k : Nat), wrL l k = l.map fun e => wrE e k
  | [], _ => rfl
  | e :: l, k => by rw [wrL, wrL_map l k]; rfl
end Go.Proofs.YtfehigldhedkgaaDoor

/-
  The reader of expressions: blanks, signs, errors, names.
-/
namespace Go.Proofs.YtfehigldhedkgaaDoor
set_option linter.unusedSimpArgs false
set_option linter.unusedVariables false
open Go.Av
open Go.Shelf

/-- The reader: what is read, and where one is. -/
def rdr (t : List UInt8) (i : Int) : Row := .box 99 [.d (dS t), int i]
def rRow (t : List UInt8) (i : Int) : List (Nat × Row) := [(500, rdr t i)]

theorem u8_eq (a : UInt8) (n : Nat) (hn : n < 256) : ((a.toNat : Int) = (n : Int)) ↔ a = UInt8.ofNat n := by
  constructor
  · intro h
    have : a.toNat = n := by omega
    rw [← this, UInt8.ofNat_toNat]
  · rintro rfl
    simp
    omega

set_option maxHeartbeats 4000000 in
theorem blanks_spec (G : Glob) (t : List UInt8) (i : Nat) (ht : t.length < 2^60) (hi : i ≤ t.length) :
    MC Tryd.prog G [500] 49 [.ref 500 0 0] (hlst (rRow t i)) (.d (.tup [])) (hlst (rRow t (skipB t i))) := by
  refine MC.of_body (tyOf_good _) Tryd.func49 rfl rfl (rs := []) Tryd.results49 (by simp [Tryd.ntmps49]) rfl fun X => ?_
  simp only [Tryd.ntmps49]
  refine AW_for (S := Nat) (fun k => k ≤ t.length ∧ skipB t k = skipB t i) (fun k => ⟨lst [(0, .ref 500 0 0)], hlst [(500, .box 99 [.d (dS t), int k])]⟩) (fun k => t.length - k) i ?_ ⟨hi, rfl⟩ ?_
  · refine Imp.to' (notIn_ok rfl) (by simp [dNum, rRow, rdr, dS]) (by simp [dNum, rRow, rdr, dS])
  · rintro k ⟨hk, hs⟩
    refine AW_then fun K1 hK1 => ?_
    by_cases hkl : k < t.length
    · have hkl' : (k : Int) < (t.length : Int) := by omega
      have hgd : t.getD k 0 = t[k] := by simp [List.getD_eq_getElem?_getD, hkl]
      by_cases hb : ((t[k]).toNat : Int) = 32
      · refine AW_rd (tyOf_good _) (by kernel_rfl) [0, 23] [500] (notIn_ok rfl) (by kernel_rfl) fun K' hK' => ?_
        repeat (refine sxd_next fun K2 hK2 => ?_; simp [dNum, rRow, rdr, dS, bs_size, bs_data, hkl, hb]; (repeat (refine ⟨by omega, ?_⟩)); refine hK2 _ ?_; clear hK2 K2)
        refine sxd_nil (hK' _ ?_)
        refine AW.st (by simp [dNum, rRow, rdr, dS, bs_size, bs_data, hkl, hb]; rfl) ?_
        clear hK' K'
        refine AW_cond true rfl (fun _ => ?_) (fun h => by cases h)
        refine AW_skip (hK1 _ ?_)
        refine AW_block ?_
        refine AW_re (tyOf_good _) fun K' hK' => ?_
        repeat (refine sxf_next fun K2 hK2 => ?_; simp [dNum, rRow, rdr, dS]; (repeat (refine ⟨by omega, ?_⟩)); refine hK2 _ ?_; clear hK2 K2)
        refine sxf_nil (hK' _ ?_)
        clear hK' K'
        try simp only [thn, inb]
        have h32 : t[k]? = some 32 := by
          rw [List.getElem?_eq_getElem hkl, (u8_eq _ 32 (by decide)).1 hb]; rfl
        refine Again.mk (k + 1) ⟨by omega, ?_⟩ (by omega) ?_
        · rw [← skipB_blank h32]; exact hs
        refine Imp.to' (notIn_ok rfl) (by simp [dNum, rRow, rdr, dS]) (by simp [dNum, rRow, rdr, dS])
      · refine AW_rd (tyOf_good _) (by kernel_rfl) [0, 23] [500] (notIn_ok rfl) (by kernel_rfl) fun K' hK' => ?_
        repeat (refine sxd_next fun K2 hK2 => ?_; simp [dNum, rRow, rdr, dS, bs_size, bs_data, hkl, hb]; (repeat (refine ⟨by omega, ?_⟩)); refine hK2 _ ?_; clear hK2 K2)
        refine sxd_nil (hK' _ ?_)
        refine AW.st (by simp [dNum, rRow, rdr, dS, bs_size, bs_data, hkl, hb]; rfl) ?_
        clear hK' K'
        refine AW_cond false rfl (fun h => by cases h) (fun _ => ?_)
        refine AW_exit ?_
        have h32 : t[k]? ≠ some 32 := by
          rw [List.getElem?_eq_getElem hkl]
          intro h
          apply hb
          rw [Option.some.inj h]; rfl
        rw [skipB_stop h32] at hs
        rw [← hs]
        simp [rRow, rdr, dS, D.le_refl]
    · obtain rfl : k = t.length := by omega
      refine AW_rd (tyOf_good _) (by kernel_rfl) [0, 23] [500] (notIn_ok rfl) (by kernel_rfl) fun K' hK' => ?_
      repeat (refine sxd_next fun K2 hK2 => ?_; simp [dNum, rRow, rdr, dS, bs_size, bs_data]; (repeat (refine ⟨by omega, ?_⟩)); refine hK2 _ ?_; clear hK2 K2)
      refine sxd_nil (hK' _ ?_)
      refine AW.st (by simp [dNum, rRow, rdr, dS, bs_size, bs_data]; rfl) ?_
      clear hK' K'
      refine AW_cond false rfl (fun h => by cases h) (fun _ => ?_)
      refine AW_exit ?_
      have h32 : t[t.length]? ≠ some 32 := by simp
      rw [skipB_stop h32] at hs
      rw [← hs]
      simp [rRow, rdr, dS, D.le_refl]
set_option maxHeartbeats 4000000 in
theorem take_spec (G : Glob) (t : List UInt8) (i : Nat) (ht : t.length < 2^60) (hi : i ≤ t.length) (c : UInt8) :
    MC Tryd.prog G [500] 93 [.ref 500 0 0, .d (.v (.int .u8 c.toNat))] (hlst (rRow t i)) (.d (.v (.bool (takeM t c i).1))) (hlst (rRow t (takeM t c i).2)) := by
  have hbl := blanks_spec G t i ht hi
  have htop := skipB_top hi
  unfold takeM
  generalize skipB t i = j at hbl htop ⊢
  by_cases hjl : j < t.length
  · rw [List.getElem?_eq_getElem hjl]
    by_cases hb : t[j] = c
    · have hb' : ((t[j]).toNat : Int) = (c.toNat : Int) := by rw [hb]
      rw [if_pos (by rw [hb])]
      refine MC.of_body (tyOf_good _) Tryd.func93 rfl rfl (rs := [.tmp 4]) Tryd.results93 (by simp [Tryd.ntmps93]) rfl fun X => ?_
      simp only [Tryd.ntmps93]
      refine AW_rg (tyOf_good _) [0, 1] [500] (notIn_ok rfl) fun K' hK' => ?_
      repeat (refine sxf_next fun K2 hK2 => ?_; simp [dNum, rRow, rdr, dS]; (repeat (refine ⟨by omega, ?_⟩)); refine hK2 _ ?_; clear hK2 K2)
      refine sxf_nil (hK' _ ?_)
      refine AW.st (by simp [dNum, rRow, rdr, dS]; rfl) ?_
      clear hK' K'
      refine AW_rg (tyOf_good _) [0, 1] [500] (notIn_ok rfl) fun K' hK' => ?_
      repeat (refine sxf_next fun K2 hK2 => ?_; simp [dNum, rRow, rdr, dS]; (repeat (refine ⟨by omega, ?_⟩)); refine hK2 _ ?_; clear hK2 K2)
      refine sxf_next fun K2 hK2 => ?_
      simp [dNum, rRow, rdr, dS]
      refine callK.mc (hbl) (by simp [dNum, rRow, rdr, dS]) (by simp [dNum, rRow, rdr, dS]) (by simp [dNum, rRow, rdr, dS]) (by simp [dNum, rRow, rdr, dS]) ?_
      simp [dNum, rRow, rdr, dS]
      refine hK2 _ ?_
      clear hK2 K2
      repeat (refine sxf_next fun K2 hK2 => ?_; simp [dNum, rRow, rdr, dS]; (repeat (refine ⟨by omega, ?_⟩)); refine hK2 _ ?_; clear hK2 K2)
      refine sxf_nil (hK' _ ?_)
      refine AW.st (by simp [dNum, rRow, rdr, dS]; rfl) ?_
      clear hK' K'
      refine AW_then fun K1 hK1 => ?_
      refine AW_rd (tyOf_good _) (by kernel_rfl) [0, 29] [500] (notIn_ok rfl) (by kernel_rfl) fun K' hK' => ?_
      repeat (refine sxd_next fun K2 hK2 => ?_; simp [dNum, rRow, rdr, dS, bs_size, bs_data, hjl, hb']; (repeat (refine ⟨by omega, ?_⟩)); refine hK2 _ ?_; clear hK2 K2)
      refine sxd_nil (hK' _ ?_)
      refine AW.st (by simp [dNum, rRow, rdr, dS, bs_size, bs_data, hjl, hb']; rfl) ?_
      clear hK' K'
      refine AW_cond true rfl (fun _ => ?_) (fun h => by cases h)
      refine AW_rg (tyOf_good _) [] [500] (notIn_ok rfl) fun K' hK' => ?_
      repeat (refine sxf_next fun K2 hK2 => ?_; simp [dNum, rRow, rdr, dS]; (repeat (refine ⟨by omega, ?_⟩)); refine hK2 _ ?_; clear hK2 K2)
      refine sxf_nil (hK' _ ?_)
      refine AW.st (by simp [dNum, rRow, rdr, dS]; rfl) ?_
      clear hK' K'
      refine AW_rg (tyOf_good _) [4] [500] (notIn_ok rfl) fun K' hK' => ?_
      repeat (refine sxf_next fun K2 hK2 => ?_; simp [dNum, rRow, rdr, dS]; (repeat (refine ⟨by omega, ?_⟩)); refine hK2 _ ?_; clear hK2 K2)
      refine sxf_nil (hK' _ ?_)
      refine AW.st (by simp [dNum, rRow, rdr, dS]; rfl) ?_
      clear hK' K'
      refine AW_ret ?_
      simp [D.le, D.le.go, takeMap, dNum, rRow, rdr, dS, rRow, rdr]
    · have hb' : ¬ ((t[j]).toNat : Int) = (c.toNat : Int) := fun h => hb (UInt8.toNat_inj.1 (by omega))
      rw [if_neg (fun h => hb (Option.some.inj h))]
      refine MC.of_body (tyOf_good _) Tryd.func93 rfl rfl (rs := [.tmp 4]) Tryd.results93 (by simp [Tryd.ntmps93]) rfl fun X => ?_
      simp only [Tryd.ntmps93]
      refine AW_rg (tyOf_good _) [0, 1] [500] (notIn_ok rfl) fun K' hK' => ?_
      repeat (refine sxf_next fun K2 hK2 => ?_; simp [dNum, rRow, rdr, dS]; (repeat (refine ⟨by omega, ?_⟩)); refine hK2 _ ?_; clear hK2 K2)
      refine sxf_nil (hK' _ ?_)
      refine AW.st (by simp [dNum, rRow, rdr, dS]; rfl) ?_
      clear hK' K'
      refine AW_rg (tyOf_good _) [0, 1] [500] (notIn_ok rfl) fun K' hK' => ?_
      repeat (refine sxf_next fun K2 hK2 => ?_; simp [dNum, rRow, rdr, dS]; (repeat (refine ⟨by omega, ?_⟩)); refine hK2 _ ?_; clear hK2 K2)
      refine sxf_next fun K2 hK2 => ?_
      simp [dNum, rRow, rdr, dS]
      refine callK.mc (hbl) (by simp [dNum, rRow, rdr, dS]) (by simp [dNum, rRow, rdr, dS]) (by simp [dNum, rRow, rdr, dS]) (by simp [dNum, rRow, rdr, dS]) ?_
      simp [dNum, rRow, rdr, dS]
      refine hK2 _ ?_
      clear hK2 K2
      repeat (refine sxf_next fun K2 hK2 => ?_; simp [dNum, rRow, rdr, dS]; (repeat (refine ⟨by omega, ?_⟩)); refine hK2 _ ?_; clear hK2 K2)
      refine sxf_nil (hK' _ ?_)
      refine AW.st (by simp [dNum, rRow, rdr, dS]; rfl) ?_
      clear hK' K'
      refine AW_then fun K1 hK1 => ?_
      refine AW_rd (tyOf_good _) (by kernel_rfl) [0, 29] [500] (notIn_ok rfl) (by kernel_rfl) fun K' hK' => ?_
      repeat (refine sxd_next fun K2 hK2 => ?_; simp [dNum, rRow, rdr, dS, bs_size, bs_data, hjl, hb']; (repeat (refine ⟨by omega, ?_⟩)); refine hK2 _ ?_; clear hK2 K2)
      refine sxd_nil (hK' _ ?_)
      refine AW.st (by simp [dNum, rRow, rdr, dS, bs_size, bs_data, hjl, hb']; rfl) ?_
      clear hK' K'
      refine AW_cond false rfl (fun h => by cases h) (fun _ => ?_)
      refine AW_skip (hK1 _ ?_)
      refine AW_rg (tyOf_good _) [4] [500] (notIn_ok rfl) fun K' hK' => ?_
      repeat (refine sxf_next fun K2 hK2 => ?_; simp [dNum, rRow, rdr, dS]; (repeat (refine ⟨by omega, ?_⟩)); refine hK2 _ ?_; clear hK2 K2)
      refine sxf_nil (hK' _ ?_)
      refine AW.st (by simp [dNum, rRow, rdr, dS]; rfl) ?_
      clear hK' K'
      refine AW_ret ?_
      simp [D.le, D.le.go, takeMap, dNum, rRow, rdr, dS, rRow, rdr]
  · obtain rfl : j = t.length := by omega
    rw [if_neg (by simp)]
    refine MC.of_body (tyOf_good _) Tryd.func93 rfl rfl (rs := [.tmp 4]) Tryd.results93 (by simp [Tryd.ntmps93]) rfl fun X => ?_
    simp only [Tryd.ntmps93]
    refine AW_rg (tyOf_good _) [0, 1] [500] (notIn_ok rfl) fun K' hK' => ?_
    repeat (refine sxf_next fun K2 hK2 => ?_; simp [dNum, rRow, rdr, dS]; (repeat (refine ⟨by omega, ?_⟩)); refine hK2 _ ?_; clear hK2 K2)
    refine sxf_nil (hK' _ ?_)
    refine AW.st (by simp [dNum, rRow, rdr, dS]; rfl) ?_
    clear hK' K'
    refine AW_rg (tyOf_good _) [0, 1] [500] (notIn_ok rfl) fun K' hK' => ?_
    repeat (refine sxf_next fun K2 hK2 => ?_; simp [dNum, rRow, rdr, dS]; (repeat (refine ⟨by omega, ?_⟩)); refine hK2 _ ?_; clear hK2 K2)
    refine sxf_next fun K2 hK2 => ?_
    simp [dNum, rRow, rdr, dS]
    refine callK.mc (hbl) (by simp [dNum, rRow, rdr, dS]) (by simp [dNum, rRow, rdr, dS]) (by simp [dNum, rRow, rdr, dS]) (by simp [dNum, rRow, rdr, dS]) ?_
    simp [dNum, rRow, rdr, dS]
    refine hK2 _ ?_
    clear hK2 K2
    repeat (refine sxf_next fun K2 hK2 => ?_; simp [dNum, rRow, rdr, dS]; (repeat (refine ⟨by omega, ?_⟩)); refine hK2 _ ?_; clear hK2 K2)
    refine sxf_nil (hK' _ ?_)
    refine AW.st (by simp [dNum, rRow, rdr, dS]; rfl) ?_
    clear hK' K'
    refine AW_then fun K1 hK1 => ?_
    refine AW_rd (tyOf_good _) (by kernel_rfl) [0, 29] [500] (notIn_ok rfl) (by kernel_rfl) fun K' hK' => ?_
    repeat (refine sxd_next fun K2 hK2 => ?_; simp [dNum, rRow, rdr, dS, bs_size, bs_data]; (repeat (refine ⟨by omega, ?_⟩)); refine hK2 _ ?_; clear hK2 K2)
    refine sxd_nil (hK' _ ?_)
    refine AW.st (by simp [dNum, rRow, rdr, dS, bs_size, bs_data]; rfl) ?_
    clear hK' K'
    refine AW_cond false rfl (fun h => by cases h) (fun _ => ?_)
    refine AW_skip (hK1 _ ?_)
    refine AW_rg (tyOf_good _) [4] [500] (notIn_ok rfl) fun K' hK' => ?_
    repeat (refine sxf_next fun K2 hK2 => ?_; simp [dNum, rRow, rdr, dS]; (repeat (refine ⟨by omega, ?_⟩)); refine hK2 _ ?_; clear hK2 K2)
    refine sxf_nil (hK' _ ?_)
    refine AW.st (by simp [dNum, rRow, rdr, dS]; rfl) ?_
    clear hK' K'
    refine AW_ret ?_
    simp [D.le, D.le.go, takeMap, dNum, rRow, rdr, dS, rRow, rdr]
set_option maxHeartbeats 4000000 in
theorem fail_spec (G : Glob) (t : List UInt8) (i : Nat) (ht : t.length < 2^60) (hi : i ≤ t.length) (e : Int) :
    MC Tryd.prog G [500] 50 [.ref 500 0 0, .d (dNum e)] (hlst (rRow t i)) (.d (dErr (some (e, some (skipB t i))))) (hlst (rRow t (skipB t i))) := by
  have hbl := blanks_spec G t i ht hi
  generalize skipB t i = j at hbl ⊢
  refine MC.of_body (tyOf_good _) Tryd.func50 rfl rfl (rs := [.tmp 4]) Tryd.results50 (by simp [Tryd.ntmps50]) rfl fun X => ?_
  simp only [Tryd.ntmps50]
  refine AW_rg (tyOf_good _) [0, 1] [500] (notIn_ok rfl) fun K' hK' => ?_
  repeat (refine sxf_next fun K2 hK2 => ?_; simp [dNum, rRow, rdr, dS]; (repeat (refine ⟨by omega, ?_⟩)); refine hK2 _ ?_; clear hK2 K2)
  refine sxf_nil (hK' _ ?_)
  refine AW.st (by simp [dNum, rRow, rdr, dS]; rfl) ?_
  clear hK' K'
  refine AW_rg (tyOf_good _) [0, 1] [500] (notIn_ok rfl) fun K' hK' => ?_
  repeat (refine sxf_next fun K2 hK2 => ?_; simp [dNum, rRow, rdr, dS]; (repeat (refine ⟨by omega, ?_⟩)); refine hK2 _ ?_; clear hK2 K2)
  refine sxf_next fun K2 hK2 => ?_
  simp [dNum, rRow, rdr, dS]
  refine callK.mc (hbl) (by simp [dNum, rRow, rdr, dS]) (by simp [dNum, rRow, rdr, dS]) (by simp [dNum, rRow, rdr, dS]) (by simp [dNum, rRow, rdr, dS]) ?_
  simp [dNum, rRow, rdr, dS]
  refine hK2 _ ?_
  clear hK2 K2
  repeat (refine sxf_next fun K2 hK2 => ?_; simp [dNum, rRow, rdr, dS]; (repeat (refine ⟨by omega, ?_⟩)); refine hK2 _ ?_; clear hK2 K2)
  refine sxf_nil (hK' _ ?_)
  refine AW.st (by simp [dNum, rRow, rdr, dS]; rfl) ?_
  clear hK' K'
  refine AW_rg (tyOf_good _) [4] [500, 13] (notIn_ok rfl) fun K' hK' => ?_
  repeat (refine sxf_next fun K2 hK2 => ?_; simp [dNum, rRow, rdr, dS]; (repeat (refine ⟨by omega, ?_⟩)); refine hK2 _ ?_; clear hK2 K2)
  refine sxf_nil (hK' _ ?_)
  refine AW.st (by simp [dNum, rRow, rdr, dS]; rfl) ?_
  clear hK' K'
  refine AW.imp (Imp.freezeB 13 (by decide)) ?_
  refine AW.st (by simp [dNum, rRow, rdr, dS]; rfl) ?_
  refine AW_ret ?_
  simp [D.le, D.le.go, takeMap, dNum, rRow, rdr, dS, rRow, rdr, dErr]
def set11 : List UInt8 := [32, 38, 124, 33, 94, 126, 40, 41, 48, 49, 61]
theorem ixb_neg (l : List UInt8) (c : UInt8) : Lib.indexByte l c < 0 ↔ c ∉ l := by
  have hge := Lib.indexByte_ge l c
  constructor
  · intro h hm
    obtain ⟨k, hk, rfl⟩ := List.mem_iff_getElem.1 hm
    exact Lib.indexByte_none (show Lib.indexByte l l[k] = -1 by omega) k (List.getElem?_eq_getElem hk)
  · intro hm
    apply Classical.byContradiction
    intro h
    obtain ⟨n, hn⟩ := Int.eq_ofNat_of_zero_le (show 0 ≤ Lib.indexByte l c by omega)
    exact hm (List.mem_of_getElem? (Lib.indexByte_some hn).1)
theorem ixb_spec (G : Glob) (l : List UInt8) (c : UInt8) : PureC Tryd.prog G 131 [dS l, .v (.int .u8 c.toNat)] (dNum (Lib.indexByte l c)) := by
  refine PureC.of_calls (Fun.of Tryd.func131 rfl rfl) fun X w vs hsz hrd hgl => ?_
  obtain ⟨a, b, rfl⟩ : ∃ a b, vs = #[a, b] := by
    match vs, hsz with
    | ⟨[a, b]⟩, _ => exact ⟨a, b, rfl⟩
  have ha := (hrd 0 a _ rfl rfl).scalar
  have hb := (hrd 1 b _ rfl rfl).scalar
  subst ha hb
  have hcon := Any.strings_IndexByte (P := Tryd.prog) (ρ := Tryd.lays160_ren) { Tryd.lays160 with } (bs l) c.toNat w
  rw [show (c.toNat : Int).toNat.toUInt8 = c by simp] at hcon
  exact hcon.mono fun e w' ⟨he, hw⟩ => ⟨_, he, by rw [hw]; exact Grew.refl _, .v _⟩
end Go.Proofs.YtfehigldhedkgaaDoor

/-
  The reader of expressions: a name.
-/
namespace Go.Proofs.YtfehigldhedkgaaDoor
set_option linter.unusedSimpArgs false
set_option linter.unusedVariables false
open Go.Av

theorem bs_extract (t : List UInt8) (i j : Nat) : (bs t).extract i j = bs ((t.drop i).take (j - i)) := ByteArray.ext (by
  rw [ByteArray.data_extract]
  unfold bs
  apply Array.toList_inj.1
  simp [List.take_drop, List.extract])
theorem set11_lit : (⟨#[32, 38, 124, 33, 94, 126, 40, 41, 48, 49, 61]⟩ : ByteArray) = bs set11 := rfl
def tupW : Rs (List UInt8) → D
  | .ok s _ => .tup [dS s, .v .nilIface]
  | .err c p _ => .tup [dS [], dErr (some (c, some p))]
def posR {α : Type} : Rs α → Nat
  | .ok _ i => i
  | .err _ p _ => p
theorem mem11 (c : UInt8) : c ∈ set11 ↔ (isSgn c = true ∨ c = 48 ∨ c = 49) := by
  simp only [set11, isSgn, List.mem_cons, List.not_mem_nil, or_false, List.contains_iff_mem]
  constructor
  · rintro (h | h | h | h | h | h | h | h | h | h | h) <;> simp [h]
  · rintro ((h | h | h | h | h | h | h | h | h) | h | h) <;> simp [h]
/-- Where the name's end may be. -/
def AtW (t : List UInt8) (j k : Nat) : Prop := k = j ∨ (j < k ∧ headOk t j = true ∧ tailEnd t (j + 1) = tailEnd t k)
theorem atW_exit {t : List UInt8} {j k : Nat} (h : AtW t j k) (hk : k ≤ t.length) (hstop : ∀ hk : k < t.length, t[k] ∈ set11 ∧ (j < k → t[k] ≠ 48 ∧ t[k] ≠ 49)) : k = wEnd t j := by
  unfold wEnd
  rcases h with rfl | ⟨hjk, hh, he⟩
  · by_cases hk' : k < t.length
    · have := (mem11 _).1 (hstop hk').1
      have hno : headOk t k = false := by
        unfold headOk
        rw [List.getElem?_eq_getElem hk']
        rcases this with h | h | h <;> simp [h]
      rw [hno]; rfl
    · have hno : headOk t k = false := by
        unfold headOk
        rw [List.getElem?_eq_none (by omega)]
      rw [hno]; rfl
  · rw [hh, if_pos rfl, he, tail_stop]
    intro hk'
    obtain ⟨h1, h2⟩ := hstop hk'
    rcases (mem11 _).1 h1 with h | h | h
    · exact h
    · exact absurd h (h2 hjk).1
    · exact absurd h (h2 hjk).2
theorem atW_next {t : List UInt8} {j k : Nat} (h : AtW t j k) (hk : k < t.length) (hgo : t[k] ∉ set11 ∨ (j < k ∧ (t[k] = 48 ∨ t[k] = 49))) : AtW t j (k + 1) := by
  have hs : isSgn t[k] = false := by
    rcases hgo with h | ⟨_, h⟩
    · cases hc : isSgn t[k] with
      | false => rfl
      | true => exact absurd ((mem11 _).2 (.inl hc)) h
    · rcases h with h | h <;> rw [h] <;> rfl
  right
  rcases h with rfl | ⟨hjk, hh, he⟩
  · refine ⟨by omega, ?_, rfl⟩
    rcases hgo with h | ⟨h, _⟩
    · have h1 : t[k] ≠ 48 := fun e => h ((mem11 _).2 (.inr (.inl e)))
      have h2 : t[k] ≠ 49 := fun e => h ((mem11 _).2 (.inr (.inr e)))
      unfold headOk
      rw [List.getElem?_eq_getElem hk]
      simp [hs, h1, h2]
    · omega
  · refine ⟨by omega, hh, ?_⟩
    rw [he, tail_step hk hs]

set_option maxHeartbeats 8000000 in
theorem word_spec (G : Glob) (t : List UInt8) (q i : Nat) (ht : t.length < 2^60) (hi : i ≤ t.length) :
    MC Tryd.prog G [500] 109 [.ref 500 0 0] (hlst (rRow t i)) (.d (tupW (wordR t q i))) (hlst (rRow t (posR (wordR t q i)))) := by
  have hbl := blanks_spec G t i ht hi
  have htop := skipB_top hi
  have hidem := skipB_idem hi
  unfold wordR
  generalize skipB t i = j at hbl htop hidem ⊢
  have hf3 := fail_spec G t j ht htop 3
  have hf5 := fail_spec G t j ht htop 5
  rw [hidem] at hf3 hf5
  have hel := wEnd_le t j
  have het := wEnd_top htop
  have hws : (t.drop j).take (wEnd t j - j) = wordS t j := rfl
  have hslen : (wordS t j).length < 2^60 := by
    rw [← hws, List.length_take, List.length_drop]; omega
  have hname := name_spec G (wordS t j) hslen
  refine MC.of_body (tyOf_good _) Tryd.func109 rfl rfl (rs := [.tmp 2, .tmp 3]) Tryd.results109 (by simp [Tryd.ntmps109]) rfl fun X => ?_
  simp only [Tryd.ntmps109]
  refine AW_rg (tyOf_good _) [0] [500] (notIn_ok rfl) fun K' hK' => ?_
  repeat (refine sxf_next fun K2 hK2 => ?_; simp [dNum, rRow, rdr, dS]; (repeat (refine ⟨by omega, ?_⟩)); refine hK2 _ ?_; clear hK2 K2)
  refine sxf_nil (hK' _ ?_)
  refine AW.st (by simp [dNum, rRow, rdr, dS]; rfl) ?_
  clear hK' K'
  refine AW_rg (tyOf_good _) [0] [500] (notIn_ok rfl) fun K' hK' => ?_
  repeat (refine sxf_next fun K2 hK2 => ?_; simp [dNum, rRow, rdr, dS]; (repeat (refine ⟨by omega, ?_⟩)); refine hK2 _ ?_; clear hK2 K2)
  refine sxf_next fun K2 hK2 => ?_
  simp [dNum, rRow, rdr, dS]
  refine callK.mc (hbl) (by simp [dNum, rRow, rdr, dS]) (by simp [dNum, rRow, rdr, dS]) (by simp [dNum, rRow, rdr, dS]) (by simp [dNum, rRow, rdr, dS]) ?_
  simp [dNum, rRow, rdr, dS]
  refine hK2 _ ?_
  clear hK2 K2
  repeat (refine sxf_next fun K2 hK2 => ?_; simp [dNum, rRow, rdr, dS]; (repeat (refine ⟨by omega, ?_⟩)); refine hK2 _ ?_; clear hK2 K2)
  refine sxf_nil (hK' _ ?_)
  refine AW.st (by simp [dNum, rRow, rdr, dS]; rfl) ?_
  clear hK' K'
  refine AW_rg (tyOf_good _) [0, 4] [500] (notIn_ok rfl) fun K' hK' => ?_
  repeat (refine sxf_next fun K2 hK2 => ?_; simp [dNum, rRow, rdr, dS]; (repeat (refine ⟨by omega, ?_⟩)); refine hK2 _ ?_; clear hK2 K2)
  refine sxf_nil (hK' _ ?_)
  refine AW.st (by simp [dNum, rRow, rdr, dS]; rfl) ?_
  clear hK' K'
  refine AW_then fun K1 hK1 => ?_
  refine AW_for (S := Nat) (fun k => j ≤ k ∧ k ≤ t.length ∧ AtW t j k) (fun k => ⟨lst [(0, .ref 500 0 0), (4, int k)], hlst [(500, .box 99 [.d (dS t), int j])]⟩) (fun k => t.length - k) j ?_ ⟨Nat.le_refl _, htop, .inl rfl⟩ ?_
  · refine Imp.to' (notIn_ok rfl) (by simp [dNum, rRow, rdr, dS]) (by simp [dNum, rRow, rdr, dS])
  · rintro k ⟨hjk, hk, hat⟩
    refine AW_then fun K2 hK2 => ?_
    refine (fun hgo hstop => ?_) (fun (σ : St) (hn : AtW t j (k + 1)) (hkl : k < t.length) himp => hK2 σ (AW.imp (τ := ⟨lst [(0, .ref 500 0 0), (4, int k)], hlst [(500, .box 99 [.d (dS t), int j])]⟩) himp ?_))
      (fun (σ : St) (he : k = wEnd t j) himp => hK1 σ (AW.imp (τ := ⟨lst [(0, .ref 500 0 0), (4, int k)], hlst [(500, .box 99 [.d (dS t), int j])]⟩) himp ?_))
    · by_cases hkl : k < t.length
      · have hix := ixb_spec G set11 t[k]
        have hix2 := ixb_neg set11 t[k]
        by_cases hm : t[k] ∈ set11
        · have hix3 : ¬ Lib.indexByte set11 t[k] < 0 := fun h => hix2.1 h hm
          by_cases hjk' : j < k
          · have hjk2 : (j : Int) < (k : Int) := by omega
            by_cases h48 : ((t[k]).toNat : Int) = 48
            · have hc : t[k] = 48 := (u8_eq _ 48 (by decide)).1 h48
              refine AW_rg (tyOf_good _) [0, 4, 63] [500] (notIn_ok rfl) fun K' hK' => ?_
              repeat (refine sxf_next fun K2 hK2 => ?_; simp [dNum, rRow, rdr, dS, bs_size, bs_data, set11_lit, hkl, hix3, hjk2, hjk', h48]; (repeat (refine ⟨by omega, ?_⟩)); refine hK2 _ ?_; clear hK2 K2)
              refine sxf_next fun K2 hK2 => ?_
              simp [dNum, rRow, rdr, dS, bs_size, bs_data, set11_lit, hkl, hix3, hjk2, hjk', h48]
              refine callK.data (hix) (by simp; rfl) (by first | exact D.leGo_refl _ | simp [takeMap, List.map_map, Function.comp_def, D.le, D.le.go, D.le_refl, D.leGo_refl, dNum, rRow, rdr, dS, bs_size, bs_data, set11_lit, hkl, hix3, hjk2, hjk', h48]) ?_
              refine hK2 _ ?_
              clear hK2 K2
              simp only [putd, upd_lst]
              repeat (refine sxf_next fun K2 hK2 => ?_; simp [dNum, rRow, rdr, dS, bs_size, bs_data, set11_lit, hkl, hix3, hjk2, hjk', h48]; (repeat (refine ⟨by omega, ?_⟩)); refine hK2 _ ?_; clear hK2 K2)
              refine sxf_nil (hK' _ ?_)
              refine AW.st (by simp [dNum, rRow, rdr, dS, bs_size, bs_data, set11_lit, hkl, hix3, hjk2, hjk', h48]; rfl) ?_
              clear hK' K'
              refine AW_cond true rfl (fun _ => ?_) (fun h => by cases h)
              refine AW_skip (hgo _ (atW_next hat hkl (.inr ⟨hjk', .inl hc⟩)) hkl ?_)
              refine Imp.to' (notIn_ok rfl) (by simp [dNum, rRow, rdr, dS]) (by simp [dNum, rRow, rdr, dS])
            · by_cases h49 : ((t[k]).toNat : Int) = 49
              · have hc : t[k] = 49 := (u8_eq _ 49 (by decide)).1 h49
                refine AW_rg (tyOf_good _) [0, 4, 63] [500] (notIn_ok rfl) fun K' hK' => ?_
                repeat (refine sxf_next fun K2 hK2 => ?_; simp [dNum, rRow, rdr, dS, bs_size, bs_data, set11_lit, hkl, hix3, hjk2, hjk', h48, h49]; (repeat (refine ⟨by omega, ?_⟩)); refine hK2 _ ?_; clear hK2 K2)
                refine sxf_next fun K2 hK2 => ?_
                simp [dNum, rRow, rdr, dS, bs_size, bs_data, set11_lit, hkl, hix3, hjk2, hjk', h48, h49]
                refine callK.data (hix) (by simp; rfl) (by first | exact D.leGo_refl _ | simp [takeMap, List.map_map, Function.comp_def, D.le, D.le.go, D.le_refl, D.leGo_refl, dNum, rRow, rdr, dS, bs_size, bs_data, set11_lit, hkl, hix3, hjk2, hjk', h48, h49]) ?_
                refine hK2 _ ?_
                clear hK2 K2
                simp only [putd, upd_lst]
                repeat (refine sxf_next fun K2 hK2 => ?_; simp [dNum, rRow, rdr, dS, bs_size, bs_data, set11_lit, hkl, hix3, hjk2, hjk', h48, h49]; (repeat (refine ⟨by omega, ?_⟩)); refine hK2 _ ?_; clear hK2 K2)
                refine sxf_nil (hK' _ ?_)
                refine AW.st (by simp [dNum, rRow, rdr, dS, bs_size, bs_data, set11_lit, hkl, hix3, hjk2, hjk', h48, h49]; rfl) ?_
                clear hK' K'
                refine AW_cond true rfl (fun _ => ?_) (fun h => by cases h)
                refine AW_skip (hgo _ (atW_next hat hkl (.inr ⟨hjk', .inr hc⟩)) hkl ?_)
                refine Imp.to' (notIn_ok rfl) (by simp [dNum, rRow, rdr, dS]) (by simp [dNum, rRow, rdr, dS])
              · refine AW_rg (tyOf_good _) [0, 4, 63] [500] (notIn_ok rfl) fun K' hK' => ?_
                repeat (refine sxf_next fun K2 hK2 => ?_; simp [dNum, rRow, rdr, dS, bs_size, bs_data, set11_lit, hkl, hix3, hjk2, hjk', h48, h49]; (repeat (refine ⟨by omega, ?_⟩)); refine hK2 _ ?_; clear hK2 K2)
                refine sxf_next fun K2 hK2 => ?_
                simp [dNum, rRow, rdr, dS, bs_size, bs_data, set11_lit, hkl, hix3, hjk2, hjk', h48, h49]
                refine callK.data (hix) (by simp; rfl) (by first | exact D.leGo_refl _ | simp [takeMap, List.map_map, Function.comp_def, D.le, D.le.go, D.le_refl, D.leGo_refl, dNum, rRow, rdr, dS, bs_size, bs_data, set11_lit, hkl, hix3, hjk2, hjk', h48, h49]) ?_
                refine hK2 _ ?_
                clear hK2 K2
                simp only [putd, upd_lst]
                repeat (refine sxf_next fun K2 hK2 => ?_; simp [dNum, rRow, rdr, dS, bs_size, bs_data, set11_lit, hkl, hix3, hjk2, hjk', h48, h49]; (repeat (refine ⟨by omega, ?_⟩)); refine hK2 _ ?_; clear hK2 K2)
                refine sxf_nil (hK' _ ?_)
                refine AW.st (by simp [dNum, rRow, rdr, dS, bs_size, bs_data, set11_lit, hkl, hix3, hjk2, hjk', h48, h49]; rfl) ?_
                clear hK' K'
                refine AW_cond false rfl (fun h => by cases h) (fun _ => ?_)
                refine AW_exit (hstop _ (atW_exit hat hk fun _ => ⟨hm, fun _ => ⟨fun e => h48 (by rw [e]; rfl), fun e => h49 (by rw [e]; rfl)⟩⟩) ?_)
                refine Imp.to' (notIn_ok rfl) (by simp [dNum, rRow, rdr, dS]) (by simp [dNum, rRow, rdr, dS])
          · have hjk2 : ¬ (j : Int) < (k : Int) := by omega
            refine AW_rg (tyOf_good _) [0, 4, 63] [500] (notIn_ok rfl) fun K' hK' => ?_
            repeat (refine sxf_next fun K2 hK2 => ?_; simp [dNum, rRow, rdr, dS, bs_size, bs_data, set11_lit, hkl, hix3, hjk2, hjk']; (repeat (refine ⟨by omega, ?_⟩)); refine hK2 _ ?_; clear hK2 K2)
            refine sxf_next fun K2 hK2 => ?_
            simp [dNum, rRow, rdr, dS, bs_size, bs_data, set11_lit, hkl, hix3, hjk2, hjk']
            refine callK.data (hix) (by simp; rfl) (by first | exact D.leGo_refl _ | simp [takeMap, List.map_map, Function.comp_def, D.le, D.le.go, D.le_refl, D.leGo_refl, dNum, rRow, rdr, dS, bs_size, bs_data, set11_lit, hkl, hix3, hjk2, hjk']) ?_
            refine hK2 _ ?_
            clear hK2 K2
            simp only [putd, upd_lst]
            repeat (refine sxf_next fun K2 hK2 => ?_; simp [dNum, rRow, rdr, dS, bs_size, bs_data, set11_lit, hkl, hix3, hjk2, hjk']; (repeat (refine ⟨by omega, ?_⟩)); refine hK2 _ ?_; clear hK2 K2)
            refine sxf_nil (hK' _ ?_)
            refine AW.st (by simp [dNum, rRow, rdr, dS, bs_size, bs_data, set11_lit, hkl, hix3, hjk2, hjk']; rfl) ?_
            clear hK' K'
            refine AW_cond false rfl (fun h => by cases h) (fun _ => ?_)
            refine AW_exit (hstop _ (atW_exit hat hk fun _ => ⟨hm, fun h => absurd h hjk'⟩) ?_)
            refine Imp.to' (notIn_ok rfl) (by simp [dNum, rRow, rdr, dS]) (by simp [dNum, rRow, rdr, dS])
        · have hix3 : Lib.indexByte set11 t[k] < 0 := hix2.2 hm
          refine AW_rg (tyOf_good _) [0, 4, 63] [500] (notIn_ok rfl) fun K' hK' => ?_
          repeat (refine sxf_next fun K2 hK2 => ?_; simp [dNum, rRow, rdr, dS, bs_size, bs_data, set11_lit, hkl, hix3]; (repeat (refine ⟨by omega, ?_⟩)); refine hK2 _ ?_; clear hK2 K2)
          refine sxf_next fun K2 hK2 => ?_
          simp [dNum, rRow, rdr, dS, bs_size, bs_data, set11_lit, hkl, hix3]
          refine callK.data (hix) (by simp; rfl) (by first | exact D.leGo_refl _ | simp [takeMap, List.map_map, Function.comp_def, D.le, D.le.go, D.le_refl, D.leGo_refl, dNum, rRow, rdr, dS, bs_size, bs_data, set11_lit, hkl, hix3]) ?_
          refine hK2 _ ?_
          clear hK2 K2
          simp only [putd, upd_lst]
          repeat (refine sxf_next fun K2 hK2 => ?_; simp [dNum, rRow, rdr, dS, bs_size, bs_data, set11_lit, hkl, hix3]; (repeat (refine ⟨by omega, ?_⟩)); refine hK2 _ ?_; clear hK2 K2)
          refine sxf_nil (hK' _ ?_)
          refine AW.st (by simp [dNum, rRow, rdr, dS, bs_size, bs_data, set11_lit, hkl, hix3]; rfl) ?_
          clear hK' K'
          refine AW_cond true rfl (fun _ => ?_) (fun h => by cases h)
          refine AW_skip (hgo _ (atW_next hat hkl (.inl hm)) hkl ?_)
          refine Imp.to' (notIn_ok rfl) (by simp [dNum, rRow, rdr, dS]) (by simp [dNum, rRow, rdr, dS])
      · obtain rfl : k = t.length := by omega
        by_cases hjk' : j < t.length
        · have hjk2 : (j : Int) < (t.length : Int) := by omega
          refine AW_rg (tyOf_good _) [0, 4, 63] [500] (notIn_ok rfl) fun K' hK' => ?_
          repeat (refine sxf_next fun K2 hK2 => ?_; simp [dNum, rRow, rdr, dS, bs_size, bs_data, set11_lit, hjk2, hjk']; (repeat (refine ⟨by omega, ?_⟩)); refine hK2 _ ?_; clear hK2 K2)
          refine sxf_nil (hK' _ ?_)
          refine AW.st (by simp [dNum, rRow, rdr, dS, bs_size, bs_data, set11_lit, hjk2, hjk']; rfl) ?_
          clear hK' K'
          refine AW_cond false rfl (fun h => by cases h) (fun _ => ?_)
          refine AW_exit (hstop _ (atW_exit hat hk fun h => absurd h hkl) ?_)
          refine Imp.to' (notIn_ok rfl) (by simp [dNum, rRow, rdr, dS]) (by simp [dNum, rRow, rdr, dS])
        · have hjk2 : ¬ (j : Int) < (t.length : Int) := by omega
          refine AW_rg (tyOf_good _) [0, 4, 63] [500] (notIn_ok rfl) fun K' hK' => ?_
          repeat (refine sxf_next fun K2 hK2 => ?_; simp [dNum, rRow, rdr, dS, bs_size, bs_data, set11_lit, hjk2, hjk']; (repeat (refine ⟨by omega, ?_⟩)); refine hK2 _ ?_; clear hK2 K2)
          refine sxf_nil (hK' _ ?_)
          refine AW.st (by simp [dNum, rRow, rdr, dS, bs_size, bs_data, set11_lit, hjk2, hjk']; rfl) ?_
          clear hK' K'
          refine AW_cond false rfl (fun h => by cases h) (fun _ => ?_)
          refine AW_exit (hstop _ (atW_exit hat hk fun h => absurd h hkl) ?_)
          refine Imp.to' (notIn_ok rfl) (by simp [dNum, rRow, rdr, dS]) (by simp [dNum, rRow, rdr, dS])
    · refine AW_block ?_
      refine AW_re (tyOf_good _) fun K' hK' => ?_
      repeat (refine sxf_next fun K2 hK2 => ?_; simp [dNum, rRow, rdr, dS]; (repeat (refine ⟨by omega, ?_⟩)); refine hK2 _ ?_; clear hK2 K2)
      refine sxf_nil (hK' _ ?_)
      clear hK' K'
      try simp only [thn, inb]
      refine Again.mk (k + 1) ⟨by omega, by omega, hn⟩ (by omega) ?_
      refine Imp.to' (notIn_ok rfl) (by simp [dNum, rRow, rdr, dS]) (by simp [dNum, rRow, rdr, dS])
    · subst he
      clear hK1 hK2
      have hws2 : List.take (wEnd t j - j) (List.drop j t) = wordS t j := hws
      refine AW_rd (tyOf_good _) (by kernel_rfl) [0, 4, 5] [500] (notIn_ok rfl) (by kernel_rfl) fun K' hK' => ?_
      repeat (refine sxd_next fun K2 hK2 => ?_; simp [dNum, rRow, rdr, dS, bs_size, bs_extract, hel, het, hws2]; (repeat (refine ⟨by omega, ?_⟩)); refine hK2 _ ?_; clear hK2 K2)
      refine sxd_nil (hK' _ ?_)
      refine AW.st (by simp [dNum, rRow, rdr, dS, bs_size, bs_extract, hel, het, hws2]; rfl) ?_
      clear hK' K'
      refine AW_then fun K3 hK3 => ?_
      by_cases hs : wordS t j = []
      · refine AW_rg (tyOf_good _) [0, 4, 5, 77] [500] (notIn_ok rfl) fun K' hK' => ?_
        repeat (refine sxf_next fun K2 hK2 => ?_; simp [dNum, rRow, rdr, dS, hs, bs_nil, bs_list, binS]; (repeat (refine ⟨by omega, ?_⟩)); refine hK2 _ ?_; clear hK2 K2)
        refine sxf_nil (hK' _ ?_)
        refine AW.st (by simp [dNum, rRow, rdr, dS, hs, bs_nil, bs_list, binS]; rfl) ?_
        clear hK' K'
        refine AW_cond true rfl (fun _ => ?_) (fun h => by cases h)
        refine AW_rg (tyOf_good _) [2, 3] [500] (notIn_ok rfl) fun K' hK' => ?_
        repeat (refine sxf_next fun K2 hK2 => ?_; simp [dNum, rRow, rdr, dS, dErr]; (repeat (refine ⟨by omega, ?_⟩)); refine hK2 _ ?_; clear hK2 K2)
        refine sxf_next fun K2 hK2 => ?_
        simp [dNum, rRow, rdr, dS, dErr]
        refine callK.mc (hf3) (by simp [dNum, rRow, rdr, dS, dErr]) (by simp [dNum, rRow, rdr, dS, dErr]) (by simp [dNum, rRow, rdr, dS, dErr]) (by simp [dNum, rRow, rdr, dS, dErr]) ?_
        simp [dNum, rRow, rdr, dS, dErr]
        refine hK2 _ ?_
        clear hK2 K2
        repeat (refine sxf_next fun K2 hK2 => ?_; simp [dNum, rRow, rdr, dS, dErr]; (repeat (refine ⟨by omega, ?_⟩)); refine hK2 _ ?_; clear hK2 K2)
        refine sxf_nil (hK' _ ?_)
        refine AW.st (by simp [dNum, rRow, rdr, dS, dErr]; rfl) ?_
        clear hK' K'
        refine AW_ret ?_
        simp [D.le, D.le.go, takeMap, dNum, rRow, rdr, dS, rRow, rdr, tupW, posR, dErr, bs_nil, hs]
      · have hse : (wordS t j == []) = false := by simpa using hs
        have hse2 : (wordS t j).isEmpty = false := by rw [List.isEmpty_eq_false_iff]; exact hs
        refine AW_rg (tyOf_good _) [0, 4, 5, 77] [500] (notIn_ok rfl) fun K' hK' => ?_
        repeat (refine sxf_next fun K2 hK2 => ?_; simp [dNum, rRow, rdr, dS, bs_nil, bs_list, binS, hs, hse, hse2]; (repeat (refine ⟨by omega, ?_⟩)); refine hK2 _ ?_; clear hK2 K2)
        refine sxf_nil (hK' _ ?_)
        refine AW.st (by simp [dNum, rRow, rdr, dS, bs_nil, bs_list, binS, hs, hse, hse2]; rfl) ?_
        clear hK' K'
        refine AW_cond false rfl (fun h => by cases h) (fun _ => ?_)
        refine AW_skip (hK3 _ ?_)
        refine AW_then fun K4 hK4 => ?_
        cases hn : nameF (wordS t j) with
        | false =>
          rw [hn] at hname
          refine AW_rg (tyOf_good _) [0, 4, 5, 82] [500] (notIn_ok rfl) fun K' hK' => ?_
          repeat (refine sxf_next fun K2 hK2 => ?_; simp [dNum, rRow, rdr, dS]; (repeat (refine ⟨by omega, ?_⟩)); refine hK2 _ ?_; clear hK2 K2)
          refine sxf_next fun K2 hK2 => ?_
          simp [dNum, rRow, rdr, dS]
          refine callK.data (hname) (by simp; rfl) (by first | exact D.leGo_refl _ | simp [takeMap, List.map_map, Function.comp_def, D.le, D.le.go, D.le_refl, D.leGo_refl, dNum, rRow, rdr, dS]) ?_
          refine hK2 _ ?_
          clear hK2 K2
          simp only [putd, upd_lst]
          repeat (refine sxf_next fun K2 hK2 => ?_; simp [dNum, rRow, rdr, dS]; (repeat (refine ⟨by omega, ?_⟩)); refine hK2 _ ?_; clear hK2 K2)
          refine sxf_nil (hK' _ ?_)
          refine AW.st (by simp [dNum, rRow, rdr, dS]; rfl) ?_
          clear hK' K'
          refine AW_cond true rfl (fun _ => ?_) (fun h => by cases h)
          refine AW_rg (tyOf_good _) [2, 3] [500] (notIn_ok rfl) fun K' hK' => ?_
          repeat (refine sxf_next fun K2 hK2 => ?_; simp [dNum, rRow, rdr, dS, dErr]; (repeat (refine ⟨by omega, ?_⟩)); refine hK2 _ ?_; clear hK2 K2)
          refine sxf_next fun K2 hK2 => ?_
          simp [dNum, rRow, rdr, dS, dErr]
          refine callK.mc (hf5) (by simp [dNum, rRow, rdr, dS, dErr]) (by simp [dNum, rRow, rdr, dS, dErr]) (by simp [dNum, rRow, rdr, dS, dErr]) (by simp [dNum, rRow, rdr, dS, dErr]) ?_
          simp [dNum, rRow, rdr, dS, dErr]
          refine hK2 _ ?_
          clear hK2 K2
          repeat (refine sxf_next fun K2 hK2 => ?_; simp [dNum, rRow, rdr, dS, dErr]; (repeat (refine ⟨by omega, ?_⟩)); refine hK2 _ ?_; clear hK2 K2)
          refine sxf_nil (hK' _ ?_)
          refine AW.st (by simp [dNum, rRow, rdr, dS, dErr]; rfl) ?_
          clear hK' K'
          refine AW_ret ?_
          simp [D.le, D.le.go, takeMap, dNum, rRow, rdr, dS, rRow, rdr, tupW, posR, dErr, bs_nil, hs, hn]
        | true =>
          rw [hn] at hname
          refine AW_rg (tyOf_good _) [0, 4, 5, 82] [500] (notIn_ok rfl) fun K' hK' => ?_
          repeat (refine sxf_next fun K2 hK2 => ?_; simp [dNum, rRow, rdr, dS]; (repeat (refine ⟨by omega, ?_⟩)); refine hK2 _ ?_; clear hK2 K2)
          refine sxf_next fun K2 hK2 => ?_
          simp [dNum, rRow, rdr, dS]
          refine callK.data (hname) (by simp; rfl) (by first | exact D.leGo_refl _ | simp [takeMap, List.map_map, Function.comp_def, D.le, D.le.go, D.le_refl, D.leGo_refl, dNum, rRow, rdr, dS]) ?_
          refine hK2 _ ?_
          clear hK2 K2
          simp only [putd, upd_lst]
          repeat (refine sxf_next fun K2 hK2 => ?_; simp [dNum, rRow, rdr, dS]; (repeat (refine ⟨by omega, ?_⟩)); refine hK2 _ ?_; clear hK2 K2)
          refine sxf_nil (hK' _ ?_)
          refine AW.st (by simp [dNum, rRow, rdr, dS]; rfl) ?_
          clear hK' K'
          refine AW_cond false rfl (fun h => by cases h) (fun _ => ?_)
          refine AW_skip (hK4 _ ?_)
          refine AW_rg (tyOf_good _) [5] [500] (notIn_ok rfl) fun K' hK' => ?_
          repeat (refine sxf_next fun K2 hK2 => ?_; simp [dNum, rRow, rdr, dS]; (repeat (refine ⟨by omega, ?_⟩)); refine hK2 _ ?_; clear hK2 K2)
          refine sxf_nil (hK' _ ?_)
          refine AW.st (by simp [dNum, rRow, rdr, dS]; rfl) ?_
          clear hK' K'
          refine AW_rg (tyOf_good _) [2, 3] [500] (notIn_ok rfl) fun K' hK' => ?_
          repeat (refine sxf_next fun K2 hK2 => ?_; simp [dNum, rRow, rdr, dS]; (repeat (refine ⟨by omega, ?_⟩)); refine hK2 _ ?_; clear hK2 K2)
          refine sxf_nil (hK' _ ?_)
          refine AW.st (by simp [dNum, rRow, rdr, dS]; rfl) ?_
          clear hK' K'
          refine AW_ret ?_
          simp [D.le, D.le.go, takeMap, dNum, rRow, rdr, dS, rRow, rdr, tupW, posR, hs, hn]
end Go.Proofs.YtfehigldhedkgaaDoor

/-
  Several, and lengths: plain.
-/
namespace Go.Proofs.YtfehigldhedkgaaDoor
set_option linter.unusedSimpArgs false
set_option linter.unusedVariables false

/-! ### Several: how far one looks -/
theorem sev_fuel {α : Type} {t : List UInt8} {s : UInt8} {f : Nat → Rs α} (hf : Goes t f) : ∀ (n m i : Nat) (acc : List α), i ≤ t.length → t.length + 1 - i ≤ n → t.length + 1 - i ≤ m → sevR t s f n i acc = sevR t s f m i acc
  | 0, _, i, _, hi, h, _ => by omega
  | _ + 1, 0, i, _, hi, _, h => by omega
  | n + 1, m + 1, i, acc, hi, h1, h2 => by
    rw [sevR, sevR]
    cases hfi : f i with
    | err c p q => rfl
    | ok x j =>
      obtain ⟨g1, g2⟩ := hf i x j hi hfi
      obtain ⟨t1, t2, t3⟩ := take_goes (c := s) g2
      dsimp only
      split
      · exact sev_fuel hf n m _ _ t2 (by omega) (by omega)
      · rfl
def sevA {α : Type} (t : List UInt8) (s : UInt8) (f : Nat → Rs α) (i : Nat) (acc : List α) : Rs (List α) := sevR t s f (t.length + 1 - i) i acc
theorem sev_step {α : Type} {t : List UInt8} {s : UInt8} {f : Nat → Rs α} (hf : Goes t f) {i : Nat} (hi : i ≤ t.length) (acc : List α) : sevA t s f i acc = match f i with
    | .err c p _ => .err c p 0
    | .ok x j => if (takeM t s j).1 then sevA t s f (takeM t s j).2 (acc ++ [x]) else .ok (acc ++ [x]) (takeM t s j).2 := by
  unfold sevA
  obtain ⟨n, hn⟩ : ∃ n, t.length + 1 - i = n + 1 := ⟨t.length - i, by omega⟩
  rw [hn, sevR]
  cases hfi : f i with
  | err c p q => rfl
  | ok x j =>
    obtain ⟨g1, g2⟩ := hf i x j hi hfi
    obtain ⟨t1, t2, t3⟩ := take_goes (c := s) g2
    dsimp only
    split
    · exact sev_fuel hf _ _ _ _ t2 (by omega) (by omega)
    · rfl
theorem sev_q {α : Type} {t : List UInt8} {s : UInt8} {f : Nat → Rs α} : ∀ (n i : Nat) (acc : List α) {c : Int} {p q : Nat}, sevR t s f n i acc = .err c p q → q = 0
  | 0, _, _, _, _, _, h => by simp only [sevR, Rs.err.injEq] at h; omega
  | n + 1, i, acc, c, p, q, h => by
    rw [sevR] at h
    split at h
    · simp only [Rs.err.injEq] at h; omega
    · split at h
      · exact sev_q n _ _ h
      · cases h

/-! ### And, Or -/
theorem colA_ne {l : List Ex} (h : l.length ≠ 1) : colA l = .and l := by
  match l, h with
  | [], _ => rfl
  | [_], h => exact absurd rfl h
  | _ :: _ :: _, _ => rfl
theorem colO_ne {l : List Ex} (h : l.length ≠ 1) : colO l = .or l := by
  match l, h with
  | [], _ => rfl
  | [_], h => exact absurd rfl h
  | _ :: _ :: _, _ => rfl

/-! ### Lengths -/
theorem Xlens_cons (x : List UInt8) (r : List (List UInt8)) : Lib.lens (x :: r) = x.length + Lib.lens r := by simp [Lib.lens]
theorem wr_two : ∀ (e : Ex) (k : Nat), (wrE e k).length ≤ (wrE e 2).length ∧ (wrE e 2).length ≤ (wrE e k).length + 2 := by
  intro e k
  cases e <;> simp only [wrE] <;> (try split) <;> simp <;> omega
theorem mem_lens {t : List (List UInt8)} {x : List UInt8} (h : x ∈ t) : x.length ≤ Lib.lens t := by
  induction t with
  | nil => simp at h
  | cons y t ih =>
    rw [Xlens_cons]
    rcases List.mem_cons.1 h with rfl | h
    · omega
    · have := ih h; omega
theorem lens_join (t : List (List UInt8)) (sep : List UInt8) : Lib.lens t ≤ (Lib.join t sep).length := by
  cases t with
  | nil => simp [Lib.lens]
  | cons x r => rw [Lib.join_length]; omega
theorem count_join (t : List (List UInt8)) (sep : List UInt8) : sep.length * (t.length - 1) ≤ (Lib.join t sep).length := by
  cases t with
  | nil => simp
  | cons x r => rw [Lib.join_length]; simp

end Go.Proofs.YtfehigldhedkgaaDoor

/-
  The reader of expressions: several, and, or, one; Parse.
-/
namespace Go.Proofs.YtfehigldhedkgaaDoor
set_option linter.unusedSimpArgs false
set_option linter.unusedVariables false
open Go.Av

/-! ### Expressions as data -/
mutual
def dE : Ex → D
  | .cst b => .ifc 104 (.v (.bool b))
  | .bit s => .ifc 105 (dS s)
  | .rise s => .ifc 106 (dS s)
  | .fall s => .ifc 107 (dS s)
  | .not e => .ifc 109 (.agg [dE e])
  | .and l => .ifc 111 (.sl none (dEs l))
  | .or l => .ifc 114 (.sl none (dEs l))
def dEs : List Ex → List (List D)
  | [] => []
  | e :: l => [dE e] :: dEs l
end
theorem dEs_map : ∀ l : List Ex, dEs l = l.map fun e => [dE e]
  | [] => rfl
  | e :: l => by rw [dEs, dEs_map l]; rfl
theorem dE_ifc (e : Ex) : ∃ t y, dE e = .ifc t y := by
  cases e <;> simp only [dE] <;> exact ⟨_, _, rfl⟩
def dEl (l : List Ex) : D := .sl none (l.map fun e => [dE e])

/-- What comes with an error. -/
def dQ (q : Nat) : D := if q = 1 then .ifc 106 (dS []) else if q = 2 then .ifc 107 (dS []) else if q = 3 then .ifc 105 (dS []) else .v .nilIface
def tupX : Rs Ex → D
  | .ok x _ => .tup [dE x, .v .nilIface]
  | .err c p q => .tup [dQ q, dErr (some (c, some p))]
def tupL : Rs (List Ex) → D
  | .ok l _ => .tup [dEl l, .v .nilIface]
  | .err c p _ => .tup [.sl (some false) [], dErr (some (c, some p))]

set_option maxHeartbeats 8000000 in
theorem several_spec (G : Glob) (t : List UInt8) (ht : t.length ≤ 2000) (g : FuncId) (s : UInt8) (sn : Int) (hsn : (s.toNat : Int) = sn) (d : Int) (f : Nat → Rs Ex) (hf : Goes t f)
    (hcall : ∀ i, i ≤ t.length → MC Tryd.prog G [500] g [.ref 500 0 0, .d (dNum d)] (hlst (rRow t i)) (.d (tupX (f i))) (hlst (rRow t (posR (f i))))) (i : Nat) (hi : i ≤ t.length) :
    MC Tryd.prog G [500] 75 [.ref 500 0 0, .d (.v (.int .u8 sn)), .d (dNum d), .bm g (.ref 500 0 0)] (hlst (rRow t i)) (.d (tupL (sevA t s f i []))) (hlst (rRow t (posR (sevA t s f i [])))) := by
  generalize hR : sevA t s f i [] = R
  refine MC.of_body (tyOf_good _) Tryd.func75 rfl rfl (rs := [.tmp 8, .tmp 9]) Tryd.results75 (by simp [Tryd.ntmps75]) rfl fun X => ?_
  simp only [Tryd.ntmps75]
  refine AW_rg (tyOf_good _) [0, 1, 2, 3] [500] (notIn_ok rfl) fun K' hK' => ?_
  repeat (refine sxf_next fun K2 hK2 => ?_; simp [dNum, rRow, rdr, dS]; (repeat (refine ⟨by omega, ?_⟩)); refine hK2 _ ?_; clear hK2 K2)
  refine sxf_nil (hK' _ ?_)
  refine AW.st (by simp [dNum, rRow, rdr, dS]; rfl) ?_
  clear hK' K'
  refine AW_rg (tyOf_good _) [0, 1, 2, 3, 10] [500] (notIn_ok rfl) fun K' hK' => ?_
  repeat (refine sxf_next fun K2 hK2 => ?_; simp [dNum, rRow, rdr, dS]; (repeat (refine ⟨by omega, ?_⟩)); refine hK2 _ ?_; clear hK2 K2)
  refine sxf_nil (hK' _ ?_)
  refine AW.st (by simp [dNum, rRow, rdr, dS]; rfl) ?_
  clear hK' K'
  refine AW_for (S := Nat × List Ex) (fun z => z.1 ≤ t.length ∧ z.2.length ≤ z.1 ∧ sevA t s f z.1 z.2 = R) (fun z => ⟨lst [(0, .ref 500 0 0), (1, .d (.v (.int .u8 sn))), (2, .d (dNum d)), (3, .bm g (.ref 500 0 0)), (10, .own 300 0 z.2.length)], hlst [(500, .box 99 [.d (dS t), int z.1]), (300, .sl 51 1 (z.2.map fun e => [dE e]))]⟩) (fun z => t.length - z.1) (i, []) ?_ ⟨hi, by simp, hR⟩ ?_
  · refine (Imp.adopt 10 300 51 1 rfl rfl).trans ?_
    refine Imp.to' (notIn_ok rfl) (by simp [dNum, rRow, rdr, dS]) (by simp [dNum, rRow, rdr, dS])
  · rintro ⟨k, acc⟩ ⟨hk, hacc, hs⟩
    dsimp only at hk hacc hs ⊢
    have hc := hcall k hk
    rw [sev_step hf hk] at hs
    refine AW_block ?_
    cases hfk : f k with
    | err c p q =>
      rw [hfk] at hc hs
      dsimp only at hs
      subst hs
      refine AW_rg (tyOf_good _) [0, 1, 2, 3, 10, 11, 12] [500, 300] (notIn_ok rfl) fun K' hK' => ?_
      repeat (refine sxf_next fun K2 hK2 => ?_; simp [dNum, rRow, rdr, dS, tupX, dErr]; (repeat (refine ⟨by omega, ?_⟩)); refine hK2 _ ?_; clear hK2 K2)
      refine sxf_next fun K2 hK2 => ?_
      simp [dNum, rRow, rdr, dS, tupX, dErr]
      refine callK.mc (hc) (by simp [dNum, rRow, rdr, dS, tupX, dErr]) (by simp [dNum, rRow, rdr, dS, tupX, dErr]) (by simp [dNum, rRow, rdr, dS, tupX, dErr]) (by simp [dNum, rRow, rdr, dS, tupX, dErr]) ?_
      simp [dNum, rRow, rdr, dS, tupX, dErr]
      refine hK2 _ ?_
      clear hK2 K2
      repeat (refine sxf_next fun K2 hK2 => ?_; simp [dNum, rRow, rdr, dS, tupX, dErr]; (repeat (refine ⟨by omega, ?_⟩)); refine hK2 _ ?_; clear hK2 K2)
      refine sxf_nil (hK' _ ?_)
      refine AW.st (by simp [dNum, rRow, rdr, dS, tupX, dErr]; rfl) ?_
      clear hK' K'
      refine AW_then fun K1 hK1 => ?_
      refine AW_rg (tyOf_good _) [0, 1, 2, 3, 10, 11, 12, 20] [500, 300] (notIn_ok rfl) fun K' hK' => ?_
      repeat (refine sxf_next fun K2 hK2 => ?_; simp [dNum, rRow, rdr, dS]; (repeat (refine ⟨by omega, ?_⟩)); refine hK2 _ ?_; clear hK2 K2)
      refine sxf_nil (hK' _ ?_)
      refine AW.st (by simp [dNum, rRow, rdr, dS]; rfl) ?_
      clear hK' K'
      refine AW_cond true rfl (fun _ => ?_) (fun h => by cases h)
      refine AW_rg (tyOf_good _) [8, 9] [500] (notIn_ok rfl) fun K' hK' => ?_
      repeat (refine sxf_next fun K2 hK2 => ?_; simp [dNum, rRow, rdr, dS]; (repeat (refine ⟨by omega, ?_⟩)); refine hK2 _ ?_; clear hK2 K2)
      refine sxf_nil (hK' _ ?_)
      refine AW.st (by simp [dNum, rRow, rdr, dS]; rfl) ?_
      clear hK' K'
      refine AW_ret ?_
      simp [D.le, D.le.go, takeMap, dNum, rRow, rdr, dS, rRow, rdr, tupL, posR, dErr]
    | ok x j =>
      rw [hfk] at hc hs
      dsimp only at hs
      obtain ⟨g1, g2⟩ := hf k x j hk hfk
      have htk := take_spec G t j (by omega) g2 s
      rw [hsn] at htk
      obtain ⟨t1, t2, t3⟩ := take_goes (c := s) g2
      obtain ⟨tx, cx, hx⟩ := dE_ifc x
      refine AW_rg (tyOf_good _) [0, 1, 2, 3, 10, 11, 12] [500, 300] (notIn_ok rfl) fun K' hK' => ?_
      repeat (refine sxf_next fun K2 hK2 => ?_; simp [dNum, rRow, rdr, dS, tupX, posR, hx]; (repeat (refine ⟨by omega, ?_⟩)); refine hK2 _ ?_; clear hK2 K2)
      refine sxf_next fun K2 hK2 => ?_
      simp [dNum, rRow, rdr, dS, tupX, posR, hx]
      refine callK.mc (hc) (by simp [dNum, rRow, rdr, dS, tupX, posR, hx]) (by simp [dNum, rRow, rdr, dS, tupX, posR, hx]) (by simp [dNum, rRow, rdr, dS, tupX, posR, hx]) (by simp [dNum, rRow, rdr, dS, tupX, posR, hx]) ?_
      simp [dNum, rRow, rdr, dS, tupX, posR, hx]
      refine hK2 _ ?_
      clear hK2 K2
      repeat (refine sxf_next fun K2 hK2 => ?_; simp [dNum, rRow, rdr, dS, tupX, posR, hx]; (repeat (refine ⟨by omega, ?_⟩)); refine hK2 _ ?_; clear hK2 K2)
      refine sxf_nil (hK' _ ?_)
      refine AW.st (by simp [dNum, rRow, rdr, dS, tupX, posR, hx]; rfl) ?_
      clear hK' K'
      refine AW_then fun K1 hK1 => ?_
      refine AW_rg (tyOf_good _) [0, 1, 2, 3, 10, 11, 12, 20] [500, 300] (notIn_ok rfl) fun K' hK' => ?_
      repeat (refine sxf_next fun K2 hK2 => ?_; simp [dNum, rRow, rdr, dS]; (repeat (refine ⟨by omega, ?_⟩)); refine hK2 _ ?_; clear hK2 K2)
      refine sxf_nil (hK' _ ?_)
      refine AW.st (by simp [dNum, rRow, rdr, dS]; rfl) ?_
      clear hK' K'
      refine AW_cond false rfl (fun h => by cases h) (fun _ => ?_)
      refine AW_skip (hK1 _ ?_)
      refine AW_rg (tyOf_good _) [0, 1, 2, 3, 10] [500, 300] (notIn_ok rfl) fun K' hK' => ?_
      repeat (refine sxf_next fun K2 hK2 => ?_; simp [dNum, rRow, rdr, dS, List.take_of_length_le]; (repeat (refine ⟨by omega, ?_⟩)); refine hK2 _ ?_; clear hK2 K2)
      refine sxf_nil (hK' _ ?_)
      refine AW.st (by simp [dNum, rRow, rdr, dS, List.take_of_length_le]; rfl) ?_
      clear hK' K'
      cases htm : takeM t s j with
      | mk b k2 =>
      rw [htm] at hs htk t1 t2 t3
      dsimp only at hs htk t1 t2 t3
      cases b with
      | true =>
        rw [if_pos rfl] at hs
        have hlt := t3 rfl
        refine AW_rg (tyOf_good _) [0, 1, 2, 3, 10, 29] [500, 300] (notIn_ok rfl) fun K' hK' => ?_
        repeat (refine sxf_next fun K2 hK2 => ?_; simp [dNum, rRow, rdr, dS]; (repeat (refine ⟨by omega, ?_⟩)); refine hK2 _ ?_; clear hK2 K2)
        refine sxf_next fun K2 hK2 => ?_
        simp [dNum, rRow, rdr, dS]
        refine callK.mc (htk) (by simp [dNum, rRow, rdr, dS]) (by simp [dNum, rRow, rdr, dS]) (by simp [dNum, rRow, rdr, dS]) (by simp [dNum, rRow, rdr, dS]) ?_
        simp [dNum, rRow, rdr, dS]
        refine hK2 _ ?_
        clear hK2 K2
        repeat (refine sxf_next fun K2 hK2 => ?_; simp [dNum, rRow, rdr, dS]; (repeat (refine ⟨by omega, ?_⟩)); refine hK2 _ ?_; clear hK2 K2)
        refine sxf_nil (hK' _ ?_)
        refine AW.st (by simp [dNum, rRow, rdr, dS]; rfl) ?_
        clear hK' K'
        refine AW_cond false rfl (fun h => by cases h) (fun _ => ?_)
        refine AW_skip ?_
        refine Again.mk (k2, acc ++ [x]) ⟨t2, by simp; omega, hs⟩ (by dsimp only; omega) ?_
        refine Imp.to' (notIn_ok rfl) (by simp [dNum, rRow, rdr, dS, hx]) (by simp [dNum, rRow, rdr, dS, hx])
      | false =>
        rw [if_neg (by simp)] at hs
        subst hs
        refine AW_rg (tyOf_good _) [0, 1, 2, 3, 10, 29] [500, 300] (notIn_ok rfl) fun K' hK' => ?_
        repeat (refine sxf_next fun K2 hK2 => ?_; simp [dNum, rRow, rdr, dS]; (repeat (refine ⟨by omega, ?_⟩)); refine hK2 _ ?_; clear hK2 K2)
        refine sxf_next fun K2 hK2 => ?_
        simp [dNum, rRow, rdr, dS]
        refine callK.mc (htk) (by simp [dNum, rRow, rdr, dS]) (by simp [dNum, rRow, rdr, dS]) (by simp [dNum, rRow, rdr, dS]) (by simp [dNum, rRow, rdr, dS]) ?_
        simp [dNum, rRow, rdr, dS]
        refine hK2 _ ?_
        clear hK2 K2
        repeat (refine sxf_next fun K2 hK2 => ?_; simp [dNum, rRow, rdr, dS]; (repeat (refine ⟨by omega, ?_⟩)); refine hK2 _ ?_; clear hK2 K2)
        refine sxf_nil (hK' _ ?_)
        refine AW.st (by simp [dNum, rRow, rdr, dS]; rfl) ?_
        clear hK' K'
        refine AW_cond true rfl (fun _ => ?_) (fun h => by cases h)
        refine AW.imp (Imp.freeze 300 (by decide)) ?_
        refine AW.st (by simp [dNum, rRow, rdr, dS]; rfl) ?_
        refine AW_rg (tyOf_good _) [8, 9] [500] (notIn_ok rfl) fun K' hK' => ?_
        repeat (refine sxf_next fun K2 hK2 => ?_; simp [dNum, rRow, rdr, dS]; (repeat (refine ⟨by omega, ?_⟩)); refine hK2 _ ?_; clear hK2 K2)
        refine sxf_nil (hK' _ ?_)
        refine AW.st (by simp [dNum, rRow, rdr, dS]; rfl) ?_
        clear hK' K'
        refine AW_ret ?_
        simp [D.le, D.le.go, takeMap, dNum, rRow, rdr, dS, rRow, rdr, tupL, dEl, posR, hx, D.le_refl, D.leGo_refl]

set_option maxHeartbeats 8000000 in
theorem and_spec (G : Glob) (t : List UInt8) (ht : t.length ≤ 2000) (d : Nat) (hone : ∀ i, i ≤ t.length → MC Tryd.prog G [500] 94 [.ref 500 0 0, .d (dNum d)] (hlst (rRow t i)) (.d (tupX (oneR t d i))) (hlst (rRow t (posR (oneR t d i))))) (i : Nat) (hi : i ≤ t.length) :
    MC Tryd.prog G [500] 76 [.ref 500 0 0, .d (dNum d)] (hlst (rRow t i)) (.d (tupX (andR t (oneR t d) i))) (hlst (rRow t (posR (andR t (oneR t d) i)))) := by
  have hsv := several_spec G t ht 94 38 38 rfl d (oneR t d) (one_goes t d) hone i hi
  have hR : andR t (oneR t d) i = (sevA t 38 (oneR t d) i []).map colA := rfl
  rw [hR]
  have hq : ∀ {c : Int} {p q : Nat}, sevA t 38 (oneR t d) i [] = .err c p q → q = 0 := fun h => sev_q _ _ _ h
  cases hs : sevA t 38 (oneR t d) i [] with
  | err c p q =>
    obtain rfl := hq hs
    rw [hs] at hsv
    refine MC.of_body (tyOf_good _) Tryd.func76 rfl rfl (rs := [.tmp 4, .tmp 5]) Tryd.results76 (by simp [Tryd.ntmps76]) rfl fun X => ?_
    simp only [Tryd.ntmps76]
    refine AW_rg (tyOf_good _) [0, 1] [500] (notIn_ok rfl) fun K' hK' => ?_
    repeat (refine sxf_next fun K2 hK2 => ?_; simp [dNum, rRow, rdr, dS]; (repeat (refine ⟨by omega, ?_⟩)); refine hK2 _ ?_; clear hK2 K2)
    refine sxf_nil (hK' _ ?_)
    refine AW.st (by simp [dNum, rRow, rdr, dS]; rfl) ?_
    clear hK' K'
    refine AW_rg (tyOf_good _) [6, 7] [500] (notIn_ok rfl) fun K' hK' => ?_
    repeat (refine sxf_next fun K2 hK2 => ?_; simp [dNum, rRow, rdr, dS, tupL, dErr]; (repeat (refine ⟨by omega, ?_⟩)); refine hK2 _ ?_; clear hK2 K2)
    refine sxf_next fun K2 hK2 => ?_
    simp [dNum, rRow, rdr, dS, tupL, dErr]
    refine callK.mc (hsv) (by simp [dNum, rRow, rdr, dS, tupL, dErr]) (by simp [dNum, rRow, rdr, dS, tupL, dErr]) (by simp [dNum, rRow, rdr, dS, tupL, dErr]) (by simp [dNum, rRow, rdr, dS, tupL, dErr]) ?_
    simp [dNum, rRow, rdr, dS, tupL, dErr]
    refine hK2 _ ?_
    clear hK2 K2
    repeat (refine sxf_next fun K2 hK2 => ?_; simp [dNum, rRow, rdr, dS, tupL, dErr]; (repeat (refine ⟨by omega, ?_⟩)); refine hK2 _ ?_; clear hK2 K2)
    refine sxf_nil (hK' _ ?_)
    refine AW.st (by simp [dNum, rRow, rdr, dS, tupL, dErr]; rfl) ?_
    clear hK' K'
    refine AW_then fun K1 hK1 => ?_
    refine AW_rg (tyOf_good _) [6, 7, 17] [500] (notIn_ok rfl) fun K' hK' => ?_
    repeat (refine sxf_next fun K2 hK2 => ?_; simp [dNum, rRow, rdr, dS]; (repeat (refine ⟨by omega, ?_⟩)); refine hK2 _ ?_; clear hK2 K2)
    refine sxf_nil (hK' _ ?_)
    refine AW.st (by simp [dNum, rRow, rdr, dS]; rfl) ?_
    clear hK' K'
    refine AW_cond true rfl (fun _ => ?_) (fun h => by cases h)
    refine AW_rg (tyOf_good _) [4, 5] [500] (notIn_ok rfl) fun K' hK' => ?_
    repeat (refine sxf_next fun K2 hK2 => ?_; simp [dNum, rRow, rdr, dS]; (repeat (refine ⟨by omega, ?_⟩)); refine hK2 _ ?_; clear hK2 K2)
    refine sxf_nil (hK' _ ?_)
    refine AW.st (by simp [dNum, rRow, rdr, dS]; rfl) ?_
    clear hK' K'
    refine AW_ret ?_
    simp [D.le, D.le.go, takeMap, dNum, rRow, rdr, dS, rRow, rdr, tupX, posR, dErr, Rs.map, dQ]
  | ok l p =>
    rw [hs] at hsv
    by_cases hl : l.length = 1
    · obtain ⟨x, rfl⟩ := List.length_eq_one_iff.1 hl
      obtain ⟨tx, cx, hx⟩ := dE_ifc x
      refine MC.of_body (tyOf_good _) Tryd.func76 rfl rfl (rs := [.tmp 4, .tmp 5]) Tryd.results76 (by simp [Tryd.ntmps76]) rfl fun X => ?_
      simp only [Tryd.ntmps76]
      refine AW_rg (tyOf_good _) [0, 1] [500] (notIn_ok rfl) fun K' hK' => ?_
      repeat (refine sxf_next fun K2 hK2 => ?_; simp [dNum, rRow, rdr, dS]; (repeat (refine ⟨by omega, ?_⟩)); refine hK2 _ ?_; clear hK2 K2)
      refine sxf_nil (hK' _ ?_)
      refine AW.st (by simp [dNum, rRow, rdr, dS]; rfl) ?_
      clear hK' K'
      refine AW_rg (tyOf_good _) [6, 7] [500] (notIn_ok rfl) fun K' hK' => ?_
      repeat (refine sxf_next fun K2 hK2 => ?_; simp [dNum, rRow, rdr, dS, tupL, dEl, hx]; (repeat (refine ⟨by omega, ?_⟩)); refine hK2 _ ?_; clear hK2 K2)
      refine sxf_next fun K2 hK2 => ?_
      simp [dNum, rRow, rdr, dS, tupL, dEl, hx]
      refine callK.mc (hsv) (by simp [dNum, rRow, rdr, dS, tupL, dEl, hx]) (by simp [dNum, rRow, rdr, dS, tupL, dEl, hx]) (by simp [dNum, rRow, rdr, dS, tupL, dEl, hx]) (by simp [dNum, rRow, rdr, dS, tupL, dEl, hx]) ?_
      simp [dNum, rRow, rdr, dS, tupL, dEl, hx]
      refine hK2 _ ?_
      clear hK2 K2
      repeat (refine sxf_next fun K2 hK2 => ?_; simp [dNum, rRow, rdr, dS, tupL, dEl, hx]; (repeat (refine ⟨by omega, ?_⟩)); refine hK2 _ ?_; clear hK2 K2)
      refine sxf_nil (hK' _ ?_)
      refine AW.st (by simp [dNum, rRow, rdr, dS, tupL, dEl, hx]; rfl) ?_
      clear hK' K'
      refine AW_then fun K1 hK1 => ?_
      refine AW_rg (tyOf_good _) [6, 7, 17] [500] (notIn_ok rfl) fun K' hK' => ?_
      repeat (refine sxf_next fun K2 hK2 => ?_; simp [dNum, rRow, rdr, dS]; (repeat (refine ⟨by omega, ?_⟩)); refine hK2 _ ?_; clear hK2 K2)
      refine sxf_nil (hK' _ ?_)
      refine AW.st (by simp [dNum, rRow, rdr, dS]; rfl) ?_
      clear hK' K'
      refine AW_cond false rfl (fun h => by cases h) (fun _ => ?_)
      refine AW_skip (hK1 _ ?_)
      refine AW_then fun K2 hK2 => ?_
      refine AW_rg (tyOf_good _) [6, 21] [500] (notIn_ok rfl) fun K' hK' => ?_
      repeat (refine sxf_next fun K2 hK2 => ?_; simp [dNum, rRow, rdr, dS]; (repeat (refine ⟨by omega, ?_⟩)); refine hK2 _ ?_; clear hK2 K2)
      refine sxf_nil (hK' _ ?_)
      refine AW.st (by simp [dNum, rRow, rdr, dS]; rfl) ?_
      clear hK' K'
      refine AW_cond true rfl (fun _ => ?_) (fun h => by cases h)
      refine AW_rg (tyOf_good _) [4, 5] [500] (notIn_ok rfl) fun K' hK' => ?_
      repeat (refine sxf_next fun K2 hK2 => ?_; simp [dNum, rRow, rdr, dS]; (repeat (refine ⟨by omega, ?_⟩)); refine hK2 _ ?_; clear hK2 K2)
      refine sxf_nil (hK' _ ?_)
      refine AW.st (by simp [dNum, rRow, rdr, dS]; rfl) ?_
      clear hK' K'
      refine AW_ret ?_
      simp [D.le, D.le.go, takeMap, dNum, rRow, rdr, dS, rRow, rdr, tupX, posR, Rs.map, colA, hx, D.le_refl]
    · have hl' : ¬ (l.length : Int) = 1 := by omega
      have hcol := colA_ne hl
      refine MC.of_body (tyOf_good _) Tryd.func76 rfl rfl (rs := [.tmp 4, .tmp 5]) Tryd.results76 (by simp [Tryd.ntmps76]) rfl fun X => ?_
      simp only [Tryd.ntmps76]
      refine AW_rg (tyOf_good _) [0, 1] [500] (notIn_ok rfl) fun K' hK' => ?_
      repeat (refine sxf_next fun K2 hK2 => ?_; simp [dNum, rRow, rdr, dS]; (repeat (refine ⟨by omega, ?_⟩)); refine hK2 _ ?_; clear hK2 K2)
      refine sxf_nil (hK' _ ?_)
      refine AW.st (by simp [dNum, rRow, rdr, dS]; rfl) ?_
      clear hK' K'
      refine AW_rg (tyOf_good _) [6, 7] [500] (notIn_ok rfl) fun K' hK' => ?_
      repeat (refine sxf_next fun K2 hK2 => ?_; simp [dNum, rRow, rdr, dS, tupL, dEl]; (repeat (refine ⟨by omega, ?_⟩)); refine hK2 _ ?_; clear hK2 K2)
      refine sxf_next fun K2 hK2 => ?_
      simp [dNum, rRow, rdr, dS, tupL, dEl]
      refine callK.mc (hsv) (by simp [dNum, rRow, rdr, dS, tupL, dEl]) (by simp [dNum, rRow, rdr, dS, tupL, dEl]) (by simp [dNum, rRow, rdr, dS, tupL, dEl]) (by simp [dNum, rRow, rdr, dS, tupL, dEl]) ?_
      simp [dNum, rRow, rdr, dS, tupL, dEl]
      refine hK2 _ ?_
      clear hK2 K2
      repeat (refine sxf_next fun K2 hK2 => ?_; simp [dNum, rRow, rdr, dS, tupL, dEl]; (repeat (refine ⟨by omega, ?_⟩)); refine hK2 _ ?_; clear hK2 K2)
      refine sxf_nil (hK' _ ?_)
      refine AW.st (by simp [dNum, rRow, rdr, dS, tupL, dEl]; rfl) ?_
      clear hK' K'
      refine AW_then fun K1 hK1 => ?_
      refine AW_rg (tyOf_good _) [6, 7, 17] [500] (notIn_ok rfl) fun K' hK' => ?_
      repeat (refine sxf_next fun K2 hK2 => ?_; simp [dNum, rRow, rdr, dS]; (repeat (refine ⟨by omega, ?_⟩)); refine hK2 _ ?_; clear hK2 K2)
      refine sxf_nil (hK' _ ?_)
      refine AW.st (by simp [dNum, rRow, rdr, dS]; rfl) ?_
      clear hK' K'
      refine AW_cond false rfl (fun h => by cases h) (fun _ => ?_)
      refine AW_skip (hK1 _ ?_)
      refine AW_then fun K2 hK2 => ?_
      refine AW_rg (tyOf_good _) [6, 21] [500] (notIn_ok rfl) fun K' hK' => ?_
      repeat (refine sxf_next fun K2 hK2 => ?_; simp [dNum, rRow, rdr, dS, hl, hl']; (repeat (refine ⟨by omega, ?_⟩)); refine hK2 _ ?_; clear hK2 K2)
      refine sxf_nil (hK' _ ?_)
      refine AW.st (by simp [dNum, rRow, rdr, dS, hl, hl']; rfl) ?_
      clear hK' K'
      refine AW_cond false rfl (fun h => by cases h) (fun _ => ?_)
      refine AW_skip (hK2 _ ?_)
      refine AW_rg (tyOf_good _) [4, 5] [500] (notIn_ok rfl) fun K' hK' => ?_
      repeat (refine sxf_next fun K2 hK2 => ?_; simp [dNum, rRow, rdr, dS]; (repeat (refine ⟨by omega, ?_⟩)); refine hK2 _ ?_; clear hK2 K2)
      refine sxf_nil (hK' _ ?_)
      refine AW.st (by simp [dNum, rRow, rdr, dS]; rfl) ?_
      clear hK' K'
      refine AW_ret ?_
      simp [D.le, D.le.go, takeMap, dNum, rRow, rdr, dS, rRow, rdr, tupX, posR, Rs.map, hcol, dE, dEs_map, D.le_refl, D.leGo_refl]
set_option maxHeartbeats 8000000 in
theorem or_spec (G : Glob) (t : List UInt8) (ht : t.length ≤ 2000) (d : Nat) (hone : ∀ i, i ≤ t.length → MC Tryd.prog G [500] 94 [.ref 500 0 0, .d (dNum d)] (hlst (rRow t i)) (.d (tupX (oneR t d i))) (hlst (rRow t (posR (oneR t d i))))) (i : Nat) (hi : i ≤ t.length) :
    MC Tryd.prog G [500] 48 [.ref 500 0 0, .d (dNum d)] (hlst (rRow t i)) (.d (tupX (orR t (oneR t d) i))) (hlst (rRow t (posR (orR t (oneR t d) i)))) := by
  have hsv := several_spec G t ht 76 124 124 rfl d (andR t (oneR t d)) (and_goes (one_goes t d)) (and_spec G t ht d hone) i hi
  have hR : orR t (oneR t d) i = (sevA t 124 (andR t (oneR t d)) i []).map colO := rfl
  rw [hR]
  have hq : ∀ {c : Int} {p q : Nat}, sevA t 124 (andR t (oneR t d)) i [] = .err c p q → q = 0 := fun h => sev_q _ _ _ h
  cases hs : sevA t 124 (andR t (oneR t d)) i [] with
  | err c p q =>
    obtain rfl := hq hs
    rw [hs] at hsv
    refine MC.of_body (tyOf_good _) Tryd.func48 rfl rfl (rs := [.tmp 4, .tmp 5]) Tryd.results48 (by simp [Tryd.ntmps48]) rfl fun X => ?_
    simp only [Tryd.ntmps48]
    refine AW_rg (tyOf_good _) [0, 1] [500] (notIn_ok rfl) fun K' hK' => ?_
    repeat (refine sxf_next fun K2 hK2 => ?_; simp [dNum, rRow, rdr, dS]; (repeat (refine ⟨by omega, ?_⟩)); refine hK2 _ ?_; clear hK2 K2)
    refine sxf_nil (hK' _ ?_)
    refine AW.st (by simp [dNum, rRow, rdr, dS]; rfl) ?_
    clear hK' K'
    refine AW_rg (tyOf_good _) [6, 7] [500] (notIn_ok rfl) fun K' hK' => ?_
    repeat (refine sxf_next fun K2 hK2 => ?_; simp [dNum, rRow, rdr, dS, tupL, dErr]; (repeat (refine ⟨by omega, ?_⟩)); refine hK2 _ ?_; clear hK2 K2)
    refine sxf_next fun K2 hK2 => ?_
    simp [dNum, rRow, rdr, dS, tupL, dErr]
    refine callK.mc (hsv) (by simp [dNum, rRow, rdr, dS, tupL, dErr]) (by simp [dNum, rRow, rdr, dS, tupL, dErr]) (by simp [dNum, rRow, rdr, dS, tupL, dErr]) (by simp [dNum, rRow, rdr, dS, tupL, dErr]) ?_
    simp [dNum, rRow, rdr, dS, tupL, dErr]
    refine hK2 _ ?_
    clear hK2 K2
    repeat (refine sxf_next fun K2 hK2 => ?_; simp [dNum, rRow, rdr, dS, tupL, dErr]; (repeat (refine ⟨by omega, ?_⟩)); refine hK2 _ ?_; clear hK2 K2)
    refine sxf_nil (hK' _ ?_)
    refine AW.st (by simp [dNum, rRow, rdr, dS, tupL, dErr]; rfl) ?_
    clear hK' K'
    refine AW_then fun K1 hK1 => ?_
    refine AW_rg (tyOf_good _) [6, 7, 17] [500] (notIn_ok rfl) fun K' hK' => ?_
    repeat (refine sxf_next fun K2 hK2 => ?_; simp [dNum, rRow, rdr, dS]; (repeat (refine ⟨by omega, ?_⟩)); refine hK2 _ ?_; clear hK2 K2)
    refine sxf_nil (hK' _ ?_)
    refine AW.st (by simp [dNum, rRow, rdr, dS]; rfl) ?_
    clear hK' K'
    refine AW_cond true rfl (fun _ => ?_) (fun h => by cases h)
    refine AW_rg (tyOf_good _) [4, 5] [500] (notIn_ok rfl) fun K' hK' => ?_
    repeat (refine sxf_next fun K2 hK2 => ?_; simp [dNum, rRow, rdr, dS]; (repeat (refine ⟨by omega, ?_⟩)); refine hK2 _ ?_; clear hK2 K2)
    refine sxf_nil (hK' _ ?_)
    refine AW.st (by simp [dNum, rRow, rdr, dS]; rfl) ?_
    clear hK' K'
    refine AW_ret ?_
    simp [D.le, D.le.go, takeMap, dNum, rRow, rdr, dS, rRow, rdr, tupX, posR, dErr, Rs.map, dQ]
  | ok l p =>
    rw [hs] at hsv
    by_cases hl : l.length = 1
    · obtain ⟨x, rfl⟩ := List.length_eq_one_iff.1 hl
      obtain ⟨tx, cx, hx⟩ := dE_ifc x
      refine MC.of_body (tyOf_good _) Tryd.func48 rfl rfl (rs := [.tmp 4, .tmp 5]) Tryd.results48 (by simp [Tryd.ntmps48]) rfl fun X => ?_
      simp only [Tryd.ntmps48]
      refine AW_rg (tyOf_good _) [0, 1] [500] (notIn_ok rfl) fun K' hK' => ?_
      repeat (refine sxf_next fun K2 hK2 => ?_; simp [dNum, rRow, rdr, dS]; (repeat (refine ⟨by omega, ?_⟩)); refine hK2 _ ?_; clear hK2 K2)
      refine sxf_nil (hK' _ ?_)
      refine AW.st (by simp [dNum, rRow, rdr, dS]; rfl) ?_
      clear hK' K'
      refine AW_rg (tyOf_good _) [6, 7] [500] (notIn_ok rfl) fun K' hK' => ?_
      repeat (refine sxf_next fun K2 hK2 => ?_; simp [dNum, rRow, rdr, dS, tupL, dEl, hx]; (repeat (refine ⟨by omega, ?_⟩)); refine hK2 _ ?_; clear hK2 K2)
      refine sxf_next fun K2 hK2 => ?_
      simp [dNum, rRow, rdr, dS, tupL, dEl, hx]
      refine callK.mc (hsv) (by simp [dNum, rRow, rdr, dS, tupL, dEl, hx]) (by simp [dNum, rRow, rdr, dS, tupL, dEl, hx]) (by simp [dNum, rRow, rdr, dS, tupL, dEl, hx]) (by simp [dNum, rRow, rdr, dS, tupL, dEl, hx]) ?_
      simp [dNum, rRow, rdr, dS, tupL, dEl, hx]
      refine hK2 _ ?_
      clear hK2 K2
      repeat (refine sxf_next fun K2 hK2 => ?_; simp [dNum, rRow, rdr, dS, tupL, dEl, hx]; (repeat (refine ⟨by omega, ?_⟩)); refine hK2 _ ?_; clear hK2 K2)
      refine sxf_nil (hK' _ ?_)
      refine AW.st (by simp [dNum, rRow, rdr, dS, tupL, dEl, hx]; rfl) ?_
      clear hK' K'
      refine AW_then fun K1 hK1 => ?_
      refine AW_rg (tyOf_good _) [6, 7, 17] [500] (notIn_ok rfl) fun K' hK' => ?_
      repeat (refine sxf_next fun K2 hK2 => ?_; simp [dNum, rRow, rdr, dS]; (repeat (refine ⟨by omega, ?_⟩)); refine hK2 _ ?_; clear hK2 K2)
      refine sxf_nil (hK' _ ?_)
      refine AW.st (by simp [dNum, rRow, rdr, dS]; rfl) ?_
      clear hK' K'
      refine AW_cond false rfl (fun h => by cases h) (fun _ => ?_)
      refine AW_skip (hK1 _ ?_)
      refine AW_then fun K2 hK2 => ?_
      refine AW_rg (tyOf_good _) [6, 21] [500] (notIn_ok rfl) fun K' hK' => ?_
      repeat (refine sxf_next fun K2 hK2 => ?_; simp [dNum, rRow, rdr, dS]; (repeat (refine ⟨by omega, ?_⟩)); refine hK2 _ ?_; clear hK2 K2)
      refine sxf_nil (hK' _ ?_)
      refine AW.st (by simp [dNum, rRow, rdr, dS]; rfl) ?_
      clear hK' K'
      refine AW_cond true rfl (fun _ => ?_) (fun h => by cases h)
      refine AW_rg (tyOf_good _) [4, 5] [500] (notIn_ok rfl) fun K' hK' => ?_
      repeat (refine sxf_next fun K2 hK2 => ?_; simp [dNum, rRow, rdr, dS]; (repeat (refine ⟨by omega, ?_⟩)); refine hK2 _ ?_; clear hK2 K2)
      refine sxf_nil (hK' _ ?_)
      refine AW.st (by simp [dNum, rRow, rdr, dS]; rfl) ?_
      clear hK' K'
      refine AW_ret ?_
      simp [D.le, D.le.go, takeMap, dNum, rRow, rdr, dS, rRow, rdr, tupX, posR, Rs.map, colO, hx, D.le_refl]
    · have hl' : ¬ (l.length : Int) = 1 := by omega
      have hcol := colO_ne hl
      refine MC.of_body (tyOf_good _) Tryd.func48 rfl rfl (rs := [.tmp 4, .tmp 5]) Tryd.results48 (by simp [Tryd.ntmps48]) rfl fun X => ?_
      simp only [Tryd.ntmps48]
      refine AW_rg (tyOf_good _) [0, 1] [500] (notIn_ok rfl) fun K' hK' => ?_
      repeat (refine sxf_next fun K2 hK2 => ?_; simp [dNum, rRow, rdr, dS]; (repeat (refine ⟨by omega, ?_⟩)); refine hK2 _ ?_; clear hK2 K2)
      refine sxf_nil (hK' _ ?_)
      refine AW.st (by simp [dNum, rRow, rdr, dS]; rfl) ?_
      clear hK' K'
      refine AW_rg (tyOf_good _) [6, 7] [500] (notIn_ok rfl) fun K' hK' => ?_
      repeat (refine sxf_next fun K2 hK2 => ?_; simp [dNum, rRow, rdr, dS, tupL, dEl]; (repeat (refine ⟨by omega, ?_⟩)); refine hK2 _ ?_; clear hK2 K2)
      refine sxf_next fun K2 hK2 => ?_
      simp [dNum, rRow, rdr, dS, tupL, dEl]
      refine callK.mc (hsv) (by simp [dNum, rRow, rdr, dS, tupL, dEl]) (by simp [dNum, rRow, rdr, dS, tupL, dEl]) (by simp [dNum, rRow, rdr, dS, tupL, dEl]) (by simp [dNum, rRow, rdr, dS, tupL, dEl]) ?_
      simp [dNum, rRow, rdr, dS, tupL, dEl]
      refine hK2 _ ?_
      clear hK2 K2
      repeat (refine sxf_next fun K2 hK2 => ?_; simp [dNum, rRow, rdr, dS, tupL, dEl]; (repeat (refine ⟨by omega, ?_⟩)); refine hK2 _ ?_; clear hK2 K2)
      refine sxf_nil (hK' _ ?_)
      refine AW.st (by simp [dNum, rRow, rdr, dS, tupL, dEl]; rfl) ?_
      clear hK' K'
      refine AW_then fun K1 hK1 => ?_
      refine AW_rg (tyOf_good _) [6, 7, 17] [500] (notIn_ok rfl) fun K' hK' => ?_
      repeat (refine sxf_next fun K2 hK2 => ?_; simp [dNum, rRow, rdr, dS]; (repeat (refine ⟨by omega, ?_⟩)); refine hK2 _ ?_; clear hK2 K2)
      refine sxf_nil (hK' _ ?_)
      refine AW.st (by simp [dNum, rRow, rdr, dS]; rfl) ?_
      clear hK' K'
      refine AW_cond false rfl (fun h => by cases h) (fun _ => ?_)
      refine AW_skip (hK1 _ ?_)
      refine AW_then fun K2 hK2 => ?_
      refine AW_rg (tyOf_good _) [6, 21] [500] (notIn_ok rfl) fun K' hK' => ?_
      repeat (refine sxf_next fun K2 hK2 => ?_; simp [dNum, rRow, rdr, dS, hl, hl']; (repeat (refine ⟨by omega, ?_⟩)); refine hK2 _ ?_; clear hK2 K2)
      refine sxf_nil (hK' _ ?_)
      refine AW.st (by simp [dNum, rRow, rdr, dS, hl, hl']; rfl) ?_
      clear hK' K'
      refine AW_cond false rfl (fun h => by cases h) (fun _ => ?_)
      refine AW_skip (hK2 _ ?_)
      refine AW_rg (tyOf_good _) [4, 5] [500] (notIn_ok rfl) fun K' hK' => ?_
      repeat (refine sxf_next fun K2 hK2 => ?_; simp [dNum, rRow, rdr, dS]; (repeat (refine ⟨by omega, ?_⟩)); refine hK2 _ ?_; clear hK2 K2)
      refine sxf_nil (hK' _ ?_)
      refine AW.st (by simp [dNum, rRow, rdr, dS]; rfl) ?_
      clear hK' K'
      refine AW_ret ?_
      simp [D.le, D.le.go, takeMap, dNum, rRow, rdr, dS, rRow, rdr, tupX, posR, Rs.map, hcol, dE, dEs_map, D.le_refl, D.leGo_refl]

end Go.Proofs.YtfehigldhedkgaaDoor

/-
  Regions that draw their order, in which some operations (a map's entries, as its text writes them) come in whatever order.
-/
namespace Go.Av
set_option linter.unusedSimpArgs false
set_option linter.unusedVariables false
set_option linter.unusedSectionVars false

def isIns : Op → Bool
  | .insert _ _ _ _ => true
  | _ => false
def onIns (G : Glob) (e : Env) (o : Op) (r : Nat) : Prop := match o with
  | .insert _ m _ _ => aeval G e m = some (.mp r)
  | _ => False
def touchP (G : Glob) (fp : List (Nat × Nat)) (e : Env) (i : Nat) (o : Op) : Prop := match fp.lookup i with
  | some r => if isIns o = true then onIns G e o r else onRow G e o r
  | none => True
section
variable {P : Program} {T : Ty} {Mv X : Nat → Prop} {G : Glob} {N : Nat} {ops : Array Oper} {fp : List (Nat × Nat)}

theorem Ex.touchI {o : Oper} {e : Env} {H H' : Heap} {x : AV} {r : Nat} (ht : onIns G e o.op r) (h : Ex P T Mv G o e H x H') :
    ∃ u, H' = pset H r u ∧ ∀ H2, H2 r = H r → Ex P T Mv G o e H2 x (pset H2 r u) := by
  obtain ⟨dst, op, type, pos, after, guard⟩ := o
  dsimp only at ht
  cases op <;> simp only [onIns] at ht
  case insert t m k v =>
    unfold Ex at h
    simp only [isCall, isWr, if_true] at h
    obtain ⟨c, h1, h3⟩ := h
    cases dst with
    | some d => simp [wr] at h1
    | none =>
      simp only [wr, ht] at h1
      split at h1
      · rename_i q key y hm hk hv
        simp only [Option.some.injEq, AV.mp.injEq] at hm
        subst hm
        split at h1
        · rename_i ty ents hr
          split at h1
          · rename_i c' ents' hp
            simp only [Option.some.injEq, Prod.mk.injEq, St.mk.injEq, true_and] at h1
            obtain ⟨rfl, rfl, rfl⟩ := h1
            refine ⟨some (.mp ty ents'), rfl, fun H2 h2 => ?_⟩
            unfold Ex
            simp only [isCall, isWr, if_true]
            exact ⟨_, by simp only [wr, ht, hk, hv, h2, hr, hp]; rfl, h3⟩
          · cases h1
        · cases h1
      · cases h1
theorem Ex.touchP {o : Oper} {e : Env} {H H' : Heap} {x : AV} {r i : Nat} (hr : fp.lookup i = some r) (ht : Av.touchP G fp e i o.op) (h : Ex P T Mv G o e H x H') :
    ∃ u, H' = pset H r u ∧ ∀ H2, H2 r = H r → Ex P T Mv G o e H2 x (pset H2 r u) := by
  unfold Av.touchP at ht
  simp only [hr] at ht
  split at ht
  · exact h.touchI ht
  · exact h.touch ht

/-! ### The region -/

/-! ### As one computes it -/

def stepP (P : Program) (T : Ty) (Mv : Nat → Prop) (G : Glob) (N : Nat) (ops : Array Oper) (fp : List (Nat × Nat)) (i : Nat) (o : Oper) (σ : St) (K : St → Prop) : Prop := okDst N o ∧ match wantedS ops σ.env o with
  | some b => if b = true then touchP G fp σ.env i o.op ∧ (match isCall o.op with
    | some c => False
    | none => plainS T G Mv o σ K) else K ⟨putd σ.env o.dst und, σ.H⟩
  | none => False
/-! ### The entries of a map, in whatever order -/
attribute [simp] stepP touchP isIns onIns
end
end Go.Av

/-
  Calls of a method by its name, without arguments: the method is found by the dynamic type.
-/
namespace Go.Av
set_option linter.unusedSimpArgs false
set_option linter.unusedVariables false
set_option linter.unusedSectionVars false

/-- Of type t, the method of this name is function g, and takes the value as it is. -/
def Invs (P : Program) (t : TypeId) (name : String) (g : FuncId) : Prop := ∀ (v : Value) (w : World), (invoke (.fn (.method name) #[]) #[.iface t v]).run P w = .ok (.enter g #[v]) w
def invOf : Op → Option (Operand × String)
  | .call { callee := .invoke r name, args := az, argTypes := _ } => if az.isEmpty then some (r, name) else none
  | _ => none
def stepI (P : Program) (T : Ty) (Mv X : Nat → Prop) (G : Glob) (N : Nat) (ops : Array Oper) (o : Oper) (σ : St) (K : St → Prop) : Prop := okDst N o ∧ match wantedS ops σ.env o with
  | some b => if b = true then (match invOf o.op with
    | some (r, name) => ∃ t x g, aeval G σ.env r = some (.d (.ifc t x)) ∧ Invs P t name g ∧ callK P Mv X G N g [.d x] σ o.dst K
    | none => ex1 P T Mv X G N o σ K) else K ⟨putd σ.env o.dst und, σ.H⟩
  | none => False
def sxi (P : Program) (T : Ty) (Mv X : Nat → Prop) (G : Glob) (N : Nat) (ops : Array Oper) (K : St → Prop) : List Oper → St → Prop
  | [], σ => K σ
  | o :: rest, σ => stepI P T Mv X G N ops o σ (sxi P T Mv X G N ops K rest)

section
variable {P : Program} {T : Ty} {Mv X : Nat → Prop} {G : Glob} {N : Nat} {w : World} {μ : Mu} {a : Act} {σ : St}

theorem sxi_next {ops : Array Oper} {K : St → Prop} {o : Oper} {rest : List Oper} (h : ∀ K' : St → Prop, (∀ τ, sxi P T Mv X G N ops K rest τ → K' τ) → stepI P T Mv X G N ops o σ K') : sxi P T Mv X G N ops K (o :: rest) σ := h _ fun _ h => h
theorem sxi_nil {ops : Array Oper} {K : St → Prop} (h : K σ) : sxi P T Mv X G N ops K [] σ := h

theorem sxi_ok (hg : Good P T) {ops : Array Oper} {Q : Exit → St → Prop} {w0 : World} {μ0 : Mu} : ∀ (l : List Oper) (k : Nat) (w : World) (μ : Mu) (a : Act) (σ : St), (∀ j, l[j]? = ops[k + j]?) → sxi P T Mv X G N ops (fun σ' => Q .normal σ') l σ → In w X G μ N a σ → Ev Mv w0 μ0 w μ →
    wpOps P ops (After Mv X G N w0 μ0 Q) (List.range' k l.length) a w := by
  intro l
  induction l with
  | nil => intro k w μ a σ _ h hi hev; exact ⟨μ, σ, h, hi, hev⟩
  | cons o l ih =>
    intro k w μ a σ hl h hi hev
    have h0 : ops[k]? = some o := by simpa using (hl 0).symm
    have hl' : ∀ j, l[j]? = ops[k + 1 + j]? := fun j => by have := hl (j + 1); simpa [Nat.add_assoc, Nat.add_comm 1 j] using this
    obtain ⟨hd, h⟩ := h
    have hd' : ∀ d, o.dst = some d → d < N := fun d e => by unfold okDst at hd; rw [e] at hd; exact hd
    rw [List.length_cons, List.range'_succ]
    simp only [wpOps, h0]
    split at h
    · rename_i b hb
      rw [wantedS_ok hi hb]
      split at h
      · rename_i hbt
        subst hbt
        rw [if_pos rfl]
        split at h
        · rename_i r name hio
          obtain ⟨t, x, g, he, hinv, hfun, hcall⟩ := h
          obtain ⟨v, hv, hr⟩ := (hi.eval he).data.ifc_inv
          have ho : ∃ at', o.op = .call { callee := .invoke r name, args := #[], argTypes := at' } := by
            unfold invOf at hio
            split at hio
            · rename_i r' n' az at' hop
              split at hio
              · rename_i hem
                simp only [Option.some.injEq, Prod.mk.injEq] at hio
                obtain ⟨rfl, rfl⟩ := hio
                have : az = #[] := by simpa using hem
                subst this
                exact ⟨_, hop⟩
              · cases hio
            · cases hio
          obtain ⟨at', ho⟩ := ho
          refine .inl ?_
          unfold Oper.wp
          have hex : (execOp a.eval o).run P w = .ok (.enter g #[v]) w := by
            have : (execOp a.eval o) = (invoke (.fn (.method name) #[]) #[.iface t v]) := by
              simp [execOp, ho, resolve, hv]
            rw [this]
            exact hinv v w
          rw [hex]
          refine (hcall w μ a #[v] hi rfl fun i u y hu hy => ?_).mono fun e w' ⟨v, x, σ', μ', he, k', hin, hrv, hev'⟩ => ?_
          · cases i with
            | zero => simp at hu hy; subst hu hy; exact .d hr
            | succ i => simp at hu
          · subst he
            exact ih (k + 1) w' μ' _ _ hl' k' (hin.put hrv hd') (hev.trans hev')
        · exact .inl (ex1_ok hg hi hd' h fun w' μ' a' σ' k' hin hev' => ih (k + 1) w' μ' a' σ' hl' k' hin (hev.trans hev'))
      · rename_i hbf
        rw [if_neg (by simpa using hbf)]
        exact ih (k + 1) w μ _ _ hl' h (hi.put (.d (.v _)) hd') hev
    · exact h.elim

theorem AW_regionI (hg : Good P T) {id : Nat} {ops : Array Oper} {Q : Exit → St → Prop} (h : sxi P T Mv X G N ops (fun σ' => Q .normal σ') ops.toList σ) : AW P Mv X G N (.region id ops false) Q σ := fun w μ a hi => by
  refine wp_region ?_
  have := sxi_ok hg ops.toList 0 w μ a σ (by simp) h hi (.refl _ w μ)
  rwa [← List.range_eq_range', Array.length_toList] at this
theorem AW_ri (hg : Good P T) (l ns : List Nat) (hM : ∀ r, ns.contains r = false → Mv r) {id : Nat} {ops : Array Oper} {y : Code} {Q : Exit → St → Prop}
    (h : ∀ K : St → Prop, (∀ τ : St, AW P Mv X G N y Q (τ.norm l ns) → K τ) → sxi P T Mv X G N ops K ops.toList σ) : AW P Mv X G N (.seq (.region id ops false) y) Q σ :=
  AW_seq (AW_regionI hg (h _ fun _ h => h.norm l ns hM))
attribute [simp] stepI invOf ex1
end
end Go.Av

/-
  Expressions written: write, join, Text.
-/
namespace Go.Proofs.YtfehigldhedkgaaDoor
set_option linter.unusedSimpArgs false
set_option linter.unusedVariables false
open Go.Av

set_option maxHeartbeats 8000000 in
theorem wjoin_spec (G : Glob) (l : List Ex) (sep : List UInt8) (k : Nat) (ar : Bool) (hl : l.length ≤ 2^31) (hlen : (Lib.join (l.map fun e => wrE e k) sep).length ≤ 2^31) (hch : ∀ e ∈ l, PureC Tryd.prog G 184 [dE e, dNum k] (dS (wrE e k))) :
    PureC Tryd.prog G 185 [dEl l, dS sep, dNum k, .v (.bool ar)] (dS (if ar then [40] ++ Lib.join (l.map fun e => wrE e k) sep ++ [41] else Lib.join (l.map fun e => wrE e k) sep)) := by
  have hjoin := join_spec G (l.map fun e => wrE e k) sep (by omega) (by simp; omega)
  rw [show ((l.map fun e => wrE e k).map fun s => [dS s]) = l.map fun e => [dS (wrE e k)] by rw [List.map_map]; rfl] at hjoin
  refine PureC.of_body (tyOf_good _) Tryd.func185 rfl rfl (rs := [.tmp 8]) Tryd.results185 (by simp [Tryd.ntmps185]) fun X => ?_
  simp only [Tryd.ntmps185, List.map]
  refine AW_rg (tyOf_good _) [0, 1, 2, 3] [] (fun _ _ => trivial) fun K' hK' => ?_
  repeat (refine sxf_next fun K2 hK2 => ?_; simp [dNum, dEl]; (repeat (refine ⟨by omega, ?_⟩)); refine hK2 _ ?_; clear hK2 K2)
  refine sxf_nil (hK' _ ?_)
  refine AW.st (by simp [dNum, dEl]; rfl) ?_
  clear hK' K'
  refine AW_rg (tyOf_good _) [0, 1, 2, 3, 9] [] (fun _ _ => trivial) fun K' hK' => ?_
  repeat (refine sxf_next fun K2 hK2 => ?_; simp [dNum, dEl]; (repeat (refine ⟨by omega, ?_⟩)); refine hK2 _ ?_; clear hK2 K2)
  refine sxf_nil (hK' _ ?_)
  refine AW.st (by simp [dNum, dEl]; rfl) ?_
  clear hK' K'
  refine AW_then fun K1 hK1 => ?_
  refine AW_rg (tyOf_good _) [1, 2, 3, 9, 12, 13, 14] [] (fun _ _ => trivial) fun K' hK' => ?_
  repeat (refine sxf_next fun K2 hK2 => ?_; simp [dNum, dEl]; (repeat (refine ⟨by omega, ?_⟩)); refine hK2 _ ?_; clear hK2 K2)
  refine sxf_nil (hK' _ ?_)
  refine AW.st (by simp [dNum, dEl]; rfl) ?_
  clear hK' K'
  refine AW_for (S := Nat) (fun i => i ≤ l.length) (fun i => ⟨lst [(1, .d (dS sep)), (2, .d (dNum k)), (3, .d (.v (.bool ar))), (9, .own 300 0 i), (12, .d (.sl none (l.map fun e => [dE e]))), (13, int l.length), (14, int i)], hlst [(300, .sl 9 1 (List.take i (l.map fun e => [dS (wrE e k)])))]⟩) (fun i => l.length - i) 0 ?_ (by omega) ?_
  · refine (Imp.adopt 9 300 9 1 rfl rfl).trans ?_
    refine Imp.to' (fun _ _ => trivial) (by simp [dNum, dEl, dS]) (by simp [dNum, dEl, dS])
  · intro i hi
    refine AW_rg (tyOf_good _) [1, 2, 3, 9, 12, 13, 14, 15] [300] (fun _ _ => trivial) fun K' hK' => ?_
    repeat (refine sxf_next fun K2 hK2 => ?_; simp [dNum, dEl]; (repeat (refine ⟨by omega, ?_⟩)); refine hK2 _ ?_; clear hK2 K2)
    refine sxf_nil (hK' _ ?_)
    refine AW.st (by simp [dNum, dEl]; rfl) ?_
    clear hK' K'
    refine AW_then fun K2 hK2 => ?_
    refine AW_cond' (b := i < l.length) (by simp [D.le, D.le.go, takeMap, dNum, dEl]) (fun hc => ?_) (fun hc => ?_)
    · have hil : i < l.length := hc
      obtain ⟨ti, ci, hci⟩ := dE_ifc l[i]
      have hcc := hch _ (List.getElem_mem hil)
      rw [hci] at hcc
      have htk : ∀ g : Ex → List D, List.take (i + 1) (List.map g l) = List.take i (List.map g l) ++ [g l[i]] := fun g => by
        rw [List.take_succ_eq_append_getElem (by simp; exact hil), List.getElem_map]
      refine AW_skip (hK2 _ ?_)
      refine AW_then fun K3 hK3 => ?_
      refine AW_block ?_
      refine AW_rg (tyOf_good _) [1, 2, 3, 9, 11, 12, 13, 14] [300] (fun _ _ => trivial) fun K' hK' => ?_
      repeat (refine sxf_next fun K2 hK2 => ?_; simp [dNum, dEl, hil, hci]; (repeat (refine ⟨by omega, ?_⟩)); refine hK2 _ ?_; clear hK2 K2)
      refine sxf_nil (hK' _ ?_)
      refine AW.st (by simp [dNum, dEl, hil, hci]; rfl) ?_
      clear hK' K'
      refine AW_re (tyOf_good _) fun K' hK' => ?_
      repeat (refine sxf_next fun K2 hK2 => ?_; simp [dNum, dEl, dS, List.take_take]; (repeat (refine ⟨by omega, ?_⟩)); refine hK2 _ ?_; clear hK2 K2)
      refine sxf_next fun K2 hK2 => ?_
      simp [dNum, dEl, dS, List.take_take]
      refine callK.data (hcc) (by simp; rfl) (by first | exact D.leGo_refl _ | simp [takeMap, List.map_map, Function.comp_def, D.le, D.le.go, D.le_refl, D.leGo_refl, dNum, dEl, dS, List.take_take]) ?_
      refine hK2 _ ?_
      clear hK2 K2
      simp only [putd, upd_lst]
      repeat (refine sxf_next fun K2 hK2 => ?_; simp [dNum, dEl, dS, List.take_take]; (repeat (refine ⟨by omega, ?_⟩)); refine hK2 _ ?_; clear hK2 K2)
      refine sxf_nil (hK' _ ?_)
      clear hK' K'
      refine hK3 _ (AW.norm [1, 2, 3, 9, 12, 13, 14] [300] (fun _ _ => trivial) (AW.st (by simp [dNum, dEl, dS, List.take_take]; rfl) ?_))
      refine AW_re (tyOf_good _) fun K' hK' => ?_
      repeat (refine sxf_next fun K2 hK2 => ?_; simp [dNum, dEl]; (repeat (refine ⟨by omega, ?_⟩)); refine hK2 _ ?_; clear hK2 K2)
      refine sxf_nil (hK' _ ?_)
      clear hK' K'
      try simp only [thn, inb]
      refine Again.mk (i + 1) (by omega) (by omega) ?_
      refine Imp.to' (fun _ _ => trivial) (by simp [dNum, dEl, htk, dS]) (by simp [dNum, dEl, htk, dS])
    · obtain rfl : i = l.length := by omega
      refine AW_exit (hK1 _ ?_)
      have htkl : ∀ g : Ex → List D, List.take l.length (l.map g) = l.map g := fun g => List.take_of_length_le (by simp)
      refine AW.imp (Imp.freeze 300 trivial) ?_
      refine AW.st (by simp [dNum, dEl, htkl]; rfl) ?_
      refine AW_then fun K4 hK4 => ?_
      refine AW_rg (tyOf_good _) [1, 9, 25] [] (fun _ _ => trivial) fun K' hK' => ?_
      repeat (refine sxf_next fun K2 hK2 => ?_; simp [dNum, dEl]; (repeat (refine ⟨by omega, ?_⟩)); refine hK2 _ ?_; clear hK2 K2)
      refine sxf_nil (hK' _ ?_)
      refine AW.st (by simp [dNum, dEl]; rfl) ?_
      clear hK' K'
      have h1 : binS .add ⟨#[40]⟩ (bs (Lib.join (l.map fun e => wrE e k) sep)) = some (True, .string (bs (40 :: Lib.join (l.map fun e => wrE e k) sep))) := binS_bs [40] _ (by simp; omega)
      have h2 : binS .add (bs (40 :: Lib.join (l.map fun e => wrE e k) sep)) ⟨#[41]⟩ = some (True, .string (bs (40 :: (Lib.join (l.map fun e => wrE e k) sep ++ [41])))) := binS_bs (40 :: _) [41] (by simp; omega)
      cases ar with
      | true =>
        refine AW_cond true rfl (fun _ => ?_) (fun h => by cases h)
        refine AW_rg (tyOf_good _) [8] [] (fun _ _ => trivial) fun K' hK' => ?_
        repeat (refine sxf_next fun K2 hK2 => ?_; simp [dNum, dEl, dS, h1, h2]; (repeat (refine ⟨by omega, ?_⟩)); refine hK2 _ ?_; clear hK2 K2)
        refine sxf_next fun K2 hK2 => ?_
        simp [dNum, dEl, dS, h1, h2]
        refine callK.data (hjoin) (by simp; rfl) (by first | exact D.leGo_refl _ | simp [takeMap, List.map_map, Function.comp_def, D.le, D.le.go, D.le_refl, D.leGo_refl, dNum, dEl, dS, h1, h2]) ?_
        refine hK2 _ ?_
        clear hK2 K2
        simp only [putd, upd_lst]
        repeat (refine sxf_next fun K2 hK2 => ?_; simp [dNum, dEl, dS, h1, h2]; (repeat (refine ⟨by omega, ?_⟩)); refine hK2 _ ?_; clear hK2 K2)
        refine sxf_nil (hK' _ ?_)
        refine AW.st (by simp [dNum, dEl, dS, h1, h2]; rfl) ?_
        clear hK' K'
        refine AW_ret ?_
        simp [D.le, D.le.go, takeMap, dNum, dEl, dS]
      | false =>
        refine AW_cond false rfl (fun h => by cases h) (fun _ => ?_)
        refine AW_skip (hK4 _ ?_)
        refine AW_rg (tyOf_good _) [8] [] (fun _ _ => trivial) fun K' hK' => ?_
        repeat (refine sxf_next fun K2 hK2 => ?_; simp [dNum, dEl, dS]; (repeat (refine ⟨by omega, ?_⟩)); refine hK2 _ ?_; clear hK2 K2)
        refine sxf_next fun K2 hK2 => ?_
        simp [dNum, dEl, dS]
        refine callK.data (hjoin) (by simp; rfl) (by first | exact D.leGo_refl _ | simp [takeMap, List.map_map, Function.comp_def, D.le, D.le.go, D.le_refl, D.leGo_refl, dNum, dEl, dS]) ?_
        refine hK2 _ ?_
        clear hK2 K2
        simp only [putd, upd_lst]
        repeat (refine sxf_next fun K2 hK2 => ?_; simp [dNum, dEl, dS]; (repeat (refine ⟨by omega, ?_⟩)); refine hK2 _ ?_; clear hK2 K2)
        refine sxf_nil (hK' _ ?_)
        refine AW.st (by simp [dNum, dEl, dS]; rfl) ?_
        clear hK' K'
        refine AW_ret ?_
        simp [D.le, D.le.go, takeMap, dNum, dEl, dS]
end Go.Proofs.YtfehigldhedkgaaDoor

/-
  Expressions written: write, Text.
-/
namespace Go.Proofs.YtfehigldhedkgaaDoor
set_option linter.unusedSimpArgs false
set_option linter.unusedVariables false
open Go.Av

set_option maxHeartbeats 16000000 in
set_option maxRecDepth 100000 in
theorem write_at (G : Glob) : ∀ (n : Nat) (e : Ex), SizeOf.sizeOf e ≤ n → (wrE e 2).length ≤ 2^30 → ∀ (k : Nat), k ≤ 2 → PureC Tryd.prog G 184 [dE e, dNum k] (dS (wrE e k)) := by
  intro n
  induction n with
  | zero => intro e hsz; cases e <;> simp at hsz
  | succ n ih =>
    intro e hsz hlen k hk
    cases e with
    | cst b =>
      cases b with
      | true =>
        rw [dE]
        refine PureC.of_body (tyOf_good _) Tryd.func184 rfl rfl (rs := [.tmp 4]) Tryd.results184 (by simp [Tryd.ntmps184]) fun X => ?_
        simp only [Tryd.ntmps184, List.map]
        refine AW_rg (tyOf_good _) [0, 1] [] (fun _ _ => trivial) fun K' hK' => ?_
        repeat (refine sxf_next fun K2 hK2 => ?_; simp [dNum, assertA, pairA]; (repeat (refine ⟨by omega, ?_⟩)); refine hK2 _ ?_; clear hK2 K2)
        refine sxf_nil (hK' _ ?_)
        refine AW.st (by simp [dNum, assertA, pairA]; rfl) ?_
        clear hK' K'
        refine AW_then fun K1 hK1 => ?_
        refine AW_rg (tyOf_good _) [1, 12] [] (fun _ _ => trivial) fun K' hK' => ?_
        repeat (refine sxf_next fun K2 hK2 => ?_; simp [dNum, assertA, pairA]; (repeat (refine ⟨by omega, ?_⟩)); refine hK2 _ ?_; clear hK2 K2)
        refine sxf_nil (hK' _ ?_)
        refine AW.st (by simp [dNum, assertA, pairA]; rfl) ?_
        clear hK' K'
        refine AW_block ?_
        refine AW_rg (tyOf_good _) [1, 12, 14, 15] [] (fun _ _ => trivial) fun K' hK' => ?_
        repeat (refine sxf_next fun K2 hK2 => ?_; simp [dNum, assertA, pairA]; (repeat (refine ⟨by omega, ?_⟩)); refine hK2 _ ?_; clear hK2 K2)
        refine sxf_nil (hK' _ ?_)
        refine AW.st (by simp [dNum, assertA, pairA]; rfl) ?_
        clear hK' K'
        refine AW_cond true rfl (fun _ => ?_) (fun h => by cases h)
        refine AW_rg (tyOf_good _) [5] [] (fun _ _ => trivial) fun K' hK' => ?_
        repeat (refine sxf_next fun K2 hK2 => ?_; simp [dNum, assertA, pairA]; (repeat (refine ⟨by omega, ?_⟩)); refine hK2 _ ?_; clear hK2 K2)
        refine sxf_nil (hK' _ ?_)
        refine AW.st (by simp [dNum, assertA, pairA]; rfl) ?_
        clear hK' K'
        refine AW_then fun K2 hK2 => ?_
        refine AW_rg (tyOf_good _) [16] [] (fun _ _ => trivial) fun K' hK' => ?_
        repeat (refine sxf_next fun K2 hK2 => ?_; simp [dNum, assertA, pairA]; (repeat (refine ⟨by omega, ?_⟩)); refine hK2 _ ?_; clear hK2 K2)
        refine sxf_nil (hK' _ ?_)
        refine AW.st (by simp [dNum, assertA, pairA]; rfl) ?_
        clear hK' K'
        refine AW_cond true rfl (fun _ => ?_) (fun h => by cases h)
        refine AW_rg (tyOf_good _) [4] [] (fun _ _ => trivial) fun K' hK' => ?_
        repeat (refine sxf_next fun K2 hK2 => ?_; simp [dNum, assertA, pairA]; (repeat (refine ⟨by omega, ?_⟩)); refine hK2 _ ?_; clear hK2 K2)
        refine sxf_nil (hK' _ ?_)
        refine AW.st (by simp [dNum, assertA, pairA]; rfl) ?_
        clear hK' K'
        refine AW_ret ?_
        simp [D.le, D.le.go, takeMap, dNum, assertA, pairA, wrE, dS, bs_lit]
      | false =>
        rw [dE]
        refine PureC.of_body (tyOf_good _) Tryd.func184 rfl rfl (rs := [.tmp 4]) Tryd.results184 (by simp [Tryd.ntmps184]) fun X => ?_
        simp only [Tryd.ntmps184, List.map]
        refine AW_rg (tyOf_good _) [0, 1] [] (fun _ _ => trivial) fun K' hK' => ?_
        repeat (refine sxf_next fun K2 hK2 => ?_; simp [dNum, assertA, pairA]; (repeat (refine ⟨by omega, ?_⟩)); refine hK2 _ ?_; clear hK2 K2)
        refine sxf_nil (hK' _ ?_)
        refine AW.st (by simp [dNum, assertA, pairA]; rfl) ?_
        clear hK' K'
        refine AW_then fun K1 hK1 => ?_
        refine AW_rg (tyOf_good _) [1, 12] [] (fun _ _ => trivial) fun K' hK' => ?_
        repeat (refine sxf_next fun K2 hK2 => ?_; simp [dNum, assertA, pairA]; (repeat (refine ⟨by omega, ?_⟩)); refine hK2 _ ?_; clear hK2 K2)
        refine sxf_nil (hK' _ ?_)
        refine AW.st (by simp [dNum, assertA, pairA]; rfl) ?_
        clear hK' K'
        refine AW_block ?_
        refine AW_rg (tyOf_good _) [1, 12, 14, 15] [] (fun _ _ => trivial) fun K' hK' => ?_
        repeat (refine sxf_next fun K2 hK2 => ?_; simp [dNum, assertA, pairA]; (repeat (refine ⟨by omega, ?_⟩)); refine hK2 _ ?_; clear hK2 K2)
        refine sxf_nil (hK' _ ?_)
        refine AW.st (by simp [dNum, assertA, pairA]; rfl) ?_
        clear hK' K'
        refine AW_cond true rfl (fun _ => ?_) (fun h => by cases h)
        refine AW_rg (tyOf_good _) [5] [] (fun _ _ => trivial) fun K' hK' => ?_
        repeat (refine sxf_next fun K2 hK2 => ?_; simp [dNum, assertA, pairA]; (repeat (refine ⟨by omega, ?_⟩)); refine hK2 _ ?_; clear hK2 K2)
        refine sxf_nil (hK' _ ?_)
        refine AW.st (by simp [dNum, assertA, pairA]; rfl) ?_
        clear hK' K'
        refine AW_then fun K2 hK2 => ?_
        refine AW_rg (tyOf_good _) [16] [] (fun _ _ => trivial) fun K' hK' => ?_
        repeat (refine sxf_next fun K2 hK2 => ?_; simp [dNum, assertA, pairA]; (repeat (refine ⟨by omega, ?_⟩)); refine hK2 _ ?_; clear hK2 K2)
        refine sxf_nil (hK' _ ?_)
        refine AW.st (by simp [dNum, assertA, pairA]; rfl) ?_
        clear hK' K'
        refine AW_cond false rfl (fun h => by cases h) (fun _ => ?_)
        refine AW_skip (hK2 _ ?_)
        refine AW_rg (tyOf_good _) [4] [] (fun _ _ => trivial) fun K' hK' => ?_
        repeat (refine sxf_next fun K2 hK2 => ?_; simp [dNum, assertA, pairA]; (repeat (refine ⟨by omega, ?_⟩)); refine hK2 _ ?_; clear hK2 K2)
        refine sxf_nil (hK' _ ?_)
        refine AW.st (by simp [dNum, assertA, pairA]; rfl) ?_
        clear hK' K'
        refine AW_ret ?_
        simp [D.le, D.le.go, takeMap, dNum, assertA, pairA, wrE, dS, bs_lit]
    | bit s =>
      rw [dE]
      refine PureC.of_body (tyOf_good _) Tryd.func184 rfl rfl (rs := [.tmp 4]) Tryd.results184 (by simp [Tryd.ntmps184]) fun X => ?_
      simp only [Tryd.ntmps184, List.map]
      refine AW_rg (tyOf_good _) [0, 1] [] (fun _ _ => trivial) fun K' hK' => ?_
      repeat (refine sxf_next fun K2 hK2 => ?_; simp [dNum, assertA, pairA]; (repeat (refine ⟨by omega, ?_⟩)); refine hK2 _ ?_; clear hK2 K2)
      refine sxf_nil (hK' _ ?_)
      refine AW.st (by simp [dNum, assertA, pairA]; rfl) ?_
      clear hK' K'
      refine AW_then fun K1 hK1 => ?_
      refine AW_rg (tyOf_good _) [1, 12] [] (fun _ _ => trivial) fun K' hK' => ?_
      repeat (refine sxf_next fun K2 hK2 => ?_; simp [dNum, assertA, pairA]; (repeat (refine ⟨by omega, ?_⟩)); refine hK2 _ ?_; clear hK2 K2)
      refine sxf_nil (hK' _ ?_)
      refine AW.st (by simp [dNum, assertA, pairA]; rfl) ?_
      clear hK' K'
      refine AW_block ?_
      refine AW_rg (tyOf_good _) [1, 12, 14, 15] [] (fun _ _ => trivial) fun K' hK' => ?_
      repeat (refine sxf_next fun K2 hK2 => ?_; simp [dNum, assertA, pairA, dS]; (repeat (refine ⟨by omega, ?_⟩)); refine hK2 _ ?_; clear hK2 K2)
      refine sxf_nil (hK' _ ?_)
      refine AW.st (by simp [dNum, assertA, pairA, dS]; rfl) ?_
      clear hK' K'
      refine AW_cond false rfl (fun h => by cases h) (fun _ => ?_)
      refine AW_rg (tyOf_good _) [1, 12, 18, 19] [] (fun _ _ => trivial) fun K' hK' => ?_
      repeat (refine sxf_next fun K2 hK2 => ?_; simp [dNum, assertA, pairA, dS]; (repeat (refine ⟨by omega, ?_⟩)); refine hK2 _ ?_; clear hK2 K2)
      refine sxf_nil (hK' _ ?_)
      refine AW.st (by simp [dNum, assertA, pairA, dS]; rfl) ?_
      clear hK' K'
      refine AW_cond true rfl (fun _ => ?_) (fun h => by cases h)
      refine AW_rg (tyOf_good _) [6] [] (fun _ _ => trivial) fun K' hK' => ?_
      repeat (refine sxf_next fun K2 hK2 => ?_; simp [dNum, assertA, pairA]; (repeat (refine ⟨by omega, ?_⟩)); refine hK2 _ ?_; clear hK2 K2)
      refine sxf_nil (hK' _ ?_)
      refine AW.st (by simp [dNum, assertA, pairA]; rfl) ?_
      clear hK' K'
      refine AW_rg (tyOf_good _) [4] [] (fun _ _ => trivial) fun K' hK' => ?_
      repeat (refine sxf_next fun K2 hK2 => ?_; simp [dNum, assertA, pairA]; (repeat (refine ⟨by omega, ?_⟩)); refine hK2 _ ?_; clear hK2 K2)
      refine sxf_nil (hK' _ ?_)
      refine AW.st (by simp [dNum, assertA, pairA]; rfl) ?_
      clear hK' K'
      refine AW_ret ?_
      simp [D.le, D.le.go, takeMap, dNum, assertA, pairA, wrE, dS]
    | rise s =>
      have h1 : binS .add ⟨#[94]⟩ (bs s) = some (True, .string (bs (94 :: s))) := binS_bs [94] _ (by simp [wrE] at hlen ⊢; omega)
      rw [dE]
      refine PureC.of_body (tyOf_good _) Tryd.func184 rfl rfl (rs := [.tmp 4]) Tryd.results184 (by simp [Tryd.ntmps184]) fun X => ?_
      simp only [Tryd.ntmps184, List.map]
      refine AW_rg (tyOf_good _) [0, 1] [] (fun _ _ => trivial) fun K' hK' => ?_
      repeat (refine sxf_next fun K2 hK2 => ?_; simp [dNum, assertA, pairA]; (repeat (refine ⟨by omega, ?_⟩)); refine hK2 _ ?_; clear hK2 K2)
      refine sxf_nil (hK' _ ?_)
      refine AW.st (by simp [dNum, assertA, pairA]; rfl) ?_
      clear hK' K'
      refine AW_then fun K1 hK1 => ?_
      refine AW_rg (tyOf_good _) [1, 12] [] (fun _ _ => trivial) fun K' hK' => ?_
      repeat (refine sxf_next fun K2 hK2 => ?_; simp [dNum, assertA, pairA]; (repeat (refine ⟨by omega, ?_⟩)); refine hK2 _ ?_; clear hK2 K2)
      refine sxf_nil (hK' _ ?_)
      refine AW.st (by simp [dNum, assertA, pairA]; rfl) ?_
      clear hK' K'
      refine AW_block ?_
      refine AW_rg (tyOf_good _) [1, 12, 14, 15] [] (fun _ _ => trivial) fun K' hK' => ?_
      repeat (refine sxf_next fun K2 hK2 => ?_; simp [dNum, assertA, pairA, dS]; (repeat (refine ⟨by omega, ?_⟩)); refine hK2 _ ?_; clear hK2 K2)
      refine sxf_nil (hK' _ ?_)
      refine AW.st (by simp [dNum, assertA, pairA, dS]; rfl) ?_
      clear hK' K'
      refine AW_cond false rfl (fun h => by cases h) (fun _ => ?_)
      refine AW_rg (tyOf_good _) [1, 12, 18, 19] [] (fun _ _ => trivial) fun K' hK' => ?_
      repeat (refine sxf_next fun K2 hK2 => ?_; simp [dNum, assertA, pairA, dS]; (repeat (refine ⟨by omega, ?_⟩)); refine hK2 _ ?_; clear hK2 K2)
      refine sxf_nil (hK' _ ?_)
      refine AW.st (by simp [dNum, assertA, pairA, dS]; rfl) ?_
      clear hK' K'
      refine AW_cond false rfl (fun h => by cases h) (fun _ => ?_)
      refine AW_rg (tyOf_good _) [1, 12, 22, 23] [] (fun _ _ => trivial) fun K' hK' => ?_
      repeat (refine sxf_next fun K2 hK2 => ?_; simp [dNum, assertA, pairA, dS]; (repeat (refine ⟨by omega, ?_⟩)); refine hK2 _ ?_; clear hK2 K2)
      refine sxf_nil (hK' _ ?_)
      refine AW.st (by simp [dNum, assertA, pairA, dS]; rfl) ?_
      clear hK' K'
      refine AW_cond true rfl (fun _ => ?_) (fun h => by cases h)
      refine AW_rg (tyOf_good _) [7] [] (fun _ _ => trivial) fun K' hK' => ?_
      repeat (refine sxf_next fun K2 hK2 => ?_; simp [dNum, assertA, pairA]; (repeat (refine ⟨by omega, ?_⟩)); refine hK2 _ ?_; clear hK2 K2)
      refine sxf_nil (hK' _ ?_)
      refine AW.st (by simp [dNum, assertA, pairA]; rfl) ?_
      clear hK' K'
      refine AW_rg (tyOf_good _) [4] [] (fun _ _ => trivial) fun K' hK' => ?_
      repeat (refine sxf_next fun K2 hK2 => ?_; simp [dNum, assertA, pairA, h1]; (repeat (refine ⟨by omega, ?_⟩)); refine hK2 _ ?_; clear hK2 K2)
      refine sxf_nil (hK' _ ?_)
      refine AW.st (by simp [dNum, assertA, pairA, h1]; rfl) ?_
      clear hK' K'
      refine AW_ret ?_
      simp [D.le, D.le.go, takeMap, dNum, assertA, pairA, wrE, dS]
    | fall s =>
      have h1 : binS .add ⟨#[126]⟩ (bs s) = some (True, .string (bs (126 :: s))) := binS_bs [126] _ (by simp [wrE] at hlen ⊢; omega)
      rw [dE]
      refine PureC.of_body (tyOf_good _) Tryd.func184 rfl rfl (rs := [.tmp 4]) Tryd.results184 (by simp [Tryd.ntmps184]) fun X => ?_
      simp only [Tryd.ntmps184, List.map]
      refine AW_rg (tyOf_good _) [0, 1] [] (fun _ _ => trivial) fun K' hK' => ?_
      repeat (refine sxf_next fun K2 hK2 => ?_; simp [dNum, assertA, pairA]; (repeat (refine ⟨by omega, ?_⟩)); refine hK2 _ ?_; clear hK2 K2)
      refine sxf_nil (hK' _ ?_)
      refine AW.st (by simp [dNum, assertA, pairA]; rfl) ?_
      clear hK' K'
      refine AW_then fun K1 hK1 => ?_
      refine AW_rg (tyOf_good _) [1, 12] [] (fun _ _ => trivial) fun K' hK' => ?_
      repeat (refine sxf_next fun K2 hK2 => ?_; simp [dNum, assertA, pairA]; (repeat (refine ⟨by omega, ?_⟩)); refine hK2 _ ?_; clear hK2 K2)
      refine sxf_nil (hK' _ ?_)
      refine AW.st (by simp [dNum, assertA, pairA]; rfl) ?_
      clear hK' K'
      refine AW_block ?_
      refine AW_rg (tyOf_good _) [1, 12, 14, 15] [] (fun _ _ => trivial) fun K' hK' => ?_
      repeat (refine sxf_next fun K2 hK2 => ?_; simp [dNum, assertA, pairA, dS]; (repeat (refine ⟨by omega, ?_⟩)); refine hK2 _ ?_; clear hK2 K2)
      refine sxf_nil (hK' _ ?_)
      refine AW.st (by simp [dNum, assertA, pairA, dS]; rfl) ?_
      clear hK' K'
      refine AW_cond false rfl (fun h => by cases h) (fun _ => ?_)
      refine AW_rg (tyOf_good _) [1, 12, 18, 19] [] (fun _ _ => trivial) fun K' hK' => ?_
      repeat (refine sxf_next fun K2 hK2 => ?_; simp [dNum, assertA, pairA, dS]; (repeat (refine ⟨by omega, ?_⟩)); refine hK2 _ ?_; clear hK2 K2)
      refine sxf_nil (hK' _ ?_)
      refine AW.st (by simp [dNum, assertA, pairA, dS]; rfl) ?_
      clear hK' K'
      refine AW_cond false rfl (fun h => by cases h) (fun _ => ?_)
      refine AW_rg (tyOf_good _) [1, 12, 22, 23] [] (fun _ _ => trivial) fun K' hK' => ?_
      repeat (refine sxf_next fun K2 hK2 => ?_; simp [dNum, assertA, pairA, dS]; (repeat (refine ⟨by omega, ?_⟩)); refine hK2 _ ?_; clear hK2 K2)
      refine sxf_nil (hK' _ ?_)
      refine AW.st (by simp [dNum, assertA, pairA, dS]; rfl) ?_
      clear hK' K'
      refine AW_cond false rfl (fun h => by cases h) (fun _ => ?_)
      refine AW_rg (tyOf_good _) [1, 12, 27, 28] [] (fun _ _ => trivial) fun K' hK' => ?_
      repeat (refine sxf_next fun K2 hK2 => ?_; simp [dNum, assertA, pairA, dS]; (repeat (refine ⟨by omega, ?_⟩)); refine hK2 _ ?_; clear hK2 K2)
      refine sxf_nil (hK' _ ?_)
      refine AW.st (by simp [dNum, assertA, pairA, dS]; rfl) ?_
      clear hK' K'
      refine AW_cond true rfl (fun _ => ?_) (fun h => by cases h)
      refine AW_rg (tyOf_good _) [8] [] (fun _ _ => trivial) fun K' hK' => ?_
      repeat (refine sxf_next fun K2 hK2 => ?_; simp [dNum, assertA, pairA]; (repeat (refine ⟨by omega, ?_⟩)); refine hK2 _ ?_; clear hK2 K2)
      refine sxf_nil (hK' _ ?_)
      refine AW.st (by simp [dNum, assertA, pairA]; rfl) ?_
      clear hK' K'
      refine AW_rg (tyOf_good _) [4] [] (fun _ _ => trivial) fun K' hK' => ?_
      repeat (refine sxf_next fun K2 hK2 => ?_; simp [dNum, assertA, pairA, h1]; (repeat (refine ⟨by omega, ?_⟩)); refine hK2 _ ?_; clear hK2 K2)
      refine sxf_nil (hK' _ ?_)
      refine AW.st (by simp [dNum, assertA, pairA, h1]; rfl) ?_
      clear hK' K'
      refine AW_ret ?_
      simp [D.le, D.le.go, takeMap, dNum, assertA, pairA, wrE, dS]
    | not x =>
      obtain ⟨tx, cx, hx⟩ := dE_ifc x
      have hc := ih x (by simp at hsz; omega) (by simp [wrE] at hlen; omega) 2 (by omega)
      have h1 : binS .add ⟨#[33]⟩ (bs (wrE x 2)) = some (True, .string (bs (33 :: wrE x 2))) := binS_bs [33] _ (by simp [wrE] at hlen ⊢; omega)
      rw [dE, hx]
      rw [hx] at hc
      refine PureC.of_body (tyOf_good _) Tryd.func184 rfl rfl (rs := [.tmp 4]) Tryd.results184 (by simp [Tryd.ntmps184]) fun X => ?_
      simp only [Tryd.ntmps184, List.map]
      refine AW_rg (tyOf_good _) [0, 1] [] (fun _ _ => trivial) fun K' hK' => ?_
      repeat (refine sxf_next fun K2 hK2 => ?_; simp [dNum, assertA, pairA]; (repeat (refine ⟨by omega, ?_⟩)); refine hK2 _ ?_; clear hK2 K2)
      refine sxf_nil (hK' _ ?_)
      refine AW.st (by simp [dNum, assertA, pairA]; rfl) ?_
      clear hK' K'
      refine AW_then fun K1 hK1 => ?_
      refine AW_rg (tyOf_good _) [1, 12] [] (fun _ _ => trivial) fun K' hK' => ?_
      repeat (refine sxf_next fun K2 hK2 => ?_; simp [dNum, assertA, pairA]; (repeat (refine ⟨by omega, ?_⟩)); refine hK2 _ ?_; clear hK2 K2)
      refine sxf_nil (hK' _ ?_)
      refine AW.st (by simp [dNum, assertA, pairA]; rfl) ?_
      clear hK' K'
      refine AW_block ?_
      refine AW_rg (tyOf_good _) [1, 12, 14, 15] [] (fun _ _ => trivial) fun K' hK' => ?_
      repeat (refine sxf_next fun K2 hK2 => ?_; simp [dNum, assertA, pairA]; (repeat (refine ⟨by omega, ?_⟩)); refine hK2 _ ?_; clear hK2 K2)
      refine sxf_nil (hK' _ ?_)
      refine AW.st (by simp [dNum, assertA, pairA]; rfl) ?_
      clear hK' K'
      refine AW_cond false rfl (fun h => by cases h) (fun _ => ?_)
      refine AW_rg (tyOf_good _) [1, 12, 18, 19] [] (fun _ _ => trivial) fun K' hK' => ?_
      repeat (refine sxf_next fun K2 hK2 => ?_; simp [dNum, assertA, pairA]; (repeat (refine ⟨by omega, ?_⟩)); refine hK2 _ ?_; clear hK2 K2)
      refine sxf_nil (hK' _ ?_)
      refine AW.st (by simp [dNum, assertA, pairA]; rfl) ?_
      clear hK' K'
      refine AW_cond false rfl (fun h => by cases h) (fun _ => ?_)
      refine AW_rg (tyOf_good _) [1, 12, 22, 23] [] (fun _ _ => trivial) fun K' hK' => ?_
      repeat (refine sxf_next fun K2 hK2 => ?_; simp [dNum, assertA, pairA]; (repeat (refine ⟨by omega, ?_⟩)); refine hK2 _ ?_; clear hK2 K2)
      refine sxf_nil (hK' _ ?_)
      refine AW.st (by simp [dNum, assertA, pairA]; rfl) ?_
      clear hK' K'
      refine AW_cond false rfl (fun h => by cases h) (fun _ => ?_)
      refine AW_rg (tyOf_good _) [1, 12, 27, 28] [] (fun _ _ => trivial) fun K' hK' => ?_
      repeat (refine sxf_next fun K2 hK2 => ?_; simp [dNum, assertA, pairA]; (repeat (refine ⟨by omega, ?_⟩)); refine hK2 _ ?_; clear hK2 K2)
      refine sxf_nil (hK' _ ?_)
      refine AW.st (by simp [dNum, assertA, pairA]; rfl) ?_
      clear hK' K'
      refine AW_cond false rfl (fun h => by cases h) (fun _ => ?_)
      refine AW_rg (tyOf_good _) [1, 12, 32, 33] [] (fun _ _ => trivial) fun K' hK' => ?_
      repeat (refine sxf_next fun K2 hK2 => ?_; simp [dNum, assertA, pairA]; (repeat (refine ⟨by omega, ?_⟩)); refine hK2 _ ?_; clear hK2 K2)
      refine sxf_nil (hK' _ ?_)
      refine AW.st (by simp [dNum, assertA, pairA]; rfl) ?_
      clear hK' K'
      refine AW_cond true rfl (fun _ => ?_) (fun h => by cases h)
      refine AW_rg (tyOf_good _) [9] [9] (fun _ _ => trivial) fun K' hK' => ?_
      repeat (refine sxf_next fun K2 hK2 => ?_; simp [dNum, assertA, pairA]; (repeat (refine ⟨by omega, ?_⟩)); refine hK2 _ ?_; clear hK2 K2)
      refine sxf_nil (hK' _ ?_)
      refine AW.st (by simp [dNum, assertA, pairA]; rfl) ?_
      clear hK' K'
      refine AW_rg (tyOf_good _) [4] [] (fun _ _ => trivial) fun K' hK' => ?_
      repeat (refine sxf_next fun K2 hK2 => ?_; simp [dNum, assertA, pairA, dS, h1]; (repeat (refine ⟨by omega, ?_⟩)); refine hK2 _ ?_; clear hK2 K2)
      refine sxf_next fun K2 hK2 => ?_
      simp [dNum, assertA, pairA, dS, h1]
      refine callK.data (hc) (by simp; rfl) (by first | exact D.leGo_refl _ | simp [takeMap, List.map_map, Function.comp_def, D.le, D.le.go, D.le_refl, D.leGo_refl, dNum, assertA, pairA, dS, h1]) ?_
      refine hK2 _ ?_
      clear hK2 K2
      simp only [putd, upd_lst]
      repeat (refine sxf_next fun K2 hK2 => ?_; simp [dNum, assertA, pairA, dS, h1]; (repeat (refine ⟨by omega, ?_⟩)); refine hK2 _ ?_; clear hK2 K2)
      refine sxf_nil (hK' _ ?_)
      refine AW.st (by simp [dNum, assertA, pairA, dS, h1]; rfl) ?_
      clear hK' K'
      refine AW_ret ?_
      simp [D.le, D.le.go, takeMap, dNum, assertA, pairA, wrE, dS]
    | and l =>
      have hj : (Lib.join (l.map fun e => wrE e 2) [32, 38, 32]).length ≤ 2^30 := by
        rw [wrE, if_pos (by omega), wrL_map] at hlen
        simp at hlen
        omega
      have hn := count_join (l.map fun e => wrE e 2) [32, 38, 32]
      rw [List.length_map] at hn
      have hl3 : [32, 38, 32].length = 3 := rfl
      have hch : ∀ x ∈ l, PureC Tryd.prog G 184 [dE x, dNum 2] (dS (wrE x 2)) := fun x hx => ih x (by have := List.sizeOf_lt_of_mem hx; simp only [Ex.and.sizeOf_spec] at hsz; omega) (by
          have h1 := lens_join (l.map fun e => wrE e 2) [32, 38, 32]
          have h2 := mem_lens (List.mem_map.2 ⟨x, hx, rfl⟩ : wrE x 2 ∈ l.map fun e => wrE e 2)
          omega) 2 (by omega)
      have hw := wjoin_spec G l [32, 38, 32] 2 (decide (2 ≤ k)) (by simp at hn; omega) (by omega) hch
      have e1 : wrE (.and l) k = if decide (2 ≤ k) then [40] ++ Lib.join (l.map fun e => wrE e 2) [32, 38, 32] ++ [41] else Lib.join (l.map fun e => wrE e 2) [32, 38, 32] := by
        rw [wrE, wrL_map]
        by_cases h : 2 ≤ k <;> simp [h]
      have hlit : (⟨#[32, 38, 32]⟩ : ByteArray) = bs [32, 38, 32] := rfl
      have hde : dE (.and l) = .ifc 111 (.sl none (l.map fun e => [dE e])) := by rw [dE, dEs_map]
      rw [hde, e1]
      generalize (if decide (2 ≤ k) then [40] ++ Lib.join (l.map fun e => wrE e 2) [32, 38, 32] ++ [41] else Lib.join (l.map fun e => wrE e 2) [32, 38, 32]) = r at hw ⊢
      have hk2 : decide ((2 : Int) ≤ (k : Int)) = decide (2 ≤ k) := by apply decide_eq_decide.2; omega
      unfold dEl at hw
      refine PureC.of_body (tyOf_good _) Tryd.func184 rfl rfl (rs := [.tmp 4]) Tryd.results184 (by simp [Tryd.ntmps184]) fun X => ?_
      simp only [Tryd.ntmps184, List.map]
      refine AW_rg (tyOf_good _) [0, 1] [] (fun _ _ => trivial) fun K' hK' => ?_
      repeat (refine sxf_next fun K2 hK2 => ?_; simp [dNum, assertA, pairA]; (repeat (refine ⟨by omega, ?_⟩)); refine hK2 _ ?_; clear hK2 K2)
      refine sxf_nil (hK' _ ?_)
      refine AW.st (by simp [dNum, assertA, pairA]; rfl) ?_
      clear hK' K'
      refine AW_then fun K1 hK1 => ?_
      refine AW_rg (tyOf_good _) [1, 12] [] (fun _ _ => trivial) fun K' hK' => ?_
      repeat (refine sxf_next fun K2 hK2 => ?_; simp [dNum, assertA, pairA]; (repeat (refine ⟨by omega, ?_⟩)); refine hK2 _ ?_; clear hK2 K2)
      refine sxf_nil (hK' _ ?_)
      refine AW.st (by simp [dNum, assertA, pairA]; rfl) ?_
      clear hK' K'
      refine AW_block ?_
      refine AW_rg (tyOf_good _) [1, 12, 14, 15] [] (fun _ _ => trivial) fun K' hK' => ?_
      repeat (refine sxf_next fun K2 hK2 => ?_; simp [dNum, assertA, pairA]; (repeat (refine ⟨by omega, ?_⟩)); refine hK2 _ ?_; clear hK2 K2)
      refine sxf_nil (hK' _ ?_)
      refine AW.st (by simp [dNum, assertA, pairA]; rfl) ?_
      clear hK' K'
      refine AW_cond false rfl (fun h => by cases h) (fun _ => ?_)
      refine AW_rg (tyOf_good _) [1, 12, 18, 19] [] (fun _ _ => trivial) fun K' hK' => ?_
      repeat (refine sxf_next fun K2 hK2 => ?_; simp [dNum, assertA, pairA]; (repeat (refine ⟨by omega, ?_⟩)); refine hK2 _ ?_; clear hK2 K2)
      refine sxf_nil (hK' _ ?_)
      refine AW.st (by simp [dNum, assertA, pairA]; rfl) ?_
      clear hK' K'
      refine AW_cond false rfl (fun h => by cases h) (fun _ => ?_)
      refine AW_rg (tyOf_good _) [1, 12, 22, 23] [] (fun _ _ => trivial) fun K' hK' => ?_
      repeat (refine sxf_next fun K2 hK2 => ?_; simp [dNum, assertA, pairA]; (repeat (refine ⟨by omega, ?_⟩)); refine hK2 _ ?_; clear hK2 K2)
      refine sxf_nil (hK' _ ?_)
      refine AW.st (by simp [dNum, assertA, pairA]; rfl) ?_
      clear hK' K'
      refine AW_cond false rfl (fun h => by cases h) (fun _ => ?_)
      refine AW_rg (tyOf_good _) [1, 12, 27, 28] [] (fun _ _ => trivial) fun K' hK' => ?_
      repeat (refine sxf_next fun K2 hK2 => ?_; simp [dNum, assertA, pairA]; (repeat (refine ⟨by omega, ?_⟩)); refine hK2 _ ?_; clear hK2 K2)
      refine sxf_nil (hK' _ ?_)
      refine AW.st (by simp [dNum, assertA, pairA]; rfl) ?_
      clear hK' K'
      refine AW_cond false rfl (fun h => by cases h) (fun _ => ?_)
      refine AW_rg (tyOf_good _) [1, 12, 32, 33] [] (fun _ _ => trivial) fun K' hK' => ?_
      repeat (refine sxf_next fun K2 hK2 => ?_; simp [dNum, assertA, pairA]; (repeat (refine ⟨by omega, ?_⟩)); refine hK2 _ ?_; clear hK2 K2)
      refine sxf_nil (hK' _ ?_)
      refine AW.st (by simp [dNum, assertA, pairA]; rfl) ?_
      clear hK' K'
      refine AW_cond false rfl (fun h => by cases h) (fun _ => ?_)
      refine AW_rg (tyOf_good _) [1, 12, 39, 40] [] (fun _ _ => trivial) fun K' hK' => ?_
      repeat (refine sxf_next fun K2 hK2 => ?_; simp [dNum, assertA, pairA]; (repeat (refine ⟨by omega, ?_⟩)); refine hK2 _ ?_; clear hK2 K2)
      refine sxf_nil (hK' _ ?_)
      refine AW.st (by simp [dNum, assertA, pairA]; rfl) ?_
      clear hK' K'
      refine AW_cond true rfl (fun _ => ?_) (fun h => by cases h)
      refine AW_rg (tyOf_good _) [1, 10] [] (fun _ _ => trivial) fun K' hK' => ?_
      repeat (refine sxf_next fun K2 hK2 => ?_; simp [dNum, assertA, pairA]; (repeat (refine ⟨by omega, ?_⟩)); refine hK2 _ ?_; clear hK2 K2)
      refine sxf_nil (hK' _ ?_)
      refine AW.st (by simp [dNum, assertA, pairA]; rfl) ?_
      clear hK' K'
      refine AW_rg (tyOf_good _) [4] [] (fun _ _ => trivial) fun K' hK' => ?_
      repeat (refine sxf_next fun K2 hK2 => ?_; simp [dNum, assertA, pairA, dS, hlit, hk2]; (repeat (refine ⟨by omega, ?_⟩)); refine hK2 _ ?_; clear hK2 K2)
      refine sxf_next fun K2 hK2 => ?_
      simp [dNum, assertA, pairA, dS, hlit, hk2]
      refine callK.data (hw) (by simp; rfl) (by first | exact D.leGo_refl _ | simp [takeMap, List.map_map, Function.comp_def, D.le, D.le.go, D.le_refl, D.leGo_refl, dNum, assertA, pairA, dS, hlit, hk2]) ?_
      refine hK2 _ ?_
      clear hK2 K2
      simp only [putd, upd_lst]
      repeat (refine sxf_next fun K2 hK2 => ?_; simp [dNum, assertA, pairA, dS, hlit, hk2]; (repeat (refine ⟨by omega, ?_⟩)); refine hK2 _ ?_; clear hK2 K2)
      refine sxf_nil (hK' _ ?_)
      refine AW.st (by simp [dNum, assertA, pairA, dS, hlit, hk2]; rfl) ?_
      clear hK' K'
      refine AW_ret ?_
      simp [D.le, D.le.go, takeMap, dNum, assertA, pairA, dS]
    | or l =>
      have hj : (Lib.join (l.map fun e => wrE e 1) [32, 124, 32]).length ≤ 2^30 := by
        rw [wrE, if_pos (by omega), wrL_map] at hlen
        simp at hlen
        omega
      have hn := count_join (l.map fun e => wrE e 1) [32, 124, 32]
      rw [List.length_map] at hn
      have hl3 : [32, 124, 32].length = 3 := rfl
      have hch : ∀ x ∈ l, PureC Tryd.prog G 184 [dE x, dNum 1] (dS (wrE x 1)) := fun x hx => ih x (by have := List.sizeOf_lt_of_mem hx; simp only [Ex.or.sizeOf_spec] at hsz; omega) (by
          have h1 := lens_join (l.map fun e => wrE e 1) [32, 124, 32]
          have h2 := mem_lens (List.mem_map.2 ⟨x, hx, rfl⟩ : wrE x 1 ∈ l.map fun e => wrE e 1)
          have h3 := (wr_two x 1).2
          have h4 : (Lib.join (l.map fun e => wrE e 1) [32, 124, 32]).length + 2 ≤ 2^30 := by
            rw [wrE, if_pos (by omega), wrL_map] at hlen
            simp at hlen
            omega
          omega) 1 (by omega)
      have hw := wjoin_spec G l [32, 124, 32] 1 (decide (1 ≤ k)) (by simp at hn; omega) (by omega) hch
      have e1 : wrE (.or l) k = if decide (1 ≤ k) then [40] ++ Lib.join (l.map fun e => wrE e 1) [32, 124, 32] ++ [41] else Lib.join (l.map fun e => wrE e 1) [32, 124, 32] := by
        rw [wrE, wrL_map]
        by_cases h : 1 ≤ k <;> simp [h]
      have hlit : (⟨#[32, 124, 32]⟩ : ByteArray) = bs [32, 124, 32] := rfl
      have hde : dE (.or l) = .ifc 114 (.sl none (l.map fun e => [dE e])) := by rw [dE, dEs_map]
      rw [hde, e1]
      generalize (if decide (1 ≤ k) then [40] ++ Lib.join (l.map fun e => wrE e 1) [32, 124, 32] ++ [41] else Lib.join (l.map fun e => wrE e 1) [32, 124, 32]) = r at hw ⊢
      have hk2 : decide ((1 : Int) ≤ (k : Int)) = decide (1 ≤ k) := by apply decide_eq_decide.2; omega
      unfold dEl at hw
      refine PureC.of_body (tyOf_good _) Tryd.func184 rfl rfl (rs := [.tmp 4]) Tryd.results184 (by simp [Tryd.ntmps184]) fun X => ?_
      simp only [Tryd.ntmps184, List.map]
      refine AW_rg (tyOf_good _) [0, 1] [] (fun _ _ => trivial) fun K' hK' => ?_
      repeat (refine sxf_next fun K2 hK2 => ?_; simp [dNum, assertA, pairA]; (repeat (refine ⟨by omega, ?_⟩)); refine hK2 _ ?_; clear hK2 K2)
      refine sxf_nil (hK' _ ?_)
      refine AW.st (by simp [dNum, assertA, pairA]; rfl) ?_
      clear hK' K'
      refine AW_then fun K1 hK1 => ?_
      refine AW_rg (tyOf_good _) [1, 12] [] (fun _ _ => trivial) fun K' hK' => ?_
      repeat (refine sxf_next fun K2 hK2 => ?_; simp [dNum, assertA, pairA]; (repeat (refine ⟨by omega, ?_⟩)); refine hK2 _ ?_; clear hK2 K2)
      refine sxf_nil (hK' _ ?_)
      refine AW.st (by simp [dNum, assertA, pairA]; rfl) ?_
      clear hK' K'
      refine AW_block ?_
      refine AW_rg (tyOf_good _) [1, 12, 14, 15] [] (fun _ _ => trivial) fun K' hK' => ?_
      repeat (refine sxf_next fun K2 hK2 => ?_; simp [dNum, assertA, pairA]; (repeat (refine ⟨by omega, ?_⟩)); refine hK2 _ ?_; clear hK2 K2)
      refine sxf_nil (hK' _ ?_)
      refine AW.st (by simp [dNum, assertA, pairA]; rfl) ?_
      clear hK' K'
      refine AW_cond false rfl (fun h => by cases h) (fun _ => ?_)
      refine AW_rg (tyOf_good _) [1, 12, 18, 19] [] (fun _ _ => trivial) fun K' hK' => ?_
      repeat (refine sxf_next fun K2 hK2 => ?_; simp [dNum, assertA, pairA]; (repeat (refine ⟨by omega, ?_⟩)); refine hK2 _ ?_; clear hK2 K2)
      refine sxf_nil (hK' _ ?_)
      refine AW.st (by simp [dNum, assertA, pairA]; rfl) ?_
      clear hK' K'
      refine AW_cond false rfl (fun h => by cases h) (fun _ => ?_)
      refine AW_rg (tyOf_good _) [1, 12, 22, 23] [] (fun _ _ => trivial) fun K' hK' => ?_
      repeat (refine sxf_next fun K2 hK2 => ?_; simp [dNum, assertA, pairA]; (repeat (refine ⟨by omega, ?_⟩)); refine hK2 _ ?_; clear hK2 K2)
      refine sxf_nil (hK' _ ?_)
      refine AW.st (by simp [dNum, assertA, pairA]; rfl) ?_
      clear hK' K'
      refine AW_cond false rfl (fun h => by cases h) (fun _ => ?_)
      refine AW_rg (tyOf_good _) [1, 12, 27, 28] [] (fun _ _ => trivial) fun K' hK' => ?_
      repeat (refine sxf_next fun K2 hK2 => ?_; simp [dNum, assertA, pairA]; (repeat (refine ⟨by omega, ?_⟩)); refine hK2 _ ?_; clear hK2 K2)
      refine sxf_nil (hK' _ ?_)
      refine AW.st (by simp [dNum, assertA, pairA]; rfl) ?_
      clear hK' K'
      refine AW_cond false rfl (fun h => by cases h) (fun _ => ?_)
      refine AW_rg (tyOf_good _) [1, 12, 32, 33] [] (fun _ _ => trivial) fun K' hK' => ?_
      repeat (refine sxf_next fun K2 hK2 => ?_; simp [dNum, assertA, pairA]; (repeat (refine ⟨by omega, ?_⟩)); refine hK2 _ ?_; clear hK2 K2)
      refine sxf_nil (hK' _ ?_)
      refine AW.st (by simp [dNum, assertA, pairA]; rfl) ?_
      clear hK' K'
      refine AW_cond false rfl (fun h => by cases h) (fun _ => ?_)
      refine AW_rg (tyOf_good _) [1, 12, 39, 40] [] (fun _ _ => trivial) fun K' hK' => ?_
      repeat (refine sxf_next fun K2 hK2 => ?_; simp [dNum, assertA, pairA]; (repeat (refine ⟨by omega, ?_⟩)); refine hK2 _ ?_; clear hK2 K2)
      refine sxf_nil (hK' _ ?_)
      refine AW.st (by simp [dNum, assertA, pairA]; rfl) ?_
      clear hK' K'
      refine AW_cond false rfl (fun h => by cases h) (fun _ => ?_)
      refine AW_rg (tyOf_good _) [1, 46, 47] [] (fun _ _ => trivial) fun K' hK' => ?_
      repeat (refine sxf_next fun K2 hK2 => ?_; simp [dNum, assertA, pairA]; (repeat (refine ⟨by omega, ?_⟩)); refine hK2 _ ?_; clear hK2 K2)
      refine sxf_nil (hK' _ ?_)
      refine AW.st (by simp [dNum, assertA, pairA]; rfl) ?_
      clear hK' K'
      refine AW_cond true rfl (fun _ => ?_) (fun h => by cases h)
      refine AW_rg (tyOf_good _) [1, 11] [] (fun _ _ => trivial) fun K' hK' => ?_
      repeat (refine sxf_next fun K2 hK2 => ?_; simp [dNum, assertA, pairA]; (repeat (refine ⟨by omega, ?_⟩)); refine hK2 _ ?_; clear hK2 K2)
      refine sxf_nil (hK' _ ?_)
      refine AW.st (by simp [dNum, assertA, pairA]; rfl) ?_
      clear hK' K'
      refine AW_rg (tyOf_good _) [4] [] (fun _ _ => trivial) fun K' hK' => ?_
      repeat (refine sxf_next fun K2 hK2 => ?_; simp [dNum, assertA, pairA, dS, hlit, hk2]; (repeat (refine ⟨by omega, ?_⟩)); refine hK2 _ ?_; clear hK2 K2)
      refine sxf_next fun K2 hK2 => ?_
      simp [dNum, assertA, pairA, dS, hlit, hk2]
      refine callK.data (hw) (by simp; rfl) (by first | exact D.leGo_refl _ | simp [takeMap, List.map_map, Function.comp_def, D.le, D.le.go, D.le_refl, D.leGo_refl, dNum, assertA, pairA, dS, hlit, hk2]) ?_
      refine hK2 _ ?_
      clear hK2 K2
      simp only [putd, upd_lst]
      repeat (refine sxf_next fun K2 hK2 => ?_; simp [dNum, assertA, pairA, dS, hlit, hk2]; (repeat (refine ⟨by omega, ?_⟩)); refine hK2 _ ?_; clear hK2 K2)
      refine sxf_nil (hK' _ ?_)
      refine AW.st (by simp [dNum, assertA, pairA, dS, hlit, hk2]; rfl) ?_
      clear hK' K'
      refine AW_ret ?_
      simp [D.le, D.le.go, takeMap, dNum, assertA, pairA, dS]
theorem write_spec (G : Glob) (e : Ex) (hlen : (wrE e 2).length ≤ 2^30) (k : Nat) (hk : k ≤ 2) : PureC Tryd.prog G 184 [dE e, dNum k] (dS (wrE e k)) := write_at G _ e (Nat.le_refl _) hlen k hk
end Go.Proofs.YtfehigldhedkgaaDoor

/-
  Scopes that are left without a jump.
-/
namespace Go.Av

def noG (Q : Exit → St → Prop) : Exit → St → Prop
  | .goto _, _ => False
  | e, σ => Q e σ
section
variable {P : Program} {Mv X : Nat → Prop} {G : Glob} {N : Nat} {σ : St}
theorem AW_scope {c : Code} {Q : Exit → St → Prop} (h : AW P Mv X G N c (noG Q) σ) : AW P Mv X G N (.scope c) Q σ := fun w μ a hi =>
  wp_scope_straight (wp_mono (h w μ a hi) fun e a' w' ⟨μ', σ', q, i, ev⟩ => by
    cases e with
    | goto l => exact q.elim
    | _ => exact ⟨μ', σ', q, i, ev⟩)
end
attribute [simp] noG
end Go.Av

/-
  expr.Text, by each kind's method.
-/
namespace Go.Proofs.YtfehigldhedkgaaDoor
set_option linter.unusedSimpArgs false
set_option linter.unusedVariables false
open Go.Av

theorem inv_Const : Invs Tryd.prog 104 "Text" 183 := fun v w => by kernel_rfl
set_option maxHeartbeats 4000000 in
theorem mtext_Const (G : Glob) (b : Bool) (hlen : (wrE (.cst b) 2).length ≤ 2^30) : PureC Tryd.prog G 183 [.v (.bool b)] (dS (wrE (.cst b) 0)) := by
  have hw := write_spec G (.cst b) hlen 0 (by omega)
  rw [dE] at hw
  generalize wrE (.cst b) 0 = r at hw ⊢
  refine PureC.of_body (tyOf_good _) Tryd.func183 rfl rfl (rs := [.tmp 2]) Tryd.results183 (by simp [Tryd.ntmps183]) fun X => ?_
  simp only [Tryd.ntmps183, List.map]
  refine AW_rg (tyOf_good _) [0] [] (fun _ _ => trivial) fun K' hK' => ?_
  repeat (refine sxf_next fun K2 hK2 => ?_; simp [dNum, dS]; (repeat (refine ⟨by omega, ?_⟩)); refine hK2 _ ?_; clear hK2 K2)
  refine sxf_nil (hK' _ ?_)
  refine AW.st (by simp [dNum, dS]; rfl) ?_
  clear hK' K'
  refine AW_rg (tyOf_good _) [2] [] (fun _ _ => trivial) fun K' hK' => ?_
  repeat (refine sxf_next fun K2 hK2 => ?_; simp [dNum, dS]; (repeat (refine ⟨by omega, ?_⟩)); refine hK2 _ ?_; clear hK2 K2)
  refine sxf_next fun K2 hK2 => ?_
  simp [dNum, dS]
  refine callK.data (hw) (by simp; rfl) (by first | exact D.leGo_refl _ | simp [takeMap, List.map_map, Function.comp_def, D.le, D.le.go, D.le_refl, D.leGo_refl, dNum, dS]) ?_
  refine hK2 _ ?_
  clear hK2 K2
  simp only [putd, upd_lst]
  repeat (refine sxf_next fun K2 hK2 => ?_; simp [dNum, dS]; (repeat (refine ⟨by omega, ?_⟩)); refine hK2 _ ?_; clear hK2 K2)
  refine sxf_nil (hK' _ ?_)
  refine AW.st (by simp [dNum, dS]; rfl) ?_
  clear hK' K'
  refine AW_ret ?_
  simp [D.le, D.le.go, takeMap, dNum, dS, D.le_refl]
theorem inv_Bit : Invs Tryd.prog 105 "Text" 186 := fun v w => by kernel_rfl
set_option maxHeartbeats 4000000 in
theorem mtext_Bit (G : Glob) (s : List UInt8) (hlen : (wrE (.bit s) 2).length ≤ 2^30) : PureC Tryd.prog G 186 [dS s] (dS (wrE (.bit s) 0)) := by
  have hw := write_spec G (.bit s) hlen 0 (by omega)
  rw [dE] at hw
  generalize wrE (.bit s) 0 = r at hw ⊢
  refine PureC.of_body (tyOf_good _) Tryd.func186 rfl rfl (rs := [.tmp 2]) Tryd.results186 (by simp [Tryd.ntmps186]) fun X => ?_
  simp only [Tryd.ntmps186, List.map]
  refine AW_rg (tyOf_good _) [0] [] (fun _ _ => trivial) fun K' hK' => ?_
  repeat (refine sxf_next fun K2 hK2 => ?_; simp [dNum, dS]; (repeat (refine ⟨by omega, ?_⟩)); refine hK2 _ ?_; clear hK2 K2)
  refine sxf_nil (hK' _ ?_)
  refine AW.st (by simp [dNum, dS]; rfl) ?_
  clear hK' K'
  refine AW_rg (tyOf_good _) [2] [] (fun _ _ => trivial) fun K' hK' => ?_
  repeat (refine sxf_next fun K2 hK2 => ?_; simp [dNum, dS]; (repeat (refine ⟨by omega, ?_⟩)); refine hK2 _ ?_; clear hK2 K2)
  refine sxf_next fun K2 hK2 => ?_
  simp [dNum, dS]
  refine callK.data (hw) (by simp; rfl) (by first | exact D.leGo_refl _ | simp [takeMap, List.map_map, Function.comp_def, D.le, D.le.go, D.le_refl, D.leGo_refl, dNum, dS]) ?_
  refine hK2 _ ?_
  clear hK2 K2
  simp only [putd, upd_lst]
  repeat (refine sxf_next fun K2 hK2 => ?_; simp [dNum, dS]; (repeat (refine ⟨by omega, ?_⟩)); refine hK2 _ ?_; clear hK2 K2)
  refine sxf_nil (hK' _ ?_)
  refine AW.st (by simp [dNum, dS]; rfl) ?_
  clear hK' K'
  refine AW_ret ?_
  simp [D.le, D.le.go, takeMap, dNum, dS, D.le_refl]
theorem inv_Rise : Invs Tryd.prog 106 "Text" 187 := fun v w => by kernel_rfl
set_option maxHeartbeats 4000000 in
theorem mtext_Rise (G : Glob) (s : List UInt8) (hlen : (wrE (.rise s) 2).length ≤ 2^30) : PureC Tryd.prog G 187 [dS s] (dS (wrE (.rise s) 0)) := by
  have hw := write_spec G (.rise s) hlen 0 (by omega)
  rw [dE] at hw
  generalize wrE (.rise s) 0 = r at hw ⊢
  refine PureC.of_body (tyOf_good _) Tryd.func187 rfl rfl (rs := [.tmp 2]) Tryd.results187 (by simp [Tryd.ntmps187]) fun X => ?_
  simp only [Tryd.ntmps187, List.map]
  refine AW_rg (tyOf_good _) [0] [] (fun _ _ => trivial) fun K' hK' => ?_
  repeat (refine sxf_next fun K2 hK2 => ?_; simp [dNum, dS]; (repeat (refine ⟨by omega, ?_⟩)); refine hK2 _ ?_; clear hK2 K2)
  refine sxf_nil (hK' _ ?_)
  refine AW.st (by simp [dNum, dS]; rfl) ?_
  clear hK' K'
  refine AW_rg (tyOf_good _) [2] [] (fun _ _ => trivial) fun K' hK' => ?_
  repeat (refine sxf_next fun K2 hK2 => ?_; simp [dNum, dS]; (repeat (refine ⟨by omega, ?_⟩)); refine hK2 _ ?_; clear hK2 K2)
  refine sxf_next fun K2 hK2 => ?_
  simp [dNum, dS]
  refine callK.data (hw) (by simp; rfl) (by first | exact D.leGo_refl _ | simp [takeMap, List.map_map, Function.comp_def, D.le, D.le.go, D.le_refl, D.leGo_refl, dNum, dS]) ?_
  refine hK2 _ ?_
  clear hK2 K2
  simp only [putd, upd_lst]
  repeat (refine sxf_next fun K2 hK2 => ?_; simp [dNum, dS]; (repeat (refine ⟨by omega, ?_⟩)); refine hK2 _ ?_; clear hK2 K2)
  refine sxf_nil (hK' _ ?_)
  refine AW.st (by simp [dNum, dS]; rfl) ?_
  clear hK' K'
  refine AW_ret ?_
  simp [D.le, D.le.go, takeMap, dNum, dS, D.le_refl]
theorem inv_Fall : Invs Tryd.prog 107 "Text" 188 := fun v w => by kernel_rfl
set_option maxHeartbeats 4000000 in
theorem mtext_Fall (G : Glob) (s : List UInt8) (hlen : (wrE (.fall s) 2).length ≤ 2^30) : PureC Tryd.prog G 188 [dS s] (dS (wrE (.fall s) 0)) := by
  have hw := write_spec G (.fall s) hlen 0 (by omega)
  rw [dE] at hw
  generalize wrE (.fall s) 0 = r at hw ⊢
  refine PureC.of_body (tyOf_good _) Tryd.func188 rfl rfl (rs := [.tmp 2]) Tryd.results188 (by simp [Tryd.ntmps188]) fun X => ?_
  simp only [Tryd.ntmps188, List.map]
  refine AW_rg (tyOf_good _) [0] [] (fun _ _ => trivial) fun K' hK' => ?_
  repeat (refine sxf_next fun K2 hK2 => ?_; simp [dNum, dS]; (repeat (refine ⟨by omega, ?_⟩)); refine hK2 _ ?_; clear hK2 K2)
  refine sxf_nil (hK' _ ?_)
  refine AW.st (by simp [dNum, dS]; rfl) ?_
  clear hK' K'
  refine AW_rg (tyOf_good _) [2] [] (fun _ _ => trivial) fun K' hK' => ?_
  repeat (refine sxf_next fun K2 hK2 => ?_; simp [dNum, dS]; (repeat (refine ⟨by omega, ?_⟩)); refine hK2 _ ?_; clear hK2 K2)
  refine sxf_next fun K2 hK2 => ?_
  simp [dNum, dS]
  refine callK.data (hw) (by simp; rfl) (by first | exact D.leGo_refl _ | simp [takeMap, List.map_map, Function.comp_def, D.le, D.le.go, D.le_refl, D.leGo_refl, dNum, dS]) ?_
  refine hK2 _ ?_
  clear hK2 K2
  simp only [putd, upd_lst]
  repeat (refine sxf_next fun K2 hK2 => ?_; simp [dNum, dS]; (repeat (refine ⟨by omega, ?_⟩)); refine hK2 _ ?_; clear hK2 K2)
  refine sxf_nil (hK' _ ?_)
  refine AW.st (by simp [dNum, dS]; rfl) ?_
  clear hK' K'
  refine AW_ret ?_
  simp [D.le, D.le.go, takeMap, dNum, dS, D.le_refl]
theorem inv_Not : Invs Tryd.prog 109 "Text" 189 := fun v w => by kernel_rfl
set_option maxHeartbeats 4000000 in
theorem mtext_Not (G : Glob) (x : Ex) (hlen : (wrE (.not x) 2).length ≤ 2^30) : PureC Tryd.prog G 189 [.agg [dE x]] (dS (wrE (.not x) 0)) := by
  have hw := write_spec G (.not x) hlen 0 (by omega)
  rw [dE] at hw
  generalize wrE (.not x) 0 = r at hw ⊢
  obtain ⟨tx, cx, hx⟩ := dE_ifc x
  rw [hx] at hw ⊢
  refine PureC.of_body (tyOf_good _) Tryd.func189 rfl rfl (rs := [.tmp 2]) Tryd.results189 (by simp [Tryd.ntmps189]) fun X => ?_
  simp only [Tryd.ntmps189, List.map]
  refine AW_rg (tyOf_good _) [1] [1] (fun _ _ => trivial) fun K' hK' => ?_
  repeat (refine sxf_next fun K2 hK2 => ?_; simp [dNum, dS]; (repeat (refine ⟨by omega, ?_⟩)); refine hK2 _ ?_; clear hK2 K2)
  refine sxf_nil (hK' _ ?_)
  refine AW.st (by simp [dNum, dS]; rfl) ?_
  clear hK' K'
  refine AW_rg (tyOf_good _) [2] [1] (fun _ _ => trivial) fun K' hK' => ?_
  repeat (refine sxf_next fun K2 hK2 => ?_; simp [dNum, dS]; (repeat (refine ⟨by omega, ?_⟩)); refine hK2 _ ?_; clear hK2 K2)
  refine sxf_next fun K2 hK2 => ?_
  simp [dNum, dS]
  refine callK.data (hw) (by simp; rfl) (by first | exact D.leGo_refl _ | simp [takeMap, List.map_map, Function.comp_def, D.le, D.le.go, D.le_refl, D.leGo_refl, dNum, dS]) ?_
  refine hK2 _ ?_
  clear hK2 K2
  simp only [putd, upd_lst]
  repeat (refine sxf_next fun K2 hK2 => ?_; simp [dNum, dS]; (repeat (refine ⟨by omega, ?_⟩)); refine hK2 _ ?_; clear hK2 K2)
  refine sxf_nil (hK' _ ?_)
  refine AW.st (by simp [dNum, dS]; rfl) ?_
  clear hK' K'
  refine AW_ret ?_
  simp [D.le, D.le.go, takeMap, dNum, dS, D.le_refl]
theorem inv_And : Invs Tryd.prog 111 "Text" 190 := fun v w => by kernel_rfl
set_option maxHeartbeats 4000000 in
theorem mtext_And (G : Glob) (l : List Ex) (hlen : (wrE (.and l) 2).length ≤ 2^30) : PureC Tryd.prog G 190 [.sl none (dEs l)] (dS (wrE (.and l) 0)) := by
  have hw := write_spec G (.and l) hlen 0 (by omega)
  rw [dE] at hw
  generalize wrE (.and l) 0 = r at hw ⊢
  refine PureC.of_body (tyOf_good _) Tryd.func190 rfl rfl (rs := [.tmp 2]) Tryd.results190 (by simp [Tryd.ntmps190]) fun X => ?_
  simp only [Tryd.ntmps190, List.map]
  refine AW_rg (tyOf_good _) [0] [] (fun _ _ => trivial) fun K' hK' => ?_
  repeat (refine sxf_next fun K2 hK2 => ?_; simp [dNum, dS]; (repeat (refine ⟨by omega, ?_⟩)); refine hK2 _ ?_; clear hK2 K2)
  refine sxf_nil (hK' _ ?_)
  refine AW.st (by simp [dNum, dS]; rfl) ?_
  clear hK' K'
  refine AW_rg (tyOf_good _) [2] [] (fun _ _ => trivial) fun K' hK' => ?_
  repeat (refine sxf_next fun K2 hK2 => ?_; simp [dNum, dS]; (repeat (refine ⟨by omega, ?_⟩)); refine hK2 _ ?_; clear hK2 K2)
  refine sxf_next fun K2 hK2 => ?_
  simp [dNum, dS]
  refine callK.data (hw) (by simp; rfl) (by first | exact D.leGo_refl _ | simp [takeMap, List.map_map, Function.comp_def, D.le, D.le.go, D.le_refl, D.leGo_refl, dNum, dS]) ?_
  refine hK2 _ ?_
  clear hK2 K2
  simp only [putd, upd_lst]
  repeat (refine sxf_next fun K2 hK2 => ?_; simp [dNum, dS]; (repeat (refine ⟨by omega, ?_⟩)); refine hK2 _ ?_; clear hK2 K2)
  refine sxf_nil (hK' _ ?_)
  refine AW.st (by simp [dNum, dS]; rfl) ?_
  clear hK' K'
  refine AW_ret ?_
  simp [D.le, D.le.go, takeMap, dNum, dS, D.le_refl]
theorem inv_Or : Invs Tryd.prog 114 "Text" 191 := fun v w => by kernel_rfl
set_option maxHeartbeats 4000000 in
theorem mtext_Or (G : Glob) (l : List Ex) (hlen : (wrE (.or l) 2).length ≤ 2^30) : PureC Tryd.prog G 191 [.sl none (dEs l)] (dS (wrE (.or l) 0)) := by
  have hw := write_spec G (.or l) hlen 0 (by omega)
  rw [dE] at hw
  generalize wrE (.or l) 0 = r at hw ⊢
  refine PureC.of_body (tyOf_good _) Tryd.func191 rfl rfl (rs := [.tmp 2]) Tryd.results191 (by simp [Tryd.ntmps191]) fun X => ?_
  simp only [Tryd.ntmps191, List.map]
  refine AW_rg (tyOf_good _) [0] [] (fun _ _ => trivial) fun K' hK' => ?_
  repeat (refine sxf_next fun K2 hK2 => ?_; simp [dNum, dS]; (repeat (refine ⟨by omega, ?_⟩)); refine hK2 _ ?_; clear hK2 K2)
  refine sxf_nil (hK' _ ?_)
  refine AW.st (by simp [dNum, dS]; rfl) ?_
  clear hK' K'
  refine AW_rg (tyOf_good _) [2] [] (fun _ _ => trivial) fun K' hK' => ?_
  repeat (refine sxf_next fun K2 hK2 => ?_; simp [dNum, dS]; (repeat (refine ⟨by omega, ?_⟩)); refine hK2 _ ?_; clear hK2 K2)
  refine sxf_next fun K2 hK2 => ?_
  simp [dNum, dS]
  refine callK.data (hw) (by simp; rfl) (by first | exact D.leGo_refl _ | simp [takeMap, List.map_map, Function.comp_def, D.le, D.le.go, D.le_refl, D.leGo_refl, dNum, dS]) ?_
  refine hK2 _ ?_
  clear hK2 K2
  simp only [putd, upd_lst]
  repeat (refine sxf_next fun K2 hK2 => ?_; simp [dNum, dS]; (repeat (refine ⟨by omega, ?_⟩)); refine hK2 _ ?_; clear hK2 K2)
  refine sxf_nil (hK' _ ?_)
  refine AW.st (by simp [dNum, dS]; rfl) ?_
  clear hK' K'
  refine AW_ret ?_
  simp [D.le, D.le.go, takeMap, dNum, dS, D.le_refl]

set_option maxHeartbeats 4000000 in
theorem etext_spec (G : Glob) (e : Ex) (hlen : (wrE e 2).length ≤ 2^30) : PureC Tryd.prog G 19 [dE e] (dS (wrE e 0)) := by
  cases e with
  | cst b =>
    have hm := mtext_Const G b hlen
    rw [dE]
    generalize wrE (.cst b) 0 = r at hm ⊢
    refine PureC.of_body (tyOf_good _) Tryd.func19 rfl rfl (rs := [.tmp 2]) Tryd.results19 (by simp [Tryd.ntmps19]) fun X => ?_
    simp only [Tryd.ntmps19, List.map]
    refine AW_rg (tyOf_good _) [0] [] (fun _ _ => trivial) fun K' hK' => ?_
    repeat (refine sxf_next fun K2 hK2 => ?_; simp [dNum, dS]; (repeat (refine ⟨by omega, ?_⟩)); refine hK2 _ ?_; clear hK2 K2)
    refine sxf_nil (hK' _ ?_)
    refine AW.st (by simp [dNum, dS]; rfl) ?_
    clear hK' K'
    refine AW_then fun K1 hK1 => ?_
    refine AW_rg (tyOf_good _) [0, 4] [] (fun _ _ => trivial) fun K' hK' => ?_
    repeat (refine sxf_next fun K2 hK2 => ?_; simp [dNum, dS]; (repeat (refine ⟨by omega, ?_⟩)); refine hK2 _ ?_; clear hK2 K2)
    refine sxf_nil (hK' _ ?_)
    refine AW.st (by simp [dNum, dS]; rfl) ?_
    clear hK' K'
    refine AW_cond false rfl (fun h => by cases h) (fun _ => ?_)
    refine AW_skip (hK1 _ ?_)
    refine AW_ri (tyOf_good _) [2] [] (fun _ _ => trivial) fun K' hK' => ?_
    repeat (refine sxi_next fun K2 hK2 => ?_; simp [dNum, dS]; (repeat (refine ⟨by omega, ?_⟩)); refine hK2 _ ?_; clear hK2 K2)
    refine sxi_next fun K2 hK2 => ?_
    simp [dNum, dS]
    refine ⟨_, _, ⟨rfl, rfl⟩, _, inv_Const, callK.data (hm) (by simp; rfl) (by first | exact D.leGo_refl _ | simp [takeMap, List.map_map, Function.comp_def, D.le, D.le.go, D.le_refl, D.leGo_refl, dNum, dS]) ?_⟩
    refine hK2 _ ?_
    clear hK2 K2
    simp only [putd, upd_lst]
    repeat (refine sxi_next fun K2 hK2 => ?_; simp [dNum, dS]; (repeat (refine ⟨by omega, ?_⟩)); refine hK2 _ ?_; clear hK2 K2)
    refine sxi_nil (hK' _ ?_)
    refine AW.st (by simp [dNum, dS]; rfl) ?_
    clear hK' K'
    refine AW_ret ?_
    simp [D.le, D.le.go, takeMap, dNum, dS, D.le_refl]
  | bit s =>
    have hm := mtext_Bit G s hlen
    rw [dE]
    generalize wrE (.bit s) 0 = r at hm ⊢
    refine PureC.of_body (tyOf_good _) Tryd.func19 rfl rfl (rs := [.tmp 2]) Tryd.results19 (by simp [Tryd.ntmps19]) fun X => ?_
    simp only [Tryd.ntmps19, List.map]
    refine AW_rg (tyOf_good _) [0] [] (fun _ _ => trivial) fun K' hK' => ?_
    repeat (refine sxf_next fun K2 hK2 => ?_; simp [dNum, dS]; (repeat (refine ⟨by omega, ?_⟩)); refine hK2 _ ?_; clear hK2 K2)
    refine sxf_nil (hK' _ ?_)
    refine AW.st (by simp [dNum, dS]; rfl) ?_
    clear hK' K'
    refine AW_then fun K1 hK1 => ?_
    refine AW_rg (tyOf_good _) [0, 4] [] (fun _ _ => trivial) fun K' hK' => ?_
    repeat (refine sxf_next fun K2 hK2 => ?_; simp [dNum, dS]; (repeat (refine ⟨by omega, ?_⟩)); refine hK2 _ ?_; clear hK2 K2)
    refine sxf_nil (hK' _ ?_)
    refine AW.st (by simp [dNum, dS]; rfl) ?_
    clear hK' K'
    refine AW_cond false rfl (fun h => by cases h) (fun _ => ?_)
    refine AW_skip (hK1 _ ?_)
    refine AW_ri (tyOf_good _) [2] [] (fun _ _ => trivial) fun K' hK' => ?_
    repeat (refine sxi_next fun K2 hK2 => ?_; simp [dNum, dS]; (repeat (refine ⟨by omega, ?_⟩)); refine hK2 _ ?_; clear hK2 K2)
    refine sxi_next fun K2 hK2 => ?_
    simp [dNum, dS]
    refine ⟨_, _, ⟨rfl, rfl⟩, _, inv_Bit, callK.data (hm) (by simp; rfl) (by first | exact D.leGo_refl _ | simp [takeMap, List.map_map, Function.comp_def, D.le, D.le.go, D.le_refl, D.leGo_refl, dNum, dS]) ?_⟩
    refine hK2 _ ?_
    clear hK2 K2
    simp only [putd, upd_lst]
    repeat (refine sxi_next fun K2 hK2 => ?_; simp [dNum, dS]; (repeat (refine ⟨by omega, ?_⟩)); refine hK2 _ ?_; clear hK2 K2)
    refine sxi_nil (hK' _ ?_)
    refine AW.st (by simp [dNum, dS]; rfl) ?_
    clear hK' K'
    refine AW_ret ?_
    simp [D.le, D.le.go, takeMap, dNum, dS, D.le_refl]
  | rise s =>
    have hm := mtext_Rise G s hlen
    rw [dE]
    generalize wrE (.rise s) 0 = r at hm ⊢
    refine PureC.of_body (tyOf_good _) Tryd.func19 rfl rfl (rs := [.tmp 2]) Tryd.results19 (by simp [Tryd.ntmps19]) fun X => ?_
    simp only [Tryd.ntmps19, List.map]
    refine AW_rg (tyOf_good _) [0] [] (fun _ _ => trivial) fun K' hK' => ?_
    repeat (refine sxf_next fun K2 hK2 => ?_; simp [dNum, dS]; (repeat (refine ⟨by omega, ?_⟩)); refine hK2 _ ?_; clear hK2 K2)
    refine sxf_nil (hK' _ ?_)
    refine AW.st (by simp [dNum, dS]; rfl) ?_
    clear hK' K'
    refine AW_then fun K1 hK1 => ?_
    refine AW_rg (tyOf_good _) [0, 4] [] (fun _ _ => trivial) fun K' hK' => ?_
    repeat (refine sxf_next fun K2 hK2 => ?_; simp [dNum, dS]; (repeat (refine ⟨by omega, ?_⟩)); refine hK2 _ ?_; clear hK2 K2)
    refine sxf_nil (hK' _ ?_)
    refine AW.st (by simp [dNum, dS]; rfl) ?_
    clear hK' K'
    refine AW_cond false rfl (fun h => by cases h) (fun _ => ?_)
    refine AW_skip (hK1 _ ?_)
    refine AW_ri (tyOf_good _) [2] [] (fun _ _ => trivial) fun K' hK' => ?_
    repeat (refine sxi_next fun K2 hK2 => ?_; simp [dNum, dS]; (repeat (refine ⟨by omega, ?_⟩)); refine hK2 _ ?_; clear hK2 K2)
    refine sxi_next fun K2 hK2 => ?_
    simp [dNum, dS]
    refine ⟨_, _, ⟨rfl, rfl⟩, _, inv_Rise, callK.data (hm) (by simp; rfl) (by first | exact D.leGo_refl _ | simp [takeMap, List.map_map, Function.comp_def, D.le, D.le.go, D.le_refl, D.leGo_refl, dNum, dS]) ?_⟩
    refine hK2 _ ?_
    clear hK2 K2
    simp only [putd, upd_lst]
    repeat (refine sxi_next fun K2 hK2 => ?_; simp [dNum, dS]; (repeat (refine ⟨by omega, ?_⟩)); refine hK2 _ ?_; clear hK2 K2)
    refine sxi_nil (hK' _ ?_)
    refine AW.st (by simp [dNum, dS]; rfl) ?_
    clear hK' K'
    refine AW_ret ?_
    simp [D.le, D.le.go, takeMap, dNum, dS, D.le_refl]
  | fall s =>
    have hm := mtext_Fall G s hlen
    rw [dE]
    generalize wrE (.fall s) 0 = r at hm ⊢
    refine PureC.of_body (tyOf_good _) Tryd.func19 rfl rfl (rs := [.tmp 2]) Tryd.results19 (by simp [Tryd.ntmps19]) fun X => ?_
    simp only [Tryd.ntmps19, List.map]
    refine AW_rg (tyOf_good _) [0] [] (fun _ _ => trivial) fun K' hK' => ?_
    repeat (refine sxf_next fun K2 hK2 => ?_; simp [dNum, dS]; (repeat (refine ⟨by omega, ?_⟩)); refine hK2 _ ?_; clear hK2 K2)
    refine sxf_nil (hK' _ ?_)
    refine AW.st (by simp [dNum, dS]; rfl) ?_
    clear hK' K'
    refine AW_then fun K1 hK1 => ?_
    refine AW_rg (tyOf_good _) [0, 4] [] (fun _ _ => trivial) fun K' hK' => ?_
    repeat (refine sxf_next fun K2 hK2 => ?_; simp [dNum, dS]; (repeat (refine ⟨by omega, ?_⟩)); refine hK2 _ ?_; clear hK2 K2)
    refine sxf_nil (hK' _ ?_)
    refine AW.st (by simp [dNum, dS]; rfl) ?_
    clear hK' K'
    refine AW_cond false rfl (fun h => by cases h) (fun _ => ?_)
    refine AW_skip (hK1 _ ?_)
    refine AW_ri (tyOf_good _) [2] [] (fun _ _ => trivial) fun K' hK' => ?_
    repeat (refine sxi_next fun K2 hK2 => ?_; simp [dNum, dS]; (repeat (refine ⟨by omega, ?_⟩)); refine hK2 _ ?_; clear hK2 K2)
    refine sxi_next fun K2 hK2 => ?_
    simp [dNum, dS]
    refine ⟨_, _, ⟨rfl, rfl⟩, _, inv_Fall, callK.data (hm) (by simp; rfl) (by first | exact D.leGo_refl _ | simp [takeMap, List.map_map, Function.comp_def, D.le, D.le.go, D.le_refl, D.leGo_refl, dNum, dS]) ?_⟩
    refine hK2 _ ?_
    clear hK2 K2
    simp only [putd, upd_lst]
    repeat (refine sxi_next fun K2 hK2 => ?_; simp [dNum, dS]; (repeat (refine ⟨by omega, ?_⟩)); refine hK2 _ ?_; clear hK2 K2)
    refine sxi_nil (hK' _ ?_)
    refine AW.st (by simp [dNum, dS]; rfl) ?_
    clear hK' K'
    refine AW_ret ?_
    simp [D.le, D.le.go, takeMap, dNum, dS, D.le_refl]
  | not x =>
    have hm := mtext_Not G x hlen
    rw [dE]
    generalize wrE (.not x) 0 = r at hm ⊢
    obtain ⟨tx, cx, hx⟩ := dE_ifc x
    rw [hx] at hm ⊢
    refine PureC.of_body (tyOf_good _) Tryd.func19 rfl rfl (rs := [.tmp 2]) Tryd.results19 (by simp [Tryd.ntmps19]) fun X => ?_
    simp only [Tryd.ntmps19, List.map]
    refine AW_rg (tyOf_good _) [0] [] (fun _ _ => trivial) fun K' hK' => ?_
    repeat (refine sxf_next fun K2 hK2 => ?_; simp [dNum, dS]; (repeat (refine ⟨by omega, ?_⟩)); refine hK2 _ ?_; clear hK2 K2)
    refine sxf_nil (hK' _ ?_)
    refine AW.st (by simp [dNum, dS]; rfl) ?_
    clear hK' K'
    refine AW_then fun K1 hK1 => ?_
    refine AW_rg (tyOf_good _) [0, 4] [] (fun _ _ => trivial) fun K' hK' => ?_
    repeat (refine sxf_next fun K2 hK2 => ?_; simp [dNum, dS]; (repeat (refine ⟨by omega, ?_⟩)); refine hK2 _ ?_; clear hK2 K2)
    refine sxf_nil (hK' _ ?_)
    refine AW.st (by simp [dNum, dS]; rfl) ?_
    clear hK' K'
    refine AW_cond false rfl (fun h => by cases h) (fun _ => ?_)
    refine AW_skip (hK1 _ ?_)
    refine AW_ri (tyOf_good _) [2] [] (fun _ _ => trivial) fun K' hK' => ?_
    repeat (refine sxi_next fun K2 hK2 => ?_; simp [dNum, dS]; (repeat (refine ⟨by omega, ?_⟩)); refine hK2 _ ?_; clear hK2 K2)
    refine sxi_next fun K2 hK2 => ?_
    simp [dNum, dS]
    refine ⟨_, _, ⟨rfl, rfl⟩, _, inv_Not, callK.data (hm) (by simp; rfl) (by first | exact D.leGo_refl _ | simp [takeMap, List.map_map, Function.comp_def, D.le, D.le.go, D.le_refl, D.leGo_refl, dNum, dS]) ?_⟩
    refine hK2 _ ?_
    clear hK2 K2
    simp only [putd, upd_lst]
    repeat (refine sxi_next fun K2 hK2 => ?_; simp [dNum, dS]; (repeat (refine ⟨by omega, ?_⟩)); refine hK2 _ ?_; clear hK2 K2)
    refine sxi_nil (hK' _ ?_)
    refine AW.st (by simp [dNum, dS]; rfl) ?_
    clear hK' K'
    refine AW_ret ?_
    simp [D.le, D.le.go, takeMap, dNum, dS, D.le_refl]
  | and l =>
    have hm := mtext_And G l hlen
    rw [dE]
    generalize wrE (.and l) 0 = r at hm ⊢
    refine PureC.of_body (tyOf_good _) Tryd.func19 rfl rfl (rs := [.tmp 2]) Tryd.results19 (by simp [Tryd.ntmps19]) fun X => ?_
    simp only [Tryd.ntmps19, List.map]
    refine AW_rg (tyOf_good _) [0] [] (fun _ _ => trivial) fun K' hK' => ?_
    repeat (refine sxf_next fun K2 hK2 => ?_; simp [dNum, dS]; (repeat (refine ⟨by omega, ?_⟩)); refine hK2 _ ?_; clear hK2 K2)
    refine sxf_nil (hK' _ ?_)
    refine AW.st (by simp [dNum, dS]; rfl) ?_
    clear hK' K'
    refine AW_then fun K1 hK1 => ?_
    refine AW_rg (tyOf_good _) [0, 4] [] (fun _ _ => trivial) fun K' hK' => ?_
    repeat (refine sxf_next fun K2 hK2 => ?_; simp [dNum, dS]; (repeat (refine ⟨by omega, ?_⟩)); refine hK2 _ ?_; clear hK2 K2)
    refine sxf_nil (hK' _ ?_)
    refine AW.st (by simp [dNum, dS]; rfl) ?_
    clear hK' K'
    refine AW_cond false rfl (fun h => by cases h) (fun _ => ?_)
    refine AW_skip (hK1 _ ?_)
    refine AW_ri (tyOf_good _) [2] [] (fun _ _ => trivial) fun K' hK' => ?_
    repeat (refine sxi_next fun K2 hK2 => ?_; simp [dNum, dS]; (repeat (refine ⟨by omega, ?_⟩)); refine hK2 _ ?_; clear hK2 K2)
    refine sxi_next fun K2 hK2 => ?_
    simp [dNum, dS]
    refine ⟨_, _, ⟨rfl, rfl⟩, _, inv_And, callK.data (hm) (by simp; rfl) (by first | exact D.leGo_refl _ | simp [takeMap, List.map_map, Function.comp_def, D.le, D.le.go, D.le_refl, D.leGo_refl, dNum, dS]) ?_⟩
    refine hK2 _ ?_
    clear hK2 K2
    simp only [putd, upd_lst]
    repeat (refine sxi_next fun K2 hK2 => ?_; simp [dNum, dS]; (repeat (refine ⟨by omega, ?_⟩)); refine hK2 _ ?_; clear hK2 K2)
    refine sxi_nil (hK' _ ?_)
    refine AW.st (by simp [dNum, dS]; rfl) ?_
    clear hK' K'
    refine AW_ret ?_
    simp [D.le, D.le.go, takeMap, dNum, dS, D.le_refl]
  | or l =>
    have hm := mtext_Or G l hlen
    rw [dE]
    generalize wrE (.or l) 0 = r at hm ⊢
    refine PureC.of_body (tyOf_good _) Tryd.func19 rfl rfl (rs := [.tmp 2]) Tryd.results19 (by simp [Tryd.ntmps19]) fun X => ?_
    simp only [Tryd.ntmps19, List.map]
    refine AW_rg (tyOf_good _) [0] [] (fun _ _ => trivial) fun K' hK' => ?_
    repeat (refine sxf_next fun K2 hK2 => ?_; simp [dNum, dS]; (repeat (refine ⟨by omega, ?_⟩)); refine hK2 _ ?_; clear hK2 K2)
    refine sxf_nil (hK' _ ?_)
    refine AW.st (by simp [dNum, dS]; rfl) ?_
    clear hK' K'
    refine AW_then fun K1 hK1 => ?_
    refine AW_rg (tyOf_good _) [0, 4] [] (fun _ _ => trivial) fun K' hK' => ?_
    repeat (refine sxf_next fun K2 hK2 => ?_; simp [dNum, dS]; (repeat (refine ⟨by omega, ?_⟩)); refine hK2 _ ?_; clear hK2 K2)
    refine sxf_nil (hK' _ ?_)
    refine AW.st (by simp [dNum, dS]; rfl) ?_
    clear hK' K'
    refine AW_cond false rfl (fun h => by cases h) (fun _ => ?_)
    refine AW_skip (hK1 _ ?_)
    refine AW_ri (tyOf_good _) [2] [] (fun _ _ => trivial) fun K' hK' => ?_
    repeat (refine sxi_next fun K2 hK2 => ?_; simp [dNum, dS]; (repeat (refine ⟨by omega, ?_⟩)); refine hK2 _ ?_; clear hK2 K2)
    refine sxi_next fun K2 hK2 => ?_
    simp [dNum, dS]
    refine ⟨_, _, ⟨rfl, rfl⟩, _, inv_Or, callK.data (hm) (by simp; rfl) (by first | exact D.leGo_refl _ | simp [takeMap, List.map_map, Function.comp_def, D.le, D.le.go, D.le_refl, D.leGo_refl, dNum, dS]) ?_⟩
    refine hK2 _ ?_
    clear hK2 K2
    simp only [putd, upd_lst]
    repeat (refine sxi_next fun K2 hK2 => ?_; simp [dNum, dS]; (repeat (refine ⟨by omega, ?_⟩)); refine hK2 _ ?_; clear hK2 K2)
    refine sxi_nil (hK' _ ?_)
    refine AW.st (by simp [dNum, dS]; rfl) ?_
    clear hK' K'
    refine AW_ret ?_
    simp [D.le, D.le.go, takeMap, dNum, dS, D.le_refl]
end Go.Proofs.YtfehigldhedkgaaDoor

/-
  DERIVED: THE SHELF's CONTRACTS AT THIS DUMP, IN PLAIN WORDS (tools/lay-plain.mjs out of 'YtfehigldhedkgaaDoorSh2s.lean', which tools/lay-shelf.mjs wrote): THE SAME DECLARATIONS UNDER THE SAME NAMES: 'import', 'namespace', 'open', 'def', 'theorem' AND NOTHING ELSE: no command of the shelf's: FOR A HAND-IN. Each laying: the table of numbers ('.._ren') and one theorem, a field a fact of the dump's own or the kernel's comparison; each contract: ONE APPLICATION.
-/
namespace Go.Proofs
open Go.Shelf
def Tryd.lays151_ren : Go.Shelf.Ren := ⟨fun | 151 => 111 | 152 => 133 | 137 => 131 | 119 => 144 | 224 => 145 | 225 => 146 | 217 => 142 | 266 => 148 | n => n, fun | 9 => 9 | 21 => 21 | 4 => 4 | 3 => 3 | 5 => 5 | 0 => 0 | 46 => 160 | n => n, fun | n => n⟩
theorem Tryd.lays151 : Go.Proofs.Lays.n151 Tryd.prog Tryd.lays151_ren := {
  mixed := by kernel_rfl
  f119 := Tryd.func144.trans (congrArg some (by kernel_rfl))
  f137 := Tryd.func131.trans (congrArg some (by kernel_rfl))
  f151 := Tryd.func111.trans (congrArg some (by kernel_rfl))
  f152 := Tryd.func133.trans (congrArg some (by kernel_rfl))
  f217 := Tryd.func142.trans (congrArg some (by kernel_rfl))
  f224 := Tryd.func145.trans (congrArg some (by kernel_rfl))
  f225 := Tryd.func146.trans (congrArg some (by kernel_rfl))
  f266 := Tryd.func148.trans (congrArg some (by kernel_rfl))
  t0 := Tryd.underlying0
  a0 := Tryd.isAgg0
  z0 := Tryd.sizeOf0
  v0 := Tryd.zeroValue0
  t3 := Tryd.underlying3
  a3 := Tryd.isAgg3
  z3 := Tryd.sizeOf3
  v3 := Tryd.zeroValue3
  t4 := Tryd.underlying4
  a4 := Tryd.isAgg4
  z4 := Tryd.sizeOf4
  v4 := Tryd.zeroValue4
  t5 := Tryd.underlying5
  a5 := Tryd.isAgg5
  z5 := Tryd.sizeOf5
  v5 := Tryd.zeroValue5
  t9 := Tryd.underlying9
  a9 := Tryd.isAgg9
  z9 := Tryd.sizeOf9
  v9 := Tryd.zeroValue9
  t21 := Tryd.underlying21
  a21 := Tryd.isAgg21
  z21 := Tryd.sizeOf21
  v21 := Tryd.zeroValue21
  t46 := Tryd.underlying160
  a46 := Tryd.isAgg160
  z46 := Tryd.sizeOf160
  v46 := Tryd.zeroValue160 }
end Go.Proofs
