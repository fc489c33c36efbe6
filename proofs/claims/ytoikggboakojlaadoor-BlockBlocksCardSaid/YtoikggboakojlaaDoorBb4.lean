/-
  Texts that belong together, in one file: P7, E1, E2, Av20, Av21, E3, E4, G1, M2, M3, M4, F13, F14, M6, M7.
-/
import Derived.Test.YtoikggboakojlaaDoorBb3
import Derived.Test.YtoikggboakojlaaDoorProg
import Derived.WalkKit
import Derived.LaidEql
import Derived.Stop.Asserts
import Derived.RowKitTokens
import Derived.ProofKit
import Derived.OpenShut
import Derived.Carry
import Derived.Deep.Slices
import Derived.RegionTactic
import Derived.ChangeAlike
/-
  Plain facts: blocks, parts and the table of blocks, as pairs that are marked tell them.
-/
namespace Go.Proofs.YtoikggboakojlaaDoor
set_option linter.unusedSimpArgs false
set_option linter.unusedVariables false

def sg (t : Tab) (k : Nat) : List (List Int) := (List.range t.n).map (sig t (iter t k))
theorem sg_len (t : Tab) (k : Nat) : (sg t k).length = t.n := by simp [sg]
theorem sg_num {t : Tab} {k : Nat} (hs : Stops t k) : numberF (sg t k) = iter t k := hs.1
theorem sg_same {t : Tab} {k : Nat} (hs : Stops t k) {i j : Nat} (hi : i < t.n) (hj : j < t.n) : (iter t k).getD i 0 = (iter t k).getD j 0 ↔ (sg t k).getD i [] = (sg t k).getD j [] := by
  have h := number_same (L := sg t k) (i := i) (j := j) (by rw [sg_len]; exact hi) (by rw [sg_len]; exact hj)
  rwa [sg_num hs] at h

/-- How many blocks the first states have. -/
def bn (t : Tab) (k s : Nat) : Nat := dn (sg t k) s
theorem bn_zero (t : Tab) (k : Nat) : bn t k 0 = 0 := by simp [bn, dn, numSt]
theorem bn_le {t : Tab} {k s : Nat} (h : s ≤ t.n) : bn t k s ≤ s := dn_le (by rw [sg_len]; exact h)
theorem blk_new {t : Tab} {k : Nat} (hs : Stops t k) {s : Nat} (h : s < t.n) (hnew : ∀ r, r < s → (iter t k).getD r 0 ≠ (iter t k).getD s 0) : bn t k (s + 1) = bn t k s + 1 ∧ (iter t k).getD s 0 = (bn t k s : Int) := by
  have h1 := number_new (L := sg t k) (n := s) (by rw [sg_len]; exact h) (fun i hi he => hnew i hi ((sg_same hs (by omega) h).2 he))
  rwa [sg_num hs] at h1
theorem blk_old {t : Tab} {k : Nat} (hs : Stops t k) {s r : Nat} (h : s < t.n) (hr : r < s) (he : (iter t k).getD r 0 = (iter t k).getD s 0) : bn t k (s + 1) = bn t k s ∧ 0 ≤ (iter t k).getD s 0 := by
  obtain ⟨h1, k', h2, _⟩ := number_old (L := sg t k) (n := s) (by rw [sg_len]; exact h) hr ((sg_same hs (by omega) h).1 he)
  rw [sg_num hs] at h2
  exact ⟨h1, by omega⟩
theorem blk_nat {t : Tab} {k : Nat} (hs : Stops t k) {s : Nat} (h : s < t.n) : 0 ≤ (iter t k).getD s 0 := by
  obtain ⟨q, h1, _⟩ := number_le (L := sg t k) (n := t.n) (i := s) (by rw [sg_len]; exact Nat.le_refl _) h
  rw [sg_num hs] at h1
  omega

/-- The number that is found among the states ahead: that of the state itself, or none. -/
def foundK (t : Tab) (k s r : Nat) : Int := if (List.range r).any (fun q => (iter t k).getD q 0 == (iter t k).getD s 0) then (iter t k).getD s 0 else -1
theorem foundK_zero (t : Tab) (k s : Nat) : foundK t k s 0 = -1 := by simp [foundK]
theorem foundK_hit {t : Tab} {k s r : Nat} (h : (iter t k).getD r 0 = (iter t k).getD s 0) : foundK t k s (r + 1) = (iter t k).getD s 0 := by
  unfold foundK
  rw [if_pos]
  exact List.any_eq_true.2 ⟨r, List.mem_range.2 (by omega), by simpa using h⟩
theorem foundK_miss {t : Tab} {k s r : Nat} (h : (iter t k).getD r 0 ≠ (iter t k).getD s 0) : foundK t k s (r + 1) = foundK t k s r := by
  unfold foundK
  rw [List.range_succ, List.any_append]
  have e : ((iter t k).getD r 0 == (iter t k).getD s 0) = false := by rw [beq_eq_false_iff_ne]; exact h
  rw [List.any_cons, List.any_nil, e, Bool.false_or, Bool.or_false]
theorem foundK_keep {t : Tab} {k : Nat} (hs : Stops t k) {s r : Nat} (hsn : s < t.n) (h : 0 ≤ foundK t k s r) : foundK t k s (r + 1) = foundK t k s r := by
  unfold foundK at h ⊢
  split at h
  · rename_i h1
    rw [if_pos h1, if_pos]
    rw [List.range_succ, List.any_append, h1, Bool.true_or]
  · omega
theorem foundK_neg {t : Tab} {k : Nat} (hs : Stops t k) {s r : Nat} (hsn : s < t.n) (h : foundK t k s r < 0) : ∀ q, q < r → (iter t k).getD q 0 ≠ (iter t k).getD s 0 := by
  intro q hq he
  have := blk_nat hs hsn
  unfold foundK at h
  rw [if_pos] at h
  · omega
  · exact List.any_eq_true.2 ⟨q, List.mem_range.2 hq, by simpa using he⟩
theorem foundK_pos {t : Tab} {k : Nat} {s r : Nat} (h : ¬ foundK t k s r < 0) : foundK t k s r = (iter t k).getD s 0 ∧ ∃ q, q < r ∧ (iter t k).getD q 0 = (iter t k).getD s 0 := by
  unfold foundK at h ⊢
  split at h
  · rename_i h1
    rw [if_pos h1]
    obtain ⟨q, hq, he⟩ := List.any_eq_true.1 h1
    exact ⟨rfl, q, List.mem_range.1 hq, by simpa using he⟩
  · omega

/-- The number of the last round ahead of which two states are alike. -/
theorem apM_val {t : Tab} (ok : Ok t) {k d a b : Nat} (ha : a < t.n) (hb : b < t.n) (hdk : d + 1 ≤ k) (h1 : Al t d a b) (h2 : ¬ Al t (d + 1) a b) : apM t k a b = d + 1 := by
  obtain ⟨g1, g2⟩ := apM_spec ok k a b ha hb
  have hpos : 0 < apM t k a b := Nat.pos_of_ne_zero fun h => h2 (al_le ok ha hb hdk (g1.1 h))
  obtain ⟨g3, g4, g5⟩ := g2 hpos
  exact Nat.le_antisymm (Nat.le_of_not_lt fun hlt => h2 (al_le ok ha hb (by omega) g4)) (Nat.le_of_not_lt fun hlt => g5 (al_le ok ha hb (by omega) h1))
theorem hit_ref {t : Tab} (ok : Ok t) {k m a b i : Nat} (ha : a < t.n) (hb : b < t.n) (hmk : m + 1 ≤ k) (hi : i < wd t) (h1 : Al t m a b) :
    hitF t (m + 1) a b i = if m = 0 then te t a i != te t b i else decide (apM t k (nx t a i) (nx t b i) = m) := by
  have hx := ok.nx_lt ha hi
  have hy := ok.nx_lt hb hi
  unfold hitF
  cases m with
  | zero => rw [if_pos rfl, if_pos rfl]
  | succ e =>
    rw [if_neg (by omega), if_neg (by omega)]
    have h2 := (((al_succ ok ha hb).1 h1).2 i hi).2
    by_cases h3 : Al t (e + 1) (nx t a i) (nx t b i)
    · have h4 : apM t k (nx t a i) (nx t b i) ≠ e + 1 := fun h => ((apM_spec ok k _ _ hx hy).2 (by omega)).2.2 (h ▸ h3)
      unfold Al at h3
      rw [decide_eq_false h4]
      simp only [Nat.add_sub_cancel, h3, bne_self_eq_false]
    · have h4 := apM_val ok (k := k) (d := e) hx hy (by omega) h2 h3
      unfold Al at h3
      rw [decide_eq_true h4]
      simpa using h3
/-- One input further: it is the first one that parts, and those that come of it are parted one input less late. -/
theorem part_step {t : Tab} (ok : Ok t) {m a b : Nat} (ha : a < t.n) (hb : b < t.n) (h1 : Al t m a b) (h2 : ¬ Al t (m + 1) a b) :
    ∃ i, i < wd t ∧ hitF t (m + 1) a b i = true ∧ (∀ j, j < i → hitF t (m + 1) a b j = false) ∧ (0 < m → Al t (m - 1) (nx t a i) (nx t b i) ∧ ¬ Al t m (nx t a i) (nx t b i)) := by
  obtain ⟨i, hi, hp, hn⟩ := first_below (not_al ok ha hb h1 h2)
  refine ⟨i, hi, hp, hn, fun hm => ?_⟩
  obtain ⟨e, rfl⟩ : ∃ e, m = e + 1 := ⟨m - 1, by omega⟩
  have hh := ((al_succ ok ha hb).1 h1).2 i hi
  refine ⟨hh.2, ?_⟩
  unfold hitF at hp
  rw [if_neg (by omega)] at hp
  simp only [Nat.add_sub_cancel, bne_iff_ne, ne_eq] at hp
  exact hp

/-- Whichever state of a block stands for it, its row is the same. -/
theorem least_row {t : Tab} (ok : Ok t) {k : Nat} (hs : Stops t k) {q s : Nat} (hq : q < (leastF t (iter t k)).n) (hsn : s < t.n) (he : (iter t k).getD s 0 = (q : Int)) :
    (leastF t (iter t k)).next.getD q [] = (t.next.getD s []).map (fun x => (iter t k).getD x.toNat 0) ∧ (leastF t (iter t k)).tells.getD q [] = t.tells.getD s [] := by
  have inv := least_inv (t := t) (l := iter t k) (S := sg t k) (sg_len t k) (sg_num hs).symm (Nat.le_refl t.n)
  obtain ⟨s', hs1, r1, r2, r3⟩ := inv.row q hq
  have hx := al_fix ok hs.1 hsn hs1 (show Al t k s s' by unfold Al; rw [he, r1])
  have l1 := ok.nextLen s hsn
  have l2 := ok.nextLen s' hs1
  have l3 := ok.tellsLen s hsn
  have l4 := ok.tellsLen s' hs1
  constructor
  · show (leastSt t (iter t k) t.n).1.getD q [] = _
    rw [r2]
    refine List.ext_getElem (by rw [List.length_map, List.length_map, l1, l2]) fun c h1 h2 => ?_
    have hc1 : c < (t.next.getD s' []).length := by simpa using h1
    have hc2 : c < (t.next.getD s []).length := by simpa using h2
    have hc : c < wd t := by unfold wd; omega
    have h := (hx c hc).2
    unfold Al nx at h
    rw [List.getD_eq_getElem?_getD (l := t.next.getD s []), List.getElem?_eq_getElem hc2, List.getD_eq_getElem?_getD (l := t.next.getD s' []), List.getElem?_eq_getElem hc1] at h
    simp only [List.getElem_map]
    exact h.symm
  · show (leastSt t (iter t k) t.n).2.getD q [] = _
    rw [r3]
    refine List.ext_getElem (by omega) fun c h1 h2 => ?_
    have hc : c < wd t := by unfold wd; omega
    have h := (hx c hc).1
    unfold te at h
    rw [List.getD_eq_getElem?_getD (l := t.tells.getD s []), List.getElem?_eq_getElem h2, List.getD_eq_getElem?_getD (l := t.tells.getD s' []), List.getElem?_eq_getElem h1] at h
    exact h.symm
theorem least_take {t : Tab} (ok : Ok t) {k : Nat} (hs : Stops t k) {q s : Nat} (hq : q < (leastF t (iter t k)).n) (hsn : s < t.n) (he : (iter t k).getD s 0 = (q : Int)) :
    (leastF t (iter t k)).next.take (q + 1) = (leastF t (iter t k)).next.take q ++ [(t.next.getD s []).map (fun x => (iter t k).getD x.toNat 0)] ∧ (leastF t (iter t k)).tells.take (q + 1) = (leastF t (iter t k)).tells.take q ++ [t.tells.getD s []] := by
  obtain ⟨h1, h2⟩ := least_row ok hs hq hsn he
  have hl : (leastF t (iter t k)).tells.length = (leastF t (iter t k)).next.length := (least_is ok hs.1).ok.tells
  have hq : q < (leastF t (iter t k)).next.length := hq
  rw [← h1, ← h2]
  constructor
  · rw [List.take_succ_eq_append_getElem hq, List.getD_eq_getElem?_getD, List.getElem?_eq_getElem hq]; rfl
  · rw [List.take_succ_eq_append_getElem (by omega), List.getD_eq_getElem?_getD, List.getElem?_eq_getElem (by omega)]; rfl
end Go.Proofs.YtoikggboakojlaaDoor

/-
  errors.As at a target of the type *api.Errno: Go's own text of errors.As and errors.as, walked (after the kit's worked example Toyas).
-/
namespace Go.Proofs.YtoikggboakojlaaDoor
set_option linter.unusedSimpArgs false
set_option linter.unusedVariables false
open Go.RowKit Go.Extern.Stop Go.Stop Go.Extern
set_option linter.unusedSimpArgs false
set_option linter.unusedVariables false

/-! ### Closed facts on the model's entries for internal/reflectlite -/
theorem rl_valueOfP (t : Addr) (w : World) : (ReflectliteValue.unpack (.iface 124 (.pointer (some t)))).run Tryd.prog w
    = .ok (.agg #[.pointer (some ⟨6, 124, none⟩), .pointer (some ⟨w.heap.size, 0, none⟩), .int .u64 150]) (w.alloc (.cells #[.pointer (some t)] 124)) := by kernel_rfl
theorem rl_typeP (a : Addr) (w : World) : (ReflectliteValue.methodAny (ReflectliteValue.valueError "reflectlite.Value.Type" 0) (fun t _ _ _ => ReflectliteType.toType t) #[.agg #[.pointer (some ⟨6, 124, none⟩), .pointer (some a), .int .u64 150]]).run Tryd.prog w
    = .ok (.iface 177 (.agg #[.pointer (some ⟨6, 124, none⟩)])) w := by kernel_rfl
theorem rl_methodKind (h : Value) (w : World) : (Go.method 333 177 (.agg #[h]) "Kind").run Tryd.prog w = .ok (147, h) w := by kernel_rfl
theorem rl_kindP (w : World) : ((ReflectliteType.abiMethod fun t => (fun a : Nat => Value.int IntKind.u8 (a : Int)) <$> Rtype.kind t) #[.pointer (some ⟨6, 124, none⟩)]).run Tryd.prog w = .ok (.int .u8 22) w := by kernel_rfl
theorem rl_kindE (w : World) : ((ReflectliteType.abiMethod fun t => (fun a : Nat => Value.int IntKind.u8 (a : Int)) <$> Rtype.kind t) #[.pointer (some ⟨6, 27, none⟩)]).run Tryd.prog w = .ok (.int .u8 2) w := by kernel_rfl

theorem rlm (z : Sem Value) (f : TypeId → Addr → Nat → Nat → Sem Value) (v : Value) :
    ReflectliteValue.method z f #[v] = (do match ← ReflectliteValue.parts v with | none => z | some (t, a, fl) => f t a fl (fl % 32)) := rfl
theorem rl_partsP (a : Addr) (w : World) : (ReflectliteValue.parts (.agg #[.pointer (some ⟨6, 124, none⟩), .pointer (some a), .int .u64 150])).run Tryd.prog w = .ok (some (124, a, 150)) w := by kernel_rfl
theorem rl_isNilP (a p : Addr) (W : World) (ha : W.cell? a = some (.pointer (some p))) :
    (ReflectliteValue.method (ReflectliteValue.valueError "reflectlite.Value.IsNil" 0) ReflectliteValue.isNil #[.agg #[.pointer (some ⟨6, 124, none⟩), .pointer (some a), .int .u64 150]]).run Tryd.prog W = .ok (.bool false) W := by
  rw [rlm]
  simp only [Sem.run_bind, rl_partsP, Result.andThen]
  simp [ReflectliteValue.isNil, loadVar, isAgg, underlying, Tryd.underlying124, ha, Result.andThen]

theorem rl_methodElem (h : Value) (w : World) : (Go.method 333 177 (.agg #[h]) "Elem").run Tryd.prog w = .ok (159, .agg #[h]) w := by kernel_rfl
theorem rl_methodImplements (h : Value) (w : World) : (Go.method 333 177 (.agg #[h]) "Implements").run Tryd.prog w = .ok (160, .agg #[h]) w := by kernel_rfl
theorem rl_methodAssignableTo (h : Value) (w : World) : (Go.method 333 177 (.agg #[h]) "AssignableTo").run Tryd.prog w = .ok (157, .agg #[h]) w := by kernel_rfl
theorem rl_elemP (w : World) : (ReflectliteType.method ReflectliteType.elem #[.agg #[.pointer (some ⟨6, 124, none⟩)]]).run Tryd.prog w = .ok (.iface 177 (.agg #[.pointer (some ⟨6, 27, none⟩)])) w := by kernel_rfl
theorem rl_implementsE (w : World) : (ReflectliteType.relation "Implements" ReflectliteType.implements_ #[.agg #[.pointer (some ⟨6, 27, none⟩)], .iface 177 (.agg #[.pointer (some ⟨6, 34, none⟩)])]).run Tryd.prog w = .ok (.bool true) w := by kernel_rfl
theorem rl_typeOfE (v : Value) (w : World) : (ReflectliteType.typeOf #[.iface 27 v]).run Tryd.prog w = .ok (.iface 177 (.agg #[.pointer (some ⟨6, 27, none⟩)])) w := by kernel_rfl
theorem rl_typeOfA (v : Value) (w : World) : (ReflectliteType.typeOf #[.iface 109 v]).run Tryd.prog w = .ok (.iface 177 (.agg #[.pointer (some ⟨6, 109, none⟩)])) w := by kernel_rfl
theorem rl_assignableE (w : World) : (ReflectliteType.relation "AssignableTo" ReflectliteType.assignableTo #[.agg #[.pointer (some ⟨6, 27, none⟩)], .iface 177 (.agg #[.pointer (some ⟨6, 27, none⟩)])]).run Tryd.prog w = .ok (.bool true) w := by kernel_rfl
theorem rl_assignableA (w : World) : (ReflectliteType.relation "AssignableTo" ReflectliteType.assignableTo #[.agg #[.pointer (some ⟨6, 109, none⟩)], .iface 177 (.agg #[.pointer (some ⟨6, 27, none⟩)])]).run Tryd.prog w = .ok (.bool false) w := by kernel_rfl
theorem rl_valueOfE (n : Int) (w : World) : (ReflectliteValue.unpack (.iface 27 (.int .i64 n))).run Tryd.prog w
    = .ok (.agg #[.pointer (some ⟨6, 27, none⟩), .pointer (some ⟨w.heap.size, 0, none⟩), .int .u64 130]) (w.alloc (.cells #[.int .i64 n] 27)) := by kernel_rfl
theorem rl_elemOfP (w : World) : (Rtype.elem? 124).run Tryd.prog w = .ok (some 27) w := by kernel_rfl
theorem rl_mkE (p : Addr) (w : World) : (ReflectliteValue.mk 27 p ReflectliteValue.flagAddr).run Tryd.prog w = .ok (.agg #[.pointer (some ⟨6, 27, none⟩), .pointer (some p), .int .u64 386]) w := by kernel_rfl
theorem rl_elemVP (a p : Addr) (W : World) (ha : W.cell? a = some (.pointer (some p))) :
    (ReflectliteValue.method (ReflectliteValue.valueError "reflectlite.Value.Elem" 0) ReflectliteValue.elem #[.agg #[.pointer (some ⟨6, 124, none⟩), .pointer (some a), .int .u64 150]]).run Tryd.prog W
      = .ok (.agg #[.pointer (some ⟨6, 27, none⟩), .pointer (some p), .int .u64 386]) W := by
  rw [rlm]
  simp only [Sem.run_bind, rl_partsP, Result.andThen]
  simp [ReflectliteValue.elem, loadVar, isAgg, underlying, Tryd.underlying124, ha, Result.andThen, rl_elemOfP, rl_mkE]
theorem rls (v x : Value) : ReflectliteValue.set #[v, x] = (do
    let (some (dst, a, fl), some (src, b, _)) := (← ReflectliteValue.parts v, ← ReflectliteValue.parts x)
      | unsupported (.noEntry "extern/(internal/reflectlite.Value).Set.zeroValue")
    if fl / ReflectliteValue.flagAddr % 2 == 0 then unsupported (.noEntry "extern/(internal/reflectlite.Value).Set.unaddressable")
    let val ← loadVar src b
    if ← Rtype.directlyAssignable dst src then storeVar dst a val
    else if ← Rtype.implements dst src then
      if (← Rtype.kind src) == 20 then
        match val with
        | .nilIface => unsupported (.noEntry "extern/reflectlite: a nil value of one interface type handed on as a value of another")
        | _ => storeVar dst a val
      else storeVar dst a (.iface src val)
    else panicString ("reflectlite.Set: value of type " ++ (← Rtype.spelt src) ++ " is not assignable to type " ++ (← Rtype.spelt dst))
    pure (.tuple #[])) := rfl
theorem rl_partsEa (a : Addr) (w : World) : (ReflectliteValue.parts (.agg #[.pointer (some ⟨6, 27, none⟩), .pointer (some a), .int .u64 386])).run Tryd.prog w = .ok (some (27, a, 386)) w := by kernel_rfl
theorem rl_partsE (a : Addr) (w : World) : (ReflectliteValue.parts (.agg #[.pointer (some ⟨6, 27, none⟩), .pointer (some a), .int .u64 130])).run Tryd.prog w = .ok (some (27, a, 130)) w := by kernel_rfl
theorem rl_directE (w : World) : (Rtype.directlyAssignable 27 27).run Tryd.prog w = .ok true w := by kernel_rfl
theorem rl_setE (ta b : Addr) (n : Int) (old : Value) (W : World) (hb : W.cell? b = some (.int .i64 n)) (ht : W.cell? ta = some old) (hf : W.frozen? ta = false) :
    (ReflectliteValue.set #[.agg #[.pointer (some ⟨6, 27, none⟩), .pointer (some ta), .int .u64 386], .agg #[.pointer (some ⟨6, 27, none⟩), .pointer (some b), .int .u64 130]]).run Tryd.prog W
      = .ok (.tuple #[]) (W.setCell ta (.int .i64 n)) := by
  rw [rls]
  simp only [Sem.run_bind, rl_partsEa, rl_partsE, Result.andThen]
  simp [ReflectliteValue.flagAddr, loadVar, isAgg, underlying, Tryd.underlying27, hb, Result.andThen, rl_directE, storeVar, Value.cells, storeCells, Addr.add]
  rw [run_store Tryd.prog W ta _ _ (by rfl)]
  simp [ht, hf]

theorem as_nil (t : Value) (w : World) : Calls Tryd.prog 72 #[.nilIface, t] w fun e w' => e = .returned (.bool false) ∧ w' = w := by
  go_enter Tryd.func72, Tryd.ntmps72
  go_wp2
  go_ret
  exact ⟨rfl, rfl⟩

def asWorld (t : Addr) (n : Int) (w : World) : World := ((((w.alloc (.cells #[.pointer (some t)] 124)).alloc (.cells #[.pointer (some ⟨6, 124, none⟩), .pointer (some ⟨w.heap.size, 0, none⟩), .int .u64 150] 158)).alloc (.cells #[.pointer (some ⟨6, 124, none⟩), .pointer (some ⟨w.heap.size, 0, none⟩), .int .u64 150] 158)).alloc (.cells #[.int .i64 n] 27)).setCell t (.int .i64 n)

set_option maxHeartbeats 4000000 in
theorem as_errno (n : Int) (t : Addr) (old : Value) (w : World) (hg : w.cell? ⟨1, 0, none⟩ = some (.iface 177 (.agg #[.pointer (some ⟨6, 34, none⟩)]))) (ht0 : w.cell? t = some old) (hf0 : w.frozen? t = false) :
    Calls Tryd.prog 72 #[.iface 27 (.int .i64 n), .iface 124 (.pointer (some t))] w fun ev w' => ev = .returned (.bool true) ∧ w' = asWorld t n w := by
  have h6 := @run_callFunc_extern Tryd.prog 97 _ (fun args => ReflectliteValue.unpack (args.getD 0 (.tuple #[]))) Tryd.func97 (by kernel_rfl) (by kernel_rfl) (by kernel_rfl) (by kernel_rfl)
  have h7 := @run_callFunc_extern Tryd.prog 98 _ (ReflectliteValue.methodAny (ReflectliteValue.valueError "reflectlite.Value.Type" 0) (fun t _ _ _ => ReflectliteType.toType t)) Tryd.func98 (by kernel_rfl) (by kernel_rfl) (by kernel_rfl) (by kernel_rfl)
  have h8 := @run_callFunc_extern Tryd.prog 99 _ (ReflectliteValue.method (ReflectliteValue.valueError "reflectlite.Value.IsNil" 0) ReflectliteValue.isNil) Tryd.func99 (by kernel_rfl) (by kernel_rfl) (by kernel_rfl) (by kernel_rfl)
  have h27 := @run_callFunc_extern Tryd.prog 147 _ (ReflectliteType.abiMethod fun t => do pure (.int .u8 (← Rtype.kind t))) Tryd.func147 (by kernel_rfl) (by kernel_rfl) (by kernel_rfl) (by kernel_rfl)
  have h37 := @run_callFunc_extern Tryd.prog 159 _ (ReflectliteType.method ReflectliteType.elem) Tryd.func159 (by kernel_rfl) (by kernel_rfl) (by kernel_rfl) (by kernel_rfl)
  have h38 := @run_callFunc_extern Tryd.prog 160 _ (ReflectliteType.relation "Implements" ReflectliteType.implements_) Tryd.func160 (by kernel_rfl) (by kernel_rfl) (by kernel_rfl) (by kernel_rfl)
  have h10 := @run_callFunc_extern Tryd.prog 114 _ ReflectliteType.typeOf Tryd.func114 (by kernel_rfl) (by kernel_rfl) (by kernel_rfl) (by kernel_rfl)
  have h35 := @run_callFunc_extern Tryd.prog 157 _ (ReflectliteType.relation "AssignableTo" ReflectliteType.assignableTo) Tryd.func157 (by kernel_rfl) (by kernel_rfl) (by kernel_rfl) (by kernel_rfl)
  have h11 := @run_callFunc_extern Tryd.prog 115 _ (ReflectliteValue.method (ReflectliteValue.valueError "reflectlite.Value.Elem" 0) ReflectliteValue.elem) Tryd.func115 (by kernel_rfl) (by kernel_rfl) (by kernel_rfl) (by kernel_rfl)
  have h12 := @run_callFunc_extern Tryd.prog 116 _ ReflectliteValue.set Tryd.func116 (by kernel_rfl) (by kernel_rfl) (by kernel_rfl) (by kernel_rfl)
  have mA := rl_methodAssignableTo
  have aE := rl_assignableE
  have vE := rl_valueOfE
  have tE := rl_typeOfE
  have f6 := rl_valueOfP
  have f7 := rl_typeP
  have mK := rl_methodKind
  have mE := rl_methodElem
  have mI := rl_methodImplements
  have kP := rl_kindP
  have kE := rl_kindE
  have eP := rl_elemP
  have iE := rl_implementsE
  have n8 := rl_isNilP ⟨w.heap.size, 0, none⟩ t ((w.alloc (.cells #[.pointer (some t)] 124)).alloc (.cells #[.pointer (some ⟨6, 124, none⟩), .pointer (some ⟨w.heap.size, 0, none⟩), .int .u64 150] 158)) (by simp)
  have hlt : 1 < w.heap.size := by
    rcases Nat.lt_or_ge 1 w.heap.size with h | h
    · exact h
    · simp [World.cell?, Array.getElem?_eq_none h] at hg
  have hg2 : ((w.alloc (.cells #[.pointer (some t)] 124)).alloc (.cells #[.pointer (some ⟨6, 124, none⟩), .pointer (some ⟨w.heap.size, 0, none⟩), .int .u64 150] 158)).cell? ⟨1, 0, none⟩ = some (.iface 177 (.agg #[.pointer (some ⟨6, 34, none⟩)])) := by
    rw [World.cell?_alloc_lt _ _ ⟨1, 0, none⟩ (by simp; omega), World.cell?_alloc_lt _ _ ⟨1, 0, none⟩ hlt]; exact hg
  have htl : t.block < w.heap.size := by
    rcases Nat.lt_or_ge t.block w.heap.size with h | h
    · exact h
    · simp [World.cell?, Array.getElem?_eq_none h] at ht0
  have el := rl_elemVP ⟨w.heap.size, 0, none⟩ t (((w.alloc (.cells #[.pointer (some t)] 124)).alloc (.cells #[.pointer (some ⟨6, 124, none⟩), .pointer (some ⟨w.heap.size, 0, none⟩), .int .u64 150] 158)).alloc (.cells #[.pointer (some ⟨6, 124, none⟩), .pointer (some ⟨w.heap.size, 0, none⟩), .int .u64 150] 158)) (by rw [World.cell?_alloc_lt _ _ ⟨w.heap.size, 0, none⟩ (by simp; omega)]; simp)
  have st := rl_setE t ⟨w.heap.size + 1 + 1 + 1, 0, none⟩ n old ((((w.alloc (.cells #[.pointer (some t)] 124)).alloc (.cells #[.pointer (some ⟨6, 124, none⟩), .pointer (some ⟨w.heap.size, 0, none⟩), .int .u64 150] 158)).alloc (.cells #[.pointer (some ⟨6, 124, none⟩), .pointer (some ⟨w.heap.size, 0, none⟩), .int .u64 150] 158)).alloc (.cells #[.int .i64 n] 27))
    (by rw [World.cell?_alloc_at _ _ _ _ (by simp)]; rfl)
    (by rw [World.cell?_alloc_lt _ _ t (by simp; omega), World.cell?_alloc_lt _ _ t (by simp; omega), World.cell?_alloc_lt _ _ t (by simp; omega), World.cell?_alloc_lt _ _ t htl]; exact ht0)
    (by rw [World.frozen?_alloc_old _ _ t (by simp; omega), World.frozen?_alloc_old _ _ t (by simp; omega), World.frozen?_alloc_old _ _ t (by simp; omega), World.frozen?_alloc_old _ _ t (Nat.ne_of_lt htl)]; exact hf0)
  go_enter Tryd.func72, Tryd.ntmps72
  go_wp2
  refine wp_loop_rounds 1 ?_
  rw [rounds_succ]
  go_wp2
  go_ret
  exact ⟨rfl, rfl⟩

theorem unwrap_at (a : Addr) (n : Int) (w : World) (ha : w.cell? a = some (.int .i64 n)) : Calls Tryd.prog 152 #[.pointer (some a)] w fun e w' => e = .returned (.iface 27 (.int .i64 n)) ∧ w' = w := by
  go_enter Tryd.func152, Tryd.ntmps152
  go_wp2
  go_ret
  exact ⟨rfl, rfl⟩
theorem rl_methodUnwrap (h : Value) (w : World) : (Go.method 333 109 h "Unwrap").run Tryd.prog w = .ok (152, h) w := by kernel_rfl
theorem rl_noAs (v : Value) (xT : TypeId) (w : World) : (Instr.typeAssert (.iface 109 v) xT 182 true).run Tryd.prog w = .ok (.tuple #[.nilIface, .bool false]) w := run_typeAssert_lacksB Tryd.underlying182 (by kernel_rfl) (by kernel_rfl) v xT w
theorem rl_unwraps (v : Value) (xT : TypeId) (w : World) : (Instr.typeAssert (.iface 109 v) xT 149 true).run Tryd.prog w = .ok (.tuple #[.iface 109 v, .bool true]) w := run_typeAssert_hasB Tryd.underlying149 (by kernel_rfl) v xT w

#print axioms as_errno
#print axioms unwrap_at
end Go.Proofs.YtoikggboakojlaaDoor

/-
  errors.As at an error with a place; what api.Tell and plain.Place tell.
-/
namespace Go.Proofs.YtoikggboakojlaaDoor
set_option linter.unusedSimpArgs false
set_option linter.unusedVariables false
open Go.RowKit Go.Extern.Stop Go.Stop Go.Extern
set_option linter.unusedSimpArgs false
set_option linter.unusedVariables false

set_option maxHeartbeats 8000000 in
theorem as_at (n : Int) (a t : Addr) (old : Value) (w : World) (hg : w.cell? ⟨1, 0, none⟩ = some (.iface 177 (.agg #[.pointer (some ⟨6, 34, none⟩)]))) (ha : w.cell? a = some (.int .i64 n)) (ht0 : w.cell? t = some old) (hf0 : w.frozen? t = false) :
    Calls Tryd.prog 72 #[.iface 109 (.pointer (some a)), .iface 124 (.pointer (some t))] w fun ev w' => ev = .returned (.bool true) ∧ w' = asWorld t n w := by
  have h6 := @run_callFunc_extern Tryd.prog 97 _ (fun args => ReflectliteValue.unpack (args.getD 0 (.tuple #[]))) Tryd.func97 (by kernel_rfl) (by kernel_rfl) (by kernel_rfl) (by kernel_rfl)
  have h7 := @run_callFunc_extern Tryd.prog 98 _ (ReflectliteValue.methodAny (ReflectliteValue.valueError "reflectlite.Value.Type" 0) (fun t _ _ _ => ReflectliteType.toType t)) Tryd.func98 (by kernel_rfl) (by kernel_rfl) (by kernel_rfl) (by kernel_rfl)
  have h8 := @run_callFunc_extern Tryd.prog 99 _ (ReflectliteValue.method (ReflectliteValue.valueError "reflectlite.Value.IsNil" 0) ReflectliteValue.isNil) Tryd.func99 (by kernel_rfl) (by kernel_rfl) (by kernel_rfl) (by kernel_rfl)
  have h27 := @run_callFunc_extern Tryd.prog 147 _ (ReflectliteType.abiMethod fun t => do pure (.int .u8 (← Rtype.kind t))) Tryd.func147 (by kernel_rfl) (by kernel_rfl) (by kernel_rfl) (by kernel_rfl)
  have h37 := @run_callFunc_extern Tryd.prog 159 _ (ReflectliteType.method ReflectliteType.elem) Tryd.func159 (by kernel_rfl) (by kernel_rfl) (by kernel_rfl) (by kernel_rfl)
  have h38 := @run_callFunc_extern Tryd.prog 160 _ (ReflectliteType.relation "Implements" ReflectliteType.implements_) Tryd.func160 (by kernel_rfl) (by kernel_rfl) (by kernel_rfl) (by kernel_rfl)
  have h10 := @run_callFunc_extern Tryd.prog 114 _ ReflectliteType.typeOf Tryd.func114 (by kernel_rfl) (by kernel_rfl) (by kernel_rfl) (by kernel_rfl)
  have h35 := @run_callFunc_extern Tryd.prog 157 _ (ReflectliteType.relation "AssignableTo" ReflectliteType.assignableTo) Tryd.func157 (by kernel_rfl) (by kernel_rfl) (by kernel_rfl) (by kernel_rfl)
  have h11 := @run_callFunc_extern Tryd.prog 115 _ (ReflectliteValue.method (ReflectliteValue.valueError "reflectlite.Value.Elem" 0) ReflectliteValue.elem) Tryd.func115 (by kernel_rfl) (by kernel_rfl) (by kernel_rfl) (by kernel_rfl)
  have h12 := @run_callFunc_extern Tryd.prog 116 _ ReflectliteValue.set Tryd.func116 (by kernel_rfl) (by kernel_rfl) (by kernel_rfl) (by kernel_rfl)
  have mA := rl_methodAssignableTo
  have aE := rl_assignableE
  have vE := rl_valueOfE
  have tE := rl_typeOfE
  have f6 := rl_valueOfP
  have f7 := rl_typeP
  have mK := rl_methodKind
  have mE := rl_methodElem
  have mI := rl_methodImplements
  have kP := rl_kindP
  have kE := rl_kindE
  have eP := rl_elemP
  have iE := rl_implementsE
  have n8 := rl_isNilP ⟨w.heap.size, 0, none⟩ t ((w.alloc (.cells #[.pointer (some t)] 124)).alloc (.cells #[.pointer (some ⟨6, 124, none⟩), .pointer (some ⟨w.heap.size, 0, none⟩), .int .u64 150] 158)) (by simp)
  have hlt : 1 < w.heap.size := by
    rcases Nat.lt_or_ge 1 w.heap.size with h | h
    · exact h
    · simp [World.cell?, Array.getElem?_eq_none h] at hg
  have hg2 : ((w.alloc (.cells #[.pointer (some t)] 124)).alloc (.cells #[.pointer (some ⟨6, 124, none⟩), .pointer (some ⟨w.heap.size, 0, none⟩), .int .u64 150] 158)).cell? ⟨1, 0, none⟩ = some (.iface 177 (.agg #[.pointer (some ⟨6, 34, none⟩)])) := by
    rw [World.cell?_alloc_lt _ _ ⟨1, 0, none⟩ (by simp; omega), World.cell?_alloc_lt _ _ ⟨1, 0, none⟩ hlt]; exact hg
  have htl : t.block < w.heap.size := by
    rcases Nat.lt_or_ge t.block w.heap.size with h | h
    · exact h
    · simp [World.cell?, Array.getElem?_eq_none h] at ht0
  have el := rl_elemVP ⟨w.heap.size, 0, none⟩ t (((w.alloc (.cells #[.pointer (some t)] 124)).alloc (.cells #[.pointer (some ⟨6, 124, none⟩), .pointer (some ⟨w.heap.size, 0, none⟩), .int .u64 150] 158)).alloc (.cells #[.pointer (some ⟨6, 124, none⟩), .pointer (some ⟨w.heap.size, 0, none⟩), .int .u64 150] 158)) (by rw [World.cell?_alloc_lt _ _ ⟨w.heap.size, 0, none⟩ (by simp; omega)]; simp)
  have st := rl_setE t ⟨w.heap.size + 1 + 1 + 1, 0, none⟩ n old ((((w.alloc (.cells #[.pointer (some t)] 124)).alloc (.cells #[.pointer (some ⟨6, 124, none⟩), .pointer (some ⟨w.heap.size, 0, none⟩), .int .u64 150] 158)).alloc (.cells #[.pointer (some ⟨6, 124, none⟩), .pointer (some ⟨w.heap.size, 0, none⟩), .int .u64 150] 158)).alloc (.cells #[.int .i64 n] 27))
    (by rw [World.cell?_alloc_at _ _ _ _ (by simp)]; rfl)
    (by rw [World.cell?_alloc_lt _ _ t (by simp; omega), World.cell?_alloc_lt _ _ t (by simp; omega), World.cell?_alloc_lt _ _ t (by simp; omega), World.cell?_alloc_lt _ _ t htl]; exact ht0)
    (by rw [World.frozen?_alloc_old _ _ t (by simp; omega), World.frozen?_alloc_old _ _ t (by simp; omega), World.frozen?_alloc_old _ _ t (by simp; omega), World.frozen?_alloc_old _ _ t (Nat.ne_of_lt htl)]; exact hf0)
  have tA := rl_typeOfA
  have aA := rl_assignableA
  have nA := rl_noAs
  have uA := rl_unwraps
  have mU := rl_methodUnwrap
  have hal : a.block < w.heap.size := by
    rcases Nat.lt_or_ge a.block w.heap.size with h | h
    · exact h
    · simp [World.cell?, Array.getElem?_eq_none h] at ha
  have ha3 : (((w.alloc (.cells #[.pointer (some t)] 124)).alloc (.cells #[.pointer (some ⟨6, 124, none⟩), .pointer (some ⟨w.heap.size, 0, none⟩), .int .u64 150] 158)).alloc (.cells #[.pointer (some ⟨6, 124, none⟩), .pointer (some ⟨w.heap.size, 0, none⟩), .int .u64 150] 158)).cell? a = some (.int .i64 n) := by
    rw [World.cell?_alloc_lt _ _ a (by simp; omega), World.cell?_alloc_lt _ _ a (by simp; omega), World.cell?_alloc_lt _ _ a hal]; exact ha
  go_enter Tryd.func72, Tryd.ntmps72
  go_wp2
  refine wp_loop_rounds 2 ?_
  rw [rounds_succ]
  go_wp2_with (go_at_call 152; refine (unwrap_at a n _ ha3).mono ?_; rintro e w' ⟨rfl, rfl⟩)
  rw [rounds_succ]
  go_wp2
  go_ret
  exact ⟨rfl, rfl⟩

#print axioms as_at
end Go.Proofs.YtoikggboakojlaaDoor

/-
  Laws: what is read as data is immutable data; what a call that only yields data leaves behind.
-/
namespace Go.Av
set_option linter.unusedSimpArgs false
set_option linter.unusedVariables false
set_option linter.unusedSectionVars false
open Go.ChangeShapes Go.WideShapes Go.RowKit

theorem law_calls {P : Program} {g : FuncId} {xs : List D} {b : Bool} (hc : PureC P (fun _ => none) g xs (.v (.bool b))) {W : World} {args : Array Value} (hsz : args.size = xs.length)
    (hrd : ∀ (i : Nat) (u : Value) (x : D), args[i]? = some u → xs[i]? = some x → RD W (fun _ => False) u x) : Calls P g args W fun e W' => e = .returned (.bool b) ∧ Below W.heap.size W W' := by
  refine (hc.2 (fun _ => False) W (fun _ => none) args (Sim.none (by simp)) (by simp) (by simpa using hsz) fun i u x hu hx => ?_).mono fun e W' ⟨v, x, H', μ', he, ⟨hx, _⟩, hr, _, ev⟩ => ?_
  · rw [List.getElem?_map] at hx
    obtain ⟨d, hd, rfl⟩ := Option.map_eq_some_iff.1 hx
    exact .d ((hrd i u d hu hd).sub fun b hb => XX_none.1 hb)
  · subst hx
    have := hr.scalar
    subst this
    have hg := Ev.grew ev
    exact ⟨he, hg.os, hg.tape, hg.output, hg.size, hg.same⟩

section
variable {H : Type} {enc : TypeId × Value → H} {P : Program} {w : World} {base : Nat} {spare : Nat → Bool} {held : Bool} {X : Nat → Prop}

/-- Cells stand for this data, one by one. -/
def CellsRD (w : World) (X : Nat → Prop) (cs : List Value) (ds : List D) : Prop := cs.length = ds.length ∧ ∀ (j : Nat) (u : Value) (c : D), cs[j]? = some u → ds[j]? = some c → RD w X u c

theorem CellsRD.one {u : Value} {c : D} (h : RD w X u c) : CellsRD w X [u] [c] := ⟨rfl, fun j u' c' hu hc => by
  cases j with
  | zero => simp at hu hc; subst hu hc; exact h
  | succ j => simp at hu⟩
theorem CellsRD.inv {u : Value} {c : D} (h : CellsRD w X [u] [c]) : RD w X u c := h.2 0 u c rfl rfl

/-- What is read of type t is some a, as f lays it out. -/
def ReadsAs (enc : TypeId × Value → H) (P : Program) (w : World) (base : Nat) (spare : Nat → Bool) (held : Bool) (X : Nat → Prop) (t : TypeId) {α : Type} (p : α → Prop) (f : α → List D) : Prop :=
  ∀ fuel cs x, DataW.trod enc P w base spare held fuel t cs = some x → ∃ a, p a ∧ CellsRD w X cs (f a)

theorem reads_int {t : TypeId} (ht : P.underlying t = some (.int .i64)) : ReadsAs enc P w base spare held X t (fun n : Int => -9223372036854775808 ≤ n ∧ n ≤ 9223372036854775807) (fun n => [.v (.int .i64 n)]) := by
  intro fuel cs x h
  obtain ⟨n, rfl, _, hw⟩ := DataW.trod_int ht h
  refine ⟨n, ?_, .one (.v _)⟩
  simp only [Lit.wf, Bool.and_eq_true, decide_eq_true_eq] at hw
  have e1 : IntKind.i64.min = -9223372036854775808 := by decide
  have e2 : IntKind.i64.max = 9223372036854775807 := by decide
  rw [e1, e2] at hw
  exact hw

theorem reads_slice {t e : TypeId} {α : Type} {p : α → Prop} {f : α → List D} {sz : Nat} (ht : P.underlying t = some (.slice e)) (hc : P.cellsOf e = sz) (hz : 0 < sz) (hX : ∀ b, ¬ X b) (he : ReadsAs enc P w base spare held X e p f) :
    ReadsAs enc P w base spare held X t (fun l : List α => (∀ a ∈ l, p a) ∧ l.length ≤ maxLen) (fun l => [.sl none (l.map f)]) := by
  intro fuel cs x h
  rcases Deep.open_slice ht h with ⟨rfl, _⟩ | ⟨a, len, cap, m, n, _, _, rfl, hb, hl, hm, hmm, _, hx⟩
  · exact ⟨[], ⟨by simp, by simp⟩, .one (.nil (by simp))⟩
  · have hle : len ≤ m := by rw [hmm]; split <;> omega
    rcases Nat.eq_zero_or_pos len with rfl | hpos
    · exact ⟨[], ⟨by simp, by simp⟩, .one (.empty (by simp) hm)⟩
    · have hel : ∀ i, i < len → ∃ x, p x ∧ ∃ cs', w.cells? base (a.add (i * P.cellsOf e)) (P.cellsOf e) = some cs' ∧ CellsRD w X cs' (f x) := fun i hi => by
        obtain ⟨cs', h1, h2⟩ := hx i (by omega)
        obtain ⟨x, hp, hr⟩ := he _ _ _ h2
        exact ⟨x, hp, cs', h1, hr⟩
      have : Inhabited α := ⟨(hel 0 hpos).choose⟩
      obtain ⟨g, hg⟩ := Deep.choose_lt hel
      refine ⟨(List.range len).map g, ⟨fun y hy => ?_, by simp; omega⟩, .one ?_⟩
      · obtain ⟨i, hi, rfl⟩ := List.mem_map.1 hy
        exact (hg i (List.mem_range.1 hi)).1
      rw [hc] at hg
      have hcell : ∀ i j, i < len → j < sz → ∃ u, w.cell? ((a.add (i * sz)).add j) = some u ∧ (∀ c, (f (g i))[j]? = some c → RD w X u c) ∧ (f (g i)).length = sz := fun i j hi hj => by
        obtain ⟨_, cs', h1, h2, h3⟩ := hg i hi
        obtain ⟨_, hlen, hcs⟩ := World.cells?_some h1
        refine ⟨cs'[j], by rw [hcs j hj]; simp [hlen, hj], fun c hcc => h3 j _ c (by simp [hlen, hj]) hcc, by omega⟩
      have hspot : a.spot = none := by
        obtain ⟨u, hu, _⟩ := hcell 0 0 hpos hz
        simp only [Nat.zero_mul, Addr.add, if_true] at hu
        exact World.cell?_spot hu
      obtain ⟨b, off, spot⟩ := a
      dsimp only at hspot
      subst hspot
      have hcell : ∀ i j, i < len → j < sz → ∃ u, w.cell? ⟨b, off + (i * sz + j), none⟩ = some u ∧ (∀ c, (f (g i))[j]? = some c → RD w X u c) ∧ (f (g i)).length = sz := fun i j hi hj => by
        have := hcell i j hi hj
        rwa [addr_add, addr_add, Nat.add_assoc] at this
      refine .sl (f := fun i j => (w.cell? ⟨b, off + (i * sz + j), none⟩).getD undef) (by simp) (by simp) hl hm (hX b) (fun el hel => ?_) hz hpos (fun i j hi hj => ?_) (fun i j el c h1 h2 => ?_)
      · obtain ⟨y, hy, rfl⟩ := List.mem_map.1 hel
        obtain ⟨i, hi, rfl⟩ := List.mem_map.1 hy
        exact (hcell i 0 (List.mem_range.1 hi) hz).choose_spec.2.2
      · obtain ⟨u, hu, _⟩ := hcell i j hi hj
        rw [hu]; rfl
      · rw [List.getElem?_map, List.getElem?_map] at h1
        obtain ⟨y, hy, rfl⟩ := Option.map_eq_some_iff.1 h1
        obtain ⟨i', hi', rfl⟩ := Option.map_eq_some_iff.1 hy
        obtain ⟨hlt, rfl⟩ := List.getElem?_eq_some_iff.1 hi'
        rw [List.getElem_range] at h2
        simp only [List.length_range] at hlt
        have hj : j < sz := by
          obtain ⟨_, _, _, h3⟩ := hcell i 0 hlt hz
          rw [← h3]
          exact (List.getElem?_eq_some_iff.1 h2).1
        obtain ⟨u, hu, hr, _⟩ := hcell i j hlt hj
        rw [hu]
        exact hr c h2

theorem reads_struct2 {t : TypeId} {f0 f1 : Field} {α β : Type} {p : α → Prop} {q : β → Prop} {f : α → List D} {g : β → List D} (ht : P.underlying t = some (.struct #[f0, f1])) (hn : P.cellsOf t = P.cellsOf f0.type + P.cellsOf f1.type) (h0 : f0.offset = 0) (h1 : f1.offset = P.cellsOf f0.type)
    (hf : ReadsAs enc P w base spare held X f0.type p f) (hg : ReadsAs enc P w base spare held X f1.type q g) : ReadsAs enc P w base spare held X t (fun s : α × β => p s.1 ∧ q s.2) (fun s => f s.1 ++ g s.2) := by
  intro fuel cs x h
  obtain ⟨y0, y1, n, _, hl, t0, t1⟩ := trod_struct2 ht h
  obtain ⟨a, pa, ca⟩ := hf _ _ _ t0
  obtain ⟨b, pb, cb⟩ := hg _ _ _ t1
  refine ⟨(a, b), ⟨pa, pb⟩, ?_⟩
  have e0 : cs = (cs.drop f0.offset).take (P.cellsOf f0.type) ++ (cs.drop f1.offset).take (P.cellsOf f1.type) := by
    rw [h0, h1, List.drop_zero, List.take_of_length_le (l := List.drop _ _) (by simp; omega), List.take_append_drop]
  rw [e0]
  obtain ⟨la, ra⟩ := ca
  obtain ⟨lb, rb⟩ := cb
  refine ⟨by rw [List.length_append, List.length_append, la, lb], fun j u c hu hc => ?_⟩
  rcases Nat.lt_or_ge j (f a).length with hj | hj
  · rw [List.getElem?_append_left (by omega)] at hu hc
    exact ra j u c hu hc
  · rw [List.getElem?_append_right (by omega)] at hu hc
    rw [la] at hu
    exact rb _ u c hu hc

/-- A value of a struct's type. -/
theorem RD.of_cells {u : Value} {ds : List D} (ha : ∃ arr, u = .agg arr) (h : CellsRD w X u.cells.toList ds) : RD w X u (.agg ds) := by
  obtain ⟨arr, rfl⟩ := ha
  refine .agg (by have := h.1; simpa [Value.cells] using this) fun j u c hu hc => h.2 j u c (by simpa [Value.cells] using hu) hc
theorem RD.of_cell {u : Value} {d : D} (ha : ∀ arr, u ≠ .agg arr) (h : CellsRD w X u.cells.toList [d]) : RD w X u d := by
  have : u.cells = #[u] := by
    cases u <;> first | rfl | exact absurd rfl (ha _)
  rw [this] at h
  exact h.inv
end

/-- All arguments read as they did. -/
theorem trodAll_below {H : Type} {enc : TypeId × Value → H} {P : Program} (hl : laidOutB P = true) {W W' : World} (hb : Below W.heap.size W W') : ∀ {ts : List TypeId} {vs : List Value} {ds : List (DataW H)} {ps : List MemPlace},
    (∀ t ∈ ts, P.readableRec t = true ∧ t < P.types.size) → DataW.TrodAll enc P W 0 (fun _ => true) true ts vs ds ps → (∀ x ∈ ps, x.block < W.heap.size) → DataW.TrodAll enc P W' 0 (fun b => decide (b < W.heap.size)) true ts vs ds ps
  | [], vs, ds, ps, _, h, _ => by
    obtain ⟨rfl, rfl, rfl⟩ := trodAll_nil h
    exact rfl
  | t :: ts, vs, ds, ps, ht, h, hp => by
    obtain ⟨v, vs1, d, ds1, a, b, rfl, rfl, rfl, h1, h2⟩ := trodAll_cons h
    exact ⟨a, b, Below.trod hl (ht t (by simp)).1 (ht t (by simp)).2 h1 hb (fun x hx => hp x (by simp [hx])), trodAll_below hl hb (fun t h => ht t (by simp [h])) h2 (fun x hx => hp x (by simp [hx])), rfl⟩
end Go.Av

/-
  Contracts on the model's own 'Calls' become contracts of this logic.
-/
namespace Go.Av
set_option linter.unusedSimpArgs false
set_option linter.unusedVariables false
set_option linter.unusedSectionVars false

theorem PureC.of_calls {P : Program} {G : Glob} {g : FuncId} {ds : List D} {y : D} (hf : Fun P g)
    (h : ∀ (X : Nat → Prop) (w : World) (vs : Array Value), vs.size = ds.length → (∀ (i : Nat) (u : Value) (x : D), vs[i]? = some u → ds[i]? = some x → RD w X u x) → (∀ g x, G g = some x → RD w X (.pointer (some ⟨g, 0, none⟩)) x) →
      Calls P g vs w fun e w' => ∃ v, e = .returned v ∧ Grew w w' ∧ RD w' X v y) : PureC P G g ds y := by
  refine ⟨hf, fun X w μ vs hs hgl hsz hv => ?_⟩
  have hμ : μ = fun _ => none := by
    funext r
    cases hr : μ r with
    | none => rfl
    | some m => obtain ⟨row, hrow⟩ := hs.dom r m hr; cases hrow
  subst hμ
  refine (h X w vs (by simpa using hsz) (fun i u x hu hx => ?_) (fun g x hx => (hgl g x hx).sub fun b hb => XX_none.2 hb)).mono fun e w' ⟨v, he, hg, hr⟩ => ?_
  · exact (hv i u (.d x) hu (by rw [List.getElem?_map, hx]; rfl)).data.sub fun b hb => XX_none.2 hb
  · refine ⟨v, .d y, hno, fun _ => none, he, ⟨rfl, rfl⟩, .d (hr.sub fun b hb => XX_none.1 hb), Sim.none fun b hb => Nat.lt_of_lt_of_le (hs.fits b hb) hg.size, hg.size, hg.os, hg.tape, hg.output, fun b hb _ => ⟨hg.same b hb, fun ⟨_, _, hh, _⟩ => by cases hh⟩, fun r m hr => by cases hr⟩
end Go.Av

/-
  What api.Tell and plain.Place tell of an error.
-/
namespace Go.Proofs.YtoikggboakojlaaDoor
set_option linter.unusedSimpArgs false
set_option linter.unusedVariables false
open Go.RowKit Go.Extern.Stop Go.Stop Go.Extern
open Go.Av

def errType : Value := .iface 177 (.agg #[.pointer (some ⟨6, 34, none⟩)])

theorem asWorld_grew (n : Int) (w : World) : Grew w (asWorld ⟨w.heap.size, 0, none⟩ n (w.alloc (.cells #[.int .i64 0] 27))) := by
  unfold asWorld
  refine ⟨by simp <;> omega, rfl, rfl, rfl, fun b hb => ?_⟩
  rw [Below.heap_setCell _ _ _ _ (by simp; omega)]
  repeat rw [Below.heap_alloc _ _ _ (by simp; omega)]
  exact Below.heap_alloc _ _ _ hb
theorem asWorld_cell (n : Int) (w : World) : (asWorld ⟨w.heap.size, 0, none⟩ n (w.alloc (.cells #[.int .i64 0] 27))).cell? ⟨w.heap.size, 0, none⟩ = some (.int .i64 n) := by
  unfold asWorld
  have hm : ((((w.alloc (.cells #[.int .i64 0] 27)).alloc (.cells #[.pointer (some ⟨w.heap.size, 0, none⟩)] 124)).alloc (.cells #[.pointer (some ⟨6, 124, none⟩), .pointer (some ⟨(w.alloc (.cells #[.int .i64 0] 27)).heap.size, 0, none⟩), .int .u64 150] 158)).alloc (.cells #[.pointer (some ⟨6, 124, none⟩), .pointer (some ⟨(w.alloc (.cells #[.int .i64 0] 27)).heap.size, 0, none⟩), .int .u64 150] 158) |>.alloc (.cells #[.int .i64 n] 27)).cell? ⟨w.heap.size, 0, none⟩ = some (.int .i64 0) := by
    rw [World.cell?_alloc_lt _ _ _ (by simp; omega), World.cell?_alloc_lt _ _ _ (by simp; omega), World.cell?_alloc_lt _ _ _ (by simp; omega), World.cell?_alloc_lt _ _ _ (by simp)]
    simp
  exact World.cell?_setCell_same _ _ _ hm

theorem tell_nil (w : World) : Calls Tryd.prog 38 #[.nilIface] w fun e w' => e = .returned (.int .i64 0) ∧ w' = w := by
  go_enter Tryd.func38, Tryd.ntmps38
  go_wp2
  go_ret
  exact ⟨rfl, rfl⟩

set_option maxHeartbeats 1000000 in
theorem tell_errno (n : Int) (w : World) (hg : w.cell? ⟨1, 0, none⟩ = some errType) : Calls Tryd.prog 38 #[.iface 27 (.int .i64 n)] w fun e w' => e = .returned (.int .i64 n) ∧ Grew w w' := by
  have hlt : 1 < w.heap.size := by
    rcases Nat.lt_or_ge 1 w.heap.size with h | h
    · exact h
    · simp [World.cell?, Array.getElem?_eq_none h] at hg
  have hgA : (w.alloc (.cells #[.int .i64 0] 27)).cell? ⟨1, 0, none⟩ = some errType := by rw [World.cell?_alloc_lt _ _ ⟨1, 0, none⟩ hlt]; exact hg
  have htA : (w.alloc (.cells #[.int .i64 0] 27)).cell? ⟨w.heap.size, 0, none⟩ = some (.int .i64 0) := by simp
  have hfA : (w.alloc (.cells #[.int .i64 0] 27)).frozen? ⟨w.heap.size, 0, none⟩ = false := by simp
  have hc := asWorld_cell n w
  have hgr := asWorld_grew n w
  go_enter Tryd.func38, Tryd.ntmps38
  go_wp2_with (go_at_call 72; refine (as_errno n _ (.int .i64 0) _ hgA htA hfA).mono ?_; rintro e w' ⟨rfl, rfl⟩)
  go_ret
  exact ⟨rfl, hgr⟩

set_option maxHeartbeats 1000000 in
theorem tell_at (n : Int) (a : Addr) (w : World) (hg : w.cell? ⟨1, 0, none⟩ = some errType) (ha : w.cell? a = some (.int .i64 n)) : Calls Tryd.prog 38 #[.iface 109 (.pointer (some a))] w fun e w' => e = .returned (.int .i64 n) ∧ Grew w w' := by
  have hlt : 1 < w.heap.size := by
    rcases Nat.lt_or_ge 1 w.heap.size with h | h
    · exact h
    · simp [World.cell?, Array.getElem?_eq_none h] at hg
  have hal : a.block < w.heap.size := cell_lt ha
  have hgA : (w.alloc (.cells #[.int .i64 0] 27)).cell? ⟨1, 0, none⟩ = some errType := by rw [World.cell?_alloc_lt _ _ ⟨1, 0, none⟩ hlt]; exact hg
  have haA : (w.alloc (.cells #[.int .i64 0] 27)).cell? a = some (.int .i64 n) := by rw [World.cell?_alloc_lt _ _ a hal]; exact ha
  have htA : (w.alloc (.cells #[.int .i64 0] 27)).cell? ⟨w.heap.size, 0, none⟩ = some (.int .i64 0) := by simp
  have hfA : (w.alloc (.cells #[.int .i64 0] 27)).frozen? ⟨w.heap.size, 0, none⟩ = false := by simp
  have hc := asWorld_cell n w
  have hgr := asWorld_grew n w
  go_enter Tryd.func38, Tryd.ntmps38
  go_wp2_with (go_at_call 72; refine (as_at n a _ (.int .i64 0) _ hgA haA htA hfA).mono ?_; rintro e w' ⟨rfl, rfl⟩)
  go_ret
  exact ⟨rfl, hgr⟩

/-- The code in an error, its place. -/
def codeF : Option (Int × Option Nat) → Int
  | none => 0
  | some (c, _) => c
def placeF : Option (Int × Option Nat) → Int
  | some (_, some s) => s
  | _ => -1

def HasErr (G : Glob) : Prop := G 1 = some (.ip [.v errType])
theorem HasErr.cell {G : Glob} (h : HasErr G) {w : World} {X : Nat → Prop} (hg : ∀ g x, G g = some x → RD w X (.pointer (some ⟨g, 0, none⟩)) x) : w.cell? ⟨1, 0, none⟩ = some errType := by
  have := hg _ _ h
  obtain ⟨b, off, f, hb, _, _, hc, hr⟩ := this.ip_inv
  simp only [Value.pointer.injEq, Option.some.injEq, Addr.mk.injEq, and_true] at hb
  obtain ⟨rfl, rfl⟩ := hb
  have h1 := hc 0 (by simp)
  have h2 := (hr 0 _ rfl).scalar
  rw [h2] at h1
  exact h1

theorem tell_spec (G : Glob) (hG : HasErr G) (e : Option (Int × Option Nat)) : PureC Tryd.prog G 38 [dErr e] (.v (.int .i64 (codeF e))) := by
  refine PureC.of_calls (Fun.of Tryd.func38 rfl rfl) fun X w vs hsz hrd hgl => ?_
  have hg := hG.cell hgl
  obtain ⟨v, rfl⟩ : ∃ v, vs = #[v] := Array.size_eq_one_iff.1 hsz
  have hv := hrd 0 v _ rfl rfl
  match e, hv with
  | none, hv =>
    have := hv.scalar
    subst this
    exact (tell_nil w).mono fun e w' ⟨he, hw⟩ => ⟨_, he, by rw [hw]; exact Grew.refl w, .v _⟩
  | some (c, none), hv =>
    obtain ⟨u, rfl, hu⟩ := hv.ifc_inv
    have := hu.scalar
    subst this
    exact (tell_errno c w hg).mono fun e w' ⟨he, hw⟩ => ⟨_, he, hw, .v _⟩
  | some (c, some s), hv =>
    obtain ⟨u, rfl, hu⟩ := hv.ifc_inv
    obtain ⟨b, off, f, rfl, _, _, hc, hr⟩ := hu.ip_inv
    have h1 := hc 0 (by simp)
    have h2 := (hr 0 _ rfl).scalar
    rw [h2] at h1
    exact (tell_at c ⟨b, off, none⟩ w hg h1).mono fun e w' ⟨he, hw⟩ => ⟨_, he, hw, .v _⟩
#print axioms tell_spec
end Go.Proofs.YtoikggboakojlaaDoor

/-
  What plain.Place tells of an error.
-/
namespace Go.Proofs.YtoikggboakojlaaDoor
set_option linter.unusedSimpArgs false
set_option linter.unusedVariables false
open Go.RowKit Go.Extern.Stop Go.Stop Go.Extern
open Go.Av

theorem ta_E (v : Value) (xT : TypeId) (w : World) : (Instr.typeAssert (.iface 27 v) xT 109 true).run Tryd.prog w = .ok (.tuple #[.pointer none, .bool false]) w := by kernel_rfl
theorem ta_A (v : Value) (xT : TypeId) (w : World) : (Instr.typeAssert (.iface 109 v) xT 109 true).run Tryd.prog w = .ok (.tuple #[v, .bool true]) w := by kernel_rfl
theorem ta_noUnwrap (v : Value) (xT : TypeId) (w : World) : (Instr.typeAssert (.iface 27 v) xT 149 true).run Tryd.prog w = .ok (.tuple #[.nilIface, .bool false]) w := run_typeAssert_lacksB Tryd.underlying149 (by kernel_rfl) (by kernel_rfl) v xT w

set_option maxHeartbeats 1000000 in
theorem place_nil (w : World) : Calls Tryd.prog 60 #[.nilIface] w fun e w' => e = .returned (.tuple #[.int .i64 0, .int .i64 (-1)]) ∧ Grew w w' := by
  go_enter Tryd.func60, Tryd.ntmps60
  go_wp2_with (go_at_call 38; refine (tell_nil _).mono ?_; rintro e w' ⟨rfl, rfl⟩)
  refine wp_loop_rounds 1 ?_
  rw [rounds_succ]
  go_wp2
  go_ret2
  exact ⟨rfl, Grew.refl _⟩

set_option maxHeartbeats 1000000 in
theorem place_errno (n : Int) (w : World) (hg : w.cell? ⟨1, 0, none⟩ = some errType) : Calls Tryd.prog 60 #[.iface 27 (.int .i64 n)] w fun e w' => e = .returned (.tuple #[.int .i64 n, .int .i64 (-1)]) ∧ Grew w w' := by
  have t1 := ta_E
  have t2 := ta_noUnwrap
  go_enter Tryd.func60, Tryd.ntmps60
  go_wp2_with (go_at_call 38; refine (tell_errno n _ hg).mono ?_; rintro e w' ⟨rfl, hgr⟩)
  refine wp_loop_rounds 1 ?_
  rw [rounds_succ]
  go_wp2
  go_ret2
  exact ⟨rfl, hgr⟩

set_option maxHeartbeats 1000000 in
theorem place_at (n s : Int) (b o : Nat) (w : World) (hg : w.cell? ⟨1, 0, none⟩ = some errType) (ha : w.cell? ⟨b, o, none⟩ = some (.int .i64 n)) (hs : w.cell? ⟨b, o + 1, none⟩ = some (.int .i64 s)) :
    Calls Tryd.prog 60 #[.iface 109 (.pointer (some ⟨b, o, none⟩))] w fun e w' => e = .returned (.tuple #[.int .i64 n, .int .i64 s]) ∧ Grew w w' := by
  have t1 := ta_A
  go_enter Tryd.func60, Tryd.ntmps60
  go_wp2_with (go_at_call 38; refine (tell_at n _ _ hg ha).mono ?_; rintro e w' ⟨rfl, hgr⟩)
  have hs' : w'.cell? ⟨b, o + 1, none⟩ = some (.int .i64 s) := by rw [World.cell?_of_block (w := w) (hgr.same b (cell_lt hs))]; exact hs
  refine wp_loop_rounds 1 ?_
  rw [rounds_succ]
  go_wp2
  go_region
  all_goals (go_wp2; go_ret2; exact ⟨rfl, hgr.size, hgr.os, hgr.tape, hgr.output, hgr.same⟩)

theorem place_spec (G : Glob) (hG : HasErr G) (e : Option (Int × Option Nat)) : PureC Tryd.prog G 60 [dErr e] (.tup [.v (.int .i64 (codeF e)), .v (.int .i64 (placeF e))]) := by
  refine PureC.of_calls (Fun.of Tryd.func60 rfl rfl) fun X w vs hsz hrd hgl => ?_
  have hg := hG.cell hgl
  obtain ⟨v, rfl⟩ : ∃ v, vs = #[v] := Array.size_eq_one_iff.1 hsz
  have hv := hrd 0 v _ rfl rfl
  have two : ∀ (w' : World) (a b : Int), RD w' X (.tuple #[.int .i64 a, .int .i64 b]) (.tup [.v (.int .i64 a), .v (.int .i64 b)]) := fun w' a b => .tup rfl fun j u c hu hc => by
    match j, hu, hc with
    | 0, hu, hc => simp at hu hc; subst hu hc; exact .v _
    | 1, hu, hc => simp at hu hc; subst hu hc; exact .v _
    | j + 2, hu, hc => simp at hu
  match e, hv with
  | none, hv =>
    have := hv.scalar
    subst this
    exact (place_nil w).mono fun e w' ⟨he, hw⟩ => ⟨_, he, hw, two _ _ _⟩
  | some (c, none), hv =>
    obtain ⟨u, rfl, hu⟩ := hv.ifc_inv
    have := hu.scalar
    subst this
    exact (place_errno c w hg).mono fun e w' ⟨he, hw⟩ => ⟨_, he, hw, two _ _ _⟩
  | some (c, some s), hv =>
    obtain ⟨u, rfl, hu⟩ := hv.ifc_inv
    obtain ⟨b, off, f, rfl, _, _, hc, hr⟩ := hu.ip_inv
    have h1 := hc 0 (by simp)
    have h2 := (hr 0 _ rfl).scalar
    rw [h2] at h1
    have h3 := hc 1 (by simp)
    have h4 := (hr 1 _ rfl).scalar
    rw [h4] at h3
    exact (place_at c s b off w hg h1 h3).mono fun e w' ⟨he, hw⟩ => ⟨_, he, hw, two _ _ _⟩
#print axioms place_spec
end Go.Proofs.YtoikggboakojlaaDoor

/-
  What the statements hold answers with: like lists, errors and their places.
-/
namespace Go.Proofs.YtoikggboakojlaaDoor
set_option linter.unusedSimpArgs false
set_option linter.unusedVariables false
open Go.Av

def dFault (e : Option (Int × Option Nat)) : D := .agg [dNum (codeF e), dNum (placeF e)]
def HasFine (G : Glob) : Prop := G 0 = some (.ip [dNum 0, dNum (-1)])

theorem bare0_spec (G : Glob) (c : Int) : PureC Tryd.prog G 67 [dNum c] (.agg [dNum c, dNum (-1)]) := by
  refine PureC.of_body (tyOf_good _) Tryd.func67 rfl rfl (rs := [.cell 2 29]) Tryd.results67 (by simp [Tryd.ntmps67]) fun X => ?_
  simp only [Tryd.ntmps67, List.map]
  refine AW_rg (tyOf_good _) [0, 2] [2] (fun _ _ => trivial) fun K' hK' => ?_
  repeat (refine sxf_next fun K2 hK2 => ?_; simp [dNum]; (repeat (refine ⟨by omega, ?_⟩)); refine hK2 _ ?_; clear hK2 K2)
  refine sxf_nil (hK' _ ?_)
  refine AW.st (by simp [dNum]; rfl) ?_
  clear hK' K'
  refine AW_rg (tyOf_good _) [2] [2] (fun _ _ => trivial) fun K' hK' => ?_
  repeat (refine sxf_next fun K2 hK2 => ?_; simp [dNum]; (repeat (refine ⟨by omega, ?_⟩)); refine hK2 _ ?_; clear hK2 K2)
  refine sxf_nil (hK' _ ?_)
  refine AW.st (by simp [dNum]; rfl) ?_
  clear hK' K'
  refine AW_ret ?_
  simp [D.le, D.le.go, takeMap, dNum]

theorem within_spec (G : Glob) (n lo hi : Int) : PureC Tryd.prog G 68 [dNum n, dNum lo, dNum hi] (.v (.bool (decide (lo ≤ n) && decide (n ≤ hi)))) := by
  refine PureC.of_body (tyOf_good _) Tryd.func68 rfl rfl (rs := [.tmp 6]) Tryd.results68 (by simp [Tryd.ntmps68]) fun X => ?_
  simp only [Tryd.ntmps68, List.map]
  refine AW_rg (tyOf_good _) [0, 1, 2] [] (fun _ _ => trivial) fun K' hK' => ?_
  repeat (refine sxf_next fun K2 hK2 => ?_; simp [dNum]; (repeat (refine ⟨by omega, ?_⟩)); refine hK2 _ ?_; clear hK2 K2)
  refine sxf_nil (hK' _ ?_)
  refine AW.st (by simp [dNum]; rfl) ?_
  clear hK' K'
  by_cases h1 : lo ≤ n
  · refine AW_rg (tyOf_good _) [6] [] (fun _ _ => trivial) fun K' hK' => ?_
    repeat (refine sxf_next fun K2 hK2 => ?_; simp [h1]; (repeat (refine ⟨by omega, ?_⟩)); refine hK2 _ ?_; clear hK2 K2)
    refine sxf_nil (hK' _ ?_)
    refine AW.st (by simp [h1]; rfl) ?_
    clear hK' K'
    refine AW_ret ?_
    simp [D.le, D.le.go, takeMap, h1]
  · refine AW_rg (tyOf_good _) [6] [] (fun _ _ => trivial) fun K' hK' => ?_
    repeat (refine sxf_next fun K2 hK2 => ?_; simp [h1]; (repeat (refine ⟨by omega, ?_⟩)); refine hK2 _ ?_; clear hK2 K2)
    refine sxf_nil (hK' _ ?_)
    refine AW.st (by simp [h1]; rfl) ?_
    clear hK' K'
    refine AW_ret ?_
    simp [D.le, D.le.go, takeMap, h1]
theorem within_yes (G : Glob) (n lo hi : Int) (h1 : lo ≤ n) (h2 : n ≤ hi) : PureC Tryd.prog G 68 [dNum n, dNum lo, dNum hi] (.v (.bool true)) := by
  have := within_spec G n lo hi
  rwa [decide_eq_true h1, decide_eq_true h2] at this
theorem within_no (G : Glob) (n lo hi : Int) (h : n < lo ∨ hi < n) : PureC Tryd.prog G 68 [dNum n, dNum lo, dNum hi] (.v (.bool false)) := by
  have := within_spec G n lo hi
  have e : (decide (lo ≤ n) && decide (n ≤ hi)) = false := by
    rcases h with h | h
    · rw [decide_eq_false (by omega), Bool.false_and]
    · rw [decide_eq_false (p := n ≤ hi) (by omega), Bool.and_false]
  rwa [e] at this

set_option maxHeartbeats 1000000 in
theorem lsameInts_spec (G : Glob) (k k' : Option Bool) (l l' : List Int) (h : l.length < 2^63) : PureC Tryd.prog G 22 [dInts k l, dInts k' l'] (.v (.bool (l == l'))) := by
  refine PureC.of_body (tyOf_good _) Tryd.func22 rfl rfl (rs := [.tmp 4]) Tryd.results22 (by simp [Tryd.ntmps22]) fun X => ?_
  simp only [Tryd.ntmps22, List.map]
  refine AW_rg (tyOf_good _) [0, 1] [] (fun _ _ => trivial) fun K' hK' => ?_
  repeat (refine sxf_next fun K2 hK2 => ?_; simp; (repeat (refine ⟨by omega, ?_⟩)); refine hK2 _ ?_; clear hK2 K2)
  refine sxf_nil (hK' _ ?_)
  refine AW.st (by simp; rfl) ?_
  clear hK' K'
  refine AW_then fun K1 hK1 => ?_
  refine AW_rg (tyOf_good _) [0, 1, 10] [] (fun _ _ => trivial) fun K' hK' => ?_
  repeat (refine sxf_next fun K2 hK2 => ?_; simp [dInts]; (repeat (refine ⟨by omega, ?_⟩)); refine hK2 _ ?_; clear hK2 K2)
  refine sxf_nil (hK' _ ?_)
  refine AW.st (by simp [dInts]; rfl) ?_
  clear hK' K'
  refine AW_cond' (b := l.length ≠ l'.length) (by simp [D.le, D.le.go, takeMap]) (fun hc => ?_) (fun hc => ?_)
  · refine AW_rg (tyOf_good _) [4] [] (fun _ _ => trivial) fun K' hK' => ?_
    repeat (refine sxf_next fun K2 hK2 => ?_; simp; (repeat (refine ⟨by omega, ?_⟩)); refine hK2 _ ?_; clear hK2 K2)
    refine sxf_nil (hK' _ ?_)
    refine AW.st (by simp; rfl) ?_
    clear hK' K'
    refine AW_ret ?_
    simp [D.le, D.le.go, takeMap]
    intro e; subst e; simp at hc
  · refine AW_skip (hK1 _ ?_)
    have hl : l.length = l'.length := by simpa using hc
    refine AW_then fun K2 hK2 => ?_
    refine AW_rg (tyOf_good _) [0, 1, 5] [] (fun _ _ => trivial) fun K' hK' => ?_
    repeat (refine sxf_next fun K2 hK2 => ?_; simp [dInts]; (repeat (refine ⟨by omega, ?_⟩)); refine hK2 _ ?_; clear hK2 K2)
    refine sxf_nil (hK' _ ?_)
    refine AW.st (by simp [dInts]; rfl) ?_
    clear hK' K'
    refine AW_for (S := Nat) (fun n => n ≤ l.length ∧ l.take n = l'.take n) (fun n => ⟨lst [(0, .d (dInts k l)), (1, .d (dInts k' l')), (5, int n)], hlst []⟩) (fun n => l.length - n) 0 ?_ (by simp) ?_
    · refine Imp.to' (fun _ _ => trivial) (by simp [dInts]) (by simp [dInts])
    · rintro n ⟨hn, ht⟩
      refine AW_then fun K3 hK3 => ?_
      refine AW_rg (tyOf_good _) [0, 1, 5, 14] [] (fun _ _ => trivial) fun K' hK' => ?_
      repeat (refine sxf_next fun K2 hK2 => ?_; simp [dInts]; (repeat (refine ⟨by omega, ?_⟩)); refine hK2 _ ?_; clear hK2 K2)
      refine sxf_nil (hK' _ ?_)
      refine AW.st (by simp [dInts]; rfl) ?_
      clear hK' K'
      refine AW_cond' (b := n < l.length) (by simp [D.le, D.le.go, takeMap]) (fun hc => ?_) (fun hc => ?_)
      · refine AW_skip (hK3 _ ?_)
        refine AW_then fun K4 hK4 => ?_
        refine AW_block ?_
        have hn' : n < l'.length := by omega
        refine AW_rd (tyOf_good _) (by kernel_rfl) [0, 1, 5, 25] [] (fun _ _ => trivial) (by kernel_rfl) fun K' hK' => ?_
        repeat (refine sxd_next fun K2 hK2 => ?_; simp [dInts, hc, hn']; (repeat (refine ⟨by omega, ?_⟩)); refine hK2 _ ?_; clear hK2 K2)
        refine sxd_nil (hK' _ ?_)
        refine AW.st (by simp [dInts, hc, hn']; rfl) ?_
        clear hK' K'
        refine AW_cond' (b := ¬ l[n] = l'[n]) (by simp [D.le, D.le.go, takeMap]) (fun hc => ?_) (fun hc => ?_)
        · refine AW_rg (tyOf_good _) [4] [] (fun _ _ => trivial) fun K' hK' => ?_
          repeat (refine sxf_next fun K2 hK2 => ?_; simp; (repeat (refine ⟨by omega, ?_⟩)); refine hK2 _ ?_; clear hK2 K2)
          refine sxf_nil (hK' _ ?_)
          refine AW.st (by simp; rfl) ?_
          clear hK' K'
          refine AW_ret ?_
          simp [D.le, D.le.go, takeMap]
          intro e; subst e; simp at hc
        · refine AW_skip (hK4 _ ?_)
          refine AW_re (tyOf_good _) fun K' hK' => ?_
          repeat (refine sxf_next fun K2 hK2 => ?_; simp; (repeat (refine ⟨by omega, ?_⟩)); refine hK2 _ ?_; clear hK2 K2)
          refine sxf_nil (hK' _ ?_)
          clear hK' K'
          try simp only [thn, inb]
          have he : l[n] = l'[n] := by simpa using hc
          refine Again.mk (n + 1) ⟨by omega, take_step ht (by omega) hn' he⟩ (by omega) ?_
          refine Imp.to' (fun _ _ => trivial) (by simp [dInts]) (by simp [dInts])
      · refine AW_exit (hK2 _ ?_)
        refine AW_rg (tyOf_good _) [4] [] (fun _ _ => trivial) fun K' hK' => ?_
        repeat (refine sxf_next fun K2 hK2 => ?_; simp; (repeat (refine ⟨by omega, ?_⟩)); refine hK2 _ ?_; clear hK2 K2)
        refine sxf_nil (hK' _ ?_)
        refine AW.st (by simp; rfl) ?_
        clear hK' K'
        refine AW_ret ?_
        simp [D.le, D.le.go, takeMap]
        have hnn : n = l.length := by omega
        subst hnn
        exact take_eq_all hl ht

set_option maxHeartbeats 1000000 in
theorem lsameLists_spec (G : Glob) (l l' : List (List Int)) (h : l.length < 2^63) (hr : ∀ r ∈ l, r.length < 2^63) : PureC Tryd.prog G 24 [dRows l, dRows l'] (.v (.bool (l == l'))) := by
  refine PureC.of_body (tyOf_good _) Tryd.func24 rfl rfl (rs := [.tmp 4]) Tryd.results24 (by simp [Tryd.ntmps24]) fun X => ?_
  simp only [Tryd.ntmps24, List.map]
  refine AW_rg (tyOf_good _) [0, 1] [] (fun _ _ => trivial) fun K' hK' => ?_
  repeat (refine sxf_next fun K2 hK2 => ?_; simp; (repeat (refine ⟨by omega, ?_⟩)); refine hK2 _ ?_; clear hK2 K2)
  refine sxf_nil (hK' _ ?_)
  refine AW.st (by simp; rfl) ?_
  clear hK' K'
  refine AW_then fun K1 hK1 => ?_
  refine AW_rg (tyOf_good _) [0, 1, 10] [] (fun _ _ => trivial) fun K' hK' => ?_
  repeat (refine sxf_next fun K2 hK2 => ?_; simp [dRows]; (repeat (refine ⟨by omega, ?_⟩)); refine hK2 _ ?_; clear hK2 K2)
  refine sxf_nil (hK' _ ?_)
  refine AW.st (by simp [dRows]; rfl) ?_
  clear hK' K'
  refine AW_cond' (b := l.length ≠ l'.length) (by simp [D.le, D.le.go, takeMap]) (fun hc => ?_) (fun hc => ?_)
  · refine AW_rg (tyOf_good _) [4] [] (fun _ _ => trivial) fun K' hK' => ?_
    repeat (refine sxf_next fun K2 hK2 => ?_; simp; (repeat (refine ⟨by omega, ?_⟩)); refine hK2 _ ?_; clear hK2 K2)
    refine sxf_nil (hK' _ ?_)
    refine AW.st (by simp; rfl) ?_
    clear hK' K'
    refine AW_ret ?_
    simp [D.le, D.le.go, takeMap]
    intro e; subst e; simp at hc
  · refine AW_skip (hK1 _ ?_)
    have hl : l.length = l'.length := by simpa using hc
    refine AW_then fun K2 hK2 => ?_
    refine AW_rg (tyOf_good _) [0, 1, 5] [] (fun _ _ => trivial) fun K' hK' => ?_
    repeat (refine sxf_next fun K2 hK2 => ?_; simp [dRows]; (repeat (refine ⟨by omega, ?_⟩)); refine hK2 _ ?_; clear hK2 K2)
    refine sxf_nil (hK' _ ?_)
    refine AW.st (by simp [dRows]; rfl) ?_
    clear hK' K'
    refine AW_for (S := Nat) (fun n => n ≤ l.length ∧ l.take n = l'.take n) (fun n => ⟨lst [(0, .d (dRows l)), (1, .d (dRows l')), (5, int n)], hlst []⟩) (fun n => l.length - n) 0 ?_ (by simp) ?_
    · refine Imp.to' (fun _ _ => trivial) (by simp [dRows]) (by simp [dRows])
    · rintro n ⟨hn, ht⟩
      refine AW_then fun K3 hK3 => ?_
      refine AW_rg (tyOf_good _) [0, 1, 5, 14] [] (fun _ _ => trivial) fun K' hK' => ?_
      repeat (refine sxf_next fun K2 hK2 => ?_; simp [dRows]; (repeat (refine ⟨by omega, ?_⟩)); refine hK2 _ ?_; clear hK2 K2)
      refine sxf_nil (hK' _ ?_)
      refine AW.st (by simp [dRows]; rfl) ?_
      clear hK' K'
      refine AW_cond' (b := n < l.length) (by simp [D.le, D.le.go, takeMap]) (fun hc => ?_) (fun hc => ?_)
      · refine AW_skip (hK3 _ ?_)
        refine AW_then fun K4 hK4 => ?_
        refine AW_block ?_
        have hn' : n < l'.length := by omega
        refine AW_rd (tyOf_good _) (by kernel_rfl) [0, 1, 5, 26] [] (fun _ _ => trivial) (by kernel_rfl) fun K' hK' => ?_
        repeat (refine sxd_next fun K2 hK2 => ?_; simp [dRows, hc, hn']; (repeat (refine ⟨by omega, ?_⟩)); refine hK2 _ ?_; clear hK2 K2)
        refine sxd_next fun K2 hK2 => ?_
        simp [dRows, hc, hn']
        refine callQ.data (lsameInts_spec G none none l[n] l'[n] (hr _ (List.getElem_mem hc))) (by simp; rfl) (by simp; rfl) (by first | exact D.leGo_refl _ | simp [takeMap, List.map_map, Function.comp_def, D.le, D.le.go, D.le_refl, D.leGo_refl, dRows, hc, hn']) ?_
        refine hK2 _ ?_
        clear hK2 K2
        simp only [putd, upd_lst]
        repeat (refine sxd_next fun K2 hK2 => ?_; simp [dRows, hc, hn']; (repeat (refine ⟨by omega, ?_⟩)); refine hK2 _ ?_; clear hK2 K2)
        refine sxd_nil (hK' _ ?_)
        refine AW.st (by simp [dRows, hc, hn']; rfl) ?_
        clear hK' K'
        by_cases he : l[n] = l'[n]
        · refine AW_cond false (by simp [he]) (fun h => by cases h) (fun _ => ?_)
          refine AW_skip (hK4 _ ?_)
          refine AW_re (tyOf_good _) fun K' hK' => ?_
          repeat (refine sxf_next fun K2 hK2 => ?_; simp; (repeat (refine ⟨by omega, ?_⟩)); refine hK2 _ ?_; clear hK2 K2)
          refine sxf_nil (hK' _ ?_)
          clear hK' K'
          try simp only [thn, inb]
          refine Again.mk (n + 1) ⟨by omega, ?_⟩ (by omega) ?_
          · rw [List.take_succ_eq_append_getElem hc, List.take_succ_eq_append_getElem hn', ht, he]
          refine Imp.to' (fun _ _ => trivial) (by simp [dRows]) (by simp [dRows])
        · refine AW_cond true (by simp [he]) (fun _ => ?_) (fun h => by cases h)
          refine AW_rg (tyOf_good _) [4] [] (fun _ _ => trivial) fun K' hK' => ?_
          repeat (refine sxf_next fun K2 hK2 => ?_; simp; (repeat (refine ⟨by omega, ?_⟩)); refine hK2 _ ?_; clear hK2 K2)
          refine sxf_nil (hK' _ ?_)
          refine AW.st (by simp; rfl) ?_
          clear hK' K'
          refine AW_ret ?_
          simp [D.le, D.le.go, takeMap]
          intro e; subst e; exact he rfl
      · refine AW_exit (hK2 _ ?_)
        refine AW_rg (tyOf_good _) [4] [] (fun _ _ => trivial) fun K' hK' => ?_
        repeat (refine sxf_next fun K2 hK2 => ?_; simp; (repeat (refine ⟨by omega, ?_⟩)); refine hK2 _ ?_; clear hK2 K2)
        refine sxf_nil (hK' _ ?_)
        refine AW.st (by simp; rfl) ?_
        clear hK' K'
        refine AW_ret ?_
        simp [D.le, D.le.go, takeMap]
        have hnn : n = l.length := by omega
        subst hnn
        rw [List.take_length] at ht
        rw [ht]; exact (List.take_of_length_le (by omega))

theorem at_spec (G : Glob) (hG : HasErr G) (e e' : Option (Int × Option Nat)) : PureC Tryd.prog G 19 [dErr e, dFault e'] (.v (.bool (decide (codeF e = codeF e') && decide (placeF e = placeF e')))) := by
  have hp := place_spec G hG e
  refine PureC.of_body (tyOf_good _) Tryd.func19 rfl rfl (rs := [.tmp 4]) Tryd.results19 (by simp [Tryd.ntmps19]) fun X => ?_
  simp only [Tryd.ntmps19, List.map]
  refine AW_rg (tyOf_good _) [0, 3] [3] (fun _ _ => trivial) fun K' hK' => ?_
  repeat (refine sxf_next fun K2 hK2 => ?_; simp [dFault]; (repeat (refine ⟨by omega, ?_⟩)); refine hK2 _ ?_; clear hK2 K2)
  refine sxf_nil (hK' _ ?_)
  refine AW.st (by simp [dFault]; rfl) ?_
  clear hK' K'
  refine AW_rg (tyOf_good _) [3, 5, 6] [3] (fun _ _ => trivial) fun K' hK' => ?_
  repeat (refine sxf_next fun K2 hK2 => ?_; simp; (repeat (refine ⟨by omega, ?_⟩)); refine hK2 _ ?_; clear hK2 K2)
  refine sxf_next fun K2 hK2 => ?_
  simp
  refine callK.data (hp) (by simp; rfl) (by first | exact D.leGo_refl _ | simp [takeMap, List.map_map, Function.comp_def, D.le, D.le.go, D.le_refl, D.leGo_refl]) ?_
  refine hK2 _ ?_
  clear hK2 K2
  simp only [putd, upd_lst]
  repeat (refine sxf_next fun K2 hK2 => ?_; simp; (repeat (refine ⟨by omega, ?_⟩)); refine hK2 _ ?_; clear hK2 K2)
  refine sxf_nil (hK' _ ?_)
  refine AW.st (by simp; rfl) ?_
  clear hK' K'
  by_cases h1 : codeF e = codeF e'
  · refine AW_rg (tyOf_good _) [4] [3] (fun _ _ => trivial) fun K' hK' => ?_
    repeat (refine sxf_next fun K2 hK2 => ?_; simp [dNum, h1]; (repeat (refine ⟨by omega, ?_⟩)); refine hK2 _ ?_; clear hK2 K2)
    refine sxf_nil (hK' _ ?_)
    refine AW.st (by simp [dNum, h1]; rfl) ?_
    clear hK' K'
    refine AW_ret ?_
    simp [D.le, D.le.go, takeMap, h1]
    try exact fun _ => h1
  · refine AW_rg (tyOf_good _) [4] [3] (fun _ _ => trivial) fun K' hK' => ?_
    repeat (refine sxf_next fun K2 hK2 => ?_; simp [dNum, h1]; (repeat (refine ⟨by omega, ?_⟩)); refine hK2 _ ?_; clear hK2 K2)
    refine sxf_nil (hK' _ ?_)
    refine AW.st (by simp [dNum, h1]; rfl) ?_
    clear hK' K'
    refine AW_ret ?_
    simp [D.le, D.le.go, takeMap, h1]
    try exact fun h => absurd h h1
theorem at_same (G : Glob) (hG : HasErr G) (e : Option (Int × Option Nat)) : PureC Tryd.prog G 19 [dErr e, dFault e] (.v (.bool true)) := by
  have := at_spec G hG e e
  simpa using this
/-- An error without a place. -/
def errOf (c : Int) : Option (Int × Option Nat) := if c = 0 then none else some (c, none)
theorem errOf_code (c : Int) : codeF (errOf c) = c := by unfold errOf; split <;> simp_all [codeF]
theorem errOf_place (c : Int) : placeF (errOf c) = -1 := by unfold errOf; split <;> simp [placeF]
theorem bare_spec (G : Glob) (hG : HasErr G) (c : Int) : PureC Tryd.prog G 28 [dErr (errOf c), dNum c] (.v (.bool true)) := by
  have h := at_same G hG (errOf c)
  rw [show dFault (errOf c) = .agg [dNum c, dNum (-1)] by rw [dFault, errOf_code, errOf_place]] at h
  refine PureC.of_body (tyOf_good _) Tryd.func28 rfl rfl (rs := [.tmp 4]) Tryd.results28 (by simp [Tryd.ntmps28]) fun X => ?_
  simp only [Tryd.ntmps28, List.map]
  refine AW_rg (tyOf_good _) [0, 1] [] (fun _ _ => trivial) fun K' hK' => ?_
  repeat (refine sxf_next fun K2 hK2 => ?_; simp; (repeat (refine ⟨by omega, ?_⟩)); refine hK2 _ ?_; clear hK2 K2)
  refine sxf_nil (hK' _ ?_)
  refine AW.st (by simp; rfl) ?_
  clear hK' K'
  refine AW_rg (tyOf_good _) [4] [] (fun _ _ => trivial) fun K' hK' => ?_
  repeat (refine sxf_next fun K2 hK2 => ?_; simp [dNum]; (repeat (refine ⟨by omega, ?_⟩)); refine hK2 _ ?_; clear hK2 K2)
  refine sxf_next fun K2 hK2 => ?_
  simp [dNum]
  refine callK.data (bare0_spec G c) (by simp; rfl) (by first | exact D.leGo_refl _ | simp [takeMap, List.map_map, Function.comp_def, D.le, D.le.go, D.le_refl, D.leGo_refl, dNum]) ?_
  refine hK2 _ ?_
  clear hK2 K2
  simp only [putd, upd_lst]
  repeat (refine sxf_next fun K2 hK2 => ?_; simp [dNum]; (repeat (refine ⟨by omega, ?_⟩)); refine hK2 _ ?_; clear hK2 K2)
  refine sxf_next fun K2 hK2 => ?_
  simp [dNum]
  refine callK.data (h) (by simp; rfl) (by first | exact D.leGo_refl _ | simp [takeMap, List.map_map, Function.comp_def, D.le, D.le.go, D.le_refl, D.leGo_refl, dNum]) ?_
  refine hK2 _ ?_
  clear hK2 K2
  simp only [putd, upd_lst]
  repeat (refine sxf_next fun K2 hK2 => ?_; simp [dNum]; (repeat (refine ⟨by omega, ?_⟩)); refine hK2 _ ?_; clear hK2 K2)
  refine sxf_nil (hK' _ ?_)
  refine AW.st (by simp [dNum]; rfl) ?_
  clear hK' K'
  refine AW_ret ?_
  simp [D.le, D.le.go, takeMap]

#print axioms bare_spec
end Go.Proofs.YtoikggboakojlaaDoor

/-
  The reference: errors without a place; numbers within bounds; which tables may be; blocks.
-/
namespace Go.Proofs.YtoikggboakojlaaDoor
set_option linter.unusedSimpArgs false
set_option linter.unusedVariables false
open Go.Av

set_option maxHeartbeats 4000000 in
theorem tcheck_spec (G : Glob) (hF : HasFine G) (t : Tab) : PureC Tryd.prog G 57 [dTab t] (dFault (checkF t)) := by
  obtain ⟨next, tells⟩ := t
  have hr2 : checkF ⟨next, tells⟩ = (if (next.length < 1 ∨ 500 < next.length ∨ 64 < (next.getD 0 []).length) then some (4, none)
      else if tells.length ≠ next.length then some (3, none) else rowsF ⟨next, tells⟩ 0 next.length) := rfl
  generalize hres : checkF ⟨next, tells⟩ = res
  rw [hr2] at hres
  refine PureC.of_body (tyOf_good _) Tryd.func57 rfl rfl (rs := [.cell 2 29]) Tryd.results57 (by simp [Tryd.ntmps57]) fun X => ?_
  simp only [Tryd.ntmps57, List.map]
  refine AW_rg (tyOf_good _) [1, 2] [1, 2] (fun _ _ => trivial) fun K' hK' => ?_
  repeat (refine sxf_next fun K2 hK2 => ?_; simp [dTab]; (repeat (refine ⟨by omega, ?_⟩)); refine hK2 _ ?_; clear hK2 K2)
  refine sxf_nil (hK' _ ?_)
  refine AW.st (by simp [dTab]; rfl) ?_
  clear hK' K'
  refine AW_rg (tyOf_good _) [1, 2, 3] [1, 2] (fun _ _ => trivial) fun K' hK' => ?_
  repeat (refine sxf_next fun K2 hK2 => ?_; simp [dRows]; (repeat (refine ⟨by omega, ?_⟩)); refine hK2 _ ?_; clear hK2 K2)
  refine sxf_nil (hK' _ ?_)
  refine AW.st (by simp [dRows]; rfl) ?_
  clear hK' K'
  refine AW_then fun K1 hK1 => ?_
  by_cases h1 : (next.length : Int) < 1
  · rw [if_pos (.inl (by omega))] at hres
    refine AW_rg (tyOf_good _) [1, 2, 3, 20] [1, 2] (fun _ _ => trivial) fun K' hK' => ?_
    repeat (refine sxf_next fun K2 hK2 => ?_; simp [dNum]; (repeat (refine ⟨by omega, ?_⟩)); refine hK2 _ ?_; clear hK2 K2)
    refine sxf_next fun K2 hK2 => ?_
    simp [dNum]
    refine callK.data (within_no G next.length 1 500 (by omega)) (by simp; rfl) (by first | exact D.leGo_refl _ | simp [takeMap, List.map_map, Function.comp_def, D.le, D.le.go, D.le_refl, D.leGo_refl, dNum]) ?_
    refine hK2 _ ?_
    clear hK2 K2
    simp only [putd, upd_lst]
    repeat (refine sxf_next fun K2 hK2 => ?_; simp [dNum]; (repeat (refine ⟨by omega, ?_⟩)); refine hK2 _ ?_; clear hK2 K2)
    refine sxf_nil (hK' _ ?_)
    refine AW.st (by simp [dNum]; rfl) ?_
    clear hK' K'
    refine AW_cond true rfl (fun _ => ?_) (fun h => by cases h)
    refine AW_rg (tyOf_good _) [2] [2] (fun _ _ => trivial) fun K' hK' => ?_
    repeat (refine sxf_next fun K2 hK2 => ?_; simp [dNum]; (repeat (refine ⟨by omega, ?_⟩)); refine hK2 _ ?_; clear hK2 K2)
    refine sxf_next fun K2 hK2 => ?_
    simp [dNum]
    refine callK.data (bare0_spec G 4) (by simp; rfl) (by first | exact D.leGo_refl _ | simp [takeMap, List.map_map, Function.comp_def, D.le, D.le.go, D.le_refl, D.leGo_refl, dNum]) ?_
    refine hK2 _ ?_
    clear hK2 K2
    simp only [putd, upd_lst]
    repeat (refine sxf_next fun K2 hK2 => ?_; simp [dNum]; (repeat (refine ⟨by omega, ?_⟩)); refine hK2 _ ?_; clear hK2 K2)
    refine sxf_nil (hK' _ ?_)
    refine AW.st (by simp [dNum]; rfl) ?_
    clear hK' K'
    refine AW_ret ?_
    simp [D.le, D.le.go, takeMap, dNum]
    simp [← hres, dFault, codeF, placeF, dNum, D.le, D.le.go]
  by_cases h2 : 500 < (next.length : Int)
  · rw [if_pos (.inr (.inl (by omega)))] at hres
    refine AW_rg (tyOf_good _) [1, 2, 3, 20] [1, 2] (fun _ _ => trivial) fun K' hK' => ?_
    repeat (refine sxf_next fun K2 hK2 => ?_; simp [dNum]; (repeat (refine ⟨by omega, ?_⟩)); refine hK2 _ ?_; clear hK2 K2)
    refine sxf_next fun K2 hK2 => ?_
    simp [dNum]
    refine callK.data (within_no G next.length 1 500 (by omega)) (by simp; rfl) (by first | exact D.leGo_refl _ | simp [takeMap, List.map_map, Function.comp_def, D.le, D.le.go, D.le_refl, D.leGo_refl, dNum]) ?_
    refine hK2 _ ?_
    clear hK2 K2
    simp only [putd, upd_lst]
    repeat (refine sxf_next fun K2 hK2 => ?_; simp [dNum]; (repeat (refine ⟨by omega, ?_⟩)); refine hK2 _ ?_; clear hK2 K2)
    refine sxf_nil (hK' _ ?_)
    refine AW.st (by simp [dNum]; rfl) ?_
    clear hK' K'
    refine AW_cond true rfl (fun _ => ?_) (fun h => by cases h)
    refine AW_rg (tyOf_good _) [2] [2] (fun _ _ => trivial) fun K' hK' => ?_
    repeat (refine sxf_next fun K2 hK2 => ?_; simp [dNum]; (repeat (refine ⟨by omega, ?_⟩)); refine hK2 _ ?_; clear hK2 K2)
    refine sxf_next fun K2 hK2 => ?_
    simp [dNum]
    refine callK.data (bare0_spec G 4) (by simp; rfl) (by first | exact D.leGo_refl _ | simp [takeMap, List.map_map, Function.comp_def, D.le, D.le.go, D.le_refl, D.leGo_refl, dNum]) ?_
    refine hK2 _ ?_
    clear hK2 K2
    simp only [putd, upd_lst]
    repeat (refine sxf_next fun K2 hK2 => ?_; simp [dNum]; (repeat (refine ⟨by omega, ?_⟩)); refine hK2 _ ?_; clear hK2 K2)
    refine sxf_nil (hK' _ ?_)
    refine AW.st (by simp [dNum]; rfl) ?_
    clear hK' K'
    refine AW_ret ?_
    simp [D.le, D.le.go, takeMap, dNum]
    simp [← hres, dFault, codeF, placeF, dNum, D.le, D.le.go]
  have hwy := within_yes G next.length 1 500 (by omega) (by omega)
  obtain ⟨r0, next', hnx⟩ : ∃ r0 next', next = r0 :: next' := by
    cases next with
    | nil => simp at h1
    | cons a b => exact ⟨a, b, rfl⟩
  have hg0 : next.getD 0 [] = r0 := by rw [hnx]; rfl
  have hpos : 0 < next.length := by omega
  simp only [hg0] at hres
  have hgq : next[0] = r0 := by subst hnx; rfl
  by_cases h3 : 64 < (r0.length : Int)
  · rw [if_pos (.inr (.inr (by omega)))] at hres
    refine AW_rg (tyOf_good _) [1, 2, 3, 20] [1, 2] (fun _ _ => trivial) fun K' hK' => ?_
    repeat (refine sxf_next fun K2 hK2 => ?_; simp [dNum, h3, hpos, hgq, dRow, dInts]; (repeat (refine ⟨by omega, ?_⟩)); refine hK2 _ ?_; clear hK2 K2)
    refine sxf_next fun K2 hK2 => ?_
    simp [dNum, h3, hpos, hgq, dRow, dInts]
    refine callK.data (hwy) (by simp; rfl) (by first | exact D.leGo_refl _ | simp [takeMap, List.map_map, Function.comp_def, D.le, D.le.go, D.le_refl, D.leGo_refl, dNum, h3, hpos, hgq, dRow, dInts]) ?_
    refine hK2 _ ?_
    clear hK2 K2
    simp only [putd, upd_lst]
    repeat (refine sxf_next fun K2 hK2 => ?_; simp [dNum, h3, hpos, hgq, dRow, dInts]; (repeat (refine ⟨by omega, ?_⟩)); refine hK2 _ ?_; clear hK2 K2)
    refine sxf_nil (hK' _ ?_)
    refine AW.st (by simp [dNum, h3, hpos, hgq, dRow, dInts]; rfl) ?_
    clear hK' K'
    refine AW_cond true rfl (fun _ => ?_) (fun h => by cases h)
    refine AW_rg (tyOf_good _) [2] [2] (fun _ _ => trivial) fun K' hK' => ?_
    repeat (refine sxf_next fun K2 hK2 => ?_; simp [dNum]; (repeat (refine ⟨by omega, ?_⟩)); refine hK2 _ ?_; clear hK2 K2)
    refine sxf_next fun K2 hK2 => ?_
    simp [dNum]
    refine callK.data (bare0_spec G 4) (by simp; rfl) (by first | exact D.leGo_refl _ | simp [takeMap, List.map_map, Function.comp_def, D.le, D.le.go, D.le_refl, D.leGo_refl, dNum]) ?_
    refine hK2 _ ?_
    clear hK2 K2
    simp only [putd, upd_lst]
    repeat (refine sxf_next fun K2 hK2 => ?_; simp [dNum]; (repeat (refine ⟨by omega, ?_⟩)); refine hK2 _ ?_; clear hK2 K2)
    refine sxf_nil (hK' _ ?_)
    refine AW.st (by simp [dNum]; rfl) ?_
    clear hK' K'
    refine AW_ret ?_
    simp [D.le, D.le.go, takeMap, dNum]
    simp [← hres, dFault, codeF, placeF, dNum, D.le, D.le.go]
  rw [if_neg (by omega)] at hres
  refine AW_rg (tyOf_good _) [1, 2, 3, 20] [1, 2] (fun _ _ => trivial) fun K' hK' => ?_
  repeat (refine sxf_next fun K2 hK2 => ?_; simp [dNum, h3, hpos, hgq, dRow, dInts]; (repeat (refine ⟨by omega, ?_⟩)); refine hK2 _ ?_; clear hK2 K2)
  refine sxf_next fun K2 hK2 => ?_
  simp [dNum, h3, hpos, hgq, dRow, dInts]
  refine callK.data (hwy) (by simp; rfl) (by first | exact D.leGo_refl _ | simp [takeMap, List.map_map, Function.comp_def, D.le, D.le.go, D.le_refl, D.leGo_refl, dNum, h3, hpos, hgq, dRow, dInts]) ?_
  refine hK2 _ ?_
  clear hK2 K2
  simp only [putd, upd_lst]
  repeat (refine sxf_next fun K2 hK2 => ?_; simp [dNum, h3, hpos, hgq, dRow, dInts]; (repeat (refine ⟨by omega, ?_⟩)); refine hK2 _ ?_; clear hK2 K2)
  refine sxf_nil (hK' _ ?_)
  refine AW.st (by simp [dNum, h3, hpos, hgq, dRow, dInts]; rfl) ?_
  clear hK' K'
  refine AW_cond false rfl (fun h => by cases h) (fun _ => ?_)
  refine AW_skip (hK1 _ ?_)
  refine AW_then fun K2 hK2 => ?_
  refine AW_rg (tyOf_good _) [1, 2, 3, 26] [1, 2] (fun _ _ => trivial) fun K' hK' => ?_
  repeat (refine sxf_next fun K2 hK2 => ?_; simp [dRow, dInts]; (repeat (refine ⟨by omega, ?_⟩)); refine hK2 _ ?_; clear hK2 K2)
  refine sxf_nil (hK' _ ?_)
  refine AW.st (by simp [dRow, dInts]; rfl) ?_
  clear hK' K'
  refine AW_cond' (b := ¬ tells.length = next.length) (by simp [D.le, D.le.go, takeMap]) (fun hc => ?_) (fun hc => ?_)
  · rw [if_pos hc] at hres
    refine AW_rg (tyOf_good _) [2] [2] (fun _ _ => trivial) fun K' hK' => ?_
    repeat (refine sxf_next fun K2 hK2 => ?_; simp [dNum]; (repeat (refine ⟨by omega, ?_⟩)); refine hK2 _ ?_; clear hK2 K2)
    refine sxf_next fun K2 hK2 => ?_
    simp [dNum]
    refine callK.data (bare0_spec G 3) (by simp; rfl) (by first | exact D.leGo_refl _ | simp [takeMap, List.map_map, Function.comp_def, D.le, D.le.go, D.le_refl, D.leGo_refl, dNum]) ?_
    refine hK2 _ ?_
    clear hK2 K2
    simp only [putd, upd_lst]
    repeat (refine sxf_next fun K2 hK2 => ?_; simp [dNum]; (repeat (refine ⟨by omega, ?_⟩)); refine hK2 _ ?_; clear hK2 K2)
    refine sxf_nil (hK' _ ?_)
    refine AW.st (by simp [dNum]; rfl) ?_
    clear hK' K'
    refine AW_ret ?_
    simp [D.le, D.le.go, takeMap, dNum]
    simp [← hres, dFault, codeF, placeF, dNum, D.le, D.le.go]
  rw [if_neg hc] at hres
  have htl : tells.length = next.length := by omega
  refine AW_skip (hK2 _ ?_)
  refine AW_then fun K3 hK3 => ?_
  refine AW_rg (tyOf_good _) [1, 2, 3, 30, 31] [1, 2] (fun _ _ => trivial) fun K' hK' => ?_
  repeat (refine sxf_next fun K2 hK2 => ?_; simp [dRow, dInts]; (repeat (refine ⟨by omega, ?_⟩)); refine hK2 _ ?_; clear hK2 K2)
  refine sxf_nil (hK' _ ?_)
  refine AW.st (by simp [dRow, dInts]; rfl) ?_
  clear hK' K'
  refine AW_for (S := Nat) (fun n => n ≤ next.length ∧ rowsF ⟨next, tells⟩ n (next.length - n) = rowsF ⟨next, tells⟩ 0 next.length) (fun n => ⟨lst [(1, .ref 1 0 0), (2, .ref 2 0 0), (3, int next.length), (30, int next.length), (31, int n)],
    hlst [(1, .box 26 [.d (dRows next), .d (dRows tells)]), (2, .box 29 [.d (.v (.int .i64 0)), .d (.v (.int .i64 0))])]⟩) (fun n => next.length - n) 0 ?_ (by simp) ?_
  · refine Imp.to' (fun _ _ => trivial) (by simp [dRows, dRow, dInts]) (by simp [dRows, dRow, dInts])
  · rintro n ⟨hn, hrs⟩
    refine AW_rg (tyOf_good _) [1, 2, 3, 30, 31, 32] [1, 2] (fun _ _ => trivial) fun K' hK' => ?_
    repeat (refine sxf_next fun K2 hK2 => ?_; simp; (repeat (refine ⟨by omega, ?_⟩)); refine hK2 _ ?_; clear hK2 K2)
    refine sxf_nil (hK' _ ?_)
    refine AW.st (by simp; rfl) ?_
    clear hK' K'
    refine AW_then fun K4 hK4 => ?_
    refine AW_cond' (b := n < next.length) (by simp [D.le, D.le.go, takeMap]) (fun hc => ?_) (fun hc => ?_)
    · refine AW_skip (hK4 _ ?_)
      refine AW_then fun K5 hK5 => ?_
      refine AW_block ?_
      refine AW_rg (tyOf_good _) [1, 2, 3, 4, 30, 31] [1, 2] (fun _ _ => trivial) fun K' hK' => ?_
      repeat (refine sxf_next fun K2 hK2 => ?_; simp; (repeat (refine ⟨by omega, ?_⟩)); refine hK2 _ ?_; clear hK2 K2)
      refine sxf_nil (hK' _ ?_)
      refine AW.st (by simp; rfl) ?_
      clear hK' K'
      refine AW_then fun K6 hK6 => ?_
      have hstep : rowsF ⟨next, tells⟩ n (next.length - n) = match rowF ⟨next, tells⟩ n with
          | some c => some (c, some n)
          | none => rowsF ⟨next, tells⟩ (n + 1) (next.length - (n + 1)) := by
        have : next.length - n = (next.length - (n + 1)) + 1 := by omega
        rw [this]
        rfl
      rw [hstep] at hrs
      have htn : n < tells.length := by omega
      have hrow : rowF ⟨next, tells⟩ n = if next[n].length ≠ r0.length ∨ tells[n].length ≠ r0.length then some 3 else if next[n].any fun x => decide (x < 0) || decide ((next.length : Int) ≤ x) then some 2 else none := by
        simp [rowF, hc, htn, hpos, hgq]
      by_cases h4 : next[n].length = r0.length
      · by_cases h5 : tells[n].length = r0.length
        · rw [if_neg (by simp [h4, h5])] at hrow
          refine AW_rd (tyOf_good _) (by kernel_rfl) [1, 2, 3, 4, 30, 31, 59] [1, 2] (fun _ _ => trivial) (by kernel_rfl) fun K' hK' => ?_
          repeat (refine sxd_next fun K2 hK2 => ?_; simp [dRows, h4, h5, hpos, hgq, hc, htn, dRow, dInts]; (repeat (refine ⟨by omega, ?_⟩)); refine hK2 _ ?_; clear hK2 K2)
          refine sxd_nil (hK' _ ?_)
          refine AW.st (by simp [dRows, h4, h5, hpos, hgq, hc, htn, dRow, dInts]; rfl) ?_
          clear hK' K'
          refine AW_cond false rfl (fun h => by cases h) (fun _ => ?_)
          refine AW_skip (hK6 _ ?_)
          refine AW_rg (tyOf_good _) [1, 2, 3, 4, 30, 31, 66, 67, 68] [1, 2] (fun _ _ => trivial) fun K' hK' => ?_
          repeat (refine sxf_next fun K2 hK2 => ?_; simp [dRows, dRow, dInts, hc]; (repeat (refine ⟨by omega, ?_⟩)); refine hK2 _ ?_; clear hK2 K2)
          refine sxf_nil (hK' _ ?_)
          refine AW.st (by simp [dRows, dRow, dInts, hc]; rfl) ?_
          clear hK' K'
          generalize hr : next[n] = row at hrow h4
          refine AW_for (S := Nat) (fun j => j ≤ row.length ∧ ∀ q (hq : q < row.length), q < j → 0 ≤ row[q] ∧ row[q] < (next.length : Int)) (fun j => ⟨lst [(1, .ref 1 0 0), (2, .ref 2 0 0), (3, int next.length), (4, int n), (30, int next.length), (31, int n), (66, .d (dRow row)), (67, int row.length), (68, int j)],
            hlst [(1, .box 26 [.d (dRows next), .d (dRows tells)]), (2, .box 29 [.d (.v (.int .i64 0)), .d (.v (.int .i64 0))])]⟩) (fun j => row.length - j) 0 ?_ (by simp) ?_
          · refine Imp.to' (fun _ _ => trivial) (by simp [dRows, dRow, dInts]) (by simp [dRows, dRow, dInts])
          · rintro j ⟨hj, hall⟩
            refine AW_rg (tyOf_good _) [1, 2, 3, 4, 30, 31, 66, 67, 68, 69] [1, 2] (fun _ _ => trivial) fun K' hK' => ?_
            repeat (refine sxf_next fun K2 hK2 => ?_; simp; (repeat (refine ⟨by omega, ?_⟩)); refine hK2 _ ?_; clear hK2 K2)
            refine sxf_nil (hK' _ ?_)
            refine AW.st (by simp; rfl) ?_
            clear hK' K'
            refine AW_then fun K7 hK7 => ?_
            refine AW_cond' (b := j < row.length) (by simp [D.le, D.le.go, takeMap]) (fun hc => ?_) (fun hc => ?_)
            · have hjl : j < row.length := hc
              refine AW_skip (hK7 _ ?_)
              refine AW_then fun K8 hK8 => ?_
              refine AW_block ?_
              refine AW_rg (tyOf_good _) [1, 2, 3, 4, 6, 30, 31, 66, 67, 68] [1, 2] (fun _ _ => trivial) fun K' hK' => ?_
              repeat (refine sxf_next fun K2 hK2 => ?_; simp [dRow, dInts, hjl]; (repeat (refine ⟨by omega, ?_⟩)); refine hK2 _ ?_; clear hK2 K2)
              refine sxf_nil (hK' _ ?_)
              refine AW.st (by simp [dRow, dInts, hjl]; rfl) ?_
              clear hK' K'
              by_cases hin : 0 ≤ row[j] ∧ row[j] ≤ (next.length : Int) - 1
              · refine AW_rg (tyOf_good _) [1, 2, 3, 4, 30, 31, 66, 67, 68, 76] [1, 2] (fun _ _ => trivial) fun K' hK' => ?_
                repeat (refine sxf_next fun K2 hK2 => ?_; simp [dNum]; (repeat (refine ⟨by omega, ?_⟩)); refine hK2 _ ?_; clear hK2 K2)
                refine sxf_next fun K2 hK2 => ?_
                simp [dNum]
                refine callK.data (within_yes G row[j] 0 ((next.length : Int) - 1) hin.1 hin.2) (by simp; rfl) (by first | exact D.leGo_refl _ | simp [takeMap, List.map_map, Function.comp_def, D.le, D.le.go, D.le_refl, D.leGo_refl, dNum]) ?_
                refine hK2 _ ?_
                clear hK2 K2
                simp only [putd, upd_lst]
                repeat (refine sxf_next fun K2 hK2 => ?_; simp [dNum]; (repeat (refine ⟨by omega, ?_⟩)); refine hK2 _ ?_; clear hK2 K2)
                refine sxf_nil (hK' _ ?_)
                refine AW.st (by simp [dNum]; rfl) ?_
                clear hK' K'
                refine AW_cond false rfl (fun h => by cases h) (fun _ => ?_)
                refine AW_skip (hK8 _ ?_)
                refine AW_re (tyOf_good _) fun K' hK' => ?_
                repeat (refine sxf_next fun K2 hK2 => ?_; simp; (repeat (refine ⟨by omega, ?_⟩)); refine hK2 _ ?_; clear hK2 K2)
                refine sxf_nil (hK' _ ?_)
                clear hK' K'
                try simp only [thn, inb]
                refine Again.mk (j + 1) ⟨by omega, fun q hq hqj => ?_⟩ (by omega) ?_
                · rcases Nat.lt_or_ge q j with h | h
                  · exact hall q hq h
                  · obtain rfl : q = j := by omega
                    exact ⟨hin.1, by omega⟩
                refine Imp.to' (fun _ _ => trivial) (by simp [dRows, dRow, dInts]) (by simp [dRows, dRow, dInts])
              · rw [if_pos (List.any_eq_true.2 ⟨row[j], List.getElem_mem hjl, by simp; omega⟩)] at hrow
                refine AW_rg (tyOf_good _) [1, 2, 3, 4, 30, 31, 66, 67, 68, 76] [1, 2] (fun _ _ => trivial) fun K' hK' => ?_
                repeat (refine sxf_next fun K2 hK2 => ?_; simp [dNum]; (repeat (refine ⟨by omega, ?_⟩)); refine hK2 _ ?_; clear hK2 K2)
                refine sxf_next fun K2 hK2 => ?_
                simp [dNum]
                refine callK.data (within_no G row[j] 0 ((next.length : Int) - 1) (by omega)) (by simp; rfl) (by first | exact D.leGo_refl _ | simp [takeMap, List.map_map, Function.comp_def, D.le, D.le.go, D.le_refl, D.leGo_refl, dNum]) ?_
                refine hK2 _ ?_
                clear hK2 K2
                simp only [putd, upd_lst]
                repeat (refine sxf_next fun K2 hK2 => ?_; simp [dNum]; (repeat (refine ⟨by omega, ?_⟩)); refine hK2 _ ?_; clear hK2 K2)
                refine sxf_nil (hK' _ ?_)
                refine AW.st (by simp [dNum]; rfl) ?_
                clear hK' K'
                refine AW_cond true rfl (fun _ => ?_) (fun h => by cases h)
                refine AW_rg (tyOf_good _) [2] [2] (fun _ _ => trivial) fun K' hK' => ?_
                repeat (refine sxf_next fun K2 hK2 => ?_; simp; (repeat (refine ⟨by omega, ?_⟩)); refine hK2 _ ?_; clear hK2 K2)
                refine sxf_nil (hK' _ ?_)
                refine AW.st (by simp; rfl) ?_
                clear hK' K'
                refine AW_ret ?_
                simp [D.le, D.le.go, takeMap]
                rw [hrow] at hrs
                simp [← hres, ← hrs, dFault, codeF, placeF, dNum, D.le, D.le.go]
            · obtain rfl : j = row.length := by omega
              refine AW_exit (hK5 _ ?_)
              rw [if_neg] at hrow
              · rw [hrow] at hrs
                refine AW_re (tyOf_good _) fun K' hK' => ?_
                repeat (refine sxf_next fun K2 hK2 => ?_; simp; (repeat (refine ⟨by omega, ?_⟩)); refine hK2 _ ?_; clear hK2 K2)
                refine sxf_nil (hK' _ ?_)
                clear hK' K'
                try simp only [thn, inb]
                refine Again.mk (n + 1) ⟨by omega, hrs⟩ (by omega) ?_
                refine Imp.to' (fun _ _ => trivial) (by simp [dRows, dRow, dInts]) (by simp [dRows, dRow, dInts])
              · simp only [Bool.not_eq_true, List.any_eq_false]
                intro x hx
                obtain ⟨q, hq, rfl⟩ := List.mem_iff_getElem.1 hx
                have := hall q hq hq
                simp; omega
        · rw [if_pos (.inr h5)] at hrow
          refine AW_rd (tyOf_good _) (by kernel_rfl) [1, 2, 3, 4, 30, 31, 59] [1, 2] (fun _ _ => trivial) (by kernel_rfl) fun K' hK' => ?_
          repeat (refine sxd_next fun K2 hK2 => ?_; simp [dRows, h4, h5, hpos, hgq, hc, htn, dRow, dInts]; (repeat (refine ⟨by omega, ?_⟩)); refine hK2 _ ?_; clear hK2 K2)
          refine sxd_nil (hK' _ ?_)
          refine AW.st (by simp [dRows, h4, h5, hpos, hgq, hc, htn, dRow, dInts]; rfl) ?_
          clear hK' K'
          refine AW_cond true rfl (fun _ => ?_) (fun h => by cases h)
          refine AW_rg (tyOf_good _) [2] [2] (fun _ _ => trivial) fun K' hK' => ?_
          repeat (refine sxf_next fun K2 hK2 => ?_; simp; (repeat (refine ⟨by omega, ?_⟩)); refine hK2 _ ?_; clear hK2 K2)
          refine sxf_nil (hK' _ ?_)
          refine AW.st (by simp; rfl) ?_
          clear hK' K'
          refine AW_ret ?_
          simp [D.le, D.le.go, takeMap]
          rw [hrow] at hrs
          simp [← hres, ← hrs, dFault, codeF, placeF, dNum, D.le, D.le.go]
      · rw [if_pos (.inl h4)] at hrow
        refine AW_rd (tyOf_good _) (by kernel_rfl) [1, 2, 3, 4, 30, 31, 59] [1, 2] (fun _ _ => trivial) (by kernel_rfl) fun K' hK' => ?_
        repeat (refine sxd_next fun K2 hK2 => ?_; simp [dRows, h4, hpos, hgq, hc, htn, dRow, dInts]; (repeat (refine ⟨by omega, ?_⟩)); refine hK2 _ ?_; clear hK2 K2)
        refine sxd_nil (hK' _ ?_)
        refine AW.st (by simp [dRows, h4, hpos, hgq, hc, htn, dRow, dInts]; rfl) ?_
        clear hK' K'
        refine AW_cond true rfl (fun _ => ?_) (fun h => by cases h)
        refine AW_rg (tyOf_good _) [2] [2] (fun _ _ => trivial) fun K' hK' => ?_
        repeat (refine sxf_next fun K2 hK2 => ?_; simp; (repeat (refine ⟨by omega, ?_⟩)); refine hK2 _ ?_; clear hK2 K2)
        refine sxf_nil (hK' _ ?_)
        refine AW.st (by simp; rfl) ?_
        clear hK' K'
        refine AW_ret ?_
        simp [D.le, D.le.go, takeMap]
        rw [hrow] at hrs
        simp [← hres, ← hrs, dFault, codeF, placeF, dNum, D.le, D.le.go]
    · obtain rfl : n = next.length := by omega
      refine AW_exit (hK3 _ ?_)
      unfold HasFine at hF
      rw [Nat.sub_self] at hrs
      refine AW_rg (tyOf_good _) [2] [2] (fun _ _ => trivial) fun K' hK' => ?_
      repeat (refine sxf_next fun K2 hK2 => ?_; simp [hF, dNum]; (repeat (refine ⟨by omega, ?_⟩)); refine hK2 _ ?_; clear hK2 K2)
      refine sxf_nil (hK' _ ?_)
      refine AW.st (by simp [hF, dNum]; rfl) ?_
      clear hK' K'
      refine AW_ret ?_
      simp [D.le, D.le.go, takeMap]
      simp [← hres, ← hrs, rowsF, dFault, codeF, placeF, dNum, D.le, D.le.go]

set_option maxHeartbeats 2000000 in
theorem rblocks_spec (G : Glob) (t : Tab) (ok : Ok t) (k : Nat) (hk : k < 2^20) (hs : Stops t k) : PureC Tryd.prog G 23 [dTab t] (dRow (iter t k)) := by
  have hmost : t.next.length ≤ 500 := ok.most
  have hlen : (iter t k).length = t.next.length := iter_len t k
  have hg : ∀ s (hs : s < (iter t k).length), (iter t k).getD s 0 = (iter t k)[s] := fun s hs => by rw [List.getD_eq_getElem?_getD, List.getElem?_eq_getElem hs]; rfl
  refine PureC.of_body (tyOf_good _) Tryd.func23 rfl rfl (rs := [.tmp 2]) Tryd.results23 (by simp [Tryd.ntmps23]) fun X => ?_
  simp only [Tryd.ntmps23, List.map]
  refine AW_rg (tyOf_good _) [1] [1] (fun _ _ => trivial) fun K' hK' => ?_
  repeat (refine sxf_next fun K2 hK2 => ?_; simp [dTab]; (repeat (refine ⟨by omega, ?_⟩)); refine hK2 _ ?_; clear hK2 K2)
  refine sxf_nil (hK' _ ?_)
  refine AW.st (by simp [dTab]; rfl) ?_
  clear hK' K'
  refine AW_rg (tyOf_good _) [1, 3] [1] (fun _ _ => trivial) fun K' hK' => ?_
  repeat (refine sxf_next fun K2 hK2 => ?_; simp [dTab]; (repeat (refine ⟨by omega, ?_⟩)); refine hK2 _ ?_; clear hK2 K2)
  refine sxf_next fun K2 hK2 => ?_
  simp [dTab]
  refine callK.data (apart_spec G t ok k hk hs) (by simp; rfl) (by first | exact D.leGo_refl _ | simp [takeMap, List.map_map, Function.comp_def, D.le, D.le.go, D.le_refl, D.leGo_refl, dTab]) ?_
  refine hK2 _ ?_
  clear hK2 K2
  simp only [putd, upd_lst]
  repeat (refine sxf_next fun K2 hK2 => ?_; simp [dTab]; (repeat (refine ⟨by omega, ?_⟩)); refine hK2 _ ?_; clear hK2 K2)
  refine sxf_nil (hK' _ ?_)
  refine AW.st (by simp [dTab]; rfl) ?_
  clear hK' K'
  refine AW_rg (tyOf_good _) [1, 3, 4] [1] (fun _ _ => trivial) fun K' hK' => ?_
  repeat (refine sxf_next fun K2 hK2 => ?_; simp; (repeat (refine ⟨by omega, ?_⟩)); refine hK2 _ ?_; clear hK2 K2)
  refine sxf_nil (hK' _ ?_)
  refine AW.st (by simp; rfl) ?_
  clear hK' K'
  refine AW_rg (tyOf_good _) [1, 3, 4, 5] [1] (fun _ _ => trivial) fun K' hK' => ?_
  repeat (refine sxf_next fun K2 hK2 => ?_; simp; (repeat (refine ⟨by omega, ?_⟩)); refine hK2 _ ?_; clear hK2 K2)
  refine sxf_nil (hK' _ ?_)
  refine AW.st (by simp; rfl) ?_
  clear hK' K'
  refine AW_then fun K1 hK1 => ?_
  refine AW_rg (tyOf_good _) [3, 4, 5, 13, 14] [1] (fun _ _ => trivial) fun K' hK' => ?_
  repeat (refine sxf_next fun K2 hK2 => ?_; simp [dRows]; (repeat (refine ⟨by omega, ?_⟩)); refine hK2 _ ?_; clear hK2 K2)
  refine sxf_nil (hK' _ ?_)
  refine AW.st (by simp [dRows]; rfl) ?_
  clear hK' K'
  refine AW_for (S := Nat) (fun s => s ≤ t.next.length) (fun s => ⟨lst [(3, .d (dMat t.next.length (apM t k))), (4, .own 60 0 s), (5, int (bn t k s)), (13, int t.next.length), (14, int s)], hlst [(1, boxA t), (60, rowI ((iter t k).take s))]⟩) (fun s => t.next.length - s) 0 ?_ (by omega) ?_
  · refine (Imp.adopt 4 60 3 1 rfl rfl).trans ?_
    refine Imp.to' (fun _ _ => trivial) (by simp [boxA, rowI, dRows, dRow, dInts, bn_zero]) (by simp [boxA, rowI, dRows, dRow, dInts, bn_zero])
  · intro s hsn
    have hbn : bn t k s ≤ s := bn_le hsn
    refine AW_rg (tyOf_good _) [3, 4, 5, 13, 14, 15] [1, 60] (fun _ _ => trivial) fun K' hK' => ?_
    repeat (refine sxf_next fun K2 hK2 => ?_; simp [boxA, rowI]; (repeat (refine ⟨by omega, ?_⟩)); refine hK2 _ ?_; clear hK2 K2)
    refine sxf_nil (hK' _ ?_)
    refine AW.st (by simp [boxA, rowI]; rfl) ?_
    clear hK' K'
    refine AW_then fun K2 hK2 => ?_
    refine AW_cond' (b := s < t.next.length) (by simp [D.le, D.le.go, takeMap]) (fun hc => ?_) (fun hc => ?_)
    · have hs1 : s < t.next.length := hc
      have hs2 : s < t.n := hc
      have hsl : s < (iter t k).length := by omega
      refine AW_skip (hK2 _ ?_)
      refine AW_then fun K3 hK3 => ?_
      refine AW_block ?_
      refine AW_rg (tyOf_good _) [3, 4, 5, 6, 13, 14] [1, 60] (fun _ _ => trivial) fun K' hK' => ?_
      repeat (refine sxf_next fun K2 hK2 => ?_; simp [boxA, rowI]; (repeat (refine ⟨by omega, ?_⟩)); refine hK2 _ ?_; clear hK2 K2)
      refine sxf_nil (hK' _ ?_)
      refine AW.st (by simp [boxA, rowI]; rfl) ?_
      clear hK' K'
      refine AW_rg (tyOf_good _) [3, 4, 5, 6, 7, 13, 14] [1, 60] (fun _ _ => trivial) fun K' hK' => ?_
      repeat (refine sxf_next fun K2 hK2 => ?_; simp [boxA, rowI]; (repeat (refine ⟨by omega, ?_⟩)); refine hK2 _ ?_; clear hK2 K2)
      refine sxf_nil (hK' _ ?_)
      refine AW.st (by simp [boxA, rowI]; rfl) ?_
      clear hK' K'
      refine AW_then fun K4 hK4 => ?_
      refine AW_rg (tyOf_good _) [3, 4, 5, 6, 7, 13, 14, 17, 18] [1, 60] (fun _ _ => trivial) fun K' hK' => ?_
      repeat (refine sxf_next fun K2 hK2 => ?_; simp [boxA, rowI]; (repeat (refine ⟨by omega, ?_⟩)); refine hK2 _ ?_; clear hK2 K2)
      refine sxf_nil (hK' _ ?_)
      refine AW.st (by simp [boxA, rowI]; rfl) ?_
      clear hK' K'
      refine AW_for (S := Nat) (fun r => r ≤ s) (fun r => ⟨lst [(3, .d (dMat t.next.length (apM t k))), (4, .own 60 0 s), (5, int (bn t k s)), (6, int s), (7, int (foundK t k s r)), (13, int t.next.length), (14, int s), (17, int s), (18, int r)], hlst [(1, boxA t), (60, rowI ((iter t k).take s))]⟩) (fun r => s - r) 0 ?_ (by omega) ?_
      · refine Imp.to' (fun _ _ => trivial) (by simp [boxA, rowI, dRows, dRow, dInts, foundK_zero]) (by simp [boxA, rowI, dRows, dRow, dInts, foundK_zero])
      · intro r hr
        refine AW_rg (tyOf_good _) [3, 4, 5, 6, 7, 13, 14, 17, 18, 19] [1, 60] (fun _ _ => trivial) fun K' hK' => ?_
        repeat (refine sxf_next fun K2 hK2 => ?_; simp [boxA, rowI]; (repeat (refine ⟨by omega, ?_⟩)); refine hK2 _ ?_; clear hK2 K2)
        refine sxf_nil (hK' _ ?_)
        refine AW.st (by simp [boxA, rowI]; rfl) ?_
        clear hK' K'
        refine AW_then fun K5 hK5 => ?_
        refine AW_cond' (b := r < s) (by simp [D.le, D.le.go, takeMap]) (fun hc => ?_) (fun hc => ?_)
        · have hrs : r < s := hc
          have hr1 : r < t.next.length := by omega
          have hrl : r < (iter t k).length := by omega
          have hap := (apM_spec ok k r s (show r < t.n by omega) hs2).1
          unfold Al at hap
          refine AW_skip (hK5 _ ?_)
          refine AW_then fun K6 hK6 => ?_
          refine AW_block ?_
          refine AW_rg (tyOf_good _) [3, 4, 5, 6, 7, 8, 13, 14, 17, 18] [1, 60] (fun _ _ => trivial) fun K' hK' => ?_
          repeat (refine sxf_next fun K2 hK2 => ?_; simp [boxA, rowI]; (repeat (refine ⟨by omega, ?_⟩)); refine hK2 _ ?_; clear hK2 K2)
          refine sxf_nil (hK' _ ?_)
          refine AW.st (by simp [boxA, rowI]; rfl) ?_
          clear hK' K'
          by_cases hneg : foundK t k s r < 0
          · by_cases h0 : apM t k r s = 0
            · have hit := hap.1 h0
              refine AW_rg (tyOf_good _) [3, 4, 5, 6, 7, 8, 13, 14, 17, 18, 32] [1, 60] (fun _ _ => trivial) fun K' hK' => ?_
              repeat (refine sxf_next fun K2 hK2 => ?_; simp [boxA, rowI, hneg, dMat, rowM, hr1, hs1, h0]; (repeat (refine ⟨by omega, ?_⟩)); refine hK2 _ ?_; clear hK2 K2)
              refine sxf_nil (hK' _ ?_)
              refine AW.st (by simp [boxA, rowI, hneg, dMat, rowM, hr1, hs1, h0]; rfl) ?_
              clear hK' K'
              refine AW_cond true rfl (fun _ => ?_) (fun h => by cases h)
              refine AW_re (tyOf_good _) fun K' hK' => ?_
              repeat (refine sxf_next fun K2 hK2 => ?_; simp [boxA, rowI, hrs, hrl]; (repeat (refine ⟨by omega, ?_⟩)); refine hK2 _ ?_; clear hK2 K2)
              refine sxf_nil (hK' _ ?_)
              clear hK' K'
              refine hK6 _ (AW.norm [3, 4, 5, 6, 7, 13, 14, 17, 18] [1, 60] (fun _ _ => trivial) (AW.st (by simp [boxA, rowI, hrs, hrl]; rfl) ?_))
              refine AW_re (tyOf_good _) fun K' hK' => ?_
              repeat (refine sxf_next fun K2 hK2 => ?_; simp; (repeat (refine ⟨by omega, ?_⟩)); refine hK2 _ ?_; clear hK2 K2)
              refine sxf_nil (hK' _ ?_)
              clear hK' K'
              try simp only [thn, inb]
              refine Again.mk (r + 1) (by omega) (by omega) ?_
              have hf := foundK_hit hit
              rw [← hit, hg r hrl] at hf
              refine Imp.to' (fun _ _ => trivial) (by simp [dMat, rowM, boxA, rowI, hf, dNum, hrs, hrl]) (by simp [dMat, rowM, boxA, rowI, hf, dNum, hrs, hrl])
            · have hne : (iter t k).getD r 0 ≠ (iter t k).getD s 0 := fun h => h0 (hap.2 h)
              refine AW_rg (tyOf_good _) [3, 4, 5, 6, 7, 8, 13, 14, 17, 18, 32] [1, 60] (fun _ _ => trivial) fun K' hK' => ?_
              repeat (refine sxf_next fun K2 hK2 => ?_; simp [boxA, rowI, hneg, dMat, rowM, hr1, hs1, h0]; (repeat (refine ⟨by omega, ?_⟩)); refine hK2 _ ?_; clear hK2 K2)
              refine sxf_nil (hK' _ ?_)
              refine AW.st (by simp [boxA, rowI, hneg, dMat, rowM, hr1, hs1, h0]; rfl) ?_
              clear hK' K'
              refine AW_cond false rfl (fun h => by cases h) (fun _ => ?_)
              refine AW_skip (hK6 _ ?_)
              refine AW_re (tyOf_good _) fun K' hK' => ?_
              repeat (refine sxf_next fun K2 hK2 => ?_; simp; (repeat (refine ⟨by omega, ?_⟩)); refine hK2 _ ?_; clear hK2 K2)
              refine sxf_nil (hK' _ ?_)
              clear hK' K'
              try simp only [thn, inb]
              refine Again.mk (r + 1) (by omega) (by omega) ?_
              have hf := foundK_miss hne
              refine Imp.to' (fun _ _ => trivial) (by simp [dMat, rowM, boxA, rowI, hf]) (by simp [dMat, rowM, boxA, rowI, hf])
          · refine AW_rg (tyOf_good _) [3, 4, 5, 6, 7, 8, 13, 14, 17, 18, 32] [1, 60] (fun _ _ => trivial) fun K' hK' => ?_
            repeat (refine sxf_next fun K2 hK2 => ?_; simp [boxA, rowI, hneg, dMat, rowM, hr1, hs1]; (repeat (refine ⟨by omega, ?_⟩)); refine hK2 _ ?_; clear hK2 K2)
            refine sxf_nil (hK' _ ?_)
            refine AW.st (by simp [boxA, rowI, hneg, dMat, rowM, hr1, hs1]; rfl) ?_
            clear hK' K'
            refine AW_cond false rfl (fun h => by cases h) (fun _ => ?_)
            refine AW_skip (hK6 _ ?_)
            refine AW_re (tyOf_good _) fun K' hK' => ?_
            repeat (refine sxf_next fun K2 hK2 => ?_; simp; (repeat (refine ⟨by omega, ?_⟩)); refine hK2 _ ?_; clear hK2 K2)
            refine sxf_nil (hK' _ ?_)
            clear hK' K'
            try simp only [thn, inb]
            refine Again.mk (r + 1) (by omega) (by omega) ?_
            have hf := foundK_keep hs hs2 (by omega : 0 ≤ foundK t k s r)
            refine Imp.to' (fun _ _ => trivial) (by simp [dMat, rowM, boxA, rowI, hf]) (by simp [dMat, rowM, boxA, rowI, hf])
        · obtain rfl : r = s := by omega
          refine AW_exit (hK4 _ ?_)
          refine AW_then fun K7 hK7 => ?_
          have htk : (iter t k).take (r + 1) = (iter t k).take r ++ [(iter t k)[r]] := List.take_succ_eq_append_getElem hsl
          have hlt : ((iter t k).take r).length = r := by rw [List.length_take]; omega
          have hpt : ∀ f : Int → List D, List.take r (List.map f ((iter t k).take r)) = List.map f ((iter t k).take r) := fun f => List.take_of_length_le (by rw [List.length_map, hlt]; exact Nat.le_refl _)
          by_cases hneg : foundK t k r r < 0
          · obtain ⟨hb1, hb2⟩ := blk_new hs hs2 (foundK_neg hs hs2 hneg)
            rw [hg r hsl] at hb2
            refine AW_rg (tyOf_good _) [3, 4, 5, 7, 13, 14, 39] [1, 60] (fun _ _ => trivial) fun K' hK' => ?_
            repeat (refine sxf_next fun K2 hK2 => ?_; simp [boxA, rowI, hneg]; (repeat (refine ⟨by omega, ?_⟩)); refine hK2 _ ?_; clear hK2 K2)
            refine sxf_nil (hK' _ ?_)
            refine AW.st (by simp [boxA, rowI, hneg]; rfl) ?_
            clear hK' K'
            refine AW_cond true rfl (fun _ => ?_) (fun h => by cases h)
            refine AW_rg (tyOf_good _) [3, 4, 5, 7, 13, 14] [1, 60] (fun _ _ => trivial) fun K' hK' => ?_
            repeat (refine sxf_next fun K2 hK2 => ?_; simp [boxA, rowI]; (repeat (refine ⟨by omega, ?_⟩)); refine hK2 _ ?_; clear hK2 K2)
            refine sxf_nil (hK' _ ?_)
            refine AW.st (by simp [boxA, rowI]; rfl) ?_
            clear hK' K'
            refine AW_re (tyOf_good _) fun K' hK' => ?_
            repeat (refine sxf_next fun K2 hK2 => ?_; simp [boxA, rowI]; (repeat (refine ⟨by omega, ?_⟩)); refine hK2 _ ?_; clear hK2 K2)
            refine sxf_nil (hK' _ ?_)
            clear hK' K'
            refine hK7 _ (AW.norm [3, 4, 5, 7, 13, 14] [1, 60] (fun _ _ => trivial) (AW.st (by simp [boxA, rowI]; rfl) ?_))
            refine AW_re (tyOf_good _) fun K' hK' => ?_
            repeat (refine sxf_next fun K2 hK2 => ?_; simp [boxA, rowI, hlt, hpt]; (repeat (refine ⟨by omega, ?_⟩)); refine hK2 _ ?_; clear hK2 K2)
            refine sxf_nil (hK' _ ?_)
            clear hK' K'
            refine hK3 _ (AW.norm [3, 4, 5, 13, 14] [1, 60] (fun _ _ => trivial) (AW.st (by simp [boxA, rowI, hlt, hpt]; rfl) ?_))
            refine AW_re (tyOf_good _) fun K' hK' => ?_
            repeat (refine sxf_next fun K2 hK2 => ?_; simp; (repeat (refine ⟨by omega, ?_⟩)); refine hK2 _ ?_; clear hK2 K2)
            refine sxf_nil (hK' _ ?_)
            clear hK' K'
            try simp only [thn, inb]
            refine Again.mk (r + 1) (by omega) (by omega) ?_
            refine Imp.to' (fun _ _ => trivial) (by simp [boxA, rowI, htk, hb1, hb2, dNum, List.take_take]) (by simp [boxA, rowI, htk, hb1, hb2, dNum, List.take_take])
          · obtain ⟨hv, q, hq, he⟩ := foundK_pos hneg
            obtain ⟨hb1, hb2⟩ := blk_old hs hs2 hq he
            rw [hg r hsl] at hv
            refine AW_rg (tyOf_good _) [3, 4, 5, 7, 13, 14, 39] [1, 60] (fun _ _ => trivial) fun K' hK' => ?_
            repeat (refine sxf_next fun K2 hK2 => ?_; simp [boxA, rowI, hneg]; (repeat (refine ⟨by omega, ?_⟩)); refine hK2 _ ?_; clear hK2 K2)
            refine sxf_nil (hK' _ ?_)
            refine AW.st (by simp [boxA, rowI, hneg]; rfl) ?_
            clear hK' K'
            refine AW_cond false rfl (fun h => by cases h) (fun _ => ?_)
            refine AW_skip (hK7 _ ?_)
            rw [hv]
            generalize (iter t k)[r] = v at htk ⊢
            refine AW_re (tyOf_good _) fun K' hK' => ?_
            repeat (refine sxf_next fun K2 hK2 => ?_; simp [boxA, rowI, hlt, hpt]; (repeat (refine ⟨by omega, ?_⟩)); refine hK2 _ ?_; clear hK2 K2)
            refine sxf_nil (hK' _ ?_)
            clear hK' K'
            refine hK3 _ (AW.norm [3, 4, 5, 13, 14] [1, 60] (fun _ _ => trivial) (AW.st (by simp [boxA, rowI, hlt, hpt]; rfl) ?_))
            refine AW_re (tyOf_good _) fun K' hK' => ?_
            repeat (refine sxf_next fun K2 hK2 => ?_; simp; (repeat (refine ⟨by omega, ?_⟩)); refine hK2 _ ?_; clear hK2 K2)
            refine sxf_nil (hK' _ ?_)
            clear hK' K'
            try simp only [thn, inb]
            refine Again.mk (r + 1) (by omega) (by omega) ?_
            refine Imp.to' (fun _ _ => trivial) (by simp [boxA, rowI, htk, hb1, dNum, List.take_take]) (by simp [boxA, rowI, htk, hb1, dNum, List.take_take])
    · obtain rfl : s = t.next.length := by omega
      have hta : (iter t k).take t.next.length = iter t k := List.take_of_length_le (by omega)
      refine AW_exit (hK1 _ ?_)
      refine AW_rg (tyOf_good _) [2] [60] (fun _ _ => trivial) fun K' hK' => ?_
      repeat (refine sxf_next fun K2 hK2 => ?_; simp [rowI, hta]; (repeat (refine ⟨by omega, ?_⟩)); refine hK2 _ ?_; clear hK2 K2)
      refine sxf_nil (hK' _ ?_)
      refine AW.st (by simp [rowI, hta]; rfl) ?_
      clear hK' K'
      rw [← hlen]
      refine AW_ret ?_
      simp [D.le, D.le.go, takeMap, dRow, dInts, dNum]
#print axioms tcheck_spec
#print axioms rblocks_spec
end Go.Proofs.YtoikggboakojlaaDoor

/-
  The reference: the least inputs by which two states are told apart; the table of blocks.
-/
namespace Go.Proofs.YtoikggboakojlaaDoor
set_option linter.unusedSimpArgs false
set_option linter.unusedVariables false
open Go.Av

theorem dMat_len (n : Nat) (m : Nat → Nat → Nat) : ((List.range n).map fun x => [D.sl none (rowM n (m x))]).length = n := by simp

/-- What is known of a state and an input of a table that may be. -/
structure AtTab (t : Tab) (a i : Nat) : Prop where
  ha : a < t.next.length
  hia : i < t.next[a].length
  hta : a < t.tells.length
  hit : i < t.tells[a].length
  lo : 0 ≤ t.next[a][i]
  hi : t.next[a][i] < (t.next.length : Int)
  lt : t.next[a][i].toNat < t.next.length
  nx : nx t a i = t.next[a][i].toNat
  te : te t a i = t.tells[a][i]
theorem atTab {t : Tab} (ok : Ok t) {a i : Nat} (ha : a < t.next.length) (hi : i < wd t) : AtTab t a i := by
  have hia : i < t.next[a].length := by have h1 := ok.nextLen a ha; rw [List.getD_eq_getElem?_getD, List.getElem?_eq_getElem ha] at h1; rw [show t.next[a].length = wd t from h1]; exact hi
  obtain ⟨hta, hit, hte⟩ := tells_at ok ha hi
  obtain ⟨h1, h2, h3⟩ := next_at ok ha hi hia
  exact ⟨ha, hia, hta, hit, h1, h2, by omega, h3, hte⟩
theorem wd_at {t : Tab} (ok : Ok t) {a : Nat} (ha : a < t.next.length) : t.next[a].length = wd t := by
  have h1 := ok.nextLen a ha; rw [List.getD_eq_getElem?_getD, List.getElem?_eq_getElem ha] at h1; exact h1

theorem rpart_none (G : Glob) (t : Tab) (ok : Ok t) (k : Nat) (hk : k < 2^20) (hs : Stops t k) (a b : Nat) (ha : a < t.next.length) (hb : b < t.next.length) (hal : Al t k a b) :
    PureC Tryd.prog G 27 [dTab t, dNum a, dNum b] (.tup [.sl (some false) [], .v (.bool false)]) := by
  have h0 : apM t k a b = 0 := (apM_spec ok k a b ha hb).1.2 hal
  refine PureC.of_body (tyOf_good _) Tryd.func27 rfl rfl (rs := [.tmp 6, .tmp 7]) Tryd.results27 (by simp [Tryd.ntmps27]) fun X => ?_
  simp only [Tryd.ntmps27, List.map]
  refine AW_rg (tyOf_good _) [1, 2, 3] [3] (fun _ _ => trivial) fun K' hK' => ?_
  repeat (refine sxf_next fun K2 hK2 => ?_; simp [dTab, dNum]; (repeat (refine ⟨by omega, ?_⟩)); refine hK2 _ ?_; clear hK2 K2)
  refine sxf_nil (hK' _ ?_)
  refine AW.st (by simp [dTab, dNum]; rfl) ?_
  clear hK' K'
  refine AW_rg (tyOf_good _) [1, 2, 3, 8] [3] (fun _ _ => trivial) fun K' hK' => ?_
  repeat (refine sxf_next fun K2 hK2 => ?_; simp [dTab]; (repeat (refine ⟨by omega, ?_⟩)); refine hK2 _ ?_; clear hK2 K2)
  refine sxf_next fun K2 hK2 => ?_
  simp [dTab]
  refine callK.data (apart_spec G t ok k hk hs) (by simp; rfl) (by first | exact D.leGo_refl _ | simp [takeMap, List.map_map, Function.comp_def, D.le, D.le.go, D.le_refl, D.leGo_refl, dTab]) ?_
  refine hK2 _ ?_
  clear hK2 K2
  simp only [putd, upd_lst]
  repeat (refine sxf_next fun K2 hK2 => ?_; simp [dTab]; (repeat (refine ⟨by omega, ?_⟩)); refine hK2 _ ?_; clear hK2 K2)
  refine sxf_nil (hK' _ ?_)
  refine AW.st (by simp [dTab]; rfl) ?_
  clear hK' K'
  refine AW_then fun K1 hK1 => ?_
  refine AW_rg (tyOf_good _) [1, 2, 3, 8, 23] [3] (fun _ _ => trivial) fun K' hK' => ?_
  repeat (refine sxf_next fun K2 hK2 => ?_; simp [dMat, rowM, ha, hb, h0]; (repeat (refine ⟨by omega, ?_⟩)); refine hK2 _ ?_; clear hK2 K2)
  refine sxf_nil (hK' _ ?_)
  refine AW.st (by simp [dMat, rowM, ha, hb, h0]; rfl) ?_
  clear hK' K'
  refine AW_cond true rfl (fun _ => ?_) (fun h => by cases h)
  refine AW_rg (tyOf_good _) [6, 7] [] (fun _ _ => trivial) fun K' hK' => ?_
  repeat (refine sxf_next fun K2 hK2 => ?_; simp; (repeat (refine ⟨by omega, ?_⟩)); refine hK2 _ ?_; clear hK2 K2)
  refine sxf_nil (hK' _ ?_)
  refine AW.st (by simp; rfl) ?_
  clear hK' K'
  refine AW_ret ?_
  simp [D.le, D.le.go, takeMap]

set_option maxHeartbeats 4000000 in
theorem rpart_good (G : Glob) (t : Tab) (ok : Ok t) (k : Nat) (hk : k < 2^20) (hs : Stops t k) (a b d : Nat) (ha : a < t.next.length) (hb : b < t.next.length) (hdk : d + 1 ≤ k) (h1 : Al t d a b) (h2 : ¬ Al t (d + 1) a b) :
    PureC Tryd.prog G 27 [dTab t, dNum a, dNum b] (.tup [dRow (partF t (d + 1) a b), .v (.bool true)]) := by
  have h0 : apM t k a b = d + 1 := apM_val ok ha hb hdk h1 h2
  have h0' : ¬ (d : Int) + 1 = 0 := by omega
  generalize hR : partF t (d + 1) a b = R
  refine PureC.of_body (tyOf_good _) Tryd.func27 rfl rfl (rs := [.tmp 6, .tmp 7]) Tryd.results27 (by simp [Tryd.ntmps27]) fun X => ?_
  simp only [Tryd.ntmps27, List.map]
  refine AW_rg (tyOf_good _) [1, 2, 3] [3] (fun _ _ => trivial) fun K' hK' => ?_
  repeat (refine sxf_next fun K2 hK2 => ?_; simp [dTab, dNum]; (repeat (refine ⟨by omega, ?_⟩)); refine hK2 _ ?_; clear hK2 K2)
  refine sxf_nil (hK' _ ?_)
  refine AW.st (by simp [dTab, dNum]; rfl) ?_
  clear hK' K'
  refine AW_rg (tyOf_good _) [1, 2, 3, 8] [3] (fun _ _ => trivial) fun K' hK' => ?_
  repeat (refine sxf_next fun K2 hK2 => ?_; simp [dTab]; (repeat (refine ⟨by omega, ?_⟩)); refine hK2 _ ?_; clear hK2 K2)
  refine sxf_next fun K2 hK2 => ?_
  simp [dTab]
  refine callK.data (apart_spec G t ok k hk hs) (by simp; rfl) (by first | exact D.leGo_refl _ | simp [takeMap, List.map_map, Function.comp_def, D.le, D.le.go, D.le_refl, D.leGo_refl, dTab]) ?_
  refine hK2 _ ?_
  clear hK2 K2
  simp only [putd, upd_lst]
  repeat (refine sxf_next fun K2 hK2 => ?_; simp [dTab]; (repeat (refine ⟨by omega, ?_⟩)); refine hK2 _ ?_; clear hK2 K2)
  refine sxf_nil (hK' _ ?_)
  refine AW.st (by simp [dTab]; rfl) ?_
  clear hK' K'
  refine AW_then fun K1 hK1 => ?_
  refine AW_rg (tyOf_good _) [1, 2, 3, 8, 23] [3] (fun _ _ => trivial) fun K' hK' => ?_
  repeat (refine sxf_next fun K2 hK2 => ?_; simp [dMat, rowM, ha, hb, h0, h0']; (repeat (refine ⟨by omega, ?_⟩)); refine hK2 _ ?_; clear hK2 K2)
  refine sxf_nil (hK' _ ?_)
  refine AW.st (by simp [dMat, rowM, ha, hb, h0, h0']; rfl) ?_
  clear hK' K'
  refine AW_cond false rfl (fun h => by cases h) (fun _ => ?_)
  refine AW_skip (hK1 _ ?_)
  refine AW_rg (tyOf_good _) [1, 2, 3, 8, 9] [3] (fun _ _ => trivial) fun K' hK' => ?_
  repeat (refine sxf_next fun K2 hK2 => ?_; simp; (repeat (refine ⟨by omega, ?_⟩)); refine hK2 _ ?_; clear hK2 K2)
  refine sxf_nil (hK' _ ?_)
  refine AW.st (by simp; rfl) ?_
  clear hK' K'
  refine AW_then fun K2 hK2 => ?_
  refine AW_rg (tyOf_good _) [1, 2, 3, 8, 9, 10] [3] (fun _ _ => trivial) fun K' hK' => ?_
  repeat (refine sxf_next fun K2 hK2 => ?_; simp [dMat, rowM, ha, hb, h0]; (repeat (refine ⟨by omega, ?_⟩)); refine hK2 _ ?_; clear hK2 K2)
  refine sxf_nil (hK' _ ?_)
  refine AW.st (by simp [dMat, rowM, ha, hb, h0]; rfl) ?_
  clear hK' K'
  refine AW_for (S := Nat × Nat × Nat × List Int) (fun s => s.1 ≤ d + 1 ∧ s.2.1 < t.next.length ∧ s.2.2.1 < t.next.length ∧ s.2.2.2 ++ partF t s.1 s.2.1 s.2.2.1 = R ∧ s.2.2.2.length + s.1 ≤ d + 1 ∧ (0 < s.1 → Al t (s.1 - 1) s.2.1 s.2.2.1 ∧ ¬ Al t s.1 s.2.1 s.2.2.1))
    (fun s => ⟨lst [(1, int s.2.1), (2, int s.2.2.1), (3, .ref 3 0 0), (8, .d (dMat t.next.length (apM t k))), (9, .own 80 0 s.2.2.2.length), (10, int s.1)], hlst [(3, boxA t), (80, rowI s.2.2.2)]⟩) (fun s => s.1) (d + 1, a, b, []) ?_ ⟨Nat.le_refl _, ha, hb, by simpa using hR, by simp, fun _ => ⟨h1, h2⟩⟩ ?_
  · refine (Imp.adopt 9 80 3 1 rfl rfl).trans ?_
    refine Imp.to' (fun _ _ => trivial) (by simp [boxA, rowI, dRows, dRow, dInts, dMat, rowM]) (by simp [boxA, rowI, dRows, dRow, dInts, dMat, rowM])
  · rintro ⟨m, a1, b1, out⟩ ⟨hm, ha1, hb1, hout, hol, hal⟩
    dsimp only at hm ha1 hb1 hout hol hal ⊢
    refine AW_then fun K3 hK3 => ?_
    cases m with
    | zero =>
      refine AW_rg (tyOf_good _) [1, 2, 3, 8, 9, 10, 32] [3, 80] (fun _ _ => trivial) fun K' hK' => ?_
      repeat (refine sxf_next fun K2 hK2 => ?_; simp; (repeat (refine ⟨by omega, ?_⟩)); refine hK2 _ ?_; clear hK2 K2)
      refine sxf_nil (hK' _ ?_)
      refine AW.st (by simp; rfl) ?_
      clear hK' K'
      refine AW_cond false rfl (fun h => by cases h) (fun _ => ?_)
      refine AW_exit (hK2 _ ?_)
      simp only [partF, List.append_nil] at hout
      subst hout
      refine AW_rg (tyOf_good _) [6, 7] [80] (fun _ _ => trivial) fun K' hK' => ?_
      repeat (refine sxf_next fun K2 hK2 => ?_; simp; (repeat (refine ⟨by omega, ?_⟩)); refine hK2 _ ?_; clear hK2 K2)
      refine sxf_nil (hK' _ ?_)
      refine AW.st (by simp; rfl) ?_
      clear hK' K'
      refine AW_ret ?_
      simp [D.le, D.le.go, takeMap, rowI, dRow, dInts, dNum, D.le_refl]
    | succ q =>
      obtain ⟨hal1, hal2⟩ := hal (by omega)
      rw [Nat.add_sub_cancel] at hal1
      obtain ⟨c, hc, hhit, hmis, hnext⟩ := part_step ok ha1 hb1 hal1 hal2
      have hw64 : wd t ≤ 64 := ok.ins
      have hwa := wd_at ok ha1
      refine AW_rg (tyOf_good _) [1, 2, 3, 8, 9, 10, 32] [3, 80] (fun _ _ => trivial) fun K' hK' => ?_
      repeat (refine sxf_next fun K2 hK2 => ?_; simp; (repeat (refine ⟨by omega, ?_⟩)); refine hK2 _ ?_; clear hK2 K2)
      refine sxf_nil (hK' _ ?_)
      refine AW.st (by simp; rfl) ?_
      clear hK' K'
      refine AW_cond true rfl (fun _ => ?_) (fun h => by cases h)
      refine AW_skip (hK3 _ ?_)
      refine AW_then fun K4 hK4 => ?_
      refine AW_block ?_
      refine AW_rg (tyOf_good _) [1, 2, 3, 8, 9, 10, 40, 41] [3, 80] (fun _ _ => trivial) fun K' hK' => ?_
      repeat (refine sxf_next fun K2 hK2 => ?_; simp [boxA, dRows, dRow, dInts, ha1, hwa]; (repeat (refine ⟨by omega, ?_⟩)); refine hK2 _ ?_; clear hK2 K2)
      refine sxf_nil (hK' _ ?_)
      refine AW.st (by simp [boxA, dRows, dRow, dInts, ha1, hwa]; rfl) ?_
      clear hK' K'
      refine AW_for (S := Nat) (fun i => i ≤ c) (fun i => ⟨lst [(1, int a1), (2, int b1), (3, .ref 3 0 0), (8, .d (dMat t.next.length (apM t k))), (9, .own 80 0 out.length), (10, int (q + 1)), (40, int (wd t)), (41, int i)], hlst [(3, boxA t), (80, rowI out)]⟩) (fun i => wd t - i) 0 ?_ (by simp) ?_
      · refine Imp.to' (fun _ _ => trivial) (by simp [boxA, rowI, dRows, dRow, dInts]) (by simp [boxA, rowI, dRows, dRow, dInts])
      · intro i hi
        have hiw : i < wd t := by omega
        obtain ⟨_, hia, hta, hita, lo1, hi1, lt1, nx1, te1⟩ := atTab ok ha1 hiw
        obtain ⟨_, hib, htb, hitb, lo2, hi2, lt2, nx2, te2⟩ := atTab ok hb1 hiw
        refine AW_rg (tyOf_good _) [1, 2, 3, 8, 9, 10, 40, 41, 42] [3, 80] (fun _ _ => trivial) fun K' hK' => ?_
        repeat (refine sxf_next fun K2 hK2 => ?_; simp [boxA, rowI, hiw]; (repeat (refine ⟨by omega, ?_⟩)); refine hK2 _ ?_; clear hK2 K2)
        refine sxf_nil (hK' _ ?_)
        refine AW.st (by simp [boxA, rowI, hiw]; rfl) ?_
        clear hK' K'
        refine AW_then fun K5 hK5 => ?_
        refine AW_cond true rfl (fun _ => ?_) (fun h => by cases h)
        refine AW_skip (hK5 _ ?_)
        refine AW_then fun K6 hK6 => ?_
        refine AW_block ?_
        refine AW_rg (tyOf_good _) [1, 2, 3, 8, 9, 10, 11, 40, 41] [3, 80] (fun _ _ => trivial) fun K' hK' => ?_
        repeat (refine sxf_next fun K2 hK2 => ?_; simp [boxA, rowI]; (repeat (refine ⟨by omega, ?_⟩)); refine hK2 _ ?_; clear hK2 K2)
        refine sxf_nil (hK' _ ?_)
        refine AW.st (by simp [boxA, rowI]; rfl) ?_
        clear hK' K'
        refine AW_rd (tyOf_good _) (by kernel_rfl) [1, 2, 3, 8, 9, 10, 11, 12, 13, 40, 41] [3, 80] (fun _ _ => trivial) (by kernel_rfl) fun K' hK' => ?_
        repeat (refine sxd_next fun K2 hK2 => ?_; simp [boxA, rowI, dRows, dRow, dInts, ha1, hb1, hia, hib]; (repeat (refine ⟨by omega, ?_⟩)); refine hK2 _ ?_; clear hK2 K2)
        refine sxd_nil (hK' _ ?_)
        refine AW.st (by simp [boxA, rowI, dRows, dRow, dInts, ha1, hb1, hia, hib]; rfl) ?_
        clear hK' K'
        have href := hit_ref ok ha1 hb1 (k := k) (by omega) hiw hal1
        rw [nx1, nx2, te1, te2] at href
        have hadv : ∀ (v : Bool), (if i = c then true else false) = v → hitF t (q + 1) a1 b1 i = v := by
          intro v hv
          by_cases hic : i = c
          · rw [if_pos hic] at hv; rw [← hv, hic]; exact hhit
          · rw [if_neg hic] at hv; rw [← hv]; exact hmis i (by omega)
        by_cases hic : i = c
        · have hh := hadv true (by simp [hic])
          rw [hh] at href
          have hfin : partF t (q + 1) a1 b1 = (i : Int) :: partF t q t.next[a1][i].toNat t.next[b1][i].toNat := by rw [← nx1, ← nx2]; exact partF_hit hiw hh (fun j hj => hmis j (by omega))
          have hxz : ((t.next[a1][i].toNat : Nat) : Int) = t.next[a1][i] := by omega
          have hyz : ((t.next[b1][i].toNat : Nat) : Int) = t.next[b1][i] := by omega
          by_cases hq0 : q = 0
          · subst hq0
            have ht : ¬ t.tells[a1][i] = t.tells[b1][i] := by simpa using href
            refine AW_rd (tyOf_good _) (by kernel_rfl) [1, 2, 3, 8, 9, 10, 11, 12, 13, 40, 41, 96] [3, 80] (fun _ _ => trivial) (by kernel_rfl) fun K' hK' => ?_
            repeat (refine sxd_next fun K2 hK2 => ?_; simp [boxA, rowI, dRows, dRow, dInts, ht, hta, htb, hita, hitb]; (repeat (refine ⟨by omega, ?_⟩)); refine hK2 _ ?_; clear hK2 K2)
            refine sxd_nil (hK' _ ?_)
            refine AW.st (by simp [boxA, rowI, dRows, dRow, dInts, ht, hta, htb, hita, hitb]; rfl) ?_
            clear hK' K'
            refine AW_cond true rfl (fun _ => ?_) (fun h => by cases h)
            refine AW_rg (tyOf_good _) [3, 8, 9, 10, 12, 13] [3, 80] (fun _ _ => trivial) fun K' hK' => ?_
            repeat (refine sxf_next fun K2 hK2 => ?_; simp [rowI]; (repeat (refine ⟨by omega, ?_⟩)); refine hK2 _ ?_; clear hK2 K2)
            refine sxf_nil (hK' _ ?_)
            refine AW.st (by simp [rowI]; rfl) ?_
            clear hK' K'
            refine AW_rg (tyOf_good _) [1, 2, 3, 8, 9, 10] [3, 80] (fun _ _ => trivial) fun K' hK' => ?_
            repeat (refine sxf_next fun K2 hK2 => ?_; simp [rowI]; (repeat (refine ⟨by omega, ?_⟩)); refine hK2 _ ?_; clear hK2 K2)
            refine sxf_nil (hK' _ ?_)
            refine AW.st (by simp [rowI]; rfl) ?_
            clear hK' K'
            refine AW_exit (hK4 _ ?_)
            refine AW_re (tyOf_good _) fun K' hK' => ?_
            repeat (refine sxf_next fun K2 hK2 => ?_; simp; (repeat (refine ⟨by omega, ?_⟩)); refine hK2 _ ?_; clear hK2 K2)
            refine sxf_nil (hK' _ ?_)
            clear hK' K'
            try simp only [thn, inb]
            refine Again.mk (0, t.next[a1][i].toNat, t.next[b1][i].toNat, out ++ [(i : Int)]) ⟨by omega, lt1, lt2, by rw [← hout, hfin]; simp, by simp; omega, fun h => absurd h (Nat.lt_irrefl 0)⟩ (by simp) ?_
            refine Imp.to' (fun _ _ => trivial) (by simp [boxA, rowI, dRows, dRow, dInts, dMat, rowM, dNum, hxz, hyz, takeMap]) (by simp [boxA, rowI, dRows, dRow, dInts, dMat, rowM, dNum, hxz, hyz, takeMap])
          · have hqe : ¬ ((q : Int) + 1 = 1) := by omega
            have hqg : (1 : Int) < (q : Int) + 1 := by omega
            have hq1 : 0 < q := by omega
            rw [if_neg hq0] at href
            have hap : apM t k t.next[a1][i].toNat t.next[b1][i].toNat = q := of_decide_eq_true href.symm
            rw [← hic, nx1, nx2] at hnext
            refine AW_rd (tyOf_good _) (by kernel_rfl) [1, 2, 3, 8, 9, 10, 11, 12, 13, 40, 41, 96] [3, 80] (fun _ _ => trivial) (by kernel_rfl) fun K' hK' => ?_
            repeat (refine sxd_next fun K2 hK2 => ?_; simp [boxA, rowI, dMat, rowM, hq0, hq1, hqe, hqg, lo1, hi1, lt1, lo2, hi2, lt2, hap]; (repeat (refine ⟨by omega, ?_⟩)); refine hK2 _ ?_; clear hK2 K2)
            refine sxd_nil (hK' _ ?_)
            refine AW.st (by simp [boxA, rowI, dMat, rowM, hq0, hq1, hqe, hqg, lo1, hi1, lt1, lo2, hi2, lt2, hap]; rfl) ?_
            clear hK' K'
            refine AW_cond true rfl (fun _ => ?_) (fun h => by cases h)
            refine AW_rg (tyOf_good _) [3, 8, 9, 10, 12, 13] [3, 80] (fun _ _ => trivial) fun K' hK' => ?_
            repeat (refine sxf_next fun K2 hK2 => ?_; simp [rowI]; (repeat (refine ⟨by omega, ?_⟩)); refine hK2 _ ?_; clear hK2 K2)
            refine sxf_nil (hK' _ ?_)
            refine AW.st (by simp [rowI]; rfl) ?_
            clear hK' K'
            refine AW_rg (tyOf_good _) [1, 2, 3, 8, 9, 10] [3, 80] (fun _ _ => trivial) fun K' hK' => ?_
            repeat (refine sxf_next fun K2 hK2 => ?_; simp [rowI]; (repeat (refine ⟨by omega, ?_⟩)); refine hK2 _ ?_; clear hK2 K2)
            refine sxf_nil (hK' _ ?_)
            refine AW.st (by simp [rowI]; rfl) ?_
            clear hK' K'
            refine AW_exit (hK4 _ ?_)
            refine AW_re (tyOf_good _) fun K' hK' => ?_
            repeat (refine sxf_next fun K2 hK2 => ?_; simp; (repeat (refine ⟨by omega, ?_⟩)); refine hK2 _ ?_; clear hK2 K2)
            refine sxf_nil (hK' _ ?_)
            clear hK' K'
            try simp only [thn, inb]
            refine Again.mk (q, t.next[a1][i].toNat, t.next[b1][i].toNat, out ++ [(i : Int)]) ⟨by omega, lt1, lt2, by rw [← hout, hfin]; simp, by simp; omega, hnext⟩ (by simp) ?_
            refine Imp.to' (fun _ _ => trivial) (by simp [boxA, rowI, dRows, dRow, dInts, dMat, rowM, dNum, hxz, hyz, takeMap]) (by simp [boxA, rowI, dRows, dRow, dInts, dMat, rowM, dNum, hxz, hyz, takeMap])
        · have hh := hadv false (by simp [hic])
          rw [hh] at href
          by_cases hq0 : q = 0
          · subst hq0
            have ht : t.tells[a1][i] = t.tells[b1][i] := by simpa using href
            refine AW_rd (tyOf_good _) (by kernel_rfl) [1, 2, 3, 8, 9, 10, 11, 12, 13, 40, 41, 96] [3, 80] (fun _ _ => trivial) (by kernel_rfl) fun K' hK' => ?_
            repeat (refine sxd_next fun K2 hK2 => ?_; simp [boxA, rowI, dRows, dRow, dInts, ht, hta, htb, hita, hitb]; (repeat (refine ⟨by omega, ?_⟩)); refine hK2 _ ?_; clear hK2 K2)
            refine sxd_nil (hK' _ ?_)
            refine AW.st (by simp [boxA, rowI, dRows, dRow, dInts, ht, hta, htb, hita, hitb]; rfl) ?_
            clear hK' K'
            refine AW_cond false rfl (fun h => by cases h) (fun _ => ?_)
            refine AW_skip (hK6 _ ?_)
            refine AW_re (tyOf_good _) fun K' hK' => ?_
            repeat (refine sxf_next fun K2 hK2 => ?_; simp; (repeat (refine ⟨by omega, ?_⟩)); refine hK2 _ ?_; clear hK2 K2)
            refine sxf_nil (hK' _ ?_)
            clear hK' K'
            try simp only [thn, inb]
            refine Again.mk (i + 1) (by omega) (by omega) ?_
            refine Imp.to' (fun _ _ => trivial) (by simp [boxA, rowI, dRows, dRow, dInts, dMat, rowM]) (by simp [boxA, rowI, dRows, dRow, dInts, dMat, rowM])
          · have hqe : ¬ ((q : Int) + 1 = 1) := by omega
            have hqg : (1 : Int) < (q : Int) + 1 := by omega
            have hq1 : 0 < q := by omega
            rw [if_neg hq0] at href
            have hap : ¬ apM t k t.next[a1][i].toNat t.next[b1][i].toNat = q := of_decide_eq_false href.symm
            refine AW_rd (tyOf_good _) (by kernel_rfl) [1, 2, 3, 8, 9, 10, 11, 12, 13, 40, 41, 96] [3, 80] (fun _ _ => trivial) (by kernel_rfl) fun K' hK' => ?_
            repeat (refine sxd_next fun K2 hK2 => ?_; simp [boxA, rowI, dMat, rowM, hq0, hq1, hqe, hqg, lo1, hi1, lt1, lo2, hi2, lt2, hap]; (repeat (refine ⟨by omega, ?_⟩)); refine hK2 _ ?_; clear hK2 K2)
            refine sxd_nil (hK' _ ?_)
            refine AW.st (by simp [boxA, rowI, dMat, rowM, hq0, hq1, hqe, hqg, lo1, hi1, lt1, lo2, hi2, lt2, hap]; rfl) ?_
            clear hK' K'
            refine AW_cond false rfl (fun h => by cases h) (fun _ => ?_)
            refine AW_skip (hK6 _ ?_)
            refine AW_re (tyOf_good _) fun K' hK' => ?_
            repeat (refine sxf_next fun K2 hK2 => ?_; simp; (repeat (refine ⟨by omega, ?_⟩)); refine hK2 _ ?_; clear hK2 K2)
            refine sxf_nil (hK' _ ?_)
            clear hK' K'
            try simp only [thn, inb]
            refine Again.mk (i + 1) (by omega) (by omega) ?_
            refine Imp.to' (fun _ _ => trivial) (by simp [boxA, rowI, dRows, dRow, dInts, dMat, rowM]) (by simp [boxA, rowI, dRows, dRow, dInts, dMat, rowM])

#print axioms rpart_good
end Go.Proofs.YtoikggboakojlaaDoor

/-
  What the statements hold answers with: like lists, errors and their places; tables that are few.
-/
namespace Go.Proofs.YtoikggboakojlaaDoor
set_option linter.unusedSimpArgs false
set_option linter.unusedVariables false
open Go.Av

theorem checkF_code {t : Tab} {e : Int × Option Nat} (h : checkF t = some e) : e.1 ≠ 0 := by
  have rows : ∀ n s, rowsF t s n = some e → e.1 ≠ 0 := by
    intro n
    induction n with
    | zero => intro s h; simp [rowsF] at h
    | succ n ih =>
      intro s h
      simp only [rowsF] at h
      split at h
      · rename_i c hc
        obtain rfl := Option.some.inj h
        unfold rowF at hc
        split at hc
        · obtain rfl := Option.some.inj hc; exact (by decide : (3 : Int) ≠ 0)
        · split at hc
          · obtain rfl := Option.some.inj hc; exact (by decide : (2 : Int) ≠ 0)
          · cases hc
      · exact ih _ h
  unfold checkF at h
  split at h
  · obtain rfl := Option.some.inj h; decide
  · split at h
    · obtain rfl := Option.some.inj h; decide
    · exact rows _ _ h

set_option maxHeartbeats 2000000 in
theorem tables_many (G : Glob) (hF : HasFine G) (t : Tab) (h : 510 < t.next.length ∨ 510 < t.tells.length) : PureC Tryd.prog G 16 [dTab t] (.tup [dTab t, dFault none, .v (.bool false)]) := by
  unfold HasFine at hF
  refine PureC.of_body (tyOf_good _) Tryd.func16 rfl rfl (rs := [.cell 2 26, .cell 3 29, .tmp 4]) Tryd.results16 (by simp [Tryd.ntmps16]) fun X => ?_
  simp only [Tryd.ntmps16, List.map]
  refine AW_rg (tyOf_good _) [1, 2, 3] [1, 2, 3] (fun _ _ => trivial) fun K' hK' => ?_
  repeat (refine sxf_next fun K2 hK2 => ?_; simp [dTab]; (repeat (refine ⟨by omega, ?_⟩)); refine hK2 _ ?_; clear hK2 K2)
  refine sxf_nil (hK' _ ?_)
  refine AW.st (by simp [dTab]; rfl) ?_
  clear hK' K'
  refine AW_rg (tyOf_good _) [1, 2, 3, 5] [1, 2, 3, 5] (fun _ _ => trivial) fun K' hK' => ?_
  repeat (refine sxf_next fun K2 hK2 => ?_; simp [dRows]; (repeat (refine ⟨by omega, ?_⟩)); refine hK2 _ ?_; clear hK2 K2)
  refine sxf_nil (hK' _ ?_)
  refine AW.st (by simp [dRows]; rfl) ?_
  clear hK' K'
  refine AW_then fun K1 hK1 => ?_
  by_cases h1 : (510 : Int) < t.next.length
  · refine AW_rg (tyOf_good _) [1, 2, 3, 5, 21] [1, 2, 3, 5] (fun _ _ => trivial) fun K' hK' => ?_
    repeat (refine sxf_next fun K2 hK2 => ?_; simp [dRows, h1]; (repeat (refine ⟨by omega, ?_⟩)); refine hK2 _ ?_; clear hK2 K2)
    refine sxf_nil (hK' _ ?_)
    refine AW.st (by simp [dRows, h1]; rfl) ?_
    clear hK' K'
    refine AW_cond true rfl (fun _ => ?_) (fun h => by cases h)
    refine AW_rdg (tyOf_good _) (by kernel_rfl) [(0, 5), (2, 2), (3, 3)] [2, 3, 4] [1, 2, 3, 5] (fun _ _ => trivial) (by kernel_rfl) fun K' hK' => ?_
    repeat (refine sxg_next fun K2 hK2 => ?_; simp [hF, dNum]; (repeat (refine ⟨by omega, ?_⟩)); refine hK2 _ ?_; clear hK2 K2)
    refine sxg_nil (hK' _ ?_)
    refine AW.st (by simp [hF, dNum]; rfl) ?_
    clear hK' K'
    refine AW_ret ?_
    simp [D.le, D.le.go, takeMap, dTab, dRows, dFault, codeF, placeF, dNum]
  · have h2 : (510 : Int) < t.tells.length := by omega
    refine AW_rg (tyOf_good _) [1, 2, 3, 5, 21] [1, 2, 3, 5] (fun _ _ => trivial) fun K' hK' => ?_
    repeat (refine sxf_next fun K2 hK2 => ?_; simp [dRows, h1, h2]; (repeat (refine ⟨by omega, ?_⟩)); refine hK2 _ ?_; clear hK2 K2)
    refine sxf_nil (hK' _ ?_)
    refine AW.st (by simp [dRows, h1, h2]; rfl) ?_
    clear hK' K'
    refine AW_cond true rfl (fun _ => ?_) (fun h => by cases h)
    refine AW_rdg (tyOf_good _) (by kernel_rfl) [(0, 5), (2, 2), (3, 3)] [2, 3, 4] [1, 2, 3, 5] (fun _ _ => trivial) (by kernel_rfl) fun K' hK' => ?_
    repeat (refine sxg_next fun K2 hK2 => ?_; simp [hF, dNum]; (repeat (refine ⟨by omega, ?_⟩)); refine hK2 _ ?_; clear hK2 K2)
    refine sxg_nil (hK' _ ?_)
    refine AW.st (by simp [hF, dNum]; rfl) ?_
    clear hK' K'
    refine AW_ret ?_
    simp [D.le, D.le.go, takeMap, dTab, dRows, dFault, codeF, placeF, dNum]

set_option maxHeartbeats 2000000 in
theorem tables_bad (G : Glob) (hF : HasFine G) (t : Tab) (h1 : ¬ (510 : Int) < t.next.length) (h2 : ¬ (510 : Int) < t.tells.length) (e : Int × Option Nat) (he : checkF t = some e) : PureC Tryd.prog G 16 [dTab t] (.tup [dTab t, dFault (some e), .v (.bool true)]) := by
  have hne : ¬ codeF (some e) = 0 := by obtain ⟨c, s⟩ := e; exact checkF_code he
  have htc := tcheck_spec G hF t
  rw [he] at htc
  unfold dFault at htc
  refine PureC.of_body (tyOf_good _) Tryd.func16 rfl rfl (rs := [.cell 2 26, .cell 3 29, .tmp 4]) Tryd.results16 (by simp [Tryd.ntmps16]) fun X => ?_
  simp only [Tryd.ntmps16, List.map]
  refine AW_rg (tyOf_good _) [1, 2, 3] [1, 2, 3] (fun _ _ => trivial) fun K' hK' => ?_
  repeat (refine sxf_next fun K2 hK2 => ?_; simp [dTab]; (repeat (refine ⟨by omega, ?_⟩)); refine hK2 _ ?_; clear hK2 K2)
  refine sxf_nil (hK' _ ?_)
  refine AW.st (by simp [dTab]; rfl) ?_
  clear hK' K'
  refine AW_rg (tyOf_good _) [1, 2, 3, 5] [1, 2, 3, 5] (fun _ _ => trivial) fun K' hK' => ?_
  repeat (refine sxf_next fun K2 hK2 => ?_; simp [dRows]; (repeat (refine ⟨by omega, ?_⟩)); refine hK2 _ ?_; clear hK2 K2)
  refine sxf_nil (hK' _ ?_)
  refine AW.st (by simp [dRows]; rfl) ?_
  clear hK' K'
  refine AW_then fun K1 hK1 => ?_
  refine AW_rg (tyOf_good _) [1, 2, 3, 5, 21] [1, 2, 3, 5] (fun _ _ => trivial) fun K' hK' => ?_
  repeat (refine sxf_next fun K2 hK2 => ?_; simp [dRows, h1, h2]; (repeat (refine ⟨by omega, ?_⟩)); refine hK2 _ ?_; clear hK2 K2)
  refine sxf_nil (hK' _ ?_)
  refine AW.st (by simp [dRows, h1, h2]; rfl) ?_
  clear hK' K'
  refine AW_cond false rfl (fun h => by cases h) (fun _ => ?_)
  refine AW_skip (hK1 _ ?_)
  refine AW_rg (tyOf_good _) [1, 2, 3, 5, 6] [1, 2, 3, 5, 6] (fun _ _ => trivial) fun K' hK' => ?_
  repeat (refine sxf_next fun K2 hK2 => ?_; simp [dTab, dRows, dNum]; (repeat (refine ⟨by omega, ?_⟩)); refine hK2 _ ?_; clear hK2 K2)
  refine sxf_next fun K2 hK2 => ?_
  simp [dTab, dRows, dNum]
  refine callK.data (htc) (by simp; rfl) (by first | exact D.leGo_refl _ | simp [takeMap, List.map_map, Function.comp_def, D.le, D.le.go, D.le_refl, D.leGo_refl, dTab, dRows, dNum]) ?_
  refine hK2 _ ?_
  clear hK2 K2
  simp only [putd, upd_lst]
  repeat (refine sxf_next fun K2 hK2 => ?_; simp [dTab, dRows, dNum]; (repeat (refine ⟨by omega, ?_⟩)); refine hK2 _ ?_; clear hK2 K2)
  refine sxf_nil (hK' _ ?_)
  refine AW.st (by simp [dTab, dRows, dNum]; rfl) ?_
  clear hK' K'
  refine AW_rdg (tyOf_good _) (by kernel_rfl) [(0, 5), (1, 6), (3, 6), (7, 1), (12, 1), (13, 999), (14, 999), (19, 2), (20, 3)] [2, 3, 4] [1, 2, 3, 5, 6] (fun _ _ => trivial) (by kernel_rfl) fun K' hK' => ?_
  repeat (refine sxg_next fun K2 hK2 => ?_; simp [hne, dNum]; (repeat (refine ⟨by omega, ?_⟩)); refine hK2 _ ?_; clear hK2 K2)
  refine sxg_nil (hK' _ ?_)
  refine AW.st (by simp [hne, dNum]; rfl) ?_
  clear hK' K'
  refine AW_ret ?_
  simp [D.le, D.le.go, takeMap, dTab, dRows, dFault, codeF, placeF, dNum]

set_option maxHeartbeats 2000000 in
theorem tables_good (G : Glob) (hF : HasFine G) (t : Tab) (ok : Ok t) : PureC Tryd.prog G 16 [dTab t] (.tup [dTab t, dFault none, .v (.bool (decide ((t.next.length : Int) ≤ 30) && decide ((wd t : Int) ≤ 8)))]) := by
  have he : checkF t = none := ok_iff.2 ok
  have htc := tcheck_spec G hF t
  rw [he] at htc
  unfold dFault at htc
  have hmost : t.next.length ≤ 500 := ok.most
  have hpos : 0 < t.next.length := ok.pos
  have htl : t.tells.length = t.next.length := ok.tells
  have h1 : ¬ (510 : Int) < t.next.length := by omega
  have hw := wd_at ok hpos
  refine PureC.of_body (tyOf_good _) Tryd.func16 rfl rfl (rs := [.cell 2 26, .cell 3 29, .tmp 4]) Tryd.results16 (by simp [Tryd.ntmps16]) fun X => ?_
  simp only [Tryd.ntmps16, List.map]
  refine AW_rg (tyOf_good _) [1, 2, 3] [1, 2, 3] (fun _ _ => trivial) fun K' hK' => ?_
  repeat (refine sxf_next fun K2 hK2 => ?_; simp [dTab]; (repeat (refine ⟨by omega, ?_⟩)); refine hK2 _ ?_; clear hK2 K2)
  refine sxf_nil (hK' _ ?_)
  refine AW.st (by simp [dTab]; rfl) ?_
  clear hK' K'
  refine AW_rg (tyOf_good _) [1, 2, 3, 5] [1, 2, 3, 5] (fun _ _ => trivial) fun K' hK' => ?_
  repeat (refine sxf_next fun K2 hK2 => ?_; simp [dRows]; (repeat (refine ⟨by omega, ?_⟩)); refine hK2 _ ?_; clear hK2 K2)
  refine sxf_nil (hK' _ ?_)
  refine AW.st (by simp [dRows]; rfl) ?_
  clear hK' K'
  refine AW_then fun K1 hK1 => ?_
  refine AW_rg (tyOf_good _) [1, 2, 3, 5, 21] [1, 2, 3, 5] (fun _ _ => trivial) fun K' hK' => ?_
  repeat (refine sxf_next fun K2 hK2 => ?_; simp [dRows, h1, htl]; (repeat (refine ⟨by omega, ?_⟩)); refine hK2 _ ?_; clear hK2 K2)
  refine sxf_nil (hK' _ ?_)
  refine AW.st (by simp [dRows, h1, htl]; rfl) ?_
  clear hK' K'
  refine AW_cond false rfl (fun h => by cases h) (fun _ => ?_)
  refine AW_skip (hK1 _ ?_)
  refine AW_rg (tyOf_good _) [1, 2, 3, 5, 6] [1, 2, 3, 5, 6] (fun _ _ => trivial) fun K' hK' => ?_
  repeat (refine sxf_next fun K2 hK2 => ?_; simp [dTab, dRows, dNum]; (repeat (refine ⟨by omega, ?_⟩)); refine hK2 _ ?_; clear hK2 K2)
  refine sxf_next fun K2 hK2 => ?_
  simp [dTab, dRows, dNum]
  refine callK.data (htc) (by simp; rfl) (by first | exact D.leGo_refl _ | simp [takeMap, List.map_map, Function.comp_def, D.le, D.le.go, D.le_refl, D.leGo_refl, dTab, dRows, dNum]) ?_
  refine hK2 _ ?_
  clear hK2 K2
  simp only [putd, upd_lst]
  repeat (refine sxf_next fun K2 hK2 => ?_; simp [dTab, dRows, dNum]; (repeat (refine ⟨by omega, ?_⟩)); refine hK2 _ ?_; clear hK2 K2)
  refine sxf_nil (hK' _ ?_)
  refine AW.st (by simp [dTab, dRows, dNum]; rfl) ?_
  clear hK' K'
  by_cases h3 : (t.next.length : Int) ≤ 30
  · refine AW_rdg (tyOf_good _) (by kernel_rfl) [(0, 5), (1, 6), (3, 6), (7, 1), (12, 1), (13, 999), (14, 999), (19, 2), (20, 3)] [2, 3, 4] [1, 2, 3, 5, 6] (fun _ _ => trivial) (by kernel_rfl) fun K' hK' => ?_
    repeat (refine sxg_next fun K2 hK2 => ?_; simp [dNum, codeF, h3, hpos, hw, dRows, dRow, dInts]; (repeat (refine ⟨by omega, ?_⟩)); refine hK2 _ ?_; clear hK2 K2)
    refine sxg_nil (hK' _ ?_)
    refine AW.st (by simp [dNum, codeF, h3, hpos, hw, dRows, dRow, dInts]; rfl) ?_
    clear hK' K'
    refine AW_ret ?_
    simp [D.le, D.le.go, takeMap, dTab, dRows, dRow, dInts, dFault, codeF, placeF, dNum, h3]
  · refine AW_rdg (tyOf_good _) (by kernel_rfl) [(0, 5), (1, 6), (3, 6), (7, 1), (12, 1), (13, 999), (14, 999), (19, 2), (20, 3)] [2, 3, 4] [1, 2, 3, 5, 6] (fun _ _ => trivial) (by kernel_rfl) fun K' hK' => ?_
    repeat (refine sxg_next fun K2 hK2 => ?_; simp [dNum, codeF, h3, dRows, dRow, dInts]; (repeat (refine ⟨by omega, ?_⟩)); refine hK2 _ ?_; clear hK2 K2)
    refine sxg_nil (hK' _ ?_)
    refine AW.st (by simp [dNum, codeF, h3, dRows, dRow, dInts]; rfl) ?_
    clear hK' K'
    refine AW_ret ?_
    simp [D.le, D.le.go, takeMap, dTab, dRows, dRow, dInts, dFault, codeF, placeF, dNum, h3]
#print axioms tables_good
end Go.Proofs.YtoikggboakojlaaDoor

/-
  The least inputs by which two states are told apart: the walk.
-/
namespace Go.Proofs.YtoikggboakojlaaDoor
set_option linter.unusedSimpArgs false
set_option linter.unusedVariables false
open Go.Av

set_option maxHeartbeats 1000000 in
theorem part_none (G : Glob) (t : Tab) (ok : Ok t) (k : Nat) (hk : k < 2^20) (hs : Stops t k) (a b : Nat) (ha : a < t.next.length) (hb : b < t.next.length)
    (hd : idx (apartF a b) (rndF t k) < 0) : PureC Tryd.prog G 25 [dTab t, dNum a, dNum b] (.tup [.sl (some false) [], dErr (some (8, none))]) := by
  have hch : checkF t = none := ok_iff.2 ok
  have hna : ¬ (a : Int) < 0 := by omega
  have hnb : ¬ (b : Int) < 0 := by omega
  have hna2 : ¬ (t.next.length : Int) ≤ a := by omega
  have hnb2 : ¬ (t.next.length : Int) ≤ b := by omega
  have hlen : ∀ x ∈ rndF t k, a < x.length ∧ b < x.length := by
    intro x hx
    have := rndF_mem hx
    unfold Tab.n at this
    omega
  have hrounds : PureC Tryd.prog G 58 [dTab t] (dRows (rndF t k)) := rounds_spec G t ok k hk hs
  have hrl := rndF_len t k
  have hrg := rndF_get t k
  have hfun : PureC Tryd.prog G 64 [dRows (rndF t k), .fn (.func 65) [.ip [dNum a], .ip [dNum b]]] (.v (.int .i64 (idx (apartF a b) (rndF t k)))) :=
    indexInts_spec G none dRow (rndF t k) 65 [.ip [dNum a], .ip [dNum b]] (apartF a b) (by omega) (fun x hx => by have h1 := part1_spec G x a b (hlen x hx).1 (hlen x hx).2; simpa [apartF, List.getD_eq_getElem?_getD, (hlen x hx).1, (hlen x hx).2] using h1)
  refine PureC.of_body (tyOf_good _) Tryd.func25 rfl rfl (rs := [.tmp 6, .tmp 7]) Tryd.results25 (by simp [Tryd.ntmps25]) fun X => ?_
  simp only [Tryd.ntmps25, List.map]
  refine AW_rg (tyOf_good _) [3, 4, 5] [3, 4, 5] (fun _ _ => trivial) fun K' hK' => ?_
  repeat (refine sxf_next fun K2 hK2 => ?_; simp [dTab, dNum]; (repeat (refine ⟨by omega, ?_⟩)); refine hK2 _ ?_; clear hK2 K2)
  refine sxf_nil (hK' _ ?_)
  refine AW.st (by simp [dTab, dNum]; rfl) ?_
  clear hK' K'
  refine AW_then fun K1 hK1 => ?_
  refine AW_rg (tyOf_good _) [3, 4, 5, 8] [3, 4, 5] (fun _ _ => trivial) fun K' hK' => ?_
  repeat (refine sxf_next fun K2 hK2 => ?_; simp; (repeat (refine ⟨by omega, ?_⟩)); refine hK2 _ ?_; clear hK2 K2)
  refine sxf_next fun K2 hK2 => ?_
  simp
  refine callK.data (check_spec G t) (by simp; rfl) (by first | exact D.leGo_refl _ | simp [takeMap, List.map_map, Function.comp_def, D.le, D.le.go, D.le_refl, D.leGo_refl]) ?_
  refine hK2 _ ?_
  clear hK2 K2
  simp only [putd, upd_lst]
  repeat (refine sxf_next fun K2 hK2 => ?_; simp; (repeat (refine ⟨by omega, ?_⟩)); refine hK2 _ ?_; clear hK2 K2)
  refine sxf_nil (hK' _ ?_)
  refine AW.st (by simp; rfl) ?_
  clear hK' K'
  rw [hch]
  refine AW_rg (tyOf_good _) [3, 4, 5, 8, 18] [3, 4, 5] (fun _ _ => trivial) fun K' hK' => ?_
  repeat (refine sxf_next fun K2 hK2 => ?_; simp [dErr]; (repeat (refine ⟨by omega, ?_⟩)); refine hK2 _ ?_; clear hK2 K2)
  refine sxf_nil (hK' _ ?_)
  refine AW.st (by simp [dErr]; rfl) ?_
  clear hK' K'
  refine AW_cond false rfl (fun h => by cases h) (fun _ => ?_)
  refine AW_skip (hK1 _ ?_)
  refine AW_then fun K2 hK2 => ?_
  refine AW_rg (tyOf_good _) [3, 4, 5, 39] [3, 4, 5] (fun _ _ => trivial) fun K' hK' => ?_
  repeat (refine sxf_next fun K2 hK2 => ?_; simp [dRows, Nat.not_le.2 ha, Nat.not_le.2 hb, hna, hnb, hna2, hnb2]; (repeat (refine ⟨by omega, ?_⟩)); refine hK2 _ ?_; clear hK2 K2)
  refine sxf_nil (hK' _ ?_)
  refine AW.st (by simp [dRows, Nat.not_le.2 ha, Nat.not_le.2 hb, hna, hnb, hna2, hnb2]; rfl) ?_
  clear hK' K'
  refine AW_cond false rfl (fun h => by cases h) (fun _ => ?_)
  refine AW_skip (hK2 _ ?_)
  refine AW_rg (tyOf_good _) [3, 4, 5, 9] [3, 4, 5] (fun _ _ => trivial) fun K' hK' => ?_
  repeat (refine sxf_next fun K2 hK2 => ?_; simp; (repeat (refine ⟨by omega, ?_⟩)); refine hK2 _ ?_; clear hK2 K2)
  refine sxf_next fun K2 hK2 => ?_
  simp
  refine callK.data (hrounds) (by simp; rfl) (by first | exact D.leGo_refl _ | simp [takeMap, List.map_map, Function.comp_def, D.le, D.le.go, D.le_refl, D.leGo_refl]) ?_
  refine hK2 _ ?_
  clear hK2 K2
  simp only [putd, upd_lst]
  repeat (refine sxf_next fun K2 hK2 => ?_; simp; (repeat (refine ⟨by omega, ?_⟩)); refine hK2 _ ?_; clear hK2 K2)
  refine sxf_nil (hK' _ ?_)
  refine AW.st (by simp; rfl) ?_
  clear hK' K'
  refine AW_rg (tyOf_good _) [3, 4, 5, 9, 10] [3, 4, 5] (fun _ _ => trivial) fun K' hK' => ?_
  repeat (refine sxf_next fun K2 hK2 => ?_; simp [dRows, dNum]; (repeat (refine ⟨by omega, ?_⟩)); refine hK2 _ ?_; clear hK2 K2)
  refine sxf_next fun K2 hK2 => ?_
  simp [dRows, dNum]
  refine callK.lend (hfun) (by simp; rfl) (by first | exact D.leGo_refl _ | simp [takeMap, List.map_map, Function.comp_def, D.le, D.le.go, D.le_refl, D.leGo_refl, dRows, dNum]) (by simp [D.scalar]) ?_
  refine hK2 _ ?_
  clear hK2 K2
  simp only [putd, upd_lst]
  repeat (refine sxf_next fun K2 hK2 => ?_; simp [dRows, dNum]; (repeat (refine ⟨by omega, ?_⟩)); refine hK2 _ ?_; clear hK2 K2)
  refine sxf_nil (hK' _ ?_)
  refine AW.st (by simp [dRows, dNum]; rfl) ?_
  clear hK' K'
  refine AW_then fun K3 hK3 => ?_
  refine AW_rg (tyOf_good _) [3, 4, 5, 9, 10, 47] [3, 4, 5] (fun _ _ => trivial) fun K' hK' => ?_
  repeat (refine sxf_next fun K2 hK2 => ?_; simp [hd]; (repeat (refine ⟨by omega, ?_⟩)); refine hK2 _ ?_; clear hK2 K2)
  refine sxf_nil (hK' _ ?_)
  refine AW.st (by simp [hd]; rfl) ?_
  clear hK' K'
  refine AW_cond true rfl (fun _ => ?_) (fun h => by cases h)
  refine AW_rg (tyOf_good _) [6, 7] [3, 4, 5] (fun _ _ => trivial) fun K' hK' => ?_
  repeat (refine sxf_next fun K2 hK2 => ?_; simp; (repeat (refine ⟨by omega, ?_⟩)); refine hK2 _ ?_; clear hK2 K2)
  refine sxf_nil (hK' _ ?_)
  refine AW.st (by simp; rfl) ?_
  clear hK' K'
  refine AW_ret ?_
  simp [D.le, D.le.go, takeMap, dErr]

set_option maxHeartbeats 4000000 in
theorem part_good (G : Glob) (t : Tab) (ok : Ok t) (k : Nat) (hk : k < 2^20) (hs : Stops t k) (a b : Nat) (ha : a < t.next.length) (hb : b < t.next.length) (d : Nat) (hdk : d ≤ k)
    (hd : idx (apartF a b) (rndF t k) = (d : Int)) : PureC Tryd.prog G 25 [dTab t, dNum a, dNum b] (.tup [dRow (partF t d a b), .v .nilIface]) := by
  have hch : checkF t = none := ok_iff.2 ok
  have hna : ¬ (a : Int) < 0 := by omega
  have hnb : ¬ (b : Int) < 0 := by omega
  have hna2 : ¬ (t.next.length : Int) ≤ a := by omega
  have hnb2 : ¬ (t.next.length : Int) ≤ b := by omega
  have hlen : ∀ x ∈ rndF t k, a < x.length ∧ b < x.length := by
    intro x hx
    have := rndF_mem hx
    unfold Tab.n at this
    omega
  have hrounds : PureC Tryd.prog G 58 [dTab t] (dRows (rndF t k)) := rounds_spec G t ok k hk hs
  have hrl := rndF_len t k
  have hrg := rndF_get t k
  have hfun : PureC Tryd.prog G 64 [dRows (rndF t k), .fn (.func 65) [.ip [dNum a], .ip [dNum b]]] (.v (.int .i64 (idx (apartF a b) (rndF t k)))) :=
    indexInts_spec G none dRow (rndF t k) 65 [.ip [dNum a], .ip [dNum b]] (apartF a b) (by omega) (fun x hx => by have h1 := part1_spec G x a b (hlen x hx).1 (hlen x hx).2; simpa [apartF, List.getD_eq_getElem?_getD, (hlen x hx).1, (hlen x hx).2] using h1)
  refine PureC.of_body (tyOf_good _) Tryd.func25 rfl rfl (rs := [.tmp 6, .tmp 7]) Tryd.results25 (by simp [Tryd.ntmps25]) fun X => ?_
  simp only [Tryd.ntmps25, List.map]
  refine AW_rg (tyOf_good _) [3, 4, 5] [3, 4, 5] (fun _ _ => trivial) fun K' hK' => ?_
  repeat (refine sxf_next fun K2 hK2 => ?_; simp [dTab, dNum]; (repeat (refine ⟨by omega, ?_⟩)); refine hK2 _ ?_; clear hK2 K2)
  refine sxf_nil (hK' _ ?_)
  refine AW.st (by simp [dTab, dNum]; rfl) ?_
  clear hK' K'
  refine AW_then fun K1 hK1 => ?_
  refine AW_rg (tyOf_good _) [3, 4, 5, 8] [3, 4, 5] (fun _ _ => trivial) fun K' hK' => ?_
  repeat (refine sxf_next fun K2 hK2 => ?_; simp; (repeat (refine ⟨by omega, ?_⟩)); refine hK2 _ ?_; clear hK2 K2)
  refine sxf_next fun K2 hK2 => ?_
  simp
  refine callK.data (check_spec G t) (by simp; rfl) (by first | exact D.leGo_refl _ | simp [takeMap, List.map_map, Function.comp_def, D.le, D.le.go, D.le_refl, D.leGo_refl]) ?_
  refine hK2 _ ?_
  clear hK2 K2
  simp only [putd, upd_lst]
  repeat (refine sxf_next fun K2 hK2 => ?_; simp; (repeat (refine ⟨by omega, ?_⟩)); refine hK2 _ ?_; clear hK2 K2)
  refine sxf_nil (hK' _ ?_)
  refine AW.st (by simp; rfl) ?_
  clear hK' K'
  rw [hch]
  refine AW_rg (tyOf_good _) [3, 4, 5, 8, 18] [3, 4, 5] (fun _ _ => trivial) fun K' hK' => ?_
  repeat (refine sxf_next fun K2 hK2 => ?_; simp [dErr]; (repeat (refine ⟨by omega, ?_⟩)); refine hK2 _ ?_; clear hK2 K2)
  refine sxf_nil (hK' _ ?_)
  refine AW.st (by simp [dErr]; rfl) ?_
  clear hK' K'
  refine AW_cond false rfl (fun h => by cases h) (fun _ => ?_)
  refine AW_skip (hK1 _ ?_)
  refine AW_then fun K2 hK2 => ?_
  refine AW_rg (tyOf_good _) [3, 4, 5, 39] [3, 4, 5] (fun _ _ => trivial) fun K' hK' => ?_
  repeat (refine sxf_next fun K2 hK2 => ?_; simp [dRows, Nat.not_le.2 ha, Nat.not_le.2 hb, hna, hnb, hna2, hnb2]; (repeat (refine ⟨by omega, ?_⟩)); refine hK2 _ ?_; clear hK2 K2)
  refine sxf_nil (hK' _ ?_)
  refine AW.st (by simp [dRows, Nat.not_le.2 ha, Nat.not_le.2 hb, hna, hnb, hna2, hnb2]; rfl) ?_
  clear hK' K'
  refine AW_cond false rfl (fun h => by cases h) (fun _ => ?_)
  refine AW_skip (hK2 _ ?_)
  refine AW_rg (tyOf_good _) [3, 4, 5, 9] [3, 4, 5] (fun _ _ => trivial) fun K' hK' => ?_
  repeat (refine sxf_next fun K2 hK2 => ?_; simp; (repeat (refine ⟨by omega, ?_⟩)); refine hK2 _ ?_; clear hK2 K2)
  refine sxf_next fun K2 hK2 => ?_
  simp
  refine callK.data (hrounds) (by simp; rfl) (by first | exact D.leGo_refl _ | simp [takeMap, List.map_map, Function.comp_def, D.le, D.le.go, D.le_refl, D.leGo_refl]) ?_
  refine hK2 _ ?_
  clear hK2 K2
  simp only [putd, upd_lst]
  repeat (refine sxf_next fun K2 hK2 => ?_; simp; (repeat (refine ⟨by omega, ?_⟩)); refine hK2 _ ?_; clear hK2 K2)
  refine sxf_nil (hK' _ ?_)
  refine AW.st (by simp; rfl) ?_
  clear hK' K'
  refine AW_rg (tyOf_good _) [3, 4, 5, 9, 10] [3, 4, 5] (fun _ _ => trivial) fun K' hK' => ?_
  repeat (refine sxf_next fun K2 hK2 => ?_; simp [dRows, dNum]; (repeat (refine ⟨by omega, ?_⟩)); refine hK2 _ ?_; clear hK2 K2)
  refine sxf_next fun K2 hK2 => ?_
  simp [dRows, dNum]
  refine callK.lend (hfun) (by simp; rfl) (by first | exact D.leGo_refl _ | simp [takeMap, List.map_map, Function.comp_def, D.le, D.le.go, D.le_refl, D.leGo_refl, dRows, dNum]) (by simp [D.scalar]) ?_
  refine hK2 _ ?_
  clear hK2 K2
  simp only [putd, upd_lst]
  repeat (refine sxf_next fun K2 hK2 => ?_; simp [dRows, dNum]; (repeat (refine ⟨by omega, ?_⟩)); refine hK2 _ ?_; clear hK2 K2)
  refine sxf_nil (hK' _ ?_)
  refine AW.st (by simp [dRows, dNum]; rfl) ?_
  clear hK' K'
  refine AW_then fun K3 hK3 => ?_
  rw [hd]
  refine AW_rg (tyOf_good _) [3, 4, 5, 9, 10, 47] [3, 4, 5] (fun _ _ => trivial) fun K' hK' => ?_
  repeat (refine sxf_next fun K2 hK2 => ?_; simp; (repeat (refine ⟨by omega, ?_⟩)); refine hK2 _ ?_; clear hK2 K2)
  refine sxf_nil (hK' _ ?_)
  refine AW.st (by simp; rfl) ?_
  clear hK' K'
  refine AW_cond false rfl (fun h => by cases h) (fun _ => ?_)
  refine AW_skip (hK3 _ ?_)
  refine AW_rg (tyOf_good _) [3, 4, 5, 9, 10, 11] [3, 4, 5] (fun _ _ => trivial) fun K' hK' => ?_
  repeat (refine sxf_next fun K2 hK2 => ?_; simp; (repeat (refine ⟨by omega, ?_⟩)); refine hK2 _ ?_; clear hK2 K2)
  refine sxf_nil (hK' _ ?_)
  refine AW.st (by simp; rfl) ?_
  clear hK' K'
  refine AW_then fun K4 hK4 => ?_
  refine AW_for (S := Nat × Nat × Nat × List Int) (fun s => s.1 ≤ d ∧ s.2.1 < t.next.length ∧ s.2.2.1 < t.next.length ∧ s.2.2.2 ++ partF t s.1 s.2.1 s.2.2.1 = partF t d a b ∧ s.2.2.2.length + s.1 ≤ d)
    (fun s => ⟨lst [(3, .ref 3 0 0), (4, .ref 4 0 0), (5, .ref 5 0 0), (9, .d (dRows (rndF t k))), (10, int s.1), (11, .own 80 0 s.2.2.2.length)],
      hlst [(3, boxT t), (4, .box 3 [int s.2.1]), (5, .box 3 [int s.2.2.1]), (80, rowI s.2.2.2)]⟩) (fun s => s.1) (d, a, b, []) ?_ (by simp; omega) ?_
  · refine (Imp.adopt 11 80 3 1 rfl rfl).trans ?_
    refine Imp.to' (fun _ _ => trivial) (by simp [boxT, rowI, dRows, dRow, dInts, Function.comp_def]) (by simp [boxT, rowI, dRows, dRow, dInts, Function.comp_def])
  · rintro ⟨m, a1, b1, out⟩ ⟨hm, ha1, hb1, hout, hol⟩
    dsimp only at hm ha1 hb1 hout hol ⊢
    refine AW_then fun K5 hK5 => ?_
    cases m with
    | zero =>
      refine AW_rg (tyOf_good _) [3, 4, 5, 9, 10, 11, 50] [3, 4, 5, 80] (fun _ _ => trivial) fun K' hK' => ?_
      repeat (refine sxf_next fun K2 hK2 => ?_; simp; (repeat (refine ⟨by omega, ?_⟩)); refine hK2 _ ?_; clear hK2 K2)
      refine sxf_nil (hK' _ ?_)
      refine AW.st (by simp; rfl) ?_
      clear hK' K'
      refine AW_cond false rfl (fun h => by cases h) (fun _ => ?_)
      refine AW_exit (hK4 _ ?_)
      simp only [partF, List.append_nil] at hout
      subst hout
      refine AW_rg (tyOf_good _) [6, 7] [80] (fun _ _ => trivial) fun K' hK' => ?_
      repeat (refine sxf_next fun K2 hK2 => ?_; simp; (repeat (refine ⟨by omega, ?_⟩)); refine hK2 _ ?_; clear hK2 K2)
      refine sxf_nil (hK' _ ?_)
      refine AW.st (by simp; rfl) ?_
      clear hK' K'
      refine AW_ret ?_
      simp [D.le, D.le.go, takeMap, rowI, dRow, dInts, dNum, D.le_refl]
    | succ q =>
      refine AW_rg (tyOf_good _) [3, 4, 5, 9, 10, 11, 50] [3, 4, 5, 80] (fun _ _ => trivial) fun K' hK' => ?_
      repeat (refine sxf_next fun K2 hK2 => ?_; simp; (repeat (refine ⟨by omega, ?_⟩)); refine hK2 _ ?_; clear hK2 K2)
      refine sxf_nil (hK' _ ?_)
      refine AW.st (by simp; rfl) ?_
      clear hK' K'
      refine AW_cond true rfl (fun _ => ?_) (fun h => by cases h)
      refine AW_skip (hK5 _ ?_)
      refine AW_then fun K6 hK6 => ?_
      refine AW_block ?_
      have hw64 : wd t ≤ 64 := ok.ins
      have hwa : t.next[a1].length = wd t := by have h1 := ok.nextLen a1 ha1; rw [List.getD_eq_getElem?_getD, List.getElem?_eq_getElem ha1] at h1; exact h1
      have hwb : t.next[b1].length = wd t := by have h1 := ok.nextLen b1 hb1; rw [List.getD_eq_getElem?_getD, List.getElem?_eq_getElem hb1] at h1; exact h1
      refine AW_rg (tyOf_good _) [3, 4, 5, 9, 10, 11, 58, 59] [3, 4, 5, 80] (fun _ _ => trivial) fun K' hK' => ?_
      repeat (refine sxf_next fun K2 hK2 => ?_; simp [boxT, dRows, dRow, dInts, ha1, hb1, hwa]; (repeat (refine ⟨by omega, ?_⟩)); refine hK2 _ ?_; clear hK2 K2)
      refine sxf_nil (hK' _ ?_)
      refine AW.st (by simp [boxT, dRows, dRow, dInts, ha1, hb1, hwa]; rfl) ?_
      clear hK' K'
      refine AW_for (S := Nat) (fun i => i ≤ wd t ∧ ∀ j, j < i → hitF t (q + 1) a1 b1 j = false)
        (fun i => ⟨lst [(3, .ref 3 0 0), (4, .ref 4 0 0), (5, .ref 5 0 0), (9, .d (dRows (rndF t k))), (10, int (q + 1)), (11, .own 80 0 out.length), (58, int (wd t)), (59, int i)],
          hlst [(3, boxT t), (4, .box 3 [int a1]), (5, .box 3 [int b1]), (80, rowI out)]⟩) (fun i => wd t - i) 0 ?_ (by simp) ?_
      · refine Imp.to' (fun _ _ => trivial) (by simp [boxT, rowI, dRows, dRow, dInts, Function.comp_def]) (by simp [boxT, rowI, dRows, dRow, dInts, Function.comp_def])
      · rintro i ⟨hi, hmiss⟩
        refine AW_rg (tyOf_good _) [3, 4, 5, 9, 10, 11, 58, 59, 60] [3, 4, 5, 80] (fun _ _ => trivial) fun K' hK' => ?_
        repeat (refine sxf_next fun K2 hK2 => ?_; simp [rowI, boxT]; (repeat (refine ⟨by omega, ?_⟩)); refine hK2 _ ?_; clear hK2 K2)
        refine sxf_nil (hK' _ ?_)
        refine AW.st (by simp [rowI, boxT]; rfl) ?_
        clear hK' K'
        refine AW_then fun K7 hK7 => ?_
        refine AW_cond' (b := i < wd t) (by simp [D.le, D.le.go, takeMap]) (fun hc => ?_) (fun hc => ?_)
        · have hiw : i < wd t := hc
          refine AW_skip (hK7 _ ?_)
          refine AW_then fun K8 hK8 => ?_
          refine AW_block ?_
          refine AW_rg (tyOf_good _) [3, 4, 5, 9, 10, 11, 12, 58, 59] [3, 4, 5, 80] (fun _ _ => trivial) fun K' hK' => ?_
          repeat (refine sxf_next fun K2 hK2 => ?_; simp; (repeat (refine ⟨by omega, ?_⟩)); refine hK2 _ ?_; clear hK2 K2)
          refine sxf_nil (hK' _ ?_)
          refine AW.st (by simp; rfl) ?_
          clear hK' K'
          have hia : i < t.next[a1].length := by omega
          have hib : i < t.next[b1].length := by omega
          refine AW_rd (tyOf_good _) (by kernel_rfl) [3, 4, 5, 9, 10, 11, 12, 13, 14, 58, 59] [3, 4, 5, 80] (fun _ _ => trivial) (by kernel_rfl) fun K' hK' => ?_
          repeat (refine sxd_next fun K2 hK2 => ?_; simp [dRows, dRow, dInts, ha1, hb1, hia, hib]; (repeat (refine ⟨by omega, ?_⟩)); refine hK2 _ ?_; clear hK2 K2)
          refine sxd_nil (hK' _ ?_)
          refine AW.st (by simp [dRows, dRow, dInts, ha1, hb1, hia, hib]; rfl) ?_
          clear hK' K'
          have hxa := ok.there a1 ha1
          have hxb := ok.there b1 hb1
          have htl := ok.tells
          have htla := ok.tellsLen a1 ha1
          have htlb := ok.tellsLen b1 hb1
          have hta : a1 < t.tells.length := by unfold Tab.n at htl; omega
          have htb : b1 < t.tells.length := by unfold Tab.n at htl; omega
          rw [List.getD_eq_getElem?_getD, List.getElem?_eq_getElem ha1] at hxa
          rw [List.getD_eq_getElem?_getD, List.getElem?_eq_getElem hb1] at hxb
          rw [List.getD_eq_getElem?_getD, List.getElem?_eq_getElem hta] at htla
          rw [List.getD_eq_getElem?_getD, List.getElem?_eq_getElem htb] at htlb
          dsimp only [Option.getD_some] at hxa hxb htla htlb
          have hia2 : i < t.tells[a1].length := by rw [htla]; exact hiw
          have hib2 : i < t.tells[b1].length := by rw [htlb]; exact hiw
          obtain ⟨hx0, hx1⟩ := hxa t.next[a1][i] (by simp)
          obtain ⟨hy0, hy1⟩ := hxb t.next[b1][i] (by simp)
          have hln : (iter t q).length = t.n := iter_len t q
          have hx2 : t.next[a1][i] < ((iter t q).length : Int) := by omega
          have hy2 : t.next[b1][i] < ((iter t q).length : Int) := by omega
          have hx3 : t.next[a1][i].toNat < (iter t q).length := by omega
          have hy3 : t.next[b1][i].toNat < (iter t q).length := by omega
          have hnxa : nx t a1 i = t.next[a1][i].toNat := by simp [nx, List.getD_eq_getElem?_getD, ha1, hia]
          have hnxb : nx t b1 i = t.next[b1][i].toNat := by simp [nx, List.getD_eq_getElem?_getD, hb1, hib]
          have hxz : ((t.next[a1][i].toNat : Nat) : Int) = t.next[a1][i] := by omega
          have hyz : ((t.next[b1][i].toNat : Nat) : Int) = t.next[b1][i] := by omega
          have htea : te t a1 i = t.tells[a1][i] := by simp [te, List.getD_eq_getElem?_getD, hta, hia2]
          have hteb : te t b1 i = t.tells[b1][i] := by simp [te, List.getD_eq_getElem?_getD, htb, hib2]
          have hqk : q < k + 1 := by omega
          by_cases hq0 : q = 0
          · subst hq0
            have hhit : hitF t (0 + 1) a1 b1 i = (t.tells[a1][i] != t.tells[b1][i]) := by simp [hitF, htea, hteb]
            by_cases ht : t.tells[a1][i] = t.tells[b1][i]
            · have hfal : hitF t (0 + 1) a1 b1 i = false := by rw [hhit]; simp [ht]
              refine AW_rd (tyOf_good _) (by kernel_rfl) [3, 4, 5, 9, 10, 11, 12, 13, 14, 58, 59, 121] [3, 4, 5, 80] (fun _ _ => trivial) (by kernel_rfl) fun K' hK' => ?_
              repeat (refine sxd_next fun K2 hK2 => ?_; simp [ht, dRows, dRow, dInts, hta, htb, hia2, hib2]; (repeat (refine ⟨by omega, ?_⟩)); refine hK2 _ ?_; clear hK2 K2)
              refine sxd_nil (hK' _ ?_)
              refine AW.st (by simp [ht, dRows, dRow, dInts, hta, htb, hia2, hib2]; rfl) ?_
              clear hK' K'
              refine AW_cond false rfl (fun h => by cases h) (fun _ => ?_)
              refine AW_skip (hK8 _ ?_)
              refine AW_re (tyOf_good _) fun K' hK' => ?_
              repeat (refine sxf_next fun K2 hK2 => ?_; simp; (repeat (refine ⟨by omega, ?_⟩)); refine hK2 _ ?_; clear hK2 K2)
              refine sxf_nil (hK' _ ?_)
              clear hK' K'
              try simp only [thn, inb]
              refine Again.mk (i + 1) ⟨by omega, fun j hj => ?_⟩ (by omega) ?_
              · rcases Nat.lt_or_ge j i with h | h
                · exact hmiss j h
                · rw [show j = i by omega]; exact hfal
              refine Imp.to' (fun _ _ => trivial) (by simp [boxT, rowI, dRows, dRow, dInts, Function.comp_def]) (by simp [boxT, rowI, dRows, dRow, dInts, Function.comp_def])
            · have htru : hitF t (0 + 1) a1 b1 i = true := by rw [hhit]; simp [ht]
              refine AW_rd (tyOf_good _) (by kernel_rfl) [3, 4, 5, 9, 10, 11, 12, 13, 14, 58, 59, 121] [3, 4, 5, 80] (fun _ _ => trivial) (by kernel_rfl) fun K' hK' => ?_
              repeat (refine sxd_next fun K2 hK2 => ?_; simp [ht, dRows, dRow, dInts, hta, htb, hia2, hib2]; (repeat (refine ⟨by omega, ?_⟩)); refine hK2 _ ?_; clear hK2 K2)
              refine sxd_nil (hK' _ ?_)
              refine AW.st (by simp [ht, dRows, dRow, dInts, hta, htb, hia2, hib2]; rfl) ?_
              clear hK' K'
              refine AW_cond true rfl (fun _ => ?_) (fun h => by cases h)
              refine AW_rg (tyOf_good _) [3, 4, 5, 9, 10, 11, 13, 14] [3, 4, 5, 80] (fun _ _ => trivial) fun K' hK' => ?_
              repeat (refine sxf_next fun K2 hK2 => ?_; simp [rowI]; (repeat (refine ⟨by omega, ?_⟩)); refine hK2 _ ?_; clear hK2 K2)
              refine sxf_nil (hK' _ ?_)
              refine AW.st (by simp [rowI]; rfl) ?_
              clear hK' K'
              refine AW_rg (tyOf_good _) [3, 4, 5, 9, 10, 11] [3, 4, 5, 80] (fun _ _ => trivial) fun K' hK' => ?_
              repeat (refine sxf_next fun K2 hK2 => ?_; simp [rowI]; (repeat (refine ⟨by omega, ?_⟩)); refine hK2 _ ?_; clear hK2 K2)
              refine sxf_nil (hK' _ ?_)
              refine AW.st (by simp [rowI]; rfl) ?_
              clear hK' K'
              refine AW_exit (hK6 _ ?_)
              refine AW_re (tyOf_good _) fun K' hK' => ?_
              repeat (refine sxf_next fun K2 hK2 => ?_; simp; (repeat (refine ⟨by omega, ?_⟩)); refine hK2 _ ?_; clear hK2 K2)
              refine sxf_nil (hK' _ ?_)
              clear hK' K'
              try simp only [thn, inb]
              refine Again.mk (0, nx t a1 i, nx t b1 i, out ++ [(i : Int)]) ⟨by omega, by have := ok.nx_lt ha1 hiw; exact this, by have := ok.nx_lt hb1 hiw; exact this, ?_, by simp; omega⟩ (by simp) ?_
              · have hstep : partF t (0 + 1) a1 b1 = (i : Int) :: partF t 0 (nx t a1 i) (nx t b1 i) := partF_hit hiw htru hmiss
                rw [← hout, hstep]
                simp
              refine Imp.to' (fun _ _ => trivial) (by simp [boxT, rowI, dRows, dRow, dInts, dNum, Function.comp_def, hnxa, hnxb, hxz, hyz, takeMap]) (by simp [boxT, rowI, dRows, dRow, dInts, dNum, Function.comp_def, hnxa, hnxb, hxz, hyz, takeMap])
          · have hq1 : 0 < q := by omega
            have hqe : ¬ ((q : Int) + 1 = 1) := by omega
            have hqg : (1 : Int) < (q : Int) + 1 := by omega
            have hhit : hitF t (q + 1) a1 b1 i = ((iter t q)[t.next[a1][i].toNat] != (iter t q)[t.next[b1][i].toNat]) := by simp [hitF, hq0, hnxa, hnxb, List.getD_eq_getElem?_getD, hx3, hy3]
            by_cases ht : (iter t q)[t.next[a1][i].toNat] = (iter t q)[t.next[b1][i].toNat]
            · have hfal : hitF t (q + 1) a1 b1 i = false := by rw [hhit]; simp [ht]
              refine AW_rd (tyOf_good _) (by kernel_rfl) [3, 4, 5, 9, 10, 11, 12, 13, 14, 58, 59, 121] [3, 4, 5, 80] (fun _ _ => trivial) (by kernel_rfl) fun K' hK' => ?_
              repeat (refine sxd_next fun K2 hK2 => ?_; simp [hq0, hq1, hqe, hqg, ht, dRows, dRow, dInts, hqk, hrl, hrg, hx0, hx2, hx3, hy0, hy2, hy3]; (repeat (refine ⟨by omega, ?_⟩)); refine hK2 _ ?_; clear hK2 K2)
              refine sxd_nil (hK' _ ?_)
              refine AW.st (by simp [hq0, hq1, hqe, hqg, ht, dRows, dRow, dInts, hqk, hrl, hrg, hx0, hx2, hx3, hy0, hy2, hy3]; rfl) ?_
              clear hK' K'
              refine AW_cond false rfl (fun h => by cases h) (fun _ => ?_)
              refine AW_skip (hK8 _ ?_)
              refine AW_re (tyOf_good _) fun K' hK' => ?_
              repeat (refine sxf_next fun K2 hK2 => ?_; simp; (repeat (refine ⟨by omega, ?_⟩)); refine hK2 _ ?_; clear hK2 K2)
              refine sxf_nil (hK' _ ?_)
              clear hK' K'
              try simp only [thn, inb]
              refine Again.mk (i + 1) ⟨by omega, fun j hj => ?_⟩ (by omega) ?_
              · rcases Nat.lt_or_ge j i with h | h
                · exact hmiss j h
                · rw [show j = i by omega]; exact hfal
              refine Imp.to' (fun _ _ => trivial) (by simp [boxT, rowI, dRows, dRow, dInts, Function.comp_def]) (by simp [boxT, rowI, dRows, dRow, dInts, Function.comp_def])
            · have htru : hitF t (q + 1) a1 b1 i = true := by rw [hhit]; simp [ht]
              refine AW_rd (tyOf_good _) (by kernel_rfl) [3, 4, 5, 9, 10, 11, 12, 13, 14, 58, 59, 121] [3, 4, 5, 80] (fun _ _ => trivial) (by kernel_rfl) fun K' hK' => ?_
              repeat (refine sxd_next fun K2 hK2 => ?_; simp [hq0, hq1, hqe, hqg, ht, dRows, dRow, dInts, hqk, hrl, hrg, hx0, hx2, hx3, hy0, hy2, hy3]; (repeat (refine ⟨by omega, ?_⟩)); refine hK2 _ ?_; clear hK2 K2)
              refine sxd_nil (hK' _ ?_)
              refine AW.st (by simp [hq0, hq1, hqe, hqg, ht, dRows, dRow, dInts, hqk, hrl, hrg, hx0, hx2, hx3, hy0, hy2, hy3]; rfl) ?_
              clear hK' K'
              refine AW_cond true rfl (fun _ => ?_) (fun h => by cases h)
              refine AW_rg (tyOf_good _) [3, 4, 5, 9, 10, 11, 13, 14] [3, 4, 5, 80] (fun _ _ => trivial) fun K' hK' => ?_
              repeat (refine sxf_next fun K2 hK2 => ?_; simp [rowI]; (repeat (refine ⟨by omega, ?_⟩)); refine hK2 _ ?_; clear hK2 K2)
              refine sxf_nil (hK' _ ?_)
              refine AW.st (by simp [rowI]; rfl) ?_
              clear hK' K'
              refine AW_rg (tyOf_good _) [3, 4, 5, 9, 10, 11] [3, 4, 5, 80] (fun _ _ => trivial) fun K' hK' => ?_
              repeat (refine sxf_next fun K2 hK2 => ?_; simp [rowI]; (repeat (refine ⟨by omega, ?_⟩)); refine hK2 _ ?_; clear hK2 K2)
              refine sxf_nil (hK' _ ?_)
              refine AW.st (by simp [rowI]; rfl) ?_
              clear hK' K'
              refine AW_exit (hK6 _ ?_)
              refine AW_re (tyOf_good _) fun K' hK' => ?_
              repeat (refine sxf_next fun K2 hK2 => ?_; simp; (repeat (refine ⟨by omega, ?_⟩)); refine hK2 _ ?_; clear hK2 K2)
              refine sxf_nil (hK' _ ?_)
              clear hK' K'
              try simp only [thn, inb]
              refine Again.mk (q, nx t a1 i, nx t b1 i, out ++ [(i : Int)]) ⟨by omega, by have := ok.nx_lt ha1 hiw; exact this, by have := ok.nx_lt hb1 hiw; exact this, ?_, by simp; omega⟩ (by simp) ?_
              · have hstep : partF t (q + 1) a1 b1 = (i : Int) :: partF t q (nx t a1 i) (nx t b1 i) := partF_hit hiw htru hmiss
                rw [← hout, hstep]
                simp
              refine Imp.to' (fun _ _ => trivial) (by simp [boxT, rowI, dRows, dRow, dInts, dNum, Function.comp_def, hnxa, hnxb, hxz, hyz, takeMap]) (by simp [boxT, rowI, dRows, dRow, dInts, dNum, Function.comp_def, hnxa, hnxb, hxz, hyz, takeMap])
        · have hiw : i = wd t := by omega
          subst hiw
          refine AW_exit (hK6 _ ?_)
          refine AW_re (tyOf_good _) fun K' hK' => ?_
          repeat (refine sxf_next fun K2 hK2 => ?_; simp; (repeat (refine ⟨by omega, ?_⟩)); refine hK2 _ ?_; clear hK2 K2)
          refine sxf_nil (hK' _ ?_)
          clear hK' K'
          try simp only [thn, inb]
          refine Again.mk (q, a1, b1, out) ⟨by omega, ha1, hb1, ?_, by dsimp only; omega⟩ (by simp) ?_
          · have hstep : partF t (q + 1) a1 b1 = partF t q a1 b1 := partF_miss hmiss
            rw [← hout, hstep]
          refine Imp.to' (fun _ _ => trivial) (by simp [boxT, rowI, dRows, dRow, dInts, Function.comp_def]) (by simp [boxT, rowI, dRows, dRow, dInts, Function.comp_def])
#print axioms part_none
#print axioms part_good
end Go.Proofs.YtoikggboakojlaaDoor

/-
  What a table tells of inputs; a number below another one.
-/
namespace Go.Proofs.YtoikggboakojlaaDoor
set_option linter.unusedSimpArgs false
set_option linter.unusedVariables false
open Go.Av

def natsI (l : List Nat) : List Int := l.map fun (c : Nat) => (c : Int)
theorem natsI_len (l : List Nat) : (natsI l).length = l.length := by simp [natsI]
theorem natsI_get (l : List Nat) (i : Nat) (h : i < (natsI l).length) : (natsI l)[i] = ((l[i]'(by rw [natsI_len] at h; exact h) : Nat) : Int) := by simp [natsI]
def dNats (l : List Nat) : D := dRow (natsI l)

theorem tell1_spec (G : Glob) (t : Tab) (hp : 0 < t.next.length) (x : Int) : PureC Tryd.prog G 66 [dNum x, .ip [dRows t.next, dRows t.tells]] (.v (.bool (x < 0 || (wd t : Int) ≤ x))) := by
  have hg : t.next.getD 0 [] = t.next[0] := by rw [List.getD_eq_getElem?_getD, List.getElem?_eq_getElem hp]; rfl
  have hw : wd t = t.next[0].length := by unfold wd; rw [hg]
  refine PureC.of_body (tyOf_good _) Tryd.func66 rfl rfl (rs := [.tmp 3]) Tryd.results66 (by simp [Tryd.ntmps66]) fun X => ?_
  simp only [Tryd.ntmps66, List.map]
  refine AW_rg (tyOf_good _) [0, 1] [] (fun _ _ => trivial) fun K' hK' => ?_
  repeat (refine sxf_next fun K2 hK2 => ?_; simp [dNum]; (repeat (refine ⟨by omega, ?_⟩)); refine hK2 _ ?_; clear hK2 K2)
  refine sxf_nil (hK' _ ?_)
  refine AW.st (by simp [dNum]; rfl) ?_
  clear hK' K'
  by_cases h : x < 0
  · refine AW_rg (tyOf_good _) [3] [] (fun _ _ => trivial) fun K' hK' => ?_
    repeat (refine sxf_next fun K2 hK2 => ?_; simp [dNum, h]; (repeat (refine ⟨by omega, ?_⟩)); refine hK2 _ ?_; clear hK2 K2)
    refine sxf_nil (hK' _ ?_)
    refine AW.st (by simp [dNum, h]; rfl) ?_
    clear hK' K'
    refine AW_ret ?_
    simp [D.le, D.le.go, takeMap]
    simp [h]
  · refine AW_rg (tyOf_good _) [3] [] (fun _ _ => trivial) fun K' hK' => ?_
    repeat (refine sxf_next fun K2 hK2 => ?_; simp [dNum, h, dRows, dRow, dInts, hp]; (repeat (refine ⟨by omega, ?_⟩)); refine hK2 _ ?_; clear hK2 K2)
    refine sxf_nil (hK' _ ?_)
    refine AW.st (by simp [dNum, h, dRows, dRow, dInts, hp]; rfl) ?_
    clear hK' K'
    refine AW_ret ?_
    simp [D.le, D.le.go, takeMap]
    simp [h, hw]

set_option maxHeartbeats 1000000 in
theorem btell_bad (G : Glob) (t : Tab) (a : Int) (l : List Int) (e : Int × Option Nat) (h : checkF t = some e) : PureC Tryd.prog G 26 [dTab t, dNum a, dRow l] (.tup [.sl (some false) [], dErr (some e)]) := by
  refine PureC.of_body (tyOf_good _) Tryd.func26 rfl rfl (rs := [.tmp 6, .tmp 7]) Tryd.results26 (by simp [Tryd.ntmps26]) fun X => ?_
  simp only [Tryd.ntmps26, List.map]
  refine AW_rg (tyOf_good _) [1, 2, 3] [3] (fun _ _ => trivial) fun K' hK' => ?_
  repeat (refine sxf_next fun K2 hK2 => ?_; simp [dTab, dNum]; (repeat (refine ⟨by omega, ?_⟩)); refine hK2 _ ?_; clear hK2 K2)
  refine sxf_nil (hK' _ ?_)
  refine AW.st (by simp [dTab, dNum]; rfl) ?_
  clear hK' K'
  refine AW_then fun K1 hK1 => ?_
  refine AW_rg (tyOf_good _) [1, 2, 3, 8] [3] (fun _ _ => trivial) fun K' hK' => ?_
  repeat (refine sxf_next fun K2 hK2 => ?_; simp; (repeat (refine ⟨by omega, ?_⟩)); refine hK2 _ ?_; clear hK2 K2)
  refine sxf_next fun K2 hK2 => ?_
  simp
  refine callK.data (check_spec G t) (by simp; rfl) (by first | exact D.leGo_refl _ | simp [takeMap, List.map_map, Function.comp_def, D.le, D.le.go, D.le_refl, D.leGo_refl]) ?_
  refine hK2 _ ?_
  clear hK2 K2
  simp only [putd, upd_lst]
  repeat (refine sxf_next fun K2 hK2 => ?_; simp; (repeat (refine ⟨by omega, ?_⟩)); refine hK2 _ ?_; clear hK2 K2)
  refine sxf_nil (hK' _ ?_)
  refine AW.st (by simp; rfl) ?_
  clear hK' K'
  rw [h]
  obtain ⟨c, s⟩ := e
  cases s
  · refine AW_rg (tyOf_good _) [1, 2, 3, 8, 15] [3] (fun _ _ => trivial) fun K' hK' => ?_
    repeat (refine sxf_next fun K2 hK2 => ?_; simp [dErr]; (repeat (refine ⟨by omega, ?_⟩)); refine hK2 _ ?_; clear hK2 K2)
    refine sxf_nil (hK' _ ?_)
    refine AW.st (by simp [dErr]; rfl) ?_
    clear hK' K'
    refine AW_cond true rfl (fun _ => ?_) (fun h => by cases h)
    refine AW_rg (tyOf_good _) [6, 7] [3] (fun _ _ => trivial) fun K' hK' => ?_
    repeat (refine sxf_next fun K2 hK2 => ?_; simp; (repeat (refine ⟨by omega, ?_⟩)); refine hK2 _ ?_; clear hK2 K2)
    refine sxf_nil (hK' _ ?_)
    refine AW.st (by simp; rfl) ?_
    clear hK' K'
    refine AW_ret ?_
    simp [D.le, D.le.go, takeMap, dErr]
  · refine AW_rg (tyOf_good _) [1, 2, 3, 8, 15] [3] (fun _ _ => trivial) fun K' hK' => ?_
    repeat (refine sxf_next fun K2 hK2 => ?_; simp [dErr]; (repeat (refine ⟨by omega, ?_⟩)); refine hK2 _ ?_; clear hK2 K2)
    refine sxf_nil (hK' _ ?_)
    refine AW.st (by simp [dErr]; rfl) ?_
    clear hK' K'
    refine AW_cond true rfl (fun _ => ?_) (fun h => by cases h)
    refine AW_rg (tyOf_good _) [6, 7] [3] (fun _ _ => trivial) fun K' hK' => ?_
    repeat (refine sxf_next fun K2 hK2 => ?_; simp; (repeat (refine ⟨by omega, ?_⟩)); refine hK2 _ ?_; clear hK2 K2)
    refine sxf_nil (hK' _ ?_)
    refine AW.st (by simp; rfl) ?_
    clear hK' K'
    refine AW_ret ?_
    simp [D.le, D.le.go, takeMap, dErr]

set_option maxHeartbeats 2000000 in
theorem btell_range (G : Glob) (t : Tab) (ok : Ok t) (a : Int) (l : List Int) (hl : l.length < 2^40) (h : a < 0 ∨ (t.next.length : Int) ≤ a ∨ l.any (fun x => x < 0 || (wd t : Int) ≤ x) = true) :
    PureC Tryd.prog G 26 [dTab t, dNum a, dRow l] (.tup [.sl (some false) [], dErr (some (2, none))]) := by
  have hch : checkF t = none := ok_iff.2 ok
  have hp : 0 < t.next.length := ok.pos
  refine PureC.of_body (tyOf_good _) Tryd.func26 rfl rfl (rs := [.tmp 6, .tmp 7]) Tryd.results26 (by simp [Tryd.ntmps26]) fun X => ?_
  simp only [Tryd.ntmps26, List.map]
  refine AW_rg (tyOf_good _) [1, 2, 3] [3] (fun _ _ => trivial) fun K' hK' => ?_
  repeat (refine sxf_next fun K2 hK2 => ?_; simp [dTab, dNum]; (repeat (refine ⟨by omega, ?_⟩)); refine hK2 _ ?_; clear hK2 K2)
  refine sxf_nil (hK' _ ?_)
  refine AW.st (by simp [dTab, dNum]; rfl) ?_
  clear hK' K'
  refine AW_then fun K1 hK1 => ?_
  refine AW_rg (tyOf_good _) [1, 2, 3, 8] [3] (fun _ _ => trivial) fun K' hK' => ?_
  repeat (refine sxf_next fun K2 hK2 => ?_; simp; (repeat (refine ⟨by omega, ?_⟩)); refine hK2 _ ?_; clear hK2 K2)
  refine sxf_next fun K2 hK2 => ?_
  simp
  refine callK.data (check_spec G t) (by simp; rfl) (by first | exact D.leGo_refl _ | simp [takeMap, List.map_map, Function.comp_def, D.le, D.le.go, D.le_refl, D.leGo_refl]) ?_
  refine hK2 _ ?_
  clear hK2 K2
  simp only [putd, upd_lst]
  repeat (refine sxf_next fun K2 hK2 => ?_; simp; (repeat (refine ⟨by omega, ?_⟩)); refine hK2 _ ?_; clear hK2 K2)
  refine sxf_nil (hK' _ ?_)
  refine AW.st (by simp; rfl) ?_
  clear hK' K'
  rw [hch]
  refine AW_rg (tyOf_good _) [1, 2, 3, 8, 15] [3] (fun _ _ => trivial) fun K' hK' => ?_
  repeat (refine sxf_next fun K2 hK2 => ?_; simp [dErr]; (repeat (refine ⟨by omega, ?_⟩)); refine hK2 _ ?_; clear hK2 K2)
  refine sxf_nil (hK' _ ?_)
  refine AW.st (by simp [dErr]; rfl) ?_
  clear hK' K'
  refine AW_cond false rfl (fun h => by cases h) (fun _ => ?_)
  refine AW_skip (hK1 _ ?_)
  refine AW_then fun K2 hK2 => ?_
  by_cases h1 : a < 0
  · refine AW_rg (tyOf_good _) [1, 2, 3, 30] [3] (fun _ _ => trivial) fun K' hK' => ?_
    repeat (refine sxf_next fun K2 hK2 => ?_; simp [h1, dRows]; (repeat (refine ⟨by omega, ?_⟩)); refine hK2 _ ?_; clear hK2 K2)
    refine sxf_nil (hK' _ ?_)
    refine AW.st (by simp [h1, dRows]; rfl) ?_
    clear hK' K'
    refine AW_cond true rfl (fun _ => ?_) (fun h => by cases h)
    refine AW_rg (tyOf_good _) [6, 7] [3] (fun _ _ => trivial) fun K' hK' => ?_
    repeat (refine sxf_next fun K2 hK2 => ?_; simp; (repeat (refine ⟨by omega, ?_⟩)); refine hK2 _ ?_; clear hK2 K2)
    refine sxf_nil (hK' _ ?_)
    refine AW.st (by simp; rfl) ?_
    clear hK' K'
    refine AW_ret ?_
    simp [D.le, D.le.go, takeMap, dErr]
  by_cases h2 : (t.next.length : Int) ≤ a
  · refine AW_rg (tyOf_good _) [1, 2, 3, 30] [3] (fun _ _ => trivial) fun K' hK' => ?_
    repeat (refine sxf_next fun K2 hK2 => ?_; simp [h1, h2, dRows]; (repeat (refine ⟨by omega, ?_⟩)); refine hK2 _ ?_; clear hK2 K2)
    refine sxf_nil (hK' _ ?_)
    refine AW.st (by simp [h1, h2, dRows]; rfl) ?_
    clear hK' K'
    refine AW_cond true rfl (fun _ => ?_) (fun h => by cases h)
    refine AW_rg (tyOf_good _) [6, 7] [3] (fun _ _ => trivial) fun K' hK' => ?_
    repeat (refine sxf_next fun K2 hK2 => ?_; simp; (repeat (refine ⟨by omega, ?_⟩)); refine hK2 _ ?_; clear hK2 K2)
    refine sxf_nil (hK' _ ?_)
    refine AW.st (by simp; rfl) ?_
    clear hK' K'
    refine AW_ret ?_
    simp [D.le, D.le.go, takeMap, dErr]
  have h3 : l.any (fun x => x < 0 || (wd t : Int) ≤ x) = true := by
    rcases h with h | h | h
    · exact absurd h h1
    · exact absurd h h2
    · exact h
  refine AW_rg (tyOf_good _) [1, 2, 3, 30] [3] (fun _ _ => trivial) fun K' hK' => ?_
  repeat (refine sxf_next fun K2 hK2 => ?_; simp [h1, h2, dRows, dRow, dInts]; (repeat (refine ⟨by omega, ?_⟩)); refine hK2 _ ?_; clear hK2 K2)
  refine sxf_next fun K2 hK2 => ?_
  simp [h1, h2, dRows, dRow, dInts]
  refine callK.lend (containsInt_spec G none dNum l 66 [.ip [dRows t.next, dRows t.tells]] (fun x => x < 0 || (wd t : Int) ≤ x) (by omega) (fun x _ => tell1_spec G t hp x)) (by simp; rfl) (by first | exact D.leGo_refl _ | simp [takeMap, List.map_map, Function.comp_def, D.le, D.le.go, D.le_refl, D.leGo_refl, h1, h2, dRows, dRow, dInts]) (by simp [D.scalar]) ?_
  refine hK2 _ ?_
  clear hK2 K2
  simp only [putd, upd_lst]
  repeat (refine sxf_next fun K2 hK2 => ?_; simp [h1, h2, dRows, dRow, dInts]; (repeat (refine ⟨by omega, ?_⟩)); refine hK2 _ ?_; clear hK2 K2)
  refine sxf_nil (hK' _ ?_)
  refine AW.st (by simp [h1, h2, dRows, dRow, dInts]; rfl) ?_
  clear hK' K'
  refine AW_cond _ rfl (fun _ => ?_) (fun h => by simp [h3] at h)
  refine AW_rg (tyOf_good _) [6, 7] [3] (fun _ _ => trivial) fun K' hK' => ?_
  repeat (refine sxf_next fun K2 hK2 => ?_; simp; (repeat (refine ⟨by omega, ?_⟩)); refine hK2 _ ?_; clear hK2 K2)
  refine sxf_nil (hK' _ ?_)
  refine AW.st (by simp; rfl) ?_
  clear hK' K'
  refine AW_ret ?_
  simp [D.le, D.le.go, takeMap, dErr]

set_option maxHeartbeats 4000000 in
theorem btell_good (G : Glob) (t : Tab) (ok : Ok t) (a : Nat) (ha : a < t.next.length) (l : List Nat) (hlen : l.length < 2^40) (hl : ∀ c ∈ l, c < wd t) :
    PureC Tryd.prog G 26 [dTab t, dNum a, dNats l] (.tup [dRow (tellF t a l), .v .nilIface]) := by
  have hch : checkF t = none := ok_iff.2 ok
  have hp : 0 < t.next.length := ok.pos
  have h1 : ¬ (a : Int) < 0 := by omega
  have h2 : ¬ (t.next.length : Int) ≤ a := by omega
  have h3 : (natsI l).any (fun x => x < 0 || (wd t : Int) ≤ x) = false := by
    rw [List.any_eq_false]
    intro x hx
    obtain ⟨c, hc, rfl⟩ := List.mem_map.1 hx
    have := hl c hc
    simp
    omega
  have hnl := natsI_len l
  have hcont : PureC Tryd.prog G 61 [.sl none ((natsI l).map fun x => [dNum x]), .fn (.func 66) [.ip [dRows t.next, dRows t.tells]]] (.v (.bool false)) := by
    have h4 := containsInt_spec G none dNum (natsI l) 66 [.ip [dRows t.next, dRows t.tells]] (fun x => x < 0 || (wd t : Int) ≤ x) (by omega) (fun x _ => tell1_spec G t hp x)
    rwa [h3] at h4
  refine PureC.of_body (tyOf_good _) Tryd.func26 rfl rfl (rs := [.tmp 6, .tmp 7]) Tryd.results26 (by simp [Tryd.ntmps26]) fun X => ?_
  simp only [Tryd.ntmps26, List.map]
  refine AW_rg (tyOf_good _) [1, 2, 3] [3] (fun _ _ => trivial) fun K' hK' => ?_
  repeat (refine sxf_next fun K2 hK2 => ?_; simp [dTab, dNum]; (repeat (refine ⟨by omega, ?_⟩)); refine hK2 _ ?_; clear hK2 K2)
  refine sxf_nil (hK' _ ?_)
  refine AW.st (by simp [dTab, dNum]; rfl) ?_
  clear hK' K'
  refine AW_then fun K1 hK1 => ?_
  refine AW_rg (tyOf_good _) [1, 2, 3, 8] [3] (fun _ _ => trivial) fun K' hK' => ?_
  repeat (refine sxf_next fun K2 hK2 => ?_; simp; (repeat (refine ⟨by omega, ?_⟩)); refine hK2 _ ?_; clear hK2 K2)
  refine sxf_next fun K2 hK2 => ?_
  simp
  refine callK.data (check_spec G t) (by simp; rfl) (by first | exact D.leGo_refl _ | simp [takeMap, List.map_map, Function.comp_def, D.le, D.le.go, D.le_refl, D.leGo_refl]) ?_
  refine hK2 _ ?_
  clear hK2 K2
  simp only [putd, upd_lst]
  repeat (refine sxf_next fun K2 hK2 => ?_; simp; (repeat (refine ⟨by omega, ?_⟩)); refine hK2 _ ?_; clear hK2 K2)
  refine sxf_nil (hK' _ ?_)
  refine AW.st (by simp; rfl) ?_
  clear hK' K'
  rw [hch]
  refine AW_rg (tyOf_good _) [1, 2, 3, 8, 15] [3] (fun _ _ => trivial) fun K' hK' => ?_
  repeat (refine sxf_next fun K2 hK2 => ?_; simp [dErr]; (repeat (refine ⟨by omega, ?_⟩)); refine hK2 _ ?_; clear hK2 K2)
  refine sxf_nil (hK' _ ?_)
  refine AW.st (by simp [dErr]; rfl) ?_
  clear hK' K'
  refine AW_cond false rfl (fun h => by cases h) (fun _ => ?_)
  refine AW_skip (hK1 _ ?_)
  refine AW_then fun K2 hK2 => ?_
  refine AW_rg (tyOf_good _) [1, 2, 3, 30] [3] (fun _ _ => trivial) fun K' hK' => ?_
  repeat (refine sxf_next fun K2 hK2 => ?_; simp [h1, h2, Nat.not_le.2 ha, dNats, dRows, dRow, dInts]; (repeat (refine ⟨by omega, ?_⟩)); refine hK2 _ ?_; clear hK2 K2)
  refine sxf_next fun K2 hK2 => ?_
  simp [h1, h2, Nat.not_le.2 ha, dNats, dRows, dRow, dInts]
  refine callK.lend (hcont) (by simp; rfl) (by first | exact D.leGo_refl _ | simp [takeMap, List.map_map, Function.comp_def, D.le, D.le.go, D.le_refl, D.leGo_refl, h1, h2, Nat.not_le.2 ha, dNats, dRows, dRow, dInts]) (by simp [D.scalar]) ?_
  refine hK2 _ ?_
  clear hK2 K2
  simp only [putd, upd_lst]
  repeat (refine sxf_next fun K2 hK2 => ?_; simp [h1, h2, Nat.not_le.2 ha, dNats, dRows, dRow, dInts]; (repeat (refine ⟨by omega, ?_⟩)); refine hK2 _ ?_; clear hK2 K2)
  refine sxf_nil (hK' _ ?_)
  refine AW.st (by simp [h1, h2, Nat.not_le.2 ha, dNats, dRows, dRow, dInts]; rfl) ?_
  clear hK' K'
  refine AW_cond false rfl (fun h => by cases h) (fun _ => ?_)
  refine AW_skip (hK2 _ ?_)
  refine AW_rg (tyOf_good _) [1, 2, 3, 9] [3] (fun _ _ => trivial) fun K' hK' => ?_
  repeat (refine sxf_next fun K2 hK2 => ?_; simp; (repeat (refine ⟨by omega, ?_⟩)); refine hK2 _ ?_; clear hK2 K2)
  refine sxf_nil (hK' _ ?_)
  refine AW.st (by simp; rfl) ?_
  clear hK' K'
  refine AW_then fun K3 hK3 => ?_
  refine AW_rg (tyOf_good _) [1, 3, 9, 32, 33, 34] [3] (fun _ _ => trivial) fun K' hK' => ?_
  repeat (refine sxf_next fun K2 hK2 => ?_; simp [dNats, dRow, dInts, hnl]; (repeat (refine ⟨by omega, ?_⟩)); refine hK2 _ ?_; clear hK2 K2)
  refine sxf_nil (hK' _ ?_)
  refine AW.st (by simp [dNats, dRow, dInts, hnl]; rfl) ?_
  clear hK' K'
  refine AW_for (S := Nat) (fun i => i ≤ l.length) (fun i => ⟨lst [(1, int (goF t a (l.take i))), (3, .ref 3 0 0), (9, .own 90 0 i), (32, .d (dNats l)), (33, int l.length), (34, int i)],
    hlst [(3, boxT t), (90, rowI (tellF t a (l.take i)))]⟩) (fun i => l.length - i) 0 ?_ (by simp) ?_
  · refine (Imp.adopt 9 90 3 1 rfl rfl).trans ?_
    refine Imp.to' (fun _ _ => trivial) (by simp [boxT, rowI, dRows, dRow, dInts, dNats, tellF, goF, Function.comp_def]) (by simp [boxT, rowI, dRows, dRow, dInts, dNats, tellF, goF, Function.comp_def])
  · intro i hi
    have htl : (tellF t a (l.take i)).length = i := by rw [tellF_len]; simp; omega
    refine AW_rg (tyOf_good _) [1, 3, 9, 32, 33, 34, 35] [3, 90] (fun _ _ => trivial) fun K' hK' => ?_
    repeat (refine sxf_next fun K2 hK2 => ?_; simp [boxT, rowI]; (repeat (refine ⟨by omega, ?_⟩)); refine hK2 _ ?_; clear hK2 K2)
    refine sxf_nil (hK' _ ?_)
    refine AW.st (by simp [boxT, rowI]; rfl) ?_
    clear hK' K'
    refine AW_then fun K4 hK4 => ?_
    refine AW_cond' (b := i < l.length) (by simp [D.le, D.le.go, takeMap]) (fun hc => ?_) (fun hc => ?_)
    · have hil : i < l.length := hc
      have hni : i < (natsI l).length := by omega
      have hng := natsI_get l i hni
      refine AW_skip (hK4 _ ?_)
      refine AW_then fun K5 hK5 => ?_
      refine AW_block ?_
      have hci : l[i] < wd t := hl _ (by simp)
      have hs : goF t a (l.take i) < t.next.length := goF_lt ok _ _ ha fun c hc => hl c (List.mem_of_mem_take hc)
      have htk : l.take (i + 1) = l.take i ++ [l[i]] := List.take_succ_eq_append_getElem hil
      have e1 : tellF t a (l.take (i + 1)) = tellF t a (l.take i) ++ [te t (goF t a (l.take i)) l[i]] := by rw [htk, tellF_snoc]
      have e2 : goF t a (l.take (i + 1)) = nx t (goF t a (l.take i)) l[i] := by rw [htk, goF_snoc]
      generalize goF t a (l.take i) = s at hs e1 e2
      generalize tellF t a (l.take i) = out at htl e1
      have hn1 := ok.nextLen s hs
      have hn2 := ok.tellsLen s hs
      have hth := ok.there s hs
      have hst : s < t.tells.length := by have := ok.tells; unfold Tab.n at this; omega
      rw [List.getD_eq_getElem?_getD, List.getElem?_eq_getElem hs, Option.getD_some] at hn1 hth
      rw [List.getD_eq_getElem?_getD, List.getElem?_eq_getElem hst, Option.getD_some] at hn2
      have hc1 : l[i] < t.next[s].length := by rw [hn1]; exact hci
      have hc2 : l[i] < t.tells[s].length := by rw [hn2]; exact hci
      have e3 : te t s l[i] = t.tells[s][l[i]] := by simp [te, List.getD_eq_getElem?_getD, hst, hc2]
      have e4 : nx t s l[i] = t.next[s][l[i]].toNat := by simp [nx, List.getD_eq_getElem?_getD, hs, hc1]
      have e5 := (hth t.next[s][l[i]] (by simp)).1
      have e6 : ((t.next[s][l[i]].toNat : Nat) : Int) = t.next[s][l[i]] := by omega
      refine AW_rg (tyOf_good _) [1, 3, 9, 11, 32, 33, 34] [3, 90] (fun _ _ => trivial) fun K' hK' => ?_
      repeat (refine sxf_next fun K2 hK2 => ?_; simp [dNats, dRow, dInts, hni, hng]; (repeat (refine ⟨by omega, ?_⟩)); refine hK2 _ ?_; clear hK2 K2)
      refine sxf_nil (hK' _ ?_)
      refine AW.st (by simp [dNats, dRow, dInts, hni, hng]; rfl) ?_
      clear hK' K'
      refine AW_rg (tyOf_good _) [1, 3, 9, 11, 32, 33, 34] [3, 90] (fun _ _ => trivial) fun K' hK' => ?_
      repeat (refine sxf_next fun K2 hK2 => ?_; simp [dRows, dRow, dInts, hst, hc2, takeMap]; (repeat (refine ⟨by omega, ?_⟩)); refine hK2 _ ?_; clear hK2 K2)
      refine sxf_nil (hK' _ ?_)
      refine AW.st (by simp [dRows, dRow, dInts, hst, hc2, takeMap]; rfl) ?_
      clear hK' K'
      refine AW_re (tyOf_good _) fun K' hK' => ?_
      repeat (refine sxf_next fun K2 hK2 => ?_; simp [dRows, dRow, dInts, hs, hc1, takeMap]; (repeat (refine ⟨by omega, ?_⟩)); refine hK2 _ ?_; clear hK2 K2)
      refine sxf_nil (hK' _ ?_)
      clear hK' K'
      refine hK5 _ (AW.norm [1, 3, 9, 32, 33, 34] [3, 90] (fun _ _ => trivial) (AW.st (by simp [dRows, dRow, dInts, hs, hc1, takeMap]; rfl) ?_))
      refine AW_re (tyOf_good _) fun K' hK' => ?_
      repeat (refine sxf_next fun K2 hK2 => ?_; simp; (repeat (refine ⟨by omega, ?_⟩)); refine hK2 _ ?_; clear hK2 K2)
      refine sxf_nil (hK' _ ?_)
      clear hK' K'
      try simp only [thn, inb]
      refine Again.mk (i + 1) (by omega) (by omega) ?_
      have hot : ∀ f : Int → List D, List.take i (List.map f out) = List.map f out := fun f => List.take_of_length_le (by simp [htl])
      refine Imp.to' (fun _ _ => trivial) (by simp [boxT, rowI, dRows, dRow, dInts, dNats, dNum, e1, e2, e3, e4, e6, hot, htl]) (by simp [boxT, rowI, dRows, dRow, dInts, dNats, dNum, e1, e2, e3, e4, e6, hot, htl])
    · have hil : i = l.length := by omega
      subst hil
      have htake : l.take l.length = l := List.take_length
      rw [htake] at htl
      refine AW_exit (hK3 _ ?_)
      refine AW_rg (tyOf_good _) [6, 7] [90] (fun _ _ => trivial) fun K' hK' => ?_
      repeat (refine sxf_next fun K2 hK2 => ?_; simp [rowI, htake]; (repeat (refine ⟨by omega, ?_⟩)); refine hK2 _ ?_; clear hK2 K2)
      refine sxf_nil (hK' _ ?_)
      refine AW.st (by simp [rowI, htake]; rfl) ?_
      clear hK' K'
      refine AW_ret ?_
      simp [D.le, D.le.go, takeMap, dRow, dInts, dNum, htl, htake, D.le_refl]
      exact List.take_of_length_le (by simp [htl])
#print axioms tell1_spec
#print axioms btell_range
#print axioms btell_good
end Go.Proofs.YtoikggboakojlaaDoor

/-
  The least inputs by which two states are told apart, and what is told of inputs.
-/
namespace Go.Proofs.YtoikggboakojlaaDoor
set_option linter.unusedSimpArgs false
set_option linter.unusedVariables false
open Go.Av

def nilD : D := .sl (some false) []
def badI (t : Tab) (x : Int) : Bool := decide (x < 0) || decide ((wd t : Int) ≤ x)

theorem nats_of {t : Tab} {l : List Int} (h : l.any (badI t) = false) : l = natsI (l.map Int.toNat) ∧ ∀ c ∈ l.map Int.toNat, c < wd t := by
  rw [List.any_eq_false] at h
  have h' : ∀ x ∈ l, 0 ≤ x ∧ x < (wd t : Int) := fun x hx => by
    have := h x hx
    simp [badI] at this
    exact this
  constructor
  · unfold natsI
    rw [List.map_map]
    conv => lhs; rw [← List.map_id l]
    refine List.map_congr_left fun x hx => ?_
    have := h' x hx
    simp; omega
  · intro c hc
    obtain ⟨x, hx, rfl⟩ := List.mem_map.1 hc
    have := h' x hx
    omega

theorem btell_at (G : Glob) (t : Tab) (ok : Ok t) (s : Nat) (hs : s < t.next.length) (l : List Int) (hl : l.length < 2^40) :
    ∃ T E, PureC Tryd.prog G 26 [dTab t, dNum s, dRow l] (.tup [T, dErr (errOf E)]) ∧
      ((l.any (badI t) = true ∧ T = nilD ∧ E = 2) ∨ (l.any (badI t) = false ∧ T = dRow (tellF t s (l.map Int.toNat)) ∧ E = 0)) := by
  cases h : l.any (badI t) with
  | true => exact ⟨_, 2, btell_range G t ok s l hl (.inr (.inr h)), .inl ⟨rfl, rfl, rfl⟩⟩
  | false =>
    obtain ⟨h1, h2⟩ := nats_of h
    refine ⟨_, 0, ?_, .inr ⟨rfl, rfl, rfl⟩⟩
    have := btell_good G t ok s hs (l.map Int.toNat) (by simpa using hl) h2
    unfold dNats at this
    rw [← h1] at this
    exact this

set_option maxHeartbeats 8000000 in
theorem parts_good (G : Glob) (hG : HasErr G) (hF : HasFine G) (t : Tab) (a b : Int) (l : List Int) (ok : Ok t) (hfew : (t.next.length : Int) ≤ 30) (hwfew : (wd t : Int) ≤ 8) (hl60 : ¬ (60 : Int) < l.length)
    (T : D) (E : Int) (hTell : PureC Tryd.prog G 26 [dTab t, dNum a, dRow l] (.tup [T, dErr (errOf E)]))
    (hcase : (∃ s : Nat, a = s ∧ s < t.next.length ∧ ((l.any (badI t) = true ∧ T = nilD ∧ E = 2) ∨ (l.any (badI t) = false ∧ T = dRow (tellF t s (l.map Int.toNat)) ∧ E = 0))) ∨ ((a < 0 ∨ (t.next.length : Int) ≤ a) ∧ T = nilD ∧ E = 2)) :
    PureC Tryd.prog G 5 [dTab t, dNum a, dNum b, dRow l] (.v (.bool true)) := by
  have htab := tables_good G hF t ok
  rw [decide_eq_true hfew, decide_eq_true hwfew] at htab
  change PureC _ _ _ _ (.tup [.agg [dRows t.next, dRows t.tells], .agg [dNum 0, dNum (-1)], .v (.bool true)]) at htab
  obtain ⟨k, hk, hs⟩ := stops_small ok
  have hp : 0 < t.next.length := ok.pos
  have hw0 := wd_at ok hp
  have hnil : PureC Tryd.prog G 22 [nilD, nilD] (.v (.bool true)) := lsameInts_spec G (some false) (some false) [] [] (by decide)
  have hllen : l.length ≤ 60 := by omega
  refine PureC.of_body (tyOf_good _) Tryd.func5 rfl rfl (rs := [.tmp 8]) Tryd.results5 (by simp [Tryd.ntmps5]) fun X => ?_
  simp only [Tryd.ntmps5, List.map]
  refine AW_rg (tyOf_good _) [1, 2, 3, 4] [4] (fun _ _ => trivial) fun K' hK' => ?_
  repeat (refine sxf_next fun K2 hK2 => ?_; simp [dTab, dNum]; (repeat (refine ⟨by omega, ?_⟩)); refine hK2 _ ?_; clear hK2 K2)
  refine sxf_nil (hK' _ ?_)
  refine AW.st (by simp [dTab, dNum]; rfl) ?_
  clear hK' K'
  refine AW_rg (tyOf_good _) [1, 2, 3, 4, 9, 10, 11] [4, 9, 10] (fun _ _ => trivial) fun K' hK' => ?_
  repeat (refine sxf_next fun K2 hK2 => ?_; simp [dTab, dRows, dNum]; (repeat (refine ⟨by omega, ?_⟩)); refine hK2 _ ?_; clear hK2 K2)
  refine sxf_next fun K2 hK2 => ?_
  simp [dTab, dRows, dNum]
  refine callK.data (htab) (by simp; rfl) (by first | exact D.leGo_refl _ | simp [takeMap, List.map_map, Function.comp_def, D.le, D.le.go, D.le_refl, D.leGo_refl, dTab, dRows, dNum]) ?_
  refine hK2 _ ?_
  clear hK2 K2
  simp only [putd, upd_lst]
  repeat (refine sxf_next fun K2 hK2 => ?_; simp [dTab, dRows, dNum]; (repeat (refine ⟨by omega, ?_⟩)); refine hK2 _ ?_; clear hK2 K2)
  refine sxf_nil (hK' _ ?_)
  refine AW.st (by simp [dTab, dRows, dNum]; rfl) ?_
  clear hK' K'
  refine AW_then fun K1 hK1 => ?_
  refine AW_rg (tyOf_good _) [1, 2, 3, 4, 9, 10, 33] [4, 9, 10] (fun _ _ => trivial) fun K' hK' => ?_
  repeat (refine sxf_next fun K2 hK2 => ?_; simp [dRow, dInts, hl60]; (repeat (refine ⟨by omega, ?_⟩)); refine hK2 _ ?_; clear hK2 K2)
  refine sxf_nil (hK' _ ?_)
  refine AW.st (by simp [dRow, dInts, hl60]; rfl) ?_
  clear hK' K'
  refine AW_cond false rfl (fun h => by cases h) (fun _ => ?_)
  refine AW_skip (hK1 _ ?_)
  have hpart : ∃ P c, PureC Tryd.prog G 25 [dTab t, dNum a, dNum b] (.tup [P, dErr (errOf c)]) ∧ (((a < 0 ∨ (t.next.length : Int) ≤ a ∨ b < 0 ∨ (t.next.length : Int) ≤ b) ∧ P = nilD ∧ c = 2)
      ∨ (∃ x y : Nat, a = x ∧ b = y ∧ x < t.next.length ∧ y < t.next.length ∧ ((Al t k x y ∧ P = nilD ∧ c = 8) ∨ (∃ d, d + 1 ≤ k ∧ Al t d x y ∧ ¬ Al t (d + 1) x y ∧ P = dRow (partF t (d + 1) x y) ∧ c = 0 ∧ (partF t (d + 1) x y).length = d + 1)))) := by
    by_cases hr : a < 0 ∨ (t.next.length : Int) ≤ a ∨ b < 0 ∨ (t.next.length : Int) ≤ b
    · exact ⟨_, 2, part_range G t a b ok hr, .inl ⟨hr, rfl, rfl⟩⟩
    · obtain ⟨x, rfl⟩ := Int.eq_ofNat_of_zero_le (show 0 ≤ a by omega)
      obtain ⟨y, rfl⟩ := Int.eq_ofNat_of_zero_le (show 0 ≤ b by omega)
      have hx : x < t.next.length := by omega
      have hy : y < t.next.length := by omega
      by_cases hal : Al t k x y
      · exact ⟨_, 8, part_none G t ok k hk hs x y hx hy (idx_same ok hx hy hal), .inr ⟨x, y, rfl, rfl, hx, hy, .inl ⟨hal, rfl, rfl⟩⟩⟩
      · obtain ⟨d, hdk, hidx, h1, h2⟩ := idx_apart ok hx hy hal
        obtain ⟨L, e1, e2, _⟩ := part_tells ok d x y hx hy h1 h2
        exact ⟨_, 0, part_good G t ok k hk hs x y hx hy (d + 1) hdk hidx, .inr ⟨x, y, rfl, rfl, hx, hy, .inr ⟨d, hdk, h1, h2, rfl, rfl, by rw [e1]; simpa using e2⟩⟩⟩
  obtain ⟨P, c, hPart, hpc⟩ := hpart
  refine AW_rg (tyOf_good _) [1, 2, 3, 4, 9, 10, 12, 13] [4, 9, 10] (fun _ _ => trivial) fun K' hK' => ?_
  repeat (refine sxf_next fun K2 hK2 => ?_; simp [boxT, dNum, dTab]; (repeat (refine ⟨by omega, ?_⟩)); refine hK2 _ ?_; clear hK2 K2)
  refine sxf_next fun K2 hK2 => ?_
  simp [boxT, dNum, dTab]
  refine callK.data (hPart) (by simp; rfl) (by first | exact D.leGo_refl _ | simp [takeMap, List.map_map, Function.comp_def, D.le, D.le.go, D.le_refl, D.leGo_refl, boxT, dNum, dTab]) ?_
  refine hK2 _ ?_
  clear hK2 K2
  simp only [putd, upd_lst]
  repeat (refine sxf_next fun K2 hK2 => ?_; simp [boxT, dNum, dTab]; (repeat (refine ⟨by omega, ?_⟩)); refine hK2 _ ?_; clear hK2 K2)
  refine sxf_nil (hK' _ ?_)
  refine AW.st (by simp [boxT, dNum, dTab]; rfl) ?_
  clear hK' K'
  refine AW_rg (tyOf_good _) [1, 2, 3, 4, 9, 10, 12, 13, 14, 15] [4, 9, 10] (fun _ _ => trivial) fun K' hK' => ?_
  repeat (refine sxf_next fun K2 hK2 => ?_; simp [boxT, dNum, dTab]; (repeat (refine ⟨by omega, ?_⟩)); refine hK2 _ ?_; clear hK2 K2)
  refine sxf_next fun K2 hK2 => ?_
  simp [boxT, dNum, dTab]
  refine callK.data (hTell) (by simp; rfl) (by first | exact D.leGo_refl _ | simp [takeMap, List.map_map, Function.comp_def, D.le, D.le.go, D.le_refl, D.leGo_refl, boxT, dNum, dTab]) ?_
  refine hK2 _ ?_
  clear hK2 K2
  simp only [putd, upd_lst]
  repeat (refine sxf_next fun K2 hK2 => ?_; simp [boxT, dNum, dTab]; (repeat (refine ⟨by omega, ?_⟩)); refine hK2 _ ?_; clear hK2 K2)
  refine sxf_nil (hK' _ ?_)
  refine AW.st (by simp [boxT, dNum, dTab]; rfl) ?_
  clear hK' K'
  refine AW_then fun K2 hK2 => ?_
  refine AW_rg (tyOf_good _) [1, 2, 3, 4, 9, 10, 12, 13, 14, 15, 50] [4, 9, 10] (fun _ _ => trivial) fun K' hK' => ?_
  repeat (refine sxf_next fun K2 hK2 => ?_; simp [boxT, dNum]; (repeat (refine ⟨by omega, ?_⟩)); refine hK2 _ ?_; clear hK2 K2)
  refine sxf_nil (hK' _ ?_)
  refine AW.st (by simp [boxT, dNum]; rfl) ?_
  clear hK' K'
  refine AW_cond false rfl (fun h => by cases h) (fun _ => ?_)
  refine AW_skip (hK2 _ ?_)
  refine AW_rg (tyOf_good _) [1, 2, 3, 4, 9, 12, 13, 14, 15, 16] [4, 9] (fun _ _ => trivial) fun K' hK' => ?_
  repeat (refine sxf_next fun K2 hK2 => ?_; simp [boxT, dNum, dRows]; (repeat (refine ⟨by omega, ?_⟩)); refine hK2 _ ?_; clear hK2 K2)
  refine sxf_nil (hK' _ ?_)
  refine AW.st (by simp [boxT, dNum, dRows]; rfl) ?_
  clear hK' K'
  refine AW_rg (tyOf_good _) [1, 2, 3, 4, 9, 12, 13, 14, 15, 16, 17] [4, 9] (fun _ _ => trivial) fun K' hK' => ?_
  repeat (refine sxf_next fun K2 hK2 => ?_; simp [boxT, dNum]; (repeat (refine ⟨by omega, ?_⟩)); refine hK2 _ ?_; clear hK2 K2)
  refine sxf_nil (hK' _ ?_)
  refine AW.st (by simp [boxT, dNum]; rfl) ?_
  clear hK' K'
  refine AW_rg (tyOf_good _) [1, 2, 3, 4, 9, 12, 13, 14, 15, 16, 17, 18] [4, 9] (fun _ _ => trivial) fun K' hK' => ?_
  repeat (refine sxf_next fun K2 hK2 => ?_; simp [boxT, dNum]; (repeat (refine ⟨by omega, ?_⟩)); refine hK2 _ ?_; clear hK2 K2)
  refine sxf_nil (hK' _ ?_)
  refine AW.st (by simp [boxT, dNum]; rfl) ?_
  clear hK' K'
  refine AW_then fun K3 hK3 => ?_
  refine (fun hcont => ?_) (fun (W : D) (hsame : PureC Tryd.prog G 22 [P, W] (.v (.bool true))) (σ : St) himp => hK3 σ (AW.imp (τ := ⟨lst [(1, int a), (3, .d (dRow l)), (4, .ref 4 0 0), (12, .d P), (13, .d (dErr (errOf c))), (14, .d T), (15, .d (dErr (errOf E))), (16, int t.next.length), (17, int c), (18, .d W)], hlst [(4, boxT t)]⟩) himp ?_))
  · rcases hpc with ⟨hr, rfl, rfl⟩ | ⟨x, y, rfl, rfl, hx, hy, hpc⟩
    · by_cases h1 : a < 0
      · refine AW_rg (tyOf_good _) [1, 2, 3, 4, 9, 12, 13, 14, 15, 16, 17, 18, 85] [4, 9] (fun _ _ => trivial) fun K' hK' => ?_
        repeat (refine sxf_next fun K2 hK2 => ?_; simp [boxT, dNum, h1]; (repeat (refine ⟨by omega, ?_⟩)); refine hK2 _ ?_; clear hK2 K2)
        refine sxf_nil (hK' _ ?_)
        refine AW.st (by simp [boxT, dNum, h1]; rfl) ?_
        clear hK' K'
        refine AW_cond true rfl (fun _ => ?_) (fun h => by cases h)
        refine AW_re (tyOf_good _) fun K' hK' => ?_
        repeat (refine sxf_next fun K2 hK2 => ?_; simp [boxT, dNum]; (repeat (refine ⟨by omega, ?_⟩)); refine hK2 _ ?_; clear hK2 K2)
        refine sxf_nil (hK' _ ?_)
        clear hK' K'
        try simp only [thn, inb]
        refine hcont nilD hnil _ ?_
        refine Imp.to' (fun _ _ => trivial) (by simp [boxT, dNum, nilD, dRow, dInts, dRows]) (by simp [boxT, dNum, nilD, dRow, dInts, dRows])
      by_cases h2 : (t.next.length : Int) ≤ a
      · refine AW_rg (tyOf_good _) [1, 2, 3, 4, 9, 12, 13, 14, 15, 16, 17, 18, 85] [4, 9] (fun _ _ => trivial) fun K' hK' => ?_
        repeat (refine sxf_next fun K2 hK2 => ?_; simp [boxT, dNum, h1, h2]; (repeat (refine ⟨by omega, ?_⟩)); refine hK2 _ ?_; clear hK2 K2)
        refine sxf_nil (hK' _ ?_)
        refine AW.st (by simp [boxT, dNum, h1, h2]; rfl) ?_
        clear hK' K'
        refine AW_cond true rfl (fun _ => ?_) (fun h => by cases h)
        refine AW_re (tyOf_good _) fun K' hK' => ?_
        repeat (refine sxf_next fun K2 hK2 => ?_; simp [boxT, dNum]; (repeat (refine ⟨by omega, ?_⟩)); refine hK2 _ ?_; clear hK2 K2)
        refine sxf_nil (hK' _ ?_)
        clear hK' K'
        try simp only [thn, inb]
        refine hcont nilD hnil _ ?_
        refine Imp.to' (fun _ _ => trivial) (by simp [boxT, dNum, nilD, dRow, dInts, dRows]) (by simp [boxT, dNum, nilD, dRow, dInts, dRows])
      by_cases h3 : b < 0
      · refine AW_rg (tyOf_good _) [1, 2, 3, 4, 9, 12, 13, 14, 15, 16, 17, 18, 85] [4, 9] (fun _ _ => trivial) fun K' hK' => ?_
        repeat (refine sxf_next fun K2 hK2 => ?_; simp [boxT, dNum, h1, h2, h3]; (repeat (refine ⟨by omega, ?_⟩)); refine hK2 _ ?_; clear hK2 K2)
        refine sxf_nil (hK' _ ?_)
        refine AW.st (by simp [boxT, dNum, h1, h2, h3]; rfl) ?_
        clear hK' K'
        refine AW_cond true rfl (fun _ => ?_) (fun h => by cases h)
        refine AW_re (tyOf_good _) fun K' hK' => ?_
        repeat (refine sxf_next fun K2 hK2 => ?_; simp [boxT, dNum]; (repeat (refine ⟨by omega, ?_⟩)); refine hK2 _ ?_; clear hK2 K2)
        refine sxf_nil (hK' _ ?_)
        clear hK' K'
        try simp only [thn, inb]
        refine hcont nilD hnil _ ?_
        refine Imp.to' (fun _ _ => trivial) (by simp [boxT, dNum, nilD, dRow, dInts, dRows]) (by simp [boxT, dNum, nilD, dRow, dInts, dRows])
      have h4 : (t.next.length : Int) ≤ b := by omega
      refine AW_rg (tyOf_good _) [1, 2, 3, 4, 9, 12, 13, 14, 15, 16, 17, 18, 85] [4, 9] (fun _ _ => trivial) fun K' hK' => ?_
      repeat (refine sxf_next fun K2 hK2 => ?_; simp [boxT, dNum, h1, h2, h3, h4]; (repeat (refine ⟨by omega, ?_⟩)); refine hK2 _ ?_; clear hK2 K2)
      refine sxf_nil (hK' _ ?_)
      refine AW.st (by simp [boxT, dNum, h1, h2, h3, h4]; rfl) ?_
      clear hK' K'
      refine AW_cond true rfl (fun _ => ?_) (fun h => by cases h)
      refine AW_re (tyOf_good _) fun K' hK' => ?_
      repeat (refine sxf_next fun K2 hK2 => ?_; simp [boxT, dNum]; (repeat (refine ⟨by omega, ?_⟩)); refine hK2 _ ?_; clear hK2 K2)
      refine sxf_nil (hK' _ ?_)
      clear hK' K'
      try simp only [thn, inb]
      refine hcont nilD hnil _ ?_
      refine Imp.to' (fun _ _ => trivial) (by simp [boxT, dNum, nilD, dRow, dInts, dRows]) (by simp [boxT, dNum, nilD, dRow, dInts, dRows])
    · have h1 : ¬ (x : Int) < 0 := by omega
      have h2 : ¬ t.next.length ≤ x := by omega
      have h3 : ¬ (y : Int) < 0 := by omega
      have h4 : ¬ t.next.length ≤ y := by omega
      refine AW_rg (tyOf_good _) [1, 2, 3, 4, 9, 12, 13, 14, 15, 16, 17, 18, 85] [4, 9] (fun _ _ => trivial) fun K' hK' => ?_
      repeat (refine sxf_next fun K2 hK2 => ?_; simp [boxT, dNum, h1, h2, h3, h4, hx, hy]; (repeat (refine ⟨by omega, ?_⟩)); refine hK2 _ ?_; clear hK2 K2)
      refine sxf_nil (hK' _ ?_)
      refine AW.st (by simp [boxT, dNum, h1, h2, h3, h4, hx, hy]; rfl) ?_
      clear hK' K'
      refine AW_cond false rfl (fun h => by cases h) (fun _ => ?_)
      rcases hpc with ⟨hal, rfl, rfl⟩ | ⟨d, hdk, hd1, hd2, rfl, rfl, hplen⟩
      · have hrp := rpart_none G t ok k hk hs x y hx hy hal
        refine AW_rg (tyOf_good _) [1, 3, 4, 11, 12, 13, 14, 15, 16, 17, 18] [4] (fun _ _ => trivial) fun K' hK' => ?_
        repeat (refine sxf_next fun K2 hK2 => ?_; simp [boxT, dNum, dTab]; (repeat (refine ⟨by omega, ?_⟩)); refine hK2 _ ?_; clear hK2 K2)
        refine sxf_next fun K2 hK2 => ?_
        simp [boxT, dNum, dTab]
        refine callK.data (hrp) (by simp; rfl) (by first | exact D.leGo_refl _ | simp [takeMap, List.map_map, Function.comp_def, D.le, D.le.go, D.le_refl, D.leGo_refl, boxT, dNum, dTab]) ?_
        refine hK2 _ ?_
        clear hK2 K2
        simp only [putd, upd_lst]
        repeat (refine sxf_next fun K2 hK2 => ?_; simp [boxT, dNum, dTab]; (repeat (refine ⟨by omega, ?_⟩)); refine hK2 _ ?_; clear hK2 K2)
        refine sxf_nil (hK' _ ?_)
        refine AW.st (by simp [boxT, dNum, dTab]; rfl) ?_
        clear hK' K'
        refine AW_rg (tyOf_good _) [1, 3, 4, 12, 13, 14, 15, 16, 17, 18, 94] [4] (fun _ _ => trivial) fun K' hK' => ?_
        repeat (refine sxf_next fun K2 hK2 => ?_; simp [boxT, dNum]; (repeat (refine ⟨by omega, ?_⟩)); refine hK2 _ ?_; clear hK2 K2)
        refine sxf_nil (hK' _ ?_)
        refine AW.st (by simp [boxT, dNum]; rfl) ?_
        clear hK' K'
        refine AW_cond true rfl (fun _ => ?_) (fun h => by cases h)
        refine AW_re (tyOf_good _) fun K' hK' => ?_
        repeat (refine sxf_next fun K2 hK2 => ?_; simp [boxT, dNum]; (repeat (refine ⟨by omega, ?_⟩)); refine hK2 _ ?_; clear hK2 K2)
        refine sxf_nil (hK' _ ?_)
        clear hK' K'
        try simp only [thn, inb]
        refine hcont nilD hnil _ ?_
        refine Imp.to' (fun _ _ => trivial) (by simp [boxT, dNum, nilD, dRow, dInts, dRows]) (by simp [boxT, dNum, nilD, dRow, dInts, dRows])
      · have hrp := rpart_good G t ok k hk hs x y d hx hy hdk hd1 hd2
        have hsame := lsameInts_spec G none none (partF t (d + 1) x y) (partF t (d + 1) x y) (by omega)
        rw [show (partF t (d + 1) x y == partF t (d + 1) x y) = true by simp] at hsame
        generalize partF t (d + 1) x y = R at hrp hsame hcont hPart
        refine AW_rg (tyOf_good _) [1, 3, 4, 11, 12, 13, 14, 15, 16, 17, 18] [4] (fun _ _ => trivial) fun K' hK' => ?_
        repeat (refine sxf_next fun K2 hK2 => ?_; simp [boxT, dNum, dTab]; (repeat (refine ⟨by omega, ?_⟩)); refine hK2 _ ?_; clear hK2 K2)
        refine sxf_next fun K2 hK2 => ?_
        simp [boxT, dNum, dTab]
        refine callK.data (hrp) (by simp; rfl) (by first | exact D.leGo_refl _ | simp [takeMap, List.map_map, Function.comp_def, D.le, D.le.go, D.le_refl, D.leGo_refl, boxT, dNum, dTab]) ?_
        refine hK2 _ ?_
        clear hK2 K2
        simp only [putd, upd_lst]
        repeat (refine sxf_next fun K2 hK2 => ?_; simp [boxT, dNum, dTab]; (repeat (refine ⟨by omega, ?_⟩)); refine hK2 _ ?_; clear hK2 K2)
        refine sxf_nil (hK' _ ?_)
        refine AW.st (by simp [boxT, dNum, dTab]; rfl) ?_
        clear hK' K'
        refine AW_rg (tyOf_good _) [1, 3, 4, 12, 13, 14, 15, 16, 17, 18, 94] [4] (fun _ _ => trivial) fun K' hK' => ?_
        repeat (refine sxf_next fun K2 hK2 => ?_; simp [boxT, dNum]; (repeat (refine ⟨by omega, ?_⟩)); refine hK2 _ ?_; clear hK2 K2)
        refine sxf_nil (hK' _ ?_)
        refine AW.st (by simp [boxT, dNum]; rfl) ?_
        clear hK' K'
        refine AW_cond false rfl (fun h => by cases h) (fun _ => ?_)
        refine AW_skip (hcont (dRow R) hsame _ ?_)
        refine Imp.to' (fun _ _ => trivial) (by simp [boxT, dNum, dRow, dInts, dRows]) (by simp [boxT, dNum, dRow, dInts, dRows])
  · clear hpc
    refine AW_then fun K4 hK4 => ?_
    refine AW_rg (tyOf_good _) [1, 3, 4, 14, 15, 16, 104] [4] (fun _ _ => trivial) fun K' hK' => ?_
    repeat (refine sxf_next fun K2 hK2 => ?_; simp [boxT, dNum]; (repeat (refine ⟨by omega, ?_⟩)); refine hK2 _ ?_; clear hK2 K2)
    refine sxf_next fun K2 hK2 => ?_
    simp [boxT, dNum]
    refine callK.data (bare_spec G hG c) (by simp; rfl) (by first | exact D.leGo_refl _ | simp [takeMap, List.map_map, Function.comp_def, D.le, D.le.go, D.le_refl, D.leGo_refl, boxT, dNum]) ?_
    refine hK2 _ ?_
    clear hK2 K2
    simp only [putd, upd_lst]
    repeat (refine sxf_next fun K2 hK2 => ?_; simp [boxT, dNum]; (repeat (refine ⟨by omega, ?_⟩)); refine hK2 _ ?_; clear hK2 K2)
    refine sxf_next fun K2 hK2 => ?_
    simp [boxT, dNum]
    refine callK.data (hsame) (by simp; rfl) (by first | exact D.leGo_refl _ | simp [takeMap, List.map_map, Function.comp_def, D.le, D.le.go, D.le_refl, D.leGo_refl, boxT, dNum]) ?_
    refine hK2 _ ?_
    clear hK2 K2
    simp only [putd, upd_lst]
    repeat (refine sxf_next fun K2 hK2 => ?_; simp [boxT, dNum]; (repeat (refine ⟨by omega, ?_⟩)); refine hK2 _ ?_; clear hK2 K2)
    refine sxf_nil (hK' _ ?_)
    refine AW.st (by simp [boxT, dNum]; rfl) ?_
    clear hK' K'
    refine AW_cond false rfl (fun h => by cases h) (fun _ => ?_)
    refine AW_skip (hK4 _ ?_)
    refine AW_rg (tyOf_good _) [1, 3, 4, 14, 15, 16, 17, 18] [4] (fun _ _ => trivial) fun K' hK' => ?_
    repeat (refine sxf_next fun K2 hK2 => ?_; simp [boxT, dNum]; (repeat (refine ⟨by omega, ?_⟩)); refine hK2 _ ?_; clear hK2 K2)
    refine sxf_nil (hK' _ ?_)
    refine AW.st (by simp [boxT, dNum]; rfl) ?_
    clear hK' K'
    refine AW_then fun K5 hK5 => ?_
    rcases hcase with ⟨s, rfl, hsn, hT⟩ | ⟨hr, rfl, rfl⟩
    · have h1 : ¬ (s : Int) < 0 := by omega
      have h2 : ¬ t.next.length ≤ s := by omega
      refine AW_rg (tyOf_good _) [1, 3, 4, 14, 15, 17, 18, 111] [4] (fun _ _ => trivial) fun K' hK' => ?_
      repeat (refine sxf_next fun K2 hK2 => ?_; simp [boxT, dNum, h1, h2, hsn]; (repeat (refine ⟨by omega, ?_⟩)); refine hK2 _ ?_; clear hK2 K2)
      refine sxf_nil (hK' _ ?_)
      refine AW.st (by simp [boxT, dNum, h1, h2, hsn]; rfl) ?_
      clear hK' K'
      refine AW_cond false rfl (fun h => by cases h) (fun _ => ?_)
      refine AW_skip (hK5 _ ?_)
      refine AW_then fun K6 hK6 => ?_
      refine AW_rg (tyOf_good _) [3, 4, 14, 15, 17, 18, 19, 20] [4] (fun _ _ => trivial) fun K' hK' => ?_
      repeat (refine sxf_next fun K2 hK2 => ?_; simp [boxT, dNum]; (repeat (refine ⟨by omega, ?_⟩)); refine hK2 _ ?_; clear hK2 K2)
      refine sxf_nil (hK' _ ?_)
      refine AW.st (by simp [boxT, dNum]; rfl) ?_
      clear hK' K'
      have hgo : ∀ i, (∀ j (hj : j < l.length), j < i → badI t l[j] = false) → ∀ c ∈ (l.map Int.toNat).take i, c < wd t := fun i h => by
        rw [← List.map_take]
        refine (nats_of (List.any_eq_false.2 fun x hx => ?_)).2
        obtain ⟨j, hj, rfl⟩ := List.mem_iff_getElem.1 hx
        rw [List.getElem_take]
        simp only [List.length_take] at hj
        rw [h j (by omega) (by omega)]
        simp
      refine AW_for (S := Nat) (fun i => i ≤ l.length ∧ ∀ j (hj : j < l.length), j < i → badI t l[j] = false) (fun i => ⟨lst [(3, .d (dRow l)), (4, .ref 4 0 0), (14, .d T), (15, .d (dErr (errOf E))), (17, int 0), (18, .own 190 0 i), (19, int i), (20, int (goF t s ((l.map Int.toNat).take i)))],
        hlst [(4, boxT t), (190, rowI (tellF t s ((l.map Int.toNat).take i)))]⟩) (fun i => l.length - i) 0 ?_ (by simp) ?_
      · refine (Imp.adopt 18 190 3 1 rfl rfl).trans ?_
        refine Imp.to' (fun _ _ => trivial) (by simp [boxT, dNum, rowI, dRow, dInts, dRows, goF, tellF]) (by simp [boxT, dNum, rowI, dRow, dInts, dRows, goF, tellF])
      · rintro i ⟨hi, hgood⟩
        have hgl := hgo i hgood
        have hcur := goF_lt ok ((l.map Int.toNat).take i) s hsn hgl
        have htl : (tellF t s ((l.map Int.toNat).take i)).length = i := by rw [tellF_len]; simp; omega
        refine AW_then fun K7 hK7 => ?_
        by_cases hil : i < l.length
        · refine AW_rg (tyOf_good _) [3, 4, 14, 15, 17, 18, 19, 20, 120] [4, 190] (fun _ _ => trivial) fun K' hK' => ?_
          repeat (refine sxf_next fun K2 hK2 => ?_; simp [boxT, dNum, rowI, dRow, dInts, hil]; (repeat (refine ⟨by omega, ?_⟩)); refine hK2 _ ?_; clear hK2 K2)
          refine sxf_nil (hK' _ ?_)
          refine AW.st (by simp [boxT, dNum, rowI, dRow, dInts, hil]; rfl) ?_
          clear hK' K'
          refine AW_cond true rfl (fun _ => ?_) (fun h => by cases h)
          refine AW_skip (hK7 _ ?_)
          refine AW_then fun K8 hK8 => ?_
          refine AW_block ?_
          refine AW_then fun K9 hK9 => ?_
          by_cases hb : badI t l[i] = true
          · have hany : l.any (badI t) = true := List.any_eq_true.2 ⟨_, List.getElem_mem hil, hb⟩
            rcases hT with ⟨_, rfl, rfl⟩ | ⟨h, _, _⟩
            · by_cases h5 : l[i] < 0
              · refine AW_rd (tyOf_good _) (by kernel_rfl) [3, 4, 14, 15, 17, 18, 19, 20, 139] [4, 190] (fun _ _ => trivial) (by kernel_rfl) fun K' hK' => ?_
                repeat (refine sxd_next fun K2 hK2 => ?_; simp [boxT, dNum, rowI, dRow, dInts, hil, h5]; (repeat (refine ⟨by omega, ?_⟩)); refine hK2 _ ?_; clear hK2 K2)
                refine sxd_nil (hK' _ ?_)
                refine AW.st (by simp [boxT, dNum, rowI, dRow, dInts, hil, h5]; rfl) ?_
                clear hK' K'
                refine AW_cond true rfl (fun _ => ?_) (fun h => by cases h)
                refine AW_rg (tyOf_good _) [14, 15, 17, 18] [] (fun _ _ => trivial) fun K' hK' => ?_
                repeat (refine sxf_next fun K2 hK2 => ?_; simp [boxT, dNum]; (repeat (refine ⟨by omega, ?_⟩)); refine hK2 _ ?_; clear hK2 K2)
                refine sxf_nil (hK' _ ?_)
                refine AW.st (by simp [boxT, dNum]; rfl) ?_
                clear hK' K'
                refine AW_exit (hK6 _ ?_)
                refine AW_rg (tyOf_good _) [8] [] (fun _ _ => trivial) fun K' hK' => ?_
                repeat (refine sxf_next fun K2 hK2 => ?_; simp [boxT, dNum, nilD]; (repeat (refine ⟨by omega, ?_⟩)); refine hK2 _ ?_; clear hK2 K2)
                refine sxf_next fun K2 hK2 => ?_
                simp [boxT, dNum, nilD]
                refine callK.data (bare_spec G hG 2) (by simp; rfl) (by first | exact D.leGo_refl _ | simp [takeMap, List.map_map, Function.comp_def, D.le, D.le.go, D.le_refl, D.leGo_refl, boxT, dNum, nilD]) ?_
                refine hK2 _ ?_
                clear hK2 K2
                simp only [putd, upd_lst]
                repeat (refine sxf_next fun K2 hK2 => ?_; simp [boxT, dNum, nilD]; (repeat (refine ⟨by omega, ?_⟩)); refine hK2 _ ?_; clear hK2 K2)
                refine sxf_next fun K2 hK2 => ?_
                simp [boxT, dNum, nilD]
                refine callK.data (hnil) (by simp; rfl) (by first | exact D.leGo_refl _ | simp [takeMap, List.map_map, Function.comp_def, D.le, D.le.go, D.le_refl, D.leGo_refl, boxT, dNum, nilD]) ?_
                refine hK2 _ ?_
                clear hK2 K2
                simp only [putd, upd_lst]
                repeat (refine sxf_next fun K2 hK2 => ?_; simp [boxT, dNum, nilD]; (repeat (refine ⟨by omega, ?_⟩)); refine hK2 _ ?_; clear hK2 K2)
                refine sxf_nil (hK' _ ?_)
                refine AW.st (by simp [boxT, dNum, nilD]; rfl) ?_
                clear hK' K'
                refine AW_ret ?_
                simp [D.le, D.le.go, takeMap, boxT, dNum]
              · have h6 : (wd t : Int) ≤ l[i] := by simp [badI, h5] at hb; exact hb
                refine AW_rd (tyOf_good _) (by kernel_rfl) [3, 4, 14, 15, 17, 18, 19, 20, 139] [4, 190] (fun _ _ => trivial) (by kernel_rfl) fun K' hK' => ?_
                repeat (refine sxd_next fun K2 hK2 => ?_; simp [boxT, dNum, rowI, dRow, dInts, dRows, hil, h5, h6, hp, hw0]; (repeat (refine ⟨by omega, ?_⟩)); refine hK2 _ ?_; clear hK2 K2)
                refine sxd_nil (hK' _ ?_)
                refine AW.st (by simp [boxT, dNum, rowI, dRow, dInts, dRows, hil, h5, h6, hp, hw0]; rfl) ?_
                clear hK' K'
                refine AW_cond true rfl (fun _ => ?_) (fun h => by cases h)
                refine AW_rg (tyOf_good _) [14, 15, 17, 18] [] (fun _ _ => trivial) fun K' hK' => ?_
                repeat (refine sxf_next fun K2 hK2 => ?_; simp [boxT, dNum]; (repeat (refine ⟨by omega, ?_⟩)); refine hK2 _ ?_; clear hK2 K2)
                refine sxf_nil (hK' _ ?_)
                refine AW.st (by simp [boxT, dNum]; rfl) ?_
                clear hK' K'
                refine AW_exit (hK6 _ ?_)
                refine AW_rg (tyOf_good _) [8] [] (fun _ _ => trivial) fun K' hK' => ?_
                repeat (refine sxf_next fun K2 hK2 => ?_; simp [boxT, dNum, nilD]; (repeat (refine ⟨by omega, ?_⟩)); refine hK2 _ ?_; clear hK2 K2)
                refine sxf_next fun K2 hK2 => ?_
                simp [boxT, dNum, nilD]
                refine callK.data (bare_spec G hG 2) (by simp; rfl) (by first | exact D.leGo_refl _ | simp [takeMap, List.map_map, Function.comp_def, D.le, D.le.go, D.le_refl, D.leGo_refl, boxT, dNum, nilD]) ?_
                refine hK2 _ ?_
                clear hK2 K2
                simp only [putd, upd_lst]
                repeat (refine sxf_next fun K2 hK2 => ?_; simp [boxT, dNum, nilD]; (repeat (refine ⟨by omega, ?_⟩)); refine hK2 _ ?_; clear hK2 K2)
                refine sxf_next fun K2 hK2 => ?_
                simp [boxT, dNum, nilD]
                refine callK.data (hnil) (by simp; rfl) (by first | exact D.leGo_refl _ | simp [takeMap, List.map_map, Function.comp_def, D.le, D.le.go, D.le_refl, D.leGo_refl, boxT, dNum, nilD]) ?_
                refine hK2 _ ?_
                clear hK2 K2
                simp only [putd, upd_lst]
                repeat (refine sxf_next fun K2 hK2 => ?_; simp [boxT, dNum, nilD]; (repeat (refine ⟨by omega, ?_⟩)); refine hK2 _ ?_; clear hK2 K2)
                refine sxf_nil (hK' _ ?_)
                refine AW.st (by simp [boxT, dNum, nilD]; rfl) ?_
                clear hK' K'
                refine AW_ret ?_
                simp [D.le, D.le.go, takeMap, boxT, dNum]
            · rw [h] at hany; cases hany
          · have h5 : ¬ l[i] < 0 := by simp [badI] at hb; omega
            have h6 : ¬ (wd t : Int) ≤ l[i] := by simp [badI] at hb; omega
            have h7 : 0 ≤ l[i] := by omega
            have hbf : badI t l[i] = false := by simpa using hb
            have hsnoc : (l.map Int.toNat).take (i + 1) = (l.map Int.toNat).take i ++ [l[i].toNat] := by rw [← List.map_take, ← List.map_take, List.take_succ_eq_append_getElem hil, List.map_append]; rfl
            have hts := tellF_snoc t l[i].toNat ((l.map Int.toNat).take i) s
            have hgs := goF_snoc t l[i].toNat ((l.map Int.toNat).take i) s
            rw [← hsnoc] at hts hgs
            generalize goF t s ((l.map Int.toNat).take i) = cur at hcur hts hgs
            generalize tellF t s ((l.map Int.toNat).take i) = W at htl hts
            have hcur : cur < t.next.length := hcur
            have hxw : l[i].toNat < wd t := by omega
            obtain ⟨_, hia, hta, hita, lo1, hi1, lt1, nx1, te1⟩ := atTab ok hcur hxw
            rw [te1] at hts
            rw [nx1] at hgs
            have hx1 : l[i] < ((t.tells[cur]).length : Int) := by omega
            have hx2 : l[i] < ((t.next[cur]).length : Int) := by omega
            have hxz : ((t.next[cur][l[i].toNat].toNat : Nat) : Int) = t.next[cur][l[i].toNat] := by omega
            have hpt : ∀ f : Int → List D, List.take i (List.map f W) = List.map f W := fun f => List.take_of_length_le (by simp [htl])
            refine AW_rd (tyOf_good _) (by kernel_rfl) [3, 4, 14, 15, 17, 18, 19, 20, 139] [4, 190] (fun _ _ => trivial) (by kernel_rfl) fun K' hK' => ?_
            repeat (refine sxd_next fun K2 hK2 => ?_; simp [boxT, dNum, rowI, dRow, dInts, dRows, hil, h5, h6, hp, hw0]; (repeat (refine ⟨by omega, ?_⟩)); refine hK2 _ ?_; clear hK2 K2)
            refine sxd_nil (hK' _ ?_)
            refine AW.st (by simp [boxT, dNum, rowI, dRow, dInts, dRows, hil, h5, h6, hp, hw0]; rfl) ?_
            clear hK' K'
            refine AW_cond false rfl (fun h => by cases h) (fun _ => ?_)
            refine AW_skip (hK9 _ ?_)
            refine AW_rd (tyOf_good _) (by kernel_rfl) [3, 4, 14, 15, 17, 18, 19, 20] [4, 190] (fun _ _ => trivial) (by kernel_rfl) fun K' hK' => ?_
            repeat (refine sxd_next fun K2 hK2 => ?_; simp [boxT, dNum, rowI, dRow, dInts, dRows, hil, hta, hita, h7, hx1, hpt, htl]; (repeat (refine ⟨by omega, ?_⟩)); refine hK2 _ ?_; clear hK2 K2)
            refine sxd_nil (hK' _ ?_)
            refine AW.st (by simp [boxT, dNum, rowI, dRow, dInts, dRows, hil, hta, hita, h7, hx1, hpt, htl]; rfl) ?_
            clear hK' K'
            refine AW_rde (tyOf_good _) (by kernel_rfl) (by kernel_rfl) fun K' hK' => ?_
            repeat (refine sxd_next fun K2 hK2 => ?_; simp [boxT, dNum, rowI, dRow, dInts, dRows, hil, hcur, hia, h7, hx2]; (repeat (refine ⟨by omega, ?_⟩)); refine hK2 _ ?_; clear hK2 K2)
            refine sxd_nil (hK' _ ?_)
            clear hK' K'
            refine hK8 _ (AW.norm [3, 4, 14, 15, 17, 18, 19, 20] [4, 190] (fun _ _ => trivial) (AW.st (by simp [boxT, dNum, rowI, dRow, dInts, dRows, hil, hcur, hia, h7, hx2]; rfl) ?_))
            refine AW_re (tyOf_good _) fun K' hK' => ?_
            repeat (refine sxf_next fun K2 hK2 => ?_; simp [boxT, dNum]; (repeat (refine ⟨by omega, ?_⟩)); refine hK2 _ ?_; clear hK2 K2)
            refine sxf_nil (hK' _ ?_)
            clear hK' K'
            try simp only [thn, inb]
            refine Again.mk (i + 1) ⟨by omega, fun j hj hji => ?_⟩ (by omega) ?_
            · rcases Nat.lt_or_ge j i with h | h
              · exact hgood j hj h
              · obtain rfl : j = i := by omega
                exact hbf
            refine Imp.to' (fun _ _ => trivial) (by simp [boxT, dNum, rowI, dRow, dInts, dRows, hts, hgs, hxz]) (by simp [boxT, dNum, rowI, dRow, dInts, dRows, hts, hgs, hxz])
        · obtain rfl : i = l.length := by omega
          have hnone : l.any (badI t) = false := List.any_eq_false.2 fun x hx => by
            obtain ⟨j, hj, rfl⟩ := List.mem_iff_getElem.1 hx
            rw [hgood j hj hj]
            simp
          rcases hT with ⟨h, _, _⟩ | ⟨_, rfl, rfl⟩
          · rw [h] at hnone; cases hnone
          · rw [List.take_of_length_le (by simp)] at htl ⊢
            have hsame := lsameInts_spec G none none (tellF t s (l.map Int.toNat)) (tellF t s (l.map Int.toNat)) (by omega)
            rw [show (tellF t s (l.map Int.toNat) == tellF t s (l.map Int.toNat)) = true by simp] at hsame
            refine AW_rg (tyOf_good _) [14, 15, 17, 18, 120] [190] (fun _ _ => trivial) fun K' hK' => ?_
            repeat (refine sxf_next fun K2 hK2 => ?_; simp [boxT, dNum, rowI, dRow, dInts]; (repeat (refine ⟨by omega, ?_⟩)); refine hK2 _ ?_; clear hK2 K2)
            refine sxf_nil (hK' _ ?_)
            refine AW.st (by simp [boxT, dNum, rowI, dRow, dInts]; rfl) ?_
            clear hK' K'
            refine AW_cond false rfl (fun h => by cases h) (fun _ => ?_)
            refine AW_exit (hK6 _ ?_)
            generalize tellF t s (l.map Int.toNat) = W at htl hsame
            refine AW.imp (Imp.freeze 190 trivial) ?_
            refine AW.st (by simp [boxT, dNum, rowI, htl]; rfl) ?_
            refine AW_rg (tyOf_good _) [8] [] (fun _ _ => trivial) fun K' hK' => ?_
            repeat (refine sxf_next fun K2 hK2 => ?_; simp [boxT, dNum, dRow, dInts]; (repeat (refine ⟨by omega, ?_⟩)); refine hK2 _ ?_; clear hK2 K2)
            refine sxf_next fun K2 hK2 => ?_
            simp [boxT, dNum, dRow, dInts]
            refine callK.data (bare_spec G hG 0) (by simp; rfl) (by first | exact D.leGo_refl _ | simp [takeMap, List.map_map, Function.comp_def, D.le, D.le.go, D.le_refl, D.leGo_refl, boxT, dNum, dRow, dInts]) ?_
            refine hK2 _ ?_
            clear hK2 K2
            simp only [putd, upd_lst]
            repeat (refine sxf_next fun K2 hK2 => ?_; simp [boxT, dNum, dRow, dInts]; (repeat (refine ⟨by omega, ?_⟩)); refine hK2 _ ?_; clear hK2 K2)
            refine sxf_next fun K2 hK2 => ?_
            simp [boxT, dNum, dRow, dInts]
            refine callK.data (hsame) (by simp; rfl) (by first | exact D.leGo_refl _ | simp [takeMap, List.map_map, Function.comp_def, D.le, D.le.go, D.le_refl, D.leGo_refl, boxT, dNum, dRow, dInts]) ?_
            refine hK2 _ ?_
            clear hK2 K2
            simp only [putd, upd_lst]
            repeat (refine sxf_next fun K2 hK2 => ?_; simp [boxT, dNum, dRow, dInts]; (repeat (refine ⟨by omega, ?_⟩)); refine hK2 _ ?_; clear hK2 K2)
            refine sxf_nil (hK' _ ?_)
            refine AW.st (by simp [boxT, dNum, dRow, dInts]; rfl) ?_
            clear hK' K'
            refine AW_ret ?_
            simp [D.le, D.le.go, takeMap, boxT, dNum]
    · have hcond : ∀ K : Prop, K → K := fun _ h => h
      refine (fun hend => ?_) (fun (σ : St) himp => hK5 σ (AW.imp (τ := ⟨lst [(1, int a), (3, .d (dRow l)), (4, .ref 4 0 0), (14, .d nilD), (15, .d (dErr (errOf 2))), (17, int 2), (18, .d nilD)], hlst [(4, boxT t)]⟩) himp ?_))
      · by_cases h1 : a < 0
        · refine AW_rg (tyOf_good _) [1, 3, 4, 14, 15, 17, 18, 111] [4] (fun _ _ => trivial) fun K' hK' => ?_
          repeat (refine sxf_next fun K2 hK2 => ?_; simp [boxT, dNum, h1]; (repeat (refine ⟨by omega, ?_⟩)); refine hK2 _ ?_; clear hK2 K2)
          refine sxf_nil (hK' _ ?_)
          refine AW.st (by simp [boxT, dNum, h1]; rfl) ?_
          clear hK' K'
          refine AW_cond true rfl (fun _ => ?_) (fun h => by cases h)
          refine AW_re (tyOf_good _) fun K' hK' => ?_
          repeat (refine sxf_next fun K2 hK2 => ?_; simp [boxT, dNum]; (repeat (refine ⟨by omega, ?_⟩)); refine hK2 _ ?_; clear hK2 K2)
          refine sxf_nil (hK' _ ?_)
          clear hK' K'
          try simp only [thn, inb]
          refine hend _ ?_
          refine Imp.to' (fun _ _ => trivial) (by simp [boxT, dNum, nilD, dRow, dInts, dRows]) (by simp [boxT, dNum, nilD, dRow, dInts, dRows])
        · have h2 : (t.next.length : Int) ≤ a := by omega
          refine AW_rg (tyOf_good _) [1, 3, 4, 14, 15, 17, 18, 111] [4] (fun _ _ => trivial) fun K' hK' => ?_
          repeat (refine sxf_next fun K2 hK2 => ?_; simp [boxT, dNum, h1, h2]; (repeat (refine ⟨by omega, ?_⟩)); refine hK2 _ ?_; clear hK2 K2)
          refine sxf_nil (hK' _ ?_)
          refine AW.st (by simp [boxT, dNum, h1, h2]; rfl) ?_
          clear hK' K'
          refine AW_cond true rfl (fun _ => ?_) (fun h => by cases h)
          refine AW_re (tyOf_good _) fun K' hK' => ?_
          repeat (refine sxf_next fun K2 hK2 => ?_; simp [boxT, dNum]; (repeat (refine ⟨by omega, ?_⟩)); refine hK2 _ ?_; clear hK2 K2)
          refine sxf_nil (hK' _ ?_)
          clear hK' K'
          try simp only [thn, inb]
          refine hend _ ?_
          refine Imp.to' (fun _ _ => trivial) (by simp [boxT, dNum, nilD, dRow, dInts, dRows]) (by simp [boxT, dNum, nilD, dRow, dInts, dRows])
      · refine AW_then fun K6 hK6 => ?_
        refine AW_rg (tyOf_good _) [3, 4, 14, 15, 17, 18, 19, 20] [4] (fun _ _ => trivial) fun K' hK' => ?_
        repeat (refine sxf_next fun K2 hK2 => ?_; simp [boxT, dNum]; (repeat (refine ⟨by omega, ?_⟩)); refine hK2 _ ?_; clear hK2 K2)
        refine sxf_nil (hK' _ ?_)
        refine AW.st (by simp [boxT, dNum]; rfl) ?_
        clear hK' K'
        refine AW_for (S := Unit) (fun _ => True) (fun _ => ⟨lst [(3, .d (dRow l)), (14, .d nilD), (15, .d (dErr (errOf 2))), (17, int 2), (18, .d nilD), (19, int 0)], hlst [(4, boxT t)]⟩) (fun _ => 0) () ?_ trivial ?_
        · refine Imp.to' (fun _ _ => trivial) (by simp [boxT, dNum, nilD, dRow, dInts, dRows]) (by simp [boxT, dNum, nilD, dRow, dInts, dRows])
        · intro _ _
          refine AW_then fun K7 hK7 => ?_
          by_cases h0 : 0 < l.length
          · refine AW_rg (tyOf_good _) [14, 15, 17, 18, 120] [4] (fun _ _ => trivial) fun K' hK' => ?_
            repeat (refine sxf_next fun K2 hK2 => ?_; simp [boxT, dNum, dRow, dInts, h0]; (repeat (refine ⟨by omega, ?_⟩)); refine hK2 _ ?_; clear hK2 K2)
            refine sxf_nil (hK' _ ?_)
            refine AW.st (by simp [boxT, dNum, dRow, dInts, h0]; rfl) ?_
            clear hK' K'
            refine AW_cond false rfl (fun h => by cases h) (fun _ => ?_)
            refine AW_exit (hK6 _ ?_)
            refine AW_rg (tyOf_good _) [8] [] (fun _ _ => trivial) fun K' hK' => ?_
            repeat (refine sxf_next fun K2 hK2 => ?_; simp [boxT, dNum]; (repeat (refine ⟨by omega, ?_⟩)); refine hK2 _ ?_; clear hK2 K2)
            refine sxf_next fun K2 hK2 => ?_
            simp [boxT, dNum]
            refine callK.data (bare_spec G hG 2) (by simp; rfl) (by first | exact D.leGo_refl _ | simp [takeMap, List.map_map, Function.comp_def, D.le, D.le.go, D.le_refl, D.leGo_refl, boxT, dNum]) ?_
            refine hK2 _ ?_
            clear hK2 K2
            simp only [putd, upd_lst]
            repeat (refine sxf_next fun K2 hK2 => ?_; simp [boxT, dNum]; (repeat (refine ⟨by omega, ?_⟩)); refine hK2 _ ?_; clear hK2 K2)
            refine sxf_next fun K2 hK2 => ?_
            simp [boxT, dNum]
            refine callK.data (hnil) (by simp; rfl) (by first | exact D.leGo_refl _ | simp [takeMap, List.map_map, Function.comp_def, D.le, D.le.go, D.le_refl, D.leGo_refl, boxT, dNum]) ?_
            refine hK2 _ ?_
            clear hK2 K2
            simp only [putd, upd_lst]
            repeat (refine sxf_next fun K2 hK2 => ?_; simp [boxT, dNum]; (repeat (refine ⟨by omega, ?_⟩)); refine hK2 _ ?_; clear hK2 K2)
            refine sxf_nil (hK' _ ?_)
            refine AW.st (by simp [boxT, dNum]; rfl) ?_
            clear hK' K'
            refine AW_ret ?_
            simp [D.le, D.le.go, takeMap, boxT, dNum]
          · refine AW_rg (tyOf_good _) [14, 15, 17, 18, 120] [4] (fun _ _ => trivial) fun K' hK' => ?_
            repeat (refine sxf_next fun K2 hK2 => ?_; simp [boxT, dNum, dRow, dInts, h0]; (repeat (refine ⟨by omega, ?_⟩)); refine hK2 _ ?_; clear hK2 K2)
            refine sxf_nil (hK' _ ?_)
            refine AW.st (by simp [boxT, dNum, dRow, dInts, h0]; rfl) ?_
            clear hK' K'
            refine AW_cond false rfl (fun h => by cases h) (fun _ => ?_)
            refine AW_exit (hK6 _ ?_)
            refine AW_rg (tyOf_good _) [8] [] (fun _ _ => trivial) fun K' hK' => ?_
            repeat (refine sxf_next fun K2 hK2 => ?_; simp [boxT, dNum]; (repeat (refine ⟨by omega, ?_⟩)); refine hK2 _ ?_; clear hK2 K2)
            refine sxf_next fun K2 hK2 => ?_
            simp [boxT, dNum]
            refine callK.data (bare_spec G hG 2) (by simp; rfl) (by first | exact D.leGo_refl _ | simp [takeMap, List.map_map, Function.comp_def, D.le, D.le.go, D.le_refl, D.leGo_refl, boxT, dNum]) ?_
            refine hK2 _ ?_
            clear hK2 K2
            simp only [putd, upd_lst]
            repeat (refine sxf_next fun K2 hK2 => ?_; simp [boxT, dNum]; (repeat (refine ⟨by omega, ?_⟩)); refine hK2 _ ?_; clear hK2 K2)
            refine sxf_next fun K2 hK2 => ?_
            simp [boxT, dNum]
            refine callK.data (hnil) (by simp; rfl) (by first | exact D.leGo_refl _ | simp [takeMap, List.map_map, Function.comp_def, D.le, D.le.go, D.le_refl, D.leGo_refl, boxT, dNum]) ?_
            refine hK2 _ ?_
            clear hK2 K2
            simp only [putd, upd_lst]
            repeat (refine sxf_next fun K2 hK2 => ?_; simp [boxT, dNum]; (repeat (refine ⟨by omega, ?_⟩)); refine hK2 _ ?_; clear hK2 K2)
            refine sxf_nil (hK' _ ?_)
            refine AW.st (by simp [boxT, dNum]; rfl) ?_
            clear hK' K'
            refine AW_ret ?_
            simp [D.le, D.le.go, takeMap, boxT, dNum]
#print axioms parts_good
end Go.Proofs.YtoikggboakojlaaDoor

/-
  The least inputs by which two states are told apart, and what is told of inputs, are the document's.
-/
namespace Go.Proofs.YtoikggboakojlaaDoor
set_option linter.unusedSimpArgs false
set_option linter.unusedVariables false
open Go.Av

set_option maxHeartbeats 4000000 in
theorem parts_true (G : Glob) (t : Tab) (a b : Int) (l : List Int) (c p : Int) (okb : Bool)
    (htab : PureC Tryd.prog G 16 [dTab t] (.tup [.agg [dRows t.next, dRows t.tells], .agg [dNum c, dNum p], .v (.bool okb)])) (h : okb = false ∨ (60 : Int) < l.length) :
    PureC Tryd.prog G 5 [dTab t, dNum a, dNum b, dRow l] (.v (.bool true)) := by
  refine PureC.of_body (tyOf_good _) Tryd.func5 rfl rfl (rs := [.tmp 8]) Tryd.results5 (by simp [Tryd.ntmps5]) fun X => ?_
  simp only [Tryd.ntmps5, List.map]
  refine AW_rg (tyOf_good _) [1, 2, 3, 4] [4] (fun _ _ => trivial) fun K' hK' => ?_
  repeat (refine sxf_next fun K2 hK2 => ?_; simp [dTab, dNum]; (repeat (refine ⟨by omega, ?_⟩)); refine hK2 _ ?_; clear hK2 K2)
  refine sxf_nil (hK' _ ?_)
  refine AW.st (by simp [dTab, dNum]; rfl) ?_
  clear hK' K'
  refine AW_rg (tyOf_good _) [1, 2, 3, 4, 9, 10, 11] [4, 9, 10] (fun _ _ => trivial) fun K' hK' => ?_
  repeat (refine sxf_next fun K2 hK2 => ?_; simp [dTab, dRows, dNum]; (repeat (refine ⟨by omega, ?_⟩)); refine hK2 _ ?_; clear hK2 K2)
  refine sxf_next fun K2 hK2 => ?_
  simp [dTab, dRows, dNum]
  refine callK.data (htab) (by simp; rfl) (by first | exact D.leGo_refl _ | simp [takeMap, List.map_map, Function.comp_def, D.le, D.le.go, D.le_refl, D.leGo_refl, dTab, dRows, dNum]) ?_
  refine hK2 _ ?_
  clear hK2 K2
  simp only [putd, upd_lst]
  repeat (refine sxf_next fun K2 hK2 => ?_; simp [dTab, dRows, dNum]; (repeat (refine ⟨by omega, ?_⟩)); refine hK2 _ ?_; clear hK2 K2)
  refine sxf_nil (hK' _ ?_)
  refine AW.st (by simp [dTab, dRows, dNum]; rfl) ?_
  clear hK' K'
  refine AW_then fun K1 hK1 => ?_
  cases okb with
  | false =>
    refine AW_rg (tyOf_good _) [33] [4, 9, 10] (fun _ _ => trivial) fun K' hK' => ?_
    repeat (refine sxf_next fun K2 hK2 => ?_; simp [dRow, dInts]; (repeat (refine ⟨by omega, ?_⟩)); refine hK2 _ ?_; clear hK2 K2)
    refine sxf_nil (hK' _ ?_)
    refine AW.st (by simp [dRow, dInts]; rfl) ?_
    clear hK' K'
    refine AW_cond true rfl (fun _ => ?_) (fun h => by cases h)
    refine AW_rg (tyOf_good _) [8] [] (fun _ _ => trivial) fun K' hK' => ?_
    repeat (refine sxf_next fun K2 hK2 => ?_; simp; (repeat (refine ⟨by omega, ?_⟩)); refine hK2 _ ?_; clear hK2 K2)
    refine sxf_nil (hK' _ ?_)
    refine AW.st (by simp; rfl) ?_
    clear hK' K'
    refine AW_ret ?_
    simp [D.le, D.le.go, takeMap]
  | true =>
    have h60 : (60 : Int) < l.length := by rcases h with h | h; cases h; exact h
    refine AW_rg (tyOf_good _) [33] [4, 9, 10] (fun _ _ => trivial) fun K' hK' => ?_
    repeat (refine sxf_next fun K2 hK2 => ?_; simp [dRow, dInts, h60]; (repeat (refine ⟨by omega, ?_⟩)); refine hK2 _ ?_; clear hK2 K2)
    refine sxf_nil (hK' _ ?_)
    refine AW.st (by simp [dRow, dInts, h60]; rfl) ?_
    clear hK' K'
    refine AW_cond true rfl (fun _ => ?_) (fun h => by cases h)
    refine AW_rg (tyOf_good _) [8] [] (fun _ _ => trivial) fun K' hK' => ?_
    repeat (refine sxf_next fun K2 hK2 => ?_; simp; (repeat (refine ⟨by omega, ?_⟩)); refine hK2 _ ?_; clear hK2 K2)
    refine sxf_nil (hK' _ ?_)
    refine AW.st (by simp; rfl) ?_
    clear hK' K'
    refine AW_ret ?_
    simp [D.le, D.le.go, takeMap]

set_option maxHeartbeats 4000000 in
theorem parts_bad (G : Glob) (hG : HasErr G) (hF : HasFine G) (t : Tab) (a b : Int) (l : List Int) (h1 : ¬ (510 : Int) < t.next.length) (h2 : ¬ (510 : Int) < t.tells.length) (e : Int × Option Nat) (he : checkF t = some e) (hl : ¬ (60 : Int) < l.length) :
    PureC Tryd.prog G 5 [dTab t, dNum a, dNum b, dRow l] (.v (.bool true)) := by
  have htab := tables_bad G hF t h1 h2 e he
  have hat := at_same G hG (some e)
  have hne : ¬ codeF (some e) = 0 := by obtain ⟨c, s⟩ := e; exact checkF_code he
  unfold dFault at hat
  change PureC _ _ _ _ (.tup [.agg [dRows t.next, dRows t.tells], .agg [dNum (codeF (some e)), dNum (placeF (some e))], .v (.bool true)]) at htab
  refine PureC.of_body (tyOf_good _) Tryd.func5 rfl rfl (rs := [.tmp 8]) Tryd.results5 (by simp [Tryd.ntmps5]) fun X => ?_
  simp only [Tryd.ntmps5, List.map]
  refine AW_rg (tyOf_good _) [1, 2, 3, 4] [4] (fun _ _ => trivial) fun K' hK' => ?_
  repeat (refine sxf_next fun K2 hK2 => ?_; simp [dTab, dNum]; (repeat (refine ⟨by omega, ?_⟩)); refine hK2 _ ?_; clear hK2 K2)
  refine sxf_nil (hK' _ ?_)
  refine AW.st (by simp [dTab, dNum]; rfl) ?_
  clear hK' K'
  refine AW_rg (tyOf_good _) [1, 2, 3, 4, 9, 10, 11] [4, 9, 10] (fun _ _ => trivial) fun K' hK' => ?_
  repeat (refine sxf_next fun K2 hK2 => ?_; simp [dTab, dRows, dNum]; (repeat (refine ⟨by omega, ?_⟩)); refine hK2 _ ?_; clear hK2 K2)
  refine sxf_next fun K2 hK2 => ?_
  simp [dTab, dRows, dNum]
  refine callK.data (htab) (by simp; rfl) (by first | exact D.leGo_refl _ | simp [takeMap, List.map_map, Function.comp_def, D.le, D.le.go, D.le_refl, D.leGo_refl, dTab, dRows, dNum]) ?_
  refine hK2 _ ?_
  clear hK2 K2
  simp only [putd, upd_lst]
  repeat (refine sxf_next fun K2 hK2 => ?_; simp [dTab, dRows, dNum]; (repeat (refine ⟨by omega, ?_⟩)); refine hK2 _ ?_; clear hK2 K2)
  refine sxf_nil (hK' _ ?_)
  refine AW.st (by simp [dTab, dRows, dNum]; rfl) ?_
  clear hK' K'
  refine AW_then fun K1 hK1 => ?_
  refine AW_rg (tyOf_good _) [1, 2, 3, 4, 9, 10, 33] [4, 9, 10] (fun _ _ => trivial) fun K' hK' => ?_
  repeat (refine sxf_next fun K2 hK2 => ?_; simp [dRow, dInts, hl]; (repeat (refine ⟨by omega, ?_⟩)); refine hK2 _ ?_; clear hK2 K2)
  refine sxf_nil (hK' _ ?_)
  refine AW.st (by simp [dRow, dInts, hl]; rfl) ?_
  clear hK' K'
  refine AW_cond false rfl (fun h => by cases h) (fun _ => ?_)
  refine AW_skip (hK1 _ ?_)
  refine AW_rg (tyOf_good _) [1, 2, 3, 4, 9, 10, 12, 13] [4, 9, 10] (fun _ _ => trivial) fun K' hK' => ?_
  repeat (refine sxf_next fun K2 hK2 => ?_; simp [dTab, dNum]; (repeat (refine ⟨by omega, ?_⟩)); refine hK2 _ ?_; clear hK2 K2)
  refine sxf_next fun K2 hK2 => ?_
  simp [dTab, dNum]
  refine callK.data (part_bad G t a b e he) (by simp; rfl) (by first | exact D.leGo_refl _ | simp [takeMap, List.map_map, Function.comp_def, D.le, D.le.go, D.le_refl, D.leGo_refl, dTab, dNum]) ?_
  refine hK2 _ ?_
  clear hK2 K2
  simp only [putd, upd_lst]
  repeat (refine sxf_next fun K2 hK2 => ?_; simp [dTab, dNum]; (repeat (refine ⟨by omega, ?_⟩)); refine hK2 _ ?_; clear hK2 K2)
  refine sxf_nil (hK' _ ?_)
  refine AW.st (by simp [dTab, dNum]; rfl) ?_
  clear hK' K'
  refine AW_rg (tyOf_good _) [1, 2, 3, 4, 9, 10, 12, 13, 14, 15] [4, 9, 10] (fun _ _ => trivial) fun K' hK' => ?_
  repeat (refine sxf_next fun K2 hK2 => ?_; simp [dTab, dNum]; (repeat (refine ⟨by omega, ?_⟩)); refine hK2 _ ?_; clear hK2 K2)
  refine sxf_next fun K2 hK2 => ?_
  simp [dTab, dNum]
  refine callK.data (btell_bad G t a l e he) (by simp; rfl) (by first | exact D.leGo_refl _ | simp [takeMap, List.map_map, Function.comp_def, D.le, D.le.go, D.le_refl, D.leGo_refl, dTab, dNum]) ?_
  refine hK2 _ ?_
  clear hK2 K2
  simp only [putd, upd_lst]
  repeat (refine sxf_next fun K2 hK2 => ?_; simp [dTab, dNum]; (repeat (refine ⟨by omega, ?_⟩)); refine hK2 _ ?_; clear hK2 K2)
  refine sxf_nil (hK' _ ?_)
  refine AW.st (by simp [dTab, dNum]; rfl) ?_
  clear hK' K'
  refine AW_then fun K2 hK2 => ?_
  refine AW_rg (tyOf_good _) [1, 2, 3, 4, 9, 10, 12, 13, 14, 15, 50] [4, 9, 10] (fun _ _ => trivial) fun K' hK' => ?_
  repeat (refine sxf_next fun K2 hK2 => ?_; simp [hne]; (repeat (refine ⟨by omega, ?_⟩)); refine hK2 _ ?_; clear hK2 K2)
  refine sxf_nil (hK' _ ?_)
  refine AW.st (by simp [hne]; rfl) ?_
  clear hK' K'
  refine AW_cond true rfl (fun _ => ?_) (fun h => by cases h)
  refine AW_rg (tyOf_good _) [8] [] (fun _ _ => trivial) fun K' hK' => ?_
  repeat (refine sxf_next fun K2 hK2 => ?_; simp [dNum]; (repeat (refine ⟨by omega, ?_⟩)); refine hK2 _ ?_; clear hK2 K2)
  refine sxf_next fun K2 hK2 => ?_
  simp [dNum]
  refine callK.data (hat) (by simp; rfl) (by first | exact D.leGo_refl _ | simp [takeMap, List.map_map, Function.comp_def, D.le, D.le.go, D.le_refl, D.leGo_refl, dNum]) ?_
  refine hK2 _ ?_
  clear hK2 K2
  simp only [putd, upd_lst]
  repeat (refine sxf_next fun K2 hK2 => ?_; simp [dNum]; (repeat (refine ⟨by omega, ?_⟩)); refine hK2 _ ?_; clear hK2 K2)
  refine sxf_next fun K2 hK2 => ?_
  simp [dNum]
  refine callK.data (hat) (by simp; rfl) (by first | exact D.leGo_refl _ | simp [takeMap, List.map_map, Function.comp_def, D.le, D.le.go, D.le_refl, D.leGo_refl, dNum]) ?_
  refine hK2 _ ?_
  clear hK2 K2
  simp only [putd, upd_lst]
  repeat (refine sxf_next fun K2 hK2 => ?_; simp [dNum]; (repeat (refine ⟨by omega, ?_⟩)); refine hK2 _ ?_; clear hK2 K2)
  refine sxf_nil (hK' _ ?_)
  refine AW.st (by simp [dNum]; rfl) ?_
  clear hK' K'
  refine AW_ret ?_
  simp [D.le, D.le.go, takeMap]

theorem parts_spec (G : Glob) (hG : HasErr G) (hF : HasFine G) (t : Tab) (a b : Int) (l : List Int) : PureC Tryd.prog G 5 [dTab t, dNum a, dNum b, dRow l] (.v (.bool true)) := by
  by_cases hm : 510 < t.next.length ∨ 510 < t.tells.length
  · exact parts_true G t a b l 0 (-1) false (tables_many G hF t hm) (.inl rfl)
  · have h1 : ¬ (510 : Int) < t.next.length := by omega
    have h2 : ¬ (510 : Int) < t.tells.length := by omega
    by_cases h60 : (60 : Int) < l.length
    · cases he : checkF t with
      | some e => exact parts_true G t a b l (codeF (some e)) (placeF (some e)) true (tables_bad G hF t h1 h2 e he) (.inr h60)
      | none => exact parts_true G t a b l 0 (-1) _ (tables_good G hF t (ok_iff.1 he)) (.inr h60)
    · cases he : checkF t with
      | some e => exact parts_bad G hG hF t a b l h1 h2 e he h60
      | none =>
        have ok := ok_iff.1 he
        by_cases hfew : (t.next.length : Int) ≤ 30 ∧ (wd t : Int) ≤ 8
        · by_cases hr : a < 0 ∨ (t.next.length : Int) ≤ a
          · exact parts_good G hG hF t a b l ok hfew.1 hfew.2 h60 nilD 2 (btell_range G t ok a l (by omega) (by rcases hr with h | h; exact .inl h; exact .inr (.inl h))) (.inr ⟨hr, rfl, rfl⟩)
          · obtain ⟨s, rfl⟩ := Int.eq_ofNat_of_zero_le (show 0 ≤ a by omega)
            have hs : s < t.next.length := by omega
            obtain ⟨T, E, h1, h2⟩ := btell_at G t ok s hs l (by omega)
            exact parts_good G hG hF t s b l ok hfew.1 hfew.2 h60 T E h1 (.inl ⟨s, rfl, hs, h2⟩)
        · refine parts_true G t a b l 0 (-1) _ (tables_good G hF t ok) (.inl ?_)
          by_cases h3 : (t.next.length : Int) ≤ 30
          · have h4 : ¬ (wd t : Int) ≤ 8 := fun h => hfew ⟨h3, h⟩
            rw [decide_eq_false h4, Bool.and_false]
          · rw [decide_eq_false h3, Bool.false_and]
#print axioms parts_spec
end Go.Proofs.YtoikggboakojlaaDoor
