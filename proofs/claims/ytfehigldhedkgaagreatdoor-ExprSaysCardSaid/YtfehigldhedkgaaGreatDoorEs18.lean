/-
  Texts that belong together, in one file: W1, W2, U2.
-/
import Derived.Test.YtfehigldhedkgaaGreatDoorEs17
import Derived.Shelf.Sort.Plain
import Derived.Shelf.Slices.In.SortNone
import Derived.Shelf.Slices.CompactS
import Derived.Lib.RowBridge
/-
  Functions that write an owned row of texts anew where it lies: slices.Sort, slices.Compact.
-/
namespace Go.Proofs.YtfehigldhedkgaaGreatDoor
set_option linter.unusedSimpArgs false
set_option linter.unusedVariables false
open Go.Av Go.Sort
open Go.Shelf

section
variable {w : World} {X : Nat → Prop} {μ : Mu} {r : Nat}

theorem hlst_one (r : Nat) (row : Row) : hlst [(r, row)] r = some row := by simp [hlst, List.lookup]
theorem hlst_other {r q : Nat} (row : Row) (h : q ≠ r) : hlst [(r, row)] q = none := by simp [hlst, List.lookup, beq_eq_false_iff_ne.2 h]
/-- What a row of texts is where it lies. -/
theorem row_texts {ty : TypeId} {ss : List (List UInt8)} {m : MRow} {b : Nat} (hm : μ r = some m) (hs : Sim w X μ (hlst [(r, .sl ty 1 (ss.map fun s => [dS s]))])) (hb : m.blk = some b) :
    m.sz = 1 ∧ ∃ cur, w.heap[b]? = some (.cells cur ty (0, 0)) ∧ cur.size = m.cap ∧ ss.length ≤ m.cap ∧ m.cap ≤ maxLen ∧ ∀ i (hi : i < ss.length), cur[i]? = some (encStr ss[i]) := by
  obtain ⟨m', hm', ok⟩ := hs.rows r _ (hlst_one r _)
  rw [hm] at hm'
  obtain rfl := Option.some.inj hm'
  generalize hrow : Row.sl ty 1 (ss.map fun s => [dS s]) = row at ok
  cases ok with
  | nil hb' _ => rw [hb] at hb'; cases hb'
  | box _ _ _ _ _ => cases hrow
  | mp _ _ _ _ => cases hrow
  | sl hb' hsz hh hcs hn hmx hl hz hr =>
    simp only [Row.sl.injEq] at hrow
    obtain ⟨rfl, rfl, rfl⟩ := hrow
    rw [hb] at hb'
    obtain rfl := Option.some.inj hb'
    refine ⟨hsz, _, hh, by simpa using hcs, by simpa using hn, hmx, fun i hi => ?_⟩
    obtain ⟨u, hu, hru⟩ := hr i 0 [dS ss[i]] (dS ss[i]) (by simp [hi]) rfl
    have := hru.scalar
    subst this
    simpa [bs] using hu
/-- A row of texts is written anew where it lies. -/
theorem row_write {ty : TypeId} {ss zs : List (List UInt8)} {m : MRow} {b n : Nat} {os : Array Obj} (hm : μ r = some m) (hs : Sim w X μ (hlst [(r, .sl ty 1 (ss.map fun s => [dS s]))])) (hb : m.blk = some b) (hz : zs.length = ss.length) :
    Sim (grow (putRow encStr (Sort.ahead w n) b 0 zs.toArray) os) X μ (hlst [(r, .sl ty 1 (zs.map fun s => [dS s]))]) ∧ Ev (notIn [r]) w μ (grow (putRow encStr (Sort.ahead w n) b 0 zs.toArray) os) μ := by
  obtain ⟨hsz, cur, hh, hcs, hn, hmx, hcur⟩ := row_texts hm hs hb
  have hbl : b < w.heap.size := hs.blk_lt ⟨r, m, hm, hb⟩
  have hsize : (putRow encStr (Sort.ahead w n) b 0 zs.toArray).heap.size = w.heap.size := by simp [putRow, mapBlock, Sort.ahead]
  have hold : ∀ k, k < w.heap.size → k ≠ b → (grow (putRow encStr (Sort.ahead w n) b 0 zs.toArray) os).heap[k]? = w.heap[k]? := fun k hk hne => by
    unfold grow
    dsimp only
    rw [Array.getElem?_append_left (by rw [hsize]; exact hk)]
    unfold putRow mapBlock Sort.ahead
    dsimp only
    rw [Array.getElem?_modify, if_neg (Ne.symm hne)]
  have hnew : (grow (putRow encStr (Sort.ahead w n) b 0 zs.toArray) os).heap[b]? = some (.cells (putCells encStr 0 zs.toArray cur) ty (0, 0)) := by
    unfold grow
    dsimp only
    rw [Array.getElem?_append_left (by rw [hsize]; exact hbl)]
    unfold putRow mapBlock Sort.ahead
    dsimp only
    rw [Array.getElem?_modify, if_pos rfl, hh]
    rfl
  have hgs : w.heap.size ≤ (grow (putRow encStr (Sort.ahead w n) b 0 zs.toArray) os).heap.size := by
    unfold grow
    simp [hsize]
  have ev : Ev (notIn [r]) w μ (grow (putRow encStr (Sort.ahead w n) b 0 zs.toArray) os) μ := ⟨hgs, rfl, rfl, rfl, fun k hk hr => ⟨hold k hk fun e => hr ⟨r, m, hm, e ▸ hb⟩, hr⟩, fun _ _ h _ => h⟩
  refine ⟨⟨fun q row hq => ?_, fun q mq hq => ?_, hs.inj, hs.frame, fun k hk => Nat.lt_of_lt_of_le (hs.fits k hk) hgs⟩, ev⟩
  · by_cases e : q = r
    · subst e
      rw [hlst_one] at hq
      obtain rfl := Option.some.inj hq
      refine ⟨m, hm, .sl hb hsz hnew (by simpa [putCells] using hcs) (by simpa [hz] using hn) hmx (fun el hel => ?_) (by omega) fun i j el c hi hj => ?_⟩
      · obtain ⟨x, _, rfl⟩ := List.mem_map.1 hel; rfl
      · rw [List.getElem?_map] at hi
        obtain ⟨x, hx, rfl⟩ := Option.map_eq_some_iff.1 hi
        have hil : i < zs.length := (List.getElem?_eq_some_iff.1 hx).1
        have hj0 : j = 0 := by have := (List.getElem?_eq_some_iff.1 hj).1; simpa using this
        subst hj0
        obtain rfl : dS x = c := by simpa using hj
        have hcl : i < cur.size := by omega
        refine ⟨encStr x, ?_, .v _⟩
        simp only [Nat.mul_one, Nat.add_zero, putCells, Array.getElem?_mapIdx, Array.getElem?_eq_getElem hcl, Option.map_some]
        rw [if_pos (by simp; omega)]
        congr 2
        simp only [Nat.sub_zero]
        rw [getElem!_pos zs.toArray i (by simpa using hil)]
        simpa using (List.getElem?_eq_some_iff.1 hx).2
    · rw [hlst_other _ e] at hq; cases hq
  · obtain ⟨row, hrow⟩ := hs.dom q mq hq
    by_cases e : q = r
    · exact ⟨_, by rw [e]; exact hlst_one r _⟩
    · rw [hlst_other _ e] at hrow; cases hrow
theorem row_holds {ty : TypeId} {ss : List (List UInt8)} {m : MRow} {b : Nat} (hm : μ r = some m) (hs : Sim w X μ (hlst [(r, .sl ty 1 (ss.map fun s => [dS s]))])) (hb : m.blk = some b) : Holds encStr w b 0 ss.toArray := by
  obtain ⟨hsz, cur, hh, hcs, hn, hmx, hcur⟩ := row_texts hm hs hb
  intro j hj
  have hj' : j < ss.length := by simpa using hj
  constructor
  · unfold World.cell?
    simp only [hh, Nat.zero_add]
    rw [getElem!_pos ss.toArray j hj, hcur j hj']
    simp
  · unfold World.frozen?
    simp only [hh]
    simp
theorem row_nil {ty : TypeId} {ss : List (List UInt8)} {m : MRow} (hm : μ r = some m) (hs : Sim w X μ (hlst [(r, .sl ty 1 (ss.map fun s => [dS s]))])) (hb : m.blk = none) : ss = [] := by
  obtain ⟨m', hm', ok⟩ := hs.rows r _ (hlst_one r _)
  rw [hm] at hm'
  obtain rfl := Option.some.inj hm'
  generalize hrow : Row.sl ty 1 (ss.map fun s => [dS s]) = row at ok
  cases ok with
  | nil _ _ => simp only [Row.sl.injEq] at hrow; simpa using hrow.2.2
  | box hb' _ _ _ _ => rw [hb] at hb'; cases hb'
  | mp hb' _ _ _ => rw [hb] at hb'; cases hb'
  | sl hb' _ _ _ _ _ _ _ _ => rw [hb] at hb'; cases hb'
end

def sortT (ss : List (List UInt8)) : List (List UInt8) := ss.mergeSort fun x y => decide (x ≤ y)
theorem sortT_len (ss : List (List UInt8)) : (sortT ss).length = ss.length := by simp [sortT]

theorem sort_mc (G : Glob) (r : Nat) (ty : TypeId) (ss : List (List UInt8)) (hl : ss.length < 2^60) : MC Tryz.prog G [r] 38 [.own r 0 ss.length] (hlst [(r, .sl ty 1 (ss.map fun s => [dS s]))]) (.d (.tup [])) (hlst [(r, .sl ty 1 ((sortT ss).map fun s => [dS s]))]) := by
  refine ⟨Fun.of Tryz.func38 rfl rfl, fun X w μ vs hs hgl hsz hv => ?_⟩
  obtain ⟨v, rfl⟩ : ∃ v, vs = #[v] := by
    match vs, hsz with
    | ⟨[v]⟩, _ => exact ⟨v, rfl⟩
  obtain ⟨m, hm, hc⟩ := (hv 0 v _ rfl rfl).own_inv
  have hL : Lays.n190 Tryz.prog Tryz.lays190_ren := { Tryz.lays190 with }
  by_cases h0 : ss = []
  · subst h0
    have e : ∃ p cap, v = .slice p 0 cap := by
      rcases hc with ⟨_, rfl, _⟩ | ⟨b, _, rfl, _⟩
      · exact ⟨_, _, rfl⟩
      · exact ⟨_, _, rfl⟩
    obtain ⟨p, cap, rfl⟩ := e
    have e1 : sortT [] = [] := List.eq_nil_of_length_eq_zero (by rw [sortT_len]; rfl)
    rw [e1]
    refine (Any.slices_Sort_string_none hL p cap w).mono fun e w' ⟨he, hw⟩ => ?_
    subst hw
    exact ⟨_, _, _, μ, he, ⟨rfl, rfl⟩, .d (.tup rfl fun j u c hu hc => by simp at hu), hs, .refl _ _ _⟩
  · rcases hc with ⟨hb, rfl, _, hn⟩ | ⟨b, hb, rfl, hn⟩
    · exact absurd (row_nil hm hs hb) h0
    · have hH := row_holds hm hs hb
      have hbl : b < w.heap.size := hs.blk_lt ⟨r, m, hm, hb⟩
      rw [Nat.zero_mul]
      refine (Any.slices_Sort_string hL b 0 (m.cap - 0) ss w hH hbl (by omega)).mono fun e w' ⟨he, n, os, hw⟩ => ?_
      subst hw
      obtain ⟨h1, h2⟩ := row_write (n := n) (os := os) hm hs hb (sortT_len ss)
      exact ⟨_, _, _, μ, he, ⟨rfl, rfl⟩, .d (.tup rfl fun j u c hu hc => by simp at hu), h1, h2⟩
theorem compact_mc (G : Glob) (r : Nat) (ty : TypeId) (ss : List (List UInt8)) (hl : ss.length < 2^60) : MC Tryz.prog G [r] 39 [.own r 0 ss.length] (hlst [(r, .sl ty 1 (ss.map fun s => [dS s]))]) (.own r 0 (Lib.compact ss).length) (hlst [(r, .sl ty 1 ((Lib.compact ss ++ List.replicate (ss.length - (Lib.compact ss).length) []).map fun s => [dS s]))]) := by
  refine ⟨Fun.of Tryz.func39 rfl rfl, fun X w μ vs hs hgl hsz hv => ?_⟩
  obtain ⟨v, rfl⟩ : ∃ v, vs = #[v] := by
    match vs, hsz with
    | ⟨[v]⟩, _ => exact ⟨v, rfl⟩
  have hv0 := hv 0 v _ rfl rfl
  obtain ⟨m, hm, hc⟩ := hv0.own_inv
  have hle := Lib.compact_length_le ss
  have hL : Lays.n194 Tryz.prog Tryz.lays194_ren := { Tryz.lays194 with }
  by_cases h0 : ss = []
  · subst h0
    have e0 : (Lib.compact ([] : List (List UInt8))) = [] := List.eq_nil_of_length_eq_zero (by simpa using hle)
    rw [e0]
    have e : ∃ p cap, v = .slice p 0 cap := by
      rcases hc with ⟨_, rfl, _⟩ | ⟨b, _, rfl, _⟩
      · exact ⟨_, _, rfl⟩
      · exact ⟨_, _, rfl⟩
    obtain ⟨p, cap, rfl⟩ := e
    refine (Any.slices_Compact_string_empty hL p cap w).mono fun e w' ⟨he, hw⟩ => ?_
    subst hw
    exact ⟨_, _, _, μ, he, ⟨rfl, rfl⟩, hv0, hs, .refl _ _ _⟩
  · rcases hc with ⟨hb, rfl, _, hn⟩ | ⟨b, hb, rfl, hn⟩
    · exact absurd (row_nil hm hs hb) h0
    · have hH := row_holds hm hs hb
      obtain ⟨hsz1, cur, hh, hcs, hn2, hmx, hcur⟩ := row_texts hm hs hb
      rw [Nat.zero_mul]
      refine (Any.slices_Compact_string hL b 0 (m.cap - 0) ss w hH (by omega) (by omega)).mono fun e w' ⟨he, n, hw⟩ => ?_
      have hz : (Lib.compact ss ++ List.replicate (ss.length - (Lib.compact ss).length) []).length = ss.length := by simp; omega
      obtain ⟨h1, h2⟩ := row_write (n := n) (os := #[]) hm hs hb hz
      rw [grow_empty] at h1 h2
      subst hw
      refine ⟨_, _, _, μ, he, ⟨rfl, rfl⟩, .own hm (.inr ⟨b, hb, by simp, by omega⟩), h1, h2⟩
end Go.Proofs.YtfehigldhedkgaaGreatDoor

/-
  The names of an expression: walk, sorted, Names, Edges.
-/
namespace Go.Proofs.YtfehigldhedkgaaGreatDoor
set_option linter.unusedSimpArgs false
set_option linter.unusedVariables false
open Go.Av

/-- What a contact names; all: bits, too. -/
def nmE (all : Bool) : Ex → List UInt8
  | .bit s => if all then s else []
  | .rise s => s
  | .fall s => s
  | _ => []
def one1 (s : List UInt8) : List (List UInt8) := if s = [] then [] else [s]
mutual
def nmsE (all : Bool) : Ex → List (List UInt8)
  | .not e => nmsE all e
  | .and l => nmsL all l
  | .or l => nmsL all l
  | e => one1 (nmE all e)
def nmsL (all : Bool) : List Ex → List (List UInt8)
  | [] => []
  | e :: l => nmsE all e ++ nmsL all l
end
theorem nmsL_app (all : Bool) : ∀ a b : List Ex, nmsL all (a ++ b) = nmsL all a ++ nmsL all b
  | [], b => rfl
  | e :: a, b => by simp [nmsL, nmsL_app all a b]
theorem nmsL_take (all : Bool) {l : List Ex} {i : Nat} (hi : i < l.length) : nmsL all (l.take (i + 1)) = nmsL all (l.take i) ++ nmsE all l[i] := by
  rw [List.take_succ_eq_append_getElem hi, nmsL_app]
  simp [nmsL]
theorem nms_b (all : Bool) : ∀ (n : Nat) (e : Ex), SizeOf.sizeOf e ≤ n → (nmsE all e).length ≤ bE e
  | 0, e, hn => by cases e <;> simp at hn
  | n + 1, e, hn => by
    have many : ∀ l : List Ex, (∀ x ∈ l, SizeOf.sizeOf x ≤ n) → (nmsL all l).length ≤ bEs l := by
      intro l
      induction l with
      | nil => intro _; simp [nmsL]
      | cons x l ih =>
        intro h
        have a := ih fun y hy => h y (by simp [hy])
        have b := nms_b all n x (h x (by simp))
        simp only [nmsL, bEs, List.length_append]
        omega
    have hone : ∀ s, (one1 s).length ≤ 1 := fun s => by unfold one1; split <;> simp
    have hp := bE_pos e
    cases e with
    | not x => have := nms_b all n x (by simp at hn; omega); simp only [nmsE, bE]; omega
    | and l =>
      have := many l fun x hx => by have := List.sizeOf_lt_of_mem hx; simp only [Ex.and.sizeOf_spec] at hn; omega
      simp only [nmsE, bE]; omega
    | or l =>
      have := many l fun x hx => by have := List.sizeOf_lt_of_mem hx; simp only [Ex.or.sizeOf_spec] at hn; omega
      simp only [nmsE, bE]; omega
    | cst b => have := hone (nmE all (.cst b)); simp only [nmsE]; omega
    | bit s => have := hone (nmE all (.bit s)); simp only [nmsE]; omega
    | rise s => have := hone (nmE all (.rise s)); simp only [nmsE]; omega
    | fall s => have := hone (nmE all (.fall s)); simp only [nmsE]; omega
theorem nms_len (all : Bool) (e : Ex) : (nmsE all e).length ≤ bE e := nms_b all _ e (Nat.le_refl _)
theorem nmsL_len (all : Bool) : ∀ l : List Ex, (nmsL all l).length ≤ bEs l
  | [] => by simp [nmsL]
  | e :: l => by have := nms_len all e; have := nmsL_len all l; simp only [nmsL, bEs, List.length_append]; omega

/-- What is gathered. -/
def nRow (l : List (List UInt8)) : List (Nat × Row) := [(502, .box 22 [.own 503 0 l.length]), (503, .sl 9 1 (l.map fun s => [dS s]))]
def fnOf (all : Bool) : FuncId := if all then 23 else 25
set_option maxHeartbeats 8000000 in
theorem names1_spec (G : Glob) (e : Ex) : PureC Tryz.prog G 23 [dE e] (dS (nmE true e)) := by
  by_cases h1 : ∃ s, e = .bit s
  · obtain ⟨s, rfl⟩ := h1
    rw [dE]
    refine PureC.of_body (tyOf_good _) Tryz.func23 rfl rfl (rs := [.tmp 2]) Tryz.results23 (by simp [Tryz.ntmps23]) fun X => ?_
    simp only [Tryz.ntmps23, List.map]
    refine AW_rg (tyOf_good _) [0] [] (fun _ _ => trivial) fun K' hK' => ?_
    repeat (refine sxf_next fun K2 hK2 => ?_; simp [dNum, dS, pairA, assertA]; (repeat (refine ⟨by omega, ?_⟩)); refine hK2 _ ?_; clear hK2 K2)
    refine sxf_nil (hK' _ ?_)
    refine AW.st (by simp [dNum, dS, pairA, assertA]; rfl) ?_
    clear hK' K'
    refine AW_then fun K1 hK1 => ?_
    refine AW_rg (tyOf_good _) [6] [] (fun _ _ => trivial) fun K' hK' => ?_
    repeat (refine sxf_next fun K2 hK2 => ?_; simp [dNum, dS, pairA, assertA]; (repeat (refine ⟨by omega, ?_⟩)); refine hK2 _ ?_; clear hK2 K2)
    refine sxf_nil (hK' _ ?_)
    refine AW.st (by simp [dNum, dS, pairA, assertA]; rfl) ?_
    clear hK' K'
    refine AW_block ?_
    refine AW_rg (tyOf_good _) [6, 8, 9] [] (fun _ _ => trivial) fun K' hK' => ?_
    repeat (refine sxf_next fun K2 hK2 => ?_; simp [dNum, dS, pairA, assertA]; (repeat (refine ⟨by omega, ?_⟩)); refine hK2 _ ?_; clear hK2 K2)
    refine sxf_nil (hK' _ ?_)
    refine AW.st (by simp [dNum, dS, pairA, assertA]; rfl) ?_
    clear hK' K'
    refine AW_cond true rfl (fun _ => ?_) (fun h => by cases h)
    refine AW_rg (tyOf_good _) [3] [] (fun _ _ => trivial) fun K' hK' => ?_
    repeat (refine sxf_next fun K2 hK2 => ?_; simp [dNum, dS, pairA, assertA]; (repeat (refine ⟨by omega, ?_⟩)); refine hK2 _ ?_; clear hK2 K2)
    refine sxf_nil (hK' _ ?_)
    refine AW.st (by simp [dNum, dS, pairA, assertA]; rfl) ?_
    clear hK' K'
    refine AW_rg (tyOf_good _) [2] [] (fun _ _ => trivial) fun K' hK' => ?_
    repeat (refine sxf_next fun K2 hK2 => ?_; simp [dNum, dS, pairA, assertA]; (repeat (refine ⟨by omega, ?_⟩)); refine hK2 _ ?_; clear hK2 K2)
    refine sxf_nil (hK' _ ?_)
    refine AW.st (by simp [dNum, dS, pairA, assertA]; rfl) ?_
    clear hK' K'
    refine AW_ret ?_
    simp [D.le, D.le.go, takeMap, dNum, dS, pairA, assertA, nmE, dS, D.le_refl]
  by_cases h2 : ∃ s, e = .rise s
  · obtain ⟨s, rfl⟩ := h2
    rw [dE]
    refine PureC.of_body (tyOf_good _) Tryz.func23 rfl rfl (rs := [.tmp 2]) Tryz.results23 (by simp [Tryz.ntmps23]) fun X => ?_
    simp only [Tryz.ntmps23, List.map]
    refine AW_rg (tyOf_good _) [0] [] (fun _ _ => trivial) fun K' hK' => ?_
    repeat (refine sxf_next fun K2 hK2 => ?_; simp [dNum, dS, pairA, assertA]; (repeat (refine ⟨by omega, ?_⟩)); refine hK2 _ ?_; clear hK2 K2)
    refine sxf_nil (hK' _ ?_)
    refine AW.st (by simp [dNum, dS, pairA, assertA]; rfl) ?_
    clear hK' K'
    refine AW_then fun K1 hK1 => ?_
    refine AW_rg (tyOf_good _) [6] [] (fun _ _ => trivial) fun K' hK' => ?_
    repeat (refine sxf_next fun K2 hK2 => ?_; simp [dNum, dS, pairA, assertA]; (repeat (refine ⟨by omega, ?_⟩)); refine hK2 _ ?_; clear hK2 K2)
    refine sxf_nil (hK' _ ?_)
    refine AW.st (by simp [dNum, dS, pairA, assertA]; rfl) ?_
    clear hK' K'
    refine AW_block ?_
    refine AW_rg (tyOf_good _) [6, 8, 9] [] (fun _ _ => trivial) fun K' hK' => ?_
    repeat (refine sxf_next fun K2 hK2 => ?_; simp [dNum, dS, pairA, assertA]; (repeat (refine ⟨by omega, ?_⟩)); refine hK2 _ ?_; clear hK2 K2)
    refine sxf_nil (hK' _ ?_)
    refine AW.st (by simp [dNum, dS, pairA, assertA]; rfl) ?_
    clear hK' K'
    refine AW_cond false rfl (fun h => by cases h) (fun _ => ?_)
    refine AW_rg (tyOf_good _) [6, 12, 13] [] (fun _ _ => trivial) fun K' hK' => ?_
    repeat (refine sxf_next fun K2 hK2 => ?_; simp [dNum, dS, pairA, assertA]; (repeat (refine ⟨by omega, ?_⟩)); refine hK2 _ ?_; clear hK2 K2)
    refine sxf_nil (hK' _ ?_)
    refine AW.st (by simp [dNum, dS, pairA, assertA]; rfl) ?_
    clear hK' K'
    refine AW_cond true rfl (fun _ => ?_) (fun h => by cases h)
    refine AW_rg (tyOf_good _) [4] [] (fun _ _ => trivial) fun K' hK' => ?_
    repeat (refine sxf_next fun K2 hK2 => ?_; simp [dNum, dS, pairA, assertA]; (repeat (refine ⟨by omega, ?_⟩)); refine hK2 _ ?_; clear hK2 K2)
    refine sxf_nil (hK' _ ?_)
    refine AW.st (by simp [dNum, dS, pairA, assertA]; rfl) ?_
    clear hK' K'
    refine AW_rg (tyOf_good _) [2] [] (fun _ _ => trivial) fun K' hK' => ?_
    repeat (refine sxf_next fun K2 hK2 => ?_; simp [dNum, dS, pairA, assertA]; (repeat (refine ⟨by omega, ?_⟩)); refine hK2 _ ?_; clear hK2 K2)
    refine sxf_nil (hK' _ ?_)
    refine AW.st (by simp [dNum, dS, pairA, assertA]; rfl) ?_
    clear hK' K'
    refine AW_ret ?_
    simp [D.le, D.le.go, takeMap, dNum, dS, pairA, assertA, nmE, dS, D.le_refl]
  by_cases h3 : ∃ s, e = .fall s
  · obtain ⟨s, rfl⟩ := h3
    rw [dE]
    refine PureC.of_body (tyOf_good _) Tryz.func23 rfl rfl (rs := [.tmp 2]) Tryz.results23 (by simp [Tryz.ntmps23]) fun X => ?_
    simp only [Tryz.ntmps23, List.map]
    refine AW_rg (tyOf_good _) [0] [] (fun _ _ => trivial) fun K' hK' => ?_
    repeat (refine sxf_next fun K2 hK2 => ?_; simp [dNum, dS, pairA, assertA]; (repeat (refine ⟨by omega, ?_⟩)); refine hK2 _ ?_; clear hK2 K2)
    refine sxf_nil (hK' _ ?_)
    refine AW.st (by simp [dNum, dS, pairA, assertA]; rfl) ?_
    clear hK' K'
    refine AW_then fun K1 hK1 => ?_
    refine AW_rg (tyOf_good _) [6] [] (fun _ _ => trivial) fun K' hK' => ?_
    repeat (refine sxf_next fun K2 hK2 => ?_; simp [dNum, dS, pairA, assertA]; (repeat (refine ⟨by omega, ?_⟩)); refine hK2 _ ?_; clear hK2 K2)
    refine sxf_nil (hK' _ ?_)
    refine AW.st (by simp [dNum, dS, pairA, assertA]; rfl) ?_
    clear hK' K'
    refine AW_block ?_
    refine AW_rg (tyOf_good _) [6, 8, 9] [] (fun _ _ => trivial) fun K' hK' => ?_
    repeat (refine sxf_next fun K2 hK2 => ?_; simp [dNum, dS, pairA, assertA]; (repeat (refine ⟨by omega, ?_⟩)); refine hK2 _ ?_; clear hK2 K2)
    refine sxf_nil (hK' _ ?_)
    refine AW.st (by simp [dNum, dS, pairA, assertA]; rfl) ?_
    clear hK' K'
    refine AW_cond false rfl (fun h => by cases h) (fun _ => ?_)
    refine AW_rg (tyOf_good _) [6, 12, 13] [] (fun _ _ => trivial) fun K' hK' => ?_
    repeat (refine sxf_next fun K2 hK2 => ?_; simp [dNum, dS, pairA, assertA]; (repeat (refine ⟨by omega, ?_⟩)); refine hK2 _ ?_; clear hK2 K2)
    refine sxf_nil (hK' _ ?_)
    refine AW.st (by simp [dNum, dS, pairA, assertA]; rfl) ?_
    clear hK' K'
    refine AW_cond false rfl (fun h => by cases h) (fun _ => ?_)
    refine AW_rg (tyOf_good _) [16, 17] [] (fun _ _ => trivial) fun K' hK' => ?_
    repeat (refine sxf_next fun K2 hK2 => ?_; simp [dNum, dS, pairA, assertA]; (repeat (refine ⟨by omega, ?_⟩)); refine hK2 _ ?_; clear hK2 K2)
    refine sxf_nil (hK' _ ?_)
    refine AW.st (by simp [dNum, dS, pairA, assertA]; rfl) ?_
    clear hK' K'
    refine AW_cond true rfl (fun _ => ?_) (fun h => by cases h)
    refine AW_rg (tyOf_good _) [5] [] (fun _ _ => trivial) fun K' hK' => ?_
    repeat (refine sxf_next fun K2 hK2 => ?_; simp [dNum, dS, pairA, assertA]; (repeat (refine ⟨by omega, ?_⟩)); refine hK2 _ ?_; clear hK2 K2)
    refine sxf_nil (hK' _ ?_)
    refine AW.st (by simp [dNum, dS, pairA, assertA]; rfl) ?_
    clear hK' K'
    refine AW_rg (tyOf_good _) [2] [] (fun _ _ => trivial) fun K' hK' => ?_
    repeat (refine sxf_next fun K2 hK2 => ?_; simp [dNum, dS, pairA, assertA]; (repeat (refine ⟨by omega, ?_⟩)); refine hK2 _ ?_; clear hK2 K2)
    refine sxf_nil (hK' _ ?_)
    refine AW.st (by simp [dNum, dS, pairA, assertA]; rfl) ?_
    clear hK' K'
    refine AW_ret ?_
    simp [D.le, D.le.go, takeMap, dNum, dS, pairA, assertA, nmE, dS, D.le_refl]
  have hk : ∃ t c, dE e = .ifc t c ∧ ¬ t = 48 ∧ ¬ t = 49 ∧ ¬ t = 50 ∧ nmE true e = [] := by
    cases e with
    | bit s => exact absurd ⟨s, rfl⟩ h1
    | rise s => exact absurd ⟨s, rfl⟩ h2
    | fall s => exact absurd ⟨s, rfl⟩ h3
    | cst b => exact ⟨_, _, by rw [dE], by decide, by decide, by decide, rfl⟩
    | not b => exact ⟨_, _, by rw [dE], by decide, by decide, by decide, rfl⟩
    | and b => exact ⟨_, _, by rw [dE], by decide, by decide, by decide, rfl⟩
    | or b => exact ⟨_, _, by rw [dE], by decide, by decide, by decide, rfl⟩
  obtain ⟨t, c, hy, a1, a2, a3, a4⟩ := hk
  rw [a4, hy]
  refine PureC.of_body (tyOf_good _) Tryz.func23 rfl rfl (rs := [.tmp 2]) Tryz.results23 (by simp [Tryz.ntmps23]) fun X => ?_
  simp only [Tryz.ntmps23, List.map]
  refine AW_rg (tyOf_good _) [0] [] (fun _ _ => trivial) fun K' hK' => ?_
  repeat (refine sxf_next fun K2 hK2 => ?_; simp [dNum, dS, pairA, assertA]; (repeat (refine ⟨by omega, ?_⟩)); refine hK2 _ ?_; clear hK2 K2)
  refine sxf_nil (hK' _ ?_)
  refine AW.st (by simp [dNum, dS, pairA, assertA]; rfl) ?_
  clear hK' K'
  refine AW_then fun K1 hK1 => ?_
  refine AW_rg (tyOf_good _) [6] [] (fun _ _ => trivial) fun K' hK' => ?_
  repeat (refine sxf_next fun K2 hK2 => ?_; simp [dNum, dS, pairA, assertA]; (repeat (refine ⟨by omega, ?_⟩)); refine hK2 _ ?_; clear hK2 K2)
  refine sxf_nil (hK' _ ?_)
  refine AW.st (by simp [dNum, dS, pairA, assertA]; rfl) ?_
  clear hK' K'
  refine AW_block ?_
  refine AW_rg (tyOf_good _) [6, 8, 9] [] (fun _ _ => trivial) fun K' hK' => ?_
  repeat (refine sxf_next fun K2 hK2 => ?_; simp [dNum, dS, pairA, assertA, a1]; (repeat (refine ⟨by omega, ?_⟩)); refine hK2 _ ?_; clear hK2 K2)
  refine sxf_nil (hK' _ ?_)
  refine AW.st (by simp [dNum, dS, pairA, assertA, a1]; rfl) ?_
  clear hK' K'
  refine AW_cond false rfl (fun h => by cases h) (fun _ => ?_)
  refine AW_rg (tyOf_good _) [6, 12, 13] [] (fun _ _ => trivial) fun K' hK' => ?_
  repeat (refine sxf_next fun K2 hK2 => ?_; simp [dNum, dS, pairA, assertA, a2]; (repeat (refine ⟨by omega, ?_⟩)); refine hK2 _ ?_; clear hK2 K2)
  refine sxf_nil (hK' _ ?_)
  refine AW.st (by simp [dNum, dS, pairA, assertA, a2]; rfl) ?_
  clear hK' K'
  refine AW_cond false rfl (fun h => by cases h) (fun _ => ?_)
  refine AW_rg (tyOf_good _) [16, 17] [] (fun _ _ => trivial) fun K' hK' => ?_
  repeat (refine sxf_next fun K2 hK2 => ?_; simp [dNum, dS, pairA, assertA, a3]; (repeat (refine ⟨by omega, ?_⟩)); refine hK2 _ ?_; clear hK2 K2)
  refine sxf_nil (hK' _ ?_)
  refine AW.st (by simp [dNum, dS, pairA, assertA, a3]; rfl) ?_
  clear hK' K'
  refine AW_cond false rfl (fun h => by cases h) (fun _ => ?_)
  refine AW_skip (hK1 _ ?_)
  refine AW_rg (tyOf_good _) [2] [] (fun _ _ => trivial) fun K' hK' => ?_
  repeat (refine sxf_next fun K2 hK2 => ?_; simp [dNum, dS, pairA, assertA]; (repeat (refine ⟨by omega, ?_⟩)); refine hK2 _ ?_; clear hK2 K2)
  refine sxf_nil (hK' _ ?_)
  refine AW.st (by simp [dNum, dS, pairA, assertA]; rfl) ?_
  clear hK' K'
  refine AW_ret ?_
  simp [D.le, D.le.go, takeMap, dNum, dS, pairA, assertA, dS, bs_nil, D.le_refl]
set_option maxHeartbeats 8000000 in
theorem edges1_spec (G : Glob) (e : Ex) : PureC Tryz.prog G 25 [dE e] (dS (nmE false e)) := by
  by_cases h2 : ∃ s, e = .rise s
  · obtain ⟨s, rfl⟩ := h2
    rw [dE]
    refine PureC.of_body (tyOf_good _) Tryz.func25 rfl rfl (rs := [.tmp 2]) Tryz.results25 (by simp [Tryz.ntmps25]) fun X => ?_
    simp only [Tryz.ntmps25, List.map]
    refine AW_rg (tyOf_good _) [0] [] (fun _ _ => trivial) fun K' hK' => ?_
    repeat (refine sxf_next fun K2 hK2 => ?_; simp [dNum, dS, pairA, assertA]; (repeat (refine ⟨by omega, ?_⟩)); refine hK2 _ ?_; clear hK2 K2)
    refine sxf_nil (hK' _ ?_)
    refine AW.st (by simp [dNum, dS, pairA, assertA]; rfl) ?_
    clear hK' K'
    refine AW_then fun K1 hK1 => ?_
    refine AW_rg (tyOf_good _) [5] [] (fun _ _ => trivial) fun K' hK' => ?_
    repeat (refine sxf_next fun K2 hK2 => ?_; simp [dNum, dS, pairA, assertA]; (repeat (refine ⟨by omega, ?_⟩)); refine hK2 _ ?_; clear hK2 K2)
    refine sxf_nil (hK' _ ?_)
    refine AW.st (by simp [dNum, dS, pairA, assertA]; rfl) ?_
    clear hK' K'
    refine AW_block ?_
    refine AW_rg (tyOf_good _) [5, 7, 8] [] (fun _ _ => trivial) fun K' hK' => ?_
    repeat (refine sxf_next fun K2 hK2 => ?_; simp [dNum, dS, pairA, assertA]; (repeat (refine ⟨by omega, ?_⟩)); refine hK2 _ ?_; clear hK2 K2)
    refine sxf_nil (hK' _ ?_)
    refine AW.st (by simp [dNum, dS, pairA, assertA]; rfl) ?_
    clear hK' K'
    refine AW_cond true rfl (fun _ => ?_) (fun h => by cases h)
    refine AW_rg (tyOf_good _) [3] [] (fun _ _ => trivial) fun K' hK' => ?_
    repeat (refine sxf_next fun K2 hK2 => ?_; simp [dNum, dS, pairA, assertA]; (repeat (refine ⟨by omega, ?_⟩)); refine hK2 _ ?_; clear hK2 K2)
    refine sxf_nil (hK' _ ?_)
    refine AW.st (by simp [dNum, dS, pairA, assertA]; rfl) ?_
    clear hK' K'
    refine AW_rg (tyOf_good _) [2] [] (fun _ _ => trivial) fun K' hK' => ?_
    repeat (refine sxf_next fun K2 hK2 => ?_; simp [dNum, dS, pairA, assertA]; (repeat (refine ⟨by omega, ?_⟩)); refine hK2 _ ?_; clear hK2 K2)
    refine sxf_nil (hK' _ ?_)
    refine AW.st (by simp [dNum, dS, pairA, assertA]; rfl) ?_
    clear hK' K'
    refine AW_ret ?_
    simp [D.le, D.le.go, takeMap, dNum, dS, pairA, assertA, nmE, dS, D.le_refl]
  by_cases h3 : ∃ s, e = .fall s
  · obtain ⟨s, rfl⟩ := h3
    rw [dE]
    refine PureC.of_body (tyOf_good _) Tryz.func25 rfl rfl (rs := [.tmp 2]) Tryz.results25 (by simp [Tryz.ntmps25]) fun X => ?_
    simp only [Tryz.ntmps25, List.map]
    refine AW_rg (tyOf_good _) [0] [] (fun _ _ => trivial) fun K' hK' => ?_
    repeat (refine sxf_next fun K2 hK2 => ?_; simp [dNum, dS, pairA, assertA]; (repeat (refine ⟨by omega, ?_⟩)); refine hK2 _ ?_; clear hK2 K2)
    refine sxf_nil (hK' _ ?_)
    refine AW.st (by simp [dNum, dS, pairA, assertA]; rfl) ?_
    clear hK' K'
    refine AW_then fun K1 hK1 => ?_
    refine AW_rg (tyOf_good _) [5] [] (fun _ _ => trivial) fun K' hK' => ?_
    repeat (refine sxf_next fun K2 hK2 => ?_; simp [dNum, dS, pairA, assertA]; (repeat (refine ⟨by omega, ?_⟩)); refine hK2 _ ?_; clear hK2 K2)
    refine sxf_nil (hK' _ ?_)
    refine AW.st (by simp [dNum, dS, pairA, assertA]; rfl) ?_
    clear hK' K'
    refine AW_block ?_
    refine AW_rg (tyOf_good _) [5, 7, 8] [] (fun _ _ => trivial) fun K' hK' => ?_
    repeat (refine sxf_next fun K2 hK2 => ?_; simp [dNum, dS, pairA, assertA]; (repeat (refine ⟨by omega, ?_⟩)); refine hK2 _ ?_; clear hK2 K2)
    refine sxf_nil (hK' _ ?_)
    refine AW.st (by simp [dNum, dS, pairA, assertA]; rfl) ?_
    clear hK' K'
    refine AW_cond false rfl (fun h => by cases h) (fun _ => ?_)
    refine AW_rg (tyOf_good _) [11, 12] [] (fun _ _ => trivial) fun K' hK' => ?_
    repeat (refine sxf_next fun K2 hK2 => ?_; simp [dNum, dS, pairA, assertA]; (repeat (refine ⟨by omega, ?_⟩)); refine hK2 _ ?_; clear hK2 K2)
    refine sxf_nil (hK' _ ?_)
    refine AW.st (by simp [dNum, dS, pairA, assertA]; rfl) ?_
    clear hK' K'
    refine AW_cond true rfl (fun _ => ?_) (fun h => by cases h)
    refine AW_rg (tyOf_good _) [4] [] (fun _ _ => trivial) fun K' hK' => ?_
    repeat (refine sxf_next fun K2 hK2 => ?_; simp [dNum, dS, pairA, assertA]; (repeat (refine ⟨by omega, ?_⟩)); refine hK2 _ ?_; clear hK2 K2)
    refine sxf_nil (hK' _ ?_)
    refine AW.st (by simp [dNum, dS, pairA, assertA]; rfl) ?_
    clear hK' K'
    refine AW_rg (tyOf_good _) [2] [] (fun _ _ => trivial) fun K' hK' => ?_
    repeat (refine sxf_next fun K2 hK2 => ?_; simp [dNum, dS, pairA, assertA]; (repeat (refine ⟨by omega, ?_⟩)); refine hK2 _ ?_; clear hK2 K2)
    refine sxf_nil (hK' _ ?_)
    refine AW.st (by simp [dNum, dS, pairA, assertA]; rfl) ?_
    clear hK' K'
    refine AW_ret ?_
    simp [D.le, D.le.go, takeMap, dNum, dS, pairA, assertA, nmE, dS, D.le_refl]
  have hk : ∃ t c, dE e = .ifc t c ∧ ¬ t = 49 ∧ ¬ t = 50 ∧ nmE false e = [] := by
    cases e with
    | rise s => exact absurd ⟨s, rfl⟩ h2
    | fall s => exact absurd ⟨s, rfl⟩ h3
    | cst b => exact ⟨_, _, by rw [dE], by decide, by decide, rfl⟩
    | bit b => exact ⟨_, _, by rw [dE], by decide, by decide, rfl⟩
    | not b => exact ⟨_, _, by rw [dE], by decide, by decide, rfl⟩
    | and b => exact ⟨_, _, by rw [dE], by decide, by decide, rfl⟩
    | or b => exact ⟨_, _, by rw [dE], by decide, by decide, rfl⟩
  obtain ⟨t, c, hy, a2, a3, a4⟩ := hk
  rw [a4, hy]
  refine PureC.of_body (tyOf_good _) Tryz.func25 rfl rfl (rs := [.tmp 2]) Tryz.results25 (by simp [Tryz.ntmps25]) fun X => ?_
  simp only [Tryz.ntmps25, List.map]
  refine AW_rg (tyOf_good _) [0] [] (fun _ _ => trivial) fun K' hK' => ?_
  repeat (refine sxf_next fun K2 hK2 => ?_; simp [dNum, dS, pairA, assertA]; (repeat (refine ⟨by omega, ?_⟩)); refine hK2 _ ?_; clear hK2 K2)
  refine sxf_nil (hK' _ ?_)
  refine AW.st (by simp [dNum, dS, pairA, assertA]; rfl) ?_
  clear hK' K'
  refine AW_then fun K1 hK1 => ?_
  refine AW_rg (tyOf_good _) [5] [] (fun _ _ => trivial) fun K' hK' => ?_
  repeat (refine sxf_next fun K2 hK2 => ?_; simp [dNum, dS, pairA, assertA]; (repeat (refine ⟨by omega, ?_⟩)); refine hK2 _ ?_; clear hK2 K2)
  refine sxf_nil (hK' _ ?_)
  refine AW.st (by simp [dNum, dS, pairA, assertA]; rfl) ?_
  clear hK' K'
  refine AW_block ?_
  refine AW_rg (tyOf_good _) [5, 7, 8] [] (fun _ _ => trivial) fun K' hK' => ?_
  repeat (refine sxf_next fun K2 hK2 => ?_; simp [dNum, dS, pairA, assertA, a2]; (repeat (refine ⟨by omega, ?_⟩)); refine hK2 _ ?_; clear hK2 K2)
  refine sxf_nil (hK' _ ?_)
  refine AW.st (by simp [dNum, dS, pairA, assertA, a2]; rfl) ?_
  clear hK' K'
  refine AW_cond false rfl (fun h => by cases h) (fun _ => ?_)
  refine AW_rg (tyOf_good _) [11, 12] [] (fun _ _ => trivial) fun K' hK' => ?_
  repeat (refine sxf_next fun K2 hK2 => ?_; simp [dNum, dS, pairA, assertA, a3]; (repeat (refine ⟨by omega, ?_⟩)); refine hK2 _ ?_; clear hK2 K2)
  refine sxf_nil (hK' _ ?_)
  refine AW.st (by simp [dNum, dS, pairA, assertA, a3]; rfl) ?_
  clear hK' K'
  refine AW_cond false rfl (fun h => by cases h) (fun _ => ?_)
  refine AW_skip (hK1 _ ?_)
  refine AW_rg (tyOf_good _) [2] [] (fun _ _ => trivial) fun K' hK' => ?_
  repeat (refine sxf_next fun K2 hK2 => ?_; simp [dNum, dS, pairA, assertA]; (repeat (refine ⟨by omega, ?_⟩)); refine hK2 _ ?_; clear hK2 K2)
  refine sxf_nil (hK' _ ?_)
  refine AW.st (by simp [dNum, dS, pairA, assertA]; rfl) ?_
  clear hK' K'
  refine AW_ret ?_
  simp [D.le, D.le.go, takeMap, dNum, dS, pairA, assertA, dS, bs_nil, D.le_refl]
theorem name1_spec (G : Glob) (all : Bool) (e : Ex) : PureC Tryz.prog G (fnOf all) [dE e] (dS (nmE all e)) := by
  cases all with
  | true => exact names1_spec G e
  | false => exact edges1_spec G e

set_option maxHeartbeats 8000000 in
theorem gather_spec (G : Glob) (all : Bool) (l : List (List UInt8)) (e : Ex) (hl : l.length < 2^40) : MC Tryz.prog G [502] 37 ([.d (dE e)] ++ [.d (.ip [.fn (.func (fnOf all)) []]), .ref 502 0 0]) (hlst (nRow l)) (.d (.tup [])) (hlst (nRow (l ++ one1 (nmE all e)))) := by
  have hn := name1_spec G all e
  obtain ⟨t, c, hx⟩ := dE_ifc e
  rw [hx] at hn ⊢
  generalize fnOf all = g at hn ⊢
  generalize nmE all e = s at hn ⊢
  by_cases hs : s = []
  · subst hs
    have he : l ++ one1 [] = l := by simp [one1]
    rw [he]
    refine MC.of_body (tyOf_good _) Tryz.func37 rfl rfl (rs := []) Tryz.results37 (by simp [Tryz.ntmps37]) rfl fun X => ?_
    simp only [Tryz.ntmps37]
    refine AW_rg (tyOf_good _) [2, 4] [502, 503] (notIn_ok rfl) fun K' hK' => ?_
    repeat (refine sxf_next fun K2 hK2 => ?_; simp [dNum, dS, nRow]; (repeat (refine ⟨by omega, ?_⟩)); refine hK2 _ ?_; clear hK2 K2)
    refine sxf_next fun K2 hK2 => ?_
    simp [dNum, dS, nRow]
    refine callK.data (hn) (by simp; rfl) (by first | exact D.leGo_refl _ | simp [takeMap, List.map_map, Function.comp_def, D.le, D.le.go, D.le_refl, D.leGo_refl, dNum, dS, nRow]) ?_
    refine hK2 _ ?_
    clear hK2 K2
    simp only [putd, upd_lst]
    repeat (refine sxf_next fun K2 hK2 => ?_; simp [dNum, dS, nRow]; (repeat (refine ⟨by omega, ?_⟩)); refine hK2 _ ?_; clear hK2 K2)
    refine sxf_nil (hK' _ ?_)
    refine AW.st (by simp [dNum, dS, nRow]; rfl) ?_
    clear hK' K'
    refine AW_rg (tyOf_good _) [2, 4, 9] [502, 503] (notIn_ok rfl) fun K' hK' => ?_
    repeat (refine sxf_next fun K2 hK2 => ?_; simp [dNum, dS, nRow, binS, bs_list, bs_nil]; (repeat (refine ⟨by omega, ?_⟩)); refine hK2 _ ?_; clear hK2 K2)
    refine sxf_nil (hK' _ ?_)
    refine AW.st (by simp [dNum, dS, nRow, binS, bs_list, bs_nil]; rfl) ?_
    clear hK' K'
    refine AW_cond false rfl (fun h => by cases h) (fun _ => ?_)
    refine AW_skip ?_
    simp [D.le_refl, nRow, dS]
  · have he : one1 s = [s] := by unfold one1; rw [if_neg hs]
    have hse : s.isEmpty = false := by rw [List.isEmpty_eq_false_iff]; exact hs
    have hsb : (s == []) = false := by simpa using hs
    rw [he]
    refine MC.of_body (tyOf_good _) Tryz.func37 rfl rfl (rs := []) Tryz.results37 (by simp [Tryz.ntmps37]) rfl fun X => ?_
    simp only [Tryz.ntmps37]
    refine AW_rg (tyOf_good _) [2, 4] [502, 503] (notIn_ok rfl) fun K' hK' => ?_
    repeat (refine sxf_next fun K2 hK2 => ?_; simp [dNum, dS, nRow]; (repeat (refine ⟨by omega, ?_⟩)); refine hK2 _ ?_; clear hK2 K2)
    refine sxf_next fun K2 hK2 => ?_
    simp [dNum, dS, nRow]
    refine callK.data (hn) (by simp; rfl) (by first | exact D.leGo_refl _ | simp [takeMap, List.map_map, Function.comp_def, D.le, D.le.go, D.le_refl, D.leGo_refl, dNum, dS, nRow]) ?_
    refine hK2 _ ?_
    clear hK2 K2
    simp only [putd, upd_lst]
    repeat (refine sxf_next fun K2 hK2 => ?_; simp [dNum, dS, nRow]; (repeat (refine ⟨by omega, ?_⟩)); refine hK2 _ ?_; clear hK2 K2)
    refine sxf_nil (hK' _ ?_)
    refine AW.st (by simp [dNum, dS, nRow]; rfl) ?_
    clear hK' K'
    refine AW_rg (tyOf_good _) [2, 4, 9] [502, 503] (notIn_ok rfl) fun K' hK' => ?_
    repeat (refine sxf_next fun K2 hK2 => ?_; simp [dNum, dS, nRow, binS, bs_list, bs_nil, hs, hse, hsb]; (repeat (refine ⟨by omega, ?_⟩)); refine hK2 _ ?_; clear hK2 K2)
    refine sxf_nil (hK' _ ?_)
    refine AW.st (by simp [dNum, dS, nRow, binS, bs_list, bs_nil, hs, hse, hsb]; rfl) ?_
    clear hK' K'
    refine AW_cond true rfl (fun _ => ?_) (fun h => by cases h)
    refine AW_re (tyOf_good _) fun K' hK' => ?_
    repeat (refine sxf_next fun K2 hK2 => ?_; simp [dNum, dS, nRow, List.take_of_length_le]; (repeat (refine ⟨by omega, ?_⟩)); refine hK2 _ ?_; clear hK2 K2)
    refine sxf_nil (hK' _ ?_)
    clear hK' K'
    try simp only [thn, inb]
    simp [D.le_refl, nRow, dS]

set_option maxHeartbeats 16000000 in
theorem walkN_at (G : Glob) (all : Bool) : ∀ (m : Nat) (e : Ex), SizeOf.sizeOf e ≤ m → ∀ l0 : List (List UInt8), l0.length + bE e ≤ 2^39 → MC Tryz.prog G [502] 26 [.d (dE e), .fn (.func 37) [.d (.ip [.fn (.func (fnOf all)) []]), .ref 502 0 0]] (hlst (nRow l0)) (.d (.tup [])) (hlst (nRow (l0 ++ nmsE all e))) := by
  intro m
  induction m with
  | zero => intro e hsz; cases e <;> simp at hsz
  | succ m ih =>
    intro e hsz l0 hb
    have hbp := bE_pos e
    by_cases hN : ∃ x, e = .not x
    · obtain ⟨x, rfl⟩ := hN
      simp only [bE] at hb
      obtain ⟨tx, cx, hx⟩ := dE_ifc x
      have hs1 := gather_spec G all l0 (.not x) (by omega)
      have hnil : one1 (nmE all (.not x)) = [] := rfl
      rw [hnil, List.append_nil, List.singleton_append] at hs1
      have hc := ih x (by simp at hsz; omega) l0 (by omega)
      rw [nmsE]
      rw [dE, hx]
      rw [dE, hx] at hs1
      rw [hx] at hc
      generalize l0 ++ nmsE all x = l1 at hc ⊢
      generalize fnOf all = g at hc hs1 ⊢
      refine MC.of_body (tyOf_good _) Tryz.func26 rfl rfl (rs := []) Tryz.results26 (by simp [Tryz.ntmps26]) rfl fun X => ?_
      simp only [Tryz.ntmps26]
      refine AW_rg (tyOf_good _) [0, 1] [502, 503] (notIn_ok rfl) fun K' hK' => ?_
      repeat (refine sxf_next fun K2 hK2 => ?_; simp [dNum, dS, nRow, pairA, assertA]; (repeat (refine ⟨by omega, ?_⟩)); refine hK2 _ ?_; clear hK2 K2)
      refine sxf_next fun K2 hK2 => ?_
      simp [dNum, dS, nRow, pairA, assertA]
      refine callK.mc (hs1) (by simp [dNum, dS, nRow, pairA, assertA]) (by simp [dNum, dS, nRow, pairA, assertA]) (by simp [dNum, dS, nRow, pairA, assertA]) (by simp [dNum, dS, nRow, pairA, assertA]) ?_
      simp [dNum, dS, nRow, pairA, assertA]
      refine hK2 _ ?_
      clear hK2 K2
      repeat (refine sxf_next fun K2 hK2 => ?_; simp [dNum, dS, nRow, pairA, assertA]; (repeat (refine ⟨by omega, ?_⟩)); refine hK2 _ ?_; clear hK2 K2)
      refine sxf_nil (hK' _ ?_)
      refine AW.st (by simp [dNum, dS, nRow, pairA, assertA]; rfl) ?_
      clear hK' K'
      refine AW_rg (tyOf_good _) [1, 14] [502, 503] (notIn_ok rfl) fun K' hK' => ?_
      repeat (refine sxf_next fun K2 hK2 => ?_; simp [dNum, dS, nRow, pairA, assertA]; (repeat (refine ⟨by omega, ?_⟩)); refine hK2 _ ?_; clear hK2 K2)
      refine sxf_nil (hK' _ ?_)
      refine AW.st (by simp [dNum, dS, nRow, pairA, assertA]; rfl) ?_
      clear hK' K'
      refine AW_block ?_
      refine AW_rg (tyOf_good _) [1, 14, 16, 17] [502, 503] (notIn_ok rfl) fun K' hK' => ?_
      repeat (refine sxf_next fun K2 hK2 => ?_; simp [dNum, dS, nRow, pairA, assertA]; (repeat (refine ⟨by omega, ?_⟩)); refine hK2 _ ?_; clear hK2 K2)
      refine sxf_nil (hK' _ ?_)
      refine AW.st (by simp [dNum, dS, nRow, pairA, assertA]; rfl) ?_
      clear hK' K'
      refine AW_cond true rfl (fun _ => ?_) (fun h => by cases h)
      refine AW_rg (tyOf_good _) [1, 4] [4, 502, 503] (notIn_ok rfl) fun K' hK' => ?_
      repeat (refine sxf_next fun K2 hK2 => ?_; simp [dNum, dS, nRow, pairA, assertA]; (repeat (refine ⟨by omega, ?_⟩)); refine hK2 _ ?_; clear hK2 K2)
      refine sxf_nil (hK' _ ?_)
      refine AW.st (by simp [dNum, dS, nRow, pairA, assertA]; rfl) ?_
      clear hK' K'
      refine AW_re (tyOf_good _) fun K' hK' => ?_
      repeat (refine sxf_next fun K2 hK2 => ?_; simp [dNum, dS, nRow, pairA, assertA]; (repeat (refine ⟨by omega, ?_⟩)); refine hK2 _ ?_; clear hK2 K2)
      refine sxf_next fun K2 hK2 => ?_
      simp [dNum, dS, nRow, pairA, assertA]
      refine callK.mc (hc) (by simp [dNum, dS, nRow, pairA, assertA]) (by simp [dNum, dS, nRow, pairA, assertA]) (by simp [dNum, dS, nRow, pairA, assertA]) (by simp [dNum, dS, nRow, pairA, assertA]) ?_
      simp [dNum, dS, nRow, pairA, assertA]
      refine hK2 _ ?_
      clear hK2 K2
      repeat (refine sxf_next fun K2 hK2 => ?_; simp [dNum, dS, nRow, pairA, assertA]; (repeat (refine ⟨by omega, ?_⟩)); refine hK2 _ ?_; clear hK2 K2)
      refine sxf_nil (hK' _ ?_)
      clear hK' K'
      try simp only [thn, inb]
      simp [D.le_refl, nRow, dS]
    by_cases hand : ∃ l, e = .and l
    · obtain ⟨l, rfl⟩ := hand
      simp only [bE] at hb
      have hs1 := gather_spec G all l0 (.and l) (by omega)
      have hnil : one1 (nmE all (.and l)) = [] := rfl
      rw [hnil, List.append_nil, List.singleton_append] at hs1
      have hch := fun (x : Ex) (hx : x ∈ l) => ih x (by have := List.sizeOf_lt_of_mem hx; simp only [Ex.and.sizeOf_spec] at hsz; omega)
      have hln := bEs_len l
      rw [nmsE]
      rw [dE, dEs_map]
      rw [dE, dEs_map] at hs1
      clear ih
      generalize hg : fnOf all = g at hch hs1 ⊢
      refine MC.of_body (tyOf_good _) Tryz.func26 rfl rfl (rs := []) Tryz.results26 (by simp [Tryz.ntmps26]) rfl fun X => ?_
      simp only [Tryz.ntmps26]
      refine AW_rg (tyOf_good _) [0, 1] [502, 503] (notIn_ok rfl) fun K' hK' => ?_
      repeat (refine sxf_next fun K2 hK2 => ?_; simp [dNum, dS, nRow, pairA, assertA]; (repeat (refine ⟨by omega, ?_⟩)); refine hK2 _ ?_; clear hK2 K2)
      refine sxf_next fun K2 hK2 => ?_
      simp [dNum, dS, nRow, pairA, assertA]
      refine callK.mc (hs1) (by simp [dNum, dS, nRow, pairA, assertA]) (by simp [dNum, dS, nRow, pairA, assertA]) (by simp [dNum, dS, nRow, pairA, assertA]) (by simp [dNum, dS, nRow, pairA, assertA]) ?_
      simp [dNum, dS, nRow, pairA, assertA]
      refine hK2 _ ?_
      clear hK2 K2
      repeat (refine sxf_next fun K2 hK2 => ?_; simp [dNum, dS, nRow, pairA, assertA]; (repeat (refine ⟨by omega, ?_⟩)); refine hK2 _ ?_; clear hK2 K2)
      refine sxf_nil (hK' _ ?_)
      refine AW.st (by simp [dNum, dS, nRow, pairA, assertA]; rfl) ?_
      clear hK' K'
      refine AW_rg (tyOf_good _) [1, 14] [502, 503] (notIn_ok rfl) fun K' hK' => ?_
      repeat (refine sxf_next fun K2 hK2 => ?_; simp [dNum, dS, nRow, pairA, assertA]; (repeat (refine ⟨by omega, ?_⟩)); refine hK2 _ ?_; clear hK2 K2)
      refine sxf_nil (hK' _ ?_)
      refine AW.st (by simp [dNum, dS, nRow, pairA, assertA]; rfl) ?_
      clear hK' K'
      refine AW_block ?_
      refine AW_rg (tyOf_good _) [1, 14, 16, 17] [502, 503] (notIn_ok rfl) fun K' hK' => ?_
      repeat (refine sxf_next fun K2 hK2 => ?_; simp [dNum, dS, nRow, pairA, assertA]; (repeat (refine ⟨by omega, ?_⟩)); refine hK2 _ ?_; clear hK2 K2)
      refine sxf_nil (hK' _ ?_)
      refine AW.st (by simp [dNum, dS, nRow, pairA, assertA]; rfl) ?_
      clear hK' K'
      refine AW_cond false rfl (fun h => by cases h) (fun _ => ?_)
      refine AW_rg (tyOf_good _) [1, 14, 23, 24] [502, 503] (notIn_ok rfl) fun K' hK' => ?_
      repeat (refine sxf_next fun K2 hK2 => ?_; simp [dNum, dS, nRow, pairA, assertA]; (repeat (refine ⟨by omega, ?_⟩)); refine hK2 _ ?_; clear hK2 K2)
      refine sxf_nil (hK' _ ?_)
      refine AW.st (by simp [dNum, dS, nRow, pairA, assertA]; rfl) ?_
      clear hK' K'
      refine AW_cond true rfl (fun _ => ?_) (fun h => by cases h)
      refine AW_rg (tyOf_good _) [1, 5] [502, 503] (notIn_ok rfl) fun K' hK' => ?_
      repeat (refine sxf_next fun K2 hK2 => ?_; simp [dNum, dS, nRow, pairA, assertA]; (repeat (refine ⟨by omega, ?_⟩)); refine hK2 _ ?_; clear hK2 K2)
      refine sxf_nil (hK' _ ?_)
      refine AW.st (by simp [dNum, dS, nRow, pairA, assertA]; rfl) ?_
      clear hK' K'
      refine AW_rg (tyOf_good _) [1, 25, 26, 27] [502, 503] (notIn_ok rfl) fun K' hK' => ?_
      repeat (refine sxf_next fun K2 hK2 => ?_; simp [dNum, dS, nRow, pairA, assertA]; (repeat (refine ⟨by omega, ?_⟩)); refine hK2 _ ?_; clear hK2 K2)
      refine sxf_nil (hK' _ ?_)
      refine AW.st (by simp [dNum, dS, nRow, pairA, assertA]; rfl) ?_
      clear hK' K'
      refine AW_for (S := Nat) (fun i => i ≤ l.length) (fun i => ⟨lst [(1, .fn (.func 37) [.d (.ip [.fn (.func g) []]), .ref 502 0 0]), (25, .d (.sl none (l.map fun e => [dE e]))), (26, int l.length), (27, int i)], hlst (nRow (l0 ++ nmsL all (l.take i)))⟩) (fun i => l.length - i) 0 ?_ (by omega) ?_
      · refine Imp.to' (notIn_ok rfl) (by simp [dNum, dS, nRow, pairA, assertA, nmsL]) (by simp [dNum, dS, nRow, pairA, assertA, nmsL])
      · intro i hi
        refine AW_rg (tyOf_good _) [1, 25, 26, 27, 28] [502, 503] (notIn_ok rfl) fun K' hK' => ?_
        repeat (refine sxf_next fun K2 hK2 => ?_; simp [dNum, dS, nRow, pairA, assertA]; (repeat (refine ⟨by omega, ?_⟩)); refine hK2 _ ?_; clear hK2 K2)
        refine sxf_nil (hK' _ ?_)
        refine AW.st (by simp [dNum, dS, nRow, pairA, assertA]; rfl) ?_
        clear hK' K'
        refine AW_then fun K1 hK1 => ?_
        refine AW_cond' (b := i < l.length) (by simp [D.le, D.le.go, takeMap, dNum, dS, nRow, pairA, assertA]) (fun hc => ?_) (fun hc => ?_)
        · have hil : i < l.length := hc
          have h1 := nmsL_take all hil
          have h2 := nmsL_len all (l.take i)
          have h3 := bEs_take hil
          have hcc := hch _ (List.getElem_mem hil) (l0 ++ nmsL all (l.take i)) (by rw [List.length_append]; omega)
          rw [List.append_assoc, ← h1] at hcc
          obtain ⟨tx, cx, hx⟩ := dE_ifc l[i]
          rw [hx] at hcc
          refine AW_skip (hK1 _ ?_)
          refine AW_then fun K2 hK2 => ?_
          refine AW_block ?_
          refine AW_rg (tyOf_good _) [1, 7, 25, 26, 27] [502, 503] (notIn_ok rfl) fun K' hK' => ?_
          repeat (refine sxf_next fun K2 hK2 => ?_; simp [dNum, dS, nRow, pairA, assertA, hil, hx]; (repeat (refine ⟨by omega, ?_⟩)); refine hK2 _ ?_; clear hK2 K2)
          refine sxf_nil (hK' _ ?_)
          refine AW.st (by simp [dNum, dS, nRow, pairA, assertA, hil, hx]; rfl) ?_
          clear hK' K'
          refine AW_re (tyOf_good _) fun K' hK' => ?_
          repeat (refine sxf_next fun K2 hK2 => ?_; simp [dNum, dS, nRow, pairA, assertA]; (repeat (refine ⟨by omega, ?_⟩)); refine hK2 _ ?_; clear hK2 K2)
          refine sxf_next fun K2 hK2 => ?_
          simp [dNum, dS, nRow, pairA, assertA]
          refine callK.mc (hcc) (by simp [dNum, dS, nRow, pairA, assertA]) (by simp [dNum, dS, nRow, pairA, assertA]) (by simp [dNum, dS, nRow, pairA, assertA]) (by simp [dNum, dS, nRow, pairA, assertA]) ?_
          simp [dNum, dS, nRow, pairA, assertA]
          refine hK2 _ ?_
          clear hK2 K2
          repeat (refine sxf_next fun K2 hK2 => ?_; simp [dNum, dS, nRow, pairA, assertA]; (repeat (refine ⟨by omega, ?_⟩)); refine hK2 _ ?_; clear hK2 K2)
          refine sxf_nil (hK' _ ?_)
          clear hK' K'
          refine hK2 _ (AW.norm [1, 25, 26, 27] [502, 503] (notIn_ok rfl) (AW.st (by simp [dNum, dS, nRow, pairA, assertA]; rfl) ?_))
          refine AW_re (tyOf_good _) fun K' hK' => ?_
          repeat (refine sxf_next fun K2 hK2 => ?_; simp [dNum, dS, nRow, pairA, assertA]; (repeat (refine ⟨by omega, ?_⟩)); refine hK2 _ ?_; clear hK2 K2)
          refine sxf_nil (hK' _ ?_)
          clear hK' K'
          try simp only [thn, inb]
          refine Again.mk (i + 1) (by omega) (by omega) ?_
          refine Imp.to' (notIn_ok rfl) (by simp [dNum, dS, nRow, pairA, assertA]) (by simp [dNum, dS, nRow, pairA, assertA])
        · obtain rfl : i = l.length := by omega
          refine AW_exit ?_
          simp [D.le_refl, List.take_length, nRow, dS]
    by_cases hor : ∃ l, e = .or l
    · obtain ⟨l, rfl⟩ := hor
      simp only [bE] at hb
      have hs1 := gather_spec G all l0 (.or l) (by omega)
      have hnil : one1 (nmE all (.or l)) = [] := rfl
      rw [hnil, List.append_nil, List.singleton_append] at hs1
      have hch := fun (x : Ex) (hx : x ∈ l) => ih x (by have := List.sizeOf_lt_of_mem hx; simp only [Ex.or.sizeOf_spec] at hsz; omega)
      have hln := bEs_len l
      rw [nmsE]
      rw [dE, dEs_map]
      rw [dE, dEs_map] at hs1
      clear ih
      generalize hg : fnOf all = g at hch hs1 ⊢
      refine MC.of_body (tyOf_good _) Tryz.func26 rfl rfl (rs := []) Tryz.results26 (by simp [Tryz.ntmps26]) rfl fun X => ?_
      simp only [Tryz.ntmps26]
      refine AW_rg (tyOf_good _) [0, 1] [502, 503] (notIn_ok rfl) fun K' hK' => ?_
      repeat (refine sxf_next fun K2 hK2 => ?_; simp [dNum, dS, nRow, pairA, assertA]; (repeat (refine ⟨by omega, ?_⟩)); refine hK2 _ ?_; clear hK2 K2)
      refine sxf_next fun K2 hK2 => ?_
      simp [dNum, dS, nRow, pairA, assertA]
      refine callK.mc (hs1) (by simp [dNum, dS, nRow, pairA, assertA]) (by simp [dNum, dS, nRow, pairA, assertA]) (by simp [dNum, dS, nRow, pairA, assertA]) (by simp [dNum, dS, nRow, pairA, assertA]) ?_
      simp [dNum, dS, nRow, pairA, assertA]
      refine hK2 _ ?_
      clear hK2 K2
      repeat (refine sxf_next fun K2 hK2 => ?_; simp [dNum, dS, nRow, pairA, assertA]; (repeat (refine ⟨by omega, ?_⟩)); refine hK2 _ ?_; clear hK2 K2)
      refine sxf_nil (hK' _ ?_)
      refine AW.st (by simp [dNum, dS, nRow, pairA, assertA]; rfl) ?_
      clear hK' K'
      refine AW_rg (tyOf_good _) [1, 14] [502, 503] (notIn_ok rfl) fun K' hK' => ?_
      repeat (refine sxf_next fun K2 hK2 => ?_; simp [dNum, dS, nRow, pairA, assertA]; (repeat (refine ⟨by omega, ?_⟩)); refine hK2 _ ?_; clear hK2 K2)
      refine sxf_nil (hK' _ ?_)
      refine AW.st (by simp [dNum, dS, nRow, pairA, assertA]; rfl) ?_
      clear hK' K'
      refine AW_block ?_
      refine AW_rg (tyOf_good _) [1, 14, 16, 17] [502, 503] (notIn_ok rfl) fun K' hK' => ?_
      repeat (refine sxf_next fun K2 hK2 => ?_; simp [dNum, dS, nRow, pairA, assertA]; (repeat (refine ⟨by omega, ?_⟩)); refine hK2 _ ?_; clear hK2 K2)
      refine sxf_nil (hK' _ ?_)
      refine AW.st (by simp [dNum, dS, nRow, pairA, assertA]; rfl) ?_
      clear hK' K'
      refine AW_cond false rfl (fun h => by cases h) (fun _ => ?_)
      refine AW_rg (tyOf_good _) [1, 14, 23, 24] [502, 503] (notIn_ok rfl) fun K' hK' => ?_
      repeat (refine sxf_next fun K2 hK2 => ?_; simp [dNum, dS, nRow, pairA, assertA]; (repeat (refine ⟨by omega, ?_⟩)); refine hK2 _ ?_; clear hK2 K2)
      refine sxf_nil (hK' _ ?_)
      refine AW.st (by simp [dNum, dS, nRow, pairA, assertA]; rfl) ?_
      clear hK' K'
      refine AW_cond false rfl (fun h => by cases h) (fun _ => ?_)
      refine AW_rg (tyOf_good _) [1, 36, 37] [502, 503] (notIn_ok rfl) fun K' hK' => ?_
      repeat (refine sxf_next fun K2 hK2 => ?_; simp [dNum, dS, nRow, pairA, assertA]; (repeat (refine ⟨by omega, ?_⟩)); refine hK2 _ ?_; clear hK2 K2)
      refine sxf_nil (hK' _ ?_)
      refine AW.st (by simp [dNum, dS, nRow, pairA, assertA]; rfl) ?_
      clear hK' K'
      refine AW_cond true rfl (fun _ => ?_) (fun h => by cases h)
      refine AW_rg (tyOf_good _) [1, 8] [502, 503] (notIn_ok rfl) fun K' hK' => ?_
      repeat (refine sxf_next fun K2 hK2 => ?_; simp [dNum, dS, nRow, pairA, assertA]; (repeat (refine ⟨by omega, ?_⟩)); refine hK2 _ ?_; clear hK2 K2)
      refine sxf_nil (hK' _ ?_)
      refine AW.st (by simp [dNum, dS, nRow, pairA, assertA]; rfl) ?_
      clear hK' K'
      refine AW_rg (tyOf_good _) [1, 38, 39, 40] [502, 503] (notIn_ok rfl) fun K' hK' => ?_
      repeat (refine sxf_next fun K2 hK2 => ?_; simp [dNum, dS, nRow, pairA, assertA]; (repeat (refine ⟨by omega, ?_⟩)); refine hK2 _ ?_; clear hK2 K2)
      refine sxf_nil (hK' _ ?_)
      refine AW.st (by simp [dNum, dS, nRow, pairA, assertA]; rfl) ?_
      clear hK' K'
      refine AW_for (S := Nat) (fun i => i ≤ l.length) (fun i => ⟨lst [(1, .fn (.func 37) [.d (.ip [.fn (.func g) []]), .ref 502 0 0]), (38, .d (.sl none (l.map fun e => [dE e]))), (39, int l.length), (40, int i)], hlst (nRow (l0 ++ nmsL all (l.take i)))⟩) (fun i => l.length - i) 0 ?_ (by omega) ?_
      · refine Imp.to' (notIn_ok rfl) (by simp [dNum, dS, nRow, pairA, assertA, nmsL]) (by simp [dNum, dS, nRow, pairA, assertA, nmsL])
      · intro i hi
        refine AW_rg (tyOf_good _) [1, 38, 39, 40, 41] [502, 503] (notIn_ok rfl) fun K' hK' => ?_
        repeat (refine sxf_next fun K2 hK2 => ?_; simp [dNum, dS, nRow, pairA, assertA]; (repeat (refine ⟨by omega, ?_⟩)); refine hK2 _ ?_; clear hK2 K2)
        refine sxf_nil (hK' _ ?_)
        refine AW.st (by simp [dNum, dS, nRow, pairA, assertA]; rfl) ?_
        clear hK' K'
        refine AW_then fun K1 hK1 => ?_
        refine AW_cond' (b := i < l.length) (by simp [D.le, D.le.go, takeMap, dNum, dS, nRow, pairA, assertA]) (fun hc => ?_) (fun hc => ?_)
        · have hil : i < l.length := hc
          have h1 := nmsL_take all hil
          have h2 := nmsL_len all (l.take i)
          have h3 := bEs_take hil
          have hcc := hch _ (List.getElem_mem hil) (l0 ++ nmsL all (l.take i)) (by rw [List.length_append]; omega)
          rw [List.append_assoc, ← h1] at hcc
          obtain ⟨tx, cx, hx⟩ := dE_ifc l[i]
          rw [hx] at hcc
          refine AW_skip (hK1 _ ?_)
          refine AW_then fun K2 hK2 => ?_
          refine AW_block ?_
          refine AW_rg (tyOf_good _) [1, 10, 38, 39, 40] [502, 503] (notIn_ok rfl) fun K' hK' => ?_
          repeat (refine sxf_next fun K2 hK2 => ?_; simp [dNum, dS, nRow, pairA, assertA, hil, hx]; (repeat (refine ⟨by omega, ?_⟩)); refine hK2 _ ?_; clear hK2 K2)
          refine sxf_nil (hK' _ ?_)
          refine AW.st (by simp [dNum, dS, nRow, pairA, assertA, hil, hx]; rfl) ?_
          clear hK' K'
          refine AW_re (tyOf_good _) fun K' hK' => ?_
          repeat (refine sxf_next fun K2 hK2 => ?_; simp [dNum, dS, nRow, pairA, assertA]; (repeat (refine ⟨by omega, ?_⟩)); refine hK2 _ ?_; clear hK2 K2)
          refine sxf_next fun K2 hK2 => ?_
          simp [dNum, dS, nRow, pairA, assertA]
          refine callK.mc (hcc) (by simp [dNum, dS, nRow, pairA, assertA]) (by simp [dNum, dS, nRow, pairA, assertA]) (by simp [dNum, dS, nRow, pairA, assertA]) (by simp [dNum, dS, nRow, pairA, assertA]) ?_
          simp [dNum, dS, nRow, pairA, assertA]
          refine hK2 _ ?_
          clear hK2 K2
          repeat (refine sxf_next fun K2 hK2 => ?_; simp [dNum, dS, nRow, pairA, assertA]; (repeat (refine ⟨by omega, ?_⟩)); refine hK2 _ ?_; clear hK2 K2)
          refine sxf_nil (hK' _ ?_)
          clear hK' K'
          refine hK2 _ (AW.norm [1, 38, 39, 40] [502, 503] (notIn_ok rfl) (AW.st (by simp [dNum, dS, nRow, pairA, assertA]; rfl) ?_))
          refine AW_re (tyOf_good _) fun K' hK' => ?_
          repeat (refine sxf_next fun K2 hK2 => ?_; simp [dNum, dS, nRow, pairA, assertA]; (repeat (refine ⟨by omega, ?_⟩)); refine hK2 _ ?_; clear hK2 K2)
          refine sxf_nil (hK' _ ?_)
          clear hK' K'
          try simp only [thn, inb]
          refine Again.mk (i + 1) (by omega) (by omega) ?_
          refine Imp.to' (notIn_ok rfl) (by simp [dNum, dS, nRow, pairA, assertA]) (by simp [dNum, dS, nRow, pairA, assertA])
        · obtain rfl : i = l.length := by omega
          refine AW_exit ?_
          simp [D.le_refl, List.take_length, nRow, dS]
    have hk : ∃ t c, dE e = .ifc t c ∧ ¬ t = 52 ∧ ¬ t = 54 ∧ ¬ t = 57 ∧ nmsE all e = one1 (nmE all e) := by
      cases e with
      | not z => exact absurd ⟨z, rfl⟩ hN
      | and l => exact absurd ⟨l, rfl⟩ hand
      | or l => exact absurd ⟨l, rfl⟩ hor
      | cst b => exact ⟨_, _, by rw [dE], by decide, by decide, by decide, rfl⟩
      | bit s => exact ⟨_, _, by rw [dE], by decide, by decide, by decide, rfl⟩
      | rise s => exact ⟨_, _, by rw [dE], by decide, by decide, by decide, rfl⟩
      | fall s => exact ⟨_, _, by rw [dE], by decide, by decide, by decide, rfl⟩
    obtain ⟨t, c, hy, h1, h2, h3, h4⟩ := hk
    have hs1 := gather_spec G all l0 e (by omega)
    rw [List.singleton_append] at hs1
    rw [h4, hy]
    rw [hy] at hs1
    generalize l0 ++ one1 (nmE all e) = l1 at hs1 ⊢
    generalize fnOf all = g at hs1 ⊢
    refine MC.of_body (tyOf_good _) Tryz.func26 rfl rfl (rs := []) Tryz.results26 (by simp [Tryz.ntmps26]) rfl fun X => ?_
    simp only [Tryz.ntmps26]
    refine AW_rg (tyOf_good _) [0, 1] [502, 503] (notIn_ok rfl) fun K' hK' => ?_
    repeat (refine sxf_next fun K2 hK2 => ?_; simp [dNum, dS, nRow, pairA, assertA]; (repeat (refine ⟨by omega, ?_⟩)); refine hK2 _ ?_; clear hK2 K2)
    refine sxf_next fun K2 hK2 => ?_
    simp [dNum, dS, nRow, pairA, assertA]
    refine callK.mc (hs1) (by simp [dNum, dS, nRow, pairA, assertA]) (by simp [dNum, dS, nRow, pairA, assertA]) (by simp [dNum, dS, nRow, pairA, assertA]) (by simp [dNum, dS, nRow, pairA, assertA]) ?_
    simp [dNum, dS, nRow, pairA, assertA]
    refine hK2 _ ?_
    clear hK2 K2
    repeat (refine sxf_next fun K2 hK2 => ?_; simp [dNum, dS, nRow, pairA, assertA]; (repeat (refine ⟨by omega, ?_⟩)); refine hK2 _ ?_; clear hK2 K2)
    refine sxf_nil (hK' _ ?_)
    refine AW.st (by simp [dNum, dS, nRow, pairA, assertA]; rfl) ?_
    clear hK' K'
    refine AW_rg (tyOf_good _) [1, 14] [502, 503] (notIn_ok rfl) fun K' hK' => ?_
    repeat (refine sxf_next fun K2 hK2 => ?_; simp [dNum, dS, nRow, pairA, assertA]; (repeat (refine ⟨by omega, ?_⟩)); refine hK2 _ ?_; clear hK2 K2)
    refine sxf_nil (hK' _ ?_)
    refine AW.st (by simp [dNum, dS, nRow, pairA, assertA]; rfl) ?_
    clear hK' K'
    refine AW_block ?_
    refine AW_rg (tyOf_good _) [1, 14, 16, 17] [502, 503] (notIn_ok rfl) fun K' hK' => ?_
    repeat (refine sxf_next fun K2 hK2 => ?_; simp [dNum, dS, nRow, pairA, assertA, h1]; (repeat (refine ⟨by omega, ?_⟩)); refine hK2 _ ?_; clear hK2 K2)
    refine sxf_nil (hK' _ ?_)
    refine AW.st (by simp [dNum, dS, nRow, pairA, assertA, h1]; rfl) ?_
    clear hK' K'
    refine AW_cond false rfl (fun h => by cases h) (fun _ => ?_)
    refine AW_rg (tyOf_good _) [1, 14, 23, 24] [502, 503] (notIn_ok rfl) fun K' hK' => ?_
    repeat (refine sxf_next fun K2 hK2 => ?_; simp [dNum, dS, nRow, pairA, assertA, h2]; (repeat (refine ⟨by omega, ?_⟩)); refine hK2 _ ?_; clear hK2 K2)
    refine sxf_nil (hK' _ ?_)
    refine AW.st (by simp [dNum, dS, nRow, pairA, assertA, h2]; rfl) ?_
    clear hK' K'
    refine AW_cond false rfl (fun h => by cases h) (fun _ => ?_)
    refine AW_rg (tyOf_good _) [1, 36, 37] [502, 503] (notIn_ok rfl) fun K' hK' => ?_
    repeat (refine sxf_next fun K2 hK2 => ?_; simp [dNum, dS, nRow, pairA, assertA, h3]; (repeat (refine ⟨by omega, ?_⟩)); refine hK2 _ ?_; clear hK2 K2)
    refine sxf_nil (hK' _ ?_)
    refine AW.st (by simp [dNum, dS, nRow, pairA, assertA, h3]; rfl) ?_
    clear hK' K'
    refine AW_cond false rfl (fun h => by cases h) (fun _ => ?_)
    refine AW_skip ?_
    simp [D.le_refl, nRow, dS]

def namesE (all : Bool) (e : Ex) : List (List UInt8) := Lib.compact (sortT (nmsE all e))
set_option maxHeartbeats 8000000 in
theorem sorted_spec (G : Glob) (all : Bool) (e : Ex) (hb : bE e ≤ 2^28) : PureC Tryz.prog G 22 [dE e, .fn (.func (fnOf all)) []] (.sl none ((namesE all e).map fun s => [dS s])) := by
  have hlen := nms_len all e
  have hw := walkN_at G all _ e (Nat.le_refl _) [] (by simp; omega)
  rw [List.nil_append] at hw
  have hso := sort_mc G 503 9 (nmsE all e) (by omega)
  have hco := compact_mc G 503 9 (sortT (nmsE all e)) (by rw [sortT_len]; omega)
  rw [sortT_len] at hco
  have hcl := Lib.compact_length_le (sortT (nmsE all e))
  rw [sortT_len] at hcl
  unfold namesE
  obtain ⟨tx, cx, hx⟩ := dE_ifc e
  rw [hx] at hw ⊢
  generalize fnOf all = g at hw ⊢
  generalize nmsE all e = l at hw hso hco hcl hlen ⊢
  generalize sortT l = z at hso hco hcl ⊢
  have htk : List.take (Lib.compact z).length ((Lib.compact z ++ List.replicate (l.length - (Lib.compact z).length) []).map fun s => [dS s]) = (Lib.compact z).map fun s => [dS s] := by
    rw [List.map_append, List.take_append_of_le_length (by simp), List.take_of_length_le (by simp)]
  have hyl : (Lib.compact z ++ List.replicate (l.length - (Lib.compact z).length) []).length = l.length := by simp; omega
  generalize Lib.compact z ++ List.replicate (l.length - (Lib.compact z).length) [] = y at hco htk hyl
  generalize Lib.compact z = c at hco hcl htk ⊢
  refine PureC.of_body (tyOf_good _) Tryz.func22 rfl rfl (rs := [.tmp 4]) Tryz.results22 (by simp [Tryz.ntmps22]) fun X => ?_
  simp only [Tryz.ntmps22, List.map]
  refine AW_rg (tyOf_good _) [0, 3] [3] (fun _ _ => trivial) fun K' hK' => ?_
  repeat (refine sxf_next fun K2 hK2 => ?_; simp [dNum, dS, nRow, pairA, assertA]; (repeat (refine ⟨by omega, ?_⟩)); refine hK2 _ ?_; clear hK2 K2)
  refine sxf_nil (hK' _ ?_)
  refine AW.st (by simp [dNum, dS, nRow, pairA, assertA]; rfl) ?_
  clear hK' K'
  refine AW.imp (Imp.freezeB 3 trivial) ?_
  refine AW.st (by simp [dNum, dS, nRow, pairA, assertA]; rfl) ?_
  refine AW_rg (tyOf_good _) [0, 3, 5] [5] (fun _ _ => trivial) fun K' hK' => ?_
  repeat (refine sxf_next fun K2 hK2 => ?_; simp [dNum, dS, nRow, pairA, assertA]; (repeat (refine ⟨by omega, ?_⟩)); refine hK2 _ ?_; clear hK2 K2)
  refine sxf_nil (hK' _ ?_)
  refine AW.st (by simp [dNum, dS, nRow, pairA, assertA]; rfl) ?_
  clear hK' K'
  refine AW.imp (Imp.ren (r := 5) (r' := 502) trivial (by simp)) ?_
  refine AW.st (by simp [renO, renF, Go.Av.ren, renH_one]; rfl) ?_
  refine AW.imp (Imp.adoptCell 502 0 503 9 1 rfl rfl rfl) ?_
  refine AW.imp (τ := ⟨lst [(0, .d (.ifc tx cx)), (3, .d (.ip [.fn (.func g) []])), (5, .ref 502 0 0)], hlst (nRow [])⟩) ?_ ?_
  · refine Imp.to' (fun _ _ => trivial) (by simp [dNum, dS, nRow, pairA, assertA, nRow]) (by simp [dNum, dS, nRow, pairA, assertA, nRow])
  refine AW_rg (tyOf_good _) [5] [502, 503] (fun _ _ => trivial) fun K' hK' => ?_
  repeat (refine sxf_next fun K2 hK2 => ?_; simp [dNum, dS, nRow, pairA, assertA]; (repeat (refine ⟨by omega, ?_⟩)); refine hK2 _ ?_; clear hK2 K2)
  refine sxf_next fun K2 hK2 => ?_
  simp [dNum, dS, nRow, pairA, assertA]
  refine callK.mc (hw) (by simp [dNum, dS, nRow, pairA, assertA]) (by simp [dNum, dS, nRow, pairA, assertA]) (by simp [dNum, dS, nRow, pairA, assertA]) (by simp [dNum, dS, nRow, pairA, assertA]) ?_
  simp [dNum, dS, nRow, pairA, assertA]
  refine hK2 _ ?_
  clear hK2 K2
  repeat (refine sxf_next fun K2 hK2 => ?_; simp [dNum, dS, nRow, pairA, assertA]; (repeat (refine ⟨by omega, ?_⟩)); refine hK2 _ ?_; clear hK2 K2)
  refine sxf_nil (hK' _ ?_)
  refine AW.st (by simp [dNum, dS, nRow, pairA, assertA]; rfl) ?_
  clear hK' K'
  refine AW_rg (tyOf_good _) [5] [502, 503] (fun _ _ => trivial) fun K' hK' => ?_
  repeat (refine sxf_next fun K2 hK2 => ?_; simp [dNum, dS, nRow, pairA, assertA]; (repeat (refine ⟨by omega, ?_⟩)); refine hK2 _ ?_; clear hK2 K2)
  refine sxf_next fun K2 hK2 => ?_
  simp [dNum, dS, nRow, pairA, assertA]
  refine callK.mc (hso) (by simp [dNum, dS, nRow, pairA, assertA]) (by simp [dNum, dS, nRow, pairA, assertA]) (by simp [dNum, dS, nRow, pairA, assertA]) (by simp [dNum, dS, nRow, pairA, assertA]) ?_
  simp [dNum, dS, nRow, pairA, assertA]
  refine hK2 _ ?_
  clear hK2 K2
  repeat (refine sxf_next fun K2 hK2 => ?_; simp [dNum, dS, nRow, pairA, assertA]; (repeat (refine ⟨by omega, ?_⟩)); refine hK2 _ ?_; clear hK2 K2)
  refine sxf_nil (hK' _ ?_)
  refine AW.st (by simp [dNum, dS, nRow, pairA, assertA]; rfl) ?_
  clear hK' K'
  refine AW_rg (tyOf_good _) [4] [502, 503] (fun _ _ => trivial) fun K' hK' => ?_
  repeat (refine sxf_next fun K2 hK2 => ?_; simp [dNum, dS, nRow, pairA, assertA]; (repeat (refine ⟨by omega, ?_⟩)); refine hK2 _ ?_; clear hK2 K2)
  refine sxf_next fun K2 hK2 => ?_
  simp [dNum, dS, nRow, pairA, assertA]
  refine callK.mc (hco) (by simp [dNum, dS, nRow, pairA, assertA]) (by simp [dNum, dS, nRow, pairA, assertA]) (by simp [dNum, dS, nRow, pairA, assertA]) (by simp [dNum, dS, nRow, pairA, assertA]) ?_
  simp [dNum, dS, nRow, pairA, assertA]
  refine hK2 _ ?_
  clear hK2 K2
  repeat (refine sxf_next fun K2 hK2 => ?_; simp [dNum, dS, nRow, pairA, assertA]; (repeat (refine ⟨by omega, ?_⟩)); refine hK2 _ ?_; clear hK2 K2)
  refine sxf_nil (hK' _ ?_)
  refine AW.st (by simp [dNum, dS, nRow, pairA, assertA]; rfl) ?_
  clear hK' K'
  have hle : c.length ≤ y.length := by omega
  by_cases hcy : c.length = y.length
  · have htk2 : (y.map fun s => [dS s]) = c.map fun s => [dS s] := by rw [← htk, hcy, List.take_of_length_le (by simp)]
    simp only [dS] at htk2
    refine AW.imp (Imp.freeze 503 trivial) ?_
    refine AW.st (by simp [dNum, dS, nRow, pairA, assertA, hcy, hle, htk2]; rfl) ?_
    refine AW_ret ?_
    simp [D.le, D.le.go, takeMap, dNum, dS, nRow, pairA, assertA, D.le_refl, D.leGo_refl, hcy, htk2]
  · simp only [dS] at htk
    refine AW.imp (Imp.freeze 503 trivial) ?_
    refine AW.st (by simp [dNum, dS, nRow, pairA, assertA, hcy, hle, htk]; rfl) ?_
    refine AW_ret ?_
    simp [D.le, D.le.go, takeMap, dNum, dS, nRow, pairA, assertA, D.le_refl, D.leGo_refl, htk]
theorem namesE_spec (G : Glob) (e : Ex) (hb : bE e ≤ 2^28) : PureC Tryz.prog G 10 [dE e] (.sl none ((namesE true e).map fun s => [dS s])) := by
  have hs := sorted_spec G true e hb
  obtain ⟨tx, cx, hx⟩ := dE_ifc e
  rw [hx] at hs ⊢
  generalize namesE true e = l at hs ⊢
  simp only [fnOf, if_true, if_false, Bool.false_eq_true] at hs
  refine PureC.of_body (tyOf_good _) Tryz.func10 rfl rfl (rs := [.tmp 2]) Tryz.results10 (by simp [Tryz.ntmps10]) fun X => ?_
  simp only [Tryz.ntmps10, List.map]
  refine AW_rg (tyOf_good _) [0] [] (fun _ _ => trivial) fun K' hK' => ?_
  repeat (refine sxf_next fun K2 hK2 => ?_; simp [dNum, dS, nRow, pairA, assertA]; (repeat (refine ⟨by omega, ?_⟩)); refine hK2 _ ?_; clear hK2 K2)
  refine sxf_nil (hK' _ ?_)
  refine AW.st (by simp [dNum, dS, nRow, pairA, assertA]; rfl) ?_
  clear hK' K'
  refine AW_rg (tyOf_good _) [2] [] (fun _ _ => trivial) fun K' hK' => ?_
  repeat (refine sxf_next fun K2 hK2 => ?_; simp [dNum, dS, nRow, pairA, assertA]; (repeat (refine ⟨by omega, ?_⟩)); refine hK2 _ ?_; clear hK2 K2)
  refine sxf_next fun K2 hK2 => ?_
  simp [dNum, dS, nRow, pairA, assertA]
  refine callK.data (hs) (by simp; rfl) (by first | exact D.leGo_refl _ | simp [takeMap, List.map_map, Function.comp_def, D.le, D.le.go, D.le_refl, D.leGo_refl, dNum, dS, nRow, pairA, assertA]) ?_
  refine hK2 _ ?_
  clear hK2 K2
  simp only [putd, upd_lst]
  repeat (refine sxf_next fun K2 hK2 => ?_; simp [dNum, dS, nRow, pairA, assertA]; (repeat (refine ⟨by omega, ?_⟩)); refine hK2 _ ?_; clear hK2 K2)
  refine sxf_nil (hK' _ ?_)
  refine AW.st (by simp [dNum, dS, nRow, pairA, assertA]; rfl) ?_
  clear hK' K'
  refine AW_ret ?_
  simp [D.le, D.le.go, takeMap, dNum, dS, nRow, pairA, assertA, D.le_refl, D.leGo_refl]
theorem edgesE_spec (G : Glob) (e : Ex) (hb : bE e ≤ 2^28) : PureC Tryz.prog G 12 [dE e] (.sl none ((namesE false e).map fun s => [dS s])) := by
  have hs := sorted_spec G false e hb
  obtain ⟨tx, cx, hx⟩ := dE_ifc e
  rw [hx] at hs ⊢
  generalize namesE false e = l at hs ⊢
  simp only [fnOf, if_true, if_false, Bool.false_eq_true] at hs
  refine PureC.of_body (tyOf_good _) Tryz.func12 rfl rfl (rs := [.tmp 2]) Tryz.results12 (by simp [Tryz.ntmps12]) fun X => ?_
  simp only [Tryz.ntmps12, List.map]
  refine AW_rg (tyOf_good _) [0] [] (fun _ _ => trivial) fun K' hK' => ?_
  repeat (refine sxf_next fun K2 hK2 => ?_; simp [dNum, dS, nRow, pairA, assertA]; (repeat (refine ⟨by omega, ?_⟩)); refine hK2 _ ?_; clear hK2 K2)
  refine sxf_nil (hK' _ ?_)
  refine AW.st (by simp [dNum, dS, nRow, pairA, assertA]; rfl) ?_
  clear hK' K'
  refine AW_rg (tyOf_good _) [2] [] (fun _ _ => trivial) fun K' hK' => ?_
  repeat (refine sxf_next fun K2 hK2 => ?_; simp [dNum, dS, nRow, pairA, assertA]; (repeat (refine ⟨by omega, ?_⟩)); refine hK2 _ ?_; clear hK2 K2)
  refine sxf_next fun K2 hK2 => ?_
  simp [dNum, dS, nRow, pairA, assertA]
  refine callK.data (hs) (by simp; rfl) (by first | exact D.leGo_refl _ | simp [takeMap, List.map_map, Function.comp_def, D.le, D.le.go, D.le_refl, D.leGo_refl, dNum, dS, nRow, pairA, assertA]) ?_
  refine hK2 _ ?_
  clear hK2 K2
  simp only [putd, upd_lst]
  repeat (refine sxf_next fun K2 hK2 => ?_; simp [dNum, dS, nRow, pairA, assertA]; (repeat (refine ⟨by omega, ?_⟩)); refine hK2 _ ?_; clear hK2 K2)
  refine sxf_nil (hK' _ ?_)
  refine AW.st (by simp [dNum, dS, nRow, pairA, assertA]; rfl) ?_
  clear hK' K'
  refine AW_ret ?_
  simp [D.le, D.le.go, takeMap, dNum, dS, nRow, pairA, assertA, D.le_refl, D.leGo_refl]
end Go.Proofs.YtfehigldhedkgaaGreatDoor

/-
  Plain: texts put in order one by one, each once, are what sort and compact make of them.
-/
namespace Go.Proofs.YtfehigldhedkgaaGreatDoor
set_option linter.unusedSimpArgs false
set_option linter.unusedVariables false
open Go.Av

abbrev Tx := List UInt8
theorem tx_irr (a : Tx) : ¬ a < a := List.lt_irrefl a
theorem tx_trans {a b c : Tx} (h1 : a < b) (h2 : b < c) : a < c := List.lt_trans h1 h2
theorem tx_le {a b : Tx} : a ≤ b ↔ ¬ b < a := Iff.rfl
theorem tx_tri {a b : Tx} (h1 : ¬ a < b) (h2 : ¬ b < a) : a = b := List.le_antisymm (tx_le.2 h2) (tx_le.2 h1)

def insT (s : Tx) : List Tx → List Tx
  | [] => [s]
  | y :: l => if y < s then y :: insT s l else if y = s then y :: l else s :: y :: l
theorem insT_at (s : Tx) : ∀ (l : List Tx) (k : Nat), k ≤ l.length → (∀ i (hi : i < l.length), i < k → l[i] < s) → (∀ hk : k < l.length, ¬ l[k] < s) →
    insT s l = if (∃ hk : k < l.length, l[k] = s) then l else l.take k ++ s :: l.drop k
  | [], k, hk, _, _ => by
    obtain rfl : k = 0 := by simpa using hk
    simp [insT]
  | y :: l, 0, _, _, h2 => by
    have h3 : ¬ y < s := h2 (by simp)
    rw [insT, if_neg h3]
    by_cases he : y = s
    · rw [if_pos he, if_pos ⟨by simp, he⟩]
    · rw [if_neg he, if_neg (fun ⟨_, h⟩ => he h)]
      simp
  | y :: l, k + 1, hk, h1, h2 => by
    have h3 : y < s := h1 0 (by simp) (by omega)
    rw [insT, if_pos h3, insT_at s l k (by simpa using hk) (fun i hi hik => h1 (i + 1) (by simpa using hi) (by omega)) (fun hk2 => h2 (by simpa using hk2))]
    by_cases he : ∃ hk : k < l.length, l[k] = s
    · rw [if_pos he, if_pos (by obtain ⟨a, b⟩ := he; exact ⟨by simpa using a, b⟩)]
    · rw [if_neg he, if_neg (fun ⟨a, b⟩ => he ⟨by simpa using a, b⟩)]
      simp
theorem insT_mem {s x : Tx} : ∀ {l : List Tx}, x ∈ insT s l ↔ x = s ∨ x ∈ l
  | [] => by simp [insT]
  | y :: l => by
    rw [insT]
    by_cases h1 : y < s
    · rw [if_pos h1, List.mem_cons, insT_mem, List.mem_cons]
      constructor
      · rintro (h | h | h) <;> simp [h]
      · rintro (h | h | h) <;> simp [h]
    · rw [if_neg h1]
      by_cases h2 : y = s
      · rw [if_pos h2]; subst h2; simp
      · rw [if_neg h2]; simp
theorem insT_srt (s : Tx) : ∀ {l : List Tx}, l.Pairwise (· < ·) → (insT s l).Pairwise (· < ·)
  | [], _ => by simp [insT]
  | y :: l, h => by
    obtain ⟨ha, hb⟩ := List.pairwise_cons.1 h
    rw [insT]
    by_cases h1 : y < s
    · rw [if_pos h1]
      refine List.pairwise_cons.2 ⟨fun x hx => ?_, insT_srt s hb⟩
      rcases insT_mem.1 hx with rfl | hx
      · exact h1
      · exact ha x hx
    · rw [if_neg h1]
      by_cases h2 : y = s
      · rw [if_pos h2]; exact h
      · rw [if_neg h2]
        have h3 : s < y := Classical.byContradiction fun hn => h2 (tx_tri h1 hn)
        refine List.pairwise_cons.2 ⟨fun x hx => ?_, h⟩
        rcases List.mem_cons.1 hx with rfl | hx
        · exact h3
        · exact tx_trans h3 (ha x hx)
theorem insT_len (s : Tx) : ∀ l : List Tx, (insT s l).length ≤ l.length + 1
  | [] => by simp [insT]
  | y :: l => by
    have := insT_len s l
    rw [insT]
    split
    · simp; omega
    · split <;> simp
def insL (l ss : List Tx) : List Tx := ss.foldl (fun l s => insT s l) l
theorem insL_nil (l : List Tx) : insL l [] = l := rfl
theorem insL_app (l a b : List Tx) : insL l (a ++ b) = insL (insL l a) b := List.foldl_append ..
theorem insL_len : ∀ (ss l : List Tx), (insL l ss).length ≤ l.length + ss.length
  | [], l => by simp [insL]
  | s :: ss, l => by
    have h1 := insL_len ss (insT s l)
    have h2 := insT_len s l
    have h3 : insL l (s :: ss) = insL (insT s l) ss := rfl
    rw [h3, List.length_cons]
    omega
theorem insL_mem {x : Tx} : ∀ (ss l : List Tx), x ∈ insL l ss ↔ x ∈ l ∨ x ∈ ss
  | [], l => by simp [insL]
  | s :: ss, l => by
    have h3 : insL l (s :: ss) = insL (insT s l) ss := rfl
    rw [h3, insL_mem ss, insT_mem, List.mem_cons]
    constructor
    · rintro ((h | h) | h) <;> simp [h]
    · rintro (h | h | h) <;> simp [h]
theorem insL_srt : ∀ (ss l : List Tx), l.Pairwise (· < ·) → (insL l ss).Pairwise (· < ·)
  | [], l, h => h
  | s :: ss, l, h => insL_srt ss _ (insT_srt s h)
/-- In order, each once: the members tell the list. -/
theorem srt_eq : ∀ {a b : List Tx}, a.Pairwise (· < ·) → b.Pairwise (· < ·) → (∀ x, x ∈ a ↔ x ∈ b) → a = b
  | [], [], _, _, _ => rfl
  | [], y :: b, _, _, h => absurd ((h y).2 (by simp)) (by simp)
  | x :: a, [], _, _, h => absurd ((h x).1 (by simp)) (by simp)
  | x :: a, y :: b, ha, hb, h => by
    obtain ⟨ha1, ha2⟩ := List.pairwise_cons.1 ha
    obtain ⟨hb1, hb2⟩ := List.pairwise_cons.1 hb
    have hxy : x = y := by
      rcases List.mem_cons.1 ((h x).1 (by simp)) with e | hx
      · exact e
      · rcases List.mem_cons.1 ((h y).2 (by simp)) with e | hy
        · exact e.symm
        · exact absurd (tx_trans (hb1 x hx) (ha1 y hy)) (tx_irr _)
    subst hxy
    rw [srt_eq ha2 hb2 fun z => ?_]
    constructor
    · intro hz
      rcases List.mem_cons.1 ((h z).1 (by simp [hz])) with e | e
      · subst e; exact absurd (ha1 z hz) (tx_irr _)
      · exact e
    · intro hz
      rcases List.mem_cons.1 ((h z).2 (by simp [hz])) with e | e
      · subst e; exact absurd (hb1 z hz) (tx_irr _)
      · exact e
/-! ### compact behind sort -/
theorem mem_upTo (d : Array Tx) : ∀ (m : Nat), m ≤ d.size → ∀ j, j < m → d[j]! ∈ Lib.compactUpTo d m
  | 0, _, j, h => by omega
  | m + 1, hm, j, hj => by
    rw [Lib.compactUpTo_succ]
    by_cases hjm : j < m
    · exact List.mem_append_left _ (mem_upTo d m (by omega) j hjm)
    · obtain rfl : j = m := by omega
      by_cases hk : Lib.keeps d j = true
      · exact List.mem_append_right _ (by simp [hk])
      · have hj0 : j ≠ 0 := by rintro rfl; exact hk (Lib.keeps_lt_one d 0 (by omega))
        have he : d[j]! = d[j - 1]! := by
          unfold Lib.keeps at hk
          simp [hj0] at hk
          first | exact hk | exact hk.symm
        rw [he]
        exact List.mem_append_left _ (mem_upTo d j (by omega) (j - 1) (by omega))
theorem upTo_mem (d : Array Tx) : ∀ (m : Nat), m ≤ d.size → ∀ x ∈ Lib.compactUpTo d m, ∃ j, j < m ∧ x = d[j]!
  | 0, _, x, h => by simp [Lib.compactUpTo] at h
  | m + 1, hm, x, h => by
    rw [Lib.compactUpTo_succ] at h
    rcases List.mem_append.1 h with h | h
    · obtain ⟨j, hj, e⟩ := upTo_mem d m (by omega) x h
      exact ⟨j, by omega, e⟩
    · split at h
      · simp at h; exact ⟨m, by omega, h⟩
      · simp at h
theorem upTo_srt (d : Array Tx) (hs : ∀ i j, i ≤ j → j < d.size → d[i]! ≤ d[j]!) : ∀ (m : Nat), m ≤ d.size → (Lib.compactUpTo d m).Pairwise (· < ·)
  | 0, _ => by simp [Lib.compactUpTo]
  | m + 1, hm => by
    have ih := upTo_srt d hs m (by omega)
    rw [Lib.compactUpTo_succ]
    by_cases hk : Lib.keeps d m = true
    · rw [if_pos hk, List.pairwise_append]
      refine ⟨ih, by simp, fun a ha b hb => ?_⟩
      rw [List.mem_singleton] at hb
      subst hb
      obtain ⟨j, hj, rfl⟩ := upTo_mem d m (by omega) a ha
      have hne : d[m]! ≠ d[m - 1]! := by
        intro he
        rw [Lib.keeps_neg (by omega) he] at hk
        cases hk
      have h1 := hs j (m - 1) (by omega) (by omega)
      have h2 := hs (m - 1) m (by omega) (by omega)
      have h3 : d[m - 1]! < d[m]! := Classical.byContradiction fun hn => hne (tx_tri (tx_le.1 h2) hn)
      exact Classical.byContradiction fun hn => by
        have h4 : d[m]! ≤ d[j]! := tx_le.2 hn
        exact (tx_le.1 (List.le_trans h4 h1)) h3
    · rw [if_neg hk, List.append_nil]
      exact ih
theorem namesE_srt (all : Bool) (e : Ex) : (namesE all e).Pairwise (· < ·) := by
  unfold namesE Lib.compact
  refine upTo_srt _ (fun i j hij hj => ?_) _ (by simp)
  have hp : (sortT (nmsE all e)).Pairwise (· ≤ ·) := by
    unfold sortT
    have := List.pairwise_mergeSort (le := fun x y : Tx => decide (x ≤ y)) (by intro a b c h1 h2; simp only [decide_eq_true_eq] at *; exact List.le_trans h1 h2) (by intro a b; simp only [Bool.or_eq_true, decide_eq_true_eq]; exact List.le_total a b) (nmsE all e)
    exact this.imp fun h => by simpa using h
  generalize sortT (nmsE all e) = l at hp hj ⊢
  have hj' : j < l.length := by simpa using hj
  rw [getElem!_pos l.toArray i (by simpa using (by omega : i < l.length)), getElem!_pos l.toArray j (by simpa using hj')]
  simp only [List.getElem_toArray]
  by_cases he : i = j
  · subst he; exact List.le_refl _
  · exact (List.pairwise_iff_getElem.1 hp) i j (by omega) hj' (by omega)
theorem namesE_mem {all : Bool} {e : Ex} {s : Tx} : s ∈ namesE all e ↔ s ∈ nmsE all e := by
  unfold namesE
  have h0 : ∀ l : List Tx, s ∈ Lib.compact l ↔ s ∈ l := by
    intro l
    unfold Lib.compact
    constructor
    · intro h
      obtain ⟨j, hj, rfl⟩ := upTo_mem l.toArray l.length (by simp) s h
      rw [getElem!_pos l.toArray j (by simpa using hj)]
      simp
    · intro h
      obtain ⟨j, hj, rfl⟩ := List.mem_iff_getElem.1 h
      have := mem_upTo l.toArray l.length (by simp) j hj
      rw [getElem!_pos l.toArray j (by simpa using hj)] at this
      simpa using this
  rw [h0]
  unfold sortT
  exact List.mem_mergeSort
/-- What is put in order one by one is what sort and compact make. -/
theorem insL_names (all : Bool) (e : Ex) : insL [] (nmsE all e) = namesE all e := by
  refine srt_eq (insL_srt _ _ (by simp)) (namesE_srt all e) fun x => ?_
  rw [insL_mem, namesE_mem]
  simp
end Go.Proofs.YtfehigldhedkgaaGreatDoor
