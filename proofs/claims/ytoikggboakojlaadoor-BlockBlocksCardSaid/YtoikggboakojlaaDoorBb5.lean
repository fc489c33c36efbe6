/-
  Texts that belong together, in one file: M5, M8, Av22, R1, Q1.
-/
import Derived.Test.YtoikggboakojlaaDoorBb4
import Derived.Test.YtoikggboakojlaaDoorRows
import Derived.LaidLaws
import Derived.LaidHandle
import Derived.LaidSub
import Derived.Stop.Joined
import Derived.Lay
/-
  The reference: the table of blocks. NOT BUILT YET: one drawn region is open (append inside an append).
-/
namespace Go.Proofs.YtoikggboakojlaaDoor
set_option linter.unusedSimpArgs false
set_option linter.unusedVariables false
open Go.Av

set_option maxHeartbeats 4000000 in
theorem rleast_spec (G : Glob) (t : Tab) (ok : Ok t) (k : Nat) (hk : k < 2^20) (hs : Stops t k) : PureC Tryd.prog G 21 [dTab t] (dTab (leastF t (iter t k))) := by
  have hblocks := rblocks_spec G t ok k hk hs
  have hlen : (iter t k).length = t.next.length := iter_len t k
  have is := least_is ok hs.1
  have htake := fun q s => least_take ok hs (q := q) (s := s)
  generalize iter t k = l at hblocks hlen is htake
  have hmost : t.next.length ≤ 500 := ok.most
  have hun : (leastF t l).next.length ≤ t.next.length := is.le
  have hblk := is.blk
  have hrep := is.rep
  have htl : (leastF t l).tells.length = (leastF t l).next.length := is.ok.tells
  have hg : ∀ s (hs : s < l.length), l.getD s 0 = l[s] := fun s hs => by rw [List.getD_eq_getElem?_getD, List.getElem?_eq_getElem hs]; rfl
  generalize leastF t l = u at hblk hrep htake hun htl
  refine PureC.of_body (tyOf_good _) Tryd.func21 rfl rfl (rs := [.cell 2 26]) Tryd.results21 (by simp [Tryd.ntmps21]) fun X => ?_
  simp only [Tryd.ntmps21, List.map]
  refine AW_rg (tyOf_good _) [1, 2] [1, 2] (fun _ _ => trivial) fun K' hK' => ?_
  repeat (refine sxf_next fun K2 hK2 => ?_; simp [boxA, rowR, rowI, dTab]; (repeat (refine ⟨by omega, ?_⟩)); refine hK2 _ ?_; clear hK2 K2)
  refine sxf_nil (hK' _ ?_)
  refine AW.st (by simp [boxA, rowR, rowI, dTab]; rfl) ?_
  clear hK' K'
  refine AW_rg (tyOf_good _) [1, 2, 3] [1, 2] (fun _ _ => trivial) fun K' hK' => ?_
  repeat (refine sxf_next fun K2 hK2 => ?_; simp [boxA, rowR, rowI, dTab]; (repeat (refine ⟨by omega, ?_⟩)); refine hK2 _ ?_; clear hK2 K2)
  refine sxf_next fun K2 hK2 => ?_
  simp [boxA, rowR, rowI, dTab]
  refine callK.data (hblocks) (by simp; rfl) (by first | exact D.leGo_refl _ | simp [takeMap, List.map_map, Function.comp_def, D.le, D.le.go, D.le_refl, D.leGo_refl, boxA, rowR, rowI, dTab]) ?_
  refine hK2 _ ?_
  clear hK2 K2
  simp only [putd, upd_lst]
  repeat (refine sxf_next fun K2 hK2 => ?_; simp [boxA, rowR, rowI, dTab]; (repeat (refine ⟨by omega, ?_⟩)); refine hK2 _ ?_; clear hK2 K2)
  refine sxf_nil (hK' _ ?_)
  refine AW.st (by simp [boxA, rowR, rowI, dTab]; rfl) ?_
  clear hK' K'
  refine AW_rg (tyOf_good _) [1, 2, 3, 4] [1, 2, 4] (fun _ _ => trivial) fun K' hK' => ?_
  repeat (refine sxf_next fun K2 hK2 => ?_; simp [boxA, rowR, rowI]; (repeat (refine ⟨by omega, ?_⟩)); refine hK2 _ ?_; clear hK2 K2)
  refine sxf_nil (hK' _ ?_)
  refine AW.st (by simp [boxA, rowR, rowI]; rfl) ?_
  clear hK' K'
  refine AW_rg (tyOf_good _) [1, 2, 3, 4, 5] [1, 2, 4] (fun _ _ => trivial) fun K' hK' => ?_
  repeat (refine sxf_next fun K2 hK2 => ?_; simp [boxA, rowR, rowI]; (repeat (refine ⟨by omega, ?_⟩)); refine hK2 _ ?_; clear hK2 K2)
  refine sxf_nil (hK' _ ?_)
  refine AW.st (by simp [boxA, rowR, rowI]; rfl) ?_
  clear hK' K'
  refine AW_for (S := Nat) (fun q => q ≤ u.next.length) (fun q => ⟨lst [(1, .ref 1 0 0), (2, .ref 2 0 0), (3, .d (dRow l)), (4, .ref 4 0 0), (5, int q)],
    hlst [(1, boxA t), (2, .box 26 [.d (.sl (some false) []), .d (.sl (some false) [])]), (4, .box 26 [.own 155 0 q, .own 166 0 q]), (155, rowR (u.next.take q)), (166, rowR (u.tells.take q))]⟩) (fun q => u.next.length + 1 - q) 0 ?_ (by omega) ?_
  · refine (Imp.adoptCell 4 0 155 32 1 rfl rfl rfl).trans ((Imp.adoptCell 4 1 166 32 1 rfl rfl rfl).trans ?_)
    refine Imp.to' (fun _ _ => trivial) (by simp [boxA, rowR, rowI, dRow, dInts, dRows]) (by simp [boxA, rowR, rowI, dRow, dInts, dRows])
  · intro q hq
    have hq5 : q ≤ 500 := by omega
    refine AW_then fun K1 hK1 => ?_
    refine AW_block ?_
    refine AW_rg (tyOf_good _) [1, 2, 3, 4, 5, 6] [1, 2, 4, 155, 166] (fun _ _ => trivial) fun K' hK' => ?_
    repeat (refine sxf_next fun K2 hK2 => ?_; simp [boxA, rowR, rowI]; (repeat (refine ⟨by omega, ?_⟩)); refine hK2 _ ?_; clear hK2 K2)
    refine sxf_nil (hK' _ ?_)
    refine AW.st (by simp [boxA, rowR, rowI]; rfl) ?_
    clear hK' K'
    refine AW_then fun K2 hK2 => ?_
    refine AW_for (S := Nat) (fun s => s ≤ l.length ∧ ∀ j (hj : j < l.length), j < s → ¬ l[j] = (q : Int)) (fun s => ⟨lst [(1, .ref 1 0 0), (2, .ref 2 0 0), (3, .d (dRow l)), (4, .ref 4 0 0), (5, int q), (6, int s)],
      hlst [(1, boxA t), (2, .box 26 [.d (.sl (some false) []), .d (.sl (some false) [])]), (4, .box 26 [.own 155 0 q, .own 166 0 q]), (155, rowR (u.next.take q)), (166, rowR (u.tells.take q))]⟩) (fun s => l.length - s) 0 ?_ (by simp) ?_
    · refine Imp.to' (fun _ _ => trivial) (by simp [boxA, rowR, rowI, dRow, dInts, dRows]) (by simp [boxA, rowR, rowI, dRow, dInts, dRows])
    · rintro s ⟨hsl, hnone⟩
      refine AW_then fun K3 hK3 => ?_
      by_cases hs1 : s < l.length
      · by_cases he : l[s] = (q : Int)
        · have hsn : s < t.next.length := by omega
          have hst : s < t.n := hsn
          have hqu : q < u.next.length := by
            obtain ⟨q', h1, h2⟩ := hblk s hst
            rw [hg s hs1, he] at h2
            have : q' < u.next.length := h1
            omega
          obtain ⟨htk1, htk2⟩ := htake q s hqu hst (by rw [hg s hs1]; exact he)
          have hgn : t.next.getD s [] = t.next[s] := by rw [List.getD_eq_getElem?_getD, List.getElem?_eq_getElem hsn]; rfl
          have htls : s < t.tells.length := by have h0 := ok.tells; unfold Tab.n at h0; omega
          have hgt : t.tells.getD s [] = t.tells[s] := by simp [htls]
          rw [hgn] at htk1
          rw [hgt] at htk2
          refine AW_rg (tyOf_good _) [1, 2, 3, 4, 5, 6, 25] [1, 2, 4, 155, 166] (fun _ _ => trivial) fun K' hK' => ?_
          repeat (refine sxf_next fun K2 hK2 => ?_; simp [boxA, rowR, rowI, dRow, dInts, hs1, he]; (repeat (refine ⟨by omega, ?_⟩)); refine hK2 _ ?_; clear hK2 K2)
          refine sxf_nil (hK' _ ?_)
          refine AW.st (by simp [boxA, rowR, rowI, dRow, dInts, hs1, he]; rfl) ?_
          clear hK' K'
          refine AW_cond false rfl (fun h => by cases h) (fun _ => ?_)
          refine AW_exit (hK2 _ ?_)
          refine AW_then fun K4 hK4 => ?_
          have hsne : ¬ s = l.length := by omega
          refine AW_rg (tyOf_good _) [1, 2, 3, 4, 5, 6, 31] [1, 2, 4, 155, 166] (fun _ _ => trivial) fun K' hK' => ?_
          repeat (refine sxf_next fun K2 hK2 => ?_; simp [boxA, rowR, rowI, dRow, dInts, hsne]; (repeat (refine ⟨by omega, ?_⟩)); refine hK2 _ ?_; clear hK2 K2)
          refine sxf_nil (hK' _ ?_)
          refine AW.st (by simp [boxA, rowR, rowI, dRow, dInts, hsne]; rfl) ?_
          clear hK' K'
          refine AW_cond false rfl (fun h => by cases h) (fun _ => ?_)
          refine AW_skip (hK4 _ ?_)
          refine AW_rg (tyOf_good _) [1, 2, 3, 4, 5, 6, 7] [1, 2, 4, 155, 166] (fun _ _ => trivial) fun K' hK' => ?_
          repeat (refine sxf_next fun K2 hK2 => ?_; simp [boxA, rowR, rowI]; (repeat (refine ⟨by omega, ?_⟩)); refine hK2 _ ?_; clear hK2 K2)
          refine sxf_nil (hK' _ ?_)
          refine AW.st (by simp [boxA, rowR, rowI]; rfl) ?_
          clear hK' K'
          refine AW_then fun K5 hK5 => ?_
          have hw := wd_at ok hsn
          have hw64 : wd t ≤ 64 := ok.ins
          have hth := ok.there s hst
          have hwt := ok.tellsLen s hst
          rw [hgn] at hth
          rw [hgt] at hwt
          have hwt' : t.tells[s].length = wd t := hwt
          refine AW_rg (tyOf_good _) [1, 2, 3, 4, 5, 6, 7, 37, 38, 39] [1, 2, 4, 155, 166] (fun _ _ => trivial) fun K' hK' => ?_
          repeat (refine sxf_next fun K2 hK2 => ?_; simp [boxA, rowR, rowI, dRows, dRow, dInts, hsn]; (repeat (refine ⟨by omega, ?_⟩)); refine hK2 _ ?_; clear hK2 K2)
          refine sxf_nil (hK' _ ?_)
          refine AW.st (by simp [boxA, rowR, rowI, dRows, dRow, dInts, hsn]; rfl) ?_
          clear hK' K'
          generalize hr : t.next[s] = row at htk1 hw hth
          refine AW_for (S := Nat) (fun i => i ≤ row.length) (fun i => ⟨lst [(1, .ref 1 0 0), (2, .ref 2 0 0), (3, .d (dRow l)), (4, .ref 4 0 0), (5, int q), (6, int s), (7, .own 170 0 i), (37, .d (dRow row)), (38, int row.length), (39, int i)],
            hlst [(1, boxA t), (2, .box 26 [.d (.sl (some false) []), .d (.sl (some false) [])]), (4, .box 26 [.own 155 0 q, .own 166 0 q]), (155, rowR (u.next.take q)), (166, rowR (u.tells.take q)), (170, rowI (pre l row i))]⟩) (fun i => row.length - i) 0 ?_ (by simp) ?_
          · refine (Imp.adopt 7 170 3 1 rfl rfl).trans ?_
            refine Imp.to' (fun _ _ => trivial) (by simp [boxA, rowR, rowI, dRow, dInts, dRows, pre_zero]) (by simp [boxA, rowR, rowI, dRow, dInts, dRows, pre_zero])
          · intro i hi
            have hpl := pre_len l hi
            refine AW_rg (tyOf_good _) [1, 2, 3, 4, 5, 6, 7, 37, 38, 39, 40] [1, 2, 4, 155, 166, 170] (fun _ _ => trivial) fun K' hK' => ?_
            repeat (refine sxf_next fun K2 hK2 => ?_; simp [boxA, rowR, rowI]; (repeat (refine ⟨by omega, ?_⟩)); refine hK2 _ ?_; clear hK2 K2)
            refine sxf_nil (hK' _ ?_)
            refine AW.st (by simp [boxA, rowR, rowI]; rfl) ?_
            clear hK' K'
            refine AW_then fun K6 hK6 => ?_
            refine AW_cond' (b := i < row.length) (by simp [D.le, D.le.go, takeMap, boxA, rowR, rowI]) (fun hc => ?_) (fun hc => ?_)
            · have hil : i < row.length := hc
              obtain ⟨hx0, hx1⟩ := hth row[i] (by simp)
              have hx2 : row[i] < (l.length : Int) := by rw [hlen]; exact hx1
              have hx3 : row[i].toNat < l.length := by omega
              have htk := pre_succ l hil
              have hpt : ∀ f : Int → List D, List.take i (List.map f (pre l row i)) = List.map f (pre l row i) := fun f => List.take_of_length_le (by simp [hpl])
              refine AW_skip (hK6 _ ?_)
              refine AW_then fun K7 hK7 => ?_
              refine AW_block ?_
              refine AW_rg (tyOf_good _) [1, 2, 3, 4, 5, 6, 7, 9, 37, 38, 39] [1, 2, 4, 155, 166, 170] (fun _ _ => trivial) fun K' hK' => ?_
              repeat (refine sxf_next fun K2 hK2 => ?_; simp [boxA, rowR, rowI, dRow, dInts, hil]; (repeat (refine ⟨by omega, ?_⟩)); refine hK2 _ ?_; clear hK2 K2)
              refine sxf_nil (hK' _ ?_)
              refine AW.st (by simp [boxA, rowR, rowI, dRow, dInts, hil]; rfl) ?_
              clear hK' K'
              refine AW_re (tyOf_good _) fun K' hK' => ?_
              repeat (refine sxf_next fun K2 hK2 => ?_; simp [boxA, rowR, rowI, dRow, dInts, hx0, hx2, hx3, hpl, hpt, takeMap]; (repeat (refine ⟨by omega, ?_⟩)); refine hK2 _ ?_; clear hK2 K2)
              refine sxf_nil (hK' _ ?_)
              clear hK' K'
              refine hK7 _ (AW.norm [1, 2, 3, 4, 5, 6, 7, 37, 38, 39] [1, 2, 4, 155, 166, 170] (fun _ _ => trivial) (AW.st (by simp [boxA, rowR, rowI, dRow, dInts, hx0, hx2, hx3, hpl, hpt, takeMap]; rfl) ?_))
              refine AW_re (tyOf_good _) fun K' hK' => ?_
              repeat (refine sxf_next fun K2 hK2 => ?_; simp [boxA, rowR, rowI]; (repeat (refine ⟨by omega, ?_⟩)); refine hK2 _ ?_; clear hK2 K2)
              refine sxf_nil (hK' _ ?_)
              clear hK' K'
              try simp only [thn, inb]
              refine Again.mk (i + 1) (by omega) (by omega) ?_
              refine Imp.to' (fun _ _ => trivial) (by simp [boxA, rowR, rowI, dRow, dInts, dRows, dNum, htk, hil, hx3, hpt]) (by simp [boxA, rowR, rowI, dRow, dInts, dRows, dNum, htk, hil, hx3, hpt])
            · obtain rfl : i = row.length := by omega
              have hpl := pre_len l (Nat.le_refl row.length)
              have hlt1 : (u.next.take q).length = q := by rw [List.length_take]; omega
              have hlt2 : (u.tells.take q).length = q := by rw [List.length_take]; omega
              have hpt1 : ∀ f : List Int → List D, List.take q (List.map f (u.next.take q)) = List.map f (u.next.take q) := fun f => List.take_of_length_le (by rw [List.length_map, hlt1]; exact Nat.le_refl _)
              have hpt2 : ∀ f : List Int → List D, List.take q (List.map f (u.tells.take q)) = List.map f (u.tells.take q) := fun f => List.take_of_length_le (by rw [List.length_map, hlt2]; exact Nat.le_refl _)
              refine AW_exit (hK5 _ ?_)
              refine AW.imp (Imp.freeze 170 trivial) ?_
              refine AW.st (by simp [boxA, rowR, rowI, hpl]; rfl) ?_
              refine AW_rle (tyOf_good _) (by kernel_rfl) ([(4, (155, 54)), (13, (58, 58)), (15, (166, 65))]) ([(5, [155, 58]), (6, [155, 58]), (7, [155]), (8, [155]), (9, [155]), (10, [155]), (11, [155]), (12, [155]), (16, [58, 166])]) ([0, 1, 2, 5, 6, 8, 9, 10, 11, 12, 3, 7, 4, 16, 13, 14, 15, 17, 18, 19]) (by kernel_rfl) fun K' hK' => ?_
              repeat (refine sxl_nextO rfl fun K2 hK2 => ?_; simp [boxA, rowR, rowI, hlt1, hlt2, hpt1, hpt2, dRows, dRow, dInts, htls]; (repeat (refine ⟨by omega, ?_⟩)); refine hK2 _ ?_; clear hK2 K2)
              refine sxl_nilO (hK' _ ?_)
              clear hK' K'
              refine hK1 _ (AW.norm [1, 2, 3, 4, 5] [1, 2, 4, 155, 166] (fun _ _ => trivial) (AW.st (by simp [boxA, rowR, rowI, hlt1, hlt2, hpt1, hpt2, dRows, dRow, dInts, htls]; rfl) ?_))
              refine AW_re (tyOf_good _) fun K' hK' => ?_
              repeat (refine sxf_next fun K2 hK2 => ?_; simp [boxA, rowR, rowI]; (repeat (refine ⟨by omega, ?_⟩)); refine hK2 _ ?_; clear hK2 K2)
              refine sxf_nil (hK' _ ?_)
              clear hK' K'
              try simp only [thn, inb]
              refine Again.mk (q + 1) (by omega) (by omega) ?_
              refine Imp.to' (fun _ _ => trivial) (by simp [boxA, rowR, rowI, dRow, dInts, dRows, dNum, htk1, htk2, hpt1, hpt2, pre_all, List.take_take]) (by simp [boxA, rowR, rowI, dRow, dInts, dRows, dNum, htk1, htk2, hpt1, hpt2, pre_all, List.take_take])
        · refine AW_rg (tyOf_good _) [1, 2, 3, 4, 5, 6, 25] [1, 2, 4, 155, 166] (fun _ _ => trivial) fun K' hK' => ?_
          repeat (refine sxf_next fun K2 hK2 => ?_; simp [boxA, rowR, rowI, dRow, dInts, hs1, he]; (repeat (refine ⟨by omega, ?_⟩)); refine hK2 _ ?_; clear hK2 K2)
          refine sxf_nil (hK' _ ?_)
          refine AW.st (by simp [boxA, rowR, rowI, dRow, dInts, hs1, he]; rfl) ?_
          clear hK' K'
          refine AW_cond true rfl (fun _ => ?_) (fun h => by cases h)
          refine AW_skip (hK3 _ ?_)
          refine AW_block ?_
          refine AW_re (tyOf_good _) fun K' hK' => ?_
          repeat (refine sxf_next fun K2 hK2 => ?_; simp [boxA, rowR, rowI]; (repeat (refine ⟨by omega, ?_⟩)); refine hK2 _ ?_; clear hK2 K2)
          refine sxf_nil (hK' _ ?_)
          clear hK' K'
          try simp only [thn, inb]
          refine Again.mk (s + 1) ⟨by omega, fun j hj hjs => ?_⟩ (by omega) ?_
          · rcases Nat.lt_or_ge j s with h | h
            · exact hnone j hj h
            · obtain rfl : j = s := by omega
              exact he
          refine Imp.to' (fun _ _ => trivial) (by simp [boxA, rowR, rowI, dRow, dInts, dRows]) (by simp [boxA, rowR, rowI, dRow, dInts, dRows])
      · obtain rfl : s = l.length := by omega
        have hqu : q = u.next.length := by
          refine Nat.le_antisymm hq (Nat.le_of_not_lt fun hlt => ?_)
          obtain ⟨s, h1, h2, _⟩ := hrep q hlt
          have h1' : s < l.length := by rw [hlen]; exact h1
          rw [hg s h1'] at h2
          exact hnone s h1' h1' h2
        subst hqu
        have ht1 : u.next.take u.next.length = u.next := List.take_length
        have ht2 : u.tells.take u.next.length = u.tells := List.take_of_length_le (by omega)
        have ht3 : ∀ f : List Int → List D, List.take u.next.length (List.map f u.tells) = List.map f u.tells := fun f => List.take_of_length_le (by rw [List.length_map]; omega)
        rw [ht1, ht2]
        refine AW_rg (tyOf_good _) [1, 2, 3, 4, 5, 6, 25] [1, 2, 4, 155, 166] (fun _ _ => trivial) fun K' hK' => ?_
        repeat (refine sxf_next fun K2 hK2 => ?_; simp [boxA, rowR, rowI, dRow, dInts]; (repeat (refine ⟨by omega, ?_⟩)); refine hK2 _ ?_; clear hK2 K2)
        refine sxf_nil (hK' _ ?_)
        refine AW.st (by simp [boxA, rowR, rowI, dRow, dInts]; rfl) ?_
        clear hK' K'
        refine AW_cond false rfl (fun h => by cases h) (fun _ => ?_)
        refine AW_exit (hK2 _ ?_)
        refine AW_then fun K4 hK4 => ?_
        refine AW_rg (tyOf_good _) [1, 2, 3, 4, 5, 6, 31] [1, 2, 4, 155, 166] (fun _ _ => trivial) fun K' hK' => ?_
        repeat (refine sxf_next fun K2 hK2 => ?_; simp [boxA, rowR, rowI, dRow, dInts]; (repeat (refine ⟨by omega, ?_⟩)); refine hK2 _ ?_; clear hK2 K2)
        refine sxf_nil (hK' _ ?_)
        refine AW.st (by simp [boxA, rowR, rowI, dRow, dInts]; rfl) ?_
        clear hK' K'
        refine AW_cond true rfl (fun _ => ?_) (fun h => by cases h)
        refine AW_rg (tyOf_good _) [2] [2, 155, 166] (fun _ _ => trivial) fun K' hK' => ?_
        repeat (refine sxf_next fun K2 hK2 => ?_; simp [boxA, rowR, rowI]; (repeat (refine ⟨by omega, ?_⟩)); refine hK2 _ ?_; clear hK2 K2)
        refine sxf_nil (hK' _ ?_)
        refine AW.st (by simp [boxA, rowR, rowI]; rfl) ?_
        clear hK' K'
        refine AW_ret ?_
        simp [D.le, D.le.go, takeMap, boxA, rowR, rowI, dTab, dRows, dRow, dInts, htl, ht3]
#print axioms rleast_spec
end Go.Proofs.YtoikggboakojlaaDoor

/-
  The blocks of states, and the table of blocks, are the document's.
-/
namespace Go.Proofs.YtoikggboakojlaaDoor
set_option linter.unusedSimpArgs false
set_option linter.unusedVariables false
open Go.Av

set_option maxHeartbeats 4000000 in
theorem bblocks_true (G : Glob) (t : Tab) (c p : Int)
    (htab : PureC Tryd.prog G 16 [dTab t] (.tup [.agg [dRows t.next, dRows t.tells], .agg [dNum c, dNum p], .v (.bool false)])) :
    PureC Tryd.prog G 4 [dTab t] (.v (.bool true)) := by
  refine PureC.of_body (tyOf_good _) Tryd.func4 rfl rfl (rs := [.tmp 2]) Tryd.results4 (by simp [Tryd.ntmps4]) fun X => ?_
  simp only [Tryd.ntmps4, List.map]
  refine AW_rg (tyOf_good _) [1] [1] (fun _ _ => trivial) fun K' hK' => ?_
  repeat (refine sxf_next fun K2 hK2 => ?_; simp [dTab, dNum]; (repeat (refine ⟨by omega, ?_⟩)); refine hK2 _ ?_; clear hK2 K2)
  refine sxf_nil (hK' _ ?_)
  refine AW.st (by simp [dTab, dNum]; rfl) ?_
  clear hK' K'
  refine AW_rg (tyOf_good _) [1, 3, 4, 5] [1, 3, 4] (fun _ _ => trivial) fun K' hK' => ?_
  repeat (refine sxf_next fun K2 hK2 => ?_; simp [dTab, dRows, dNum]; (repeat (refine ⟨by omega, ?_⟩)); refine hK2 _ ?_; clear hK2 K2)
  refine sxf_next fun K2 hK2 => ?_
  simp [dTab, dRows, dNum]
  refine callK.data (htab) (by simp; rfl) (by first | exact D.leGo_refl _ | simp [takeMap, List.map_map, Function.comp_def, D.le, D.le.go, D.le_refl, D.leGo_refl, dTab, dRows, dNum]) ?_
  refine hK2 _ ?_
  clear hK2 K2
  simp only [putd, upd_lst]
  repeat (refine sxf_next fun K2 hK2 => ?_; simp [dTab, dRows, dNum]; (repeat (refine ⟨by omega, ?_⟩)); refine hK2 _ ?_; clear hK2 K2)
  refine sxf_nil (hK' _ ?_)
  refine AW.st (by simp [dTab, dRows, dNum]; rfl) ?_
  clear hK' K'
  refine AW_then fun K1 hK1 => ?_
  refine AW_rg (tyOf_good _) [18] [] (fun _ _ => trivial) fun K' hK' => ?_
  repeat (refine sxf_next fun K2 hK2 => ?_; simp; (repeat (refine ⟨by omega, ?_⟩)); refine hK2 _ ?_; clear hK2 K2)
  refine sxf_nil (hK' _ ?_)
  refine AW.st (by simp; rfl) ?_
  clear hK' K'
  refine AW_cond true rfl (fun _ => ?_) (fun h => by cases h)
  refine AW_rg (tyOf_good _) [2] [] (fun _ _ => trivial) fun K' hK' => ?_
  repeat (refine sxf_next fun K2 hK2 => ?_; simp; (repeat (refine ⟨by omega, ?_⟩)); refine hK2 _ ?_; clear hK2 K2)
  refine sxf_nil (hK' _ ?_)
  refine AW.st (by simp; rfl) ?_
  clear hK' K'
  refine AW_ret ?_
  simp [D.le, D.le.go, takeMap]

set_option maxHeartbeats 4000000 in
theorem bblocks_bad (G : Glob) (hG : HasErr G) (hF : HasFine G) (t : Tab) (h1 : ¬ (510 : Int) < t.next.length) (h2 : ¬ (510 : Int) < t.tells.length) (e : Int × Option Nat) (he : checkF t = some e) :
    PureC Tryd.prog G 4 [dTab t] (.v (.bool true)) := by
  have htab := tables_bad G hF t h1 h2 e he
  have hat := at_same G hG (some e)
  have hck := check_spec G t
  rw [he] at hck
  have hne : ¬ codeF (some e) = 0 := by obtain ⟨c, s⟩ := e; exact checkF_code he
  unfold dFault at hat
  change PureC _ _ _ _ (.tup [.agg [dRows t.next, dRows t.tells], .agg [dNum (codeF (some e)), dNum (placeF (some e))], .v (.bool true)]) at htab
  refine PureC.of_body (tyOf_good _) Tryd.func4 rfl rfl (rs := [.tmp 2]) Tryd.results4 (by simp [Tryd.ntmps4]) fun X => ?_
  simp only [Tryd.ntmps4, List.map]
  refine AW_rg (tyOf_good _) [1] [1] (fun _ _ => trivial) fun K' hK' => ?_
  repeat (refine sxf_next fun K2 hK2 => ?_; simp [dTab, dNum]; (repeat (refine ⟨by omega, ?_⟩)); refine hK2 _ ?_; clear hK2 K2)
  refine sxf_nil (hK' _ ?_)
  refine AW.st (by simp [dTab, dNum]; rfl) ?_
  clear hK' K'
  refine AW_rg (tyOf_good _) [1, 3, 4, 5] [1, 3, 4] (fun _ _ => trivial) fun K' hK' => ?_
  repeat (refine sxf_next fun K2 hK2 => ?_; simp [dTab, dRows, dNum]; (repeat (refine ⟨by omega, ?_⟩)); refine hK2 _ ?_; clear hK2 K2)
  refine sxf_next fun K2 hK2 => ?_
  simp [dTab, dRows, dNum]
  refine callK.data (htab) (by simp; rfl) (by first | exact D.leGo_refl _ | simp [takeMap, List.map_map, Function.comp_def, D.le, D.le.go, D.le_refl, D.leGo_refl, dTab, dRows, dNum]) ?_
  refine hK2 _ ?_
  clear hK2 K2
  simp only [putd, upd_lst]
  repeat (refine sxf_next fun K2 hK2 => ?_; simp [dTab, dRows, dNum]; (repeat (refine ⟨by omega, ?_⟩)); refine hK2 _ ?_; clear hK2 K2)
  refine sxf_nil (hK' _ ?_)
  refine AW.st (by simp [dTab, dRows, dNum]; rfl) ?_
  clear hK' K'
  refine AW_then fun K1 hK1 => ?_
  refine AW_rg (tyOf_good _) [1, 3, 4, 18] [1, 3, 4] (fun _ _ => trivial) fun K' hK' => ?_
  repeat (refine sxf_next fun K2 hK2 => ?_; simp; (repeat (refine ⟨by omega, ?_⟩)); refine hK2 _ ?_; clear hK2 K2)
  refine sxf_nil (hK' _ ?_)
  refine AW.st (by simp; rfl) ?_
  clear hK' K'
  refine AW_cond false rfl (fun h => by cases h) (fun _ => ?_)
  refine AW_skip (hK1 _ ?_)
  refine AW_rg (tyOf_good _) [1, 3, 4, 6, 7] [1, 3, 4] (fun _ _ => trivial) fun K' hK' => ?_
  repeat (refine sxf_next fun K2 hK2 => ?_; simp [dTab, dNum]; (repeat (refine ⟨by omega, ?_⟩)); refine hK2 _ ?_; clear hK2 K2)
  refine sxf_next fun K2 hK2 => ?_
  simp [dTab, dNum]
  refine callK.data (blocks_bad G t e he) (by simp; rfl) (by first | exact D.leGo_refl _ | simp [takeMap, List.map_map, Function.comp_def, D.le, D.le.go, D.le_refl, D.leGo_refl, dTab, dNum]) ?_
  refine hK2 _ ?_
  clear hK2 K2
  simp only [putd, upd_lst]
  repeat (refine sxf_next fun K2 hK2 => ?_; simp [dTab, dNum]; (repeat (refine ⟨by omega, ?_⟩)); refine hK2 _ ?_; clear hK2 K2)
  refine sxf_nil (hK' _ ?_)
  refine AW.st (by simp [dTab, dNum]; rfl) ?_
  clear hK' K'
  refine AW_rg (tyOf_good _) [1, 3, 4, 6, 7, 8, 9] [1, 3, 4, 8] (fun _ _ => trivial) fun K' hK' => ?_
  repeat (refine sxf_next fun K2 hK2 => ?_; simp [dTab, dRows, dNum]; (repeat (refine ⟨by omega, ?_⟩)); refine hK2 _ ?_; clear hK2 K2)
  refine sxf_next fun K2 hK2 => ?_
  simp [dTab, dRows, dNum]
  refine callK.data (least_bad G t e he) (by simp; rfl) (by first | exact D.leGo_refl _ | simp [takeMap, List.map_map, Function.comp_def, D.le, D.le.go, D.le_refl, D.leGo_refl, dTab, dRows, dNum]) ?_
  refine hK2 _ ?_
  clear hK2 K2
  simp only [putd, upd_lst]
  repeat (refine sxf_next fun K2 hK2 => ?_; simp [dTab, dRows, dNum]; (repeat (refine ⟨by omega, ?_⟩)); refine hK2 _ ?_; clear hK2 K2)
  refine sxf_nil (hK' _ ?_)
  refine AW.st (by simp [dTab, dRows, dNum]; rfl) ?_
  clear hK' K'
  refine AW_then fun K2 hK2 => ?_
  refine AW_rd (tyOf_good _) (by kernel_rfl) [3, 4, 6, 8, 45] [3, 4, 8] (fun _ _ => trivial) (by kernel_rfl) fun K' hK' => ?_
  repeat (refine sxd_next fun K2 hK2 => ?_; simp [dTab, dRows, dNum]; (repeat (refine ⟨by omega, ?_⟩)); refine hK2 _ ?_; clear hK2 K2)
  refine sxd_next fun K2 hK2 => ?_
  simp [dTab, dRows, dNum]
  refine callQ.data (hck) (by simp; rfl) (by simp; rfl) (by first | exact D.leGo_refl _ | simp [takeMap, List.map_map, Function.comp_def, D.le, D.le.go, D.le_refl, D.leGo_refl, dTab, dRows, dNum]) ?_
  refine hK2 _ ?_
  clear hK2 K2
  simp only [putd, upd_lst]
  repeat (refine sxd_next fun K2 hK2 => ?_; simp [dTab, dRows, dNum]; (repeat (refine ⟨by omega, ?_⟩)); refine hK2 _ ?_; clear hK2 K2)
  refine sxd_next fun K2 hK2 => ?_
  simp [dTab, dRows, dNum]
  refine callQ.data (hat) (by simp; rfl) (by simp; rfl) (by first | exact D.leGo_refl _ | simp [takeMap, List.map_map, Function.comp_def, D.le, D.le.go, D.le_refl, D.leGo_refl, dTab, dRows, dNum]) ?_
  refine hK2 _ ?_
  clear hK2 K2
  simp only [putd, upd_lst]
  repeat (refine sxd_next fun K2 hK2 => ?_; simp [dTab, dRows, dNum]; (repeat (refine ⟨by omega, ?_⟩)); refine hK2 _ ?_; clear hK2 K2)
  refine sxd_next fun K2 hK2 => ?_
  simp [dTab, dRows, dNum]
  refine callQ.data (hat) (by simp; rfl) (by simp; rfl) (by first | exact D.leGo_refl _ | simp [takeMap, List.map_map, Function.comp_def, D.le, D.le.go, D.le_refl, D.leGo_refl, dTab, dRows, dNum]) ?_
  refine hK2 _ ?_
  clear hK2 K2
  simp only [putd, upd_lst]
  repeat (refine sxd_next fun K2 hK2 => ?_; simp [dTab, dRows, dNum]; (repeat (refine ⟨by omega, ?_⟩)); refine hK2 _ ?_; clear hK2 K2)
  refine sxd_next fun K2 hK2 => ?_
  simp [dTab, dRows, dNum]
  refine callQ.data (hat) (by simp; rfl) (by simp; rfl) (by first | exact D.leGo_refl _ | simp [takeMap, List.map_map, Function.comp_def, D.le, D.le.go, D.le_refl, D.leGo_refl, dTab, dRows, dNum]) ?_
  refine hK2 _ ?_
  clear hK2 K2
  simp only [putd, upd_lst]
  repeat (refine sxd_next fun K2 hK2 => ?_; simp [dTab, dRows, dNum]; (repeat (refine ⟨by omega, ?_⟩)); refine hK2 _ ?_; clear hK2 K2)
  refine sxd_nil (hK' _ ?_)
  refine AW.st (by simp [dTab, dRows, dNum]; rfl) ?_
  clear hK' K'
  refine AW_cond false rfl (fun h => by cases h) (fun _ => ?_)
  refine AW_skip (hK2 _ ?_)
  refine AW_then fun K3 hK3 => ?_
  refine AW_rg (tyOf_good _) [3, 6, 8, 48] [3, 8] (fun _ _ => trivial) fun K' hK' => ?_
  repeat (refine sxf_next fun K2 hK2 => ?_; simp [hne]; (repeat (refine ⟨by omega, ?_⟩)); refine hK2 _ ?_; clear hK2 K2)
  refine sxf_nil (hK' _ ?_)
  refine AW.st (by simp [hne]; rfl) ?_
  clear hK' K'
  refine AW_cond true rfl (fun _ => ?_) (fun h => by cases h)
  refine AW_rg (tyOf_good _) [2] [] (fun _ _ => trivial) fun K' hK' => ?_
  repeat (refine sxf_next fun K2 hK2 => ?_; simp [dRows]; (repeat (refine ⟨by omega, ?_⟩)); refine hK2 _ ?_; clear hK2 K2)
  refine sxf_nil (hK' _ ?_)
  refine AW.st (by simp [dRows]; rfl) ?_
  clear hK' K'
  refine AW_ret ?_
  simp [D.le, D.le.go, takeMap]

set_option maxHeartbeats 4000000 in
theorem bblocks_good (G : Glob) (hG : HasErr G) (hF : HasFine G) (t : Tab) (ok : Ok t) :
    PureC Tryd.prog G 4 [dTab t] (.v (.bool true)) := by
  have htab := tables_good G hF t ok
  have he : checkF t = none := ok_iff.2 ok
  generalize (decide ((t.next.length : Int) ≤ 30) && decide ((wd t : Int) ≤ 8)) = okb at htab
  change PureC _ _ _ _ (.tup [.agg [dRows t.next, dRows t.tells], .agg [dNum 0, dNum (-1)], .v (.bool okb)]) at htab
  cases okb with
  | false => exact bblocks_true G t 0 (-1) htab
  | true =>
    obtain ⟨k, hk, hs⟩ := stops_small ok
    have hat := at_same G hG none
    have hck := check_spec G t
    rw [he] at hck
    change PureC _ _ _ [dErr none, .agg [dNum 0, dNum (-1)]] _ at hat
    have hb := blocks_good G t ok k hk hs
    have hl := least_good G t ok k hk hs
    have hrb := rblocks_spec G t ok k hk hs
    have hrl := rleast_spec G t ok k hk hs
    have is := least_is ok hs.1
    have hlen : (iter t k).length = t.next.length := iter_len t k
    have hmost : t.next.length ≤ 500 := ok.most
    have hun : (leastF t (iter t k)).next.length ≤ t.next.length := is.le
    have htl : (leastF t (iter t k)).tells.length = (leastF t (iter t k)).next.length := is.ok.tells
    have hsi := lsameInts_spec G none none (iter t k) (iter t k) (by omega)
    have hin : wd (leastF t (iter t k)) ≤ 64 := is.ok.ins
    have hr1 : ∀ r ∈ (leastF t (iter t k)).next, r.length < 2^63 := fun r hr => by
      obtain ⟨i, hi, rfl⟩ := List.getElem_of_mem hr
      have := wd_at is.ok hi
      omega
    have hr2 : ∀ r ∈ (leastF t (iter t k)).tells, r.length < 2^63 := fun r hr => by
      obtain ⟨i, hi, rfl⟩ := List.getElem_of_mem hr
      have h0 := is.ok.tellsLen i (by unfold Tab.n; omega)
      rw [List.getD_eq_getElem?_getD, List.getElem?_eq_getElem hi] at h0
      have h1 : (leastF t (iter t k)).tells[i].length = wd (leastF t (iter t k)) := h0
      omega
    have hs1 := lsameLists_spec G (leastF t (iter t k)).next (leastF t (iter t k)).next (by omega) hr1
    have hs2 := lsameLists_spec G (leastF t (iter t k)).tells (leastF t (iter t k)).tells (by omega) hr2
    rw [beq_self_eq_true] at hsi hs1 hs2
    generalize leastF t (iter t k) = u at *
    refine PureC.of_body (tyOf_good _) Tryd.func4 rfl rfl (rs := [.tmp 2]) Tryd.results4 (by simp [Tryd.ntmps4]) fun X => ?_
    simp only [Tryd.ntmps4, List.map]
    refine AW_rg (tyOf_good _) [1] [1] (fun _ _ => trivial) fun K' hK' => ?_
    repeat (refine sxf_next fun K2 hK2 => ?_; simp [dTab, dNum]; (repeat (refine ⟨by omega, ?_⟩)); refine hK2 _ ?_; clear hK2 K2)
    refine sxf_nil (hK' _ ?_)
    refine AW.st (by simp [dTab, dNum]; rfl) ?_
    clear hK' K'
    refine AW_rg (tyOf_good _) [1, 3, 4, 5] [1, 3, 4] (fun _ _ => trivial) fun K' hK' => ?_
    repeat (refine sxf_next fun K2 hK2 => ?_; simp [dTab, dRows, dNum]; (repeat (refine ⟨by omega, ?_⟩)); refine hK2 _ ?_; clear hK2 K2)
    refine sxf_next fun K2 hK2 => ?_
    simp [dTab, dRows, dNum]
    refine callK.data (htab) (by simp; rfl) (by first | exact D.leGo_refl _ | simp [takeMap, List.map_map, Function.comp_def, D.le, D.le.go, D.le_refl, D.leGo_refl, dTab, dRows, dNum]) ?_
    refine hK2 _ ?_
    clear hK2 K2
    simp only [putd, upd_lst]
    repeat (refine sxf_next fun K2 hK2 => ?_; simp [dTab, dRows, dNum]; (repeat (refine ⟨by omega, ?_⟩)); refine hK2 _ ?_; clear hK2 K2)
    refine sxf_nil (hK' _ ?_)
    refine AW.st (by simp [dTab, dRows, dNum]; rfl) ?_
    clear hK' K'
    refine AW_then fun K1 hK1 => ?_
    refine AW_rg (tyOf_good _) [1, 3, 4, 18] [1, 3, 4] (fun _ _ => trivial) fun K' hK' => ?_
    repeat (refine sxf_next fun K2 hK2 => ?_; simp; (repeat (refine ⟨by omega, ?_⟩)); refine hK2 _ ?_; clear hK2 K2)
    refine sxf_nil (hK' _ ?_)
    refine AW.st (by simp; rfl) ?_
    clear hK' K'
    refine AW_cond false rfl (fun h => by cases h) (fun _ => ?_)
    refine AW_skip (hK1 _ ?_)
    refine AW_rg (tyOf_good _) [1, 3, 4, 6, 7] [1, 3, 4] (fun _ _ => trivial) fun K' hK' => ?_
    repeat (refine sxf_next fun K2 hK2 => ?_; simp [dTab, dNum]; (repeat (refine ⟨by omega, ?_⟩)); refine hK2 _ ?_; clear hK2 K2)
    refine sxf_next fun K2 hK2 => ?_
    simp [dTab, dNum]
    refine callK.data (hb) (by simp; rfl) (by first | exact D.leGo_refl _ | simp [takeMap, List.map_map, Function.comp_def, D.le, D.le.go, D.le_refl, D.leGo_refl, dTab, dNum]) ?_
    refine hK2 _ ?_
    clear hK2 K2
    simp only [putd, upd_lst]
    repeat (refine sxf_next fun K2 hK2 => ?_; simp [dTab, dNum]; (repeat (refine ⟨by omega, ?_⟩)); refine hK2 _ ?_; clear hK2 K2)
    refine sxf_nil (hK' _ ?_)
    refine AW.st (by simp [dTab, dNum]; rfl) ?_
    clear hK' K'
    refine AW_rg (tyOf_good _) [1, 3, 4, 6, 7, 8, 9] [1, 3, 4, 8] (fun _ _ => trivial) fun K' hK' => ?_
    repeat (refine sxf_next fun K2 hK2 => ?_; simp [dTab, dRows, dNum]; (repeat (refine ⟨by omega, ?_⟩)); refine hK2 _ ?_; clear hK2 K2)
    refine sxf_next fun K2 hK2 => ?_
    simp [dTab, dRows, dNum]
    refine callK.data (hl) (by simp; rfl) (by first | exact D.leGo_refl _ | simp [takeMap, List.map_map, Function.comp_def, D.le, D.le.go, D.le_refl, D.leGo_refl, dTab, dRows, dNum]) ?_
    refine hK2 _ ?_
    clear hK2 K2
    simp only [putd, upd_lst]
    repeat (refine sxf_next fun K2 hK2 => ?_; simp [dTab, dRows, dNum]; (repeat (refine ⟨by omega, ?_⟩)); refine hK2 _ ?_; clear hK2 K2)
    refine sxf_nil (hK' _ ?_)
    refine AW.st (by simp [dTab, dRows, dNum]; rfl) ?_
    clear hK' K'
    refine AW_then fun K2 hK2 => ?_
    refine AW_rd (tyOf_good _) (by kernel_rfl) [3, 4, 6, 8, 45] [3, 4, 8] (fun _ _ => trivial) (by kernel_rfl) fun K' hK' => ?_
    repeat (refine sxd_next fun K2 hK2 => ?_; simp [dTab, dRows, dNum]; (repeat (refine ⟨by omega, ?_⟩)); refine hK2 _ ?_; clear hK2 K2)
    refine sxd_next fun K2 hK2 => ?_
    simp [dTab, dRows, dNum]
    refine callQ.data (hck) (by simp; rfl) (by simp; rfl) (by first | exact D.leGo_refl _ | simp [takeMap, List.map_map, Function.comp_def, D.le, D.le.go, D.le_refl, D.leGo_refl, dTab, dRows, dNum]) ?_
    refine hK2 _ ?_
    clear hK2 K2
    simp only [putd, upd_lst]
    repeat (refine sxd_next fun K2 hK2 => ?_; simp [dTab, dRows, dNum]; (repeat (refine ⟨by omega, ?_⟩)); refine hK2 _ ?_; clear hK2 K2)
    refine sxd_next fun K2 hK2 => ?_
    simp [dTab, dRows, dNum]
    refine callQ.data (hat) (by simp; rfl) (by simp; rfl) (by first | exact D.leGo_refl _ | simp [takeMap, List.map_map, Function.comp_def, D.le, D.le.go, D.le_refl, D.leGo_refl, dTab, dRows, dNum]) ?_
    refine hK2 _ ?_
    clear hK2 K2
    simp only [putd, upd_lst]
    repeat (refine sxd_next fun K2 hK2 => ?_; simp [dTab, dRows, dNum]; (repeat (refine ⟨by omega, ?_⟩)); refine hK2 _ ?_; clear hK2 K2)
    refine sxd_next fun K2 hK2 => ?_
    simp [dTab, dRows, dNum]
    refine callQ.data (hat) (by simp; rfl) (by simp; rfl) (by first | exact D.leGo_refl _ | simp [takeMap, List.map_map, Function.comp_def, D.le, D.le.go, D.le_refl, D.leGo_refl, dTab, dRows, dNum]) ?_
    refine hK2 _ ?_
    clear hK2 K2
    simp only [putd, upd_lst]
    repeat (refine sxd_next fun K2 hK2 => ?_; simp [dTab, dRows, dNum]; (repeat (refine ⟨by omega, ?_⟩)); refine hK2 _ ?_; clear hK2 K2)
    refine sxd_next fun K2 hK2 => ?_
    simp [dTab, dRows, dNum]
    refine callQ.data (hat) (by simp; rfl) (by simp; rfl) (by first | exact D.leGo_refl _ | simp [takeMap, List.map_map, Function.comp_def, D.le, D.le.go, D.le_refl, D.leGo_refl, dTab, dRows, dNum]) ?_
    refine hK2 _ ?_
    clear hK2 K2
    simp only [putd, upd_lst]
    repeat (refine sxd_next fun K2 hK2 => ?_; simp [dTab, dRows, dNum]; (repeat (refine ⟨by omega, ?_⟩)); refine hK2 _ ?_; clear hK2 K2)
    refine sxd_nil (hK' _ ?_)
    refine AW.st (by simp [dTab, dRows, dNum]; rfl) ?_
    clear hK' K'
    refine AW_cond false rfl (fun h => by cases h) (fun _ => ?_)
    refine AW_skip (hK2 _ ?_)
    refine AW_then fun K3 hK3 => ?_
    refine AW_rg (tyOf_good _) [3, 6, 8, 48] [3, 8] (fun _ _ => trivial) fun K' hK' => ?_
    repeat (refine sxf_next fun K2 hK2 => ?_; simp; (repeat (refine ⟨by omega, ?_⟩)); refine hK2 _ ?_; clear hK2 K2)
    refine sxf_nil (hK' _ ?_)
    refine AW.st (by simp; rfl) ?_
    clear hK' K'
    refine AW_cond false rfl (fun h => by cases h) (fun _ => ?_)
    refine AW_skip (hK3 _ ?_)
    refine AW_rg (tyOf_good _) [3, 6, 8, 10] [3, 8, 10] (fun _ _ => trivial) fun K' hK' => ?_
    repeat (refine sxf_next fun K2 hK2 => ?_; simp [dTab, dRows]; (repeat (refine ⟨by omega, ?_⟩)); refine hK2 _ ?_; clear hK2 K2)
    refine sxf_next fun K2 hK2 => ?_
    simp [dTab, dRows]
    refine callK.data (hrl) (by simp; rfl) (by first | exact D.leGo_refl _ | simp [takeMap, List.map_map, Function.comp_def, D.le, D.le.go, D.le_refl, D.leGo_refl, dTab, dRows]) ?_
    refine hK2 _ ?_
    clear hK2 K2
    simp only [putd, upd_lst]
    repeat (refine sxf_next fun K2 hK2 => ?_; simp [dTab, dRows]; (repeat (refine ⟨by omega, ?_⟩)); refine hK2 _ ?_; clear hK2 K2)
    refine sxf_nil (hK' _ ?_)
    refine AW.st (by simp [dTab, dRows]; rfl) ?_
    clear hK' K'
    refine AW_rg (tyOf_good _) [2] [] (fun _ _ => trivial) fun K' hK' => ?_
    repeat (refine sxf_next fun K2 hK2 => ?_; simp [dTab, dRows]; (repeat (refine ⟨by omega, ?_⟩)); refine hK2 _ ?_; clear hK2 K2)
    refine sxf_next fun K2 hK2 => ?_
    simp [dTab, dRows]
    refine callK.data (hrb) (by simp; rfl) (by first | exact D.leGo_refl _ | simp [takeMap, List.map_map, Function.comp_def, D.le, D.le.go, D.le_refl, D.leGo_refl, dTab, dRows]) ?_
    refine hK2 _ ?_
    clear hK2 K2
    simp only [putd, upd_lst]
    repeat (refine sxf_next fun K2 hK2 => ?_; simp [dTab, dRows]; (repeat (refine ⟨by omega, ?_⟩)); refine hK2 _ ?_; clear hK2 K2)
    refine sxf_next fun K2 hK2 => ?_
    simp [dTab, dRows]
    refine callK.data (hsi) (by simp; rfl) (by first | exact D.leGo_refl _ | simp [takeMap, List.map_map, Function.comp_def, D.le, D.le.go, D.le_refl, D.leGo_refl, dTab, dRows]) ?_
    refine hK2 _ ?_
    clear hK2 K2
    simp only [putd, upd_lst]
    repeat (refine sxf_next fun K2 hK2 => ?_; simp [dTab, dRows]; (repeat (refine ⟨by omega, ?_⟩)); refine hK2 _ ?_; clear hK2 K2)
    refine sxf_next fun K2 hK2 => ?_
    simp [dTab, dRows]
    refine callK.data (hs1) (by simp; rfl) (by first | exact D.leGo_refl _ | simp [takeMap, List.map_map, Function.comp_def, D.le, D.le.go, D.le_refl, D.leGo_refl, dTab, dRows]) ?_
    refine hK2 _ ?_
    clear hK2 K2
    simp only [putd, upd_lst]
    repeat (refine sxf_next fun K2 hK2 => ?_; simp [dTab, dRows]; (repeat (refine ⟨by omega, ?_⟩)); refine hK2 _ ?_; clear hK2 K2)
    refine sxf_next fun K2 hK2 => ?_
    simp [dTab, dRows]
    refine callK.data (hs2) (by simp; rfl) (by first | exact D.leGo_refl _ | simp [takeMap, List.map_map, Function.comp_def, D.le, D.le.go, D.le_refl, D.leGo_refl, dTab, dRows]) ?_
    refine hK2 _ ?_
    clear hK2 K2
    simp only [putd, upd_lst]
    repeat (refine sxf_next fun K2 hK2 => ?_; simp [dTab, dRows]; (repeat (refine ⟨by omega, ?_⟩)); refine hK2 _ ?_; clear hK2 K2)
    refine sxf_nil (hK' _ ?_)
    refine AW.st (by simp [dTab, dRows]; rfl) ?_
    clear hK' K'
    refine AW_ret ?_
    simp [D.le, D.le.go, takeMap]

theorem bblocks_spec (G : Glob) (hG : HasErr G) (hF : HasFine G) (t : Tab) : PureC Tryd.prog G 4 [dTab t] (.v (.bool true)) := by
  by_cases hm : 510 < t.next.length ∨ 510 < t.tells.length
  · exact bblocks_true G t 0 (-1) (tables_many G hF t hm)
  · have h1 : ¬ (510 : Int) < t.next.length := by omega
    have h2 : ¬ (510 : Int) < t.tells.length := by omega
    cases he : checkF t with
    | some e => exact bblocks_bad G hG hF t h1 h2 e he
    | none => exact bblocks_good G hG hF t (ok_iff.1 he)
#print axioms bblocks_spec
end Go.Proofs.YtoikggboakojlaaDoor

/-
  Laws over programs whose package-level variables are known.
-/
namespace Go.Av
set_option linter.unusedSimpArgs false
set_option linter.unusedVariables false
set_option linter.unusedSectionVars false
open Go.ChangeShapes Go.WideShapes Go.RowKit

theorem law_callsG {P : Program} {G : Glob} {g : FuncId} {xs : List D} {b : Bool} (hc : PureC P G g xs (.v (.bool b))) {W : World} {args : Array Value} (hgl : ∀ g x, G g = some x → RD W (fun _ => False) (.pointer (some ⟨g, 0, none⟩)) x) (hsz : args.size = xs.length)
    (hrd : ∀ (i : Nat) (u : Value) (x : D), args[i]? = some u → xs[i]? = some x → RD W (fun _ => False) u x) : Calls P g args W fun e W' => e = .returned (.bool b) ∧ Below W.heap.size W W' := by
  refine (hc.2 (fun _ => False) W (fun _ => none) args (Sim.none (by simp)) (fun g x hx => (hgl g x hx).sub fun b hb => XX_none.1 hb) (by simpa using hsz) fun i u x hu hx => ?_).mono fun e W' ⟨v, x, H', μ', he, ⟨hx, _⟩, hr, _, ev⟩ => ?_
  · rw [List.getElem?_map] at hx
    obtain ⟨d, hd, rfl⟩ := Option.map_eq_some_iff.1 hx
    exact .d ((hrd i u d hu hd).sub fun b hb => XX_none.1 hb)
  · subst hx
    have := hr.scalar
    subst this
    have hg := Ev.grew ev
    exact ⟨he, hg.os, hg.tape, hg.output, hg.size, hg.same⟩

theorem RD.cell1 {W : World} {X : Nat → Prop} {g : Nat} {v : Value} (hX : ∀ b, ¬ X b) (h : W.cell? ⟨g, 0, none⟩ = some v) : RD W X (.pointer (some ⟨g, 0, none⟩)) (.ip [.v v]) :=
  .ip (f := fun _ => v) (hX g) (cell_lt h) (fun j hj => by
    have : j = 0 := by simpa using hj
    subst this
    exact h) (fun j c hc => by
    have hj : j = 0 := by
      have := (List.getElem?_eq_some_iff.1 hc).1
      simpa using this
    subst hj
    simp at hc
    subst hc
    exact .v v)
theorem RD.at2 {W : World} {X : Nat → Prop} {x y : Value} {a b : D} (h0 : RD W X x a) (h1 : RD W X y b) : ∀ (i : Nat) (u : Value) (c : D), #[x, y][i]? = some u → [a, b][i]? = some c → RD W X u c := fun i u c hu hc => by
  match i, hu, hc with
  | 0, hu, hc => simp at hu hc; subst hu hc; exact h0
  | 1, hu, hc => simp at hu hc; subst hu hc; exact h1
  | i + 2, hu, hc => simp at hu
theorem RD.at1 {W : World} {X : Nat → Prop} {x : Value} {a : D} (h0 : RD W X x a) : ∀ (i : Nat) (u : Value) (c : D), #[x][i]? = some u → [a][i]? = some c → RD W X u c := fun i u c hu hc => by
  match i, hu, hc with
  | 0, hu, hc => simp at hu hc; subst hu hc; exact h0
  | i + 1, hu, hc => simp at hu
theorem RD.at4 {W : World} {X : Nat → Prop} {x y z v : Value} {a b e f : D} (h0 : RD W X x a) (h1 : RD W X y b) (h2 : RD W X z e) (h3 : RD W X v f) : ∀ (i : Nat) (u : Value) (c : D), #[x, y, z, v][i]? = some u → [a, b, e, f][i]? = some c → RD W X u c := fun i u c hu hc => by
  match i, hu, hc with
  | 0, hu, hc => simp at hu hc; subst hu hc; exact h0
  | 1, hu, hc => simp at hu hc; subst hu hc; exact h1
  | 2, hu, hc => simp at hu hc; subst hu hc; exact h2
  | 3, hu, hc => simp at hu hc; subst hu hc; exact h3
  | i + 4, hu, hc => simp at hu
end Go.Av

/-
  Tables, as they are read.
-/
namespace Go.Proofs.YtoikggboakojlaaDoor
set_option linter.unusedSimpArgs false
set_option linter.unusedVariables false
open Go.Av Go.ChangeShapes Go.WideShapes Go.ChangeAt Go.RowKit

theorem law_own : ownKnob Tryd.prog.godebug = none := by kernel_rfl
theorem law_laidOut : laidOutB Tryd.prog = true := by kernel_rfl
theorem cells_int : Tryd.prog.cellsOf 3 = 1 := by kernel_rfl
theorem cells_ints : Tryd.prog.cellsOf 32 = 1 := by kernel_rfl
theorem cells_rows : Tryd.prog.cellsOf 23 = 1 := by kernel_rfl
theorem cells_tab : Tryd.prog.cellsOf 25 = 2 := by kernel_rfl

section
variable {H : Type} {enc : TypeId × Value → H} {w : World} {base : Nat} {spare : Nat → Bool} {held : Bool} {X : Nat → Prop}

theorem reads_ints (hX : ∀ b, ¬ X b) : ReadsAs enc Tryd.prog w base spare held X 32 (fun _ : List Int => True) (fun l => [dRow l]) := by
  intro fuel cs x h
  obtain ⟨l, _, hr⟩ := reads_slice Tryd.underlying32 cells_int (by omega) hX (reads_int Tryd.underlying3) fuel cs x h
  exact ⟨l, trivial, hr⟩
theorem reads_rows (hX : ∀ b, ¬ X b) : ReadsAs enc Tryd.prog w base spare held X 23 (fun _ : List (List Int) => True) (fun l => [dRows l]) := by
  intro fuel cs x h
  obtain ⟨l, _, hr⟩ := reads_slice Tryd.underlying23 cells_ints (by omega) hX (reads_ints hX) fuel cs x h
  exact ⟨l, trivial, hr⟩
theorem reads_tab (hX : ∀ b, ¬ X b) : ReadsAs enc Tryd.prog w base spare held X 25 (fun _ : List (List Int) × List (List Int) => True) (fun s => [dRows s.1, dRows s.2]) := by
  intro fuel cs x h
  obtain ⟨l, _, hr⟩ := reads_struct2 Tryd.underlying25 (by rw [cells_tab]; simp only [cells_rows]) rfl (by simp only [cells_rows]) (reads_rows hX) (reads_rows hX) fuel cs x h
  exact ⟨l, trivial, hr⟩
end

end Go.Proofs.YtoikggboakojlaaDoor

/-
  Package-level variables that are laid: errors.errorType, and the reference's Fine.
-/
namespace Go.Proofs.YtoikggboakojlaaDoor
set_option linter.unusedSimpArgs false
set_option linter.unusedVariables false
open Go.Av Go.ChangeShapes Go.WideShapes Go.ChangeAt Go.RowKit

theorem laid_et : Tryd.prog.globalNamed "errors.errorType" = some 1 := by kernel_rfl
theorem laid_rt : (Tryd.prog.cutTypes.find? (·.1 == "internal/reflectlite.rtype")).map (·.2) = some 177 := by kernel_rfl
theorem laid_oneRow : ((List.range (333 - 100)).filter fun t => Tryd.prog.rowNamed t [101, 114, 114, 111, 114]) = [34] := by kernel_rfl
theorem laid_size : Tryd.prog.types.size = 333 - 100 := by kernel_rfl
theorem laid_fi : Tryd.prog.globalNamed "signalcabin/signalcabinref.Fine" = some 0 := by kernel_rfl
theorem laid_fiT : (Tryd.prog.globals[0]?).map (·.type) = some 29 := by kernel_rfl
theorem cells_errno : Tryd.prog.cellsOf 27 = 1 := by kernel_rfl
theorem cells_fault : Tryd.prog.cellsOf 29 = 2 := by kernel_rfl

def laidE : List (String × DataW Unit) := [("errors.errorType", Rows.laid_errors_errorType)]
def laidF : List (String × DataW Unit) := [("signalcabin/signalcabinref.Fine", Rows.laid_signalcabin_signalcabinref_Fine)]
def laidEF : List (String × DataW Unit) := [("errors.errorType", Rows.laid_errors_errorType), ("signalcabin/signalcabinref.Fine", Rows.laid_signalcabin_signalcabinref_Fine)]

theorem handle_of_met {W : World} (h : handlesMet Tryd.prog laidE W) : W.cell? ⟨1, 0, none⟩ = some errType := by
  obtain ⟨name, u, ty, e1, e2, e3, e4, e5⟩ := h _ (List.mem_singleton.2 rfl)
  have en : name = [101, 114, 114, 111, 114] := (Option.some.inj e1).symm
  subst en
  obtain rfl := Option.some.inj (laid_rt.symm.trans e2)
  have hm : ty ∈ (List.range (333 - 100)).filter fun t => Tryd.prog.rowNamed t [101, 114, 114, 111, 114] := List.mem_filter.2 ⟨List.mem_range.2 (by rw [← laid_size]; exact e3), e4⟩
  rw [laid_oneRow] at hm
  obtain rfl := List.mem_singleton.1 hm
  have hh : typeHandle Tryd.prog 34 = .pointer (some ⟨6, 34, none⟩) := by kernel_rfl
  rw [hh] at e5
  simpa [errType] using World.var?_cell laid_et e5 0

theorem trod_errno {W : World} {fuel : Nat} {cs : List Value} {y : DataW Unit × List MemPlace} (h : DataW.trod (fun _ => ()) Tryd.prog W 0 (fun _ => true) false fuel 27 cs = some y) : ∃ n, cs = [.int .i64 n] ∧ y = (.lit (.int .i64 n), []) := by
  obtain ⟨n, a, b, _⟩ := DataW.trod_int Tryd.underlying27 h
  exact ⟨n, a, b⟩
theorem trod_int3 {W : World} {fuel : Nat} {cs : List Value} {y : DataW Unit × List MemPlace} (h : DataW.trod (fun _ => ()) Tryd.prog W 0 (fun _ => true) false fuel 3 cs = some y) : ∃ n, cs = [.int .i64 n] ∧ y = (.lit (.int .i64 n), []) := by
  obtain ⟨n, a, b, _⟩ := DataW.trod_int Tryd.underlying3 h
  exact ⟨n, a, b⟩
theorem fine_of_met {W : World} (h : laidMet Tryd.prog laidF W) : W.cell? ⟨0, 0, none⟩ = some (.int .i64 0) ∧ W.cell? ⟨0, 1, none⟩ = some (.int .i64 (-1)) := by
  obtain ⟨ps, hv, _, _⟩ := h
  obtain ⟨g, t, cs, fuel, p, q, hg, ht, hcs, htr, _, _⟩ := hv
  obtain rfl := Option.some.inj (laid_fi.symm.trans hg)
  obtain rfl := Option.some.inj (laid_fiT.symm.trans ht)
  obtain ⟨y0, y1, n, hx, hl, t0, t1⟩ := trod_struct2 Tryd.underlying29 htr
  refine Exists.elim (trod_errno t0) fun n0 q0 => Exists.elim (trod_int3 t1) fun n1 q1 => ?_
  have e0 := q0.1
  have e1 := q1.1
  rw [q0.2, q1.2] at hx
  have hd : (DataW.agg [.lit (.int .i64 0), .lit (.int .i64 (-1))] : DataW Unit) = (DataW.agg [.lit (.int .i64 n0), .lit (.int .i64 n1)] : DataW Unit) := congrArg (·.1) hx
  simp only [DataW.agg.injEq, List.cons.injEq, DataW.lit.injEq, Lit.int.injEq, true_and, and_true] at hd
  have h0 : n0 = 0 := hd.1.symm
  have h1 : n1 = -1 := hd.2.symm
  subst h0 h1
  have c0 : cs[0]? = some (.int .i64 0) := by
    rw [cells_errno] at e0
    have := congrArg (fun l => l[0]?) e0
    simpa using this
  have c1 : cs[1]? = some (.int .i64 (-1)) := by
    rw [cells_int] at e1
    have := congrArg (fun l => l[0]?) e1
    simpa using this
  exact ⟨by rw [World.var?_cell laid_fi hcs 0]; exact c0, by rw [World.var?_cell laid_fi hcs 1]; exact c1⟩

theorem parts_of_EF {W : World} (h : laidMetH Tryd.prog laidEF W) : laidMet Tryd.prog laidF W ∧ handlesMet Tryd.prog laidE W := h

/-- The world in which these two are laid. -/
noncomputable def worldEF (os : Os) : World :=
  let w0 := World.laidAll Tryd.prog os laidF
  { w0 with heap := w0.heap.modify 1 fun
      | .cells _ t frozen => .cells #[errType] t frozen
      | o => o }
theorem worldEF_met (os : Os) (args : Array Value) : laidMetH Tryd.prog laidEF ((worldEF os).forCall (fun _ _ => 0) ⟨#[], args, []⟩).memory :=
  laidMetH_of_parts (laidMet_of_run' 8 (by kernel_rfl) (by kernel_rfl)) (by kernel_rfl)

def globEF : Glob := fun g => if g = 1 then some (.ip [.v errType]) else if g = 0 then some (.ip [dNum 0, dNum (-1)]) else none
theorem globEF_err : HasErr globEF := rfl
theorem globEF_fine : HasFine globEF := rfl
theorem RD.cells2 {W : World} {X : Nat → Prop} {g : Nat} {u v : Value} (hX : ∀ b, ¬ X b) (h0 : W.cell? ⟨g, 0, none⟩ = some u) (h1 : W.cell? ⟨g, 1, none⟩ = some v) : RD W X (.pointer (some ⟨g, 0, none⟩)) (.ip [.v u, .v v]) := by
  refine .ip (f := fun j => if j = 0 then u else v) (hX _) (cell_lt h0) (fun j hj => ?_) fun j c hc => ?_
  · match j, hj with
    | 0, _ => simpa using h0
    | 1, _ => simpa using h1
  · match j, hc with
    | 0, hc => simp at hc; subst hc; exact .v _
    | 1, hc => simp at hc; subst hc; exact .v _
    | j + 2, hc => simp at hc
theorem globEF_ok {W : World} (h : laidMetH Tryd.prog laidEF W) : ∀ g x, globEF g = some x → RD W (fun _ => False) (.pointer (some ⟨g, 0, none⟩)) x := fun g x hx => by
  obtain ⟨hf, he⟩ := parts_of_EF h
  obtain ⟨f0, f1⟩ := fine_of_met hf
  unfold globEF at hx
  split at hx
  · rename_i hg
    subst hg
    obtain rfl := Option.some.inj hx
    exact RD.cell1 (by simp) (handle_of_met he)
  · split at hx
    · rename_i hg
      subst hg
      obtain rfl := Option.some.inj hx
      exact RD.cells2 (by simp) f0 f1
    · cases hx
end Go.Proofs.YtoikggboakojlaaDoor
