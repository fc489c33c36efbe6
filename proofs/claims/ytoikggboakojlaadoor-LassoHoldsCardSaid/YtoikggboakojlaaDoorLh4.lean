/-
  Texts that belong together, in one file: F7, P1, P2, P3, F8, F10, F9, F13, P4, F14, F16, N2, B2.
-/
import Derived.Test.YtoikggboakojlaaDoorLh3
/-
  The rounds of blocks.
-/
namespace Go.Proofs.YtoikggboakojlaaDoor
set_option linter.unusedSimpArgs false
set_option linter.unusedVariables false
open Go.Av

def Tab.n (t : Tab) : Nat := t.next.length
/-- What part of a state's sign is there after i inputs. -/
def sigN (t : Tab) (now : List Int) (s i : Nat) : List Int := now.getD s 0 :: (List.range i).flatMap fun i => [(t.tells.getD s []).getD i 0, now.getD ((t.next.getD s []).getD i 0).toNat 0]
def sig (t : Tab) (now : List Int) (s : Nat) : List Int := sigN t now s (t.next.getD s []).length
def nextF (t : Tab) (now : List Int) : List Int := numberF ((List.range t.n).map (sig t now))
def iter (t : Tab) : Nat → List Int
  | 0 => List.replicate t.n 0
  | k + 1 => nextF t (iter t k)

theorem numberF_len (L : List (List Int)) : (numberF L).length = L.length := (numSt_len (Nat.le_refl _)).2
theorem iter_len (t : Tab) : ∀ k, (iter t k).length = t.n
  | 0 => by simp [iter]
  | k + 1 => by simp [iter, nextF, numberF_len]
theorem sigN_succ (t : Tab) (now : List Int) (s i : Nat) : sigN t now s (i + 1) = sigN t now s i ++ [(t.tells.getD s []).getD i 0, now.getD ((t.next.getD s []).getD i 0).toNat 0] := by
  simp [sigN, List.range_succ]
theorem sigN_len (t : Tab) (now : List Int) (s i : Nat) : (sigN t now s i).length = 1 + 2 * i := by
  induction i with
  | zero => simp [sigN]
  | succ i ih => rw [sigN_succ]; simp [ih]; omega

/-- What Check sees to. -/
structure Ok (t : Tab) : Prop where
  pos : 1 ≤ t.n
  most : t.n ≤ 500
  ins : (t.next.getD 0 []).length ≤ 64
  tells : t.tells.length = t.n
  nextLen : ∀ s, s < t.n → (t.next.getD s []).length = (t.next.getD 0 []).length
  tellsLen : ∀ s, s < t.n → (t.tells.getD s []).length = (t.next.getD 0 []).length
  there : ∀ s, s < t.n → ∀ x ∈ t.next.getD s [], 0 ≤ x ∧ x < t.n

theorem takeR {α : Type} (f : Nat → α) (n : Nat) : List.take n (List.map f (List.range n)) = List.map f (List.range n) := List.take_of_length_le (by simp)

def rowI (l : List Int) : Row := .sl 3 1 (l.map fun x => [dNum x])
def rowR (l : List (List Int)) : Row := .sl 32 1 (l.map fun r => [dRow r])
def boxT (t : Tab) : Row := .box 25 [.d (dRows t.next), .d (dRows t.tells)]

/-- The rounds are these, up to one that is its own next one. -/
def Stops (t : Tab) (k : Nat) : Prop := nextF t (iter t k) = iter t k ∧ ∀ j, j < k → nextF t (iter t j) ≠ iter t j

set_option maxHeartbeats 4000000 in
theorem rounds_spec (G : Glob) (t : Tab) (ok : Ok t) (k : Nat) (hk : k < 2^20) (hs : Stops t k) : PureC Tryd.prog G 58 [dTab t] (dRows ((List.range (k + 1)).map (iter t))) := by
  have hn500 : t.next.length ≤ 500 := ok.most
  refine PureC.of_body (tyOf_good _) Tryd.func58 rfl rfl (rs := [.tmp 2]) Tryd.results58 (by simp [Tryd.ntmps58]) fun X => ?_
  simp only [Tryd.ntmps58, List.map]
  refine AW_rg (tyOf_good _) [1] [1] (fun _ _ => trivial) fun K' hK' => ?_
  repeat (refine sxf_next fun K2 hK2 => ?_; simp [dTab]; (repeat (refine ⟨by omega, ?_⟩)); refine hK2 _ ?_; clear hK2 K2)
  refine sxf_nil (hK' _ ?_)
  refine AW.st (by simp [dTab]; rfl) ?_
  clear hK' K'
  refine AW_rg (tyOf_good _) [1, 3] [1] (fun _ _ => trivial) fun K' hK' => ?_
  repeat (refine sxf_next fun K2 hK2 => ?_; simp [dRows]; (repeat (refine ⟨by omega, ?_⟩)); refine hK2 _ ?_; clear hK2 K2)
  refine sxf_nil (hK' _ ?_)
  refine AW.st (by simp [dRows]; rfl) ?_
  clear hK' K'
  refine AW_rg (tyOf_good _) [1, 3, 4] [1, 17] (fun _ _ => trivial) fun K' hK' => ?_
  repeat (refine sxf_next fun K2 hK2 => ?_; simp; (repeat (refine ⟨by omega, ?_⟩)); refine hK2 _ ?_; clear hK2 K2)
  refine sxf_nil (hK' _ ?_)
  refine AW.st (by simp; rfl) ?_
  clear hK' K'
  refine AW_for (S := Nat) (fun m => m ≤ k) (fun m => ⟨lst [(1, .ref 1 0 0), (3, int t.next.length), (4, .own 17 0 (m + 1))], hlst [(1, boxT t), (17, rowR ((List.range (m + 1)).map (iter t)))]⟩) (fun m => k - m) 0 ?_ (by simp) ?_
  · refine Imp.to' (fun _ _ => trivial) (by simp [boxT, rowR, iter, dRow, dInts, dRows, Tab.n, dNum]) (by simp [boxT, rowR, iter, dRow, dInts, dRows, Tab.n, dNum])
  · intro m hm
    have hlen : (iter t m).length = t.next.length := iter_len t m
    refine AW_block ?_
    refine AW_rg (tyOf_good _) [1, 3, 4, 5] [1, 17] (fun _ _ => trivial) fun K' hK' => ?_
    repeat (refine sxf_next fun K2 hK2 => ?_; simp [rowR, boxT]; (repeat (refine ⟨by omega, ?_⟩)); refine hK2 _ ?_; clear hK2 K2)
    refine sxf_nil (hK' _ ?_)
    refine AW.st (by simp [rowR, boxT]; rfl) ?_
    clear hK' K'
    refine AW_rg (tyOf_good _) [1, 3, 4, 5, 6] [1, 17] (fun _ _ => trivial) fun K' hK' => ?_
    repeat (refine sxf_next fun K2 hK2 => ?_; simp; (repeat (refine ⟨by omega, ?_⟩)); refine hK2 _ ?_; clear hK2 K2)
    refine sxf_nil (hK' _ ?_)
    refine AW.st (by simp; rfl) ?_
    clear hK' K'
    refine AW_then fun K1 hK1 => ?_
    refine AW_rg (tyOf_good _) [1, 3, 4, 5, 6, 24, 25] [1, 17] (fun _ _ => trivial) fun K' hK' => ?_
    repeat (refine sxf_next fun K2 hK2 => ?_; simp; (repeat (refine ⟨by omega, ?_⟩)); refine hK2 _ ?_; clear hK2 K2)
    refine sxf_nil (hK' _ ?_)
    refine AW.st (by simp; rfl) ?_
    clear hK' K'
    refine AW_for (S := Nat) (fun s => s ≤ t.next.length) (fun s => ⟨lst [(1, .ref 1 0 0), (3, int t.next.length), (4, .own 17 0 (m + 1)), (5, .d (dRow (iter t m))), (6, .own 63 0 s), (24, int t.next.length), (25, int s)],
      hlst [(1, boxT t), (17, rowR ((List.range (m + 1)).map (iter t))), (63, rowR ((List.range s).map (sig t (iter t m))))]⟩) (fun s => t.next.length - s) 0 ?_ (by simp) ?_
    · refine (Imp.adopt 6 63 32 1 rfl rfl).trans ?_
      refine Imp.to' (fun _ _ => trivial) (by simp [boxT, rowR]) (by simp [boxT, rowR])
    · intro s hsn
      refine AW_rg (tyOf_good _) [1, 3, 4, 5, 6, 24, 25, 26] [1, 17, 63] (fun _ _ => trivial) fun K' hK' => ?_
      repeat (refine sxf_next fun K2 hK2 => ?_; simp [boxT, rowR]; (repeat (refine ⟨by omega, ?_⟩)); refine hK2 _ ?_; clear hK2 K2)
      refine sxf_nil (hK' _ ?_)
      refine AW.st (by simp [boxT, rowR]; rfl) ?_
      clear hK' K'
      refine AW_then fun K2 hK2 => ?_
      refine AW_cond' (b := s < t.next.length) (by simp [D.le, D.le.go, takeMap]) (fun hc => ?_) (fun hc => ?_)
      · refine AW_skip (hK2 _ ?_)
        have hT : s < t.tells.length := by have := ok.tells; simp only [Tab.n] at this; omega
        have hsl : s < (iter t m).length := by omega
        have hsl' : s < t.n := hc
        have hsl'' : s < t.next.length := hc
        have hgn : t.next.getD s [] = t.next[s] := by simp [hsl'']
        have hgt : t.tells.getD s [] = t.tells[s] := by simp [hT]
        refine AW_then fun K3 hK3 => ?_
        refine AW_block ?_
        refine AW_rg (tyOf_good _) [1, 3, 4, 5, 6, 7, 24, 25] [1, 17, 63] (fun _ _ => trivial) fun K' hK' => ?_
        repeat (refine sxf_next fun K2 hK2 => ?_; simp; (repeat (refine ⟨by omega, ?_⟩)); refine hK2 _ ?_; clear hK2 K2)
        refine sxf_nil (hK' _ ?_)
        refine AW.st (by simp; rfl) ?_
        clear hK' K'
        refine AW_rg (tyOf_good _) [1, 3, 4, 5, 6, 7, 8, 24, 25] [1, 17, 32, 63] (fun _ _ => trivial) fun K' hK' => ?_
        repeat (refine sxf_next fun K2 hK2 => ?_; simp [dRow, dInts, hsl]; (repeat (refine ⟨by omega, ?_⟩)); refine hK2 _ ?_; clear hK2 K2)
        refine sxf_nil (hK' _ ?_)
        refine AW.st (by simp [dRow, dInts, hsl]; rfl) ?_
        clear hK' K'
        refine AW_then fun K4 hK4 => ?_
        refine AW_rg (tyOf_good _) [1, 3, 4, 5, 6, 7, 8, 24, 25, 37, 38, 39] [1, 17, 32, 63] (fun _ _ => trivial) fun K' hK' => ?_
        repeat (refine sxf_next fun K2 hK2 => ?_; simp [dRows, dRow, dInts, hc]; (repeat (refine ⟨by omega, ?_⟩)); refine hK2 _ ?_; clear hK2 K2)
        refine sxf_nil (hK' _ ?_)
        refine AW.st (by simp [dRows, dRow, dInts, hc]; rfl) ?_
        clear hK' K'
        refine AW_for (S := Nat) (fun i => i ≤ t.next[s].length) (fun i => ⟨lst [(1, .ref 1 0 0), (3, int t.next.length), (4, .own 17 0 (m + 1)), (5, .d (dRow (iter t m))), (6, .own 63 0 s), (7, int s), (8, .own 32 0 (sigN t (iter t m) s i).length), (24, int t.next.length), (25, int s), (37, .d (dRow t.next[s])), (38, int t.next[s].length), (39, int i)],
          hlst [(1, boxT t), (17, rowR ((List.range (m + 1)).map (iter t))), (32, rowI (sigN t (iter t m) s i)), (63, rowR ((List.range s).map (sig t (iter t m))))]⟩) (fun i => t.next[s].length - i) 0 ?_ (by simp) ?_
        · refine Imp.to' (fun _ _ => trivial) (by simp [boxT, rowR, rowI, dRow, dInts, dRows, dNum, sigN, hsl]) (by simp [boxT, rowR, rowI, dRow, dInts, dRows, dNum, sigN, hsl])
        · intro i hi
          refine AW_rg (tyOf_good _) [1, 3, 4, 5, 6, 7, 8, 24, 25, 37, 38, 39, 40] [1, 17, 32, 63] (fun _ _ => trivial) fun K' hK' => ?_
          repeat (refine sxf_next fun K2 hK2 => ?_; simp [boxT, rowR, rowI]; (repeat (refine ⟨by omega, ?_⟩)); refine hK2 _ ?_; clear hK2 K2)
          refine sxf_nil (hK' _ ?_)
          refine AW.st (by simp [boxT, rowR, rowI]; rfl) ?_
          clear hK' K'
          refine AW_then fun K5 hK5 => ?_
          refine AW_cond' (b := i < t.next[s].length) (by simp [D.le, D.le.go, takeMap]) (fun hc => ?_) (fun hc => ?_)
          · have hil : i < t.next[s].length := hc
            have hn1 := ok.nextLen s hsl'
            have hn2 := ok.tellsLen s hsl'
            rw [hgn] at hn1
            rw [hgt] at hn2
            have hti : i < t.tells[s].length := by omega
            obtain ⟨hx0, hx1⟩ := ok.there s hsl' t.next[s][i] (by simp [hsl''])
            have hx2 : t.next[s][i] < (iter t m).length := by rw [hlen]; exact hx1
            have hx3 : t.next[s][i].toNat < (iter t m).length := by omega
            have hsg := sigN_succ t (iter t m) s i
            have hsgl := sigN_len t (iter t m) s i
            have hin := ok.ins
            have hi64 : t.next[s].length ≤ 64 := by omega
            refine AW_skip (hK5 _ ?_)
            refine AW_then fun K6 hK6 => ?_
            refine AW_block ?_
            refine AW_rg (tyOf_good _) [1, 3, 4, 5, 6, 7, 8, 9, 10, 24, 25, 37, 38, 39] [1, 17, 32, 63] (fun _ _ => trivial) fun K' hK' => ?_
            repeat (refine sxf_next fun K2 hK2 => ?_; simp [dRow, dInts, hil]; (repeat (refine ⟨by omega, ?_⟩)); refine hK2 _ ?_; clear hK2 K2)
            refine sxf_nil (hK' _ ?_)
            refine AW.st (by simp [dRow, dInts, hil]; rfl) ?_
            clear hK' K'
            refine AW_rde (tyOf_good _) (by kernel_rfl) (by kernel_rfl) fun K' hK' => ?_
            repeat (refine sxd_next fun K2 hK2 => ?_; simp [dRows, dRow, dInts, hT, hti, hx0, hx2, hx3, takeMap]; (repeat (refine ⟨by omega, ?_⟩)); refine hK2 _ ?_; clear hK2 K2)
            refine sxd_nil (hK' _ ?_)
            clear hK' K'
            refine hK6 _ (AW.norm [1, 3, 4, 5, 6, 7, 8, 24, 25, 37, 38, 39] [1, 17, 32, 63] (fun _ _ => trivial) (AW.st (by simp [dRows, dRow, dInts, hT, hti, hx0, hx2, hx3, takeMap]; rfl) ?_))
            refine AW_re (tyOf_good _) fun K' hK' => ?_
            repeat (refine sxf_next fun K2 hK2 => ?_; simp; (repeat (refine ⟨by omega, ?_⟩)); refine hK2 _ ?_; clear hK2 K2)
            refine sxf_nil (hK' _ ?_)
            clear hK' K'
            try simp only [thn, inb]
            refine Again.mk (i + 1) (by omega) (by omega) ?_
            refine Imp.to' (fun _ _ => trivial) (by simp [boxT, rowR, rowI, dRow, dInts, dRows, dNum, hsg, hT, hti, hx3, hil, hsl'', takeMap]) (by simp [boxT, rowR, rowI, dRow, dInts, dRows, dNum, hsg, hT, hti, hx3, hil, hsl'', takeMap])
          · have hil : i = t.next[s].length := by omega
            subst hil
            have hsig : sig t (iter t m) s = sigN t (iter t m) s t.next[s].length := by unfold sig; rw [hgn]
            have hsgl := sigN_len t (iter t m) s t.next[s].length
            refine AW_exit (hK4 _ ?_)
            refine AW_re (tyOf_good _) fun K' hK' => ?_
            repeat (refine sxf_next fun K2 hK2 => ?_; simp [rowI, rowR, takeMap, takeR]; (repeat (refine ⟨by omega, ?_⟩)); refine hK2 _ ?_; clear hK2 K2)
            refine sxf_nil (hK' _ ?_)
            clear hK' K'
            refine hK3 _ (AW.norm [1, 3, 4, 5, 6, 24, 25] [1, 17, 63] (fun _ _ => trivial) (AW.st (by simp [rowI, rowR, takeMap, takeR]; rfl) ?_))
            refine AW_re (tyOf_good _) fun K' hK' => ?_
            repeat (refine sxf_next fun K2 hK2 => ?_; simp; (repeat (refine ⟨by omega, ?_⟩)); refine hK2 _ ?_; clear hK2 K2)
            refine sxf_nil (hK' _ ?_)
            clear hK' K'
            try simp only [thn, inb]
            refine Again.mk (s + 1) (by omega) (by omega) ?_
            refine Imp.to' (fun _ _ => trivial) (by simp [boxT, rowR, rowI, dRow, dInts, dRows, dNum, List.range_succ, hsig, takeR]) (by simp [boxT, rowR, rowI, dRow, dInts, dRows, dNum, List.range_succ, hsig, takeR])
      · refine AW_exit (hK1 _ ?_)
        have hsn' : s = t.next.length := by omega
        subst hsn'
        refine AW.imp (Imp.freeze 63 trivial) ?_
        refine AW.st (by simp [rowR, boxT, takeR]; rfl) ?_
        have hin := ok.ins
        have hsl : ∀ r ∈ (List.range t.n).map (sig t (iter t m)), r.length < 2^40 := by
          intro r hr
          obtain ⟨s, hs, rfl⟩ := List.mem_map.1 hr
          have hs := List.mem_range.1 hs
          have h1 := ok.nextLen s hs
          have h2 := sigN_len t (iter t m) s (t.next.getD s []).length
          unfold sig
          omega
        have hnl : (nextF t (iter t m)).length = t.next.length := by unfold nextF; rw [numberF_len]; simp [Tab.n]
        refine AW_rg (tyOf_good _) [1, 3, 4, 5, 11] [1, 17] (fun _ _ => trivial) fun K' hK' => ?_
        repeat (refine sxf_next fun K2 hK2 => ?_; simp [rowR, boxT, dRows, Tab.n]; (repeat (refine ⟨by omega, ?_⟩)); refine hK2 _ ?_; clear hK2 K2)
        refine sxf_next fun K2 hK2 => ?_
        simp [rowR, boxT, dRows, Tab.n]
        refine callK.data (number_spec G ((List.range t.n).map (sig t (iter t m))) (by simp [Tab.n]; omega) hsl) (by simp; rfl) (by first | exact D.leGo_refl _ | simp [takeMap, List.map_map, Function.comp_def, D.le, D.le.go, D.le_refl, D.leGo_refl, rowR, boxT, dRows, Tab.n]) ?_
        refine hK2 _ ?_
        clear hK2 K2
        simp only [putd, upd_lst]
        repeat (refine sxf_next fun K2 hK2 => ?_; simp [rowR, boxT, dRows, Tab.n]; (repeat (refine ⟨by omega, ?_⟩)); refine hK2 _ ?_; clear hK2 K2)
        refine sxf_nil (hK' _ ?_)
        refine AW.st (by simp [rowR, boxT, dRows, Tab.n]; rfl) ?_
        clear hK' K'
        refine AW_then fun K7 hK7 => ?_
        refine AW_rg (tyOf_good _) [1, 3, 4, 11, 69] [1, 17] (fun _ _ => trivial) fun K' hK' => ?_
        repeat (refine sxf_next fun K2 hK2 => ?_; simp [boxT]; (repeat (refine ⟨by omega, ?_⟩)); refine hK2 _ ?_; clear hK2 K2)
        refine sxf_next fun K2 hK2 => ?_
        simp [boxT]
        refine callK.data (equal_spec G none none (nextF t (iter t m)) (iter t m) (by omega)) (by simp; rfl) (by first | exact D.leGo_refl _ | simp [takeMap, List.map_map, Function.comp_def, D.le, D.le.go, D.le_refl, D.leGo_refl, boxT]) ?_
        refine hK2 _ ?_
        clear hK2 K2
        simp only [putd, upd_lst]
        repeat (refine sxf_next fun K2 hK2 => ?_; simp [boxT]; (repeat (refine ⟨by omega, ?_⟩)); refine hK2 _ ?_; clear hK2 K2)
        refine sxf_nil (hK' _ ?_)
        refine AW.st (by simp [boxT]; rfl) ?_
        clear hK' K'
        refine AW_cond _ rfl (fun hb => ?_) (fun hb => ?_)
        · have he : nextF t (iter t m) = iter t m := by simpa using hb
          have hmk : m = k := by
            rcases Nat.lt_or_ge m k with h | h
            · exact absurd he (hs.2 m h)
            · omega
          subst hmk
          refine AW_rg (tyOf_good _) [2] [1, 17] (fun _ _ => trivial) fun K' hK' => ?_
          repeat (refine sxf_next fun K2 hK2 => ?_; simp [boxT]; (repeat (refine ⟨by omega, ?_⟩)); refine hK2 _ ?_; clear hK2 K2)
          refine sxf_nil (hK' _ ?_)
          refine AW.st (by simp [boxT]; rfl) ?_
          clear hK' K'
          refine AW_ret ?_
          simp [D.le, D.le.go, takeMap, dRows, dRow, dInts, takeR]
        · have hne : nextF t (iter t m) ≠ iter t m := by simpa using hb
          have hmk : m < k := by
            rcases Nat.lt_or_ge m k with h | h
            · exact h
            · have : m = k := by omega
              subst this
              exact absurd hs.1 hne
          refine AW_skip (hK7 _ ?_)
          refine AW_re (tyOf_good _) fun K' hK' => ?_
          repeat (refine sxf_next fun K2 hK2 => ?_; simp [dRow, dInts]; (repeat (refine ⟨by omega, ?_⟩)); refine hK2 _ ?_; clear hK2 K2)
          refine sxf_nil (hK' _ ?_)
          clear hK' K'
          try simp only [thn, inb]
          refine Again.mk (m + 1) (by omega) (by omega) ?_
          refine Imp.to' (fun _ _ => trivial) (by simp [boxT, rowR, rowI, dRow, dInts, dRows, dNum, List.range_succ, List.take_of_length_le, iter, nextF, Tab.n]) (by simp [boxT, rowR, rowI, dRow, dInts, dRows, dNum, List.range_succ, List.take_of_length_le, iter, nextF, Tab.n])
#print axioms rounds_spec
end Go.Proofs.YtoikggboakojlaaDoor

/-
  Plain facts of tables: numbers of lists, rounds, the table of blocks.
-/
namespace Go.Proofs.YtoikggboakojlaaDoor
set_option linter.unusedSimpArgs false
set_option linter.unusedVariables false

theorem idx_neg {α : Type} {p : α → Bool} {l : List α} (h : idx p l < 0) : ∀ x ∈ l, p x = false := by
  unfold idx at h
  split at h
  · omega
  · rename_i hn
    rw [List.findIdx?_eq_none_iff] at hn
    intro x hx
    simpa using hn x hx
theorem idx_pos {α : Type} {p : α → Bool} {l : List α} (h : ¬ idx p l < 0) : ∃ k, ∃ hk : k < l.length, idx p l = (k : Int) ∧ p l[k] = true := by
  unfold idx at h ⊢
  split
  · rename_i i hi
    rw [List.findIdx?_eq_some_iff_getElem] at hi
    obtain ⟨h1, h2, _⟩ := hi
    exact ⟨i, h1, rfl, h2⟩
  · rename_i hn
    simp [hn] at h

theorem getD_snoc {α : Type} (l : List α) (x d : α) (i : Nat) : (l ++ [x]).getD i d = if i < l.length then l.getD i d else if i = l.length then x else d := by
  simp only [List.getD_eq_getElem?_getD, List.getElem?_append]
  split
  · rfl
  · split
    · subst_vars; simp
    · rename_i h1 h2
      have : i - l.length = (i - l.length - 1) + 1 := by omega
      rw [this]; rfl

structure NumInv (L : List (List Int)) (n : Nat) (st : List (List Int) × List Int) : Prop where
  inj : ∀ k k', k < st.1.length → k' < st.1.length → st.1.getD k [] = st.1.getD k' [] → k = k'
  len : st.2.length = n
  hit : ∀ i, i < n → ∃ k, k < st.1.length ∧ st.2.getD i 0 = (k : Int) ∧ st.1.getD k [] = L.getD i []
  src : ∀ k, k < st.1.length → ∃ i, i < n ∧ st.1.getD k [] = L.getD i []

theorem num_inv {L : List (List Int)} : ∀ {n : Nat}, n ≤ L.length → NumInv L n (numSt L n)
  | 0, _ => ⟨by simp [numSt], by simp [numSt], fun i hi => by omega, by simp [numSt]⟩
  | n + 1, h => by
    have ih := num_inv (L := L) (n := n) (by omega)
    rw [numSt_succ (by omega)]
    generalize numSt L n = st at ih
    obtain ⟨seen, out⟩ := st
    obtain ⟨inj, len, hit, src⟩ := ih
    dsimp only at inj len hit src
    have hn : L.getD n [] = L[n] := by simp [List.getD_eq_getElem?_getD, show n < L.length by omega]
    unfold numStep
    dsimp only
    split
    · rename_i hneg
      have hnew : ∀ k, k < seen.length → seen.getD k [] ≠ L[n] := by
        intro k hk
        have := idx_neg hneg seen[k] (by simp)
        rw [List.getD_eq_getElem?_getD]
        simpa [hk] using this
      refine ⟨?_, by simp [len], ?_, ?_⟩
      · intro k k' hk hk' he
        simp only [List.length_append, List.length_cons, List.length_nil] at hk hk'
        simp only [getD_snoc] at he
        split at he <;> split at he <;> first | omega | skip
        · exact inj k k' (by assumption) (by assumption) he
        · split at he
          · exact absurd he (hnew k (by assumption))
          · omega
        · split at he
          · exact absurd he.symm (hnew k' (by assumption))
          · omega
      · intro i hi
        rcases Nat.lt_or_ge i n with h' | h'
        · obtain ⟨k, hk, h1, h2⟩ := hit i h'
          refine ⟨k, by simp; omega, ?_, ?_⟩
          · rw [getD_snoc, if_pos (by omega)]; exact h1
          · rw [getD_snoc, if_pos hk]; exact h2
        · have : i = n := by omega
          subst this
          refine ⟨seen.length, by simp, ?_, ?_⟩
          · rw [getD_snoc, if_neg (by omega), if_pos (by omega)]
          · rw [getD_snoc, if_neg (by omega), if_pos rfl, hn]
      · intro k hk
        simp only [List.length_append, List.length_cons, List.length_nil] at hk
        rcases Nat.lt_or_ge k seen.length with h' | h'
        · obtain ⟨i, hi, he⟩ := src k h'
          exact ⟨i, by omega, by rw [getD_snoc, if_pos h']; exact he⟩
        · exact ⟨n, by omega, by rw [getD_snoc, if_neg (by omega), if_pos (by omega), hn]⟩
    · rename_i hneg
      obtain ⟨q, hq, hqi, hqe⟩ := idx_pos hneg
      have hqe : seen[q] = L[n] := by simpa using hqe
      refine ⟨inj, by simp [len], ?_, ?_⟩
      · intro i hi
        rcases Nat.lt_or_ge i n with h' | h'
        · obtain ⟨k, hk, h1, h2⟩ := hit i h'
          exact ⟨k, hk, by dsimp only; rw [getD_snoc, if_pos (by omega)]; exact h1, h2⟩
        · have : i = n := by omega
          subst this
          refine ⟨q, hq, ?_, ?_⟩
          · dsimp only
            rw [getD_snoc, if_neg (by omega), if_pos (by omega)]; exact hqi
          · dsimp only
            rw [hn, ← hqe, List.getD_eq_getElem?_getD]; simp [hq]
      · intro k hk
        obtain ⟨i, hi, he⟩ := src k hk
        exact ⟨i, by omega, he⟩

/-- How many lists there are among the first ones. -/
def dn (L : List (List Int)) (n : Nat) : Nat := (numSt L n).1.length

theorem num_stay {L : List (List Int)} {n : Nat} : ∀ (d : Nat), n + d ≤ L.length → ∀ i, i < n → (numSt L (n + d)).2.getD i 0 = (numSt L n).2.getD i 0
  | 0, _, _, _ => rfl
  | d + 1, h, i, hi => by
    rw [← num_stay d (by omega) i hi, ← Nat.add_assoc, numSt_succ (by omega)]
    have hl := (num_inv (L := L) (n := n + d) (by omega)).len
    unfold numStep
    split <;> (dsimp only; rw [getD_snoc, if_pos (by omega)])
theorem numberF_at {L : List (List Int)} {n i : Nat} (h : n ≤ L.length) (hi : i < n) : (numberF L).getD i 0 = (numSt L n).2.getD i 0 := by
  have := num_stay (L := L) (n := n) (L.length - n) (by omega) i hi
  rw [show n + (L.length - n) = L.length by omega] at this
  exact this

theorem number_same {L : List (List Int)} {i j : Nat} (hi : i < L.length) (hj : j < L.length) : (numberF L).getD i 0 = (numberF L).getD j 0 ↔ L.getD i [] = L.getD j [] := by
  have h := num_inv (L := L) (n := L.length) (Nat.le_refl _)
  obtain ⟨k, hk, h1, h2⟩ := h.hit i hi
  obtain ⟨k', hk', h1', h2'⟩ := h.hit j hj
  unfold numberF
  rw [h1, h1', ← h2, ← h2']
  constructor
  · intro e
    have : k = k' := by omega
    rw [this]
  · intro e
    rw [h.inj k k' hk hk' e]

theorem number_new {L : List (List Int)} {n : Nat} (h : n < L.length) (hnew : ∀ i, i < n → L.getD i [] ≠ L.getD n []) : dn L (n + 1) = dn L n + 1 ∧ (numberF L).getD n 0 = (dn L n : Int) := by
  have hs := numSt_succ h
  have inv := num_inv (L := L) (n := n) (by omega)
  have hn : L.getD n [] = L[n] := by simp [List.getD_eq_getElem?_getD, h]
  have hidx : idx (fun x => x == L[n]) (numSt L n).1 < 0 := by
    apply Classical.byContradiction
    intro hc
    obtain ⟨q, hq, _, hqe⟩ := idx_pos hc
    obtain ⟨i, hi, he⟩ := inv.src q hq
    apply hnew i hi
    rw [hn, ← he, List.getD_eq_getElem?_getD]
    simpa [hq] using hqe
  have hl := inv.len
  unfold numStep at hs
  rw [if_pos hidx] at hs
  constructor
  · simp [dn, hs]
  · rw [numberF_at (n := n + 1) (by omega) (by omega), hs]
    dsimp only
    rw [getD_snoc, if_neg (by omega), if_pos (by omega)]
    rfl
theorem number_old {L : List (List Int)} {n i : Nat} (h : n < L.length) (hi : i < n) (he : L.getD i [] = L.getD n []) : dn L (n + 1) = dn L n ∧ ∃ k : Nat, (numberF L).getD n 0 = (k : Int) ∧ k < dn L n := by
  have hs := numSt_succ h
  have inv := num_inv (L := L) (n := n) (by omega)
  obtain ⟨k, hk, h1, h2⟩ := inv.hit i hi
  have hn : L.getD n [] = L[n] := by simp [List.getD_eq_getElem?_getD, h]
  have hidx : ¬ idx (fun x => x == L[n]) (numSt L n).1 < 0 := by
    intro hc
    have := idx_neg hc ((numSt L n).1[k]) (by simp)
    rw [he, hn, List.getD_eq_getElem?_getD] at h2
    simp [hk] at h2
    simp [h2] at this
  refine ⟨?_, k, ?_, hk⟩
  · unfold numStep at hs
    rw [if_neg hidx] at hs
    simp [dn, hs]
  · rw [← (number_same (L := L) (i := i) (j := n) (by omega) h).2 he, numberF_at (n := n) (by omega) hi, h1]

theorem number_le {L : List (List Int)} {n i : Nat} (hn : n ≤ L.length) (hi : i < n) : ∃ k : Nat, (numberF L).getD i 0 = (k : Int) ∧ k < dn L n := by
  obtain ⟨k, hk, h1, _⟩ := (num_inv hn).hit i hi
  exact ⟨k, by rw [numberF_at hn hi, h1], hk⟩
theorem dn_le {L : List (List Int)} {n : Nat} (hn : n ≤ L.length) : dn L n ≤ n := (numSt_len hn).1

theorem number_congr {L M : List (List Int)} (hl : L.length = M.length) (h : ∀ i j, i < L.length → j < L.length → (L.getD i [] = L.getD j [] ↔ M.getD i [] = M.getD j [])) : numberF L = numberF M := by
  have key : ∀ n, n ≤ L.length → dn L n = dn M n ∧ ∀ i, i < n → (numberF L).getD i 0 = (numberF M).getD i 0 := by
    intro n
    induction n with
    | zero => intro _; exact ⟨rfl, fun i hi => by omega⟩
    | succ n ih =>
      intro hn
      obtain ⟨h1, h2⟩ := ih (by omega)
      by_cases hnew : ∀ i, i < n → L.getD i [] ≠ L.getD n []
      · have hnew' : ∀ i, i < n → M.getD i [] ≠ M.getD n [] := fun i hi e => hnew i hi ((h i n (by omega) (by omega)).2 e)
        obtain ⟨a1, a2⟩ := number_new (by omega) hnew
        obtain ⟨b1, b2⟩ := number_new (by omega) hnew'
        refine ⟨by omega, fun i hi => ?_⟩
        rcases Nat.lt_or_ge i n with h' | h'
        · exact h2 i h'
        · have : i = n := by omega
          subst this
          rw [a2, b2, h1]
      · have ⟨i, hi⟩ := Classical.not_forall.1 hnew
        have ⟨hi, he⟩ := Classical.not_imp.1 hi
        have he := Classical.not_not.1 he
        have he' := (h i n (by omega) (by omega)).1 he
        have a1 := (number_old (by omega) hi he).1
        have b1 := (number_old (L := M) (by omega) hi he').1
        refine ⟨by omega, fun j hj => ?_⟩
        rcases Nat.lt_or_ge j n with h' | h'
        · exact h2 j h'
        · have : j = n := by omega
          subst this
          rw [← (number_same (L := L) (i := i) (j := j) (by omega) (by omega)).2 he, ← (number_same (L := M) (i := i) (j := j) (by omega) (by omega)).2 he']
          exact h2 i hi
  apply List.ext_getElem
  · rw [numberF_len, numberF_len, hl]
  · intro i h1 h2
    have := (key L.length (Nat.le_refl _)).2 i (by rw [numberF_len] at h1; exact h1)
    simpa [List.getD_eq_getElem?_getD, h1, h2] using this

/-- Lists that are all unlike are numbered 0, 1, 2, .. -/
theorem number_id {L : List (List Int)} (h : ∀ i j, i < L.length → j < L.length → L.getD i [] = L.getD j [] → i = j) : ∀ i, i < L.length → (numberF L).getD i 0 = (i : Int) := by
  have key : ∀ n, n ≤ L.length → dn L n = n := by
    intro n
    induction n with
    | zero => intro _; rfl
    | succ n ih =>
      intro hn
      rw [(number_new (L := L) (n := n) (by omega) (fun i hi e => by have := h i n (by omega) (by omega) e; omega)).1, ih (by omega)]
  intro i hi
  rw [(number_new (L := L) (n := i) hi (fun j hj e => by have := h j i (by omega) (by omega) e; omega)).2, key i (by omega)]
end Go.Proofs.YtoikggboakojlaaDoor

/-
  Plain facts of tables: the rounds come to an end; which states are alike.
-/
namespace Go.Proofs.YtoikggboakojlaaDoor
set_option linter.unusedSimpArgs false
set_option linter.unusedVariables false

def nx (t : Tab) (s c : Nat) : Nat := ((t.next.getD s []).getD c 0).toNat
def te (t : Tab) (s c : Nat) : Int := (t.tells.getD s []).getD c 0
def wd (t : Tab) : Nat := (t.next.getD 0 []).length
/-- After so many rounds two states have the same number. -/
def Al (t : Tab) (k i j : Nat) : Prop := (iter t k).getD i 0 = (iter t k).getD j 0

theorem Ok.nx_lt {t : Tab} (ok : Ok t) {s c : Nat} (hs : s < t.n) (hc : c < wd t) : nx t s c < t.n := by
  have hl := ok.nextLen s hs
  have hc : c < (t.next.getD 0 []).length := hc
  rw [← hl] at hc
  have hth := ok.there s hs
  unfold nx
  generalize t.next.getD s [] = r at hc hth
  have hm : r.getD c 0 ∈ r := by
    rw [List.getD_eq_getElem?_getD, List.getElem?_eq_getElem hc]
    exact List.getElem_mem hc
  have := hth _ hm
  omega

theorem sigN_same (t : Tab) (now : List Int) (s s' : Nat) : ∀ i, sigN t now s i = sigN t now s' i ↔ now.getD s 0 = now.getD s' 0 ∧ ∀ c, c < i → te t s c = te t s' c ∧ now.getD (nx t s c) 0 = now.getD (nx t s' c) 0
  | 0 => by simp [sigN]
  | i + 1 => by
    rw [sigN_succ, sigN_succ]
    constructor
    · intro h
      obtain ⟨h1, h2⟩ := List.append_inj' h rfl
      obtain ⟨h3, h4⟩ := (sigN_same t now s s' i).1 h1
      refine ⟨h3, fun c hc => ?_⟩
      rcases Nat.lt_or_ge c i with h' | h'
      · exact h4 c h'
      · have : c = i := by omega
        subst this
        simp only [List.cons.injEq, and_true] at h2
        exact h2
    · rintro ⟨h3, h4⟩
      rw [(sigN_same t now s s' i).2 ⟨h3, fun c hc => h4 c (by omega)⟩]
      obtain ⟨h5, h6⟩ := h4 i (by omega)
      unfold te at h5
      unfold nx at h6
      rw [h5, h6]

theorem sig_same {t : Tab} (ok : Ok t) (now : List Int) {s s' : Nat} (hs : s < t.n) (hs' : s' < t.n) :
    sig t now s = sig t now s' ↔ now.getD s 0 = now.getD s' 0 ∧ ∀ c, c < wd t → te t s c = te t s' c ∧ now.getD (nx t s c) 0 = now.getD (nx t s' c) 0 := by
  unfold sig
  rw [ok.nextLen s hs, ok.nextLen s' hs']
  exact sigN_same t now s s' _

theorem getD_sigs (t : Tab) (now : List Int) {s : Nat} (hs : s < t.n) : ((List.range t.n).map (sig t now)).getD s [] = sig t now s := by
  rw [List.getD_eq_getElem?_getD]
  simp [hs]

theorem al_succ {t : Tab} (ok : Ok t) {k i j : Nat} (hi : i < t.n) (hj : j < t.n) : Al t (k + 1) i j ↔ Al t k i j ∧ ∀ c, c < wd t → te t i c = te t j c ∧ Al t k (nx t i c) (nx t j c) := by
  unfold Al
  rw [iter, nextF, number_same (by simpa using hi) (by simpa using hj), getD_sigs t _ hi, getD_sigs t _ hj, sig_same ok _ hi hj]
theorem al_zero {t : Tab} {i j : Nat} (hi : i < t.n) (hj : j < t.n) : Al t 0 i j := by
  simp [Al, iter, List.getD_eq_getElem?_getD, hi, hj]
theorem al_down {t : Tab} (ok : Ok t) {i j : Nat} (hi : i < t.n) (hj : j < t.n) {k : Nat} : ∀ d, Al t (k + d) i j → Al t k i j
  | 0, h => h
  | d + 1, h => al_down ok hi hj d ((al_succ ok hi hj).1 h).1

/-- Rounds that part no more stay. -/
theorem iter_stay {t : Tab} {k : Nat} (h : nextF t (iter t k) = iter t k) : ∀ d, iter t (k + d) = iter t k
  | 0 => rfl
  | d + 1 => by rw [← Nat.add_assoc, iter, iter_stay h d, h]

theorem stable {t : Tab} (ok : Ok t) {k : Nat} (h : ∀ i j, i < t.n → j < t.n → Al t k i j → Al t (k + 1) i j) : nextF t (iter t k) = iter t k := by
  have hiff : ∀ i j, i < t.n → j < t.n → (Al t (k + 1) i j ↔ Al t k i j) := fun i j hi hj => ⟨al_down ok hi hj 1, h i j hi hj⟩
  have hs : ∀ m i j, i < t.n → j < t.n → (((List.range t.n).map (sig t (iter t m))).getD i [] = ((List.range t.n).map (sig t (iter t m))).getD j [] ↔ Al t (m + 1) i j) := by
    intro m i j hi hj
    unfold Al
    rw [iter, nextF, number_same (by simpa using hi) (by simpa using hj)]
  cases k with
  | zero =>
    apply List.ext_getElem
    · simp [nextF, numberF_len, iter]
    · intro i h1 h2
      have hi : i < t.n := by simpa [iter] using h2
      have h0 : 0 < t.n := by omega
      have e : Al t 1 i 0 := (hiff i 0 hi h0).2 (al_zero hi h0)
      have e0 : (iter t 1).getD 0 0 = 0 := by
        have := (number_new (L := (List.range t.n).map (sig t (iter t 0))) (n := 0) (by simpa using h0) (fun i hi => by omega)).2
        simpa [iter, nextF, dn, numSt] using this
      have h1' : i < (iter t 1).length := h1
      unfold Al at e
      rw [e0, List.getD_eq_getElem?_getD] at e
      have e' : (iter t 1)[i] = 0 := by simpa [h1'] using e
      have e2 : (iter t 0)[i] = 0 := by simp [iter]
      rw [e2, ← e']
      rfl
  | succ k =>
    show numberF _ = numberF _
    refine number_congr (by simp) fun i j hi hj => ?_
    have hi : i < t.n := by simpa using hi
    have hj : j < t.n := by simpa using hj
    rw [hs _ i j hi hj, hs _ i j hi hj]
    exact hiff i j hi hj

theorem countP_eq {α : Type} {p q : α → Bool} : ∀ {l : List α}, (∀ x ∈ l, p x = true → q x = true) → l.countP q ≤ l.countP p → ∀ x ∈ l, q x = true → p x = true
  | [], _, _, x, hx, _ => by simp at hx
  | y :: l, h, hc, x, hx, hq => by
    have hm : l.countP p ≤ l.countP q := List.countP_mono_left fun x hx => h x (by simp [hx])
    have hy := h y (by simp)
    simp only [List.countP_cons] at hc
    have h2 : l.countP q ≤ l.countP p ∧ (q y = true → p y = true) := by
      cases hpy : p y <;> cases hqy : q y <;> simp_all <;> omega
    rcases List.mem_cons.1 hx with rfl | hx
    · exact h2.2 hq
    · exact countP_eq (fun x hx => h x (by simp [hx])) h2.1 x hx hq

def pairs (n : Nat) : List (Nat × Nat) := (List.range n).flatMap fun i => (List.range n).map fun j => (i, j)
theorem mem_pairs {n : Nat} {p : Nat × Nat} : p ∈ pairs n ↔ p.1 < n ∧ p.2 < n := by
  unfold pairs
  simp only [List.mem_flatMap, List.mem_range, List.mem_map]
  constructor
  · rintro ⟨i, hi, j, hj, rfl⟩; exact ⟨hi, hj⟩
  · rintro ⟨h1, h2⟩; exact ⟨p.1, h1, p.2, h2, rfl⟩
theorem flat_len {α β : Type} (f : α → List β) (n : Nat) : ∀ (l : List α), (∀ x ∈ l, (f x).length = n) → (l.flatMap f).length = l.length * n
  | [], _ => by simp
  | x :: l, h => by
    rw [List.flatMap_cons, List.length_append, h x (by simp), flat_len f n l (fun y hy => h y (by simp [hy])), List.length_cons, Nat.add_mul, Nat.one_mul, Nat.add_comm]
theorem pairs_len (n : Nat) : (pairs n).length = n * n := by
  unfold pairs
  rw [flat_len _ n _ (by simp)]
  simp

open Classical in
noncomputable def cnt (t : Tab) (k : Nat) : Nat := (pairs t.n).countP fun p => decide (Al t k p.1 p.2)

theorem cnt_lt {t : Tab} (ok : Ok t) {k : Nat} (h : nextF t (iter t k) ≠ iter t k) : cnt t (k + 1) < cnt t k := by
  classical
  apply Classical.byContradiction
  intro hc
  apply h
  refine stable ok fun i j hi hj ha => ?_
  unfold cnt at hc
  have := countP_eq (p := fun p => decide (Al t (k + 1) p.1 p.2)) (q := fun p => decide (Al t k p.1 p.2)) (l := pairs t.n) (fun p hp hx => by
    have hp := mem_pairs.1 hp
    simp only [decide_eq_true_eq] at hx ⊢
    exact al_down ok hp.1 hp.2 1 hx) (by omega) (i, j) (mem_pairs.2 ⟨hi, hj⟩) (by simpa using ha)
  simpa using this

theorem first_such (P : Nat → Prop) : ∀ N, (∃ k, k ≤ N ∧ P k) → ∃ k, k ≤ N ∧ P k ∧ ∀ j, j < k → ¬ P j
  | 0, ⟨k, hk, h⟩ => ⟨0, by omega, by rwa [show k = 0 by omega] at h, fun j hj => by omega⟩
  | N + 1, ⟨k, hk, h⟩ => by
    by_cases hx : ∃ k, k ≤ N ∧ P k
    · obtain ⟨k, hk, r⟩ := first_such P N hx
      exact ⟨k, by omega, r⟩
    · exact ⟨k, hk, h, fun j hj hp => hx ⟨j, by omega, hp⟩⟩

theorem stops_ex {t : Tab} (ok : Ok t) : ∃ k, k ≤ t.n * t.n ∧ Stops t k := by
  refine first_such (fun k => nextF t (iter t k) = iter t k) _ ?_
  apply Classical.byContradiction
  intro hc
  have hall : ∀ k, k ≤ t.n * t.n → nextF t (iter t k) ≠ iter t k := fun k hk e => hc ⟨k, hk, e⟩
  have key : ∀ k, k ≤ t.n * t.n + 1 → cnt t k + k ≤ t.n * t.n := by
    intro k
    induction k with
    | zero =>
      intro _
      have h1 : cnt t 0 ≤ (pairs t.n).length := List.countP_le_length
      rw [pairs_len] at h1
      omega
    | succ k ih =>
      intro hk
      have h1 := ih (by omega)
      have h2 := cnt_lt ok (hall k (by omega))
      omega
  have := key (t.n * t.n + 1) (Nat.le_refl _)
  omega
theorem stops_small {t : Tab} (ok : Ok t) : ∃ k, k < 2^20 ∧ Stops t k := by
  obtain ⟨k, hk, h⟩ := stops_ex ok
  refine ⟨k, ?_, h⟩
  have h1 := ok.most
  have : t.n * t.n ≤ 500 * 500 := Nat.mul_le_mul h1 h1
  omega
theorem stops_one {t : Tab} {k k' : Nat} (h : Stops t k) (h' : Stops t k') : k = k' := by
  rcases Nat.lt_trichotomy k k' with hlt | rfl | hlt
  · exact absurd h.1 (h'.2 k hlt)
  · rfl
  · exact absurd h'.1 (h.2 k' hlt)

/-- What the rounds come to: alike now, then they go on so. -/
theorem al_fix {t : Tab} (ok : Ok t) {k : Nat} (h : nextF t (iter t k) = iter t k) {i j : Nat} (hi : i < t.n) (hj : j < t.n) (ha : Al t k i j) : ∀ c, c < wd t → te t i c = te t j c ∧ Al t k (nx t i c) (nx t j c) := by
  have : Al t (k + 1) i j := by unfold Al; rw [iter, h]; exact ha
  exact ((al_succ ok hi hj).1 this).2
theorem al_all {t : Tab} (ok : Ok t) {k : Nat} (h : nextF t (iter t k) = iter t k) {i j : Nat} (hi : i < t.n) (hj : j < t.n) (ha : Al t k i j) (m : Nat) : Al t m i j := by
  rcases Nat.le_total m k with hm | hm
  · exact al_down ok hi hj (k - m) (by rwa [show m + (k - m) = k by omega])
  · unfold Al
    rw [show m = k + (m - k) by omega, iter_stay h]
    exact ha
end Go.Proofs.YtoikggboakojlaaDoor

/-
  Plain facts of tables: which tables may be; the table of blocks; its own blocks are its states.
-/
namespace Go.Proofs.YtoikggboakojlaaDoor
set_option linter.unusedSimpArgs false
set_option linter.unusedVariables false

theorem rowsF_none {t : Tab} : ∀ {n s : Nat}, rowsF t s n = none ↔ ∀ i, s ≤ i → i < s + n → rowF t i = none
  | 0, s => by simp only [rowsF, true_iff]; intro i h1 h2; omega
  | n + 1, s => by
    unfold rowsF
    constructor
    · intro h i h1 h2
      split at h
      · cases h
      · rename_i hn
        rcases Nat.lt_or_ge s i with h' | h'
        · exact rowsF_none.1 h i (by omega) (by omega)
        · rw [show i = s by omega]; exact hn
    · intro h
      rw [h s (by omega) (by omega)]
      exact rowsF_none.2 fun i h1 h2 => h i (by omega) (by omega)
theorem rowF_none {t : Tab} {s : Nat} : rowF t s = none ↔ (t.next.getD s []).length = (t.next.getD 0 []).length ∧ (t.tells.getD s []).length = (t.next.getD 0 []).length ∧ ∀ x ∈ t.next.getD s [], 0 ≤ x ∧ x < (t.n : Int) := by
  unfold rowF Tab.n
  split
  · rename_i h
    simp only [reduceCtorEq, false_iff]
    rintro ⟨h1, h2, _⟩
    rcases h with h | h
    · exact h h1
    · exact h h2
  · rename_i h
    have h1 : (t.next.getD s []).length = (t.next.getD 0 []).length := by
      apply Classical.byContradiction; intro e; exact h (.inl e)
    have h2 : (t.tells.getD s []).length = (t.next.getD 0 []).length := by
      apply Classical.byContradiction; intro e; exact h (.inr e)
    split
    · rename_i ha
      simp only [reduceCtorEq, false_iff]
      rintro ⟨_, _, h3⟩
      obtain ⟨x, hx, hb⟩ := List.any_eq_true.1 ha
      have := h3 x hx
      simp at hb
      omega
    · rename_i ha
      simp only [true_iff]
      refine ⟨h1, h2, fun x hx => ?_⟩
      have : ¬ ((decide (x < 0) || decide ((t.next.length : Int) ≤ x)) = true) := fun e => ha (List.any_eq_true.2 ⟨x, hx, e⟩)
      simp at this
      omega
theorem ok_iff {t : Tab} : checkF t = none ↔ Ok t := by
  unfold checkF
  constructor
  · intro h
    split at h
    · cases h
    · split at h
      · cases h
      · have hr := fun (i : Nat) (hi : i < t.n) => rowF_none.1 (rowsF_none.1 h i (by omega) (by unfold Tab.n at hi; omega))
        exact ⟨by unfold Tab.n; omega, by unfold Tab.n; omega, by omega, by unfold Tab.n; omega, fun s hs => (hr s hs).1, fun s hs => (hr s hs).2.1, fun s hs => (hr s hs).2.2⟩
  · intro ok
    have h1 := ok.pos
    have h2 := ok.most
    have h3 := ok.ins
    have h4 := ok.tells
    unfold Tab.n at h1 h2 h4
    rw [if_neg (by omega), if_neg (by omega)]
    exact rowsF_none.2 fun i h1 h2 => rowF_none.2 ⟨ok.nextLen i (by unfold Tab.n; omega), ok.tellsLen i (by unfold Tab.n; omega), ok.there i (by unfold Tab.n; omega)⟩

def leastStep (t : Tab) (l : List Int) (st : List (List Int) × List (List Int)) (s : Nat) : List (List Int) × List (List Int) :=
  if l.getD s 0 < (st.1.length : Int) then st else (st.1 ++ [(t.next.getD s []).map fun x => l.getD x.toNat 0], st.2 ++ [t.tells.getD s []])
def leastSt (t : Tab) (l : List Int) (n : Nat) : List (List Int) × List (List Int) := (List.range n).foldl (leastStep t l) ([], [])
def leastF (t : Tab) (l : List Int) : Tab := ⟨(leastSt t l t.n).1, (leastSt t l t.n).2⟩

theorem leastSt_succ (t : Tab) (l : List Int) (n : Nat) : leastSt t l (n + 1) = leastStep t l (leastSt t l n) n := by
  simp [leastSt, List.range_succ]

structure LeastInv (t : Tab) (l : List Int) (S : List (List Int)) (n : Nat) (st : List (List Int) × List (List Int)) : Prop where
  len : st.2.length = st.1.length
  cnt : st.1.length = dn S n
  row : ∀ q, q < st.1.length → ∃ s, s < n ∧ l.getD s 0 = (q : Int) ∧ st.1.getD q [] = (t.next.getD s []).map (fun x => l.getD x.toNat 0) ∧ st.2.getD q [] = t.tells.getD s []

theorem least_inv {t : Tab} {l : List Int} {S : List (List Int)} (hS : S.length = t.n) (hl : l = numberF S) : ∀ {n : Nat}, n ≤ t.n → LeastInv t l S n (leastSt t l n)
  | 0, _ => ⟨rfl, rfl, fun q hq => by simp [leastSt] at hq⟩
  | n + 1, h => by
    have ih := least_inv hS hl (n := n) (by omega)
    rw [leastSt_succ]
    generalize leastSt t l n = st at ih
    obtain ⟨N, T⟩ := st
    obtain ⟨len, cnt, row⟩ := ih
    dsimp only at len cnt row
    unfold leastStep
    dsimp only
    by_cases hnew : ∀ i, i < n → S.getD i [] ≠ S.getD n []
    · obtain ⟨a1, a2⟩ := number_new (by omega) hnew
      rw [← hl] at a2
      rw [if_neg (by omega)]
      refine ⟨by simp [len], by simp [cnt, a1], fun q hq => ?_⟩
      simp only [List.length_append, List.length_cons, List.length_nil] at hq
      by_cases hq' : q < N.length
      · obtain ⟨s, hs, r1, r2, r3⟩ := row q hq'
        refine ⟨s, by omega, r1, ?_, ?_⟩
        · rw [getD_snoc, if_pos hq']; exact r2
        · rw [getD_snoc, if_pos (by omega)]; exact r3
      · refine ⟨n, by omega, by omega, ?_, ?_⟩
        · rw [getD_snoc, if_neg hq', if_pos (by omega)]
        · rw [getD_snoc, if_neg (by omega), if_pos (by omega)]
    · have ⟨i, hi⟩ := Classical.not_forall.1 hnew
      have ⟨hi, he⟩ := Classical.not_imp.1 hi
      have he := Classical.not_not.1 he
      obtain ⟨a1, k, a2, a3⟩ := number_old (by omega) hi he
      rw [← hl] at a2
      rw [if_pos (by omega)]
      exact ⟨len, by rw [cnt, a1], fun q hq => by obtain ⟨s, hs, r⟩ := row q hq; exact ⟨s, by omega, r⟩⟩

/-- The table of blocks, of numbers that go on so. -/
structure LeastIs (t : Tab) (l : List Int) (u : Tab) : Prop where
  ok : Ok u
  le : u.n ≤ t.n
  wide : wd u = wd t
  rep : ∀ q, q < u.n → ∃ s, s < t.n ∧ l.getD s 0 = (q : Int) ∧ ∀ c, c < wd t → te u q c = te t s c ∧ ((nx u q c : Nat) : Int) = l.getD (nx t s c) 0
  blk : ∀ s, s < t.n → ∃ q, q < u.n ∧ l.getD s 0 = (q : Int)

theorem least_is {t : Tab} (ok : Ok t) {l : List Int} (h : nextF t l = l) : LeastIs t l (leastF t l) := by
  have hS : ((List.range t.n).map (sig t l)).length = t.n := by simp
  have hl : l = numberF ((List.range t.n).map (sig t l)) := h.symm
  have inv := least_inv hS hl (Nat.le_refl t.n)
  obtain ⟨len, cnt, row⟩ := inv
  generalize hSS : (List.range t.n).map (sig t l) = S at hS hl cnt
  have hu1 : (leastF t l).next = (leastSt t l t.n).1 := rfl
  have hu2 : (leastF t l).tells = (leastSt t l t.n).2 := rfl
  rw [← hu1, ← hu2] at len row
  rw [← hu1] at cnt
  have hn : (leastF t l).n = dn S t.n := cnt
  have blk : ∀ s, s < t.n → ∃ q, q < (leastF t l).n ∧ l.getD s 0 = (q : Int) := by
    intro s hs
    obtain ⟨k, h1, h2⟩ := number_le (L := S) (n := t.n) (i := s) (by omega) hs
    exact ⟨k, by omega, by rw [hl, h1]⟩
  have hpos := ok.pos
  have hpos' : 0 < (leastF t l).n := by obtain ⟨q, hq, _⟩ := blk 0 (by omega); omega
  have hlen : ∀ q, q < (leastF t l).n → ((leastF t l).next.getD q []).length = wd t ∧ ((leastF t l).tells.getD q []).length = wd t := by
    intro q hq
    obtain ⟨s, hs, _, h2, h3⟩ := row q hq
    rw [h2, h3]
    exact ⟨by rw [List.length_map]; exact ok.nextLen s hs, ok.tellsLen s hs⟩
  have hw : wd (leastF t l) = wd t := (hlen 0 hpos').1
  have hle : (leastF t l).n ≤ t.n := by rw [hn]; exact dn_le (by omega)
  have hmost := ok.most
  refine ⟨⟨hpos', by omega, by have := ok.ins; unfold wd at hw; omega, len, fun s hs => by rw [(hlen s hs).1]; exact hw.symm, fun s hs => by rw [(hlen s hs).2]; exact hw.symm, ?_⟩, hle, hw, ?_, blk⟩
  · intro q hq x hx
    obtain ⟨s, hs, _, h2, _⟩ := row q hq
    rw [h2] at hx
    obtain ⟨y, hy, rfl⟩ := List.mem_map.1 hx
    have := ok.there s hs y hy
    obtain ⟨q', h1, h2⟩ := blk y.toNat (by omega)
    omega
  · intro q hq
    obtain ⟨s, hs, h1, h2, h3⟩ := row q hq
    refine ⟨s, hs, h1, fun c hc => ⟨by unfold te; rw [h3], ?_⟩⟩
    have hcl : c < (t.next.getD s []).length := by rw [ok.nextLen s hs]; exact hc
    have hnx := ok.nx_lt hs hc
    obtain ⟨q', h4, h5⟩ := blk _ hnx
    have e : ((leastF t l).next.getD q []).getD c 0 = l.getD (nx t s c) 0 := by
      rw [h2]
      unfold nx
      generalize t.next.getD s [] = r at hcl
      rw [List.getD_eq_getElem?_getD, List.getElem?_map, List.getD_eq_getElem?_getD (l := r), List.getElem?_eq_getElem hcl]
      rfl
    unfold nx at e ⊢
    rw [e]
    unfold nx at h5
    omega

theorem least_apart {t u : Tab} (ok : Ok t) {k k' : Nat} (h : nextF t (iter t k) = iter t k) (hu : LeastIs t (iter t k) u) (h' : nextF u (iter u k') = iter u k') :
    ∀ (r s s' q q' : Nat), s < t.n → s' < t.n → (iter t k).getD s 0 = (q : Int) → (iter t k).getD s' 0 = (q' : Int) → q < u.n → q' < u.n → Al u k' q q' → Al t r s s'
  | 0, s, s', _, _, hs, hs', _, _, _, _, _ => al_zero hs hs'
  | r + 1, s, s', q, q', hs, hs', hq, hq', hqn, hqn', ha => by
    obtain ⟨s1, hs1, e1, f1⟩ := hu.rep q hqn
    obtain ⟨s2, hs2, e2, f2⟩ := hu.rep q' hqn'
    have a1 : Al t (r + 1) s s1 := al_all ok h hs hs1 (by unfold Al; rw [hq, e1]) (r + 1)
    have a2 : Al t (r + 1) s' s2 := al_all ok h hs' hs2 (by unfold Al; rw [hq', e2]) (r + 1)
    have a3 : Al t (r + 1) s1 s2 := by
      refine (al_succ ok hs1 hs2).2 ⟨least_apart ok h hu h' r s1 s2 q q' hs1 hs2 e1 e2 hqn hqn' ha, fun c hc => ?_⟩
      have hc' : c < wd u := by rw [hu.wide]; exact hc
      obtain ⟨g1, g2⟩ := al_fix hu.ok h' hqn hqn' ha c hc'
      refine ⟨by rw [← (f1 c hc).1, ← (f2 c hc).1, g1], ?_⟩
      exact least_apart ok h hu h' r _ _ _ _ (ok.nx_lt hs1 hc) (ok.nx_lt hs2 hc) (f1 c hc).2.symm (f2 c hc).2.symm (hu.ok.nx_lt hqn hc') (hu.ok.nx_lt hqn' hc') g2
    unfold Al at a1 a2 a3 ⊢
    rw [a1, a2, a3]

/-- The table of blocks has its own states as its blocks. -/
theorem least_id {t u : Tab} (ok : Ok t) {k k' : Nat} (h : nextF t (iter t k) = iter t k) (hu : LeastIs t (iter t k) u) (h' : nextF u (iter u k') = iter u k') : ∀ i, i < u.n → (iter u k').getD i 0 = (i : Int) := by
  have inj : ∀ i j, i < u.n → j < u.n → Al u k' i j → i = j := by
    intro i j hi hj ha
    obtain ⟨s, hs, e, _⟩ := hu.rep i hi
    obtain ⟨s', hs', e', _⟩ := hu.rep j hj
    have := least_apart ok h hu h' k s s' i j hs hs' e e' hi hj ha
    unfold Al at this
    rw [e, e'] at this
    omega
  intro i hi
  rw [← h']
  unfold nextF
  refine number_id (fun i j hi hj he => ?_) i (by simpa using hi)
  have hi' : i < u.n := by simpa using hi
  have hj' : j < u.n := by simpa using hj
  refine inj i j hi' hj' ?_
  unfold Al
  rw [← h']
  exact (number_same hi hj).2 he
end Go.Proofs.YtoikggboakojlaaDoor

/-
  The blocks of a table.
-/
namespace Go.Proofs.YtoikggboakojlaaDoor
set_option linter.unusedSimpArgs false
set_option linter.unusedVariables false
open Go.Av

set_option maxHeartbeats 1000000 in
theorem blocks_bad (G : Glob) (t : Tab) (e : Int × Option Nat) (h : checkF t = some e) : PureC Tryd.prog G 17 [dTab t] (.tup [.sl (some false) [], dErr (some e)]) := by
  refine PureC.of_body (tyOf_good _) Tryd.func17 rfl rfl (rs := [.tmp 2, .tmp 3]) Tryd.results17 (by simp [Tryd.ntmps17]) fun X => ?_
  simp only [Tryd.ntmps17, List.map]
  refine AW_rg (tyOf_good _) [1] [1] (fun _ _ => trivial) fun K' hK' => ?_
  repeat (refine sxf_next fun K2 hK2 => ?_; simp [dTab]; (repeat (refine ⟨by omega, ?_⟩)); refine hK2 _ ?_; clear hK2 K2)
  refine sxf_nil (hK' _ ?_)
  refine AW.st (by simp [dTab]; rfl) ?_
  clear hK' K'
  refine AW_then fun K1 hK1 => ?_
  refine AW_rg (tyOf_good _) [1, 4] [1] (fun _ _ => trivial) fun K' hK' => ?_
  repeat (refine sxf_next fun K2 hK2 => ?_; simp; (repeat (refine ⟨by omega, ?_⟩)); refine hK2 _ ?_; clear hK2 K2)
  refine sxf_next fun K2 hK2 => ?_
  simp
  refine callK.data (check_spec G t) (by simp; rfl) (by first | exact D.leGo_refl _ | simp [takeMap, List.map_map, Function.comp_def, D.le, D.le.go, D.le_refl, D.leGo_refl]) ?_
  refine hK2 _ ?_
  clear hK2 K2
  simp only [putd, upd_lst]
  repeat (refine sxf_next fun K2 hK2 => ?_; simp; (repeat (refine ⟨by omega, ?_⟩)); refine hK2 _ ?_; clear hK2 K2)
  refine sxf_nil (hK' _ ?_)
  refine AW.st (by simp; rfl) ?_
  clear hK' K'
  rw [h]
  obtain ⟨c, s⟩ := e
  cases s
  · refine AW_rg (tyOf_good _) [1, 4, 9] [1] (fun _ _ => trivial) fun K' hK' => ?_
    repeat (refine sxf_next fun K2 hK2 => ?_; simp [dErr]; (repeat (refine ⟨by omega, ?_⟩)); refine hK2 _ ?_; clear hK2 K2)
    refine sxf_nil (hK' _ ?_)
    refine AW.st (by simp [dErr]; rfl) ?_
    clear hK' K'
    refine AW_cond true rfl (fun _ => ?_) (fun h => by cases h)
    refine AW_rg (tyOf_good _) [2, 3] [1] (fun _ _ => trivial) fun K' hK' => ?_
    repeat (refine sxf_next fun K2 hK2 => ?_; simp; (repeat (refine ⟨by omega, ?_⟩)); refine hK2 _ ?_; clear hK2 K2)
    refine sxf_nil (hK' _ ?_)
    refine AW.st (by simp; rfl) ?_
    clear hK' K'
    refine AW_ret ?_
    simp [D.le, D.le.go, takeMap, dErr]
  · refine AW_rg (tyOf_good _) [1, 4, 9] [1] (fun _ _ => trivial) fun K' hK' => ?_
    repeat (refine sxf_next fun K2 hK2 => ?_; simp [dErr]; (repeat (refine ⟨by omega, ?_⟩)); refine hK2 _ ?_; clear hK2 K2)
    refine sxf_nil (hK' _ ?_)
    refine AW.st (by simp [dErr]; rfl) ?_
    clear hK' K'
    refine AW_cond true rfl (fun _ => ?_) (fun h => by cases h)
    refine AW_rg (tyOf_good _) [2, 3] [1] (fun _ _ => trivial) fun K' hK' => ?_
    repeat (refine sxf_next fun K2 hK2 => ?_; simp; (repeat (refine ⟨by omega, ?_⟩)); refine hK2 _ ?_; clear hK2 K2)
    refine sxf_nil (hK' _ ?_)
    refine AW.st (by simp; rfl) ?_
    clear hK' K'
    refine AW_ret ?_
    simp [D.le, D.le.go, takeMap, dErr]

set_option maxHeartbeats 1000000 in
theorem blocks_good (G : Glob) (t : Tab) (ok : Ok t) (k : Nat) (hk : k < 2^20) (hs : Stops t k) : PureC Tryd.prog G 17 [dTab t] (.tup [dRow (iter t k), .v .nilIface]) := by
  have h : checkF t = none := ok_iff.2 ok
  refine PureC.of_body (tyOf_good _) Tryd.func17 rfl rfl (rs := [.tmp 2, .tmp 3]) Tryd.results17 (by simp [Tryd.ntmps17]) fun X => ?_
  simp only [Tryd.ntmps17, List.map]
  refine AW_rg (tyOf_good _) [1] [1] (fun _ _ => trivial) fun K' hK' => ?_
  repeat (refine sxf_next fun K2 hK2 => ?_; simp [dTab]; (repeat (refine ⟨by omega, ?_⟩)); refine hK2 _ ?_; clear hK2 K2)
  refine sxf_nil (hK' _ ?_)
  refine AW.st (by simp [dTab]; rfl) ?_
  clear hK' K'
  refine AW_then fun K1 hK1 => ?_
  refine AW_rg (tyOf_good _) [1, 4] [1] (fun _ _ => trivial) fun K' hK' => ?_
  repeat (refine sxf_next fun K2 hK2 => ?_; simp; (repeat (refine ⟨by omega, ?_⟩)); refine hK2 _ ?_; clear hK2 K2)
  refine sxf_next fun K2 hK2 => ?_
  simp
  refine callK.data (check_spec G t) (by simp; rfl) (by first | exact D.leGo_refl _ | simp [takeMap, List.map_map, Function.comp_def, D.le, D.le.go, D.le_refl, D.leGo_refl]) ?_
  refine hK2 _ ?_
  clear hK2 K2
  simp only [putd, upd_lst]
  repeat (refine sxf_next fun K2 hK2 => ?_; simp; (repeat (refine ⟨by omega, ?_⟩)); refine hK2 _ ?_; clear hK2 K2)
  refine sxf_nil (hK' _ ?_)
  refine AW.st (by simp; rfl) ?_
  clear hK' K'
  rw [h]
  refine AW_rg (tyOf_good _) [1, 4, 9] [1] (fun _ _ => trivial) fun K' hK' => ?_
  repeat (refine sxf_next fun K2 hK2 => ?_; simp [dErr]; (repeat (refine ⟨by omega, ?_⟩)); refine hK2 _ ?_; clear hK2 K2)
  refine sxf_nil (hK' _ ?_)
  refine AW.st (by simp [dErr]; rfl) ?_
  clear hK' K'
  refine AW_cond false rfl (fun h => by cases h) (fun _ => ?_)
  refine AW_skip (hK1 _ ?_)
  refine AW_rg (tyOf_good _) [5] [1] (fun _ _ => trivial) fun K' hK' => ?_
  repeat (refine sxf_next fun K2 hK2 => ?_; simp; (repeat (refine ⟨by omega, ?_⟩)); refine hK2 _ ?_; clear hK2 K2)
  refine sxf_next fun K2 hK2 => ?_
  simp
  refine callK.data (rounds_spec G t ok k hk hs) (by simp; rfl) (by first | exact D.leGo_refl _ | simp [takeMap, List.map_map, Function.comp_def, D.le, D.le.go, D.le_refl, D.leGo_refl]) ?_
  refine hK2 _ ?_
  clear hK2 K2
  simp only [putd, upd_lst]
  repeat (refine sxf_next fun K2 hK2 => ?_; simp; (repeat (refine ⟨by omega, ?_⟩)); refine hK2 _ ?_; clear hK2 K2)
  refine sxf_nil (hK' _ ?_)
  refine AW.st (by simp; rfl) ?_
  clear hK' K'
  refine AW_rg (tyOf_good _) [2, 3] [1] (fun _ _ => trivial) fun K' hK' => ?_
  repeat (refine sxf_next fun K2 hK2 => ?_; simp [dRows]; (repeat (refine ⟨by omega, ?_⟩)); refine hK2 _ ?_; clear hK2 K2)
  refine sxf_nil (hK' _ ?_)
  refine AW.st (by simp [dRows]; rfl) ?_
  clear hK' K'
  refine AW_ret ?_
  simp [D.le, D.le.go, takeMap, D.le_refl]
#print axioms blocks_bad
#print axioms blocks_good
end Go.Proofs.YtoikggboakojlaaDoor

/-
  The table of blocks.
-/
namespace Go.Proofs.YtoikggboakojlaaDoor
set_option linter.unusedSimpArgs false
set_option linter.unusedVariables false
open Go.Av

theorem leastSt_len (t : Tab) (l : List Int) : ∀ n, (leastSt t l n).1.length ≤ n ∧ (leastSt t l n).2.length = (leastSt t l n).1.length
  | 0 => by simp [leastSt]
  | n + 1 => by
    have ih := leastSt_len t l n
    rw [leastSt_succ]
    unfold leastStep
    split
    · omega
    · simp; omega

set_option maxHeartbeats 1000000 in
theorem least_bad (G : Glob) (t : Tab) (e : Int × Option Nat) (h : checkF t = some e) : PureC Tryd.prog G 18 [dTab t] (.tup [dTab ⟨[], []⟩, dErr (some e)]) := by
  refine PureC.of_body (tyOf_good _) Tryd.func18 rfl rfl (rs := [.cell 2 25, .tmp 3]) Tryd.results18 (by simp [Tryd.ntmps18]) fun X => ?_
  simp only [Tryd.ntmps18, List.map]
  refine AW_rg (tyOf_good _) [1, 2] [1, 2] (fun _ _ => trivial) fun K' hK' => ?_
  repeat (refine sxf_next fun K2 hK2 => ?_; simp [dTab]; (repeat (refine ⟨by omega, ?_⟩)); refine hK2 _ ?_; clear hK2 K2)
  refine sxf_nil (hK' _ ?_)
  refine AW.st (by simp [dTab]; rfl) ?_
  clear hK' K'
  refine AW_rg (tyOf_good _) [1, 2, 4, 5] [1, 2] (fun _ _ => trivial) fun K' hK' => ?_
  repeat (refine sxf_next fun K2 hK2 => ?_; simp; (repeat (refine ⟨by omega, ?_⟩)); refine hK2 _ ?_; clear hK2 K2)
  refine sxf_next fun K2 hK2 => ?_
  simp
  refine callK.data (blocks_bad G t e h) (by simp; rfl) (by first | exact D.leGo_refl _ | simp [takeMap, List.map_map, Function.comp_def, D.le, D.le.go, D.le_refl, D.leGo_refl]) ?_
  refine hK2 _ ?_
  clear hK2 K2
  simp only [putd, upd_lst]
  repeat (refine sxf_next fun K2 hK2 => ?_; simp; (repeat (refine ⟨by omega, ?_⟩)); refine hK2 _ ?_; clear hK2 K2)
  refine sxf_nil (hK' _ ?_)
  refine AW.st (by simp; rfl) ?_
  clear hK' K'
  refine AW_then fun K1 hK1 => ?_
  obtain ⟨c, s⟩ := e
  cases s
  · refine AW_rg (tyOf_good _) [1, 2, 4, 5, 18] [1, 2] (fun _ _ => trivial) fun K' hK' => ?_
    repeat (refine sxf_next fun K2 hK2 => ?_; simp [dErr]; (repeat (refine ⟨by omega, ?_⟩)); refine hK2 _ ?_; clear hK2 K2)
    refine sxf_nil (hK' _ ?_)
    refine AW.st (by simp [dErr]; rfl) ?_
    clear hK' K'
    refine AW_cond true rfl (fun _ => ?_) (fun h => by cases h)
    refine AW_rg (tyOf_good _) [2, 3] [1, 2] (fun _ _ => trivial) fun K' hK' => ?_
    repeat (refine sxf_next fun K2 hK2 => ?_; simp [dErr]; (repeat (refine ⟨by omega, ?_⟩)); refine hK2 _ ?_; clear hK2 K2)
    refine sxf_nil (hK' _ ?_)
    refine AW.st (by simp [dErr]; rfl) ?_
    clear hK' K'
    refine AW_ret ?_
    simp [D.le, D.le.go, takeMap, dErr, dTab, dRows]
  · refine AW_rg (tyOf_good _) [1, 2, 4, 5, 18] [1, 2] (fun _ _ => trivial) fun K' hK' => ?_
    repeat (refine sxf_next fun K2 hK2 => ?_; simp [dErr]; (repeat (refine ⟨by omega, ?_⟩)); refine hK2 _ ?_; clear hK2 K2)
    refine sxf_nil (hK' _ ?_)
    refine AW.st (by simp [dErr]; rfl) ?_
    clear hK' K'
    refine AW_cond true rfl (fun _ => ?_) (fun h => by cases h)
    refine AW_rg (tyOf_good _) [2, 3] [1, 2] (fun _ _ => trivial) fun K' hK' => ?_
    repeat (refine sxf_next fun K2 hK2 => ?_; simp [dErr]; (repeat (refine ⟨by omega, ?_⟩)); refine hK2 _ ?_; clear hK2 K2)
    refine sxf_nil (hK' _ ?_)
    refine AW.st (by simp [dErr]; rfl) ?_
    clear hK' K'
    refine AW_ret ?_
    simp [D.le, D.le.go, takeMap, dErr, dTab, dRows]

def pre (l row : List Int) (i : Nat) : List Int := (row.take i).map fun x => l.getD x.toNat 0
theorem pre_zero (l row : List Int) : pre l row 0 = [] := by simp [pre]
theorem pre_succ (l : List Int) {row : List Int} {i : Nat} (h : i < row.length) : pre l row (i + 1) = pre l row i ++ [l.getD row[i].toNat 0] := by
  unfold pre
  rw [List.take_succ_eq_append_getElem h, List.map_append]
  rfl
theorem pre_all (l row : List Int) : pre l row row.length = row.map fun x => l.getD x.toNat 0 := by simp [pre]
theorem pre_len (l : List Int) {row : List Int} {i : Nat} (h : i ≤ row.length) : (pre l row i).length = i := by simp [pre]; omega

set_option maxHeartbeats 2000000 in
theorem least_good (G : Glob) (t : Tab) (ok : Ok t) (k : Nat) (hk : k < 2^20) (hs : Stops t k) : PureC Tryd.prog G 18 [dTab t] (.tup [dTab (leastF t (iter t k)), .v .nilIface]) := by
  have hblocks := blocks_good G t ok k hk hs
  have hlen : (iter t k).length = t.next.length := iter_len t k
  have is := least_is ok hs.1
  generalize iter t k = l at hblocks hlen is
  have hmost : t.next.length ≤ 500 := ok.most
  refine PureC.of_body (tyOf_good _) Tryd.func18 rfl rfl (rs := [.cell 2 25, .tmp 3]) Tryd.results18 (by simp [Tryd.ntmps18]) fun X => ?_
  simp only [Tryd.ntmps18, List.map]
  refine AW_rg (tyOf_good _) [1, 2] [1, 2] (fun _ _ => trivial) fun K' hK' => ?_
  repeat (refine sxf_next fun K2 hK2 => ?_; simp [dTab]; (repeat (refine ⟨by omega, ?_⟩)); refine hK2 _ ?_; clear hK2 K2)
  refine sxf_nil (hK' _ ?_)
  refine AW.st (by simp [dTab]; rfl) ?_
  clear hK' K'
  refine AW_rg (tyOf_good _) [1, 2, 4, 5] [1, 2] (fun _ _ => trivial) fun K' hK' => ?_
  repeat (refine sxf_next fun K2 hK2 => ?_; simp; (repeat (refine ⟨by omega, ?_⟩)); refine hK2 _ ?_; clear hK2 K2)
  refine sxf_next fun K2 hK2 => ?_
  simp
  refine callK.data (hblocks) (by simp; rfl) (by first | exact D.leGo_refl _ | simp [takeMap, List.map_map, Function.comp_def, D.le, D.le.go, D.le_refl, D.leGo_refl]) ?_
  refine hK2 _ ?_
  clear hK2 K2
  simp only [putd, upd_lst]
  repeat (refine sxf_next fun K2 hK2 => ?_; simp; (repeat (refine ⟨by omega, ?_⟩)); refine hK2 _ ?_; clear hK2 K2)
  refine sxf_nil (hK' _ ?_)
  refine AW.st (by simp; rfl) ?_
  clear hK' K'
  refine AW_then fun K1 hK1 => ?_
  refine AW_rg (tyOf_good _) [1, 2, 4, 5, 18] [1, 2] (fun _ _ => trivial) fun K' hK' => ?_
  repeat (refine sxf_next fun K2 hK2 => ?_; simp; (repeat (refine ⟨by omega, ?_⟩)); refine hK2 _ ?_; clear hK2 K2)
  refine sxf_nil (hK' _ ?_)
  refine AW.st (by simp; rfl) ?_
  clear hK' K'
  refine AW_cond false rfl (fun h => by cases h) (fun _ => ?_)
  refine AW_skip (hK1 _ ?_)
  refine AW_rg (tyOf_good _) [1, 2, 4, 6] [1, 2, 6] (fun _ _ => trivial) fun K' hK' => ?_
  repeat (refine sxf_next fun K2 hK2 => ?_; simp; (repeat (refine ⟨by omega, ?_⟩)); refine hK2 _ ?_; clear hK2 K2)
  refine sxf_nil (hK' _ ?_)
  refine AW.st (by simp; rfl) ?_
  clear hK' K'
  refine AW_then fun K2 hK2 => ?_
  refine AW_rg (tyOf_good _) [1, 2, 4, 6, 21, 22, 23] [1, 2, 6] (fun _ _ => trivial) fun K' hK' => ?_
  repeat (refine sxf_next fun K2 hK2 => ?_; simp [dRow, dInts]; (repeat (refine ⟨by omega, ?_⟩)); refine hK2 _ ?_; clear hK2 K2)
  refine sxf_nil (hK' _ ?_)
  refine AW.st (by simp [dRow, dInts]; rfl) ?_
  clear hK' K'
  refine AW_for (S := Nat) (fun n => n ≤ t.next.length) (fun n => ⟨lst [(1, .ref 1 0 0), (2, .ref 2 0 0), (4, .d (dRow l)), (6, .ref 6 0 0), (21, .d (dRow l)), (22, int t.next.length), (23, int n)],
    hlst [(1, boxT t), (2, .box 25 [.d (.sl (some false) []), .d (.sl (some false) [])]), (6, .box 25 [.own 55 0 (leastSt t l n).1.length, .own 65 0 (leastSt t l n).1.length]), (55, rowR (leastSt t l n).1), (65, rowR (leastSt t l n).2)]⟩) (fun n => t.next.length - n) 0 ?_ (by simp) ?_
  · refine (Imp.adoptCell 6 0 55 32 1 rfl rfl rfl).trans ((Imp.adoptCell 6 1 65 32 1 rfl rfl rfl).trans ?_)
    refine Imp.to' (fun _ _ => trivial) (by simp [boxT, rowR, dRow, dInts, dRows, leastSt, hlen]) (by simp [boxT, rowR, dRow, dInts, dRows, leastSt, hlen])
  · intro n hn
    obtain ⟨hN, hT⟩ := leastSt_len t l n
    have hnext := leastSt_succ t l n
    generalize hst : leastSt t l n = st at hN hT hnext
    obtain ⟨Ns, Ts⟩ := st
    dsimp only at hN hT hnext
    have htT : ∀ f : List Int → List D, List.take Ns.length (List.map f Ts) = List.map f Ts := fun f => List.take_of_length_le (by simp [hT])
    refine AW_rg (tyOf_good _) [1, 2, 4, 6, 21, 22, 23, 24] [1, 2, 6, 55, 65] (fun _ _ => trivial) fun K' hK' => ?_
    repeat (refine sxf_next fun K2 hK2 => ?_; simp [rowR, boxT]; (repeat (refine ⟨by omega, ?_⟩)); refine hK2 _ ?_; clear hK2 K2)
    refine sxf_nil (hK' _ ?_)
    refine AW.st (by simp [rowR, boxT]; rfl) ?_
    clear hK' K'
    refine AW_then fun K3 hK3 => ?_
    refine AW_cond' (b := n < t.next.length) (by simp [D.le, D.le.go, takeMap]) (fun hc => ?_) (fun hc => ?_)
    · refine AW_skip (hK3 _ ?_)
      have hnl : n < l.length := by omega
      have hnt : n < t.n := hc
      have hgn : t.next.getD n [] = t.next[n] := by rw [List.getD_eq_getElem?_getD, List.getElem?_eq_getElem hc]; rfl
      have hln : l.getD n 0 = l[n] := by simp [hnl]
      have htl : n < t.tells.length := by have := ok.tells; unfold Tab.n at hnt this; omega
      have hgt : t.tells.getD n [] = t.tells[n] := by simp [htl]
      refine AW_then fun K4 hK4 => ?_
      refine AW_block ?_
      refine AW_rg (tyOf_good _) [1, 2, 4, 6, 7, 8, 21, 22, 23] [1, 2, 6, 55, 65] (fun _ _ => trivial) fun K' hK' => ?_
      repeat (refine sxf_next fun K2 hK2 => ?_; simp [dRow, dInts, hnl]; (repeat (refine ⟨by omega, ?_⟩)); refine hK2 _ ?_; clear hK2 K2)
      refine sxf_nil (hK' _ ?_)
      refine AW.st (by simp [dRow, dInts, hnl]; rfl) ?_
      clear hK' K'
      refine AW_then fun K5 hK5 => ?_
      refine AW_rg (tyOf_good _) [1, 2, 4, 6, 7, 21, 22, 23, 32] [1, 2, 6, 55, 65] (fun _ _ => trivial) fun K' hK' => ?_
      repeat (refine sxf_next fun K2 hK2 => ?_; simp [rowR, boxT]; (repeat (refine ⟨by omega, ?_⟩)); refine hK2 _ ?_; clear hK2 K2)
      refine sxf_nil (hK' _ ?_)
      refine AW.st (by simp [rowR, boxT]; rfl) ?_
      clear hK' K'
      unfold leastStep at hnext
      dsimp only at hnext
      rw [hln, hgn, hgt] at hnext
      refine AW_cond' (b := l[n] < (Ns.length : Int)) (by simp [D.le, D.le.go, takeMap]) (fun hc => ?_) (fun hc => ?_)
      · rw [if_pos hc] at hnext
        refine AW_exit (hK4 _ ?_)
        refine AW_re (tyOf_good _) fun K' hK' => ?_
        repeat (refine sxf_next fun K2 hK2 => ?_; simp; (repeat (refine ⟨by omega, ?_⟩)); refine hK2 _ ?_; clear hK2 K2)
        refine sxf_nil (hK' _ ?_)
        clear hK' K'
        try simp only [thn, inb]
        refine Again.mk (n + 1) (by omega) (by omega) ?_
        refine Imp.to' (fun _ _ => trivial) (by simp [boxT, rowR, dRow, dInts, hnext]) (by simp [boxT, rowR, dRow, dInts, hnext])
      · rw [if_neg hc] at hnext
        refine AW_skip (hK5 _ ?_)
        refine AW_rg (tyOf_good _) [1, 2, 4, 6, 7, 9, 21, 22, 23] [1, 2, 6, 55, 65] (fun _ _ => trivial) fun K' hK' => ?_
        repeat (refine sxf_next fun K2 hK2 => ?_; simp; (repeat (refine ⟨by omega, ?_⟩)); refine hK2 _ ?_; clear hK2 K2)
        refine sxf_nil (hK' _ ?_)
        refine AW.st (by simp; rfl) ?_
        clear hK' K'
        refine AW_then fun K6 hK6 => ?_
        rename_i hcn
        refine AW_rg (tyOf_good _) [1, 2, 4, 6, 7, 9, 21, 22, 23, 37, 38, 39] [1, 2, 6, 55, 65] (fun _ _ => trivial) fun K' hK' => ?_
        repeat (refine sxf_next fun K2 hK2 => ?_; simp [boxT, dRows, dRow, dInts, hcn]; (repeat (refine ⟨by omega, ?_⟩)); refine hK2 _ ?_; clear hK2 K2)
        refine sxf_nil (hK' _ ?_)
        refine AW.st (by simp [boxT, dRows, dRow, dInts, hcn]; rfl) ?_
        clear hK' K'
        have hw := ok.nextLen n hnt
        have hw2 := ok.tellsLen n hnt
        have hin := ok.ins
        have hth := ok.there n hnt
        rw [hgn] at hw hth
        rw [hgt] at hw2
        generalize hr : t.next[n] = row at hw hth hnext
        refine AW_for (S := Nat) (fun i => i ≤ row.length) (fun i => ⟨lst [(1, .ref 1 0 0), (2, .ref 2 0 0), (4, .d (dRow l)), (6, .ref 6 0 0), (7, int n), (9, .own 70 0 i), (21, .d (dRow l)), (22, int t.next.length), (23, int n), (37, .d (dRow row)), (38, int row.length), (39, int i)],
          hlst [(1, boxT t), (2, .box 25 [.d (.sl (some false) []), .d (.sl (some false) [])]), (6, .box 25 [.own 55 0 Ns.length, .own 65 0 Ns.length]), (55, rowR Ns), (65, rowR Ts), (70, rowI (pre l row i))]⟩) (fun i => row.length - i) 0 ?_ (by simp) ?_
        · refine (Imp.adopt 9 70 3 1 rfl rfl).trans ?_
          refine Imp.to' (fun _ _ => trivial) (by simp [boxT, rowR, rowI, dRow, dInts, dRows, pre_zero]) (by simp [boxT, rowR, rowI, dRow, dInts, dRows, pre_zero])
        · intro i hi
          have hpl := pre_len l hi
          refine AW_rg (tyOf_good _) [1, 2, 4, 6, 7, 9, 21, 22, 23, 37, 38, 39, 40] [1, 2, 6, 55, 65, 70] (fun _ _ => trivial) fun K' hK' => ?_
          repeat (refine sxf_next fun K2 hK2 => ?_; simp [rowI, rowR, boxT]; (repeat (refine ⟨by omega, ?_⟩)); refine hK2 _ ?_; clear hK2 K2)
          refine sxf_nil (hK' _ ?_)
          refine AW.st (by simp [rowI, rowR, boxT]; rfl) ?_
          clear hK' K'
          refine AW_then fun K7 hK7 => ?_
          refine AW_cond' (b := i < row.length) (by simp [D.le, D.le.go, takeMap]) (fun hc => ?_) (fun hc => ?_)
          · refine AW_skip (hK7 _ ?_)
            rename_i hil
            have hil : i < row.length := hc
            obtain ⟨hx0, hx1⟩ := hth row[i] (by simp)
            have hx2 : row[i] < (l.length : Int) := by rw [hlen]; exact hx1
            have hx3 : row[i].toNat < l.length := by omega
            have htk := pre_succ l hil
            have hpt : ∀ f : Int → List D, List.take i (List.map f (pre l row i)) = List.map f (pre l row i) := fun f => List.take_of_length_le (by simp [hpl])
            refine AW_then fun K8 hK8 => ?_
            refine AW_block ?_
            refine AW_rg (tyOf_good _) [1, 2, 4, 6, 7, 9, 11, 21, 22, 23, 37, 38, 39] [1, 2, 6, 55, 65, 70] (fun _ _ => trivial) fun K' hK' => ?_
            repeat (refine sxf_next fun K2 hK2 => ?_; simp [dRow, dInts, hil]; (repeat (refine ⟨by omega, ?_⟩)); refine hK2 _ ?_; clear hK2 K2)
            refine sxf_nil (hK' _ ?_)
            refine AW.st (by simp [dRow, dInts, hil]; rfl) ?_
            clear hK' K'
            refine AW_re (tyOf_good _) fun K' hK' => ?_
            repeat (refine sxf_next fun K2 hK2 => ?_; simp [dRow, dInts, hx0, hx2, hx3, takeMap]; (repeat (refine ⟨by omega, ?_⟩)); refine hK2 _ ?_; clear hK2 K2)
            refine sxf_nil (hK' _ ?_)
            clear hK' K'
            refine hK8 _ (AW.norm [1, 2, 4, 6, 7, 9, 21, 22, 23, 37, 38, 39] [1, 2, 6, 55, 65, 70] (fun _ _ => trivial) (AW.st (by simp [dRow, dInts, hx0, hx2, hx3, takeMap]; rfl) ?_))
            refine AW_re (tyOf_good _) fun K' hK' => ?_
            repeat (refine sxf_next fun K2 hK2 => ?_; simp; (repeat (refine ⟨by omega, ?_⟩)); refine hK2 _ ?_; clear hK2 K2)
            refine sxf_nil (hK' _ ?_)
            clear hK' K'
            try simp only [thn, inb]
            refine Again.mk (i + 1) (by omega) (by omega) ?_
            refine Imp.to' (fun _ _ => trivial) (by simp [boxT, rowR, rowI, dRow, dInts, dRows, dNum, htk, hil, hx3, hpt]) (by simp [boxT, rowR, rowI, dRow, dInts, dRows, dNum, htk, hil, hx3, hpt])
          · have hil : i = row.length := by omega
            subst hil
            refine AW_exit (hK6 _ ?_)
            have hpl := pre_len l (Nat.le_refl row.length)
            refine AW.imp (Imp.freeze 70 trivial) ?_
            refine AW.st (by simp [rowI, rowR, boxT, hpl]; rfl) ?_
            refine AW_rle (tyOf_good _) (by kernel_rfl) ([(4, (55, 54)), (14, (65, 64))]) ([(5, [55]), (6, [55]), (7, [55]), (8, [55]), (9, [55]), (10, [55]), (11, [55]), (15, [65])]) ([0, 1, 2, 5, 6, 7, 8, 9, 10, 11, 3, 4, 12, 13, 15, 14, 16, 17, 18]) (by kernel_rfl) fun K' hK' => ?_
            repeat (refine sxl_nextO rfl fun K2 hK2 => ?_; simp [rowI, rowR, boxT, dRow, dInts, dRows, htl, takeMap]; (repeat (refine ⟨by omega, ?_⟩)); refine hK2 _ ?_; clear hK2 K2)
            refine sxl_nextO rfl fun K2 hK2 => ?_
            simp [rowI, rowR, boxT, dRow, dInts, dRows, htl, takeMap]
            refine callD.mk (clone_spec G t.tells[n] (by omega)) (by simp; rfl) (by simp; rfl) (by first | exact D.leGo_refl _ | simp [takeMap, List.map_map, Function.comp_def, D.le, D.le.go, D.le_refl, D.leGo_refl, rowI, rowR, boxT, dRow, dInts, dRows, htl, takeMap]) (by simp) ?_
            refine hK2 _ ?_
            clear hK2 K2
            simp only [putd, upd_lst]
            repeat (refine sxl_nextO rfl fun K2 hK2 => ?_; simp [rowI, rowR, boxT, dRow, dInts, dRows, htl, takeMap]; (repeat (refine ⟨by omega, ?_⟩)); refine hK2 _ ?_; clear hK2 K2)
            refine sxl_nilO (hK' _ ?_)
            clear hK' K'
            refine hK4 _ (AW.norm [1, 2, 4, 6, 21, 22, 23] [1, 2, 6, 55, 65] (fun _ _ => trivial) (AW.st (by simp [rowI, rowR, boxT, dRow, dInts, dRows, htl, takeMap]; rfl) ?_))
            refine AW_re (tyOf_good _) fun K' hK' => ?_
            repeat (refine sxf_next fun K2 hK2 => ?_; simp; (repeat (refine ⟨by omega, ?_⟩)); refine hK2 _ ?_; clear hK2 K2)
            refine sxf_nil (hK' _ ?_)
            clear hK' K'
            try simp only [thn, inb]
            refine Again.mk (n + 1) (by omega) (by omega) ?_
            refine Imp.to' (fun _ _ => trivial) (by simp [boxT, rowR, rowI, dRow, dInts, dRows, dNum, hnext, hT, hpl, pre_all, takeMap, htT]) (by simp [boxT, rowR, rowI, dRow, dInts, dRows, dNum, hnext, hT, hpl, pre_all, takeMap, htT])
    · refine AW_exit (hK2 _ ?_)
      have hnn : n = t.next.length := by omega
      subst hnn
      have hle : leastF t l = ⟨Ns, Ts⟩ := by unfold leastF Tab.n; rw [hst]
      refine AW_rg (tyOf_good _) [2, 3] [2, 55, 65] (fun _ _ => trivial) fun K' hK' => ?_
      repeat (refine sxf_next fun K2 hK2 => ?_; simp; (repeat (refine ⟨by omega, ?_⟩)); refine hK2 _ ?_; clear hK2 K2)
      refine sxf_nil (hK' _ ?_)
      refine AW.st (by simp; rfl) ?_
      clear hK' K'
      refine AW_ret ?_
      simp [D.le, D.le.go, takeMap, dTab, dRows, rowR, hle, hT, htT]
#print axioms least_bad
#print axioms least_good
end Go.Proofs.YtoikggboakojlaaDoor

/-
  The least inputs by which two states are told apart.
-/
namespace Go.Proofs.YtoikggboakojlaaDoor
set_option linter.unusedSimpArgs false
set_option linter.unusedVariables false
open Go.Av

/-- By input i two states are told apart, where k inputs are wanted. -/
def hitF (t : Tab) (k a b i : Nat) : Bool := if k = 1 then te t a i != te t b i else (iter t (k - 1)).getD (nx t a i) 0 != (iter t (k - 1)).getD (nx t b i) 0
def partF (t : Tab) : Nat → Nat → Nat → List Int
  | 0, _, _ => []
  | k + 1, a, b => match (List.range (wd t)).find? (hitF t (k + 1) a b) with
    | some i => (i : Int) :: partF t k (nx t a i) (nx t b i)
    | none => partF t k a b

/-- Two states have unlike numbers. -/
def apartF (a b : Nat) (l : List Int) : Bool := l.getD a 0 != l.getD b 0
def rndF (t : Tab) (k : Nat) : List (List Int) := (List.range (k + 1)).map (iter t)
theorem rndF_len (t : Tab) (k : Nat) : (rndF t k).length = k + 1 := by simp [rndF]
theorem rndF_get (t : Tab) (k q : Nat) (h : q < (rndF t k).length) : (rndF t k)[q] = iter t q := by simp [rndF]
theorem rndF_mem {t : Tab} {k : Nat} {x : List Int} (h : x ∈ rndF t k) : x.length = t.n := by
  obtain ⟨m, _, rfl⟩ := List.mem_map.1 h
  exact iter_len t m

theorem find_hit {p : Nat → Bool} {n i : Nat} (hi : i < n) (h : p i = true) (hb : ∀ j, j < i → p j = false) : (List.range n).find? p = some i := by
  rw [List.find?_range_eq_some]
  exact ⟨h, List.mem_range.2 hi, fun j hj => by simp [hb j hj]⟩
theorem find_miss {p : Nat → Bool} {n : Nat} (hb : ∀ j, j < n → p j = false) : (List.range n).find? p = none := by
  rw [List.find?_eq_none]
  intro x hx
  simp [hb x (List.mem_range.1 hx)]

theorem partF_hit {t : Tab} {k a b i : Nat} (hi : i < wd t) (h : hitF t (k + 1) a b i = true) (hb : ∀ j, j < i → hitF t (k + 1) a b j = false) : partF t (k + 1) a b = (i : Int) :: partF t k (nx t a i) (nx t b i) := by
  conv => lhs; unfold partF
  rw [find_hit hi h hb]
theorem partF_miss {t : Tab} {k a b : Nat} (hb : ∀ j, j < wd t → hitF t (k + 1) a b j = false) : partF t (k + 1) a b = partF t k a b := by
  conv => lhs; unfold partF
  rw [find_miss hb]

set_option maxHeartbeats 1000000 in
theorem part_bad (G : Glob) (t : Tab) (a b : Int) (e : Int × Option Nat) (h : checkF t = some e) : PureC Tryd.prog G 25 [dTab t, dNum a, dNum b] (.tup [.sl (some false) [], dErr (some e)]) := by
  refine PureC.of_body (tyOf_good _) Tryd.func25 rfl rfl (rs := [.tmp 6, .tmp 7]) Tryd.results25 (by simp [Tryd.ntmps25]) fun X => ?_
  simp only [Tryd.ntmps25, List.map]
  refine AW_rg (tyOf_good _) [3, 4, 5] [3, 4, 5] (fun _ _ => trivial) fun K' hK' => ?_
  repeat (refine sxf_next fun K2 hK2 => ?_; simp [dTab, dNum]; (repeat (refine ⟨by omega, ?_⟩)); refine hK2 _ ?_; clear hK2 K2)
  refine sxf_nil (hK' _ ?_)
  refine AW.st (by simp [dTab, dNum]; rfl) ?_
  clear hK' K'
  refine AW_then fun K1 hK1 => ?_
  refine AW_rg (tyOf_good _) [3, 4, 5, 8] [3, 4, 5] (fun _ _ => trivial) fun K' hK' => ?_
  repeat (refine sxf_next fun K2 hK2 => ?_; simp; (repeat (refine ⟨by omega, ?_⟩)); refine hK2 _ ?_; clear hK2 K2)
  refine sxf_next fun K2 hK2 => ?_
  simp
  refine callK.data (check_spec G t) (by simp; rfl) (by first | exact D.leGo_refl _ | simp [takeMap, List.map_map, Function.comp_def, D.le, D.le.go, D.le_refl, D.leGo_refl]) ?_
  refine hK2 _ ?_
  clear hK2 K2
  simp only [putd, upd_lst]
  repeat (refine sxf_next fun K2 hK2 => ?_; simp; (repeat (refine ⟨by omega, ?_⟩)); refine hK2 _ ?_; clear hK2 K2)
  refine sxf_nil (hK' _ ?_)
  refine AW.st (by simp; rfl) ?_
  clear hK' K'
  rw [h]
  obtain ⟨c, s⟩ := e
  cases s
  · refine AW_rg (tyOf_good _) [3, 4, 5, 8, 18] [3, 4, 5] (fun _ _ => trivial) fun K' hK' => ?_
    repeat (refine sxf_next fun K2 hK2 => ?_; simp [dErr]; (repeat (refine ⟨by omega, ?_⟩)); refine hK2 _ ?_; clear hK2 K2)
    refine sxf_nil (hK' _ ?_)
    refine AW.st (by simp [dErr]; rfl) ?_
    clear hK' K'
    refine AW_cond true rfl (fun _ => ?_) (fun h => by cases h)
    refine AW_rg (tyOf_good _) [6, 7] [3, 4, 5] (fun _ _ => trivial) fun K' hK' => ?_
    repeat (refine sxf_next fun K2 hK2 => ?_; simp; (repeat (refine ⟨by omega, ?_⟩)); refine hK2 _ ?_; clear hK2 K2)
    refine sxf_nil (hK' _ ?_)
    refine AW.st (by simp; rfl) ?_
    clear hK' K'
    refine AW_ret ?_
    simp [D.le, D.le.go, takeMap, dErr]
  · refine AW_rg (tyOf_good _) [3, 4, 5, 8, 18] [3, 4, 5] (fun _ _ => trivial) fun K' hK' => ?_
    repeat (refine sxf_next fun K2 hK2 => ?_; simp [dErr]; (repeat (refine ⟨by omega, ?_⟩)); refine hK2 _ ?_; clear hK2 K2)
    refine sxf_nil (hK' _ ?_)
    refine AW.st (by simp [dErr]; rfl) ?_
    clear hK' K'
    refine AW_cond true rfl (fun _ => ?_) (fun h => by cases h)
    refine AW_rg (tyOf_good _) [6, 7] [3, 4, 5] (fun _ _ => trivial) fun K' hK' => ?_
    repeat (refine sxf_next fun K2 hK2 => ?_; simp; (repeat (refine ⟨by omega, ?_⟩)); refine hK2 _ ?_; clear hK2 K2)
    refine sxf_nil (hK' _ ?_)
    refine AW.st (by simp; rfl) ?_
    clear hK' K'
    refine AW_ret ?_
    simp [D.le, D.le.go, takeMap, dErr]

set_option maxHeartbeats 1000000 in
theorem part_range (G : Glob) (t : Tab) (a b : Int) (ok : Ok t) (h : a < 0 ∨ (t.n : Int) ≤ a ∨ b < 0 ∨ (t.n : Int) ≤ b) : PureC Tryd.prog G 25 [dTab t, dNum a, dNum b] (.tup [.sl (some false) [], dErr (some (2, none))]) := by
  have hch : checkF t = none := ok_iff.2 ok
  unfold Tab.n at h
  refine PureC.of_body (tyOf_good _) Tryd.func25 rfl rfl (rs := [.tmp 6, .tmp 7]) Tryd.results25 (by simp [Tryd.ntmps25]) fun X => ?_
  simp only [Tryd.ntmps25, List.map]
  refine AW_rg (tyOf_good _) [3, 4, 5] [3, 4, 5] (fun _ _ => trivial) fun K' hK' => ?_
  repeat (refine sxf_next fun K2 hK2 => ?_; simp [dTab, dNum]; (repeat (refine ⟨by omega, ?_⟩)); refine hK2 _ ?_; clear hK2 K2)
  refine sxf_nil (hK' _ ?_)
  refine AW.st (by simp [dTab, dNum]; rfl) ?_
  clear hK' K'
  refine AW_then fun K1 hK1 => ?_
  refine AW_rg (tyOf_good _) [3, 4, 5, 8] [3, 4, 5] (fun _ _ => trivial) fun K' hK' => ?_
  repeat (refine sxf_next fun K2 hK2 => ?_; simp; (repeat (refine ⟨by omega, ?_⟩)); refine hK2 _ ?_; clear hK2 K2)
  refine sxf_next fun K2 hK2 => ?_
  simp
  refine callK.data (check_spec G t) (by simp; rfl) (by first | exact D.leGo_refl _ | simp [takeMap, List.map_map, Function.comp_def, D.le, D.le.go, D.le_refl, D.leGo_refl]) ?_
  refine hK2 _ ?_
  clear hK2 K2
  simp only [putd, upd_lst]
  repeat (refine sxf_next fun K2 hK2 => ?_; simp; (repeat (refine ⟨by omega, ?_⟩)); refine hK2 _ ?_; clear hK2 K2)
  refine sxf_nil (hK' _ ?_)
  refine AW.st (by simp; rfl) ?_
  clear hK' K'
  rw [hch]
  refine AW_rg (tyOf_good _) [3, 4, 5, 8, 18] [3, 4, 5] (fun _ _ => trivial) fun K' hK' => ?_
  repeat (refine sxf_next fun K2 hK2 => ?_; simp [dErr]; (repeat (refine ⟨by omega, ?_⟩)); refine hK2 _ ?_; clear hK2 K2)
  refine sxf_nil (hK' _ ?_)
  refine AW.st (by simp [dErr]; rfl) ?_
  clear hK' K'
  refine AW_cond false rfl (fun h => by cases h) (fun _ => ?_)
  refine AW_skip (hK1 _ ?_)
  refine AW_then fun K2 hK2 => ?_
  by_cases h1 : a < 0
  · refine AW_rg (tyOf_good _) [3, 4, 5, 39] [3, 4, 5] (fun _ _ => trivial) fun K' hK' => ?_
    repeat (refine sxf_next fun K2 hK2 => ?_; simp [h1, dRows]; (repeat (refine ⟨by omega, ?_⟩)); refine hK2 _ ?_; clear hK2 K2)
    refine sxf_nil (hK' _ ?_)
    refine AW.st (by simp [h1, dRows]; rfl) ?_
    clear hK' K'
    refine AW_cond true rfl (fun _ => ?_) (fun h => by cases h)
    refine AW_rg (tyOf_good _) [6, 7] [3, 4, 5] (fun _ _ => trivial) fun K' hK' => ?_
    repeat (refine sxf_next fun K2 hK2 => ?_; simp; (repeat (refine ⟨by omega, ?_⟩)); refine hK2 _ ?_; clear hK2 K2)
    refine sxf_nil (hK' _ ?_)
    refine AW.st (by simp; rfl) ?_
    clear hK' K'
    refine AW_ret ?_
    simp [D.le, D.le.go, takeMap, dErr]
  by_cases h2 : (t.next.length : Int) ≤ a
  · refine AW_rg (tyOf_good _) [3, 4, 5, 39] [3, 4, 5] (fun _ _ => trivial) fun K' hK' => ?_
    repeat (refine sxf_next fun K2 hK2 => ?_; simp [h1, h2, dRows]; (repeat (refine ⟨by omega, ?_⟩)); refine hK2 _ ?_; clear hK2 K2)
    refine sxf_nil (hK' _ ?_)
    refine AW.st (by simp [h1, h2, dRows]; rfl) ?_
    clear hK' K'
    refine AW_cond true rfl (fun _ => ?_) (fun h => by cases h)
    refine AW_rg (tyOf_good _) [6, 7] [3, 4, 5] (fun _ _ => trivial) fun K' hK' => ?_
    repeat (refine sxf_next fun K2 hK2 => ?_; simp; (repeat (refine ⟨by omega, ?_⟩)); refine hK2 _ ?_; clear hK2 K2)
    refine sxf_nil (hK' _ ?_)
    refine AW.st (by simp; rfl) ?_
    clear hK' K'
    refine AW_ret ?_
    simp [D.le, D.le.go, takeMap, dErr]
  by_cases h3 : b < 0
  · refine AW_rg (tyOf_good _) [3, 4, 5, 39] [3, 4, 5] (fun _ _ => trivial) fun K' hK' => ?_
    repeat (refine sxf_next fun K2 hK2 => ?_; simp [h1, h2, h3, dRows]; (repeat (refine ⟨by omega, ?_⟩)); refine hK2 _ ?_; clear hK2 K2)
    refine sxf_nil (hK' _ ?_)
    refine AW.st (by simp [h1, h2, h3, dRows]; rfl) ?_
    clear hK' K'
    refine AW_cond true rfl (fun _ => ?_) (fun h => by cases h)
    refine AW_rg (tyOf_good _) [6, 7] [3, 4, 5] (fun _ _ => trivial) fun K' hK' => ?_
    repeat (refine sxf_next fun K2 hK2 => ?_; simp; (repeat (refine ⟨by omega, ?_⟩)); refine hK2 _ ?_; clear hK2 K2)
    refine sxf_nil (hK' _ ?_)
    refine AW.st (by simp; rfl) ?_
    clear hK' K'
    refine AW_ret ?_
    simp [D.le, D.le.go, takeMap, dErr]
  have h4 : (t.next.length : Int) ≤ b := by omega
  refine AW_rg (tyOf_good _) [3, 4, 5, 39] [3, 4, 5] (fun _ _ => trivial) fun K' hK' => ?_
  repeat (refine sxf_next fun K2 hK2 => ?_; simp [h1, h2, h3, h4, dRows]; (repeat (refine ⟨by omega, ?_⟩)); refine hK2 _ ?_; clear hK2 K2)
  refine sxf_nil (hK' _ ?_)
  refine AW.st (by simp [h1, h2, h3, h4, dRows]; rfl) ?_
  clear hK' K'
  refine AW_cond true rfl (fun _ => ?_) (fun h => by cases h)
  refine AW_rg (tyOf_good _) [6, 7] [3, 4, 5] (fun _ _ => trivial) fun K' hK' => ?_
  repeat (refine sxf_next fun K2 hK2 => ?_; simp; (repeat (refine ⟨by omega, ?_⟩)); refine hK2 _ ?_; clear hK2 K2)
  refine sxf_nil (hK' _ ?_)
  refine AW.st (by simp; rfl) ?_
  clear hK' K'
  refine AW_ret ?_
  simp [D.le, D.le.go, takeMap, dErr]
#print axioms part_bad
#print axioms part_range
end Go.Proofs.YtoikggboakojlaaDoor

/-
  The least inputs by which two states are told apart: the walk.
-/
namespace Go.Proofs.YtoikggboakojlaaDoor
set_option linter.unusedSimpArgs false
set_option linter.unusedVariables false
open Go.Av

set_option maxHeartbeats 1000000 in
theorem part_none (G : Glob) (t : Tab) (ok : Ok t) (k : Nat) (hk : k < 2^20) (hs : Stops t k) (a b : Nat) (ha : a < t.next.length) (hb : b < t.next.length)
    (hd : idx (apartF a b) (rndF t k) < 0) : PureC Tryd.prog G 25 [dTab t, dNum a, dNum b] (.tup [.sl (some false) [], dErr (some (8, none))]) := by
  have hch : checkF t = none := ok_iff.2 ok
  have hna : ¬ (a : Int) < 0 := by omega
  have hnb : ¬ (b : Int) < 0 := by omega
  have hna2 : ¬ (t.next.length : Int) ≤ a := by omega
  have hnb2 : ¬ (t.next.length : Int) ≤ b := by omega
  have hlen : ∀ x ∈ rndF t k, a < x.length ∧ b < x.length := by
    intro x hx
    have := rndF_mem hx
    unfold Tab.n at this
    omega
  have hrounds : PureC Tryd.prog G 58 [dTab t] (dRows (rndF t k)) := rounds_spec G t ok k hk hs
  have hrl := rndF_len t k
  have hrg := rndF_get t k
  have hfun : PureC Tryd.prog G 64 [dRows (rndF t k), .fn (.func 65) [.ip [dNum a], .ip [dNum b]]] (.v (.int .i64 (idx (apartF a b) (rndF t k)))) :=
    indexInts_spec G none dRow (rndF t k) 65 [.ip [dNum a], .ip [dNum b]] (apartF a b) (by omega) (fun x hx => by have h1 := part1_spec G x a b (hlen x hx).1 (hlen x hx).2; simpa [apartF, List.getD_eq_getElem?_getD, (hlen x hx).1, (hlen x hx).2] using h1)
  refine PureC.of_body (tyOf_good _) Tryd.func25 rfl rfl (rs := [.tmp 6, .tmp 7]) Tryd.results25 (by simp [Tryd.ntmps25]) fun X => ?_
  simp only [Tryd.ntmps25, List.map]
  refine AW_rg (tyOf_good _) [3, 4, 5] [3, 4, 5] (fun _ _ => trivial) fun K' hK' => ?_
  repeat (refine sxf_next fun K2 hK2 => ?_; simp [dTab, dNum]; (repeat (refine ⟨by omega, ?_⟩)); refine hK2 _ ?_; clear hK2 K2)
  refine sxf_nil (hK' _ ?_)
  refine AW.st (by simp [dTab, dNum]; rfl) ?_
  clear hK' K'
  refine AW_then fun K1 hK1 => ?_
  refine AW_rg (tyOf_good _) [3, 4, 5, 8] [3, 4, 5] (fun _ _ => trivial) fun K' hK' => ?_
  repeat (refine sxf_next fun K2 hK2 => ?_; simp; (repeat (refine ⟨by omega, ?_⟩)); refine hK2 _ ?_; clear hK2 K2)
  refine sxf_next fun K2 hK2 => ?_
  simp
  refine callK.data (check_spec G t) (by simp; rfl) (by first | exact D.leGo_refl _ | simp [takeMap, List.map_map, Function.comp_def, D.le, D.le.go, D.le_refl, D.leGo_refl]) ?_
  refine hK2 _ ?_
  clear hK2 K2
  simp only [putd, upd_lst]
  repeat (refine sxf_next fun K2 hK2 => ?_; simp; (repeat (refine ⟨by omega, ?_⟩)); refine hK2 _ ?_; clear hK2 K2)
  refine sxf_nil (hK' _ ?_)
  refine AW.st (by simp; rfl) ?_
  clear hK' K'
  rw [hch]
  refine AW_rg (tyOf_good _) [3, 4, 5, 8, 18] [3, 4, 5] (fun _ _ => trivial) fun K' hK' => ?_
  repeat (refine sxf_next fun K2 hK2 => ?_; simp [dErr]; (repeat (refine ⟨by omega, ?_⟩)); refine hK2 _ ?_; clear hK2 K2)
  refine sxf_nil (hK' _ ?_)
  refine AW.st (by simp [dErr]; rfl) ?_
  clear hK' K'
  refine AW_cond false rfl (fun h => by cases h) (fun _ => ?_)
  refine AW_skip (hK1 _ ?_)
  refine AW_then fun K2 hK2 => ?_
  refine AW_rg (tyOf_good _) [3, 4, 5, 39] [3, 4, 5] (fun _ _ => trivial) fun K' hK' => ?_
  repeat (refine sxf_next fun K2 hK2 => ?_; simp [dRows, Nat.not_le.2 ha, Nat.not_le.2 hb, hna, hnb, hna2, hnb2]; (repeat (refine ⟨by omega, ?_⟩)); refine hK2 _ ?_; clear hK2 K2)
  refine sxf_nil (hK' _ ?_)
  refine AW.st (by simp [dRows, Nat.not_le.2 ha, Nat.not_le.2 hb, hna, hnb, hna2, hnb2]; rfl) ?_
  clear hK' K'
  refine AW_cond false rfl (fun h => by cases h) (fun _ => ?_)
  refine AW_skip (hK2 _ ?_)
  refine AW_rg (tyOf_good _) [3, 4, 5, 9] [3, 4, 5] (fun _ _ => trivial) fun K' hK' => ?_
  repeat (refine sxf_next fun K2 hK2 => ?_; simp; (repeat (refine ⟨by omega, ?_⟩)); refine hK2 _ ?_; clear hK2 K2)
  refine sxf_next fun K2 hK2 => ?_
  simp
  refine callK.data (hrounds) (by simp; rfl) (by first | exact D.leGo_refl _ | simp [takeMap, List.map_map, Function.comp_def, D.le, D.le.go, D.le_refl, D.leGo_refl]) ?_
  refine hK2 _ ?_
  clear hK2 K2
  simp only [putd, upd_lst]
  repeat (refine sxf_next fun K2 hK2 => ?_; simp; (repeat (refine ⟨by omega, ?_⟩)); refine hK2 _ ?_; clear hK2 K2)
  refine sxf_nil (hK' _ ?_)
  refine AW.st (by simp; rfl) ?_
  clear hK' K'
  refine AW_rg (tyOf_good _) [3, 4, 5, 9, 10] [3, 4, 5] (fun _ _ => trivial) fun K' hK' => ?_
  repeat (refine sxf_next fun K2 hK2 => ?_; simp [dRows, dNum]; (repeat (refine ⟨by omega, ?_⟩)); refine hK2 _ ?_; clear hK2 K2)
  refine sxf_next fun K2 hK2 => ?_
  simp [dRows, dNum]
  refine callK.lend (hfun) (by simp; rfl) (by first | exact D.leGo_refl _ | simp [takeMap, List.map_map, Function.comp_def, D.le, D.le.go, D.le_refl, D.leGo_refl, dRows, dNum]) (by simp [D.scalar]) ?_
  refine hK2 _ ?_
  clear hK2 K2
  simp only [putd, upd_lst]
  repeat (refine sxf_next fun K2 hK2 => ?_; simp [dRows, dNum]; (repeat (refine ⟨by omega, ?_⟩)); refine hK2 _ ?_; clear hK2 K2)
  refine sxf_nil (hK' _ ?_)
  refine AW.st (by simp [dRows, dNum]; rfl) ?_
  clear hK' K'
  refine AW_then fun K3 hK3 => ?_
  refine AW_rg (tyOf_good _) [3, 4, 5, 9, 10, 47] [3, 4, 5] (fun _ _ => trivial) fun K' hK' => ?_
  repeat (refine sxf_next fun K2 hK2 => ?_; simp [hd]; (repeat (refine ⟨by omega, ?_⟩)); refine hK2 _ ?_; clear hK2 K2)
  refine sxf_nil (hK' _ ?_)
  refine AW.st (by simp [hd]; rfl) ?_
  clear hK' K'
  refine AW_cond true rfl (fun _ => ?_) (fun h => by cases h)
  refine AW_rg (tyOf_good _) [6, 7] [3, 4, 5] (fun _ _ => trivial) fun K' hK' => ?_
  repeat (refine sxf_next fun K2 hK2 => ?_; simp; (repeat (refine ⟨by omega, ?_⟩)); refine hK2 _ ?_; clear hK2 K2)
  refine sxf_nil (hK' _ ?_)
  refine AW.st (by simp; rfl) ?_
  clear hK' K'
  refine AW_ret ?_
  simp [D.le, D.le.go, takeMap, dErr]

set_option maxHeartbeats 4000000 in
theorem part_good (G : Glob) (t : Tab) (ok : Ok t) (k : Nat) (hk : k < 2^20) (hs : Stops t k) (a b : Nat) (ha : a < t.next.length) (hb : b < t.next.length) (d : Nat) (hdk : d ≤ k)
    (hd : idx (apartF a b) (rndF t k) = (d : Int)) : PureC Tryd.prog G 25 [dTab t, dNum a, dNum b] (.tup [dRow (partF t d a b), .v .nilIface]) := by
  have hch : checkF t = none := ok_iff.2 ok
  have hna : ¬ (a : Int) < 0 := by omega
  have hnb : ¬ (b : Int) < 0 := by omega
  have hna2 : ¬ (t.next.length : Int) ≤ a := by omega
  have hnb2 : ¬ (t.next.length : Int) ≤ b := by omega
  have hlen : ∀ x ∈ rndF t k, a < x.length ∧ b < x.length := by
    intro x hx
    have := rndF_mem hx
    unfold Tab.n at this
    omega
  have hrounds : PureC Tryd.prog G 58 [dTab t] (dRows (rndF t k)) := rounds_spec G t ok k hk hs
  have hrl := rndF_len t k
  have hrg := rndF_get t k
  have hfun : PureC Tryd.prog G 64 [dRows (rndF t k), .fn (.func 65) [.ip [dNum a], .ip [dNum b]]] (.v (.int .i64 (idx (apartF a b) (rndF t k)))) :=
    indexInts_spec G none dRow (rndF t k) 65 [.ip [dNum a], .ip [dNum b]] (apartF a b) (by omega) (fun x hx => by have h1 := part1_spec G x a b (hlen x hx).1 (hlen x hx).2; simpa [apartF, List.getD_eq_getElem?_getD, (hlen x hx).1, (hlen x hx).2] using h1)
  refine PureC.of_body (tyOf_good _) Tryd.func25 rfl rfl (rs := [.tmp 6, .tmp 7]) Tryd.results25 (by simp [Tryd.ntmps25]) fun X => ?_
  simp only [Tryd.ntmps25, List.map]
  refine AW_rg (tyOf_good _) [3, 4, 5] [3, 4, 5] (fun _ _ => trivial) fun K' hK' => ?_
  repeat (refine sxf_next fun K2 hK2 => ?_; simp [dTab, dNum]; (repeat (refine ⟨by omega, ?_⟩)); refine hK2 _ ?_; clear hK2 K2)
  refine sxf_nil (hK' _ ?_)
  refine AW.st (by simp [dTab, dNum]; rfl) ?_
  clear hK' K'
  refine AW_then fun K1 hK1 => ?_
  refine AW_rg (tyOf_good _) [3, 4, 5, 8] [3, 4, 5] (fun _ _ => trivial) fun K' hK' => ?_
  repeat (refine sxf_next fun K2 hK2 => ?_; simp; (repeat (refine ⟨by omega, ?_⟩)); refine hK2 _ ?_; clear hK2 K2)
  refine sxf_next fun K2 hK2 => ?_
  simp
  refine callK.data (check_spec G t) (by simp; rfl) (by first | exact D.leGo_refl _ | simp [takeMap, List.map_map, Function.comp_def, D.le, D.le.go, D.le_refl, D.leGo_refl]) ?_
  refine hK2 _ ?_
  clear hK2 K2
  simp only [putd, upd_lst]
  repeat (refine sxf_next fun K2 hK2 => ?_; simp; (repeat (refine ⟨by omega, ?_⟩)); refine hK2 _ ?_; clear hK2 K2)
  refine sxf_nil (hK' _ ?_)
  refine AW.st (by simp; rfl) ?_
  clear hK' K'
  rw [hch]
  refine AW_rg (tyOf_good _) [3, 4, 5, 8, 18] [3, 4, 5] (fun _ _ => trivial) fun K' hK' => ?_
  repeat (refine sxf_next fun K2 hK2 => ?_; simp [dErr]; (repeat (refine ⟨by omega, ?_⟩)); refine hK2 _ ?_; clear hK2 K2)
  refine sxf_nil (hK' _ ?_)
  refine AW.st (by simp [dErr]; rfl) ?_
  clear hK' K'
  refine AW_cond false rfl (fun h => by cases h) (fun _ => ?_)
  refine AW_skip (hK1 _ ?_)
  refine AW_then fun K2 hK2 => ?_
  refine AW_rg (tyOf_good _) [3, 4, 5, 39] [3, 4, 5] (fun _ _ => trivial) fun K' hK' => ?_
  repeat (refine sxf_next fun K2 hK2 => ?_; simp [dRows, Nat.not_le.2 ha, Nat.not_le.2 hb, hna, hnb, hna2, hnb2]; (repeat (refine ⟨by omega, ?_⟩)); refine hK2 _ ?_; clear hK2 K2)
  refine sxf_nil (hK' _ ?_)
  refine AW.st (by simp [dRows, Nat.not_le.2 ha, Nat.not_le.2 hb, hna, hnb, hna2, hnb2]; rfl) ?_
  clear hK' K'
  refine AW_cond false rfl (fun h => by cases h) (fun _ => ?_)
  refine AW_skip (hK2 _ ?_)
  refine AW_rg (tyOf_good _) [3, 4, 5, 9] [3, 4, 5] (fun _ _ => trivial) fun K' hK' => ?_
  repeat (refine sxf_next fun K2 hK2 => ?_; simp; (repeat (refine ⟨by omega, ?_⟩)); refine hK2 _ ?_; clear hK2 K2)
  refine sxf_next fun K2 hK2 => ?_
  simp
  refine callK.data (hrounds) (by simp; rfl) (by first | exact D.leGo_refl _ | simp [takeMap, List.map_map, Function.comp_def, D.le, D.le.go, D.le_refl, D.leGo_refl]) ?_
  refine hK2 _ ?_
  clear hK2 K2
  simp only [putd, upd_lst]
  repeat (refine sxf_next fun K2 hK2 => ?_; simp; (repeat (refine ⟨by omega, ?_⟩)); refine hK2 _ ?_; clear hK2 K2)
  refine sxf_nil (hK' _ ?_)
  refine AW.st (by simp; rfl) ?_
  clear hK' K'
  refine AW_rg (tyOf_good _) [3, 4, 5, 9, 10] [3, 4, 5] (fun _ _ => trivial) fun K' hK' => ?_
  repeat (refine sxf_next fun K2 hK2 => ?_; simp [dRows, dNum]; (repeat (refine ⟨by omega, ?_⟩)); refine hK2 _ ?_; clear hK2 K2)
  refine sxf_next fun K2 hK2 => ?_
  simp [dRows, dNum]
  refine callK.lend (hfun) (by simp; rfl) (by first | exact D.leGo_refl _ | simp [takeMap, List.map_map, Function.comp_def, D.le, D.le.go, D.le_refl, D.leGo_refl, dRows, dNum]) (by simp [D.scalar]) ?_
  refine hK2 _ ?_
  clear hK2 K2
  simp only [putd, upd_lst]
  repeat (refine sxf_next fun K2 hK2 => ?_; simp [dRows, dNum]; (repeat (refine ⟨by omega, ?_⟩)); refine hK2 _ ?_; clear hK2 K2)
  refine sxf_nil (hK' _ ?_)
  refine AW.st (by simp [dRows, dNum]; rfl) ?_
  clear hK' K'
  refine AW_then fun K3 hK3 => ?_
  rw [hd]
  refine AW_rg (tyOf_good _) [3, 4, 5, 9, 10, 47] [3, 4, 5] (fun _ _ => trivial) fun K' hK' => ?_
  repeat (refine sxf_next fun K2 hK2 => ?_; simp; (repeat (refine ⟨by omega, ?_⟩)); refine hK2 _ ?_; clear hK2 K2)
  refine sxf_nil (hK' _ ?_)
  refine AW.st (by simp; rfl) ?_
  clear hK' K'
  refine AW_cond false rfl (fun h => by cases h) (fun _ => ?_)
  refine AW_skip (hK3 _ ?_)
  refine AW_rg (tyOf_good _) [3, 4, 5, 9, 10, 11] [3, 4, 5] (fun _ _ => trivial) fun K' hK' => ?_
  repeat (refine sxf_next fun K2 hK2 => ?_; simp; (repeat (refine ⟨by omega, ?_⟩)); refine hK2 _ ?_; clear hK2 K2)
  refine sxf_nil (hK' _ ?_)
  refine AW.st (by simp; rfl) ?_
  clear hK' K'
  refine AW_then fun K4 hK4 => ?_
  refine AW_for (S := Nat × Nat × Nat × List Int) (fun s => s.1 ≤ d ∧ s.2.1 < t.next.length ∧ s.2.2.1 < t.next.length ∧ s.2.2.2 ++ partF t s.1 s.2.1 s.2.2.1 = partF t d a b ∧ s.2.2.2.length + s.1 ≤ d)
    (fun s => ⟨lst [(3, .ref 3 0 0), (4, .ref 4 0 0), (5, .ref 5 0 0), (9, .d (dRows (rndF t k))), (10, int s.1), (11, .own 80 0 s.2.2.2.length)],
      hlst [(3, boxT t), (4, .box 3 [int s.2.1]), (5, .box 3 [int s.2.2.1]), (80, rowI s.2.2.2)]⟩) (fun s => s.1) (d, a, b, []) ?_ (by simp; omega) ?_
  · refine (Imp.adopt 11 80 3 1 rfl rfl).trans ?_
    refine Imp.to' (fun _ _ => trivial) (by simp [boxT, rowI, dRows, dRow, dInts, Function.comp_def]) (by simp [boxT, rowI, dRows, dRow, dInts, Function.comp_def])
  · rintro ⟨m, a1, b1, out⟩ ⟨hm, ha1, hb1, hout, hol⟩
    dsimp only at hm ha1 hb1 hout hol ⊢
    refine AW_then fun K5 hK5 => ?_
    cases m with
    | zero =>
      refine AW_rg (tyOf_good _) [3, 4, 5, 9, 10, 11, 50] [3, 4, 5, 80] (fun _ _ => trivial) fun K' hK' => ?_
      repeat (refine sxf_next fun K2 hK2 => ?_; simp; (repeat (refine ⟨by omega, ?_⟩)); refine hK2 _ ?_; clear hK2 K2)
      refine sxf_nil (hK' _ ?_)
      refine AW.st (by simp; rfl) ?_
      clear hK' K'
      refine AW_cond false rfl (fun h => by cases h) (fun _ => ?_)
      refine AW_exit (hK4 _ ?_)
      simp only [partF, List.append_nil] at hout
      subst hout
      refine AW_rg (tyOf_good _) [6, 7] [80] (fun _ _ => trivial) fun K' hK' => ?_
      repeat (refine sxf_next fun K2 hK2 => ?_; simp; (repeat (refine ⟨by omega, ?_⟩)); refine hK2 _ ?_; clear hK2 K2)
      refine sxf_nil (hK' _ ?_)
      refine AW.st (by simp; rfl) ?_
      clear hK' K'
      refine AW_ret ?_
      simp [D.le, D.le.go, takeMap, rowI, dRow, dInts, dNum, D.le_refl]
    | succ q =>
      refine AW_rg (tyOf_good _) [3, 4, 5, 9, 10, 11, 50] [3, 4, 5, 80] (fun _ _ => trivial) fun K' hK' => ?_
      repeat (refine sxf_next fun K2 hK2 => ?_; simp; (repeat (refine ⟨by omega, ?_⟩)); refine hK2 _ ?_; clear hK2 K2)
      refine sxf_nil (hK' _ ?_)
      refine AW.st (by simp; rfl) ?_
      clear hK' K'
      refine AW_cond true rfl (fun _ => ?_) (fun h => by cases h)
      refine AW_skip (hK5 _ ?_)
      refine AW_then fun K6 hK6 => ?_
      refine AW_block ?_
      have hw64 : wd t ≤ 64 := ok.ins
      have hwa : t.next[a1].length = wd t := by have h1 := ok.nextLen a1 ha1; rw [List.getD_eq_getElem?_getD, List.getElem?_eq_getElem ha1] at h1; exact h1
      have hwb : t.next[b1].length = wd t := by have h1 := ok.nextLen b1 hb1; rw [List.getD_eq_getElem?_getD, List.getElem?_eq_getElem hb1] at h1; exact h1
      refine AW_rg (tyOf_good _) [3, 4, 5, 9, 10, 11, 58, 59] [3, 4, 5, 80] (fun _ _ => trivial) fun K' hK' => ?_
      repeat (refine sxf_next fun K2 hK2 => ?_; simp [boxT, dRows, dRow, dInts, ha1, hb1, hwa]; (repeat (refine ⟨by omega, ?_⟩)); refine hK2 _ ?_; clear hK2 K2)
      refine sxf_nil (hK' _ ?_)
      refine AW.st (by simp [boxT, dRows, dRow, dInts, ha1, hb1, hwa]; rfl) ?_
      clear hK' K'
      refine AW_for (S := Nat) (fun i => i ≤ wd t ∧ ∀ j, j < i → hitF t (q + 1) a1 b1 j = false)
        (fun i => ⟨lst [(3, .ref 3 0 0), (4, .ref 4 0 0), (5, .ref 5 0 0), (9, .d (dRows (rndF t k))), (10, int (q + 1)), (11, .own 80 0 out.length), (58, int (wd t)), (59, int i)],
          hlst [(3, boxT t), (4, .box 3 [int a1]), (5, .box 3 [int b1]), (80, rowI out)]⟩) (fun i => wd t - i) 0 ?_ (by simp) ?_
      · refine Imp.to' (fun _ _ => trivial) (by simp [boxT, rowI, dRows, dRow, dInts, Function.comp_def]) (by simp [boxT, rowI, dRows, dRow, dInts, Function.comp_def])
      · rintro i ⟨hi, hmiss⟩
        refine AW_rg (tyOf_good _) [3, 4, 5, 9, 10, 11, 58, 59, 60] [3, 4, 5, 80] (fun _ _ => trivial) fun K' hK' => ?_
        repeat (refine sxf_next fun K2 hK2 => ?_; simp [rowI, boxT]; (repeat (refine ⟨by omega, ?_⟩)); refine hK2 _ ?_; clear hK2 K2)
        refine sxf_nil (hK' _ ?_)
        refine AW.st (by simp [rowI, boxT]; rfl) ?_
        clear hK' K'
        refine AW_then fun K7 hK7 => ?_
        refine AW_cond' (b := i < wd t) (by simp [D.le, D.le.go, takeMap]) (fun hc => ?_) (fun hc => ?_)
        · have hiw : i < wd t := hc
          refine AW_skip (hK7 _ ?_)
          refine AW_then fun K8 hK8 => ?_
          refine AW_block ?_
          refine AW_rg (tyOf_good _) [3, 4, 5, 9, 10, 11, 12, 58, 59] [3, 4, 5, 80] (fun _ _ => trivial) fun K' hK' => ?_
          repeat (refine sxf_next fun K2 hK2 => ?_; simp; (repeat (refine ⟨by omega, ?_⟩)); refine hK2 _ ?_; clear hK2 K2)
          refine sxf_nil (hK' _ ?_)
          refine AW.st (by simp; rfl) ?_
          clear hK' K'
          have hia : i < t.next[a1].length := by omega
          have hib : i < t.next[b1].length := by omega
          refine AW_rd (tyOf_good _) (by kernel_rfl) [3, 4, 5, 9, 10, 11, 12, 13, 14, 58, 59] [3, 4, 5, 80] (fun _ _ => trivial) (by kernel_rfl) fun K' hK' => ?_
          repeat (refine sxd_next fun K2 hK2 => ?_; simp [dRows, dRow, dInts, ha1, hb1, hia, hib]; (repeat (refine ⟨by omega, ?_⟩)); refine hK2 _ ?_; clear hK2 K2)
          refine sxd_nil (hK' _ ?_)
          refine AW.st (by simp [dRows, dRow, dInts, ha1, hb1, hia, hib]; rfl) ?_
          clear hK' K'
          have hxa := ok.there a1 ha1
          have hxb := ok.there b1 hb1
          have htl := ok.tells
          have htla := ok.tellsLen a1 ha1
          have htlb := ok.tellsLen b1 hb1
          have hta : a1 < t.tells.length := by unfold Tab.n at htl; omega
          have htb : b1 < t.tells.length := by unfold Tab.n at htl; omega
          rw [List.getD_eq_getElem?_getD, List.getElem?_eq_getElem ha1] at hxa
          rw [List.getD_eq_getElem?_getD, List.getElem?_eq_getElem hb1] at hxb
          rw [List.getD_eq_getElem?_getD, List.getElem?_eq_getElem hta] at htla
          rw [List.getD_eq_getElem?_getD, List.getElem?_eq_getElem htb] at htlb
          dsimp only [Option.getD_some] at hxa hxb htla htlb
          have hia2 : i < t.tells[a1].length := by rw [htla]; exact hiw
          have hib2 : i < t.tells[b1].length := by rw [htlb]; exact hiw
          obtain ⟨hx0, hx1⟩ := hxa t.next[a1][i] (by simp)
          obtain ⟨hy0, hy1⟩ := hxb t.next[b1][i] (by simp)
          have hln : (iter t q).length = t.n := iter_len t q
          have hx2 : t.next[a1][i] < ((iter t q).length : Int) := by omega
          have hy2 : t.next[b1][i] < ((iter t q).length : Int) := by omega
          have hx3 : t.next[a1][i].toNat < (iter t q).length := by omega
          have hy3 : t.next[b1][i].toNat < (iter t q).length := by omega
          have hnxa : nx t a1 i = t.next[a1][i].toNat := by simp [nx, List.getD_eq_getElem?_getD, ha1, hia]
          have hnxb : nx t b1 i = t.next[b1][i].toNat := by simp [nx, List.getD_eq_getElem?_getD, hb1, hib]
          have hxz : ((t.next[a1][i].toNat : Nat) : Int) = t.next[a1][i] := by omega
          have hyz : ((t.next[b1][i].toNat : Nat) : Int) = t.next[b1][i] := by omega
          have htea : te t a1 i = t.tells[a1][i] := by simp [te, List.getD_eq_getElem?_getD, hta, hia2]
          have hteb : te t b1 i = t.tells[b1][i] := by simp [te, List.getD_eq_getElem?_getD, htb, hib2]
          have hqk : q < k + 1 := by omega
          by_cases hq0 : q = 0
          · subst hq0
            have hhit : hitF t (0 + 1) a1 b1 i = (t.tells[a1][i] != t.tells[b1][i]) := by simp [hitF, htea, hteb]
            by_cases ht : t.tells[a1][i] = t.tells[b1][i]
            · have hfal : hitF t (0 + 1) a1 b1 i = false := by rw [hhit]; simp [ht]
              refine AW_rd (tyOf_good _) (by kernel_rfl) [3, 4, 5, 9, 10, 11, 12, 13, 14, 58, 59, 121] [3, 4, 5, 80] (fun _ _ => trivial) (by kernel_rfl) fun K' hK' => ?_
              repeat (refine sxd_next fun K2 hK2 => ?_; simp [ht, dRows, dRow, dInts, hta, htb, hia2, hib2]; (repeat (refine ⟨by omega, ?_⟩)); refine hK2 _ ?_; clear hK2 K2)
              refine sxd_nil (hK' _ ?_)
              refine AW.st (by simp [ht, dRows, dRow, dInts, hta, htb, hia2, hib2]; rfl) ?_
              clear hK' K'
              refine AW_cond false rfl (fun h => by cases h) (fun _ => ?_)
              refine AW_skip (hK8 _ ?_)
              refine AW_re (tyOf_good _) fun K' hK' => ?_
              repeat (refine sxf_next fun K2 hK2 => ?_; simp; (repeat (refine ⟨by omega, ?_⟩)); refine hK2 _ ?_; clear hK2 K2)
              refine sxf_nil (hK' _ ?_)
              clear hK' K'
              try simp only [thn, inb]
              refine Again.mk (i + 1) ⟨by omega, fun j hj => ?_⟩ (by omega) ?_
              · rcases Nat.lt_or_ge j i with h | h
                · exact hmiss j h
                · rw [show j = i by omega]; exact hfal
              refine Imp.to' (fun _ _ => trivial) (by simp [boxT, rowI, dRows, dRow, dInts, Function.comp_def]) (by simp [boxT, rowI, dRows, dRow, dInts, Function.comp_def])
            · have htru : hitF t (0 + 1) a1 b1 i = true := by rw [hhit]; simp [ht]
              refine AW_rd (tyOf_good _) (by kernel_rfl) [3, 4, 5, 9, 10, 11, 12, 13, 14, 58, 59, 121] [3, 4, 5, 80] (fun _ _ => trivial) (by kernel_rfl) fun K' hK' => ?_
              repeat (refine sxd_next fun K2 hK2 => ?_; simp [ht, dRows, dRow, dInts, hta, htb, hia2, hib2]; (repeat (refine ⟨by omega, ?_⟩)); refine hK2 _ ?_; clear hK2 K2)
              refine sxd_nil (hK' _ ?_)
              refine AW.st (by simp [ht, dRows, dRow, dInts, hta, htb, hia2, hib2]; rfl) ?_
              clear hK' K'
              refine AW_cond true rfl (fun _ => ?_) (fun h => by cases h)
              refine AW_rg (tyOf_good _) [3, 4, 5, 9, 10, 11, 13, 14] [3, 4, 5, 80] (fun _ _ => trivial) fun K' hK' => ?_
              repeat (refine sxf_next fun K2 hK2 => ?_; simp [rowI]; (repeat (refine ⟨by omega, ?_⟩)); refine hK2 _ ?_; clear hK2 K2)
              refine sxf_nil (hK' _ ?_)
              refine AW.st (by simp [rowI]; rfl) ?_
              clear hK' K'
              refine AW_rg (tyOf_good _) [3, 4, 5, 9, 10, 11] [3, 4, 5, 80] (fun _ _ => trivial) fun K' hK' => ?_
              repeat (refine sxf_next fun K2 hK2 => ?_; simp [rowI]; (repeat (refine ⟨by omega, ?_⟩)); refine hK2 _ ?_; clear hK2 K2)
              refine sxf_nil (hK' _ ?_)
              refine AW.st (by simp [rowI]; rfl) ?_
              clear hK' K'
              refine AW_exit (hK6 _ ?_)
              refine AW_re (tyOf_good _) fun K' hK' => ?_
              repeat (refine sxf_next fun K2 hK2 => ?_; simp; (repeat (refine ⟨by omega, ?_⟩)); refine hK2 _ ?_; clear hK2 K2)
              refine sxf_nil (hK' _ ?_)
              clear hK' K'
              try simp only [thn, inb]
              refine Again.mk (0, nx t a1 i, nx t b1 i, out ++ [(i : Int)]) ⟨by omega, by have := ok.nx_lt ha1 hiw; exact this, by have := ok.nx_lt hb1 hiw; exact this, ?_, by simp; omega⟩ (by simp) ?_
              · have hstep : partF t (0 + 1) a1 b1 = (i : Int) :: partF t 0 (nx t a1 i) (nx t b1 i) := partF_hit hiw htru hmiss
                rw [← hout, hstep]
                simp
              refine Imp.to' (fun _ _ => trivial) (by simp [boxT, rowI, dRows, dRow, dInts, dNum, Function.comp_def, hnxa, hnxb, hxz, hyz, takeMap]) (by simp [boxT, rowI, dRows, dRow, dInts, dNum, Function.comp_def, hnxa, hnxb, hxz, hyz, takeMap])
          · have hq1 : 0 < q := by omega
            have hqe : ¬ ((q : Int) + 1 = 1) := by omega
            have hqg : (1 : Int) < (q : Int) + 1 := by omega
            have hhit : hitF t (q + 1) a1 b1 i = ((iter t q)[t.next[a1][i].toNat] != (iter t q)[t.next[b1][i].toNat]) := by simp [hitF, hq0, hnxa, hnxb, List.getD_eq_getElem?_getD, hx3, hy3]
            by_cases ht : (iter t q)[t.next[a1][i].toNat] = (iter t q)[t.next[b1][i].toNat]
            · have hfal : hitF t (q + 1) a1 b1 i = false := by rw [hhit]; simp [ht]
              refine AW_rd (tyOf_good _) (by kernel_rfl) [3, 4, 5, 9, 10, 11, 12, 13, 14, 58, 59, 121] [3, 4, 5, 80] (fun _ _ => trivial) (by kernel_rfl) fun K' hK' => ?_
              repeat (refine sxd_next fun K2 hK2 => ?_; simp [hq0, hq1, hqe, hqg, ht, dRows, dRow, dInts, hqk, hrl, hrg, hx0, hx2, hx3, hy0, hy2, hy3]; (repeat (refine ⟨by omega, ?_⟩)); refine hK2 _ ?_; clear hK2 K2)
              refine sxd_nil (hK' _ ?_)
              refine AW.st (by simp [hq0, hq1, hqe, hqg, ht, dRows, dRow, dInts, hqk, hrl, hrg, hx0, hx2, hx3, hy0, hy2, hy3]; rfl) ?_
              clear hK' K'
              refine AW_cond false rfl (fun h => by cases h) (fun _ => ?_)
              refine AW_skip (hK8 _ ?_)
              refine AW_re (tyOf_good _) fun K' hK' => ?_
              repeat (refine sxf_next fun K2 hK2 => ?_; simp; (repeat (refine ⟨by omega, ?_⟩)); refine hK2 _ ?_; clear hK2 K2)
              refine sxf_nil (hK' _ ?_)
              clear hK' K'
              try simp only [thn, inb]
              refine Again.mk (i + 1) ⟨by omega, fun j hj => ?_⟩ (by omega) ?_
              · rcases Nat.lt_or_ge j i with h | h
                · exact hmiss j h
                · rw [show j = i by omega]; exact hfal
              refine Imp.to' (fun _ _ => trivial) (by simp [boxT, rowI, dRows, dRow, dInts, Function.comp_def]) (by simp [boxT, rowI, dRows, dRow, dInts, Function.comp_def])
            · have htru : hitF t (q + 1) a1 b1 i = true := by rw [hhit]; simp [ht]
              refine AW_rd (tyOf_good _) (by kernel_rfl) [3, 4, 5, 9, 10, 11, 12, 13, 14, 58, 59, 121] [3, 4, 5, 80] (fun _ _ => trivial) (by kernel_rfl) fun K' hK' => ?_
              repeat (refine sxd_next fun K2 hK2 => ?_; simp [hq0, hq1, hqe, hqg, ht, dRows, dRow, dInts, hqk, hrl, hrg, hx0, hx2, hx3, hy0, hy2, hy3]; (repeat (refine ⟨by omega, ?_⟩)); refine hK2 _ ?_; clear hK2 K2)
              refine sxd_nil (hK' _ ?_)
              refine AW.st (by simp [hq0, hq1, hqe, hqg, ht, dRows, dRow, dInts, hqk, hrl, hrg, hx0, hx2, hx3, hy0, hy2, hy3]; rfl) ?_
              clear hK' K'
              refine AW_cond true rfl (fun _ => ?_) (fun h => by cases h)
              refine AW_rg (tyOf_good _) [3, 4, 5, 9, 10, 11, 13, 14] [3, 4, 5, 80] (fun _ _ => trivial) fun K' hK' => ?_
              repeat (refine sxf_next fun K2 hK2 => ?_; simp [rowI]; (repeat (refine ⟨by omega, ?_⟩)); refine hK2 _ ?_; clear hK2 K2)
              refine sxf_nil (hK' _ ?_)
              refine AW.st (by simp [rowI]; rfl) ?_
              clear hK' K'
              refine AW_rg (tyOf_good _) [3, 4, 5, 9, 10, 11] [3, 4, 5, 80] (fun _ _ => trivial) fun K' hK' => ?_
              repeat (refine sxf_next fun K2 hK2 => ?_; simp [rowI]; (repeat (refine ⟨by omega, ?_⟩)); refine hK2 _ ?_; clear hK2 K2)
              refine sxf_nil (hK' _ ?_)
              refine AW.st (by simp [rowI]; rfl) ?_
              clear hK' K'
              refine AW_exit (hK6 _ ?_)
              refine AW_re (tyOf_good _) fun K' hK' => ?_
              repeat (refine sxf_next fun K2 hK2 => ?_; simp; (repeat (refine ⟨by omega, ?_⟩)); refine hK2 _ ?_; clear hK2 K2)
              refine sxf_nil (hK' _ ?_)
              clear hK' K'
              try simp only [thn, inb]
              refine Again.mk (q, nx t a1 i, nx t b1 i, out ++ [(i : Int)]) ⟨by omega, by have := ok.nx_lt ha1 hiw; exact this, by have := ok.nx_lt hb1 hiw; exact this, ?_, by simp; omega⟩ (by simp) ?_
              · have hstep : partF t (q + 1) a1 b1 = (i : Int) :: partF t q (nx t a1 i) (nx t b1 i) := partF_hit hiw htru hmiss
                rw [← hout, hstep]
                simp
              refine Imp.to' (fun _ _ => trivial) (by simp [boxT, rowI, dRows, dRow, dInts, dNum, Function.comp_def, hnxa, hnxb, hxz, hyz, takeMap]) (by simp [boxT, rowI, dRows, dRow, dInts, dNum, Function.comp_def, hnxa, hnxb, hxz, hyz, takeMap])
        · have hiw : i = wd t := by omega
          subst hiw
          refine AW_exit (hK6 _ ?_)
          refine AW_re (tyOf_good _) fun K' hK' => ?_
          repeat (refine sxf_next fun K2 hK2 => ?_; simp; (repeat (refine ⟨by omega, ?_⟩)); refine hK2 _ ?_; clear hK2 K2)
          refine sxf_nil (hK' _ ?_)
          clear hK' K'
          try simp only [thn, inb]
          refine Again.mk (q, a1, b1, out) ⟨by omega, ha1, hb1, ?_, by dsimp only; omega⟩ (by simp) ?_
          · have hstep : partF t (q + 1) a1 b1 = partF t q a1 b1 := partF_miss hmiss
            rw [← hout, hstep]
          refine Imp.to' (fun _ _ => trivial) (by simp [boxT, rowI, dRows, dRow, dInts, Function.comp_def]) (by simp [boxT, rowI, dRows, dRow, dInts, Function.comp_def])
#print axioms part_none
#print axioms part_good
end Go.Proofs.YtoikggboakojlaaDoor

/-
  Plain facts of tables: what is told of inputs; the inputs that part two states.
-/
namespace Go.Proofs.YtoikggboakojlaaDoor
set_option linter.unusedSimpArgs false
set_option linter.unusedVariables false

/-- What is told of inputs. -/
def tellF (t : Tab) : Nat → List Nat → List Int
  | _, [] => []
  | s, i :: l => te t s i :: tellF t (nx t s i) l
/-- Where they lead. -/
def goF (t : Tab) : Nat → List Nat → Nat
  | s, [] => s
  | s, i :: l => goF t (nx t s i) l

theorem tellF_len (t : Tab) : ∀ (l : List Nat) (s : Nat), (tellF t s l).length = l.length
  | [], _ => rfl
  | i :: l, s => by simp [tellF, tellF_len t l]
theorem tellF_snoc (t : Tab) (i : Nat) : ∀ (l : List Nat) (s : Nat), tellF t s (l ++ [i]) = tellF t s l ++ [te t (goF t s l) i]
  | [], s => rfl
  | j :: l, s => by simp [tellF, goF, tellF_snoc t i l]
theorem goF_snoc (t : Tab) (i : Nat) : ∀ (l : List Nat) (s : Nat), goF t s (l ++ [i]) = nx t (goF t s l) i
  | [], s => rfl
  | j :: l, s => by simp [goF, goF_snoc t i l]
theorem goF_lt {t : Tab} (ok : Ok t) : ∀ (l : List Nat) (s : Nat), s < t.n → (∀ c ∈ l, c < wd t) → goF t s l < t.n
  | [], s, hs, _ => hs
  | i :: l, s, hs, h => goF_lt ok l _ (ok.nx_lt hs (h i (by simp))) fun c hc => h c (by simp [hc])

/-- States that are alike tell the same. -/
theorem tell_alike {t : Tab} (ok : Ok t) {k : Nat} (h : nextF t (iter t k) = iter t k) : ∀ (l : List Nat) (a b : Nat), a < t.n → b < t.n → Al t k a b → (∀ c ∈ l, c < wd t) → tellF t a l = tellF t b l
  | [], _, _, _, _, _, _ => rfl
  | i :: l, a, b, ha, hb, hab, hl => by
    have hi := hl i (by simp)
    obtain ⟨h1, h2⟩ := al_fix ok h ha hb hab i hi
    simp only [tellF, h1]
    rw [tell_alike ok h l _ _ (ok.nx_lt ha hi) (ok.nx_lt hb hi) h2 fun c hc => hl c (by simp [hc])]
/-- The table of blocks tells what its states do. -/
theorem tell_least {t u : Tab} (ok : Ok t) {k : Nat} (h : nextF t (iter t k) = iter t k) (hu : LeastIs t (iter t k) u) : ∀ (l : List Nat) (a q : Nat), a < t.n → q < u.n → (iter t k).getD a 0 = (q : Int) → (∀ c ∈ l, c < wd t) → tellF t a l = tellF u q l
  | [], _, _, _, _, _, _ => rfl
  | i :: l, a, q, ha, hq, he, hl => by
    have hi := hl i (by simp)
    obtain ⟨s, hs, e1, f⟩ := hu.rep q hq
    obtain ⟨h1, h2⟩ := al_fix ok h ha hs (by unfold Al; rw [he, e1]) i hi
    simp only [tellF, h1, (f i hi).1]
    have h3 := (f i hi).2
    unfold Al at h2
    rw [tell_least ok h hu l (nx t a i) (nx u q i) (ok.nx_lt ha hi) (hu.ok.nx_lt hq (by rw [hu.wide]; exact hi)) (by rw [h2, h3]) fun c hc => hl c (by simp [hc])]

theorem not_al {t : Tab} (ok : Ok t) {d a b : Nat} (ha : a < t.n) (hb : b < t.n) (h1 : Al t d a b) (h2 : ¬ Al t (d + 1) a b) : ∃ c, c < wd t ∧ hitF t (d + 1) a b c = true := by
  apply Classical.byContradiction
  intro hc
  apply h2
  refine (al_succ ok ha hb).2 ⟨h1, fun c hcw => ?_⟩
  have hno : ¬ hitF t (d + 1) a b c = true := fun e => hc ⟨c, hcw, e⟩
  unfold hitF at hno
  cases d with
  | zero =>
    simp at hno
    exact ⟨hno, al_zero (ok.nx_lt ha hcw) (ok.nx_lt hb hcw)⟩
  | succ d =>
    rw [if_neg (by omega)] at hno
    simp only [Nat.add_sub_cancel, bne_iff_ne, ne_eq, Classical.not_not] at hno
    exact ⟨(((al_succ ok ha hb).1 h1).2 c hcw).1, hno⟩

/-- The first one that fits. -/
theorem first_below {p : Nat → Bool} : ∀ {n : Nat}, (∃ c, c < n ∧ p c = true) → ∃ i, i < n ∧ p i = true ∧ ∀ j, j < i → p j = false
  | 0, ⟨c, hc, _⟩ => by omega
  | n + 1, h => by
    by_cases hx : ∃ c, c < n ∧ p c = true
    · obtain ⟨i, hi, r⟩ := first_below hx
      exact ⟨i, by omega, r⟩
    · obtain ⟨c, hc, hp⟩ := h
      have hcn : c = n := by
        apply Classical.byContradiction
        intro hne
        exact hx ⟨c, by omega, hp⟩
      subst hcn
      exact ⟨c, by omega, hp, fun j hj => by
        cases hpj : p j with
        | false => rfl
        | true => exact absurd ⟨j, hj, hpj⟩ hx⟩

/-- The inputs that are told part two states, at the last one alone. -/
theorem part_tells {t : Tab} (ok : Ok t) : ∀ (d a b : Nat), a < t.n → b < t.n → Al t d a b → ¬ Al t (d + 1) a b →
    ∃ L : List Nat, partF t (d + 1) a b = L.map (fun (c : Nat) => (c : Int)) ∧ L.length = d + 1 ∧ (∀ c ∈ L, c < wd t) ∧ ∃ pre x y, tellF t a L = pre ++ [x] ∧ tellF t b L = pre ++ [y] ∧ x ≠ y ∧ pre.length = d
  | 0, a, b, ha, hb, h1, h2 => by
    obtain ⟨i, hi, hp, hn⟩ := first_below (not_al ok ha hb h1 h2)
    refine ⟨[i], by rw [partF_hit hi hp hn]; rfl, rfl, by simpa using hi, [], te t a i, te t b i, rfl, rfl, ?_, rfl⟩
    simpa [hitF] using hp
  | d + 1, a, b, ha, hb, h1, h2 => by
    obtain ⟨i, hi, hp, hn⟩ := first_below (not_al ok ha hb h1 h2)
    have hh := ((al_succ ok ha hb).1 h1).2 i hi
    have hna : ¬ Al t (d + 1) (nx t a i) (nx t b i) := by
      unfold hitF at hp
      rw [if_neg (by omega)] at hp
      simp only [Nat.add_sub_cancel, bne_iff_ne, ne_eq] at hp
      exact hp
    obtain ⟨L, e1, e2, e3, pre, x, y, e4, e5, e6, e7⟩ := part_tells ok d _ _ (ok.nx_lt ha hi) (ok.nx_lt hb hi) hh.2 hna
    refine ⟨i :: L, by rw [partF_hit hi hp hn, e1]; rfl, by simp [e2], ?_, te t a i :: pre, x, y, by simp [tellF, e4], by simp [tellF, e5, hh.1], e6, by simp [e7]⟩
    intro c hc
    rcases List.mem_cons.1 hc with rfl | hc
    · exact hi
    · exact e3 c hc

theorem apart_iff {t : Tab} {a b m : Nat} : apartF a b (iter t m) = true ↔ ¬ Al t m a b := by simp [apartF, Al]

theorem idx_same {t : Tab} (ok : Ok t) {k a b : Nat} (ha : a < t.n) (hb : b < t.n) (h : Al t k a b) : idx (apartF a b) (rndF t k) < 0 := by
  rw [idx_miss]
  · omega
  · intro i hi
    rw [rndF_get]
    rw [rndF_len] at hi
    cases he : apartF a b (iter t i) with
    | false => rfl
    | true => exact absurd (al_down ok ha hb (k - i) (by rwa [show i + (k - i) = k by omega])) (apart_iff.1 he)
theorem idx_apart {t : Tab} {k a b : Nat} (ok : Ok t) (ha : a < t.n) (hb : b < t.n) (h : ¬ Al t k a b) : ∃ d, d + 1 ≤ k ∧ idx (apartF a b) (rndF t k) = ((d + 1 : Nat) : Int) ∧ Al t d a b ∧ ¬ Al t (d + 1) a b := by
  obtain ⟨d, hd, h1, h2⟩ := first_such (fun m => ¬ Al t m a b) k ⟨k, Nat.le_refl _, h⟩
  cases d with
  | zero => exact absurd (al_zero ha hb) h1
  | succ d =>
    refine ⟨d, hd, ?_, Classical.not_not.1 (h2 d (by omega)), h1⟩
    have hlen := rndF_len t k
    refine idx_hit (by omega) ?_ ?_
    · rw [rndF_get]
      exact apart_iff.2 h1
    · intro i hi
      rw [rndF_get]
      cases he : apartF a b (iter t i) with
      | false => rfl
      | true => exact absurd (apart_iff.1 he) (h2 i hi)
end Go.Proofs.YtoikggboakojlaaDoor

/-
  What a table tells of inputs; a number below another one.
-/
namespace Go.Proofs.YtoikggboakojlaaDoor
set_option linter.unusedSimpArgs false
set_option linter.unusedVariables false
open Go.Av

def natsI (l : List Nat) : List Int := l.map fun (c : Nat) => (c : Int)
theorem natsI_len (l : List Nat) : (natsI l).length = l.length := by simp [natsI]
theorem natsI_get (l : List Nat) (i : Nat) (h : i < (natsI l).length) : (natsI l)[i] = ((l[i]'(by rw [natsI_len] at h; exact h) : Nat) : Int) := by simp [natsI]
def dNats (l : List Nat) : D := dRow (natsI l)

theorem tell1_spec (G : Glob) (t : Tab) (hp : 0 < t.next.length) (x : Int) : PureC Tryd.prog G 66 [dNum x, .ip [dRows t.next, dRows t.tells]] (.v (.bool (x < 0 || (wd t : Int) ≤ x))) := by
  have hg : t.next.getD 0 [] = t.next[0] := by rw [List.getD_eq_getElem?_getD, List.getElem?_eq_getElem hp]; rfl
  have hw : wd t = t.next[0].length := by unfold wd; rw [hg]
  refine PureC.of_body (tyOf_good _) Tryd.func66 rfl rfl (rs := [.tmp 3]) Tryd.results66 (by simp [Tryd.ntmps66]) fun X => ?_
  simp only [Tryd.ntmps66, List.map]
  refine AW_rg (tyOf_good _) [0, 1] [] (fun _ _ => trivial) fun K' hK' => ?_
  repeat (refine sxf_next fun K2 hK2 => ?_; simp [dNum]; (repeat (refine ⟨by omega, ?_⟩)); refine hK2 _ ?_; clear hK2 K2)
  refine sxf_nil (hK' _ ?_)
  refine AW.st (by simp [dNum]; rfl) ?_
  clear hK' K'
  by_cases h : x < 0
  · refine AW_rg (tyOf_good _) [3] [] (fun _ _ => trivial) fun K' hK' => ?_
    repeat (refine sxf_next fun K2 hK2 => ?_; simp [dNum, h]; (repeat (refine ⟨by omega, ?_⟩)); refine hK2 _ ?_; clear hK2 K2)
    refine sxf_nil (hK' _ ?_)
    refine AW.st (by simp [dNum, h]; rfl) ?_
    clear hK' K'
    refine AW_ret ?_
    simp [D.le, D.le.go, takeMap]
    simp [h]
  · refine AW_rg (tyOf_good _) [3] [] (fun _ _ => trivial) fun K' hK' => ?_
    repeat (refine sxf_next fun K2 hK2 => ?_; simp [dNum, h, dRows, dRow, dInts, hp]; (repeat (refine ⟨by omega, ?_⟩)); refine hK2 _ ?_; clear hK2 K2)
    refine sxf_nil (hK' _ ?_)
    refine AW.st (by simp [dNum, h, dRows, dRow, dInts, hp]; rfl) ?_
    clear hK' K'
    refine AW_ret ?_
    simp [D.le, D.le.go, takeMap]
    simp [h, hw]

set_option maxHeartbeats 1000000 in
theorem btell_bad (G : Glob) (t : Tab) (a : Int) (l : List Int) (e : Int × Option Nat) (h : checkF t = some e) : PureC Tryd.prog G 26 [dTab t, dNum a, dRow l] (.tup [.sl (some false) [], dErr (some e)]) := by
  refine PureC.of_body (tyOf_good _) Tryd.func26 rfl rfl (rs := [.tmp 6, .tmp 7]) Tryd.results26 (by simp [Tryd.ntmps26]) fun X => ?_
  simp only [Tryd.ntmps26, List.map]
  refine AW_rg (tyOf_good _) [1, 2, 3] [3] (fun _ _ => trivial) fun K' hK' => ?_
  repeat (refine sxf_next fun K2 hK2 => ?_; simp [dTab, dNum]; (repeat (refine ⟨by omega, ?_⟩)); refine hK2 _ ?_; clear hK2 K2)
  refine sxf_nil (hK' _ ?_)
  refine AW.st (by simp [dTab, dNum]; rfl) ?_
  clear hK' K'
  refine AW_then fun K1 hK1 => ?_
  refine AW_rg (tyOf_good _) [1, 2, 3, 8] [3] (fun _ _ => trivial) fun K' hK' => ?_
  repeat (refine sxf_next fun K2 hK2 => ?_; simp; (repeat (refine ⟨by omega, ?_⟩)); refine hK2 _ ?_; clear hK2 K2)
  refine sxf_next fun K2 hK2 => ?_
  simp
  refine callK.data (check_spec G t) (by simp; rfl) (by first | exact D.leGo_refl _ | simp [takeMap, List.map_map, Function.comp_def, D.le, D.le.go, D.le_refl, D.leGo_refl]) ?_
  refine hK2 _ ?_
  clear hK2 K2
  simp only [putd, upd_lst]
  repeat (refine sxf_next fun K2 hK2 => ?_; simp; (repeat (refine ⟨by omega, ?_⟩)); refine hK2 _ ?_; clear hK2 K2)
  refine sxf_nil (hK' _ ?_)
  refine AW.st (by simp; rfl) ?_
  clear hK' K'
  rw [h]
  obtain ⟨c, s⟩ := e
  cases s
  · refine AW_rg (tyOf_good _) [1, 2, 3, 8, 15] [3] (fun _ _ => trivial) fun K' hK' => ?_
    repeat (refine sxf_next fun K2 hK2 => ?_; simp [dErr]; (repeat (refine ⟨by omega, ?_⟩)); refine hK2 _ ?_; clear hK2 K2)
    refine sxf_nil (hK' _ ?_)
    refine AW.st (by simp [dErr]; rfl) ?_
    clear hK' K'
    refine AW_cond true rfl (fun _ => ?_) (fun h => by cases h)
    refine AW_rg (tyOf_good _) [6, 7] [3] (fun _ _ => trivial) fun K' hK' => ?_
    repeat (refine sxf_next fun K2 hK2 => ?_; simp; (repeat (refine ⟨by omega, ?_⟩)); refine hK2 _ ?_; clear hK2 K2)
    refine sxf_nil (hK' _ ?_)
    refine AW.st (by simp; rfl) ?_
    clear hK' K'
    refine AW_ret ?_
    simp [D.le, D.le.go, takeMap, dErr]
  · refine AW_rg (tyOf_good _) [1, 2, 3, 8, 15] [3] (fun _ _ => trivial) fun K' hK' => ?_
    repeat (refine sxf_next fun K2 hK2 => ?_; simp [dErr]; (repeat (refine ⟨by omega, ?_⟩)); refine hK2 _ ?_; clear hK2 K2)
    refine sxf_nil (hK' _ ?_)
    refine AW.st (by simp [dErr]; rfl) ?_
    clear hK' K'
    refine AW_cond true rfl (fun _ => ?_) (fun h => by cases h)
    refine AW_rg (tyOf_good _) [6, 7] [3] (fun _ _ => trivial) fun K' hK' => ?_
    repeat (refine sxf_next fun K2 hK2 => ?_; simp; (repeat (refine ⟨by omega, ?_⟩)); refine hK2 _ ?_; clear hK2 K2)
    refine sxf_nil (hK' _ ?_)
    refine AW.st (by simp; rfl) ?_
    clear hK' K'
    refine AW_ret ?_
    simp [D.le, D.le.go, takeMap, dErr]

set_option maxHeartbeats 2000000 in
theorem btell_range (G : Glob) (t : Tab) (ok : Ok t) (a : Int) (l : List Int) (hl : l.length < 2^40) (h : a < 0 ∨ (t.next.length : Int) ≤ a ∨ l.any (fun x => x < 0 || (wd t : Int) ≤ x) = true) :
    PureC Tryd.prog G 26 [dTab t, dNum a, dRow l] (.tup [.sl (some false) [], dErr (some (2, none))]) := by
  have hch : checkF t = none := ok_iff.2 ok
  have hp : 0 < t.next.length := ok.pos
  refine PureC.of_body (tyOf_good _) Tryd.func26 rfl rfl (rs := [.tmp 6, .tmp 7]) Tryd.results26 (by simp [Tryd.ntmps26]) fun X => ?_
  simp only [Tryd.ntmps26, List.map]
  refine AW_rg (tyOf_good _) [1, 2, 3] [3] (fun _ _ => trivial) fun K' hK' => ?_
  repeat (refine sxf_next fun K2 hK2 => ?_; simp [dTab, dNum]; (repeat (refine ⟨by omega, ?_⟩)); refine hK2 _ ?_; clear hK2 K2)
  refine sxf_nil (hK' _ ?_)
  refine AW.st (by simp [dTab, dNum]; rfl) ?_
  clear hK' K'
  refine AW_then fun K1 hK1 => ?_
  refine AW_rg (tyOf_good _) [1, 2, 3, 8] [3] (fun _ _ => trivial) fun K' hK' => ?_
  repeat (refine sxf_next fun K2 hK2 => ?_; simp; (repeat (refine ⟨by omega, ?_⟩)); refine hK2 _ ?_; clear hK2 K2)
  refine sxf_next fun K2 hK2 => ?_
  simp
  refine callK.data (check_spec G t) (by simp; rfl) (by first | exact D.leGo_refl _ | simp [takeMap, List.map_map, Function.comp_def, D.le, D.le.go, D.le_refl, D.leGo_refl]) ?_
  refine hK2 _ ?_
  clear hK2 K2
  simp only [putd, upd_lst]
  repeat (refine sxf_next fun K2 hK2 => ?_; simp; (repeat (refine ⟨by omega, ?_⟩)); refine hK2 _ ?_; clear hK2 K2)
  refine sxf_nil (hK' _ ?_)
  refine AW.st (by simp; rfl) ?_
  clear hK' K'
  rw [hch]
  refine AW_rg (tyOf_good _) [1, 2, 3, 8, 15] [3] (fun _ _ => trivial) fun K' hK' => ?_
  repeat (refine sxf_next fun K2 hK2 => ?_; simp [dErr]; (repeat (refine ⟨by omega, ?_⟩)); refine hK2 _ ?_; clear hK2 K2)
  refine sxf_nil (hK' _ ?_)
  refine AW.st (by simp [dErr]; rfl) ?_
  clear hK' K'
  refine AW_cond false rfl (fun h => by cases h) (fun _ => ?_)
  refine AW_skip (hK1 _ ?_)
  refine AW_then fun K2 hK2 => ?_
  by_cases h1 : a < 0
  · refine AW_rg (tyOf_good _) [1, 2, 3, 30] [3] (fun _ _ => trivial) fun K' hK' => ?_
    repeat (refine sxf_next fun K2 hK2 => ?_; simp [h1, dRows]; (repeat (refine ⟨by omega, ?_⟩)); refine hK2 _ ?_; clear hK2 K2)
    refine sxf_nil (hK' _ ?_)
    refine AW.st (by simp [h1, dRows]; rfl) ?_
    clear hK' K'
    refine AW_cond true rfl (fun _ => ?_) (fun h => by cases h)
    refine AW_rg (tyOf_good _) [6, 7] [3] (fun _ _ => trivial) fun K' hK' => ?_
    repeat (refine sxf_next fun K2 hK2 => ?_; simp; (repeat (refine ⟨by omega, ?_⟩)); refine hK2 _ ?_; clear hK2 K2)
    refine sxf_nil (hK' _ ?_)
    refine AW.st (by simp; rfl) ?_
    clear hK' K'
    refine AW_ret ?_
    simp [D.le, D.le.go, takeMap, dErr]
  by_cases h2 : (t.next.length : Int) ≤ a
  · refine AW_rg (tyOf_good _) [1, 2, 3, 30] [3] (fun _ _ => trivial) fun K' hK' => ?_
    repeat (refine sxf_next fun K2 hK2 => ?_; simp [h1, h2, dRows]; (repeat (refine ⟨by omega, ?_⟩)); refine hK2 _ ?_; clear hK2 K2)
    refine sxf_nil (hK' _ ?_)
    refine AW.st (by simp [h1, h2, dRows]; rfl) ?_
    clear hK' K'
    refine AW_cond true rfl (fun _ => ?_) (fun h => by cases h)
    refine AW_rg (tyOf_good _) [6, 7] [3] (fun _ _ => trivial) fun K' hK' => ?_
    repeat (refine sxf_next fun K2 hK2 => ?_; simp; (repeat (refine ⟨by omega, ?_⟩)); refine hK2 _ ?_; clear hK2 K2)
    refine sxf_nil (hK' _ ?_)
    refine AW.st (by simp; rfl) ?_
    clear hK' K'
    refine AW_ret ?_
    simp [D.le, D.le.go, takeMap, dErr]
  have h3 : l.any (fun x => x < 0 || (wd t : Int) ≤ x) = true := by
    rcases h with h | h | h
    · exact absurd h h1
    · exact absurd h h2
    · exact h
  refine AW_rg (tyOf_good _) [1, 2, 3, 30] [3] (fun _ _ => trivial) fun K' hK' => ?_
  repeat (refine sxf_next fun K2 hK2 => ?_; simp [h1, h2, dRows, dRow, dInts]; (repeat (refine ⟨by omega, ?_⟩)); refine hK2 _ ?_; clear hK2 K2)
  refine sxf_next fun K2 hK2 => ?_
  simp [h1, h2, dRows, dRow, dInts]
  refine callK.lend (containsInt_spec G none dNum l 66 [.ip [dRows t.next, dRows t.tells]] (fun x => x < 0 || (wd t : Int) ≤ x) (by omega) (fun x _ => tell1_spec G t hp x)) (by simp; rfl) (by first | exact D.leGo_refl _ | simp [takeMap, List.map_map, Function.comp_def, D.le, D.le.go, D.le_refl, D.leGo_refl, h1, h2, dRows, dRow, dInts]) (by simp [D.scalar]) ?_
  refine hK2 _ ?_
  clear hK2 K2
  simp only [putd, upd_lst]
  repeat (refine sxf_next fun K2 hK2 => ?_; simp [h1, h2, dRows, dRow, dInts]; (repeat (refine ⟨by omega, ?_⟩)); refine hK2 _ ?_; clear hK2 K2)
  refine sxf_nil (hK' _ ?_)
  refine AW.st (by simp [h1, h2, dRows, dRow, dInts]; rfl) ?_
  clear hK' K'
  refine AW_cond _ rfl (fun _ => ?_) (fun h => by simp [h3] at h)
  refine AW_rg (tyOf_good _) [6, 7] [3] (fun _ _ => trivial) fun K' hK' => ?_
  repeat (refine sxf_next fun K2 hK2 => ?_; simp; (repeat (refine ⟨by omega, ?_⟩)); refine hK2 _ ?_; clear hK2 K2)
  refine sxf_nil (hK' _ ?_)
  refine AW.st (by simp; rfl) ?_
  clear hK' K'
  refine AW_ret ?_
  simp [D.le, D.le.go, takeMap, dErr]

set_option maxHeartbeats 4000000 in
theorem btell_good (G : Glob) (t : Tab) (ok : Ok t) (a : Nat) (ha : a < t.next.length) (l : List Nat) (hlen : l.length < 2^40) (hl : ∀ c ∈ l, c < wd t) :
    PureC Tryd.prog G 26 [dTab t, dNum a, dNats l] (.tup [dRow (tellF t a l), .v .nilIface]) := by
  have hch : checkF t = none := ok_iff.2 ok
  have hp : 0 < t.next.length := ok.pos
  have h1 : ¬ (a : Int) < 0 := by omega
  have h2 : ¬ (t.next.length : Int) ≤ a := by omega
  have h3 : (natsI l).any (fun x => x < 0 || (wd t : Int) ≤ x) = false := by
    rw [List.any_eq_false]
    intro x hx
    obtain ⟨c, hc, rfl⟩ := List.mem_map.1 hx
    have := hl c hc
    simp
    omega
  have hnl := natsI_len l
  have hcont : PureC Tryd.prog G 61 [.sl none ((natsI l).map fun x => [dNum x]), .fn (.func 66) [.ip [dRows t.next, dRows t.tells]]] (.v (.bool false)) := by
    have h4 := containsInt_spec G none dNum (natsI l) 66 [.ip [dRows t.next, dRows t.tells]] (fun x => x < 0 || (wd t : Int) ≤ x) (by omega) (fun x _ => tell1_spec G t hp x)
    rwa [h3] at h4
  refine PureC.of_body (tyOf_good _) Tryd.func26 rfl rfl (rs := [.tmp 6, .tmp 7]) Tryd.results26 (by simp [Tryd.ntmps26]) fun X => ?_
  simp only [Tryd.ntmps26, List.map]
  refine AW_rg (tyOf_good _) [1, 2, 3] [3] (fun _ _ => trivial) fun K' hK' => ?_
  repeat (refine sxf_next fun K2 hK2 => ?_; simp [dTab, dNum]; (repeat (refine ⟨by omega, ?_⟩)); refine hK2 _ ?_; clear hK2 K2)
  refine sxf_nil (hK' _ ?_)
  refine AW.st (by simp [dTab, dNum]; rfl) ?_
  clear hK' K'
  refine AW_then fun K1 hK1 => ?_
  refine AW_rg (tyOf_good _) [1, 2, 3, 8] [3] (fun _ _ => trivial) fun K' hK' => ?_
  repeat (refine sxf_next fun K2 hK2 => ?_; simp; (repeat (refine ⟨by omega, ?_⟩)); refine hK2 _ ?_; clear hK2 K2)
  refine sxf_next fun K2 hK2 => ?_
  simp
  refine callK.data (check_spec G t) (by simp; rfl) (by first | exact D.leGo_refl _ | simp [takeMap, List.map_map, Function.comp_def, D.le, D.le.go, D.le_refl, D.leGo_refl]) ?_
  refine hK2 _ ?_
  clear hK2 K2
  simp only [putd, upd_lst]
  repeat (refine sxf_next fun K2 hK2 => ?_; simp; (repeat (refine ⟨by omega, ?_⟩)); refine hK2 _ ?_; clear hK2 K2)
  refine sxf_nil (hK' _ ?_)
  refine AW.st (by simp; rfl) ?_
  clear hK' K'
  rw [hch]
  refine AW_rg (tyOf_good _) [1, 2, 3, 8, 15] [3] (fun _ _ => trivial) fun K' hK' => ?_
  repeat (refine sxf_next fun K2 hK2 => ?_; simp [dErr]; (repeat (refine ⟨by omega, ?_⟩)); refine hK2 _ ?_; clear hK2 K2)
  refine sxf_nil (hK' _ ?_)
  refine AW.st (by simp [dErr]; rfl) ?_
  clear hK' K'
  refine AW_cond false rfl (fun h => by cases h) (fun _ => ?_)
  refine AW_skip (hK1 _ ?_)
  refine AW_then fun K2 hK2 => ?_
  refine AW_rg (tyOf_good _) [1, 2, 3, 30] [3] (fun _ _ => trivial) fun K' hK' => ?_
  repeat (refine sxf_next fun K2 hK2 => ?_; simp [h1, h2, Nat.not_le.2 ha, dNats, dRows, dRow, dInts]; (repeat (refine ⟨by omega, ?_⟩)); refine hK2 _ ?_; clear hK2 K2)
  refine sxf_next fun K2 hK2 => ?_
  simp [h1, h2, Nat.not_le.2 ha, dNats, dRows, dRow, dInts]
  refine callK.lend (hcont) (by simp; rfl) (by first | exact D.leGo_refl _ | simp [takeMap, List.map_map, Function.comp_def, D.le, D.le.go, D.le_refl, D.leGo_refl, h1, h2, Nat.not_le.2 ha, dNats, dRows, dRow, dInts]) (by simp [D.scalar]) ?_
  refine hK2 _ ?_
  clear hK2 K2
  simp only [putd, upd_lst]
  repeat (refine sxf_next fun K2 hK2 => ?_; simp [h1, h2, Nat.not_le.2 ha, dNats, dRows, dRow, dInts]; (repeat (refine ⟨by omega, ?_⟩)); refine hK2 _ ?_; clear hK2 K2)
  refine sxf_nil (hK' _ ?_)
  refine AW.st (by simp [h1, h2, Nat.not_le.2 ha, dNats, dRows, dRow, dInts]; rfl) ?_
  clear hK' K'
  refine AW_cond false rfl (fun h => by cases h) (fun _ => ?_)
  refine AW_skip (hK2 _ ?_)
  refine AW_rg (tyOf_good _) [1, 2, 3, 9] [3] (fun _ _ => trivial) fun K' hK' => ?_
  repeat (refine sxf_next fun K2 hK2 => ?_; simp; (repeat (refine ⟨by omega, ?_⟩)); refine hK2 _ ?_; clear hK2 K2)
  refine sxf_nil (hK' _ ?_)
  refine AW.st (by simp; rfl) ?_
  clear hK' K'
  refine AW_then fun K3 hK3 => ?_
  refine AW_rg (tyOf_good _) [1, 3, 9, 32, 33, 34] [3] (fun _ _ => trivial) fun K' hK' => ?_
  repeat (refine sxf_next fun K2 hK2 => ?_; simp [dNats, dRow, dInts, hnl]; (repeat (refine ⟨by omega, ?_⟩)); refine hK2 _ ?_; clear hK2 K2)
  refine sxf_nil (hK' _ ?_)
  refine AW.st (by simp [dNats, dRow, dInts, hnl]; rfl) ?_
  clear hK' K'
  refine AW_for (S := Nat) (fun i => i ≤ l.length) (fun i => ⟨lst [(1, int (goF t a (l.take i))), (3, .ref 3 0 0), (9, .own 90 0 i), (32, .d (dNats l)), (33, int l.length), (34, int i)],
    hlst [(3, boxT t), (90, rowI (tellF t a (l.take i)))]⟩) (fun i => l.length - i) 0 ?_ (by simp) ?_
  · refine (Imp.adopt 9 90 3 1 rfl rfl).trans ?_
    refine Imp.to' (fun _ _ => trivial) (by simp [boxT, rowI, dRows, dRow, dInts, dNats, tellF, goF, Function.comp_def]) (by simp [boxT, rowI, dRows, dRow, dInts, dNats, tellF, goF, Function.comp_def])
  · intro i hi
    have htl : (tellF t a (l.take i)).length = i := by rw [tellF_len]; simp; omega
    refine AW_rg (tyOf_good _) [1, 3, 9, 32, 33, 34, 35] [3, 90] (fun _ _ => trivial) fun K' hK' => ?_
    repeat (refine sxf_next fun K2 hK2 => ?_; simp [boxT, rowI]; (repeat (refine ⟨by omega, ?_⟩)); refine hK2 _ ?_; clear hK2 K2)
    refine sxf_nil (hK' _ ?_)
    refine AW.st (by simp [boxT, rowI]; rfl) ?_
    clear hK' K'
    refine AW_then fun K4 hK4 => ?_
    refine AW_cond' (b := i < l.length) (by simp [D.le, D.le.go, takeMap]) (fun hc => ?_) (fun hc => ?_)
    · have hil : i < l.length := hc
      have hni : i < (natsI l).length := by omega
      have hng := natsI_get l i hni
      refine AW_skip (hK4 _ ?_)
      refine AW_then fun K5 hK5 => ?_
      refine AW_block ?_
      have hci : l[i] < wd t := hl _ (by simp)
      have hs : goF t a (l.take i) < t.next.length := goF_lt ok _ _ ha fun c hc => hl c (List.mem_of_mem_take hc)
      have htk : l.take (i + 1) = l.take i ++ [l[i]] := List.take_succ_eq_append_getElem hil
      have e1 : tellF t a (l.take (i + 1)) = tellF t a (l.take i) ++ [te t (goF t a (l.take i)) l[i]] := by rw [htk, tellF_snoc]
      have e2 : goF t a (l.take (i + 1)) = nx t (goF t a (l.take i)) l[i] := by rw [htk, goF_snoc]
      generalize goF t a (l.take i) = s at hs e1 e2
      generalize tellF t a (l.take i) = out at htl e1
      have hn1 := ok.nextLen s hs
      have hn2 := ok.tellsLen s hs
      have hth := ok.there s hs
      have hst : s < t.tells.length := by have := ok.tells; unfold Tab.n at this; omega
      rw [List.getD_eq_getElem?_getD, List.getElem?_eq_getElem hs, Option.getD_some] at hn1 hth
      rw [List.getD_eq_getElem?_getD, List.getElem?_eq_getElem hst, Option.getD_some] at hn2
      have hc1 : l[i] < t.next[s].length := by rw [hn1]; exact hci
      have hc2 : l[i] < t.tells[s].length := by rw [hn2]; exact hci
      have e3 : te t s l[i] = t.tells[s][l[i]] := by simp [te, List.getD_eq_getElem?_getD, hst, hc2]
      have e4 : nx t s l[i] = t.next[s][l[i]].toNat := by simp [nx, List.getD_eq_getElem?_getD, hs, hc1]
      have e5 := (hth t.next[s][l[i]] (by simp)).1
      have e6 : ((t.next[s][l[i]].toNat : Nat) : Int) = t.next[s][l[i]] := by omega
      refine AW_rg (tyOf_good _) [1, 3, 9, 11, 32, 33, 34] [3, 90] (fun _ _ => trivial) fun K' hK' => ?_
      repeat (refine sxf_next fun K2 hK2 => ?_; simp [dNats, dRow, dInts, hni, hng]; (repeat (refine ⟨by omega, ?_⟩)); refine hK2 _ ?_; clear hK2 K2)
      refine sxf_nil (hK' _ ?_)
      refine AW.st (by simp [dNats, dRow, dInts, hni, hng]; rfl) ?_
      clear hK' K'
      refine AW_rg (tyOf_good _) [1, 3, 9, 11, 32, 33, 34] [3, 90] (fun _ _ => trivial) fun K' hK' => ?_
      repeat (refine sxf_next fun K2 hK2 => ?_; simp [dRows, dRow, dInts, hst, hc2, takeMap]; (repeat (refine ⟨by omega, ?_⟩)); refine hK2 _ ?_; clear hK2 K2)
      refine sxf_nil (hK' _ ?_)
      refine AW.st (by simp [dRows, dRow, dInts, hst, hc2, takeMap]; rfl) ?_
      clear hK' K'
      refine AW_re (tyOf_good _) fun K' hK' => ?_
      repeat (refine sxf_next fun K2 hK2 => ?_; simp [dRows, dRow, dInts, hs, hc1, takeMap]; (repeat (refine ⟨by omega, ?_⟩)); refine hK2 _ ?_; clear hK2 K2)
      refine sxf_nil (hK' _ ?_)
      clear hK' K'
      refine hK5 _ (AW.norm [1, 3, 9, 32, 33, 34] [3, 90] (fun _ _ => trivial) (AW.st (by simp [dRows, dRow, dInts, hs, hc1, takeMap]; rfl) ?_))
      refine AW_re (tyOf_good _) fun K' hK' => ?_
      repeat (refine sxf_next fun K2 hK2 => ?_; simp; (repeat (refine ⟨by omega, ?_⟩)); refine hK2 _ ?_; clear hK2 K2)
      refine sxf_nil (hK' _ ?_)
      clear hK' K'
      try simp only [thn, inb]
      refine Again.mk (i + 1) (by omega) (by omega) ?_
      have hot : ∀ f : Int → List D, List.take i (List.map f out) = List.map f out := fun f => List.take_of_length_le (by simp [htl])
      refine Imp.to' (fun _ _ => trivial) (by simp [boxT, rowI, dRows, dRow, dInts, dNats, dNum, e1, e2, e3, e4, e6, hot, htl]) (by simp [boxT, rowI, dRows, dRow, dInts, dNats, dNum, e1, e2, e3, e4, e6, hot, htl])
    · have hil : i = l.length := by omega
      subst hil
      have htake : l.take l.length = l := List.take_length
      rw [htake] at htl
      refine AW_exit (hK3 _ ?_)
      refine AW_rg (tyOf_good _) [6, 7] [90] (fun _ _ => trivial) fun K' hK' => ?_
      repeat (refine sxf_next fun K2 hK2 => ?_; simp [rowI, htake]; (repeat (refine ⟨by omega, ?_⟩)); refine hK2 _ ?_; clear hK2 K2)
      refine sxf_nil (hK' _ ?_)
      refine AW.st (by simp [rowI, htake]; rfl) ?_
      clear hK' K'
      refine AW_ret ?_
      simp [D.le, D.le.go, takeMap, dRow, dInts, dNum, htl, htake, D.le_refl]
      exact List.take_of_length_le (by simp [htl])
#print axioms tell1_spec
#print axioms btell_range
#print axioms btell_good
end Go.Proofs.YtoikggboakojlaaDoor

/-
  A number below another one.
-/
namespace Go.Proofs.YtoikggboakojlaaDoor
set_option linter.unusedSimpArgs false
set_option linter.unusedVariables false
open Go.Av

theorem wrap_u64 (n : Int) : IntKind.u64.wrap n = n % 18446744073709551616 := by
  simp [IntKind.wrap, IntKind.signed, IntKind.bits]

theorem pick_spec (G : Glob) (a : Int) (n : Nat) (hn : 0 < n) (hn2 : n < 2^62) : ∃ r, r < n ∧ PureC Tryd.prog G 36 [dNum a, dNum n] (dNum (r : Nat)) := by
  have hw : IntKind.u64.wrap (n : Int) = n := by rw [wrap_u64]; omega
  have hu : 0 ≤ IntKind.u64.wrap a := by rw [wrap_u64]; omega
  have hn0 : ¬ n = 0 := by omega
  have ht : (IntKind.u64.wrap a).tmod n = (IntKind.u64.wrap a) % n := Int.tmod_eq_emod_of_nonneg hu
  have h1 : 0 ≤ (IntKind.u64.wrap a) % (n : Int) := Int.emod_nonneg _ (by omega)
  have h2 : (IntKind.u64.wrap a) % (n : Int) < n := Int.emod_lt_of_pos _ (by omega)
  rw [← ht] at h1 h2
  obtain ⟨r, hr⟩ := Int.eq_ofNat_of_zero_le h1
  refine ⟨r, by omega, ?_⟩
  rw [← hr]
  refine PureC.of_body (tyOf_good _) Tryd.func36 rfl rfl (rs := [.tmp 4]) Tryd.results36 (by simp [Tryd.ntmps36]) fun X => ?_
  simp only [Tryd.ntmps36, List.map]
  refine AW_rg (tyOf_good _) [0, 1] [] (fun _ _ => trivial) fun K' hK' => ?_
  repeat (refine sxf_next fun K2 hK2 => ?_; simp [dNum]; (repeat (refine ⟨by omega, ?_⟩)); refine hK2 _ ?_; clear hK2 K2)
  refine sxf_nil (hK' _ ?_)
  refine AW.st (by simp [dNum]; rfl) ?_
  clear hK' K'
  refine AW_rg (tyOf_good _) [4] [] (fun _ _ => trivial) fun K' hK' => ?_
  repeat (refine sxf_next fun K2 hK2 => ?_; simp [hw, hn0]; (repeat (refine ⟨by omega, ?_⟩)); refine hK2 _ ?_; clear hK2 K2)
  refine sxf_nil (hK' _ ?_)
  refine AW.st (by simp [hw, hn0]; rfl) ?_
  clear hK' K'
  refine AW_ret ?_
  simp [D.le, D.le.go, takeMap, dNum]
#print axioms pick_spec
end Go.Proofs.YtoikggboakojlaaDoor

/-
  Texts that may be names: the document's check; the law's walk.
-/
namespace Go.Proofs.YtoikggboakojlaaDoor
set_option linter.unusedSimpArgs false
set_option linter.unusedVariables false
open Go.Av

theorem okAll_succ {l : List UInt8} {i : Nat} (h : okAll l i = true) (hi : i < l.length) (hc : okC i l[i] = true) : okAll l (i + 1) = true := by
  unfold okAll at h ⊢
  rw [List.range_succ, List.all_append, h]
  simp only [List.all_cons, List.all_nil, Bool.and_true, Bool.true_and]
  rw [List.getD_eq_getElem?_getD, List.getElem?_eq_getElem hi]
  exact hc
theorem okAll_fail {l : List UInt8} {i : Nat} (hi : i < l.length) (hc : okC i l[i] = false) : checkNF l = false := by
  have : okAll l l.length = false := by
    unfold okAll
    rw [List.all_eq_false]
    refine ⟨i, List.mem_range.2 hi, ?_⟩
    rw [List.getD_eq_getElem?_getD, List.getElem?_eq_getElem hi]
    simp [hc]
  unfold checkNF
  rw [this]
  rfl
theorem word_fail {l : List UInt8} (h : (([] :: wordsL).any fun x => l == x) = true) : checkNF l = false := by
  unfold checkNF
  rw [h]
  simp
theorem word_pass {l : List UInt8} (h : okAll l l.length = true) (hw : (([] :: wordsL).any fun x => l == x) = false) : decide ((l.length : Int) ≤ 8) = checkNF l := by
  unfold checkNF
  rw [h, hw]
  simp only [Bool.not_false, Bool.true_and]
  by_cases h8 : l.length ≤ 8
  · simp [h8]; omega
  · simp [h8]; omega
theorem toW (l : List UInt8) : (⟨l.toArray⟩ : ByteArray) = bs l := rfl

set_option maxHeartbeats 8000000 in
theorem ncheck_spec (G : Glob) (l : List UInt8) (hl : l.length < 2^60) : PureC Tryd.prog G 15 [dS l] (.v (.bool (checkNF l))) := by
  refine PureC.of_body (tyOf_good _) Tryd.func15 rfl rfl (rs := [.tmp 2]) Tryd.results15 (by simp [Tryd.ntmps15]) fun X => ?_
  simp only [Tryd.ntmps15, List.map]
  refine AW_rg (tyOf_good _) [0] [] (fun _ _ => trivial) fun K' hK' => ?_
  repeat (refine sxf_next fun K2 hK2 => ?_; simp [dS]; (repeat (refine ⟨by omega, ?_⟩)); refine hK2 _ ?_; clear hK2 K2)
  refine sxf_nil (hK' _ ?_)
  refine AW.st (by simp [dS]; rfl) ?_
  clear hK' K'
  refine AW_then fun K1 hK1 => ?_
  refine AW_rg (tyOf_good _) [0, 7, 8] [] (fun _ _ => trivial) fun K' hK' => ?_
  repeat (refine sxf_next fun K2 hK2 => ?_; simp [bs_size]; (repeat (refine ⟨by omega, ?_⟩)); refine hK2 _ ?_; clear hK2 K2)
  refine sxf_nil (hK' _ ?_)
  refine AW.st (by simp [bs_size]; rfl) ?_
  clear hK' K'
  refine AW_for (S := Nat) (fun i => i ≤ l.length ∧ okAll l i = true) (fun i => ⟨lst [(0, .d (dS l)), (7, int l.length), (8, int i)], hlst []⟩) (fun i => l.length - i) 0 ?_ (by simp [okAll]) ?_
  · refine Imp.to' (fun _ _ => trivial) (by simp [dS]) (by simp [dS])
  · rintro i ⟨hi0, hok⟩
    refine AW_rg (tyOf_good _) [0, 7, 8, 9] [] (fun _ _ => trivial) fun K' hK' => ?_
    repeat (refine sxf_next fun K2 hK2 => ?_; simp [dS]; (repeat (refine ⟨by omega, ?_⟩)); refine hK2 _ ?_; clear hK2 K2)
    refine sxf_nil (hK' _ ?_)
    refine AW.st (by simp [dS]; rfl) ?_
    clear hK' K'
    refine AW_then fun K2 hK2 => ?_
    refine AW_cond' (b := i < l.length) (by simp [D.le, D.le.go, takeMap]) (fun hc => ?_) (fun hc => ?_)
    · have hi : i < l.length := hc
      refine AW_skip (hK2 _ ?_)
      refine AW_then fun K3 hK3 => ?_
      refine AW_block ?_
      refine AW_rg (tyOf_good _) [0, 3, 7, 8] [] (fun _ _ => trivial) fun K' hK' => ?_
      repeat (refine sxf_next fun K2 hK2 => ?_; simp; (repeat (refine ⟨by omega, ?_⟩)); refine hK2 _ ?_; clear hK2 K2)
      refine sxf_nil (hK' _ ?_)
      refine AW.st (by simp; rfl) ?_
      clear hK' K'
      refine AW_rg (tyOf_good _) [0, 3, 4, 7, 8] [] (fun _ _ => trivial) fun K' hK' => ?_
      repeat (refine sxf_next fun K2 hK2 => ?_; simp [bs_size, bs_data, hi]; (repeat (refine ⟨by omega, ?_⟩)); refine hK2 _ ?_; clear hK2 K2)
      refine sxf_nil (hK' _ ?_)
      refine AW.st (by simp [bs_size, bs_data, hi]; rfl) ?_
      clear hK' K'
      by_cases ha : (97 : Int) ≤ (l[i].toNat : Int)
      · by_cases hb : (l[i].toNat : Int) ≤ 122
        · refine AW_rg (tyOf_good _) [0, 3, 4, 5, 7, 8] [] (fun _ _ => trivial) fun K' hK' => ?_
          repeat (refine sxf_next fun K2 hK2 => ?_; simp [ha, hb]; (repeat (refine ⟨by omega, ?_⟩)); refine hK2 _ ?_; clear hK2 K2)
          refine sxf_nil (hK' _ ?_)
          refine AW.st (by simp [ha, hb]; rfl) ?_
          clear hK' K'
          refine AW_rg (tyOf_good _) [0, 7, 8, 38] [] (fun _ _ => trivial) fun K' hK' => ?_
          repeat (refine sxf_next fun K2 hK2 => ?_; simp [ha, hb]; (repeat (refine ⟨by omega, ?_⟩)); refine hK2 _ ?_; clear hK2 K2)
          refine sxf_nil (hK' _ ?_)
          refine AW.st (by simp [ha, hb]; rfl) ?_
          clear hK' K'
          refine AW_cond false rfl (fun h => by cases h) (fun _ => ?_)
          refine AW_skip (hK3 _ ?_)
          refine AW_re (tyOf_good _) fun K' hK' => ?_
          repeat (refine sxf_next fun K2 hK2 => ?_; simp; (repeat (refine ⟨by omega, ?_⟩)); refine hK2 _ ?_; clear hK2 K2)
          refine sxf_nil (hK' _ ?_)
          clear hK' K'
          try simp only [thn, inb]
          refine Again.mk (i + 1) ⟨by omega, okAll_succ hok hi (by simp only [okC, lowC, restC, Bool.or_eq_true, Bool.and_eq_true, decide_eq_true_eq]; omega)⟩ (by omega) ?_
          refine Imp.to' (fun _ _ => trivial) (by simp [dS]) (by simp [dS])
        · by_cases hz : (i : Int) = 0
          · have hz' : i = 0 := by omega
            subst hz'
            refine AW_rg (tyOf_good _) [0, 3, 4, 5, 7, 8] [] (fun _ _ => trivial) fun K' hK' => ?_
            repeat (refine sxf_next fun K2 hK2 => ?_; simp [ha, hb]; (repeat (refine ⟨by omega, ?_⟩)); refine hK2 _ ?_; clear hK2 K2)
            refine sxf_nil (hK' _ ?_)
            refine AW.st (by simp [ha, hb]; rfl) ?_
            clear hK' K'
            refine AW_rg (tyOf_good _) [0, 7, 8, 38] [] (fun _ _ => trivial) fun K' hK' => ?_
            repeat (refine sxf_next fun K2 hK2 => ?_; simp [ha, hb]; (repeat (refine ⟨by omega, ?_⟩)); refine hK2 _ ?_; clear hK2 K2)
            refine sxf_nil (hK' _ ?_)
            refine AW.st (by simp [ha, hb]; rfl) ?_
            clear hK' K'
            refine AW_cond true rfl (fun _ => ?_) (fun h => by cases h)
            refine AW_rg (tyOf_good _) [2] [] (fun _ _ => trivial) fun K' hK' => ?_
            repeat (refine sxf_next fun K2 hK2 => ?_; simp; (repeat (refine ⟨by omega, ?_⟩)); refine hK2 _ ?_; clear hK2 K2)
            refine sxf_nil (hK' _ ?_)
            refine AW.st (by simp; rfl) ?_
            clear hK' K'
            refine AW_ret ?_
            simp [D.le, D.le.go, takeMap]
            exact okAll_fail hi (by simp only [okC, lowC, restC, Bool.or_eq_false_iff, Bool.and_eq_false_iff, decide_eq_false_iff_not]; omega)
          · have hz' : ¬ i = 0 := by omega
            by_cases hd : (48 : Int) ≤ (l[i].toNat : Int)
            · by_cases he : (l[i].toNat : Int) ≤ 57
              · refine AW_rg (tyOf_good _) [0, 3, 4, 5, 7, 8] [] (fun _ _ => trivial) fun K' hK' => ?_
                repeat (refine sxf_next fun K2 hK2 => ?_; simp [ha, hb, hz, hz', hd, he]; (repeat (refine ⟨by omega, ?_⟩)); refine hK2 _ ?_; clear hK2 K2)
                refine sxf_nil (hK' _ ?_)
                refine AW.st (by simp [ha, hb, hz, hz', hd, he]; rfl) ?_
                clear hK' K'
                refine AW_rg (tyOf_good _) [0, 7, 8, 38] [] (fun _ _ => trivial) fun K' hK' => ?_
                repeat (refine sxf_next fun K2 hK2 => ?_; simp [ha, hb, hz, hz', hd, he]; (repeat (refine ⟨by omega, ?_⟩)); refine hK2 _ ?_; clear hK2 K2)
                refine sxf_nil (hK' _ ?_)
                refine AW.st (by simp [ha, hb, hz, hz', hd, he]; rfl) ?_
                clear hK' K'
                refine AW_cond false rfl (fun h => by cases h) (fun _ => ?_)
                refine AW_skip (hK3 _ ?_)
                refine AW_re (tyOf_good _) fun K' hK' => ?_
                repeat (refine sxf_next fun K2 hK2 => ?_; simp; (repeat (refine ⟨by omega, ?_⟩)); refine hK2 _ ?_; clear hK2 K2)
                refine sxf_nil (hK' _ ?_)
                clear hK' K'
                try simp only [thn, inb]
                refine Again.mk (i + 1) ⟨by omega, okAll_succ hok hi (by simp only [okC, lowC, restC, Bool.or_eq_true, Bool.and_eq_true, decide_eq_true_eq]; omega)⟩ (by omega) ?_
                refine Imp.to' (fun _ _ => trivial) (by simp [dS]) (by simp [dS])
              · by_cases hu : (l[i].toNat : Int) = 95
                · refine AW_rg (tyOf_good _) [0, 3, 4, 5, 7, 8] [] (fun _ _ => trivial) fun K' hK' => ?_
                  repeat (refine sxf_next fun K2 hK2 => ?_; simp [ha, hb, hz, hz', hd, he, hu]; (repeat (refine ⟨by omega, ?_⟩)); refine hK2 _ ?_; clear hK2 K2)
                  refine sxf_nil (hK' _ ?_)
                  refine AW.st (by simp [ha, hb, hz, hz', hd, he, hu]; rfl) ?_
                  clear hK' K'
                  refine AW_rg (tyOf_good _) [0, 7, 8, 38] [] (fun _ _ => trivial) fun K' hK' => ?_
                  repeat (refine sxf_next fun K2 hK2 => ?_; simp [ha, hb, hz, hz', hd, he, hu]; (repeat (refine ⟨by omega, ?_⟩)); refine hK2 _ ?_; clear hK2 K2)
                  refine sxf_nil (hK' _ ?_)
                  refine AW.st (by simp [ha, hb, hz, hz', hd, he, hu]; rfl) ?_
                  clear hK' K'
                  refine AW_cond false rfl (fun h => by cases h) (fun _ => ?_)
                  refine AW_skip (hK3 _ ?_)
                  refine AW_re (tyOf_good _) fun K' hK' => ?_
                  repeat (refine sxf_next fun K2 hK2 => ?_; simp; (repeat (refine ⟨by omega, ?_⟩)); refine hK2 _ ?_; clear hK2 K2)
                  refine sxf_nil (hK' _ ?_)
                  clear hK' K'
                  try simp only [thn, inb]
                  refine Again.mk (i + 1) ⟨by omega, okAll_succ hok hi (by simp only [okC, lowC, restC, Bool.or_eq_true, Bool.and_eq_true, decide_eq_true_eq]; omega)⟩ (by omega) ?_
                  refine Imp.to' (fun _ _ => trivial) (by simp [dS]) (by simp [dS])
                · refine AW_rg (tyOf_good _) [0, 3, 4, 5, 7, 8] [] (fun _ _ => trivial) fun K' hK' => ?_
                  repeat (refine sxf_next fun K2 hK2 => ?_; simp [ha, hb, hz, hz', hd, he, hu]; (repeat (refine ⟨by omega, ?_⟩)); refine hK2 _ ?_; clear hK2 K2)
                  refine sxf_nil (hK' _ ?_)
                  refine AW.st (by simp [ha, hb, hz, hz', hd, he, hu]; rfl) ?_
                  clear hK' K'
                  refine AW_rg (tyOf_good _) [0, 7, 8, 38] [] (fun _ _ => trivial) fun K' hK' => ?_
                  repeat (refine sxf_next fun K2 hK2 => ?_; simp [ha, hb, hz, hz', hd, he, hu]; (repeat (refine ⟨by omega, ?_⟩)); refine hK2 _ ?_; clear hK2 K2)
                  refine sxf_nil (hK' _ ?_)
                  refine AW.st (by simp [ha, hb, hz, hz', hd, he, hu]; rfl) ?_
                  clear hK' K'
                  refine AW_cond true rfl (fun _ => ?_) (fun h => by cases h)
                  refine AW_rg (tyOf_good _) [2] [] (fun _ _ => trivial) fun K' hK' => ?_
                  repeat (refine sxf_next fun K2 hK2 => ?_; simp; (repeat (refine ⟨by omega, ?_⟩)); refine hK2 _ ?_; clear hK2 K2)
                  refine sxf_nil (hK' _ ?_)
                  refine AW.st (by simp; rfl) ?_
                  clear hK' K'
                  refine AW_ret ?_
                  simp [D.le, D.le.go, takeMap]
                  exact okAll_fail hi (by simp only [okC, lowC, restC, Bool.or_eq_false_iff, Bool.and_eq_false_iff, decide_eq_false_iff_not]; omega)
            · have hu : ¬ (l[i].toNat : Int) = 95 := by omega
              refine AW_rg (tyOf_good _) [0, 3, 4, 5, 7, 8] [] (fun _ _ => trivial) fun K' hK' => ?_
              repeat (refine sxf_next fun K2 hK2 => ?_; simp [ha, hb, hz, hz', hd, hu]; (repeat (refine ⟨by omega, ?_⟩)); refine hK2 _ ?_; clear hK2 K2)
              refine sxf_nil (hK' _ ?_)
              refine AW.st (by simp [ha, hb, hz, hz', hd, hu]; rfl) ?_
              clear hK' K'
              refine AW_rg (tyOf_good _) [0, 7, 8, 38] [] (fun _ _ => trivial) fun K' hK' => ?_
              repeat (refine sxf_next fun K2 hK2 => ?_; simp [ha, hb, hz, hz', hd, hu]; (repeat (refine ⟨by omega, ?_⟩)); refine hK2 _ ?_; clear hK2 K2)
              refine sxf_nil (hK' _ ?_)
              refine AW.st (by simp [ha, hb, hz, hz', hd, hu]; rfl) ?_
              clear hK' K'
              refine AW_cond true rfl (fun _ => ?_) (fun h => by cases h)
              refine AW_rg (tyOf_good _) [2] [] (fun _ _ => trivial) fun K' hK' => ?_
              repeat (refine sxf_next fun K2 hK2 => ?_; simp; (repeat (refine ⟨by omega, ?_⟩)); refine hK2 _ ?_; clear hK2 K2)
              refine sxf_nil (hK' _ ?_)
              refine AW.st (by simp; rfl) ?_
              clear hK' K'
              refine AW_ret ?_
              simp [D.le, D.le.go, takeMap]
              exact okAll_fail hi (by simp only [okC, lowC, restC, Bool.or_eq_false_iff, Bool.and_eq_false_iff, decide_eq_false_iff_not]; omega)
      · by_cases hz : (i : Int) = 0
        · have hz' : i = 0 := by omega
          subst hz'
          refine AW_rg (tyOf_good _) [0, 3, 4, 5, 7, 8] [] (fun _ _ => trivial) fun K' hK' => ?_
          repeat (refine sxf_next fun K2 hK2 => ?_; simp [ha]; (repeat (refine ⟨by omega, ?_⟩)); refine hK2 _ ?_; clear hK2 K2)
          refine sxf_nil (hK' _ ?_)
          refine AW.st (by simp [ha]; rfl) ?_
          clear hK' K'
          refine AW_rg (tyOf_good _) [0, 7, 8, 38] [] (fun _ _ => trivial) fun K' hK' => ?_
          repeat (refine sxf_next fun K2 hK2 => ?_; simp [ha]; (repeat (refine ⟨by omega, ?_⟩)); refine hK2 _ ?_; clear hK2 K2)
          refine sxf_nil (hK' _ ?_)
          refine AW.st (by simp [ha]; rfl) ?_
          clear hK' K'
          refine AW_cond true rfl (fun _ => ?_) (fun h => by cases h)
          refine AW_rg (tyOf_good _) [2] [] (fun _ _ => trivial) fun K' hK' => ?_
          repeat (refine sxf_next fun K2 hK2 => ?_; simp; (repeat (refine ⟨by omega, ?_⟩)); refine hK2 _ ?_; clear hK2 K2)
          refine sxf_nil (hK' _ ?_)
          refine AW.st (by simp; rfl) ?_
          clear hK' K'
          refine AW_ret ?_
          simp [D.le, D.le.go, takeMap]
          exact okAll_fail hi (by simp only [okC, lowC, restC, Bool.or_eq_false_iff, Bool.and_eq_false_iff, decide_eq_false_iff_not]; omega)
        · have hz' : ¬ i = 0 := by omega
          by_cases hd : (48 : Int) ≤ (l[i].toNat : Int)
          · by_cases he : (l[i].toNat : Int) ≤ 57
            · refine AW_rg (tyOf_good _) [0, 3, 4, 5, 7, 8] [] (fun _ _ => trivial) fun K' hK' => ?_
              repeat (refine sxf_next fun K2 hK2 => ?_; simp [ha, hz, hz', hd, he]; (repeat (refine ⟨by omega, ?_⟩)); refine hK2 _ ?_; clear hK2 K2)
              refine sxf_nil (hK' _ ?_)
              refine AW.st (by simp [ha, hz, hz', hd, he]; rfl) ?_
              clear hK' K'
              refine AW_rg (tyOf_good _) [0, 7, 8, 38] [] (fun _ _ => trivial) fun K' hK' => ?_
              repeat (refine sxf_next fun K2 hK2 => ?_; simp [ha, hz, hz', hd, he]; (repeat (refine ⟨by omega, ?_⟩)); refine hK2 _ ?_; clear hK2 K2)
              refine sxf_nil (hK' _ ?_)
              refine AW.st (by simp [ha, hz, hz', hd, he]; rfl) ?_
              clear hK' K'
              refine AW_cond false rfl (fun h => by cases h) (fun _ => ?_)
              refine AW_skip (hK3 _ ?_)
              refine AW_re (tyOf_good _) fun K' hK' => ?_
              repeat (refine sxf_next fun K2 hK2 => ?_; simp; (repeat (refine ⟨by omega, ?_⟩)); refine hK2 _ ?_; clear hK2 K2)
              refine sxf_nil (hK' _ ?_)
              clear hK' K'
              try simp only [thn, inb]
              refine Again.mk (i + 1) ⟨by omega, okAll_succ hok hi (by simp only [okC, lowC, restC, Bool.or_eq_true, Bool.and_eq_true, decide_eq_true_eq]; omega)⟩ (by omega) ?_
              refine Imp.to' (fun _ _ => trivial) (by simp [dS]) (by simp [dS])
            · by_cases hu : (l[i].toNat : Int) = 95
              · refine AW_rg (tyOf_good _) [0, 3, 4, 5, 7, 8] [] (fun _ _ => trivial) fun K' hK' => ?_
                repeat (refine sxf_next fun K2 hK2 => ?_; simp [ha, hz, hz', hd, he, hu]; (repeat (refine ⟨by omega, ?_⟩)); refine hK2 _ ?_; clear hK2 K2)
                refine sxf_nil (hK' _ ?_)
                refine AW.st (by simp [ha, hz, hz', hd, he, hu]; rfl) ?_
                clear hK' K'
                refine AW_rg (tyOf_good _) [0, 7, 8, 38] [] (fun _ _ => trivial) fun K' hK' => ?_
                repeat (refine sxf_next fun K2 hK2 => ?_; simp [ha, hz, hz', hd, he, hu]; (repeat (refine ⟨by omega, ?_⟩)); refine hK2 _ ?_; clear hK2 K2)
                refine sxf_nil (hK' _ ?_)
                refine AW.st (by simp [ha, hz, hz', hd, he, hu]; rfl) ?_
                clear hK' K'
                refine AW_cond false rfl (fun h => by cases h) (fun _ => ?_)
                refine AW_skip (hK3 _ ?_)
                refine AW_re (tyOf_good _) fun K' hK' => ?_
                repeat (refine sxf_next fun K2 hK2 => ?_; simp; (repeat (refine ⟨by omega, ?_⟩)); refine hK2 _ ?_; clear hK2 K2)
                refine sxf_nil (hK' _ ?_)
                clear hK' K'
                try simp only [thn, inb]
                refine Again.mk (i + 1) ⟨by omega, okAll_succ hok hi (by simp only [okC, lowC, restC, Bool.or_eq_true, Bool.and_eq_true, decide_eq_true_eq]; omega)⟩ (by omega) ?_
                refine Imp.to' (fun _ _ => trivial) (by simp [dS]) (by simp [dS])
              · refine AW_rg (tyOf_good _) [0, 3, 4, 5, 7, 8] [] (fun _ _ => trivial) fun K' hK' => ?_
                repeat (refine sxf_next fun K2 hK2 => ?_; simp [ha, hz, hz', hd, he, hu]; (repeat (refine ⟨by omega, ?_⟩)); refine hK2 _ ?_; clear hK2 K2)
                refine sxf_nil (hK' _ ?_)
                refine AW.st (by simp [ha, hz, hz', hd, he, hu]; rfl) ?_
                clear hK' K'
                refine AW_rg (tyOf_good _) [0, 7, 8, 38] [] (fun _ _ => trivial) fun K' hK' => ?_
                repeat (refine sxf_next fun K2 hK2 => ?_; simp [ha, hz, hz', hd, he, hu]; (repeat (refine ⟨by omega, ?_⟩)); refine hK2 _ ?_; clear hK2 K2)
                refine sxf_nil (hK' _ ?_)
                refine AW.st (by simp [ha, hz, hz', hd, he, hu]; rfl) ?_
                clear hK' K'
                refine AW_cond true rfl (fun _ => ?_) (fun h => by cases h)
                refine AW_rg (tyOf_good _) [2] [] (fun _ _ => trivial) fun K' hK' => ?_
                repeat (refine sxf_next fun K2 hK2 => ?_; simp; (repeat (refine ⟨by omega, ?_⟩)); refine hK2 _ ?_; clear hK2 K2)
                refine sxf_nil (hK' _ ?_)
                refine AW.st (by simp; rfl) ?_
                clear hK' K'
                refine AW_ret ?_
                simp [D.le, D.le.go, takeMap]
                exact okAll_fail hi (by simp only [okC, lowC, restC, Bool.or_eq_false_iff, Bool.and_eq_false_iff, decide_eq_false_iff_not]; omega)
          · have hu : ¬ (l[i].toNat : Int) = 95 := by omega
            refine AW_rg (tyOf_good _) [0, 3, 4, 5, 7, 8] [] (fun _ _ => trivial) fun K' hK' => ?_
            repeat (refine sxf_next fun K2 hK2 => ?_; simp [ha, hz, hz', hd, hu]; (repeat (refine ⟨by omega, ?_⟩)); refine hK2 _ ?_; clear hK2 K2)
            refine sxf_nil (hK' _ ?_)
            refine AW.st (by simp [ha, hz, hz', hd, hu]; rfl) ?_
            clear hK' K'
            refine AW_rg (tyOf_good _) [0, 7, 8, 38] [] (fun _ _ => trivial) fun K' hK' => ?_
            repeat (refine sxf_next fun K2 hK2 => ?_; simp [ha, hz, hz', hd, hu]; (repeat (refine ⟨by omega, ?_⟩)); refine hK2 _ ?_; clear hK2 K2)
            refine sxf_nil (hK' _ ?_)
            refine AW.st (by simp [ha, hz, hz', hd, hu]; rfl) ?_
            clear hK' K'
            refine AW_cond true rfl (fun _ => ?_) (fun h => by cases h)
            refine AW_rg (tyOf_good _) [2] [] (fun _ _ => trivial) fun K' hK' => ?_
            repeat (refine sxf_next fun K2 hK2 => ?_; simp; (repeat (refine ⟨by omega, ?_⟩)); refine hK2 _ ?_; clear hK2 K2)
            refine sxf_nil (hK' _ ?_)
            refine AW.st (by simp; rfl) ?_
            clear hK' K'
            refine AW_ret ?_
            simp [D.le, D.le.go, takeMap]
            exact okAll_fail hi (by simp only [okC, lowC, restC, Bool.or_eq_false_iff, Bool.and_eq_false_iff, decide_eq_false_iff_not]; omega)
    · have hil : i = l.length := by omega
      subst hil
      refine AW_exit (hK1 _ ?_)
      refine AW_then fun K4 hK4 => ?_
      refine AW_rg (tyOf_good _) [0, 40] [] (fun _ _ => trivial) fun K' hK' => ?_
      repeat (refine sxf_next fun K2 hK2 => ?_; simp; (repeat (refine ⟨by omega, ?_⟩)); refine hK2 _ ?_; clear hK2 K2)
      refine sxf_nil (hK' _ ?_)
      refine AW.st (by simp; rfl) ?_
      clear hK' K'
      refine AW_block ?_
      refine AW_then fun K5 hK5 => ?_
      by_cases hw0 : l = []
      · refine AW_rg (tyOf_good _) [0, 40, 41] [] (fun _ _ => trivial) fun K' hK' => ?_
        repeat (refine sxf_next fun K2 hK2 => ?_; simp [bs_nil, bs_list, binS, dS, toW, hw0]; (repeat (refine ⟨by omega, ?_⟩)); refine hK2 _ ?_; clear hK2 K2)
        refine sxf_nil (hK' _ ?_)
        refine AW.st (by simp [bs_nil, bs_list, binS, dS, toW, hw0]; rfl) ?_
        clear hK' K'
        refine AW_cond true rfl (fun _ => ?_) (fun h => by cases h)
        refine AW_skip (hK5 _ ?_)
        refine AW_cond true rfl (fun _ => ?_) (fun h => by cases h)
        refine AW_rg (tyOf_good _) [2] [] (fun _ _ => trivial) fun K' hK' => ?_
        repeat (refine sxf_next fun K2 hK2 => ?_; simp; (repeat (refine ⟨by omega, ?_⟩)); refine hK2 _ ?_; clear hK2 K2)
        refine sxf_nil (hK' _ ?_)
        refine AW.st (by simp; rfl) ?_
        clear hK' K'
        refine AW_ret ?_
        simp [D.le, D.le.go, takeMap]
        exact word_fail (by simp [hw0, wordsL])
      have hx0 : l.isEmpty = false := by simpa using hw0
      refine AW_rg (tyOf_good _) [0, 40, 41] [] (fun _ _ => trivial) fun K' hK' => ?_
      repeat (refine sxf_next fun K2 hK2 => ?_; simp [bs_nil, bs_list, binS, dS, toW, hw0, hx0]; (repeat (refine ⟨by omega, ?_⟩)); refine hK2 _ ?_; clear hK2 K2)
      refine sxf_nil (hK' _ ?_)
      refine AW.st (by simp [bs_nil, bs_list, binS, dS, toW, hw0, hx0]; rfl) ?_
      clear hK' K'
      refine AW_cond false rfl (fun h => by cases h) (fun _ => ?_)
      by_cases hw1 : l = [105, 110, 112, 117, 116]
      · refine AW_rg (tyOf_good _) [0, 40, 41] [] (fun _ _ => trivial) fun K' hK' => ?_
        repeat (refine sxf_next fun K2 hK2 => ?_; simp [bs_nil, bs_list, binS, dS, toW, hw1]; (repeat (refine ⟨by omega, ?_⟩)); refine hK2 _ ?_; clear hK2 K2)
        refine sxf_nil (hK' _ ?_)
        refine AW.st (by simp [bs_nil, bs_list, binS, dS, toW, hw1]; rfl) ?_
        clear hK' K'
        refine AW_cond true rfl (fun _ => ?_) (fun h => by cases h)
        refine AW_skip (hK5 _ ?_)
        refine AW_cond true rfl (fun _ => ?_) (fun h => by cases h)
        refine AW_rg (tyOf_good _) [2] [] (fun _ _ => trivial) fun K' hK' => ?_
        repeat (refine sxf_next fun K2 hK2 => ?_; simp; (repeat (refine ⟨by omega, ?_⟩)); refine hK2 _ ?_; clear hK2 K2)
        refine sxf_nil (hK' _ ?_)
        refine AW.st (by simp; rfl) ?_
        clear hK' K'
        refine AW_ret ?_
        simp [D.le, D.le.go, takeMap]
        exact word_fail (by simp [hw1, wordsL])
      have hx1 : (l == [105, 110, 112, 117, 116]) = false := by simpa using hw1
      refine AW_rg (tyOf_good _) [0, 40, 41] [] (fun _ _ => trivial) fun K' hK' => ?_
      repeat (refine sxf_next fun K2 hK2 => ?_; simp [bs_nil, bs_list, binS, dS, toW, hw1, hx1]; (repeat (refine ⟨by omega, ?_⟩)); refine hK2 _ ?_; clear hK2 K2)
      refine sxf_nil (hK' _ ?_)
      refine AW.st (by simp [bs_nil, bs_list, binS, dS, toW, hw1, hx1]; rfl) ?_
      clear hK' K'
      refine AW_cond false rfl (fun h => by cases h) (fun _ => ?_)
      by_cases hw2 : l = [99, 111, 105, 108]
      · refine AW_rg (tyOf_good _) [0, 40, 41] [] (fun _ _ => trivial) fun K' hK' => ?_
        repeat (refine sxf_next fun K2 hK2 => ?_; simp [bs_nil, bs_list, binS, dS, toW, hw2]; (repeat (refine ⟨by omega, ?_⟩)); refine hK2 _ ?_; clear hK2 K2)
        refine sxf_nil (hK' _ ?_)
        refine AW.st (by simp [bs_nil, bs_list, binS, dS, toW, hw2]; rfl) ?_
        clear hK' K'
        refine AW_cond true rfl (fun _ => ?_) (fun h => by cases h)
        refine AW_skip (hK5 _ ?_)
        refine AW_cond true rfl (fun _ => ?_) (fun h => by cases h)
        refine AW_rg (tyOf_good _) [2] [] (fun _ _ => trivial) fun K' hK' => ?_
        repeat (refine sxf_next fun K2 hK2 => ?_; simp; (repeat (refine ⟨by omega, ?_⟩)); refine hK2 _ ?_; clear hK2 K2)
        refine sxf_nil (hK' _ ?_)
        refine AW.st (by simp; rfl) ?_
        clear hK' K'
        refine AW_ret ?_
        simp [D.le, D.le.go, takeMap]
        exact word_fail (by simp [hw2, wordsL])
      have hx2 : (l == [99, 111, 105, 108]) = false := by simpa using hw2
      refine AW_rg (tyOf_good _) [0, 40, 41] [] (fun _ _ => trivial) fun K' hK' => ?_
      repeat (refine sxf_next fun K2 hK2 => ?_; simp [bs_nil, bs_list, binS, dS, toW, hw2, hx2]; (repeat (refine ⟨by omega, ?_⟩)); refine hK2 _ ?_; clear hK2 K2)
      refine sxf_nil (hK' _ ?_)
      refine AW.st (by simp [bs_nil, bs_list, binS, dS, toW, hw2, hx2]; rfl) ?_
      clear hK' K'
      refine AW_cond false rfl (fun h => by cases h) (fun _ => ?_)
      by_cases hw3 : l = [116, 105, 109, 101, 114]
      · refine AW_rg (tyOf_good _) [0, 40, 41] [] (fun _ _ => trivial) fun K' hK' => ?_
        repeat (refine sxf_next fun K2 hK2 => ?_; simp [bs_nil, bs_list, binS, dS, toW, hw3]; (repeat (refine ⟨by omega, ?_⟩)); refine hK2 _ ?_; clear hK2 K2)
        refine sxf_nil (hK' _ ?_)
        refine AW.st (by simp [bs_nil, bs_list, binS, dS, toW, hw3]; rfl) ?_
        clear hK' K'
        refine AW_cond true rfl (fun _ => ?_) (fun h => by cases h)
        refine AW_skip (hK5 _ ?_)
        refine AW_cond true rfl (fun _ => ?_) (fun h => by cases h)
        refine AW_rg (tyOf_good _) [2] [] (fun _ _ => trivial) fun K' hK' => ?_
        repeat (refine sxf_next fun K2 hK2 => ?_; simp; (repeat (refine ⟨by omega, ?_⟩)); refine hK2 _ ?_; clear hK2 K2)
        refine sxf_nil (hK' _ ?_)
        refine AW.st (by simp; rfl) ?_
        clear hK' K'
        refine AW_ret ?_
        simp [D.le, D.le.go, takeMap]
        exact word_fail (by simp [hw3, wordsL])
      have hx3 : (l == [116, 105, 109, 101, 114]) = false := by simpa using hw3
      refine AW_rg (tyOf_good _) [0, 40, 41] [] (fun _ _ => trivial) fun K' hK' => ?_
      repeat (refine sxf_next fun K2 hK2 => ?_; simp [bs_nil, bs_list, binS, dS, toW, hw3, hx3]; (repeat (refine ⟨by omega, ?_⟩)); refine hK2 _ ?_; clear hK2 K2)
      refine sxf_nil (hK' _ ?_)
      refine AW.st (by simp [bs_nil, bs_list, binS, dS, toW, hw3, hx3]; rfl) ?_
      clear hK' K'
      refine AW_cond false rfl (fun h => by cases h) (fun _ => ?_)
      by_cases hw4 : l = [99, 111, 117, 110, 116, 101, 114]
      · refine AW_rg (tyOf_good _) [0, 40, 41] [] (fun _ _ => trivial) fun K' hK' => ?_
        repeat (refine sxf_next fun K2 hK2 => ?_; simp [bs_nil, bs_list, binS, dS, toW, hw4]; (repeat (refine ⟨by omega, ?_⟩)); refine hK2 _ ?_; clear hK2 K2)
        refine sxf_nil (hK' _ ?_)
        refine AW.st (by simp [bs_nil, bs_list, binS, dS, toW, hw4]; rfl) ?_
        clear hK' K'
        refine AW_cond true rfl (fun _ => ?_) (fun h => by cases h)
        refine AW_skip (hK5 _ ?_)
        refine AW_cond true rfl (fun _ => ?_) (fun h => by cases h)
        refine AW_rg (tyOf_good _) [2] [] (fun _ _ => trivial) fun K' hK' => ?_
        repeat (refine sxf_next fun K2 hK2 => ?_; simp; (repeat (refine ⟨by omega, ?_⟩)); refine hK2 _ ?_; clear hK2 K2)
        refine sxf_nil (hK' _ ?_)
        refine AW.st (by simp; rfl) ?_
        clear hK' K'
        refine AW_ret ?_
        simp [D.le, D.le.go, takeMap]
        exact word_fail (by simp [hw4, wordsL])
      have hx4 : (l == [99, 111, 117, 110, 116, 101, 114]) = false := by simpa using hw4
      refine AW_rg (tyOf_good _) [0, 40, 41] [] (fun _ _ => trivial) fun K' hK' => ?_
      repeat (refine sxf_next fun K2 hK2 => ?_; simp [bs_nil, bs_list, binS, dS, toW, hw4, hx4]; (repeat (refine ⟨by omega, ?_⟩)); refine hK2 _ ?_; clear hK2 K2)
      refine sxf_nil (hK' _ ?_)
      refine AW.st (by simp [bs_nil, bs_list, binS, dS, toW, hw4, hx4]; rfl) ?_
      clear hK' K'
      refine AW_cond false rfl (fun h => by cases h) (fun _ => ?_)
      by_cases hw5 : l = [115, 101, 116]
      · refine AW_rg (tyOf_good _) [0, 40, 41] [] (fun _ _ => trivial) fun K' hK' => ?_
        repeat (refine sxf_next fun K2 hK2 => ?_; simp [bs_nil, bs_list, binS, dS, toW, hw5]; (repeat (refine ⟨by omega, ?_⟩)); refine hK2 _ ?_; clear hK2 K2)
        refine sxf_nil (hK' _ ?_)
        refine AW.st (by simp [bs_nil, bs_list, binS, dS, toW, hw5]; rfl) ?_
        clear hK' K'
        refine AW_cond true rfl (fun _ => ?_) (fun h => by cases h)
        refine AW_skip (hK5 _ ?_)
        refine AW_cond true rfl (fun _ => ?_) (fun h => by cases h)
        refine AW_rg (tyOf_good _) [2] [] (fun _ _ => trivial) fun K' hK' => ?_
        repeat (refine sxf_next fun K2 hK2 => ?_; simp; (repeat (refine ⟨by omega, ?_⟩)); refine hK2 _ ?_; clear hK2 K2)
        refine sxf_nil (hK' _ ?_)
        refine AW.st (by simp; rfl) ?_
        clear hK' K'
        refine AW_ret ?_
        simp [D.le, D.le.go, takeMap]
        exact word_fail (by simp [hw5, wordsL])
      have hx5 : (l == [115, 101, 116]) = false := by simpa using hw5
      refine AW_rg (tyOf_good _) [0, 40, 41] [] (fun _ _ => trivial) fun K' hK' => ?_
      repeat (refine sxf_next fun K2 hK2 => ?_; simp [bs_nil, bs_list, binS, dS, toW, hw5, hx5]; (repeat (refine ⟨by omega, ?_⟩)); refine hK2 _ ?_; clear hK2 K2)
      refine sxf_nil (hK' _ ?_)
      refine AW.st (by simp [bs_nil, bs_list, binS, dS, toW, hw5, hx5]; rfl) ?_
      clear hK' K'
      refine AW_cond false rfl (fun h => by cases h) (fun _ => ?_)
      by_cases hw6 : l = [114, 101, 115, 101, 116]
      · refine AW_rg (tyOf_good _) [0, 40, 41] [] (fun _ _ => trivial) fun K' hK' => ?_
        repeat (refine sxf_next fun K2 hK2 => ?_; simp [bs_nil, bs_list, binS, dS, toW, hw6]; (repeat (refine ⟨by omega, ?_⟩)); refine hK2 _ ?_; clear hK2 K2)
        refine sxf_nil (hK' _ ?_)
        refine AW.st (by simp [bs_nil, bs_list, binS, dS, toW, hw6]; rfl) ?_
        clear hK' K'
        refine AW_cond true rfl (fun _ => ?_) (fun h => by cases h)
        refine AW_skip (hK5 _ ?_)
        refine AW_cond true rfl (fun _ => ?_) (fun h => by cases h)
        refine AW_rg (tyOf_good _) [2] [] (fun _ _ => trivial) fun K' hK' => ?_
        repeat (refine sxf_next fun K2 hK2 => ?_; simp; (repeat (refine ⟨by omega, ?_⟩)); refine hK2 _ ?_; clear hK2 K2)
        refine sxf_nil (hK' _ ?_)
        refine AW.st (by simp; rfl) ?_
        clear hK' K'
        refine AW_ret ?_
        simp [D.le, D.le.go, takeMap]
        exact word_fail (by simp [hw6, wordsL])
      have hx6 : (l == [114, 101, 115, 101, 116]) = false := by simpa using hw6
      refine AW_rg (tyOf_good _) [0, 40, 41] [] (fun _ _ => trivial) fun K' hK' => ?_
      repeat (refine sxf_next fun K2 hK2 => ?_; simp [bs_nil, bs_list, binS, dS, toW, hw6, hx6]; (repeat (refine ⟨by omega, ?_⟩)); refine hK2 _ ?_; clear hK2 K2)
      refine sxf_nil (hK' _ ?_)
      refine AW.st (by simp [bs_nil, bs_list, binS, dS, toW, hw6, hx6]; rfl) ?_
      clear hK' K'
      refine AW_cond false rfl (fun h => by cases h) (fun _ => ?_)
      by_cases hw7 : l = [114, 117, 110]
      · refine AW_rg (tyOf_good _) [0, 40, 41] [] (fun _ _ => trivial) fun K' hK' => ?_
        repeat (refine sxf_next fun K2 hK2 => ?_; simp [bs_nil, bs_list, binS, dS, toW, hw7]; (repeat (refine ⟨by omega, ?_⟩)); refine hK2 _ ?_; clear hK2 K2)
        refine sxf_nil (hK' _ ?_)
        refine AW.st (by simp [bs_nil, bs_list, binS, dS, toW, hw7]; rfl) ?_
        clear hK' K'
        refine AW_cond true rfl (fun _ => ?_) (fun h => by cases h)
        refine AW_skip (hK5 _ ?_)
        refine AW_cond true rfl (fun _ => ?_) (fun h => by cases h)
        refine AW_rg (tyOf_good _) [2] [] (fun _ _ => trivial) fun K' hK' => ?_
        repeat (refine sxf_next fun K2 hK2 => ?_; simp; (repeat (refine ⟨by omega, ?_⟩)); refine hK2 _ ?_; clear hK2 K2)
        refine sxf_nil (hK' _ ?_)
        refine AW.st (by simp; rfl) ?_
        clear hK' K'
        refine AW_ret ?_
        simp [D.le, D.le.go, takeMap]
        exact word_fail (by simp [hw7, wordsL])
      have hx7 : (l == [114, 117, 110]) = false := by simpa using hw7
      refine AW_rg (tyOf_good _) [0, 40, 41] [] (fun _ _ => trivial) fun K' hK' => ?_
      repeat (refine sxf_next fun K2 hK2 => ?_; simp [bs_nil, bs_list, binS, dS, toW, hw7, hx7]; (repeat (refine ⟨by omega, ?_⟩)); refine hK2 _ ?_; clear hK2 K2)
      refine sxf_nil (hK' _ ?_)
      refine AW.st (by simp [bs_nil, bs_list, binS, dS, toW, hw7, hx7]; rfl) ?_
      clear hK' K'
      refine AW_cond false rfl (fun h => by cases h) (fun _ => ?_)
      by_cases hw8 : l = [99, 111, 117, 110, 116]
      · refine AW_rg (tyOf_good _) [0, 40, 41] [] (fun _ _ => trivial) fun K' hK' => ?_
        repeat (refine sxf_next fun K2 hK2 => ?_; simp [bs_nil, bs_list, binS, dS, toW, hw8]; (repeat (refine ⟨by omega, ?_⟩)); refine hK2 _ ?_; clear hK2 K2)
        refine sxf_nil (hK' _ ?_)
        refine AW.st (by simp [bs_nil, bs_list, binS, dS, toW, hw8]; rfl) ?_
        clear hK' K'
        refine AW_cond true rfl (fun _ => ?_) (fun h => by cases h)
        refine AW_skip (hK5 _ ?_)
        refine AW_cond true rfl (fun _ => ?_) (fun h => by cases h)
        refine AW_rg (tyOf_good _) [2] [] (fun _ _ => trivial) fun K' hK' => ?_
        repeat (refine sxf_next fun K2 hK2 => ?_; simp; (repeat (refine ⟨by omega, ?_⟩)); refine hK2 _ ?_; clear hK2 K2)
        refine sxf_nil (hK' _ ?_)
        refine AW.st (by simp; rfl) ?_
        clear hK' K'
        refine AW_ret ?_
        simp [D.le, D.le.go, takeMap]
        exact word_fail (by simp [hw8, wordsL])
      have hx8 : (l == [99, 111, 117, 110, 116]) = false := by simpa using hw8
      refine AW_rg (tyOf_good _) [0, 40, 41] [] (fun _ _ => trivial) fun K' hK' => ?_
      repeat (refine sxf_next fun K2 hK2 => ?_; simp [bs_nil, bs_list, binS, dS, toW, hw8, hx8]; (repeat (refine ⟨by omega, ?_⟩)); refine hK2 _ ?_; clear hK2 K2)
      refine sxf_nil (hK' _ ?_)
      refine AW.st (by simp [bs_nil, bs_list, binS, dS, toW, hw8, hx8]; rfl) ?_
      clear hK' K'
      refine AW_cond false rfl (fun h => by cases h) (fun _ => ?_)
      by_cases hw9 : l = [122, 101, 114, 111]
      · refine AW_re (tyOf_good _) fun K' hK' => ?_
        repeat (refine sxf_next fun K2 hK2 => ?_; simp [bs_nil, bs_list, binS, dS, toW, hw9]; (repeat (refine ⟨by omega, ?_⟩)); refine hK2 _ ?_; clear hK2 K2)
        refine sxf_nil (hK' _ ?_)
        clear hK' K'
        refine hK5 _ (AW.norm [0, 41] [] (fun _ _ => trivial) (AW.st (by simp [bs_nil, bs_list, binS, dS, toW, hw9]; rfl) ?_))
        refine AW_cond true rfl (fun _ => ?_) (fun h => by cases h)
        refine AW_rg (tyOf_good _) [2] [] (fun _ _ => trivial) fun K' hK' => ?_
        repeat (refine sxf_next fun K2 hK2 => ?_; simp; (repeat (refine ⟨by omega, ?_⟩)); refine hK2 _ ?_; clear hK2 K2)
        refine sxf_nil (hK' _ ?_)
        refine AW.st (by simp; rfl) ?_
        clear hK' K'
        refine AW_ret ?_
        simp [D.le, D.le.go, takeMap]
        exact word_fail (by simp [hw9, wordsL])
      have hx9 : (l == [122, 101, 114, 111]) = false := by simpa using hw9
      refine AW_re (tyOf_good _) fun K' hK' => ?_
      repeat (refine sxf_next fun K2 hK2 => ?_; simp [bs_nil, bs_list, binS, dS, toW, hw9, hx9]; (repeat (refine ⟨by omega, ?_⟩)); refine hK2 _ ?_; clear hK2 K2)
      refine sxf_nil (hK' _ ?_)
      clear hK' K'
      refine hK5 _ (AW.norm [0, 41] [] (fun _ _ => trivial) (AW.st (by simp [bs_nil, bs_list, binS, dS, toW, hw9, hx9]; rfl) ?_))
      refine AW_cond false rfl (fun h => by cases h) (fun _ => ?_)
      refine AW_skip (hK4 _ ?_)
      refine AW_rg (tyOf_good _) [2] [] (fun _ _ => trivial) fun K' hK' => ?_
      repeat (refine sxf_next fun K2 hK2 => ?_; simp [dS, bs_size]; (repeat (refine ⟨by omega, ?_⟩)); refine hK2 _ ?_; clear hK2 K2)
      refine sxf_nil (hK' _ ?_)
      refine AW.st (by simp [dS, bs_size]; rfl) ?_
      clear hK' K'
      refine AW_ret ?_
      simp [D.le, D.le.go, takeMap]
      exact word_pass hok (by simp [wordsL, hw0, hw1, hw2, hw3, hw4, hw5, hw6, hw7, hw8, hw9])

set_option maxHeartbeats 2000000 in
theorem exprNames_spec (G : Glob) (l : List UInt8) : PureC Tryd.prog G 3 [dS l] (.v (.bool true)) := by
  refine PureC.of_body (tyOf_good _) Tryd.func3 rfl rfl (rs := [.tmp 2]) Tryd.results3 (by simp [Tryd.ntmps3]) fun X => ?_
  simp only [Tryd.ntmps3, List.map]
  refine AW_rg (tyOf_good _) [0] [] (fun _ _ => trivial) fun K' hK' => ?_
  repeat (refine sxf_next fun K2 hK2 => ?_; simp [dS]; (repeat (refine ⟨by omega, ?_⟩)); refine hK2 _ ?_; clear hK2 K2)
  refine sxf_nil (hK' _ ?_)
  refine AW.st (by simp [dS]; rfl) ?_
  clear hK' K'
  by_cases h : (50 : Int) < l.length
  · refine AW_rg (tyOf_good _) [2] [] (fun _ _ => trivial) fun K' hK' => ?_
    repeat (refine sxf_next fun K2 hK2 => ?_; simp [bs_size, h]; (repeat (refine ⟨by omega, ?_⟩)); refine hK2 _ ?_; clear hK2 K2)
    refine sxf_nil (hK' _ ?_)
    refine AW.st (by simp [bs_size, h]; rfl) ?_
    clear hK' K'
    refine AW_ret ?_
    simp [D.le, D.le.go, takeMap]
  · have hl : l.length < 2^60 := by omega
    have hn := name_spec G l hl
    have hcx := ncheck_spec G l hl
    rw [← name_same] at hcx
    refine AW_rg (tyOf_good _) [2] [] (fun _ _ => trivial) fun K' hK' => ?_
    repeat (refine sxf_next fun K2 hK2 => ?_; simp [bs_size, h]; (repeat (refine ⟨by omega, ?_⟩)); refine hK2 _ ?_; clear hK2 K2)
    refine sxf_next fun K2 hK2 => ?_
    simp [bs_size, h]
    refine callK.data (hn) (by simp; rfl) (by first | exact D.leGo_refl _ | simp [takeMap, List.map_map, Function.comp_def, D.le, D.le.go, D.le_refl, D.leGo_refl, bs_size, h]) ?_
    refine hK2 _ ?_
    clear hK2 K2
    simp only [putd, upd_lst]
    repeat (refine sxf_next fun K2 hK2 => ?_; simp [bs_size, h]; (repeat (refine ⟨by omega, ?_⟩)); refine hK2 _ ?_; clear hK2 K2)
    refine sxf_next fun K2 hK2 => ?_
    simp [bs_size, h]
    refine callK.data (hcx) (by simp; rfl) (by first | exact D.leGo_refl _ | simp [takeMap, List.map_map, Function.comp_def, D.le, D.le.go, D.le_refl, D.leGo_refl, bs_size, h]) ?_
    refine hK2 _ ?_
    clear hK2 K2
    simp only [putd, upd_lst]
    repeat (refine sxf_next fun K2 hK2 => ?_; simp [bs_size, h]; (repeat (refine ⟨by omega, ?_⟩)); refine hK2 _ ?_; clear hK2 K2)
    refine sxf_nil (hK' _ ?_)
    refine AW.st (by simp [bs_size, h]; rfl) ?_
    clear hK' K'
    refine AW_ret ?_
    simp [D.le, D.le.go, takeMap]
#print axioms exprNames_spec
end Go.Proofs.YtoikggboakojlaaDoor

/-
  Formulas whose kinds, names or parts may not be: the statement's walk.
-/
namespace Go.Proofs.YtoikggboakojlaaDoor
set_option linter.unusedSimpArgs false
set_option linter.unusedVariables false
open Go.Av

def tr : Fm := .mk 2 [] []
def wrapN (f : Fm) : Nat → Fm
  | 0 => f
  | i + 1 => .mk 3 [] [wrapN f i]
theorem wrap_deep (k : Int) (s : List UInt8) (l : List Fm) : ∀ i d, d ≤ i → (rightF d (wrapN (.mk k s l) i)).2 = 4
  | 0, 0, _ => rfl
  | i + 1, 0, _ => rfl
  | i + 1, d + 1, h => by
    have ih := wrap_deep k s l i d (by omega)
    rw [wrapN, rightF, if_neg (fun h => h rfl), rightL, if_pos (by rw [ih]; decide)]
    exact ih
theorem wrap_ok (f : Fm) : ∀ i d, (rightF (d + i) (wrapN f i)).2 = (rightF d f).2 ∧ ((rightF d f).2 = 0 → (rightF (d + i) (wrapN f i)).1 = (rightF d f).1 + i)
  | 0, d => by simp [wrapN]
  | i + 1, d => by
    obtain ⟨h1, h2⟩ := wrap_ok f i d
    rw [wrapN, ← Nat.add_assoc, rightF, if_neg (fun h => h rfl)]
    by_cases h : (rightF d f).2 = 0
    · rw [rightL, if_neg (by rw [h1]; simp [h]), rightL]
      refine ⟨h.symm, fun _ => ?_⟩
      have := h2 h
      simp only [Int.natCast_add, Int.cast_ofNat_Int]
      omega
    · rw [rightL, if_pos (by rw [h1]; exact h)]
      exact ⟨h1, fun h' => absurd h' h⟩
theorem trs_ok (d : Nat) : ∀ (n : Nat) (m : Int), rightL (d + 1) (List.replicate n tr) m = (m + n, 0)
  | 0, m => by simp [rightL]
  | n + 1, m => by
    have ht : rightF (d + 1) tr = (1, 0) := rfl
    rw [List.replicate_succ, rightL, ht, if_neg (by decide), trs_ok d n]
    simp only [Int.natCast_add, Int.cast_ofNat_Int]
    congr 1
    omega
/-- What the document tells of such a formula. -/
def tellE (k : Int) (s : List UInt8) (p d : Nat) : Int := if 20 < d + 1 ∨ (badF k s p = 0 ∧ 0 < p ∧ 20 < d + 2) then 4 else badF k s p
theorem rights_law (k : Int) (s : List UInt8) (p d : Nat) (hp : p < 4) (hd : d < 25) : rightE (wrapN (.mk k s (List.replicate p tr)) d) = tellE k s p d := by
  unfold rightE tellE
  by_cases h20 : 20 ≤ d
  · have h4 := wrap_deep k s (List.replicate p tr) d 20 h20
    have hc : 20 < d + 1 ∨ badF k s p = 0 ∧ 0 < p ∧ 20 < d + 2 := .inl (by omega)
    rw [if_pos hc, h4]
    rfl
  · obtain ⟨e, he⟩ : ∃ e, 20 = (e + 1) + d := ⟨19 - d, by omega⟩
    obtain ⟨h1, h2⟩ := wrap_ok (.mk k s (List.replicate p tr)) d (e + 1)
    rw [← he] at h1 h2
    have hf : rightF (e + 1) (.mk k s (List.replicate p tr)) = if badF k s p ≠ 0 then (0, badF k s p) else rightL e (List.replicate p tr) 1 := by rw [rightF, List.length_replicate]
    rw [h1]
    by_cases hb : badF k s p = 0
    · rw [if_neg (by simp [hb])] at hf
      by_cases hp0 : p = 0
      · subst hp0
        have hf : rightF (e + 1) (.mk k s (List.replicate 0 tr)) = (1, 0) := hf
        have h2 := h2 (by rw [hf])
        rw [hf] at h2 ⊢
        rw [if_neg (by simp), h2, if_neg (by simp only; omega), if_neg (by omega), hb]
      · cases e with
        | zero =>
          have hf : rightF (0 + 1) (.mk k s (List.replicate p tr)) = (0, 4) := by
            rw [hf]
            cases p with
            | zero => omega
            | succ p => rfl
          rw [hf, if_pos (by decide), if_pos (.inr ⟨hb, by omega, by omega⟩)]
        | succ e =>
          rw [trs_ok] at hf
          have h2 := h2 (by rw [hf])
          rw [hf] at h2 ⊢
          rw [if_neg (by simp), h2, if_neg (by simp only; omega), if_neg (by omega), hb]
    · rw [if_pos hb] at hf
      rw [hf, if_pos hb, if_neg (by rintro (h | h) <;> omega)]

theorem ofK_rep (p : Nat) (f : Fm) (h : 0 < p) : ofK (List.replicate p f) = none := by
  cases p with
  | zero => omega
  | succ p => rfl
def mapL : List (Value × D) := [(.int .i64 1, dNum 0), (.int .i64 2, dNum 0), (.int .i64 3, dNum 1), (.int .i64 4, dNum 2), (.int .i64 5, dNum 2), (.int .i64 6, dNum 1), (.int .i64 7, dNum 2), (.int .i64 8, dNum 2), (.int .i64 9, dNum 1), (.int .i64 10, dNum 1)]
theorem look_in {k : Int} (h1 : 1 ≤ k) (h2 : k ≤ 10) : entGet (.int .i64 k) mapL = some (dNum (arityF k)) := by
  have : k = 1 ∨ k = 2 ∨ k = 3 ∨ k = 4 ∨ k = 5 ∨ k = 6 ∨ k = 7 ∨ k = 8 ∨ k = 9 ∨ k = 10 := by omega
  rcases this with rfl | rfl | rfl | rfl | rfl | rfl | rfl | rfl | rfl | rfl <;> rfl
theorem look_out {k : Int} (h : k < 1 ∨ 10 < k) : entGet (.int .i64 k) mapL = none := by
  have hn : ∀ c : Int, 1 ≤ c → c ≤ 10 → (k == c) = false := fun c h1 h2 => by rw [beq_eq_false_iff_ne]; omega
  have hn2 : ∀ c : Int, 1 ≤ c → c ≤ 10 → k ≠ c := fun c h1 h2 => by omega
  simp [entGet, mapL, keyEq, hn2]

/-- What is shown behind its first use. -/
structure Later (T : Prop) : Prop where
  out : T
theorem late {T U : Prop} (h : Later T → U) (t : T) : U := h ⟨t⟩
theorem dF_tr : dF tr = .ip [.v (.int .i64 2), .v (.string ⟨#[]⟩), .sl (some false) []] := rfl
theorem names_rep : ∀ p : Nat, namesOkL (List.replicate p tr)
  | 0 => trivial
  | p + 1 => ⟨⟨by decide, trivial⟩, names_rep p⟩
theorem names_wrap (f : Fm) (h : namesOk f) : ∀ i : Nat, namesOk (wrapN f i)
  | 0 => h
  | i + 1 => ⟨by decide, names_wrap f h i, trivial⟩
theorem wrap_ip (k : Int) (s : List UInt8) (l : List Fm) (i : Nat) : ∃ c, dF (wrapN (.mk k s l) i) = .ip c := by cases i <;> exact ⟨_, rfl⟩
def boxF (k : Int) (s : List UInt8) (of : AV) : Row := .box 79 [.d (dNum k), .d (dS s), of]

set_option maxHeartbeats 8000000 in
theorem rights_few (G : Glob) (hA : HasArity G) (hG : HasErr G) (k : Int) (s : List UInt8) (pa de : Int) (hs : ¬ (30 : Int) < s.length) : PureC Tryd.prog G 10 [dNum k, dS s, dNum pa, dNum de] (.v (.bool true)) := by
  have hs40 : s.length < 2^60 := by omega
  have hu1 : 0 ≤ IntKind.u64.wrap pa := by rw [wrap_u64]; omega
  have hu2 : 0 ≤ IntKind.u64.wrap de := by rw [wrap_u64]; omega
  obtain ⟨p, hp⟩ := Int.eq_ofNat_of_zero_le (show 0 ≤ (IntKind.u64.wrap pa).tmod 4 by rw [Int.tmod_eq_emod_of_nonneg hu1]; omega)
  obtain ⟨d, hd⟩ := Int.eq_ofNat_of_zero_le (show 0 ≤ (IntKind.u64.wrap de).tmod 25 by rw [Int.tmod_eq_emod_of_nonneg hu2]; omega)
  have hp4 : p < 4 := by have : (IntKind.u64.wrap pa).tmod 4 < 4 := by rw [Int.tmod_eq_emod_of_nonneg hu1]; omega
                         omega
  have hd25 : d < 25 := by have : (IntKind.u64.wrap de).tmod 25 < 25 := by rw [Int.tmod_eq_emod_of_nonneg hu2]; omega
                           omega
  have hlaw := rights_law k s p d hp4 hd25
  have hcheck := ncheck_spec G s hs40
  have hnf := name_same s
  refine PureC.of_body (tyOf_good _) Tryd.func10 rfl rfl (rs := [.tmp 8]) Tryd.results10 (by simp [Tryd.ntmps10]) fun X => ?_
  simp only [Tryd.ntmps10, List.map]
  refine AW_rg (tyOf_good _) [0, 1, 2, 3] [] (fun _ _ => trivial) fun K' hK' => ?_
  repeat (refine sxf_next fun K2 hK2 => ?_; simp [dNum]; (repeat (refine ⟨by omega, ?_⟩)); refine hK2 _ ?_; clear hK2 K2)
  refine sxf_nil (hK' _ ?_)
  refine AW.st (by simp [dNum]; rfl) ?_
  clear hK' K'
  refine AW_then fun K1 hK1 => ?_
  refine AW_rg (tyOf_good _) [0, 1, 2, 3, 19] [] (fun _ _ => trivial) fun K' hK' => ?_
  repeat (refine sxf_next fun K2 hK2 => ?_; simp [dNum, dS, bs_size, hs]; (repeat (refine ⟨by omega, ?_⟩)); refine hK2 _ ?_; clear hK2 K2)
  refine sxf_nil (hK' _ ?_)
  refine AW.st (by simp [dNum, dS, bs_size, hs]; rfl) ?_
  clear hK' K'
  refine AW_cond false rfl (fun h => by cases h) (fun _ => ?_)
  refine AW_skip (hK1 _ ?_)
  refine AW_rg (tyOf_good _) [0, 1, 2, 3] [] (fun _ _ => trivial) fun K' hK' => ?_
  repeat (refine sxf_next fun K2 hK2 => ?_; simp [dNum, hp, hd]; (repeat (refine ⟨by omega, ?_⟩)); refine hK2 _ ?_; clear hK2 K2)
  refine sxf_nil (hK' _ ?_)
  refine AW.st (by simp [dNum, hp, hd]; rfl) ?_
  clear hK' K'
  refine AW_rg (tyOf_good _) [0, 1, 2, 3, 9] [31] (fun _ _ => trivial) fun K' hK' => ?_
  repeat (refine sxf_next fun K2 hK2 => ?_; simp [dNum, dS]; (repeat (refine ⟨by omega, ?_⟩)); refine hK2 _ ?_; clear hK2 K2)
  refine sxf_nil (hK' _ ?_)
  refine AW.st (by simp [dNum, dS]; rfl) ?_
  clear hK' K'
  refine AW_then fun K2 hK2 => ?_
  refine (fun hcont => ?_) (fun (σ : St) himp => hK2 σ (AW.imp (τ := ⟨lst [(0, int k), (1, .d (dS s)), (2, int p), (3, int d), (9, .d (dF (.mk k s (List.replicate p tr))))], hlst []⟩) himp ?_))
  · refine AW_rg (tyOf_good _) [0, 1, 2, 3, 9, 10] [31] (fun _ _ => trivial) fun K' hK' => ?_
    repeat (refine sxf_next fun K2 hK2 => ?_; simp [dNum]; (repeat (refine ⟨by omega, ?_⟩)); refine hK2 _ ?_; clear hK2 K2)
    refine sxf_nil (hK' _ ?_)
    refine AW.st (by simp [dNum]; rfl) ?_
    clear hK' K'
    by_cases hp0 : p = 0
    · subst hp0
      refine AW_for (S := Unit) (fun _ => True) (fun _ => ⟨lst [(0, int k), (1, .d (dS s)), (2, int 0), (3, int d), (9, .ref 31 0 0), (10, int 0)], hlst [(31, boxF k s (.d (.sl (some false) [])))]⟩) (fun _ => 0) () ?_ trivial ?_
      · refine Imp.to' (fun _ _ => trivial) (by simp [dNum, boxF, dS]) (by simp [dNum, boxF, dS])
      · intro _ _
        refine AW_then fun K3 hK3 => ?_
        refine AW_rg (tyOf_good _) [0, 1, 2, 3, 9, 34] [31] (fun _ _ => trivial) fun K' hK' => ?_
        repeat (refine sxf_next fun K2 hK2 => ?_; simp [dNum, boxF, dS]; (repeat (refine ⟨by omega, ?_⟩)); refine hK2 _ ?_; clear hK2 K2)
        refine sxf_nil (hK' _ ?_)
        refine AW.st (by simp [dNum, boxF, dS]; rfl) ?_
        clear hK' K'
        refine AW_cond false rfl (fun h => by cases h) (fun _ => ?_)
        refine AW_exit (hcont _ ?_)
        refine (Imp.freezeB 31 trivial).trans ?_
        refine Imp.to' (fun _ _ => trivial) (by simp [dNum, dF, dFs, ofK, dS]) (by simp [dNum, dF, dFs, ofK, dS])
    · have hp1 : 0 < p := by omega
      refine AW_for (S := Nat) (fun i => i ≤ p) (fun i => ⟨lst [(0, int k), (1, .d (dS s)), (2, int p), (3, int d), (9, .ref 31 0 0), (10, int i)], hlst [(31, boxF k s (.own 300 0 i)), (300, .sl 72 1 (List.replicate i [dF tr]))]⟩) (fun i => p - i) 0 ?_ (by omega) ?_
      · refine (Imp.adoptCell 31 2 300 72 1 rfl rfl rfl).trans ?_
        refine Imp.to' (fun _ _ => trivial) (by simp [dNum, boxF, dS]) (by simp [dNum, boxF, dS])
      · intro i hi
        refine AW_then fun K3 hK3 => ?_
        refine AW_rg (tyOf_good _) [0, 1, 2, 3, 9, 10, 34] [31, 300] (fun _ _ => trivial) fun K' hK' => ?_
        repeat (refine sxf_next fun K2 hK2 => ?_; simp [dNum, boxF, dS]; (repeat (refine ⟨by omega, ?_⟩)); refine hK2 _ ?_; clear hK2 K2)
        refine sxf_nil (hK' _ ?_)
        refine AW.st (by simp [dNum, boxF, dS]; rfl) ?_
        clear hK' K'
        refine AW_cond' (b := i < p) (by simp [D.le, D.le.go, takeMap, dNum]) (fun hc => ?_) (fun hc => ?_)
        · refine AW_skip (hK3 _ ?_)
          refine AW_then fun K4 hK4 => ?_
          refine AW_block ?_
          refine AW_re (tyOf_good _) fun K' hK' => ?_
          repeat (refine sxf_next fun K2 hK2 => ?_; simp [dNum, dF_tr]; (repeat (refine ⟨by omega, ?_⟩)); refine hK2 _ ?_; clear hK2 K2)
          refine sxf_nil (hK' _ ?_)
          clear hK' K'
          refine hK4 _ (AW.norm [0, 1, 2, 3, 9, 10] [31, 300] (fun _ _ => trivial) (AW.st (by simp [dNum, dF_tr]; rfl) ?_))
          refine AW_re (tyOf_good _) fun K' hK' => ?_
          repeat (refine sxf_next fun K2 hK2 => ?_; simp [dNum]; (repeat (refine ⟨by omega, ?_⟩)); refine hK2 _ ?_; clear hK2 K2)
          refine sxf_nil (hK' _ ?_)
          clear hK' K'
          try simp only [thn, inb]
          refine Again.mk (i + 1) (by omega) (by omega) ?_
          refine Imp.to' (fun _ _ => trivial) (by simp [dNum, boxF, dS, dF_tr, List.replicate_succ']) (by simp [dNum, boxF, dS, dF_tr, List.replicate_succ'])
        · obtain rfl : i = p := by omega
          refine AW_exit (hcont _ ?_)
          refine (Imp.freeze 300 trivial).trans ((Imp.freezeB 31 trivial).trans ?_)
          refine Imp.to' (fun _ _ => trivial) (by simp [dNum, dF, dFs_map, ofK_rep _ _ hp1, dS, boxF, St.freezeB]) (by simp [dNum, dF, dFs_map, ofK_rep _ _ hp1, dS, boxF, St.freezeB])
  · have hE := Right_spec G hA
    generalize hf0 : Fm.mk k s (List.replicate p tr) = f0 at hlaw
    have hn0 : namesOk f0 := by subst hf0; exact ⟨hs40, names_rep p⟩
    refine AW_rg (tyOf_good _) [0, 1, 2, 3, 9, 11] [48] (fun _ _ => trivial) fun K' hK' => ?_
    repeat (refine sxf_next fun K2 hK2 => ?_; simp [dNum]; (repeat (refine ⟨by omega, ?_⟩)); refine hK2 _ ?_; clear hK2 K2)
    refine sxf_nil (hK' _ ?_)
    refine AW.st (by simp [dNum]; rfl) ?_
    clear hK' K'
    refine' late (fun hrest => ?_) ?_
    rotate_left
    · by_cases hko : k < 1 ∨ 10 < k
      · have hl := look_out hko
        have hb : badF k s p = 1 := by
          unfold badF
          rw [if_pos]
          rcases hko with h | h
          · exact .inl h
          · exact .inr (.inl h)
        simp only [mapL, dNum] at hl
        refine AW_rg (tyOf_good _) [0, 1, 2, 3, 9, 12, 13] [] (fun _ _ => trivial) fun K' hK' => ?_
        repeat (refine sxf_next fun K2 hK2 => ?_; simp [dNum, hl, ofOk, zeroM]; (repeat (refine ⟨by omega, ?_⟩)); refine hK2 _ ?_; clear hK2 K2)
        refine sxf_nil (hK' _ ?_)
        refine AW.st (by simp [dNum, hl, ofOk, zeroM]; rfl) ?_
        clear hK' K'
        refine AW_rg (tyOf_good _) [0, 1, 2, 3, 9, 12, 13, 14] [] (fun _ _ => trivial) fun K' hK' => ?_
        repeat (refine sxf_next fun K2 hK2 => ?_; simp [dNum]; (repeat (refine ⟨by omega, ?_⟩)); refine hK2 _ ?_; clear hK2 K2)
        refine sxf_nil (hK' _ ?_)
        refine AW.st (by simp [dNum]; rfl) ?_
        clear hK' K'
        refine AW_then fun K5 hK5 => ?_
        refine AW_block ?_
        refine AW_rg (tyOf_good _) [0, 1, 2, 3, 9, 14, 56] [] (fun _ _ => trivial) fun K' hK' => ?_
        repeat (refine sxf_next fun K2 hK2 => ?_; simp [dNum]; (repeat (refine ⟨by omega, ?_⟩)); refine hK2 _ ?_; clear hK2 K2)
        refine sxf_nil (hK' _ ?_)
        refine AW.st (by simp [dNum]; rfl) ?_
        clear hK' K'
        refine AW_cond true rfl (fun _ => ?_) (fun h => by cases h)
        refine AW_re (tyOf_good _) fun K' hK' => ?_
        repeat (refine sxf_next fun K2 hK2 => ?_; simp [dNum]; (repeat (refine ⟨by omega, ?_⟩)); refine hK2 _ ?_; clear hK2 K2)
        refine sxf_nil (hK' _ ?_)
        clear hK' K'
        refine hK5 _ (AW.norm [2, 3, 9, 14] [] (fun _ _ => trivial) (AW.st (by simp [dNum]; rfl) ?_))
        refine AW.st (show _ = (⟨lst [(2, int p), (3, int d), (9, .d (dF f0)), (14, int (badF k s p))], hlst []⟩ : St) by rw [hb] <;> rfl) ?_
        exact hrest.out
      · have hk1 : 1 ≤ k := by omega
        have hk10 : k ≤ 10 := by omega
        have hl := look_in hk1 hk10
        simp only [mapL, dNum] at hl
        refine AW_rg (tyOf_good _) [0, 1, 2, 3, 9, 12, 13] [] (fun _ _ => trivial) fun K' hK' => ?_
        repeat (refine sxf_next fun K2 hK2 => ?_; simp [dNum, hl, ofOk, zeroM]; (repeat (refine ⟨by omega, ?_⟩)); refine hK2 _ ?_; clear hK2 K2)
        refine sxf_nil (hK' _ ?_)
        refine AW.st (by simp [dNum, hl, ofOk, zeroM]; rfl) ?_
        clear hK' K'
        refine AW_rg (tyOf_good _) [0, 1, 2, 3, 9, 12, 13, 14] [] (fun _ _ => trivial) fun K' hK' => ?_
        repeat (refine sxf_next fun K2 hK2 => ?_; simp [dNum]; (repeat (refine ⟨by omega, ?_⟩)); refine hK2 _ ?_; clear hK2 K2)
        refine sxf_nil (hK' _ ?_)
        refine AW.st (by simp [dNum]; rfl) ?_
        clear hK' K'
        refine AW_then fun K5 hK5 => ?_
        refine AW_block ?_
        by_cases hap : arityF k = (p : Int)
        · by_cases hk : k = 1
          · have hb : badF k s p = if nameF s = false then 5 else 0 := by
              unfold badF
              rw [if_neg (by rintro (h | h | h | h) <;> first | omega | exact h.1 hk)]
              by_cases hn : nameF s = false
              · rw [if_pos ⟨hk, hn⟩, if_pos hn]
              · rw [if_neg (fun h => hn h.2), if_neg hn]
            rw [hnf] at hb
            have hap1 : arityF 1 = (p : Int) := hk ▸ hap
            refine AW_rg (tyOf_good _) [0, 1, 2, 3, 9, 14, 56] [] (fun _ _ => trivial) fun K' hK' => ?_
            repeat (refine sxf_next fun K2 hK2 => ?_; simp [dNum, hap1, hk]; (repeat (refine ⟨by omega, ?_⟩)); refine hK2 _ ?_; clear hK2 K2)
            refine sxf_nil (hK' _ ?_)
            refine AW.st (by simp [dNum, hap1, hk]; rfl) ?_
            clear hK' K'
            refine AW_cond false rfl (fun h => by cases h) (fun _ => ?_)
            cases hc : checkNF s with
            | true =>
              rw [hc] at hcheck hb
              rw [if_neg (by decide)] at hb
              refine AW_rg (tyOf_good _) [2, 3, 9, 14, 72] [] (fun _ _ => trivial) fun K' hK' => ?_
              repeat (refine sxf_next fun K2 hK2 => ?_; simp [dNum, hk]; (repeat (refine ⟨by omega, ?_⟩)); refine hK2 _ ?_; clear hK2 K2)
              refine sxf_next fun K2 hK2 => ?_
              simp [dNum, hk]
              refine callK.data (hcheck) (by simp; rfl) (by first | exact D.leGo_refl _ | simp [takeMap, List.map_map, Function.comp_def, D.le, D.le.go, D.le_refl, D.leGo_refl, dNum, hk]) ?_
              refine hK2 _ ?_
              clear hK2 K2
              simp only [putd, upd_lst]
              repeat (refine sxf_next fun K2 hK2 => ?_; simp [dNum, hk]; (repeat (refine ⟨by omega, ?_⟩)); refine hK2 _ ?_; clear hK2 K2)
              refine sxf_nil (hK' _ ?_)
              refine AW.st (by simp [dNum, hk]; rfl) ?_
              clear hK' K'
              refine AW_cond false rfl (fun h => by cases h) (fun _ => ?_)
              refine AW_skip ?_
              refine hK5 _ (AW.norm [2, 3, 9, 14] [] (fun _ _ => trivial) (AW.st (by simp [dNum]; rfl) ?_))
              refine AW.st (show _ = (⟨lst [(2, int p), (3, int d), (9, .d (dF f0)), (14, int (badF k s p))], hlst []⟩ : St) by rw [hb] <;> rfl) ?_
              exact hrest.out
            | false =>
              rw [hc] at hcheck hb
              rw [if_pos rfl] at hb
              refine AW_rg (tyOf_good _) [2, 3, 9, 14, 72] [] (fun _ _ => trivial) fun K' hK' => ?_
              repeat (refine sxf_next fun K2 hK2 => ?_; simp [dNum, hk]; (repeat (refine ⟨by omega, ?_⟩)); refine hK2 _ ?_; clear hK2 K2)
              refine sxf_next fun K2 hK2 => ?_
              simp [dNum, hk]
              refine callK.data (hcheck) (by simp; rfl) (by first | exact D.leGo_refl _ | simp [takeMap, List.map_map, Function.comp_def, D.le, D.le.go, D.le_refl, D.leGo_refl, dNum, hk]) ?_
              refine hK2 _ ?_
              clear hK2 K2
              simp only [putd, upd_lst]
              repeat (refine sxf_next fun K2 hK2 => ?_; simp [dNum, hk]; (repeat (refine ⟨by omega, ?_⟩)); refine hK2 _ ?_; clear hK2 K2)
              refine sxf_nil (hK' _ ?_)
              refine AW.st (by simp [dNum, hk]; rfl) ?_
              clear hK' K'
              refine AW_cond true rfl (fun _ => ?_) (fun h => by cases h)
              refine AW_re (tyOf_good _) fun K' hK' => ?_
              repeat (refine sxf_next fun K2 hK2 => ?_; simp [dNum]; (repeat (refine ⟨by omega, ?_⟩)); refine hK2 _ ?_; clear hK2 K2)
              refine sxf_nil (hK' _ ?_)
              clear hK' K'
              refine hK5 _ (AW.norm [2, 3, 9, 14] [] (fun _ _ => trivial) (AW.st (by simp [dNum]; rfl) ?_))
              refine AW.st (show _ = (⟨lst [(2, int p), (3, int d), (9, .d (dF f0)), (14, int (badF k s p))], hlst []⟩ : St) by rw [hb] <;> rfl) ?_
              exact hrest.out
          · by_cases hs0 : s = []
            · have hb : badF k s p = 0 := by
                unfold badF
                rw [if_neg (by rintro (h | h | h | h) <;> first | omega | exact h.2 hs0), if_neg (fun h => hk h.1)]
              refine AW_rg (tyOf_good _) [0, 1, 2, 3, 9, 14, 56] [] (fun _ _ => trivial) fun K' hK' => ?_
              repeat (refine sxf_next fun K2 hK2 => ?_; simp [dNum, hap, hk, dS, bs_nil, binS, hs0]; (repeat (refine ⟨by omega, ?_⟩)); refine hK2 _ ?_; clear hK2 K2)
              refine sxf_nil (hK' _ ?_)
              refine AW.st (by simp [dNum, hap, hk, dS, bs_nil, binS, hs0]; rfl) ?_
              clear hK' K'
              refine AW_cond false rfl (fun h => by cases h) (fun _ => ?_)
              refine AW_rg (tyOf_good _) [2, 3, 9, 14, 72] [] (fun _ _ => trivial) fun K' hK' => ?_
              repeat (refine sxf_next fun K2 hK2 => ?_; simp [dNum, hk]; (repeat (refine ⟨by omega, ?_⟩)); refine hK2 _ ?_; clear hK2 K2)
              refine sxf_nil (hK' _ ?_)
              refine AW.st (by simp [dNum, hk]; rfl) ?_
              clear hK' K'
              refine AW_cond false rfl (fun h => by cases h) (fun _ => ?_)
              refine AW_skip ?_
              refine hK5 _ (AW.norm [2, 3, 9, 14] [] (fun _ _ => trivial) (AW.st (by simp [dNum]; rfl) ?_))
              refine AW.st (show _ = (⟨lst [(2, int p), (3, int d), (9, .d (dF f0)), (14, int (badF k s p))], hlst []⟩ : St) by rw [hb] <;> rfl) ?_
              exact hrest.out
            · have hb : badF k s p = 1 := by unfold badF; rw [if_pos (.inr (.inr (.inr ⟨hk, hs0⟩)))]
              have hs1 : s.isEmpty = false := by rw [List.isEmpty_eq_false_iff]; exact hs0
              refine AW_rg (tyOf_good _) [0, 1, 2, 3, 9, 14, 56] [] (fun _ _ => trivial) fun K' hK' => ?_
              repeat (refine sxf_next fun K2 hK2 => ?_; simp [dNum, hap, hk, dS, bs_nil, bs_list, binS, hs0, hs1]; (repeat (refine ⟨by omega, ?_⟩)); refine hK2 _ ?_; clear hK2 K2)
              refine sxf_nil (hK' _ ?_)
              refine AW.st (by simp [dNum, hap, hk, dS, bs_nil, bs_list, binS, hs0, hs1]; rfl) ?_
              clear hK' K'
              refine AW_cond true rfl (fun _ => ?_) (fun h => by cases h)
              refine AW_re (tyOf_good _) fun K' hK' => ?_
              repeat (refine sxf_next fun K2 hK2 => ?_; simp [dNum]; (repeat (refine ⟨by omega, ?_⟩)); refine hK2 _ ?_; clear hK2 K2)
              refine sxf_nil (hK' _ ?_)
              clear hK' K'
              refine hK5 _ (AW.norm [2, 3, 9, 14] [] (fun _ _ => trivial) (AW.st (by simp [dNum]; rfl) ?_))
              refine AW.st (show _ = (⟨lst [(2, int p), (3, int d), (9, .d (dF f0)), (14, int (badF k s p))], hlst []⟩ : St) by rw [hb] <;> rfl) ?_
              exact hrest.out
        · have hb : badF k s p = 1 := by unfold badF; rw [if_pos (.inr (.inr (.inl (by omega))))]
          refine AW_rg (tyOf_good _) [0, 1, 2, 3, 9, 14, 56] [] (fun _ _ => trivial) fun K' hK' => ?_
          repeat (refine sxf_next fun K2 hK2 => ?_; simp [dNum, hap]; (repeat (refine ⟨by omega, ?_⟩)); refine hK2 _ ?_; clear hK2 K2)
          refine sxf_nil (hK' _ ?_)
          refine AW.st (by simp [dNum, hap]; rfl) ?_
          clear hK' K'
          refine AW_cond true rfl (fun _ => ?_) (fun h => by cases h)
          refine AW_re (tyOf_good _) fun K' hK' => ?_
          repeat (refine sxf_next fun K2 hK2 => ?_; simp [dNum]; (repeat (refine ⟨by omega, ?_⟩)); refine hK2 _ ?_; clear hK2 K2)
          refine sxf_nil (hK' _ ?_)
          clear hK' K'
          refine hK5 _ (AW.norm [2, 3, 9, 14] [] (fun _ _ => trivial) (AW.st (by simp [dNum]; rfl) ?_))
          refine AW.st (show _ = (⟨lst [(2, int p), (3, int d), (9, .d (dF f0)), (14, int (badF k s p))], hlst []⟩ : St) by rw [hb] <;> rfl) ?_
          exact hrest.out
    · refine AW_then fun K6 hK6 => ?_
      refine AW_rg (tyOf_good _) [2, 3, 9, 14, 15] [] (fun _ _ => trivial) fun K' hK' => ?_
      repeat (refine sxf_next fun K2 hK2 => ?_; simp [dNum]; (repeat (refine ⟨by omega, ?_⟩)); refine hK2 _ ?_; clear hK2 K2)
      refine sxf_nil (hK' _ ?_)
      refine AW.st (by simp [dNum]; rfl) ?_
      clear hK' K'
      refine AW_for (S := Nat) (fun i => i ≤ d) (fun i => ⟨lst [(2, int p), (3, int d), (9, .d (dF (wrapN f0 i))), (14, int (badF k s p)), (15, int i)], hlst []⟩) (fun i => d - i) 0 ?_ (by omega) ?_
      · refine Imp.to' (fun _ _ => trivial) (by simp [dNum, wrapN]) (by simp [dNum, wrapN])
      · intro i hi
        refine AW_then fun K7 hK7 => ?_
        refine AW_rg (tyOf_good _) [2, 3, 9, 14, 15, 82] [] (fun _ _ => trivial) fun K' hK' => ?_
        repeat (refine sxf_next fun K2 hK2 => ?_; simp [dNum]; (repeat (refine ⟨by omega, ?_⟩)); refine hK2 _ ?_; clear hK2 K2)
        refine sxf_nil (hK' _ ?_)
        refine AW.st (by simp [dNum]; rfl) ?_
        clear hK' K'
        refine AW_cond' (b := i < d) (by simp [D.le, D.le.go, takeMap, dNum]) (fun hc => ?_) (fun hc => ?_)
        · refine AW_skip (hK7 _ ?_)
          refine AW_then fun K8 hK8 => ?_
          refine AW_block ?_
          obtain ⟨cells, hcl⟩ : ∃ c, dF (wrapN f0 i) = .ip c := by rw [← hf0]; exact wrap_ip ..
          refine AW_re (tyOf_good _) fun K' hK' => ?_
          repeat (refine sxf_next fun K2 hK2 => ?_; simp [dNum, hcl]; (repeat (refine ⟨by omega, ?_⟩)); refine hK2 _ ?_; clear hK2 K2)
          refine sxf_nil (hK' _ ?_)
          clear hK' K'
          refine hK8 _ (AW.norm [2, 3, 9, 14, 15] [86, 88] (fun _ _ => trivial) (AW.st (by simp [dNum, hcl]; rfl) ?_))
          refine AW.imp (Imp.freeze 86 trivial) ?_
          refine AW.st (by simp [dNum]; rfl) ?_
          refine AW.imp (Imp.freezeB 88 trivial) ?_
          refine AW.st (by simp [dNum]; rfl) ?_
          refine AW_re (tyOf_good _) fun K' hK' => ?_
          repeat (refine sxf_next fun K2 hK2 => ?_; simp [dNum]; (repeat (refine ⟨by omega, ?_⟩)); refine hK2 _ ?_; clear hK2 K2)
          refine sxf_nil (hK' _ ?_)
          clear hK' K'
          try simp only [thn, inb]
          refine Again.mk (i + 1) (by omega) (by omega) ?_
          refine Imp.to' (fun _ _ => trivial) (by simp [dNum, wrapN, dF, dFs_map, dS, bs_nil, ofK, hcl]) (by simp [dNum, wrapN, dF, dFs_map, dS, bs_nil, ofK, hcl])
        · obtain rfl : i = d := by omega
          refine AW_exit (hK6 _ ?_)
          refine AW_then fun K9 hK9 => ?_
          have hnw : namesOk (wrapN f0 i) := names_wrap f0 hn0 i
          have hRt := Right_spec G hA (wrapN f0 i) hnw
          rw [hlaw] at hRt
          have hBt := bare_spec G hG (tellE k s p i)
          have hRg := Right_spec G hA (.mk 4 [] [tr, .nil]) ⟨by decide, ⟨by decide, trivial⟩, trivial, trivial⟩
          have hRn := Right_spec G hA .nil trivial
          have hB7 := bare_spec G hG 7
          rw [show rightE (.mk 4 [] [tr, .nil]) = 7 from rfl] at hRg
          rw [show rightE .nil = 7 from rfl] at hRn
          have ht1 : 20 < (i : Int) + 1 → tellE k s p i = 4 := fun h => by unfold tellE; rw [if_pos (.inl (by omega))]
          have ht2 : badF k s p = 0 → (0 : Int) < p → 20 < (i : Int) + 2 → tellE k s p i = 4 := fun h1 h2 h3 => by unfold tellE; rw [if_pos (.inr ⟨h1, by omega, by omega⟩)]
          have ht3 : ¬ 20 < (i : Int) + 1 → badF k s p = 0 → ¬ 20 < (i : Int) + 2 → tellE k s p i = 0 := fun h h1 h2 => by unfold tellE; rw [if_neg (by omega), h1]
          have ht4 : ¬ 20 < (i : Int) + 1 → badF k s p = 0 → ¬ (0 : Int) < p → tellE k s p i = 0 := fun h h1 h2 => by unfold tellE; rw [if_neg (by omega), h1]
          have ht5 : ¬ 20 < (i : Int) + 1 → badF k s p ≠ 0 → tellE k s p i = badF k s p := fun h h1 => by unfold tellE; rw [if_neg (by omega)]
          refine' late (fun hrest => ?_) ?_
          rotate_left
          · by_cases hd20 : 20 < (i : Int) + 1
            · have ht := ht1 hd20
              refine AW_rg (tyOf_good _) [9, 14, 104] [] (fun _ _ => trivial) fun K' hK' => ?_
              repeat (refine sxf_next fun K2 hK2 => ?_; simp [dNum, hd20]; (repeat (refine ⟨by omega, ?_⟩)); refine hK2 _ ?_; clear hK2 K2)
              refine sxf_nil (hK' _ ?_)
              refine AW.st (by simp [dNum, hd20]; rfl) ?_
              clear hK' K'
              refine AW_cond true rfl (fun _ => ?_) (fun h => by cases h)
              refine AW_re (tyOf_good _) fun K' hK' => ?_
              repeat (refine sxf_next fun K2 hK2 => ?_; simp [dNum]; (repeat (refine ⟨by omega, ?_⟩)); refine hK2 _ ?_; clear hK2 K2)
              refine sxf_nil (hK' _ ?_)
              clear hK' K'
              refine hK9 _ (AW.norm [9, 14] [] (fun _ _ => trivial) (AW.st (by simp [dNum]; rfl) ?_))
              refine AW.st (show _ = (⟨lst [(9, .d (dF (wrapN f0 i))), (14, int (tellE k s p i))], hlst []⟩ : St) by rw [ht] <;> rfl) ?_
              exact hrest.out
            · by_cases hb0 : badF k s p = 0
              · by_cases hp0 : (0 : Int) < p
                · by_cases hd2 : 20 < (i : Int) + 2
                  · have ht := ht2 hb0 hp0 hd2
                    have hpn : 0 < p := by omega
                    refine AW_rg (tyOf_good _) [9, 14, 104] [] (fun _ _ => trivial) fun K' hK' => ?_
                    repeat (refine sxf_next fun K2 hK2 => ?_; simp [dNum, hd20, hb0, hpn, hp0, hd2]; (repeat (refine ⟨by omega, ?_⟩)); refine hK2 _ ?_; clear hK2 K2)
                    refine sxf_nil (hK' _ ?_)
                    refine AW.st (by simp [dNum, hd20, hb0, hpn, hp0, hd2]; rfl) ?_
                    clear hK' K'
                    refine AW_cond true rfl (fun _ => ?_) (fun h => by cases h)
                    refine AW_re (tyOf_good _) fun K' hK' => ?_
                    repeat (refine sxf_next fun K2 hK2 => ?_; simp [dNum]; (repeat (refine ⟨by omega, ?_⟩)); refine hK2 _ ?_; clear hK2 K2)
                    refine sxf_nil (hK' _ ?_)
                    clear hK' K'
                    refine hK9 _ (AW.norm [9, 14] [] (fun _ _ => trivial) (AW.st (by simp [dNum]; rfl) ?_))
                    refine AW.st (show _ = (⟨lst [(9, .d (dF (wrapN f0 i))), (14, int (tellE k s p i))], hlst []⟩ : St) by rw [ht] <;> rfl) ?_
                    exact hrest.out
                  · have ht := ht3 hd20 hb0 hd2
                    have hpn : 0 < p := by omega
                    refine AW_rg (tyOf_good _) [9, 14, 104] [] (fun _ _ => trivial) fun K' hK' => ?_
                    repeat (refine sxf_next fun K2 hK2 => ?_; simp [dNum, hd20, hb0, hpn, hp0, hd2]; (repeat (refine ⟨by omega, ?_⟩)); refine hK2 _ ?_; clear hK2 K2)
                    refine sxf_nil (hK' _ ?_)
                    refine AW.st (by simp [dNum, hd20, hb0, hpn, hp0, hd2]; rfl) ?_
                    clear hK' K'
                    refine AW_cond false rfl (fun h => by cases h) (fun _ => ?_)
                    refine AW_skip ?_
                    refine hK9 _ (AW.norm [9, 14] [] (fun _ _ => trivial) (AW.st (by simp [dNum]; rfl) ?_))
                    refine AW.st (show _ = (⟨lst [(9, .d (dF (wrapN f0 i))), (14, int (tellE k s p i))], hlst []⟩ : St) by rw [ht] <;> rfl) ?_
                    exact hrest.out
                · have ht := ht4 hd20 hb0 hp0
                  have hpn : ¬ 0 < p := by omega
                  refine AW_rg (tyOf_good _) [9, 14, 104] [] (fun _ _ => trivial) fun K' hK' => ?_
                  repeat (refine sxf_next fun K2 hK2 => ?_; simp [dNum, hd20, hb0, hpn, hp0]; (repeat (refine ⟨by omega, ?_⟩)); refine hK2 _ ?_; clear hK2 K2)
                  refine sxf_nil (hK' _ ?_)
                  refine AW.st (by simp [dNum, hd20, hb0, hpn, hp0]; rfl) ?_
                  clear hK' K'
                  refine AW_cond false rfl (fun h => by cases h) (fun _ => ?_)
                  refine AW_skip ?_
                  refine hK9 _ (AW.norm [9, 14] [] (fun _ _ => trivial) (AW.st (by simp [dNum]; rfl) ?_))
                  refine AW.st (show _ = (⟨lst [(9, .d (dF (wrapN f0 i))), (14, int (tellE k s p i))], hlst []⟩ : St) by rw [ht] <;> rfl) ?_
                  exact hrest.out
              · have ht := ht5 hd20 hb0
                refine AW_rg (tyOf_good _) [9, 14, 104] [] (fun _ _ => trivial) fun K' hK' => ?_
                repeat (refine sxf_next fun K2 hK2 => ?_; simp [dNum, hd20, hb0]; (repeat (refine ⟨by omega, ?_⟩)); refine hK2 _ ?_; clear hK2 K2)
                refine sxf_nil (hK' _ ?_)
                refine AW.st (by simp [dNum, hd20, hb0]; rfl) ?_
                clear hK' K'
                refine AW_cond false rfl (fun h => by cases h) (fun _ => ?_)
                refine AW_skip ?_
                refine hK9 _ (AW.norm [9, 14] [] (fun _ _ => trivial) (AW.st (by simp [dNum]; rfl) ?_))
                refine AW.st (show _ = (⟨lst [(9, .d (dF (wrapN f0 i))), (14, int (tellE k s p i))], hlst []⟩ : St) by rw [ht] <;> rfl) ?_
                exact hrest.out
          · refine AW_rg (tyOf_good _) [9, 14, 16] [107, 109] (fun _ _ => trivial) fun K' hK' => ?_
            repeat (refine sxf_next fun K2 hK2 => ?_; simp [dNum]; (repeat (refine ⟨by omega, ?_⟩)); refine hK2 _ ?_; clear hK2 K2)
            refine sxf_nil (hK' _ ?_)
            refine AW.st (by simp [dNum]; rfl) ?_
            clear hK' K'
            refine AW.imp (Imp.freeze 107 trivial) ?_
            refine AW.st (by simp [dNum]; rfl) ?_
            refine AW.imp (Imp.freezeB 109 trivial) ?_
            refine AW.st (by simp [dNum]; rfl) ?_
            refine AW_rg (tyOf_good _) [8] [] (fun _ _ => trivial) fun K' hK' => ?_
            repeat (refine sxf_next fun K2 hK2 => ?_; simp [dNum]; (repeat (refine ⟨by omega, ?_⟩)); refine hK2 _ ?_; clear hK2 K2)
            refine sxf_next fun K2 hK2 => ?_
            simp [dNum]
            refine callK.data (hRt) (by simp; rfl) (by first | exact D.leGo_refl _ | simp [takeMap, List.map_map, Function.comp_def, D.le, D.le.go, D.le_refl, D.leGo_refl, dNum]) ?_
            refine hK2 _ ?_
            clear hK2 K2
            simp only [putd, upd_lst]
            repeat (refine sxf_next fun K2 hK2 => ?_; simp [dNum]; (repeat (refine ⟨by omega, ?_⟩)); refine hK2 _ ?_; clear hK2 K2)
            refine sxf_next fun K2 hK2 => ?_
            simp [dNum]
            refine callK.data (hBt) (by simp; rfl) (by first | exact D.leGo_refl _ | simp [takeMap, List.map_map, Function.comp_def, D.le, D.le.go, D.le_refl, D.leGo_refl, dNum]) ?_
            refine hK2 _ ?_
            clear hK2 K2
            simp only [putd, upd_lst]
            repeat (refine sxf_next fun K2 hK2 => ?_; simp [dNum]; (repeat (refine ⟨by omega, ?_⟩)); refine hK2 _ ?_; clear hK2 K2)
            refine sxf_next fun K2 hK2 => ?_
            simp [dNum]
            refine callK.data (hRg) (by simp; rfl) (by first | exact D.leGo_refl _ | simp [takeMap, List.map_map, Function.comp_def, D.le, D.le.go, D.le_refl, D.leGo_refl, dNum]) ?_
            refine hK2 _ ?_
            clear hK2 K2
            simp only [putd, upd_lst]
            repeat (refine sxf_next fun K2 hK2 => ?_; simp [dNum]; (repeat (refine ⟨by omega, ?_⟩)); refine hK2 _ ?_; clear hK2 K2)
            refine sxf_next fun K2 hK2 => ?_
            simp [dNum]
            refine callK.data (hB7) (by simp; rfl) (by first | exact D.leGo_refl _ | simp [takeMap, List.map_map, Function.comp_def, D.le, D.le.go, D.le_refl, D.leGo_refl, dNum]) ?_
            refine hK2 _ ?_
            clear hK2 K2
            simp only [putd, upd_lst]
            repeat (refine sxf_next fun K2 hK2 => ?_; simp [dNum]; (repeat (refine ⟨by omega, ?_⟩)); refine hK2 _ ?_; clear hK2 K2)
            refine sxf_next fun K2 hK2 => ?_
            simp [dNum]
            refine callK.data (hRn) (by simp; rfl) (by first | exact D.leGo_refl _ | simp [takeMap, List.map_map, Function.comp_def, D.le, D.le.go, D.le_refl, D.leGo_refl, dNum]) ?_
            refine hK2 _ ?_
            clear hK2 K2
            simp only [putd, upd_lst]
            repeat (refine sxf_next fun K2 hK2 => ?_; simp [dNum]; (repeat (refine ⟨by omega, ?_⟩)); refine hK2 _ ?_; clear hK2 K2)
            refine sxf_next fun K2 hK2 => ?_
            simp [dNum]
            refine callK.data (hB7) (by simp; rfl) (by first | exact D.leGo_refl _ | simp [takeMap, List.map_map, Function.comp_def, D.le, D.le.go, D.le_refl, D.leGo_refl, dNum]) ?_
            refine hK2 _ ?_
            clear hK2 K2
            simp only [putd, upd_lst]
            repeat (refine sxf_next fun K2 hK2 => ?_; simp [dNum]; (repeat (refine ⟨by omega, ?_⟩)); refine hK2 _ ?_; clear hK2 K2)
            refine sxf_nil (hK' _ ?_)
            refine AW.st (by simp [dNum]; rfl) ?_
            clear hK' K'
            refine AW_ret ?_
            simp [D.le, D.le.go, takeMap, dNum]
#print axioms rights_few
end Go.Proofs.YtoikggboakojlaaDoor
