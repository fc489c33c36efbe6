/-
  Texts that belong together, in one file: P10, B8, B9, Sh1, T1, P15, P14, T2, T3, T4.
-/
import Derived.Test.YtblafkekblaibaaDoorLq4
import Derived.Test.YtblafkekblaibaaDoorProg
import Derived.Ground.NamesProg
import Derived.Shelf.Strings.OnBuilder
/-
  Plain facts of what holds now, and at the next time.
-/
namespace Go.Proofs.YtblafkekblaibaaDoor
set_option linter.unusedSimpArgs false
set_option linter.unusedVariables false

theorem right_up : ∀ (d : Nat) (f : Fm), (rightF d f).2 = 0 → rightF (d + 1) f = rightF d f
  | d, .nil, h => by cases d <;> simp [rightF] at h
  | 0, .mk k s l, h => by simp [rightF] at h
  | d + 1, .mk k s l, h => by
    have key : ∀ (l : List Fm) (n : Int), (rightL d l n).2 = 0 → rightL (d + 1) l n = rightL d l n := by
      intro l
      induction l with
      | nil => intro n _; simp [rightL]
      | cons f l ih =>
        intro n h
        rw [rightL] at h
        by_cases hf : (rightF d f).2 = 0
        · rw [if_neg (by simp [hf])] at h
          have h1 := right_up d f hf
          rw [rightL, rightL, h1, if_neg (by simp [hf]), if_neg (by simp [hf])]
          exact ih _ h
        · rw [if_pos hf] at h
          exact absurd h hf
    rw [rightF] at h
    by_cases hb : badF k s l.length = 0
    · rw [if_neg (by simp [hb])] at h
      rw [rightF, rightF, if_neg (by simp [hb]), if_neg (by simp [hb])]
      exact key l 1 h
    · rw [if_pos hb] at h
      exact absurd h hb
theorem right_mono {d : Nat} {f : Fm} (h : (rightF d f).2 = 0) : ∀ e, rightF (d + e) f = rightF d f
  | 0 => rfl
  | e + 1 => by
    have ih := right_mono h e
    rw [← Nat.add_assoc, right_up _ _ (by rw [ih]; exact h), ih]

theorem right_two {d : Nat} {k : Int} {f g : Fm} {n m : Int} (hb : badF k [] 2 = 0) (hf : rightF d f = (n, 0)) (hg : rightF d g = (m, 0)) : rightF (d + 1) (.mk k [] [f, g]) = (1 + n + m, 0) := by
  rw [rightF, if_neg (by simp [hb]), rightL, hf, if_neg (by simp), rightL, hg, if_neg (by simp), rightL]
theorem right_one {d : Nat} {k : Int} {f : Fm} {n : Int} (hb : badF k [] 1 = 0) (hf : rightF d f = (n, 0)) : rightF (d + 1) (.mk k [] [f]) = (1 + n, 0) := by
  rw [rightF, if_neg (by simp [hb]), rightL, hf, if_neg (by simp), rightL]
theorem right_two_inv {d : Nat} {k : Int} {f g : Fm} (h : (rightF (d + 1) (.mk k [] [f, g])).2 = 0) : (rightF d f).2 = 0 ∧ (rightF d g).2 = 0 := by
  rw [rightF] at h
  by_cases hb : badF k [] [f, g].length = 0
  · rw [if_neg (fun h' => h' hb)] at h
    exact ⟨right_at h f (by simp), right_at h g (by simp)⟩
  · rw [if_pos hb] at h
    exact absurd h hb
theorem right_one_inv {d : Nat} {k : Int} {f : Fm} (h : (rightF (d + 1) (.mk k [] [f])).2 = 0) : (rightF d f).2 = 0 := by
  rw [rightF] at h
  by_cases hb : badF k [] [f].length = 0
  · rw [if_neg (fun h' => h' hb)] at h
    exact right_at h f (by simp)
  · rw [if_pos hb] at h
    exact absurd h hb
theorem rightE_of {f : Fm} {n : Int} (h : rightF 20 f = (n, 0)) (hn : n ≤ 100) : rightE f = 0 := by
  unfold rightE
  rw [h]
  simp only [ne_eq, not_true_eq_false, if_false]
  rw [if_neg (by omega)]

section
variable (f g : Fm)
def uF : Fm := .mk 7 [] [f, g]
def rF : Fm := .mk 8 [] [f, g]
def eF : Fm := .mk 9 [] [f]
def alF : Fm := .mk 10 [] [f]
def nxt : Fm := .mk 6 [] [f]
def notF : Fm := .mk 3 [] [f]
def bigF : Fm := .mk 5 [] [g, .mk 4 [] [f, nxt (uF f g)]]
def relF : Fm := .mk 4 [] [g, .mk 5 [] [f, nxt (rF f g)]]
def evF : Fm := .mk 5 [] [f, nxt (eF f)]
def awF : Fm := .mk 4 [] [f, nxt (alF f)]
def neF : Fm := notF (eF (notF f))
end

/-- Where the greatest may be, all may be. -/
theorem grows_right {f g : Fm} (h : rightE (bigF f g) = 0) : rightE (uF f g) = 0 ∧ rightE (rF f g) = 0 ∧ rightE (relF f g) = 0 ∧ rightE (eF f) = 0 ∧ rightE (evF f) = 0 ∧ rightE (alF f) = 0 ∧ rightE (awF f) = 0 ∧ rightE (neF f) = 0 := by
  have h0 := rightE_ok h
  have h1 : (rightF 16 f).2 = 0 ∧ (rightF 16 g).2 = 0 := right_two_inv (right_one_inv (right_two_inv (right_two_inv h0).2).2)
  have hf := fun e => right_mono h1.1 e
  have hg := fun e => right_mono h1.2 e
  have hfp := right_bound 16 (by decide) f
  have hgp := right_bound 16 (by decide) g
  obtain ⟨n, hn⟩ : ∃ n, rightF 16 f = (n, 0) := ⟨(rightF 16 f).1, by rw [← h1.1]⟩
  obtain ⟨m, hm⟩ : ∃ m, rightF 16 g = (m, 0) := ⟨(rightF 16 g).1, by rw [← h1.2]⟩
  rw [hn] at hf hfp
  rw [hm] at hg hgp
  have hb : rightF 20 (bigF f g) = (1 + m + (1 + n + (1 + (1 + n + m))), 0) := right_two rfl (hg 3) (right_two rfl (hf 2) (right_one rfl (right_two rfl (hf 0) (hg 0))))
  have hlen : 4 + 2 * n + 2 * m ≤ 100 := by
    unfold rightE at h
    rw [hb] at h
    simp only [ne_eq, not_true_eq_false, if_false] at h
    split at h
    · cases h
    · omega
  dsimp only at hfp hgp
  refine ⟨rightE_of (right_two rfl (hf 3) (hg 3)) ?_, rightE_of (right_two rfl (hf 3) (hg 3)) ?_, rightE_of (right_two rfl (hg 3) (right_two rfl (hf 2) (right_one rfl (right_two rfl (hf 0) (hg 0))))) ?_,
    rightE_of (right_one rfl (hf 3)) ?_, rightE_of (right_two rfl (hf 3) (right_one rfl (right_one rfl (hf 1)))) ?_, rightE_of (right_one rfl (hf 3)) ?_, rightE_of (right_two rfl (hf 3) (right_one rfl (right_one rfl (hf 1)))) ?_, rightE_of (right_one rfl (right_one rfl (right_one rfl (hf 1)))) ?_⟩ <;> omega

section
variable (a r : Times) (hr : 0 < r.length) (f g : Fm)
theorem holds_get (k : Int) (s : List UInt8) (l : List Fm) {i : Nat} (hi : i < a.length + r.length) : (holdsF a r (.mk k s l)).getD i false = valF a r k s (holdsL a r l) i := by
  rw [holdsF]
  simp [List.getD_eq_getElem?_getD, hi]
theorem holds_same {k k' : Int} {l l' : List Fm} (h : ∀ i, i < a.length + r.length → valF a r k [] (holdsL a r l) i = valF a r k' [] (holdsL a r l') i) : holdsF a r (.mk k [] l) = holdsF a r (.mk k' [] l') := by
  rw [holdsF, holdsF]
  refine List.map_congr_left fun i hi => h i (List.mem_range.1 hi)
include hr
theorem nx_ok (i : Nat) (hi : i < a.length + r.length) : nxF a.length (a.length + r.length) i < a.length + r.length := nxF_lt (by omega) hi
theorem grows_until : holdsF a r (uF f g) = holdsF a r (bigF f g) := by
  refine holds_same a r fun i hi => ?_
  have hn := nx_ok a r hr i hi
  have e1 : valF a r 7 [] (holdsL a r [f, g]) i = ((holdsF a r g).getD i false || ((holdsF a r f).getD i false && valF a r 7 [] (holdsL a r [f, g]) (nxF a.length (a.length + r.length) i))) := by
    exact iterN_fix (now := fun i b => ([holdsF a r f, holdsF a r g].getD 1 []).getD i false || (([holdsF a r f, holdsF a r g].getD 0 []).getD i false && b)) (mono_or _ _) (nx_ok a r hr) hi
  have e2 : valF a r 5 [] (holdsL a r [g, .mk 4 [] [f, nxt (uF f g)]]) i = ((holdsF a r g).getD i false || (holdsF a r (.mk 4 [] [f, nxt (uF f g)])).getD i false) := rfl
  have e3 : valF a r 4 [] (holdsL a r [f, nxt (uF f g)]) i = ((holdsF a r f).getD i false && (holdsF a r (nxt (uF f g))).getD i false) := rfl
  have e4 : valF a r 6 [] (holdsL a r [uF f g]) i = (holdsF a r (uF f g)).getD (nxF a.length (a.length + r.length) i) false := rfl
  rw [e1, e2, holds_get a r _ _ _ hi, e3]
  unfold nxt
  rw [holds_get a r _ _ _ hi, e4]
  unfold uF
  rw [holds_get a r _ _ _ hn]
theorem grows_release : holdsF a r (rF f g) = holdsF a r (relF f g) := by
  refine holds_same a r fun i hi => ?_
  have hn := nx_ok a r hr i hi
  have e1 : valF a r 8 [] (holdsL a r [f, g]) i = ((holdsF a r g).getD i false && ((holdsF a r f).getD i false || valF a r 8 [] (holdsL a r [f, g]) (nxF a.length (a.length + r.length) i))) := by
    exact iterN_fix (now := fun i b => ([holdsF a r f, holdsF a r g].getD 1 []).getD i false && (([holdsF a r f, holdsF a r g].getD 0 []).getD i false || b)) (mono_and _ _) (nx_ok a r hr) hi
  have e2 : valF a r 4 [] (holdsL a r [g, .mk 5 [] [f, nxt (rF f g)]]) i = ((holdsF a r g).getD i false && (holdsF a r (.mk 5 [] [f, nxt (rF f g)])).getD i false) := rfl
  have e3 : valF a r 5 [] (holdsL a r [f, nxt (rF f g)]) i = ((holdsF a r f).getD i false || (holdsF a r (nxt (rF f g))).getD i false) := rfl
  have e4 : valF a r 6 [] (holdsL a r [rF f g]) i = (holdsF a r (rF f g)).getD (nxF a.length (a.length + r.length) i) false := rfl
  rw [e1, e2, holds_get a r _ _ _ hi, e3]
  unfold nxt
  rw [holds_get a r _ _ _ hi, e4]
  unfold rF
  rw [holds_get a r _ _ _ hn]
theorem grows_ever : holdsF a r (eF f) = holdsF a r (evF f) := by
  refine holds_same a r fun i hi => ?_
  have hn := nx_ok a r hr i hi
  have e1 : valF a r 9 [] (holdsL a r [f]) i = ((holdsF a r f).getD i false || valF a r 9 [] (holdsL a r [f]) (nxF a.length (a.length + r.length) i)) := by
    exact iterN_fix (now := fun i b => ([holdsF a r f].getD 0 []).getD i false || b) (mono_or1 _) (nx_ok a r hr) hi
  have e2 : valF a r 5 [] (holdsL a r [f, nxt (eF f)]) i = ((holdsF a r f).getD i false || (holdsF a r (nxt (eF f))).getD i false) := rfl
  have e4 : valF a r 6 [] (holdsL a r [eF f]) i = (holdsF a r (eF f)).getD (nxF a.length (a.length + r.length) i) false := rfl
  rw [e1, e2]
  unfold nxt
  rw [holds_get a r _ _ _ hi, e4]
  unfold eF
  rw [holds_get a r _ _ _ hn]
theorem grows_always : holdsF a r (alF f) = holdsF a r (awF f) := by
  refine holds_same a r fun i hi => ?_
  have hn := nx_ok a r hr i hi
  have e1 : valF a r 10 [] (holdsL a r [f]) i = ((holdsF a r f).getD i false && valF a r 10 [] (holdsL a r [f]) (nxF a.length (a.length + r.length) i)) := by
    exact iterN_fix (now := fun i b => ([holdsF a r f].getD 0 []).getD i false && b) (mono_and1 _) (nx_ok a r hr) hi
  have e2 : valF a r 4 [] (holdsL a r [f, nxt (alF f)]) i = ((holdsF a r f).getD i false && (holdsF a r (nxt (alF f))).getD i false) := rfl
  have e4 : valF a r 6 [] (holdsL a r [alF f]) i = (holdsF a r (alF f)).getD (nxF a.length (a.length + r.length) i) false := rfl
  rw [e1, e2]
  unfold nxt
  rw [holds_get a r _ _ _ hi, e4]
  unfold alF
  rw [holds_get a r _ _ _ hn]
theorem grows_never : holdsF a r (alF f) = holdsF a r (neF f) := by
  refine holds_same a r fun i hi => ?_
  have e1 : valF a r 10 [] (holdsL a r [f]) i = iterN (fun i b => (holdsF a r f).getD i false && b) (nxF a.length (a.length + r.length)) true (a.length + r.length) i := rfl
  have e2 : valF a r 3 [] (holdsL a r [eF (notF f)]) i = !(holdsF a r (eF (notF f))).getD i false := rfl
  have e3 : valF a r 9 [] (holdsL a r [notF f]) i = iterN (fun i b => (holdsF a r (notF f)).getD i false || b) (nxF a.length (a.length + r.length)) false (a.length + r.length) i := rfl
  rw [e1, e2]
  unfold eF
  rw [holds_get a r _ _ _ hi, e3]
  have key : ∀ k i, i < a.length + r.length → iterN (fun i b => (holdsF a r f).getD i false && b) (nxF a.length (a.length + r.length)) true k i = !iterN (fun i b => (holdsF a r (notF f)).getD i false || b) (nxF a.length (a.length + r.length)) false k i := by
    intro k
    induction k with
    | zero => intro i _; rfl
    | succ k ih =>
      intro i hi
      simp only [iterN]
      have e4 : valF a r 3 [] (holdsL a r [f]) i = !(holdsF a r f).getD i false := rfl
      rw [ih _ (nx_ok a r hr i hi), Bool.not_or]
      unfold notF
      rw [holds_get a r _ _ _ hi, e4, Bool.not_not]
  exact key _ i hi
end
end Go.Proofs.YtblafkekblaibaaDoor

/-
  signalcabinkeep's sameBools and lassoed.
-/
namespace Go.Proofs.YtblafkekblaibaaDoor
set_option linter.unusedSimpArgs false
set_option linter.unusedVariables false
open Go.Av

theorem takeB_step {l l' : List Bool} {n : Nat} (ht : l.take n = l'.take n) (h : n < l.length) (h' : n < l'.length) (he : l[n] = l'[n]) : l.take (n + 1) = l'.take (n + 1) := by
  rw [List.take_succ_eq_append_getElem h, List.take_succ_eq_append_getElem h', ht, he]
theorem takeB_all {l l' : List Bool} (hl : l.length = l'.length) (ht : l.take l.length = l'.take l.length) : l = l' := by
  rw [List.take_length, hl, List.take_length] at ht
  exact ht

set_option maxHeartbeats 1000000 in
theorem sameBools_spec (G : Glob) (l l' : List Bool) (h : l.length < 2^63) : PureC Tryd.prog G 20 [dBs l, dBs l'] (.v (.bool (l == l'))) := by
  refine PureC.of_body (tyOf_good _) Tryd.func20 rfl rfl (rs := [.tmp 4]) Tryd.results20 (by simp [Tryd.ntmps20]) fun X => ?_
  simp only [Tryd.ntmps20, List.map]
  refine AW_rg (tyOf_good _) [0, 1] [] (fun _ _ => trivial) fun K' hK' => ?_
  repeat (refine sxf_next fun K2 hK2 => ?_; simp [dB]; (repeat (refine ⟨by omega, ?_⟩)); refine hK2 _ ?_; clear hK2 K2)
  refine sxf_nil (hK' _ ?_)
  refine AW.st (by simp [dB]; rfl) ?_
  clear hK' K'
  refine AW_then fun K1 hK1 => ?_
  refine AW_rg (tyOf_good _) [0, 1, 10] [] (fun _ _ => trivial) fun K' hK' => ?_
  repeat (refine sxf_next fun K2 hK2 => ?_; simp [dB, dBs]; (repeat (refine ⟨by omega, ?_⟩)); refine hK2 _ ?_; clear hK2 K2)
  refine sxf_nil (hK' _ ?_)
  refine AW.st (by simp [dB, dBs]; rfl) ?_
  clear hK' K'
  refine AW_cond' (b := l.length ≠ l'.length) (by simp [D.le, D.le.go, takeMap, dB]) (fun hc => ?_) (fun hc => ?_)
  · refine AW_rg (tyOf_good _) [4] [] (fun _ _ => trivial) fun K' hK' => ?_
    repeat (refine sxf_next fun K2 hK2 => ?_; simp [dB]; (repeat (refine ⟨by omega, ?_⟩)); refine hK2 _ ?_; clear hK2 K2)
    refine sxf_nil (hK' _ ?_)
    refine AW.st (by simp [dB]; rfl) ?_
    clear hK' K'
    refine AW_ret ?_
    simp [D.le, D.le.go, takeMap, dB]
    intro e; subst e; simp at hc
  · refine AW_skip (hK1 _ ?_)
    have hl : l.length = l'.length := by simpa using hc
    refine AW_then fun K2 hK2 => ?_
    refine AW_rg (tyOf_good _) [0, 1, 5] [] (fun _ _ => trivial) fun K' hK' => ?_
    repeat (refine sxf_next fun K2 hK2 => ?_; simp [dB, dBs]; (repeat (refine ⟨by omega, ?_⟩)); refine hK2 _ ?_; clear hK2 K2)
    refine sxf_nil (hK' _ ?_)
    refine AW.st (by simp [dB, dBs]; rfl) ?_
    clear hK' K'
    refine AW_for (S := Nat) (fun n => n ≤ l.length ∧ l.take n = l'.take n) (fun n => ⟨lst [(0, .d (dBs l)), (1, .d (dBs l')), (5, int n)], hlst []⟩) (fun n => l.length - n) 0 ?_ (by simp) ?_
    · refine Imp.to' (fun _ _ => trivial) (by simp [dB, dBs]) (by simp [dB, dBs])
    · rintro n ⟨hn, ht⟩
      refine AW_then fun K3 hK3 => ?_
      refine AW_rg (tyOf_good _) [0, 1, 5, 14] [] (fun _ _ => trivial) fun K' hK' => ?_
      repeat (refine sxf_next fun K2 hK2 => ?_; simp [dB, dBs]; (repeat (refine ⟨by omega, ?_⟩)); refine hK2 _ ?_; clear hK2 K2)
      refine sxf_nil (hK' _ ?_)
      refine AW.st (by simp [dB, dBs]; rfl) ?_
      clear hK' K'
      refine AW_cond' (b := n < l.length) (by simp [D.le, D.le.go, takeMap, dB]) (fun hc => ?_) (fun hc => ?_)
      · refine AW_skip (hK3 _ ?_)
        refine AW_then fun K4 hK4 => ?_
        refine AW_block ?_
        have hnl : n < l.length := hc
        have hn' : n < l'.length := by omega
        cases he : (l[n] == l'[n]) with
        | false =>
          refine AW_rd (tyOf_good _) (by kernel_rfl) [0, 1, 5, 25] [] (fun _ _ => trivial) (by kernel_rfl) fun K' hK' => ?_
          repeat (refine sxd_next fun K2 hK2 => ?_; simp [dB, dBs, hnl, hn', he]; (repeat (refine ⟨by omega, ?_⟩)); refine hK2 _ ?_; clear hK2 K2)
          refine sxd_nil (hK' _ ?_)
          refine AW.st (by simp [dB, dBs, hnl, hn', he]; rfl) ?_
          clear hK' K'
          refine AW_cond true rfl (fun _ => ?_) (fun h => by cases h)
          refine AW_rg (tyOf_good _) [4] [] (fun _ _ => trivial) fun K' hK' => ?_
          repeat (refine sxf_next fun K2 hK2 => ?_; simp [dB]; (repeat (refine ⟨by omega, ?_⟩)); refine hK2 _ ?_; clear hK2 K2)
          refine sxf_nil (hK' _ ?_)
          refine AW.st (by simp [dB]; rfl) ?_
          clear hK' K'
          refine AW_ret ?_
          simp [D.le, D.le.go, takeMap, dB]
          intro e; subst e; simp at he
        | true =>
          have he2 : l[n] = l'[n] := by simpa using he
          refine AW_rd (tyOf_good _) (by kernel_rfl) [0, 1, 5, 25] [] (fun _ _ => trivial) (by kernel_rfl) fun K' hK' => ?_
          repeat (refine sxd_next fun K2 hK2 => ?_; simp [dB, dBs, hnl, hn', he2]; (repeat (refine ⟨by omega, ?_⟩)); refine hK2 _ ?_; clear hK2 K2)
          refine sxd_nil (hK' _ ?_)
          refine AW.st (by simp [dB, dBs, hnl, hn', he2]; rfl) ?_
          clear hK' K'
          refine AW_cond false rfl (fun h => by cases h) (fun _ => ?_)
          refine AW_skip ?_
          refine hK4 _ (AW.norm [0, 1, 5] [] (fun _ _ => trivial) (AW.st (by simp [dB]; rfl) ?_))
          refine AW_re (tyOf_good _) fun K' hK' => ?_
          repeat (refine sxf_next fun K2 hK2 => ?_; simp [dB]; (repeat (refine ⟨by omega, ?_⟩)); refine hK2 _ ?_; clear hK2 K2)
          refine sxf_nil (hK' _ ?_)
          clear hK' K'
          try simp only [thn, inb]
          refine Again.mk (n + 1) ⟨by omega, takeB_step ht hnl hn' he2⟩ (by omega) ?_
          refine Imp.to' (fun _ _ => trivial) (by simp [dB, dBs]) (by simp [dB, dBs])
      · refine AW_exit (hK2 _ ?_)
        refine AW_rg (tyOf_good _) [4] [] (fun _ _ => trivial) fun K' hK' => ?_
        repeat (refine sxf_next fun K2 hK2 => ?_; simp [dB]; (repeat (refine ⟨by omega, ?_⟩)); refine hK2 _ ?_; clear hK2 K2)
        refine sxf_nil (hK' _ ?_)
        refine AW.st (by simp [dB]; rfl) ?_
        clear hK' K'
        refine AW_ret ?_
        simp [D.le, D.le.go, takeMap, dB]
        have hnn : n = l.length := by omega
        subst hnn
        exact takeB_all hl ht

def wA : Times := [[[97]]]
def wR : Times := [[], [[98]]]
def fB : Fm := .mk 1 [98] []
def fAB : Fm := .mk 10 [] [.mk 9 [] [fB]]
theorem small_w : Small wA wR := ⟨by decide, by decide, by decide⟩

set_option maxHeartbeats 4000000 in
theorem lassoed_spec (G : Glob) (hA : HasArity G) : PureC Tryd.prog G 17 [] (.v (.bool true)) := by
  have h1 := Holds_good G hA wA wR small_w fAB (by simp [namesOk, namesOkL, fAB, fB]) (by rfl)
  have h2 := Holds_good G hA wA wR small_w fB (by simp [namesOk, namesOkL, fB]) (by rfl)
  rw [show holdsF wA wR fAB = [true, true, true] from rfl] at h1
  rw [show holdsF wA wR fB = [false, false, true] from rfl] at h2
  have hs1 := sameBools_spec G [true, true, true] [true, true, true] (by decide)
  have hs2 := sameBools_spec G [false, false, true] [false, false, true] (by decide)
  rw [beq_self_eq_true] at hs1 hs2
  have e1 : dW wA wR = .agg [.sl none [[.sl none [[.v (.string ⟨#[97]⟩)]]]], .sl none [[.sl none []], [.sl none [[.v (.string ⟨#[98]⟩)]]]]] := rfl
  have e2 : dF fB = .ip [dNum 1, .v (.string ⟨#[98]⟩), .sl (some false) []] := rfl
  have e3 : dF fAB = .ip [dNum 10, .v (.string ⟨#[]⟩), .sl none [[.ip [dNum 9, .v (.string ⟨#[]⟩), .sl none [[.ip [dNum 1, .v (.string ⟨#[98]⟩), .sl (some false) []]]]]]]] := rfl
  rw [e1, e3] at h1
  rw [e1, e2] at h2
  refine PureC.of_body (tyOf_good _) Tryd.func17 rfl rfl (rs := [.tmp 0]) Tryd.results17 (by simp [Tryd.ntmps17]) fun X => ?_
  simp only [Tryd.ntmps17, List.map]
  refine AW_rg (tyOf_good _) [] [] (fun _ _ => trivial) fun K' hK' => ?_
  repeat (refine sxf_next fun K2 hK2 => ?_; simp [dNum, dB, dBs]; (repeat (refine ⟨by omega, ?_⟩)); refine hK2 _ ?_; clear hK2 K2)
  refine sxf_nil (hK' _ ?_)
  refine AW.st (by simp [dNum, dB, dBs]; rfl) ?_
  clear hK' K'
  refine AW_rg (tyOf_good _) [1] [1, 9, 12] (fun _ _ => trivial) fun K' hK' => ?_
  repeat (refine sxf_next fun K2 hK2 => ?_; simp [dNum, dB, dBs]; (repeat (refine ⟨by omega, ?_⟩)); refine hK2 _ ?_; clear hK2 K2)
  refine sxf_nil (hK' _ ?_)
  refine AW.st (by simp [dNum, dB, dBs]; rfl) ?_
  clear hK' K'
  refine AW.imp (Imp.freeze 9 trivial) ?_
  refine AW.st (by simp [dNum, dB, dBs]; rfl) ?_
  refine AW.imp (Imp.freeze 12 trivial) ?_
  refine AW.st (by simp [dNum, dB, dBs]; rfl) ?_
  refine AW.imp (Imp.freezeB 1 trivial) ?_
  refine AW.st (by simp [dNum, dB, dBs]; rfl) ?_
  refine AW_rg (tyOf_good _) [1, 2] [15] (fun _ _ => trivial) fun K' hK' => ?_
  repeat (refine sxf_next fun K2 hK2 => ?_; simp [dNum, dB, dBs]; (repeat (refine ⟨by omega, ?_⟩)); refine hK2 _ ?_; clear hK2 K2)
  refine sxf_nil (hK' _ ?_)
  refine AW.st (by simp [dNum, dB, dBs]; rfl) ?_
  clear hK' K'
  refine AW.imp (Imp.freezeB 15 trivial) ?_
  refine AW.st (by simp [dNum, dB, dBs]; rfl) ?_
  refine AW_rg (tyOf_good _) [1, 2, 3] [17, 19, 20, 22] (fun _ _ => trivial) fun K' hK' => ?_
  repeat (refine sxf_next fun K2 hK2 => ?_; simp [dNum, dB, dBs]; (repeat (refine ⟨by omega, ?_⟩)); refine hK2 _ ?_; clear hK2 K2)
  refine sxf_nil (hK' _ ?_)
  refine AW.st (by simp [dNum, dB, dBs]; rfl) ?_
  clear hK' K'
  refine AW.imp (Imp.freeze 20 trivial) ?_
  refine AW.st (by simp [dNum, dB, dBs]; rfl) ?_
  refine AW.imp (Imp.freezeB 22 trivial) ?_
  refine AW.st (by simp [dNum, dB, dBs]; rfl) ?_
  refine AW_rg (tyOf_good _) [1, 2, 4, 5] [] (fun _ _ => trivial) fun K' hK' => ?_
  repeat (refine sxf_next fun K2 hK2 => ?_; simp [dNum, dB, dBs]; (repeat (refine ⟨by omega, ?_⟩)); refine hK2 _ ?_; clear hK2 K2)
  refine sxf_next fun K2 hK2 => ?_
  simp [dNum, dB, dBs]
  refine callK.data (h1) (by simp; rfl) (by first | exact D.leGo_refl _ | simp [takeMap, List.map_map, Function.comp_def, D.le, D.le.go, D.le_refl, D.leGo_refl, dNum, dB, dBs]) ?_
  refine hK2 _ ?_
  clear hK2 K2
  simp only [putd, upd_lst]
  repeat (refine sxf_next fun K2 hK2 => ?_; simp [dNum, dB, dBs]; (repeat (refine ⟨by omega, ?_⟩)); refine hK2 _ ?_; clear hK2 K2)
  refine sxf_nil (hK' _ ?_)
  refine AW.st (by simp [dNum, dB, dBs]; rfl) ?_
  clear hK' K'
  refine AW_rg (tyOf_good _) [4, 5, 6, 7] [] (fun _ _ => trivial) fun K' hK' => ?_
  repeat (refine sxf_next fun K2 hK2 => ?_; simp [dNum, dB, dBs]; (repeat (refine ⟨by omega, ?_⟩)); refine hK2 _ ?_; clear hK2 K2)
  refine sxf_next fun K2 hK2 => ?_
  simp [dNum, dB, dBs]
  refine callK.data (h2) (by simp; rfl) (by first | exact D.leGo_refl _ | simp [takeMap, List.map_map, Function.comp_def, D.le, D.le.go, D.le_refl, D.leGo_refl, dNum, dB, dBs]) ?_
  refine hK2 _ ?_
  clear hK2 K2
  simp only [putd, upd_lst]
  repeat (refine sxf_next fun K2 hK2 => ?_; simp [dNum, dB, dBs]; (repeat (refine ⟨by omega, ?_⟩)); refine hK2 _ ?_; clear hK2 K2)
  refine sxf_nil (hK' _ ?_)
  refine AW.st (by simp [dNum, dB, dBs]; rfl) ?_
  clear hK' K'
  refine AW_rg (tyOf_good _) [0] [] (fun _ _ => trivial) fun K' hK' => ?_
  repeat (refine sxf_next fun K2 hK2 => ?_; simp [dNum, dB, dBs]; (repeat (refine ⟨by omega, ?_⟩)); refine hK2 _ ?_; clear hK2 K2)
  refine sxf_next fun K2 hK2 => ?_
  simp [dNum, dB, dBs]
  refine callK.lend (hs1) (by simp; rfl) (by first | exact D.leGo_refl _ | simp [takeMap, List.map_map, Function.comp_def, D.le, D.le.go, D.le_refl, D.leGo_refl, dNum, dB, dBs]) (by simp [D.scalar]) ?_
  refine hK2 _ ?_
  clear hK2 K2
  simp only [putd, upd_lst]
  repeat (refine sxf_next fun K2 hK2 => ?_; simp [dNum, dB, dBs]; (repeat (refine ⟨by omega, ?_⟩)); refine hK2 _ ?_; clear hK2 K2)
  refine sxf_next fun K2 hK2 => ?_
  simp [dNum, dB, dBs]
  refine callK.lend (hs2) (by simp; rfl) (by first | exact D.leGo_refl _ | simp [takeMap, List.map_map, Function.comp_def, D.le, D.le.go, D.le_refl, D.leGo_refl, dNum, dB, dBs]) (by simp [D.scalar]) ?_
  refine hK2 _ ?_
  clear hK2 K2
  simp only [putd, upd_lst]
  repeat (refine sxf_next fun K2 hK2 => ?_; simp [dNum, dB, dBs]; (repeat (refine ⟨by omega, ?_⟩)); refine hK2 _ ?_; clear hK2 K2)
  refine sxf_nil (hK' _ ?_)
  refine AW.st (by simp [dNum, dB, dBs]; rfl) ?_
  clear hK' K'
  refine AW_ret ?_
  simp [D.le, D.le.go, takeMap, dNum, dB, dBs]
#print axioms lassoed_spec
end Go.Proofs.YtblafkekblaibaaDoor

/-
  LassoTurns: a round may be turned, and gone twice.
-/
namespace Go.Proofs.YtblafkekblaibaaDoor
set_option linter.unusedSimpArgs false
set_option linter.unusedVariables false
open Go.Av

theorem namesOkL_of : ∀ {l : List Fm}, (∀ f ∈ l, namesOk f) → namesOkL l
  | [], _ => trivial
  | f :: l, h => ⟨h f (by simp), namesOkL_of fun g hg => h g (by simp [hg])⟩
theorem names_step {all : List Fm} (ha : ∀ f ∈ all, namesOk f) {x : Stp} (hx : x.name.length < 2^60) : namesOk (stepF all x) := by
  have hg : ∀ i, namesOk (all.getD i .nil) := fun i => by
    rw [List.getD_eq_getElem?_getD]
    cases h : all[i]? with
    | none => trivial
    | some f => exact ha f (List.mem_of_getElem? h)
  unfold stepF
  repeat' split
  · exact ⟨by decide, trivial⟩
  · exact ⟨by simp, hg _, trivial⟩
  · exact ⟨by simp, hg _, hg _, trivial⟩
  · exact ⟨hx, trivial⟩
theorem names_all : ∀ (l : List Stp) (all : List Fm), (∀ x ∈ l, x.name.length < 2^60) → (∀ f ∈ all, namesOk f) → ∀ f ∈ allF l all, namesOk f
  | [], all, _, h => h
  | x :: l, all, hl, h => names_all l _ (fun y hy => hl y (by simp [hy])) fun f hf => by
    rcases List.mem_append.1 hf with hf | hf
    · exact h f hf
    · rw [List.mem_singleton] at hf; subst hf; exact names_step h (hl x (by simp))
theorem names_form (l : List Stp) (hl : ∀ x ∈ l, x.name.length < 2^60) : namesOk (formF l) := by
  unfold formF
  rw [List.getD_eq_getElem?_getD]
  cases h : (madeF l l.length)[l.length]? with
  | none => trivial
  | some f =>
    refine names_all _ _ (fun x hx => hl x (List.mem_of_mem_take hx)) (fun f hf => ?_) f (List.mem_of_getElem? h)
    rw [List.mem_singleton] at hf
    subst hf
    exact ⟨by decide, trivial⟩
theorem form_ip (l : List Stp) : ∃ c, dF (formF l) = .ip c := by
  have hlt : l.length < (madeF l l.length).length := by rw [madeF_len l (Nat.le_refl _)]; omega
  have : formF l = (madeF l l.length)[l.length]'hlt := by unfold formF; simp [hlt]
  rw [this]
  exact (madeF_mk l _ _ (List.getElem_mem _)).ip

theorem holdsF_len (a r : Times) {f : Fm} {c : List D} (h : dF f = .ip c) : (holdsF a r f).length = a.length + r.length := by
  cases f with
  | nil => simp [dF] at h
  | mk k s l => rw [holdsF, List.length_map, List.length_range]
theorem okTimes_append (x y : Times) : okTimes (x ++ y) = (okTimes x && okTimes y) := by unfold okTimes; rw [List.all_append]
theorem errOf_ne {c : Int} (h : c ≠ 0) : errOf c = some (c, none) := by unfold errOf; rw [if_neg h]

end Go.Proofs.YtblafkekblaibaaDoor

/-
  DERIVED: THE SHELF's CONTRACTS AT THIS DUMP, IN PLAIN WORDS (tools/lay-plain.mjs out of 'YtblafkekblaibaaDoorSh1s.lean', which tools/lay-shelf.mjs wrote): THE SAME DECLARATIONS UNDER THE SAME NAMES: 'import', 'namespace', 'open', 'def', 'theorem' AND NOTHING ELSE: no command of the shelf's: FOR A HAND-IN. Each laying: the table of numbers ('.._ren') and one theorem, a field a fact of the dump's own or the kernel's comparison; each contract: ONE APPLICATION.
-/
namespace Go.Proofs
open Go.Shelf
def Tryd.lays156_ren : Go.Shelf.Ren := ⟨fun | 156 => 51 | 165 => 74 | 166 => 75 | 169 => 76 | 240 => 87 | 241 => 88 | 276 => 99 | 277 => 100 | n => n, fun | 31 => 22 | 9 => 9 | 3 => 3 | 4 => 4 | 0 => 0 | 20 => 20 | 72 => 142 | 76 => 144 | 70 => 139 | 37 => 140 | 75 => 26 | 127 => 156 | 164 => 168 | 5 => 5 | 80 => 56 | n => n, fun | n => n⟩
theorem Tryd.lays156 : Go.Proofs.Lays.n156 Tryd.prog Tryd.lays156_ren := {
  mixed := by kernel_rfl
  f156 := Tryd.func51.trans (congrArg some (by kernel_rfl))
  f165 := Tryd.func74.trans (congrArg some (by kernel_rfl))
  f166 := Tryd.func75.trans (congrArg some (by kernel_rfl))
  f169 := Tryd.func76.trans (congrArg some (by kernel_rfl))
  f240 := Tryd.func87.trans (congrArg some (by kernel_rfl))
  f241 := Tryd.func88.trans (congrArg some (by kernel_rfl))
  f276 := Tryd.func99.trans (congrArg some (by kernel_rfl))
  f277 := Tryd.func100.trans (congrArg some (by kernel_rfl))
  t0 := Tryd.underlying0
  a0 := Tryd.isAgg0
  z0 := Tryd.sizeOf0
  v0 := Tryd.zeroValue0
  t3 := Tryd.underlying3
  a3 := Tryd.isAgg3
  z3 := Tryd.sizeOf3
  v3 := Tryd.zeroValue3
  t4 := Tryd.underlying4
  a4 := Tryd.isAgg4
  z4 := Tryd.sizeOf4
  v4 := Tryd.zeroValue4
  t9 := Tryd.underlying9
  a9 := Tryd.isAgg9
  z9 := Tryd.sizeOf9
  v9 := Tryd.zeroValue9
  t20 := Tryd.underlying20
  a20 := Tryd.isAgg20
  z20 := Tryd.sizeOf20
  v20 := Tryd.zeroValue20
  t31 := Tryd.underlying22
  a31 := Tryd.isAgg22
  z31 := Tryd.sizeOf22
  v31 := Tryd.zeroValue22
  t37 := Tryd.underlying140
  a37 := Tryd.isAgg140
  z37 := Tryd.sizeOf140
  v37 := Tryd.zeroValue140
  t70 := Tryd.underlying139
  a70 := Tryd.isAgg139
  z70 := Tryd.sizeOf139
  v70 := Tryd.zeroValue139
  t72 := Tryd.underlying142
  a72 := Tryd.isAgg142
  z72 := Tryd.sizeOf142
  v72 := Tryd.zeroValue142
  t75 := Tryd.underlying26
  a75 := Tryd.isAgg26
  z75 := Tryd.sizeOf26
  v75 := Tryd.zeroValue26
  t76 := Tryd.underlying144
  a76 := Tryd.isAgg144
  z76 := Tryd.sizeOf144
  v76 := Tryd.zeroValue144
  t127 := Tryd.underlying156
  a127 := Tryd.isAgg156
  z127 := Tryd.sizeOf156
  v127 := Tryd.zeroValue156
  t164 := Tryd.underlying168
  a164 := Tryd.isAgg168
  z164 := Tryd.sizeOf168
  v164 := Tryd.zeroValue168 }
theorem Tryd.Builder_Extra_156 : Builder.Extra Tryd.prog Tryd.lays156_ren := {
  sizeBuilder := by kernel_rfl
  liesBuilder := by kernel_rfl
  t5 := Tryd.underlying5
  a5 := Tryd.isAgg5
  z5 := Tryd.sizeOf5
  v5 := Tryd.zeroValue5
  infoByte := by kernel_rfl
  cellsByte := by kernel_rfl
  sizeByte := by kernel_rfl
  neB5 := by decide }
end Go.Proofs

/-
  Formulas as texts: strings.Join, lasso.text, lasso.Text.
-/
namespace Go.Proofs.YtblafkekblaibaaDoor
set_option linter.unusedSimpArgs false
set_option linter.unusedVariables false
open Go.Av
open Go.RowKit Go.Shelf Go.Lib

theorem bs_lit (l : List UInt8) : (⟨l.toArray⟩ : ByteArray) = bs l := rfl
theorem bs_append (a b : List UInt8) : bs a ++ bs b = bs (a ++ b) := ByteArray.ext (by simp [bs, ByteArray.data_append])
theorem binS_bs (a b : List UInt8) (h : a.length + b.length ≤ 9223372036854775807) : binS .add (bs a) (bs b) = some (True, .string (bs (a ++ b))) := by
  rw [binS, bs_append, bs_size, bs_size, eq_true h]

theorem join_spec (G : Glob) (l : List (List UInt8)) (sep : List UInt8) (hl : (Lib.join l sep).length ≤ 2^46) (hn : l.length ≤ 2^46) : PureC Tryd.prog G 51 [.sl none (l.map fun s => [dS s]), dS sep] (dS (Lib.join l sep)) := by
  refine PureC.of_calls (Fun.of Tryd.func51 rfl rfl) fun X w vs hsz hrd hgl => ?_
  obtain ⟨a, b, rfl⟩ : ∃ a b, vs = #[a, b] := by
    match vs, hsz with
    | ⟨[a, b]⟩, _ => exact ⟨a, b, rfl⟩
  have hb := (hrd 1 b _ rfl rfl).scalar
  subst hb
  have ha := hrd 0 a _ rfl rfl
  have none : ∀ (ad : Option Addr) (cap : Nat), l = [] → Calls Tryd.prog 51 #[.slice ad 0 cap, .string (bs sep)] w fun e w' => ∃ v, e = .returned v ∧ Grew w w' ∧ RD w' X v (dS (Lib.join l sep)) := fun ad cap h => by
    subst h
    have hcon := Any.strings_Join_none Tryd.lays156 Tryd.Builder_Extra_156 ad cap (bs sep) w
    exact hcon.mono fun e w' ⟨he, hw⟩ => ⟨_, he, hw ▸ Grew.refl w, .v _⟩
  rcases ha.sl_inv with ⟨rfl, hz, _⟩ | ⟨ad, cap, rfl, _, hc, hm, hr⟩
  · exact none _ _ (List.map_eq_nil_iff.1 hz)
  · rcases hr with hz | ⟨b0, off, sz, f, rfl, hX, hz, hs, hcell, hrr⟩
    · have h0 : l = [] := List.map_eq_nil_iff.1 hz
      have := none (some ad) cap h0
      rw [show (l.map fun s => [dS s]).length = 0 by rw [h0]; rfl]
      exact this
    · by_cases h0 : l = []
      · rw [show (l.map fun s => [dS s]).length = 0 by rw [h0]; rfl]
        exact none _ _ h0
      · have hpos : 0 < l.length := List.length_pos_iff.2 h0
        have hs1 : sz = 1 := (hs [dS l[0]] (List.mem_map.2 ⟨_, List.getElem_mem hpos, rfl⟩)).symm
        subst hs1
        simp only [List.length_map] at hcell hc ⊢
        have hc0 : ∀ (j : Nat) x, (l.map bs)[j]? = some x → w.cell? ⟨b0, off + j, .none⟩ = some (.string x) := fun j x hx => by
          rw [List.getElem?_map] at hx
          obtain ⟨s, hs', rfl⟩ := Option.map_eq_some_iff.1 hx
          have hj := (List.getElem?_eq_some_iff.1 hs').1
          have h1 := hcell j 0 hj (by decide)
          have h2 := (hrr j 0 [dS s] (dS s) (by rw [List.getElem?_map, hs']; rfl) rfl).scalar
          rw [Nat.mul_one, Nat.add_zero] at h1
          rw [h1, h2]
        have hbk : b0 < w.heap.size := cell_lt (hc0 0 (bs l[0]) (by simp [hpos]))
        have hml : (l.map bs).map (fun x => x.data.toList) = l := by
          rw [List.map_map]
          exact (List.map_congr_left fun s _ => rfl).trans (List.map_id _)
        have hlen : (Lib.join ((l.map bs).map (·.data.toList)) (bs sep).data.toList).length ≤ 140737488355328 := by
          rw [hml]
          show (Lib.join l sep).length ≤ _
          omega
        have hcon := Any.strings_Join Tryd.lays156 Tryd.Builder_Extra_156 b0 off cap (l.map bs) (bs sep) w hc0 hbk (by simp; omega) (by simpa using hc) hlen
        rw [hml, List.length_map] at hcon
        exact hcon.mono fun e w' ⟨he, hB⟩ => ⟨_, he, below_grew hB, .v _⟩
#print axioms join_spec

/-- What is written, by what is written of the parts. -/
def signF (k : Int) (s : List UInt8) (t : List (List UInt8)) : List UInt8 :=
  if k = 1 then s else if k = 2 then [116, 114, 117, 101] else if k = 3 then [33] ++ Lib.join t [] else if k = 6 then [88, 32] ++ Lib.join t [] else if k = 9 then [70, 32] ++ Lib.join t [] else if k = 10 then [71, 32] ++ Lib.join t []
  else if k = 4 then [40] ++ Lib.join t [32, 38, 32] ++ [41] else if k = 5 then [40] ++ Lib.join t [32, 124, 32] ++ [41] else if k = 7 then [40] ++ Lib.join t [32, 85, 32] ++ [41] else [40] ++ Lib.join t [32, 82, 32] ++ [41]
mutual
def textF : Fm → List UInt8
  | .nil => []
  | .mk k s l => signF k s (textL l)
def textL : List Fm → List (List UInt8)
  | [] => []
  | f :: l => textF f :: textL l
end
theorem textL_map : ∀ l, textL l = l.map textF
  | [] => rfl
  | f :: l => by rw [textL, textL_map l]; rfl
theorem lens_cons (x : List UInt8) (r : List (List UInt8)) : Lib.lens (x :: r) = x.length + Lib.lens r := by simp [Lib.lens]
theorem join_len (t : List (List UInt8)) (sep : List UInt8) : (Lib.join t sep).length ≤ sep.length * t.length + Lib.lens t := by
  cases t with
  | nil => simp [Lib.join_nil]
  | cons x r =>
    rw [Lib.join_length, List.length_cons, Nat.mul_add]
    omega
theorem name_len {s : List UInt8} (h : nameF s = true) : s.length ≤ 8 := by
  unfold nameF at h
  simp only [Bool.and_eq_true, decide_eq_true_eq] at h
  exact h.2.1
theorem sign_len {k : Int} {s : List UInt8} {t : List (List UInt8)} (hb : badF k s t.length = 0) : (signF k s t).length ≤ 8 + Lib.lens t := by
  have h3 : t.length ≤ 2 := by
    unfold badF at hb
    split at hb
    · cases hb
    · have := arity_two (show 1 ≤ k by omega) (show k ≤ 10 by omega)
      omega
  have j0 := join_len t []
  have j1 := join_len t [32, 38, 32]
  have j2 := join_len t [32, 124, 32]
  have j3 := join_len t [32, 85, 32]
  have j4 := join_len t [32, 82, 32]
  simp only [List.length_cons, List.length_nil, Nat.zero_mul, Nat.zero_add] at j0 j1 j2 j3 j4
  unfold signF
  by_cases h1 : k = 1
  · rw [if_pos h1]
    have : nameF s = true := by
      cases hn : nameF s with
      | true => rfl
      | false =>
        unfold badF at hb
        split at hb
        · cases hb
        · rw [if_pos ⟨h1, hn⟩] at hb; cases hb
    have := name_len this
    omega
  rw [if_neg h1]
  repeat' split
  all_goals simp only [List.length_append, List.length_cons, List.length_nil]; omega
theorem text_len : ∀ (d : Nat) (f : Fm), (rightF d f).2 = 0 → ((textF f).length : Int) ≤ 8 * (rightF d f).1
  | d, .nil, h => by cases d <;> simp [rightF] at h
  | 0, .mk k s l, h => by simp [rightF] at h
  | d + 1, .mk k s l, h => by
    have key : ∀ (l : List Fm) (n : Int), (rightL d l n).2 = 0 → (Lib.lens (textL l) : Int) ≤ 8 * ((rightL d l n).1 - n) := by
      intro l
      induction l with
      | nil => intro n _; simp [rightL, textL, Lib.lens]
      | cons f l ih =>
        intro n h
        rw [rightL] at h ⊢
        by_cases hf : (rightF d f).2 = 0
        · rw [if_neg (fun h' => h' hf)] at h ⊢
          have h1 := text_len d f hf
          have h2 := ih _ h
          rw [textL, lens_cons]
          simp only [Int.natCast_add]
          omega
        · rw [if_pos hf] at h
          exact absurd h hf
    rw [rightF] at h ⊢
    by_cases hb : badF k s l.length = 0
    · rw [if_neg (fun h' => h' hb)] at h ⊢
      have h1 := key l 1 h
      have h2 := sign_len (k := k) (s := s) (t := textL l) (by rw [textL_map, List.length_map]; exact hb)
      rw [textF]
      omega
    · rw [if_pos hb] at h
      exact absurd h hb

set_option maxHeartbeats 8000000 in
theorem text_spec (G : Glob) : ∀ (d : Nat), d ≤ 20 → ∀ (f : Fm), (rightF d f).2 = 0 → namesOk f → PureC Tryd.prog G 48 [dF f] (dS (textF f)) := by
  intro d
  induction d with
  | zero =>
    intro _ f h _
    cases f <;> simp [rightF] at h
  | succ d ih =>
    intro hd f h hnm
    cases f with
    | nil => simp [rightF] at h
    | mk k s l =>
      have hlf := text_len (d + 1) (.mk k s l) h
      have hbd := right_bound (d + 1) hd (.mk k s l)
      have hb : badF k s l.length = 0 := by
        rw [rightF] at h
        by_cases hb : badF k s l.length = 0
        · exact hb
        · rw [if_pos hb] at h; exact absurd h hb
      rw [rightF, if_neg (fun h' => h' hb)] at h
      have hch : ∀ g ∈ l, PureC Tryd.prog G 48 [dF g] (dS (textF g)) := fun g hg => ih (by omega) g (right_at h g hg) (namesOkL_mem hnm.2 g hg)
      have hip : ∀ g ∈ l, ∃ c, dF g = .ip c := fun g hg => by
        have h1 := right_at h g hg
        cases g with
        | nil => cases d <;> simp [rightF] at h1
        | mk k s l => exact ⟨_, rfl⟩
      clear ih h
      have hk : 1 ≤ k ∧ k ≤ 10 ∧ (l.length : Int) = arityF k := by
        unfold badF at hb
        split at hb
        · cases hb
        · omega
      obtain ⟨hk1, hk10, hlen⟩ := hk
      have ha2 := arity_two hk1 hk10
      have hl24 : (textF (.mk k s l)).length ≤ 2^30 := by omega
      clear hlf hbd
      rw [textF, textL_map] at hl24 ⊢
      refine PureC.of_body (tyOf_good _) Tryd.func48 rfl rfl (rs := [.tmp 2]) Tryd.results48 (by simp [Tryd.ntmps48]) fun X => ?_
      simp only [Tryd.ntmps48, List.map]
      refine AW_rg (tyOf_good _) [0] [] (fun _ _ => trivial) fun K' hK' => ?_
      repeat (refine sxf_next fun K2 hK2 => ?_; simp [dNum, dF, dFs_map]; (repeat (refine ⟨by omega, ?_⟩)); refine hK2 _ ?_; clear hK2 K2)
      refine sxf_nil (hK' _ ?_)
      refine AW.st (by simp [dNum, dF, dFs_map]; rfl) ?_
      clear hK' K'
      refine AW_rg (tyOf_good _) [0, 3] [] (fun _ _ => trivial) fun K' hK' => ?_
      repeat (refine sxf_next fun K2 hK2 => ?_; simp [dNum]; (repeat (refine ⟨by omega, ?_⟩)); refine hK2 _ ?_; clear hK2 K2)
      refine sxf_nil (hK' _ ?_)
      refine AW.st (by simp [dNum]; rfl) ?_
      clear hK' K'
      refine AW_then fun K1 hK1 => ?_
      refine AW_rg (tyOf_good _) [0, 3, 9, 10, 11] [] (fun _ _ => trivial) fun K' hK' => ?_
      repeat (refine sxf_next fun K2 hK2 => ?_; simp [dNum]; (repeat (refine ⟨by omega, ?_⟩)); refine hK2 _ ?_; clear hK2 K2)
      refine sxf_nil (hK' _ ?_)
      refine AW.st (by simp [dNum]; rfl) ?_
      clear hK' K'
      refine AW_for (S := Nat) (fun i => i ≤ l.length) (fun i => ⟨lst [(0, .d (.ip [dNum k, dS s, .sl (ofK l) (l.map fun f => [dF f])])), (3, .own 300 0 i), (9, .d (.sl (ofK l) (l.map fun f => [dF f]))), (10, int l.length), (11, int i)], hlst [(300, .sl 9 1 (List.take i (l.map fun f => [dS (textF f)])))]⟩) (fun i => l.length - i) 0 ?_ (by omega) ?_
      · refine (Imp.adopt 3 300 9 1 rfl rfl).trans ?_
        refine Imp.to' (fun _ _ => trivial) (by simp [dNum]) (by simp [dNum])
      · intro i hi
        refine AW_rg (tyOf_good _) [0, 3, 9, 10, 11, 12] [300] (fun _ _ => trivial) fun K' hK' => ?_
        repeat (refine sxf_next fun K2 hK2 => ?_; simp [dNum]; (repeat (refine ⟨by omega, ?_⟩)); refine hK2 _ ?_; clear hK2 K2)
        refine sxf_nil (hK' _ ?_)
        refine AW.st (by simp [dNum]; rfl) ?_
        clear hK' K'
        refine AW_then fun K2 hK2 => ?_
        refine AW_cond' (b := i < l.length) (by simp [D.le, D.le.go, takeMap, dNum]) (fun hc => ?_) (fun hc => ?_)
        · have hil : i < l.length := hc
          obtain ⟨ci, hci⟩ := hip _ (List.getElem_mem hil)
          have hcc := hch _ (List.getElem_mem hil)
          rw [hci] at hcc
          have htk : ∀ g : Fm → List D, List.take (i + 1) (List.map g l) = List.take i (List.map g l) ++ [g l[i]] := fun g => by
            rw [List.take_succ_eq_append_getElem (by simp; exact hil), List.getElem_map]
          refine AW_skip (hK2 _ ?_)
          refine AW_then fun K3 hK3 => ?_
          refine AW_block ?_
          refine AW_rg (tyOf_good _) [0, 3, 5, 9, 10, 11] [300] (fun _ _ => trivial) fun K' hK' => ?_
          repeat (refine sxf_next fun K2 hK2 => ?_; simp [dNum, hil, hci]; (repeat (refine ⟨by omega, ?_⟩)); refine hK2 _ ?_; clear hK2 K2)
          refine sxf_nil (hK' _ ?_)
          refine AW.st (by simp [dNum, hil, hci]; rfl) ?_
          clear hK' K'
          refine AW_re (tyOf_good _) fun K' hK' => ?_
          repeat (refine sxf_next fun K2 hK2 => ?_; simp [dNum, dS, List.take_take]; (repeat (refine ⟨by omega, ?_⟩)); refine hK2 _ ?_; clear hK2 K2)
          refine sxf_next fun K2 hK2 => ?_
          simp [dNum, dS, List.take_take]
          refine callK.data (hcc) (by simp; rfl) (by first | exact D.leGo_refl _ | simp [takeMap, List.map_map, Function.comp_def, D.le, D.le.go, D.le_refl, D.leGo_refl, dNum, dS, List.take_take]) ?_
          refine hK2 _ ?_
          clear hK2 K2
          simp only [putd, upd_lst]
          repeat (refine sxf_next fun K2 hK2 => ?_; simp [dNum, dS, List.take_take]; (repeat (refine ⟨by omega, ?_⟩)); refine hK2 _ ?_; clear hK2 K2)
          refine sxf_nil (hK' _ ?_)
          clear hK' K'
          refine hK3 _ (AW.norm [0, 3, 9, 10, 11] [300] (fun _ _ => trivial) (AW.st (by simp [dNum, dS, List.take_take]; rfl) ?_))
          refine AW_re (tyOf_good _) fun K' hK' => ?_
          repeat (refine sxf_next fun K2 hK2 => ?_; simp [dNum]; (repeat (refine ⟨by omega, ?_⟩)); refine hK2 _ ?_; clear hK2 K2)
          refine sxf_nil (hK' _ ?_)
          clear hK' K'
          try simp only [thn, inb]
          refine Again.mk (i + 1) (by omega) (by omega) ?_
          refine Imp.to' (fun _ _ => trivial) (by simp [dNum, htk, dS]) (by simp [dNum, htk, dS])
        · obtain rfl : i = l.length := by omega
          refine AW_exit (hK1 _ ?_)
          have htkl : ∀ g : Fm → List D, List.take l.length (l.map g) = l.map g := fun g => List.take_of_length_le (by simp)
          refine AW.imp (Imp.freeze 300 trivial) ?_
          refine AW.st (by simp [dNum, htkl]; rfl) ?_
          have hjoin := fun sep h => join_spec G (l.map textF) sep h (by simp; omega)
          rw [show ((l.map textF).map fun s => [dS s]) = l.map fun f => [dS (textF f)] by rw [List.map_map]; rfl] at hjoin
          refine AW_then fun K4 hK4 => ?_
          refine AW_rg (tyOf_good _) [0, 3, 24] [] (fun _ _ => trivial) fun K' hK' => ?_
          repeat (refine sxf_next fun K2 hK2 => ?_; simp [dNum]; (repeat (refine ⟨by omega, ?_⟩)); refine hK2 _ ?_; clear hK2 K2)
          refine sxf_nil (hK' _ ?_)
          refine AW.st (by simp [dNum]; rfl) ?_
          clear hK' K'
          refine AW_block ?_
          generalize l.map textF = t at hjoin hl24 ⊢
          generalize (l.map fun f => [dS (textF f)]) = T at hjoin
          have hks : k = 1 ∨ k = 2 ∨ k = 3 ∨ k = 4 ∨ k = 5 ∨ k = 6 ∨ k = 7 ∨ k = 8 ∨ k = 9 ∨ k = 10 := by omega
          rcases hks with rfl | rfl | rfl | rfl | rfl | rfl | rfl | rfl | rfl | rfl
          · clear hjoin
            refine AW_rg (tyOf_good _) [0, 3, 24, 25] [] (fun _ _ => trivial) fun K' hK' => ?_
            repeat (refine sxf_next fun K2 hK2 => ?_; simp [dNum]; (repeat (refine ⟨by omega, ?_⟩)); refine hK2 _ ?_; clear hK2 K2)
            refine sxf_nil (hK' _ ?_)
            refine AW.st (by simp [dNum]; rfl) ?_
            clear hK' K'
            refine AW_cond true rfl (fun _ => ?_) (fun h => by cases h)
            refine AW_rg (tyOf_good _) [2] [] (fun _ _ => trivial) fun K' hK' => ?_
            repeat (refine sxf_next fun K2 hK2 => ?_; simp [dNum, dS]; (repeat (refine ⟨by omega, ?_⟩)); refine hK2 _ ?_; clear hK2 K2)
            refine sxf_nil (hK' _ ?_)
            refine AW.st (by simp [dNum, dS]; rfl) ?_
            clear hK' K'
            refine AW_ret ?_
            simp [D.le, D.le.go, takeMap, dNum, signF, bs_append, dS]
          · clear hjoin
            refine AW_rg (tyOf_good _) [0, 3, 24, 25] [] (fun _ _ => trivial) fun K' hK' => ?_
            repeat (refine sxf_next fun K2 hK2 => ?_; simp [dNum]; (repeat (refine ⟨by omega, ?_⟩)); refine hK2 _ ?_; clear hK2 K2)
            refine sxf_nil (hK' _ ?_)
            refine AW.st (by simp [dNum]; rfl) ?_
            clear hK' K'
            refine AW_cond false rfl (fun h => by cases h) (fun _ => ?_)
            refine AW_rg (tyOf_good _) [3, 24, 31] [] (fun _ _ => trivial) fun K' hK' => ?_
            repeat (refine sxf_next fun K2 hK2 => ?_; simp [dNum]; (repeat (refine ⟨by omega, ?_⟩)); refine hK2 _ ?_; clear hK2 K2)
            refine sxf_nil (hK' _ ?_)
            refine AW.st (by simp [dNum]; rfl) ?_
            clear hK' K'
            refine AW_cond true rfl (fun _ => ?_) (fun h => by cases h)
            refine AW_rg (tyOf_good _) [2] [] (fun _ _ => trivial) fun K' hK' => ?_
            repeat (refine sxf_next fun K2 hK2 => ?_; simp [dNum, dS]; (repeat (refine ⟨by omega, ?_⟩)); refine hK2 _ ?_; clear hK2 K2)
            refine sxf_nil (hK' _ ?_)
            refine AW.st (by simp [dNum, dS]; rfl) ?_
            clear hK' K'
            refine AW_ret ?_
            simp [D.le, D.le.go, takeMap, dNum, signF, bs_append, dS, bs_lit]
          · have hj := hjoin [] (by simp [signF] at hl24; omega)
            refine AW_rg (tyOf_good _) [0, 3, 24, 25] [] (fun _ _ => trivial) fun K' hK' => ?_
            repeat (refine sxf_next fun K2 hK2 => ?_; simp [dNum]; (repeat (refine ⟨by omega, ?_⟩)); refine hK2 _ ?_; clear hK2 K2)
            refine sxf_nil (hK' _ ?_)
            refine AW.st (by simp [dNum]; rfl) ?_
            clear hK' K'
            refine AW_cond false rfl (fun h => by cases h) (fun _ => ?_)
            refine AW_rg (tyOf_good _) [3, 24, 31] [] (fun _ _ => trivial) fun K' hK' => ?_
            repeat (refine sxf_next fun K2 hK2 => ?_; simp [dNum]; (repeat (refine ⟨by omega, ?_⟩)); refine hK2 _ ?_; clear hK2 K2)
            refine sxf_nil (hK' _ ?_)
            refine AW.st (by simp [dNum]; rfl) ?_
            clear hK' K'
            refine AW_cond false rfl (fun h => by cases h) (fun _ => ?_)
            refine AW_rg (tyOf_good _) [3, 24, 33] [] (fun _ _ => trivial) fun K' hK' => ?_
            repeat (refine sxf_next fun K2 hK2 => ?_; simp [dNum]; (repeat (refine ⟨by omega, ?_⟩)); refine hK2 _ ?_; clear hK2 K2)
            refine sxf_nil (hK' _ ?_)
            refine AW.st (by simp [dNum]; rfl) ?_
            clear hK' K'
            refine AW_cond true rfl (fun _ => ?_) (fun h => by cases h)
            have h1 : binS .add ⟨#[33]⟩ (bs (Lib.join t [])) = some (True, .string (bs (33 :: Lib.join t []))) := binS_bs [33] _ (by simp [signF] at hl24 ⊢; omega)
            refine AW_rg (tyOf_good _) [2] [] (fun _ _ => trivial) fun K' hK' => ?_
            repeat (refine sxf_next fun K2 hK2 => ?_; simp [dNum, dS, h1]; (repeat (refine ⟨by omega, ?_⟩)); refine hK2 _ ?_; clear hK2 K2)
            refine sxf_next fun K2 hK2 => ?_
            simp [dNum, dS, h1]
            refine callK.data (hj) (by simp; rfl) (by first | exact D.leGo_refl _ | simp [takeMap, List.map_map, Function.comp_def, D.le, D.le.go, D.le_refl, D.leGo_refl, dNum, dS, h1]) ?_
            refine hK2 _ ?_
            clear hK2 K2
            simp only [putd, upd_lst]
            repeat (refine sxf_next fun K2 hK2 => ?_; simp [dNum, dS, h1]; (repeat (refine ⟨by omega, ?_⟩)); refine hK2 _ ?_; clear hK2 K2)
            refine sxf_nil (hK' _ ?_)
            refine AW.st (by simp [dNum, dS, h1]; rfl) ?_
            clear hK' K'
            refine AW_ret ?_
            simp [D.le, D.le.go, takeMap, dNum, signF, bs_append, dS]
          · have hj := hjoin [32, 38, 32] (by simp [signF] at hl24; omega)
            refine AW_rg (tyOf_good _) [0, 3, 24, 25] [] (fun _ _ => trivial) fun K' hK' => ?_
            repeat (refine sxf_next fun K2 hK2 => ?_; simp [dNum]; (repeat (refine ⟨by omega, ?_⟩)); refine hK2 _ ?_; clear hK2 K2)
            refine sxf_nil (hK' _ ?_)
            refine AW.st (by simp [dNum]; rfl) ?_
            clear hK' K'
            refine AW_cond false rfl (fun h => by cases h) (fun _ => ?_)
            refine AW_rg (tyOf_good _) [3, 24, 31] [] (fun _ _ => trivial) fun K' hK' => ?_
            repeat (refine sxf_next fun K2 hK2 => ?_; simp [dNum]; (repeat (refine ⟨by omega, ?_⟩)); refine hK2 _ ?_; clear hK2 K2)
            refine sxf_nil (hK' _ ?_)
            refine AW.st (by simp [dNum]; rfl) ?_
            clear hK' K'
            refine AW_cond false rfl (fun h => by cases h) (fun _ => ?_)
            refine AW_rg (tyOf_good _) [3, 24, 33] [] (fun _ _ => trivial) fun K' hK' => ?_
            repeat (refine sxf_next fun K2 hK2 => ?_; simp [dNum]; (repeat (refine ⟨by omega, ?_⟩)); refine hK2 _ ?_; clear hK2 K2)
            refine sxf_nil (hK' _ ?_)
            refine AW.st (by simp [dNum]; rfl) ?_
            clear hK' K'
            refine AW_cond false rfl (fun h => by cases h) (fun _ => ?_)
            refine AW_rg (tyOf_good _) [3, 24, 38] [] (fun _ _ => trivial) fun K' hK' => ?_
            repeat (refine sxf_next fun K2 hK2 => ?_; simp [dNum]; (repeat (refine ⟨by omega, ?_⟩)); refine hK2 _ ?_; clear hK2 K2)
            refine sxf_nil (hK' _ ?_)
            refine AW.st (by simp [dNum]; rfl) ?_
            clear hK' K'
            refine AW_cond false rfl (fun h => by cases h) (fun _ => ?_)
            refine AW_rg (tyOf_good _) [3, 24, 43] [] (fun _ _ => trivial) fun K' hK' => ?_
            repeat (refine sxf_next fun K2 hK2 => ?_; simp [dNum]; (repeat (refine ⟨by omega, ?_⟩)); refine hK2 _ ?_; clear hK2 K2)
            refine sxf_nil (hK' _ ?_)
            refine AW.st (by simp [dNum]; rfl) ?_
            clear hK' K'
            refine AW_cond false rfl (fun h => by cases h) (fun _ => ?_)
            refine AW_rg (tyOf_good _) [3, 24, 48] [] (fun _ _ => trivial) fun K' hK' => ?_
            repeat (refine sxf_next fun K2 hK2 => ?_; simp [dNum]; (repeat (refine ⟨by omega, ?_⟩)); refine hK2 _ ?_; clear hK2 K2)
            refine sxf_nil (hK' _ ?_)
            refine AW.st (by simp [dNum]; rfl) ?_
            clear hK' K'
            refine AW_cond false rfl (fun h => by cases h) (fun _ => ?_)
            refine AW_rg (tyOf_good _) [3, 24, 53] [] (fun _ _ => trivial) fun K' hK' => ?_
            repeat (refine sxf_next fun K2 hK2 => ?_; simp [dNum]; (repeat (refine ⟨by omega, ?_⟩)); refine hK2 _ ?_; clear hK2 K2)
            refine sxf_nil (hK' _ ?_)
            refine AW.st (by simp [dNum]; rfl) ?_
            clear hK' K'
            refine AW_cond true rfl (fun _ => ?_) (fun h => by cases h)
            have h1 : binS .add ⟨#[40]⟩ (bs (Lib.join t [32, 38, 32])) = some (True, .string (bs (40 :: Lib.join t [32, 38, 32]))) := binS_bs [40] _ (by simp [signF] at hl24 ⊢; omega)
            have h2 : binS .add (bs (40 :: Lib.join t [32, 38, 32])) ⟨#[41]⟩ = some (True, .string (bs (40 :: (Lib.join t [32, 38, 32] ++ [41])))) := binS_bs (40 :: Lib.join t [32, 38, 32]) [41] (by simp [signF] at hl24 ⊢; omega)
            refine AW_rg (tyOf_good _) [2] [] (fun _ _ => trivial) fun K' hK' => ?_
            repeat (refine sxf_next fun K2 hK2 => ?_; simp [dNum, dS, h1, h2]; (repeat (refine ⟨by omega, ?_⟩)); refine hK2 _ ?_; clear hK2 K2)
            refine sxf_next fun K2 hK2 => ?_
            simp [dNum, dS, h1, h2]
            refine callK.data (hj) (by simp; rfl) (by first | exact D.leGo_refl _ | simp [takeMap, List.map_map, Function.comp_def, D.le, D.le.go, D.le_refl, D.leGo_refl, dNum, dS, h1, h2]) ?_
            refine hK2 _ ?_
            clear hK2 K2
            simp only [putd, upd_lst]
            repeat (refine sxf_next fun K2 hK2 => ?_; simp [dNum, dS, h1, h2]; (repeat (refine ⟨by omega, ?_⟩)); refine hK2 _ ?_; clear hK2 K2)
            refine sxf_nil (hK' _ ?_)
            refine AW.st (by simp [dNum, dS, h1, h2]; rfl) ?_
            clear hK' K'
            refine AW_ret ?_
            simp [D.le, D.le.go, takeMap, dNum, signF, bs_append, dS]
          · have hj := hjoin [32, 124, 32] (by simp [signF] at hl24; omega)
            refine AW_rg (tyOf_good _) [0, 3, 24, 25] [] (fun _ _ => trivial) fun K' hK' => ?_
            repeat (refine sxf_next fun K2 hK2 => ?_; simp [dNum]; (repeat (refine ⟨by omega, ?_⟩)); refine hK2 _ ?_; clear hK2 K2)
            refine sxf_nil (hK' _ ?_)
            refine AW.st (by simp [dNum]; rfl) ?_
            clear hK' K'
            refine AW_cond false rfl (fun h => by cases h) (fun _ => ?_)
            refine AW_rg (tyOf_good _) [3, 24, 31] [] (fun _ _ => trivial) fun K' hK' => ?_
            repeat (refine sxf_next fun K2 hK2 => ?_; simp [dNum]; (repeat (refine ⟨by omega, ?_⟩)); refine hK2 _ ?_; clear hK2 K2)
            refine sxf_nil (hK' _ ?_)
            refine AW.st (by simp [dNum]; rfl) ?_
            clear hK' K'
            refine AW_cond false rfl (fun h => by cases h) (fun _ => ?_)
            refine AW_rg (tyOf_good _) [3, 24, 33] [] (fun _ _ => trivial) fun K' hK' => ?_
            repeat (refine sxf_next fun K2 hK2 => ?_; simp [dNum]; (repeat (refine ⟨by omega, ?_⟩)); refine hK2 _ ?_; clear hK2 K2)
            refine sxf_nil (hK' _ ?_)
            refine AW.st (by simp [dNum]; rfl) ?_
            clear hK' K'
            refine AW_cond false rfl (fun h => by cases h) (fun _ => ?_)
            refine AW_rg (tyOf_good _) [3, 24, 38] [] (fun _ _ => trivial) fun K' hK' => ?_
            repeat (refine sxf_next fun K2 hK2 => ?_; simp [dNum]; (repeat (refine ⟨by omega, ?_⟩)); refine hK2 _ ?_; clear hK2 K2)
            refine sxf_nil (hK' _ ?_)
            refine AW.st (by simp [dNum]; rfl) ?_
            clear hK' K'
            refine AW_cond false rfl (fun h => by cases h) (fun _ => ?_)
            refine AW_rg (tyOf_good _) [3, 24, 43] [] (fun _ _ => trivial) fun K' hK' => ?_
            repeat (refine sxf_next fun K2 hK2 => ?_; simp [dNum]; (repeat (refine ⟨by omega, ?_⟩)); refine hK2 _ ?_; clear hK2 K2)
            refine sxf_nil (hK' _ ?_)
            refine AW.st (by simp [dNum]; rfl) ?_
            clear hK' K'
            refine AW_cond false rfl (fun h => by cases h) (fun _ => ?_)
            refine AW_rg (tyOf_good _) [3, 24, 48] [] (fun _ _ => trivial) fun K' hK' => ?_
            repeat (refine sxf_next fun K2 hK2 => ?_; simp [dNum]; (repeat (refine ⟨by omega, ?_⟩)); refine hK2 _ ?_; clear hK2 K2)
            refine sxf_nil (hK' _ ?_)
            refine AW.st (by simp [dNum]; rfl) ?_
            clear hK' K'
            refine AW_cond false rfl (fun h => by cases h) (fun _ => ?_)
            refine AW_rg (tyOf_good _) [3, 24, 53] [] (fun _ _ => trivial) fun K' hK' => ?_
            repeat (refine sxf_next fun K2 hK2 => ?_; simp [dNum]; (repeat (refine ⟨by omega, ?_⟩)); refine hK2 _ ?_; clear hK2 K2)
            refine sxf_nil (hK' _ ?_)
            refine AW.st (by simp [dNum]; rfl) ?_
            clear hK' K'
            refine AW_cond false rfl (fun h => by cases h) (fun _ => ?_)
            refine AW_rg (tyOf_good _) [3, 24, 59] [] (fun _ _ => trivial) fun K' hK' => ?_
            repeat (refine sxf_next fun K2 hK2 => ?_; simp [dNum]; (repeat (refine ⟨by omega, ?_⟩)); refine hK2 _ ?_; clear hK2 K2)
            refine sxf_nil (hK' _ ?_)
            refine AW.st (by simp [dNum]; rfl) ?_
            clear hK' K'
            refine AW_cond true rfl (fun _ => ?_) (fun h => by cases h)
            have h1 : binS .add ⟨#[40]⟩ (bs (Lib.join t [32, 124, 32])) = some (True, .string (bs (40 :: Lib.join t [32, 124, 32]))) := binS_bs [40] _ (by simp [signF] at hl24 ⊢; omega)
            have h2 : binS .add (bs (40 :: Lib.join t [32, 124, 32])) ⟨#[41]⟩ = some (True, .string (bs (40 :: (Lib.join t [32, 124, 32] ++ [41])))) := binS_bs (40 :: Lib.join t [32, 124, 32]) [41] (by simp [signF] at hl24 ⊢; omega)
            refine AW_rg (tyOf_good _) [2] [] (fun _ _ => trivial) fun K' hK' => ?_
            repeat (refine sxf_next fun K2 hK2 => ?_; simp [dNum, dS, h1, h2]; (repeat (refine ⟨by omega, ?_⟩)); refine hK2 _ ?_; clear hK2 K2)
            refine sxf_next fun K2 hK2 => ?_
            simp [dNum, dS, h1, h2]
            refine callK.data (hj) (by simp; rfl) (by first | exact D.leGo_refl _ | simp [takeMap, List.map_map, Function.comp_def, D.le, D.le.go, D.le_refl, D.leGo_refl, dNum, dS, h1, h2]) ?_
            refine hK2 _ ?_
            clear hK2 K2
            simp only [putd, upd_lst]
            repeat (refine sxf_next fun K2 hK2 => ?_; simp [dNum, dS, h1, h2]; (repeat (refine ⟨by omega, ?_⟩)); refine hK2 _ ?_; clear hK2 K2)
            refine sxf_nil (hK' _ ?_)
            refine AW.st (by simp [dNum, dS, h1, h2]; rfl) ?_
            clear hK' K'
            refine AW_ret ?_
            simp [D.le, D.le.go, takeMap, dNum, signF, bs_append, dS]
          · have hj := hjoin [] (by simp [signF] at hl24; omega)
            refine AW_rg (tyOf_good _) [0, 3, 24, 25] [] (fun _ _ => trivial) fun K' hK' => ?_
            repeat (refine sxf_next fun K2 hK2 => ?_; simp [dNum]; (repeat (refine ⟨by omega, ?_⟩)); refine hK2 _ ?_; clear hK2 K2)
            refine sxf_nil (hK' _ ?_)
            refine AW.st (by simp [dNum]; rfl) ?_
            clear hK' K'
            refine AW_cond false rfl (fun h => by cases h) (fun _ => ?_)
            refine AW_rg (tyOf_good _) [3, 24, 31] [] (fun _ _ => trivial) fun K' hK' => ?_
            repeat (refine sxf_next fun K2 hK2 => ?_; simp [dNum]; (repeat (refine ⟨by omega, ?_⟩)); refine hK2 _ ?_; clear hK2 K2)
            refine sxf_nil (hK' _ ?_)
            refine AW.st (by simp [dNum]; rfl) ?_
            clear hK' K'
            refine AW_cond false rfl (fun h => by cases h) (fun _ => ?_)
            refine AW_rg (tyOf_good _) [3, 24, 33] [] (fun _ _ => trivial) fun K' hK' => ?_
            repeat (refine sxf_next fun K2 hK2 => ?_; simp [dNum]; (repeat (refine ⟨by omega, ?_⟩)); refine hK2 _ ?_; clear hK2 K2)
            refine sxf_nil (hK' _ ?_)
            refine AW.st (by simp [dNum]; rfl) ?_
            clear hK' K'
            refine AW_cond false rfl (fun h => by cases h) (fun _ => ?_)
            refine AW_rg (tyOf_good _) [3, 24, 38] [] (fun _ _ => trivial) fun K' hK' => ?_
            repeat (refine sxf_next fun K2 hK2 => ?_; simp [dNum]; (repeat (refine ⟨by omega, ?_⟩)); refine hK2 _ ?_; clear hK2 K2)
            refine sxf_nil (hK' _ ?_)
            refine AW.st (by simp [dNum]; rfl) ?_
            clear hK' K'
            refine AW_cond true rfl (fun _ => ?_) (fun h => by cases h)
            have h1 : binS .add ⟨#[88, 32]⟩ (bs (Lib.join t [])) = some (True, .string (bs (88 :: 32 :: Lib.join t []))) := binS_bs [88, 32] _ (by simp [signF] at hl24 ⊢; omega)
            refine AW_rg (tyOf_good _) [2] [] (fun _ _ => trivial) fun K' hK' => ?_
            repeat (refine sxf_next fun K2 hK2 => ?_; simp [dNum, dS, h1]; (repeat (refine ⟨by omega, ?_⟩)); refine hK2 _ ?_; clear hK2 K2)
            refine sxf_next fun K2 hK2 => ?_
            simp [dNum, dS, h1]
            refine callK.data (hj) (by simp; rfl) (by first | exact D.leGo_refl _ | simp [takeMap, List.map_map, Function.comp_def, D.le, D.le.go, D.le_refl, D.leGo_refl, dNum, dS, h1]) ?_
            refine hK2 _ ?_
            clear hK2 K2
            simp only [putd, upd_lst]
            repeat (refine sxf_next fun K2 hK2 => ?_; simp [dNum, dS, h1]; (repeat (refine ⟨by omega, ?_⟩)); refine hK2 _ ?_; clear hK2 K2)
            refine sxf_nil (hK' _ ?_)
            refine AW.st (by simp [dNum, dS, h1]; rfl) ?_
            clear hK' K'
            refine AW_ret ?_
            simp [D.le, D.le.go, takeMap, dNum, signF, bs_append, dS]
          · have hj := hjoin [32, 85, 32] (by simp [signF] at hl24; omega)
            refine AW_rg (tyOf_good _) [0, 3, 24, 25] [] (fun _ _ => trivial) fun K' hK' => ?_
            repeat (refine sxf_next fun K2 hK2 => ?_; simp [dNum]; (repeat (refine ⟨by omega, ?_⟩)); refine hK2 _ ?_; clear hK2 K2)
            refine sxf_nil (hK' _ ?_)
            refine AW.st (by simp [dNum]; rfl) ?_
            clear hK' K'
            refine AW_cond false rfl (fun h => by cases h) (fun _ => ?_)
            refine AW_rg (tyOf_good _) [3, 24, 31] [] (fun _ _ => trivial) fun K' hK' => ?_
            repeat (refine sxf_next fun K2 hK2 => ?_; simp [dNum]; (repeat (refine ⟨by omega, ?_⟩)); refine hK2 _ ?_; clear hK2 K2)
            refine sxf_nil (hK' _ ?_)
            refine AW.st (by simp [dNum]; rfl) ?_
            clear hK' K'
            refine AW_cond false rfl (fun h => by cases h) (fun _ => ?_)
            refine AW_rg (tyOf_good _) [3, 24, 33] [] (fun _ _ => trivial) fun K' hK' => ?_
            repeat (refine sxf_next fun K2 hK2 => ?_; simp [dNum]; (repeat (refine ⟨by omega, ?_⟩)); refine hK2 _ ?_; clear hK2 K2)
            refine sxf_nil (hK' _ ?_)
            refine AW.st (by simp [dNum]; rfl) ?_
            clear hK' K'
            refine AW_cond false rfl (fun h => by cases h) (fun _ => ?_)
            refine AW_rg (tyOf_good _) [3, 24, 38] [] (fun _ _ => trivial) fun K' hK' => ?_
            repeat (refine sxf_next fun K2 hK2 => ?_; simp [dNum]; (repeat (refine ⟨by omega, ?_⟩)); refine hK2 _ ?_; clear hK2 K2)
            refine sxf_nil (hK' _ ?_)
            refine AW.st (by simp [dNum]; rfl) ?_
            clear hK' K'
            refine AW_cond false rfl (fun h => by cases h) (fun _ => ?_)
            refine AW_rg (tyOf_good _) [3, 24, 43] [] (fun _ _ => trivial) fun K' hK' => ?_
            repeat (refine sxf_next fun K2 hK2 => ?_; simp [dNum]; (repeat (refine ⟨by omega, ?_⟩)); refine hK2 _ ?_; clear hK2 K2)
            refine sxf_nil (hK' _ ?_)
            refine AW.st (by simp [dNum]; rfl) ?_
            clear hK' K'
            refine AW_cond false rfl (fun h => by cases h) (fun _ => ?_)
            refine AW_rg (tyOf_good _) [3, 24, 48] [] (fun _ _ => trivial) fun K' hK' => ?_
            repeat (refine sxf_next fun K2 hK2 => ?_; simp [dNum]; (repeat (refine ⟨by omega, ?_⟩)); refine hK2 _ ?_; clear hK2 K2)
            refine sxf_nil (hK' _ ?_)
            refine AW.st (by simp [dNum]; rfl) ?_
            clear hK' K'
            refine AW_cond false rfl (fun h => by cases h) (fun _ => ?_)
            refine AW_rg (tyOf_good _) [3, 24, 53] [] (fun _ _ => trivial) fun K' hK' => ?_
            repeat (refine sxf_next fun K2 hK2 => ?_; simp [dNum]; (repeat (refine ⟨by omega, ?_⟩)); refine hK2 _ ?_; clear hK2 K2)
            refine sxf_nil (hK' _ ?_)
            refine AW.st (by simp [dNum]; rfl) ?_
            clear hK' K'
            refine AW_cond false rfl (fun h => by cases h) (fun _ => ?_)
            refine AW_rg (tyOf_good _) [3, 24, 59] [] (fun _ _ => trivial) fun K' hK' => ?_
            repeat (refine sxf_next fun K2 hK2 => ?_; simp [dNum]; (repeat (refine ⟨by omega, ?_⟩)); refine hK2 _ ?_; clear hK2 K2)
            refine sxf_nil (hK' _ ?_)
            refine AW.st (by simp [dNum]; rfl) ?_
            clear hK' K'
            refine AW_cond false rfl (fun h => by cases h) (fun _ => ?_)
            refine AW_rg (tyOf_good _) [3, 24, 65] [] (fun _ _ => trivial) fun K' hK' => ?_
            repeat (refine sxf_next fun K2 hK2 => ?_; simp [dNum]; (repeat (refine ⟨by omega, ?_⟩)); refine hK2 _ ?_; clear hK2 K2)
            refine sxf_nil (hK' _ ?_)
            refine AW.st (by simp [dNum]; rfl) ?_
            clear hK' K'
            refine AW_cond true rfl (fun _ => ?_) (fun h => by cases h)
            have h1 : binS .add ⟨#[40]⟩ (bs (Lib.join t [32, 85, 32])) = some (True, .string (bs (40 :: Lib.join t [32, 85, 32]))) := binS_bs [40] _ (by simp [signF] at hl24 ⊢; omega)
            have h2 : binS .add (bs (40 :: Lib.join t [32, 85, 32])) ⟨#[41]⟩ = some (True, .string (bs (40 :: (Lib.join t [32, 85, 32] ++ [41])))) := binS_bs (40 :: Lib.join t [32, 85, 32]) [41] (by simp [signF] at hl24 ⊢; omega)
            refine AW_rg (tyOf_good _) [2] [] (fun _ _ => trivial) fun K' hK' => ?_
            repeat (refine sxf_next fun K2 hK2 => ?_; simp [dNum, dS, h1, h2]; (repeat (refine ⟨by omega, ?_⟩)); refine hK2 _ ?_; clear hK2 K2)
            refine sxf_next fun K2 hK2 => ?_
            simp [dNum, dS, h1, h2]
            refine callK.data (hj) (by simp; rfl) (by first | exact D.leGo_refl _ | simp [takeMap, List.map_map, Function.comp_def, D.le, D.le.go, D.le_refl, D.leGo_refl, dNum, dS, h1, h2]) ?_
            refine hK2 _ ?_
            clear hK2 K2
            simp only [putd, upd_lst]
            repeat (refine sxf_next fun K2 hK2 => ?_; simp [dNum, dS, h1, h2]; (repeat (refine ⟨by omega, ?_⟩)); refine hK2 _ ?_; clear hK2 K2)
            refine sxf_nil (hK' _ ?_)
            refine AW.st (by simp [dNum, dS, h1, h2]; rfl) ?_
            clear hK' K'
            refine AW_ret ?_
            simp [D.le, D.le.go, takeMap, dNum, signF, bs_append, dS]
          · have hj := hjoin [32, 82, 32] (by simp [signF] at hl24; omega)
            refine AW_rg (tyOf_good _) [0, 3, 24, 25] [] (fun _ _ => trivial) fun K' hK' => ?_
            repeat (refine sxf_next fun K2 hK2 => ?_; simp [dNum]; (repeat (refine ⟨by omega, ?_⟩)); refine hK2 _ ?_; clear hK2 K2)
            refine sxf_nil (hK' _ ?_)
            refine AW.st (by simp [dNum]; rfl) ?_
            clear hK' K'
            refine AW_cond false rfl (fun h => by cases h) (fun _ => ?_)
            refine AW_rg (tyOf_good _) [3, 24, 31] [] (fun _ _ => trivial) fun K' hK' => ?_
            repeat (refine sxf_next fun K2 hK2 => ?_; simp [dNum]; (repeat (refine ⟨by omega, ?_⟩)); refine hK2 _ ?_; clear hK2 K2)
            refine sxf_nil (hK' _ ?_)
            refine AW.st (by simp [dNum]; rfl) ?_
            clear hK' K'
            refine AW_cond false rfl (fun h => by cases h) (fun _ => ?_)
            refine AW_rg (tyOf_good _) [3, 24, 33] [] (fun _ _ => trivial) fun K' hK' => ?_
            repeat (refine sxf_next fun K2 hK2 => ?_; simp [dNum]; (repeat (refine ⟨by omega, ?_⟩)); refine hK2 _ ?_; clear hK2 K2)
            refine sxf_nil (hK' _ ?_)
            refine AW.st (by simp [dNum]; rfl) ?_
            clear hK' K'
            refine AW_cond false rfl (fun h => by cases h) (fun _ => ?_)
            refine AW_rg (tyOf_good _) [3, 24, 38] [] (fun _ _ => trivial) fun K' hK' => ?_
            repeat (refine sxf_next fun K2 hK2 => ?_; simp [dNum]; (repeat (refine ⟨by omega, ?_⟩)); refine hK2 _ ?_; clear hK2 K2)
            refine sxf_nil (hK' _ ?_)
            refine AW.st (by simp [dNum]; rfl) ?_
            clear hK' K'
            refine AW_cond false rfl (fun h => by cases h) (fun _ => ?_)
            refine AW_rg (tyOf_good _) [3, 24, 43] [] (fun _ _ => trivial) fun K' hK' => ?_
            repeat (refine sxf_next fun K2 hK2 => ?_; simp [dNum]; (repeat (refine ⟨by omega, ?_⟩)); refine hK2 _ ?_; clear hK2 K2)
            refine sxf_nil (hK' _ ?_)
            refine AW.st (by simp [dNum]; rfl) ?_
            clear hK' K'
            refine AW_cond false rfl (fun h => by cases h) (fun _ => ?_)
            refine AW_rg (tyOf_good _) [3, 24, 48] [] (fun _ _ => trivial) fun K' hK' => ?_
            repeat (refine sxf_next fun K2 hK2 => ?_; simp [dNum]; (repeat (refine ⟨by omega, ?_⟩)); refine hK2 _ ?_; clear hK2 K2)
            refine sxf_nil (hK' _ ?_)
            refine AW.st (by simp [dNum]; rfl) ?_
            clear hK' K'
            refine AW_cond false rfl (fun h => by cases h) (fun _ => ?_)
            refine AW_rg (tyOf_good _) [3, 24, 53] [] (fun _ _ => trivial) fun K' hK' => ?_
            repeat (refine sxf_next fun K2 hK2 => ?_; simp [dNum]; (repeat (refine ⟨by omega, ?_⟩)); refine hK2 _ ?_; clear hK2 K2)
            refine sxf_nil (hK' _ ?_)
            refine AW.st (by simp [dNum]; rfl) ?_
            clear hK' K'
            refine AW_cond false rfl (fun h => by cases h) (fun _ => ?_)
            refine AW_rg (tyOf_good _) [3, 24, 59] [] (fun _ _ => trivial) fun K' hK' => ?_
            repeat (refine sxf_next fun K2 hK2 => ?_; simp [dNum]; (repeat (refine ⟨by omega, ?_⟩)); refine hK2 _ ?_; clear hK2 K2)
            refine sxf_nil (hK' _ ?_)
            refine AW.st (by simp [dNum]; rfl) ?_
            clear hK' K'
            refine AW_cond false rfl (fun h => by cases h) (fun _ => ?_)
            refine AW_rg (tyOf_good _) [3, 24, 65] [] (fun _ _ => trivial) fun K' hK' => ?_
            repeat (refine sxf_next fun K2 hK2 => ?_; simp [dNum]; (repeat (refine ⟨by omega, ?_⟩)); refine hK2 _ ?_; clear hK2 K2)
            refine sxf_nil (hK' _ ?_)
            refine AW.st (by simp [dNum]; rfl) ?_
            clear hK' K'
            refine AW_cond false rfl (fun h => by cases h) (fun _ => ?_)
            refine AW_rg (tyOf_good _) [3, 71] [] (fun _ _ => trivial) fun K' hK' => ?_
            repeat (refine sxf_next fun K2 hK2 => ?_; simp [dNum]; (repeat (refine ⟨by omega, ?_⟩)); refine hK2 _ ?_; clear hK2 K2)
            refine sxf_nil (hK' _ ?_)
            refine AW.st (by simp [dNum]; rfl) ?_
            clear hK' K'
            refine AW_cond true rfl (fun _ => ?_) (fun h => by cases h)
            have h1 : binS .add ⟨#[40]⟩ (bs (Lib.join t [32, 82, 32])) = some (True, .string (bs (40 :: Lib.join t [32, 82, 32]))) := binS_bs [40] _ (by simp [signF] at hl24 ⊢; omega)
            have h2 : binS .add (bs (40 :: Lib.join t [32, 82, 32])) ⟨#[41]⟩ = some (True, .string (bs (40 :: (Lib.join t [32, 82, 32] ++ [41])))) := binS_bs (40 :: Lib.join t [32, 82, 32]) [41] (by simp [signF] at hl24 ⊢; omega)
            refine AW_rg (tyOf_good _) [2] [] (fun _ _ => trivial) fun K' hK' => ?_
            repeat (refine sxf_next fun K2 hK2 => ?_; simp [dNum, dS, h1, h2]; (repeat (refine ⟨by omega, ?_⟩)); refine hK2 _ ?_; clear hK2 K2)
            refine sxf_next fun K2 hK2 => ?_
            simp [dNum, dS, h1, h2]
            refine callK.data (hj) (by simp; rfl) (by first | exact D.leGo_refl _ | simp [takeMap, List.map_map, Function.comp_def, D.le, D.le.go, D.le_refl, D.leGo_refl, dNum, dS, h1, h2]) ?_
            refine hK2 _ ?_
            clear hK2 K2
            simp only [putd, upd_lst]
            repeat (refine sxf_next fun K2 hK2 => ?_; simp [dNum, dS, h1, h2]; (repeat (refine ⟨by omega, ?_⟩)); refine hK2 _ ?_; clear hK2 K2)
            refine sxf_nil (hK' _ ?_)
            refine AW.st (by simp [dNum, dS, h1, h2]; rfl) ?_
            clear hK' K'
            refine AW_ret ?_
            simp [D.le, D.le.go, takeMap, dNum, signF, bs_append, dS]
          · have hj := hjoin [] (by simp [signF] at hl24; omega)
            refine AW_rg (tyOf_good _) [0, 3, 24, 25] [] (fun _ _ => trivial) fun K' hK' => ?_
            repeat (refine sxf_next fun K2 hK2 => ?_; simp [dNum]; (repeat (refine ⟨by omega, ?_⟩)); refine hK2 _ ?_; clear hK2 K2)
            refine sxf_nil (hK' _ ?_)
            refine AW.st (by simp [dNum]; rfl) ?_
            clear hK' K'
            refine AW_cond false rfl (fun h => by cases h) (fun _ => ?_)
            refine AW_rg (tyOf_good _) [3, 24, 31] [] (fun _ _ => trivial) fun K' hK' => ?_
            repeat (refine sxf_next fun K2 hK2 => ?_; simp [dNum]; (repeat (refine ⟨by omega, ?_⟩)); refine hK2 _ ?_; clear hK2 K2)
            refine sxf_nil (hK' _ ?_)
            refine AW.st (by simp [dNum]; rfl) ?_
            clear hK' K'
            refine AW_cond false rfl (fun h => by cases h) (fun _ => ?_)
            refine AW_rg (tyOf_good _) [3, 24, 33] [] (fun _ _ => trivial) fun K' hK' => ?_
            repeat (refine sxf_next fun K2 hK2 => ?_; simp [dNum]; (repeat (refine ⟨by omega, ?_⟩)); refine hK2 _ ?_; clear hK2 K2)
            refine sxf_nil (hK' _ ?_)
            refine AW.st (by simp [dNum]; rfl) ?_
            clear hK' K'
            refine AW_cond false rfl (fun h => by cases h) (fun _ => ?_)
            refine AW_rg (tyOf_good _) [3, 24, 38] [] (fun _ _ => trivial) fun K' hK' => ?_
            repeat (refine sxf_next fun K2 hK2 => ?_; simp [dNum]; (repeat (refine ⟨by omega, ?_⟩)); refine hK2 _ ?_; clear hK2 K2)
            refine sxf_nil (hK' _ ?_)
            refine AW.st (by simp [dNum]; rfl) ?_
            clear hK' K'
            refine AW_cond false rfl (fun h => by cases h) (fun _ => ?_)
            refine AW_rg (tyOf_good _) [3, 24, 43] [] (fun _ _ => trivial) fun K' hK' => ?_
            repeat (refine sxf_next fun K2 hK2 => ?_; simp [dNum]; (repeat (refine ⟨by omega, ?_⟩)); refine hK2 _ ?_; clear hK2 K2)
            refine sxf_nil (hK' _ ?_)
            refine AW.st (by simp [dNum]; rfl) ?_
            clear hK' K'
            refine AW_cond true rfl (fun _ => ?_) (fun h => by cases h)
            have h1 : binS .add ⟨#[70, 32]⟩ (bs (Lib.join t [])) = some (True, .string (bs (70 :: 32 :: Lib.join t []))) := binS_bs [70, 32] _ (by simp [signF] at hl24 ⊢; omega)
            refine AW_rg (tyOf_good _) [2] [] (fun _ _ => trivial) fun K' hK' => ?_
            repeat (refine sxf_next fun K2 hK2 => ?_; simp [dNum, dS, h1]; (repeat (refine ⟨by omega, ?_⟩)); refine hK2 _ ?_; clear hK2 K2)
            refine sxf_next fun K2 hK2 => ?_
            simp [dNum, dS, h1]
            refine callK.data (hj) (by simp; rfl) (by first | exact D.leGo_refl _ | simp [takeMap, List.map_map, Function.comp_def, D.le, D.le.go, D.le_refl, D.leGo_refl, dNum, dS, h1]) ?_
            refine hK2 _ ?_
            clear hK2 K2
            simp only [putd, upd_lst]
            repeat (refine sxf_next fun K2 hK2 => ?_; simp [dNum, dS, h1]; (repeat (refine ⟨by omega, ?_⟩)); refine hK2 _ ?_; clear hK2 K2)
            refine sxf_nil (hK' _ ?_)
            refine AW.st (by simp [dNum, dS, h1]; rfl) ?_
            clear hK' K'
            refine AW_ret ?_
            simp [D.le, D.le.go, takeMap, dNum, signF, bs_append, dS]
          · have hj := hjoin [] (by simp [signF] at hl24; omega)
            refine AW_rg (tyOf_good _) [0, 3, 24, 25] [] (fun _ _ => trivial) fun K' hK' => ?_
            repeat (refine sxf_next fun K2 hK2 => ?_; simp [dNum]; (repeat (refine ⟨by omega, ?_⟩)); refine hK2 _ ?_; clear hK2 K2)
            refine sxf_nil (hK' _ ?_)
            refine AW.st (by simp [dNum]; rfl) ?_
            clear hK' K'
            refine AW_cond false rfl (fun h => by cases h) (fun _ => ?_)
            refine AW_rg (tyOf_good _) [3, 24, 31] [] (fun _ _ => trivial) fun K' hK' => ?_
            repeat (refine sxf_next fun K2 hK2 => ?_; simp [dNum]; (repeat (refine ⟨by omega, ?_⟩)); refine hK2 _ ?_; clear hK2 K2)
            refine sxf_nil (hK' _ ?_)
            refine AW.st (by simp [dNum]; rfl) ?_
            clear hK' K'
            refine AW_cond false rfl (fun h => by cases h) (fun _ => ?_)
            refine AW_rg (tyOf_good _) [3, 24, 33] [] (fun _ _ => trivial) fun K' hK' => ?_
            repeat (refine sxf_next fun K2 hK2 => ?_; simp [dNum]; (repeat (refine ⟨by omega, ?_⟩)); refine hK2 _ ?_; clear hK2 K2)
            refine sxf_nil (hK' _ ?_)
            refine AW.st (by simp [dNum]; rfl) ?_
            clear hK' K'
            refine AW_cond false rfl (fun h => by cases h) (fun _ => ?_)
            refine AW_rg (tyOf_good _) [3, 24, 38] [] (fun _ _ => trivial) fun K' hK' => ?_
            repeat (refine sxf_next fun K2 hK2 => ?_; simp [dNum]; (repeat (refine ⟨by omega, ?_⟩)); refine hK2 _ ?_; clear hK2 K2)
            refine sxf_nil (hK' _ ?_)
            refine AW.st (by simp [dNum]; rfl) ?_
            clear hK' K'
            refine AW_cond false rfl (fun h => by cases h) (fun _ => ?_)
            refine AW_rg (tyOf_good _) [3, 24, 43] [] (fun _ _ => trivial) fun K' hK' => ?_
            repeat (refine sxf_next fun K2 hK2 => ?_; simp [dNum]; (repeat (refine ⟨by omega, ?_⟩)); refine hK2 _ ?_; clear hK2 K2)
            refine sxf_nil (hK' _ ?_)
            refine AW.st (by simp [dNum]; rfl) ?_
            clear hK' K'
            refine AW_cond false rfl (fun h => by cases h) (fun _ => ?_)
            refine AW_rg (tyOf_good _) [3, 24, 48] [] (fun _ _ => trivial) fun K' hK' => ?_
            repeat (refine sxf_next fun K2 hK2 => ?_; simp [dNum]; (repeat (refine ⟨by omega, ?_⟩)); refine hK2 _ ?_; clear hK2 K2)
            refine sxf_nil (hK' _ ?_)
            refine AW.st (by simp [dNum]; rfl) ?_
            clear hK' K'
            refine AW_cond true rfl (fun _ => ?_) (fun h => by cases h)
            have h1 : binS .add ⟨#[71, 32]⟩ (bs (Lib.join t [])) = some (True, .string (bs (71 :: 32 :: Lib.join t []))) := binS_bs [71, 32] _ (by simp [signF] at hl24 ⊢; omega)
            refine AW_rg (tyOf_good _) [2] [] (fun _ _ => trivial) fun K' hK' => ?_
            repeat (refine sxf_next fun K2 hK2 => ?_; simp [dNum, dS, h1]; (repeat (refine ⟨by omega, ?_⟩)); refine hK2 _ ?_; clear hK2 K2)
            refine sxf_next fun K2 hK2 => ?_
            simp [dNum, dS, h1]
            refine callK.data (hj) (by simp; rfl) (by first | exact D.leGo_refl _ | simp [takeMap, List.map_map, Function.comp_def, D.le, D.le.go, D.le_refl, D.leGo_refl, dNum, dS, h1]) ?_
            refine hK2 _ ?_
            clear hK2 K2
            simp only [putd, upd_lst]
            repeat (refine sxf_next fun K2 hK2 => ?_; simp [dNum, dS, h1]; (repeat (refine ⟨by omega, ?_⟩)); refine hK2 _ ?_; clear hK2 K2)
            refine sxf_nil (hK' _ ?_)
            refine AW.st (by simp [dNum, dS, h1]; rfl) ?_
            clear hK' K'
            refine AW_ret ?_
            simp [D.le, D.le.go, takeMap, dNum, signF, bs_append, dS]
#print axioms text_spec
end Go.Proofs.YtblafkekblaibaaDoor

/-
  Formulas with not ahead of names and true alone: plain.
-/
namespace Go.Proofs.YtblafkekblaibaaDoor
set_option linter.unusedSimpArgs false
set_option linter.unusedVariables false

def flipK (k : Int) (no : Bool) : Int := if no then (if k = 4 then 5 else if k = 5 then 4 else if k = 6 then 6 else if k = 7 then 8 else if k = 8 then 7 else 0) else k
def kindP (k : Int) : Int := if k = 9 then 7 else if k = 10 then 8 else k
/-- True, or not true. -/
def pT (no : Bool) : Fm := if no then .mk 3 [] [.mk 2 [] []] else .mk 2 [] []
def preP (k : Int) (no : Bool) : List Fm := if k = 9 then [pT no] else if k = 10 then [pT (!no)] else []
mutual
def pushF : Fm → Bool → Fm
  | .nil, _ => .nil
  | .mk k s l, no => if k = 3 then pushH l (!no) else if k = 1 ∨ k = 2 then (if no then .mk 3 [] [.mk k s []] else .mk k s []) else .mk (flipK (kindP k) no) [] (preP k no ++ pushL l no)
def pushH : List Fm → Bool → Fm
  | [], _ => .nil
  | f :: _, no => pushF f no
def pushL : List Fm → Bool → List Fm
  | [], _ => []
  | f :: l, no => pushF f no :: pushL l no
end
theorem pushL_map (no : Bool) : ∀ l, pushL l no = l.map fun f => pushF f no
  | [] => rfl
  | f :: l => by rw [pushL, pushL_map no l]; rfl
theorem push_pT (b : Bool) : pushF (pT b) false = pT b := by cases b <;> simp [pT, pushF, pushH]

theorem bad_kinds {k : Int} {s : List UInt8} {n : Nat} (hb : badF k s n = 0) : (k = 1 ∧ n = 0) ∨ (s = [] ∧ ((k = 2 ∧ n = 0) ∨ (k = 3 ∧ n = 1) ∨ (k = 4 ∧ n = 2) ∨ (k = 5 ∧ n = 2) ∨ (k = 6 ∧ n = 1) ∨ (k = 7 ∧ n = 2) ∨ (k = 8 ∧ n = 2) ∨ (k = 9 ∧ n = 1) ∨ (k = 10 ∧ n = 1))) := by
  unfold badF at hb
  split at hb
  · cases hb
  · rename_i h
    simp only [not_or] at h
    obtain ⟨h1, h2, h3, h4⟩ := h
    have hk : k = 1 ∨ k = 2 ∨ k = 3 ∨ k = 4 ∨ k = 5 ∨ k = 6 ∨ k = 7 ∨ k = 8 ∨ k = 9 ∨ k = 10 := by omega
    have h3' : (n : Int) = arityF k := Classical.not_not.1 h3
    have hs : k ≠ 1 → s = [] := fun hk => Classical.byContradiction fun hs => h4 ⟨hk, hs⟩
    clear hb h1 h2 h3 h4
    have ar : arityF 1 = 0 ∧ arityF 2 = 0 ∧ arityF 3 = 1 ∧ arityF 4 = 2 ∧ arityF 5 = 2 ∧ arityF 6 = 1 ∧ arityF 7 = 2 ∧ arityF 8 = 2 ∧ arityF 9 = 1 ∧ arityF 10 = 1 := by decide
    rcases hk with rfl | rfl | rfl | rfl | rfl | rfl | rfl | rfl | rfl | rfl
    · exact .inl ⟨rfl, by omega⟩
    all_goals
      have := hs (by decide)
      subst this
      refine .inr ⟨rfl, ?_⟩
      simp
      omega
/-- A formula that may be, as one of ten. -/
theorem right_cases {d : Nat} {f : Fm} (h : (rightF d f).2 = 0) : ∃ e, d = e + 1 ∧ ((∃ s, f = .mk 1 s []) ∨ (f = .mk 2 [] []) ∨ (∃ k x, (rightF e x).2 = 0 ∧ f = .mk k [] [x] ∧ (k = 3 ∨ k = 6 ∨ k = 9 ∨ k = 10)) ∨ (∃ k x y, (rightF e x).2 = 0 ∧ (rightF e y).2 = 0 ∧ f = .mk k [] [x, y] ∧ (k = 4 ∨ k = 5 ∨ k = 7 ∨ k = 8))) := by
  cases f with
  | nil => cases d <;> simp [rightF] at h
  | mk k s l =>
    cases d with
    | zero => simp [rightF] at h
    | succ e =>
      refine ⟨e, rfl, ?_⟩
      have hb : badF k s l.length = 0 := by
        rw [rightF] at h
        by_cases hb : badF k s l.length = 0
        · exact hb
        · rw [if_pos hb] at h; exact absurd h hb
      have one : ∀ x, l = [x] → s = [] → (rightF e x).2 = 0 := fun x hl hs => by subst hl hs; exact right_one_inv h
      have two : ∀ x y, l = [x, y] → s = [] → (rightF e x).2 = 0 ∧ (rightF e y).2 = 0 := fun x y hl hs => by subst hl hs; exact right_two_inv h
      have hl0 : l.length = 0 → l = [] := List.eq_nil_of_length_eq_zero
      have hl1 : l.length = 1 → ∃ x, l = [x] := fun h => List.length_eq_one_iff.1 h
      have hl2 : l.length = 2 → ∃ x y, l = [x, y] := fun h => by
        match l, h with
        | [x, y], _ => exact ⟨x, y, rfl⟩
      rcases bad_kinds hb with ⟨rfl, hn⟩ | ⟨rfl, hk⟩
      · rw [hl0 hn]
        exact .inl ⟨s, rfl⟩
      · right
        by_cases h0 : l.length = 0
        · rw [hl0 h0]
          left
          have : k = 2 := by omega
          rw [this]
        · right
          by_cases h1 : l.length = 1
          · obtain ⟨x, rfl⟩ := hl1 h1
            exact .inl ⟨k, x, one x rfl rfl, rfl, by omega⟩
          · obtain ⟨x, y, rfl⟩ := hl2 (by omega)
            obtain ⟨g1, g2⟩ := two x y rfl rfl
            exact .inr ⟨k, x, y, g1, g2, rfl, by omega⟩

theorem push_idem : ∀ (d : Nat) (f : Fm), (rightF d f).2 = 0 → ∀ no, pushF (pushF f no) false = pushF f no
  | 0, f, h, no => by obtain ⟨e, he, _⟩ := right_cases h; omega
  | d + 1, f, h, no => by
    obtain ⟨e, he, hc⟩ := right_cases h
    obtain rfl : d = e := by omega
    rcases hc with ⟨s, rfl⟩ | rfl | ⟨k, x, hx, rfl, hk⟩ | ⟨k, x, y, hx, hy, rfl, hk⟩
    · cases no <;> simp [pushF, pushH]
    · cases no <;> simp [pushF, pushH]
    · have ih := push_idem d x hx
      rcases hk with rfl | rfl | rfl | rfl
      · simpa [pushF, pushH] using ih (!no)
      · cases no <;> simp [pushF, pushL, flipK, kindP, preP, ih]
      · cases no <;> simp [pushF, pushL, flipK, kindP, preP, ih, push_pT]
      · cases no <;> simp [pushF, pushL, flipK, kindP, preP, ih, push_pT]
    · have ihx := push_idem d x hx
      have ihy := push_idem d y hy
      rcases hk with rfl | rfl | rfl | rfl <;> cases no <;> simp [pushF, pushL, flipK, kindP, preP, ihx, ihy]

theorem iterN_dual {now now' : Nat → Bool → Bool} {nx : Nat → Nat} {no : Bool} {n : Nat} (hx : ∀ i, i < n → nx i < n) (h : ∀ i b, i < n → now' i (b != no) = (now i b != no)) (st : Bool) : ∀ k i, i < n → iterN now' nx (st != no) k i = (iterN now nx st k i != no)
  | 0, i, _ => rfl
  | k + 1, i, hi => by
    rw [iterN, iterN, iterN_dual hx h st k (nx i) (hx i hi), h i _ hi]

section
variable (a r : Times) (hr : 0 < r.length)
include hr
theorem push_holds : ∀ (d : Nat) (f : Fm), (rightF d f).2 = 0 → ∀ no i, i < a.length + r.length → atB (holdsF a r (pushF f no)) i = (atB (holdsF a r f) i != no)
  | 0, f, h, no, i, hi => by obtain ⟨e, he, _⟩ := right_cases h; omega
  | d + 1, f, h, no, i, hi => by
    have hat : ∀ (k : Int) (s : List UInt8) (l : List Fm) {i : Nat}, i < a.length + r.length → atB (holdsF a r (.mk k s l)) i = valF a r k s (holdsL a r l) i := fun k s l i hi => holds_get a r k s l hi
    have v1 : ∀ (s : List UInt8) (l l' : List Fm) i, valF a r 1 s (holdsL a r l) i = valF a r 1 s (holdsL a r l') i := fun _ _ _ _ => rfl
    have v2 : ∀ (s : List UInt8) (l : List Fm) i, valF a r 2 s (holdsL a r l) i = true := fun _ _ _ => rfl
    have v3 : ∀ (x : Fm) i, valF a r 3 [] (holdsL a r [x]) i = !atB (holdsF a r x) i := fun _ _ => rfl
    have v4 : ∀ (x y : Fm) i, valF a r 4 [] (holdsL a r [x, y]) i = (atB (holdsF a r x) i && atB (holdsF a r y) i) := fun _ _ _ => rfl
    have v5 : ∀ (x y : Fm) i, valF a r 5 [] (holdsL a r [x, y]) i = (atB (holdsF a r x) i || atB (holdsF a r y) i) := fun _ _ _ => rfl
    have v6 : ∀ (x : Fm) i, valF a r 6 [] (holdsL a r [x]) i = atB (holdsF a r x) (nxF a.length (a.length + r.length) i) := fun _ _ => rfl
    have v7 : ∀ (x y : Fm) i, valF a r 7 [] (holdsL a r [x, y]) i = iterN (fun i b => atB (holdsF a r y) i || (atB (holdsF a r x) i && b)) (nxF a.length (a.length + r.length)) false (a.length + r.length) i := fun _ _ _ => rfl
    have v8 : ∀ (x y : Fm) i, valF a r 8 [] (holdsL a r [x, y]) i = iterN (fun i b => atB (holdsF a r y) i && (atB (holdsF a r x) i || b)) (nxF a.length (a.length + r.length)) true (a.length + r.length) i := fun _ _ _ => rfl
    have v9 : ∀ (x : Fm) i, valF a r 9 [] (holdsL a r [x]) i = iterN (fun i b => atB (holdsF a r x) i || b) (nxF a.length (a.length + r.length)) false (a.length + r.length) i := fun _ _ => rfl
    have v10 : ∀ (x : Fm) i, valF a r 10 [] (holdsL a r [x]) i = iterN (fun i b => atB (holdsF a r x) i && b) (nxF a.length (a.length + r.length)) true (a.length + r.length) i := fun _ _ => rfl
    have hT : ∀ b i, i < a.length + r.length → atB (holdsF a r (pT b)) i = !b := fun b i hi => by
      cases b
      · simp only [pT, if_false, Bool.false_eq_true]; rw [hat _ _ _ hi, v2]; rfl
      · simp only [pT, if_true]; rw [hat _ _ _ hi, v3, hat _ _ _ hi, v2]
    have hnx := nx_ok a r hr
    obtain ⟨e, he, hc⟩ := right_cases h
    obtain rfl : d = e := by omega
    rcases hc with ⟨s, rfl⟩ | rfl | ⟨k, x, hx, rfl, hk⟩ | ⟨k, x, y, hx, hy, rfl, hk⟩
    · cases no
      · simp [pushF]
      · have : pushF (.mk 1 s []) true = .mk 3 [] [.mk 1 s []] := by simp [pushF]
        rw [this, hat _ _ _ hi, v3]
        cases atB (holdsF a r (.mk 1 s [])) i <;> rfl
    · cases no
      · simp [pushF]
      · have : pushF (.mk 2 [] []) true = .mk 3 [] [.mk 2 [] []] := by simp [pushF]
        rw [this, hat _ _ _ hi, v3]
        cases atB (holdsF a r (.mk 2 [] [])) i <;> rfl
    · have ih := push_holds d x hx
      rcases hk with rfl | rfl | rfl | rfl
      · have : pushF (.mk 3 [] [x]) no = pushF x (!no) := by simp [pushF, pushH]
        rw [this, ih (!no) i hi, hat _ _ _ hi, v3]
        cases atB (holdsF a r x) i <;> cases no <;> rfl
      · have : pushF (.mk 6 [] [x]) no = .mk 6 [] [pushF x no] := by cases no <;> simp [pushF, pushL, flipK, kindP, preP]
        rw [this, hat _ _ _ hi, hat _ _ _ hi, v6, v6, ih no _ (hnx i hi)]
      · cases no
        · have : pushF (.mk 9 [] [x]) false = .mk 7 [] [pT false, pushF x false] := by simp [pushF, pushL, flipK, kindP, preP]
          rw [this, hat _ _ _ hi, hat _ _ _ hi, v7, v9]
          refine iterN_dual (no := false) hnx (fun i b hi => ?_) false _ i hi
          rw [hT _ i hi, ih false i hi]
          cases atB (holdsF a r x) i <;> cases b <;> rfl
        · have : pushF (.mk 9 [] [x]) true = .mk 8 [] [pT true, pushF x true] := by simp [pushF, pushL, flipK, kindP, preP]
          rw [this, hat _ _ _ hi, hat _ _ _ hi, v8, v9]
          refine iterN_dual (no := true) hnx (fun i b hi => ?_) false _ i hi
          rw [hT _ i hi, ih true i hi]
          cases atB (holdsF a r x) i <;> cases b <;> rfl
      · cases no
        · have : pushF (.mk 10 [] [x]) false = .mk 8 [] [pT true, pushF x false] := by simp [pushF, pushL, flipK, kindP, preP]
          rw [this, hat _ _ _ hi, hat _ _ _ hi, v8, v10]
          refine iterN_dual (no := false) hnx (fun i b hi => ?_) true _ i hi
          rw [hT _ i hi, ih false i hi]
          cases atB (holdsF a r x) i <;> cases b <;> rfl
        · have : pushF (.mk 10 [] [x]) true = .mk 7 [] [pT false, pushF x true] := by simp [pushF, pushL, flipK, kindP, preP]
          rw [this, hat _ _ _ hi, hat _ _ _ hi, v7, v10]
          refine iterN_dual (no := true) hnx (fun i b hi => ?_) true _ i hi
          rw [hT _ i hi, ih true i hi]
          cases atB (holdsF a r x) i <;> cases b <;> rfl
    · have ihx := push_holds d x hx
      have ihy := push_holds d y hy
      have hp : ∀ k : Int, k = 4 ∨ k = 5 ∨ k = 7 ∨ k = 8 → pushF (.mk k [] [x, y]) no = .mk (flipK k no) [] [pushF x no, pushF y no] := fun k hk => by
        rcases hk with rfl | rfl | rfl | rfl <;> simp [pushF, pushL, kindP, preP]
      rw [hp k hk]
      clear hp
      rcases hk with rfl | rfl | rfl | rfl <;> cases no
      · rw [show flipK 4 false = 4 from rfl, hat _ _ _ hi, hat _ _ _ hi, v4, v4, ihx false i hi, ihy false i hi]
        cases atB (holdsF a r x) i <;> cases atB (holdsF a r y) i <;> rfl
      · rw [show flipK 4 true = 5 from rfl, hat _ _ _ hi, hat _ _ _ hi, v5, v4, ihx true i hi, ihy true i hi]
        cases atB (holdsF a r x) i <;> cases atB (holdsF a r y) i <;> rfl
      · rw [show flipK 5 false = 5 from rfl, hat _ _ _ hi, hat _ _ _ hi, v5, v5, ihx false i hi, ihy false i hi]
        cases atB (holdsF a r x) i <;> cases atB (holdsF a r y) i <;> rfl
      · rw [show flipK 5 true = 4 from rfl, hat _ _ _ hi, hat _ _ _ hi, v4, v5, ihx true i hi, ihy true i hi]
        cases atB (holdsF a r x) i <;> cases atB (holdsF a r y) i <;> rfl
      · rw [show flipK 7 false = 7 from rfl, hat _ _ _ hi, hat _ _ _ hi, v7, v7]
        refine iterN_dual (no := false) hnx (fun i b hi => ?_) false _ i hi
        rw [ihx false i hi, ihy false i hi]
        cases atB (holdsF a r x) i <;> cases atB (holdsF a r y) i <;> cases b <;> rfl
      · rw [show flipK 7 true = 8 from rfl, hat _ _ _ hi, hat _ _ _ hi, v8, v7]
        refine iterN_dual (no := true) hnx (fun i b hi => ?_) false _ i hi
        rw [ihx true i hi, ihy true i hi]
        cases atB (holdsF a r x) i <;> cases atB (holdsF a r y) i <;> cases b <;> rfl
      · rw [show flipK 8 false = 8 from rfl, hat _ _ _ hi, hat _ _ _ hi, v8, v8]
        refine iterN_dual (no := false) hnx (fun i b hi => ?_) true _ i hi
        rw [ihx false i hi, ihy false i hi]
        cases atB (holdsF a r x) i <;> cases atB (holdsF a r y) i <;> cases b <;> rfl
      · rw [show flipK 8 true = 7 from rfl, hat _ _ _ hi, hat _ _ _ hi, v7, v8]
        refine iterN_dual (no := true) hnx (fun i b hi => ?_) true _ i hi
        rw [ihx true i hi, ihy true i hi]
        cases atB (holdsF a r x) i <;> cases atB (holdsF a r y) i <;> cases b <;> rfl
end
theorem holds_len {a r : Times} {g : Fm} {d : Nat} (h : (rightF d g).2 = 0) : (holdsF a r g).length = a.length + r.length := by
  cases g with
  | nil => cases d <;> simp [rightF] at h
  | mk k s l => rw [holdsF]; simp
theorem push_same {a r : Times} (hr : 0 < r.length) {f : Fm} (h : (rightF 20 f).2 = 0) (h2 : (rightF 20 (pushF f false)).2 = 0) : holdsF a r (pushF f false) = holdsF a r f := by
  have l1 := holds_len (a := a) (r := r) h
  have l2 := holds_len (a := a) (r := r) h2
  refine List.ext_getElem (by rw [l1, l2]) fun i hi hi' => ?_
  have := push_holds a r hr 20 f h false i (by omega)
  unfold atB at this
  rw [List.getD_eq_getElem?_getD, List.getD_eq_getElem?_getD, List.getElem?_eq_getElem hi, List.getElem?_eq_getElem hi'] at this
  simpa using this
#print axioms push_same
end Go.Proofs.YtblafkekblaibaaDoor

/-
  Formulas that steps make: how many parts they have, how deep they are, which of them may be.
-/
namespace Go.Proofs.YtblafkekblaibaaDoor
set_option linter.unusedSimpArgs false
set_option linter.unusedVariables false

theorem nameF_len {s : List UInt8} (h : nameF s = true) : s.length ≤ 8 := by
  unfold nameF at h
  simp only [Bool.and_eq_true, decide_eq_true_eq] at h
  exact h.2.1
theorem nameF_ne {s : List UInt8} (h : nameF s = true) : s ≠ [] := by
  unfold nameF at h
  simp only [Bool.and_eq_true, decide_eq_true_eq] at h
  exact h.1

mutual
def szF : Fm → Nat
  | .nil => 0
  | .mk _ _ l => 1 + szL l
def szL : List Fm → Nat
  | [] => 0
  | f :: l => szF f + szL l
end
mutual
def dpF : Fm → Nat
  | .nil => 0
  | .mk _ _ l => 1 + dpL l
def dpL : List Fm → Nat
  | [] => 0
  | f :: l => max (dpF f) (dpL l)
end
mutual
def nmF : Fm → Bool
  | .nil => true
  | .mk k s l => !(k == 1 && !nameF s) && nmL l
def nmL : List Fm → Bool
  | [] => true
  | f :: l => nmF f && nmL l
end
mutual
def WfF : Fm → Prop
  | .nil => False
  | .mk k s l => (1 ≤ k ∧ k ≤ 10 ∧ (l.length : Int) = arityF k ∧ (k ≠ 1 → s = [])) ∧ WfL l
def WfL : List Fm → Prop
  | [] => True
  | f :: l => WfF f ∧ WfL l
end
theorem WfL_mem : ∀ {l : List Fm}, WfL l → ∀ f ∈ l, WfF f
  | [], _, f, hf => by simp at hf
  | g :: l, h, f, hf => by
    simp only [WfL] at h
    rcases List.mem_cons.1 hf with rfl | hf
    · exact h.1
    · exact WfL_mem h.2 f hf
theorem dpL_mem : ∀ {l : List Fm} {f : Fm}, f ∈ l → dpF f ≤ dpL l
  | [], f, hf => by simp at hf
  | g :: l, f, hf => by
    simp only [dpL]
    rcases List.mem_cons.1 hf with rfl | hf
    · omega
    · have := dpL_mem hf; omega
theorem nmL_mem : ∀ {l : List Fm}, nmL l = true → ∀ f ∈ l, nmF f = true
  | [], _, f, hf => by simp at hf
  | g :: l, h, f, hf => by
    simp only [nmL, Bool.and_eq_true] at h
    rcases List.mem_cons.1 hf with rfl | hf
    · exact h.1
    · exact nmL_mem h.2 f hf

/-- Which of them may be, and how many parts are counted. -/
theorem wf_right : ∀ (f : Fm), WfF f → ∀ d, dpF f ≤ d → (nmF f = true → rightF d f = ((szF f : Int), 0)) ∧ (nmF f = false → (rightF d f).2 = 5)
  | .nil, h, _, _ => h.elim
  | .mk k s l, h, 0, hd => by simp only [dpF] at hd; omega
  | .mk k s l, h, d + 1, hd => by
    obtain ⟨⟨h1, h2, h3, h4⟩, hl⟩ := h
    have hdl : dpL l ≤ d := by simp only [dpF] at hd; omega
    have hb : badF k s l.length = if k = 1 ∧ nameF s = false then 5 else 0 := by
      unfold badF
      rw [if_neg (by rintro (h | h | h | ⟨h, h'⟩) <;> first | omega | exact h h3 | exact h' (h4 h))]
    have key : ∀ (l' : List Fm) (n : Int), (∀ f ∈ l', f ∈ l) → (nmL l' = true → rightL d l' n = (n + szL l', 0)) ∧ (nmL l' = false → (rightL d l' n).2 = 5) := by
      intro l'
      induction l' with
      | nil => intro n _; exact ⟨fun _ => by simp [rightL, szL], fun h => by simp [nmL] at h⟩
      | cons f l' ihl =>
        intro n hm
        have hf := hm f (by simp)
        have ih := wf_right f (WfL_mem hl f hf) d (Nat.le_trans (dpL_mem hf) hdl)
        simp only [nmL, szL]
        cases hn : nmF f with
        | false =>
          have := ih.2 hn
          refine ⟨fun h => by simp at h, fun _ => ?_⟩
          rw [rightL, this, if_pos (by decide)]
        | true =>
          have := ih.1 hn
          have il := ihl (n + (szF f : Int)) fun g hg => hm g (by simp [hg])
          rw [rightL, this, if_neg (by simp)]
          refine ⟨fun h => ?_, fun h => il.2 (by simpa using h)⟩
          rw [il.1 (by simpa using h)]
          congr 1
          simp only [Int.natCast_add]
          omega
    have kl := key l 1 fun f hf => hf
    rw [rightF, hb]
    simp only [nmF, szF]
    by_cases hk : k = 1 ∧ nameF s = false
    · obtain ⟨hk1, hk2⟩ := hk
      simp [hk1, hk2]
    · have e : (!(k == 1 && !nameF s)) = true := by
        by_cases e1 : k = 1
        · have : nameF s = true := by
            cases e2 : nameF s with
            | true => rfl
            | false => exact absurd ⟨e1, e2⟩ hk
          simp [this]
        · simp [e1]
      rw [if_neg hk, if_neg (by decide), e, Bool.true_and]
      refine ⟨fun h => ?_, kl.2⟩
      rw [kl.1 h]
      simp only [Int.natCast_add, Int.cast_ofNat_Int]
termination_by f => SizeOf.sizeOf f
decreasing_by
  have := List.sizeOf_lt_of_mem hf
  simp only [Fm.mk.sizeOf_spec]
  omega

theorem wf_names : ∀ (f : Fm), nmF f = true → WfF f → namesOk f
  | .nil, _, h => h.elim
  | .mk k s l, hn, h => by
    simp only [nmF, Bool.and_eq_true] at hn
    have hs : s.length < 2^60 := by
      by_cases hk : k = 1
      · have : nameF s = true := by
          have := hn.1
          rw [hk] at this
          simpa using this
        have := nameF_len this
        omega
      · rw [h.1.2.2.2 hk]; decide
    refine ⟨hs, ?_⟩
    have hl := h.2
    have hm := hn.2
    have key : ∀ l' : List Fm, (∀ f ∈ l', f ∈ l) → namesOkL l' := by
      intro l'
      induction l' with
      | nil => intro _; trivial
      | cons f l' ih =>
        intro hh
        have hf := hh f (by simp)
        exact ⟨wf_names f (nmL_mem hm f hf) (WfL_mem hl f hf), ih fun g hg => hh g (by simp [hg])⟩
    exact key l fun f hf => hf
termination_by f => SizeOf.sizeOf f
decreasing_by
  have := List.sizeOf_lt_of_mem hf
  simp only [Fm.mk.sizeOf_spec]
  omega

/-! ### Those that steps make -/
theorem getD_mem {all : List Fm} {i : Nat} (h : i < all.length) : all.getD i .nil ∈ all := by
  rw [List.getD_eq_getElem?_getD, List.getElem?_eq_getElem h]
  exact List.getElem_mem h
theorem step_wf {all : List Fm} (hp : 0 < all.length) (h : ∀ f ∈ all, WfF f) (x : Stp) : WfF (stepF all x) := by
  have ha := h _ (getD_mem (atF_lt x.a hp))
  have hb := h _ (getD_mem (atF_lt x.b hp))
  unfold stepF
  split
  · exact ⟨⟨by decide, by decide, rfl, fun _ => rfl⟩, trivial⟩
  · split
    · rename_i hk
      refine ⟨⟨by omega, by omega, ?_, fun _ => rfl⟩, ha, trivial⟩
      rcases hk with hk | hk | hk | hk <;> rw [hk] <;> rfl
    · split
      · rename_i hk
        refine ⟨⟨by omega, by omega, ?_, fun _ => rfl⟩, ha, hb, trivial⟩
        rcases hk with hk | hk | hk | hk <;> rw [hk] <;> rfl
      · exact ⟨⟨by decide, by decide, rfl, fun h => absurd rfl h⟩, trivial⟩
theorem step_dp {all : List Fm} (hp : 0 < all.length) {n : Nat} (h : ∀ f ∈ all, dpF f ≤ n) (x : Stp) : dpF (stepF all x) ≤ n + 1 := by
  have ha := h _ (getD_mem (atF_lt x.a hp))
  have hb := h _ (getD_mem (atF_lt x.b hp))
  unfold stepF
  repeat' split
  all_goals simp only [dpF, dpL]; omega
theorem all_wf : ∀ (l : List Stp) (all : List Fm), 0 < all.length → (∀ f ∈ all, WfF f) → ∀ f ∈ allF l all, WfF f
  | [], _, _, h => h
  | x :: l, all, hp, h => all_wf l _ (by simp) fun f hf => by
    rcases List.mem_append.1 hf with hf | hf
    · exact h f hf
    · rw [List.mem_singleton] at hf; subst hf; exact step_wf hp h x
theorem all_dp : ∀ (l : List Stp) (all : List Fm) (n : Nat), 0 < all.length → (∀ f ∈ all, dpF f ≤ n) → ∀ f ∈ allF l all, dpF f ≤ n + l.length
  | [], _, _, _, h => h
  | x :: l, all, n, hp, h => fun f hf => by
    have := all_dp l _ (n + 1) (by simp) (fun g hg => by
      rcases List.mem_append.1 hg with hg | hg
      · have := h g hg; omega
      · rw [List.mem_singleton] at hg; subst hg; exact step_dp hp h x) f hf
    simp only [List.length_cons]
    omega
theorem made_wf (l : List Stp) (i : Nat) : ∀ f ∈ madeF l i, WfF f := all_wf _ _ (by simp) fun f hf => by
  rw [List.mem_singleton] at hf
  subst hf
  exact ⟨⟨by decide, by decide, rfl, fun _ => rfl⟩, trivial⟩
theorem made_dp (l : List Stp) (i : Nat) : ∀ f ∈ madeF l i, dpF f ≤ 1 + i := fun f hf => by
  have := all_dp _ _ 1 (by simp) (fun g hg => by
    rw [List.mem_singleton] at hg
    subst hg
    simp [dpF, dpL]) f hf
  rw [List.length_take] at this
  omega
theorem form_mem (l : List Stp) : formF l ∈ madeF l l.length := getD_mem (by rw [madeF_len l (Nat.le_refl _)]; omega)
theorem form_wf (l : List Stp) : WfF (formF l) := made_wf l _ _ (form_mem l)
/-- What is wrong with a formula that steps make. -/
theorem form_right (l : List Stp) (hd : dpF (formF l) ≤ 20) : rightE (formF l) = if nmF (formF l) = false then 5 else if 100 < szF (formF l) then 4 else 0 := by
  have h := wf_right (formF l) (form_wf l) 20 hd
  unfold rightE
  cases hn : nmF (formF l) with
  | false => rw [if_pos (by rw [h.2 hn]; decide), h.2 hn]; rfl
  | true =>
    rw [h.1 hn]
    simp only [ne_eq, not_true_eq_false, if_false, Bool.true_eq_false]
    by_cases h100 : 100 < szF (formF l)
    · rw [if_pos (by omega), if_pos h100]
    · rw [if_neg (by omega), if_neg h100]

/-- How many parts a step counts: bounds ahead. -/
def preS (all : List Fm) (x : Stp) : Nat :=
  if x.kind = 2 then 1
  else if x.kind = 3 ∨ x.kind = 6 ∨ x.kind = 9 ∨ x.kind = 10 then 1 + min (szF (all.getD (atF x.a all.length) .nil)) 1000000
  else if x.kind = 4 ∨ x.kind = 5 ∨ x.kind = 7 ∨ x.kind = 8 then 1 + min (szF (all.getD (atF x.a all.length) .nil)) 1000000 + min (szF (all.getD (atF x.b all.length) .nil)) 1000000
  else 1
theorem preS_min (all : List Fm) (x : Stp) : min (preS all x) 1000000 = min (szF (stepF all x)) 1000000 := by
  unfold preS stepF
  repeat' split
  all_goals simp only [szF, szL]
  all_goals try omega
theorem preS_le (all : List Fm) (x : Stp) : preS all x ≤ 2000001 := by
  unfold preS
  repeat' split
  all_goals omega
end Go.Proofs.YtblafkekblaibaaDoor

/-
  Formulas with not ahead of names and true alone: lasso.push.
-/
namespace Go.Proofs.YtblafkekblaibaaDoor
set_option linter.unusedSimpArgs false
set_option linter.unusedVariables false
open Go.Av

set_option maxHeartbeats 4000000 in
theorem push_leaf (G : Glob) (k : Int) (s : List UInt8) (hk : k = 1 ∨ k = 2) (no : Bool) : PureC Tryd.prog G 44 [dF (.mk k s []), .v (.bool no)] (dF (pushF (.mk k s []) no)) := by
  have hp : pushF (.mk k s []) no = if no then .mk 3 [] [.mk k s []] else .mk k s [] := by
    rcases hk with rfl | rfl <;> simp [pushF]
  rw [hp]
  clear hp
  obtain ⟨c, hc⟩ : ∃ c, dF (.mk k s []) = .ip c := ⟨_, rfl⟩
  rcases hk with rfl | rfl <;> cases no
  · refine PureC.of_body (tyOf_good _) Tryd.func44 rfl rfl (rs := [.tmp 4]) Tryd.results44 (by simp [Tryd.ntmps44]) fun X => ?_
    simp only [Tryd.ntmps44, List.map]
    refine AW_rg (tyOf_good _) [0, 1] [] (fun _ _ => trivial) fun K' hK' => ?_
    repeat (refine sxf_next fun K2 hK2 => ?_; simp [dNum, dB, dF, dFs, ofK]; (repeat (refine ⟨by omega, ?_⟩)); refine hK2 _ ?_; clear hK2 K2)
    refine sxf_nil (hK' _ ?_)
    refine AW.st (by simp [dNum, dB, dF, dFs, ofK]; rfl) ?_
    clear hK' K'
    refine AW_rg (tyOf_good _) [0, 1, 5] [] (fun _ _ => trivial) fun K' hK' => ?_
    repeat (refine sxf_next fun K2 hK2 => ?_; simp [dNum, dB]; (repeat (refine ⟨by omega, ?_⟩)); refine hK2 _ ?_; clear hK2 K2)
    refine sxf_nil (hK' _ ?_)
    refine AW.st (by simp [dNum, dB]; rfl) ?_
    clear hK' K'
    refine AW_rg (tyOf_good _) [0, 1, 5, 6] [] (fun _ _ => trivial) fun K' hK' => ?_
    repeat (refine sxf_next fun K2 hK2 => ?_; simp [dNum, dB]; (repeat (refine ⟨by omega, ?_⟩)); refine hK2 _ ?_; clear hK2 K2)
    refine sxf_nil (hK' _ ?_)
    refine AW.st (by simp [dNum, dB]; rfl) ?_
    clear hK' K'
    refine AW_then fun K1 hK1 => ?_
    refine AW_rg (tyOf_good _) [0, 1, 5, 6, 19] [] (fun _ _ => trivial) fun K' hK' => ?_
    repeat (refine sxf_next fun K2 hK2 => ?_; simp [dNum, dB]; (repeat (refine ⟨by omega, ?_⟩)); refine hK2 _ ?_; clear hK2 K2)
    refine sxf_nil (hK' _ ?_)
    refine AW.st (by simp [dNum, dB]; rfl) ?_
    clear hK' K'
    refine AW_block ?_
    refine AW_rg (tyOf_good _) [0, 1, 5, 6, 19, 20] [] (fun _ _ => trivial) fun K' hK' => ?_
    repeat (refine sxf_next fun K2 hK2 => ?_; simp [dNum, dB]; (repeat (refine ⟨by omega, ?_⟩)); refine hK2 _ ?_; clear hK2 K2)
    refine sxf_nil (hK' _ ?_)
    refine AW.st (by simp [dNum, dB]; rfl) ?_
    clear hK' K'
    refine AW_cond false rfl (fun h => by cases h) (fun _ => ?_)
    refine AW_then fun K2 hK2 => ?_
    refine AW_rg (tyOf_good _) [0, 1, 5, 6, 19, 28] [] (fun _ _ => trivial) fun K' hK' => ?_
    repeat (refine sxf_next fun K2 hK2 => ?_; simp [dNum, dB]; (repeat (refine ⟨by omega, ?_⟩)); refine hK2 _ ?_; clear hK2 K2)
    refine sxf_nil (hK' _ ?_)
    refine AW.st (by simp [dNum, dB]; rfl) ?_
    clear hK' K'
    refine AW_cond true rfl (fun _ => ?_) (fun h => by cases h)
    refine AW_skip (hK2 _ ?_)
    refine AW_cond true rfl (fun _ => ?_) (fun h => by cases h)
    refine AW_rg (tyOf_good _) [1, 7] [37] (fun _ _ => trivial) fun K' hK' => ?_
    repeat (refine sxf_next fun K2 hK2 => ?_; simp [dNum, dB, dS]; (repeat (refine ⟨by omega, ?_⟩)); refine hK2 _ ?_; clear hK2 K2)
    refine sxf_nil (hK' _ ?_)
    refine AW.st (by simp [dNum, dB, dS]; rfl) ?_
    clear hK' K'
    refine AW.imp (Imp.freezeB 37 trivial) ?_
    refine AW.st (by simp [dNum, dB]; rfl) ?_
    refine AW_then fun K3 hK3 => ?_
    refine AW_rg (tyOf_good _) [7, 38] [] (fun _ _ => trivial) fun K' hK' => ?_
    repeat (refine sxf_next fun K2 hK2 => ?_; simp [dNum, dB]; (repeat (refine ⟨by omega, ?_⟩)); refine hK2 _ ?_; clear hK2 K2)
    refine sxf_nil (hK' _ ?_)
    refine AW.st (by simp [dNum, dB]; rfl) ?_
    clear hK' K'
    refine AW_cond false rfl (fun h => by cases h) (fun _ => ?_)
    refine AW_skip (hK3 _ ?_)
    refine AW_rg (tyOf_good _) [4] [] (fun _ _ => trivial) fun K' hK' => ?_
    repeat (refine sxf_next fun K2 hK2 => ?_; simp [dNum, dB]; (repeat (refine ⟨by omega, ?_⟩)); refine hK2 _ ?_; clear hK2 K2)
    refine sxf_nil (hK' _ ?_)
    refine AW.st (by simp [dNum, dB]; rfl) ?_
    clear hK' K'
    refine AW_ret ?_
    simp [D.le, D.le.go, takeMap, dNum, dB, dF, dFs, ofK, dS, bs_nil]
  · refine PureC.of_body (tyOf_good _) Tryd.func44 rfl rfl (rs := [.tmp 4]) Tryd.results44 (by simp [Tryd.ntmps44]) fun X => ?_
    simp only [Tryd.ntmps44, List.map]
    refine AW_rg (tyOf_good _) [0, 1] [] (fun _ _ => trivial) fun K' hK' => ?_
    repeat (refine sxf_next fun K2 hK2 => ?_; simp [dNum, dB, dF, dFs, ofK]; (repeat (refine ⟨by omega, ?_⟩)); refine hK2 _ ?_; clear hK2 K2)
    refine sxf_nil (hK' _ ?_)
    refine AW.st (by simp [dNum, dB, dF, dFs, ofK]; rfl) ?_
    clear hK' K'
    refine AW_rg (tyOf_good _) [0, 1, 5] [] (fun _ _ => trivial) fun K' hK' => ?_
    repeat (refine sxf_next fun K2 hK2 => ?_; simp [dNum, dB]; (repeat (refine ⟨by omega, ?_⟩)); refine hK2 _ ?_; clear hK2 K2)
    refine sxf_nil (hK' _ ?_)
    refine AW.st (by simp [dNum, dB]; rfl) ?_
    clear hK' K'
    refine AW_rg (tyOf_good _) [0, 1, 5, 6] [] (fun _ _ => trivial) fun K' hK' => ?_
    repeat (refine sxf_next fun K2 hK2 => ?_; simp [dNum, dB]; (repeat (refine ⟨by omega, ?_⟩)); refine hK2 _ ?_; clear hK2 K2)
    refine sxf_nil (hK' _ ?_)
    refine AW.st (by simp [dNum, dB]; rfl) ?_
    clear hK' K'
    refine AW_then fun K1 hK1 => ?_
    refine AW_rg (tyOf_good _) [0, 1, 5, 6, 19] [] (fun _ _ => trivial) fun K' hK' => ?_
    repeat (refine sxf_next fun K2 hK2 => ?_; simp [dNum, dB]; (repeat (refine ⟨by omega, ?_⟩)); refine hK2 _ ?_; clear hK2 K2)
    refine sxf_nil (hK' _ ?_)
    refine AW.st (by simp [dNum, dB]; rfl) ?_
    clear hK' K'
    refine AW_block ?_
    refine AW_rg (tyOf_good _) [0, 1, 5, 6, 19, 20] [] (fun _ _ => trivial) fun K' hK' => ?_
    repeat (refine sxf_next fun K2 hK2 => ?_; simp [dNum, dB]; (repeat (refine ⟨by omega, ?_⟩)); refine hK2 _ ?_; clear hK2 K2)
    refine sxf_nil (hK' _ ?_)
    refine AW.st (by simp [dNum, dB]; rfl) ?_
    clear hK' K'
    refine AW_cond false rfl (fun h => by cases h) (fun _ => ?_)
    refine AW_then fun K2 hK2 => ?_
    refine AW_rg (tyOf_good _) [0, 1, 5, 6, 19, 28] [] (fun _ _ => trivial) fun K' hK' => ?_
    repeat (refine sxf_next fun K2 hK2 => ?_; simp [dNum, dB]; (repeat (refine ⟨by omega, ?_⟩)); refine hK2 _ ?_; clear hK2 K2)
    refine sxf_nil (hK' _ ?_)
    refine AW.st (by simp [dNum, dB]; rfl) ?_
    clear hK' K'
    refine AW_cond true rfl (fun _ => ?_) (fun h => by cases h)
    refine AW_skip (hK2 _ ?_)
    refine AW_cond true rfl (fun _ => ?_) (fun h => by cases h)
    refine AW_rg (tyOf_good _) [1, 7] [37] (fun _ _ => trivial) fun K' hK' => ?_
    repeat (refine sxf_next fun K2 hK2 => ?_; simp [dNum, dB, dS]; (repeat (refine ⟨by omega, ?_⟩)); refine hK2 _ ?_; clear hK2 K2)
    refine sxf_nil (hK' _ ?_)
    refine AW.st (by simp [dNum, dB, dS]; rfl) ?_
    clear hK' K'
    refine AW.imp (Imp.freezeB 37 trivial) ?_
    refine AW.st (by simp [dNum, dB]; rfl) ?_
    refine AW_then fun K3 hK3 => ?_
    refine AW_rg (tyOf_good _) [7, 38] [] (fun _ _ => trivial) fun K' hK' => ?_
    repeat (refine sxf_next fun K2 hK2 => ?_; simp [dNum, dB]; (repeat (refine ⟨by omega, ?_⟩)); refine hK2 _ ?_; clear hK2 K2)
    refine sxf_nil (hK' _ ?_)
    refine AW.st (by simp [dNum, dB]; rfl) ?_
    clear hK' K'
    refine AW_cond true rfl (fun _ => ?_) (fun h => by cases h)
    refine AW_rg (tyOf_good _) [4] [40, 42] (fun _ _ => trivial) fun K' hK' => ?_
    repeat (refine sxf_next fun K2 hK2 => ?_; simp [dNum, dB]; (repeat (refine ⟨by omega, ?_⟩)); refine hK2 _ ?_; clear hK2 K2)
    refine sxf_nil (hK' _ ?_)
    refine AW.st (by simp [dNum, dB]; rfl) ?_
    clear hK' K'
    refine AW.imp (Imp.freeze 40 trivial) ?_
    refine AW.st (by simp [dNum, dB]; rfl) ?_
    refine AW.imp (Imp.freezeB 42 trivial) ?_
    refine AW.st (by simp [dNum, dB]; rfl) ?_
    refine AW_ret ?_
    simp [D.le, D.le.go, takeMap, dNum, dB, dF, dFs, ofK, dS, bs_nil]
  · refine PureC.of_body (tyOf_good _) Tryd.func44 rfl rfl (rs := [.tmp 4]) Tryd.results44 (by simp [Tryd.ntmps44]) fun X => ?_
    simp only [Tryd.ntmps44, List.map]
    refine AW_rg (tyOf_good _) [0, 1] [] (fun _ _ => trivial) fun K' hK' => ?_
    repeat (refine sxf_next fun K2 hK2 => ?_; simp [dNum, dB, dF, dFs, ofK]; (repeat (refine ⟨by omega, ?_⟩)); refine hK2 _ ?_; clear hK2 K2)
    refine sxf_nil (hK' _ ?_)
    refine AW.st (by simp [dNum, dB, dF, dFs, ofK]; rfl) ?_
    clear hK' K'
    refine AW_rg (tyOf_good _) [0, 1, 5] [] (fun _ _ => trivial) fun K' hK' => ?_
    repeat (refine sxf_next fun K2 hK2 => ?_; simp [dNum, dB]; (repeat (refine ⟨by omega, ?_⟩)); refine hK2 _ ?_; clear hK2 K2)
    refine sxf_nil (hK' _ ?_)
    refine AW.st (by simp [dNum, dB]; rfl) ?_
    clear hK' K'
    refine AW_rg (tyOf_good _) [0, 1, 5, 6] [] (fun _ _ => trivial) fun K' hK' => ?_
    repeat (refine sxf_next fun K2 hK2 => ?_; simp [dNum, dB]; (repeat (refine ⟨by omega, ?_⟩)); refine hK2 _ ?_; clear hK2 K2)
    refine sxf_nil (hK' _ ?_)
    refine AW.st (by simp [dNum, dB]; rfl) ?_
    clear hK' K'
    refine AW_then fun K1 hK1 => ?_
    refine AW_rg (tyOf_good _) [0, 1, 5, 6, 19] [] (fun _ _ => trivial) fun K' hK' => ?_
    repeat (refine sxf_next fun K2 hK2 => ?_; simp [dNum, dB]; (repeat (refine ⟨by omega, ?_⟩)); refine hK2 _ ?_; clear hK2 K2)
    refine sxf_nil (hK' _ ?_)
    refine AW.st (by simp [dNum, dB]; rfl) ?_
    clear hK' K'
    refine AW_block ?_
    refine AW_rg (tyOf_good _) [0, 1, 5, 6, 19, 20] [] (fun _ _ => trivial) fun K' hK' => ?_
    repeat (refine sxf_next fun K2 hK2 => ?_; simp [dNum, dB]; (repeat (refine ⟨by omega, ?_⟩)); refine hK2 _ ?_; clear hK2 K2)
    refine sxf_nil (hK' _ ?_)
    refine AW.st (by simp [dNum, dB]; rfl) ?_
    clear hK' K'
    refine AW_cond false rfl (fun h => by cases h) (fun _ => ?_)
    refine AW_then fun K2 hK2 => ?_
    refine AW_rg (tyOf_good _) [0, 1, 5, 6, 19, 28] [] (fun _ _ => trivial) fun K' hK' => ?_
    repeat (refine sxf_next fun K2 hK2 => ?_; simp [dNum, dB]; (repeat (refine ⟨by omega, ?_⟩)); refine hK2 _ ?_; clear hK2 K2)
    refine sxf_nil (hK' _ ?_)
    refine AW.st (by simp [dNum, dB]; rfl) ?_
    clear hK' K'
    refine AW_cond false rfl (fun h => by cases h) (fun _ => ?_)
    refine AW_re (tyOf_good _) fun K' hK' => ?_
    repeat (refine sxf_next fun K2 hK2 => ?_; simp [dNum, dB]; (repeat (refine ⟨by omega, ?_⟩)); refine hK2 _ ?_; clear hK2 K2)
    refine sxf_nil (hK' _ ?_)
    clear hK' K'
    refine hK2 _ (AW.norm [0, 1, 5, 6, 19, 28] [] (fun _ _ => trivial) (AW.st (by simp [dNum, dB]; rfl) ?_))
    refine AW_cond true rfl (fun _ => ?_) (fun h => by cases h)
    refine AW_rg (tyOf_good _) [1, 7] [37] (fun _ _ => trivial) fun K' hK' => ?_
    repeat (refine sxf_next fun K2 hK2 => ?_; simp [dNum, dB, dS]; (repeat (refine ⟨by omega, ?_⟩)); refine hK2 _ ?_; clear hK2 K2)
    refine sxf_nil (hK' _ ?_)
    refine AW.st (by simp [dNum, dB, dS]; rfl) ?_
    clear hK' K'
    refine AW.imp (Imp.freezeB 37 trivial) ?_
    refine AW.st (by simp [dNum, dB]; rfl) ?_
    refine AW_then fun K3 hK3 => ?_
    refine AW_rg (tyOf_good _) [7, 38] [] (fun _ _ => trivial) fun K' hK' => ?_
    repeat (refine sxf_next fun K2 hK2 => ?_; simp [dNum, dB]; (repeat (refine ⟨by omega, ?_⟩)); refine hK2 _ ?_; clear hK2 K2)
    refine sxf_nil (hK' _ ?_)
    refine AW.st (by simp [dNum, dB]; rfl) ?_
    clear hK' K'
    refine AW_cond false rfl (fun h => by cases h) (fun _ => ?_)
    refine AW_skip (hK3 _ ?_)
    refine AW_rg (tyOf_good _) [4] [] (fun _ _ => trivial) fun K' hK' => ?_
    repeat (refine sxf_next fun K2 hK2 => ?_; simp [dNum, dB]; (repeat (refine ⟨by omega, ?_⟩)); refine hK2 _ ?_; clear hK2 K2)
    refine sxf_nil (hK' _ ?_)
    refine AW.st (by simp [dNum, dB]; rfl) ?_
    clear hK' K'
    refine AW_ret ?_
    simp [D.le, D.le.go, takeMap, dNum, dB, dF, dFs, ofK, dS, bs_nil]
  · refine PureC.of_body (tyOf_good _) Tryd.func44 rfl rfl (rs := [.tmp 4]) Tryd.results44 (by simp [Tryd.ntmps44]) fun X => ?_
    simp only [Tryd.ntmps44, List.map]
    refine AW_rg (tyOf_good _) [0, 1] [] (fun _ _ => trivial) fun K' hK' => ?_
    repeat (refine sxf_next fun K2 hK2 => ?_; simp [dNum, dB, dF, dFs, ofK]; (repeat (refine ⟨by omega, ?_⟩)); refine hK2 _ ?_; clear hK2 K2)
    refine sxf_nil (hK' _ ?_)
    refine AW.st (by simp [dNum, dB, dF, dFs, ofK]; rfl) ?_
    clear hK' K'
    refine AW_rg (tyOf_good _) [0, 1, 5] [] (fun _ _ => trivial) fun K' hK' => ?_
    repeat (refine sxf_next fun K2 hK2 => ?_; simp [dNum, dB]; (repeat (refine ⟨by omega, ?_⟩)); refine hK2 _ ?_; clear hK2 K2)
    refine sxf_nil (hK' _ ?_)
    refine AW.st (by simp [dNum, dB]; rfl) ?_
    clear hK' K'
    refine AW_rg (tyOf_good _) [0, 1, 5, 6] [] (fun _ _ => trivial) fun K' hK' => ?_
    repeat (refine sxf_next fun K2 hK2 => ?_; simp [dNum, dB]; (repeat (refine ⟨by omega, ?_⟩)); refine hK2 _ ?_; clear hK2 K2)
    refine sxf_nil (hK' _ ?_)
    refine AW.st (by simp [dNum, dB]; rfl) ?_
    clear hK' K'
    refine AW_then fun K1 hK1 => ?_
    refine AW_rg (tyOf_good _) [0, 1, 5, 6, 19] [] (fun _ _ => trivial) fun K' hK' => ?_
    repeat (refine sxf_next fun K2 hK2 => ?_; simp [dNum, dB]; (repeat (refine ⟨by omega, ?_⟩)); refine hK2 _ ?_; clear hK2 K2)
    refine sxf_nil (hK' _ ?_)
    refine AW.st (by simp [dNum, dB]; rfl) ?_
    clear hK' K'
    refine AW_block ?_
    refine AW_rg (tyOf_good _) [0, 1, 5, 6, 19, 20] [] (fun _ _ => trivial) fun K' hK' => ?_
    repeat (refine sxf_next fun K2 hK2 => ?_; simp [dNum, dB]; (repeat (refine ⟨by omega, ?_⟩)); refine hK2 _ ?_; clear hK2 K2)
    refine sxf_nil (hK' _ ?_)
    refine AW.st (by simp [dNum, dB]; rfl) ?_
    clear hK' K'
    refine AW_cond false rfl (fun h => by cases h) (fun _ => ?_)
    refine AW_then fun K2 hK2 => ?_
    refine AW_rg (tyOf_good _) [0, 1, 5, 6, 19, 28] [] (fun _ _ => trivial) fun K' hK' => ?_
    repeat (refine sxf_next fun K2 hK2 => ?_; simp [dNum, dB]; (repeat (refine ⟨by omega, ?_⟩)); refine hK2 _ ?_; clear hK2 K2)
    refine sxf_nil (hK' _ ?_)
    refine AW.st (by simp [dNum, dB]; rfl) ?_
    clear hK' K'
    refine AW_cond false rfl (fun h => by cases h) (fun _ => ?_)
    refine AW_re (tyOf_good _) fun K' hK' => ?_
    repeat (refine sxf_next fun K2 hK2 => ?_; simp [dNum, dB]; (repeat (refine ⟨by omega, ?_⟩)); refine hK2 _ ?_; clear hK2 K2)
    refine sxf_nil (hK' _ ?_)
    clear hK' K'
    refine hK2 _ (AW.norm [0, 1, 5, 6, 19, 28] [] (fun _ _ => trivial) (AW.st (by simp [dNum, dB]; rfl) ?_))
    refine AW_cond true rfl (fun _ => ?_) (fun h => by cases h)
    refine AW_rg (tyOf_good _) [1, 7] [37] (fun _ _ => trivial) fun K' hK' => ?_
    repeat (refine sxf_next fun K2 hK2 => ?_; simp [dNum, dB, dS]; (repeat (refine ⟨by omega, ?_⟩)); refine hK2 _ ?_; clear hK2 K2)
    refine sxf_nil (hK' _ ?_)
    refine AW.st (by simp [dNum, dB, dS]; rfl) ?_
    clear hK' K'
    refine AW.imp (Imp.freezeB 37 trivial) ?_
    refine AW.st (by simp [dNum, dB]; rfl) ?_
    refine AW_then fun K3 hK3 => ?_
    refine AW_rg (tyOf_good _) [7, 38] [] (fun _ _ => trivial) fun K' hK' => ?_
    repeat (refine sxf_next fun K2 hK2 => ?_; simp [dNum, dB]; (repeat (refine ⟨by omega, ?_⟩)); refine hK2 _ ?_; clear hK2 K2)
    refine sxf_nil (hK' _ ?_)
    refine AW.st (by simp [dNum, dB]; rfl) ?_
    clear hK' K'
    refine AW_cond true rfl (fun _ => ?_) (fun h => by cases h)
    refine AW_rg (tyOf_good _) [4] [40, 42] (fun _ _ => trivial) fun K' hK' => ?_
    repeat (refine sxf_next fun K2 hK2 => ?_; simp [dNum, dB]; (repeat (refine ⟨by omega, ?_⟩)); refine hK2 _ ?_; clear hK2 K2)
    refine sxf_nil (hK' _ ?_)
    refine AW.st (by simp [dNum, dB]; rfl) ?_
    clear hK' K'
    refine AW.imp (Imp.freeze 40 trivial) ?_
    refine AW.st (by simp [dNum, dB]; rfl) ?_
    refine AW.imp (Imp.freezeB 42 trivial) ?_
    refine AW.st (by simp [dNum, dB]; rfl) ?_
    refine AW_ret ?_
    simp [D.le, D.le.go, takeMap, dNum, dB, dF, dFs, ofK, dS, bs_nil]

set_option maxHeartbeats 4000000 in
theorem push_not (G : Glob) (x : Fm) (no : Bool) (hip : ∃ c, dF x = .ip c) (h : PureC Tryd.prog G 44 [dF x, .v (.bool (!no))] (dF (pushF x (!no)))) : PureC Tryd.prog G 44 [dF (.mk 3 [] [x]), .v (.bool no)] (dF (pushF (.mk 3 [] [x]) no)) := by
  have hp : pushF (.mk 3 [] [x]) no = pushF x (!no) := by simp [pushF, pushH]
  rw [hp]
  clear hp
  generalize dF (pushF x (!no)) = y at h ⊢
  obtain ⟨c, hc⟩ := hip
  have e : dF (.mk 3 [] [x]) = .ip [dNum 3, dS [], .sl none [[dF x]]] := rfl
  rw [e, hc]
  rw [hc] at h
  refine PureC.of_body (tyOf_good _) Tryd.func44 rfl rfl (rs := [.tmp 4]) Tryd.results44 (by simp [Tryd.ntmps44]) fun X => ?_
  simp only [Tryd.ntmps44, List.map]
  refine AW_rg (tyOf_good _) [0, 1] [] (fun _ _ => trivial) fun K' hK' => ?_
  repeat (refine sxf_next fun K2 hK2 => ?_; simp [dNum, dB]; (repeat (refine ⟨by omega, ?_⟩)); refine hK2 _ ?_; clear hK2 K2)
  refine sxf_nil (hK' _ ?_)
  refine AW.st (by simp [dNum, dB]; rfl) ?_
  clear hK' K'
  refine AW_rg (tyOf_good _) [0, 1, 5] [] (fun _ _ => trivial) fun K' hK' => ?_
  repeat (refine sxf_next fun K2 hK2 => ?_; simp [dNum, dB]; (repeat (refine ⟨by omega, ?_⟩)); refine hK2 _ ?_; clear hK2 K2)
  refine sxf_nil (hK' _ ?_)
  refine AW.st (by simp [dNum, dB]; rfl) ?_
  clear hK' K'
  refine AW_rg (tyOf_good _) [0, 1, 5, 6] [] (fun _ _ => trivial) fun K' hK' => ?_
  repeat (refine sxf_next fun K2 hK2 => ?_; simp [dNum, dB]; (repeat (refine ⟨by omega, ?_⟩)); refine hK2 _ ?_; clear hK2 K2)
  refine sxf_nil (hK' _ ?_)
  refine AW.st (by simp [dNum, dB]; rfl) ?_
  clear hK' K'
  refine AW_then fun K1 hK1 => ?_
  refine AW_rg (tyOf_good _) [0, 1, 5, 6, 19] [] (fun _ _ => trivial) fun K' hK' => ?_
  repeat (refine sxf_next fun K2 hK2 => ?_; simp [dNum, dB]; (repeat (refine ⟨by omega, ?_⟩)); refine hK2 _ ?_; clear hK2 K2)
  refine sxf_nil (hK' _ ?_)
  refine AW.st (by simp [dNum, dB]; rfl) ?_
  clear hK' K'
  refine AW_block ?_
  refine AW_rg (tyOf_good _) [0, 1, 5, 6, 19, 20] [] (fun _ _ => trivial) fun K' hK' => ?_
  repeat (refine sxf_next fun K2 hK2 => ?_; simp [dNum, dB]; (repeat (refine ⟨by omega, ?_⟩)); refine hK2 _ ?_; clear hK2 K2)
  refine sxf_nil (hK' _ ?_)
  refine AW.st (by simp [dNum, dB]; rfl) ?_
  clear hK' K'
  refine AW_cond true rfl (fun _ => ?_) (fun h => by cases h)
  refine AW_rg (tyOf_good _) [4] [] (fun _ _ => trivial) fun K' hK' => ?_
  repeat (refine sxf_next fun K2 hK2 => ?_; simp [dNum, dB]; (repeat (refine ⟨by omega, ?_⟩)); refine hK2 _ ?_; clear hK2 K2)
  refine sxf_next fun K2 hK2 => ?_
  simp [dNum, dB]
  refine callK.data (h) (by simp; rfl) (by first | exact D.leGo_refl _ | simp [takeMap, List.map_map, Function.comp_def, D.le, D.le.go, D.le_refl, D.leGo_refl, dNum, dB]) ?_
  refine hK2 _ ?_
  clear hK2 K2
  simp only [putd, upd_lst]
  repeat (refine sxf_next fun K2 hK2 => ?_; simp [dNum, dB]; (repeat (refine ⟨by omega, ?_⟩)); refine hK2 _ ?_; clear hK2 K2)
  refine sxf_nil (hK' _ ?_)
  refine AW.st (by simp [dNum, dB]; rfl) ?_
  clear hK' K'
  refine AW_ret ?_
  simp [D.le, D.le.go, takeMap, dNum, dB, D.le_refl]
theorem flip_look {k : Int} (hk : k = 4 ∨ k = 5 ∨ k = 6 ∨ k = 7 ∨ k = 8) : entGet (.int .i64 k) [(.int .i64 4, .v (.int .i64 5)), (.int .i64 5, .v (.int .i64 4)), (.int .i64 6, .v (.int .i64 6)), (.int .i64 7, .v (.int .i64 8)), (.int .i64 8, .v (.int .i64 7))] = some (.v (.int .i64 (flipK k true))) := by
  rcases hk with rfl | rfl | rfl | rfl | rfl <;> rfl

set_option maxHeartbeats 8000000 in
theorem push_rest (G : Glob) (no : Bool) (k : Int) (l : List Fm) (hk : k = 4 ∨ k = 5 ∨ k = 6 ∨ k = 7 ∨ k = 8 ∨ k = 9 ∨ k = 10) (hl0 : l ≠ []) (hl2 : l.length ≤ 2) (h9 : k = 9 ∨ k = 10 → l.length = 1) (hip : ∀ x ∈ l, ∃ c, dF x = .ip c)
    (hpp : ∀ x ∈ l, ∃ c, dF (pushF x no) = .ip c)
    (hch : ∀ x ∈ l, PureC Tryd.prog G 44 [dF x, .v (.bool no)] (dF (pushF x no))) : PureC Tryd.prog G 44 [dF (.mk k [] l), .v (.bool no)] (dF (pushF (.mk k [] l) no)) := by
  have hof : ofK l = none := by cases l with | nil => exact absurd rfl hl0 | cons x y => rfl
  have e : dF (.mk k [] l) = .ip [dNum k, dS [], .sl none (l.map fun f => [dF f])] := by rw [dF, hof, dFs_map]
  have hk31 : k ≠ 3 ∧ k ≠ 1 ∧ k ≠ 2 := by omega
  obtain ⟨hk3, hk1, hk2⟩ := hk31
  rw [e]
  refine PureC.of_body (tyOf_good _) Tryd.func44 rfl rfl (rs := [.tmp 4]) Tryd.results44 (by simp [Tryd.ntmps44]) fun X => ?_
  simp only [Tryd.ntmps44, List.map]
  refine AW_rg (tyOf_good _) [0, 1] [] (fun _ _ => trivial) fun K' hK' => ?_
  repeat (refine sxf_next fun K2 hK2 => ?_; simp [dNum, dB]; (repeat (refine ⟨by omega, ?_⟩)); refine hK2 _ ?_; clear hK2 K2)
  refine sxf_nil (hK' _ ?_)
  refine AW.st (by simp [dNum, dB]; rfl) ?_
  clear hK' K'
  refine AW_rg (tyOf_good _) [0, 1, 5] [] (fun _ _ => trivial) fun K' hK' => ?_
  repeat (refine sxf_next fun K2 hK2 => ?_; simp [dNum, dB]; (repeat (refine ⟨by omega, ?_⟩)); refine hK2 _ ?_; clear hK2 K2)
  refine sxf_nil (hK' _ ?_)
  refine AW.st (by simp [dNum, dB]; rfl) ?_
  clear hK' K'
  refine AW_rg (tyOf_good _) [0, 1, 5, 6] [] (fun _ _ => trivial) fun K' hK' => ?_
  repeat (refine sxf_next fun K2 hK2 => ?_; simp [dNum, dB]; (repeat (refine ⟨by omega, ?_⟩)); refine hK2 _ ?_; clear hK2 K2)
  refine sxf_nil (hK' _ ?_)
  refine AW.st (by simp [dNum, dB]; rfl) ?_
  clear hK' K'
  refine AW_then fun K1 hK1 => ?_
  refine (fun hcont => ?_) (fun (k' : Int) (L : List Fm) (hk' : k' = 4 ∨ k' = 5 ∨ k' = 6 ∨ k' = 7 ∨ k' = 8) (hL0 : L ≠ []) (hL2 : L.length ≤ 2) (hipL : ∀ x ∈ L, ∃ c, dF x = .ip c) (hppL : ∀ x ∈ L, ∃ c, dF (pushF x no) = .ip c) (hchL : ∀ x ∈ L, PureC Tryd.prog G 44 [dF x, .v (.bool no)] (dF (pushF x no))) (hres : pushF (.mk k [] l) no = .mk (flipK k' no) [] (pushL L no)) (σ : St) himp => hK1 σ (AW.imp (τ := ⟨lst [(1, .d (.v (.bool no))), (5, int k'), (6, .d (.sl none (L.map fun f => [dF f])))], hlst []⟩) himp ?_))
  · refine AW_rg (tyOf_good _) [0, 1, 5, 6, 19] [] (fun _ _ => trivial) fun K' hK' => ?_
    repeat (refine sxf_next fun K2 hK2 => ?_; simp [dNum, dB]; (repeat (refine ⟨by omega, ?_⟩)); refine hK2 _ ?_; clear hK2 K2)
    refine sxf_nil (hK' _ ?_)
    refine AW.st (by simp [dNum, dB]; rfl) ?_
    clear hK' K'
    refine AW_block ?_
    refine AW_rg (tyOf_good _) [0, 1, 5, 6, 19, 20] [] (fun _ _ => trivial) fun K' hK' => ?_
    repeat (refine sxf_next fun K2 hK2 => ?_; simp [dNum, dB, hk3]; (repeat (refine ⟨by omega, ?_⟩)); refine hK2 _ ?_; clear hK2 K2)
    refine sxf_nil (hK' _ ?_)
    refine AW.st (by simp [dNum, dB, hk3]; rfl) ?_
    clear hK' K'
    refine AW_cond false rfl (fun h => by cases h) (fun _ => ?_)
    refine AW_then fun K2 hK2 => ?_
    refine AW_rg (tyOf_good _) [0, 1, 5, 6, 19, 28] [] (fun _ _ => trivial) fun K' hK' => ?_
    repeat (refine sxf_next fun K2 hK2 => ?_; simp [dNum, dB, hk1]; (repeat (refine ⟨by omega, ?_⟩)); refine hK2 _ ?_; clear hK2 K2)
    refine sxf_nil (hK' _ ?_)
    refine AW.st (by simp [dNum, dB, hk1]; rfl) ?_
    clear hK' K'
    refine AW_cond false rfl (fun h => by cases h) (fun _ => ?_)
    refine AW_re (tyOf_good _) fun K' hK' => ?_
    repeat (refine sxf_next fun K2 hK2 => ?_; simp [dNum, dB, hk2]; (repeat (refine ⟨by omega, ?_⟩)); refine hK2 _ ?_; clear hK2 K2)
    refine sxf_nil (hK' _ ?_)
    clear hK' K'
    refine hK2 _ (AW.norm [0, 1, 5, 6, 19, 28] [] (fun _ _ => trivial) (AW.st (by simp [dNum, dB, hk2]; rfl) ?_))
    refine AW_cond false rfl (fun h => by cases h) (fun _ => ?_)
    by_cases h9k : k = 9
    · subst h9k
      obtain ⟨x, rfl⟩ := List.length_eq_one_iff.1 (h9 (.inl rfl))
      obtain ⟨cx, hcx⟩ := hip x (by simp)
      simp only [List.map, hcx]
      refine AW_rg (tyOf_good _) [1, 5, 6, 19, 44] [] (fun _ _ => trivial) fun K' hK' => ?_
      repeat (refine sxf_next fun K2 hK2 => ?_; simp [dNum, dB]; (repeat (refine ⟨by omega, ?_⟩)); refine hK2 _ ?_; clear hK2 K2)
      refine sxf_nil (hK' _ ?_)
      refine AW.st (by simp [dNum, dB]; rfl) ?_
      clear hK' K'
      refine AW_cond true rfl (fun _ => ?_) (fun h => by cases h)
      refine AW_rbe (tyOf_good _) (by kernel_rfl) ([1, 5]) ([0, 1, 2, 3, 4, 5, 6, 7]) (by kernel_rfl) fun K' hK' => ?_
      repeat (refine sxb_nextO rfl fun K2 hK2 => ?_; simp [dNum, dB]; (repeat (refine ⟨by omega, ?_⟩)); refine hK2 _ ?_; clear hK2 K2)
      refine sxb_nilO (hK' _ ?_)
      clear hK' K'
      try simp only [thn, inb]
      refine hcont 7 [.mk 2 [] [], x] (by simp) (by simp) (by simp) (fun y hy => ?_) (fun y hy => ?_) (fun y hy => ?_) (by simp [pushF, kindP, preP, pT, pushL]) _ ?_
      · rcases List.mem_cons.1 hy with rfl | hy
        · exact ⟨_, rfl⟩
        · exact hip y hy
      · rcases List.mem_cons.1 hy with rfl | hy
        · cases no <;> exact ⟨_, rfl⟩
        · exact hpp y hy
      · rcases List.mem_cons.1 hy with rfl | hy
        · exact push_leaf G 2 [] (.inr rfl) no
        · exact hch y hy
      refine Imp.to' (fun _ _ => trivial) (by simp [dNum, dB, dF, dFs, ofK, dS, bs_nil, hcx]) (by simp [dNum, dB, dF, dFs, ofK, dS, bs_nil, hcx])
    · by_cases h10k : k = 10
      · subst h10k
        obtain ⟨x, rfl⟩ := List.length_eq_one_iff.1 (h9 (.inr rfl))
        obtain ⟨cx, hcx⟩ := hip x (by simp)
        simp only [List.map, hcx]
        refine AW_rg (tyOf_good _) [1, 5, 6, 19, 44] [] (fun _ _ => trivial) fun K' hK' => ?_
        repeat (refine sxf_next fun K2 hK2 => ?_; simp [dNum, dB]; (repeat (refine ⟨by omega, ?_⟩)); refine hK2 _ ?_; clear hK2 K2)
        refine sxf_nil (hK' _ ?_)
        refine AW.st (by simp [dNum, dB]; rfl) ?_
        clear hK' K'
        refine AW_cond false rfl (fun h => by cases h) (fun _ => ?_)
        refine AW_rg (tyOf_good _) [1, 5, 6, 52] [] (fun _ _ => trivial) fun K' hK' => ?_
        repeat (refine sxf_next fun K2 hK2 => ?_; simp [dNum, dB]; (repeat (refine ⟨by omega, ?_⟩)); refine hK2 _ ?_; clear hK2 K2)
        refine sxf_nil (hK' _ ?_)
        refine AW.st (by simp [dNum, dB]; rfl) ?_
        clear hK' K'
        refine AW_cond true rfl (fun _ => ?_) (fun h => by cases h)
        refine AW_rbe (tyOf_good _) (by kernel_rfl) ([1, 2, 4, 8]) ([0, 1, 2, 3, 4, 5, 6, 7, 8, 9, 10]) (by kernel_rfl) fun K' hK' => ?_
        repeat (refine sxb_nextO rfl fun K2 hK2 => ?_; simp [dNum, dB]; (repeat (refine ⟨by omega, ?_⟩)); refine hK2 _ ?_; clear hK2 K2)
        refine sxb_nilO (hK' _ ?_)
        clear hK' K'
        try simp only [thn, inb]
        refine hcont 8 [.mk 3 [] [.mk 2 [] []], x] (by simp) (by simp) (by simp) (fun y hy => ?_) (fun y hy => ?_) (fun y hy => ?_) (by cases no <;> simp [pushF, pushH, kindP, preP, pT, pushL]) _ ?_
        · rcases List.mem_cons.1 hy with rfl | hy
          · exact ⟨_, rfl⟩
          · exact hip y hy
        · rcases List.mem_cons.1 hy with rfl | hy
          · cases no <;> exact ⟨_, rfl⟩
          · exact hpp y hy
        · rcases List.mem_cons.1 hy with rfl | hy
          · exact push_not G (.mk 2 [] []) no ⟨_, rfl⟩ (push_leaf G 2 [] (.inr rfl) (!no))
          · exact hch y hy
        refine Imp.to' (fun _ _ => trivial) (by simp [dNum, dB, dF, dFs, ofK, dS, bs_nil, hcx]) (by simp [dNum, dB, dF, dFs, ofK, dS, bs_nil, hcx])
      · have hk4 : k = 4 ∨ k = 5 ∨ k = 6 ∨ k = 7 ∨ k = 8 := by omega
        refine AW_rg (tyOf_good _) [1, 5, 6, 19, 44] [] (fun _ _ => trivial) fun K' hK' => ?_
        repeat (refine sxf_next fun K2 hK2 => ?_; simp [dNum, dB, h9k]; (repeat (refine ⟨by omega, ?_⟩)); refine hK2 _ ?_; clear hK2 K2)
        refine sxf_nil (hK' _ ?_)
        refine AW.st (by simp [dNum, dB, h9k]; rfl) ?_
        clear hK' K'
        refine AW_cond false rfl (fun h => by cases h) (fun _ => ?_)
        refine AW_rg (tyOf_good _) [1, 5, 6, 52] [] (fun _ _ => trivial) fun K' hK' => ?_
        repeat (refine sxf_next fun K2 hK2 => ?_; simp [dNum, dB, h10k]; (repeat (refine ⟨by omega, ?_⟩)); refine hK2 _ ?_; clear hK2 K2)
        refine sxf_nil (hK' _ ?_)
        refine AW.st (by simp [dNum, dB, h10k]; rfl) ?_
        clear hK' K'
        refine AW_cond false rfl (fun h => by cases h) (fun _ => ?_)
        refine AW_skip ?_
        refine hcont k l hk4 hl0 hl2 hip hpp hch ?_ _ ?_
        · rw [pushF, if_neg hk3, if_neg (by omega)]
          simp [kindP, preP, h9k, h10k]
        refine Imp.to' (fun _ _ => trivial) (by simp [dNum, dB]) (by simp [dNum, dB])
  · rw [hres]
    have hkk : ∃ kk, flipK k' no = kk := ⟨_, rfl⟩
    obtain ⟨kk, hkk⟩ := hkk
    rw [hkk]
    clear hK1 hres
    refine AW_then fun K4 hK4 => ?_
    refine AW_rg (tyOf_good _) [1, 5, 6, 63] [] (fun _ _ => trivial) fun K' hK' => ?_
    repeat (refine sxf_next fun K2 hK2 => ?_; simp [dNum, dB]; (repeat (refine ⟨by omega, ?_⟩)); refine hK2 _ ?_; clear hK2 K2)
    refine sxf_nil (hK' _ ?_)
    refine AW.st (by simp [dNum, dB]; rfl) ?_
    clear hK' K'
    refine (fun hcont2 => ?_) (fun (σ : St) himp => hK4 σ (AW.imp (τ := ⟨lst [(1, .d (.v (.bool no))), (5, int kk), (6, .d (.sl none (L.map fun f => [dF f])))], hlst []⟩) himp ?_))
    · cases no with
      | true =>
        have hlk := flip_look hk'
        rw [hkk] at hlk
        refine AW_cond true rfl (fun _ => ?_) (fun h => by cases h)
        refine AW_re (tyOf_good _) fun K' hK' => ?_
        repeat (refine sxf_next fun K2 hK2 => ?_; simp [dNum, dB, hlk, ofOk, zeroM]; (repeat (refine ⟨by omega, ?_⟩)); refine hK2 _ ?_; clear hK2 K2)
        refine sxf_nil (hK' _ ?_)
        clear hK' K'
        try simp only [thn, inb]
        refine hcont2 _ ?_
        refine Imp.to' (fun _ _ => trivial) (by simp [dNum, dB]) (by simp [dNum, dB])
      | false =>
        have hkk : k' = kk := hkk
        subst hkk
        refine AW_cond false rfl (fun h => by cases h) (fun _ => ?_)
        refine AW_skip (hcont2 _ ?_)
        refine Imp.to' (fun _ _ => trivial) (by simp [dNum, dB]) (by simp [dNum, dB])
    · have hLn : L.length < 2^60 := by omega
      refine AW_rg (tyOf_good _) [1, 6, 8] [70] (fun _ _ => trivial) fun K' hK' => ?_
      repeat (refine sxf_next fun K2 hK2 => ?_; simp [dNum, dB]; (repeat (refine ⟨by omega, ?_⟩)); refine hK2 _ ?_; clear hK2 K2)
      refine sxf_nil (hK' _ ?_)
      refine AW.st (by simp [dNum, dB]; rfl) ?_
      clear hK' K'
      refine AW_then fun K5 hK5 => ?_
      refine AW_rg (tyOf_good _) [1, 8, 71, 72, 73] [70] (fun _ _ => trivial) fun K' hK' => ?_
      repeat (refine sxf_next fun K2 hK2 => ?_; simp [dNum, dB]; (repeat (refine ⟨by omega, ?_⟩)); refine hK2 _ ?_; clear hK2 K2)
      refine sxf_nil (hK' _ ?_)
      refine AW.st (by simp [dNum, dB]; rfl) ?_
      clear hK' K'
      refine AW_for (S := Nat) (fun n => n ≤ L.length) (fun n => ⟨lst [(1, .d (.v (.bool no))), (8, .ref 70 0 0), (71, .d (.sl none (L.map fun f => [dF f]))), (72, int L.length), (73, int n)], hlst [(70, .box 91 [int kk, .d (dS []), .own 86 0 n]), (86, .sl 40 1 (List.take n (L.map fun f => [dF (pushF f no)])))]⟩) (fun n => L.length - n) 0 ?_ (by omega) ?_
      · refine (Imp.adoptCell 70 2 86 40 1 rfl rfl rfl).trans ?_
        refine Imp.to' (fun _ _ => trivial) (by simp [dNum, dB, dS, bs_nil]) (by simp [dNum, dB, dS, bs_nil])
      · intro n hn
        refine AW_rg (tyOf_good _) [1, 8, 71, 72, 73, 74] [70, 86] (fun _ _ => trivial) fun K' hK' => ?_
        repeat (refine sxf_next fun K2 hK2 => ?_; simp [dNum, dB]; (repeat (refine ⟨by omega, ?_⟩)); refine hK2 _ ?_; clear hK2 K2)
        refine sxf_nil (hK' _ ?_)
        refine AW.st (by simp [dNum, dB]; rfl) ?_
        clear hK' K'
        refine AW_then fun K6 hK6 => ?_
        refine AW_cond' (b := n < L.length) (by simp [D.le, D.le.go, takeMap, dNum, dB]) (fun hc => ?_) (fun hc => ?_)
        · have hnl : n < L.length := hc
          obtain ⟨ci, hci⟩ := hipL _ (List.getElem_mem hnl)
          have hcc := hchL _ (List.getElem_mem hnl)
          obtain ⟨cp, hcp⟩ := hppL _ (List.getElem_mem hnl)
          rw [hci, hcp] at hcc
          have htk : ∀ g : Fm → List D, List.take (n + 1) (List.map g L) = List.take n (List.map g L) ++ [g L[n]] := fun g => by
            rw [List.take_succ_eq_append_getElem (by simp; exact hnl), List.getElem_map]
          refine AW_skip (hK6 _ ?_)
          refine AW_then fun K7 hK7 => ?_
          refine AW_block ?_
          refine AW_rg (tyOf_good _) [1, 8, 10, 71, 72, 73] [70, 86] (fun _ _ => trivial) fun K' hK' => ?_
          repeat (refine sxf_next fun K2 hK2 => ?_; simp [dNum, dB, hnl, hci]; (repeat (refine ⟨by omega, ?_⟩)); refine hK2 _ ?_; clear hK2 K2)
          refine sxf_nil (hK' _ ?_)
          refine AW.st (by simp [dNum, dB, hnl, hci]; rfl) ?_
          clear hK' K'
          refine AW_rle (tyOf_good _) (by kernel_rfl) ([(9, (86, 85))]) ([(0, [86])]) ([0, 1, 2, 3, 4, 5, 6, 7, 8, 9, 10, 11, 12]) (by kernel_rfl) fun K' hK' => ?_
          repeat (refine sxl_nextO rfl fun K2 hK2 => ?_; simp [dNum, dB, List.take_take]; (repeat (refine ⟨by omega, ?_⟩)); refine hK2 _ ?_; clear hK2 K2)
          refine sxl_nextO rfl fun K2 hK2 => ?_
          simp [dNum, dB, List.take_take]
          refine callD.mk (hcc) (by simp; rfl) (by simp; rfl) (by first | exact D.leGo_refl _ | simp [takeMap, List.map_map, Function.comp_def, D.le, D.le.go, D.le_refl, D.leGo_refl, dNum, dB, List.take_take]) (by simp) ?_
          refine hK2 _ ?_
          clear hK2 K2
          simp only [putd, upd_lst]
          repeat (refine sxl_nextO rfl fun K2 hK2 => ?_; simp [dNum, dB, List.take_take]; (repeat (refine ⟨by omega, ?_⟩)); refine hK2 _ ?_; clear hK2 K2)
          refine sxl_nilO (hK' _ ?_)
          clear hK' K'
          refine hK7 _ (AW.norm [1, 8, 71, 72, 73] [70, 86] (fun _ _ => trivial) (AW.st (by simp [dNum, dB, List.take_take]; rfl) ?_))
          refine AW_re (tyOf_good _) fun K' hK' => ?_
          repeat (refine sxf_next fun K2 hK2 => ?_; simp [dNum, dB]; (repeat (refine ⟨by omega, ?_⟩)); refine hK2 _ ?_; clear hK2 K2)
          refine sxf_nil (hK' _ ?_)
          clear hK' K'
          try simp only [thn, inb]
          refine Again.mk (n + 1) (by omega) (by omega) ?_
          refine Imp.to' (fun _ _ => trivial) (by simp [dNum, dB, htk, hcp, dS]) (by simp [dNum, dB, htk, hcp, dS])
        · obtain rfl : n = L.length := by omega
          refine AW_exit (hK5 _ ?_)
          have htkl : ∀ g : Fm → List D, List.take L.length (L.map g) = L.map g := fun g => List.take_of_length_le (by simp)
          refine AW.imp (Imp.freeze 86 trivial) ?_
          refine AW.st (by simp [dNum, dB, htkl]; rfl) ?_
          refine AW.imp (Imp.freezeB 70 trivial) ?_
          refine AW.st (by simp [dNum, dB]; rfl) ?_
          refine AW_rg (tyOf_good _) [4] [] (fun _ _ => trivial) fun K' hK' => ?_
          repeat (refine sxf_next fun K2 hK2 => ?_; simp [dNum, dB]; (repeat (refine ⟨by omega, ?_⟩)); refine hK2 _ ?_; clear hK2 K2)
          refine sxf_nil (hK' _ ?_)
          refine AW.st (by simp [dNum, dB]; rfl) ?_
          clear hK' K'
          have hofL : ofK (pushL L no) = none := by cases L with | nil => exact absurd rfl hL0 | cons x y => rfl
          have eL : dF (.mk kk [] (pushL L no)) = .ip [dNum kk, dS [], .sl none (L.map fun f => [dF (pushF f no)])] := by rw [dF, hofL, dFs_map, pushL_map, List.map_map]; rfl
          refine AW_ret ?_
          simp [D.le, D.le.go, takeMap, dNum, dB, eL, dS]

theorem push_ip : ∀ (d : Nat) (f : Fm), (rightF d f).2 = 0 → ∀ no, ∃ c, dF (pushF f no) = .ip c
  | 0, f, h, no => by obtain ⟨e, he, _⟩ := right_cases h; omega
  | d + 1, f, h, no => by
    obtain ⟨e, he, hc⟩ := right_cases h
    obtain rfl : d = e := by omega
    rcases hc with ⟨s, rfl⟩ | rfl | ⟨k, x, hx, rfl, hk⟩ | ⟨k, x, y, hx, hy, rfl, hk⟩
    · cases no <;> exact ⟨_, rfl⟩
    · cases no <;> exact ⟨_, rfl⟩
    · rcases hk with rfl | hk
      · have : pushF (.mk 3 [] [x]) no = pushF x (!no) := by simp [pushF, pushH]
        rw [this]
        exact push_ip d x hx (!no)
      · rw [pushF, if_neg (by omega), if_neg (by omega)]
        exact ⟨_, rfl⟩
    · rw [pushF, if_neg (by omega), if_neg (by omega)]
      exact ⟨_, rfl⟩
theorem push_spec (G : Glob) : ∀ (d : Nat) (f : Fm), (rightF d f).2 = 0 → ∀ no, PureC Tryd.prog G 44 [dF f, .v (.bool no)] (dF (pushF f no))
  | 0, f, h, no => by obtain ⟨e, he, _⟩ := right_cases h; omega
  | d + 1, f, h, no => by
    have hip : ∀ g, (rightF d g).2 = 0 → ∃ c, dF g = .ip c := fun g hg => by
      cases g with
      | nil => cases d <;> simp [rightF] at hg
      | mk k s l => exact ⟨_, rfl⟩
    obtain ⟨e, he, hc⟩ := right_cases h
    obtain rfl : d = e := by omega
    rcases hc with ⟨s, rfl⟩ | rfl | ⟨k, x, hx, rfl, hk⟩ | ⟨k, x, y, hx, hy, rfl, hk⟩
    · exact push_leaf G 1 s (.inl rfl) no
    · exact push_leaf G 2 [] (.inr rfl) no
    · rcases hk with rfl | hk
      · exact push_not G x no (hip x hx) (push_spec G d x hx (!no))
      · exact push_rest G no k [x] (by omega) (by simp) (by simp) (fun _ => rfl) (fun z hz => by rw [List.mem_singleton.1 hz]; exact hip x hx) (fun z hz => by rw [List.mem_singleton.1 hz]; exact push_ip d x hx no) (fun z hz => by rw [List.mem_singleton.1 hz]; exact push_spec G d x hx no)
    · refine push_rest G no k [x, y] (by omega) (by simp) (by simp) (fun h => by omega) (fun z hz => ?_) (fun z hz => ?_) (fun z hz => ?_)
      · rcases List.mem_cons.1 hz with rfl | hz
        · exact hip _ hx
        · rw [List.mem_singleton.1 hz]; exact hip y hy
      · rcases List.mem_cons.1 hz with rfl | hz
        · exact push_ip d _ hx no
        · rw [List.mem_singleton.1 hz]; exact push_ip d y hy no
      · rcases List.mem_cons.1 hz with rfl | hz
        · exact push_spec G d _ hx no
        · rw [List.mem_singleton.1 hz]; exact push_spec G d y hy no
#print axioms push_spec
end Go.Proofs.YtblafkekblaibaaDoor

/-
  Formulas pushed and written: lasso.Push, lasso.Text, and LassoPush.
-/
namespace Go.Proofs.YtblafkekblaibaaDoor
set_option linter.unusedSimpArgs false
set_option linter.unusedVariables false
open Go.Av

mutual
theorem names_push : ∀ (f : Fm), namesOk f → ∀ no, namesOk (pushF f no)
  | .nil, h, no => by rw [pushF]; trivial
  | .mk k s l, h, no => by
    rw [namesOk] at h
    rw [pushF]
    split
    · exact names_pushH l h.2 _
    · split
      · split <;> simp [namesOk, namesOkL, h.1]
      · rw [namesOk]
        refine ⟨by simp, ?_⟩
        have hL := names_pushL l h.2 no
        have hT : ∀ b, namesOk (pT b) := fun b => by cases b <;> simp [pT, namesOk, namesOkL]
        unfold preP
        split
        · exact ⟨hT _, hL⟩
        · split
          · exact ⟨hT _, hL⟩
          · exact hL
theorem names_pushH : ∀ (l : List Fm), namesOkL l → ∀ no, namesOk (pushH l no)
  | [], _, _ => by rw [pushH]; trivial
  | f :: _, h, no => by rw [pushH]; exact names_push f h.1 no
theorem names_pushL : ∀ (l : List Fm), namesOkL l → ∀ no, namesOkL (pushL l no)
  | [], _, _ => by rw [pushL]; trivial
  | f :: l, h, no => by rw [pushL]; exact ⟨names_push f h.1 no, names_pushL l h.2 no⟩
end

theorem Push_bad (G : Glob) (hA : HasArity G) (f : Fm) (hf : namesOk f) (h : rightE f ≠ 0) : PureC Tryd.prog G 16 [dF f] (.tup [dF .nil, dErr (errOf (rightE f))]) := by
  have hr := Right_spec G hA f hf
  rw [errOf_ne h] at hr ⊢
  generalize rightE f = e at hr
  generalize dF f = x at hr
  refine PureC.of_body (tyOf_good _) Tryd.func16 rfl rfl (rs := [.tmp 2, .tmp 3]) Tryd.results16 (by simp [Tryd.ntmps16]) fun X => ?_
  simp only [Tryd.ntmps16, List.map]
  refine AW_rg (tyOf_good _) [0] [] (fun _ _ => trivial) fun K' hK' => ?_
  repeat (refine sxf_next fun K2 hK2 => ?_; simp [dNum]; (repeat (refine ⟨by omega, ?_⟩)); refine hK2 _ ?_; clear hK2 K2)
  refine sxf_nil (hK' _ ?_)
  refine AW.st (by simp [dNum]; rfl) ?_
  clear hK' K'
  refine AW_then fun K1 hK1 => ?_
  refine AW_rg (tyOf_good _) [0, 4] [] (fun _ _ => trivial) fun K' hK' => ?_
  repeat (refine sxf_next fun K2 hK2 => ?_; simp [dNum, dErr]; (repeat (refine ⟨by omega, ?_⟩)); refine hK2 _ ?_; clear hK2 K2)
  refine sxf_next fun K2 hK2 => ?_
  simp [dNum, dErr]
  refine callK.data (hr) (by simp; rfl) (by first | exact D.leGo_refl _ | simp [takeMap, List.map_map, Function.comp_def, D.le, D.le.go, D.le_refl, D.leGo_refl, dNum, dErr]) ?_
  refine hK2 _ ?_
  clear hK2 K2
  simp only [putd, upd_lst]
  repeat (refine sxf_next fun K2 hK2 => ?_; simp [dNum, dErr]; (repeat (refine ⟨by omega, ?_⟩)); refine hK2 _ ?_; clear hK2 K2)
  refine sxf_nil (hK' _ ?_)
  refine AW.st (by simp [dNum, dErr]; rfl) ?_
  clear hK' K'
  refine AW_rg (tyOf_good _) [0, 4, 8] [] (fun _ _ => trivial) fun K' hK' => ?_
  repeat (refine sxf_next fun K2 hK2 => ?_; simp [dNum]; (repeat (refine ⟨by omega, ?_⟩)); refine hK2 _ ?_; clear hK2 K2)
  refine sxf_nil (hK' _ ?_)
  refine AW.st (by simp [dNum]; rfl) ?_
  clear hK' K'
  refine AW_cond true rfl (fun _ => ?_) (fun h => by cases h)
  refine AW_rg (tyOf_good _) [2, 3] [] (fun _ _ => trivial) fun K' hK' => ?_
  repeat (refine sxf_next fun K2 hK2 => ?_; simp [dNum]; (repeat (refine ⟨by omega, ?_⟩)); refine hK2 _ ?_; clear hK2 K2)
  refine sxf_nil (hK' _ ?_)
  refine AW.st (by simp [dNum]; rfl) ?_
  clear hK' K'
  refine AW_ret ?_
  simp [D.le, D.le.go, takeMap, dNum, dF, dErr]
theorem Push_good (G : Glob) (hA : HasArity G) (f : Fm) (hf : namesOk f) (h : rightE f = 0) : PureC Tryd.prog G 16 [dF f] (.tup [dF (pushF f false), .v .nilIface]) := by
  have hr := Right_spec G hA f hf
  have hp := push_spec G 20 f (rightE_ok h) false
  have e0 : errOf 0 = none := rfl
  rw [h, e0] at hr
  generalize dF (pushF f false) = y at hp ⊢
  generalize dF f = x at hr hp ⊢
  refine PureC.of_body (tyOf_good _) Tryd.func16 rfl rfl (rs := [.tmp 2, .tmp 3]) Tryd.results16 (by simp [Tryd.ntmps16]) fun X => ?_
  simp only [Tryd.ntmps16, List.map]
  refine AW_rg (tyOf_good _) [0] [] (fun _ _ => trivial) fun K' hK' => ?_
  repeat (refine sxf_next fun K2 hK2 => ?_; simp [dNum]; (repeat (refine ⟨by omega, ?_⟩)); refine hK2 _ ?_; clear hK2 K2)
  refine sxf_nil (hK' _ ?_)
  refine AW.st (by simp [dNum]; rfl) ?_
  clear hK' K'
  refine AW_then fun K1 hK1 => ?_
  refine AW_rg (tyOf_good _) [0, 4] [] (fun _ _ => trivial) fun K' hK' => ?_
  repeat (refine sxf_next fun K2 hK2 => ?_; simp [dNum, dErr]; (repeat (refine ⟨by omega, ?_⟩)); refine hK2 _ ?_; clear hK2 K2)
  refine sxf_next fun K2 hK2 => ?_
  simp [dNum, dErr]
  refine callK.data (hr) (by simp; rfl) (by first | exact D.leGo_refl _ | simp [takeMap, List.map_map, Function.comp_def, D.le, D.le.go, D.le_refl, D.leGo_refl, dNum, dErr]) ?_
  refine hK2 _ ?_
  clear hK2 K2
  simp only [putd, upd_lst]
  repeat (refine sxf_next fun K2 hK2 => ?_; simp [dNum, dErr]; (repeat (refine ⟨by omega, ?_⟩)); refine hK2 _ ?_; clear hK2 K2)
  refine sxf_nil (hK' _ ?_)
  refine AW.st (by simp [dNum, dErr]; rfl) ?_
  clear hK' K'
  refine AW_rg (tyOf_good _) [0, 4, 8] [] (fun _ _ => trivial) fun K' hK' => ?_
  repeat (refine sxf_next fun K2 hK2 => ?_; simp [dNum]; (repeat (refine ⟨by omega, ?_⟩)); refine hK2 _ ?_; clear hK2 K2)
  refine sxf_nil (hK' _ ?_)
  refine AW.st (by simp [dNum]; rfl) ?_
  clear hK' K'
  refine AW_cond false rfl (fun h => by cases h) (fun _ => ?_)
  refine AW_skip (hK1 _ ?_)
  refine AW_rg (tyOf_good _) [2, 3] [] (fun _ _ => trivial) fun K' hK' => ?_
  repeat (refine sxf_next fun K2 hK2 => ?_; simp [dNum]; (repeat (refine ⟨by omega, ?_⟩)); refine hK2 _ ?_; clear hK2 K2)
  refine sxf_next fun K2 hK2 => ?_
  simp [dNum]
  refine callK.data (hp) (by simp; rfl) (by first | exact D.leGo_refl _ | simp [takeMap, List.map_map, Function.comp_def, D.le, D.le.go, D.le_refl, D.leGo_refl, dNum]) ?_
  refine hK2 _ ?_
  clear hK2 K2
  simp only [putd, upd_lst]
  repeat (refine sxf_next fun K2 hK2 => ?_; simp [dNum]; (repeat (refine ⟨by omega, ?_⟩)); refine hK2 _ ?_; clear hK2 K2)
  refine sxf_nil (hK' _ ?_)
  refine AW.st (by simp [dNum]; rfl) ?_
  clear hK' K'
  refine AW_ret ?_
  simp [D.le, D.le.go, takeMap, dNum, D.le_refl]

theorem Text_bad (G : Glob) (hA : HasArity G) (f : Fm) (hf : namesOk f) (h : rightE f ≠ 0) : PureC Tryd.prog G 21 [dF f] (dS []) := by
  have hr := Right_spec G hA f hf
  rw [errOf_ne h] at hr
  generalize rightE f = e at hr
  generalize dF f = x at hr
  refine PureC.of_body (tyOf_good _) Tryd.func21 rfl rfl (rs := [.tmp 2]) Tryd.results21 (by simp [Tryd.ntmps21]) fun X => ?_
  simp only [Tryd.ntmps21, List.map]
  refine AW_rg (tyOf_good _) [0] [] (fun _ _ => trivial) fun K' hK' => ?_
  repeat (refine sxf_next fun K2 hK2 => ?_; simp [dNum]; (repeat (refine ⟨by omega, ?_⟩)); refine hK2 _ ?_; clear hK2 K2)
  refine sxf_nil (hK' _ ?_)
  refine AW.st (by simp [dNum]; rfl) ?_
  clear hK' K'
  refine AW_then fun K1 hK1 => ?_
  refine AW_rg (tyOf_good _) [0, 5] [] (fun _ _ => trivial) fun K' hK' => ?_
  repeat (refine sxf_next fun K2 hK2 => ?_; simp [dNum, dErr]; (repeat (refine ⟨by omega, ?_⟩)); refine hK2 _ ?_; clear hK2 K2)
  refine sxf_next fun K2 hK2 => ?_
  simp [dNum, dErr]
  refine callK.data (hr) (by simp; rfl) (by first | exact D.leGo_refl _ | simp [takeMap, List.map_map, Function.comp_def, D.le, D.le.go, D.le_refl, D.leGo_refl, dNum, dErr]) ?_
  refine hK2 _ ?_
  clear hK2 K2
  simp only [putd, upd_lst]
  repeat (refine sxf_next fun K2 hK2 => ?_; simp [dNum, dErr]; (repeat (refine ⟨by omega, ?_⟩)); refine hK2 _ ?_; clear hK2 K2)
  refine sxf_nil (hK' _ ?_)
  refine AW.st (by simp [dNum, dErr]; rfl) ?_
  clear hK' K'
  refine AW_cond true rfl (fun _ => ?_) (fun h => by cases h)
  refine AW_rg (tyOf_good _) [2] [] (fun _ _ => trivial) fun K' hK' => ?_
  repeat (refine sxf_next fun K2 hK2 => ?_; simp [dNum]; (repeat (refine ⟨by omega, ?_⟩)); refine hK2 _ ?_; clear hK2 K2)
  refine sxf_nil (hK' _ ?_)
  refine AW.st (by simp [dNum]; rfl) ?_
  clear hK' K'
  refine AW_ret ?_
  simp [D.le, D.le.go, takeMap, dNum, dS, bs_nil]
theorem Text_good (G : Glob) (hA : HasArity G) (f : Fm) (hf : namesOk f) (h : rightE f = 0) : PureC Tryd.prog G 21 [dF f] (dS (textF f)) := by
  have hr := Right_spec G hA f hf
  have ht := text_spec G 20 (by decide) f (rightE_ok h) hf
  have e0 : errOf 0 = none := rfl
  rw [h, e0] at hr
  generalize textF f = t at ht ⊢
  generalize dF f = x at hr ht ⊢
  refine PureC.of_body (tyOf_good _) Tryd.func21 rfl rfl (rs := [.tmp 2]) Tryd.results21 (by simp [Tryd.ntmps21]) fun X => ?_
  simp only [Tryd.ntmps21, List.map]
  refine AW_rg (tyOf_good _) [0] [] (fun _ _ => trivial) fun K' hK' => ?_
  repeat (refine sxf_next fun K2 hK2 => ?_; simp [dNum]; (repeat (refine ⟨by omega, ?_⟩)); refine hK2 _ ?_; clear hK2 K2)
  refine sxf_nil (hK' _ ?_)
  refine AW.st (by simp [dNum]; rfl) ?_
  clear hK' K'
  refine AW_then fun K1 hK1 => ?_
  refine AW_rg (tyOf_good _) [0, 5] [] (fun _ _ => trivial) fun K' hK' => ?_
  repeat (refine sxf_next fun K2 hK2 => ?_; simp [dNum, dErr]; (repeat (refine ⟨by omega, ?_⟩)); refine hK2 _ ?_; clear hK2 K2)
  refine sxf_next fun K2 hK2 => ?_
  simp [dNum, dErr]
  refine callK.data (hr) (by simp; rfl) (by first | exact D.leGo_refl _ | simp [takeMap, List.map_map, Function.comp_def, D.le, D.le.go, D.le_refl, D.leGo_refl, dNum, dErr]) ?_
  refine hK2 _ ?_
  clear hK2 K2
  simp only [putd, upd_lst]
  repeat (refine sxf_next fun K2 hK2 => ?_; simp [dNum, dErr]; (repeat (refine ⟨by omega, ?_⟩)); refine hK2 _ ?_; clear hK2 K2)
  refine sxf_nil (hK' _ ?_)
  refine AW.st (by simp [dNum, dErr]; rfl) ?_
  clear hK' K'
  refine AW_cond false rfl (fun h => by cases h) (fun _ => ?_)
  refine AW_skip (hK1 _ ?_)
  refine AW_rg (tyOf_good _) [2] [] (fun _ _ => trivial) fun K' hK' => ?_
  repeat (refine sxf_next fun K2 hK2 => ?_; simp [dNum, dS]; (repeat (refine ⟨by omega, ?_⟩)); refine hK2 _ ?_; clear hK2 K2)
  refine sxf_next fun K2 hK2 => ?_
  simp [dNum, dS]
  refine callK.data (ht) (by simp; rfl) (by first | exact D.leGo_refl _ | simp [takeMap, List.map_map, Function.comp_def, D.le, D.le.go, D.le_refl, D.leGo_refl, dNum, dS]) ?_
  refine hK2 _ ?_
  clear hK2 K2
  simp only [putd, upd_lst]
  repeat (refine sxf_next fun K2 hK2 => ?_; simp [dNum, dS]; (repeat (refine ⟨by omega, ?_⟩)); refine hK2 _ ?_; clear hK2 K2)
  refine sxf_nil (hK' _ ?_)
  refine AW.st (by simp [dNum, dS]; rfl) ?_
  clear hK' K'
  refine AW_ret ?_
  simp [D.le, D.le.go, takeMap, dNum, dS]
#print axioms Push_bad
#print axioms Push_good
#print axioms Text_bad
#print axioms Text_good

set_option maxHeartbeats 16000000 in
theorem push_law (G : Glob) (hA : HasArity G) (a r : Times) (hs : Small a r) (l : List Stp) (hl : l.length < 2^60) (hn : ∀ x ∈ l, x.name.length < 2^60) : PureC Tryd.prog G 4 [dW a r, dStps l] (.v (.bool true)) := by
  have hsl := hs.len
  by_cases h1 : (14 : Int) < l.length
  · refine PureC.of_body (tyOf_good _) Tryd.func4 rfl rfl (rs := [.tmp 4]) Tryd.results4 (by simp [Tryd.ntmps4]) fun X => ?_
    simp only [Tryd.ntmps4, List.map]
    refine AW_rg (tyOf_good _) [1, 2] [2] (fun _ _ => trivial) fun K' hK' => ?_
    repeat (refine sxf_next fun K2 hK2 => ?_; simp [dNum, dB, dW]; (repeat (refine ⟨by omega, ?_⟩)); refine hK2 _ ?_; clear hK2 K2)
    refine sxf_nil (hK' _ ?_)
    refine AW.st (by simp [dNum, dB, dW]; rfl) ?_
    clear hK' K'
    refine AW_then fun K1 hK1 => ?_
    refine AW_rg (tyOf_good _) [1, 2, 25] [2] (fun _ _ => trivial) fun K' hK' => ?_
    repeat (refine sxf_next fun K2 hK2 => ?_; simp [dNum, dB, dTimes, dStps, h1]; (repeat (refine ⟨by omega, ?_⟩)); refine hK2 _ ?_; clear hK2 K2)
    refine sxf_nil (hK' _ ?_)
    refine AW.st (by simp [dNum, dB, dTimes, dStps, h1]; rfl) ?_
    clear hK' K'
    refine AW_cond true rfl (fun _ => ?_) (fun h => by cases h)
    refine AW_rg (tyOf_good _) [4] [] (fun _ _ => trivial) fun K' hK' => ?_
    repeat (refine sxf_next fun K2 hK2 => ?_; simp [dNum, dB]; (repeat (refine ⟨by omega, ?_⟩)); refine hK2 _ ?_; clear hK2 K2)
    refine sxf_nil (hK' _ ?_)
    refine AW.st (by simp [dNum, dB]; rfl) ?_
    clear hK' K'
    refine AW_ret ?_
    simp [D.le, D.le.go, takeMap, dNum, dB]
  by_cases h2 : (30 : Int) < (a.length : Int) + (r.length : Int)
  · refine PureC.of_body (tyOf_good _) Tryd.func4 rfl rfl (rs := [.tmp 4]) Tryd.results4 (by simp [Tryd.ntmps4]) fun X => ?_
    simp only [Tryd.ntmps4, List.map]
    refine AW_rg (tyOf_good _) [1, 2] [2] (fun _ _ => trivial) fun K' hK' => ?_
    repeat (refine sxf_next fun K2 hK2 => ?_; simp [dNum, dB, dW]; (repeat (refine ⟨by omega, ?_⟩)); refine hK2 _ ?_; clear hK2 K2)
    refine sxf_nil (hK' _ ?_)
    refine AW.st (by simp [dNum, dB, dW]; rfl) ?_
    clear hK' K'
    refine AW_then fun K1 hK1 => ?_
    refine AW_rg (tyOf_good _) [1, 2, 25] [2] (fun _ _ => trivial) fun K' hK' => ?_
    repeat (refine sxf_next fun K2 hK2 => ?_; simp [dNum, dB, dTimes, dStps, h1, h2]; (repeat (refine ⟨by omega, ?_⟩)); refine hK2 _ ?_; clear hK2 K2)
    refine sxf_nil (hK' _ ?_)
    refine AW.st (by simp [dNum, dB, dTimes, dStps, h1, h2]; rfl) ?_
    clear hK' K'
    refine AW_cond true rfl (fun _ => ?_) (fun h => by cases h)
    refine AW_rg (tyOf_good _) [4] [] (fun _ _ => trivial) fun K' hK' => ?_
    repeat (refine sxf_next fun K2 hK2 => ?_; simp [dNum, dB]; (repeat (refine ⟨by omega, ?_⟩)); refine hK2 _ ?_; clear hK2 K2)
    refine sxf_nil (hK' _ ?_)
    refine AW.st (by simp [dNum, dB]; rfl) ?_
    clear hK' K'
    refine AW_ret ?_
    simp [D.le, D.le.go, takeMap, dNum, dB]
  have hform := formula_spec G l (by omega)
  have hnf := names_form l hn
  have hla := lassoed_spec G hA
  obtain ⟨cf, hcf⟩ := form_ip l
  generalize formF l = f at hform hnf hcf
  by_cases hrf : rightE f = 0
  · have hpf := Push_good G hA f hnf hrf
    have hng := names_push f hnf false
    have hRg := Right_spec G hA _ hng
    obtain ⟨cg, hcg⟩ := push_ip 20 f (rightE_ok hrf) false
    have hsame : ∀ h0 : 0 < r.length, rightE (pushF f false) = 0 → holdsF a r (pushF f false) = holdsF a r f := fun h0 hg => push_same h0 (rightE_ok hrf) (rightE_ok hg)
    have hid := push_idem 20 f (rightE_ok hrf) false
    generalize pushF f false = g at hpf hng hRg hcg hsame hid
    by_cases hrg : rightE g = 0
    · by_cases hw : wordE a r = 0
      · have hr0 : 0 < r.length := by
          unfold wordE at hw
          split at hw
          · cases hw
          · omega
        have hf1 := Holds_good G hA a r hs f hnf (by unfold holdsE; rw [if_neg (by simp [hw]), hrf])
        have hg1 := Holds_good G hA a r hs g hng (by unfold holdsE; rw [if_neg (by simp [hw]), hrg])
        have hlf := holdsF_len a r hcf
        rw [hsame hr0 hrg] at hg1
        generalize holdsF a r f = L at hf1 hg1 hlf
        have hsb := sameBools_spec G L L (by omega)
        rw [beq_self_eq_true] at hsb
        have hpg := Push_good G hA g hng hrg
        rw [hid] at hpg
        have htg := Text_good G hA g hng hrg
        have e0 : errOf 0 = none := rfl
        rw [hrg, e0] at hRg
        rw [hcf] at hform hpf hf1
        rw [hcg] at hpf hRg hg1 hpg htg
        refine PureC.of_body (tyOf_good _) Tryd.func4 rfl rfl (rs := [.tmp 4]) Tryd.results4 (by simp [Tryd.ntmps4]) fun X => ?_
        simp only [Tryd.ntmps4, List.map]
        refine AW_rg (tyOf_good _) [1, 2] [2] (fun _ _ => trivial) fun K' hK' => ?_
        repeat (refine sxf_next fun K2 hK2 => ?_; simp [dNum, dB, dW]; (repeat (refine ⟨by omega, ?_⟩)); refine hK2 _ ?_; clear hK2 K2)
        refine sxf_nil (hK' _ ?_)
        refine AW.st (by simp [dNum, dB, dW]; rfl) ?_
        clear hK' K'
        refine AW_then fun K1 hK1 => ?_
        refine AW_rg (tyOf_good _) [1, 2, 25] [2] (fun _ _ => trivial) fun K' hK' => ?_
        repeat (refine sxf_next fun K2 hK2 => ?_; simp [dNum, dB, dTimes, dStps, h1, h2]; (repeat (refine ⟨by omega, ?_⟩)); refine hK2 _ ?_; clear hK2 K2)
        refine sxf_nil (hK' _ ?_)
        refine AW.st (by simp [dNum, dB, dTimes, dStps, h1, h2]; rfl) ?_
        clear hK' K'
        refine AW_cond false rfl (fun h => by cases h) (fun _ => ?_)
        refine AW_skip (hK1 _ ?_)
        refine AW.imp (Imp.freezeB 2 trivial) ?_
        refine AW.st (by simp [dNum, dB]; rfl) ?_
        refine AW_rg (tyOf_good _) [2, 5] [] (fun _ _ => trivial) fun K' hK' => ?_
        repeat (refine sxf_next fun K2 hK2 => ?_; simp [dNum, dB, dStps, dTimes]; (repeat (refine ⟨by omega, ?_⟩)); refine hK2 _ ?_; clear hK2 K2)
        refine sxf_next fun K2 hK2 => ?_
        simp [dNum, dB, dStps, dTimes]
        refine callK.data (hform) (by simp; rfl) (by first | exact D.leGo_refl _ | simp [takeMap, List.map_map, Function.comp_def, D.le, D.le.go, D.le_refl, D.leGo_refl, dNum, dB, dStps, dTimes]) ?_
        refine hK2 _ ?_
        clear hK2 K2
        simp only [putd, upd_lst]
        repeat (refine sxf_next fun K2 hK2 => ?_; simp [dNum, dB, dStps, dTimes]; (repeat (refine ⟨by omega, ?_⟩)); refine hK2 _ ?_; clear hK2 K2)
        refine sxf_nil (hK' _ ?_)
        refine AW.st (by simp [dNum, dB, dStps, dTimes]; rfl) ?_
        clear hK' K'
        refine AW_rg (tyOf_good _) [2, 5, 6, 7] [] (fun _ _ => trivial) fun K' hK' => ?_
        repeat (refine sxf_next fun K2 hK2 => ?_; simp [dNum, dB]; (repeat (refine ⟨by omega, ?_⟩)); refine hK2 _ ?_; clear hK2 K2)
        refine sxf_next fun K2 hK2 => ?_
        simp [dNum, dB]
        refine callK.data (hpf) (by simp; rfl) (by first | exact D.leGo_refl _ | simp [takeMap, List.map_map, Function.comp_def, D.le, D.le.go, D.le_refl, D.leGo_refl, dNum, dB]) ?_
        refine hK2 _ ?_
        clear hK2 K2
        simp only [putd, upd_lst]
        repeat (refine sxf_next fun K2 hK2 => ?_; simp [dNum, dB]; (repeat (refine ⟨by omega, ?_⟩)); refine hK2 _ ?_; clear hK2 K2)
        refine sxf_nil (hK' _ ?_)
        refine AW.st (by simp [dNum, dB]; rfl) ?_
        clear hK' K'
        refine AW_then fun K2 hK2 => ?_
        refine AW_rg (tyOf_good _) [2, 5, 6, 7, 43] [] (fun _ _ => trivial) fun K' hK' => ?_
        repeat (refine sxf_next fun K2 hK2 => ?_; simp [dNum, dB, dErr]; (repeat (refine ⟨by omega, ?_⟩)); refine hK2 _ ?_; clear hK2 K2)
        refine sxf_next fun K2 hK2 => ?_
        simp [dNum, dB, dErr]
        refine callK.data (hla) (by simp; rfl) (by first | exact D.leGo_refl _ | simp [takeMap, List.map_map, Function.comp_def, D.le, D.le.go, D.le_refl, D.leGo_refl, dNum, dB, dErr]) ?_
        refine hK2 _ ?_
        clear hK2 K2
        simp only [putd, upd_lst]
        repeat (refine sxf_next fun K2 hK2 => ?_; simp [dNum, dB, dErr]; (repeat (refine ⟨by omega, ?_⟩)); refine hK2 _ ?_; clear hK2 K2)
        refine sxf_next fun K2 hK2 => ?_
        simp [dNum, dB, dErr]
        refine callK.data (hRg) (by simp; rfl) (by first | exact D.leGo_refl _ | simp [takeMap, List.map_map, Function.comp_def, D.le, D.le.go, D.le_refl, D.leGo_refl, dNum, dB, dErr]) ?_
        refine hK2 _ ?_
        clear hK2 K2
        simp only [putd, upd_lst]
        repeat (refine sxf_next fun K2 hK2 => ?_; simp [dNum, dB, dErr]; (repeat (refine ⟨by omega, ?_⟩)); refine hK2 _ ?_; clear hK2 K2)
        refine sxf_nil (hK' _ ?_)
        refine AW.st (by simp [dNum, dB, dErr]; rfl) ?_
        clear hK' K'
        refine AW_cond false rfl (fun h => by cases h) (fun _ => ?_)
        refine AW_skip (hK2 _ ?_)
        refine AW_rg (tyOf_good _) [2, 6, 8, 9] [] (fun _ _ => trivial) fun K' hK' => ?_
        repeat (refine sxf_next fun K2 hK2 => ?_; simp [dNum, dB, dW]; (repeat (refine ⟨by omega, ?_⟩)); refine hK2 _ ?_; clear hK2 K2)
        refine sxf_next fun K2 hK2 => ?_
        simp [dNum, dB, dW]
        refine callK.data (hf1) (by simp; rfl) (by first | exact D.leGo_refl _ | simp [takeMap, List.map_map, Function.comp_def, D.le, D.le.go, D.le_refl, D.leGo_refl, dNum, dB, dW]) ?_
        refine hK2 _ ?_
        clear hK2 K2
        simp only [putd, upd_lst]
        repeat (refine sxf_next fun K2 hK2 => ?_; simp [dNum, dB, dW]; (repeat (refine ⟨by omega, ?_⟩)); refine hK2 _ ?_; clear hK2 K2)
        refine sxf_nil (hK' _ ?_)
        refine AW.st (by simp [dNum, dB, dW]; rfl) ?_
        clear hK' K'
        refine AW_rg (tyOf_good _) [6, 8, 9, 10, 11] [] (fun _ _ => trivial) fun K' hK' => ?_
        repeat (refine sxf_next fun K2 hK2 => ?_; simp [dNum, dB, dW]; (repeat (refine ⟨by omega, ?_⟩)); refine hK2 _ ?_; clear hK2 K2)
        refine sxf_next fun K2 hK2 => ?_
        simp [dNum, dB, dW]
        refine callK.data (hg1) (by simp; rfl) (by first | exact D.leGo_refl _ | simp [takeMap, List.map_map, Function.comp_def, D.le, D.le.go, D.le_refl, D.leGo_refl, dNum, dB, dW]) ?_
        refine hK2 _ ?_
        clear hK2 K2
        simp only [putd, upd_lst]
        repeat (refine sxf_next fun K2 hK2 => ?_; simp [dNum, dB, dW]; (repeat (refine ⟨by omega, ?_⟩)); refine hK2 _ ?_; clear hK2 K2)
        refine sxf_nil (hK' _ ?_)
        refine AW.st (by simp [dNum, dB, dW]; rfl) ?_
        clear hK' K'
        refine AW_then fun K3 hK3 => ?_
        refine AW_rg (tyOf_good _) [6, 8, 9, 10, 11, 70] [] (fun _ _ => trivial) fun K' hK' => ?_
        repeat (refine sxf_next fun K2 hK2 => ?_; simp [dNum, dB]; (repeat (refine ⟨by omega, ?_⟩)); refine hK2 _ ?_; clear hK2 K2)
        refine sxf_nil (hK' _ ?_)
        refine AW.st (by simp [dNum, dB]; rfl) ?_
        clear hK' K'
        refine AW_cond false rfl (fun h => by cases h) (fun _ => ?_)
        refine AW_skip (hK3 _ ?_)
        refine AW_rg (tyOf_good _) [6, 7, 8, 10, 12] [] (fun _ _ => trivial) fun K' hK' => ?_
        repeat (refine sxf_next fun K2 hK2 => ?_; simp [dNum, dB]; (repeat (refine ⟨by omega, ?_⟩)); refine hK2 _ ?_; clear hK2 K2)
        refine sxf_next fun K2 hK2 => ?_
        simp [dNum, dB]
        refine callK.data (hpg) (by simp; rfl) (by first | exact D.leGo_refl _ | simp [takeMap, List.map_map, Function.comp_def, D.le, D.le.go, D.le_refl, D.leGo_refl, dNum, dB]) ?_
        refine hK2 _ ?_
        clear hK2 K2
        simp only [putd, upd_lst]
        repeat (refine sxf_next fun K2 hK2 => ?_; simp [dNum, dB]; (repeat (refine ⟨by omega, ?_⟩)); refine hK2 _ ?_; clear hK2 K2)
        refine sxf_nil (hK' _ ?_)
        refine AW.st (by simp [dNum, dB]; rfl) ?_
        clear hK' K'
        refine AW_rg (tyOf_good _) [4] [] (fun _ _ => trivial) fun K' hK' => ?_
        repeat (refine sxf_next fun K2 hK2 => ?_; simp [dNum, dB, dS, bs_list, binS]; (repeat (refine ⟨by omega, ?_⟩)); refine hK2 _ ?_; clear hK2 K2)
        refine sxf_next fun K2 hK2 => ?_
        simp [dNum, dB, dS, bs_list, binS]
        refine callK.data (hsb) (by simp; rfl) (by first | exact D.leGo_refl _ | simp [takeMap, List.map_map, Function.comp_def, D.le, D.le.go, D.le_refl, D.leGo_refl, dNum, dB, dS, bs_list, binS]) ?_
        refine hK2 _ ?_
        clear hK2 K2
        simp only [putd, upd_lst]
        repeat (refine sxf_next fun K2 hK2 => ?_; simp [dNum, dB, dS, bs_list, binS]; (repeat (refine ⟨by omega, ?_⟩)); refine hK2 _ ?_; clear hK2 K2)
        refine sxf_next fun K2 hK2 => ?_
        simp [dNum, dB, dS, bs_list, binS]
        refine callK.data (htg) (by simp; rfl) (by first | exact D.leGo_refl _ | simp [takeMap, List.map_map, Function.comp_def, D.le, D.le.go, D.le_refl, D.leGo_refl, dNum, dB, dS, bs_list, binS]) ?_
        refine hK2 _ ?_
        clear hK2 K2
        simp only [putd, upd_lst]
        repeat (refine sxf_next fun K2 hK2 => ?_; simp [dNum, dB, dS, bs_list, binS]; (repeat (refine ⟨by omega, ?_⟩)); refine hK2 _ ?_; clear hK2 K2)
        refine sxf_next fun K2 hK2 => ?_
        simp [dNum, dB, dS, bs_list, binS]
        refine callK.data (htg) (by simp; rfl) (by first | exact D.leGo_refl _ | simp [takeMap, List.map_map, Function.comp_def, D.le, D.le.go, D.le_refl, D.leGo_refl, dNum, dB, dS, bs_list, binS]) ?_
        refine hK2 _ ?_
        clear hK2 K2
        simp only [putd, upd_lst]
        repeat (refine sxf_next fun K2 hK2 => ?_; simp [dNum, dB, dS, bs_list, binS]; (repeat (refine ⟨by omega, ?_⟩)); refine hK2 _ ?_; clear hK2 K2)
        refine sxf_nil (hK' _ ?_)
        refine AW.st (by simp [dNum, dB, dS, bs_list, binS]; rfl) ?_
        clear hK' K'
        refine AW_ret ?_
        simp [D.le, D.le.go, takeMap, dNum, dB]
      · have hE : ∀ x, holdsE a r x ≠ 0 := fun x => by unfold holdsE; rw [if_pos hw]; exact hw
        have hf1 := Holds_bad G hA a r hs f hnf (hE f)
        have hg1 := Holds_bad G hA a r hs g hng (hE g)
        rw [errOf_ne (hE _)] at hf1 hg1
        have e0 : errOf 0 = none := rfl
        rw [hrg, e0] at hRg
        generalize holdsE a r f = q1 at hf1
        generalize holdsE a r g = q2 at hg1
        rw [hcf] at hform hpf hf1
        rw [hcg] at hpf hRg hg1
        refine PureC.of_body (tyOf_good _) Tryd.func4 rfl rfl (rs := [.tmp 4]) Tryd.results4 (by simp [Tryd.ntmps4]) fun X => ?_
        simp only [Tryd.ntmps4, List.map]
        refine AW_rg (tyOf_good _) [1, 2] [2] (fun _ _ => trivial) fun K' hK' => ?_
        repeat (refine sxf_next fun K2 hK2 => ?_; simp [dNum, dB, dW]; (repeat (refine ⟨by omega, ?_⟩)); refine hK2 _ ?_; clear hK2 K2)
        refine sxf_nil (hK' _ ?_)
        refine AW.st (by simp [dNum, dB, dW]; rfl) ?_
        clear hK' K'
        refine AW_then fun K1 hK1 => ?_
        refine AW_rg (tyOf_good _) [1, 2, 25] [2] (fun _ _ => trivial) fun K' hK' => ?_
        repeat (refine sxf_next fun K2 hK2 => ?_; simp [dNum, dB, dTimes, dStps, h1, h2]; (repeat (refine ⟨by omega, ?_⟩)); refine hK2 _ ?_; clear hK2 K2)
        refine sxf_nil (hK' _ ?_)
        refine AW.st (by simp [dNum, dB, dTimes, dStps, h1, h2]; rfl) ?_
        clear hK' K'
        refine AW_cond false rfl (fun h => by cases h) (fun _ => ?_)
        refine AW_skip (hK1 _ ?_)
        refine AW.imp (Imp.freezeB 2 trivial) ?_
        refine AW.st (by simp [dNum, dB]; rfl) ?_
        refine AW_rg (tyOf_good _) [2, 5] [] (fun _ _ => trivial) fun K' hK' => ?_
        repeat (refine sxf_next fun K2 hK2 => ?_; simp [dNum, dB, dStps, dTimes]; (repeat (refine ⟨by omega, ?_⟩)); refine hK2 _ ?_; clear hK2 K2)
        refine sxf_next fun K2 hK2 => ?_
        simp [dNum, dB, dStps, dTimes]
        refine callK.data (hform) (by simp; rfl) (by first | exact D.leGo_refl _ | simp [takeMap, List.map_map, Function.comp_def, D.le, D.le.go, D.le_refl, D.leGo_refl, dNum, dB, dStps, dTimes]) ?_
        refine hK2 _ ?_
        clear hK2 K2
        simp only [putd, upd_lst]
        repeat (refine sxf_next fun K2 hK2 => ?_; simp [dNum, dB, dStps, dTimes]; (repeat (refine ⟨by omega, ?_⟩)); refine hK2 _ ?_; clear hK2 K2)
        refine sxf_nil (hK' _ ?_)
        refine AW.st (by simp [dNum, dB, dStps, dTimes]; rfl) ?_
        clear hK' K'
        refine AW_rg (tyOf_good _) [2, 5, 6, 7] [] (fun _ _ => trivial) fun K' hK' => ?_
        repeat (refine sxf_next fun K2 hK2 => ?_; simp [dNum, dB]; (repeat (refine ⟨by omega, ?_⟩)); refine hK2 _ ?_; clear hK2 K2)
        refine sxf_next fun K2 hK2 => ?_
        simp [dNum, dB]
        refine callK.data (hpf) (by simp; rfl) (by first | exact D.leGo_refl _ | simp [takeMap, List.map_map, Function.comp_def, D.le, D.le.go, D.le_refl, D.leGo_refl, dNum, dB]) ?_
        refine hK2 _ ?_
        clear hK2 K2
        simp only [putd, upd_lst]
        repeat (refine sxf_next fun K2 hK2 => ?_; simp [dNum, dB]; (repeat (refine ⟨by omega, ?_⟩)); refine hK2 _ ?_; clear hK2 K2)
        refine sxf_nil (hK' _ ?_)
        refine AW.st (by simp [dNum, dB]; rfl) ?_
        clear hK' K'
        refine AW_then fun K2 hK2 => ?_
        refine AW_rg (tyOf_good _) [2, 5, 6, 7, 43] [] (fun _ _ => trivial) fun K' hK' => ?_
        repeat (refine sxf_next fun K2 hK2 => ?_; simp [dNum, dB, dErr]; (repeat (refine ⟨by omega, ?_⟩)); refine hK2 _ ?_; clear hK2 K2)
        refine sxf_next fun K2 hK2 => ?_
        simp [dNum, dB, dErr]
        refine callK.data (hla) (by simp; rfl) (by first | exact D.leGo_refl _ | simp [takeMap, List.map_map, Function.comp_def, D.le, D.le.go, D.le_refl, D.leGo_refl, dNum, dB, dErr]) ?_
        refine hK2 _ ?_
        clear hK2 K2
        simp only [putd, upd_lst]
        repeat (refine sxf_next fun K2 hK2 => ?_; simp [dNum, dB, dErr]; (repeat (refine ⟨by omega, ?_⟩)); refine hK2 _ ?_; clear hK2 K2)
        refine sxf_next fun K2 hK2 => ?_
        simp [dNum, dB, dErr]
        refine callK.data (hRg) (by simp; rfl) (by first | exact D.leGo_refl _ | simp [takeMap, List.map_map, Function.comp_def, D.le, D.le.go, D.le_refl, D.leGo_refl, dNum, dB, dErr]) ?_
        refine hK2 _ ?_
        clear hK2 K2
        simp only [putd, upd_lst]
        repeat (refine sxf_next fun K2 hK2 => ?_; simp [dNum, dB, dErr]; (repeat (refine ⟨by omega, ?_⟩)); refine hK2 _ ?_; clear hK2 K2)
        refine sxf_nil (hK' _ ?_)
        refine AW.st (by simp [dNum, dB, dErr]; rfl) ?_
        clear hK' K'
        refine AW_cond false rfl (fun h => by cases h) (fun _ => ?_)
        refine AW_skip (hK2 _ ?_)
        refine AW_rg (tyOf_good _) [2, 6, 8, 9] [] (fun _ _ => trivial) fun K' hK' => ?_
        repeat (refine sxf_next fun K2 hK2 => ?_; simp [dNum, dB, dW, dErr]; (repeat (refine ⟨by omega, ?_⟩)); refine hK2 _ ?_; clear hK2 K2)
        refine sxf_next fun K2 hK2 => ?_
        simp [dNum, dB, dW, dErr]
        refine callK.data (hf1) (by simp; rfl) (by first | exact D.leGo_refl _ | simp [takeMap, List.map_map, Function.comp_def, D.le, D.le.go, D.le_refl, D.leGo_refl, dNum, dB, dW, dErr]) ?_
        refine hK2 _ ?_
        clear hK2 K2
        simp only [putd, upd_lst]
        repeat (refine sxf_next fun K2 hK2 => ?_; simp [dNum, dB, dW, dErr]; (repeat (refine ⟨by omega, ?_⟩)); refine hK2 _ ?_; clear hK2 K2)
        refine sxf_nil (hK' _ ?_)
        refine AW.st (by simp [dNum, dB, dW, dErr]; rfl) ?_
        clear hK' K'
        refine AW_rg (tyOf_good _) [6, 8, 9, 10, 11] [] (fun _ _ => trivial) fun K' hK' => ?_
        repeat (refine sxf_next fun K2 hK2 => ?_; simp [dNum, dB, dW, dErr]; (repeat (refine ⟨by omega, ?_⟩)); refine hK2 _ ?_; clear hK2 K2)
        refine sxf_next fun K2 hK2 => ?_
        simp [dNum, dB, dW, dErr]
        refine callK.data (hg1) (by simp; rfl) (by first | exact D.leGo_refl _ | simp [takeMap, List.map_map, Function.comp_def, D.le, D.le.go, D.le_refl, D.leGo_refl, dNum, dB, dW, dErr]) ?_
        refine hK2 _ ?_
        clear hK2 K2
        simp only [putd, upd_lst]
        repeat (refine sxf_next fun K2 hK2 => ?_; simp [dNum, dB, dW, dErr]; (repeat (refine ⟨by omega, ?_⟩)); refine hK2 _ ?_; clear hK2 K2)
        refine sxf_nil (hK' _ ?_)
        refine AW.st (by simp [dNum, dB, dW, dErr]; rfl) ?_
        clear hK' K'
        refine AW_then fun K3 hK3 => ?_
        refine AW_rg (tyOf_good _) [6, 8, 9, 10, 11, 70] [] (fun _ _ => trivial) fun K' hK' => ?_
        repeat (refine sxf_next fun K2 hK2 => ?_; simp [dNum, dB]; (repeat (refine ⟨by omega, ?_⟩)); refine hK2 _ ?_; clear hK2 K2)
        refine sxf_nil (hK' _ ?_)
        refine AW.st (by simp [dNum, dB]; rfl) ?_
        clear hK' K'
        refine AW_cond true rfl (fun _ => ?_) (fun h => by cases h)
        refine AW_rg (tyOf_good _) [4] [] (fun _ _ => trivial) fun K' hK' => ?_
        repeat (refine sxf_next fun K2 hK2 => ?_; simp [dNum, dB]; (repeat (refine ⟨by omega, ?_⟩)); refine hK2 _ ?_; clear hK2 K2)
        refine sxf_nil (hK' _ ?_)
        refine AW.st (by simp [dNum, dB]; rfl) ?_
        clear hK' K'
        refine AW_ret ?_
        simp [D.le, D.le.go, takeMap, dNum, dB]
    · rw [errOf_ne hrg] at hRg
      generalize rightE g = q at hRg
      rw [hcf] at hform hpf
      rw [hcg] at hpf hRg
      refine PureC.of_body (tyOf_good _) Tryd.func4 rfl rfl (rs := [.tmp 4]) Tryd.results4 (by simp [Tryd.ntmps4]) fun X => ?_
      simp only [Tryd.ntmps4, List.map]
      refine AW_rg (tyOf_good _) [1, 2] [2] (fun _ _ => trivial) fun K' hK' => ?_
      repeat (refine sxf_next fun K2 hK2 => ?_; simp [dNum, dB, dW]; (repeat (refine ⟨by omega, ?_⟩)); refine hK2 _ ?_; clear hK2 K2)
      refine sxf_nil (hK' _ ?_)
      refine AW.st (by simp [dNum, dB, dW]; rfl) ?_
      clear hK' K'
      refine AW_then fun K1 hK1 => ?_
      refine AW_rg (tyOf_good _) [1, 2, 25] [2] (fun _ _ => trivial) fun K' hK' => ?_
      repeat (refine sxf_next fun K2 hK2 => ?_; simp [dNum, dB, dTimes, dStps, h1, h2]; (repeat (refine ⟨by omega, ?_⟩)); refine hK2 _ ?_; clear hK2 K2)
      refine sxf_nil (hK' _ ?_)
      refine AW.st (by simp [dNum, dB, dTimes, dStps, h1, h2]; rfl) ?_
      clear hK' K'
      refine AW_cond false rfl (fun h => by cases h) (fun _ => ?_)
      refine AW_skip (hK1 _ ?_)
      refine AW.imp (Imp.freezeB 2 trivial) ?_
      refine AW.st (by simp [dNum, dB]; rfl) ?_
      refine AW_rg (tyOf_good _) [2, 5] [] (fun _ _ => trivial) fun K' hK' => ?_
      repeat (refine sxf_next fun K2 hK2 => ?_; simp [dNum, dB, dStps, dTimes]; (repeat (refine ⟨by omega, ?_⟩)); refine hK2 _ ?_; clear hK2 K2)
      refine sxf_next fun K2 hK2 => ?_
      simp [dNum, dB, dStps, dTimes]
      refine callK.data (hform) (by simp; rfl) (by first | exact D.leGo_refl _ | simp [takeMap, List.map_map, Function.comp_def, D.le, D.le.go, D.le_refl, D.leGo_refl, dNum, dB, dStps, dTimes]) ?_
      refine hK2 _ ?_
      clear hK2 K2
      simp only [putd, upd_lst]
      repeat (refine sxf_next fun K2 hK2 => ?_; simp [dNum, dB, dStps, dTimes]; (repeat (refine ⟨by omega, ?_⟩)); refine hK2 _ ?_; clear hK2 K2)
      refine sxf_nil (hK' _ ?_)
      refine AW.st (by simp [dNum, dB, dStps, dTimes]; rfl) ?_
      clear hK' K'
      refine AW_rg (tyOf_good _) [2, 5, 6, 7] [] (fun _ _ => trivial) fun K' hK' => ?_
      repeat (refine sxf_next fun K2 hK2 => ?_; simp [dNum, dB]; (repeat (refine ⟨by omega, ?_⟩)); refine hK2 _ ?_; clear hK2 K2)
      refine sxf_next fun K2 hK2 => ?_
      simp [dNum, dB]
      refine callK.data (hpf) (by simp; rfl) (by first | exact D.leGo_refl _ | simp [takeMap, List.map_map, Function.comp_def, D.le, D.le.go, D.le_refl, D.leGo_refl, dNum, dB]) ?_
      refine hK2 _ ?_
      clear hK2 K2
      simp only [putd, upd_lst]
      repeat (refine sxf_next fun K2 hK2 => ?_; simp [dNum, dB]; (repeat (refine ⟨by omega, ?_⟩)); refine hK2 _ ?_; clear hK2 K2)
      refine sxf_nil (hK' _ ?_)
      refine AW.st (by simp [dNum, dB]; rfl) ?_
      clear hK' K'
      refine AW_then fun K2 hK2 => ?_
      refine AW_rg (tyOf_good _) [2, 5, 6, 7, 43] [] (fun _ _ => trivial) fun K' hK' => ?_
      repeat (refine sxf_next fun K2 hK2 => ?_; simp [dNum, dB, dErr]; (repeat (refine ⟨by omega, ?_⟩)); refine hK2 _ ?_; clear hK2 K2)
      refine sxf_next fun K2 hK2 => ?_
      simp [dNum, dB, dErr]
      refine callK.data (hla) (by simp; rfl) (by first | exact D.leGo_refl _ | simp [takeMap, List.map_map, Function.comp_def, D.le, D.le.go, D.le_refl, D.leGo_refl, dNum, dB, dErr]) ?_
      refine hK2 _ ?_
      clear hK2 K2
      simp only [putd, upd_lst]
      repeat (refine sxf_next fun K2 hK2 => ?_; simp [dNum, dB, dErr]; (repeat (refine ⟨by omega, ?_⟩)); refine hK2 _ ?_; clear hK2 K2)
      refine sxf_next fun K2 hK2 => ?_
      simp [dNum, dB, dErr]
      refine callK.data (hRg) (by simp; rfl) (by first | exact D.leGo_refl _ | simp [takeMap, List.map_map, Function.comp_def, D.le, D.le.go, D.le_refl, D.leGo_refl, dNum, dB, dErr]) ?_
      refine hK2 _ ?_
      clear hK2 K2
      simp only [putd, upd_lst]
      repeat (refine sxf_next fun K2 hK2 => ?_; simp [dNum, dB, dErr]; (repeat (refine ⟨by omega, ?_⟩)); refine hK2 _ ?_; clear hK2 K2)
      refine sxf_nil (hK' _ ?_)
      refine AW.st (by simp [dNum, dB, dErr]; rfl) ?_
      clear hK' K'
      refine AW_cond true rfl (fun _ => ?_) (fun h => by cases h)
      refine AW_rg (tyOf_good _) [4] [] (fun _ _ => trivial) fun K' hK' => ?_
      repeat (refine sxf_next fun K2 hK2 => ?_; simp [dNum, dB]; (repeat (refine ⟨by omega, ?_⟩)); refine hK2 _ ?_; clear hK2 K2)
      refine sxf_next fun K2 hK2 => ?_
      simp [dNum, dB]
      refine callK.data (hla) (by simp; rfl) (by first | exact D.leGo_refl _ | simp [takeMap, List.map_map, Function.comp_def, D.le, D.le.go, D.le_refl, D.leGo_refl, dNum, dB]) ?_
      refine hK2 _ ?_
      clear hK2 K2
      simp only [putd, upd_lst]
      repeat (refine sxf_next fun K2 hK2 => ?_; simp [dNum, dB]; (repeat (refine ⟨by omega, ?_⟩)); refine hK2 _ ?_; clear hK2 K2)
      refine sxf_nil (hK' _ ?_)
      refine AW.st (by simp [dNum, dB]; rfl) ?_
      clear hK' K'
      refine AW_ret ?_
      simp [D.le, D.le.go, takeMap, dNum, dB]
  · have hpf := Push_bad G hA f hnf hrf
    rw [errOf_ne hrf] at hpf
    generalize rightE f = q at hpf
    rw [hcf] at hform hpf
    refine PureC.of_body (tyOf_good _) Tryd.func4 rfl rfl (rs := [.tmp 4]) Tryd.results4 (by simp [Tryd.ntmps4]) fun X => ?_
    simp only [Tryd.ntmps4, List.map]
    refine AW_rg (tyOf_good _) [1, 2] [2] (fun _ _ => trivial) fun K' hK' => ?_
    repeat (refine sxf_next fun K2 hK2 => ?_; simp [dNum, dB, dW]; (repeat (refine ⟨by omega, ?_⟩)); refine hK2 _ ?_; clear hK2 K2)
    refine sxf_nil (hK' _ ?_)
    refine AW.st (by simp [dNum, dB, dW]; rfl) ?_
    clear hK' K'
    refine AW_then fun K1 hK1 => ?_
    refine AW_rg (tyOf_good _) [1, 2, 25] [2] (fun _ _ => trivial) fun K' hK' => ?_
    repeat (refine sxf_next fun K2 hK2 => ?_; simp [dNum, dB, dTimes, dStps, h1, h2]; (repeat (refine ⟨by omega, ?_⟩)); refine hK2 _ ?_; clear hK2 K2)
    refine sxf_nil (hK' _ ?_)
    refine AW.st (by simp [dNum, dB, dTimes, dStps, h1, h2]; rfl) ?_
    clear hK' K'
    refine AW_cond false rfl (fun h => by cases h) (fun _ => ?_)
    refine AW_skip (hK1 _ ?_)
    refine AW.imp (Imp.freezeB 2 trivial) ?_
    refine AW.st (by simp [dNum, dB]; rfl) ?_
    refine AW_rg (tyOf_good _) [2, 5] [] (fun _ _ => trivial) fun K' hK' => ?_
    repeat (refine sxf_next fun K2 hK2 => ?_; simp [dNum, dB, dStps, dTimes]; (repeat (refine ⟨by omega, ?_⟩)); refine hK2 _ ?_; clear hK2 K2)
    refine sxf_next fun K2 hK2 => ?_
    simp [dNum, dB, dStps, dTimes]
    refine callK.data (hform) (by simp; rfl) (by first | exact D.leGo_refl _ | simp [takeMap, List.map_map, Function.comp_def, D.le, D.le.go, D.le_refl, D.leGo_refl, dNum, dB, dStps, dTimes]) ?_
    refine hK2 _ ?_
    clear hK2 K2
    simp only [putd, upd_lst]
    repeat (refine sxf_next fun K2 hK2 => ?_; simp [dNum, dB, dStps, dTimes]; (repeat (refine ⟨by omega, ?_⟩)); refine hK2 _ ?_; clear hK2 K2)
    refine sxf_nil (hK' _ ?_)
    refine AW.st (by simp [dNum, dB, dStps, dTimes]; rfl) ?_
    clear hK' K'
    refine AW_rg (tyOf_good _) [2, 5, 6, 7] [] (fun _ _ => trivial) fun K' hK' => ?_
    repeat (refine sxf_next fun K2 hK2 => ?_; simp [dNum, dB, dErr, dF]; (repeat (refine ⟨by omega, ?_⟩)); refine hK2 _ ?_; clear hK2 K2)
    refine sxf_next fun K2 hK2 => ?_
    simp [dNum, dB, dErr, dF]
    refine callK.data (hpf) (by simp; rfl) (by first | exact D.leGo_refl _ | simp [takeMap, List.map_map, Function.comp_def, D.le, D.le.go, D.le_refl, D.leGo_refl, dNum, dB, dErr, dF]) ?_
    refine hK2 _ ?_
    clear hK2 K2
    simp only [putd, upd_lst]
    repeat (refine sxf_next fun K2 hK2 => ?_; simp [dNum, dB, dErr, dF]; (repeat (refine ⟨by omega, ?_⟩)); refine hK2 _ ?_; clear hK2 K2)
    refine sxf_nil (hK' _ ?_)
    refine AW.st (by simp [dNum, dB, dErr, dF]; rfl) ?_
    clear hK' K'
    refine AW_then fun K2 hK2 => ?_
    refine AW_rg (tyOf_good _) [2, 5, 6, 7, 43] [] (fun _ _ => trivial) fun K' hK' => ?_
    repeat (refine sxf_next fun K2 hK2 => ?_; simp [dNum, dB]; (repeat (refine ⟨by omega, ?_⟩)); refine hK2 _ ?_; clear hK2 K2)
    refine sxf_next fun K2 hK2 => ?_
    simp [dNum, dB]
    refine callK.data (hla) (by simp; rfl) (by first | exact D.leGo_refl _ | simp [takeMap, List.map_map, Function.comp_def, D.le, D.le.go, D.le_refl, D.leGo_refl, dNum, dB]) ?_
    refine hK2 _ ?_
    clear hK2 K2
    simp only [putd, upd_lst]
    repeat (refine sxf_next fun K2 hK2 => ?_; simp [dNum, dB]; (repeat (refine ⟨by omega, ?_⟩)); refine hK2 _ ?_; clear hK2 K2)
    refine sxf_nil (hK' _ ?_)
    refine AW.st (by simp [dNum, dB]; rfl) ?_
    clear hK' K'
    refine AW_cond true rfl (fun _ => ?_) (fun h => by cases h)
    refine AW_rg (tyOf_good _) [4] [] (fun _ _ => trivial) fun K' hK' => ?_
    repeat (refine sxf_next fun K2 hK2 => ?_; simp [dNum, dB]; (repeat (refine ⟨by omega, ?_⟩)); refine hK2 _ ?_; clear hK2 K2)
    refine sxf_next fun K2 hK2 => ?_
    simp [dNum, dB]
    refine callK.data (hla) (by simp; rfl) (by first | exact D.leGo_refl _ | simp [takeMap, List.map_map, Function.comp_def, D.le, D.le.go, D.le_refl, D.leGo_refl, dNum, dB]) ?_
    refine hK2 _ ?_
    clear hK2 K2
    simp only [putd, upd_lst]
    repeat (refine sxf_next fun K2 hK2 => ?_; simp [dNum, dB]; (repeat (refine ⟨by omega, ?_⟩)); refine hK2 _ ?_; clear hK2 K2)
    refine sxf_nil (hK' _ ?_)
    refine AW.st (by simp [dNum, dB]; rfl) ?_
    clear hK' K'
    refine AW_ret ?_
    simp [D.le, D.le.go, takeMap, dNum, dB]
#print axioms push_law
end Go.Proofs.YtblafkekblaibaaDoor

/-
  The document's formulas with not ahead of names alone: (*signalcabinref.Formula).Push.
-/
namespace Go.Proofs.YtblafkekblaibaaDoor
set_option linter.unusedSimpArgs false
set_option linter.unusedVariables false
open Go.Av

/-- Pushed, it is of the right form, no greater than thrice, and its names are names. -/
theorem wf_push : ∀ (f : Fm), WfF f → ∀ no, WfF (pushF f no) ∧ szF (pushF f no) ≤ 3 * szF f ∧ (nmF f = true → nmF (pushF f no) = true)
  | .nil, h, _ => h.elim
  | .mk k s l, h, no => by
    obtain ⟨⟨h1, h2, h3, h4⟩, hl⟩ := h
    have ih : ∀ x ∈ l, ∀ no, WfF (pushF x no) ∧ szF (pushF x no) ≤ 3 * szF x ∧ (nmF x = true → nmF (pushF x no) = true) := fun x hx no => wf_push x (WfL_mem hl x hx) no
    have a1 : arityF 1 = 0 := by decide
    have a2 : arityF 2 = 0 := by decide
    have a3 : arityF 3 = 1 := by decide
    have a4 : arityF 4 = 2 := by decide
    have a5 : arityF 5 = 2 := by decide
    have a6 : arityF 6 = 1 := by decide
    have a7 : arityF 7 = 2 := by decide
    have a8 : arityF 8 = 2 := by decide
    have a9 : arityF 9 = 1 := by decide
    have a10 : arityF 10 = 1 := by decide
    have hk : k = 1 ∨ k = 2 ∨ k = 3 ∨ k = 4 ∨ k = 5 ∨ k = 6 ∨ k = 7 ∨ k = 8 ∨ k = 9 ∨ k = 10 := by omega
    rcases hk with rfl | rfl | rfl | rfl | rfl | rfl | rfl | rfl | rfl | rfl
    · obtain rfl : l = [] := List.eq_nil_of_length_eq_zero (by omega)
      cases no <;> simp [pushF, WfF, WfL, szF, szL, nmF, nmL, a1, a3]
    · obtain rfl : l = [] := List.eq_nil_of_length_eq_zero (by omega)
      have := h4 (by decide)
      subst this
      cases no <;> simp [pushF, WfF, WfL, szF, szL, nmF, nmL, a2, a3]
    · obtain ⟨x, rfl⟩ := List.length_eq_one_iff.1 (show l.length = 1 by omega)
      have i1 := ih x (by simp) (!no)
      have : pushF (.mk 3 s [x]) no = pushF x (!no) := by simp [pushF, pushH]
      rw [this]
      refine ⟨i1.1, ?_, fun h => i1.2.2 ?_⟩
      · have := i1.2.1
        simp only [szF, szL]
        omega
      · simpa [nmF, nmL] using h
    · obtain ⟨x, y, rfl⟩ : ∃ x y, l = [x, y] := by
        match l, (show l.length = 2 by omega) with
        | [x, y], _ => exact ⟨x, y, rfl⟩
      have i1 := ih x (by simp) no
      have i2 := ih y (by simp) no
      cases no <;> simp_all [pushF, pushL, WfF, WfL, szF, szL, nmF, nmL, flipK, kindP, preP] <;> omega
    · obtain ⟨x, y, rfl⟩ : ∃ x y, l = [x, y] := by
        match l, (show l.length = 2 by omega) with
        | [x, y], _ => exact ⟨x, y, rfl⟩
      have i1 := ih x (by simp) no
      have i2 := ih y (by simp) no
      cases no <;> simp_all [pushF, pushL, WfF, WfL, szF, szL, nmF, nmL, flipK, kindP, preP] <;> omega
    · obtain ⟨x, rfl⟩ := List.length_eq_one_iff.1 (show l.length = 1 by omega)
      have i1 := ih x (by simp) no
      cases no <;> simp_all [pushF, pushL, WfF, WfL, szF, szL, nmF, nmL, flipK, kindP, preP] <;> omega
    · obtain ⟨x, y, rfl⟩ : ∃ x y, l = [x, y] := by
        match l, (show l.length = 2 by omega) with
        | [x, y], _ => exact ⟨x, y, rfl⟩
      have i1 := ih x (by simp) no
      have i2 := ih y (by simp) no
      cases no <;> simp_all [pushF, pushL, WfF, WfL, szF, szL, nmF, nmL, flipK, kindP, preP] <;> omega
    · obtain ⟨x, y, rfl⟩ : ∃ x y, l = [x, y] := by
        match l, (show l.length = 2 by omega) with
        | [x, y], _ => exact ⟨x, y, rfl⟩
      have i1 := ih x (by simp) no
      have i2 := ih y (by simp) no
      cases no <;> simp_all [pushF, pushL, WfF, WfL, szF, szL, nmF, nmL, flipK, kindP, preP] <;> omega
    · obtain ⟨x, rfl⟩ := List.length_eq_one_iff.1 (show l.length = 1 by omega)
      have i1 := ih x (by simp) no
      cases no <;> simp_all [pushF, pushL, WfF, WfL, szF, szL, nmF, nmL, flipK, kindP, preP, pT] <;> omega
    · obtain ⟨x, rfl⟩ := List.length_eq_one_iff.1 (show l.length = 1 by omega)
      have i1 := ih x (by simp) no
      cases no <;> simp_all [pushF, pushL, WfF, WfL, szF, szL, nmF, nmL, flipK, kindP, preP, pT] <;> omega
termination_by f => SizeOf.sizeOf f
decreasing_by
  have := List.sizeOf_lt_of_mem hx
  simp only [Fm.mk.sizeOf_spec]
  omega

/-! ### The walks -/
theorem rnot_spec (G : Glob) (f : Fm) (hip : ∃ c, dF f = .ip c) : PureC Tryd.prog G 54 [dF f] (dF (.mk 3 [] [f])) := by
  obtain ⟨c, hc⟩ := hip
  have e : dF (.mk 3 [] [f]) = .ip [dNum 3, dS [], .sl none [[dF f]]] := rfl
  rw [e, hc]
  refine PureC.of_body (tyOf_good _) Tryd.func54 rfl rfl (rs := [.tmp 2]) Tryd.results54 (by simp [Tryd.ntmps54]) fun X => ?_
  simp only [Tryd.ntmps54, List.map]
  refine AW_rg (tyOf_good _) [0] [] (fun _ _ => trivial) fun K' hK' => ?_
  repeat (refine sxf_next fun K2 hK2 => ?_; simp [dNum, dB]; (repeat (refine ⟨by omega, ?_⟩)); refine hK2 _ ?_; clear hK2 K2)
  refine sxf_nil (hK' _ ?_)
  refine AW.st (by simp [dNum, dB]; rfl) ?_
  clear hK' K'
  refine AW_rg (tyOf_good _) [2] [4, 6] (fun _ _ => trivial) fun K' hK' => ?_
  repeat (refine sxf_next fun K2 hK2 => ?_; simp [dNum, dB, dS]; (repeat (refine ⟨by omega, ?_⟩)); refine hK2 _ ?_; clear hK2 K2)
  refine sxf_nil (hK' _ ?_)
  refine AW.st (by simp [dNum, dB, dS]; rfl) ?_
  clear hK' K'
  refine AW.imp (Imp.freeze 4 trivial) ?_
  refine AW.st (by simp [dNum, dB]; rfl) ?_
  refine AW.imp (Imp.freezeB 6 trivial) ?_
  refine AW.st (by simp [dNum, dB]; rfl) ?_
  refine AW_ret ?_
  simp [D.le, D.le.go, takeMap, dNum, dB, dS, bs_nil, D.le_refl, D.leGo_refl]

set_option maxHeartbeats 4000000 in
theorem rpush_leaf (G : Glob) (k : Int) (s : List UInt8) (hk : k = 1 ∨ k = 2) (no : Bool) : PureC Tryd.prog G 29 [dF (.mk k s []), .v (.bool no)] (dF (pushF (.mk k s []) no)) := by
  have hp : pushF (.mk k s []) no = if no then .mk 3 [] [.mk k s []] else .mk k s [] := by
    rcases hk with rfl | rfl <;> simp [pushF]
  rw [hp]
  clear hp
  have hk2 : k ≤ 2 := by omega
  have hn := rnot_spec G (.mk k s []) ⟨_, rfl⟩
  have e : dF (.mk k s []) = .ip [dNum k, dS s, .sl (some false) []] := by simp [dF, dFs, ofK]
  rw [e] at hn ⊢
  cases no with
  | true =>
    simp only [if_true]
    generalize dF (.mk 3 [] [.mk k s []]) = y at hn ⊢
    refine PureC.of_body (tyOf_good _) Tryd.func29 rfl rfl (rs := [.tmp 4]) Tryd.results29 (by simp [Tryd.ntmps29]) fun X => ?_
    simp only [Tryd.ntmps29, List.map]
    refine AW_rg (tyOf_good _) [0, 3] [3] (fun _ _ => trivial) fun K' hK' => ?_
    repeat (refine sxf_next fun K2 hK2 => ?_; simp [dNum, dB]; (repeat (refine ⟨by omega, ?_⟩)); refine hK2 _ ?_; clear hK2 K2)
    refine sxf_nil (hK' _ ?_)
    refine AW.st (by simp [dNum, dB]; rfl) ?_
    clear hK' K'
    refine AW_then fun K1 hK1 => ?_
    refine AW_rg (tyOf_good _) [0, 3, 14] [3] (fun _ _ => trivial) fun K' hK' => ?_
    repeat (refine sxf_next fun K2 hK2 => ?_; simp [dNum, dB, hk2]; (repeat (refine ⟨by omega, ?_⟩)); refine hK2 _ ?_; clear hK2 K2)
    refine sxf_nil (hK' _ ?_)
    refine AW.st (by simp [dNum, dB, hk2]; rfl) ?_
    clear hK' K'
    refine AW_cond true rfl (fun _ => ?_) (fun h => by cases h)
    refine AW_rg (tyOf_good _) [4] [3] (fun _ _ => trivial) fun K' hK' => ?_
    repeat (refine sxf_next fun K2 hK2 => ?_; simp [dNum, dB]; (repeat (refine ⟨by omega, ?_⟩)); refine hK2 _ ?_; clear hK2 K2)
    refine sxf_next fun K2 hK2 => ?_
    simp [dNum, dB]
    refine callK.data (hn) (by simp; rfl) (by first | exact D.leGo_refl _ | simp [takeMap, List.map_map, Function.comp_def, D.le, D.le.go, D.le_refl, D.leGo_refl, dNum, dB]) ?_
    refine hK2 _ ?_
    clear hK2 K2
    simp only [putd, upd_lst]
    repeat (refine sxf_next fun K2 hK2 => ?_; simp [dNum, dB]; (repeat (refine ⟨by omega, ?_⟩)); refine hK2 _ ?_; clear hK2 K2)
    refine sxf_nil (hK' _ ?_)
    refine AW.st (by simp [dNum, dB]; rfl) ?_
    clear hK' K'
    refine AW_ret ?_
    simp [D.le, D.le.go, takeMap, dNum, dB, D.le_refl]
  | false =>
    simp only [if_false, Bool.false_eq_true]
    rw [e]
    rcases hk with rfl | rfl
    · refine PureC.of_body (tyOf_good _) Tryd.func29 rfl rfl (rs := [.tmp 4]) Tryd.results29 (by simp [Tryd.ntmps29]) fun X => ?_
      simp only [Tryd.ntmps29, List.map]
      refine AW_rg (tyOf_good _) [0, 3] [3] (fun _ _ => trivial) fun K' hK' => ?_
      repeat (refine sxf_next fun K2 hK2 => ?_; simp [dNum, dB]; (repeat (refine ⟨by omega, ?_⟩)); refine hK2 _ ?_; clear hK2 K2)
      refine sxf_nil (hK' _ ?_)
      refine AW.st (by simp [dNum, dB]; rfl) ?_
      clear hK' K'
      refine AW_then fun K1 hK1 => ?_
      refine AW_rg (tyOf_good _) [0, 3, 14] [3] (fun _ _ => trivial) fun K' hK' => ?_
      repeat (refine sxf_next fun K2 hK2 => ?_; simp [dNum, dB]; (repeat (refine ⟨by omega, ?_⟩)); refine hK2 _ ?_; clear hK2 K2)
      refine sxf_nil (hK' _ ?_)
      refine AW.st (by simp [dNum, dB]; rfl) ?_
      clear hK' K'
      refine AW_cond false rfl (fun h => by cases h) (fun _ => ?_)
      refine AW_skip (hK1 _ ?_)
      refine AW.imp (Imp.freezeB 3 trivial) ?_
      refine AW.st (by simp [dNum, dB]; rfl) ?_
      refine AW_rg (tyOf_good _) [0, 3, 5] [] (fun _ _ => trivial) fun K' hK' => ?_
      repeat (refine sxf_next fun K2 hK2 => ?_; simp [dNum, dB]; (repeat (refine ⟨by omega, ?_⟩)); refine hK2 _ ?_; clear hK2 K2)
      refine sxf_nil (hK' _ ?_)
      refine AW.st (by simp [dNum, dB]; rfl) ?_
      clear hK' K'
      refine AW_rg (tyOf_good _) [0, 3, 5, 6] [19] (fun _ _ => trivial) fun K' hK' => ?_
      repeat (refine sxf_next fun K2 hK2 => ?_; simp [dNum, dB]; (repeat (refine ⟨by omega, ?_⟩)); refine hK2 _ ?_; clear hK2 K2)
      refine sxf_nil (hK' _ ?_)
      refine AW.st (by simp [dNum, dB]; rfl) ?_
      clear hK' K'
      refine AW.imp (Imp.freezeB 19 trivial) ?_
      refine AW.st (by simp [dNum, dB]; rfl) ?_
      refine AW_then fun K2 hK2 => ?_
      refine AW_rg (tyOf_good _) [0, 3, 5, 6, 23] [] (fun _ _ => trivial) fun K' hK' => ?_
      repeat (refine sxf_next fun K2 hK2 => ?_; simp [dNum, dB]; (repeat (refine ⟨by omega, ?_⟩)); refine hK2 _ ?_; clear hK2 K2)
      refine sxf_nil (hK' _ ?_)
      refine AW.st (by simp [dNum, dB]; rfl) ?_
      clear hK' K'
      refine AW_block ?_
      refine AW_then fun K3 hK3 => ?_
      refine AW_rg (tyOf_good _) [0, 3, 5, 6, 23, 24] [] (fun _ _ => trivial) fun K' hK' => ?_
      repeat (refine sxf_next fun K2 hK2 => ?_; simp [dNum, dB]; (repeat (refine ⟨by omega, ?_⟩)); refine hK2 _ ?_; clear hK2 K2)
      refine sxf_nil (hK' _ ?_)
      refine AW.st (by simp [dNum, dB]; rfl) ?_
      clear hK' K'
      refine AW_cond true rfl (fun _ => ?_) (fun h => by cases h)
      refine AW_skip (hK3 _ ?_)
      refine AW_cond true rfl (fun _ => ?_) (fun h => by cases h)
      refine AW_rg (tyOf_good _) [4] [] (fun _ _ => trivial) fun K' hK' => ?_
      repeat (refine sxf_next fun K2 hK2 => ?_; simp [dNum, dB]; (repeat (refine ⟨by omega, ?_⟩)); refine hK2 _ ?_; clear hK2 K2)
      refine sxf_nil (hK' _ ?_)
      refine AW.st (by simp [dNum, dB]; rfl) ?_
      clear hK' K'
      refine AW_ret ?_
      simp [D.le, D.le.go, takeMap, dNum, dB, D.le_refl, D.leGo_refl]
    · refine PureC.of_body (tyOf_good _) Tryd.func29 rfl rfl (rs := [.tmp 4]) Tryd.results29 (by simp [Tryd.ntmps29]) fun X => ?_
      simp only [Tryd.ntmps29, List.map]
      refine AW_rg (tyOf_good _) [0, 3] [3] (fun _ _ => trivial) fun K' hK' => ?_
      repeat (refine sxf_next fun K2 hK2 => ?_; simp [dNum, dB]; (repeat (refine ⟨by omega, ?_⟩)); refine hK2 _ ?_; clear hK2 K2)
      refine sxf_nil (hK' _ ?_)
      refine AW.st (by simp [dNum, dB]; rfl) ?_
      clear hK' K'
      refine AW_then fun K1 hK1 => ?_
      refine AW_rg (tyOf_good _) [0, 3, 14] [3] (fun _ _ => trivial) fun K' hK' => ?_
      repeat (refine sxf_next fun K2 hK2 => ?_; simp [dNum, dB]; (repeat (refine ⟨by omega, ?_⟩)); refine hK2 _ ?_; clear hK2 K2)
      refine sxf_nil (hK' _ ?_)
      refine AW.st (by simp [dNum, dB]; rfl) ?_
      clear hK' K'
      refine AW_cond false rfl (fun h => by cases h) (fun _ => ?_)
      refine AW_skip (hK1 _ ?_)
      refine AW.imp (Imp.freezeB 3 trivial) ?_
      refine AW.st (by simp [dNum, dB]; rfl) ?_
      refine AW_rg (tyOf_good _) [0, 3, 5] [] (fun _ _ => trivial) fun K' hK' => ?_
      repeat (refine sxf_next fun K2 hK2 => ?_; simp [dNum, dB]; (repeat (refine ⟨by omega, ?_⟩)); refine hK2 _ ?_; clear hK2 K2)
      refine sxf_nil (hK' _ ?_)
      refine AW.st (by simp [dNum, dB]; rfl) ?_
      clear hK' K'
      refine AW_rg (tyOf_good _) [0, 3, 5, 6] [19] (fun _ _ => trivial) fun K' hK' => ?_
      repeat (refine sxf_next fun K2 hK2 => ?_; simp [dNum, dB]; (repeat (refine ⟨by omega, ?_⟩)); refine hK2 _ ?_; clear hK2 K2)
      refine sxf_nil (hK' _ ?_)
      refine AW.st (by simp [dNum, dB]; rfl) ?_
      clear hK' K'
      refine AW.imp (Imp.freezeB 19 trivial) ?_
      refine AW.st (by simp [dNum, dB]; rfl) ?_
      refine AW_then fun K2 hK2 => ?_
      refine AW_rg (tyOf_good _) [0, 3, 5, 6, 23] [] (fun _ _ => trivial) fun K' hK' => ?_
      repeat (refine sxf_next fun K2 hK2 => ?_; simp [dNum, dB]; (repeat (refine ⟨by omega, ?_⟩)); refine hK2 _ ?_; clear hK2 K2)
      refine sxf_nil (hK' _ ?_)
      refine AW.st (by simp [dNum, dB]; rfl) ?_
      clear hK' K'
      refine AW_block ?_
      refine AW_then fun K3 hK3 => ?_
      refine AW_rg (tyOf_good _) [0, 3, 5, 6, 23, 24] [] (fun _ _ => trivial) fun K' hK' => ?_
      repeat (refine sxf_next fun K2 hK2 => ?_; simp [dNum, dB]; (repeat (refine ⟨by omega, ?_⟩)); refine hK2 _ ?_; clear hK2 K2)
      refine sxf_nil (hK' _ ?_)
      refine AW.st (by simp [dNum, dB]; rfl) ?_
      clear hK' K'
      refine AW_cond false rfl (fun h => by cases h) (fun _ => ?_)
      refine AW_re (tyOf_good _) fun K' hK' => ?_
      repeat (refine sxf_next fun K2 hK2 => ?_; simp [dNum, dB]; (repeat (refine ⟨by omega, ?_⟩)); refine hK2 _ ?_; clear hK2 K2)
      refine sxf_nil (hK' _ ?_)
      clear hK' K'
      refine hK3 _ (AW.norm [0, 3, 5, 6, 23, 24] [] (fun _ _ => trivial) (AW.st (by simp [dNum, dB]; rfl) ?_))
      refine AW_cond true rfl (fun _ => ?_) (fun h => by cases h)
      refine AW_rg (tyOf_good _) [4] [] (fun _ _ => trivial) fun K' hK' => ?_
      repeat (refine sxf_next fun K2 hK2 => ?_; simp [dNum, dB]; (repeat (refine ⟨by omega, ?_⟩)); refine hK2 _ ?_; clear hK2 K2)
      refine sxf_nil (hK' _ ?_)
      refine AW.st (by simp [dNum, dB]; rfl) ?_
      clear hK' K'
      refine AW_ret ?_
      simp [D.le, D.le.go, takeMap, dNum, dB, D.le_refl, D.leGo_refl]

set_option maxHeartbeats 8000000 in
theorem rpart_spec (G : Glob) (no : Bool) (k : Int) (L : List Fm) (hk : k = 4 ∨ k = 5 ∨ k = 6 ∨ k = 7 ∨ k = 8) (hL0 : L ≠ []) (hL2 : L.length ≤ 2) (hip : ∀ x ∈ L, ∃ c, dF x = .ip c) (hpp : ∀ x ∈ L, ∃ c, dF (pushF x no) = .ip c)
    (hch : ∀ x ∈ L, PureC Tryd.prog G 29 [dF x, .v (.bool no)] (dF (pushF x no))) : PureC Tryd.prog G 55 [dNum k, .sl none (L.map fun f => [dF f]), .ip [.v (.bool no)]] (dF (.mk (flipK k no) [] (pushL L no))) := by
  have hLn : L.length < 2^60 := by omega
  have hofL : ofK (pushL L no) = none := by cases L with | nil => exact absurd rfl hL0 | cons x y => rfl
  have eL : dF (.mk (flipK k no) [] (pushL L no)) = .ip [dNum (flipK k no), dS [], .sl none (L.map fun f => [dF (pushF f no)])] := by rw [dF, hofL, dFs_map, pushL_map, List.map_map]; rfl
  rw [eL]
  refine PureC.of_body (tyOf_good _) Tryd.func55 rfl rfl (rs := [.tmp 5]) Tryd.results55 (by simp [Tryd.ntmps55]) fun X => ?_
  simp only [Tryd.ntmps55, List.map]
  refine AW_rg (tyOf_good _) [0, 1, 2] [] (fun _ _ => trivial) fun K' hK' => ?_
  repeat (refine sxf_next fun K2 hK2 => ?_; simp [dNum, dB]; (repeat (refine ⟨by omega, ?_⟩)); refine hK2 _ ?_; clear hK2 K2)
  refine sxf_nil (hK' _ ?_)
  refine AW.st (by simp [dNum, dB]; rfl) ?_
  clear hK' K'
  refine AW_then fun K1 hK1 => ?_
  refine AW_rg (tyOf_good _) [0, 1, 2, 9] [] (fun _ _ => trivial) fun K' hK' => ?_
  repeat (refine sxf_next fun K2 hK2 => ?_; simp [dNum, dB]; (repeat (refine ⟨by omega, ?_⟩)); refine hK2 _ ?_; clear hK2 K2)
  refine sxf_nil (hK' _ ?_)
  refine AW.st (by simp [dNum, dB]; rfl) ?_
  clear hK' K'
  have hkk : ∃ kk, flipK k no = kk := ⟨_, rfl⟩
  obtain ⟨kk, hkk⟩ := hkk
  rw [hkk]
  refine (fun hcont2 => ?_) (fun (σ : St) himp => hK1 σ (AW.imp (τ := ⟨lst [(0, int kk), (1, .d (.sl none (L.map fun f => [dF f]))), (2, .d (.ip [.v (.bool no)]))], hlst []⟩) himp ?_))
  · cases no with
    | true =>
      have hlk := flip_look hk
      rw [hkk] at hlk
      refine AW_cond true rfl (fun _ => ?_) (fun h => by cases h)
      refine AW_re (tyOf_good _) fun K' hK' => ?_
      repeat (refine sxf_next fun K2 hK2 => ?_; simp [dNum, dB, hlk, ofOk, zeroM]; (repeat (refine ⟨by omega, ?_⟩)); refine hK2 _ ?_; clear hK2 K2)
      refine sxf_nil (hK' _ ?_)
      clear hK' K'
      try simp only [thn, inb]
      refine hcont2 _ ?_
      refine Imp.to' (fun _ _ => trivial) (by simp [dNum, dB]) (by simp [dNum, dB])
    | false =>
      have hkk : k = kk := hkk
      subst hkk
      refine AW_cond false rfl (fun h => by cases h) (fun _ => ?_)
      refine AW_skip (hcont2 _ ?_)
      refine Imp.to' (fun _ _ => trivial) (by simp [dNum, dB]) (by simp [dNum, dB])
  · refine AW_rg (tyOf_good _) [1, 2, 6] [16] (fun _ _ => trivial) fun K' hK' => ?_
    repeat (refine sxf_next fun K2 hK2 => ?_; simp [dNum, dB]; (repeat (refine ⟨by omega, ?_⟩)); refine hK2 _ ?_; clear hK2 K2)
    refine sxf_nil (hK' _ ?_)
    refine AW.st (by simp [dNum, dB]; rfl) ?_
    clear hK' K'
    refine AW_then fun K2 hK2 => ?_
    refine AW_rg (tyOf_good _) [2, 6, 17, 18, 19] [16] (fun _ _ => trivial) fun K' hK' => ?_
    repeat (refine sxf_next fun K2 hK2 => ?_; simp [dNum, dB]; (repeat (refine ⟨by omega, ?_⟩)); refine hK2 _ ?_; clear hK2 K2)
    refine sxf_nil (hK' _ ?_)
    refine AW.st (by simp [dNum, dB]; rfl) ?_
    clear hK' K'
    refine AW_for (S := Nat) (fun n => n ≤ L.length) (fun n => ⟨lst [(2, .d (.ip [.v (.bool no)])), (6, .ref 16 0 0), (17, .d (.sl none (L.map fun f => [dF f]))), (18, int L.length), (19, int n)], hlst [(16, .box 108 [int kk, .d (dS []), .own 32 0 n]), (32, .sl 57 1 (List.take n (L.map fun f => [dF (pushF f no)])))]⟩) (fun n => L.length - n) 0 ?_ (by omega) ?_
    · refine (Imp.adoptCell 16 2 32 57 1 rfl rfl rfl).trans ?_
      refine Imp.to' (fun _ _ => trivial) (by simp [dNum, dB, dS, bs_nil]) (by simp [dNum, dB, dS, bs_nil])
    · intro n hn
      refine AW_rg (tyOf_good _) [2, 6, 17, 18, 19, 20] [16, 32] (fun _ _ => trivial) fun K' hK' => ?_
      repeat (refine sxf_next fun K2 hK2 => ?_; simp [dNum, dB]; (repeat (refine ⟨by omega, ?_⟩)); refine hK2 _ ?_; clear hK2 K2)
      refine sxf_nil (hK' _ ?_)
      refine AW.st (by simp [dNum, dB]; rfl) ?_
      clear hK' K'
      refine AW_then fun K3 hK3 => ?_
      refine AW_cond' (b := n < L.length) (by simp [D.le, D.le.go, takeMap, dNum, dB]) (fun hc => ?_) (fun hc => ?_)
      · have hnl : n < L.length := hc
        obtain ⟨ci, hci⟩ := hip _ (List.getElem_mem hnl)
        have hcc := hch _ (List.getElem_mem hnl)
        obtain ⟨cp, hcp⟩ := hpp _ (List.getElem_mem hnl)
        rw [hci, hcp] at hcc
        have htk : ∀ g : Fm → List D, List.take (n + 1) (List.map g L) = List.take n (List.map g L) ++ [g L[n]] := fun g => by
          rw [List.take_succ_eq_append_getElem (by simp; exact hnl), List.getElem_map]
        refine AW_skip (hK3 _ ?_)
        refine AW_then fun K4 hK4 => ?_
        refine AW_block ?_
        refine AW_rg (tyOf_good _) [2, 6, 8, 17, 18, 19] [16, 32] (fun _ _ => trivial) fun K' hK' => ?_
        repeat (refine sxf_next fun K2 hK2 => ?_; simp [dNum, dB, hnl, hci]; (repeat (refine ⟨by omega, ?_⟩)); refine hK2 _ ?_; clear hK2 K2)
        refine sxf_nil (hK' _ ?_)
        refine AW.st (by simp [dNum, dB, hnl, hci]; rfl) ?_
        clear hK' K'
        refine AW_rle (tyOf_good _) (by kernel_rfl) ([(9, (32, 31))]) ([(0, [32])]) ([0, 1, 2, 3, 4, 5, 6, 7, 8, 9, 10, 11, 12]) (by kernel_rfl) fun K' hK' => ?_
        repeat (refine sxl_nextO rfl fun K2 hK2 => ?_; simp [dNum, dB, List.take_take]; (repeat (refine ⟨by omega, ?_⟩)); refine hK2 _ ?_; clear hK2 K2)
        refine sxl_nextO rfl fun K2 hK2 => ?_
        simp [dNum, dB, List.take_take]
        refine callD.mk (hcc) (by simp; rfl) (by simp; rfl) (by first | exact D.leGo_refl _ | simp [takeMap, List.map_map, Function.comp_def, D.le, D.le.go, D.le_refl, D.leGo_refl, dNum, dB, List.take_take]) (by simp) ?_
        refine hK2 _ ?_
        clear hK2 K2
        simp only [putd, upd_lst]
        repeat (refine sxl_nextO rfl fun K2 hK2 => ?_; simp [dNum, dB, List.take_take]; (repeat (refine ⟨by omega, ?_⟩)); refine hK2 _ ?_; clear hK2 K2)
        refine sxl_nilO (hK' _ ?_)
        clear hK' K'
        refine hK4 _ (AW.norm [2, 6, 17, 18, 19] [16, 32] (fun _ _ => trivial) (AW.st (by simp [dNum, dB, List.take_take]; rfl) ?_))
        refine AW_re (tyOf_good _) fun K' hK' => ?_
        repeat (refine sxf_next fun K2 hK2 => ?_; simp [dNum, dB]; (repeat (refine ⟨by omega, ?_⟩)); refine hK2 _ ?_; clear hK2 K2)
        refine sxf_nil (hK' _ ?_)
        clear hK' K'
        try simp only [thn, inb]
        refine Again.mk (n + 1) (by omega) (by omega) ?_
        refine Imp.to' (fun _ _ => trivial) (by simp [dNum, dB, htk, hcp, dS]) (by simp [dNum, dB, htk, hcp, dS])
      · obtain rfl : n = L.length := by omega
        refine AW_exit (hK2 _ ?_)
        have htkl : ∀ g : Fm → List D, List.take L.length (L.map g) = L.map g := fun g => List.take_of_length_le (by simp)
        refine AW.imp (Imp.freeze 32 trivial) ?_
        refine AW.st (by simp [dNum, dB, htkl]; rfl) ?_
        refine AW.imp (Imp.freezeB 16 trivial) ?_
        refine AW.st (by simp [dNum, dB]; rfl) ?_
        refine AW_rg (tyOf_good _) [5] [] (fun _ _ => trivial) fun K' hK' => ?_
        repeat (refine sxf_next fun K2 hK2 => ?_; simp [dNum, dB]; (repeat (refine ⟨by omega, ?_⟩)); refine hK2 _ ?_; clear hK2 K2)
        refine sxf_nil (hK' _ ?_)
        refine AW.st (by simp [dNum, dB]; rfl) ?_
        clear hK' K'
        refine AW_ret ?_
        simp [D.le, D.le.go, takeMap, dNum, dB, hkk, dS, D.le_refl, D.leGo_refl]

set_option maxHeartbeats 8000000 in
theorem rpush_rest (G : Glob) (no : Bool) (k : Int) (l : List Fm) (hk : k = 3 ∨ k = 4 ∨ k = 5 ∨ k = 6 ∨ k = 7 ∨ k = 8 ∨ k = 9 ∨ k = 10) (hl0 : l ≠ []) (hl2 : l.length ≤ 2) (h9 : k = 3 ∨ k = 9 ∨ k = 10 → l.length = 1) (hip : ∀ x ∈ l, ∃ c, dF x = .ip c)
    (hpp : ∀ no, ∀ x ∈ l, ∃ c, dF (pushF x no) = .ip c)
    (hch : ∀ no, ∀ x ∈ l, PureC Tryd.prog G 29 [dF x, .v (.bool no)] (dF (pushF x no)))
    (hnot : k = 10 → PureC Tryd.prog G 29 [dF (.mk 3 [] [.mk 2 [] []]), .v (.bool no)] (dF (pushF (.mk 3 [] [.mk 2 [] []]) no))) : PureC Tryd.prog G 29 [dF (.mk k [] l), .v (.bool no)] (dF (pushF (.mk k [] l) no)) := by
  have hof : ofK l = none := by cases l with | nil => exact absurd rfl hl0 | cons x y => rfl
  have e : dF (.mk k [] l) = .ip [dNum k, dS [], .sl none (l.map fun f => [dF f])] := by rw [dF, hof, dFs_map]
  have hk31 : ¬ k ≤ 2 ∧ k ≠ 1 ∧ k ≠ 2 := by omega
  obtain ⟨hkle, hk1, hk2⟩ := hk31
  rw [e]
  refine PureC.of_body (tyOf_good _) Tryd.func29 rfl rfl (rs := [.tmp 4]) Tryd.results29 (by simp [Tryd.ntmps29]) fun X => ?_
  simp only [Tryd.ntmps29, List.map]
  refine AW_rg (tyOf_good _) [0, 3] [3] (fun _ _ => trivial) fun K' hK' => ?_
  repeat (refine sxf_next fun K2 hK2 => ?_; simp [dNum, dB]; (repeat (refine ⟨by omega, ?_⟩)); refine hK2 _ ?_; clear hK2 K2)
  refine sxf_nil (hK' _ ?_)
  refine AW.st (by simp [dNum, dB]; rfl) ?_
  clear hK' K'
  refine AW_then fun K1 hK1 => ?_
  refine (fun hcont => ?_) (fun (σ : St) himp => hK1 σ (AW.imp (τ := ⟨lst [(0, .d (.ip [dNum k, dS [], .sl none (l.map fun f => [dF f])])), (3, .ref 3 0 0)], hlst [(3, .box 4 [.d (.v (.bool no))])]⟩) himp ?_))
  · cases no with
    | true =>
      refine AW_rg (tyOf_good _) [0, 3, 14] [3] (fun _ _ => trivial) fun K' hK' => ?_
      repeat (refine sxf_next fun K2 hK2 => ?_; simp [dNum, dB, hkle]; (repeat (refine ⟨by omega, ?_⟩)); refine hK2 _ ?_; clear hK2 K2)
      refine sxf_nil (hK' _ ?_)
      refine AW.st (by simp [dNum, dB, hkle]; rfl) ?_
      clear hK' K'
      refine AW_cond false rfl (fun h => by cases h) (fun _ => ?_)
      refine AW_skip (hcont _ ?_)
      refine Imp.to' (fun _ _ => trivial) (by simp [dNum, dB, dS]) (by simp [dNum, dB, dS])
    | false =>
      refine AW_rg (tyOf_good _) [0, 3, 14] [3] (fun _ _ => trivial) fun K' hK' => ?_
      repeat (refine sxf_next fun K2 hK2 => ?_; simp [dNum, dB, hkle]; (repeat (refine ⟨by omega, ?_⟩)); refine hK2 _ ?_; clear hK2 K2)
      refine sxf_nil (hK' _ ?_)
      refine AW.st (by simp [dNum, dB, hkle]; rfl) ?_
      clear hK' K'
      refine AW_cond false rfl (fun h => by cases h) (fun _ => ?_)
      refine AW_skip (hcont _ ?_)
      refine Imp.to' (fun _ _ => trivial) (by simp [dNum, dB, dS]) (by simp [dNum, dB, dS])
  clear hK1
  refine AW.imp (Imp.freezeB 3 trivial) ?_
  refine AW.st (by simp [dNum, dB]; rfl) ?_
  refine AW_rg (tyOf_good _) [0, 3, 5] [] (fun _ _ => trivial) fun K' hK' => ?_
  repeat (refine sxf_next fun K2 hK2 => ?_; simp [dNum, dB]; (repeat (refine ⟨by omega, ?_⟩)); refine hK2 _ ?_; clear hK2 K2)
  refine sxf_nil (hK' _ ?_)
  refine AW.st (by simp [dNum, dB]; rfl) ?_
  clear hK' K'
  refine AW_rg (tyOf_good _) [0, 3, 5, 6] [19] (fun _ _ => trivial) fun K' hK' => ?_
  repeat (refine sxf_next fun K2 hK2 => ?_; simp [dNum, dB]; (repeat (refine ⟨by omega, ?_⟩)); refine hK2 _ ?_; clear hK2 K2)
  refine sxf_nil (hK' _ ?_)
  refine AW.st (by simp [dNum, dB]; rfl) ?_
  clear hK' K'
  refine AW.imp (Imp.freezeB 19 trivial) ?_
  refine AW.st (by simp [dNum, dB]; rfl) ?_
  refine AW_then fun K2 hK2 => ?_
  refine AW_rg (tyOf_good _) [0, 3, 5, 6, 23] [] (fun _ _ => trivial) fun K' hK' => ?_
  repeat (refine sxf_next fun K2 hK2 => ?_; simp [dNum, dB]; (repeat (refine ⟨by omega, ?_⟩)); refine hK2 _ ?_; clear hK2 K2)
  refine sxf_nil (hK' _ ?_)
  refine AW.st (by simp [dNum, dB]; rfl) ?_
  clear hK' K'
  refine AW_block ?_
  refine AW_then fun K3 hK3 => ?_
  refine AW_rg (tyOf_good _) [0, 3, 5, 6, 23, 24] [] (fun _ _ => trivial) fun K' hK' => ?_
  repeat (refine sxf_next fun K2 hK2 => ?_; simp [dNum, dB, hk1]; (repeat (refine ⟨by omega, ?_⟩)); refine hK2 _ ?_; clear hK2 K2)
  refine sxf_nil (hK' _ ?_)
  refine AW.st (by simp [dNum, dB, hk1]; rfl) ?_
  clear hK' K'
  refine AW_cond false rfl (fun h => by cases h) (fun _ => ?_)
  refine AW_re (tyOf_good _) fun K' hK' => ?_
  repeat (refine sxf_next fun K2 hK2 => ?_; simp [dNum, dB, hk2]; (repeat (refine ⟨by omega, ?_⟩)); refine hK2 _ ?_; clear hK2 K2)
  refine sxf_nil (hK' _ ?_)
  clear hK' K'
  refine hK3 _ (AW.norm [0, 3, 5, 6, 23, 24] [] (fun _ _ => trivial) (AW.st (by simp [dNum, dB, hk2]; rfl) ?_))
  refine AW_cond false rfl (fun h => by cases h) (fun _ => ?_)
  by_cases h3k : k = 3
  · subst h3k
    obtain ⟨x, rfl⟩ := List.length_eq_one_iff.1 (h9 (.inl rfl))
    obtain ⟨cx, hcx⟩ := hip x (by simp)
    have hp : pushF (.mk 3 [] [x]) no = pushF x (!no) := by simp [pushF, pushH]
    rw [hp]
    have hx := hch (!no) x (by simp)
    generalize dF (pushF x (!no)) = y at hx ⊢
    rw [hcx] at hx
    simp only [List.map, hcx]
    refine AW_rg (tyOf_good _) [0, 3, 5, 6, 23, 28] [] (fun _ _ => trivial) fun K' hK' => ?_
    repeat (refine sxf_next fun K2 hK2 => ?_; simp [dNum, dB]; (repeat (refine ⟨by omega, ?_⟩)); refine hK2 _ ?_; clear hK2 K2)
    refine sxf_nil (hK' _ ?_)
    refine AW.st (by simp [dNum, dB]; rfl) ?_
    clear hK' K'
    refine AW_cond true rfl (fun _ => ?_) (fun h => by cases h)
    refine AW_rd (tyOf_good _) (by kernel_rfl) [4] [] (fun _ _ => trivial) (by kernel_rfl) fun K' hK' => ?_
    repeat (refine sxd_next fun K2 hK2 => ?_; simp [dNum, dB]; (repeat (refine ⟨by omega, ?_⟩)); refine hK2 _ ?_; clear hK2 K2)
    refine sxd_next fun K2 hK2 => ?_
    simp [dNum, dB]
    refine callQ.data (hx) (by simp; rfl) (by simp; rfl) (by first | exact D.leGo_refl _ | simp [takeMap, List.map_map, Function.comp_def, D.le, D.le.go, D.le_refl, D.leGo_refl, dNum, dB]) ?_
    refine hK2 _ ?_
    clear hK2 K2
    simp only [putd, upd_lst]
    repeat (refine sxd_next fun K2 hK2 => ?_; simp [dNum, dB]; (repeat (refine ⟨by omega, ?_⟩)); refine hK2 _ ?_; clear hK2 K2)
    refine sxd_nil (hK' _ ?_)
    refine AW.st (by simp [dNum, dB]; rfl) ?_
    clear hK' K'
    refine AW_ret ?_
    simp [D.le, D.le.go, takeMap, dNum, dB, D.le_refl]
  by_cases h9k : k = 9
  · subst h9k
    obtain ⟨x, rfl⟩ := List.length_eq_one_iff.1 (h9 (.inr (.inl rfl)))
    obtain ⟨cx, hcx⟩ := hip x (by simp)
    have hpt := rpart_spec G no 7 [.mk 2 [] [], x] (by decide) (by simp) (by simp) (fun y hy => ?_) (fun y hy => ?_) (fun y hy => ?_)
    rotate_left
    · rcases List.mem_cons.1 hy with rfl | hy
      · exact ⟨_, rfl⟩
      · exact hip y hy
    · rcases List.mem_cons.1 hy with rfl | hy
      · cases no <;> exact ⟨_, rfl⟩
      · exact hpp no y hy
    · rcases List.mem_cons.1 hy with rfl | hy
      · exact rpush_leaf G 2 [] (.inr rfl) no
      · exact hch no y hy
    have hp : pushF (.mk 9 [] [x]) no = .mk (flipK 7 no) [] (pushL [.mk 2 [] [], x] no) := by simp [pushF, kindP, preP, pT, pushL]
    rw [hp]
    generalize dF (.mk (flipK 7 no) [] (pushL [.mk 2 [] [], x] no)) = y at hpt ⊢
    simp only [List.map, hcx] at hpt ⊢
    refine AW_rg (tyOf_good _) [0, 3, 5, 6, 23, 28] [] (fun _ _ => trivial) fun K' hK' => ?_
    repeat (refine sxf_next fun K2 hK2 => ?_; simp [dNum, dB]; (repeat (refine ⟨by omega, ?_⟩)); refine hK2 _ ?_; clear hK2 K2)
    refine sxf_nil (hK' _ ?_)
    refine AW.st (by simp [dNum, dB]; rfl) ?_
    clear hK' K'
    refine AW_cond false rfl (fun h => by cases h) (fun _ => ?_)
    refine AW_rg (tyOf_good _) [0, 5, 6, 23, 39] [] (fun _ _ => trivial) fun K' hK' => ?_
    repeat (refine sxf_next fun K2 hK2 => ?_; simp [dNum, dB]; (repeat (refine ⟨by omega, ?_⟩)); refine hK2 _ ?_; clear hK2 K2)
    refine sxf_nil (hK' _ ?_)
    refine AW.st (by simp [dNum, dB]; rfl) ?_
    clear hK' K'
    refine AW_cond true rfl (fun _ => ?_) (fun h => by cases h)
    refine AW_rg (tyOf_good _) [4] [] (fun _ _ => trivial) fun K' hK' => ?_
    repeat (refine sxf_next fun K2 hK2 => ?_; simp [dNum, dB, dF, dFs, ofK, dS, bs_nil]; (repeat (refine ⟨by omega, ?_⟩)); refine hK2 _ ?_; clear hK2 K2)
    refine sxf_next fun K2 hK2 => ?_
    simp [dNum, dB, dF, dFs, ofK, dS, bs_nil]
    refine callK.frz 49 (by first | rfl | (simp [dNum, dB, dF, dFs, ofK, dS, bs_nil]; rfl)) trivial ?_
    simp [dNum, dB, dF, dFs, ofK, dS, bs_nil]
    refine callK.data (hpt) (by simp; rfl) (by first | exact D.leGo_refl _ | simp [takeMap, List.map_map, Function.comp_def, D.le, D.le.go, D.le_refl, D.leGo_refl, dNum, dB, dF, dFs, ofK, dS, bs_nil]) ?_
    refine hK2 _ ?_
    clear hK2 K2
    simp only [putd, upd_lst]
    repeat (refine sxf_next fun K2 hK2 => ?_; simp [dNum, dB, dF, dFs, ofK, dS, bs_nil]; (repeat (refine ⟨by omega, ?_⟩)); refine hK2 _ ?_; clear hK2 K2)
    refine sxf_nil (hK' _ ?_)
    refine AW.st (by simp [dNum, dB, dF, dFs, ofK, dS, bs_nil]; rfl) ?_
    clear hK' K'
    refine AW_ret ?_
    simp [D.le, D.le.go, takeMap, dNum, dB, D.le_refl]
  by_cases h10k : k = 10
  · subst h10k
    obtain ⟨x, rfl⟩ := List.length_eq_one_iff.1 (h9 (.inr (.inr rfl)))
    obtain ⟨cx, hcx⟩ := hip x (by simp)
    have hpt := rpart_spec G no 8 [.mk 3 [] [.mk 2 [] []], x] (by decide) (by simp) (by simp) (fun y hy => ?_) (fun y hy => ?_) (fun y hy => ?_)
    rotate_left
    · rcases List.mem_cons.1 hy with rfl | hy
      · exact ⟨_, rfl⟩
      · exact hip y hy
    · rcases List.mem_cons.1 hy with rfl | hy
      · cases no <;> exact ⟨_, rfl⟩
      · exact hpp no y hy
    · rcases List.mem_cons.1 hy with rfl | hy
      · exact hnot rfl
      · exact hch no y hy
    have hp : pushF (.mk 10 [] [x]) no = .mk (flipK 8 no) [] (pushL [.mk 3 [] [.mk 2 [] []], x] no) := by cases no <;> simp [pushF, pushH, kindP, preP, pT, pushL]
    rw [hp]
    generalize dF (.mk (flipK 8 no) [] (pushL [.mk 3 [] [.mk 2 [] []], x] no)) = y at hpt ⊢
    have hn := rnot_spec G (.mk 2 [] []) ⟨_, rfl⟩
    obtain ⟨cn, hcn⟩ : ∃ c, dF (.mk 3 [] [.mk 2 [] []]) = .ip c := ⟨_, rfl⟩
    have e2 : dF (.mk 2 [] []) = .ip [dNum 2, .v (.string ⟨#[]⟩), .sl (some false) []] := rfl
    rw [hcn, e2] at hn
    simp only [List.map, hcx, hcn] at hpt ⊢
    refine AW_rg (tyOf_good _) [0, 3, 5, 6, 23, 28] [] (fun _ _ => trivial) fun K' hK' => ?_
    repeat (refine sxf_next fun K2 hK2 => ?_; simp [dNum, dB]; (repeat (refine ⟨by omega, ?_⟩)); refine hK2 _ ?_; clear hK2 K2)
    refine sxf_nil (hK' _ ?_)
    refine AW.st (by simp [dNum, dB]; rfl) ?_
    clear hK' K'
    refine AW_cond false rfl (fun h => by cases h) (fun _ => ?_)
    refine AW_rg (tyOf_good _) [0, 5, 6, 23, 39] [] (fun _ _ => trivial) fun K' hK' => ?_
    repeat (refine sxf_next fun K2 hK2 => ?_; simp [dNum, dB]; (repeat (refine ⟨by omega, ?_⟩)); refine hK2 _ ?_; clear hK2 K2)
    refine sxf_nil (hK' _ ?_)
    refine AW.st (by simp [dNum, dB]; rfl) ?_
    clear hK' K'
    refine AW_cond false rfl (fun h => by cases h) (fun _ => ?_)
    refine AW_rg (tyOf_good _) [0, 5, 6, 51] [] (fun _ _ => trivial) fun K' hK' => ?_
    repeat (refine sxf_next fun K2 hK2 => ?_; simp [dNum, dB]; (repeat (refine ⟨by omega, ?_⟩)); refine hK2 _ ?_; clear hK2 K2)
    refine sxf_nil (hK' _ ?_)
    refine AW.st (by simp [dNum, dB]; rfl) ?_
    clear hK' K'
    refine AW_cond true rfl (fun _ => ?_) (fun h => by cases h)
    refine AW_rb (tyOf_good _) (by kernel_rfl) ([9]) ([0, 1, 2, 3, 4, 5, 6, 7, 8, 9, 10, 11]) [4] [] (fun _ _ => trivial) (by kernel_rfl) fun K' hK' => ?_
    repeat (refine sxb_nextO rfl fun K2 hK2 => ?_; simp [dNum, dB, dF, dFs, ofK, dS, bs_nil]; (repeat (refine ⟨by omega, ?_⟩)); refine hK2 _ ?_; clear hK2 K2)
    refine sxb_nextO rfl fun K2 hK2 => ?_
    simp [dNum, dB, dF, dFs, ofK, dS, bs_nil]
    refine callD.mk (hn) (by simp; rfl) (by simp; rfl) (by first | exact D.leGo_refl _ | simp [takeMap, List.map_map, Function.comp_def, D.le, D.le.go, D.le_refl, D.leGo_refl, dNum, dB, dF, dFs, ofK, dS, bs_nil]) (by simp) ?_
    refine hK2 _ ?_
    clear hK2 K2
    simp only [putd, upd_lst]
    repeat (refine sxb_nextO rfl fun K2 hK2 => ?_; simp [dNum, dB, dF, dFs, ofK, dS, bs_nil]; (repeat (refine ⟨by omega, ?_⟩)); refine hK2 _ ?_; clear hK2 K2)
    refine sxb_nextO rfl fun K2 hK2 => ?_
    simp [dNum, dB, dF, dFs, ofK, dS, bs_nil]
    refine callD.mk (hpt) (by simp; rfl) (by simp; rfl) (by first | exact D.leGo_refl _ | simp [takeMap, List.map_map, Function.comp_def, D.le, D.le.go, D.le_refl, D.leGo_refl, dNum, dB, dF, dFs, ofK, dS, bs_nil]) (by simp) ?_
    refine hK2 _ ?_
    clear hK2 K2
    simp only [putd, upd_lst]
    repeat (refine sxb_nextO rfl fun K2 hK2 => ?_; simp [dNum, dB, dF, dFs, ofK, dS, bs_nil]; (repeat (refine ⟨by omega, ?_⟩)); refine hK2 _ ?_; clear hK2 K2)
    refine sxb_nilO (hK' _ ?_)
    refine AW.st (by simp [dNum, dB, dF, dFs, ofK, dS, bs_nil]; rfl) ?_
    clear hK' K'
    refine AW_ret ?_
    simp [D.le, D.le.go, takeMap, dNum, dB, D.le_refl]
  · have hk4 : k = 4 ∨ k = 5 ∨ k = 6 ∨ k = 7 ∨ k = 8 := by omega
    have hpt := rpart_spec G no k l hk4 hl0 hl2 hip (hpp no) (hch no)
    have hp : pushF (.mk k [] l) no = .mk (flipK k no) [] (pushL l no) := by
      rw [pushF, if_neg (by omega), if_neg (by omega)]
      simp [kindP, preP, h9k, h10k]
    obtain ⟨y, hy⟩ : ∃ y, dF (.mk (flipK k no) [] (pushL l no)) = y := ⟨_, rfl⟩
    rw [hy] at hpt
    refine AW_rg (tyOf_good _) [0, 3, 5, 6, 23, 28] [] (fun _ _ => trivial) fun K' hK' => ?_
    repeat (refine sxf_next fun K2 hK2 => ?_; simp [dNum, dB, h3k]; (repeat (refine ⟨by omega, ?_⟩)); refine hK2 _ ?_; clear hK2 K2)
    refine sxf_nil (hK' _ ?_)
    refine AW.st (by simp [dNum, dB, h3k]; rfl) ?_
    clear hK' K'
    refine AW_cond false rfl (fun h => by cases h) (fun _ => ?_)
    refine AW_rg (tyOf_good _) [0, 5, 6, 23, 39] [] (fun _ _ => trivial) fun K' hK' => ?_
    repeat (refine sxf_next fun K2 hK2 => ?_; simp [dNum, dB, h9k]; (repeat (refine ⟨by omega, ?_⟩)); refine hK2 _ ?_; clear hK2 K2)
    refine sxf_nil (hK' _ ?_)
    refine AW.st (by simp [dNum, dB, h9k]; rfl) ?_
    clear hK' K'
    refine AW_cond false rfl (fun h => by cases h) (fun _ => ?_)
    refine AW_rg (tyOf_good _) [0, 5, 6, 51] [] (fun _ _ => trivial) fun K' hK' => ?_
    repeat (refine sxf_next fun K2 hK2 => ?_; simp [dNum, dB, h10k]; (repeat (refine ⟨by omega, ?_⟩)); refine hK2 _ ?_; clear hK2 K2)
    refine sxf_nil (hK' _ ?_)
    refine AW.st (by simp [dNum, dB, h10k]; rfl) ?_
    clear hK' K'
    refine AW_cond false rfl (fun h => by cases h) (fun _ => ?_)
    refine AW_skip (hK2 _ ?_)
    refine AW_rd (tyOf_good _) (by kernel_rfl) [4] [] (fun _ _ => trivial) (by kernel_rfl) fun K' hK' => ?_
    repeat (refine sxd_next fun K2 hK2 => ?_; simp [dNum, dB]; (repeat (refine ⟨by omega, ?_⟩)); refine hK2 _ ?_; clear hK2 K2)
    refine sxd_next fun K2 hK2 => ?_
    simp [dNum, dB]
    refine callQ.data (hpt) (by simp; rfl) (by simp; rfl) (by first | exact D.leGo_refl _ | simp [takeMap, List.map_map, Function.comp_def, D.le, D.le.go, D.le_refl, D.leGo_refl, dNum, dB]) ?_
    refine hK2 _ ?_
    clear hK2 K2
    simp only [putd, upd_lst]
    repeat (refine sxd_next fun K2 hK2 => ?_; simp [dNum, dB]; (repeat (refine ⟨by omega, ?_⟩)); refine hK2 _ ?_; clear hK2 K2)
    refine sxd_nil (hK' _ ?_)
    refine AW.st (by simp [dNum, dB]; rfl) ?_
    clear hK' K'
    refine AW_ret ?_
    simp [D.le, D.le.go, takeMap, dNum, dB, hp, hy, D.le_refl]

theorem rpush_spec (G : Glob) : ∀ (d : Nat) (f : Fm), (rightF d f).2 = 0 → ∀ no, PureC Tryd.prog G 29 [dF f, .v (.bool no)] (dF (pushF f no))
  | 0, f, h, no => by obtain ⟨e, he, _⟩ := right_cases h; omega
  | d + 1, f, h, no => by
    have hip : ∀ g, (rightF d g).2 = 0 → ∃ c, dF g = .ip c := fun g hg => by
      cases g with
      | nil => cases d <;> simp [rightF] at hg
      | mk k s l => exact ⟨_, rfl⟩
    have hnot := rpush_rest G no 3 [.mk 2 [] []] (by decide) (by simp) (by simp) (fun _ => rfl) (fun z hz => by rw [List.mem_singleton.1 hz]; exact ⟨_, rfl⟩) (fun no z hz => by rw [List.mem_singleton.1 hz]; cases no <;> exact ⟨_, rfl⟩) (fun no z hz => by rw [List.mem_singleton.1 hz]; exact rpush_leaf G 2 [] (.inr rfl) no) (fun h => by cases h)
    obtain ⟨e, he, hc⟩ := right_cases h
    obtain rfl : d = e := by omega
    rcases hc with ⟨s, rfl⟩ | rfl | ⟨k, x, hx, rfl, hk⟩ | ⟨k, x, y, hx, hy, rfl, hk⟩
    · exact rpush_leaf G 1 s (.inl rfl) no
    · exact rpush_leaf G 2 [] (.inr rfl) no
    · exact rpush_rest G no k [x] (by omega) (by simp) (by simp) (fun _ => rfl) (fun z hz => by rw [List.mem_singleton.1 hz]; exact hip x hx) (fun no z hz => by rw [List.mem_singleton.1 hz]; exact push_ip d x hx no) (fun no z hz => by rw [List.mem_singleton.1 hz]; exact rpush_spec G d x hx no) (fun _ => hnot)
    · refine rpush_rest G no k [x, y] (by omega) (by simp) (by simp) (fun h => by omega) (fun z hz => ?_) (fun no z hz => ?_) (fun no z hz => ?_) (fun _ => hnot)
      · rcases List.mem_cons.1 hz with rfl | hz
        · exact hip _ hx
        · rw [List.mem_singleton.1 hz]; exact hip y hy
      · rcases List.mem_cons.1 hz with rfl | hz
        · exact push_ip d _ hx no
        · rw [List.mem_singleton.1 hz]; exact push_ip d y hy no
      · rcases List.mem_cons.1 hz with rfl | hz
        · exact rpush_spec G d _ hx no
        · rw [List.mem_singleton.1 hz]; exact rpush_spec G d y hy no
#print axioms rpush_spec
end Go.Proofs.YtblafkekblaibaaDoor
