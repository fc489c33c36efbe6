/-
  Texts that belong together, in one file: U4, RN, U5, LW, LE0.
-/
import Derived.Test.YthnjfeielmbfkaaGreatDoorLp36
import Derived.Sort.Walk0
set_option linter.unusedSimpArgs false
set_option linter.unusedVariables false
namespace Go.Proofs.YthnjfeielmbfkaaGreatDoor
open Go.Av
def kAll (all : Bool) : List UInt8 := if all then [98, 105, 116, 94, 126] else [94, 126]
theorem nmsE_kids (all : Bool) (e : Ex) : nmsE all e = one1 (nmE all e) ++ nmsL all (kidsR e) := by
 cases e <;> simp [nmsE, kidsR, nmsL, nmE, one1]
theorem nmE_kind (all : Bool) (e : Ex) : (nmR e = [] ∧ one1 (nmE all e) = []) ∨ (nmR e ≠ [] ∧ Lib.contains (kAll all) (kdR e) = false ∧ one1 (nmE all e) = []) ∨ (nmR e ≠ [] ∧ Lib.contains (kAll all) (kdR e) = true ∧ one1 (nmE all e) = [nmR e]) := by
 have c1 : Lib.contains (kAll true) [98, 105, 116] = true := by decide +kernel
 have c2 : Lib.contains (kAll false) [98, 105, 116] = false := by decide +kernel
 have c3 : ∀ all, Lib.contains (kAll all) [94] = true := by decide +kernel
 have c4 : ∀ all, Lib.contains (kAll all) [126] = true := by decide +kernel
 cases e with
 | bit s =>
  by_cases hs : s = []
  ·subst hs; cases all <;> exact .inl ⟨rfl, rfl⟩
  ·cases all with
   | true => exact .inr (.inr ⟨hs, c1, by simp [nmE, one1, nmR, hs]⟩)
   | false => exact .inr (.inl ⟨hs, c2, by simp [nmE, one1]⟩)
 | rise s =>
  by_cases hs : s = []
  ·subst hs; exact .inl ⟨rfl, rfl⟩
  ·exact .inr (.inr ⟨hs, c3 _, by simp [nmE, one1, nmR, hs]⟩)
 | fall s =>
  by_cases hs : s = []
  ·subst hs; exact .inl ⟨rfl, rfl⟩
  ·exact .inr (.inr ⟨hs, c4 _, by simp [nmE, one1, nmR, hs]⟩)
 | _ => exact .inl ⟨rfl, rfl⟩
def wFn : AV := .fn (.func 237) [.ref 501 0 0, .ref 502 0 0, .ref 504 0 0]
def wRow (all : Bool) (l : List Tx) : List (Nat × Row) := [(501, .box 9 [.d (dS (kAll all))]), (502, .box 169 [.own 503 0 l.length]), (503, .sl 9 1 (l.map fun s => [dS s])), (504, .box 329 [wFn])]
theorem binS_lt (a b : Tx) : binS .lss (bs a) (bs b) = some (True, .bool (decide (a < b))) := by
 simp only [binS, bs_list, bytesLess_eq]
theorem binS_ne (a b : Tx) : binS .neq (bs a) (bs b) = some (True, .bool (!decide (a = b))) := by
 simp only [binS, bs_list]
 have h : (a == b) = decide (a = b) := by
  by_cases e : a = b
  ·subst e; exact (beq_self_eq_true a).trans (decide_eq_true rfl).symm
  ·exact (beq_eq_false_iff_ne.2 e).trans (decide_eq_false e).symm
 rw [h]
theorem put_in (m : List (List D)) (z x : List D) (k : Nat) (hk : k ≤ m.length) (hm : ∀ el ∈ m, el.length = 1 ∧ ∀ c ∈ el, D.one c = true) (hz : z.length = 1 ∧ ∀ c ∈ z, D.one c = true) :
  ∃ news els2 : List (List D), ∃ w0 : D, ((m ++ [z]).drop k).take (m.length + 1 - k) = news ∧ (∀ el ∈ news, el.length = 1) ∧ (∀ el ∈ news, ∀ c ∈ el, D.one c = true) ∧
   copyEls (m ++ [z]) news (k + 1) (m.length + 1 - (k + 1)) = els2 ∧ els2.length = m.length + 1 ∧ els2[k]? = some [w0] ∧ els2.set k x = m.take k ++ x :: m.drop k ∧ (k = m.length → els2 = m ++ [z]) := by
 have h1 : ((m ++ [z]).drop k).take (m.length + 1 - k) = m.drop k ++ [z] := by
  rw [List.take_of_length_le (by simp), List.drop_append_of_le_length hk]
 have h2 : (m.drop k ++ [z]).take (m.length + 1 - (k + 1)) = m.drop k := by
  rw [List.take_append_of_le_length (by simp), List.take_of_length_le (by simp)]
 have h3 : copyEls (m ++ [z]) (m.drop k ++ [z]) (k + 1) (m.length + 1 - (k + 1)) = (m ++ [z]).take (k + 1) ++ m.drop k := by
  unfold copyEls; rw [h2, List.drop_of_length_le (l := m ++ [z]) (by simp; omega), List.append_nil]
 have hmem : ∀ el ∈ m.drop k ++ [z], el.length = 1 ∧ ∀ c ∈ el, D.one c = true := fun el hel => by
  rcases List.mem_append.1 hel with h | h
  ·exact hm el (List.mem_of_mem_drop h)
  ·rw [List.mem_singleton] at h; subst h; exact hz
 have hl : ((m ++ [z]).take (k + 1) ++ m.drop k).length = m.length + 1 := by simp; omega
 have hkk : k < (m ++ [z]).length := by simp; omega
 have hgk : ((m ++ [z]).take (k + 1) ++ m.drop k)[k]? = some ((m ++ [z])[k]) := by
  rw [List.getElem?_append_left (by simp; omega), List.getElem?_take, if_pos (by omega), List.getElem?_eq_getElem hkk]
 have hone : ∃ w0, (m ++ [z])[k] = [w0] := by
  have hq : ((m ++ [z])[k]).length = 1 := by
   rcases List.mem_append.1 (List.getElem_mem hkk) with h | h
   ·exact (hm _ h).1
   ·rw [List.mem_singleton] at h; rw [h]; exact hz.1
  exact List.length_eq_one_iff.1 hq
 obtain ⟨w0, hw0⟩ := hone
 refine ⟨_, _, w0, h1, fun el hel => (hmem el hel).1, fun el hel => (hmem el hel).2, h3, hl, by rw [hgk, hw0], ?_, fun e => ?_⟩
 ·rw [List.take_succ_eq_append_getElem hkk, List.append_assoc, List.set_append_right _ _ (by simp; omega)]
  have e1 : ((m ++ [z]).take k).length = k := by simp; omega
  rw [e1, Nat.sub_self, List.take_append_of_le_length hk]
  rfl
 ·subst e; rw [List.take_of_length_le (by simp), List.drop_of_length_le (by simp), List.append_nil]
set_option maxHeartbeats 32000000 in
set_option maxRecDepth 100000 in
theorem rwalk_at (G : Glob) (hM : HasMax G) (all : Bool) : ∀ (n : Nat) (e : Ex), SizeOf.sizeOf e ≤ n → ∀ l0 : List Tx, l0.length + bE e ≤ 2^39 → MC Tryz.prog G [501, 502, 504] 237 ([.d (dR e)] ++ [.ref 501 0 0, .ref 502 0 0, .ref 504 0 0]) (hlst (wRow all l0)) (.d (.tup [])) (hlst (wRow all (insL l0 (nmsE all e)))) := by
 intro n
 induction n with
 | zero => intro e hsz; cases e <;> simp at hsz
 | succ n ih =>
  intro e hsz l0 hb
  have hch : ∀ x ∈ kidsR e, ∀ l1 : List Tx, l1.length + bE x ≤ 2^39 → MC Tryz.prog G [501, 502, 504] 237 ([.d (dR x)] ++ [.ref 501 0 0, .ref 502 0 0, .ref 504 0 0]) (hlst (wRow all l1)) (.d (.tup [])) (hlst (wRow all (insL l1 (nmsE all x)))) := fun x hx => ih x (by have := sz_kids hx; omega)
  clear ih
  have hkb := bE_kids e
  have hln := bEs_len (kidsR e)
  have hnl := nmsL_len all (kidsR e)
  have hkind := nmE_kind all e
  have hon : (one1 (nmE all e)).length ≤ 1 := by unfold one1; split <;> simp
  have hbd : (one1 (nmE all e)).length + bEs (kidsR e) ≤ bE e := by
   cases e <;> simp [kidsR, bE, bEs] <;> first | omega | (simp [one1, nmE] <;> omega) | skip
  have hcon := scontains_spec G hM (kAll all) (kdR e) (by cases all <;> simp [kAll])
  have hkl : (kAll all).length ≤ 5 := by cases all <;> simp [kAll]
  rw [nmsE_kids, insL_app, dR_form, ofR_form]; generalize kidsR e = l at hch hkb hln hnl hbd ⊢; generalize kdR e = kd at hcon hkind ⊢; generalize nmR e = nm at hkind ⊢; generalize kR e = kk; generalize hone : one1 (nmE all e) = on at hkind hbd hon ⊢; generalize hout : insL l0 on = out1
  have hol := insL_len on l0
  rw [hout] at hol; clear hsz; refine MC.of_body (tyOf_good _) Tryz.func237 rfl rfl (rs := []) Tryz.results237 (by simp [Tryz.ntmps237]) rfl fun X => ?_; simp only [Tryz.ntmps237]
  have fw := (Aq @dNum.eq_1 (Aq @dS.eq_1 (Aq @wRow.eq_1 @wFn.eq_1)))
  refine AW_then fun K1 hK1 => ?_; refine (fun hgo => ?_) (fun (σ : St) himp => hK1 σ (AW.imp (τ := ⟨lst [(0, .d (.ip [dS kd, dS nm, .sl kk (l.map fun x => [dR x])])), (3, .ref 504 0 0)], hlst (wRow all out1)⟩) himp ?_))
  ·rcases hkind with ⟨h1, h2⟩ | ⟨h1, h2, h3⟩ | ⟨h1, h2, h3⟩
   ·subst h1 h2
    have hq : l0 = out1 := by rw [← hout]; rfl
    subst hq
    have qf := (Aq fw (Aq @binS_ne @bs_nil))
    refine rdqv [0,2,3,20] [501,502,503,504] ?_; refine AW_ff rfl ?_; refine AW_skip (hgo _ ?_); refine Imp.to' (notIn_ok rfl) (by simp [dNum, dS, wRow, wFn]) (by simp [dNum, dS, wRow, wFn])
   ·subst h3
    have hq : l0 = out1 := by rw [← hout]; rfl
    subst hq; rw [h2] at hcon
    have hnb : binS .neq (bs nm) ⟨#[]⟩ = some (True, .bool true) := by
     have := binS_ne nm []
     rw [decide_eq_false h1] at this; exact this
    have qf := (Aq fw @hnb)
    refine rdcv hcon [0,2,3,20] [501,502,503,504] ?_; refine AW_ff rfl ?_; refine AW_skip (hgo _ ?_); refine Imp.to' (notIn_ok rfl) (by simp [dNum, dS, wRow, wFn]) (by simp [dNum, dS, wRow, wFn])
   ·subst h3; rw [h2] at hcon
    have hnb : binS .neq (bs nm) ⟨#[]⟩ = some (True, .bool true) := by
     have := binS_ne nm []
     rw [decide_eq_false h1] at this; exact this
    have qf := (Aq fw @hnb)
    refine rdcv hcon [0,2,3,20] [501,502,503,504] ?_; refine AW_tt rfl ?_; refine rgq fw [0,2,3,5] [501,502,503,504] ?_; refine AW_then fun K2 hK2 => ?_; refine (fun hgo2 => ?_) (fun (k : Nat) (hk : k ≤ l0.length) (hp : ∀ i (hi : i < l0.length), i < k → l0[i]'hi < nm) (hx : ∀ hk : k < l0.length, ¬ l0[k]'hk < nm) (σ : St) himp => hK2 σ (AW.imp (τ := ⟨lst [(0, .d (.ip [dS kd, dS nm, .sl kk (l.map fun x => [dR x])])), (2, .ref 502 0 0), (3, .ref 504 0 0), (5, int k)], hlst (wRow all l0)⟩) himp ?_))
    ·refine AW_for (S := Nat) (fun k => k ≤ l0.length ∧ ∀ i (hi : i < l0.length), i < k → l0[i] < nm) (fun k => ⟨lst [(0, .d (.ip [dS kd, dS nm, .sl kk (l.map fun x => [dR x])])), (2, .ref 502 0 0), (3, .ref 504 0 0), (5, int k)], hlst (wRow all l0)⟩) (fun k => l0.length - k) 0 ?_ (by simp) ?_
     ·refine Imp.to' (notIn_ok rfl) (by simp [dNum, dS, wRow, wFn]) (by simp [dNum, dS, wRow, wFn])
     ·rintro k ⟨hk, hp⟩
      refine AW_then fun K3 hK3 => ?_
      by_cases hkl : k < l0.length
      ·cases hlt : decide (l0[k] < nm) with
       | true =>
        have hb2 : binS .lss (bs l0[k]) (bs nm) = some (True, .bool true) := by rw [binS_lt, hlt]
        have qf := (Aq fw (Aq @hkl @hb2))
        refine rdqv [0,2,3,5,35] [501,502,503,504] ?_; refine AW_tt rfl ?_; refine AW_skip (hK3 _ ?_); refine AW_block ?_; refine AW_re (tyOf_good _) fun K' hK' => ?_; (repeat (refine sxn fun K2 hK2 => ?_; simp [dNum, dS, wRow, wFn]; (repeat (refine ⟨by omega, ?_⟩)); refine hK2 _ ?_; clear hK2 K2)); refine sxz (hK' _ ?_); clear hK' K'; (try simp only [thn, inb]); refine Again.mk (k + 1) ⟨by omega, fun i hi hik => ?_⟩ (by omega) ?_
        ·by_cases he : i = k
         ·subst he; exact of_decide_eq_true hlt
         ·exact hp i hi (by omega)
        refine Imp.to' (notIn_ok rfl) (by simp [dNum, dS, wRow, wFn]) (by simp [dNum, dS, wRow, wFn])
       | false =>
        have hb2 : binS .lss (bs l0[k]) (bs nm) = some (True, .bool false) := by rw [binS_lt, hlt]
        have qf := (Aq fw (Aq @hkl @hb2))
        refine rdqv [0,2,3,5,35] [501,502,503,504] ?_; refine AW_ff rfl ?_; refine AW_exit (hgo2 k hk hp (fun _ => of_decide_eq_false hlt) _ ?_); refine Imp.to' (notIn_ok rfl) (by simp [dNum, dS, wRow, wFn]) (by simp [dNum, dS, wRow, wFn])
      ·have qf := (Aq fw @hkl)
       refine rdqv [0,2,3,5,35] [501,502,503,504] ?_; refine AW_ff rfl ?_; refine AW_exit (hgo2 k hk hp (fun h => absurd h hkl) _ ?_); refine Imp.to' (notIn_ok rfl) (by simp [dNum, dS, wRow, wFn]) (by simp [dNum, dS, wRow, wFn])
    ·have hins := insT_at nm l0 k hk hp hx
     have ho2 : out1 = insT nm l0 := hout.symm
     rw [hins] at ho2
     by_cases hkl : k < l0.length
     ·by_cases he : l0[k] = nm
      ·have hb3 : binS .neq (bs l0[k]) (bs nm) = some (True, .bool false) := by rw [binS_ne, he, decide_eq_true rfl]; rfl
       rw [if_pos ⟨hkl, he⟩] at ho2
       have hne : ¬ k = l0.length := by omega
       have qf := (Aq fw (Aq @hkl (Aq @hb3 @hne)))
       refine rdqv [0,2,3,5,52] [501,502,503,504] ?_; refine AW_ff rfl ?_; refine AW_skip (hgo _ ?_); refine Imp.to' (notIn_ok rfl) (by simp [dNum, dS, wRow, wFn, ho2]) (by simp [dNum, dS, wRow, wFn, ho2])
      ·have hb3 : binS .neq (bs l0[k]) (bs nm) = some (True, .bool true) := by rw [binS_ne, decide_eq_false he]; rfl
       rw [if_neg (fun ⟨_, h⟩ => he h)] at ho2
       have hne : ¬ k = l0.length := by omega
       have qf := (Aq fw (Aq @hkl (Aq @hb3 @hne)))
       refine rdqv [0,2,3,5,52] [501,502,503,504] ?_; refine AW_tt rfl ?_; refine rg [0, 2, 3, 5] [501, 502, 503, 504] (notIn_ok rfl) fun K' hK' => ?_; (repeat (refine sxn fun K2 hK2 => ?_; simp [dNum, dS, wRow, wFn, List.take_of_length_le]; (repeat (refine ⟨by omega, ?_⟩)); refine hK2 _ ?_; clear hK2 K2)); refine sxz (hK' _ (AW.st (by simp [dNum, dS, wRow, wFn, List.take_of_length_le]; rfl) ?_)); clear hK' K'
       have hk1 : k + 1 ≤ l0.length + 1 := by omega
       have hi2 : ¬ (k : Int) = (l0.length : Int) + 1 := by omega
       have hi3 : ((l0.length : Int) + 1 - ((k : Int) + 1)).toNat = l0.length + 1 - (k + 1) := by omega
       have hle : k + (l0.length + 1 - k) ≤ l0.length + 1 := by omega
       have hle2 : k + 1 + (l0.length - k) ≤ l0.length + 1 := by omega
       obtain ⟨news, els2, w0, q1, q2, q3, q4, q5, q6, q7, _⟩ := put_in (l0.map fun s => [dS s]) [dS []] [dS nm] k (by simpa using hk) (by intro el hel; obtain ⟨s, _, rfl⟩ := List.mem_map.1 hel; simp [dS, D.one]) (by simp [dS, D.one])
       have q8 : List.take k (l0.map fun s => [dS s]) ++ [dS nm] :: List.drop k (l0.map fun s => [dS s]) = out1.map fun s => [dS s] := by rw [ho2]; simp
       rw [q8] at q7
       have q9 : out1.length = l0.length + 1 := by rw [ho2]; simp; omega
       rw [List.length_map] at q1 q4 q5; rw [Nat.add_sub_add_right] at q4; simp only [dS] at q1 q4 q7; rw [← bs_nil] at q1 q4
       have q10 : (els2[k]'(by omega)).tail = [] := by
        have := q6
        rw [List.getElem?_eq_getElem (by omega)] at this; rw [Option.some.inj this]
        rfl
       have q23 := eq_true (And.intro q2 q3)
       have q2t := eq_true q2
       have q3t := eq_true q3
       have hkl1 : k < l0.length + 1 := by omega
       have qf := (Aq fw (Aq @hk1 (Aq @hk (Aq @hne (Aq @hi2 (Aq @hi3 (Aq @hle (Aq @hle2 (Aq @q1 (Aq @q23 (Aq @q2t (Aq @q3t @q4))))))))))))
       refine rdqv [0,2,3,5] [501,502,503,504] ?_; refine AW_rde (tyOf_good _) (by kernel_rfl) (by kernel_rfl) fun K' hK' => ?_; (repeat (refine sxd_next fun K2 hK2 => ?_; simp [dNum, dS, wRow, wFn, q5, q6, q7, q10, hkl1]; (repeat (refine ⟨by omega, ?_⟩)); refine hK2 _ ?_; clear hK2 K2)); refine sxd_nil (hK' _ ?_); clear hK' K'; (try simp only [thn, inb]); refine hgo _ ?_; refine Imp.to' (notIn_ok rfl) (by simp [dNum, dS, wRow, wFn, q9, q7, q10]) (by simp [dNum, dS, wRow, wFn, q9, q7, q10])
     ·obtain rfl : k = l0.length := by omega
      rw [if_neg (fun ⟨h, _⟩ => hkl h), List.take_length, List.drop_length] at ho2
      have qf := (Aq fw @hkl)
      refine rdqv [0,2,3,5,52] [501,502,503,504] ?_; refine AW_tt rfl ?_; refine rg [0, 2, 3, 5] [501, 502, 503, 504] (notIn_ok rfl) fun K' hK' => ?_; (repeat (refine sxn fun K2 hK2 => ?_; simp [dNum, dS, wRow, wFn, List.take_of_length_le]; (repeat (refine ⟨by omega, ?_⟩)); refine hK2 _ ?_; clear hK2 K2)); refine sxz (hK' _ (AW.st (by simp [dNum, dS, wRow, wFn, List.take_of_length_le]; rfl) ?_)); clear hK' K'
      have hi2 : ¬ (l0.length : Int) = (l0.length : Int) + 1 := by omega
      have hi3 : ¬ (l0.length : Int) + 1 = 0 := by omega
      have q8 : (l0.map fun s => [dS s]) ++ [[dS nm]] = out1.map fun s => [dS s] := by rw [ho2]; simp
      have q9 : out1.length = l0.length + 1 := by rw [ho2]; simp
      simp only [dS] at q8
      have qf := (Aq fw (Aq @hi2 (Aq @hi3 (Aq @D.one.eq_1 (Aq @D.one.eq_2 (Aq @D.one.eq_3 @D.one.eq_4))))))
      refine rdqv [0,2,3,5] [501,502,503,504] ?_; refine AW_rde (tyOf_good _) (by kernel_rfl) (by kernel_rfl) fun K' hK' => ?_; (repeat (refine sxd_next fun K2 hK2 => ?_; simp [dNum, dS, wRow, wFn]; (repeat (refine ⟨by omega, ?_⟩)); refine hK2 _ ?_; clear hK2 K2)); refine sxd_nil (hK' _ ?_); clear hK' K'; (try simp only [thn, inb]); refine hgo _ ?_; refine Imp.to' (notIn_ok rfl) (by simp [dNum, dS, wRow, wFn, q9, q8]) (by simp [dNum, dS, wRow, wFn, q9, q8])
  ·simp only [List.singleton_append] at hch; refine rgq fw [3,74,75,76] [501,502,503,504] ?_; refine AW_for (S := Nat) (fun i => i ≤ l.length) (fun i => ⟨lst [(3, .ref 504 0 0), (74, .d (.sl kk (l.map fun x => [dR x]))), (75, int l.length), (76, int i)], hlst (wRow all (insL out1 (nmsL all (l.take i))))⟩) (fun i => l.length - i) 0 ?_ (by omega) ?_
   ·refine Imp.to' (notIn_ok rfl) (by simp [dNum, dS, wRow, wFn, nmsL, insL_nil]) (by simp [dNum, dS, wRow, wFn, nmsL, insL_nil])
   ·intro i hi
    refine rgq fw [3,74,75,76,77] [501,502,503,504] ?_; refine AW_then fun K4 hK4 => ?_; refine AW_cond' (b := i < l.length) (by simp [D.le, D.le.go, takeMap, dNum, dS, wRow, wFn]) (fun hc => ?_) (fun hc => ?_)
    ·have hil : i < l.length := hc
     have h1 := nmsL_take all hil
     have h2 := nmsL_len all (l.take i)
     have h3 := bEs_take hil
     have h4 := insL_len (nmsL all (l.take i)) out1
     have hcc := hch _ (List.getElem_mem hil) (insL out1 (nmsL all (l.take i))) (by omega)
     rw [← insL_app, ← h1] at hcc
     have hf := dR_form l[i]
     rw [hf] at hcc; refine AW_skip (hK4 _ ?_); refine AW_then fun K5 hK5 => ?_; refine AW_block ?_
     have qf := (Aq fw (Aq @hil @hf))
     refine rgqv [3,7,74,75,76] [501,502,503,504] ?_; refine AW_re (tyOf_good _) fun K' hK' => ?_; (repeat (refine sxn fun K2 hK2 => ?_; simp [dNum, dS, wRow, wFn]; (repeat (refine ⟨by omega, ?_⟩)); refine hK2 _ ?_; clear hK2 K2)); refine sxn fun K2 hK2 => ?_; simp [dNum, dS, wRow, wFn]; refine callK.mc (hcc) ?_ ?_ ?_ ?_ ?_ <;> simp [dNum, dS, wRow, wFn]; refine hK2 _ ?_; clear hK2 K2; (repeat (refine sxn fun K2 hK2 => ?_; simp [dNum, dS, wRow, wFn]; (repeat (refine ⟨by omega, ?_⟩)); refine hK2 _ ?_; clear hK2 K2)); refine sxz (hK' _ ?_); clear hK' K'; refine hK5 _ (AW.norm [3, 74, 75, 76] [501, 502, 503, 504] (notIn_ok rfl) (AW.st (by simp [dNum, dS, wRow, wFn]; rfl) ?_)); refine AW_re (tyOf_good _) fun K' hK' => ?_; (repeat (refine sxn fun K2 hK2 => ?_; simp [dNum, dS, wRow, wFn]; (repeat (refine ⟨by omega, ?_⟩)); refine hK2 _ ?_; clear hK2 K2)); refine sxz (hK' _ ?_); clear hK' K'; (try simp only [thn, inb]); refine Again.mk (i + 1) (by omega) (by omega) ?_; refine Imp.to' (notIn_ok rfl) (by simp [dNum, dS, wRow, wFn]) (by simp [dNum, dS, wRow, wFn])
    ·obtain rfl : i = l.length := by omega
     refine AW_exit ?_; simp [D.le_refl, List.take_length, wRow, wFn, dS]
end Go.Proofs.YthnjfeielmbfkaaGreatDoor
namespace Go.Proofs.YthnjfeielmbfkaaGreatDoor
open Go.Av
theorem renH_hlst {r r' : Nat} (hr : r ≠ r') (l : List (Nat × Row)) (hl : ∀ p ∈ l, p.1 ≠ r') : renH r r' (hlst l) = hlst (l.map fun p => (if p.1 = r then r' else p.1, p.2.tr (renO r r') (renF r r'))) := by
 funext q
 unfold renH
 induction l with
 | nil => simp [hlst, List.lookup]
 | cons p l ih =>
  have ih := ih fun p hp => hl p (by simp [hp])
  have hp := hl p (by simp)
  obtain ⟨k, row⟩ := p
  simp only [hlst, List.lookup, List.map_cons] at ih ⊢
  by_cases h1 : q = r'
  ·subst h1; simp only [if_true] at ih ⊢
   by_cases h2 : k = r
   ·subst h2; simp
   ·have a1 : (r == k) = false := by simpa using fun e => h2 e.symm
    have a2 : (q == k) = false := by simpa using fun e => hp e.symm
    simp only [h2, if_false, a1, a2]; exact ih
  ·simp only [h1, if_false] at ih ⊢
   by_cases h2 : q = r
   ·subst h2; simp only [if_true] at ih ⊢
    by_cases h3 : k = q
    ·have a1 : (q == r') = false := by simpa using h1
     simp only [h3, if_true, a1]; exact ih
    ·have a1 : (q == k) = false := by simpa using fun e => h3 e.symm
     simp only [h3, if_false, a1]; exact ih
   ·simp only [h2, if_false] at ih ⊢
    by_cases h3 : k = r
    ·have a1 : (q == k) = false := by rw [h3]; simpa using h2
     have a2 : (q == r') = false := by simpa using h1
     simp only [h3, if_true, a2] at a1 ⊢; rw [a1]; exact ih
    ·simp only [h3, if_false]
     by_cases h4 : q = k
     ·subst h4; simp
     ·have a1 : (q == k) = false := by simpa using h4
      simp only [a1]; exact ih
end Go.Proofs.YthnjfeielmbfkaaGreatDoor
namespace Go.Proofs.YthnjfeielmbfkaaGreatDoor
open Go.Av
set_option maxHeartbeats 8000000 in
theorem named_spec (G : Glob) (hM : HasMax G) (all : Bool) (e : Ex) (hb : bE e ≤ 2^28) : PureC Tryz.prog G 187 [dR e, dS (kAll all)] (.sl none ((namesE all e).map fun s => [dS s])) := by
 have hw := rwalk_at G hM all _ e (Nat.le_refl _) [] (by simp; omega)
 have hnm := insL_names all e
 rw [hnm] at hw; simp only [List.singleton_append] at hw; generalize namesE all e = l at hw ⊢; clear hnm; rw [dR_form] at hw ⊢; refine PureC.of_body (tyOf_good _) Tryz.func187 rfl rfl (rs := [.tmp 4]) Tryz.results187 (by simp [Tryz.ntmps187]) fun X => ?_; simp only [Tryz.ntmps187, List.map]
 have fw := (Aq @dNum.eq_1 (Aq @dS.eq_1 (Aq @wRow.eq_1 @wFn.eq_1)))
 refine rgq fw [0,3] [3] ?_; refine rgq fw [0,3,5] [3,5] ?_; refine rgq fw [0,3,5,6] [3,5,6] ?_; refine rgq fw [0,5,6] [3,5,6] ?_; refine AW.imp (Imp.ren (r := 3) (r' := 501) trivial (by simp)) ?_; refine AW.st (by simp [renO, renF, Go.Av.ren, renH_hlst]; rfl) ?_; refine AW.imp (Imp.ren (r := 5) (r' := 502) trivial (by simp)) ?_; refine AW.st (by simp [renO, renF, Go.Av.ren, renH_hlst]; rfl) ?_; refine AW.imp (Imp.ren (r := 6) (r' := 504) trivial (by simp)) ?_; refine AW.st (by simp [renO, renF, Go.Av.ren, renH_hlst]; rfl) ?_; refine AW.imp (Imp.adoptCell 502 0 503 9 1 rfl rfl rfl) ?_; refine AW.imp (τ := ⟨lst [(0, .d (.ip [dS (kdR e), dS (nmR e), ofR e])), (5, .ref 502 0 0), (6, .ref 504 0 0)], hlst (wRow all [])⟩) ?_ ?_
 ·refine Imp.to' (fun _ _ => trivial) (by simp [dNum, dS, wRow, wFn, wRow, wFn]) (by simp [dNum, dS, wRow, wFn, wRow, wFn])
 refine rgm fw hw [5] [502,503] ?_; refine rgq (Aq fw (Aq @wRow.eq_1 @wFn.eq_1)) [4] [502,503] ?_
 have htk : List.take l.length (l.map fun s => [dS s]) = l.map fun s => [dS s] := List.take_of_length_le (by simp)
 simp only [dS] at htk; refine AW.imp (Imp.freeze 503 trivial) ?_; refine AW.st (by simp [dNum, dS, wRow, wFn, htk]; rfl) ?_; refine AW_ret ?_; simp [D.le, D.le.go, takeMap, dNum, dS, wRow, wFn, D.le_refl, D.leGo_refl, htk]
theorem rnames_spec (G : Glob) (hM : HasMax G) (e : Ex) (hb : bE e ≤ 2^28) : PureC Tryz.prog G 139 [dR e] (.sl none ((namesE true e).map fun s => [dS s])) := by
 have hs := named_spec G hM true e hb
 rw [dR_form] at hs ⊢; generalize namesE true e = l at hs ⊢
 have hk : dS (kAll true) = .v (.string ⟨#[98, 105, 116, 94, 126]⟩) := rfl
 rw [hk] at hs; refine PureC.of_body (tyOf_good _) Tryz.func139 rfl rfl (rs := [.tmp 2]) Tryz.results139 (by simp [Tryz.ntmps139]) fun X => ?_; simp only [Tryz.ntmps139, List.map]
 have fw := (Aq @dNum.eq_1 (Aq @dS.eq_1 (Aq @wRow.eq_1 @wFn.eq_1)))
 refine rgq fw [0] [] ?_; refine rgc fw hs [2] [] ?_; refine AW_ret ?_; simp [D.le, D.le.go, takeMap, dNum, dS, wRow, wFn, D.le_refl, D.leGo_refl]
end Go.Proofs.YthnjfeielmbfkaaGreatDoor
namespace Go.Proofs.YthnjfeielmbfkaaGreatDoor
open Go.Av
theorem badW_form (p : PgP) (i : Nat) (hi : i < p.names.length) : badN p i p.names[i] = if !checkNF p.names[i].name then 5 else if !(decide (1 ≤ p.names[i].kind) && decide (p.names[i].kind ≤ 4)) then 1 else if (decide (p.names[i].kind ≥ 3) && !(decide (1 ≤ p.names[i].count) && decide (p.names[i].count ≤ 7))) || (decide (p.names[i].kind < 3) && decide (p.names[i].count ≠ 0)) then 2 else if numP p p.names[i].name ≠ i then 9 else 0 := by
 rw [← badN_same p i hi, badN2, name_same]
theorem badGw_some (p : PgP) (k : Int) (s : Tx) (e : Ex) : badG p ⟨k, s, some e⟩ = if !(decide (1 ≤ k) && decide (k ≤ 6)) then 1 else if numP p s < 0 then 7 else if !decide (wantP k = (p.names.getD (numP p s).toNat ⟨[], 0, 0⟩).kind) then 1 else if (namesE true e).any fun s => decide (numP p s < 0) then 7 else 0 := by
 have h : (decide (k < 1) || decide (k > 6)) = !(decide (1 ≤ k) && decide (k ≤ 6)) := by
  by_cases h1 : 1 ≤ k <;> by_cases h2 : k ≤ 6 <;> simp [h1, h2] <;> omega
 show (if decide (k < 1) || decide (k > 6) then (1 : Int) else _) = _
 rw [h]; simp only [Bool.not_eq_true', decide_eq_false_iff_not, ne_eq]
set_option maxHeartbeats 16000000 in
theorem ldw_check (G : Glob) (hF : HasFine G) (hM : HasMax G) (p : PgP) (hp : SmallP p) : PureC Tryz.prog G 89 [dPw p] (dFault (checkP p)) := by
 unfold HasFine at hF
 obtain ⟨hnl, hrl, hnn, hcb⟩ := hp
 have hr2 : checkP p = if p.names.length > 12 ∨ p.rungs.length > 40 then some (4, none) else match firstBad (badN p) p.names 0 with
  | some (e, i) => some (e, some i)
  | none => match firstBad (fun _ r => badG p r) p.rungs 0 with
   | some (e, i) => some (e, some (p.names.length + i))
   | none => none := rfl
 generalize hres : checkP p = res; rw [hr2] at hres
 have hnum := fun s => wnum_spec G p hnl s
 have hb4 := bare0_spec G 4
 simp only [dPw, cPw, dNms, dS] at hnum ⊢; simp only [dNum] at hF hb4; refine PureC.of_body (tyOf_good _) Tryz.func89 rfl rfl (rs := [.cell 2 64]) Tryz.results89 (by simp [Tryz.ntmps89]) fun X => ?_; simp only [Tryz.ntmps89, List.map]; refine rg0 [1,2] [1,2] ?_; refine AW.imp (Imp.freezeB 1 trivial) ?_; refine AW.st (by simp; rfl) ?_; refine AW_then fun K1 hK1 => ?_
 by_cases g0 : (p.names.length : Int) > 12
 ·rw [if_pos (.inl (by omega))] at hres
  have qf := @g0
  refine rgqv [1,2,20] [2] ?_; refine AW_tt rfl ?_; refine rgc trivial hb4 [2] [2] ?_; refine AW_ret ?_; simp [D.le, D.le.go, takeMap]; simp [← hres, dFault, codeF, placeF, dNum, D.le, D.le.go]
 by_cases g1 : (p.rungs.length : Int) > 40
 ·rw [if_pos (.inr (by omega))] at hres
  have qf := (Aq @g0 @g1)
  refine rgqv [1,2,20] [2] ?_; refine AW_tt rfl ?_; refine rgc trivial hb4 [2] [2] ?_; refine AW_ret ?_; simp [D.le, D.le.go, takeMap]; simp [← hres, dFault, codeF, placeF, dNum, D.le, D.le.go]
 rw [if_neg (by omega)] at hres
 have qf := (Aq @g0 @g1)
 refine rgqv [1,2,20] [2] ?_; refine AW_ff rfl ?_; refine AW_skip (hK1 _ ?_); refine AW_then fun K2 hK2 => ?_; refine rg0 [1,2,23,24,25] [2] ?_; refine AW_for (S := Nat) (fun n => n ≤ p.names.length ∧ ∀ k (hk : k < p.names.length), k < n → badN p k p.names[k] = 0) (fun n => ⟨lst [(1, .d (.ip [.sl none (p.names.map cNm), .sl none (p.rungs.map cRw')])), (2, .ref 2 0 0), (23, .d (.sl none (p.names.map cNm))), (24, int p.names.length), (25, int n)], hlst [(2, .box 64 [int 0, int 0])]⟩) (fun n => p.names.length - n) 0 ?_ (by simp) ?_
 ·refine Imp.to' (fun _ _ => trivial) (by simp) (by simp)
 ·rintro n ⟨hn, hb⟩
  refine rg0 [1,2,23,24,25,26] [2] ?_; refine AW_then fun K3 hK3 => ?_; refine AW_cond' (b := n < p.names.length) (by simp [D.le, D.le.go, takeMap]) (fun hc => ?_) (fun hc => ?_)
  ·have hlt := hc
   have hgo : badN p n p.names[n] ≠ 0 → res = some (badN p n p.names[n], some n) := fun hne => by
    rw [← hres, firstBad_at (i := 0) hlt (fun k hk hkn => by rw [Nat.zero_add]; exact hb k hk hkn) (by rw [Nat.zero_add]; exact hne)]; simp
   have hnm := hnn _ (List.getElem_mem hlt)
   have hcells : cNm p.names[n] = [dS p.names[n].name, .v (.int .i64 p.names[n].kind), .v (.int .i64 p.names[n].count)] := rfl
   have hbad := badW_form p n hlt
   have hname := ncheck_spec G p.names[n].name hnm
   generalize hv : badN p n p.names[n] = v at hbad hgo; generalize p.names[n].name = nm at hnm hcells hbad hname; generalize p.names[n].kind = kd at hcells hbad; generalize p.names[n].count = ct at hcells hbad
   have hnu := hnum nm
   have hw1 := within_spec G kd 1 4
   have hw2 := within_spec G ct 1 7
   simp only [dS] at hcells hname; simp only [dNum] at hw1 hw2; generalize checkNF nm = nf at hname hbad; generalize hq1 : (decide (1 ≤ kd) && decide (kd ≤ 4)) = q1 at hw1 hbad; generalize hq2 : (decide (1 ≤ ct) && decide (ct ≤ 7)) = q2 at hw2 hbad; refine AW_skip (hK3 _ ?_); refine AW_then fun K4 hK4 => ?_; refine AW_block ?_
   have qf := (Aq @hlt @hcells)
   refine rgqv [1,2,3,4,23,24,25] [2,4] ?_; refine AW.imp (Imp.freezeB 4 trivial) ?_; refine AW.st (by simp; rfl) ?_; refine AW_then fun K5 hK5 => ?_; refine rgc trivial hname [1,2,3,4,23,24,25,33] [2] ?_
   cases nf with
   | false =>
    rw [if_pos (by simp)] at hbad
    have hr := hgo (by rw [hbad]; decide)
    rw [hbad] at hr; refine AW_tt rfl ?_; refine rg0 [2] [2] ?_; refine AW_ret ?_; simp [D.le, D.le.go, takeMap, hr, dFault, codeF, placeF, dNum]
   | true =>
    rw [if_neg (by decide)] at hbad; refine AW_ff rfl ?_; refine AW_skip (hK5 _ ?_); refine AW_then fun K6 hK6 => ?_; refine rgc trivial hw1 [1,2,3,4,23,24,25,39] [2] ?_
    cases q1 with
    | false =>
     rw [if_pos (by simp)] at hbad
     have hr := hgo (by rw [hbad]; decide)
     rw [hbad] at hr; refine AW_tt rfl ?_; refine rg0 [2] [2] ?_; refine AW_ret ?_; simp [D.le, D.le.go, takeMap, hr, dFault, codeF, placeF, dNum]
    | true =>
     rw [if_neg (by decide)] at hbad; refine AW_ff rfl ?_; refine AW_skip (hK6 _ ?_); refine AW_then fun K7 hK7 => ?_
     by_cases k3 : kd ≥ 3
     ·have k3' : ¬ kd < 3 := by omega
      cases q2 with
      | false =>
       have qf := (Aq @k3 @k3')
       refine rgcv hw2 [1,2,3,4,23,24,25,60] [2] ?_; rw [if_pos (by simp [k3])] at hbad
       have hr := hgo (by rw [hbad]; decide)
       rw [hbad] at hr; refine AW_tt rfl ?_; refine rg0 [2] [2] ?_; refine AW_ret ?_; simp [D.le, D.le.go, takeMap, hr, dFault, codeF, placeF, dNum]
      | true =>
       rw [if_neg (by simp [k3'])] at hbad
       have qf := (Aq @k3 @k3')
       refine rgcv hw2 [1,2,3,4,23,24,25,60] [2] ?_; refine AW_ff rfl ?_; refine AW_skip (hK7 _ ?_); refine rgc trivial hnu [1,2,3,23,24,25,68] [2] ?_
       by_cases c9 : numP p nm = n
       ·rw [if_neg (by simp [c9])] at hbad; refine AW_cond false (by simp [c9]) (fun h => by cases h) (fun _ => ?_); refine AW_skip (hK4 _ ?_); refine AW_re (tyOf_good _) fun K' hK' => ?_; (repeat (refine sxn fun K2 hK2 => ?_; simp; (repeat (refine ⟨by omega, ?_⟩)); refine hK2 _ ?_; clear hK2 K2)); refine sxz (hK' _ ?_); clear hK' K'; (try simp only [thn, inb]); refine Again.mk (n + 1) ⟨by omega, fun k hk hkn => ?_⟩ (by omega) ?_
        ·by_cases h : k = n
         ·subst h; rw [hv, hbad]
         ·exact hb k hk (by omega)
        refine Imp.to' (fun _ _ => trivial) (by simp) (by simp)
       ·rw [if_pos c9] at hbad
        have hr := hgo (by rw [hbad]; decide)
        rw [hbad] at hr; refine AW_cond true (by simp [c9]) (fun _ => ?_) (fun h => by cases h); refine rg0 [2] [2] ?_; refine AW_ret ?_; simp [D.le, D.le.go, takeMap, hr, dFault, codeF, placeF, dNum]
     ·have k3' : kd < 3 := by omega
      by_cases c0 : ct = 0
      ·rw [if_neg (by simp [k3, c0])] at hbad
       have qf := (Aq @k3 (Aq @k3' @c0))
       refine rgqv [1,2,3,4,23,24,25,60] [2] ?_; refine AW_ff rfl ?_; refine AW_skip (hK7 _ ?_); refine rgc trivial hnu [1,2,3,23,24,25,68] [2] ?_
       by_cases c9 : numP p nm = n
       ·rw [if_neg (by simp [c9])] at hbad; refine AW_cond false (by simp [c9]) (fun h => by cases h) (fun _ => ?_); refine AW_skip (hK4 _ ?_); refine AW_re (tyOf_good _) fun K' hK' => ?_; (repeat (refine sxn fun K2 hK2 => ?_; simp; (repeat (refine ⟨by omega, ?_⟩)); refine hK2 _ ?_; clear hK2 K2)); refine sxz (hK' _ ?_); clear hK' K'; (try simp only [thn, inb]); refine Again.mk (n + 1) ⟨by omega, fun k hk hkn => ?_⟩ (by omega) ?_
        ·by_cases h : k = n
         ·subst h; rw [hv, hbad]
         ·exact hb k hk (by omega)
        refine Imp.to' (fun _ _ => trivial) (by simp) (by simp)
       ·rw [if_pos c9] at hbad
        have hr := hgo (by rw [hbad]; decide)
        rw [hbad] at hr; refine AW_cond true (by simp [c9]) (fun _ => ?_) (fun h => by cases h); refine rg0 [2] [2] ?_; refine AW_ret ?_; simp [D.le, D.le.go, takeMap, hr, dFault, codeF, placeF, dNum]
      ·have qf := (Aq @k3 (Aq @k3' @c0))
       refine rgqv [1,2,3,4,23,24,25,60] [2] ?_; rw [if_pos (by simp [k3', c0])] at hbad
       have hr := hgo (by rw [hbad]; decide)
       rw [hbad] at hr; refine AW_tt rfl ?_; refine rg0 [2] [2] ?_; refine AW_ret ?_; simp [D.le, D.le.go, takeMap, hr, dFault, codeF, placeF, dNum]
  ·rw [firstBad_ok fun k hk => by rw [Nat.zero_add]; exact hb k hk (by omega)] at hres
   dsimp only at hres
   refine AW_exit (hK2 _ ?_); refine AW_then fun K8 hK8 => ?_; refine rg0 [1,2,73,74,75] [2] ?_; refine AW_for (S := Nat) (fun n => n ≤ p.rungs.length ∧ ∀ k (hk : k < p.rungs.length), k < n → badG p p.rungs[k] = 0) (fun n => ⟨lst [(1, .d (.ip [.sl none (p.names.map cNm), .sl none (p.rungs.map cRw')])), (2, .ref 2 0 0), (73, .d (.sl none (p.rungs.map cRw'))), (74, int p.rungs.length), (75, int n)], hlst [(2, .box 64 [int 0, int 0])]⟩) (fun n => p.rungs.length - n) 0 ?_ (by simp) ?_
   ·refine Imp.to' (fun _ _ => trivial) (by simp) (by simp)
   ·rintro n ⟨hn, hb⟩
    refine rg0 [1,2,73,74,75,76] [2] ?_; refine AW_then fun K9 hK9 => ?_; refine AW_cond' (b := n < p.rungs.length) (by simp [D.le, D.le.go, takeMap]) (fun hc => ?_) (fun hc => ?_)
    ·have hlt := hc
     have hgo : badG p p.rungs[n] ≠ 0 → res = some (badG p p.rungs[n], some (p.names.length + n)) := fun hne => by
      rw [← hres, firstBad_at (i := 0) hlt (fun k hk hkn => hb k hk hkn) hne]; simp
     have hcb2 := hcb p.rungs[n] (List.getElem_mem hlt)
     obtain ⟨⟨kd, nm, cd⟩, hrn⟩ : ∃ r, p.rungs[n] = r := ⟨_, rfl⟩
     have hzero : badG p ⟨kd, nm, cd⟩ = 0 → ∀ k (hk : k < p.rungs.length), k < n + 1 → badG p p.rungs[k] = 0 := fun h0 k hk hkn => by
      by_cases h : k = n
      ·subst h; rw [hrn]; exact h0
      ·exact hb k hk (by omega)
     rw [hrn] at hgo hcb2
     have hcells : cRw' p.rungs[n] = [.v (.int .i64 kd), dS nm, dOR cd] := by rw [hrn]; rfl
     dsimp only at hcb2
     obtain ⟨v, hv⟩ : ∃ v, badG p ⟨kd, nm, cd⟩ = v := ⟨_, rfl⟩
     rw [hv] at hgo hzero
     have hbad := hv.symm
     have hw1 := within_spec G kd 1 6
     have hnu := hnum nm
     simp only [dS] at hcells; simp only [dNum] at hw1; refine AW_skip (hK9 _ ?_); refine AW_then fun K10 hK10 => ?_; refine AW_block ?_
     have hpl : (p.names.length : Int) + n < 2^63 := by omega
     cases cd with
     | none =>
      have hb1 : v = 1 := hbad
      have hr := hgo (by rw [hb1]; decide)
      rw [hb1] at hr; simp only [dOR] at hcells; generalize hq1 : (decide (1 ≤ kd) && decide (kd ≤ 6)) = q1 at hw1
      have qf := (Aq @hlt @hcells)
      refine rgqv [1,2,5,6,73,74,75] [2,6] ?_; refine AW.imp (Imp.freezeB 6 trivial) ?_; refine AW.st (by simp; rfl) ?_; refine rg0 [1,2,6,7,73,74,75] [2] ?_; refine AW_then fun K11 hK11 => ?_
      cases q1 with
      | false =>
       refine rgc trivial hw1 [1,2,6,7,73,74,75,93] [2] ?_; refine AW_tt rfl ?_; refine rg0 [2] [2] ?_; refine AW_ret ?_; simp [D.le, D.le.go, takeMap, hr, dFault, codeF, placeF, dNum]
      | true =>
       refine rgc trivial hw1 [1,2,6,7,73,74,75,93] [2] ?_; refine AW_tt rfl ?_; refine rg0 [2] [2] ?_; refine AW_ret ?_; simp [D.le, D.le.go, takeMap, hr, dFault, codeF, placeF, dNum]
     | some e =>
      obtain ⟨hbe, hnel⟩ := hcb2 e rfl
      rw [badGw_some] at hbad
      have hns := rnames_spec G hM e hbe
      simp only [dOR] at hcells
      obtain ⟨ec, hec⟩ : ∃ c, dR e = .ip c := ⟨_, dR_form e⟩
      rw [hec] at hcells hns; generalize namesE true e = ne at hns hnel hbad; simp only [dS] at hns; generalize hq1 : (decide (1 ≤ kd) && decide (kd ≤ 6)) = q1 at hw1 hbad
      have qf := (Aq @hlt @hcells)
      refine rgqv [1,2,5,6,73,74,75] [2,6] ?_; refine AW.imp (Imp.freezeB 6 trivial) ?_; refine AW.st (by simp; rfl) ?_; refine rg0 [1,2,6,7,73,74,75] [2] ?_; refine AW_then fun K11 hK11 => ?_
      cases q1 with
      | false =>
       refine rgc trivial hw1 [1,2,6,7,73,74,75,93] [2] ?_; rw [if_pos (by simp)] at hbad
       have hr := hgo (by rw [hbad]; decide)
       rw [hbad] at hr; refine AW_tt rfl ?_; refine rg0 [2] [2] ?_; refine AW_ret ?_; simp [D.le, D.le.go, takeMap, hr, dFault, codeF, placeF, dNum]
      | true =>
       rw [if_neg (by decide)] at hbad
       have hkd : 1 ≤ kd ∧ kd ≤ 6 := by simpa using hq1
       refine rgc trivial hw1 [1,2,6,7,73,74,75,93] [2] ?_; refine AW_ff rfl ?_; refine AW_skip (hK11 _ ?_); refine rgc trivial hnu [1,2,6,7,8,73,74,75] [2] ?_; refine AW_then fun K12 hK12 => ?_; refine rg0 [1,2,6,7,8,73,74,75,101] [2] ?_
       by_cases c7 : numP p nm < 0
       ·rw [if_pos c7] at hbad
        have hr := hgo (by rw [hbad]; decide)
        rw [hbad] at hr; refine AW_cond true (by simp [c7]) (fun _ => ?_) (fun h => by cases h); refine rg0 [2] [2] ?_; refine AW_ret ?_; simp [D.le, D.le.go, takeMap, hr, dFault, codeF, placeF, dNum]
       rw [if_neg c7] at hbad
       obtain ⟨k, hk, hke⟩ := numP_pos c7
       have hgd : p.names.getD (numP p nm).toNat ⟨[], 0, 0⟩ = p.names[k] := by
        rw [hke, Int.toNat_natCast, List.getD_eq_getElem?_getD, List.getElem?_eq_getElem hk]; rfl
       rw [hgd] at hbad; refine AW_cond false (by simp [c7]) (fun h => by cases h) (fun _ => ?_); refine AW_skip (hK12 _ ?_); refine AW_then fun K13 hK13 => ?_
       have hcN : cNm p.names[k] = [dS p.names[k].name, .v (.int .i64 p.names[k].kind), .v (.int .i64 p.names[k].count)] := rfl
       generalize hkk : p.names[k].kind = kk at hbad hcN; rw [hke]; refine' lateG (fun hst => ?_) ?_
       rotate_left
       ·by_cases k1 : kd = 1
        ·refine AW_rb (tyOf_good _) (by kernel_rfl) ([0]) (List.range 13) [1, 2, 6, 7, 73, 74, 75, 116] [2] (fun _ _ => trivial) (by kernel_rfl) fun K' hK' => ?_; (repeat (refine sxb_nextO rfl fun K2 hK2 => ?_; simp [k1, hk, hcN]; (repeat (refine ⟨by omega, ?_⟩)); refine hK2 _ ?_; clear hK2 K2)); refine sxb_nilO (hK' _ ?_); refine AW.st (by simp [k1, hk, hcN]; rfl) ?_; clear hK' K'; refine AW.st (show _ = (⟨lst [(1, .d (.ip [.sl none (p.names.map cNm), .sl none (p.rungs.map cRw')])), (2, .ref 2 0 0), (6, .d (.ip [.v (.int .i64 kd), .v (.string (bs nm)), .ip ec])), (7, int ((p.names.length : Int) + n)), (73, .d (.sl none (p.rungs.map cRw'))), (74, int p.rungs.length), (75, int n), (116, .d (.v (.bool (!decide (wantP kd = kk)))))], hlst [(2, .box 64 [int 0, int 0])]⟩ : St) by rw [k1, show wantP 1 = 2 from rfl] <;> rfl) ?_; exact hst.out
        by_cases k2 : kd = 2
        ·refine AW_rb (tyOf_good _) (by kernel_rfl) ([0]) (List.range 13) [1, 2, 6, 7, 73, 74, 75, 116] [2] (fun _ _ => trivial) (by kernel_rfl) fun K' hK' => ?_; (repeat (refine sxb_nextO rfl fun K2 hK2 => ?_; simp [k2, hk, hcN]; (repeat (refine ⟨by omega, ?_⟩)); refine hK2 _ ?_; clear hK2 K2)); refine sxb_nilO (hK' _ ?_); refine AW.st (by simp [k2, hk, hcN]; rfl) ?_; clear hK' K'; refine AW.st (show _ = (⟨lst [(1, .d (.ip [.sl none (p.names.map cNm), .sl none (p.rungs.map cRw')])), (2, .ref 2 0 0), (6, .d (.ip [.v (.int .i64 kd), .v (.string (bs nm)), .ip ec])), (7, int ((p.names.length : Int) + n)), (73, .d (.sl none (p.rungs.map cRw'))), (74, int p.rungs.length), (75, int n), (116, .d (.v (.bool (!decide (wantP kd = kk)))))], hlst [(2, .box 64 [int 0, int 0])]⟩ : St) by rw [k2, show wantP 2 = 2 from rfl] <;> rfl) ?_; exact hst.out
        by_cases k3 : kd = 3
        ·refine AW_rb (tyOf_good _) (by kernel_rfl) ([0]) (List.range 13) [1, 2, 6, 7, 73, 74, 75, 116] [2] (fun _ _ => trivial) (by kernel_rfl) fun K' hK' => ?_; (repeat (refine sxb_nextO rfl fun K2 hK2 => ?_; simp [k3, hk, hcN]; (repeat (refine ⟨by omega, ?_⟩)); refine hK2 _ ?_; clear hK2 K2)); refine sxb_nilO (hK' _ ?_); refine AW.st (by simp [k3, hk, hcN]; rfl) ?_; clear hK' K'; refine AW.st (show _ = (⟨lst [(1, .d (.ip [.sl none (p.names.map cNm), .sl none (p.rungs.map cRw')])), (2, .ref 2 0 0), (6, .d (.ip [.v (.int .i64 kd), .v (.string (bs nm)), .ip ec])), (7, int ((p.names.length : Int) + n)), (73, .d (.sl none (p.rungs.map cRw'))), (74, int p.rungs.length), (75, int n), (116, .d (.v (.bool (!decide (wantP kd = kk)))))], hlst [(2, .box 64 [int 0, int 0])]⟩ : St) by rw [k3, show wantP 3 = 2 from rfl] <;> rfl) ?_; exact hst.out
        by_cases k4 : kd = 4
        ·refine AW_rb (tyOf_good _) (by kernel_rfl) ([0]) (List.range 13) [1, 2, 6, 7, 73, 74, 75, 116] [2] (fun _ _ => trivial) (by kernel_rfl) fun K' hK' => ?_; (repeat (refine sxb_nextO rfl fun K2 hK2 => ?_; simp [k4, hk, hcN]; (repeat (refine ⟨by omega, ?_⟩)); refine hK2 _ ?_; clear hK2 K2)); refine sxb_nilO (hK' _ ?_); refine AW.st (by simp [k4, hk, hcN]; rfl) ?_; clear hK' K'; refine AW.st (show _ = (⟨lst [(1, .d (.ip [.sl none (p.names.map cNm), .sl none (p.rungs.map cRw')])), (2, .ref 2 0 0), (6, .d (.ip [.v (.int .i64 kd), .v (.string (bs nm)), .ip ec])), (7, int ((p.names.length : Int) + n)), (73, .d (.sl none (p.rungs.map cRw'))), (74, int p.rungs.length), (75, int n), (116, .d (.v (.bool (!decide (wantP kd = kk)))))], hlst [(2, .box 64 [int 0, int 0])]⟩ : St) by rw [k4, show wantP 4 = 3 from rfl] <;> rfl) ?_; exact hst.out
        by_cases k5 : kd = 5
        ·refine AW_rb (tyOf_good _) (by kernel_rfl) ([0]) (List.range 13) [1, 2, 6, 7, 73, 74, 75, 116] [2] (fun _ _ => trivial) (by kernel_rfl) fun K' hK' => ?_; (repeat (refine sxb_nextO rfl fun K2 hK2 => ?_; simp [k5, hk, hcN]; (repeat (refine ⟨by omega, ?_⟩)); refine hK2 _ ?_; clear hK2 K2)); refine sxb_nilO (hK' _ ?_); refine AW.st (by simp [k5, hk, hcN]; rfl) ?_; clear hK' K'; refine AW.st (show _ = (⟨lst [(1, .d (.ip [.sl none (p.names.map cNm), .sl none (p.rungs.map cRw')])), (2, .ref 2 0 0), (6, .d (.ip [.v (.int .i64 kd), .v (.string (bs nm)), .ip ec])), (7, int ((p.names.length : Int) + n)), (73, .d (.sl none (p.rungs.map cRw'))), (74, int p.rungs.length), (75, int n), (116, .d (.v (.bool (!decide (wantP kd = kk)))))], hlst [(2, .box 64 [int 0, int 0])]⟩ : St) by rw [k5, show wantP 5 = 4 from rfl] <;> rfl) ?_; exact hst.out
        have k6 : kd = 6 := by omega
        refine AW_rb (tyOf_good _) (by kernel_rfl) ([0]) (List.range 13) [1, 2, 6, 7, 73, 74, 75, 116] [2] (fun _ _ => trivial) (by kernel_rfl) fun K' hK' => ?_; (repeat (refine sxb_nextO rfl fun K2 hK2 => ?_; simp [k6, hk, hcN]; (repeat (refine ⟨by omega, ?_⟩)); refine hK2 _ ?_; clear hK2 K2)); refine sxb_nilO (hK' _ ?_); refine AW.st (by simp [k6, hk, hcN]; rfl) ?_; clear hK' K'; refine AW.st (show _ = (⟨lst [(1, .d (.ip [.sl none (p.names.map cNm), .sl none (p.rungs.map cRw')])), (2, .ref 2 0 0), (6, .d (.ip [.v (.int .i64 kd), .v (.string (bs nm)), .ip ec])), (7, int ((p.names.length : Int) + n)), (73, .d (.sl none (p.rungs.map cRw'))), (74, int p.rungs.length), (75, int n), (116, .d (.v (.bool (!decide (wantP kd = kk)))))], hlst [(2, .box 64 [int 0, int 0])]⟩ : St) by rw [k6, show wantP 6 = 4 from rfl] <;> rfl) ?_; exact hst.out
       ·generalize hwk : (!decide (wantP kd = kk)) = wk at hbad
        cases wk with
        | true =>
         rw [if_pos rfl] at hbad
         have hr := hgo (by rw [hbad]; decide)
         rw [hbad] at hr; refine AW_tt rfl ?_; refine rg0 [2] [2] ?_; refine AW_ret ?_; simp [D.le, D.le.go, takeMap, hr, dFault, codeF, placeF, dNum]
        | false =>
         rw [if_neg (by decide)] at hbad; refine AW_ff rfl ?_; refine AW_skip (hK13 _ ?_); refine rgc trivial hns [1,2,7,73,74,75,121,122,123] [2] ?_; refine AW_for (S := Nat) (fun m => m ≤ ne.length ∧ ∀ j (hj : j < ne.length), j < m → ¬ numP p ne[j] < 0) (fun m => ⟨lst [(1, .d (.ip [.sl none (p.names.map cNm), .sl none (p.rungs.map cRw')])), (2, .ref 2 0 0), (7, int ((p.names.length : Int) + n)), (73, .d (.sl none (p.rungs.map cRw'))), (74, int p.rungs.length), (75, int n), (121, .d (.sl none (ne.map fun s => [.v (.string (bs s))]))), (122, int ne.length), (123, int m)], hlst [(2, .box 64 [int 0, int 0])]⟩) (fun m => ne.length - m) 0 ?_ (by simp) ?_
         ·refine Imp.to' (fun _ _ => trivial) (by simp) (by simp)
         ·rintro m ⟨hm, hj⟩
          refine rg0 [1,2,7,73,74,75,121,122,123,124] [2] ?_; refine AW_then fun K14 hK14 => ?_; refine AW_cond' (b := m < ne.length) (by simp [D.le, D.le.go, takeMap]) (fun hc => ?_) (fun hc => ?_)
          ·have hmt := hc
           have hnu2 := hnum ne[m]
           have hanyT : numP p ne[m] < 0 → v = 7 := fun h => by
            rw [hbad, if_pos (List.any_eq_true.2 ⟨_, List.getElem_mem hmt, by simpa using h⟩)]
           have hnext : ¬ numP p ne[m] < 0 → ∀ j (h : j < ne.length), j < m + 1 → ¬ numP p ne[j] < 0 := fun h0 j h hjm => by
            by_cases he : j = m
            ·subst he; exact h0
            ·exact hj j h (by omega)
           refine AW_skip (hK14 _ ?_); refine AW_then fun K15 hK15 => ?_; refine AW_block ?_
           have qf := @hmt
           refine rgqv [1,2,7,10,73,74,75,121,122,123] [2] ?_; refine rgc trivial hnu2 [1,2,7,73,74,75,121,122,123,130] [2] ?_
           by_cases c7b : numP p ne[m] < 0
           ·have hb7 := hanyT c7b
            have hr := hgo (by rw [hb7]; decide)
            rw [hb7] at hr; refine AW_cond true (by simp [c7b]) (fun _ => ?_) (fun h => by cases h); refine rg0 [2] [2] ?_; refine AW_ret ?_; simp [D.le, D.le.go, takeMap, hr, dFault, codeF, placeF, dNum]
           ·refine AW_cond false (by simp [c7b]) (fun h => by cases h) (fun _ => ?_); refine AW_skip (hK15 _ ?_); refine AW_re (tyOf_good _) fun K' hK' => ?_; (repeat (refine sxn fun K2 hK2 => ?_; simp; (repeat (refine ⟨by omega, ?_⟩)); refine hK2 _ ?_; clear hK2 K2)); refine sxz (hK' _ ?_); clear hK' K'; (try simp only [thn, inb]); refine Again.mk (m + 1) ⟨by omega, hnext c7b⟩ (by omega) ?_; refine Imp.to' (fun _ _ => trivial) (by simp) (by simp)
          ·have hany : (ne.any fun s => decide (numP p s < 0)) = false := by
            rw [List.any_eq_false]
            intro s hs
            obtain ⟨j, hjl, rfl⟩ := List.mem_iff_getElem.1 hs
            simpa using hj j hjl (by omega)
           rw [hany, if_neg (by decide)] at hbad; refine AW_exit (hK10 _ ?_); refine AW_re (tyOf_good _) fun K' hK' => ?_; (repeat (refine sxn fun K2 hK2 => ?_; simp; (repeat (refine ⟨by omega, ?_⟩)); refine hK2 _ ?_; clear hK2 K2)); refine sxz (hK' _ ?_); clear hK' K'; (try simp only [thn, inb]); refine Again.mk (n + 1) ⟨by omega, hzero hbad⟩ (by omega) ?_; refine Imp.to' (fun _ _ => trivial) (by simp) (by simp)
    ·rw [firstBad_ok fun k hk => hb k hk (by omega)] at hres; refine AW_exit (hK8 _ ?_)
     have qf := @hF
     refine rgqv [2] [2] ?_; refine AW_ret ?_; simp [D.le, D.le.go, takeMap]; simp [← hres, dFault, codeF, placeF, dNum, D.le, D.le.go]
end Go.Proofs.YthnjfeielmbfkaaGreatDoor
namespace Go.Proofs.YthnjfeielmbfkaaGreatDoor
open Go.Av
theorem checkP_rung {p : PgP} (h : checkP p = none) : ∀ r ∈ p.rungs, (1 ≤ r.kind ∧ r.kind ≤ 6) ∧ ¬ numP p r.name < 0 ∧ ∃ e, r.cond = some e ∧ ∀ s ∈ namesE true e, ¬ numP p s < 0 := fun r hr => by
 unfold checkP at h
 split at h
 ·cases h
 split at h
 ·cases h
 split at h
 ·cases h
 rename_i hB
 obtain ⟨k, hk, rfl⟩ := List.mem_iff_getElem.1 hr
 have h0 := firstBad_none hB k hk
 generalize p.rungs[k] = r at h0
 obtain ⟨kd, nm, cd⟩ := r
 cases cd with
 | none => cases (show (1 : Int) = 0 from h0)
 | some e =>
  rw [badGw_some] at h0
  split at h0
  ·cases h0
  rename_i h1
  split at h0
  ·cases h0
  rename_i h2
  split at h0
  ·cases h0
  split at h0
  ·cases h0
  rename_i h4
  refine ⟨by simpa using h1, h2, e, rfl, fun s hs hn => h4 ?_⟩; exact List.any_eq_true.2 ⟨s, hs, by simpa using hn⟩
end Go.Proofs.YthnjfeielmbfkaaGreatDoor
