/-
  Texts that belong together, in one file: U4, U5, C4, GS1, GA6, V5, GS2, R1.
-/
import Derived.Test.YtagfbbnlbncjlaaGreatDoorGs22
import Derived.Sort.Walk0
set_option linter.unusedSimpArgs false
set_option linter.unusedVariables false
namespace Go.Proofs.YtagfbbnlbncjlaaGreatDoor
open Go.Av
def kAll (all : Bool) : List UInt8 := if all then [98, 105, 116, 94, 126] else [94, 126]
theorem nmsE_kids (all : Bool) (e : Ex) : nmsE all e = one1 (nmE all e) ++ nmsL all (kidsR e) := by
 cases e <;> simp [nmsE, kidsR, nmsL, nmE, one1]
theorem nmE_kind (all : Bool) (e : Ex) : (nmR e = [] ∧ one1 (nmE all e) = []) ∨ (nmR e ≠ [] ∧ Lib.contains (kAll all) (kdR e) = false ∧ one1 (nmE all e) = []) ∨ (nmR e ≠ [] ∧ Lib.contains (kAll all) (kdR e) = true ∧ one1 (nmE all e) = [nmR e]) := by
 have c1 : Lib.contains (kAll true) [98, 105, 116] = true := by decide +kernel
 have c2 : Lib.contains (kAll false) [98, 105, 116] = false := by decide +kernel
 have c3 : ∀ all, Lib.contains (kAll all) [94] = true := by decide +kernel
 have c4 : ∀ all, Lib.contains (kAll all) [126] = true := by decide +kernel
 cases e with
 | bit s =>
  by_cases hs : s = []
  ·subst hs; cases all <;> exact .inl ⟨rfl, rfl⟩
  ·cases all with
   | true => exact .inr (.inr ⟨hs, c1, by simp [nmE, one1, nmR, hs]⟩)
   | false => exact .inr (.inl ⟨hs, c2, by simp [nmE, one1]⟩)
 | rise s =>
  by_cases hs : s = []
  ·subst hs; exact .inl ⟨rfl, rfl⟩
  ·exact .inr (.inr ⟨hs, c3 _, by simp [nmE, one1, nmR, hs]⟩)
 | fall s =>
  by_cases hs : s = []
  ·subst hs; exact .inl ⟨rfl, rfl⟩
  ·exact .inr (.inr ⟨hs, c4 _, by simp [nmE, one1, nmR, hs]⟩)
 | _ => exact .inl ⟨rfl, rfl⟩
def wFn : AV := .fn (.func 70) [.ref 501 0 0, .ref 502 0 0, .ref 504 0 0]
def wRow (all : Bool) (l : List Tx) : List (Nat × Row) := [(501, .box 9 [.d (dS (kAll all))]), (502, .box 34 [.own 503 0 l.length]), (503, .sl 9 1 (l.map fun s => [dS s])), (504, .box 132 [wFn])]
theorem binS_lt (a b : Tx) : binS .lss (bs a) (bs b) = some (True, .bool (decide (a < b))) := by
 simp only [binS, bs_list, bytesLess_eq]
theorem binS_ne (a b : Tx) : binS .neq (bs a) (bs b) = some (True, .bool (!decide (a = b))) := by
 simp only [binS, bs_list]
 have h : (a == b) = decide (a = b) := by
  by_cases e : a = b
  ·subst e; exact (beq_self_eq_true a).trans (decide_eq_true rfl).symm
  ·exact (beq_eq_false_iff_ne.2 e).trans (decide_eq_false e).symm
 rw [h]
theorem put_in (m : List (List D)) (z x : List D) (k : Nat) (hk : k ≤ m.length) (hm : ∀ el ∈ m, el.length = 1 ∧ ∀ c ∈ el, D.one c = true) (hz : z.length = 1 ∧ ∀ c ∈ z, D.one c = true) :
  ∃ news els2 : List (List D), ∃ w0 : D, ((m ++ [z]).drop k).take (m.length + 1 - k) = news ∧ (∀ el ∈ news, el.length = 1) ∧ (∀ el ∈ news, ∀ c ∈ el, D.one c = true) ∧
   copyEls (m ++ [z]) news (k + 1) (m.length + 1 - (k + 1)) = els2 ∧ els2.length = m.length + 1 ∧ els2[k]? = some [w0] ∧ els2.set k x = m.take k ++ x :: m.drop k ∧ (k = m.length → els2 = m ++ [z]) := by
 have h1 : ((m ++ [z]).drop k).take (m.length + 1 - k) = m.drop k ++ [z] := by
  rw [List.take_of_length_le (by simp), List.drop_append_of_le_length hk]
 have h2 : (m.drop k ++ [z]).take (m.length + 1 - (k + 1)) = m.drop k := by
  rw [List.take_append_of_le_length (by simp), List.take_of_length_le (by simp)]
 have h3 : copyEls (m ++ [z]) (m.drop k ++ [z]) (k + 1) (m.length + 1 - (k + 1)) = (m ++ [z]).take (k + 1) ++ m.drop k := by
  unfold copyEls; rw [h2, List.drop_of_length_le (l := m ++ [z]) (by simp; omega), List.append_nil]
 have hmem : ∀ el ∈ m.drop k ++ [z], el.length = 1 ∧ ∀ c ∈ el, D.one c = true := fun el hel => by
  rcases List.mem_append.1 hel with h | h
  ·exact hm el (List.mem_of_mem_drop h)
  ·rw [List.mem_singleton] at h; subst h; exact hz
 have hl : ((m ++ [z]).take (k + 1) ++ m.drop k).length = m.length + 1 := by simp; omega
 have hkk : k < (m ++ [z]).length := by simp; omega
 have hgk : ((m ++ [z]).take (k + 1) ++ m.drop k)[k]? = some ((m ++ [z])[k]) := by
  rw [List.getElem?_append_left (by simp; omega), List.getElem?_take, if_pos (by omega), List.getElem?_eq_getElem hkk]
 have hone : ∃ w0, (m ++ [z])[k] = [w0] := by
  have hq : ((m ++ [z])[k]).length = 1 := by
   rcases List.mem_append.1 (List.getElem_mem hkk) with h | h
   ·exact (hm _ h).1
   ·rw [List.mem_singleton] at h; rw [h]; exact hz.1
  exact List.length_eq_one_iff.1 hq
 obtain ⟨w0, hw0⟩ := hone
 refine ⟨_, _, w0, h1, fun el hel => (hmem el hel).1, fun el hel => (hmem el hel).2, h3, hl, by rw [hgk, hw0], ?_, fun e => ?_⟩
 ·rw [List.take_succ_eq_append_getElem hkk, List.append_assoc, List.set_append_right _ _ (by simp; omega)]
  have e1 : ((m ++ [z]).take k).length = k := by simp; omega
  rw [e1, Nat.sub_self, List.take_append_of_le_length hk]
  rfl
 ·subst e; rw [List.take_of_length_le (by simp), List.drop_of_length_le (by simp), List.append_nil]
set_option maxHeartbeats 32000000 in
set_option maxRecDepth 100000 in
theorem rwalk_at (G : Glob) (hM : HasMax G) (all : Bool) : ∀ (n : Nat) (e : Ex), SizeOf.sizeOf e ≤ n → ∀ l0 : List Tx, l0.length + bE e ≤ 2^39 → MC Tryz.prog G [501, 502, 504] 70 ([.d (dR e)] ++ [.ref 501 0 0, .ref 502 0 0, .ref 504 0 0]) (hlst (wRow all l0)) (.d (.tup [])) (hlst (wRow all (insL l0 (nmsE all e)))) := by
 intro n
 induction n with
 | zero => intro e hsz; cases e <;> simp at hsz
 | succ n ih =>
  intro e hsz l0 hb
  have hch : ∀ x ∈ kidsR e, ∀ l1 : List Tx, l1.length + bE x ≤ 2^39 → MC Tryz.prog G [501, 502, 504] 70 ([.d (dR x)] ++ [.ref 501 0 0, .ref 502 0 0, .ref 504 0 0]) (hlst (wRow all l1)) (.d (.tup [])) (hlst (wRow all (insL l1 (nmsE all x)))) := fun x hx => ih x (by have := sz_kids hx; omega)
  clear ih
  have hkb := bE_kids e
  have hln := bEs_len (kidsR e)
  have hnl := nmsL_len all (kidsR e)
  have hkind := nmE_kind all e
  have hon : (one1 (nmE all e)).length ≤ 1 := by unfold one1; split <;> simp
  have hbd : (one1 (nmE all e)).length + bEs (kidsR e) ≤ bE e := by
   cases e <;> simp [kidsR, bE, bEs] <;> first | omega | (simp [one1, nmE] <;> omega) | skip
  have hcon := scontains_spec G hM (kAll all) (kdR e) (by cases all <;> simp [kAll])
  have hkl : (kAll all).length ≤ 5 := by cases all <;> simp [kAll]
  rw [nmsE_kids, insL_app, dR_form, ofR_form]; generalize kidsR e = l at hch hkb hln hnl hbd ⊢; generalize kdR e = kd at hcon hkind ⊢; generalize nmR e = nm at hkind ⊢; generalize kR e = kk; generalize hone : one1 (nmE all e) = on at hkind hbd hon ⊢; generalize hout : insL l0 on = out1
  have hol := insL_len on l0
  rw [hout] at hol; clear hsz; refine MC.of_body (tyOf_good _) Tryz.func70 rfl rfl (rs := []) Tryz.results70 (by simp [Tryz.ntmps70]) rfl fun X => ?_; simp only [Tryz.ntmps70]; refine AW_then fun K1 hK1 => ?_; refine (fun hgo => ?_) (fun (σ : St) himp => hK1 σ (AW.imp (τ := ⟨lst [(0, .d (.ip [dS kd, dS nm, .sl kk (l.map fun x => [dR x])])), (3, .ref 504 0 0)], hlst (wRow all out1)⟩) himp ?_))
  ·rcases hkind with ⟨h1, h2⟩ | ⟨h1, h2, h3⟩ | ⟨h1, h2, h3⟩
   ·subst h1 h2
    have hq : l0 = out1 := by rw [← hout]; rfl
    subst hq; refine AW_rd (tyOf_good _) (by kernel_rfl) [0, 2, 3, 20] [501, 502, 503, 504] (notIn_ok rfl) (by kernel_rfl) fun K' hK' => ?_; (repeat (refine sxd_next fun K2 hK2 => ?_; simp [dNum, dS, wRow, wFn, binS_ne, bs_nil]; (repeat (refine ⟨by omega, ?_⟩)); refine hK2 _ ?_; clear hK2 K2)); refine sxd_nil (hK' _ ?_); refine AW.st (by simp [dNum, dS, wRow, wFn, binS_ne, bs_nil]; rfl) ?_; clear hK' K'; refine AW_ff rfl ?_; refine AW_skip (hgo _ ?_); refine Imp.to' (notIn_ok rfl) (by simp [dNum, dS, wRow, wFn]) (by simp [dNum, dS, wRow, wFn])
   ·subst h3
    have hq : l0 = out1 := by rw [← hout]; rfl
    subst hq; rw [h2] at hcon
    have hnb : binS .neq (bs nm) ⟨#[]⟩ = some (True, .bool true) := by
     have := binS_ne nm []
     rw [decide_eq_false h1] at this; exact this
    refine AW_rd (tyOf_good _) (by kernel_rfl) [0, 2, 3, 20] [501, 502, 503, 504] (notIn_ok rfl) (by kernel_rfl) fun K' hK' => ?_; (repeat (refine sxd_next fun K2 hK2 => ?_; simp [dNum, dS, wRow, wFn, hnb]; (repeat (refine ⟨by omega, ?_⟩)); refine hK2 _ ?_; clear hK2 K2)); refine sxd_next fun K2 hK2 => ?_; simp [dNum, dS, wRow, wFn, hnb]; refine callQ.data (hcon) (by simp; rfl) (by simp; rfl) (by first | exact D.leGo_refl _ | simp [takeMap, List.map_map, Function.comp_def, D.le, D.le.go, D.le_refl, D.leGo_refl, dNum, dS, wRow, wFn, hnb]) ?_; refine hK2 _ ?_; clear hK2 K2; simp only [putd, upd_lst]; (repeat (refine sxd_next fun K2 hK2 => ?_; simp [dNum, dS, wRow, wFn, hnb]; (repeat (refine ⟨by omega, ?_⟩)); refine hK2 _ ?_; clear hK2 K2)); refine sxd_nil (hK' _ ?_); refine AW.st (by simp [dNum, dS, wRow, wFn, hnb]; rfl) ?_; clear hK' K'; refine AW_ff rfl ?_; refine AW_skip (hgo _ ?_); refine Imp.to' (notIn_ok rfl) (by simp [dNum, dS, wRow, wFn]) (by simp [dNum, dS, wRow, wFn])
   ·subst h3; rw [h2] at hcon
    have hnb : binS .neq (bs nm) ⟨#[]⟩ = some (True, .bool true) := by
     have := binS_ne nm []
     rw [decide_eq_false h1] at this; exact this
    refine AW_rd (tyOf_good _) (by kernel_rfl) [0, 2, 3, 20] [501, 502, 503, 504] (notIn_ok rfl) (by kernel_rfl) fun K' hK' => ?_; (repeat (refine sxd_next fun K2 hK2 => ?_; simp [dNum, dS, wRow, wFn, hnb]; (repeat (refine ⟨by omega, ?_⟩)); refine hK2 _ ?_; clear hK2 K2)); refine sxd_next fun K2 hK2 => ?_; simp [dNum, dS, wRow, wFn, hnb]; refine callQ.data (hcon) (by simp; rfl) (by simp; rfl) (by first | exact D.leGo_refl _ | simp [takeMap, List.map_map, Function.comp_def, D.le, D.le.go, D.le_refl, D.leGo_refl, dNum, dS, wRow, wFn, hnb]) ?_; refine hK2 _ ?_; clear hK2 K2; simp only [putd, upd_lst]; (repeat (refine sxd_next fun K2 hK2 => ?_; simp [dNum, dS, wRow, wFn, hnb]; (repeat (refine ⟨by omega, ?_⟩)); refine hK2 _ ?_; clear hK2 K2)); refine sxd_nil (hK' _ ?_); refine AW.st (by simp [dNum, dS, wRow, wFn, hnb]; rfl) ?_; clear hK' K'; refine AW_tt rfl ?_; refine rg [0, 2, 3, 5] [501, 502, 503, 504] (notIn_ok rfl) fun K' hK' => ?_; (repeat (refine sxn fun K2 hK2 => ?_; simp [dNum, dS, wRow, wFn]; (repeat (refine ⟨by omega, ?_⟩)); refine hK2 _ ?_; clear hK2 K2)); refine sxz (hK' _ (AW.st (by simp [dNum, dS, wRow, wFn]; rfl) ?_)); clear hK' K'; refine AW_then fun K2 hK2 => ?_; refine (fun hgo2 => ?_) (fun (k : Nat) (hk : k ≤ l0.length) (hp : ∀ i (hi : i < l0.length), i < k → l0[i]'hi < nm) (hx : ∀ hk : k < l0.length, ¬ l0[k]'hk < nm) (σ : St) himp => hK2 σ (AW.imp (τ := ⟨lst [(0, .d (.ip [dS kd, dS nm, .sl kk (l.map fun x => [dR x])])), (2, .ref 502 0 0), (3, .ref 504 0 0), (5, int k)], hlst (wRow all l0)⟩) himp ?_))
    ·refine AW_for (S := Nat) (fun k => k ≤ l0.length ∧ ∀ i (hi : i < l0.length), i < k → l0[i] < nm) (fun k => ⟨lst [(0, .d (.ip [dS kd, dS nm, .sl kk (l.map fun x => [dR x])])), (2, .ref 502 0 0), (3, .ref 504 0 0), (5, int k)], hlst (wRow all l0)⟩) (fun k => l0.length - k) 0 ?_ (by simp) ?_
     ·refine Imp.to' (notIn_ok rfl) (by simp [dNum, dS, wRow, wFn]) (by simp [dNum, dS, wRow, wFn])
     ·rintro k ⟨hk, hp⟩
      refine AW_then fun K3 hK3 => ?_
      by_cases hkl : k < l0.length
      ·cases hlt : decide (l0[k] < nm) with
       | true =>
        have hb2 : binS .lss (bs l0[k]) (bs nm) = some (True, .bool true) := by rw [binS_lt, hlt]
        refine AW_rd (tyOf_good _) (by kernel_rfl) [0, 2, 3, 5, 35] [501, 502, 503, 504] (notIn_ok rfl) (by kernel_rfl) fun K' hK' => ?_; (repeat (refine sxd_next fun K2 hK2 => ?_; simp [dNum, dS, wRow, wFn, hkl, hb2]; (repeat (refine ⟨by omega, ?_⟩)); refine hK2 _ ?_; clear hK2 K2)); refine sxd_nil (hK' _ ?_); refine AW.st (by simp [dNum, dS, wRow, wFn, hkl, hb2]; rfl) ?_; clear hK' K'; refine AW_tt rfl ?_; refine AW_skip (hK3 _ ?_); refine AW_block ?_; refine AW_re (tyOf_good _) fun K' hK' => ?_; (repeat (refine sxn fun K2 hK2 => ?_; simp [dNum, dS, wRow, wFn]; (repeat (refine ⟨by omega, ?_⟩)); refine hK2 _ ?_; clear hK2 K2)); refine sxz (hK' _ ?_); clear hK' K'; (try simp only [thn, inb]); refine Again.mk (k + 1) ⟨by omega, fun i hi hik => ?_⟩ (by omega) ?_
        ·by_cases he : i = k
         ·subst he; exact of_decide_eq_true hlt
         ·exact hp i hi (by omega)
        refine Imp.to' (notIn_ok rfl) (by simp [dNum, dS, wRow, wFn]) (by simp [dNum, dS, wRow, wFn])
       | false =>
        have hb2 : binS .lss (bs l0[k]) (bs nm) = some (True, .bool false) := by rw [binS_lt, hlt]
        refine AW_rd (tyOf_good _) (by kernel_rfl) [0, 2, 3, 5, 35] [501, 502, 503, 504] (notIn_ok rfl) (by kernel_rfl) fun K' hK' => ?_; (repeat (refine sxd_next fun K2 hK2 => ?_; simp [dNum, dS, wRow, wFn, hkl, hb2]; (repeat (refine ⟨by omega, ?_⟩)); refine hK2 _ ?_; clear hK2 K2)); refine sxd_nil (hK' _ ?_); refine AW.st (by simp [dNum, dS, wRow, wFn, hkl, hb2]; rfl) ?_; clear hK' K'; refine AW_ff rfl ?_; refine AW_exit (hgo2 k hk hp (fun _ => of_decide_eq_false hlt) _ ?_); refine Imp.to' (notIn_ok rfl) (by simp [dNum, dS, wRow, wFn]) (by simp [dNum, dS, wRow, wFn])
      ·refine AW_rd (tyOf_good _) (by kernel_rfl) [0, 2, 3, 5, 35] [501, 502, 503, 504] (notIn_ok rfl) (by kernel_rfl) fun K' hK' => ?_; (repeat (refine sxd_next fun K2 hK2 => ?_; simp [dNum, dS, wRow, wFn, hkl]; (repeat (refine ⟨by omega, ?_⟩)); refine hK2 _ ?_; clear hK2 K2)); refine sxd_nil (hK' _ ?_); refine AW.st (by simp [dNum, dS, wRow, wFn, hkl]; rfl) ?_; clear hK' K'; refine AW_ff rfl ?_; refine AW_exit (hgo2 k hk hp (fun h => absurd h hkl) _ ?_); refine Imp.to' (notIn_ok rfl) (by simp [dNum, dS, wRow, wFn]) (by simp [dNum, dS, wRow, wFn])
    ·have hins := insT_at nm l0 k hk hp hx
     have ho2 : out1 = insT nm l0 := hout.symm
     rw [hins] at ho2
     by_cases hkl : k < l0.length
     ·by_cases he : l0[k] = nm
      ·have hb3 : binS .neq (bs l0[k]) (bs nm) = some (True, .bool false) := by rw [binS_ne, he, decide_eq_true rfl]; rfl
       rw [if_pos ⟨hkl, he⟩] at ho2
       have hne : ¬ k = l0.length := by omega
       refine AW_rd (tyOf_good _) (by kernel_rfl) [0, 2, 3, 5, 52] [501, 502, 503, 504] (notIn_ok rfl) (by kernel_rfl) fun K' hK' => ?_; (repeat (refine sxd_next fun K2 hK2 => ?_; simp [dNum, dS, wRow, wFn, hkl, hb3, hne]; (repeat (refine ⟨by omega, ?_⟩)); refine hK2 _ ?_; clear hK2 K2)); refine sxd_nil (hK' _ ?_); refine AW.st (by simp [dNum, dS, wRow, wFn, hkl, hb3, hne]; rfl) ?_; clear hK' K'; refine AW_ff rfl ?_; refine AW_skip (hgo _ ?_); refine Imp.to' (notIn_ok rfl) (by simp [dNum, dS, wRow, wFn, ho2]) (by simp [dNum, dS, wRow, wFn, ho2])
      ·have hb3 : binS .neq (bs l0[k]) (bs nm) = some (True, .bool true) := by rw [binS_ne, decide_eq_false he]; rfl
       rw [if_neg (fun ⟨_, h⟩ => he h)] at ho2
       have hne : ¬ k = l0.length := by omega
       refine AW_rd (tyOf_good _) (by kernel_rfl) [0, 2, 3, 5, 52] [501, 502, 503, 504] (notIn_ok rfl) (by kernel_rfl) fun K' hK' => ?_; (repeat (refine sxd_next fun K2 hK2 => ?_; simp [dNum, dS, wRow, wFn, hkl, hb3, hne]; (repeat (refine ⟨by omega, ?_⟩)); refine hK2 _ ?_; clear hK2 K2)); refine sxd_nil (hK' _ ?_); refine AW.st (by simp [dNum, dS, wRow, wFn, hkl, hb3, hne]; rfl) ?_; clear hK' K'; refine AW_tt rfl ?_; refine rg [0, 2, 3, 5] [501, 502, 503, 504] (notIn_ok rfl) fun K' hK' => ?_; (repeat (refine sxn fun K2 hK2 => ?_; simp [dNum, dS, wRow, wFn, List.take_of_length_le]; (repeat (refine ⟨by omega, ?_⟩)); refine hK2 _ ?_; clear hK2 K2)); refine sxz (hK' _ (AW.st (by simp [dNum, dS, wRow, wFn, List.take_of_length_le]; rfl) ?_)); clear hK' K'
       have hk1 : k + 1 ≤ l0.length + 1 := by omega
       have hi2 : ¬ (k : Int) = (l0.length : Int) + 1 := by omega
       have hi3 : ((l0.length : Int) + 1 - ((k : Int) + 1)).toNat = l0.length + 1 - (k + 1) := by omega
       have hle : k + (l0.length + 1 - k) ≤ l0.length + 1 := by omega
       have hle2 : k + 1 + (l0.length - k) ≤ l0.length + 1 := by omega
       obtain ⟨news, els2, w0, q1, q2, q3, q4, q5, q6, q7, _⟩ := put_in (l0.map fun s => [dS s]) [dS []] [dS nm] k (by simpa using hk) (by intro el hel; obtain ⟨s, _, rfl⟩ := List.mem_map.1 hel; simp [dS, D.one]) (by simp [dS, D.one])
       have q8 : List.take k (l0.map fun s => [dS s]) ++ [dS nm] :: List.drop k (l0.map fun s => [dS s]) = out1.map fun s => [dS s] := by rw [ho2]; simp
       rw [q8] at q7
       have q9 : out1.length = l0.length + 1 := by rw [ho2]; simp; omega
       rw [List.length_map] at q1 q4 q5; rw [Nat.add_sub_add_right] at q4; simp only [dS] at q1 q4 q7; rw [← bs_nil] at q1 q4
       have q10 : (els2[k]'(by omega)).tail = [] := by
        have := q6
        rw [List.getElem?_eq_getElem (by omega)] at this; rw [Option.some.inj this]
        rfl
       have q23 := eq_true (And.intro q2 q3)
       have q2t := eq_true q2
       have q3t := eq_true q3
       have hkl1 : k < l0.length + 1 := by omega
       refine AW_rd (tyOf_good _) (by kernel_rfl) [0, 2, 3, 5] [501, 502, 503, 504] (notIn_ok rfl) (by kernel_rfl) fun K' hK' => ?_; (repeat (refine sxd_next fun K2 hK2 => ?_; simp [dNum, dS, wRow, wFn, hk1, hk, hne, hi2, hi3, hle, hle2, q1, q23, q2t, q3t, q4]; (repeat (refine ⟨by omega, ?_⟩)); refine hK2 _ ?_; clear hK2 K2)); refine sxd_nil (hK' _ ?_); refine AW.st (by simp [dNum, dS, wRow, wFn, hk1, hk, hne, hi2, hi3, hle, hle2, q1, q23, q2t, q3t, q4]; rfl) ?_; clear hK' K'; refine AW_rde (tyOf_good _) (by kernel_rfl) (by kernel_rfl) fun K' hK' => ?_; (repeat (refine sxd_next fun K2 hK2 => ?_; simp [dNum, dS, wRow, wFn, q5, q6, q7, q10, hkl1]; (repeat (refine ⟨by omega, ?_⟩)); refine hK2 _ ?_; clear hK2 K2)); refine sxd_nil (hK' _ ?_); clear hK' K'; (try simp only [thn, inb]); refine hgo _ ?_; refine Imp.to' (notIn_ok rfl) (by simp [dNum, dS, wRow, wFn, q9, q7, q10]) (by simp [dNum, dS, wRow, wFn, q9, q7, q10])
     ·obtain rfl : k = l0.length := by omega
      rw [if_neg (fun ⟨h, _⟩ => hkl h), List.take_length, List.drop_length] at ho2; refine AW_rd (tyOf_good _) (by kernel_rfl) [0, 2, 3, 5, 52] [501, 502, 503, 504] (notIn_ok rfl) (by kernel_rfl) fun K' hK' => ?_; (repeat (refine sxd_next fun K2 hK2 => ?_; simp [dNum, dS, wRow, wFn, hkl]; (repeat (refine ⟨by omega, ?_⟩)); refine hK2 _ ?_; clear hK2 K2)); refine sxd_nil (hK' _ ?_); refine AW.st (by simp [dNum, dS, wRow, wFn, hkl]; rfl) ?_; clear hK' K'; refine AW_tt rfl ?_; refine rg [0, 2, 3, 5] [501, 502, 503, 504] (notIn_ok rfl) fun K' hK' => ?_; (repeat (refine sxn fun K2 hK2 => ?_; simp [dNum, dS, wRow, wFn, List.take_of_length_le]; (repeat (refine ⟨by omega, ?_⟩)); refine hK2 _ ?_; clear hK2 K2)); refine sxz (hK' _ (AW.st (by simp [dNum, dS, wRow, wFn, List.take_of_length_le]; rfl) ?_)); clear hK' K'
      have hi2 : ¬ (l0.length : Int) = (l0.length : Int) + 1 := by omega
      have hi3 : ¬ (l0.length : Int) + 1 = 0 := by omega
      have q8 : (l0.map fun s => [dS s]) ++ [[dS nm]] = out1.map fun s => [dS s] := by rw [ho2]; simp
      have q9 : out1.length = l0.length + 1 := by rw [ho2]; simp
      simp only [dS] at q8; refine AW_rd (tyOf_good _) (by kernel_rfl) [0, 2, 3, 5] [501, 502, 503, 504] (notIn_ok rfl) (by kernel_rfl) fun K' hK' => ?_; (repeat (refine sxd_next fun K2 hK2 => ?_; simp [dNum, dS, wRow, wFn, hi2, hi3, D.one]; (repeat (refine ⟨by omega, ?_⟩)); refine hK2 _ ?_; clear hK2 K2)); refine sxd_nil (hK' _ ?_); refine AW.st (by simp [dNum, dS, wRow, wFn, hi2, hi3, D.one]; rfl) ?_; clear hK' K'; refine AW_rde (tyOf_good _) (by kernel_rfl) (by kernel_rfl) fun K' hK' => ?_; (repeat (refine sxd_next fun K2 hK2 => ?_; simp [dNum, dS, wRow, wFn]; (repeat (refine ⟨by omega, ?_⟩)); refine hK2 _ ?_; clear hK2 K2)); refine sxd_nil (hK' _ ?_); clear hK' K'; (try simp only [thn, inb]); refine hgo _ ?_; refine Imp.to' (notIn_ok rfl) (by simp [dNum, dS, wRow, wFn, q9, q8]) (by simp [dNum, dS, wRow, wFn, q9, q8])
  ·simp only [List.singleton_append] at hch; refine rg [3, 74, 75, 76] [501, 502, 503, 504] (notIn_ok rfl) fun K' hK' => ?_; (repeat (refine sxn fun K2 hK2 => ?_; simp [dNum, dS, wRow, wFn]; (repeat (refine ⟨by omega, ?_⟩)); refine hK2 _ ?_; clear hK2 K2)); refine sxz (hK' _ (AW.st (by simp [dNum, dS, wRow, wFn]; rfl) ?_)); clear hK' K'; refine AW_for (S := Nat) (fun i => i ≤ l.length) (fun i => ⟨lst [(3, .ref 504 0 0), (74, .d (.sl kk (l.map fun x => [dR x]))), (75, int l.length), (76, int i)], hlst (wRow all (insL out1 (nmsL all (l.take i))))⟩) (fun i => l.length - i) 0 ?_ (by omega) ?_
   ·refine Imp.to' (notIn_ok rfl) (by simp [dNum, dS, wRow, wFn, nmsL, insL_nil]) (by simp [dNum, dS, wRow, wFn, nmsL, insL_nil])
   ·intro i hi
    refine rg [3, 74, 75, 76, 77] [501, 502, 503, 504] (notIn_ok rfl) fun K' hK' => ?_; (repeat (refine sxn fun K2 hK2 => ?_; simp [dNum, dS, wRow, wFn]; (repeat (refine ⟨by omega, ?_⟩)); refine hK2 _ ?_; clear hK2 K2)); refine sxz (hK' _ (AW.st (by simp [dNum, dS, wRow, wFn]; rfl) ?_)); clear hK' K'; refine AW_then fun K4 hK4 => ?_; refine AW_cond' (b := i < l.length) (by simp [D.le, D.le.go, takeMap, dNum, dS, wRow, wFn]) (fun hc => ?_) (fun hc => ?_)
    ·have hil : i < l.length := hc
     have h1 := nmsL_take all hil
     have h2 := nmsL_len all (l.take i)
     have h3 := bEs_take hil
     have h4 := insL_len (nmsL all (l.take i)) out1
     have hcc := hch _ (List.getElem_mem hil) (insL out1 (nmsL all (l.take i))) (by omega)
     rw [← insL_app, ← h1] at hcc
     have hf := dR_form l[i]
     rw [hf] at hcc; refine AW_skip (hK4 _ ?_); refine AW_then fun K5 hK5 => ?_; refine AW_block ?_; refine rg [3, 7, 74, 75, 76] [501, 502, 503, 504] (notIn_ok rfl) fun K' hK' => ?_; (repeat (refine sxn fun K2 hK2 => ?_; simp [dNum, dS, wRow, wFn, hil, hf]; (repeat (refine ⟨by omega, ?_⟩)); refine hK2 _ ?_; clear hK2 K2)); refine sxz (hK' _ (AW.st (by simp [dNum, dS, wRow, wFn, hil, hf]; rfl) ?_)); clear hK' K'; refine AW_re (tyOf_good _) fun K' hK' => ?_; (repeat (refine sxn fun K2 hK2 => ?_; simp [dNum, dS, wRow, wFn]; (repeat (refine ⟨by omega, ?_⟩)); refine hK2 _ ?_; clear hK2 K2)); refine sxn fun K2 hK2 => ?_; simp [dNum, dS, wRow, wFn]; refine callK.mc (hcc) ?_ ?_ ?_ ?_ ?_ <;> simp [dNum, dS, wRow, wFn]; refine hK2 _ ?_; clear hK2 K2; (repeat (refine sxn fun K2 hK2 => ?_; simp [dNum, dS, wRow, wFn]; (repeat (refine ⟨by omega, ?_⟩)); refine hK2 _ ?_; clear hK2 K2)); refine sxz (hK' _ ?_); clear hK' K'; refine hK5 _ (AW.norm [3, 74, 75, 76] [501, 502, 503, 504] (notIn_ok rfl) (AW.st (by simp [dNum, dS, wRow, wFn]; rfl) ?_)); refine AW_re (tyOf_good _) fun K' hK' => ?_; (repeat (refine sxn fun K2 hK2 => ?_; simp [dNum, dS, wRow, wFn]; (repeat (refine ⟨by omega, ?_⟩)); refine hK2 _ ?_; clear hK2 K2)); refine sxz (hK' _ ?_); clear hK' K'; (try simp only [thn, inb]); refine Again.mk (i + 1) (by omega) (by omega) ?_; refine Imp.to' (notIn_ok rfl) (by simp [dNum, dS, wRow, wFn]) (by simp [dNum, dS, wRow, wFn])
    ·obtain rfl : i = l.length := by omega
     refine AW_exit ?_; simp [D.le_refl, List.take_length, wRow, wFn, dS]
end Go.Proofs.YtagfbbnlbncjlaaGreatDoor
namespace Go.Proofs.YtagfbbnlbncjlaaGreatDoor
open Go.Av
set_option maxHeartbeats 8000000 in
theorem named_spec (G : Glob) (hM : HasMax G) (all : Bool) (e : Ex) (hb : bE e ≤ 2^28) : PureC Tryz.prog G 36 [dR e, dS (kAll all)] (.sl none ((namesE all e).map fun s => [dS s])) := by
 have hw := rwalk_at G hM all _ e (Nat.le_refl _) [] (by simp; omega)
 have hnm := insL_names all e
 rw [hnm] at hw; simp only [List.singleton_append] at hw; generalize namesE all e = l at hw ⊢; clear hnm; rw [dR_form] at hw ⊢; refine PureC.of_body (tyOf_good _) Tryz.func36 rfl rfl (rs := [.tmp 4]) Tryz.results36 (by simp [Tryz.ntmps36]) fun X => ?_; simp only [Tryz.ntmps36, List.map]; refine rg [0, 3] [3] (fun _ _ => trivial) fun K' hK' => ?_; (repeat (refine sxn fun K2 hK2 => ?_; simp [dNum, dS, wRow, wFn]; (repeat (refine ⟨by omega, ?_⟩)); refine hK2 _ ?_; clear hK2 K2)); refine sxz (hK' _ (AW.st (by simp [dNum, dS, wRow, wFn]; rfl) ?_)); clear hK' K'; refine rg [0, 3, 5] [3, 5] (fun _ _ => trivial) fun K' hK' => ?_; (repeat (refine sxn fun K2 hK2 => ?_; simp [dNum, dS, wRow, wFn]; (repeat (refine ⟨by omega, ?_⟩)); refine hK2 _ ?_; clear hK2 K2)); refine sxz (hK' _ (AW.st (by simp [dNum, dS, wRow, wFn]; rfl) ?_)); clear hK' K'; refine rg [0, 3, 5, 6] [3, 5, 6] (fun _ _ => trivial) fun K' hK' => ?_; (repeat (refine sxn fun K2 hK2 => ?_; simp [dNum, dS, wRow, wFn]; (repeat (refine ⟨by omega, ?_⟩)); refine hK2 _ ?_; clear hK2 K2)); refine sxz (hK' _ (AW.st (by simp [dNum, dS, wRow, wFn]; rfl) ?_)); clear hK' K'; refine rg [0, 5, 6] [3, 5, 6] (fun _ _ => trivial) fun K' hK' => ?_; (repeat (refine sxn fun K2 hK2 => ?_; simp [dNum, dS, wRow, wFn]; (repeat (refine ⟨by omega, ?_⟩)); refine hK2 _ ?_; clear hK2 K2)); refine sxz (hK' _ (AW.st (by simp [dNum, dS, wRow, wFn]; rfl) ?_)); clear hK' K'; refine AW.imp (Imp.ren (r := 3) (r' := 501) trivial (by simp)) ?_; refine AW.st (by simp [renO, renF, Go.Av.ren, renH_hlst]; rfl) ?_; refine AW.imp (Imp.ren (r := 5) (r' := 502) trivial (by simp)) ?_; refine AW.st (by simp [renO, renF, Go.Av.ren, renH_hlst]; rfl) ?_; refine AW.imp (Imp.ren (r := 6) (r' := 504) trivial (by simp)) ?_; refine AW.st (by simp [renO, renF, Go.Av.ren, renH_hlst]; rfl) ?_; refine AW.imp (Imp.adoptCell 502 0 503 9 1 rfl rfl rfl) ?_; refine AW.imp (τ := ⟨lst [(0, .d (.ip [dS (kdR e), dS (nmR e), ofR e])), (5, .ref 502 0 0), (6, .ref 504 0 0)], hlst (wRow all [])⟩) ?_ ?_
 ·refine Imp.to' (fun _ _ => trivial) (by simp [dNum, dS, wRow, wFn, wRow, wFn]) (by simp [dNum, dS, wRow, wFn, wRow, wFn])
 refine rg [5] [502, 503] (fun _ _ => trivial) fun K' hK' => ?_; (repeat (refine sxn fun K2 hK2 => ?_; simp [dNum, dS, wRow, wFn]; (repeat (refine ⟨by omega, ?_⟩)); refine hK2 _ ?_; clear hK2 K2)); refine sxn fun K2 hK2 => ?_; simp [dNum, dS, wRow, wFn]; refine callK.mc (hw) ?_ ?_ ?_ ?_ ?_ <;> simp [dNum, dS, wRow, wFn]; refine hK2 _ ?_; clear hK2 K2; (repeat (refine sxn fun K2 hK2 => ?_; simp [dNum, dS, wRow, wFn]; (repeat (refine ⟨by omega, ?_⟩)); refine hK2 _ ?_; clear hK2 K2)); refine sxz (hK' _ (AW.st (by simp [dNum, dS, wRow, wFn]; rfl) ?_)); clear hK' K'; refine rg [4] [502, 503] (fun _ _ => trivial) fun K' hK' => ?_; (repeat (refine sxn fun K2 hK2 => ?_; simp [dNum, dS, wRow, wFn, wRow, wFn]; (repeat (refine ⟨by omega, ?_⟩)); refine hK2 _ ?_; clear hK2 K2)); refine sxz (hK' _ (AW.st (by simp [dNum, dS, wRow, wFn, wRow, wFn]; rfl) ?_)); clear hK' K'
 have htk : List.take l.length (l.map fun s => [dS s]) = l.map fun s => [dS s] := List.take_of_length_le (by simp)
 simp only [dS] at htk; refine AW.imp (Imp.freeze 503 trivial) ?_; refine AW.st (by simp [dNum, dS, wRow, wFn, htk]; rfl) ?_; refine AW_ret ?_; simp [D.le, D.le.go, takeMap, dNum, dS, wRow, wFn, D.le_refl, D.leGo_refl, htk]
theorem rnames_spec (G : Glob) (hM : HasMax G) (e : Ex) (hb : bE e ≤ 2^28) : PureC Tryz.prog G 12 [dR e] (.sl none ((namesE true e).map fun s => [dS s])) := by
 have hs := named_spec G hM true e hb
 rw [dR_form] at hs ⊢; generalize namesE true e = l at hs ⊢
 have hk : dS (kAll true) = .v (.string ⟨#[98, 105, 116, 94, 126]⟩) := rfl
 rw [hk] at hs; refine PureC.of_body (tyOf_good _) Tryz.func12 rfl rfl (rs := [.tmp 2]) Tryz.results12 (by simp [Tryz.ntmps12]) fun X => ?_; simp only [Tryz.ntmps12, List.map]; refine rg [0] [] (fun _ _ => trivial) fun K' hK' => ?_; (repeat (refine sxn fun K2 hK2 => ?_; simp [dNum, dS, wRow, wFn]; (repeat (refine ⟨by omega, ?_⟩)); refine hK2 _ ?_; clear hK2 K2)); refine sxz (hK' _ (AW.st (by simp [dNum, dS, wRow, wFn]; rfl) ?_)); clear hK' K'; refine rg [2] [] (fun _ _ => trivial) fun K' hK' => ?_; (repeat (refine sxn fun K2 hK2 => ?_; simp [dNum, dS, wRow, wFn]; (repeat (refine ⟨by omega, ?_⟩)); refine hK2 _ ?_; clear hK2 K2)); refine sxn fun K2 hK2 => ?_; simp [dNum, dS, wRow, wFn]; refine callK.data (hs) (by simp; rfl) (by first | exact D.leGo_refl _ | simp [takeMap, List.map_map, Function.comp_def, D.le, D.le.go, D.le_refl, D.leGo_refl, dNum, dS, wRow, wFn]) ?_; refine hK2 _ ?_; clear hK2 K2; simp only [putd, upd_lst]; (repeat (refine sxn fun K2 hK2 => ?_; simp [dNum, dS, wRow, wFn]; (repeat (refine ⟨by omega, ?_⟩)); refine hK2 _ ?_; clear hK2 K2)); refine sxz (hK' _ (AW.st (by simp [dNum, dS, wRow, wFn]; rfl) ?_)); clear hK' K'; refine AW_ret ?_; simp [D.le, D.le.go, takeMap, dNum, dS, wRow, wFn, D.le_refl, D.leGo_refl]
theorem redges_spec (G : Glob) (hM : HasMax G) (e : Ex) (hb : bE e ≤ 2^28) : PureC Tryz.prog G 11 [dR e] (.sl none ((namesE false e).map fun s => [dS s])) := by
 have hs := named_spec G hM false e hb
 rw [dR_form] at hs ⊢; generalize namesE false e = l at hs ⊢
 have hk : dS (kAll false) = .v (.string ⟨#[94, 126]⟩) := rfl
 rw [hk] at hs; refine PureC.of_body (tyOf_good _) Tryz.func11 rfl rfl (rs := [.tmp 2]) Tryz.results11 (by simp [Tryz.ntmps11]) fun X => ?_; simp only [Tryz.ntmps11, List.map]; refine rg [0] [] (fun _ _ => trivial) fun K' hK' => ?_; (repeat (refine sxn fun K2 hK2 => ?_; simp [dNum, dS, wRow, wFn]; (repeat (refine ⟨by omega, ?_⟩)); refine hK2 _ ?_; clear hK2 K2)); refine sxz (hK' _ (AW.st (by simp [dNum, dS, wRow, wFn]; rfl) ?_)); clear hK' K'; refine rg [2] [] (fun _ _ => trivial) fun K' hK' => ?_; (repeat (refine sxn fun K2 hK2 => ?_; simp [dNum, dS, wRow, wFn]; (repeat (refine ⟨by omega, ?_⟩)); refine hK2 _ ?_; clear hK2 K2)); refine sxn fun K2 hK2 => ?_; simp [dNum, dS, wRow, wFn]; refine callK.data (hs) (by simp; rfl) (by first | exact D.leGo_refl _ | simp [takeMap, List.map_map, Function.comp_def, D.le, D.le.go, D.le_refl, D.leGo_refl, dNum, dS, wRow, wFn]) ?_; refine hK2 _ ?_; clear hK2 K2; simp only [putd, upd_lst]; (repeat (refine sxn fun K2 hK2 => ?_; simp [dNum, dS, wRow, wFn]; (repeat (refine ⟨by omega, ?_⟩)); refine hK2 _ ?_; clear hK2 K2)); refine sxz (hK' _ (AW.st (by simp [dNum, dS, wRow, wFn]; rfl) ?_)); clear hK' K'; refine AW_ret ?_; simp [D.le, D.le.go, takeMap, dNum, dS, wRow, wFn, D.le_refl, D.leGo_refl]
end Go.Proofs.YtagfbbnlbncjlaaGreatDoor
namespace Go.Proofs.YtagfbbnlbncjlaaGreatDoor
open Go.Av
theorem idx_ixT2 {l : List Tx} {s : Tx} (h : s ∈ l) : idx (fun x => x == s) l = (ixT l s : Int) := by
 refine idx_hit (ixT_lt h) (by simp [ixT_get h]) fun i hi => ?_
 have := List.not_of_lt_findIdx (p := (· == s)) hi
 simpa using this
set_option maxHeartbeats 1000000 in
theorem rix_spec (G : Glob) (k0 : Option Bool) (t : List (List UInt8)) (s : List UInt8) (hs : s ≠ []) (ht : t.length < 2^60) : PureC Tryz.prog G 39 [.sl k0 (t.map fun x => [dS x]), dS s] (dNum (idx (fun x => x == s) t)) := by
 have hs0 : s.isEmpty = false := by rw [List.isEmpty_eq_false_iff]; exact hs
 refine PureC.of_body (tyOf_good _) Tryz.func39 rfl rfl (rs := [.tmp 4]) Tryz.results39 (by simp [Tryz.ntmps39]) fun X => ?_; simp only [Tryz.ntmps39, List.map]; refine rg [0, 1] [] (fun _ _ => trivial) fun K' hK' => ?_; (repeat (refine sxn fun K2 hK2 => ?_; simp [dNum]; (repeat (refine ⟨by omega, ?_⟩)); refine hK2 _ ?_; clear hK2 K2)); refine sxz (hK' _ (AW.st (by simp [dNum]; rfl) ?_)); clear hK' K'; refine AW_then fun K1 hK1 => ?_; refine rg [1, 7, 8, 9] [] (fun _ _ => trivial) fun K' hK' => ?_; (repeat (refine sxn fun K2 hK2 => ?_; simp [dNum]; (repeat (refine ⟨by omega, ?_⟩)); refine hK2 _ ?_; clear hK2 K2)); refine sxz (hK' _ (AW.st (by simp [dNum]; rfl) ?_)); clear hK' K'; refine AW_for (S := Nat) (fun n => n ≤ t.length ∧ ∀ i (hi : i < t.length), i < n → (t[i] == s) = false) (fun n => ⟨lst [(1, .d (dS s)), (7, .d (.sl k0 (t.map fun x => [dS x]))), (8, int t.length), (9, int n)], hlst []⟩) (fun n => t.length - n) 0 ?_ (by simp) ?_
 ·refine Imp.to' (fun _ _ => trivial) (by simp [dNum]) (by simp [dNum])
 ·rintro n ⟨hn, hp⟩
  refine rg [1, 7, 8, 9, 10] [] (fun _ _ => trivial) fun K' hK' => ?_; (repeat (refine sxn fun K2 hK2 => ?_; simp [dNum]; (repeat (refine ⟨by omega, ?_⟩)); refine hK2 _ ?_; clear hK2 K2)); refine sxz (hK' _ (AW.st (by simp [dNum]; rfl) ?_)); clear hK' K'; refine AW_then fun K2 hK2 => ?_; refine AW_cond' (b := n < t.length) (by simp [D.le, D.le.go, takeMap, dNum]) (fun hc => ?_) (fun hc => ?_)
  ·have hnt : n < t.length := hc
   refine AW_skip (hK2 _ ?_); refine AW_then fun K3 hK3 => ?_; refine AW_block ?_; refine rg [1, 5, 6, 7, 8, 9] [] (fun _ _ => trivial) fun K' hK' => ?_; (repeat (refine sxn fun K2 hK2 => ?_; simp [dNum, hnt]; (repeat (refine ⟨by omega, ?_⟩)); refine hK2 _ ?_; clear hK2 K2)); refine sxz (hK' _ (AW.st (by simp [dNum, hnt]; rfl) ?_)); clear hK' K'
   cases he : (t[n] == s) with
   | true =>
    have he2 : t[n] = s := by simpa using he
    refine rg [1, 5, 7, 8, 9, 20] [] (fun _ _ => trivial) fun K' hK' => ?_; (repeat (refine sxn fun K2 hK2 => ?_; simp [dNum, dS, he2, binS, bs_nil, bs_list, hs, hs0]; (repeat (refine ⟨by omega, ?_⟩)); refine hK2 _ ?_; clear hK2 K2)); refine sxz (hK' _ (AW.st (by simp [dNum, dS, he2, binS, bs_nil, bs_list, hs, hs0]; rfl) ?_)); clear hK' K'; refine AW_tt rfl ?_; refine rg [4] [] (fun _ _ => trivial) fun K' hK' => ?_; (repeat (refine sxn fun K2 hK2 => ?_; simp [dNum]; (repeat (refine ⟨by omega, ?_⟩)); refine hK2 _ ?_; clear hK2 K2)); refine sxz (hK' _ (AW.st (by simp [dNum]; rfl) ?_)); clear hK' K'; refine AW_ret ?_; simp [D.le, D.le.go, takeMap, dNum]; exact (idx_hit hnt he fun i hi => hp i (by omega) hi).symm
   | false =>
    have he2 : ¬ t[n] = s := by simpa using he
    refine rg [1, 5, 7, 8, 9, 20] [] (fun _ _ => trivial) fun K' hK' => ?_; (repeat (refine sxn fun K2 hK2 => ?_; simp [dNum, dS, he, he2, binS, bs_nil, bs_list]; (repeat (refine ⟨by omega, ?_⟩)); refine hK2 _ ?_; clear hK2 K2)); refine sxz (hK' _ (AW.st (by simp [dNum, dS, he, he2, binS, bs_nil, bs_list]; rfl) ?_)); clear hK' K'; refine AW_ff rfl ?_; refine AW_skip ?_; refine hK3 _ (AW.norm [1, 7, 8, 9] [] (fun _ _ => trivial) (AW.st (by simp [dNum]; rfl) ?_)); refine AW_re (tyOf_good _) fun K' hK' => ?_; (repeat (refine sxn fun K2 hK2 => ?_; simp [dNum]; (repeat (refine ⟨by omega, ?_⟩)); refine hK2 _ ?_; clear hK2 K2)); refine sxz (hK' _ ?_); clear hK' K'; (try simp only [thn, inb]); refine Again.mk (n + 1) ⟨by omega, fun i hi hin => ?_⟩ (by omega) ?_
    ·by_cases h : i = n
     ·subst h; exact he
     ·exact hp i hi (by omega)
    refine Imp.to' (fun _ _ => trivial) (by simp [dNum, dS]) (by simp [dNum, dS])
  ·refine AW_exit (hK1 _ ?_); refine rg [4] [] (fun _ _ => trivial) fun K' hK' => ?_; (repeat (refine sxn fun K2 hK2 => ?_; simp [dNum]; (repeat (refine ⟨by omega, ?_⟩)); refine hK2 _ ?_; clear hK2 K2)); refine sxz (hK' _ (AW.st (by simp [dNum]; rfl) ?_)); clear hK' K'; refine AW_ret ?_; simp [D.le, D.le.go, takeMap, dNum]; exact (idx_miss fun i hi => hp i hi (by omega)).symm
end Go.Proofs.YtagfbbnlbncjlaaGreatDoor
namespace Go.Proofs.YtagfbbnlbncjlaaGreatDoor
open Go.Av
theorem and_one2 (q : Nat) (h : q < 2^62) : bitsI .and .i64 (q : Int) 1 = ((q % 2 : Nat) : Int) := by
 unfold bitsI
 dsimp only
 have h1 : (BitVec.ofInt 64 (q : Int)).toNat = q := by
  rw [BitVec.toNat_ofInt]; omega
 have h2 : (BitVec.ofInt 64 (1 : Int)).toNat = 1 := by decide
 have h3 : (BitVec.ofInt IntKind.i64.bits (q : Int) &&& BitVec.ofInt IntKind.i64.bits (1 : Int)).toNat = q % 2 := by
  show (BitVec.ofInt 64 (q : Int) &&& BitVec.ofInt 64 (1 : Int)).toNat = q % 2
  rw [BitVec.toNat_and, h1, h2, Nat.and_one_is_mod]
 rw [h3]
 have : q % 2 = 0 ∨ q % 2 = 1 := by omega
 rcases this with h | h <;> rw [h] <;> decide
theorem shr_nat2 (k d : Nat) (h : d ≤ 8) : (k : Int).fdiv (2 ^ (min d IntKind.i64.bits)) = ((k / 2^d : Nat) : Int) := by
 have e : min d IntKind.i64.bits = d := by
  have : IntKind.i64.bits = 64 := rfl
  simp [this]; omega
 rw [e, Int.fdiv_eq_ediv_of_nonneg _ (by exact Int.le_of_lt (Int.pow_pos (by decide)))]; simp
theorem wrap_shl2 {V : Nat} (h : V ≤ 8) : IntKind.i64.wrap (2 ^ (min V IntKind.i64.bits)) = ((2^V : Nat) : Int) := by
 rcases (show V = 0 ∨ V = 1 ∨ V = 2 ∨ V = 3 ∨ V = 4 ∨ V = 5 ∨ V = 6 ∨ V = 7 ∨ V = 8 by omega) with rfl | rfl | rfl | rfl | rfl | rfl | rfl | rfl | rfl <;> decide
def dCase (n k : Nat) (l : List Tx) (off : Nat) : List D := [.ip [dNum k], .ip [dNum n], .ip [dNum off], .ip [.sl none (l.map fun s => [dS s])]]
set_option maxHeartbeats 4000000 in
theorem case_spec (G : Glob) (l : List Tx) (n k off : Nat) (hn : n ≤ 8) (hk : k < 2^n) (hl : off + l.length ≤ n) (s : Tx) (hs : s ∈ l) (hs0 : s ≠ []) : PureC Tryz.prog G 92 (dS s :: dCase n k l off) (.v (.bool (bitK n k (off + ixT l s + 1)))) := by
 have hi := rix_spec G none l s hs0 (by omega)
 rw [idx_ixT2 hs] at hi
 have hlt := ixT_lt hs
 unfold bitK dCase; generalize ixT l s = j at hi hlt ⊢
 obtain ⟨d, hd⟩ : ∃ d, n - (off + j + 1) = d := ⟨_, rfl⟩
 have hdI : (n : Int) - 1 - (off : Int) - (j : Int) = (d : Int) := by omega
 have hb0 : k.testBit d = (((k / 2^d % 2 : Nat) : Int) == 1) := by
  have h2 : k.testBit d = (k / 2^d).testBit 0 := by rw [Nat.testBit_div_two_pow]; simp
  rw [h2, Nat.testBit_zero]
  have : k / 2^d % 2 = 0 ∨ k / 2^d % 2 = 1 := by omega
  rcases this with h | h <;> rw [h] <;> decide
 rw [hd]
 have hp : 2^n ≤ 2^8 := Nat.pow_le_pow_right (by decide) hn
 refine PureC.of_body (tyOf_good _) Tryz.func92 rfl rfl (rs := [.tmp 6]) Tryz.results92 (by simp [Tryz.ntmps92]) fun X => ?_; simp only [Tryz.ntmps92, List.map]; refine rg [0, 1, 2, 3, 4] [] (fun _ _ => trivial) fun K' hK' => ?_; (repeat (refine sxn fun K2 hK2 => ?_; simp [dNum]; (repeat (refine ⟨by omega, ?_⟩)); refine hK2 _ ?_; clear hK2 K2)); refine sxz (hK' _ (AW.st (by simp [dNum]; rfl) ?_)); clear hK' K'; refine AW_rd (tyOf_good _) (by kernel_rfl) [6] [] (fun _ _ => trivial) (by kernel_rfl) fun K' hK' => ?_; (repeat (refine sxd_next fun K2 hK2 => ?_; simp [dNum, hdI, shI]; (repeat (refine ⟨by omega, ?_⟩)); refine hK2 _ ?_; clear hK2 K2)); refine sxd_next fun K2 hK2 => ?_; simp [dNum, hdI, shI]; refine callQ.data (hi) (by simp; rfl) (by simp; rfl) (by first | exact D.leGo_refl _ | simp [takeMap, List.map_map, Function.comp_def, D.le, D.le.go, D.le_refl, D.leGo_refl, dNum, hdI, shI]) ?_; refine hK2 _ ?_; clear hK2 K2; simp only [putd, upd_lst]; (repeat (refine sxd_next fun K2 hK2 => ?_; simp [dNum, hdI, shI]; (repeat (refine ⟨by omega, ?_⟩)); refine hK2 _ ?_; clear hK2 K2)); refine sxd_nil (hK' _ ?_); refine AW.st (by simp [dNum, hdI, shI]; rfl) ?_; clear hK' K'; refine AW_ret ?_; simp [D.le, D.le.go, takeMap, dNum]
 have hdv : k / 2^d ≤ k := Nat.div_le_self _ _
 rw [shr_nat2 k d (by omega), and_one2 _ (by omega), hb0]
 rfl
theorem get_spec (G : Glob) (l : List Tx) (n k off : Nat) : PureC Tryz.prog G 91 [.sl none (l.map fun s => [dS s]), dNum off, .ip [dNum k], .ip [dNum n]] (.fn (.func 92) (dCase n k l off)) := by
 unfold dCase; refine PureC.of_body (tyOf_good _) Tryz.func91 rfl rfl (rs := [.tmp 6]) Tryz.results91 (by simp [Tryz.ntmps91]) fun X => ?_; simp only [Tryz.ntmps91, List.map]; refine rg [2, 3, 4, 5] [4, 5] (fun _ _ => trivial) fun K' hK' => ?_; (repeat (refine sxn fun K2 hK2 => ?_; simp [dNum]; (repeat (refine ⟨by omega, ?_⟩)); refine hK2 _ ?_; clear hK2 K2)); refine sxz (hK' _ (AW.st (by simp [dNum]; rfl) ?_)); clear hK' K'; refine AW.imp (Imp.freezeB 4 trivial) ?_; refine AW.st (by simp [dNum]; rfl) ?_; refine AW.imp (Imp.freezeB 5 trivial) ?_; refine AW.st (by simp [dNum]; rfl) ?_; refine rg [6] [] (fun _ _ => trivial) fun K' hK' => ?_; (repeat (refine sxn fun K2 hK2 => ?_; simp [dNum]; (repeat (refine ⟨by omega, ?_⟩)); refine hK2 _ ?_; clear hK2 K2)); refine sxz (hK' _ (AW.st (by simp [dNum]; rfl) ?_)); clear hK' K'; refine AW_ret ?_; simp [D.le, D.le.go, takeMap, dNum, D.le_refl, D.leGo_refl]
def agK (ns es : List Tx) (a b : Ex) (k : Nat) : Bool := evE (isTs ns (bitK (ns.length + es.length) k)) (wasTs ns es (bitK (ns.length + es.length) k)) a == evE (isTs ns (bitK (ns.length + es.length) k)) (wasTs ns es (bitK (ns.length + es.length) k)) b
def allAg (ns es : List Tx) (a b : Ex) : Bool := (List.range (2^(ns.length + es.length))).all (agK ns es a b)
def sRow (s : Bool) : List (Nat × Row) := [(501, .box 4 [.d (.v (.bool s))])]
section
variable {ns es : List Tx} {a b : Ex} (h8 : ns.length + es.length ≤ 8) (hNa : ∀ s ∈ nmsE true a, s ∈ ns) (hEa : ∀ s ∈ nmsE false a, s ∈ es) (ha : WfE a) (hNb : ∀ s ∈ nmsE true b, s ∈ ns) (hEb : ∀ s ∈ nmsE false b, s ∈ es) (hb : WfE b)
include h8 hNa hEa ha hNb hEb hb
set_option maxHeartbeats 8000000 in
theorem look_spec (G : Glob) (k : Nat) (hk : k < 2^(ns.length + es.length)) (hba : bE a ≤ 2^28) (hbb : bE b ≤ 2^28) :
  MC Tryz.prog G [501] 62 [.d (.fn (.func 92) (dCase (ns.length + es.length) k ns 0)), .d (.fn (.func 92) (dCase (ns.length + es.length) k es ns.length)), .ref 501 0 0, .d (.ip [dR a]), .d (.ip [dR b])] (hlst (sRow true)) (.d (.v (.bool (!agK ns es a b k)))) (hlst (sRow (agK ns es a b k))) := by
 have t1 : TellsOn (fun s => s ∈ ns ∧ s ≠ []) G 92 (dCase (ns.length + es.length) k ns 0) (isTs ns (bitK (ns.length + es.length) k)) := fun s hs => by
  have := case_spec G ns (ns.length + es.length) k 0 h8 hk (by omega) s hs.1 hs.2
  rwa [Nat.zero_add] at this
 have t2 : TellsOn (fun s => s ∈ es ∧ s ≠ []) G 92 (dCase (ns.length + es.length) k es ns.length) (wasTs ns es (bitK (ns.length + es.length) k)) := fun s hs => case_spec G es (ns.length + es.length) k ns.length h8 hk (by omega) s hs.1 hs.2
 have ask : ∀ {e : Ex}, WfE e → (∀ s ∈ nmsE true e, s ∈ ns) → (∀ s ∈ nmsE false e, s ∈ es) → AskE (fun s => s ∈ ns ∧ s ≠ []) (fun s => s ∈ es ∧ s ≠ []) e := fun {e} hw h1 h2 => ask_in hw (fun s hs => ⟨h1 s hs, nameF_nn (nms_nameF true _ e (Nat.le_refl _) hw s hs)⟩) fun s hs => ⟨h2 s hs, nameF_nn (nms_nameF false _ e (Nat.le_refl _) hw s hs)⟩
 have e1 := reval_on G _ _ _ _ _ _ _ _ t1 t2 a (ask ha hNa hEa) ha hba
 have e2 := reval_on G _ _ _ _ _ _ _ _ t1 t2 b (ask hb hNb hEb) hb hbb
 unfold agK; generalize evE (isTs ns (bitK (ns.length + es.length) k)) (wasTs ns es (bitK (ns.length + es.length) k)) a = x at e1 ⊢; generalize evE (isTs ns (bitK (ns.length + es.length) k)) (wasTs ns es (bitK (ns.length + es.length) k)) b = y at e2 ⊢
 obtain ⟨ca, hca⟩ := dR_ip a
 obtain ⟨cb, hcb⟩ := dR_ip b
 rw [hca] at e1 ⊢; rw [hcb] at e2 ⊢; generalize dCase (ns.length + es.length) k ns 0 = d1 at *; generalize dCase (ns.length + es.length) k es ns.length = d2 at *; refine MC.of_body (tyOf_good _) Tryz.func62 rfl rfl (rs := [.tmp 7]) Tryz.results62 (by simp [Tryz.ntmps62]) rfl fun X => ?_; simp only [Tryz.ntmps62]; refine rg [0, 1, 2, 3, 4] [501] (notIn_ok rfl) fun K' hK' => ?_; (repeat (refine sxn fun K2 hK2 => ?_; simp [sRow]; (repeat (refine ⟨by omega, ?_⟩)); refine hK2 _ ?_; clear hK2 K2)); refine sxz (hK' _ (AW.st (by simp [sRow]; rfl) ?_)); clear hK' K'; refine AW_rd (tyOf_good _) (by kernel_rfl) [2] [501] (notIn_ok rfl) (by kernel_rfl) fun K' hK' => ?_; (repeat (refine sxd_next fun K2 hK2 => ?_; simp [sRow]; (repeat (refine ⟨by omega, ?_⟩)); refine hK2 _ ?_; clear hK2 K2)); refine sxd_next fun K2 hK2 => ?_; simp [sRow]; refine callQ.data (e1) (by simp; rfl) (by simp; rfl) (by first | exact D.leGo_refl _ | simp [takeMap, List.map_map, Function.comp_def, D.le, D.le.go, D.le_refl, D.leGo_refl, sRow]) ?_; refine hK2 _ ?_; clear hK2 K2; simp only [putd, upd_lst]; (repeat (refine sxd_next fun K2 hK2 => ?_; simp [sRow]; (repeat (refine ⟨by omega, ?_⟩)); refine hK2 _ ?_; clear hK2 K2)); refine sxd_next fun K2 hK2 => ?_; simp [sRow]; refine callQ.data (e2) (by simp; rfl) (by simp; rfl) (by first | exact D.leGo_refl _ | simp [takeMap, List.map_map, Function.comp_def, D.le, D.le.go, D.le_refl, D.leGo_refl, sRow]) ?_; refine hK2 _ ?_; clear hK2 K2; simp only [putd, upd_lst]; (repeat (refine sxd_next fun K2 hK2 => ?_; simp [sRow]; (repeat (refine ⟨by omega, ?_⟩)); refine hK2 _ ?_; clear hK2 K2)); refine sxd_nil (hK' _ ?_); refine AW.st (by simp [sRow]; rfl) ?_; clear hK' K'; refine rg [7] [501] (notIn_ok rfl) fun K' hK' => ?_; (repeat (refine sxn fun K2 hK2 => ?_; simp [sRow]; (repeat (refine ⟨by omega, ?_⟩)); refine hK2 _ ?_; clear hK2 K2)); refine sxz (hK' _ (AW.st (by simp [sRow]; rfl) ?_)); clear hK' K'; refine AW_ret ?_; simp [sRow, D.le]
set_option maxHeartbeats 16000000 in
theorem cases_spec (G : Glob) (hba : bE a ≤ 2^28) (hbb : bE b ≤ 2^28) : MC Tryz.prog G [501] 60 [.d (.sl none (ns.map fun s => [dS s])), .d (.sl none (es.map fun s => [dS s])), .fn (.func 62) [.ref 501 0 0, .d (.ip [dR a]), .d (.ip [dR b])]] (hlst (sRow true)) (.d (.tup [])) (hlst (sRow (allAg ns es a b))) := by
 have hlook := fun k hk => look_spec h8 hNa hEa ha hNb hEb hb G k hk hba hbb
 have hp8 : 2^(ns.length + es.length) ≤ 256 := (Nat.pow_le_pow_right (by decide) h8 : 2^(ns.length + es.length) ≤ 2^8)
 have hp1 : 1 ≤ 2^(ns.length + es.length) := Nat.one_le_two_pow
 have hshl := wrap_shl2 h8
 have hg1 := fun k => get_spec G ns (ns.length + es.length) k 0
 have hg2 := fun k => get_spec G es (ns.length + es.length) k ns.length
 unfold allAg; generalize agK ns es a b = ag at hlook ⊢; clear hNa hEa ha hNb hEb hb
 obtain ⟨n, hn⟩ : ∃ n, ns.length + es.length = n := ⟨_, rfl⟩
 have hnI : (ns.length : Int) + (es.length : Int) = (n : Int) := by omega
 simp only [hn] at hlook hg1 hg2 hp8 hp1 hshl h8 ⊢; generalize hP : 2^n = P at hlook hp8 hp1 hshl ⊢
 obtain ⟨ca, hca⟩ := dR_ip a
 obtain ⟨cb, hcb⟩ := dR_ip b
 rw [hca, hcb] at hlook ⊢; refine MC.of_body (tyOf_good _) Tryz.func60 rfl rfl (rs := []) Tryz.results60 (by simp [Tryz.ntmps60]) rfl fun X => ?_; simp only [Tryz.ntmps60]; refine rg [0, 1, 2, 6] [501, 6] (notIn_ok rfl) fun K' hK' => ?_; (repeat (refine sxn fun K2 hK2 => ?_; simp [sRow, dNum, hnI]; (repeat (refine ⟨by omega, ?_⟩)); refine hK2 _ ?_; clear hK2 K2)); refine sxz (hK' _ (AW.st (by simp [sRow, dNum, hnI]; rfl) ?_)); clear hK' K'; refine AW.imp (Imp.freezeB 6 (by decide)) ?_; refine AW.st (by simp [sRow, dNum]; rfl) ?_; refine rg [0, 1, 2, 6, 7] [501, 7] (notIn_ok rfl) fun K' hK' => ?_; (repeat (refine sxn fun K2 hK2 => ?_; simp [sRow, dNum, shI, hshl]; (repeat (refine ⟨by omega, ?_⟩)); refine hK2 _ ?_; clear hK2 K2)); refine sxz (hK' _ (AW.st (by simp [sRow, dNum, shI, hshl]; rfl) ?_)); clear hK' K'; refine AW_for (S := Nat) (fun m => m ≤ P ∧ ∀ j, m ≤ j → j < P → ag j = true) (fun m => ⟨lst [(0, .d (.sl none (ns.map fun s => [dS s]))), (1, .d (.sl none (es.map fun s => [dS s]))), (2, .fn (.func 62) [.ref 501 0 0, .d (.ip [.ip ca]), .d (.ip [.ip cb])]), (6, .d (.ip [dNum n])), (7, .ref 7 0 0)], hlst (sRow true ++ [(7, .box 3 [.d (dNum ((m : Int) - 1))])])⟩) (fun m => m) P ?_ ⟨Nat.le_refl _, fun j h1 h2 => by omega⟩ ?_
 ·refine Imp.to' (notIn_ok rfl) (by simp [sRow, dNum]) (by simp [sRow, dNum])
 ·rintro m ⟨hm, hall⟩
  refine AW_then fun K1 hK1 => ?_
  cases m with
  | zero =>
   have hA : (List.range P).all ag = true := by
    rw [List.all_eq_true]
    intro j hj
    exact hall j (Nat.zero_le _) (by simpa using hj)
   refine rg [0, 1, 2, 6, 7, 18] [501, 7] (notIn_ok rfl) fun K' hK' => ?_; (repeat (refine sxn fun K2 hK2 => ?_; simp [sRow, dNum]; (repeat (refine ⟨by omega, ?_⟩)); refine hK2 _ ?_; clear hK2 K2)); refine sxz (hK' _ (AW.st (by simp [sRow, dNum]; rfl) ?_)); clear hK' K'; refine AW_ff rfl ?_; refine AW_exit ?_; rw [hA]; simp [sRow, inb, atEndM, endM, D.le, D.le.go]
  | succ k =>
   have hkP : k < P := by omega
   have hkI : ((k + 1 : Nat) : Int) - 1 = (k : Int) := by omega
   have hk0 : (0 : Int) ≤ (k : Int) := by omega
   have hl := hlook k hkP
   have hg1 := hg1 k
   have hg2 := hg2 k
   rw [hkI]; refine rg [0, 1, 2, 6, 7, 18] [501, 7] (notIn_ok rfl) fun K' hK' => ?_; (repeat (refine sxn fun K2 hK2 => ?_; simp [sRow, dNum, hk0]; (repeat (refine ⟨by omega, ?_⟩)); refine hK2 _ ?_; clear hK2 K2)); refine sxz (hK' _ (AW.st (by simp [sRow, dNum, hk0]; rfl) ?_)); clear hK' K'; refine AW_cond true (by simp [hk0]) (fun _ => ?_) (fun h => by cases h); refine AW_skip (hK1 _ ?_); refine AW_then fun K2 hK2 => ?_; refine AW_block ?_; refine AW.imp (Imp.freezeB 7 (by decide)) ?_; refine AW.st (by simp [sRow, dNum]; rfl) ?_; refine rg [0, 1, 2, 6, 7, 8] [501] (notIn_ok rfl) fun K' hK' => ?_; (repeat (refine sxn fun K2 hK2 => ?_; simp [sRow, dNum]; (repeat (refine ⟨by omega, ?_⟩)); refine hK2 _ ?_; clear hK2 K2)); refine sxz (hK' _ (AW.st (by simp [sRow, dNum]; rfl) ?_)); clear hK' K'
   cases hag : ag k with
   | false =>
    rw [hag] at hl
    have hA : (List.range P).all ag = false := by
     rw [List.all_eq_false]; exact ⟨k, by simpa using hkP, by simp [hag]⟩
    refine rg [0, 1, 2, 6, 7, 31] [501] (notIn_ok rfl) fun K' hK' => ?_; (repeat (refine sxn fun K2 hK2 => ?_; simp [sRow, dNum]; (repeat (refine ⟨by omega, ?_⟩)); refine hK2 _ ?_; clear hK2 K2)); refine sxn fun K2 hK2 => ?_; simp [sRow, dNum]; refine callK.data (hg1) (by simp; rfl) (by first | exact D.leGo_refl _ | simp [takeMap, List.map_map, Function.comp_def, D.le, D.le.go, D.le_refl, D.leGo_refl, sRow, dNum]) ?_; refine hK2 _ ?_; clear hK2 K2; simp only [putd, upd_lst]; (repeat (refine sxn fun K2 hK2 => ?_; simp [sRow, dNum]; (repeat (refine ⟨by omega, ?_⟩)); refine hK2 _ ?_; clear hK2 K2)); refine sxn fun K2 hK2 => ?_; simp [sRow, dNum]; refine callK.data (hg2) (by simp; rfl) (by first | exact D.leGo_refl _ | simp [takeMap, List.map_map, Function.comp_def, D.le, D.le.go, D.le_refl, D.leGo_refl, sRow, dNum]) ?_; refine hK2 _ ?_; clear hK2 K2; simp only [putd, upd_lst]; (repeat (refine sxn fun K2 hK2 => ?_; simp [sRow, dNum]; (repeat (refine ⟨by omega, ?_⟩)); refine hK2 _ ?_; clear hK2 K2)); refine sxn fun K2 hK2 => ?_; simp [sRow, dNum]; refine callK.mc (hl) ?_ ?_ ?_ ?_ ?_ <;> simp [sRow, dNum]; refine hK2 _ ?_; clear hK2 K2; (repeat (refine sxn fun K2 hK2 => ?_; simp [sRow, dNum]; (repeat (refine ⟨by omega, ?_⟩)); refine hK2 _ ?_; clear hK2 K2)); refine sxz (hK' _ (AW.st (by simp [sRow, dNum]; rfl) ?_)); clear hK' K'; refine AW_tt rfl ?_; refine AW_ret ?_; simp [sRow, hA, D.le, D.le.go]
   | true =>
    rw [hag] at hl; refine rg [0, 1, 2, 6, 7, 31] [501] (notIn_ok rfl) fun K' hK' => ?_; (repeat (refine sxn fun K2 hK2 => ?_; simp [sRow, dNum]; (repeat (refine ⟨by omega, ?_⟩)); refine hK2 _ ?_; clear hK2 K2)); refine sxn fun K2 hK2 => ?_; simp [sRow, dNum]; refine callK.data (hg1) (by simp; rfl) (by first | exact D.leGo_refl _ | simp [takeMap, List.map_map, Function.comp_def, D.le, D.le.go, D.le_refl, D.leGo_refl, sRow, dNum]) ?_; refine hK2 _ ?_; clear hK2 K2; simp only [putd, upd_lst]; (repeat (refine sxn fun K2 hK2 => ?_; simp [sRow, dNum]; (repeat (refine ⟨by omega, ?_⟩)); refine hK2 _ ?_; clear hK2 K2)); refine sxn fun K2 hK2 => ?_; simp [sRow, dNum]; refine callK.data (hg2) (by simp; rfl) (by first | exact D.leGo_refl _ | simp [takeMap, List.map_map, Function.comp_def, D.le, D.le.go, D.le_refl, D.leGo_refl, sRow, dNum]) ?_; refine hK2 _ ?_; clear hK2 K2; simp only [putd, upd_lst]; (repeat (refine sxn fun K2 hK2 => ?_; simp [sRow, dNum]; (repeat (refine ⟨by omega, ?_⟩)); refine hK2 _ ?_; clear hK2 K2)); refine sxn fun K2 hK2 => ?_; simp [sRow, dNum]; refine callK.mc (hl) ?_ ?_ ?_ ?_ ?_ <;> simp [sRow, dNum]; refine hK2 _ ?_; clear hK2 K2; (repeat (refine sxn fun K2 hK2 => ?_; simp [sRow, dNum]; (repeat (refine ⟨by omega, ?_⟩)); refine hK2 _ ?_; clear hK2 K2)); refine sxz (hK' _ (AW.st (by simp [sRow, dNum]; rfl) ?_)); clear hK' K'; refine AW_ff rfl ?_; refine AW_skip (hK2 _ ?_); refine AW_then fun K3 hK3 => ?_; refine rg [0, 1, 2, 6, 32] [501] (notIn_ok rfl) fun K' hK' => ?_; (repeat (refine sxn fun K2 hK2 => ?_; simp [sRow, dNum]; (repeat (refine ⟨by omega, ?_⟩)); refine hK2 _ ?_; clear hK2 K2)); refine sxz (hK' _ (AW.st (by simp [sRow, dNum]; rfl) ?_)); clear hK' K'; refine AW_re (tyOf_good _) fun K' hK' => ?_; (repeat (refine sxn fun K2 hK2 => ?_; simp [sRow, dNum]; (repeat (refine ⟨by omega, ?_⟩)); refine hK2 _ ?_; clear hK2 K2)); refine sxz (hK' _ ?_); clear hK' K'; refine hK3 _ (AW.norm [0, 1, 2, 6, 7] [501, 7] (notIn_ok rfl) (AW.st (by simp [sRow, dNum]; rfl) ?_)); refine AW_re (tyOf_good _) fun K' hK' => ?_; (repeat (refine sxn fun K2 hK2 => ?_; simp [sRow, dNum]; (repeat (refine ⟨by omega, ?_⟩)); refine hK2 _ ?_; clear hK2 K2)); refine sxz (hK' _ ?_); clear hK' K'; (try simp only [thn, inb]); refine Again.mk k ⟨by omega, fun j h1 h2 => ?_⟩ (by omega) ?_
    ·by_cases h : j = k
     ·subst h; exact hag
     ·exact hall j (by omega) h2
    refine Imp.to' (notIn_ok rfl) (by simp [sRow, dNum]) (by simp [sRow, dNum])
end
end Go.Proofs.YtagfbbnlbncjlaaGreatDoor
namespace Go.Proofs.YtagfbbnlbncjlaaGreatDoor
open Go.Av
set_option maxHeartbeats 16000000 in
theorem same_spec (G : Glob) (hG : HasErr G) (a b : Ex) (ha : WfE a) (hb : WfE b) (hab : bE a ≤ 2^24) (hbb : bE b ≤ 2^24) (hs : szN a + szN b ≤ 140) (h6 : (namesE true (difE a b)).length + (namesE false (difE a b)).length ≤ 6) :
  PureC Tryz.prog G 26 [dE a, dE b] (.tup [.v (.bool (sameE a b)), .v .nilIface]) := by
 have hsz := difE_sz a b
 have hof := gof_spec G (difE a b) (difE_wf ha hb) (by simp only [difE, bE, bEs]; omega) (by omega)
 have hso := gsolve_e G (difE a b) (difE_wf ha hb) (by omega) h6
 rw [allE_eq] at hso; unfold sameE; generalize (srchE (difE a b)).2.1 = tr at hso; generalize (srchE (difE a b)).1 = r at hso ⊢
 have hd : dE (difE a b) = .ifc 116 (.sl none [[.ifc 113 (.sl none [[dE a], [.ifc 111 (.agg [dE b])]])], [.ifc 113 (.sl none [[.ifc 111 (.agg [dE a])], [dE b]])]]) := by simp [difE, dE, dEs]
 rw [hd] at hof
 have hbd := (tsE_bounds (difE a b) (by omega) h6).2.1
 generalize tsE (difE a b) = R at hof hso hbd
 obtain ⟨ta, ca, hca⟩ := dE_ifc a
 obtain ⟨tb, cb, hcb⟩ := dE_ifc b
 rw [hca, hcb] at hof ⊢; refine PureC.of_body (tyOf_good _) Tryz.func26 rfl rfl (rs := [.tmp 4, .tmp 5]) Tryz.results26 (by simp [Tryz.ntmps26]) fun X => ?_; simp only [Tryz.ntmps26, List.map]; refine rg [0, 1] [] (fun _ _ => trivial) fun K' hK' => ?_; (repeat (refine sxn fun K2 hK2 => ?_; simp [dNum]; (repeat (refine ⟨by omega, ?_⟩)); refine hK2 _ ?_; clear hK2 K2)); refine sxz (hK' _ (AW.st (by simp [dNum]; rfl) ?_)); clear hK' K'; refine AW_then fun K1 hK1 => ?_; refine rg [0, 1, 15] [] (fun _ _ => trivial) fun K' hK' => ?_; (repeat (refine sxn fun K2 hK2 => ?_; simp [dNum]; (repeat (refine ⟨by omega, ?_⟩)); refine hK2 _ ?_; clear hK2 K2)); refine sxz (hK' _ (AW.st (by simp [dNum]; rfl) ?_)); clear hK' K'; refine AW_ff rfl ?_; refine AW_skip (hK1 _ ?_); refine rg [6] [29] (fun _ _ => trivial) fun K' hK' => ?_; (repeat (refine sxn fun K2 hK2 => ?_; simp [dNum]; (repeat (refine ⟨by omega, ?_⟩)); refine hK2 _ ?_; clear hK2 K2)); refine sxz (hK' _ (AW.st (by simp [dNum]; rfl) ?_)); clear hK' K'; refine AW.imp (Imp.freeze 29 trivial) ?_; refine AW.st (by simp [dNum]; rfl) ?_; refine rg [7, 8, 9] [502, 7] (fun _ _ => trivial) fun K' hK' => ?_; (repeat (refine sxn fun K2 hK2 => ?_; simp [dNum]; (repeat (refine ⟨by omega, ?_⟩)); refine hK2 _ ?_; clear hK2 K2)); refine sxn fun K2 hK2 => ?_; simp [dNum]; refine callK.mc (hof) ?_ ?_ ?_ ?_ ?_ <;> simp [dNum]; refine hK2 _ ?_; clear hK2 K2; (repeat (refine sxn fun K2 hK2 => ?_; simp [dNum]; (repeat (refine ⟨by omega, ?_⟩)); refine hK2 _ ?_; clear hK2 K2)); refine sxz (hK' _ (AW.st (by simp [dNum]; rfl) ?_)); clear hK' K'; refine AW_then fun K2 hK2 => ?_; refine rg [7, 8, 9, 38] [502, 7] (fun _ _ => trivial) fun K' hK' => ?_; (repeat (refine sxn fun K2 hK2 => ?_; simp [dNum]; (repeat (refine ⟨by omega, ?_⟩)); refine hK2 _ ?_; clear hK2 K2)); refine sxz (hK' _ (AW.st (by simp [dNum]; rfl) ?_)); clear hK' K'; refine AW_ff rfl ?_; refine AW_skip (hK2 _ ?_)
 have htk : List.take R.2.2.length (R.2.2.map fun l => [dRow l]) = R.2.2.map fun l => [dRow l] := List.take_of_length_le (by simp)
 simp only [dRow, dInts] at htk; refine rg [7] [502, 7] (fun _ _ => trivial) fun K' hK' => ?_; (repeat (refine sxn fun K2 hK2 => ?_; simp [dNum, htk, dRow, dInts]; (repeat (refine ⟨by omega, ?_⟩)); refine hK2 _ ?_; clear hK2 K2)); refine sxz (hK' _ (AW.st (by simp [dNum, htk, dRow, dInts]; rfl) ?_)); clear hK' K'
 have htk2 : List.take (R.2.2.length + 1) ((R.2.2.map fun l => [dRow l]) ++ [[dRow [R.1]]]) = (R.2.2.map fun l => [dRow l]) ++ [[dRow [R.1]]] := List.take_of_length_le (by simp)
 simp only [dRow, dInts, dNum, List.map_cons, List.map_nil] at htk2; refine AW.imp (Imp.freeze 502 trivial) ?_; refine AW.st (by simp [dNum, htk2, dRow, dInts]; rfl) ?_
 have hts := tell_spec G hG
 cases r with
 | true =>
  have ht := hts none
  refine rg [9] [] (fun _ _ => trivial) fun K' hK' => ?_; (repeat (refine sxn fun K2 hK2 => ?_; simp [dNum, dCl, dRows, dRow, dInts, htk2]; (repeat (refine ⟨by omega, ?_⟩)); refine hK2 _ ?_; clear hK2 K2)); refine sxn fun K2 hK2 => ?_; simp [dNum, dCl, dRows, dRow, dInts, htk2]; refine callK.data (hso) (by simp; rfl) (by first | exact D.leGo_refl _ | simp [takeMap, List.map_map, Function.comp_def, D.le, D.le.go, D.le_refl, D.leGo_refl, dNum, dCl, dRows, dRow, dInts, htk2]) ?_; refine hK2 _ ?_; clear hK2 K2; simp only [putd, upd_lst]; (repeat (refine sxn fun K2 hK2 => ?_; simp [dNum, dCl, dRows, dRow, dInts, htk2]; (repeat (refine ⟨by omega, ?_⟩)); refine hK2 _ ?_; clear hK2 K2)); refine sxz (hK' _ (AW.st (by simp [dNum, dCl, dRows, dRow, dInts, htk2]; rfl) ?_)); clear hK' K'; refine AW_then fun K3 hK3 => ?_; refine rg [9, 53] [] (fun _ _ => trivial) fun K' hK' => ?_; (repeat (refine sxn fun K2 hK2 => ?_; simp [dNum, dErr]; (repeat (refine ⟨by omega, ?_⟩)); refine hK2 _ ?_; clear hK2 K2)); refine sxn fun K2 hK2 => ?_; simp [dNum, dErr]; refine callK.data (ht) (by simp; rfl) (by first | exact D.leGo_refl _ | simp [takeMap, List.map_map, Function.comp_def, D.le, D.le.go, D.le_refl, D.leGo_refl, dNum, dErr]) ?_; refine hK2 _ ?_; clear hK2 K2; simp only [putd, upd_lst]; (repeat (refine sxn fun K2 hK2 => ?_; simp [dNum, dErr]; (repeat (refine ⟨by omega, ?_⟩)); refine hK2 _ ?_; clear hK2 K2)); refine sxz (hK' _ (AW.st (by simp [dNum, dErr]; rfl) ?_)); clear hK' K'; refine AW_block ?_; refine rg [9, 53, 54] [] (fun _ _ => trivial) fun K' hK' => ?_; (repeat (refine sxn fun K2 hK2 => ?_; simp [dNum, codeF]; (repeat (refine ⟨by omega, ?_⟩)); refine hK2 _ ?_; clear hK2 K2)); refine sxz (hK' _ (AW.st (by simp [dNum, codeF]; rfl) ?_)); clear hK' K'; refine AW_tt rfl ?_; refine rg [4, 5] [] (fun _ _ => trivial) fun K' hK' => ?_; (repeat (refine sxn fun K2 hK2 => ?_; simp [dNum]; (repeat (refine ⟨by omega, ?_⟩)); refine hK2 _ ?_; clear hK2 K2)); refine sxz (hK' _ (AW.st (by simp [dNum]; rfl) ?_)); clear hK' K'; refine AW_ret ?_; simp [D.le, D.le.go, takeMap, dNum]
 | false =>
  have ht := hts (some (8, none))
  refine rg [9] [] (fun _ _ => trivial) fun K' hK' => ?_; (repeat (refine sxn fun K2 hK2 => ?_; simp [dNum, dCl, dRows, dRow, dInts, htk2]; (repeat (refine ⟨by omega, ?_⟩)); refine hK2 _ ?_; clear hK2 K2)); refine sxn fun K2 hK2 => ?_; simp [dNum, dCl, dRows, dRow, dInts, htk2]; refine callK.data (hso) (by simp; rfl) (by first | exact D.leGo_refl _ | simp [takeMap, List.map_map, Function.comp_def, D.le, D.le.go, D.le_refl, D.leGo_refl, dNum, dCl, dRows, dRow, dInts, htk2]) ?_; refine hK2 _ ?_; clear hK2 K2; simp only [putd, upd_lst]; (repeat (refine sxn fun K2 hK2 => ?_; simp [dNum, dCl, dRows, dRow, dInts, htk2]; (repeat (refine ⟨by omega, ?_⟩)); refine hK2 _ ?_; clear hK2 K2)); refine sxz (hK' _ (AW.st (by simp [dNum, dCl, dRows, dRow, dInts, htk2]; rfl) ?_)); clear hK' K'; refine AW_then fun K3 hK3 => ?_; refine rg [9, 53] [] (fun _ _ => trivial) fun K' hK' => ?_; (repeat (refine sxn fun K2 hK2 => ?_; simp [dNum, dErr]; (repeat (refine ⟨by omega, ?_⟩)); refine hK2 _ ?_; clear hK2 K2)); refine sxn fun K2 hK2 => ?_; simp [dNum, dErr]; refine callK.data (ht) (by simp; rfl) (by first | exact D.leGo_refl _ | simp [takeMap, List.map_map, Function.comp_def, D.le, D.le.go, D.le_refl, D.leGo_refl, dNum, dErr]) ?_; refine hK2 _ ?_; clear hK2 K2; simp only [putd, upd_lst]; (repeat (refine sxn fun K2 hK2 => ?_; simp [dNum, dErr]; (repeat (refine ⟨by omega, ?_⟩)); refine hK2 _ ?_; clear hK2 K2)); refine sxz (hK' _ (AW.st (by simp [dNum, dErr]; rfl) ?_)); clear hK' K'; refine AW_block ?_; refine rg [9, 53, 54] [] (fun _ _ => trivial) fun K' hK' => ?_; (repeat (refine sxn fun K2 hK2 => ?_; simp [dNum, codeF]; (repeat (refine ⟨by omega, ?_⟩)); refine hK2 _ ?_; clear hK2 K2)); refine sxz (hK' _ (AW.st (by simp [dNum, codeF]; rfl) ?_)); clear hK' K'; refine AW_ff rfl ?_; refine rg [9, 56] [] (fun _ _ => trivial) fun K' hK' => ?_; (repeat (refine sxn fun K2 hK2 => ?_; simp [dNum, codeF]; (repeat (refine ⟨by omega, ?_⟩)); refine hK2 _ ?_; clear hK2 K2)); refine sxz (hK' _ (AW.st (by simp [dNum, codeF]; rfl) ?_)); clear hK' K'; refine AW_tt rfl ?_; refine rg [4, 5] [] (fun _ _ => trivial) fun K' hK' => ?_; (repeat (refine sxn fun K2 hK2 => ?_; simp [dNum]; (repeat (refine ⟨by omega, ?_⟩)); refine hK2 _ ?_; clear hK2 K2)); refine sxz (hK' _ (AW.st (by simp [dNum]; rfl) ?_)); clear hK' K'; refine AW_ret ?_; simp [D.le, D.le.go, takeMap, dNum]
theorem same_nil (G : Glob) (a : Ex) : PureC Tryz.prog G 26 [dE a, .v .nilIface] (.tup [.v (.bool false), dErr (some (7, none))]) := by
 obtain ⟨ta, ca, hca⟩ := dE_ifc a
 rw [hca]; refine PureC.of_body (tyOf_good _) Tryz.func26 rfl rfl (rs := [.tmp 4, .tmp 5]) Tryz.results26 (by simp [Tryz.ntmps26]) fun X => ?_; simp only [Tryz.ntmps26, List.map]; refine rg [0, 1] [] (fun _ _ => trivial) fun K' hK' => ?_; (repeat (refine sxn fun K2 hK2 => ?_; simp [dNum, dErr]; (repeat (refine ⟨by omega, ?_⟩)); refine hK2 _ ?_; clear hK2 K2)); refine sxz (hK' _ (AW.st (by simp [dNum, dErr]; rfl) ?_)); clear hK' K'; refine AW_then fun K1 hK1 => ?_; refine rg [0, 1, 15] [] (fun _ _ => trivial) fun K' hK' => ?_; (repeat (refine sxn fun K2 hK2 => ?_; simp [dNum, dErr]; (repeat (refine ⟨by omega, ?_⟩)); refine hK2 _ ?_; clear hK2 K2)); refine sxz (hK' _ (AW.st (by simp [dNum, dErr]; rfl) ?_)); clear hK' K'; refine AW_tt rfl ?_; refine rg [4, 5] [] (fun _ _ => trivial) fun K' hK' => ?_; (repeat (refine sxn fun K2 hK2 => ?_; simp [dNum, dErr]; (repeat (refine ⟨by omega, ?_⟩)); refine hK2 _ ?_; clear hK2 K2)); refine sxz (hK' _ (AW.st (by simp [dNum, dErr]; rfl) ?_)); clear hK' K'; refine AW_ret ?_; simp [D.le, D.le.go, takeMap, dNum, dErr]
end Go.Proofs.YtagfbbnlbncjlaaGreatDoor
namespace Go.Proofs.YtagfbbnlbncjlaaGreatDoor
open Go.Av
def readE (t : List UInt8) : Option Ex := if 1000 < t.length then none else (parseM t).1
def dRead : Option Ex → D
 | none => .tup [.v .nilIface, .v (.pointer none), .v (.bool false)]
 | some x => .tup [dE x, dR x, .v (.bool true)]
set_option maxHeartbeats 4000000 in
theorem read_spec (G : Glob) (hF : HasFine G) (t : List UInt8) : PureC Tryz.prog G 8 [dS t] (dRead (readE t)) := by
 unfold readE
 by_cases hl : 1000 < t.length
 ·have hl' : (1000 : Int) < (t.length : Int) := by omega
  rw [if_pos hl]; refine PureC.of_body (tyOf_good _) Tryz.func8 rfl rfl (rs := [.tmp 2, .tmp 3, .tmp 4]) Tryz.results8 (by simp [Tryz.ntmps8]) fun X => ?_; simp only [Tryz.ntmps8, List.map]; refine rg [0] [] (fun _ _ => trivial) fun K' hK' => ?_; (repeat (refine sxn fun K2 hK2 => ?_; simp [dNum, dS]; (repeat (refine ⟨by omega, ?_⟩)); refine hK2 _ ?_; clear hK2 K2)); refine sxz (hK' _ (AW.st (by simp [dNum, dS]; rfl) ?_)); clear hK' K'; refine AW_then fun K1 hK1 => ?_; refine rg [0, 11] [] (fun _ _ => trivial) fun K' hK' => ?_; (repeat (refine sxn fun K2 hK2 => ?_; simp [dNum, dS, bs_size, hl, hl']; (repeat (refine ⟨by omega, ?_⟩)); refine hK2 _ ?_; clear hK2 K2)); refine sxz (hK' _ (AW.st (by simp [dNum, dS, bs_size, hl, hl']; rfl) ?_)); clear hK' K'; refine AW_tt rfl ?_; refine rg [2, 3, 4] [] (fun _ _ => trivial) fun K' hK' => ?_; (repeat (refine sxn fun K2 hK2 => ?_; simp [dNum, dS]; (repeat (refine ⟨by omega, ?_⟩)); refine hK2 _ ?_; clear hK2 K2)); refine sxz (hK' _ (AW.st (by simp [dNum, dS]; rfl) ?_)); clear hK' K'; refine AW_ret ?_; simp [D.le, D.le.go, takeMap, dNum, dS, dRead]
 have hl' : ¬ (1000 : Int) < (t.length : Int) := by omega
 rw [if_neg hl]
 have hrp := rparse_spec G hF t (by omega)
 have hep := parse_spec G t (by omega)
 cases he : (parseM t).2 with
 | some e =>
  obtain ⟨c, p⟩ := e
  have h0 : ¬ c = 0 := by have := parse_pos he; omega
  have hn := parse_none he
  rw [he, hn] at hrp; rw [hn]; refine PureC.of_body (tyOf_good _) Tryz.func8 rfl rfl (rs := [.tmp 2, .tmp 3, .tmp 4]) Tryz.results8 (by simp [Tryz.ntmps8]) fun X => ?_; simp only [Tryz.ntmps8, List.map]; refine rg [0] [] (fun _ _ => trivial) fun K' hK' => ?_; (repeat (refine sxn fun K2 hK2 => ?_; simp [dNum, dS]; (repeat (refine ⟨by omega, ?_⟩)); refine hK2 _ ?_; clear hK2 K2)); refine sxz (hK' _ (AW.st (by simp [dNum, dS]; rfl) ?_)); clear hK' K'; refine AW_then fun K1 hK1 => ?_; refine rg [0, 11] [] (fun _ _ => trivial) fun K' hK' => ?_; (repeat (refine sxn fun K2 hK2 => ?_; simp [dNum, dS, bs_size, hl, hl']; (repeat (refine ⟨by omega, ?_⟩)); refine hK2 _ ?_; clear hK2 K2)); refine sxz (hK' _ (AW.st (by simp [dNum, dS, bs_size, hl, hl']; rfl) ?_)); clear hK' K'; refine AW_ff rfl ?_; refine AW_skip (hK1 _ ?_); refine rg [0, 5, 6] [6] (fun _ _ => trivial) fun K' hK' => ?_; (repeat (refine sxn fun K2 hK2 => ?_; simp [dNum, dS, dOR, dFault, codeF, placeF]; (repeat (refine ⟨by omega, ?_⟩)); refine hK2 _ ?_; clear hK2 K2)); refine sxn fun K2 hK2 => ?_; simp [dNum, dS, dOR, dFault, codeF, placeF]; refine callK.data (hrp) (by simp; rfl) (by first | exact D.leGo_refl _ | simp [takeMap, List.map_map, Function.comp_def, D.le, D.le.go, D.le_refl, D.leGo_refl, dNum, dS, dOR, dFault, codeF, placeF]) ?_; refine hK2 _ ?_; clear hK2 K2; simp only [putd, upd_lst]; (repeat (refine sxn fun K2 hK2 => ?_; simp [dNum, dS, dOR, dFault, codeF, placeF]; (repeat (refine ⟨by omega, ?_⟩)); refine hK2 _ ?_; clear hK2 K2)); refine sxz (hK' _ (AW.st (by simp [dNum, dS, dOR, dFault, codeF, placeF]; rfl) ?_)); clear hK' K'; refine AW_then fun K2 hK2 => ?_; refine rg [0, 5, 19] [6] (fun _ _ => trivial) fun K' hK' => ?_; (repeat (refine sxn fun K2 hK2 => ?_; simp [dNum, dS, h0]; (repeat (refine ⟨by omega, ?_⟩)); refine hK2 _ ?_; clear hK2 K2)); refine sxz (hK' _ (AW.st (by simp [dNum, dS, h0]; rfl) ?_)); clear hK' K'; refine AW_tt rfl ?_; refine rg [2, 3, 4] [6] (fun _ _ => trivial) fun K' hK' => ?_; (repeat (refine sxn fun K2 hK2 => ?_; simp [dNum, dS]; (repeat (refine ⟨by omega, ?_⟩)); refine hK2 _ ?_; clear hK2 K2)); refine sxz (hK' _ (AW.st (by simp [dNum, dS]; rfl) ?_)); clear hK' K'; refine AW_ret ?_; simp [D.le, D.le.go, takeMap, dNum, dS, dRead]
 | none =>
  obtain ⟨x, hx⟩ := parse_some he
  obtain ⟨cx, hcx⟩ := dR_ip x
  obtain ⟨tx, dx, hdx⟩ := dE_ifc x
  rw [he, hx] at hrp hep; rw [hx]; simp only [dOR, dOE, dRead] at hrp hep ⊢; rw [hcx] at hrp ⊢; rw [hdx] at hep ⊢; refine PureC.of_body (tyOf_good _) Tryz.func8 rfl rfl (rs := [.tmp 2, .tmp 3, .tmp 4]) Tryz.results8 (by simp [Tryz.ntmps8]) fun X => ?_; simp only [Tryz.ntmps8, List.map]; refine rg [0] [] (fun _ _ => trivial) fun K' hK' => ?_; (repeat (refine sxn fun K2 hK2 => ?_; simp [dNum, dS]; (repeat (refine ⟨by omega, ?_⟩)); refine hK2 _ ?_; clear hK2 K2)); refine sxz (hK' _ (AW.st (by simp [dNum, dS]; rfl) ?_)); clear hK' K'; refine AW_then fun K1 hK1 => ?_; refine rg [0, 11] [] (fun _ _ => trivial) fun K' hK' => ?_; (repeat (refine sxn fun K2 hK2 => ?_; simp [dNum, dS, bs_size, hl, hl']; (repeat (refine ⟨by omega, ?_⟩)); refine hK2 _ ?_; clear hK2 K2)); refine sxz (hK' _ (AW.st (by simp [dNum, dS, bs_size, hl, hl']; rfl) ?_)); clear hK' K'; refine AW_ff rfl ?_; refine AW_skip (hK1 _ ?_); refine rg [0, 5, 6] [6] (fun _ _ => trivial) fun K' hK' => ?_; (repeat (refine sxn fun K2 hK2 => ?_; simp [dNum, dS, dFault, codeF, placeF]; (repeat (refine ⟨by omega, ?_⟩)); refine hK2 _ ?_; clear hK2 K2)); refine sxn fun K2 hK2 => ?_; simp [dNum, dS, dFault, codeF, placeF]; refine callK.data (hrp) (by simp; rfl) (by first | exact D.leGo_refl _ | simp [takeMap, List.map_map, Function.comp_def, D.le, D.le.go, D.le_refl, D.leGo_refl, dNum, dS, dFault, codeF, placeF]) ?_; refine hK2 _ ?_; clear hK2 K2; simp only [putd, upd_lst]; (repeat (refine sxn fun K2 hK2 => ?_; simp [dNum, dS, dFault, codeF, placeF]; (repeat (refine ⟨by omega, ?_⟩)); refine hK2 _ ?_; clear hK2 K2)); refine sxz (hK' _ (AW.st (by simp [dNum, dS, dFault, codeF, placeF]; rfl) ?_)); clear hK' K'; refine AW_then fun K2 hK2 => ?_; refine rg [0, 5, 19] [6] (fun _ _ => trivial) fun K' hK' => ?_; (repeat (refine sxn fun K2 hK2 => ?_; simp [dNum, dS]; (repeat (refine ⟨by omega, ?_⟩)); refine hK2 _ ?_; clear hK2 K2)); refine sxz (hK' _ (AW.st (by simp [dNum, dS]; rfl) ?_)); clear hK' K'; refine AW_ff rfl ?_; refine AW_skip (hK2 _ ?_); refine rg [5, 7, 8] [6] (fun _ _ => trivial) fun K' hK' => ?_; (repeat (refine sxn fun K2 hK2 => ?_; simp [dNum, dS, dErr]; (repeat (refine ⟨by omega, ?_⟩)); refine hK2 _ ?_; clear hK2 K2)); refine sxn fun K2 hK2 => ?_; simp [dNum, dS, dErr]; refine callK.data (hep) (by simp; rfl) (by first | exact D.leGo_refl _ | simp [takeMap, List.map_map, Function.comp_def, D.le, D.le.go, D.le_refl, D.leGo_refl, dNum, dS, dErr]) ?_; refine hK2 _ ?_; clear hK2 K2; simp only [putd, upd_lst]; (repeat (refine sxn fun K2 hK2 => ?_; simp [dNum, dS, dErr]; (repeat (refine ⟨by omega, ?_⟩)); refine hK2 _ ?_; clear hK2 K2)); refine sxz (hK' _ (AW.st (by simp [dNum, dS, dErr]; rfl) ?_)); clear hK' K'; refine AW_then fun K3 hK3 => ?_; refine rg [5, 7, 26] [6] (fun _ _ => trivial) fun K' hK' => ?_; (repeat (refine sxn fun K2 hK2 => ?_; simp [dNum, dS]; (repeat (refine ⟨by omega, ?_⟩)); refine hK2 _ ?_; clear hK2 K2)); refine sxz (hK' _ (AW.st (by simp [dNum, dS]; rfl) ?_)); clear hK' K'; refine AW_ff rfl ?_
  refine AW_skip (hK3 _ ?_); refine rg [2, 3, 4] [6] (fun _ _ => trivial) fun K' hK' => ?_; (repeat (refine sxn fun K2 hK2 => ?_; simp [dNum, dS]; (repeat (refine ⟨by omega, ?_⟩)); refine hK2 _ ?_; clear hK2 K2)); refine sxz (hK' _ (AW.st (by simp [dNum, dS]; rfl) ?_)); clear hK' K'; refine AW_ret ?_; simp [D.le, D.le.go, takeMap, dNum, dS, D.le_refl, D.leGo_refl]
theorem readE_some {t : List UInt8} {x : Ex} (h : readE t = some x) : (parseM t).1 = some x := by
 unfold readE at h
 split at h
 ·cases h
 ·exact h
end Go.Proofs.YtagfbbnlbncjlaaGreatDoor
namespace Go.Proofs.YtagfbbnlbncjlaaGreatDoor
open Go.Av
def bothT (a b : List Tx) : List Tx := namesE true (.and ((a ++ b).map .bit))
theorem nmsL_bits : ∀ l : List Tx, nmsL true (l.map .bit) = l.flatMap one1
 | [] => rfl
 | s :: l => by
  rw [List.map_cons, nmsL, nmsL_bits l, List.flatMap_cons]
  rfl
theorem bothT_mem {a b : List Tx} {s : Tx} (h0 : s ≠ []) : s ∈ bothT a b ↔ s ∈ a ∨ s ∈ b := by
 unfold bothT; rw [namesE_mem, nmsE, nmsL_bits, List.mem_flatMap]
 constructor
 ·rintro ⟨t, ht, hs⟩
  unfold one1 at hs
  split at hs
  ·cases hs
  ·rw [List.mem_singleton] at hs; subst hs; exact List.mem_append.1 ht
 ·intro h
  exact ⟨s, List.mem_append.2 h, by simp [one1, h0]⟩
theorem bothT_srt (a b : List Tx) : (bothT a b).Pairwise (· < ·) := namesE_srt true _
theorem bothT_ne {a b : List Tx} {s : Tx} (h : s ∈ bothT a b) : s ≠ [] := by
 unfold bothT at h; rw [namesE_mem, nmsE, nmsL_bits, List.mem_flatMap] at h
 obtain ⟨t, _, hs⟩ := h
 unfold one1 at hs
 split at hs
 ·cases hs
 ·rw [List.mem_singleton] at hs; subst hs
  assumption
theorem bothT_len (a b : List Tx) : (bothT a b).length ≤ a.length + b.length := by
 rw [← List.length_append]; refine nodup_len (srt_nodup (bothT_srt a b)) fun s hs => ?_; rw [List.mem_append]; exact (bothT_mem (bothT_ne hs)).1 hs
theorem bE_bits : ∀ l : List Tx, (∀ s ∈ l, s.length ≤ 2^10) → bEs (l.map .bit) ≤ l.length * 2000
 | [], _ => by simp [bEs]
 | s :: l, h => by
  have h1 := bE_bits l fun t ht => h t (by simp [ht])
  have h2 := h s (by simp)
  simp only [List.map_cons, bEs, bE, List.length_cons]
  omega
set_option maxHeartbeats 8000000 in
theorem both_spec (G : Glob) (hM : HasMax G) (a b : List Tx) (hl : a.length + b.length ≤ 1000) (hs : ∀ s ∈ a ++ b, s.length ≤ 2^10) : PureC Tryz.prog G 61 [.sl none (a.map fun s => [dS s]), .sl none (b.map fun s => [dS s])] (.sl none ((bothT a b).map fun s => [dS s])) := by
 have hb := bE_bits (a ++ b) hs
 have hrn := rnames_spec G hM (.and ((a ++ b).map .bit)) (by simp only [bE]; rw [List.length_append] at hb; omega)
 have hd : dR (.and ((a ++ b).map .bit)) = .ip [dS [38], dS [], .sl none ((a ++ b).map fun s => [.ip [dS [98, 105, 116], dS s, dNil]])] := by
  rw [dR, dRs_map, List.map_map]
  congr
 rw [hd] at hrn; unfold bothT; generalize namesE true (.and ((a ++ b).map .bit)) = R at hrn ⊢; clear hd hb hs
 have hcat : (a.map fun s => [dS s]) ++ (b.map fun s => [dS s]) = (a ++ b).map fun s => [dS s] := by simp
 have hlen : (a ++ b).length = a.length + b.length := by simp
 have htk : List.take a.length (a.map fun s => [dS s]) = a.map fun s => [dS s] := List.take_of_length_le (by simp)
 refine PureC.of_body (tyOf_good _) Tryz.func61 rfl rfl (rs := [.tmp 4]) Tryz.results61 (by simp [Tryz.ntmps61]) fun X => ?_; simp only [Tryz.ntmps61, List.map]; refine rg [0, 1] [] (fun _ _ => trivial) fun K' hK' => ?_; (repeat (refine sxn fun K2 hK2 => ?_; simp [dNum, dNil]; (repeat (refine ⟨by omega, ?_⟩)); refine hK2 _ ?_; clear hK2 K2)); refine sxz (hK' _ (AW.st (by simp [dNum, dNil]; rfl) ?_)); clear hK' K'; refine rg [0, 1, 5] [9] (fun _ _ => trivial) fun K' hK' => ?_; (repeat (refine sxn fun K2 hK2 => ?_; simp [dNum, dNil]; (repeat (refine ⟨by omega, ?_⟩)); refine hK2 _ ?_; clear hK2 K2)); refine sxz (hK' _ (AW.st (by simp [dNum, dNil]; rfl) ?_)); clear hK' K'; refine AW.imp (Imp.adoptCell 9 2 300 24 1 rfl rfl rfl) ?_; refine AW.st (by simp; rfl) ?_; refine AW_then fun K1 hK1 => ?_
 have hone : ∀ s : Tx, (dS s).one = true := fun _ => rfl
 refine rg [5, 14, 15, 16] [9, 300, 10] (fun _ _ => trivial) fun K' hK' => ?_; (repeat (refine sxn fun K2 hK2 => ?_; simp [dNum, dNil, htk, hone]; (repeat (refine ⟨by omega, ?_⟩)); refine hK2 _ ?_; clear hK2 K2)); refine sxz (hK' _ (AW.st (by simp [dNum, dNil, htk, hone]; rfl) ?_)); clear hK' K'; generalize hL : a ++ b = L at *; refine AW_for (S := Nat) (fun i => i ≤ L.length) (fun i => ⟨lst [(5, .ref 9 0 0), (14, .own 10 0 L.length), (15, int L.length), (16, int i)], hlst [(9, .box 88 [.d (dS [38]), .d (dS []), .own 300 0 i]), (300, .sl 24 1 ((L.take i).map fun s => [.ip [dS [98, 105, 116], dS s, dNil]])), (10, .sl 9 1 (L.map fun s => [dS s]))]⟩) (fun i => L.length - i) 0 ?_ (by omega) ?_
 ·have l38 : (⟨#[38]⟩ : ByteArray) = bs [38] := rfl
  have l0 : (⟨#[]⟩ : ByteArray) = bs [] := rfl
  simp only [dS] at hcat
  refine Imp.to' (fun _ _ => trivial) (by simp [dNum, dNil, dS, hcat, hlen, l38, l0]) (by simp [dNum, dNil, dS, hcat, hlen, l38, l0])
 ·intro i hi
  have hmin : min i L.length = i := by omega
  refine rg [5, 14, 15, 16, 17] [9, 300, 10] (fun _ _ => trivial) fun K' hK' => ?_; (repeat (refine sxn fun K2 hK2 => ?_; simp [dNum, dNil]; (repeat (refine ⟨by omega, ?_⟩)); refine hK2 _ ?_; clear hK2 K2)); refine sxz (hK' _ (AW.st (by simp [dNum, dNil]; rfl) ?_)); clear hK' K'; refine AW_then fun K2 hK2 => ?_; refine AW_cond' (b := i < L.length) (by simp [D.le, D.le.go, takeMap, dNum, dNil]) (fun hc => ?_) (fun hc => ?_)
  ·have hil : i < L.length := hc
   have hsu : ∀ f : Tx → List D, (L.take (i + 1)).map f = (L.take i).map f ++ [f L[i]] := fun f => by rw [List.take_succ_eq_append_getElem hil, List.map_append]; rfl
   have hq : ∀ f : Tx → List D, List.take i ((L.take i).map f) = (L.take i).map f := fun f => List.take_of_length_le (by simp; omega)
   simp only [List.map_take] at hsu hq; refine AW_skip (hK2 _ ?_); refine AW_then fun K3 hK3 => ?_; refine AW_block ?_; refine rg [5, 7, 14, 15, 16] [9, 300, 10] (fun _ _ => trivial) fun K' hK' => ?_; (repeat (refine sxn fun K2 hK2 => ?_; simp [dNum, dNil, hil]; (repeat (refine ⟨by omega, ?_⟩)); refine hK2 _ ?_; clear hK2 K2)); refine sxz (hK' _ (AW.st (by simp [dNum, dNil, hil]; rfl) ?_)); clear hK' K'
   have lbit : (⟨#[98, 105, 116]⟩ : ByteArray) = bs [98, 105, 116] := rfl
   have l0 : (⟨#[]⟩ : ByteArray) = bs [] := rfl
   refine AW_re (tyOf_good _) fun K' hK' => ?_; (repeat (refine sxn fun K2 hK2 => ?_; simp [dNum, dNil, hmin, hq, dS, lbit, l0]; (repeat (refine ⟨by omega, ?_⟩)); refine hK2 _ ?_; clear hK2 K2)); refine sxz (hK' _ ?_); clear hK' K'; refine hK3 _ (AW.norm [5, 14, 15, 16] [9, 300, 10] (fun _ _ => trivial) (AW.st (by simp [dNum, dNil, hmin, hq, dS, lbit, l0]; rfl) ?_)); refine AW_re (tyOf_good _) fun K' hK' => ?_; (repeat (refine sxn fun K2 hK2 => ?_; simp [dNum, dNil]; (repeat (refine ⟨by omega, ?_⟩)); refine hK2 _ ?_; clear hK2 K2)); refine sxz (hK' _ ?_); clear hK' K'; (try simp only [thn, inb]); refine Again.mk (i + 1) (by omega) (by omega) ?_; refine Imp.to' (fun _ _ => trivial) (by simp [dNum, dNil, hsu, hmin, hq, dS, lbit, l0]) (by simp [dNum, dNil, hsu, hmin, hq, dS, lbit, l0])
  ·obtain rfl : i = L.length := by omega
   try rw [List.take_length]
   have htk2 : ∀ f : Tx → List D, List.take L.length (L.map f) = L.map f := fun f => List.take_of_length_le (by simp)
   refine AW_exit (hK1 _ ?_); refine AW.imp (Imp.freeze 300 trivial) ?_; refine AW.st (by simp [dNum, dNil, htk2]; rfl) ?_; refine AW.imp (Imp.freezeB 9 trivial) ?_; refine AW.st (by simp [dNum, dNil]; rfl) ?_; refine rg [4] [] (fun _ _ => trivial) fun K' hK' => ?_; (repeat (refine sxn fun K2 hK2 => ?_; simp [dNum, dNil]; (repeat (refine ⟨by omega, ?_⟩)); refine hK2 _ ?_; clear hK2 K2)); refine sxn fun K2 hK2 => ?_; simp [dNum, dNil]; refine callK.data (hrn) (by simp; rfl) (by first | exact D.leGo_refl _ | simp [takeMap, List.map_map, Function.comp_def, D.le, D.le.go, D.le_refl, D.leGo_refl, dNum, dNil]) ?_; refine hK2 _ ?_; clear hK2 K2; simp only [putd, upd_lst]; (repeat (refine sxn fun K2 hK2 => ?_; simp [dNum, dNil]; (repeat (refine ⟨by omega, ?_⟩)); refine hK2 _ ?_; clear hK2 K2)); refine sxz (hK' _ (AW.st (by simp [dNum, dNil]; rfl) ?_)); clear hK' K'; refine AW_ret ?_; simp [D.le, D.le.go, takeMap, dNum, dNil, D.le_refl, D.leGo_refl]
theorem allAg_iff {ns es : List Tx} {a b : Ex} (hNa : ∀ s ∈ nmsE true a, s ∈ ns) (hEa : ∀ s ∈ nmsE false a, s ∈ es) (ha : WfE a) (hNb : ∀ s ∈ nmsE true b, s ∈ ns) (hEb : ∀ s ∈ nmsE false b, s ∈ es) (hb : WfE b) :
  allAg ns es a b = true ↔ ∀ is was, evE is was a = evE is was b := by
 unfold allAg; rw [List.all_eq_true]
 constructor
 ·intro h is was
  obtain ⟨k, hk, hbits⟩ := bits_of (fun v => if v ≤ ns.length then is (ns.getD (v - 1) []) else was (es.getD (v - 1 - ns.length) [])) (ns.length + es.length)
  have h0 := h k (by simpa using hk)
  unfold agK at h0
  have h0 := eq_of_beq h0
  have hi : ∀ s ∈ ns, isTs ns (bitK (ns.length + es.length) k) s = is s := fun s hs => by
   have hlt := ixT_lt hs
   unfold isTs; rw [hbits _ (by omega) (by omega)]; rw [if_pos (by omega)]
   congr 1
   have := ixT_get hs
   simp [hlt, this]
  have hwa : ∀ s ∈ es, wasTs ns es (bitK (ns.length + es.length) k) s = was s := fun s hs => by
   have hlt := ixT_lt hs
   unfold wasTs; rw [hbits _ (by omega) (by omega)]; rw [if_neg (by omega)]
   congr 1
   have := ixT_get hs
   have e1 : ns.length + ixT es s + 1 - 1 - ns.length = ixT es s := by omega
   rw [e1]; simp [hlt, this]
  rw [ev_names _ _ is was _ a (Nat.le_refl _) ha (fun s hs => hi s (hNa s hs)) (fun s hs => hwa s (hEa s hs)), ev_names _ _ is was _ b (Nat.le_refl _) hb (fun s hs => hi s (hNb s hs)) (fun s hs => hwa s (hEb s hs))] at h0; exact h0
 ·intro h k _
  unfold agK; rw [h]; exact beq_self_eq_true _
theorem allAg_same {ns es : List Tx} {a b : Ex} (hNa : ∀ s ∈ nmsE true a, s ∈ ns) (hEa : ∀ s ∈ nmsE false a, s ∈ es) (ha : WfE a) (hNb : ∀ s ∈ nmsE true b, s ∈ ns) (hEb : ∀ s ∈ nmsE false b, s ∈ es) (hb : WfE b) : allAg ns es a b = sameE a b := by
 have h1 := allAg_iff hNa hEa ha hNb hEb hb
 have h2 := sameE_iff ha hb
 rcases Bool.eq_false_or_eq_true (allAg ns es a b) with h | h <;> rcases Bool.eq_false_or_eq_true (sameE a b) with g | g
 ·rw [h, g]
 ·rw [h2.2 (h1.1 h)] at g; cases g
 ·rw [h1.2 (h2.1 g)] at h; cases h
 ·rw [h, g]
set_option maxHeartbeats 8000000 in
theorem rsame_spec (G : Glob) (hM : HasMax G) (a b : Ex) (ha : WfE a) (hb : WfE b) (hba : bE a ≤ 2^20) (hbb : bE b ≤ 2^20) (h6 : (namesE true a).length + (namesE false a).length + (namesE true b).length + (namesE false b).length ≤ 6) :
  PureC Tryz.prog G 27 [dR a, dR b] (.v (.bool (sameE a b))) := by
 have hnl : ∀ {all : Bool} {e : Ex}, WfE e → ∀ s ∈ namesE all e, s.length ≤ 2^10 := fun {all e} hw s hs => by
  have := (name_facts (nms_nameF all _ e (Nat.le_refl _) hw s (namesE_mem.1 hs))).2.1
  omega
 have n1 := rnames_spec G hM a (by omega)
 have n2 := rnames_spec G hM b (by omega)
 have e1 := redges_spec G hM a (by omega)
 have e2 := redges_spec G hM b (by omega)
 have b1 := both_spec G hM (namesE true a) (namesE true b) (by omega) (fun s hs => by rcases List.mem_append.1 hs with h | h; exact hnl ha s h; exact hnl hb s h)
 have b2 := both_spec G hM (namesE false a) (namesE false b) (by omega) (fun s hs => by rcases List.mem_append.1 hs with h | h; exact hnl ha s h; exact hnl hb s h)
 have l1 := bothT_len (namesE true a) (namesE true b)
 have l2 := bothT_len (namesE false a) (namesE false b)
 have m : ∀ {all : Bool} {e : Ex}, WfE e → ∀ s ∈ nmsE all e, s ≠ [] ∧ s ∈ namesE all e := fun {all e} hw s hs => ⟨nameF_nn (nms_nameF all _ e (Nat.le_refl _) hw s hs), namesE_mem.2 hs⟩
 have hNa : ∀ s ∈ nmsE true a, s ∈ bothT (namesE true a) (namesE true b) := fun s hs => (bothT_mem (m ha s hs).1).2 (.inl (m ha s hs).2)
 have hNb : ∀ s ∈ nmsE true b, s ∈ bothT (namesE true a) (namesE true b) := fun s hs => (bothT_mem (m hb s hs).1).2 (.inr (m hb s hs).2)
 have hEa : ∀ s ∈ nmsE false a, s ∈ bothT (namesE false a) (namesE false b) := fun s hs => (bothT_mem (m ha s hs).1).2 (.inl (m ha s hs).2)
 have hEb : ∀ s ∈ nmsE false b, s ∈ bothT (namesE false a) (namesE false b) := fun s hs => (bothT_mem (m hb s hs).1).2 (.inr (m hb s hs).2)
 have hc := cases_spec (by omega) hNa hEa ha hNb hEb hb G (by omega) (by omega)
 rw [allAg_same hNa hEa ha hNb hEb hb] at hc; generalize sameE a b = r at hc ⊢; generalize bothT (namesE true a) (namesE true b) = ns at *; generalize bothT (namesE false a) (namesE false b) = es at *
 obtain ⟨ca, hca⟩ := dR_ip a
 obtain ⟨cb, hcb⟩ := dR_ip b
 rw [hca] at n1 e1 hc ⊢; rw [hcb] at n2 e2 hc ⊢; refine PureC.of_body (tyOf_good _) Tryz.func27 rfl rfl (rs := [.tmp 4]) Tryz.results27 (by simp [Tryz.ntmps27]) fun X => ?_; simp only [Tryz.ntmps27, List.map]; refine rg [2, 3] [2, 3] (fun _ _ => trivial) fun K' hK' => ?_; (repeat (refine sxn fun K2 hK2 => ?_; simp [sRow]; (repeat (refine ⟨by omega, ?_⟩)); refine hK2 _ ?_; clear hK2 K2)); refine sxz (hK' _ (AW.st (by simp [sRow]; rfl) ?_)); clear hK' K'; refine AW.imp (Imp.freezeB 2 trivial) ?_; refine AW.st (by simp [sRow]; rfl) ?_; refine AW.imp (Imp.freezeB 3 trivial) ?_; refine AW.st (by simp [sRow]; rfl) ?_; refine rg [2, 3, 5] [5] (fun _ _ => trivial) fun K' hK' => ?_; (repeat (refine sxn fun K2 hK2 => ?_; simp [sRow]; (repeat (refine ⟨by omega, ?_⟩)); refine hK2 _ ?_; clear hK2 K2)); refine sxz (hK' _ (AW.st (by simp [sRow]; rfl) ?_)); clear hK' K'; refine AW.imp (Imp.ren (r := 5) (r' := 501) trivial (by simp)) ?_; refine AW.st (by simp [renO, renF, Go.Av.ren, renH_hlst]; rfl) ?_; refine AW_rm (tyOf_good _) (by kernel_rfl) ([]) ([]) ([11]) ([]) (List.range 12) [5] [501] (fun _ _ => trivial) (by kernel_rfl) (by simp [OffE]) fun K' hK' => ?_; (repeat (refine sxm_nextO rfl fun K2 hK2 => ?_; simp [sRow]; (repeat (refine ⟨by omega, ?_⟩)); refine hK2 _ ?_; clear hK2 K2)); refine sxm_nextO rfl fun K2 hK2 => ?_; simp [sRow]; refine callD.mk (n1) (by simp; rfl) (by simp; rfl) (by first | exact D.leGo_refl _ | simp [takeMap, List.map_map, Function.comp_def, D.le, D.le.go, D.le_refl, D.leGo_refl, sRow]) (by simp) ?_; refine hK2 _ ?_; clear hK2 K2; simp only [putd, upd_lst]; (repeat (refine sxm_nextO rfl fun K2 hK2 => ?_; simp [sRow]; (repeat (refine ⟨by omega, ?_⟩)); refine hK2 _ ?_; clear hK2 K2)); refine sxm_nextO rfl fun K2 hK2 => ?_; simp [sRow]; refine callD.mk (n2) (by simp; rfl) (by simp; rfl) (by first | exact D.leGo_refl _ | simp [takeMap, List.map_map, Function.comp_def, D.le, D.le.go, D.le_refl, D.leGo_refl, sRow]) (by simp) ?_; refine hK2 _ ?_; clear hK2 K2; simp only [putd, upd_lst]; (repeat (refine sxm_nextO rfl fun K2 hK2 => ?_; simp [sRow]; (repeat (refine ⟨by omega, ?_⟩)); refine hK2 _ ?_; clear hK2 K2)); refine sxm_nextO rfl fun K2 hK2 => ?_; simp [sRow]; refine callD.mk (b1) (by simp; rfl) (by simp; rfl) (by first | exact D.leGo_refl _ | simp [takeMap, List.map_map, Function.comp_def, D.le, D.le.go, D.le_refl, D.leGo_refl, sRow]) (by simp) ?_; refine hK2 _ ?_; clear hK2 K2; simp only [putd, upd_lst]; (repeat (refine sxm_nextO rfl fun K2 hK2 => ?_; simp [sRow]; (repeat (refine ⟨by omega, ?_⟩)); refine hK2 _ ?_; clear hK2 K2)); refine sxm_nextO rfl fun K2 hK2 => ?_; simp [sRow]; refine callD.mk (e1) (by simp; rfl) (by simp; rfl) (by first | exact D.leGo_refl _ | simp [takeMap, List.map_map, Function.comp_def, D.le, D.le.go, D.le_refl, D.leGo_refl, sRow]) (by simp) ?_; refine hK2 _ ?_; clear hK2 K2; simp only [putd, upd_lst]; repeat (refine sxm_nextO rfl fun K2 hK2 => ?_; simp [sRow]; (repeat (refine ⟨by omega, ?_⟩)); refine hK2 _ ?_; clear hK2 K2)
 refine sxm_nextO rfl fun K2 hK2 => ?_; simp [sRow]; refine callD.mk (e2) (by simp; rfl) (by simp; rfl) (by first | exact D.leGo_refl _ | simp [takeMap, List.map_map, Function.comp_def, D.le, D.le.go, D.le_refl, D.leGo_refl, sRow]) (by simp) ?_; refine hK2 _ ?_; clear hK2 K2; simp only [putd, upd_lst]; (repeat (refine sxm_nextO rfl fun K2 hK2 => ?_; simp [sRow]; (repeat (refine ⟨by omega, ?_⟩)); refine hK2 _ ?_; clear hK2 K2)); refine sxm_nextO rfl fun K2 hK2 => ?_; simp [sRow]; refine callD.mk (b2) (by simp; rfl) (by simp; rfl) (by first | exact D.leGo_refl _ | simp [takeMap, List.map_map, Function.comp_def, D.le, D.le.go, D.le_refl, D.leGo_refl, sRow]) (by simp) ?_; refine hK2 _ ?_; clear hK2 K2; simp only [putd, upd_lst]; (repeat (refine sxm_nextO rfl fun K2 hK2 => ?_; simp [sRow]; (repeat (refine ⟨by omega, ?_⟩)); refine hK2 _ ?_; clear hK2 K2)); refine sxm_nextO rfl fun K2 hK2 => ?_; simp [sRow]; refine hcK.mc (hc) (by simp [sRow]) (by simp [sRow]) (by simp [sRow]) (by simp [sRow]) (by simp [sRow]) (by simp [sRow]) (by simp [LdSame, sRow]) ?_; simp [sRow]; refine hK2 _ ?_; clear hK2 K2; (repeat (refine sxm_nextO rfl fun K2 hK2 => ?_; simp [sRow]; (repeat (refine ⟨by omega, ?_⟩)); refine hK2 _ ?_; clear hK2 K2)); refine sxm_nilO (hK' _ ?_); refine AW.st (by simp [sRow]; rfl) ?_; clear hK' K'; refine rg [4] [501] (fun _ _ => trivial) fun K' hK' => ?_; (repeat (refine sxn fun K2 hK2 => ?_; simp [sRow]; (repeat (refine ⟨by omega, ?_⟩)); refine hK2 _ ?_; clear hK2 K2)); refine sxz (hK' _ (AW.st (by simp [sRow]; rfl) ?_)); clear hK' K'; refine AW_ret ?_; simp [D.le, D.le.go, takeMap, sRow]
set_option maxHeartbeats 16000000 in
theorem gsames_spec (G : Glob) (hG : HasErr G) (hF : HasFine G) (hM : HasMax G) (ta tb : List UInt8) : PureC Tryz.prog G 6 [dS ta, dS tb] (.v (.bool true)) := by
 have hra := read_spec G hF ta
 have hrb := read_spec G hF tb
 cases ea : readE ta with
 | none =>
  rw [ea] at hra
  cases eb : readE tb with
  | none =>
   rw [eb] at hrb; refine PureC.of_body (tyOf_good _) Tryz.func6 rfl rfl (rs := [.tmp 4]) Tryz.results6 (by simp [Tryz.ntmps6]) fun X => ?_; simp only [Tryz.ntmps6, List.map]; refine rg [0, 1] [] (fun _ _ => trivial) fun K' hK' => ?_; (repeat (refine sxn fun K2 hK2 => ?_; simp [dNum]; (repeat (refine ⟨by omega, ?_⟩)); refine hK2 _ ?_; clear hK2 K2)); refine sxz (hK' _ (AW.st (by simp [dNum]; rfl) ?_)); clear hK' K'; refine rg [1, 5, 6, 7] [] (fun _ _ => trivial) fun K' hK' => ?_; (repeat (refine sxn fun K2 hK2 => ?_; simp [dNum, dRead]; (repeat (refine ⟨by omega, ?_⟩)); refine hK2 _ ?_; clear hK2 K2)); refine sxn fun K2 hK2 => ?_; simp [dNum, dRead]; refine callK.data (hra) (by simp; rfl) (by first | exact D.leGo_refl _ | simp [takeMap, List.map_map, Function.comp_def, D.le, D.le.go, D.le_refl, D.leGo_refl, dNum, dRead]) ?_; refine hK2 _ ?_; clear hK2 K2; simp only [putd, upd_lst]; (repeat (refine sxn fun K2 hK2 => ?_; simp [dNum, dRead]; (repeat (refine ⟨by omega, ?_⟩)); refine hK2 _ ?_; clear hK2 K2)); refine sxz (hK' _ (AW.st (by simp [dNum, dRead]; rfl) ?_)); clear hK' K'; refine rg [5, 6, 7, 8, 9, 10] [] (fun _ _ => trivial) fun K' hK' => ?_; (repeat (refine sxn fun K2 hK2 => ?_; simp [dNum, dRead]; (repeat (refine ⟨by omega, ?_⟩)); refine hK2 _ ?_; clear hK2 K2)); refine sxn fun K2 hK2 => ?_; simp [dNum, dRead]; refine callK.data (hrb) (by simp; rfl) (by first | exact D.leGo_refl _ | simp [takeMap, List.map_map, Function.comp_def, D.le, D.le.go, D.le_refl, D.leGo_refl, dNum, dRead]) ?_; refine hK2 _ ?_; clear hK2 K2; simp only [putd, upd_lst]; (repeat (refine sxn fun K2 hK2 => ?_; simp [dNum, dRead]; (repeat (refine ⟨by omega, ?_⟩)); refine hK2 _ ?_; clear hK2 K2)); refine sxz (hK' _ (AW.st (by simp [dNum, dRead]; rfl) ?_)); clear hK' K'; refine AW_then fun K1 hK1 => ?_; refine rg [5, 6, 8, 9, 40] [] (fun _ _ => trivial) fun K' hK' => ?_; (repeat (refine sxn fun K2 hK2 => ?_; simp [dNum]; (repeat (refine ⟨by omega, ?_⟩)); refine hK2 _ ?_; clear hK2 K2)); refine sxz (hK' _ (AW.st (by simp [dNum]; rfl) ?_)); clear hK' K'; refine AW_tt rfl ?_; refine rg [4] [] (fun _ _ => trivial) fun K' hK' => ?_; (repeat (refine sxn fun K2 hK2 => ?_; simp [dNum]; (repeat (refine ⟨by omega, ?_⟩)); refine hK2 _ ?_; clear hK2 K2)); refine sxz (hK' _ (AW.st (by simp [dNum]; rfl) ?_)); clear hK' K'; refine AW_ret ?_; simp [D.le, D.le.go, takeMap, dNum]
  | some y =>
   rw [eb] at hrb; refine PureC.of_body (tyOf_good _) Tryz.func6 rfl rfl (rs := [.tmp 4]) Tryz.results6 (by simp [Tryz.ntmps6]) fun X => ?_; simp only [Tryz.ntmps6, List.map]; refine rg [0, 1] [] (fun _ _ => trivial) fun K' hK' => ?_; (repeat (refine sxn fun K2 hK2 => ?_; simp [dNum]; (repeat (refine ⟨by omega, ?_⟩)); refine hK2 _ ?_; clear hK2 K2)); refine sxz (hK' _ (AW.st (by simp [dNum]; rfl) ?_)); clear hK' K'; refine rg [1, 5, 6, 7] [] (fun _ _ => trivial) fun K' hK' => ?_; (repeat (refine sxn fun K2 hK2 => ?_; simp [dNum, dRead]; (repeat (refine ⟨by omega, ?_⟩)); refine hK2 _ ?_; clear hK2 K2)); refine sxn fun K2 hK2 => ?_; simp [dNum, dRead]; refine callK.data (hra) (by simp; rfl) (by first | exact D.leGo_refl _ | simp [takeMap, List.map_map, Function.comp_def, D.le, D.le.go, D.le_refl, D.leGo_refl, dNum, dRead]) ?_; refine hK2 _ ?_; clear hK2 K2; simp only [putd, upd_lst]; (repeat (refine sxn fun K2 hK2 => ?_; simp [dNum, dRead]; (repeat (refine ⟨by omega, ?_⟩)); refine hK2 _ ?_; clear hK2 K2)); refine sxz (hK' _ (AW.st (by simp [dNum, dRead]; rfl) ?_)); clear hK' K'; refine rg [5, 6, 7, 8, 9, 10] [] (fun _ _ => trivial) fun K' hK' => ?_; (repeat (refine sxn fun K2 hK2 => ?_; simp [dNum, dRead]; (repeat (refine ⟨by omega, ?_⟩)); refine hK2 _ ?_; clear hK2 K2)); refine sxn fun K2 hK2 => ?_; simp [dNum, dRead]; refine callK.data (hrb) (by simp; rfl) (by first | exact D.leGo_refl _ | simp [takeMap, List.map_map, Function.comp_def, D.le, D.le.go, D.le_refl, D.leGo_refl, dNum, dRead]) ?_; refine hK2 _ ?_; clear hK2 K2; simp only [putd, upd_lst]; (repeat (refine sxn fun K2 hK2 => ?_; simp [dNum, dRead]; (repeat (refine ⟨by omega, ?_⟩)); refine hK2 _ ?_; clear hK2 K2)); refine sxz (hK' _ (AW.st (by simp [dNum, dRead]; rfl) ?_)); clear hK' K'; refine AW_then fun K1 hK1 => ?_; refine rg [5, 6, 8, 9, 40] [] (fun _ _ => trivial) fun K' hK' => ?_; (repeat (refine sxn fun K2 hK2 => ?_; simp [dNum]; (repeat (refine ⟨by omega, ?_⟩)); refine hK2 _ ?_; clear hK2 K2)); refine sxz (hK' _ (AW.st (by simp [dNum]; rfl) ?_)); clear hK' K'; refine AW_tt rfl ?_; refine rg [4] [] (fun _ _ => trivial) fun K' hK' => ?_; (repeat (refine sxn fun K2 hK2 => ?_; simp [dNum]; (repeat (refine ⟨by omega, ?_⟩)); refine hK2 _ ?_; clear hK2 K2)); refine sxz (hK' _ (AW.st (by simp [dNum]; rfl) ?_)); clear hK' K'; refine AW_ret ?_; simp [D.le, D.le.go, takeMap, dNum]
 | some x =>
  rw [ea] at hra
  have hpa := readE_some ea
  have hba := parse_b hpa
  obtain ⟨hwa, _⟩ := parse_wf hpa
  cases eb : readE tb with
  | none =>
   rw [eb] at hrb; refine PureC.of_body (tyOf_good _) Tryz.func6 rfl rfl (rs := [.tmp 4]) Tryz.results6 (by simp [Tryz.ntmps6]) fun X => ?_; simp only [Tryz.ntmps6, List.map]; refine rg [0, 1] [] (fun _ _ => trivial) fun K' hK' => ?_; (repeat (refine sxn fun K2 hK2 => ?_; simp [dNum]; (repeat (refine ⟨by omega, ?_⟩)); refine hK2 _ ?_; clear hK2 K2)); refine sxz (hK' _ (AW.st (by simp [dNum]; rfl) ?_)); clear hK' K'; refine rg [1, 5, 6, 7] [] (fun _ _ => trivial) fun K' hK' => ?_; (repeat (refine sxn fun K2 hK2 => ?_; simp [dNum, dRead]; (repeat (refine ⟨by omega, ?_⟩)); refine hK2 _ ?_; clear hK2 K2)); refine sxn fun K2 hK2 => ?_; simp [dNum, dRead]; refine callK.data (hra) (by simp; rfl) (by first | exact D.leGo_refl _ | simp [takeMap, List.map_map, Function.comp_def, D.le, D.le.go, D.le_refl, D.leGo_refl, dNum, dRead]) ?_; refine hK2 _ ?_; clear hK2 K2; simp only [putd, upd_lst]; (repeat (refine sxn fun K2 hK2 => ?_; simp [dNum, dRead]; (repeat (refine ⟨by omega, ?_⟩)); refine hK2 _ ?_; clear hK2 K2)); refine sxz (hK' _ (AW.st (by simp [dNum, dRead]; rfl) ?_)); clear hK' K'; refine rg [5, 6, 7, 8, 9, 10] [] (fun _ _ => trivial) fun K' hK' => ?_; (repeat (refine sxn fun K2 hK2 => ?_; simp [dNum, dRead]; (repeat (refine ⟨by omega, ?_⟩)); refine hK2 _ ?_; clear hK2 K2)); refine sxn fun K2 hK2 => ?_; simp [dNum, dRead]; refine callK.data (hrb) (by simp; rfl) (by first | exact D.leGo_refl _ | simp [takeMap, List.map_map, Function.comp_def, D.le, D.le.go, D.le_refl, D.leGo_refl, dNum, dRead]) ?_; refine hK2 _ ?_; clear hK2 K2; simp only [putd, upd_lst]; (repeat (refine sxn fun K2 hK2 => ?_; simp [dNum, dRead]; (repeat (refine ⟨by omega, ?_⟩)); refine hK2 _ ?_; clear hK2 K2)); refine sxz (hK' _ (AW.st (by simp [dNum, dRead]; rfl) ?_)); clear hK' K'; refine AW_then fun K1 hK1 => ?_; refine rg [5, 6, 8, 9, 40] [] (fun _ _ => trivial) fun K' hK' => ?_; (repeat (refine sxn fun K2 hK2 => ?_; simp [dNum]; (repeat (refine ⟨by omega, ?_⟩)); refine hK2 _ ?_; clear hK2 K2)); refine sxz (hK' _ (AW.st (by simp [dNum]; rfl) ?_)); clear hK' K'; refine AW_tt rfl ?_; refine rg [4] [] (fun _ _ => trivial) fun K' hK' => ?_; (repeat (refine sxn fun K2 hK2 => ?_; simp [dNum]; (repeat (refine ⟨by omega, ?_⟩)); refine hK2 _ ?_; clear hK2 K2)); refine sxz (hK' _ (AW.st (by simp [dNum]; rfl) ?_)); clear hK' K'; refine AW_ret ?_; simp [D.le, D.le.go, takeMap, dNum]
  | some y =>
   rw [eb] at hrb
   have hpb := readE_some eb
   have hbb := parse_b hpb
   obtain ⟨hwb, _⟩ := parse_wf hpb
   simp only [dRead] at hra hrb
   have z1 := rsize_spec G x (by omega)
   have z2 := rsize_spec G y (by omega)
   have sb1 := size_b x
   have sb2 := size_b y
   have n1 := rnames_spec G hM x (by omega)
   have n2 := rnames_spec G hM y (by omega)
   have e1 := redges_spec G hM x (by omega)
   have e2 := redges_spec G hM y (by omega)
   have zn1 := names_sz true x
   have zn2 := names_sz true y
   have zn3 := names_sz false x
   have zn4 := names_sz false y
   obtain ⟨tx, cx, hcx⟩ := dE_ifc x
   obtain ⟨ty, cy, hcy⟩ := dE_ifc y
   obtain ⟨rx, hrx⟩ := dR_ip x
   obtain ⟨ry, hry⟩ := dR_ip y
   by_cases h80 : 80 < szN x + szN y
   ·have h80' : (80 : Int) < (szN x : Int) + (szN y : Int) := by omega
    rw [hcx, hrx] at hra; rw [hcy, hry] at hrb; rw [hrx] at z1; rw [hry] at z2; refine PureC.of_body (tyOf_good _) Tryz.func6 rfl rfl (rs := [.tmp 4]) Tryz.results6 (by simp [Tryz.ntmps6]) fun X => ?_; simp only [Tryz.ntmps6, List.map]; refine rg [0, 1] [] (fun _ _ => trivial) fun K' hK' => ?_; (repeat (refine sxn fun K2 hK2 => ?_; simp [dNum]; (repeat (refine ⟨by omega, ?_⟩)); refine hK2 _ ?_; clear hK2 K2)); refine sxz (hK' _ (AW.st (by simp [dNum]; rfl) ?_)); clear hK' K'; refine rg [1, 5, 6, 7] [] (fun _ _ => trivial) fun K' hK' => ?_; (repeat (refine sxn fun K2 hK2 => ?_; simp [dNum]; (repeat (refine ⟨by omega, ?_⟩)); refine hK2 _ ?_; clear hK2 K2)); refine sxn fun K2 hK2 => ?_; simp [dNum]; refine callK.data (hra) (by simp; rfl) (by first | exact D.leGo_refl _ | simp [takeMap, List.map_map, Function.comp_def, D.le, D.le.go, D.le_refl, D.leGo_refl, dNum]) ?_; refine hK2 _ ?_; clear hK2 K2; simp only [putd, upd_lst]; (repeat (refine sxn fun K2 hK2 => ?_; simp [dNum]; (repeat (refine ⟨by omega, ?_⟩)); refine hK2 _ ?_; clear hK2 K2)); refine sxz (hK' _ (AW.st (by simp [dNum]; rfl) ?_)); clear hK' K'; refine rg [5, 6, 7, 8, 9, 10] [] (fun _ _ => trivial) fun K' hK' => ?_; (repeat (refine sxn fun K2 hK2 => ?_; simp [dNum]; (repeat (refine ⟨by omega, ?_⟩)); refine hK2 _ ?_; clear hK2 K2)); refine sxn fun K2 hK2 => ?_; simp [dNum]; refine callK.data (hrb) (by simp; rfl) (by first | exact D.leGo_refl _ | simp [takeMap, List.map_map, Function.comp_def, D.le, D.le.go, D.le_refl, D.leGo_refl, dNum]) ?_; refine hK2 _ ?_; clear hK2 K2; simp only [putd, upd_lst]; (repeat (refine sxn fun K2 hK2 => ?_; simp [dNum]; (repeat (refine ⟨by omega, ?_⟩)); refine hK2 _ ?_; clear hK2 K2)); refine sxz (hK' _ (AW.st (by simp [dNum]; rfl) ?_)); clear hK' K'; refine AW_then fun K1 hK1 => ?_; refine rg [5, 6, 8, 9, 40] [] (fun _ _ => trivial) fun K' hK' => ?_; (repeat (refine sxn fun K2 hK2 => ?_; simp [dNum, h80']; (repeat (refine ⟨by omega, ?_⟩)); refine hK2 _ ?_; clear hK2 K2)); refine sxn fun K2 hK2 => ?_; simp [dNum, h80']; refine callK.data (z1) (by simp; rfl) (by first | exact D.leGo_refl _ | simp [takeMap, List.map_map, Function.comp_def, D.le, D.le.go, D.le_refl, D.leGo_refl, dNum, h80']) ?_; refine hK2 _ ?_; clear hK2 K2; simp only [putd, upd_lst]; (repeat (refine sxn fun K2 hK2 => ?_; simp [dNum, h80']; (repeat (refine ⟨by omega, ?_⟩)); refine hK2 _ ?_; clear hK2 K2)); refine sxn fun K2 hK2 => ?_; simp [dNum, h80']; refine callK.data (z2) (by simp; rfl) (by first | exact D.leGo_refl _ | simp [takeMap, List.map_map, Function.comp_def, D.le, D.le.go, D.le_refl, D.leGo_refl, dNum, h80']) ?_; refine hK2 _ ?_; clear hK2 K2; simp only [putd, upd_lst]; (repeat (refine sxn fun K2 hK2 => ?_; simp [dNum, h80']; (repeat (refine ⟨by omega, ?_⟩)); refine hK2 _ ?_; clear hK2 K2)); refine sxz (hK' _ (AW.st (by simp [dNum, h80']; rfl) ?_)); clear hK' K'; refine AW_cond true (by simp [h80']) (fun _ => ?_) (fun h => by cases h); refine rg [4] [] (fun _ _ => trivial) fun K' hK' => ?_
    (repeat (refine sxn fun K2 hK2 => ?_; simp [dNum]; (repeat (refine ⟨by omega, ?_⟩)); refine hK2 _ ?_; clear hK2 K2)); refine sxz (hK' _ (AW.st (by simp [dNum]; rfl) ?_)); clear hK' K'; refine AW_ret ?_; simp [D.le, D.le.go, takeMap, dNum]
   have h80' : ¬ (80 : Int) < (szN x : Int) + (szN y : Int) := by omega
   by_cases h6 : 6 < (namesE true x).length + (namesE false x).length + (namesE true y).length + (namesE false y).length
   ·have h6' : (6 : Int) < ((namesE true x).length : Int) + ((namesE false x).length : Int) + ((namesE true y).length : Int) + ((namesE false y).length : Int) := by omega
    rw [hcx, hrx] at hra; rw [hcy, hry] at hrb; rw [hrx] at z1 n1 e1; rw [hry] at z2 n2 e2; generalize namesE true x = a1 at *; generalize namesE false x = a2 at *; generalize namesE true y = a3 at *; generalize namesE false y = a4 at *; refine PureC.of_body (tyOf_good _) Tryz.func6 rfl rfl (rs := [.tmp 4]) Tryz.results6 (by simp [Tryz.ntmps6]) fun X => ?_; simp only [Tryz.ntmps6, List.map]; refine rg [0, 1] [] (fun _ _ => trivial) fun K' hK' => ?_; (repeat (refine sxn fun K2 hK2 => ?_; simp [dNum]; (repeat (refine ⟨by omega, ?_⟩)); refine hK2 _ ?_; clear hK2 K2)); refine sxz (hK' _ (AW.st (by simp [dNum]; rfl) ?_)); clear hK' K'; refine rg [1, 5, 6, 7] [] (fun _ _ => trivial) fun K' hK' => ?_; (repeat (refine sxn fun K2 hK2 => ?_; simp [dNum]; (repeat (refine ⟨by omega, ?_⟩)); refine hK2 _ ?_; clear hK2 K2)); refine sxn fun K2 hK2 => ?_; simp [dNum]; refine callK.data (hra) (by simp; rfl) (by first | exact D.leGo_refl _ | simp [takeMap, List.map_map, Function.comp_def, D.le, D.le.go, D.le_refl, D.leGo_refl, dNum]) ?_; refine hK2 _ ?_; clear hK2 K2; simp only [putd, upd_lst]; (repeat (refine sxn fun K2 hK2 => ?_; simp [dNum]; (repeat (refine ⟨by omega, ?_⟩)); refine hK2 _ ?_; clear hK2 K2)); refine sxz (hK' _ (AW.st (by simp [dNum]; rfl) ?_)); clear hK' K'; refine rg [5, 6, 7, 8, 9, 10] [] (fun _ _ => trivial) fun K' hK' => ?_; (repeat (refine sxn fun K2 hK2 => ?_; simp [dNum]; (repeat (refine ⟨by omega, ?_⟩)); refine hK2 _ ?_; clear hK2 K2)); refine sxn fun K2 hK2 => ?_; simp [dNum]; refine callK.data (hrb) (by simp; rfl) (by first | exact D.leGo_refl _ | simp [takeMap, List.map_map, Function.comp_def, D.le, D.le.go, D.le_refl, D.leGo_refl, dNum]) ?_; refine hK2 _ ?_; clear hK2 K2; simp only [putd, upd_lst]; (repeat (refine sxn fun K2 hK2 => ?_; simp [dNum]; (repeat (refine ⟨by omega, ?_⟩)); refine hK2 _ ?_; clear hK2 K2)); refine sxz (hK' _ (AW.st (by simp [dNum]; rfl) ?_)); clear hK' K'; refine AW_then fun K1 hK1 => ?_; refine rg [5, 6, 8, 9, 40] [] (fun _ _ => trivial) fun K' hK' => ?_; (repeat (refine sxn fun K2 hK2 => ?_; simp [dNum, h80']; (repeat (refine ⟨by omega, ?_⟩)); refine hK2 _ ?_; clear hK2 K2)); refine sxn fun K2 hK2 => ?_; simp [dNum, h80']; refine callK.data (z1) (by simp; rfl) (by first | exact D.leGo_refl _ | simp [takeMap, List.map_map, Function.comp_def, D.le, D.le.go, D.le_refl, D.leGo_refl, dNum, h80']) ?_; refine hK2 _ ?_; clear hK2 K2; simp only [putd, upd_lst]; (repeat (refine sxn fun K2 hK2 => ?_; simp [dNum, h80']; (repeat (refine ⟨by omega, ?_⟩)); refine hK2 _ ?_; clear hK2 K2)); refine sxn fun K2 hK2 => ?_; simp [dNum, h80']; refine callK.data (z2) (by simp; rfl) (by first | exact D.leGo_refl _ | simp [takeMap, List.map_map, Function.comp_def, D.le, D.le.go, D.le_refl, D.leGo_refl, dNum, h80']) ?_; refine hK2 _ ?_; clear hK2 K2; simp only [putd, upd_lst]; (repeat (refine sxn fun K2 hK2 => ?_; simp [dNum, h80']; (repeat (refine ⟨by omega, ?_⟩)); refine hK2 _ ?_; clear hK2 K2)); refine sxz (hK' _ (AW.st (by simp [dNum, h80']; rfl) ?_)); clear hK' K'
    refine AW_cond false (by simp [h80']) (fun h => by cases h) (fun _ => ?_); refine AW_skip (hK1 _ ?_); refine AW_then fun K2 hK2 => ?_; refine rg [5, 6, 8, 9, 56] [] (fun _ _ => trivial) fun K' hK' => ?_; (repeat (refine sxn fun K2 hK2 => ?_; simp [dNum, h6']; (repeat (refine ⟨by omega, ?_⟩)); refine hK2 _ ?_; clear hK2 K2)); refine sxn fun K2 hK2 => ?_; simp [dNum, h6']; refine callK.data (n1) (by simp; rfl) (by first | exact D.leGo_refl _ | simp [takeMap, List.map_map, Function.comp_def, D.le, D.le.go, D.le_refl, D.leGo_refl, dNum, h6']) ?_; refine hK2 _ ?_; clear hK2 K2; simp only [putd, upd_lst]; (repeat (refine sxn fun K2 hK2 => ?_; simp [dNum, h6']; (repeat (refine ⟨by omega, ?_⟩)); refine hK2 _ ?_; clear hK2 K2)); refine sxn fun K2 hK2 => ?_; simp [dNum, h6']; refine callK.data (e1) (by simp; rfl) (by first | exact D.leGo_refl _ | simp [takeMap, List.map_map, Function.comp_def, D.le, D.le.go, D.le_refl, D.leGo_refl, dNum, h6']) ?_; refine hK2 _ ?_; clear hK2 K2; simp only [putd, upd_lst]; (repeat (refine sxn fun K2 hK2 => ?_; simp [dNum, h6']; (repeat (refine ⟨by omega, ?_⟩)); refine hK2 _ ?_; clear hK2 K2)); refine sxn fun K2 hK2 => ?_; simp [dNum, h6']; refine callK.data (n2) (by simp; rfl) (by first | exact D.leGo_refl _ | simp [takeMap, List.map_map, Function.comp_def, D.le, D.le.go, D.le_refl, D.leGo_refl, dNum, h6']) ?_; refine hK2 _ ?_; clear hK2 K2; simp only [putd, upd_lst]; (repeat (refine sxn fun K2 hK2 => ?_; simp [dNum, h6']; (repeat (refine ⟨by omega, ?_⟩)); refine hK2 _ ?_; clear hK2 K2)); refine sxn fun K2 hK2 => ?_; simp [dNum, h6']; refine callK.data (e2) (by simp; rfl) (by first | exact D.leGo_refl _ | simp [takeMap, List.map_map, Function.comp_def, D.le, D.le.go, D.le_refl, D.leGo_refl, dNum, h6']) ?_; refine hK2 _ ?_; clear hK2 K2; simp only [putd, upd_lst]; (repeat (refine sxn fun K2 hK2 => ?_; simp [dNum, h6']; (repeat (refine ⟨by omega, ?_⟩)); refine hK2 _ ?_; clear hK2 K2)); refine sxz (hK' _ (AW.st (by simp [dNum, h6']; rfl) ?_)); clear hK' K'; refine AW_cond true (by simp [h6']) (fun _ => ?_) (fun h => by cases h); refine rg [4] [] (fun _ _ => trivial) fun K' hK' => ?_; (repeat (refine sxn fun K2 hK2 => ?_; simp [dNum]; (repeat (refine ⟨by omega, ?_⟩)); refine hK2 _ ?_; clear hK2 K2)); refine sxz (hK' _ (AW.st (by simp [dNum]; rfl) ?_)); clear hK' K'; refine AW_ret ?_; simp [D.le, D.le.go, takeMap, dNum]
   have h6' : ¬ (6 : Int) < ((namesE true x).length : Int) + ((namesE false x).length : Int) + ((namesE true y).length : Int) + ((namesE false y).length : Int) := by omega
   have d1 := difE_len true x y
   have d2 := difE_len false x y
   have hsm := same_spec G hG x y hwa hwb (by omega) (by omega) (by omega) (by omega)
   have hrs := rsame_spec G hM x y hwa hwb (by omega) (by omega) (by omega)
   have hsn := same_nil G x
   have hb7 := bare_spec G hG 7
   simp only [errOf, dErr] at hb7 hsn; generalize sameE x y = r at *; rw [hcx, hrx] at hra; rw [hcy, hry] at hrb; rw [hcx, hcy] at hsm; rw [hcx] at hsn; rw [hrx, hry] at hrs; rw [hrx] at z1 n1 e1; rw [hry] at z2 n2 e2; generalize namesE true x = a1 at *; generalize namesE false x = a2 at *; generalize namesE true y = a3 at *; generalize namesE false y = a4 at *; refine PureC.of_body (tyOf_good _) Tryz.func6 rfl rfl (rs := [.tmp 4]) Tryz.results6 (by simp [Tryz.ntmps6]) fun X => ?_; simp only [Tryz.ntmps6, List.map]; refine rg [0, 1] [] (fun _ _ => trivial) fun K' hK' => ?_; (repeat (refine sxn fun K2 hK2 => ?_; simp [dNum]; (repeat (refine ⟨by omega, ?_⟩)); refine hK2 _ ?_; clear hK2 K2)); refine sxz (hK' _ (AW.st (by simp [dNum]; rfl) ?_)); clear hK' K'; refine rg [1, 5, 6, 7] [] (fun _ _ => trivial) fun K' hK' => ?_; (repeat (refine sxn fun K2 hK2 => ?_; simp [dNum]; (repeat (refine ⟨by omega, ?_⟩)); refine hK2 _ ?_; clear hK2 K2)); refine sxn fun K2 hK2 => ?_; simp [dNum]; refine callK.data (hra) (by simp; rfl) (by first | exact D.leGo_refl _ | simp [takeMap, List.map_map, Function.comp_def, D.le, D.le.go, D.le_refl, D.leGo_refl, dNum]) ?_; refine hK2 _ ?_; clear hK2 K2; simp only [putd, upd_lst]; (repeat (refine sxn fun K2 hK2 => ?_; simp [dNum]; (repeat (refine ⟨by omega, ?_⟩)); refine hK2 _ ?_; clear hK2 K2)); refine sxz (hK' _ (AW.st (by simp [dNum]; rfl) ?_)); clear hK' K'; refine rg [5, 6, 7, 8, 9, 10] [] (fun _ _ => trivial) fun K' hK' => ?_; (repeat (refine sxn fun K2 hK2 => ?_; simp [dNum]; (repeat (refine ⟨by omega, ?_⟩)); refine hK2 _ ?_; clear hK2 K2)); refine sxn fun K2 hK2 => ?_; simp [dNum]; refine callK.data (hrb) (by simp; rfl) (by first | exact D.leGo_refl _ | simp [takeMap, List.map_map, Function.comp_def, D.le, D.le.go, D.le_refl, D.leGo_refl, dNum]) ?_; refine hK2 _ ?_; clear hK2 K2; simp only [putd, upd_lst]; (repeat (refine sxn fun K2 hK2 => ?_; simp [dNum]; (repeat (refine ⟨by omega, ?_⟩)); refine hK2 _ ?_; clear hK2 K2)); refine sxz (hK' _ (AW.st (by simp [dNum]; rfl) ?_)); clear hK' K'; refine AW_then fun K1 hK1 => ?_; refine rg [5, 6, 8, 9, 40] [] (fun _ _ => trivial) fun K' hK' => ?_; (repeat (refine sxn fun K2 hK2 => ?_; simp [dNum, h80']; (repeat (refine ⟨by omega, ?_⟩)); refine hK2 _ ?_; clear hK2 K2)); refine sxn fun K2 hK2 => ?_; simp [dNum, h80']; refine callK.data (z1) (by simp; rfl) (by first | exact D.leGo_refl _ | simp [takeMap, List.map_map, Function.comp_def, D.le, D.le.go, D.le_refl, D.leGo_refl, dNum, h80']) ?_; refine hK2 _ ?_; clear hK2 K2; simp only [putd, upd_lst]; (repeat (refine sxn fun K2 hK2 => ?_; simp [dNum, h80']; (repeat (refine ⟨by omega, ?_⟩)); refine hK2 _ ?_; clear hK2 K2)); refine sxn fun K2 hK2 => ?_; simp [dNum, h80']; refine callK.data (z2) (by simp; rfl) (by first | exact D.leGo_refl _ | simp [takeMap, List.map_map, Function.comp_def, D.le, D.le.go, D.le_refl, D.leGo_refl, dNum, h80']) ?_; refine hK2 _ ?_; clear hK2 K2; simp only [putd, upd_lst]; repeat (refine sxn fun K2 hK2 => ?_; simp [dNum, h80']; (repeat (refine ⟨by omega, ?_⟩)); refine hK2 _ ?_; clear hK2 K2)
   refine sxz (hK' _ (AW.st (by simp [dNum, h80']; rfl) ?_)); clear hK' K'; refine AW_cond false (by simp [h80']) (fun h => by cases h) (fun _ => ?_); refine AW_skip (hK1 _ ?_); refine AW_then fun K2 hK2 => ?_; refine rg [5, 6, 8, 9, 56] [] (fun _ _ => trivial) fun K' hK' => ?_; (repeat (refine sxn fun K2 hK2 => ?_; simp [dNum, h6']; (repeat (refine ⟨by omega, ?_⟩)); refine hK2 _ ?_; clear hK2 K2)); refine sxn fun K2 hK2 => ?_; simp [dNum, h6']; refine callK.data (n1) (by simp; rfl) (by first | exact D.leGo_refl _ | simp [takeMap, List.map_map, Function.comp_def, D.le, D.le.go, D.le_refl, D.leGo_refl, dNum, h6']) ?_; refine hK2 _ ?_; clear hK2 K2; simp only [putd, upd_lst]; (repeat (refine sxn fun K2 hK2 => ?_; simp [dNum, h6']; (repeat (refine ⟨by omega, ?_⟩)); refine hK2 _ ?_; clear hK2 K2)); refine sxn fun K2 hK2 => ?_; simp [dNum, h6']; refine callK.data (e1) (by simp; rfl) (by first | exact D.leGo_refl _ | simp [takeMap, List.map_map, Function.comp_def, D.le, D.le.go, D.le_refl, D.leGo_refl, dNum, h6']) ?_; refine hK2 _ ?_; clear hK2 K2; simp only [putd, upd_lst]; (repeat (refine sxn fun K2 hK2 => ?_; simp [dNum, h6']; (repeat (refine ⟨by omega, ?_⟩)); refine hK2 _ ?_; clear hK2 K2)); refine sxn fun K2 hK2 => ?_; simp [dNum, h6']; refine callK.data (n2) (by simp; rfl) (by first | exact D.leGo_refl _ | simp [takeMap, List.map_map, Function.comp_def, D.le, D.le.go, D.le_refl, D.leGo_refl, dNum, h6']) ?_; refine hK2 _ ?_; clear hK2 K2; simp only [putd, upd_lst]; (repeat (refine sxn fun K2 hK2 => ?_; simp [dNum, h6']; (repeat (refine ⟨by omega, ?_⟩)); refine hK2 _ ?_; clear hK2 K2)); refine sxn fun K2 hK2 => ?_; simp [dNum, h6']; refine callK.data (e2) (by simp; rfl) (by first | exact D.leGo_refl _ | simp [takeMap, List.map_map, Function.comp_def, D.le, D.le.go, D.le_refl, D.leGo_refl, dNum, h6']) ?_; refine hK2 _ ?_; clear hK2 K2; simp only [putd, upd_lst]; (repeat (refine sxn fun K2 hK2 => ?_; simp [dNum, h6']; (repeat (refine ⟨by omega, ?_⟩)); refine hK2 _ ?_; clear hK2 K2)); refine sxz (hK' _ (AW.st (by simp [dNum, h6']; rfl) ?_)); clear hK' K'; refine AW_cond false (by simp [h6']) (fun h => by cases h) (fun _ => ?_); refine AW_skip (hK2 _ ?_); refine rg [5, 6, 8, 9, 11, 12] [] (fun _ _ => trivial) fun K' hK' => ?_; (repeat (refine sxn fun K2 hK2 => ?_; simp [dNum]; (repeat (refine ⟨by omega, ?_⟩)); refine hK2 _ ?_; clear hK2 K2)); refine sxn fun K2 hK2 => ?_; simp [dNum]; refine callK.data (hsm) (by simp; rfl) (by first | exact D.leGo_refl _ | simp [takeMap, List.map_map, Function.comp_def, D.le, D.le.go, D.le_refl, D.leGo_refl, dNum]) ?_; refine hK2 _ ?_; clear hK2 K2; simp only [putd, upd_lst]; (repeat (refine sxn fun K2 hK2 => ?_; simp [dNum]; (repeat (refine ⟨by omega, ?_⟩)); refine hK2 _ ?_; clear hK2 K2)); refine sxz (hK' _ (AW.st (by simp [dNum]; rfl) ?_)); clear hK' K'; refine rg [5, 6, 8, 9, 11, 12, 14] [] (fun _ _ => trivial) fun K' hK' => ?_; repeat (refine sxn fun K2 hK2 => ?_; simp [dNum]; (repeat (refine ⟨by omega, ?_⟩)); refine hK2 _ ?_; clear hK2 K2)
   refine sxn fun K2 hK2 => ?_; simp [dNum]; refine callK.data (hsn) (by simp; rfl) (by first | exact D.leGo_refl _ | simp [takeMap, List.map_map, Function.comp_def, D.le, D.le.go, D.le_refl, D.leGo_refl, dNum]) ?_; refine hK2 _ ?_; clear hK2 K2; simp only [putd, upd_lst]; (repeat (refine sxn fun K2 hK2 => ?_; simp [dNum]; (repeat (refine ⟨by omega, ?_⟩)); refine hK2 _ ?_; clear hK2 K2)); refine sxz (hK' _ (AW.st (by simp [dNum]; rfl) ?_)); clear hK' K'; refine rg [4] [] (fun _ _ => trivial) fun K' hK' => ?_; (repeat (refine sxn fun K2 hK2 => ?_; simp [dNum]; (repeat (refine ⟨by omega, ?_⟩)); refine hK2 _ ?_; clear hK2 K2)); refine sxn fun K2 hK2 => ?_; simp [dNum]; refine callK.data (hb7) (by simp; rfl) (by first | exact D.leGo_refl _ | simp [takeMap, List.map_map, Function.comp_def, D.le, D.le.go, D.le_refl, D.leGo_refl, dNum]) ?_; refine hK2 _ ?_; clear hK2 K2; simp only [putd, upd_lst]; (repeat (refine sxn fun K2 hK2 => ?_; simp [dNum]; (repeat (refine ⟨by omega, ?_⟩)); refine hK2 _ ?_; clear hK2 K2)); refine sxn fun K2 hK2 => ?_; simp [dNum]; refine callK.data (hrs) (by simp; rfl) (by first | exact D.leGo_refl _ | simp [takeMap, List.map_map, Function.comp_def, D.le, D.le.go, D.le_refl, D.leGo_refl, dNum]) ?_; refine hK2 _ ?_; clear hK2 K2; simp only [putd, upd_lst]; (repeat (refine sxn fun K2 hK2 => ?_; simp [dNum]; (repeat (refine ⟨by omega, ?_⟩)); refine hK2 _ ?_; clear hK2 K2)); refine sxz (hK' _ (AW.st (by simp [dNum]; rfl) ?_)); clear hK' K'; refine AW_ret ?_; simp [D.le, D.le.go, takeMap, dNum]
end Go.Proofs.YtagfbbnlbncjlaaGreatDoor
namespace Go.Proofs.YtagfbbnlbncjlaaGreatDoor
open Go.Av Go.ChangeShapes Go.WideShapes Go.ChangeAt Go.RowKit
theorem law_own : ownKnob Tryz.prog.godebug = none := by kernel_rfl
theorem law_laidOut : laidOutB Tryz.prog = true := by kernel_rfl
theorem cells_int : Tryz.prog.cellsOf 3 = 1 := by kernel_rfl
section
variable {H : Type} {enc : TypeId × Value → H} {w : World} {base : Nat} {spare : Nat → Bool} {held : Bool} {X : Nat → Prop}
end
end Go.Proofs.YtagfbbnlbncjlaaGreatDoor
