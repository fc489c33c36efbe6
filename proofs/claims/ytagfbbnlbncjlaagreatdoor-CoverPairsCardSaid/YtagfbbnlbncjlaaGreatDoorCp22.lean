/-
  Texts that belong together, in one file: U4, U5, C4, V5, C5, R1.
-/
import Derived.Test.YtagfbbnlbncjlaaGreatDoorCp21
import Derived.Sort.Walk0
/-
  The document's names: named, Names, Edges.
-/
namespace Go.Proofs.YtagfbbnlbncjlaaGreatDoor
set_option linter.unusedSimpArgs false
set_option linter.unusedVariables false
open Go.Av

def kAll (all : Bool) : List UInt8 := if all then [98, 105, 116, 94, 126] else [94, 126]
theorem nmsE_kids (all : Bool) (e : Ex) : nmsE all e = one1 (nmE all e) ++ nmsL all (kidsR e) := by
  cases e <;> simp [nmsE, kidsR, nmsL, nmE, one1]
/-- What the node itself gives: by its name and kind. -/
theorem nmE_kind (all : Bool) (e : Ex) : (nmR e = [] ∧ one1 (nmE all e) = []) ∨ (nmR e ≠ [] ∧ Lib.contains (kAll all) (kdR e) = false ∧ one1 (nmE all e) = []) ∨ (nmR e ≠ [] ∧ Lib.contains (kAll all) (kdR e) = true ∧ one1 (nmE all e) = [nmR e]) := by
  have c1 : Lib.contains (kAll true) [98, 105, 116] = true := by decide +kernel
  have c2 : Lib.contains (kAll false) [98, 105, 116] = false := by decide +kernel
  have c3 : ∀ all, Lib.contains (kAll all) [94] = true := by decide +kernel
  have c4 : ∀ all, Lib.contains (kAll all) [126] = true := by decide +kernel
  cases e with
  | bit s =>
    by_cases hs : s = []
    · subst hs; cases all <;> exact .inl ⟨rfl, rfl⟩
    · cases all with
      | true => exact .inr (.inr ⟨hs, c1, by simp [nmE, one1, nmR, hs]⟩)
      | false => exact .inr (.inl ⟨hs, c2, by simp [nmE, one1]⟩)
  | rise s =>
    by_cases hs : s = []
    · subst hs; exact .inl ⟨rfl, rfl⟩
    · exact .inr (.inr ⟨hs, c3 _, by simp [nmE, one1, nmR, hs]⟩)
  | fall s =>
    by_cases hs : s = []
    · subst hs; exact .inl ⟨rfl, rfl⟩
    · exact .inr (.inr ⟨hs, c4 _, by simp [nmE, one1, nmR, hs]⟩)
  | _ => exact .inl ⟨rfl, rfl⟩

def wFn : AV := .fn (.func 70) [.ref 501 0 0, .ref 502 0 0, .ref 504 0 0]
def wRow (all : Bool) (l : List Tx) : List (Nat × Row) := [(501, .box 9 [.d (dS (kAll all))]), (502, .box 34 [.own 503 0 l.length]), (503, .sl 9 1 (l.map fun s => [dS s])), (504, .box 132 [wFn])]
theorem binS_lt (a b : Tx) : binS .lss (bs a) (bs b) = some (True, .bool (decide (a < b))) := by
  simp only [binS, bs_list, bytesLess_eq]
theorem binS_ne (a b : Tx) : binS .neq (bs a) (bs b) = some (True, .bool (!decide (a = b))) := by
  simp only [binS, bs_list]
  have h : (a == b) = decide (a = b) := by
    by_cases e : a = b
    · subst e; exact (beq_self_eq_true a).trans (decide_eq_true rfl).symm
    · exact (beq_eq_false_iff_ne.2 e).trans (decide_eq_false e).symm
  rw [h]

/-- One element is put in: what is copied, what lies there then, and behind the store. -/
theorem put_in (m : List (List D)) (z x : List D) (k : Nat) (hk : k ≤ m.length) (hm : ∀ el ∈ m, el.length = 1 ∧ ∀ c ∈ el, D.one c = true) (hz : z.length = 1 ∧ ∀ c ∈ z, D.one c = true) :
    ∃ news els2 : List (List D), ∃ w0 : D, ((m ++ [z]).drop k).take (m.length + 1 - k) = news ∧ (∀ el ∈ news, el.length = 1) ∧ (∀ el ∈ news, ∀ c ∈ el, D.one c = true) ∧
      copyEls (m ++ [z]) news (k + 1) (m.length + 1 - (k + 1)) = els2 ∧ els2.length = m.length + 1 ∧ els2[k]? = some [w0] ∧ els2.set k x = m.take k ++ x :: m.drop k ∧ (k = m.length → els2 = m ++ [z]) := by
  have h1 : ((m ++ [z]).drop k).take (m.length + 1 - k) = m.drop k ++ [z] := by
    rw [List.take_of_length_le (by simp), List.drop_append_of_le_length hk]
  have h2 : (m.drop k ++ [z]).take (m.length + 1 - (k + 1)) = m.drop k := by
    rw [List.take_append_of_le_length (by simp), List.take_of_length_le (by simp)]
  have h3 : copyEls (m ++ [z]) (m.drop k ++ [z]) (k + 1) (m.length + 1 - (k + 1)) = (m ++ [z]).take (k + 1) ++ m.drop k := by
    unfold copyEls
    rw [h2, List.drop_of_length_le (l := m ++ [z]) (by simp; omega), List.append_nil]
  have hmem : ∀ el ∈ m.drop k ++ [z], el.length = 1 ∧ ∀ c ∈ el, D.one c = true := fun el hel => by
    rcases List.mem_append.1 hel with h | h
    · exact hm el (List.mem_of_mem_drop h)
    · rw [List.mem_singleton] at h; subst h; exact hz
  have hl : ((m ++ [z]).take (k + 1) ++ m.drop k).length = m.length + 1 := by simp; omega
  have hkk : k < (m ++ [z]).length := by simp; omega
  have hgk : ((m ++ [z]).take (k + 1) ++ m.drop k)[k]? = some ((m ++ [z])[k]) := by
    rw [List.getElem?_append_left (by simp; omega), List.getElem?_take, if_pos (by omega), List.getElem?_eq_getElem hkk]
  have hone : ∃ w0, (m ++ [z])[k] = [w0] := by
    have hq : ((m ++ [z])[k]).length = 1 := by
      rcases List.mem_append.1 (List.getElem_mem hkk) with h | h
      · exact (hm _ h).1
      · rw [List.mem_singleton] at h; rw [h]; exact hz.1
    exact List.length_eq_one_iff.1 hq
  obtain ⟨w0, hw0⟩ := hone
  refine ⟨_, _, w0, h1, fun el hel => (hmem el hel).1, fun el hel => (hmem el hel).2, h3, hl, by rw [hgk, hw0], ?_, fun e => ?_⟩
  · rw [List.take_succ_eq_append_getElem hkk, List.append_assoc, List.set_append_right _ _ (by simp; omega)]
    have e1 : ((m ++ [z]).take k).length = k := by simp; omega
    rw [e1, Nat.sub_self, List.take_append_of_le_length hk]
    rfl
  · subst e; rw [List.take_of_length_le (by simp), List.drop_of_length_le (by simp), List.append_nil]

set_option maxHeartbeats 32000000 in
set_option maxRecDepth 100000 in
theorem rwalk_at (G : Glob) (hM : HasMax G) (all : Bool) : ∀ (n : Nat) (e : Ex), SizeOf.sizeOf e ≤ n → ∀ l0 : List Tx, l0.length + bE e ≤ 2^39 → MC Tryz.prog G [501, 502, 504] 70 ([.d (dR e)] ++ [.ref 501 0 0, .ref 502 0 0, .ref 504 0 0]) (hlst (wRow all l0)) (.d (.tup [])) (hlst (wRow all (insL l0 (nmsE all e)))) := by
  intro n
  induction n with
  | zero => intro e hsz; cases e <;> simp at hsz
  | succ n ih =>
    intro e hsz l0 hb
    have hch : ∀ x ∈ kidsR e, ∀ l1 : List Tx, l1.length + bE x ≤ 2^39 → MC Tryz.prog G [501, 502, 504] 70 ([.d (dR x)] ++ [.ref 501 0 0, .ref 502 0 0, .ref 504 0 0]) (hlst (wRow all l1)) (.d (.tup [])) (hlst (wRow all (insL l1 (nmsE all x)))) := fun x hx => ih x (by have := sz_kids hx; omega)
    clear ih
    have hkb := bE_kids e
    have hln := bEs_len (kidsR e)
    have hnl := nmsL_len all (kidsR e)
    have hkind := nmE_kind all e
    have hon : (one1 (nmE all e)).length ≤ 1 := by unfold one1; split <;> simp
    have hbd : (one1 (nmE all e)).length + bEs (kidsR e) ≤ bE e := by
      cases e <;> simp [kidsR, bE, bEs] <;> first | omega | (simp [one1, nmE] <;> omega) | skip
    have hcon := scontains_spec G hM (kAll all) (kdR e) (by cases all <;> simp [kAll])
    have hkl : (kAll all).length ≤ 5 := by cases all <;> simp [kAll]
    rw [nmsE_kids, insL_app, dR_form, ofR_form]
    generalize kidsR e = l at hch hkb hln hnl hbd ⊢
    generalize kdR e = kd at hcon hkind ⊢
    generalize nmR e = nm at hkind ⊢
    generalize kR e = kk
    generalize hone : one1 (nmE all e) = on at hkind hbd hon ⊢
    generalize hout : insL l0 on = out1
    have hol := insL_len on l0
    rw [hout] at hol
    clear hsz
    refine MC.of_body (tyOf_good _) Tryz.func70 rfl rfl (rs := []) Tryz.results70 (by simp [Tryz.ntmps70]) rfl fun X => ?_
    simp only [Tryz.ntmps70]
    refine AW_then fun K1 hK1 => ?_
    refine (fun hgo => ?_) (fun (σ : St) himp => hK1 σ (AW.imp (τ := ⟨lst [(0, .d (.ip [dS kd, dS nm, .sl kk (l.map fun x => [dR x])])), (3, .ref 504 0 0)], hlst (wRow all out1)⟩) himp ?_))
    · rcases hkind with ⟨h1, h2⟩ | ⟨h1, h2, h3⟩ | ⟨h1, h2, h3⟩
      · subst h1 h2
        have hq : l0 = out1 := by rw [← hout]; rfl
        subst hq
        refine AW_rd (tyOf_good _) (by kernel_rfl) [0, 2, 3, 20] [501, 502, 503, 504] (notIn_ok rfl) (by kernel_rfl) fun K' hK' => ?_
        repeat (refine sxd_next fun K2 hK2 => ?_; simp [dNum, dS, wRow, wFn, binS_ne, bs_nil]; (repeat (refine ⟨by omega, ?_⟩)); refine hK2 _ ?_; clear hK2 K2)
        refine sxd_nil (hK' _ ?_)
        refine AW.st (by simp [dNum, dS, wRow, wFn, binS_ne, bs_nil]; rfl) ?_
        clear hK' K'
        refine AW_cond false rfl (fun h => by cases h) (fun _ => ?_)
        refine AW_skip (hgo _ ?_)
        refine Imp.to' (notIn_ok rfl) (by simp [dNum, dS, wRow, wFn]) (by simp [dNum, dS, wRow, wFn])
      · subst h3
        have hq : l0 = out1 := by rw [← hout]; rfl
        subst hq
        rw [h2] at hcon
        have hnb : binS .neq (bs nm) ⟨#[]⟩ = some (True, .bool true) := by
          have := binS_ne nm []
          rw [decide_eq_false h1] at this
          exact this
        refine AW_rd (tyOf_good _) (by kernel_rfl) [0, 2, 3, 20] [501, 502, 503, 504] (notIn_ok rfl) (by kernel_rfl) fun K' hK' => ?_
        repeat (refine sxd_next fun K2 hK2 => ?_; simp [dNum, dS, wRow, wFn, hnb]; (repeat (refine ⟨by omega, ?_⟩)); refine hK2 _ ?_; clear hK2 K2)
        refine sxd_next fun K2 hK2 => ?_
        simp [dNum, dS, wRow, wFn, hnb]
        refine callQ.data (hcon) (by simp; rfl) (by simp; rfl) (by first | exact D.leGo_refl _ | simp [takeMap, List.map_map, Function.comp_def, D.le, D.le.go, D.le_refl, D.leGo_refl, dNum, dS, wRow, wFn, hnb]) ?_
        refine hK2 _ ?_
        clear hK2 K2
        simp only [putd, upd_lst]
        repeat (refine sxd_next fun K2 hK2 => ?_; simp [dNum, dS, wRow, wFn, hnb]; (repeat (refine ⟨by omega, ?_⟩)); refine hK2 _ ?_; clear hK2 K2)
        refine sxd_nil (hK' _ ?_)
        refine AW.st (by simp [dNum, dS, wRow, wFn, hnb]; rfl) ?_
        clear hK' K'
        refine AW_cond false rfl (fun h => by cases h) (fun _ => ?_)
        refine AW_skip (hgo _ ?_)
        refine Imp.to' (notIn_ok rfl) (by simp [dNum, dS, wRow, wFn]) (by simp [dNum, dS, wRow, wFn])
      · subst h3
        rw [h2] at hcon
        have hnb : binS .neq (bs nm) ⟨#[]⟩ = some (True, .bool true) := by
          have := binS_ne nm []
          rw [decide_eq_false h1] at this
          exact this
        refine AW_rd (tyOf_good _) (by kernel_rfl) [0, 2, 3, 20] [501, 502, 503, 504] (notIn_ok rfl) (by kernel_rfl) fun K' hK' => ?_
        repeat (refine sxd_next fun K2 hK2 => ?_; simp [dNum, dS, wRow, wFn, hnb]; (repeat (refine ⟨by omega, ?_⟩)); refine hK2 _ ?_; clear hK2 K2)
        refine sxd_next fun K2 hK2 => ?_
        simp [dNum, dS, wRow, wFn, hnb]
        refine callQ.data (hcon) (by simp; rfl) (by simp; rfl) (by first | exact D.leGo_refl _ | simp [takeMap, List.map_map, Function.comp_def, D.le, D.le.go, D.le_refl, D.leGo_refl, dNum, dS, wRow, wFn, hnb]) ?_
        refine hK2 _ ?_
        clear hK2 K2
        simp only [putd, upd_lst]
        repeat (refine sxd_next fun K2 hK2 => ?_; simp [dNum, dS, wRow, wFn, hnb]; (repeat (refine ⟨by omega, ?_⟩)); refine hK2 _ ?_; clear hK2 K2)
        refine sxd_nil (hK' _ ?_)
        refine AW.st (by simp [dNum, dS, wRow, wFn, hnb]; rfl) ?_
        clear hK' K'
        refine AW_cond true rfl (fun _ => ?_) (fun h => by cases h)
        refine AW_rg (tyOf_good _) [0, 2, 3, 5] [501, 502, 503, 504] (notIn_ok rfl) fun K' hK' => ?_
        repeat (refine sxf_next fun K2 hK2 => ?_; simp [dNum, dS, wRow, wFn]; (repeat (refine ⟨by omega, ?_⟩)); refine hK2 _ ?_; clear hK2 K2)
        refine sxf_nil (hK' _ ?_)
        refine AW.st (by simp [dNum, dS, wRow, wFn]; rfl) ?_
        clear hK' K'
        refine AW_then fun K2 hK2 => ?_
        refine (fun hgo2 => ?_) (fun (k : Nat) (hk : k ≤ l0.length) (hp : ∀ i (hi : i < l0.length), i < k → l0[i]'hi < nm) (hx : ∀ hk : k < l0.length, ¬ l0[k]'hk < nm) (σ : St) himp => hK2 σ (AW.imp (τ := ⟨lst [(0, .d (.ip [dS kd, dS nm, .sl kk (l.map fun x => [dR x])])), (2, .ref 502 0 0), (3, .ref 504 0 0), (5, int k)], hlst (wRow all l0)⟩) himp ?_))
        · refine AW_for (S := Nat) (fun k => k ≤ l0.length ∧ ∀ i (hi : i < l0.length), i < k → l0[i] < nm) (fun k => ⟨lst [(0, .d (.ip [dS kd, dS nm, .sl kk (l.map fun x => [dR x])])), (2, .ref 502 0 0), (3, .ref 504 0 0), (5, int k)], hlst (wRow all l0)⟩) (fun k => l0.length - k) 0 ?_ (by simp) ?_
          · refine Imp.to' (notIn_ok rfl) (by simp [dNum, dS, wRow, wFn]) (by simp [dNum, dS, wRow, wFn])
          · rintro k ⟨hk, hp⟩
            refine AW_then fun K3 hK3 => ?_
            by_cases hkl : k < l0.length
            · cases hlt : decide (l0[k] < nm) with
              | true =>
                have hb2 : binS .lss (bs l0[k]) (bs nm) = some (True, .bool true) := by rw [binS_lt, hlt]
                refine AW_rd (tyOf_good _) (by kernel_rfl) [0, 2, 3, 5, 35] [501, 502, 503, 504] (notIn_ok rfl) (by kernel_rfl) fun K' hK' => ?_
                repeat (refine sxd_next fun K2 hK2 => ?_; simp [dNum, dS, wRow, wFn, hkl, hb2]; (repeat (refine ⟨by omega, ?_⟩)); refine hK2 _ ?_; clear hK2 K2)
                refine sxd_nil (hK' _ ?_)
                refine AW.st (by simp [dNum, dS, wRow, wFn, hkl, hb2]; rfl) ?_
                clear hK' K'
                refine AW_cond true rfl (fun _ => ?_) (fun h => by cases h)
                refine AW_skip (hK3 _ ?_)
                refine AW_block ?_
                refine AW_re (tyOf_good _) fun K' hK' => ?_
                repeat (refine sxf_next fun K2 hK2 => ?_; simp [dNum, dS, wRow, wFn]; (repeat (refine ⟨by omega, ?_⟩)); refine hK2 _ ?_; clear hK2 K2)
                refine sxf_nil (hK' _ ?_)
                clear hK' K'
                try simp only [thn, inb]
                refine Again.mk (k + 1) ⟨by omega, fun i hi hik => ?_⟩ (by omega) ?_
                · by_cases he : i = k
                  · subst he; exact of_decide_eq_true hlt
                  · exact hp i hi (by omega)
                refine Imp.to' (notIn_ok rfl) (by simp [dNum, dS, wRow, wFn]) (by simp [dNum, dS, wRow, wFn])
              | false =>
                have hb2 : binS .lss (bs l0[k]) (bs nm) = some (True, .bool false) := by rw [binS_lt, hlt]
                refine AW_rd (tyOf_good _) (by kernel_rfl) [0, 2, 3, 5, 35] [501, 502, 503, 504] (notIn_ok rfl) (by kernel_rfl) fun K' hK' => ?_
                repeat (refine sxd_next fun K2 hK2 => ?_; simp [dNum, dS, wRow, wFn, hkl, hb2]; (repeat (refine ⟨by omega, ?_⟩)); refine hK2 _ ?_; clear hK2 K2)
                refine sxd_nil (hK' _ ?_)
                refine AW.st (by simp [dNum, dS, wRow, wFn, hkl, hb2]; rfl) ?_
                clear hK' K'
                refine AW_cond false rfl (fun h => by cases h) (fun _ => ?_)
                refine AW_exit (hgo2 k hk hp (fun _ => of_decide_eq_false hlt) _ ?_)
                refine Imp.to' (notIn_ok rfl) (by simp [dNum, dS, wRow, wFn]) (by simp [dNum, dS, wRow, wFn])
            · refine AW_rd (tyOf_good _) (by kernel_rfl) [0, 2, 3, 5, 35] [501, 502, 503, 504] (notIn_ok rfl) (by kernel_rfl) fun K' hK' => ?_
              repeat (refine sxd_next fun K2 hK2 => ?_; simp [dNum, dS, wRow, wFn, hkl]; (repeat (refine ⟨by omega, ?_⟩)); refine hK2 _ ?_; clear hK2 K2)
              refine sxd_nil (hK' _ ?_)
              refine AW.st (by simp [dNum, dS, wRow, wFn, hkl]; rfl) ?_
              clear hK' K'
              refine AW_cond false rfl (fun h => by cases h) (fun _ => ?_)
              refine AW_exit (hgo2 k hk hp (fun h => absurd h hkl) _ ?_)
              refine Imp.to' (notIn_ok rfl) (by simp [dNum, dS, wRow, wFn]) (by simp [dNum, dS, wRow, wFn])
        · have hins := insT_at nm l0 k hk hp hx
          have ho2 : out1 = insT nm l0 := hout.symm
          rw [hins] at ho2
          by_cases hkl : k < l0.length
          · by_cases he : l0[k] = nm
            · have hb3 : binS .neq (bs l0[k]) (bs nm) = some (True, .bool false) := by rw [binS_ne, he, decide_eq_true rfl]; rfl
              rw [if_pos ⟨hkl, he⟩] at ho2
              have hne : ¬ k = l0.length := by omega
              refine AW_rd (tyOf_good _) (by kernel_rfl) [0, 2, 3, 5, 52] [501, 502, 503, 504] (notIn_ok rfl) (by kernel_rfl) fun K' hK' => ?_
              repeat (refine sxd_next fun K2 hK2 => ?_; simp [dNum, dS, wRow, wFn, hkl, hb3, hne]; (repeat (refine ⟨by omega, ?_⟩)); refine hK2 _ ?_; clear hK2 K2)
              refine sxd_nil (hK' _ ?_)
              refine AW.st (by simp [dNum, dS, wRow, wFn, hkl, hb3, hne]; rfl) ?_
              clear hK' K'
              refine AW_cond false rfl (fun h => by cases h) (fun _ => ?_)
              refine AW_skip (hgo _ ?_)
              refine Imp.to' (notIn_ok rfl) (by simp [dNum, dS, wRow, wFn, ho2]) (by simp [dNum, dS, wRow, wFn, ho2])
            · have hb3 : binS .neq (bs l0[k]) (bs nm) = some (True, .bool true) := by rw [binS_ne, decide_eq_false he]; rfl
              rw [if_neg (fun ⟨_, h⟩ => he h)] at ho2
              have hne : ¬ k = l0.length := by omega
              refine AW_rd (tyOf_good _) (by kernel_rfl) [0, 2, 3, 5, 52] [501, 502, 503, 504] (notIn_ok rfl) (by kernel_rfl) fun K' hK' => ?_
              repeat (refine sxd_next fun K2 hK2 => ?_; simp [dNum, dS, wRow, wFn, hkl, hb3, hne]; (repeat (refine ⟨by omega, ?_⟩)); refine hK2 _ ?_; clear hK2 K2)
              refine sxd_nil (hK' _ ?_)
              refine AW.st (by simp [dNum, dS, wRow, wFn, hkl, hb3, hne]; rfl) ?_
              clear hK' K'
              refine AW_cond true rfl (fun _ => ?_) (fun h => by cases h)
              refine AW_rg (tyOf_good _) [0, 2, 3, 5] [501, 502, 503, 504] (notIn_ok rfl) fun K' hK' => ?_
              repeat (refine sxf_next fun K2 hK2 => ?_; simp [dNum, dS, wRow, wFn, List.take_of_length_le]; (repeat (refine ⟨by omega, ?_⟩)); refine hK2 _ ?_; clear hK2 K2)
              refine sxf_nil (hK' _ ?_)
              refine AW.st (by simp [dNum, dS, wRow, wFn, List.take_of_length_le]; rfl) ?_
              clear hK' K'
              have hk1 : k + 1 ≤ l0.length + 1 := by omega
              have hi2 : ¬ (k : Int) = (l0.length : Int) + 1 := by omega
              have hi3 : ((l0.length : Int) + 1 - ((k : Int) + 1)).toNat = l0.length + 1 - (k + 1) := by omega
              have hle : k + (l0.length + 1 - k) ≤ l0.length + 1 := by omega
              have hle2 : k + 1 + (l0.length - k) ≤ l0.length + 1 := by omega
              obtain ⟨news, els2, w0, q1, q2, q3, q4, q5, q6, q7, _⟩ := put_in (l0.map fun s => [dS s]) [dS []] [dS nm] k (by simpa using hk) (by intro el hel; obtain ⟨s, _, rfl⟩ := List.mem_map.1 hel; simp [dS, D.one]) (by simp [dS, D.one])
              have q8 : List.take k (l0.map fun s => [dS s]) ++ [dS nm] :: List.drop k (l0.map fun s => [dS s]) = out1.map fun s => [dS s] := by rw [ho2]; simp
              rw [q8] at q7
              have q9 : out1.length = l0.length + 1 := by rw [ho2]; simp; omega
              rw [List.length_map] at q1 q4 q5
              rw [Nat.add_sub_add_right] at q4
              simp only [dS] at q1 q4 q7
              rw [← bs_nil] at q1 q4
              have q10 : (els2[k]'(by omega)).tail = [] := by
                have := q6
                rw [List.getElem?_eq_getElem (by omega)] at this
                rw [Option.some.inj this]
                rfl
              have q23 := eq_true (And.intro q2 q3)
              have q2t := eq_true q2
              have q3t := eq_true q3
              have hkl1 : k < l0.length + 1 := by omega
              refine AW_rd (tyOf_good _) (by kernel_rfl) [0, 2, 3, 5] [501, 502, 503, 504] (notIn_ok rfl) (by kernel_rfl) fun K' hK' => ?_
              repeat (refine sxd_next fun K2 hK2 => ?_; simp [dNum, dS, wRow, wFn, hk1, hk, hne, hi2, hi3, hle, hle2, q1, q23, q2t, q3t, q4]; (repeat (refine ⟨by omega, ?_⟩)); refine hK2 _ ?_; clear hK2 K2)
              refine sxd_nil (hK' _ ?_)
              refine AW.st (by simp [dNum, dS, wRow, wFn, hk1, hk, hne, hi2, hi3, hle, hle2, q1, q23, q2t, q3t, q4]; rfl) ?_
              clear hK' K'
              refine AW_rde (tyOf_good _) (by kernel_rfl) (by kernel_rfl) fun K' hK' => ?_
              repeat (refine sxd_next fun K2 hK2 => ?_; simp [dNum, dS, wRow, wFn, q5, q6, q7, q10, hkl1]; (repeat (refine ⟨by omega, ?_⟩)); refine hK2 _ ?_; clear hK2 K2)
              refine sxd_nil (hK' _ ?_)
              clear hK' K'
              try simp only [thn, inb]
              refine hgo _ ?_
              refine Imp.to' (notIn_ok rfl) (by simp [dNum, dS, wRow, wFn, q9, q7, q10]) (by simp [dNum, dS, wRow, wFn, q9, q7, q10])
          · obtain rfl : k = l0.length := by omega
            rw [if_neg (fun ⟨h, _⟩ => hkl h), List.take_length, List.drop_length] at ho2
            refine AW_rd (tyOf_good _) (by kernel_rfl) [0, 2, 3, 5, 52] [501, 502, 503, 504] (notIn_ok rfl) (by kernel_rfl) fun K' hK' => ?_
            repeat (refine sxd_next fun K2 hK2 => ?_; simp [dNum, dS, wRow, wFn, hkl]; (repeat (refine ⟨by omega, ?_⟩)); refine hK2 _ ?_; clear hK2 K2)
            refine sxd_nil (hK' _ ?_)
            refine AW.st (by simp [dNum, dS, wRow, wFn, hkl]; rfl) ?_
            clear hK' K'
            refine AW_cond true rfl (fun _ => ?_) (fun h => by cases h)
            refine AW_rg (tyOf_good _) [0, 2, 3, 5] [501, 502, 503, 504] (notIn_ok rfl) fun K' hK' => ?_
            repeat (refine sxf_next fun K2 hK2 => ?_; simp [dNum, dS, wRow, wFn, List.take_of_length_le]; (repeat (refine ⟨by omega, ?_⟩)); refine hK2 _ ?_; clear hK2 K2)
            refine sxf_nil (hK' _ ?_)
            refine AW.st (by simp [dNum, dS, wRow, wFn, List.take_of_length_le]; rfl) ?_
            clear hK' K'
            have hi2 : ¬ (l0.length : Int) = (l0.length : Int) + 1 := by omega
            have hi3 : ¬ (l0.length : Int) + 1 = 0 := by omega
            have q8 : (l0.map fun s => [dS s]) ++ [[dS nm]] = out1.map fun s => [dS s] := by rw [ho2]; simp
            have q9 : out1.length = l0.length + 1 := by rw [ho2]; simp
            simp only [dS] at q8
            refine AW_rd (tyOf_good _) (by kernel_rfl) [0, 2, 3, 5] [501, 502, 503, 504] (notIn_ok rfl) (by kernel_rfl) fun K' hK' => ?_
            repeat (refine sxd_next fun K2 hK2 => ?_; simp [dNum, dS, wRow, wFn, hi2, hi3, D.one]; (repeat (refine ⟨by omega, ?_⟩)); refine hK2 _ ?_; clear hK2 K2)
            refine sxd_nil (hK' _ ?_)
            refine AW.st (by simp [dNum, dS, wRow, wFn, hi2, hi3, D.one]; rfl) ?_
            clear hK' K'
            refine AW_rde (tyOf_good _) (by kernel_rfl) (by kernel_rfl) fun K' hK' => ?_
            repeat (refine sxd_next fun K2 hK2 => ?_; simp [dNum, dS, wRow, wFn]; (repeat (refine ⟨by omega, ?_⟩)); refine hK2 _ ?_; clear hK2 K2)
            refine sxd_nil (hK' _ ?_)
            clear hK' K'
            try simp only [thn, inb]
            refine hgo _ ?_
            refine Imp.to' (notIn_ok rfl) (by simp [dNum, dS, wRow, wFn, q9, q8]) (by simp [dNum, dS, wRow, wFn, q9, q8])
    · simp only [List.singleton_append] at hch
      refine AW_rg (tyOf_good _) [3, 74, 75, 76] [501, 502, 503, 504] (notIn_ok rfl) fun K' hK' => ?_
      repeat (refine sxf_next fun K2 hK2 => ?_; simp [dNum, dS, wRow, wFn]; (repeat (refine ⟨by omega, ?_⟩)); refine hK2 _ ?_; clear hK2 K2)
      refine sxf_nil (hK' _ ?_)
      refine AW.st (by simp [dNum, dS, wRow, wFn]; rfl) ?_
      clear hK' K'
      refine AW_for (S := Nat) (fun i => i ≤ l.length) (fun i => ⟨lst [(3, .ref 504 0 0), (74, .d (.sl kk (l.map fun x => [dR x]))), (75, int l.length), (76, int i)], hlst (wRow all (insL out1 (nmsL all (l.take i))))⟩) (fun i => l.length - i) 0 ?_ (by omega) ?_
      · refine Imp.to' (notIn_ok rfl) (by simp [dNum, dS, wRow, wFn, nmsL, insL_nil]) (by simp [dNum, dS, wRow, wFn, nmsL, insL_nil])
      · intro i hi
        refine AW_rg (tyOf_good _) [3, 74, 75, 76, 77] [501, 502, 503, 504] (notIn_ok rfl) fun K' hK' => ?_
        repeat (refine sxf_next fun K2 hK2 => ?_; simp [dNum, dS, wRow, wFn]; (repeat (refine ⟨by omega, ?_⟩)); refine hK2 _ ?_; clear hK2 K2)
        refine sxf_nil (hK' _ ?_)
        refine AW.st (by simp [dNum, dS, wRow, wFn]; rfl) ?_
        clear hK' K'
        refine AW_then fun K4 hK4 => ?_
        refine AW_cond' (b := i < l.length) (by simp [D.le, D.le.go, takeMap, dNum, dS, wRow, wFn]) (fun hc => ?_) (fun hc => ?_)
        · have hil : i < l.length := hc
          have h1 := nmsL_take all hil
          have h2 := nmsL_len all (l.take i)
          have h3 := bEs_take hil
          have h4 := insL_len (nmsL all (l.take i)) out1
          have hcc := hch _ (List.getElem_mem hil) (insL out1 (nmsL all (l.take i))) (by omega)
          rw [← insL_app, ← h1] at hcc
          have hf := dR_form l[i]
          rw [hf] at hcc
          refine AW_skip (hK4 _ ?_)
          refine AW_then fun K5 hK5 => ?_
          refine AW_block ?_
          refine AW_rg (tyOf_good _) [3, 7, 74, 75, 76] [501, 502, 503, 504] (notIn_ok rfl) fun K' hK' => ?_
          repeat (refine sxf_next fun K2 hK2 => ?_; simp [dNum, dS, wRow, wFn, hil, hf]; (repeat (refine ⟨by omega, ?_⟩)); refine hK2 _ ?_; clear hK2 K2)
          refine sxf_nil (hK' _ ?_)
          refine AW.st (by simp [dNum, dS, wRow, wFn, hil, hf]; rfl) ?_
          clear hK' K'
          refine AW_re (tyOf_good _) fun K' hK' => ?_
          repeat (refine sxf_next fun K2 hK2 => ?_; simp [dNum, dS, wRow, wFn]; (repeat (refine ⟨by omega, ?_⟩)); refine hK2 _ ?_; clear hK2 K2)
          refine sxf_next fun K2 hK2 => ?_
          simp [dNum, dS, wRow, wFn]
          refine callK.mc (hcc) (by simp [dNum, dS, wRow, wFn]) (by simp [dNum, dS, wRow, wFn]) (by simp [dNum, dS, wRow, wFn]) (by simp [dNum, dS, wRow, wFn]) ?_
          simp [dNum, dS, wRow, wFn]
          refine hK2 _ ?_
          clear hK2 K2
          repeat (refine sxf_next fun K2 hK2 => ?_; simp [dNum, dS, wRow, wFn]; (repeat (refine ⟨by omega, ?_⟩)); refine hK2 _ ?_; clear hK2 K2)
          refine sxf_nil (hK' _ ?_)
          clear hK' K'
          refine hK5 _ (AW.norm [3, 74, 75, 76] [501, 502, 503, 504] (notIn_ok rfl) (AW.st (by simp [dNum, dS, wRow, wFn]; rfl) ?_))
          refine AW_re (tyOf_good _) fun K' hK' => ?_
          repeat (refine sxf_next fun K2 hK2 => ?_; simp [dNum, dS, wRow, wFn]; (repeat (refine ⟨by omega, ?_⟩)); refine hK2 _ ?_; clear hK2 K2)
          refine sxf_nil (hK' _ ?_)
          clear hK' K'
          try simp only [thn, inb]
          refine Again.mk (i + 1) (by omega) (by omega) ?_
          refine Imp.to' (notIn_ok rfl) (by simp [dNum, dS, wRow, wFn]) (by simp [dNum, dS, wRow, wFn])
        · obtain rfl : i = l.length := by omega
          refine AW_exit ?_
          simp [D.le_refl, List.take_length, wRow, wFn, dS]
end Go.Proofs.YtagfbbnlbncjlaaGreatDoor

/-
  The document's Names and Edges.
-/
namespace Go.Proofs.YtagfbbnlbncjlaaGreatDoor
set_option linter.unusedSimpArgs false
set_option linter.unusedVariables false
open Go.Av

set_option maxHeartbeats 8000000 in
theorem named_spec (G : Glob) (hM : HasMax G) (all : Bool) (e : Ex) (hb : bE e ≤ 2^28) : PureC Tryz.prog G 36 [dR e, dS (kAll all)] (.sl none ((namesE all e).map fun s => [dS s])) := by
  have hw := rwalk_at G hM all _ e (Nat.le_refl _) [] (by simp; omega)
  have hnm := insL_names all e
  rw [hnm] at hw
  simp only [List.singleton_append] at hw
  generalize namesE all e = l at hw ⊢
  clear hnm
  rw [dR_form] at hw ⊢
  refine PureC.of_body (tyOf_good _) Tryz.func36 rfl rfl (rs := [.tmp 4]) Tryz.results36 (by simp [Tryz.ntmps36]) fun X => ?_
  simp only [Tryz.ntmps36, List.map]
  refine AW_rg (tyOf_good _) [0, 3] [3] (fun _ _ => trivial) fun K' hK' => ?_
  repeat (refine sxf_next fun K2 hK2 => ?_; simp [dNum, dS, wRow, wFn]; (repeat (refine ⟨by omega, ?_⟩)); refine hK2 _ ?_; clear hK2 K2)
  refine sxf_nil (hK' _ ?_)
  refine AW.st (by simp [dNum, dS, wRow, wFn]; rfl) ?_
  clear hK' K'
  refine AW_rg (tyOf_good _) [0, 3, 5] [3, 5] (fun _ _ => trivial) fun K' hK' => ?_
  repeat (refine sxf_next fun K2 hK2 => ?_; simp [dNum, dS, wRow, wFn]; (repeat (refine ⟨by omega, ?_⟩)); refine hK2 _ ?_; clear hK2 K2)
  refine sxf_nil (hK' _ ?_)
  refine AW.st (by simp [dNum, dS, wRow, wFn]; rfl) ?_
  clear hK' K'
  refine AW_rg (tyOf_good _) [0, 3, 5, 6] [3, 5, 6] (fun _ _ => trivial) fun K' hK' => ?_
  repeat (refine sxf_next fun K2 hK2 => ?_; simp [dNum, dS, wRow, wFn]; (repeat (refine ⟨by omega, ?_⟩)); refine hK2 _ ?_; clear hK2 K2)
  refine sxf_nil (hK' _ ?_)
  refine AW.st (by simp [dNum, dS, wRow, wFn]; rfl) ?_
  clear hK' K'
  refine AW_rg (tyOf_good _) [0, 5, 6] [3, 5, 6] (fun _ _ => trivial) fun K' hK' => ?_
  repeat (refine sxf_next fun K2 hK2 => ?_; simp [dNum, dS, wRow, wFn]; (repeat (refine ⟨by omega, ?_⟩)); refine hK2 _ ?_; clear hK2 K2)
  refine sxf_nil (hK' _ ?_)
  refine AW.st (by simp [dNum, dS, wRow, wFn]; rfl) ?_
  clear hK' K'
  refine AW.imp (Imp.ren (r := 3) (r' := 501) trivial (by simp)) ?_
  refine AW.st (by simp [renO, renF, Go.Av.ren, renH_hlst]; rfl) ?_
  refine AW.imp (Imp.ren (r := 5) (r' := 502) trivial (by simp)) ?_
  refine AW.st (by simp [renO, renF, Go.Av.ren, renH_hlst]; rfl) ?_
  refine AW.imp (Imp.ren (r := 6) (r' := 504) trivial (by simp)) ?_
  refine AW.st (by simp [renO, renF, Go.Av.ren, renH_hlst]; rfl) ?_
  refine AW.imp (Imp.adoptCell 502 0 503 9 1 rfl rfl rfl) ?_
  refine AW.imp (τ := ⟨lst [(0, .d (.ip [dS (kdR e), dS (nmR e), ofR e])), (5, .ref 502 0 0), (6, .ref 504 0 0)], hlst (wRow all [])⟩) ?_ ?_
  · refine Imp.to' (fun _ _ => trivial) (by simp [dNum, dS, wRow, wFn, wRow, wFn]) (by simp [dNum, dS, wRow, wFn, wRow, wFn])
  refine AW_rg (tyOf_good _) [5] [502, 503] (fun _ _ => trivial) fun K' hK' => ?_
  repeat (refine sxf_next fun K2 hK2 => ?_; simp [dNum, dS, wRow, wFn]; (repeat (refine ⟨by omega, ?_⟩)); refine hK2 _ ?_; clear hK2 K2)
  refine sxf_next fun K2 hK2 => ?_
  simp [dNum, dS, wRow, wFn]
  refine callK.mc (hw) (by simp [dNum, dS, wRow, wFn]) (by simp [dNum, dS, wRow, wFn]) (by simp [dNum, dS, wRow, wFn]) (by simp [dNum, dS, wRow, wFn]) ?_
  simp [dNum, dS, wRow, wFn]
  refine hK2 _ ?_
  clear hK2 K2
  repeat (refine sxf_next fun K2 hK2 => ?_; simp [dNum, dS, wRow, wFn]; (repeat (refine ⟨by omega, ?_⟩)); refine hK2 _ ?_; clear hK2 K2)
  refine sxf_nil (hK' _ ?_)
  refine AW.st (by simp [dNum, dS, wRow, wFn]; rfl) ?_
  clear hK' K'
  refine AW_rg (tyOf_good _) [4] [502, 503] (fun _ _ => trivial) fun K' hK' => ?_
  repeat (refine sxf_next fun K2 hK2 => ?_; simp [dNum, dS, wRow, wFn, wRow, wFn]; (repeat (refine ⟨by omega, ?_⟩)); refine hK2 _ ?_; clear hK2 K2)
  refine sxf_nil (hK' _ ?_)
  refine AW.st (by simp [dNum, dS, wRow, wFn, wRow, wFn]; rfl) ?_
  clear hK' K'
  have htk : List.take l.length (l.map fun s => [dS s]) = l.map fun s => [dS s] := List.take_of_length_le (by simp)
  simp only [dS] at htk
  refine AW.imp (Imp.freeze 503 trivial) ?_
  refine AW.st (by simp [dNum, dS, wRow, wFn, htk]; rfl) ?_
  refine AW_ret ?_
  simp [D.le, D.le.go, takeMap, dNum, dS, wRow, wFn, D.le_refl, D.leGo_refl, htk]
theorem rnames_spec (G : Glob) (hM : HasMax G) (e : Ex) (hb : bE e ≤ 2^28) : PureC Tryz.prog G 12 [dR e] (.sl none ((namesE true e).map fun s => [dS s])) := by
  have hs := named_spec G hM true e hb
  rw [dR_form] at hs ⊢
  generalize namesE true e = l at hs ⊢
  have hk : dS (kAll true) = .v (.string ⟨#[98, 105, 116, 94, 126]⟩) := rfl
  rw [hk] at hs
  refine PureC.of_body (tyOf_good _) Tryz.func12 rfl rfl (rs := [.tmp 2]) Tryz.results12 (by simp [Tryz.ntmps12]) fun X => ?_
  simp only [Tryz.ntmps12, List.map]
  refine AW_rg (tyOf_good _) [0] [] (fun _ _ => trivial) fun K' hK' => ?_
  repeat (refine sxf_next fun K2 hK2 => ?_; simp [dNum, dS, wRow, wFn]; (repeat (refine ⟨by omega, ?_⟩)); refine hK2 _ ?_; clear hK2 K2)
  refine sxf_nil (hK' _ ?_)
  refine AW.st (by simp [dNum, dS, wRow, wFn]; rfl) ?_
  clear hK' K'
  refine AW_rg (tyOf_good _) [2] [] (fun _ _ => trivial) fun K' hK' => ?_
  repeat (refine sxf_next fun K2 hK2 => ?_; simp [dNum, dS, wRow, wFn]; (repeat (refine ⟨by omega, ?_⟩)); refine hK2 _ ?_; clear hK2 K2)
  refine sxf_next fun K2 hK2 => ?_
  simp [dNum, dS, wRow, wFn]
  refine callK.data (hs) (by simp; rfl) (by first | exact D.leGo_refl _ | simp [takeMap, List.map_map, Function.comp_def, D.le, D.le.go, D.le_refl, D.leGo_refl, dNum, dS, wRow, wFn]) ?_
  refine hK2 _ ?_
  clear hK2 K2
  simp only [putd, upd_lst]
  repeat (refine sxf_next fun K2 hK2 => ?_; simp [dNum, dS, wRow, wFn]; (repeat (refine ⟨by omega, ?_⟩)); refine hK2 _ ?_; clear hK2 K2)
  refine sxf_nil (hK' _ ?_)
  refine AW.st (by simp [dNum, dS, wRow, wFn]; rfl) ?_
  clear hK' K'
  refine AW_ret ?_
  simp [D.le, D.le.go, takeMap, dNum, dS, wRow, wFn, D.le_refl, D.leGo_refl]
theorem redges_spec (G : Glob) (hM : HasMax G) (e : Ex) (hb : bE e ≤ 2^28) : PureC Tryz.prog G 11 [dR e] (.sl none ((namesE false e).map fun s => [dS s])) := by
  have hs := named_spec G hM false e hb
  rw [dR_form] at hs ⊢
  generalize namesE false e = l at hs ⊢
  have hk : dS (kAll false) = .v (.string ⟨#[94, 126]⟩) := rfl
  rw [hk] at hs
  refine PureC.of_body (tyOf_good _) Tryz.func11 rfl rfl (rs := [.tmp 2]) Tryz.results11 (by simp [Tryz.ntmps11]) fun X => ?_
  simp only [Tryz.ntmps11, List.map]
  refine AW_rg (tyOf_good _) [0] [] (fun _ _ => trivial) fun K' hK' => ?_
  repeat (refine sxf_next fun K2 hK2 => ?_; simp [dNum, dS, wRow, wFn]; (repeat (refine ⟨by omega, ?_⟩)); refine hK2 _ ?_; clear hK2 K2)
  refine sxf_nil (hK' _ ?_)
  refine AW.st (by simp [dNum, dS, wRow, wFn]; rfl) ?_
  clear hK' K'
  refine AW_rg (tyOf_good _) [2] [] (fun _ _ => trivial) fun K' hK' => ?_
  repeat (refine sxf_next fun K2 hK2 => ?_; simp [dNum, dS, wRow, wFn]; (repeat (refine ⟨by omega, ?_⟩)); refine hK2 _ ?_; clear hK2 K2)
  refine sxf_next fun K2 hK2 => ?_
  simp [dNum, dS, wRow, wFn]
  refine callK.data (hs) (by simp; rfl) (by first | exact D.leGo_refl _ | simp [takeMap, List.map_map, Function.comp_def, D.le, D.le.go, D.le_refl, D.leGo_refl, dNum, dS, wRow, wFn]) ?_
  refine hK2 _ ?_
  clear hK2 K2
  simp only [putd, upd_lst]
  repeat (refine sxf_next fun K2 hK2 => ?_; simp [dNum, dS, wRow, wFn]; (repeat (refine ⟨by omega, ?_⟩)); refine hK2 _ ?_; clear hK2 K2)
  refine sxf_nil (hK' _ ?_)
  refine AW.st (by simp [dNum, dS, wRow, wFn]; rfl) ?_
  clear hK' K'
  refine AW_ret ?_
  simp [D.le, D.le.go, takeMap, dNum, dS, wRow, wFn, D.le_refl, D.leGo_refl]
end Go.Proofs.YtagfbbnlbncjlaaGreatDoor

/-
  The document's Pairs.
-/
namespace Go.Proofs.YtagfbbnlbncjlaaGreatDoor
set_option linter.unusedSimpArgs false
set_option linter.unusedVariables false
open Go.Av

theorem idx_ixT2 {l : List Tx} {s : Tx} (h : s ∈ l) : idx (fun x => x == s) l = (ixT l s : Int) := by
  refine idx_hit (ixT_lt h) (by simp [ixT_get h]) fun i hi => ?_
  have := List.not_of_lt_findIdx (p := (· == s)) hi
  simpa using this
theorem rem_is0 (x k : Nat) : decide (((x : Int) / 2^k).tmod 2 = 0) = !x.testBit k := by
  have e : ((x / 2^k : Nat) : Int) = (x : Int) / 2^k := by rw [Int.natCast_ediv, Int.natCast_pow]; rfl
  have e2 : ((x : Int) / 2^k).tmod 2 = ((x / 2^k % 2 : Nat) : Int) := by
    rw [← e, Int.natCast_emod]
    exact Int.tmod_eq_emod_of_nonneg (Int.natCast_nonneg _)
  rw [e2, ← u_bit x k]
  have : x / 2^k % 2 = 0 ∨ x / 2^k % 2 = 1 := by omega
  rcases this with h | h <;> rw [h] <;> rfl
theorem add_or (x k : Nat) (hx : x < 2^63) (hk : k < 60) (h : x.testBit k = false) : x + 2^k = x ||| 2^k := by
  have h2 : (2:Nat)^k < 2^60 := Nat.pow_lt_pow_right (by decide) hk
  have hz : (BitVec.ofNat 64 x) &&& (BitVec.ofNat 64 (2^k)) = 0#64 := by
    apply BitVec.eq_of_toNat_eq
    rw [BitVec.toNat_and, BitVec.toNat_ofNat, BitVec.toNat_ofNat, Nat.mod_eq_of_lt (by omega), Nat.mod_eq_of_lt (by omega)]
    apply Nat.eq_of_testBit_eq
    intro i
    rw [Nat.testBit_and, Nat.testBit_two_pow]
    by_cases e : k = i
    · subst e; simp [h]
    · simp [e]
  have := congrArg BitVec.toNat (BitVec.add_eq_or_of_and_eq_zero _ _ hz)
  rw [BitVec.toNat_add, BitVec.toNat_or, BitVec.toNat_ofNat, BitVec.toNat_ofNat, Nat.mod_eq_of_lt (show x < 2^64 by omega), Nat.mod_eq_of_lt (show 2^k < 2^64 by omega), Nat.mod_eq_of_lt (by omega)] at this
  exact this
theorem add_is (x k : Nat) (hx : x < 2^63) (hk : k < 60) (h : x.testBit k = false) : IntKind.u64.wrap ((x : Int) + 2^k) = ((x ||| 2^k : Nat) : Int) := by
  have h2 : (2:Nat)^k < 2^60 := Nat.pow_lt_pow_right (by decide) hk
  have := u_wrap (x + 2^k) (by omega)
  rw [← add_or x k hx hk h, ← this]
  congr 1
set_option maxHeartbeats 1000000 in
theorem rix_spec (G : Glob) (k0 : Option Bool) (t : List (List UInt8)) (s : List UInt8) (hs : s ≠ []) (ht : t.length < 2^60) : PureC Tryz.prog G 39 [.sl k0 (t.map fun x => [dS x]), dS s] (dNum (idx (fun x => x == s) t)) := by
  have hs0 : s.isEmpty = false := by rw [List.isEmpty_eq_false_iff]; exact hs
  refine PureC.of_body (tyOf_good _) Tryz.func39 rfl rfl (rs := [.tmp 4]) Tryz.results39 (by simp [Tryz.ntmps39]) fun X => ?_
  simp only [Tryz.ntmps39, List.map]
  refine AW_rg (tyOf_good _) [0, 1] [] (fun _ _ => trivial) fun K' hK' => ?_
  repeat (refine sxf_next fun K2 hK2 => ?_; simp [dNum]; (repeat (refine ⟨by omega, ?_⟩)); refine hK2 _ ?_; clear hK2 K2)
  refine sxf_nil (hK' _ ?_)
  refine AW.st (by simp [dNum]; rfl) ?_
  clear hK' K'
  refine AW_then fun K1 hK1 => ?_
  refine AW_rg (tyOf_good _) [1, 7, 8, 9] [] (fun _ _ => trivial) fun K' hK' => ?_
  repeat (refine sxf_next fun K2 hK2 => ?_; simp [dNum]; (repeat (refine ⟨by omega, ?_⟩)); refine hK2 _ ?_; clear hK2 K2)
  refine sxf_nil (hK' _ ?_)
  refine AW.st (by simp [dNum]; rfl) ?_
  clear hK' K'
  refine AW_for (S := Nat) (fun n => n ≤ t.length ∧ ∀ i (hi : i < t.length), i < n → (t[i] == s) = false) (fun n => ⟨lst [(1, .d (dS s)), (7, .d (.sl k0 (t.map fun x => [dS x]))), (8, int t.length), (9, int n)], hlst []⟩) (fun n => t.length - n) 0 ?_ (by simp) ?_
  · refine Imp.to' (fun _ _ => trivial) (by simp [dNum]) (by simp [dNum])
  · rintro n ⟨hn, hp⟩
    refine AW_rg (tyOf_good _) [1, 7, 8, 9, 10] [] (fun _ _ => trivial) fun K' hK' => ?_
    repeat (refine sxf_next fun K2 hK2 => ?_; simp [dNum]; (repeat (refine ⟨by omega, ?_⟩)); refine hK2 _ ?_; clear hK2 K2)
    refine sxf_nil (hK' _ ?_)
    refine AW.st (by simp [dNum]; rfl) ?_
    clear hK' K'
    refine AW_then fun K2 hK2 => ?_
    refine AW_cond' (b := n < t.length) (by simp [D.le, D.le.go, takeMap, dNum]) (fun hc => ?_) (fun hc => ?_)
    · have hnt : n < t.length := hc
      refine AW_skip (hK2 _ ?_)
      refine AW_then fun K3 hK3 => ?_
      refine AW_block ?_
      refine AW_rg (tyOf_good _) [1, 5, 6, 7, 8, 9] [] (fun _ _ => trivial) fun K' hK' => ?_
      repeat (refine sxf_next fun K2 hK2 => ?_; simp [dNum, hnt]; (repeat (refine ⟨by omega, ?_⟩)); refine hK2 _ ?_; clear hK2 K2)
      refine sxf_nil (hK' _ ?_)
      refine AW.st (by simp [dNum, hnt]; rfl) ?_
      clear hK' K'
      cases he : (t[n] == s) with
      | true =>
        have he2 : t[n] = s := by simpa using he
        refine AW_rg (tyOf_good _) [1, 5, 7, 8, 9, 20] [] (fun _ _ => trivial) fun K' hK' => ?_
        repeat (refine sxf_next fun K2 hK2 => ?_; simp [dNum, dS, he2, binS, bs_nil, bs_list, hs, hs0]; (repeat (refine ⟨by omega, ?_⟩)); refine hK2 _ ?_; clear hK2 K2)
        refine sxf_nil (hK' _ ?_)
        refine AW.st (by simp [dNum, dS, he2, binS, bs_nil, bs_list, hs, hs0]; rfl) ?_
        clear hK' K'
        refine AW_cond true rfl (fun _ => ?_) (fun h => by cases h)
        refine AW_rg (tyOf_good _) [4] [] (fun _ _ => trivial) fun K' hK' => ?_
        repeat (refine sxf_next fun K2 hK2 => ?_; simp [dNum]; (repeat (refine ⟨by omega, ?_⟩)); refine hK2 _ ?_; clear hK2 K2)
        refine sxf_nil (hK' _ ?_)
        refine AW.st (by simp [dNum]; rfl) ?_
        clear hK' K'
        refine AW_ret ?_
        simp [D.le, D.le.go, takeMap, dNum]
        exact (idx_hit hnt he fun i hi => hp i (by omega) hi).symm
      | false =>
        have he2 : ¬ t[n] = s := by simpa using he
        refine AW_rg (tyOf_good _) [1, 5, 7, 8, 9, 20] [] (fun _ _ => trivial) fun K' hK' => ?_
        repeat (refine sxf_next fun K2 hK2 => ?_; simp [dNum, dS, he, he2, binS, bs_nil, bs_list]; (repeat (refine ⟨by omega, ?_⟩)); refine hK2 _ ?_; clear hK2 K2)
        refine sxf_nil (hK' _ ?_)
        refine AW.st (by simp [dNum, dS, he, he2, binS, bs_nil, bs_list]; rfl) ?_
        clear hK' K'
        refine AW_cond false rfl (fun h => by cases h) (fun _ => ?_)
        refine AW_skip ?_
        refine hK3 _ (AW.norm [1, 7, 8, 9] [] (fun _ _ => trivial) (AW.st (by simp [dNum]; rfl) ?_))
        refine AW_re (tyOf_good _) fun K' hK' => ?_
        repeat (refine sxf_next fun K2 hK2 => ?_; simp [dNum]; (repeat (refine ⟨by omega, ?_⟩)); refine hK2 _ ?_; clear hK2 K2)
        refine sxf_nil (hK' _ ?_)
        clear hK' K'
        try simp only [thn, inb]
        refine Again.mk (n + 1) ⟨by omega, fun i hi hin => ?_⟩ (by omega) ?_
        · by_cases h : i = n
          · subst h; exact he
          · exact hp i hi (by omega)
        refine Imp.to' (fun _ _ => trivial) (by simp [dNum, dS]) (by simp [dNum, dS])
    · refine AW_exit (hK1 _ ?_)
      refine AW_rg (tyOf_good _) [4] [] (fun _ _ => trivial) fun K' hK' => ?_
      repeat (refine sxf_next fun K2 hK2 => ?_; simp [dNum]; (repeat (refine ⟨by omega, ?_⟩)); refine hK2 _ ?_; clear hK2 K2)
      refine sxf_nil (hK' _ ?_)
      refine AW.st (by simp [dNum]; rfl) ?_
      clear hK' K'
      refine AW_ret ?_
      simp [D.le, D.le.go, takeMap, dNum]
      exact (idx_miss fun i hi => hp i hi (by omega)).symm
set_option maxHeartbeats 4000000 in
theorem risb_spec (G : Glob) (k0 : Option Bool) (ns : List Tx) (hn : ns.length ≤ 60) (x : Nat) (hx : x < 2^64) (s : Tx) (hs : s ∈ ns) (hs0 : s ≠ []) : PureC Tryz.prog G 38 [dS s, .ip [dU x], .ip [.sl k0 (ns.map fun s => [dS s])]] (.v (.bool (isB ns x s))) := by
  have hi := rix_spec G k0 ns s hs0 (by omega)
  rw [idx_ixT2 hs] at hi
  simp only [dNum] at hi
  have hlt := ixT_lt hs
  unfold isB
  generalize ixT ns s = j at hi hlt ⊢
  have hsh := shr_is x j (by omega)
  have hb := and_is1 x j hx
  refine PureC.of_body (tyOf_good _) Tryz.func38 rfl rfl (rs := [.tmp 4]) Tryz.results38 (by simp [Tryz.ntmps38]) fun X => ?_
  simp only [Tryz.ntmps38, List.map]
  refine AW_rg (tyOf_good _) [0, 1, 2] [] (fun _ _ => trivial) fun K' hK' => ?_
  repeat (refine sxf_next fun K2 hK2 => ?_; simp [dU, dS]; (repeat (refine ⟨by omega, ?_⟩)); refine hK2 _ ?_; clear hK2 K2)
  refine sxf_nil (hK' _ ?_)
  refine AW.st (by simp [dU, dS]; rfl) ?_
  clear hK' K'
  refine AW_rd (tyOf_good _) (by kernel_rfl) [4] [] (fun _ _ => trivial) (by kernel_rfl) fun K' hK' => ?_
  repeat (refine sxd_next fun K2 hK2 => ?_; simp [dU, dS, shI, hsh, hb]; (repeat (refine ⟨by omega, ?_⟩)); refine hK2 _ ?_; clear hK2 K2)
  refine sxd_next fun K2 hK2 => ?_
  simp [dU, dS, shI, hsh, hb]
  refine callQ.data (hi) (by simp; rfl) (by simp; rfl) (by first | exact D.leGo_refl _ | simp [takeMap, List.map_map, Function.comp_def, D.le, D.le.go, D.le_refl, D.leGo_refl, dU, dS, shI, hsh, hb]) ?_
  refine hK2 _ ?_
  clear hK2 K2
  simp only [putd, upd_lst]
  repeat (refine sxd_next fun K2 hK2 => ?_; simp [dU, dS, shI, hsh, hb]; (repeat (refine ⟨by omega, ?_⟩)); refine hK2 _ ?_; clear hK2 K2)
  refine sxd_nil (hK' _ ?_)
  refine AW.st (by simp [dU, dS, shI, hsh, hb]; rfl) ?_
  clear hK' K'
  refine AW_ret ?_
  simp [D.le, D.le.go, takeMap, dU, dS]
def rdIsb (ns : List Tx) (x : Nat) : List D := [.ip [dU x], .ip [.sl none (ns.map fun s => [dS s])]]
set_option maxHeartbeats 4000000 in
theorem rsays1_spec (G : Glob) (ns : List Tx) (hn : ns.length ≤ 60) (e : Ex) (hw : WfE e) (hb : bE e ≤ 2^28) (hN : ∀ s ∈ nmsE true e, s ∈ ns) (x : Nat) (hx : x < 2^64) : PureC Tryz.prog G 37 [dU x, .ip [.sl none (ns.map fun s => [dS s])], .ip [dR e]] (.v (.bool (saysB ns e x))) := by
  have ht : TellsOn (fun s => s ∈ ns ∧ s ≠ []) G 38 (rdIsb ns x) (isB ns x) := fun s hs => risb_spec G none ns hn x hx s hs.1 hs.2
  have hev := reval_on G _ _ _ _ _ _ _ _ ht ht e (ask_in hw (fun s hs => ⟨hN s hs, nameF_nn (nms_nameF true _ e (Nat.le_refl _) hw s hs)⟩) fun s hs => ⟨hN s (names_self hs), nameF_nn (nms_nameF false _ e (Nat.le_refl _) hw s hs)⟩) hw hb
  have hr : evE (isB ns x) (isB ns x) e = saysB ns e x := rfl
  rw [hr] at hev
  generalize saysB ns e x = r at hev ⊢
  obtain ⟨c, hec⟩ := dR_ip e
  rw [hec] at hev ⊢
  simp only [rdIsb] at hev
  refine PureC.of_body (tyOf_good _) Tryz.func37 rfl rfl (rs := [.tmp 4]) Tryz.results37 (by simp [Tryz.ntmps37]) fun X => ?_
  simp only [Tryz.ntmps37, List.map]
  refine AW_rg (tyOf_good _) [1, 2, 3] [3] (fun _ _ => trivial) fun K' hK' => ?_
  repeat (refine sxf_next fun K2 hK2 => ?_; simp [dU, dS]; (repeat (refine ⟨by omega, ?_⟩)); refine hK2 _ ?_; clear hK2 K2)
  refine sxf_nil (hK' _ ?_)
  refine AW.st (by simp [dU, dS]; rfl) ?_
  clear hK' K'
  refine AW.imp (Imp.freezeB 3 trivial) ?_
  refine AW.st (by simp [dU, dS]; rfl) ?_
  refine AW_rg (tyOf_good _) [2, 5] [] (fun _ _ => trivial) fun K' hK' => ?_
  repeat (refine sxf_next fun K2 hK2 => ?_; simp [dU, dS]; (repeat (refine ⟨by omega, ?_⟩)); refine hK2 _ ?_; clear hK2 K2)
  refine sxf_nil (hK' _ ?_)
  refine AW.st (by simp [dU, dS]; rfl) ?_
  clear hK' K'
  refine AW_rg (tyOf_good _) [4] [] (fun _ _ => trivial) fun K' hK' => ?_
  repeat (refine sxf_next fun K2 hK2 => ?_; simp [dU, dS]; (repeat (refine ⟨by omega, ?_⟩)); refine hK2 _ ?_; clear hK2 K2)
  refine sxf_next fun K2 hK2 => ?_
  simp [dU, dS]
  refine callK.data (hev) (by simp; rfl) (by first | exact D.leGo_refl _ | simp [takeMap, List.map_map, Function.comp_def, D.le, D.le.go, D.le_refl, D.leGo_refl, dU, dS]) ?_
  refine hK2 _ ?_
  clear hK2 K2
  simp only [putd, upd_lst]
  repeat (refine sxf_next fun K2 hK2 => ?_; simp [dU, dS]; (repeat (refine ⟨by omega, ?_⟩)); refine hK2 _ ?_; clear hK2 K2)
  refine sxf_nil (hK' _ ?_)
  refine AW.st (by simp [dU, dS]; rfl) ?_
  clear hK' K'
  refine AW_ret ?_
  simp [D.le, D.le.go, takeMap, dU, dS]
set_option maxHeartbeats 16000000 in
theorem rpairs_spec (G : Glob) (hM : HasMax G) (e : Ex) (hw : WfE e) (hb : bE e ≤ 2^28) (hN8 : (namesE true e).length ≤ 8) : PureC Tryz.prog G 13 [dR e] (dPairs (namesE true e) (pairsF (namesE true e) (saysB (namesE true e) e))) := by
  have hns := rnames_spec G hM e hb
  have hN : ∀ s ∈ nmsE true e, s ∈ namesE true e := fun s hs => namesE_mem.2 hs
  have hsr := namesE_srt true e
  generalize namesE true e = ns at hns hN8 hN hsr ⊢
  have hsay := fun x hx => rsays1_spec G ns (by omega) e hw hb hN x hx
  generalize saysB ns e = f at hsay ⊢
  rw [← pairsTo_all]
  have hixt : ∀ k (hk : k < ns.length), ixT ns ns[k] = k := fun k hk => by
    have h1 := ixT_get (List.getElem_mem hk)
    have hlt := ixT_lt (List.getElem_mem hk)
    rcases Nat.lt_trichotomy (ixT ns ns[k]) k with h | h | h
    · exact absurd (h1 ▸ List.pairwise_iff_getElem.1 hsr _ _ hlt hk h) (tx_irr _)
    · exact h
    · exact absurd (h1 ▸ List.pairwise_iff_getElem.1 hsr _ _ hk hlt h) (tx_irr _)
  obtain ⟨c, hec⟩ := dR_ip e
  rw [hec] at hns hsay ⊢
  have h2 : (2 : Nat)^ns.length ≤ 2^8 := Nat.pow_le_pow_right (by decide) hN8
  have hshl := shl_is ns.length (by omega)
  obtain ⟨M, hM2⟩ : ∃ M : Nat, 2^ns.length = M := ⟨_, rfl⟩
  have hMi : (2 : Int)^ns.length = (M : Int) := by rw [← hM2, Int.natCast_pow]; rfl
  rw [hMi] at hshl
  rw [hM2] at h2
  refine PureC.of_body (tyOf_good _) Tryz.func13 rfl rfl (rs := [.tmp 2]) Tryz.results13 (by simp [Tryz.ntmps13]) fun X => ?_
  simp only [Tryz.ntmps13, List.map]
  refine AW_rg (tyOf_good _) [1] [1] (fun _ _ => trivial) fun K' hK' => ?_
  repeat (refine sxf_next fun K2 hK2 => ?_; simp [dU, dS]; (repeat (refine ⟨by omega, ?_⟩)); refine hK2 _ ?_; clear hK2 K2)
  refine sxf_nil (hK' _ ?_)
  refine AW.st (by simp [dU, dS]; rfl) ?_
  clear hK' K'
  refine AW_rg (tyOf_good _) [1, 3] [1, 3] (fun _ _ => trivial) fun K' hK' => ?_
  repeat (refine sxf_next fun K2 hK2 => ?_; simp [dU, dS]; (repeat (refine ⟨by omega, ?_⟩)); refine hK2 _ ?_; clear hK2 K2)
  refine sxf_next fun K2 hK2 => ?_
  simp [dU, dS]
  refine callK.data (hns) (by simp; rfl) (by first | exact D.leGo_refl _ | simp [takeMap, List.map_map, Function.comp_def, D.le, D.le.go, D.le_refl, D.leGo_refl, dU, dS]) ?_
  refine hK2 _ ?_
  clear hK2 K2
  simp only [putd, upd_lst]
  repeat (refine sxf_next fun K2 hK2 => ?_; simp [dU, dS]; (repeat (refine ⟨by omega, ?_⟩)); refine hK2 _ ?_; clear hK2 K2)
  refine sxf_nil (hK' _ ?_)
  refine AW.st (by simp [dU, dS]; rfl) ?_
  clear hK' K'
  refine AW.imp (Imp.freezeB 1 trivial) ?_
  refine AW.st (by simp [dU, dS]; rfl) ?_
  refine AW.imp (Imp.freezeB 3 trivial) ?_
  refine AW.st (by simp [dU, dS]; rfl) ?_
  refine AW_rg (tyOf_good _) [3, 4] [] (fun _ _ => trivial) fun K' hK' => ?_
  repeat (refine sxf_next fun K2 hK2 => ?_; simp [dU, dS]; (repeat (refine ⟨by omega, ?_⟩)); refine hK2 _ ?_; clear hK2 K2)
  refine sxf_nil (hK' _ ?_)
  refine AW.st (by simp [dU, dS]; rfl) ?_
  clear hK' K'
  refine AW_rg (tyOf_good _) [3, 4, 5] [] (fun _ _ => trivial) fun K' hK' => ?_
  repeat (refine sxf_next fun K2 hK2 => ?_; simp [dU, dS]; (repeat (refine ⟨by omega, ?_⟩)); refine hK2 _ ?_; clear hK2 K2)
  refine sxf_nil (hK' _ ?_)
  refine AW.st (by simp [dU, dS]; rfl) ?_
  clear hK' K'
  refine AW_then fun K1 hK1 => ?_
  refine AW_rg (tyOf_good _) [3, 4, 5, 12, 13, 14] [] (fun _ _ => trivial) fun K' hK' => ?_
  repeat (refine sxf_next fun K2 hK2 => ?_; simp [dU, dS]; (repeat (refine ⟨by omega, ?_⟩)); refine hK2 _ ?_; clear hK2 K2)
  refine sxf_nil (hK' _ ?_)
  refine AW.st (by simp [dU, dS]; rfl) ?_
  clear hK' K'
  refine AW_for (S := Nat) (fun m => m ≤ ns.length) (fun m => ⟨lst [(3, .d (.ip [.sl none (ns.map fun s => [dS s])])), (4, .d (.fn (.func 37) [.ip [.sl none (ns.map fun s => [dS s])], .ip [.ip c]])), (5, .own 300 0 (pairsTo ns f m).length), (12, .d (.sl none (ns.map fun s => [dS s]))), (13, int ns.length), (14, int m)], hlst [(300, .sl 41 3 ((pairsTo ns f m).map (dPair ns)))]⟩) (fun m => ns.length - m) 0 ?_ (by omega) ?_
  · refine (Imp.adopt 5 300 41 3 rfl rfl).trans ?_
    refine Imp.to' (fun _ _ => trivial) (by simp [dU, dS, pairsTo]) (by simp [dU, dS, pairsTo])
  · intro m hm
    refine AW_rg (tyOf_good _) [3, 4, 5, 12, 13, 14, 15] [300] (fun _ _ => trivial) fun K' hK' => ?_
    repeat (refine sxf_next fun K2 hK2 => ?_; simp [dU, dS]; (repeat (refine ⟨by omega, ?_⟩)); refine hK2 _ ?_; clear hK2 K2)
    refine sxf_nil (hK' _ ?_)
    refine AW.st (by simp [dU, dS]; rfl) ?_
    clear hK' K'
    refine AW_then fun K2 hK2 => ?_
    refine AW_cond' (b := m < ns.length) (by simp [D.le, D.le.go, takeMap, dU, dS]) (fun hc => ?_) (fun hc => ?_)
    · have hml : m < ns.length := hc
      have hpl := pairsTo_len ns f m
      have hsuc := pairsTo_succ ns f m
      have hix := hixt m hml
      have hshm := shl_is m (by omega)
      refine AW_skip (hK2 _ ?_)
      refine AW_then fun K3 hK3 => ?_
      refine AW_block ?_
      refine AW_rg (tyOf_good _) [3, 4, 5, 6, 7, 12, 13, 14] [300] (fun _ _ => trivial) fun K' hK' => ?_
      repeat (refine sxf_next fun K2 hK2 => ?_; simp [dU, dS, hml]; (repeat (refine ⟨by omega, ?_⟩)); refine hK2 _ ?_; clear hK2 K2)
      refine sxf_nil (hK' _ ?_)
      refine AW.st (by simp [dU, dS, hml]; rfl) ?_
      clear hK' K'
      refine AW_rg (tyOf_good _) [3, 4, 5, 6, 7, 8, 12, 13, 14] [300] (fun _ _ => trivial) fun K' hK' => ?_
      repeat (refine sxf_next fun K2 hK2 => ?_; simp [dU, dS]; (repeat (refine ⟨by omega, ?_⟩)); refine hK2 _ ?_; clear hK2 K2)
      refine sxf_nil (hK' _ ?_)
      refine AW.st (by simp [dU, dS]; rfl) ?_
      clear hK' K'
      refine AW_for (S := Nat) (fun x => x ≤ M ∧ ∀ y, y < x → y.testBit m = false → f y = f (y ||| 2^m)) (fun x => ⟨lst [(3, .d (.ip [.sl none (ns.map fun s => [dS s])])), (4, .d (.fn (.func 37) [.ip [.sl none (ns.map fun s => [dS s])], .ip [.ip c]])), (5, .own 300 0 (pairsTo ns f m).length), (6, int m), (7, .d (dS ns[m])), (8, .d (dU x)), (12, .d (.sl none (ns.map fun s => [dS s]))), (13, int ns.length), (14, int m)], hlst [(300, .sl 41 3 ((pairsTo ns f m).map (dPair ns)))]⟩) (fun x => M - x) 0 ?_ ⟨Nat.zero_le _, fun y hy => by omega⟩ ?_
      · refine Imp.to' (fun _ _ => trivial) (by simp [dU, dS]) (by simp [dU, dS])
      · rintro x ⟨hx, hall⟩
        refine AW_then fun K4 hK4 => ?_
        refine AW_rg (tyOf_good _) [3, 4, 5, 6, 7, 8, 12, 13, 14, 23] [300] (fun _ _ => trivial) fun K' hK' => ?_
        repeat (refine sxf_next fun K2 hK2 => ?_; simp [dU, dS, shI, hshl]; (repeat (refine ⟨by omega, ?_⟩)); refine hK2 _ ?_; clear hK2 K2)
        refine sxf_nil (hK' _ ?_)
        refine AW.st (by simp [dU, dS, shI, hshl]; rfl) ?_
        clear hK' K'
        refine AW_cond' (b := x < M) (by simp [D.le, D.le.go, takeMap, dU, dS]) (fun hc => ?_) (fun hc => ?_)
        · have hxl : x < M := hc
          have hshr := shr_is x m (by omega)
          have hb0 := rem_is0 x m
          have horlt : x ||| 2^m < 2^8 := Nat.or_lt_two_pow (by omega) (Nat.pow_lt_pow_right (by decide) (by omega))
          have hc1 := hsay x (by omega)
          have hc2 := hsay (x ||| 2^m) (by omega)
          refine AW_skip (hK4 _ ?_)
          refine AW_then fun K5 hK5 => ?_
          refine AW_block ?_
          have next : (x.testBit m = false → f x = f (x ||| 2^m)) → ∀ y, y < x + 1 → y.testBit m = false → f y = f (y ||| 2^m) := fun h y hy hyb => by
            by_cases hyx : y = x
            · subst hyx; exact h hyb
            · exact hall y (by omega) hyb
          have hx1 : IntKind.u64.wrap ((x : Int) + 1) = ((x + 1 : Nat) : Int) := by have := u_wrap (x + 1) (by omega); simpa using this
          cases hbt : x.testBit m with
          | true =>
            rw [hbt] at hb0
            have hnx := next (fun h => by rw [hbt] at h; cases h)
            refine AW_rd (tyOf_good _) (by kernel_rfl) [3, 4, 5, 6, 7, 8, 12, 13, 14, 42] [300] (fun _ _ => trivial) (by kernel_rfl) fun K' hK' => ?_
            repeat (refine sxd_next fun K2 hK2 => ?_; simp [dU, dS, shI, hshr, hb0]; (repeat (refine ⟨by omega, ?_⟩)); refine hK2 _ ?_; clear hK2 K2)
            refine sxd_nil (hK' _ ?_)
            refine AW.st (by simp [dU, dS, shI, hshr, hb0]; rfl) ?_
            clear hK' K'
            refine AW_cond false rfl (fun h => by cases h) (fun _ => ?_)
            refine AW_skip (hK5 _ ?_)
            refine AW_re (tyOf_good _) fun K' hK' => ?_
            repeat (refine sxf_next fun K2 hK2 => ?_; simp [dU, dS, hx1]; (repeat (refine ⟨by omega, ?_⟩)); refine hK2 _ ?_; clear hK2 K2)
            refine sxf_nil (hK' _ ?_)
            clear hK' K'
            try simp only [thn, inb]
            refine Again.mk (x + 1) ⟨by omega, hnx⟩ (by omega) ?_
            refine Imp.to' (fun _ _ => trivial) (by simp [dU, dS]) (by simp [dU, dS])
          | false =>
            rw [hbt] at hb0
            have hor := add_is x m (by omega) (by omega) hbt
            by_cases hff : f x = f (x ||| 2^m)
            · have hnx := next (fun _ => hff)
              rw [← hff] at hc2
              refine AW_rd (tyOf_good _) (by kernel_rfl) [3, 4, 5, 6, 7, 8, 12, 13, 14, 42] [300] (fun _ _ => trivial) (by kernel_rfl) fun K' hK' => ?_
              repeat (refine sxd_next fun K2 hK2 => ?_; simp [dU, dS, shI, hshr, hb0, hshm, hor]; (repeat (refine ⟨by omega, ?_⟩)); refine hK2 _ ?_; clear hK2 K2)
              refine sxd_next fun K2 hK2 => ?_
              simp [dU, dS, shI, hshr, hb0, hshm, hor]
              refine callQ.data (hc1) (by simp; rfl) (by simp; rfl) (by first | exact D.leGo_refl _ | simp [takeMap, List.map_map, Function.comp_def, D.le, D.le.go, D.le_refl, D.leGo_refl, dU, dS, shI, hshr, hb0, hshm, hor]) ?_
              refine hK2 _ ?_
              clear hK2 K2
              simp only [putd, upd_lst]
              repeat (refine sxd_next fun K2 hK2 => ?_; simp [dU, dS, shI, hshr, hb0, hshm, hor]; (repeat (refine ⟨by omega, ?_⟩)); refine hK2 _ ?_; clear hK2 K2)
              refine sxd_next fun K2 hK2 => ?_
              simp [dU, dS, shI, hshr, hb0, hshm, hor]
              refine callQ.data (hc2) (by simp; rfl) (by simp; rfl) (by first | exact D.leGo_refl _ | simp [takeMap, List.map_map, Function.comp_def, D.le, D.le.go, D.le_refl, D.leGo_refl, dU, dS, shI, hshr, hb0, hshm, hor]) ?_
              refine hK2 _ ?_
              clear hK2 K2
              simp only [putd, upd_lst]
              repeat (refine sxd_next fun K2 hK2 => ?_; simp [dU, dS, shI, hshr, hb0, hshm, hor]; (repeat (refine ⟨by omega, ?_⟩)); refine hK2 _ ?_; clear hK2 K2)
              refine sxd_nil (hK' _ ?_)
              refine AW.st (by simp [dU, dS, shI, hshr, hb0, hshm, hor]; rfl) ?_
              clear hK' K'
              refine AW_cond false (by simp) (fun h => by cases h) (fun _ => ?_)
              refine AW_skip (hK5 _ ?_)
              refine AW_re (tyOf_good _) fun K' hK' => ?_
              repeat (refine sxf_next fun K2 hK2 => ?_; simp [dU, dS, hx1]; (repeat (refine ⟨by omega, ?_⟩)); refine hK2 _ ?_; clear hK2 K2)
              refine sxf_nil (hK' _ ?_)
              clear hK' K'
              try simp only [thn, inb]
              refine Again.mk (x + 1) ⟨by omega, hnx⟩ (by omega) ?_
              refine Imp.to' (fun _ _ => trivial) (by simp [dU, dS]) (by simp [dU, dS])
            · have hhit := offAt_hit (n := ns.length) (by rw [hM2]; exact hxl) hbt hff hall
              rw [hhit] at hsuc
              have hsl : (pairsTo ns f (m + 1)).length = (pairsTo ns f m).length + 1 := by rw [hsuc]; simp
              refine AW_rd (tyOf_good _) (by kernel_rfl) [3, 4, 5, 6, 7, 8, 12, 13, 14, 42] [300] (fun _ _ => trivial) (by kernel_rfl) fun K' hK' => ?_
              repeat (refine sxd_next fun K2 hK2 => ?_; simp [dU, dS, shI, hshr, hb0, hshm, hor]; (repeat (refine ⟨by omega, ?_⟩)); refine hK2 _ ?_; clear hK2 K2)
              refine sxd_next fun K2 hK2 => ?_
              simp [dU, dS, shI, hshr, hb0, hshm, hor]
              refine callQ.data (hc1) (by simp; rfl) (by simp; rfl) (by first | exact D.leGo_refl _ | simp [takeMap, List.map_map, Function.comp_def, D.le, D.le.go, D.le_refl, D.leGo_refl, dU, dS, shI, hshr, hb0, hshm, hor]) ?_
              refine hK2 _ ?_
              clear hK2 K2
              simp only [putd, upd_lst]
              repeat (refine sxd_next fun K2 hK2 => ?_; simp [dU, dS, shI, hshr, hb0, hshm, hor]; (repeat (refine ⟨by omega, ?_⟩)); refine hK2 _ ?_; clear hK2 K2)
              refine sxd_next fun K2 hK2 => ?_
              simp [dU, dS, shI, hshr, hb0, hshm, hor]
              refine callQ.data (hc2) (by simp; rfl) (by simp; rfl) (by first | exact D.leGo_refl _ | simp [takeMap, List.map_map, Function.comp_def, D.le, D.le.go, D.le_refl, D.leGo_refl, dU, dS, shI, hshr, hb0, hshm, hor]) ?_
              refine hK2 _ ?_
              clear hK2 K2
              simp only [putd, upd_lst]
              repeat (refine sxd_next fun K2 hK2 => ?_; simp [dU, dS, shI, hshr, hb0, hshm, hor]; (repeat (refine ⟨by omega, ?_⟩)); refine hK2 _ ?_; clear hK2 K2)
              refine sxd_nil (hK' _ ?_)
              refine AW.st (by simp [dU, dS, shI, hshr, hb0, hshm, hor]; rfl) ?_
              clear hK' K'
              refine AW_cond true (by simpa using hff) (fun _ => ?_) (fun h => by cases h)
              refine AW_rg (tyOf_good _) [3, 4, 5, 12, 13, 14] [300] (fun _ _ => trivial) fun K' hK' => ?_
              repeat (refine sxf_next fun K2 hK2 => ?_; simp [dU, dS, shI, hshm, hor, takeMap]; (repeat (refine ⟨by omega, ?_⟩)); refine hK2 _ ?_; clear hK2 K2)
              refine sxf_nil (hK' _ ?_)
              refine AW.st (by simp [dU, dS, shI, hshm, hor, takeMap]; rfl) ?_
              clear hK' K'
              refine AW_exit (hK3 _ ?_)
              refine AW_re (tyOf_good _) fun K' hK' => ?_
              repeat (refine sxf_next fun K2 hK2 => ?_; simp [dU, dS]; (repeat (refine ⟨by omega, ?_⟩)); refine hK2 _ ?_; clear hK2 K2)
              refine sxf_nil (hK' _ ?_)
              clear hK' K'
              try simp only [thn, inb]
              refine Again.mk (m + 1) (by omega) (by omega) ?_
              refine Imp.to' (fun _ _ => trivial) (by simp [dU, dS, hsl, hsuc, dPair, hix, hml, takeMap]) (by simp [dU, dS, hsl, hsuc, dPair, hix, hml, takeMap])
        · obtain rfl : x = M := by omega
          have hmiss : offAt f ns.length m = none := offAt_miss (by rw [hM2]; exact hall)
          rw [hmiss] at hsuc
          simp only [List.append_nil] at hsuc
          refine AW_exit (hK3 _ ?_)
          refine AW_re (tyOf_good _) fun K' hK' => ?_
          repeat (refine sxf_next fun K2 hK2 => ?_; simp [dU, dS]; (repeat (refine ⟨by omega, ?_⟩)); refine hK2 _ ?_; clear hK2 K2)
          refine sxf_nil (hK' _ ?_)
          clear hK' K'
          try simp only [thn, inb]
          refine Again.mk (m + 1) (by omega) (by omega) ?_
          refine Imp.to' (fun _ _ => trivial) (by simp [dU, dS, hsuc]) (by simp [dU, dS, hsuc])
    · obtain rfl : m = ns.length := by omega
      refine AW_exit (hK1 _ ?_)
      refine AW.imp (Imp.freeze 300 trivial) ?_
      refine AW.st (by simp [dU, dS]; rfl) ?_
      refine AW_rg (tyOf_good _) [2] [] (fun _ _ => trivial) fun K' hK' => ?_
      repeat (refine sxf_next fun K2 hK2 => ?_; simp [dU, dS]; (repeat (refine ⟨by omega, ?_⟩)); refine hK2 _ ?_; clear hK2 K2)
      refine sxf_nil (hK' _ ?_)
      refine AW.st (by simp [dU, dS]; rfl) ?_
      clear hK' K'
      refine AW_ret ?_
      simp [D.le, D.le.go, takeMap, dU, dS, dPairs]
end Go.Proofs.YtagfbbnlbncjlaaGreatDoor

/-
  read, and what ExprTidies says.
-/
namespace Go.Proofs.YtagfbbnlbncjlaaGreatDoor
set_option linter.unusedSimpArgs false
set_option linter.unusedVariables false
open Go.Av

def readE (t : List UInt8) : Option Ex := if 1000 < t.length then none else (parseM t).1
def dRead : Option Ex → D
  | none => .tup [.v .nilIface, .v (.pointer none), .v (.bool false)]
  | some x => .tup [dE x, dR x, .v (.bool true)]

set_option maxHeartbeats 4000000 in
theorem read_spec (G : Glob) (hF : HasFine G) (t : List UInt8) : PureC Tryz.prog G 8 [dS t] (dRead (readE t)) := by
  unfold readE
  by_cases hl : 1000 < t.length
  · have hl' : (1000 : Int) < (t.length : Int) := by omega
    rw [if_pos hl]
    refine PureC.of_body (tyOf_good _) Tryz.func8 rfl rfl (rs := [.tmp 2, .tmp 3, .tmp 4]) Tryz.results8 (by simp [Tryz.ntmps8]) fun X => ?_
    simp only [Tryz.ntmps8, List.map]
    refine AW_rg (tyOf_good _) [0] [] (fun _ _ => trivial) fun K' hK' => ?_
    repeat (refine sxf_next fun K2 hK2 => ?_; simp [dNum, dS]; (repeat (refine ⟨by omega, ?_⟩)); refine hK2 _ ?_; clear hK2 K2)
    refine sxf_nil (hK' _ ?_)
    refine AW.st (by simp [dNum, dS]; rfl) ?_
    clear hK' K'
    refine AW_then fun K1 hK1 => ?_
    refine AW_rg (tyOf_good _) [0, 11] [] (fun _ _ => trivial) fun K' hK' => ?_
    repeat (refine sxf_next fun K2 hK2 => ?_; simp [dNum, dS, bs_size, hl, hl']; (repeat (refine ⟨by omega, ?_⟩)); refine hK2 _ ?_; clear hK2 K2)
    refine sxf_nil (hK' _ ?_)
    refine AW.st (by simp [dNum, dS, bs_size, hl, hl']; rfl) ?_
    clear hK' K'
    refine AW_cond true rfl (fun _ => ?_) (fun h => by cases h)
    refine AW_rg (tyOf_good _) [2, 3, 4] [] (fun _ _ => trivial) fun K' hK' => ?_
    repeat (refine sxf_next fun K2 hK2 => ?_; simp [dNum, dS]; (repeat (refine ⟨by omega, ?_⟩)); refine hK2 _ ?_; clear hK2 K2)
    refine sxf_nil (hK' _ ?_)
    refine AW.st (by simp [dNum, dS]; rfl) ?_
    clear hK' K'
    refine AW_ret ?_
    simp [D.le, D.le.go, takeMap, dNum, dS, dRead]
  have hl' : ¬ (1000 : Int) < (t.length : Int) := by omega
  rw [if_neg hl]
  have hrp := rparse_spec G hF t (by omega)
  have hep := parse_spec G t (by omega)
  cases he : (parseM t).2 with
  | some e =>
    obtain ⟨c, p⟩ := e
    have h0 : ¬ c = 0 := by have := parse_pos he; omega
    have hn := parse_none he
    rw [he, hn] at hrp
    rw [hn]
    refine PureC.of_body (tyOf_good _) Tryz.func8 rfl rfl (rs := [.tmp 2, .tmp 3, .tmp 4]) Tryz.results8 (by simp [Tryz.ntmps8]) fun X => ?_
    simp only [Tryz.ntmps8, List.map]
    refine AW_rg (tyOf_good _) [0] [] (fun _ _ => trivial) fun K' hK' => ?_
    repeat (refine sxf_next fun K2 hK2 => ?_; simp [dNum, dS]; (repeat (refine ⟨by omega, ?_⟩)); refine hK2 _ ?_; clear hK2 K2)
    refine sxf_nil (hK' _ ?_)
    refine AW.st (by simp [dNum, dS]; rfl) ?_
    clear hK' K'
    refine AW_then fun K1 hK1 => ?_
    refine AW_rg (tyOf_good _) [0, 11] [] (fun _ _ => trivial) fun K' hK' => ?_
    repeat (refine sxf_next fun K2 hK2 => ?_; simp [dNum, dS, bs_size, hl, hl']; (repeat (refine ⟨by omega, ?_⟩)); refine hK2 _ ?_; clear hK2 K2)
    refine sxf_nil (hK' _ ?_)
    refine AW.st (by simp [dNum, dS, bs_size, hl, hl']; rfl) ?_
    clear hK' K'
    refine AW_cond false rfl (fun h => by cases h) (fun _ => ?_)
    refine AW_skip (hK1 _ ?_)
    refine AW_rg (tyOf_good _) [0, 5, 6] [6] (fun _ _ => trivial) fun K' hK' => ?_
    repeat (refine sxf_next fun K2 hK2 => ?_; simp [dNum, dS, dOR, dFault, codeF, placeF]; (repeat (refine ⟨by omega, ?_⟩)); refine hK2 _ ?_; clear hK2 K2)
    refine sxf_next fun K2 hK2 => ?_
    simp [dNum, dS, dOR, dFault, codeF, placeF]
    refine callK.data (hrp) (by simp; rfl) (by first | exact D.leGo_refl _ | simp [takeMap, List.map_map, Function.comp_def, D.le, D.le.go, D.le_refl, D.leGo_refl, dNum, dS, dOR, dFault, codeF, placeF]) ?_
    refine hK2 _ ?_
    clear hK2 K2
    simp only [putd, upd_lst]
    repeat (refine sxf_next fun K2 hK2 => ?_; simp [dNum, dS, dOR, dFault, codeF, placeF]; (repeat (refine ⟨by omega, ?_⟩)); refine hK2 _ ?_; clear hK2 K2)
    refine sxf_nil (hK' _ ?_)
    refine AW.st (by simp [dNum, dS, dOR, dFault, codeF, placeF]; rfl) ?_
    clear hK' K'
    refine AW_then fun K2 hK2 => ?_
    refine AW_rg (tyOf_good _) [0, 5, 19] [6] (fun _ _ => trivial) fun K' hK' => ?_
    repeat (refine sxf_next fun K2 hK2 => ?_; simp [dNum, dS, h0]; (repeat (refine ⟨by omega, ?_⟩)); refine hK2 _ ?_; clear hK2 K2)
    refine sxf_nil (hK' _ ?_)
    refine AW.st (by simp [dNum, dS, h0]; rfl) ?_
    clear hK' K'
    refine AW_cond true rfl (fun _ => ?_) (fun h => by cases h)
    refine AW_rg (tyOf_good _) [2, 3, 4] [6] (fun _ _ => trivial) fun K' hK' => ?_
    repeat (refine sxf_next fun K2 hK2 => ?_; simp [dNum, dS]; (repeat (refine ⟨by omega, ?_⟩)); refine hK2 _ ?_; clear hK2 K2)
    refine sxf_nil (hK' _ ?_)
    refine AW.st (by simp [dNum, dS]; rfl) ?_
    clear hK' K'
    refine AW_ret ?_
    simp [D.le, D.le.go, takeMap, dNum, dS, dRead]
  | none =>
    obtain ⟨x, hx⟩ := parse_some he
    obtain ⟨cx, hcx⟩ := dR_ip x
    obtain ⟨tx, dx, hdx⟩ := dE_ifc x
    rw [he, hx] at hrp hep
    rw [hx]
    simp only [dOR, dOE, dRead] at hrp hep ⊢
    rw [hcx] at hrp ⊢
    rw [hdx] at hep ⊢
    refine PureC.of_body (tyOf_good _) Tryz.func8 rfl rfl (rs := [.tmp 2, .tmp 3, .tmp 4]) Tryz.results8 (by simp [Tryz.ntmps8]) fun X => ?_
    simp only [Tryz.ntmps8, List.map]
    refine AW_rg (tyOf_good _) [0] [] (fun _ _ => trivial) fun K' hK' => ?_
    repeat (refine sxf_next fun K2 hK2 => ?_; simp [dNum, dS]; (repeat (refine ⟨by omega, ?_⟩)); refine hK2 _ ?_; clear hK2 K2)
    refine sxf_nil (hK' _ ?_)
    refine AW.st (by simp [dNum, dS]; rfl) ?_
    clear hK' K'
    refine AW_then fun K1 hK1 => ?_
    refine AW_rg (tyOf_good _) [0, 11] [] (fun _ _ => trivial) fun K' hK' => ?_
    repeat (refine sxf_next fun K2 hK2 => ?_; simp [dNum, dS, bs_size, hl, hl']; (repeat (refine ⟨by omega, ?_⟩)); refine hK2 _ ?_; clear hK2 K2)
    refine sxf_nil (hK' _ ?_)
    refine AW.st (by simp [dNum, dS, bs_size, hl, hl']; rfl) ?_
    clear hK' K'
    refine AW_cond false rfl (fun h => by cases h) (fun _ => ?_)
    refine AW_skip (hK1 _ ?_)
    refine AW_rg (tyOf_good _) [0, 5, 6] [6] (fun _ _ => trivial) fun K' hK' => ?_
    repeat (refine sxf_next fun K2 hK2 => ?_; simp [dNum, dS, dFault, codeF, placeF]; (repeat (refine ⟨by omega, ?_⟩)); refine hK2 _ ?_; clear hK2 K2)
    refine sxf_next fun K2 hK2 => ?_
    simp [dNum, dS, dFault, codeF, placeF]
    refine callK.data (hrp) (by simp; rfl) (by first | exact D.leGo_refl _ | simp [takeMap, List.map_map, Function.comp_def, D.le, D.le.go, D.le_refl, D.leGo_refl, dNum, dS, dFault, codeF, placeF]) ?_
    refine hK2 _ ?_
    clear hK2 K2
    simp only [putd, upd_lst]
    repeat (refine sxf_next fun K2 hK2 => ?_; simp [dNum, dS, dFault, codeF, placeF]; (repeat (refine ⟨by omega, ?_⟩)); refine hK2 _ ?_; clear hK2 K2)
    refine sxf_nil (hK' _ ?_)
    refine AW.st (by simp [dNum, dS, dFault, codeF, placeF]; rfl) ?_
    clear hK' K'
    refine AW_then fun K2 hK2 => ?_
    refine AW_rg (tyOf_good _) [0, 5, 19] [6] (fun _ _ => trivial) fun K' hK' => ?_
    repeat (refine sxf_next fun K2 hK2 => ?_; simp [dNum, dS]; (repeat (refine ⟨by omega, ?_⟩)); refine hK2 _ ?_; clear hK2 K2)
    refine sxf_nil (hK' _ ?_)
    refine AW.st (by simp [dNum, dS]; rfl) ?_
    clear hK' K'
    refine AW_cond false rfl (fun h => by cases h) (fun _ => ?_)
    refine AW_skip (hK2 _ ?_)
    refine AW_rg (tyOf_good _) [5, 7, 8] [6] (fun _ _ => trivial) fun K' hK' => ?_
    repeat (refine sxf_next fun K2 hK2 => ?_; simp [dNum, dS, dErr]; (repeat (refine ⟨by omega, ?_⟩)); refine hK2 _ ?_; clear hK2 K2)
    refine sxf_next fun K2 hK2 => ?_
    simp [dNum, dS, dErr]
    refine callK.data (hep) (by simp; rfl) (by first | exact D.leGo_refl _ | simp [takeMap, List.map_map, Function.comp_def, D.le, D.le.go, D.le_refl, D.leGo_refl, dNum, dS, dErr]) ?_
    refine hK2 _ ?_
    clear hK2 K2
    simp only [putd, upd_lst]
    repeat (refine sxf_next fun K2 hK2 => ?_; simp [dNum, dS, dErr]; (repeat (refine ⟨by omega, ?_⟩)); refine hK2 _ ?_; clear hK2 K2)
    refine sxf_nil (hK' _ ?_)
    refine AW.st (by simp [dNum, dS, dErr]; rfl) ?_
    clear hK' K'
    refine AW_then fun K3 hK3 => ?_
    refine AW_rg (tyOf_good _) [5, 7, 26] [6] (fun _ _ => trivial) fun K' hK' => ?_
    repeat (refine sxf_next fun K2 hK2 => ?_; simp [dNum, dS]; (repeat (refine ⟨by omega, ?_⟩)); refine hK2 _ ?_; clear hK2 K2)
    refine sxf_nil (hK' _ ?_)
    refine AW.st (by simp [dNum, dS]; rfl) ?_
    clear hK' K'
    refine AW_cond false rfl (fun h => by cases h) (fun _ => ?_)
    refine AW_skip (hK3 _ ?_)
    refine AW_rg (tyOf_good _) [2, 3, 4] [6] (fun _ _ => trivial) fun K' hK' => ?_
    repeat (refine sxf_next fun K2 hK2 => ?_; simp [dNum, dS]; (repeat (refine ⟨by omega, ?_⟩)); refine hK2 _ ?_; clear hK2 K2)
    refine sxf_nil (hK' _ ?_)
    refine AW.st (by simp [dNum, dS]; rfl) ?_
    clear hK' K'
    refine AW_ret ?_
    simp [D.le, D.le.go, takeMap, dNum, dS, D.le_refl, D.leGo_refl]
theorem readE_some {t : List UInt8} {x : Ex} (h : readE t = some x) : (parseM t).1 = some x := by
  unfold readE at h
  split at h
  · cases h
  · exact h

end Go.Proofs.YtagfbbnlbncjlaaGreatDoor

/-
  What CoverPairs says.
-/
namespace Go.Proofs.YtagfbbnlbncjlaaGreatDoor
set_option linter.unusedSimpArgs false
set_option linter.unusedVariables false
open Go.Av

set_option maxHeartbeats 32000000 in
theorem coverpairs_spec (G : Glob) (hG : HasErr G) (hF : HasFine G) (hM : HasMax G) (t : List UInt8) : PureC Tryz.prog G 3 [dS t] (.v (.bool true)) := by
  have hrd := read_spec G hF t
  cases hr : readE t with
  | none =>
    rw [hr] at hrd
    refine PureC.of_body (tyOf_good _) Tryz.func3 rfl rfl (rs := [.tmp 2]) Tryz.results3 (by simp [Tryz.ntmps3]) fun X => ?_
    simp only [Tryz.ntmps3, List.map]
    refine AW_rg (tyOf_good _) [0] [] (fun _ _ => trivial) fun K' hK' => ?_
    repeat (refine sxf_next fun K2 hK2 => ?_; simp; (repeat (refine ⟨by omega, ?_⟩)); refine hK2 _ ?_; clear hK2 K2)
    refine sxf_nil (hK' _ ?_)
    refine AW.st (by simp; rfl) ?_
    clear hK' K'
    refine AW_rg (tyOf_good _) [3, 4, 5] [] (fun _ _ => trivial) fun K' hK' => ?_
    repeat (refine sxf_next fun K2 hK2 => ?_; simp [dRead]; (repeat (refine ⟨by omega, ?_⟩)); refine hK2 _ ?_; clear hK2 K2)
    refine sxf_next fun K2 hK2 => ?_
    simp [dRead]
    refine callK.data (hrd) (by simp; rfl) (by first | exact D.leGo_refl _ | simp [takeMap, List.map_map, Function.comp_def, D.le, D.le.go, D.le_refl, D.leGo_refl, dRead]) ?_
    refine hK2 _ ?_
    clear hK2 K2
    simp only [putd, upd_lst]
    repeat (refine sxf_next fun K2 hK2 => ?_; simp [dRead]; (repeat (refine ⟨by omega, ?_⟩)); refine hK2 _ ?_; clear hK2 K2)
    refine sxf_nil (hK' _ ?_)
    refine AW.st (by simp [dRead]; rfl) ?_
    clear hK' K'
    refine AW_then fun K1 hK1 => ?_
    refine AW_rg (tyOf_good _) [3, 4, 19] [] (fun _ _ => trivial) fun K' hK' => ?_
    repeat (refine sxf_next fun K2 hK2 => ?_; simp; (repeat (refine ⟨by omega, ?_⟩)); refine hK2 _ ?_; clear hK2 K2)
    refine sxf_nil (hK' _ ?_)
    refine AW.st (by simp; rfl) ?_
    clear hK' K'
    refine AW_cond true rfl (fun _ => ?_) (fun h => by cases h)
    refine AW_rg (tyOf_good _) [2] [] (fun _ _ => trivial) fun K' hK' => ?_
    repeat (refine sxf_next fun K2 hK2 => ?_; simp; (repeat (refine ⟨by omega, ?_⟩)); refine hK2 _ ?_; clear hK2 K2)
    refine sxf_nil (hK' _ ?_)
    refine AW.st (by simp; rfl) ?_
    clear hK' K'
    refine AW_ret ?_
    simp [D.le, D.le.go, takeMap]
  | some x =>
    rw [hr] at hrd
    have hp := readE_some hr
    have hb := parse_b hp
    obtain ⟨hwf, _⟩ := parse_wf hp
    simp only [dRead] at hrd
    have hnil := pairs_nil G
    have hb7 := bare_spec G hG 7
    have hre := redges_spec G hM x (by omega)
    have hrn := rnames_spec G hM x (by omega)
    obtain ⟨tx, cx, hcx⟩ := dE_ifc x
    obtain ⟨rx, hrx⟩ := dR_ip x
    by_cases hE : namesE false x = []
    · by_cases h8 : 8 < (namesE true x).length
      · have hpe := pairs_many G x (by omega) hE h8
        have hb4 := bare_spec G hG 4
        rw [hE] at hre
        generalize namesE true x = ns at hrn h8
        have h8' : (8 : Int) < (ns.length : Int) := by omega
        rw [hcx] at hrd hpe
        rw [hrx] at hrd hre hrn
        simp only [errOf, dErr] at hb7 hb4
        refine PureC.of_body (tyOf_good _) Tryz.func3 rfl rfl (rs := [.tmp 2]) Tryz.results3 (by simp [Tryz.ntmps3]) fun X => ?_
        simp only [Tryz.ntmps3, List.map]
        refine AW_rg (tyOf_good _) [0] [] (fun _ _ => trivial) fun K' hK' => ?_
        repeat (refine sxf_next fun K2 hK2 => ?_; simp [dNum, dErr]; (repeat (refine ⟨by omega, ?_⟩)); refine hK2 _ ?_; clear hK2 K2)
        refine sxf_nil (hK' _ ?_)
        refine AW.st (by simp [dNum, dErr]; rfl) ?_
        clear hK' K'
        refine AW_rg (tyOf_good _) [3, 4, 5] [] (fun _ _ => trivial) fun K' hK' => ?_
        repeat (refine sxf_next fun K2 hK2 => ?_; simp [dNum, dErr]; (repeat (refine ⟨by omega, ?_⟩)); refine hK2 _ ?_; clear hK2 K2)
        refine sxf_next fun K2 hK2 => ?_
        simp [dNum, dErr]
        refine callK.data (hrd) (by simp; rfl) (by first | exact D.leGo_refl _ | simp [takeMap, List.map_map, Function.comp_def, D.le, D.le.go, D.le_refl, D.leGo_refl, dNum, dErr]) ?_
        refine hK2 _ ?_
        clear hK2 K2
        simp only [putd, upd_lst]
        repeat (refine sxf_next fun K2 hK2 => ?_; simp [dNum, dErr]; (repeat (refine ⟨by omega, ?_⟩)); refine hK2 _ ?_; clear hK2 K2)
        refine sxf_nil (hK' _ ?_)
        refine AW.st (by simp [dNum, dErr]; rfl) ?_
        clear hK' K'
        refine AW_then fun K1 hK1 => ?_
        refine AW_rg (tyOf_good _) [3, 4, 19] [] (fun _ _ => trivial) fun K' hK' => ?_
        repeat (refine sxf_next fun K2 hK2 => ?_; simp [dNum, dErr]; (repeat (refine ⟨by omega, ?_⟩)); refine hK2 _ ?_; clear hK2 K2)
        refine sxf_nil (hK' _ ?_)
        refine AW.st (by simp [dNum, dErr]; rfl) ?_
        clear hK' K'
        refine AW_cond false rfl (fun h => by cases h) (fun _ => ?_)
        refine AW_skip (hK1 _ ?_)
        refine AW_rg (tyOf_good _) [3, 4, 6, 7] [] (fun _ _ => trivial) fun K' hK' => ?_
        repeat (refine sxf_next fun K2 hK2 => ?_; simp [dNum, dErr]; (repeat (refine ⟨by omega, ?_⟩)); refine hK2 _ ?_; clear hK2 K2)
        refine sxf_next fun K2 hK2 => ?_
        simp [dNum, dErr]
        refine callK.data (hpe) (by simp; rfl) (by first | exact D.leGo_refl _ | simp [takeMap, List.map_map, Function.comp_def, D.le, D.le.go, D.le_refl, D.leGo_refl, dNum, dErr]) ?_
        refine hK2 _ ?_
        clear hK2 K2
        simp only [putd, upd_lst]
        repeat (refine sxf_next fun K2 hK2 => ?_; simp [dNum, dErr]; (repeat (refine ⟨by omega, ?_⟩)); refine hK2 _ ?_; clear hK2 K2)
        refine sxf_nil (hK' _ ?_)
        refine AW.st (by simp [dNum, dErr]; rfl) ?_
        clear hK' K'
        refine AW_rg (tyOf_good _) [3, 4, 6, 7, 9] [] (fun _ _ => trivial) fun K' hK' => ?_
        repeat (refine sxf_next fun K2 hK2 => ?_; simp [dNum, dErr]; (repeat (refine ⟨by omega, ?_⟩)); refine hK2 _ ?_; clear hK2 K2)
        refine sxf_next fun K2 hK2 => ?_
        simp [dNum, dErr]
        refine callK.data (hnil) (by simp; rfl) (by first | exact D.leGo_refl _ | simp [takeMap, List.map_map, Function.comp_def, D.le, D.le.go, D.le_refl, D.leGo_refl, dNum, dErr]) ?_
        refine hK2 _ ?_
        clear hK2 K2
        simp only [putd, upd_lst]
        repeat (refine sxf_next fun K2 hK2 => ?_; simp [dNum, dErr]; (repeat (refine ⟨by omega, ?_⟩)); refine hK2 _ ?_; clear hK2 K2)
        refine sxf_nil (hK' _ ?_)
        refine AW.st (by simp [dNum, dErr]; rfl) ?_
        clear hK' K'
        refine AW_then fun K2 hK2 => ?_
        refine AW_rg (tyOf_good _) [4, 6, 7, 35] [] (fun _ _ => trivial) fun K' hK' => ?_
        repeat (refine sxf_next fun K2 hK2 => ?_; simp [dNum, dErr]; (repeat (refine ⟨by omega, ?_⟩)); refine hK2 _ ?_; clear hK2 K2)
        refine sxf_next fun K2 hK2 => ?_
        simp [dNum, dErr]
        refine callK.data (hb7) (by simp; rfl) (by first | exact D.leGo_refl _ | simp [takeMap, List.map_map, Function.comp_def, D.le, D.le.go, D.le_refl, D.leGo_refl, dNum, dErr]) ?_
        refine hK2 _ ?_
        clear hK2 K2
        simp only [putd, upd_lst]
        repeat (refine sxf_next fun K2 hK2 => ?_; simp [dNum, dErr]; (repeat (refine ⟨by omega, ?_⟩)); refine hK2 _ ?_; clear hK2 K2)
        refine sxf_nil (hK' _ ?_)
        refine AW.st (by simp [dNum, dErr]; rfl) ?_
        clear hK' K'
        refine AW_cond false rfl (fun h => by cases h) (fun _ => ?_)
        refine AW_skip (hK2 _ ?_)
        refine AW_then fun K3 hK3 => ?_
        refine AW_block ?_
        refine AW_rg (tyOf_good _) [4, 6, 7, 36] [] (fun _ _ => trivial) fun K' hK' => ?_
        repeat (refine sxf_next fun K2 hK2 => ?_; simp [dNum, dErr]; (repeat (refine ⟨by omega, ?_⟩)); refine hK2 _ ?_; clear hK2 K2)
        refine sxf_next fun K2 hK2 => ?_
        simp [dNum, dErr]
        refine callK.data (hre) (by simp; rfl) (by first | exact D.leGo_refl _ | simp [takeMap, List.map_map, Function.comp_def, D.le, D.le.go, D.le_refl, D.leGo_refl, dNum, dErr]) ?_
        refine hK2 _ ?_
        clear hK2 K2
        simp only [putd, upd_lst]
        repeat (refine sxf_next fun K2 hK2 => ?_; simp [dNum, dErr]; (repeat (refine ⟨by omega, ?_⟩)); refine hK2 _ ?_; clear hK2 K2)
        refine sxf_nil (hK' _ ?_)
        refine AW.st (by simp [dNum, dErr]; rfl) ?_
        clear hK' K'
        refine AW_cond false rfl (fun h => by cases h) (fun _ => ?_)
        refine AW_rg (tyOf_good _) [4, 6, 7, 48] [] (fun _ _ => trivial) fun K' hK' => ?_
        repeat (refine sxf_next fun K2 hK2 => ?_; simp [dNum, dErr, h8, h8']; (repeat (refine ⟨by omega, ?_⟩)); refine hK2 _ ?_; clear hK2 K2)
        refine sxf_next fun K2 hK2 => ?_
        simp [dNum, dErr, h8, h8']
        refine callK.data (hrn) (by simp; rfl) (by first | exact D.leGo_refl _ | simp [takeMap, List.map_map, Function.comp_def, D.le, D.le.go, D.le_refl, D.leGo_refl, dNum, dErr, h8, h8']) ?_
        refine hK2 _ ?_
        clear hK2 K2
        simp only [putd, upd_lst]
        repeat (refine sxf_next fun K2 hK2 => ?_; simp [dNum, dErr, h8, h8']; (repeat (refine ⟨by omega, ?_⟩)); refine hK2 _ ?_; clear hK2 K2)
        refine sxf_nil (hK' _ ?_)
        refine AW.st (by simp [dNum, dErr, h8, h8']; rfl) ?_
        clear hK' K'
        refine AW_cond true (by simp [h8]) (fun _ => ?_) (fun h => by cases h)
        refine AW_rg (tyOf_good _) [2] [] (fun _ _ => trivial) fun K' hK' => ?_
        repeat (refine sxf_next fun K2 hK2 => ?_; simp [dNum, dErr]; (repeat (refine ⟨by omega, ?_⟩)); refine hK2 _ ?_; clear hK2 K2)
        refine sxf_next fun K2 hK2 => ?_
        simp [dNum, dErr]
        refine callK.data (hb4) (by simp; rfl) (by first | exact D.leGo_refl _ | simp [takeMap, List.map_map, Function.comp_def, D.le, D.le.go, D.le_refl, D.leGo_refl, dNum, dErr]) ?_
        refine hK2 _ ?_
        clear hK2 K2
        simp only [putd, upd_lst]
        repeat (refine sxf_next fun K2 hK2 => ?_; simp [dNum, dErr]; (repeat (refine ⟨by omega, ?_⟩)); refine hK2 _ ?_; clear hK2 K2)
        refine sxf_nil (hK' _ ?_)
        refine AW.st (by simp [dNum, dErr]; rfl) ?_
        clear hK' K'
        refine AW_ret ?_
        simp [D.le, D.le.go, takeMap, dNum, dErr]
      · have hpe := pairs_spec G x hwf (by omega) hE (by omega)
        have hrp := rpairs_spec G hM x hwf (by omega) (by omega)
        have hpl := pairsTo_len (namesE true x) (saysB (namesE true x) x) (namesE true x).length
        rw [pairsTo_all] at hpl
        rw [hE] at hre
        generalize hPL : pairsF (namesE true x) (saysB (namesE true x) x) = L at hpe hrp hpl
        generalize namesE true x = ns at *
        have h8' : ¬ (8 : Int) < (ns.length : Int) := by omega
        rw [hcx] at hrd hpe
        rw [hrx] at hrd hre hrn hrp
        simp only [errOf, dErr] at hb7
        refine PureC.of_body (tyOf_good _) Tryz.func3 rfl rfl (rs := [.tmp 2]) Tryz.results3 (by simp [Tryz.ntmps3]) fun X => ?_
        simp only [Tryz.ntmps3, List.map]
        refine AW_rg (tyOf_good _) [0] [] (fun _ _ => trivial) fun K' hK' => ?_
        repeat (refine sxf_next fun K2 hK2 => ?_; simp [dNum, dErr, dPairs]; (repeat (refine ⟨by omega, ?_⟩)); refine hK2 _ ?_; clear hK2 K2)
        refine sxf_nil (hK' _ ?_)
        refine AW.st (by simp [dNum, dErr, dPairs]; rfl) ?_
        clear hK' K'
        refine AW_rg (tyOf_good _) [3, 4, 5] [] (fun _ _ => trivial) fun K' hK' => ?_
        repeat (refine sxf_next fun K2 hK2 => ?_; simp [dNum, dErr, dPairs]; (repeat (refine ⟨by omega, ?_⟩)); refine hK2 _ ?_; clear hK2 K2)
        refine sxf_next fun K2 hK2 => ?_
        simp [dNum, dErr, dPairs]
        refine callK.data (hrd) (by simp; rfl) (by first | exact D.leGo_refl _ | simp [takeMap, List.map_map, Function.comp_def, D.le, D.le.go, D.le_refl, D.leGo_refl, dNum, dErr, dPairs]) ?_
        refine hK2 _ ?_
        clear hK2 K2
        simp only [putd, upd_lst]
        repeat (refine sxf_next fun K2 hK2 => ?_; simp [dNum, dErr, dPairs]; (repeat (refine ⟨by omega, ?_⟩)); refine hK2 _ ?_; clear hK2 K2)
        refine sxf_nil (hK' _ ?_)
        refine AW.st (by simp [dNum, dErr, dPairs]; rfl) ?_
        clear hK' K'
        refine AW_then fun K1 hK1 => ?_
        refine AW_rg (tyOf_good _) [3, 4, 19] [] (fun _ _ => trivial) fun K' hK' => ?_
        repeat (refine sxf_next fun K2 hK2 => ?_; simp [dNum, dErr, dPairs]; (repeat (refine ⟨by omega, ?_⟩)); refine hK2 _ ?_; clear hK2 K2)
        refine sxf_nil (hK' _ ?_)
        refine AW.st (by simp [dNum, dErr, dPairs]; rfl) ?_
        clear hK' K'
        refine AW_cond false rfl (fun h => by cases h) (fun _ => ?_)
        refine AW_skip (hK1 _ ?_)
        refine AW_rg (tyOf_good _) [3, 4, 6, 7] [] (fun _ _ => trivial) fun K' hK' => ?_
        repeat (refine sxf_next fun K2 hK2 => ?_; simp [dNum, dErr, dPairs]; (repeat (refine ⟨by omega, ?_⟩)); refine hK2 _ ?_; clear hK2 K2)
        refine sxf_next fun K2 hK2 => ?_
        simp [dNum, dErr, dPairs]
        refine callK.data (hpe) (by simp; rfl) (by first | exact D.leGo_refl _ | simp [takeMap, List.map_map, Function.comp_def, D.le, D.le.go, D.le_refl, D.leGo_refl, dNum, dErr, dPairs]) ?_
        refine hK2 _ ?_
        clear hK2 K2
        simp only [putd, upd_lst]
        repeat (refine sxf_next fun K2 hK2 => ?_; simp [dNum, dErr, dPairs]; (repeat (refine ⟨by omega, ?_⟩)); refine hK2 _ ?_; clear hK2 K2)
        refine sxf_nil (hK' _ ?_)
        refine AW.st (by simp [dNum, dErr, dPairs]; rfl) ?_
        clear hK' K'
        refine AW_rg (tyOf_good _) [3, 4, 6, 7, 9] [] (fun _ _ => trivial) fun K' hK' => ?_
        repeat (refine sxf_next fun K2 hK2 => ?_; simp [dNum, dErr, dPairs]; (repeat (refine ⟨by omega, ?_⟩)); refine hK2 _ ?_; clear hK2 K2)
        refine sxf_next fun K2 hK2 => ?_
        simp [dNum, dErr, dPairs]
        refine callK.data (hnil) (by simp; rfl) (by first | exact D.leGo_refl _ | simp [takeMap, List.map_map, Function.comp_def, D.le, D.le.go, D.le_refl, D.leGo_refl, dNum, dErr, dPairs]) ?_
        refine hK2 _ ?_
        clear hK2 K2
        simp only [putd, upd_lst]
        repeat (refine sxf_next fun K2 hK2 => ?_; simp [dNum, dErr, dPairs]; (repeat (refine ⟨by omega, ?_⟩)); refine hK2 _ ?_; clear hK2 K2)
        refine sxf_nil (hK' _ ?_)
        refine AW.st (by simp [dNum, dErr, dPairs]; rfl) ?_
        clear hK' K'
        refine AW_then fun K2 hK2 => ?_
        refine AW_rg (tyOf_good _) [4, 6, 7, 35] [] (fun _ _ => trivial) fun K' hK' => ?_
        repeat (refine sxf_next fun K2 hK2 => ?_; simp [dNum, dErr, dPairs]; (repeat (refine ⟨by omega, ?_⟩)); refine hK2 _ ?_; clear hK2 K2)
        refine sxf_next fun K2 hK2 => ?_
        simp [dNum, dErr, dPairs]
        refine callK.data (hb7) (by simp; rfl) (by first | exact D.leGo_refl _ | simp [takeMap, List.map_map, Function.comp_def, D.le, D.le.go, D.le_refl, D.leGo_refl, dNum, dErr, dPairs]) ?_
        refine hK2 _ ?_
        clear hK2 K2
        simp only [putd, upd_lst]
        repeat (refine sxf_next fun K2 hK2 => ?_; simp [dNum, dErr, dPairs]; (repeat (refine ⟨by omega, ?_⟩)); refine hK2 _ ?_; clear hK2 K2)
        refine sxf_nil (hK' _ ?_)
        refine AW.st (by simp [dNum, dErr, dPairs]; rfl) ?_
        clear hK' K'
        refine AW_cond false rfl (fun h => by cases h) (fun _ => ?_)
        refine AW_skip (hK2 _ ?_)
        refine AW_then fun K3 hK3 => ?_
        refine AW_block ?_
        refine AW_rg (tyOf_good _) [4, 6, 7, 36] [] (fun _ _ => trivial) fun K' hK' => ?_
        repeat (refine sxf_next fun K2 hK2 => ?_; simp [dNum, dErr, dPairs]; (repeat (refine ⟨by omega, ?_⟩)); refine hK2 _ ?_; clear hK2 K2)
        refine sxf_next fun K2 hK2 => ?_
        simp [dNum, dErr, dPairs]
        refine callK.data (hre) (by simp; rfl) (by first | exact D.leGo_refl _ | simp [takeMap, List.map_map, Function.comp_def, D.le, D.le.go, D.le_refl, D.leGo_refl, dNum, dErr, dPairs]) ?_
        refine hK2 _ ?_
        clear hK2 K2
        simp only [putd, upd_lst]
        repeat (refine sxf_next fun K2 hK2 => ?_; simp [dNum, dErr, dPairs]; (repeat (refine ⟨by omega, ?_⟩)); refine hK2 _ ?_; clear hK2 K2)
        refine sxf_nil (hK' _ ?_)
        refine AW.st (by simp [dNum, dErr, dPairs]; rfl) ?_
        clear hK' K'
        refine AW_cond false rfl (fun h => by cases h) (fun _ => ?_)
        refine AW_rg (tyOf_good _) [4, 6, 7, 48] [] (fun _ _ => trivial) fun K' hK' => ?_
        repeat (refine sxf_next fun K2 hK2 => ?_; simp [dNum, dErr, dPairs, h8, h8']; (repeat (refine ⟨by omega, ?_⟩)); refine hK2 _ ?_; clear hK2 K2)
        refine sxf_next fun K2 hK2 => ?_
        simp [dNum, dErr, dPairs, h8, h8']
        refine callK.data (hrn) (by simp; rfl) (by first | exact D.leGo_refl _ | simp [takeMap, List.map_map, Function.comp_def, D.le, D.le.go, D.le_refl, D.leGo_refl, dNum, dErr, dPairs, h8, h8']) ?_
        refine hK2 _ ?_
        clear hK2 K2
        simp only [putd, upd_lst]
        repeat (refine sxf_next fun K2 hK2 => ?_; simp [dNum, dErr, dPairs, h8, h8']; (repeat (refine ⟨by omega, ?_⟩)); refine hK2 _ ?_; clear hK2 K2)
        refine sxf_nil (hK' _ ?_)
        refine AW.st (by simp [dNum, dErr, dPairs, h8, h8']; rfl) ?_
        clear hK' K'
        refine AW_cond false (by simp [h8]) (fun h => by cases h) (fun _ => ?_)
        refine AW_skip (hK3 _ ?_)
        refine AW_rg (tyOf_good _) [6, 7, 10] [] (fun _ _ => trivial) fun K' hK' => ?_
        repeat (refine sxf_next fun K2 hK2 => ?_; simp [dNum, dErr, dPairs]; (repeat (refine ⟨by omega, ?_⟩)); refine hK2 _ ?_; clear hK2 K2)
        refine sxf_next fun K2 hK2 => ?_
        simp [dNum, dErr, dPairs]
        refine callK.data (hrp) (by simp; rfl) (by first | exact D.leGo_refl _ | simp [takeMap, List.map_map, Function.comp_def, D.le, D.le.go, D.le_refl, D.leGo_refl, dNum, dErr, dPairs]) ?_
        refine hK2 _ ?_
        clear hK2 K2
        simp only [putd, upd_lst]
        repeat (refine sxf_next fun K2 hK2 => ?_; simp [dNum, dErr, dPairs]; (repeat (refine ⟨by omega, ?_⟩)); refine hK2 _ ?_; clear hK2 K2)
        refine sxf_nil (hK' _ ?_)
        refine AW.st (by simp [dNum, dErr, dPairs]; rfl) ?_
        clear hK' K'
        refine AW_then fun K4 hK4 => ?_
        refine AW_rg (tyOf_good _) [6, 10, 70] [] (fun _ _ => trivial) fun K' hK' => ?_
        repeat (refine sxf_next fun K2 hK2 => ?_; simp [dNum, dErr, dPairs]; (repeat (refine ⟨by omega, ?_⟩)); refine hK2 _ ?_; clear hK2 K2)
        refine sxf_nil (hK' _ ?_)
        refine AW.st (by simp [dNum, dErr, dPairs]; rfl) ?_
        clear hK' K'
        refine AW_cond false rfl (fun h => by cases h) (fun _ => ?_)
        refine AW_skip (hK4 _ ?_)
        refine AW_then fun K5 hK5 => ?_
        refine AW_rg (tyOf_good _) [6, 10, 11] [] (fun _ _ => trivial) fun K' hK' => ?_
        repeat (refine sxf_next fun K2 hK2 => ?_; simp [dNum, dErr, dPairs]; (repeat (refine ⟨by omega, ?_⟩)); refine hK2 _ ?_; clear hK2 K2)
        refine sxf_nil (hK' _ ?_)
        refine AW.st (by simp [dNum, dErr, dPairs]; rfl) ?_
        clear hK' K'
        refine AW_for (S := Nat) (fun i => i ≤ L.length) (fun i => ⟨lst [(6, .d (.sl none (L.map (dPair ns)))), (10, .d (.sl none (L.map (dPair ns)))), (11, int i)], hlst []⟩) (fun i => L.length - i) 0 ?_ (by omega) ?_
        · refine Imp.to' (fun _ _ => trivial) (by simp [dNum, dErr, dPairs]) (by simp [dNum, dErr, dPairs])
        · intro i hi
          refine AW_then fun K6 hK6 => ?_
          refine AW_rg (tyOf_good _) [6, 10, 11, 74] [] (fun _ _ => trivial) fun K' hK' => ?_
          repeat (refine sxf_next fun K2 hK2 => ?_; simp [dNum, dErr, dPairs]; (repeat (refine ⟨by omega, ?_⟩)); refine hK2 _ ?_; clear hK2 K2)
          refine sxf_nil (hK' _ ?_)
          refine AW.st (by simp [dNum, dErr, dPairs]; rfl) ?_
          clear hK' K'
          refine AW_cond' (b := i < L.length) (by simp [D.le, D.le.go, takeMap, dNum, dErr, dPairs]) (fun hc => ?_) (fun hc => ?_)
          · have hil : i < L.length := hc
            obtain ⟨pr, hpr⟩ : ∃ pr, L[i] = pr := ⟨_, rfl⟩
            refine AW_skip (hK6 _ ?_)
            refine AW_then fun K7 hK7 => ?_
            refine AW_block ?_
            refine AW_rd (tyOf_good _) (by kernel_rfl) [6, 10, 11, 113] [] (fun _ _ => trivial) (by kernel_rfl) fun K' hK' => ?_
            repeat (refine sxd_next fun K2 hK2 => ?_; simp [dNum, dErr, dPairs, hil, hpr, dPair, dS, dU, binS, bs_list]; (repeat (refine ⟨by omega, ?_⟩)); refine hK2 _ ?_; clear hK2 K2)
            refine sxd_nil (hK' _ ?_)
            refine AW.st (by simp [dNum, dErr, dPairs, hil, hpr, dPair, dS, dU, binS, bs_list]; rfl) ?_
            clear hK' K'
            refine AW_cond false rfl (fun h => by cases h) (fun _ => ?_)
            refine AW_skip (hK7 _ ?_)
            refine AW_re (tyOf_good _) fun K' hK' => ?_
            repeat (refine sxf_next fun K2 hK2 => ?_; simp [dNum, dErr, dPairs]; (repeat (refine ⟨by omega, ?_⟩)); refine hK2 _ ?_; clear hK2 K2)
            refine sxf_nil (hK' _ ?_)
            clear hK' K'
            try simp only [thn, inb]
            refine Again.mk (i + 1) (by omega) (by omega) ?_
            refine Imp.to' (fun _ _ => trivial) (by simp [dNum, dErr, dPairs]) (by simp [dNum, dErr, dPairs])
          · refine AW_exit (hK5 _ ?_)
            refine AW_rg (tyOf_good _) [2] [] (fun _ _ => trivial) fun K' hK' => ?_
            repeat (refine sxf_next fun K2 hK2 => ?_; simp [dNum, dErr, dPairs]; (repeat (refine ⟨by omega, ?_⟩)); refine hK2 _ ?_; clear hK2 K2)
            refine sxf_nil (hK' _ ?_)
            refine AW.st (by simp [dNum, dErr, dPairs]; rfl) ?_
            clear hK' K'
            refine AW_ret ?_
            simp [D.le, D.le.go, takeMap, dNum, dErr, dPairs]
    · have hpe := pairs_edge G x (by omega) hE
      have hb1 := bare_spec G hG 1
      generalize namesE false x = es at hre hE
      have h0 : 0 < es.length := List.length_pos_iff.2 hE
      have h0' : (0 : Int) < (es.length : Int) := by omega
      rw [hcx] at hrd hpe
      rw [hrx] at hrd hre hrn
      simp only [errOf, dErr] at hb7 hb1
      refine PureC.of_body (tyOf_good _) Tryz.func3 rfl rfl (rs := [.tmp 2]) Tryz.results3 (by simp [Tryz.ntmps3]) fun X => ?_
      simp only [Tryz.ntmps3, List.map]
      refine AW_rg (tyOf_good _) [0] [] (fun _ _ => trivial) fun K' hK' => ?_
      repeat (refine sxf_next fun K2 hK2 => ?_; simp [dNum, dErr]; (repeat (refine ⟨by omega, ?_⟩)); refine hK2 _ ?_; clear hK2 K2)
      refine sxf_nil (hK' _ ?_)
      refine AW.st (by simp [dNum, dErr]; rfl) ?_
      clear hK' K'
      refine AW_rg (tyOf_good _) [3, 4, 5] [] (fun _ _ => trivial) fun K' hK' => ?_
      repeat (refine sxf_next fun K2 hK2 => ?_; simp [dNum, dErr]; (repeat (refine ⟨by omega, ?_⟩)); refine hK2 _ ?_; clear hK2 K2)
      refine sxf_next fun K2 hK2 => ?_
      simp [dNum, dErr]
      refine callK.data (hrd) (by simp; rfl) (by first | exact D.leGo_refl _ | simp [takeMap, List.map_map, Function.comp_def, D.le, D.le.go, D.le_refl, D.leGo_refl, dNum, dErr]) ?_
      refine hK2 _ ?_
      clear hK2 K2
      simp only [putd, upd_lst]
      repeat (refine sxf_next fun K2 hK2 => ?_; simp [dNum, dErr]; (repeat (refine ⟨by omega, ?_⟩)); refine hK2 _ ?_; clear hK2 K2)
      refine sxf_nil (hK' _ ?_)
      refine AW.st (by simp [dNum, dErr]; rfl) ?_
      clear hK' K'
      refine AW_then fun K1 hK1 => ?_
      refine AW_rg (tyOf_good _) [3, 4, 19] [] (fun _ _ => trivial) fun K' hK' => ?_
      repeat (refine sxf_next fun K2 hK2 => ?_; simp [dNum, dErr]; (repeat (refine ⟨by omega, ?_⟩)); refine hK2 _ ?_; clear hK2 K2)
      refine sxf_nil (hK' _ ?_)
      refine AW.st (by simp [dNum, dErr]; rfl) ?_
      clear hK' K'
      refine AW_cond false rfl (fun h => by cases h) (fun _ => ?_)
      refine AW_skip (hK1 _ ?_)
      refine AW_rg (tyOf_good _) [3, 4, 6, 7] [] (fun _ _ => trivial) fun K' hK' => ?_
      repeat (refine sxf_next fun K2 hK2 => ?_; simp [dNum, dErr]; (repeat (refine ⟨by omega, ?_⟩)); refine hK2 _ ?_; clear hK2 K2)
      refine sxf_next fun K2 hK2 => ?_
      simp [dNum, dErr]
      refine callK.data (hpe) (by simp; rfl) (by first | exact D.leGo_refl _ | simp [takeMap, List.map_map, Function.comp_def, D.le, D.le.go, D.le_refl, D.leGo_refl, dNum, dErr]) ?_
      refine hK2 _ ?_
      clear hK2 K2
      simp only [putd, upd_lst]
      repeat (refine sxf_next fun K2 hK2 => ?_; simp [dNum, dErr]; (repeat (refine ⟨by omega, ?_⟩)); refine hK2 _ ?_; clear hK2 K2)
      refine sxf_nil (hK' _ ?_)
      refine AW.st (by simp [dNum, dErr]; rfl) ?_
      clear hK' K'
      refine AW_rg (tyOf_good _) [3, 4, 6, 7, 9] [] (fun _ _ => trivial) fun K' hK' => ?_
      repeat (refine sxf_next fun K2 hK2 => ?_; simp [dNum, dErr]; (repeat (refine ⟨by omega, ?_⟩)); refine hK2 _ ?_; clear hK2 K2)
      refine sxf_next fun K2 hK2 => ?_
      simp [dNum, dErr]
      refine callK.data (hnil) (by simp; rfl) (by first | exact D.leGo_refl _ | simp [takeMap, List.map_map, Function.comp_def, D.le, D.le.go, D.le_refl, D.leGo_refl, dNum, dErr]) ?_
      refine hK2 _ ?_
      clear hK2 K2
      simp only [putd, upd_lst]
      repeat (refine sxf_next fun K2 hK2 => ?_; simp [dNum, dErr]; (repeat (refine ⟨by omega, ?_⟩)); refine hK2 _ ?_; clear hK2 K2)
      refine sxf_nil (hK' _ ?_)
      refine AW.st (by simp [dNum, dErr]; rfl) ?_
      clear hK' K'
      refine AW_then fun K2 hK2 => ?_
      refine AW_rg (tyOf_good _) [4, 6, 7, 35] [] (fun _ _ => trivial) fun K' hK' => ?_
      repeat (refine sxf_next fun K2 hK2 => ?_; simp [dNum, dErr]; (repeat (refine ⟨by omega, ?_⟩)); refine hK2 _ ?_; clear hK2 K2)
      refine sxf_next fun K2 hK2 => ?_
      simp [dNum, dErr]
      refine callK.data (hb7) (by simp; rfl) (by first | exact D.leGo_refl _ | simp [takeMap, List.map_map, Function.comp_def, D.le, D.le.go, D.le_refl, D.leGo_refl, dNum, dErr]) ?_
      refine hK2 _ ?_
      clear hK2 K2
      simp only [putd, upd_lst]
      repeat (refine sxf_next fun K2 hK2 => ?_; simp [dNum, dErr]; (repeat (refine ⟨by omega, ?_⟩)); refine hK2 _ ?_; clear hK2 K2)
      refine sxf_nil (hK' _ ?_)
      refine AW.st (by simp [dNum, dErr]; rfl) ?_
      clear hK' K'
      refine AW_cond false rfl (fun h => by cases h) (fun _ => ?_)
      refine AW_skip (hK2 _ ?_)
      refine AW_then fun K3 hK3 => ?_
      refine AW_block ?_
      refine AW_rg (tyOf_good _) [4, 6, 7, 36] [] (fun _ _ => trivial) fun K' hK' => ?_
      repeat (refine sxf_next fun K2 hK2 => ?_; simp [dNum, dErr, h0, h0']; (repeat (refine ⟨by omega, ?_⟩)); refine hK2 _ ?_; clear hK2 K2)
      refine sxf_next fun K2 hK2 => ?_
      simp [dNum, dErr, h0, h0']
      refine callK.data (hre) (by simp; rfl) (by first | exact D.leGo_refl _ | simp [takeMap, List.map_map, Function.comp_def, D.le, D.le.go, D.le_refl, D.leGo_refl, dNum, dErr, h0, h0']) ?_
      refine hK2 _ ?_
      clear hK2 K2
      simp only [putd, upd_lst]
      repeat (refine sxf_next fun K2 hK2 => ?_; simp [dNum, dErr, h0, h0']; (repeat (refine ⟨by omega, ?_⟩)); refine hK2 _ ?_; clear hK2 K2)
      refine sxf_nil (hK' _ ?_)
      refine AW.st (by simp [dNum, dErr, h0, h0']; rfl) ?_
      clear hK' K'
      refine AW_cond true (by simp [h0]) (fun _ => ?_) (fun h => by cases h)
      refine AW_rg (tyOf_good _) [2] [] (fun _ _ => trivial) fun K' hK' => ?_
      repeat (refine sxf_next fun K2 hK2 => ?_; simp [dNum, dErr]; (repeat (refine ⟨by omega, ?_⟩)); refine hK2 _ ?_; clear hK2 K2)
      refine sxf_next fun K2 hK2 => ?_
      simp [dNum, dErr]
      refine callK.data (hb1) (by simp; rfl) (by first | exact D.leGo_refl _ | simp [takeMap, List.map_map, Function.comp_def, D.le, D.le.go, D.le_refl, D.leGo_refl, dNum, dErr]) ?_
      refine hK2 _ ?_
      clear hK2 K2
      simp only [putd, upd_lst]
      repeat (refine sxf_next fun K2 hK2 => ?_; simp [dNum, dErr]; (repeat (refine ⟨by omega, ?_⟩)); refine hK2 _ ?_; clear hK2 K2)
      refine sxf_nil (hK' _ ?_)
      refine AW.st (by simp [dNum, dErr]; rfl) ?_
      clear hK' K'
      refine AW_ret ?_
      simp [D.le, D.le.go, takeMap, dNum, dErr]
end Go.Proofs.YtagfbbnlbncjlaaGreatDoor

/-
  Tables, as they are read.
-/
namespace Go.Proofs.YtagfbbnlbncjlaaGreatDoor
set_option linter.unusedSimpArgs false
set_option linter.unusedVariables false
open Go.Av Go.ChangeShapes Go.WideShapes Go.ChangeAt Go.RowKit

theorem law_own : ownKnob Tryz.prog.godebug = none := by kernel_rfl
theorem law_laidOut : laidOutB Tryz.prog = true := by kernel_rfl
theorem cells_int : Tryz.prog.cellsOf 3 = 1 := by kernel_rfl
section
variable {H : Type} {enc : TypeId × Value → H} {w : World} {base : Nat} {spare : Nat → Bool} {held : Bool} {X : Nat → Prop}

end

end Go.Proofs.YtagfbbnlbncjlaaGreatDoor
