/-
  Texts that belong together, in one file: U4, U5, C4, GB1, V5, GB2, R1.
-/
import Derived.Test.YtagfbbnlbncjlaaGreatDoorGm21
import Derived.Sort.Walk0
/-
  The document's names: named, Names, Edges.
-/
namespace Go.Proofs.YtagfbbnlbncjlaaGreatDoor
set_option linter.unusedSimpArgs false
set_option linter.unusedVariables false
open Go.Av

def kAll (all : Bool) : List UInt8 := if all then [98, 105, 116, 94, 126] else [94, 126]
theorem nmsE_kids (all : Bool) (e : Ex) : nmsE all e = one1 (nmE all e) ++ nmsL all (kidsR e) := by
  cases e <;> simp [nmsE, kidsR, nmsL, nmE, one1]
/-- What the node itself gives: by its name and kind. -/
theorem nmE_kind (all : Bool) (e : Ex) : (nmR e = [] ∧ one1 (nmE all e) = []) ∨ (nmR e ≠ [] ∧ Lib.contains (kAll all) (kdR e) = false ∧ one1 (nmE all e) = []) ∨ (nmR e ≠ [] ∧ Lib.contains (kAll all) (kdR e) = true ∧ one1 (nmE all e) = [nmR e]) := by
  have c1 : Lib.contains (kAll true) [98, 105, 116] = true := by decide +kernel
  have c2 : Lib.contains (kAll false) [98, 105, 116] = false := by decide +kernel
  have c3 : ∀ all, Lib.contains (kAll all) [94] = true := by decide +kernel
  have c4 : ∀ all, Lib.contains (kAll all) [126] = true := by decide +kernel
  cases e with
  | bit s =>
    by_cases hs : s = []
    · subst hs; cases all <;> exact .inl ⟨rfl, rfl⟩
    · cases all with
      | true => exact .inr (.inr ⟨hs, c1, by simp [nmE, one1, nmR, hs]⟩)
      | false => exact .inr (.inl ⟨hs, c2, by simp [nmE, one1]⟩)
  | rise s =>
    by_cases hs : s = []
    · subst hs; exact .inl ⟨rfl, rfl⟩
    · exact .inr (.inr ⟨hs, c3 _, by simp [nmE, one1, nmR, hs]⟩)
  | fall s =>
    by_cases hs : s = []
    · subst hs; exact .inl ⟨rfl, rfl⟩
    · exact .inr (.inr ⟨hs, c4 _, by simp [nmE, one1, nmR, hs]⟩)
  | _ => exact .inl ⟨rfl, rfl⟩

def wFn : AV := .fn (.func 70) [.ref 501 0 0, .ref 502 0 0, .ref 504 0 0]
def wRow (all : Bool) (l : List Tx) : List (Nat × Row) := [(501, .box 9 [.d (dS (kAll all))]), (502, .box 34 [.own 503 0 l.length]), (503, .sl 9 1 (l.map fun s => [dS s])), (504, .box 132 [wFn])]
theorem binS_lt (a b : Tx) : binS .lss (bs a) (bs b) = some (True, .bool (decide (a < b))) := by
  simp only [binS, bs_list, bytesLess_eq]
theorem binS_ne (a b : Tx) : binS .neq (bs a) (bs b) = some (True, .bool (!decide (a = b))) := by
  simp only [binS, bs_list]
  have h : (a == b) = decide (a = b) := by
    by_cases e : a = b
    · subst e; exact (beq_self_eq_true a).trans (decide_eq_true rfl).symm
    · exact (beq_eq_false_iff_ne.2 e).trans (decide_eq_false e).symm
  rw [h]

/-- One element is put in: what is copied, what lies there then, and behind the store. -/
theorem put_in (m : List (List D)) (z x : List D) (k : Nat) (hk : k ≤ m.length) (hm : ∀ el ∈ m, el.length = 1 ∧ ∀ c ∈ el, D.one c = true) (hz : z.length = 1 ∧ ∀ c ∈ z, D.one c = true) :
    ∃ news els2 : List (List D), ∃ w0 : D, ((m ++ [z]).drop k).take (m.length + 1 - k) = news ∧ (∀ el ∈ news, el.length = 1) ∧ (∀ el ∈ news, ∀ c ∈ el, D.one c = true) ∧
      copyEls (m ++ [z]) news (k + 1) (m.length + 1 - (k + 1)) = els2 ∧ els2.length = m.length + 1 ∧ els2[k]? = some [w0] ∧ els2.set k x = m.take k ++ x :: m.drop k ∧ (k = m.length → els2 = m ++ [z]) := by
  have h1 : ((m ++ [z]).drop k).take (m.length + 1 - k) = m.drop k ++ [z] := by
    rw [List.take_of_length_le (by simp), List.drop_append_of_le_length hk]
  have h2 : (m.drop k ++ [z]).take (m.length + 1 - (k + 1)) = m.drop k := by
    rw [List.take_append_of_le_length (by simp), List.take_of_length_le (by simp)]
  have h3 : copyEls (m ++ [z]) (m.drop k ++ [z]) (k + 1) (m.length + 1 - (k + 1)) = (m ++ [z]).take (k + 1) ++ m.drop k := by
    unfold copyEls
    rw [h2, List.drop_of_length_le (l := m ++ [z]) (by simp; omega), List.append_nil]
  have hmem : ∀ el ∈ m.drop k ++ [z], el.length = 1 ∧ ∀ c ∈ el, D.one c = true := fun el hel => by
    rcases List.mem_append.1 hel with h | h
    · exact hm el (List.mem_of_mem_drop h)
    · rw [List.mem_singleton] at h; subst h; exact hz
  have hl : ((m ++ [z]).take (k + 1) ++ m.drop k).length = m.length + 1 := by simp; omega
  have hkk : k < (m ++ [z]).length := by simp; omega
  have hgk : ((m ++ [z]).take (k + 1) ++ m.drop k)[k]? = some ((m ++ [z])[k]) := by
    rw [List.getElem?_append_left (by simp; omega), List.getElem?_take, if_pos (by omega), List.getElem?_eq_getElem hkk]
  have hone : ∃ w0, (m ++ [z])[k] = [w0] := by
    have hq : ((m ++ [z])[k]).length = 1 := by
      rcases List.mem_append.1 (List.getElem_mem hkk) with h | h
      · exact (hm _ h).1
      · rw [List.mem_singleton] at h; rw [h]; exact hz.1
    exact List.length_eq_one_iff.1 hq
  obtain ⟨w0, hw0⟩ := hone
  refine ⟨_, _, w0, h1, fun el hel => (hmem el hel).1, fun el hel => (hmem el hel).2, h3, hl, by rw [hgk, hw0], ?_, fun e => ?_⟩
  · rw [List.take_succ_eq_append_getElem hkk, List.append_assoc, List.set_append_right _ _ (by simp; omega)]
    have e1 : ((m ++ [z]).take k).length = k := by simp; omega
    rw [e1, Nat.sub_self, List.take_append_of_le_length hk]
    rfl
  · subst e; rw [List.take_of_length_le (by simp), List.drop_of_length_le (by simp), List.append_nil]

set_option maxHeartbeats 32000000 in
set_option maxRecDepth 100000 in
theorem rwalk_at (G : Glob) (hM : HasMax G) (all : Bool) : ∀ (n : Nat) (e : Ex), SizeOf.sizeOf e ≤ n → ∀ l0 : List Tx, l0.length + bE e ≤ 2^39 → MC Tryz.prog G [501, 502, 504] 70 ([.d (dR e)] ++ [.ref 501 0 0, .ref 502 0 0, .ref 504 0 0]) (hlst (wRow all l0)) (.d (.tup [])) (hlst (wRow all (insL l0 (nmsE all e)))) := by
  intro n
  induction n with
  | zero => intro e hsz; cases e <;> simp at hsz
  | succ n ih =>
    intro e hsz l0 hb
    have hch : ∀ x ∈ kidsR e, ∀ l1 : List Tx, l1.length + bE x ≤ 2^39 → MC Tryz.prog G [501, 502, 504] 70 ([.d (dR x)] ++ [.ref 501 0 0, .ref 502 0 0, .ref 504 0 0]) (hlst (wRow all l1)) (.d (.tup [])) (hlst (wRow all (insL l1 (nmsE all x)))) := fun x hx => ih x (by have := sz_kids hx; omega)
    clear ih
    have hkb := bE_kids e
    have hln := bEs_len (kidsR e)
    have hnl := nmsL_len all (kidsR e)
    have hkind := nmE_kind all e
    have hon : (one1 (nmE all e)).length ≤ 1 := by unfold one1; split <;> simp
    have hbd : (one1 (nmE all e)).length + bEs (kidsR e) ≤ bE e := by
      cases e <;> simp [kidsR, bE, bEs] <;> first | omega | (simp [one1, nmE] <;> omega) | skip
    have hcon := scontains_spec G hM (kAll all) (kdR e) (by cases all <;> simp [kAll])
    have hkl : (kAll all).length ≤ 5 := by cases all <;> simp [kAll]
    rw [nmsE_kids, insL_app, dR_form, ofR_form]
    generalize kidsR e = l at hch hkb hln hnl hbd ⊢
    generalize kdR e = kd at hcon hkind ⊢
    generalize nmR e = nm at hkind ⊢
    generalize kR e = kk
    generalize hone : one1 (nmE all e) = on at hkind hbd hon ⊢
    generalize hout : insL l0 on = out1
    have hol := insL_len on l0
    rw [hout] at hol
    clear hsz
    refine MC.of_body (tyOf_good _) Tryz.func70 rfl rfl (rs := []) Tryz.results70 (by simp [Tryz.ntmps70]) rfl fun X => ?_
    simp only [Tryz.ntmps70]
    refine AW_then fun K1 hK1 => ?_
    refine (fun hgo => ?_) (fun (σ : St) himp => hK1 σ (AW.imp (τ := ⟨lst [(0, .d (.ip [dS kd, dS nm, .sl kk (l.map fun x => [dR x])])), (3, .ref 504 0 0)], hlst (wRow all out1)⟩) himp ?_))
    · rcases hkind with ⟨h1, h2⟩ | ⟨h1, h2, h3⟩ | ⟨h1, h2, h3⟩
      · subst h1 h2
        have hq : l0 = out1 := by rw [← hout]; rfl
        subst hq
        refine AW_rd (tyOf_good _) (by kernel_rfl) [0, 2, 3, 20] [501, 502, 503, 504] (notIn_ok rfl) (by kernel_rfl) fun K' hK' => ?_
        repeat (refine sxd_next fun K2 hK2 => ?_; simp [dNum, dS, wRow, wFn, binS_ne, bs_nil]; (repeat (refine ⟨by omega, ?_⟩)); refine hK2 _ ?_; clear hK2 K2)
        refine sxd_nil (hK' _ ?_)
        refine AW.st (by simp [dNum, dS, wRow, wFn, binS_ne, bs_nil]; rfl) ?_
        clear hK' K'
        refine AW_cond false rfl (fun h => by cases h) (fun _ => ?_)
        refine AW_skip (hgo _ ?_)
        refine Imp.to' (notIn_ok rfl) (by simp [dNum, dS, wRow, wFn]) (by simp [dNum, dS, wRow, wFn])
      · subst h3
        have hq : l0 = out1 := by rw [← hout]; rfl
        subst hq
        rw [h2] at hcon
        have hnb : binS .neq (bs nm) ⟨#[]⟩ = some (True, .bool true) := by
          have := binS_ne nm []
          rw [decide_eq_false h1] at this
          exact this
        refine AW_rd (tyOf_good _) (by kernel_rfl) [0, 2, 3, 20] [501, 502, 503, 504] (notIn_ok rfl) (by kernel_rfl) fun K' hK' => ?_
        repeat (refine sxd_next fun K2 hK2 => ?_; simp [dNum, dS, wRow, wFn, hnb]; (repeat (refine ⟨by omega, ?_⟩)); refine hK2 _ ?_; clear hK2 K2)
        refine sxd_next fun K2 hK2 => ?_
        simp [dNum, dS, wRow, wFn, hnb]
        refine callQ.data (hcon) (by simp; rfl) (by simp; rfl) (by first | exact D.leGo_refl _ | simp [takeMap, List.map_map, Function.comp_def, D.le, D.le.go, D.le_refl, D.leGo_refl, dNum, dS, wRow, wFn, hnb]) ?_
        refine hK2 _ ?_
        clear hK2 K2
        simp only [putd, upd_lst]
        repeat (refine sxd_next fun K2 hK2 => ?_; simp [dNum, dS, wRow, wFn, hnb]; (repeat (refine ⟨by omega, ?_⟩)); refine hK2 _ ?_; clear hK2 K2)
        refine sxd_nil (hK' _ ?_)
        refine AW.st (by simp [dNum, dS, wRow, wFn, hnb]; rfl) ?_
        clear hK' K'
        refine AW_cond false rfl (fun h => by cases h) (fun _ => ?_)
        refine AW_skip (hgo _ ?_)
        refine Imp.to' (notIn_ok rfl) (by simp [dNum, dS, wRow, wFn]) (by simp [dNum, dS, wRow, wFn])
      · subst h3
        rw [h2] at hcon
        have hnb : binS .neq (bs nm) ⟨#[]⟩ = some (True, .bool true) := by
          have := binS_ne nm []
          rw [decide_eq_false h1] at this
          exact this
        refine AW_rd (tyOf_good _) (by kernel_rfl) [0, 2, 3, 20] [501, 502, 503, 504] (notIn_ok rfl) (by kernel_rfl) fun K' hK' => ?_
        repeat (refine sxd_next fun K2 hK2 => ?_; simp [dNum, dS, wRow, wFn, hnb]; (repeat (refine ⟨by omega, ?_⟩)); refine hK2 _ ?_; clear hK2 K2)
        refine sxd_next fun K2 hK2 => ?_
        simp [dNum, dS, wRow, wFn, hnb]
        refine callQ.data (hcon) (by simp; rfl) (by simp; rfl) (by first | exact D.leGo_refl _ | simp [takeMap, List.map_map, Function.comp_def, D.le, D.le.go, D.le_refl, D.leGo_refl, dNum, dS, wRow, wFn, hnb]) ?_
        refine hK2 _ ?_
        clear hK2 K2
        simp only [putd, upd_lst]
        repeat (refine sxd_next fun K2 hK2 => ?_; simp [dNum, dS, wRow, wFn, hnb]; (repeat (refine ⟨by omega, ?_⟩)); refine hK2 _ ?_; clear hK2 K2)
        refine sxd_nil (hK' _ ?_)
        refine AW.st (by simp [dNum, dS, wRow, wFn, hnb]; rfl) ?_
        clear hK' K'
        refine AW_cond true rfl (fun _ => ?_) (fun h => by cases h)
        refine AW_rg (tyOf_good _) [0, 2, 3, 5] [501, 502, 503, 504] (notIn_ok rfl) fun K' hK' => ?_
        repeat (refine sxf_next fun K2 hK2 => ?_; simp [dNum, dS, wRow, wFn]; (repeat (refine ⟨by omega, ?_⟩)); refine hK2 _ ?_; clear hK2 K2)
        refine sxf_nil (hK' _ ?_)
        refine AW.st (by simp [dNum, dS, wRow, wFn]; rfl) ?_
        clear hK' K'
        refine AW_then fun K2 hK2 => ?_
        refine (fun hgo2 => ?_) (fun (k : Nat) (hk : k ≤ l0.length) (hp : ∀ i (hi : i < l0.length), i < k → l0[i]'hi < nm) (hx : ∀ hk : k < l0.length, ¬ l0[k]'hk < nm) (σ : St) himp => hK2 σ (AW.imp (τ := ⟨lst [(0, .d (.ip [dS kd, dS nm, .sl kk (l.map fun x => [dR x])])), (2, .ref 502 0 0), (3, .ref 504 0 0), (5, int k)], hlst (wRow all l0)⟩) himp ?_))
        · refine AW_for (S := Nat) (fun k => k ≤ l0.length ∧ ∀ i (hi : i < l0.length), i < k → l0[i] < nm) (fun k => ⟨lst [(0, .d (.ip [dS kd, dS nm, .sl kk (l.map fun x => [dR x])])), (2, .ref 502 0 0), (3, .ref 504 0 0), (5, int k)], hlst (wRow all l0)⟩) (fun k => l0.length - k) 0 ?_ (by simp) ?_
          · refine Imp.to' (notIn_ok rfl) (by simp [dNum, dS, wRow, wFn]) (by simp [dNum, dS, wRow, wFn])
          · rintro k ⟨hk, hp⟩
            refine AW_then fun K3 hK3 => ?_
            by_cases hkl : k < l0.length
            · cases hlt : decide (l0[k] < nm) with
              | true =>
                have hb2 : binS .lss (bs l0[k]) (bs nm) = some (True, .bool true) := by rw [binS_lt, hlt]
                refine AW_rd (tyOf_good _) (by kernel_rfl) [0, 2, 3, 5, 35] [501, 502, 503, 504] (notIn_ok rfl) (by kernel_rfl) fun K' hK' => ?_
                repeat (refine sxd_next fun K2 hK2 => ?_; simp [dNum, dS, wRow, wFn, hkl, hb2]; (repeat (refine ⟨by omega, ?_⟩)); refine hK2 _ ?_; clear hK2 K2)
                refine sxd_nil (hK' _ ?_)
                refine AW.st (by simp [dNum, dS, wRow, wFn, hkl, hb2]; rfl) ?_
                clear hK' K'
                refine AW_cond true rfl (fun _ => ?_) (fun h => by cases h)
                refine AW_skip (hK3 _ ?_)
                refine AW_block ?_
                refine AW_re (tyOf_good _) fun K' hK' => ?_
                repeat (refine sxf_next fun K2 hK2 => ?_; simp [dNum, dS, wRow, wFn]; (repeat (refine ⟨by omega, ?_⟩)); refine hK2 _ ?_; clear hK2 K2)
                refine sxf_nil (hK' _ ?_)
                clear hK' K'
                try simp only [thn, inb]
                refine Again.mk (k + 1) ⟨by omega, fun i hi hik => ?_⟩ (by omega) ?_
                · by_cases he : i = k
                  · subst he; exact of_decide_eq_true hlt
                  · exact hp i hi (by omega)
                refine Imp.to' (notIn_ok rfl) (by simp [dNum, dS, wRow, wFn]) (by simp [dNum, dS, wRow, wFn])
              | false =>
                have hb2 : binS .lss (bs l0[k]) (bs nm) = some (True, .bool false) := by rw [binS_lt, hlt]
                refine AW_rd (tyOf_good _) (by kernel_rfl) [0, 2, 3, 5, 35] [501, 502, 503, 504] (notIn_ok rfl) (by kernel_rfl) fun K' hK' => ?_
                repeat (refine sxd_next fun K2 hK2 => ?_; simp [dNum, dS, wRow, wFn, hkl, hb2]; (repeat (refine ⟨by omega, ?_⟩)); refine hK2 _ ?_; clear hK2 K2)
                refine sxd_nil (hK' _ ?_)
                refine AW.st (by simp [dNum, dS, wRow, wFn, hkl, hb2]; rfl) ?_
                clear hK' K'
                refine AW_cond false rfl (fun h => by cases h) (fun _ => ?_)
                refine AW_exit (hgo2 k hk hp (fun _ => of_decide_eq_false hlt) _ ?_)
                refine Imp.to' (notIn_ok rfl) (by simp [dNum, dS, wRow, wFn]) (by simp [dNum, dS, wRow, wFn])
            · refine AW_rd (tyOf_good _) (by kernel_rfl) [0, 2, 3, 5, 35] [501, 502, 503, 504] (notIn_ok rfl) (by kernel_rfl) fun K' hK' => ?_
              repeat (refine sxd_next fun K2 hK2 => ?_; simp [dNum, dS, wRow, wFn, hkl]; (repeat (refine ⟨by omega, ?_⟩)); refine hK2 _ ?_; clear hK2 K2)
              refine sxd_nil (hK' _ ?_)
              refine AW.st (by simp [dNum, dS, wRow, wFn, hkl]; rfl) ?_
              clear hK' K'
              refine AW_cond false rfl (fun h => by cases h) (fun _ => ?_)
              refine AW_exit (hgo2 k hk hp (fun h => absurd h hkl) _ ?_)
              refine Imp.to' (notIn_ok rfl) (by simp [dNum, dS, wRow, wFn]) (by simp [dNum, dS, wRow, wFn])
        · have hins := insT_at nm l0 k hk hp hx
          have ho2 : out1 = insT nm l0 := hout.symm
          rw [hins] at ho2
          by_cases hkl : k < l0.length
          · by_cases he : l0[k] = nm
            · have hb3 : binS .neq (bs l0[k]) (bs nm) = some (True, .bool false) := by rw [binS_ne, he, decide_eq_true rfl]; rfl
              rw [if_pos ⟨hkl, he⟩] at ho2
              have hne : ¬ k = l0.length := by omega
              refine AW_rd (tyOf_good _) (by kernel_rfl) [0, 2, 3, 5, 52] [501, 502, 503, 504] (notIn_ok rfl) (by kernel_rfl) fun K' hK' => ?_
              repeat (refine sxd_next fun K2 hK2 => ?_; simp [dNum, dS, wRow, wFn, hkl, hb3, hne]; (repeat (refine ⟨by omega, ?_⟩)); refine hK2 _ ?_; clear hK2 K2)
              refine sxd_nil (hK' _ ?_)
              refine AW.st (by simp [dNum, dS, wRow, wFn, hkl, hb3, hne]; rfl) ?_
              clear hK' K'
              refine AW_cond false rfl (fun h => by cases h) (fun _ => ?_)
              refine AW_skip (hgo _ ?_)
              refine Imp.to' (notIn_ok rfl) (by simp [dNum, dS, wRow, wFn, ho2]) (by simp [dNum, dS, wRow, wFn, ho2])
            · have hb3 : binS .neq (bs l0[k]) (bs nm) = some (True, .bool true) := by rw [binS_ne, decide_eq_false he]; rfl
              rw [if_neg (fun ⟨_, h⟩ => he h)] at ho2
              have hne : ¬ k = l0.length := by omega
              refine AW_rd (tyOf_good _) (by kernel_rfl) [0, 2, 3, 5, 52] [501, 502, 503, 504] (notIn_ok rfl) (by kernel_rfl) fun K' hK' => ?_
              repeat (refine sxd_next fun K2 hK2 => ?_; simp [dNum, dS, wRow, wFn, hkl, hb3, hne]; (repeat (refine ⟨by omega, ?_⟩)); refine hK2 _ ?_; clear hK2 K2)
              refine sxd_nil (hK' _ ?_)
              refine AW.st (by simp [dNum, dS, wRow, wFn, hkl, hb3, hne]; rfl) ?_
              clear hK' K'
              refine AW_cond true rfl (fun _ => ?_) (fun h => by cases h)
              refine AW_rg (tyOf_good _) [0, 2, 3, 5] [501, 502, 503, 504] (notIn_ok rfl) fun K' hK' => ?_
              repeat (refine sxf_next fun K2 hK2 => ?_; simp [dNum, dS, wRow, wFn, List.take_of_length_le]; (repeat (refine ⟨by omega, ?_⟩)); refine hK2 _ ?_; clear hK2 K2)
              refine sxf_nil (hK' _ ?_)
              refine AW.st (by simp [dNum, dS, wRow, wFn, List.take_of_length_le]; rfl) ?_
              clear hK' K'
              have hk1 : k + 1 ≤ l0.length + 1 := by omega
              have hi2 : ¬ (k : Int) = (l0.length : Int) + 1 := by omega
              have hi3 : ((l0.length : Int) + 1 - ((k : Int) + 1)).toNat = l0.length + 1 - (k + 1) := by omega
              have hle : k + (l0.length + 1 - k) ≤ l0.length + 1 := by omega
              have hle2 : k + 1 + (l0.length - k) ≤ l0.length + 1 := by omega
              obtain ⟨news, els2, w0, q1, q2, q3, q4, q5, q6, q7, _⟩ := put_in (l0.map fun s => [dS s]) [dS []] [dS nm] k (by simpa using hk) (by intro el hel; obtain ⟨s, _, rfl⟩ := List.mem_map.1 hel; simp [dS, D.one]) (by simp [dS, D.one])
              have q8 : List.take k (l0.map fun s => [dS s]) ++ [dS nm] :: List.drop k (l0.map fun s => [dS s]) = out1.map fun s => [dS s] := by rw [ho2]; simp
              rw [q8] at q7
              have q9 : out1.length = l0.length + 1 := by rw [ho2]; simp; omega
              rw [List.length_map] at q1 q4 q5
              rw [Nat.add_sub_add_right] at q4
              simp only [dS] at q1 q4 q7
              rw [← bs_nil] at q1 q4
              have q10 : (els2[k]'(by omega)).tail = [] := by
                have := q6
                rw [List.getElem?_eq_getElem (by omega)] at this
                rw [Option.some.inj this]
                rfl
              have q23 := eq_true (And.intro q2 q3)
              have q2t := eq_true q2
              have q3t := eq_true q3
              have hkl1 : k < l0.length + 1 := by omega
              refine AW_rd (tyOf_good _) (by kernel_rfl) [0, 2, 3, 5] [501, 502, 503, 504] (notIn_ok rfl) (by kernel_rfl) fun K' hK' => ?_
              repeat (refine sxd_next fun K2 hK2 => ?_; simp [dNum, dS, wRow, wFn, hk1, hk, hne, hi2, hi3, hle, hle2, q1, q23, q2t, q3t, q4]; (repeat (refine ⟨by omega, ?_⟩)); refine hK2 _ ?_; clear hK2 K2)
              refine sxd_nil (hK' _ ?_)
              refine AW.st (by simp [dNum, dS, wRow, wFn, hk1, hk, hne, hi2, hi3, hle, hle2, q1, q23, q2t, q3t, q4]; rfl) ?_
              clear hK' K'
              refine AW_rde (tyOf_good _) (by kernel_rfl) (by kernel_rfl) fun K' hK' => ?_
              repeat (refine sxd_next fun K2 hK2 => ?_; simp [dNum, dS, wRow, wFn, q5, q6, q7, q10, hkl1]; (repeat (refine ⟨by omega, ?_⟩)); refine hK2 _ ?_; clear hK2 K2)
              refine sxd_nil (hK' _ ?_)
              clear hK' K'
              try simp only [thn, inb]
              refine hgo _ ?_
              refine Imp.to' (notIn_ok rfl) (by simp [dNum, dS, wRow, wFn, q9, q7, q10]) (by simp [dNum, dS, wRow, wFn, q9, q7, q10])
          · obtain rfl : k = l0.length := by omega
            rw [if_neg (fun ⟨h, _⟩ => hkl h), List.take_length, List.drop_length] at ho2
            refine AW_rd (tyOf_good _) (by kernel_rfl) [0, 2, 3, 5, 52] [501, 502, 503, 504] (notIn_ok rfl) (by kernel_rfl) fun K' hK' => ?_
            repeat (refine sxd_next fun K2 hK2 => ?_; simp [dNum, dS, wRow, wFn, hkl]; (repeat (refine ⟨by omega, ?_⟩)); refine hK2 _ ?_; clear hK2 K2)
            refine sxd_nil (hK' _ ?_)
            refine AW.st (by simp [dNum, dS, wRow, wFn, hkl]; rfl) ?_
            clear hK' K'
            refine AW_cond true rfl (fun _ => ?_) (fun h => by cases h)
            refine AW_rg (tyOf_good _) [0, 2, 3, 5] [501, 502, 503, 504] (notIn_ok rfl) fun K' hK' => ?_
            repeat (refine sxf_next fun K2 hK2 => ?_; simp [dNum, dS, wRow, wFn, List.take_of_length_le]; (repeat (refine ⟨by omega, ?_⟩)); refine hK2 _ ?_; clear hK2 K2)
            refine sxf_nil (hK' _ ?_)
            refine AW.st (by simp [dNum, dS, wRow, wFn, List.take_of_length_le]; rfl) ?_
            clear hK' K'
            have hi2 : ¬ (l0.length : Int) = (l0.length : Int) + 1 := by omega
            have hi3 : ¬ (l0.length : Int) + 1 = 0 := by omega
            have q8 : (l0.map fun s => [dS s]) ++ [[dS nm]] = out1.map fun s => [dS s] := by rw [ho2]; simp
            have q9 : out1.length = l0.length + 1 := by rw [ho2]; simp
            simp only [dS] at q8
            refine AW_rd (tyOf_good _) (by kernel_rfl) [0, 2, 3, 5] [501, 502, 503, 504] (notIn_ok rfl) (by kernel_rfl) fun K' hK' => ?_
            repeat (refine sxd_next fun K2 hK2 => ?_; simp [dNum, dS, wRow, wFn, hi2, hi3, D.one]; (repeat (refine ⟨by omega, ?_⟩)); refine hK2 _ ?_; clear hK2 K2)
            refine sxd_nil (hK' _ ?_)
            refine AW.st (by simp [dNum, dS, wRow, wFn, hi2, hi3, D.one]; rfl) ?_
            clear hK' K'
            refine AW_rde (tyOf_good _) (by kernel_rfl) (by kernel_rfl) fun K' hK' => ?_
            repeat (refine sxd_next fun K2 hK2 => ?_; simp [dNum, dS, wRow, wFn]; (repeat (refine ⟨by omega, ?_⟩)); refine hK2 _ ?_; clear hK2 K2)
            refine sxd_nil (hK' _ ?_)
            clear hK' K'
            try simp only [thn, inb]
            refine hgo _ ?_
            refine Imp.to' (notIn_ok rfl) (by simp [dNum, dS, wRow, wFn, q9, q8]) (by simp [dNum, dS, wRow, wFn, q9, q8])
    · simp only [List.singleton_append] at hch
      refine AW_rg (tyOf_good _) [3, 74, 75, 76] [501, 502, 503, 504] (notIn_ok rfl) fun K' hK' => ?_
      repeat (refine sxf_next fun K2 hK2 => ?_; simp [dNum, dS, wRow, wFn]; (repeat (refine ⟨by omega, ?_⟩)); refine hK2 _ ?_; clear hK2 K2)
      refine sxf_nil (hK' _ ?_)
      refine AW.st (by simp [dNum, dS, wRow, wFn]; rfl) ?_
      clear hK' K'
      refine AW_for (S := Nat) (fun i => i ≤ l.length) (fun i => ⟨lst [(3, .ref 504 0 0), (74, .d (.sl kk (l.map fun x => [dR x]))), (75, int l.length), (76, int i)], hlst (wRow all (insL out1 (nmsL all (l.take i))))⟩) (fun i => l.length - i) 0 ?_ (by omega) ?_
      · refine Imp.to' (notIn_ok rfl) (by simp [dNum, dS, wRow, wFn, nmsL, insL_nil]) (by simp [dNum, dS, wRow, wFn, nmsL, insL_nil])
      · intro i hi
        refine AW_rg (tyOf_good _) [3, 74, 75, 76, 77] [501, 502, 503, 504] (notIn_ok rfl) fun K' hK' => ?_
        repeat (refine sxf_next fun K2 hK2 => ?_; simp [dNum, dS, wRow, wFn]; (repeat (refine ⟨by omega, ?_⟩)); refine hK2 _ ?_; clear hK2 K2)
        refine sxf_nil (hK' _ ?_)
        refine AW.st (by simp [dNum, dS, wRow, wFn]; rfl) ?_
        clear hK' K'
        refine AW_then fun K4 hK4 => ?_
        refine AW_cond' (b := i < l.length) (by simp [D.le, D.le.go, takeMap, dNum, dS, wRow, wFn]) (fun hc => ?_) (fun hc => ?_)
        · have hil : i < l.length := hc
          have h1 := nmsL_take all hil
          have h2 := nmsL_len all (l.take i)
          have h3 := bEs_take hil
          have h4 := insL_len (nmsL all (l.take i)) out1
          have hcc := hch _ (List.getElem_mem hil) (insL out1 (nmsL all (l.take i))) (by omega)
          rw [← insL_app, ← h1] at hcc
          have hf := dR_form l[i]
          rw [hf] at hcc
          refine AW_skip (hK4 _ ?_)
          refine AW_then fun K5 hK5 => ?_
          refine AW_block ?_
          refine AW_rg (tyOf_good _) [3, 7, 74, 75, 76] [501, 502, 503, 504] (notIn_ok rfl) fun K' hK' => ?_
          repeat (refine sxf_next fun K2 hK2 => ?_; simp [dNum, dS, wRow, wFn, hil, hf]; (repeat (refine ⟨by omega, ?_⟩)); refine hK2 _ ?_; clear hK2 K2)
          refine sxf_nil (hK' _ ?_)
          refine AW.st (by simp [dNum, dS, wRow, wFn, hil, hf]; rfl) ?_
          clear hK' K'
          refine AW_re (tyOf_good _) fun K' hK' => ?_
          repeat (refine sxf_next fun K2 hK2 => ?_; simp [dNum, dS, wRow, wFn]; (repeat (refine ⟨by omega, ?_⟩)); refine hK2 _ ?_; clear hK2 K2)
          refine sxf_next fun K2 hK2 => ?_
          simp [dNum, dS, wRow, wFn]
          refine callK.mc (hcc) (by simp [dNum, dS, wRow, wFn]) (by simp [dNum, dS, wRow, wFn]) (by simp [dNum, dS, wRow, wFn]) (by simp [dNum, dS, wRow, wFn]) ?_
          simp [dNum, dS, wRow, wFn]
          refine hK2 _ ?_
          clear hK2 K2
          repeat (refine sxf_next fun K2 hK2 => ?_; simp [dNum, dS, wRow, wFn]; (repeat (refine ⟨by omega, ?_⟩)); refine hK2 _ ?_; clear hK2 K2)
          refine sxf_nil (hK' _ ?_)
          clear hK' K'
          refine hK5 _ (AW.norm [3, 74, 75, 76] [501, 502, 503, 504] (notIn_ok rfl) (AW.st (by simp [dNum, dS, wRow, wFn]; rfl) ?_))
          refine AW_re (tyOf_good _) fun K' hK' => ?_
          repeat (refine sxf_next fun K2 hK2 => ?_; simp [dNum, dS, wRow, wFn]; (repeat (refine ⟨by omega, ?_⟩)); refine hK2 _ ?_; clear hK2 K2)
          refine sxf_nil (hK' _ ?_)
          clear hK' K'
          try simp only [thn, inb]
          refine Again.mk (i + 1) (by omega) (by omega) ?_
          refine Imp.to' (notIn_ok rfl) (by simp [dNum, dS, wRow, wFn]) (by simp [dNum, dS, wRow, wFn])
        · obtain rfl : i = l.length := by omega
          refine AW_exit ?_
          simp [D.le_refl, List.take_length, wRow, wFn, dS]
end Go.Proofs.YtagfbbnlbncjlaaGreatDoor

/-
  The document's Names and Edges.
-/
namespace Go.Proofs.YtagfbbnlbncjlaaGreatDoor
set_option linter.unusedSimpArgs false
set_option linter.unusedVariables false
open Go.Av

set_option maxHeartbeats 8000000 in
theorem named_spec (G : Glob) (hM : HasMax G) (all : Bool) (e : Ex) (hb : bE e ≤ 2^28) : PureC Tryz.prog G 36 [dR e, dS (kAll all)] (.sl none ((namesE all e).map fun s => [dS s])) := by
  have hw := rwalk_at G hM all _ e (Nat.le_refl _) [] (by simp; omega)
  have hnm := insL_names all e
  rw [hnm] at hw
  simp only [List.singleton_append] at hw
  generalize namesE all e = l at hw ⊢
  clear hnm
  rw [dR_form] at hw ⊢
  refine PureC.of_body (tyOf_good _) Tryz.func36 rfl rfl (rs := [.tmp 4]) Tryz.results36 (by simp [Tryz.ntmps36]) fun X => ?_
  simp only [Tryz.ntmps36, List.map]
  refine AW_rg (tyOf_good _) [0, 3] [3] (fun _ _ => trivial) fun K' hK' => ?_
  repeat (refine sxf_next fun K2 hK2 => ?_; simp [dNum, dS, wRow, wFn]; (repeat (refine ⟨by omega, ?_⟩)); refine hK2 _ ?_; clear hK2 K2)
  refine sxf_nil (hK' _ ?_)
  refine AW.st (by simp [dNum, dS, wRow, wFn]; rfl) ?_
  clear hK' K'
  refine AW_rg (tyOf_good _) [0, 3, 5] [3, 5] (fun _ _ => trivial) fun K' hK' => ?_
  repeat (refine sxf_next fun K2 hK2 => ?_; simp [dNum, dS, wRow, wFn]; (repeat (refine ⟨by omega, ?_⟩)); refine hK2 _ ?_; clear hK2 K2)
  refine sxf_nil (hK' _ ?_)
  refine AW.st (by simp [dNum, dS, wRow, wFn]; rfl) ?_
  clear hK' K'
  refine AW_rg (tyOf_good _) [0, 3, 5, 6] [3, 5, 6] (fun _ _ => trivial) fun K' hK' => ?_
  repeat (refine sxf_next fun K2 hK2 => ?_; simp [dNum, dS, wRow, wFn]; (repeat (refine ⟨by omega, ?_⟩)); refine hK2 _ ?_; clear hK2 K2)
  refine sxf_nil (hK' _ ?_)
  refine AW.st (by simp [dNum, dS, wRow, wFn]; rfl) ?_
  clear hK' K'
  refine AW_rg (tyOf_good _) [0, 5, 6] [3, 5, 6] (fun _ _ => trivial) fun K' hK' => ?_
  repeat (refine sxf_next fun K2 hK2 => ?_; simp [dNum, dS, wRow, wFn]; (repeat (refine ⟨by omega, ?_⟩)); refine hK2 _ ?_; clear hK2 K2)
  refine sxf_nil (hK' _ ?_)
  refine AW.st (by simp [dNum, dS, wRow, wFn]; rfl) ?_
  clear hK' K'
  refine AW.imp (Imp.ren (r := 3) (r' := 501) trivial (by simp)) ?_
  refine AW.st (by simp [renO, renF, Go.Av.ren, renH_hlst]; rfl) ?_
  refine AW.imp (Imp.ren (r := 5) (r' := 502) trivial (by simp)) ?_
  refine AW.st (by simp [renO, renF, Go.Av.ren, renH_hlst]; rfl) ?_
  refine AW.imp (Imp.ren (r := 6) (r' := 504) trivial (by simp)) ?_
  refine AW.st (by simp [renO, renF, Go.Av.ren, renH_hlst]; rfl) ?_
  refine AW.imp (Imp.adoptCell 502 0 503 9 1 rfl rfl rfl) ?_
  refine AW.imp (τ := ⟨lst [(0, .d (.ip [dS (kdR e), dS (nmR e), ofR e])), (5, .ref 502 0 0), (6, .ref 504 0 0)], hlst (wRow all [])⟩) ?_ ?_
  · refine Imp.to' (fun _ _ => trivial) (by simp [dNum, dS, wRow, wFn, wRow, wFn]) (by simp [dNum, dS, wRow, wFn, wRow, wFn])
  refine AW_rg (tyOf_good _) [5] [502, 503] (fun _ _ => trivial) fun K' hK' => ?_
  repeat (refine sxf_next fun K2 hK2 => ?_; simp [dNum, dS, wRow, wFn]; (repeat (refine ⟨by omega, ?_⟩)); refine hK2 _ ?_; clear hK2 K2)
  refine sxf_next fun K2 hK2 => ?_
  simp [dNum, dS, wRow, wFn]
  refine callK.mc (hw) (by simp [dNum, dS, wRow, wFn]) (by simp [dNum, dS, wRow, wFn]) (by simp [dNum, dS, wRow, wFn]) (by simp [dNum, dS, wRow, wFn]) ?_
  simp [dNum, dS, wRow, wFn]
  refine hK2 _ ?_
  clear hK2 K2
  repeat (refine sxf_next fun K2 hK2 => ?_; simp [dNum, dS, wRow, wFn]; (repeat (refine ⟨by omega, ?_⟩)); refine hK2 _ ?_; clear hK2 K2)
  refine sxf_nil (hK' _ ?_)
  refine AW.st (by simp [dNum, dS, wRow, wFn]; rfl) ?_
  clear hK' K'
  refine AW_rg (tyOf_good _) [4] [502, 503] (fun _ _ => trivial) fun K' hK' => ?_
  repeat (refine sxf_next fun K2 hK2 => ?_; simp [dNum, dS, wRow, wFn, wRow, wFn]; (repeat (refine ⟨by omega, ?_⟩)); refine hK2 _ ?_; clear hK2 K2)
  refine sxf_nil (hK' _ ?_)
  refine AW.st (by simp [dNum, dS, wRow, wFn, wRow, wFn]; rfl) ?_
  clear hK' K'
  have htk : List.take l.length (l.map fun s => [dS s]) = l.map fun s => [dS s] := List.take_of_length_le (by simp)
  simp only [dS] at htk
  refine AW.imp (Imp.freeze 503 trivial) ?_
  refine AW.st (by simp [dNum, dS, wRow, wFn, htk]; rfl) ?_
  refine AW_ret ?_
  simp [D.le, D.le.go, takeMap, dNum, dS, wRow, wFn, D.le_refl, D.leGo_refl, htk]
theorem rnames_spec (G : Glob) (hM : HasMax G) (e : Ex) (hb : bE e ≤ 2^28) : PureC Tryz.prog G 12 [dR e] (.sl none ((namesE true e).map fun s => [dS s])) := by
  have hs := named_spec G hM true e hb
  rw [dR_form] at hs ⊢
  generalize namesE true e = l at hs ⊢
  have hk : dS (kAll true) = .v (.string ⟨#[98, 105, 116, 94, 126]⟩) := rfl
  rw [hk] at hs
  refine PureC.of_body (tyOf_good _) Tryz.func12 rfl rfl (rs := [.tmp 2]) Tryz.results12 (by simp [Tryz.ntmps12]) fun X => ?_
  simp only [Tryz.ntmps12, List.map]
  refine AW_rg (tyOf_good _) [0] [] (fun _ _ => trivial) fun K' hK' => ?_
  repeat (refine sxf_next fun K2 hK2 => ?_; simp [dNum, dS, wRow, wFn]; (repeat (refine ⟨by omega, ?_⟩)); refine hK2 _ ?_; clear hK2 K2)
  refine sxf_nil (hK' _ ?_)
  refine AW.st (by simp [dNum, dS, wRow, wFn]; rfl) ?_
  clear hK' K'
  refine AW_rg (tyOf_good _) [2] [] (fun _ _ => trivial) fun K' hK' => ?_
  repeat (refine sxf_next fun K2 hK2 => ?_; simp [dNum, dS, wRow, wFn]; (repeat (refine ⟨by omega, ?_⟩)); refine hK2 _ ?_; clear hK2 K2)
  refine sxf_next fun K2 hK2 => ?_
  simp [dNum, dS, wRow, wFn]
  refine callK.data (hs) (by simp; rfl) (by first | exact D.leGo_refl _ | simp [takeMap, List.map_map, Function.comp_def, D.le, D.le.go, D.le_refl, D.leGo_refl, dNum, dS, wRow, wFn]) ?_
  refine hK2 _ ?_
  clear hK2 K2
  simp only [putd, upd_lst]
  repeat (refine sxf_next fun K2 hK2 => ?_; simp [dNum, dS, wRow, wFn]; (repeat (refine ⟨by omega, ?_⟩)); refine hK2 _ ?_; clear hK2 K2)
  refine sxf_nil (hK' _ ?_)
  refine AW.st (by simp [dNum, dS, wRow, wFn]; rfl) ?_
  clear hK' K'
  refine AW_ret ?_
  simp [D.le, D.le.go, takeMap, dNum, dS, wRow, wFn, D.le_refl, D.leGo_refl]
theorem redges_spec (G : Glob) (hM : HasMax G) (e : Ex) (hb : bE e ≤ 2^28) : PureC Tryz.prog G 11 [dR e] (.sl none ((namesE false e).map fun s => [dS s])) := by
  have hs := named_spec G hM false e hb
  rw [dR_form] at hs ⊢
  generalize namesE false e = l at hs ⊢
  have hk : dS (kAll false) = .v (.string ⟨#[94, 126]⟩) := rfl
  rw [hk] at hs
  refine PureC.of_body (tyOf_good _) Tryz.func11 rfl rfl (rs := [.tmp 2]) Tryz.results11 (by simp [Tryz.ntmps11]) fun X => ?_
  simp only [Tryz.ntmps11, List.map]
  refine AW_rg (tyOf_good _) [0] [] (fun _ _ => trivial) fun K' hK' => ?_
  repeat (refine sxf_next fun K2 hK2 => ?_; simp [dNum, dS, wRow, wFn]; (repeat (refine ⟨by omega, ?_⟩)); refine hK2 _ ?_; clear hK2 K2)
  refine sxf_nil (hK' _ ?_)
  refine AW.st (by simp [dNum, dS, wRow, wFn]; rfl) ?_
  clear hK' K'
  refine AW_rg (tyOf_good _) [2] [] (fun _ _ => trivial) fun K' hK' => ?_
  repeat (refine sxf_next fun K2 hK2 => ?_; simp [dNum, dS, wRow, wFn]; (repeat (refine ⟨by omega, ?_⟩)); refine hK2 _ ?_; clear hK2 K2)
  refine sxf_next fun K2 hK2 => ?_
  simp [dNum, dS, wRow, wFn]
  refine callK.data (hs) (by simp; rfl) (by first | exact D.leGo_refl _ | simp [takeMap, List.map_map, Function.comp_def, D.le, D.le.go, D.le_refl, D.leGo_refl, dNum, dS, wRow, wFn]) ?_
  refine hK2 _ ?_
  clear hK2 K2
  simp only [putd, upd_lst]
  repeat (refine sxf_next fun K2 hK2 => ?_; simp [dNum, dS, wRow, wFn]; (repeat (refine ⟨by omega, ?_⟩)); refine hK2 _ ?_; clear hK2 K2)
  refine sxf_nil (hK' _ ?_)
  refine AW.st (by simp [dNum, dS, wRow, wFn]; rfl) ?_
  clear hK' K'
  refine AW_ret ?_
  simp [D.le, D.le.go, takeMap, dNum, dS, wRow, wFn, D.le_refl, D.leGo_refl]
end Go.Proofs.YtagfbbnlbncjlaaGreatDoor

/-
  The document's Pairs.
-/
namespace Go.Proofs.YtagfbbnlbncjlaaGreatDoor
set_option linter.unusedSimpArgs false
set_option linter.unusedVariables false
open Go.Av

theorem idx_ixT2 {l : List Tx} {s : Tx} (h : s ∈ l) : idx (fun x => x == s) l = (ixT l s : Int) := by
  refine idx_hit (ixT_lt h) (by simp [ixT_get h]) fun i hi => ?_
  have := List.not_of_lt_findIdx (p := (· == s)) hi
  simpa using this
set_option maxHeartbeats 1000000 in
theorem rix_spec (G : Glob) (k0 : Option Bool) (t : List (List UInt8)) (s : List UInt8) (hs : s ≠ []) (ht : t.length < 2^60) : PureC Tryz.prog G 39 [.sl k0 (t.map fun x => [dS x]), dS s] (dNum (idx (fun x => x == s) t)) := by
  have hs0 : s.isEmpty = false := by rw [List.isEmpty_eq_false_iff]; exact hs
  refine PureC.of_body (tyOf_good _) Tryz.func39 rfl rfl (rs := [.tmp 4]) Tryz.results39 (by simp [Tryz.ntmps39]) fun X => ?_
  simp only [Tryz.ntmps39, List.map]
  refine AW_rg (tyOf_good _) [0, 1] [] (fun _ _ => trivial) fun K' hK' => ?_
  repeat (refine sxf_next fun K2 hK2 => ?_; simp [dNum]; (repeat (refine ⟨by omega, ?_⟩)); refine hK2 _ ?_; clear hK2 K2)
  refine sxf_nil (hK' _ ?_)
  refine AW.st (by simp [dNum]; rfl) ?_
  clear hK' K'
  refine AW_then fun K1 hK1 => ?_
  refine AW_rg (tyOf_good _) [1, 7, 8, 9] [] (fun _ _ => trivial) fun K' hK' => ?_
  repeat (refine sxf_next fun K2 hK2 => ?_; simp [dNum]; (repeat (refine ⟨by omega, ?_⟩)); refine hK2 _ ?_; clear hK2 K2)
  refine sxf_nil (hK' _ ?_)
  refine AW.st (by simp [dNum]; rfl) ?_
  clear hK' K'
  refine AW_for (S := Nat) (fun n => n ≤ t.length ∧ ∀ i (hi : i < t.length), i < n → (t[i] == s) = false) (fun n => ⟨lst [(1, .d (dS s)), (7, .d (.sl k0 (t.map fun x => [dS x]))), (8, int t.length), (9, int n)], hlst []⟩) (fun n => t.length - n) 0 ?_ (by simp) ?_
  · refine Imp.to' (fun _ _ => trivial) (by simp [dNum]) (by simp [dNum])
  · rintro n ⟨hn, hp⟩
    refine AW_rg (tyOf_good _) [1, 7, 8, 9, 10] [] (fun _ _ => trivial) fun K' hK' => ?_
    repeat (refine sxf_next fun K2 hK2 => ?_; simp [dNum]; (repeat (refine ⟨by omega, ?_⟩)); refine hK2 _ ?_; clear hK2 K2)
    refine sxf_nil (hK' _ ?_)
    refine AW.st (by simp [dNum]; rfl) ?_
    clear hK' K'
    refine AW_then fun K2 hK2 => ?_
    refine AW_cond' (b := n < t.length) (by simp [D.le, D.le.go, takeMap, dNum]) (fun hc => ?_) (fun hc => ?_)
    · have hnt : n < t.length := hc
      refine AW_skip (hK2 _ ?_)
      refine AW_then fun K3 hK3 => ?_
      refine AW_block ?_
      refine AW_rg (tyOf_good _) [1, 5, 6, 7, 8, 9] [] (fun _ _ => trivial) fun K' hK' => ?_
      repeat (refine sxf_next fun K2 hK2 => ?_; simp [dNum, hnt]; (repeat (refine ⟨by omega, ?_⟩)); refine hK2 _ ?_; clear hK2 K2)
      refine sxf_nil (hK' _ ?_)
      refine AW.st (by simp [dNum, hnt]; rfl) ?_
      clear hK' K'
      cases he : (t[n] == s) with
      | true =>
        have he2 : t[n] = s := by simpa using he
        refine AW_rg (tyOf_good _) [1, 5, 7, 8, 9, 20] [] (fun _ _ => trivial) fun K' hK' => ?_
        repeat (refine sxf_next fun K2 hK2 => ?_; simp [dNum, dS, he2, binS, bs_nil, bs_list, hs, hs0]; (repeat (refine ⟨by omega, ?_⟩)); refine hK2 _ ?_; clear hK2 K2)
        refine sxf_nil (hK' _ ?_)
        refine AW.st (by simp [dNum, dS, he2, binS, bs_nil, bs_list, hs, hs0]; rfl) ?_
        clear hK' K'
        refine AW_cond true rfl (fun _ => ?_) (fun h => by cases h)
        refine AW_rg (tyOf_good _) [4] [] (fun _ _ => trivial) fun K' hK' => ?_
        repeat (refine sxf_next fun K2 hK2 => ?_; simp [dNum]; (repeat (refine ⟨by omega, ?_⟩)); refine hK2 _ ?_; clear hK2 K2)
        refine sxf_nil (hK' _ ?_)
        refine AW.st (by simp [dNum]; rfl) ?_
        clear hK' K'
        refine AW_ret ?_
        simp [D.le, D.le.go, takeMap, dNum]
        exact (idx_hit hnt he fun i hi => hp i (by omega) hi).symm
      | false =>
        have he2 : ¬ t[n] = s := by simpa using he
        refine AW_rg (tyOf_good _) [1, 5, 7, 8, 9, 20] [] (fun _ _ => trivial) fun K' hK' => ?_
        repeat (refine sxf_next fun K2 hK2 => ?_; simp [dNum, dS, he, he2, binS, bs_nil, bs_list]; (repeat (refine ⟨by omega, ?_⟩)); refine hK2 _ ?_; clear hK2 K2)
        refine sxf_nil (hK' _ ?_)
        refine AW.st (by simp [dNum, dS, he, he2, binS, bs_nil, bs_list]; rfl) ?_
        clear hK' K'
        refine AW_cond false rfl (fun h => by cases h) (fun _ => ?_)
        refine AW_skip ?_
        refine hK3 _ (AW.norm [1, 7, 8, 9] [] (fun _ _ => trivial) (AW.st (by simp [dNum]; rfl) ?_))
        refine AW_re (tyOf_good _) fun K' hK' => ?_
        repeat (refine sxf_next fun K2 hK2 => ?_; simp [dNum]; (repeat (refine ⟨by omega, ?_⟩)); refine hK2 _ ?_; clear hK2 K2)
        refine sxf_nil (hK' _ ?_)
        clear hK' K'
        try simp only [thn, inb]
        refine Again.mk (n + 1) ⟨by omega, fun i hi hin => ?_⟩ (by omega) ?_
        · by_cases h : i = n
          · subst h; exact he
          · exact hp i hi (by omega)
        refine Imp.to' (fun _ _ => trivial) (by simp [dNum, dS]) (by simp [dNum, dS])
    · refine AW_exit (hK1 _ ?_)
      refine AW_rg (tyOf_good _) [4] [] (fun _ _ => trivial) fun K' hK' => ?_
      repeat (refine sxf_next fun K2 hK2 => ?_; simp [dNum]; (repeat (refine ⟨by omega, ?_⟩)); refine hK2 _ ?_; clear hK2 K2)
      refine sxf_nil (hK' _ ?_)
      refine AW.st (by simp [dNum]; rfl) ?_
      clear hK' K'
      refine AW_ret ?_
      simp [D.le, D.le.go, takeMap, dNum]
      exact (idx_miss fun i hi => hp i hi (by omega)).symm
end Go.Proofs.YtagfbbnlbncjlaaGreatDoor

/-
  The document's GateOf.
-/
namespace Go.Proofs.YtagfbbnlbncjlaaGreatDoor
set_option linter.unusedSimpArgs false
set_option linter.unusedVariables false
open Go.Av

def rixI (l : List Tx) (s : Tx) : Int := if s = [] then -1 else idx (fun x => x == s) l
theorem rixI_in {l : List Tx} {s : Tx} (h : s ∈ l) (h0 : s ≠ []) : rixI l s = (ixT l s : Int) := by unfold rixI; rw [if_neg h0, idx_ixT2 h]
theorem rixI_bd (l : List Tx) (s : Tx) : -1 ≤ rixI l s ∧ rixI l s < (l.length : Int) + 1 := by
  unfold rixI
  split
  · omega
  · unfold idx
    split
    · rename_i i h
      have := (List.findIdx?_eq_some_iff_getElem.1 h).1
      omega
    · omega
set_option maxHeartbeats 1000000 in
theorem rix_nil (G : Glob) (k0 : Option Bool) (t : List Tx) (ht : t.length < 2^60) : PureC Tryz.prog G 39 [.sl k0 (t.map fun x => [dS x]), dS []] (dNum (-1)) := by
  refine PureC.of_body (tyOf_good _) Tryz.func39 rfl rfl (rs := [.tmp 4]) Tryz.results39 (by simp [Tryz.ntmps39]) fun X => ?_
  simp only [Tryz.ntmps39, List.map]
  refine AW_rg (tyOf_good _) [0, 1] [] (fun _ _ => trivial) fun K' hK' => ?_
  repeat (refine sxf_next fun K2 hK2 => ?_; simp [dNum]; (repeat (refine ⟨by omega, ?_⟩)); refine hK2 _ ?_; clear hK2 K2)
  refine sxf_nil (hK' _ ?_)
  refine AW.st (by simp [dNum]; rfl) ?_
  clear hK' K'
  refine AW_then fun K1 hK1 => ?_
  refine AW_rg (tyOf_good _) [1, 7, 8, 9] [] (fun _ _ => trivial) fun K' hK' => ?_
  repeat (refine sxf_next fun K2 hK2 => ?_; simp [dNum]; (repeat (refine ⟨by omega, ?_⟩)); refine hK2 _ ?_; clear hK2 K2)
  refine sxf_nil (hK' _ ?_)
  refine AW.st (by simp [dNum]; rfl) ?_
  clear hK' K'
  refine AW_for (S := Nat) (fun n => n ≤ t.length) (fun n => ⟨lst [(1, .d (dS [])), (7, .d (.sl k0 (t.map fun x => [dS x]))), (8, int t.length), (9, int n)], hlst []⟩) (fun n => t.length - n) 0 ?_ (by simp) ?_
  · refine Imp.to' (fun _ _ => trivial) (by simp [dNum]) (by simp [dNum])
  · intro n hn
    refine AW_rg (tyOf_good _) [1, 7, 8, 9, 10] [] (fun _ _ => trivial) fun K' hK' => ?_
    repeat (refine sxf_next fun K2 hK2 => ?_; simp [dNum]; (repeat (refine ⟨by omega, ?_⟩)); refine hK2 _ ?_; clear hK2 K2)
    refine sxf_nil (hK' _ ?_)
    refine AW.st (by simp [dNum]; rfl) ?_
    clear hK' K'
    refine AW_then fun K2 hK2 => ?_
    refine AW_cond' (b := n < t.length) (by simp [D.le, D.le.go, takeMap, dNum]) (fun hc => ?_) (fun hc => ?_)
    · have hnt : n < t.length := hc
      refine AW_skip (hK2 _ ?_)
      refine AW_then fun K3 hK3 => ?_
      refine AW_block ?_
      refine AW_rg (tyOf_good _) [1, 5, 6, 7, 8, 9] [] (fun _ _ => trivial) fun K' hK' => ?_
      repeat (refine sxf_next fun K2 hK2 => ?_; simp [dNum, hnt]; (repeat (refine ⟨by omega, ?_⟩)); refine hK2 _ ?_; clear hK2 K2)
      refine sxf_nil (hK' _ ?_)
      refine AW.st (by simp [dNum, hnt]; rfl) ?_
      clear hK' K'
      by_cases he : t[n] = []
      · refine AW_rg (tyOf_good _) [1, 5, 7, 8, 9, 20] [] (fun _ _ => trivial) fun K' hK' => ?_
        repeat (refine sxf_next fun K2 hK2 => ?_; simp [dNum, dS, he, binS, bs_nil, bs_list]; (repeat (refine ⟨by omega, ?_⟩)); refine hK2 _ ?_; clear hK2 K2)
        refine sxf_nil (hK' _ ?_)
        refine AW.st (by simp [dNum, dS, he, binS, bs_nil, bs_list]; rfl) ?_
        clear hK' K'
        refine AW_cond false rfl (fun h => by cases h) (fun _ => ?_)
        refine AW_skip ?_
        refine hK3 _ (AW.norm [1, 7, 8, 9] [] (fun _ _ => trivial) (AW.st (by simp [dNum]; rfl) ?_))
        refine AW_re (tyOf_good _) fun K' hK' => ?_
        repeat (refine sxf_next fun K2 hK2 => ?_; simp [dNum]; (repeat (refine ⟨by omega, ?_⟩)); refine hK2 _ ?_; clear hK2 K2)
        refine sxf_nil (hK' _ ?_)
        clear hK' K'
        try simp only [thn, inb]
        refine Again.mk (n + 1) (by omega) (by omega) ?_
        refine Imp.to' (fun _ _ => trivial) (by simp [dNum, dS]) (by simp [dNum, dS])
      · refine AW_rg (tyOf_good _) [1, 5, 7, 8, 9, 20] [] (fun _ _ => trivial) fun K' hK' => ?_
        repeat (refine sxf_next fun K2 hK2 => ?_; simp [dNum, dS, he, binS, bs_nil, bs_list]; (repeat (refine ⟨by omega, ?_⟩)); refine hK2 _ ?_; clear hK2 K2)
        refine sxf_nil (hK' _ ?_)
        refine AW.st (by simp [dNum, dS, he, binS, bs_nil, bs_list]; rfl) ?_
        clear hK' K'
        refine AW_cond false rfl (fun h => by cases h) (fun _ => ?_)
        refine AW_skip ?_
        refine hK3 _ (AW.norm [1, 7, 8, 9] [] (fun _ _ => trivial) (AW.st (by simp [dNum]; rfl) ?_))
        refine AW_re (tyOf_good _) fun K' hK' => ?_
        repeat (refine sxf_next fun K2 hK2 => ?_; simp [dNum]; (repeat (refine ⟨by omega, ?_⟩)); refine hK2 _ ?_; clear hK2 K2)
        refine sxf_nil (hK' _ ?_)
        clear hK' K'
        try simp only [thn, inb]
        refine Again.mk (n + 1) (by omega) (by omega) ?_
        refine Imp.to' (fun _ _ => trivial) (by simp [dNum, dS]) (by simp [dNum, dS])
    · refine AW_exit (hK1 _ ?_)
      refine AW_rg (tyOf_good _) [4] [] (fun _ _ => trivial) fun K' hK' => ?_
      repeat (refine sxf_next fun K2 hK2 => ?_; simp [dNum]; (repeat (refine ⟨by omega, ?_⟩)); refine hK2 _ ?_; clear hK2 K2)
      refine sxf_nil (hK' _ ?_)
      refine AW.st (by simp [dNum]; rfl) ?_
      clear hK' K'
      refine AW_ret ?_
      simp [D.le, D.le.go, takeMap, dNum]
theorem rix_any (G : Glob) (k0 : Option Bool) (t : List Tx) (s : Tx) (ht : t.length < 2^60) : PureC Tryz.prog G 39 [.sl k0 (t.map fun x => [dS x]), dS s] (dNum (rixI t s)) := by
  unfold rixI
  split
  · rename_i h; subst h; exact rix_nil G k0 t ht
  · rename_i h; exact rix_spec G k0 t s h ht

/-! ### and -/
def cRow (V : Nat) (cs : Cl) : List (Nat × Row) := [(501, .box 49 [.d (dNum V), .own 502 0 cs.length]), (502, .sl 58 1 (cs.map fun l => [dRow l]))]
theorem andC_len (v : Int) (l : List Int) (cs : Cl) : (andC v l cs).length = cs.length + l.length := by simp [andC]
set_option maxHeartbeats 8000000 in
theorem rand_spec (G : Glob) (V : Nat) (hV : V < 2^39) (cs : Cl) (hcs : cs.length < 2^38) (l : List Int) (hl : l.length < 2^38) (hx : ∀ x ∈ l, inW x) : MC Tryz.prog G [501] 43 [.d (dRow l), .ref 501 0 0] (hlst (cRow V cs)) (.d (dNum (mkAnd l (V, cs)).1)) (hlst (cRow (mkAnd l (V, cs)).2.1 (mkAnd l (V, cs)).2.2)) := by
  refine MC.of_body (tyOf_good _) Tryz.func43 rfl rfl (rs := [.tmp 3]) Tryz.results43 (by simp [Tryz.ntmps43]) rfl fun X => ?_
  simp only [Tryz.ntmps43]
  refine AW_rg (tyOf_good _) [0, 1] [501, 502] (notIn_ok rfl) fun K' hK' => ?_
  repeat (refine sxf_next fun K2 hK2 => ?_; simp [dNum, cRow, takeMap, Function.comp_def, dRow, dInts]; (repeat (refine ⟨by omega, ?_⟩)); refine hK2 _ ?_; clear hK2 K2)
  refine sxf_nil (hK' _ ?_)
  refine AW.st (by simp [dNum, cRow, takeMap, Function.comp_def, dRow, dInts]; rfl) ?_
  clear hK' K'
  refine AW_rg (tyOf_good _) [0, 1] [501, 502] (notIn_ok rfl) fun K' hK' => ?_
  repeat (refine sxf_next fun K2 hK2 => ?_; simp [dNum, cRow, takeMap, Function.comp_def, dRow, dInts]; (repeat (refine ⟨by omega, ?_⟩)); refine hK2 _ ?_; clear hK2 K2)
  refine sxf_nil (hK' _ ?_)
  refine AW.st (by simp [dNum, cRow, takeMap, Function.comp_def, dRow, dInts]; rfl) ?_
  clear hK' K'
  refine AW_rg (tyOf_good _) [0, 1, 4] [501, 502] (notIn_ok rfl) fun K' hK' => ?_
  repeat (refine sxf_next fun K2 hK2 => ?_; simp [dNum, cRow, takeMap, Function.comp_def, dRow, dInts]; (repeat (refine ⟨by omega, ?_⟩)); refine hK2 _ ?_; clear hK2 K2)
  refine sxf_nil (hK' _ ?_)
  refine AW.st (by simp [dNum, cRow, takeMap, Function.comp_def, dRow, dInts]; rfl) ?_
  clear hK' K'
  refine AW_rg (tyOf_good _) [0, 1, 4, 5] [501, 502, 15] (notIn_ok rfl) fun K' hK' => ?_
  repeat (refine sxf_next fun K2 hK2 => ?_; simp [dNum, cRow, takeMap, Function.comp_def, dRow, dInts]; (repeat (refine ⟨by omega, ?_⟩)); refine hK2 _ ?_; clear hK2 K2)
  refine sxf_nil (hK' _ ?_)
  refine AW.st (by simp [dNum, cRow, takeMap, Function.comp_def, dRow, dInts]; rfl) ?_
  clear hK' K'
  refine AW_then fun K1 hK1 => ?_
  refine AW_rg (tyOf_good _) [1, 4, 5, 16, 17, 18] [501, 502, 15] (notIn_ok rfl) fun K' hK' => ?_
  repeat (refine sxf_next fun K2 hK2 => ?_; simp [dNum, cRow, takeMap, Function.comp_def, dRow, dInts]; (repeat (refine ⟨by omega, ?_⟩)); refine hK2 _ ?_; clear hK2 K2)
  refine sxf_nil (hK' _ ?_)
  refine AW.st (by simp [dNum, cRow, takeMap, Function.comp_def, dRow, dInts]; rfl) ?_
  clear hK' K'
  refine AW_for (S := Nat) (fun n => n ≤ l.length) (fun n => ⟨lst [(1, .ref 501 0 0), (4, int ((V : Int) + 1)), (5, .own 15 0 (n + 1)), (16, .d (dRow l)), (17, int l.length), (18, int n)], hlst (cRow (V + 1) (andC ((V : Int) + 1) (l.take n) cs) ++ [(15, .sl 3 1 ([dNum ((V : Int) + 1)] :: (l.take n).map fun x => [dNum (-x)]))])⟩) (fun n => l.length - n) 0 ?_ (by omega) ?_
  · refine Imp.to' (notIn_ok rfl) (by simp [dNum, cRow, takeMap, Function.comp_def, dRow, dInts, andC]) (by simp [dNum, cRow, takeMap, Function.comp_def, dRow, dInts, andC])
  · intro n hn
    have hmin : min n l.length = n := by omega
    have hal := andC_len ((V : Int) + 1) (l.take n) cs
    rw [List.length_take, hmin] at hal
    refine AW_rg (tyOf_good _) [1, 4, 5, 16, 17, 18, 19] [501, 502, 15] (notIn_ok rfl) fun K' hK' => ?_
    repeat (refine sxf_next fun K2 hK2 => ?_; simp [dNum, cRow, takeMap, Function.comp_def, dRow, dInts]; (repeat (refine ⟨by omega, ?_⟩)); refine hK2 _ ?_; clear hK2 K2)
    refine sxf_nil (hK' _ ?_)
    refine AW.st (by simp [dNum, cRow, takeMap, Function.comp_def, dRow, dInts]; rfl) ?_
    clear hK' K'
    refine AW_then fun K2 hK2 => ?_
    refine AW_cond' (b := n < l.length) (by simp [D.le, D.le.go, takeMap, dNum, cRow, takeMap, Function.comp_def, dRow, dInts]) (fun hc => ?_) (fun hc => ?_)
    · have hnl : n < l.length := hc
      have hxn := hx _ (List.getElem_mem hnl)
      have hsu := andC_succ ((V : Int) + 1) cs hnl
      have hal2 := andC_len ((V : Int) + 1) (l.take (n + 1)) cs
      rw [List.length_take, show min (n + 1) l.length = n + 1 from by omega] at hal2
      have htk := take_neg hnl
      have hq2 : ∀ f : List Int → List D, List.take (andC ((V : Int) + 1) (l.take n) cs).length ((andC ((V : Int) + 1) (l.take n) cs).map f) = (andC ((V : Int) + 1) (l.take n) cs).map f := fun f => List.take_of_length_le (by simp)
      rw [hal] at hq2
      unfold inW at hxn
      refine AW_skip (hK2 _ ?_)
      refine AW_then fun K3 hK3 => ?_
      refine AW_block ?_
      refine AW_rg (tyOf_good _) [1, 4, 5, 7, 16, 17, 18] [501, 502, 15] (notIn_ok rfl) fun K' hK' => ?_
      repeat (refine sxf_next fun K2 hK2 => ?_; simp [dNum, cRow, takeMap, Function.comp_def, dRow, dInts, hnl]; (repeat (refine ⟨by omega, ?_⟩)); refine hK2 _ ?_; clear hK2 K2)
      refine sxf_nil (hK' _ ?_)
      refine AW.st (by simp [dNum, cRow, takeMap, Function.comp_def, dRow, dInts, hnl]; rfl) ?_
      clear hK' K'
      refine AW_rg (tyOf_good _) [1, 4, 5, 7, 16, 17, 18] [501, 502, 15] (notIn_ok rfl) fun K' hK' => ?_
      repeat (refine sxf_next fun K2 hK2 => ?_; simp [dNum, cRow, takeMap, Function.comp_def, dRow, dInts, hal, hq2]; (repeat (refine ⟨by omega, ?_⟩)); refine hK2 _ ?_; clear hK2 K2)
      refine sxf_nil (hK' _ ?_)
      refine AW.st (by simp [dNum, cRow, takeMap, Function.comp_def, dRow, dInts, hal, hq2]; rfl) ?_
      clear hK' K'
      refine AW_re (tyOf_good _) fun K' hK' => ?_
      repeat (refine sxf_next fun K2 hK2 => ?_; simp [dNum, cRow, takeMap, Function.comp_def, dRow, dInts, hmin]; (repeat (refine ⟨by omega, ?_⟩)); refine hK2 _ ?_; clear hK2 K2)
      refine sxf_nil (hK' _ ?_)
      clear hK' K'
      refine hK3 _ (AW.norm [1, 4, 5, 16, 17, 18] [501, 502, 15] (notIn_ok rfl) (AW.st (by simp [dNum, cRow, takeMap, Function.comp_def, dRow, dInts, hmin]; rfl) ?_))
      refine AW_re (tyOf_good _) fun K' hK' => ?_
      repeat (refine sxf_next fun K2 hK2 => ?_; simp [dNum, cRow, takeMap, Function.comp_def, dRow, dInts]; (repeat (refine ⟨by omega, ?_⟩)); refine hK2 _ ?_; clear hK2 K2)
      refine sxf_nil (hK' _ ?_)
      clear hK' K'
      try simp only [thn, inb]
      refine Again.mk (n + 1) (by omega) (by omega) ?_
      refine Imp.to' (notIn_ok rfl) (by simp [dNum, cRow, takeMap, Function.comp_def, dRow, dInts, htk, hmin, List.take_take, hsu, hal, hal2, Nat.add_assoc]) (by simp [dNum, cRow, takeMap, Function.comp_def, dRow, dInts, htk, hmin, List.take_take, hsu, hal, hal2, Nat.add_assoc])
    · obtain rfl : n = l.length := by omega
      rw [List.take_length]
      have hq2 : ∀ f : List Int → List D, List.take (andC ((V : Int) + 1) l cs).length ((andC ((V : Int) + 1) l cs).map f) = (andC ((V : Int) + 1) l cs).map f := fun f => List.take_of_length_le (by simp)
      have hal := andC_len ((V : Int) + 1) l cs
      rw [hal] at hq2
      refine AW_exit (hK1 _ ?_)
      refine AW_rg (tyOf_good _) [4] [501, 502] (notIn_ok rfl) fun K' hK' => ?_
      repeat (refine sxf_next fun K2 hK2 => ?_; simp [dNum, cRow, takeMap, Function.comp_def, dRow, dInts, hal, hq2]; (repeat (refine ⟨by omega, ?_⟩)); refine hK2 _ ?_; clear hK2 K2)
      refine sxf_nil (hK' _ ?_)
      refine AW.st (by simp [dNum, cRow, takeMap, Function.comp_def, dRow, dInts, hal, hq2]; rfl) ?_
      clear hK' K'
      refine AW_rg (tyOf_good _) [3] [501, 502] (notIn_ok rfl) fun K' hK' => ?_
      repeat (refine sxf_next fun K2 hK2 => ?_; simp [dNum, cRow, takeMap, Function.comp_def, dRow, dInts]; (repeat (refine ⟨by omega, ?_⟩)); refine hK2 _ ?_; clear hK2 K2)
      refine sxf_nil (hK' _ ?_)
      refine AW.st (by simp [dNum, cRow, takeMap, Function.comp_def, dRow, dInts]; rfl) ?_
      clear hK' K'
      refine AW_ret ?_
      simp [mkAnd, andC, cRow, dNum, D.le, dRow, dInts, Function.comp_def, Nat.add_assoc]
/-! ### lit -/
def dBox (l : List Tx) : D := .ip [.sl none (l.map fun s => [dS s])]
def gRow (ns es : List Tx) (V : Nat) (cs : Cl) : List (Nat × Row) := [(501, .box 49 [.d (dNum V), .own 502 0 cs.length]), (502, .sl 58 1 (cs.map fun l => [dRow l])), (503, .box 90 [.fn (.func 43) [.ref 501 0 0]]), (504, .box 89 [.fn (.func 44) [.d (dBox ns), .d (dBox es), .ref 503 0 0, .ref 504 0 0, .ref 501 0 0]])]
def RLitAt (G : Glob) (ns es : List Tx) (e : Ex) : Prop := ∀ (V : Nat) (cs : Cl), ns.length + es.length ≤ V → V + szN e ≤ 2^36 → cs.length + 4 * szN e ≤ 2^36 →
  MC Tryz.prog G [501, 503, 504] 44 [.d (dR e), .d (dBox ns), .d (dBox es), .ref 503 0 0, .ref 504 0 0, .ref 501 0 0] (hlst (gRow ns es V cs)) (.d (dNum (litG ns es e (V, cs)).1)) (hlst (gRow ns es (litG ns es e (V, cs)).2.1 (litG ns es e (V, cs)).2.2))

set_option maxHeartbeats 32000000 in
set_option maxRecDepth 100000 in
theorem rlit_spec (G : Glob) (ns es : List Tx) (hns : ns.length ≤ 2^20) (hes : es.length ≤ 2^20) : ∀ (n : Nat) (e : Ex), SizeOf.sizeOf e ≤ n → (∀ s ∈ nmsE true e, s ∈ ns) → (∀ s ∈ nmsE false e, s ∈ es) → WfE e → RLitAt G ns es e := by
  intro n
  induction n with
  | zero => intro e hsz; cases e <;> simp at hsz
  | succ n ih =>
    intro e hsz hN hE hw V cs hV hV2 hC
    have hi1 := rix_any G none ns (nmR e) (by omega)
    have hi2 := rix_any G none es (nmR e) (by omega)
    have hb1 := rixI_bd ns (nmR e)
    have hb2 := rixI_bd es (nmR e)
    cases e with
    | bit s =>
      rw [WfE] at hw
      have hs : s ∈ ns := hN s (by simp [nmsE, nmE, one1, nameF_nn hw])
      simp only [nmR] at hi1 hi2 hb1 hb2
      rw [rixI_in hs (nameF_nn hw)] at hi1 hb1
      rw [litG, dR]
      generalize rixI es s = j at *
      refine MC.of_body (tyOf_good _) Tryz.func44 rfl rfl (rs := [.tmp 7]) Tryz.results44 (by simp [Tryz.ntmps44]) rfl fun X => ?_
      simp only [Tryz.ntmps44]
      refine AW_rg (tyOf_good _) [0, 1, 2, 3, 4, 5] [501, 502, 503, 504] (notIn_ok rfl) fun K' hK' => ?_
      repeat (refine sxf_next fun K2 hK2 => ?_; simp [dNum, gRow, dBox, dS, binS_eq, dNil]; (repeat (refine ⟨by omega, ?_⟩)); refine hK2 _ ?_; clear hK2 K2)
      refine sxf_nil (hK' _ ?_)
      refine AW.st (by simp [dNum, gRow, dBox, dS, binS_eq, dNil]; rfl) ?_
      clear hK' K'
      refine AW_rd (tyOf_good _) (by kernel_rfl) [0, 3, 4, 5, 8, 9] [501, 502, 503, 504] (notIn_ok rfl) (by kernel_rfl) fun K' hK' => ?_
      repeat (refine sxd_next fun K2 hK2 => ?_; simp [dNum, gRow, dBox, dS, binS_eq, dNil]; (repeat (refine ⟨by omega, ?_⟩)); refine hK2 _ ?_; clear hK2 K2)
      refine sxd_next fun K2 hK2 => ?_
      simp [dNum, gRow, dBox, dS, binS_eq, dNil]
      refine callQ.data (hi1) (by simp; rfl) (by simp; rfl) (by first | exact D.leGo_refl _ | simp [takeMap, List.map_map, Function.comp_def, D.le, D.le.go, D.le_refl, D.leGo_refl, dNum, gRow, dBox, dS, binS_eq, dNil]) ?_
      refine hK2 _ ?_
      clear hK2 K2
      simp only [putd, upd_lst]
      repeat (refine sxd_next fun K2 hK2 => ?_; simp [dNum, gRow, dBox, dS, binS_eq, dNil]; (repeat (refine ⟨by omega, ?_⟩)); refine hK2 _ ?_; clear hK2 K2)
      refine sxd_next fun K2 hK2 => ?_
      simp [dNum, gRow, dBox, dS, binS_eq, dNil]
      refine callQ.data (hi2) (by simp; rfl) (by simp; rfl) (by first | exact D.leGo_refl _ | simp [takeMap, List.map_map, Function.comp_def, D.le, D.le.go, D.le_refl, D.leGo_refl, dNum, gRow, dBox, dS, binS_eq, dNil]) ?_
      refine hK2 _ ?_
      clear hK2 K2
      simp only [putd, upd_lst]
      repeat (refine sxd_next fun K2 hK2 => ?_; simp [dNum, gRow, dBox, dS, binS_eq, dNil]; (repeat (refine ⟨by omega, ?_⟩)); refine hK2 _ ?_; clear hK2 K2)
      refine sxd_nil (hK' _ ?_)
      refine AW.st (by simp [dNum, gRow, dBox, dS, binS_eq, dNil]; rfl) ?_
      clear hK' K'
      refine AW_then fun K1 hK1 => ?_
      refine AW_rg (tyOf_good _) [0, 3, 4, 5, 8, 9, 35] [501, 502, 503, 504] (notIn_ok rfl) fun K' hK' => ?_
      repeat (refine sxf_next fun K2 hK2 => ?_; simp [dNum, gRow, dBox, dS, binS_eq, dNil]; (repeat (refine ⟨by omega, ?_⟩)); refine hK2 _ ?_; clear hK2 K2)
      refine sxf_nil (hK' _ ?_)
      refine AW.st (by simp [dNum, gRow, dBox, dS, binS_eq, dNil]; rfl) ?_
      clear hK' K'
      refine AW_block ?_
      refine AW_rg (tyOf_good _) [0, 3, 4, 5, 8, 9, 35, 36] [501, 502, 503, 504] (notIn_ok rfl) fun K' hK' => ?_
      repeat (refine sxf_next fun K2 hK2 => ?_; simp [dNum, gRow, dBox, dS, binS_eq, dNil]; (repeat (refine ⟨by omega, ?_⟩)); refine hK2 _ ?_; clear hK2 K2)
      refine sxf_nil (hK' _ ?_)
      refine AW.st (by simp [dNum, gRow, dBox, dS, binS_eq, dNil]; rfl) ?_
      clear hK' K'
      refine AW_cond true rfl (fun _ => ?_) (fun h => by cases h)
      refine AW_rg (tyOf_good _) [7] [501, 502, 503, 504] (notIn_ok rfl) fun K' hK' => ?_
      repeat (refine sxf_next fun K2 hK2 => ?_; simp [dNum, gRow, dBox, dS, binS_eq, dNil]; (repeat (refine ⟨by omega, ?_⟩)); refine hK2 _ ?_; clear hK2 K2)
      refine sxf_nil (hK' _ ?_)
      refine AW.st (by simp [dNum, gRow, dBox, dS, binS_eq, dNil]; rfl) ?_
      clear hK' K'
      refine AW_ret ?_
      simp [gRow, dNum, D.le, dBox, dS]
    | rise s =>
      rw [WfE] at hw
      have hs : s ∈ ns := hN s (by simp [nmsE, nmE, one1, nameF_nn hw])
      simp only [nmR] at hi1 hi2 hb1 hb2
      rw [rixI_in hs (nameF_nn hw)] at hi1 hb1
      have hs2 : s ∈ es := hE s (by simp [nmsE, nmE, one1, nameF_nn hw])
      rw [rixI_in hs2 (nameF_nn hw)] at hi2 hb2
      simp only [szN] at hV2 hC
      have ha := rand_spec G V (by omega) cs (by omega) [(ixT ns s : Int) + 1, -((ns.length : Int) + ixT es s + 1)] (by simp) (by intro x hx; simp at hx; unfold inW; rcases hx with rfl | rfl <;> omega)
      rw [litG, dR]
      generalize mkAnd [(ixT ns s : Int) + 1, -((ns.length : Int) + ixT es s + 1)] (V, cs) = Q at ha ⊢
      refine MC.of_body (tyOf_good _) Tryz.func44 rfl rfl (rs := [.tmp 7]) Tryz.results44 (by simp [Tryz.ntmps44]) rfl fun X => ?_
      simp only [Tryz.ntmps44]
      refine AW_rg (tyOf_good _) [0, 1, 2, 3, 4, 5] [501, 502, 503, 504] (notIn_ok rfl) fun K' hK' => ?_
      repeat (refine sxf_next fun K2 hK2 => ?_; simp [dNum, gRow, dBox, dS, binS_eq, dNil]; (repeat (refine ⟨by omega, ?_⟩)); refine hK2 _ ?_; clear hK2 K2)
      refine sxf_nil (hK' _ ?_)
      refine AW.st (by simp [dNum, gRow, dBox, dS, binS_eq, dNil]; rfl) ?_
      clear hK' K'
      refine AW_rd (tyOf_good _) (by kernel_rfl) [0, 3, 4, 5, 8, 9] [501, 502, 503, 504] (notIn_ok rfl) (by kernel_rfl) fun K' hK' => ?_
      repeat (refine sxd_next fun K2 hK2 => ?_; simp [dNum, gRow, dBox, dS, binS_eq, dNil]; (repeat (refine ⟨by omega, ?_⟩)); refine hK2 _ ?_; clear hK2 K2)
      refine sxd_next fun K2 hK2 => ?_
      simp [dNum, gRow, dBox, dS, binS_eq, dNil]
      refine callQ.data (hi1) (by simp; rfl) (by simp; rfl) (by first | exact D.leGo_refl _ | simp [takeMap, List.map_map, Function.comp_def, D.le, D.le.go, D.le_refl, D.leGo_refl, dNum, gRow, dBox, dS, binS_eq, dNil]) ?_
      refine hK2 _ ?_
      clear hK2 K2
      simp only [putd, upd_lst]
      repeat (refine sxd_next fun K2 hK2 => ?_; simp [dNum, gRow, dBox, dS, binS_eq, dNil]; (repeat (refine ⟨by omega, ?_⟩)); refine hK2 _ ?_; clear hK2 K2)
      refine sxd_next fun K2 hK2 => ?_
      simp [dNum, gRow, dBox, dS, binS_eq, dNil]
      refine callQ.data (hi2) (by simp; rfl) (by simp; rfl) (by first | exact D.leGo_refl _ | simp [takeMap, List.map_map, Function.comp_def, D.le, D.le.go, D.le_refl, D.leGo_refl, dNum, gRow, dBox, dS, binS_eq, dNil]) ?_
      refine hK2 _ ?_
      clear hK2 K2
      simp only [putd, upd_lst]
      repeat (refine sxd_next fun K2 hK2 => ?_; simp [dNum, gRow, dBox, dS, binS_eq, dNil]; (repeat (refine ⟨by omega, ?_⟩)); refine hK2 _ ?_; clear hK2 K2)
      refine sxd_nil (hK' _ ?_)
      refine AW.st (by simp [dNum, gRow, dBox, dS, binS_eq, dNil]; rfl) ?_
      clear hK' K'
      refine AW_then fun K1 hK1 => ?_
      refine AW_rg (tyOf_good _) [0, 3, 4, 5, 8, 9, 35] [501, 502, 503, 504] (notIn_ok rfl) fun K' hK' => ?_
      repeat (refine sxf_next fun K2 hK2 => ?_; simp [dNum, gRow, dBox, dS, binS_eq, dNil]; (repeat (refine ⟨by omega, ?_⟩)); refine hK2 _ ?_; clear hK2 K2)
      refine sxf_nil (hK' _ ?_)
      refine AW.st (by simp [dNum, gRow, dBox, dS, binS_eq, dNil]; rfl) ?_
      clear hK' K'
      refine AW_block ?_
      refine AW_rg (tyOf_good _) [0, 3, 4, 5, 8, 9, 35, 36] [501, 502, 503, 504] (notIn_ok rfl) fun K' hK' => ?_
      repeat (refine sxf_next fun K2 hK2 => ?_; simp [dNum, gRow, dBox, dS, binS_eq, dNil]; (repeat (refine ⟨by omega, ?_⟩)); refine hK2 _ ?_; clear hK2 K2)
      refine sxf_nil (hK' _ ?_)
      refine AW.st (by simp [dNum, gRow, dBox, dS, binS_eq, dNil]; rfl) ?_
      clear hK' K'
      refine AW_cond false rfl (fun h => by cases h) (fun _ => ?_)
      refine AW_rg (tyOf_good _) [0, 3, 4, 5, 8, 9, 35, 39] [501, 502, 503, 504] (notIn_ok rfl) fun K' hK' => ?_
      repeat (refine sxf_next fun K2 hK2 => ?_; simp [dNum, gRow, dBox, dS, binS_eq, dNil]; (repeat (refine ⟨by omega, ?_⟩)); refine hK2 _ ?_; clear hK2 K2)
      refine sxf_nil (hK' _ ?_)
      refine AW.st (by simp [dNum, gRow, dBox, dS, binS_eq, dNil]; rfl) ?_
      clear hK' K'
      refine AW_cond true rfl (fun _ => ?_) (fun h => by cases h)
      refine AW_rg (tyOf_good _) [7] [501, 502, 503, 504] (notIn_ok rfl) fun K' hK' => ?_
      repeat (refine sxf_next fun K2 hK2 => ?_; simp [dNum, gRow, dBox, dS, binS_eq, dNil, dRow, dInts, cRow]; (repeat (refine ⟨by omega, ?_⟩)); refine hK2 _ ?_; clear hK2 K2)
      refine sxf_next fun K2 hK2 => ?_
      simp [dNum, gRow, dBox, dS, binS_eq, dNil, dRow, dInts, cRow]
      refine callK.frz 45 (by first | rfl | (simp [dNum, gRow, dBox, dS, binS_eq, dNil, dRow, dInts, cRow]; rfl)) (by decide) ?_
      simp [dNum, gRow, dBox, dS, binS_eq, dNil, dRow, dInts, cRow]
      refine callK.mc (ha) (by simp [dNum, gRow, dBox, dS, binS_eq, dNil, dRow, dInts, cRow]) (by simp [dNum, gRow, dBox, dS, binS_eq, dNil, dRow, dInts, cRow]) (by simp [dNum, gRow, dBox, dS, binS_eq, dNil, dRow, dInts, cRow]) (by simp [dNum, gRow, dBox, dS, binS_eq, dNil, dRow, dInts, cRow]) ?_
      simp [dNum, gRow, dBox, dS, binS_eq, dNil, dRow, dInts, cRow]
      refine hK2 _ ?_
      clear hK2 K2
      repeat (refine sxf_next fun K2 hK2 => ?_; simp [dNum, gRow, dBox, dS, binS_eq, dNil, dRow, dInts, cRow]; (repeat (refine ⟨by omega, ?_⟩)); refine hK2 _ ?_; clear hK2 K2)
      refine sxf_nil (hK' _ ?_)
      refine AW.st (by simp [dNum, gRow, dBox, dS, binS_eq, dNil, dRow, dInts, cRow]; rfl) ?_
      clear hK' K'
      refine AW_ret ?_
      simp [gRow, cRow, dNum, D.le, dRow, dInts, dBox, dS]
    | fall s =>
      rw [WfE] at hw
      have hs : s ∈ ns := hN s (by simp [nmsE, nmE, one1, nameF_nn hw])
      simp only [nmR] at hi1 hi2 hb1 hb2
      rw [rixI_in hs (nameF_nn hw)] at hi1 hb1
      have hs2 : s ∈ es := hE s (by simp [nmsE, nmE, one1, nameF_nn hw])
      rw [rixI_in hs2 (nameF_nn hw)] at hi2 hb2
      simp only [szN] at hV2 hC
      have ha := rand_spec G V (by omega) cs (by omega) [-((ixT ns s : Int) + 1), (ns.length : Int) + ixT es s + 1] (by simp) (by intro x hx; simp at hx; unfold inW; rcases hx with rfl | rfl <;> omega)
      rw [litG, dR]
      generalize mkAnd [-((ixT ns s : Int) + 1), (ns.length : Int) + ixT es s + 1] (V, cs) = Q at ha ⊢
      refine MC.of_body (tyOf_good _) Tryz.func44 rfl rfl (rs := [.tmp 7]) Tryz.results44 (by simp [Tryz.ntmps44]) rfl fun X => ?_
      simp only [Tryz.ntmps44]
      refine AW_rg (tyOf_good _) [0, 1, 2, 3, 4, 5] [501, 502, 503, 504] (notIn_ok rfl) fun K' hK' => ?_
      repeat (refine sxf_next fun K2 hK2 => ?_; simp [dNum, gRow, dBox, dS, binS_eq, dNil]; (repeat (refine ⟨by omega, ?_⟩)); refine hK2 _ ?_; clear hK2 K2)
      refine sxf_nil (hK' _ ?_)
      refine AW.st (by simp [dNum, gRow, dBox, dS, binS_eq, dNil]; rfl) ?_
      clear hK' K'
      refine AW_rd (tyOf_good _) (by kernel_rfl) [0, 3, 4, 5, 8, 9] [501, 502, 503, 504] (notIn_ok rfl) (by kernel_rfl) fun K' hK' => ?_
      repeat (refine sxd_next fun K2 hK2 => ?_; simp [dNum, gRow, dBox, dS, binS_eq, dNil]; (repeat (refine ⟨by omega, ?_⟩)); refine hK2 _ ?_; clear hK2 K2)
      refine sxd_next fun K2 hK2 => ?_
      simp [dNum, gRow, dBox, dS, binS_eq, dNil]
      refine callQ.data (hi1) (by simp; rfl) (by simp; rfl) (by first | exact D.leGo_refl _ | simp [takeMap, List.map_map, Function.comp_def, D.le, D.le.go, D.le_refl, D.leGo_refl, dNum, gRow, dBox, dS, binS_eq, dNil]) ?_
      refine hK2 _ ?_
      clear hK2 K2
      simp only [putd, upd_lst]
      repeat (refine sxd_next fun K2 hK2 => ?_; simp [dNum, gRow, dBox, dS, binS_eq, dNil]; (repeat (refine ⟨by omega, ?_⟩)); refine hK2 _ ?_; clear hK2 K2)
      refine sxd_next fun K2 hK2 => ?_
      simp [dNum, gRow, dBox, dS, binS_eq, dNil]
      refine callQ.data (hi2) (by simp; rfl) (by simp; rfl) (by first | exact D.leGo_refl _ | simp [takeMap, List.map_map, Function.comp_def, D.le, D.le.go, D.le_refl, D.leGo_refl, dNum, gRow, dBox, dS, binS_eq, dNil]) ?_
      refine hK2 _ ?_
      clear hK2 K2
      simp only [putd, upd_lst]
      repeat (refine sxd_next fun K2 hK2 => ?_; simp [dNum, gRow, dBox, dS, binS_eq, dNil]; (repeat (refine ⟨by omega, ?_⟩)); refine hK2 _ ?_; clear hK2 K2)
      refine sxd_nil (hK' _ ?_)
      refine AW.st (by simp [dNum, gRow, dBox, dS, binS_eq, dNil]; rfl) ?_
      clear hK' K'
      refine AW_then fun K1 hK1 => ?_
      refine AW_rg (tyOf_good _) [0, 3, 4, 5, 8, 9, 35] [501, 502, 503, 504] (notIn_ok rfl) fun K' hK' => ?_
      repeat (refine sxf_next fun K2 hK2 => ?_; simp [dNum, gRow, dBox, dS, binS_eq, dNil]; (repeat (refine ⟨by omega, ?_⟩)); refine hK2 _ ?_; clear hK2 K2)
      refine sxf_nil (hK' _ ?_)
      refine AW.st (by simp [dNum, gRow, dBox, dS, binS_eq, dNil]; rfl) ?_
      clear hK' K'
      refine AW_block ?_
      refine AW_rg (tyOf_good _) [0, 3, 4, 5, 8, 9, 35, 36] [501, 502, 503, 504] (notIn_ok rfl) fun K' hK' => ?_
      repeat (refine sxf_next fun K2 hK2 => ?_; simp [dNum, gRow, dBox, dS, binS_eq, dNil]; (repeat (refine ⟨by omega, ?_⟩)); refine hK2 _ ?_; clear hK2 K2)
      refine sxf_nil (hK' _ ?_)
      refine AW.st (by simp [dNum, gRow, dBox, dS, binS_eq, dNil]; rfl) ?_
      clear hK' K'
      refine AW_cond false rfl (fun h => by cases h) (fun _ => ?_)
      refine AW_rg (tyOf_good _) [0, 3, 4, 5, 8, 9, 35, 39] [501, 502, 503, 504] (notIn_ok rfl) fun K' hK' => ?_
      repeat (refine sxf_next fun K2 hK2 => ?_; simp [dNum, gRow, dBox, dS, binS_eq, dNil]; (repeat (refine ⟨by omega, ?_⟩)); refine hK2 _ ?_; clear hK2 K2)
      refine sxf_nil (hK' _ ?_)
      refine AW.st (by simp [dNum, gRow, dBox, dS, binS_eq, dNil]; rfl) ?_
      clear hK' K'
      refine AW_cond false rfl (fun h => by cases h) (fun _ => ?_)
      refine AW_rg (tyOf_good _) [0, 3, 4, 5, 8, 9, 35, 47] [501, 502, 503, 504] (notIn_ok rfl) fun K' hK' => ?_
      repeat (refine sxf_next fun K2 hK2 => ?_; simp [dNum, gRow, dBox, dS, binS_eq, dNil]; (repeat (refine ⟨by omega, ?_⟩)); refine hK2 _ ?_; clear hK2 K2)
      refine sxf_nil (hK' _ ?_)
      refine AW.st (by simp [dNum, gRow, dBox, dS, binS_eq, dNil]; rfl) ?_
      clear hK' K'
      refine AW_cond true rfl (fun _ => ?_) (fun h => by cases h)
      refine AW_rg (tyOf_good _) [7] [501, 502, 503, 504] (notIn_ok rfl) fun K' hK' => ?_
      repeat (refine sxf_next fun K2 hK2 => ?_; simp [dNum, gRow, dBox, dS, binS_eq, dNil, dRow, dInts, cRow]; (repeat (refine ⟨by omega, ?_⟩)); refine hK2 _ ?_; clear hK2 K2)
      refine sxf_next fun K2 hK2 => ?_
      simp [dNum, gRow, dBox, dS, binS_eq, dNil, dRow, dInts, cRow]
      refine callK.frz 53 (by first | rfl | (simp [dNum, gRow, dBox, dS, binS_eq, dNil, dRow, dInts, cRow]; rfl)) (by decide) ?_
      simp [dNum, gRow, dBox, dS, binS_eq, dNil, dRow, dInts, cRow]
      refine callK.mc (ha) (by simp [dNum, gRow, dBox, dS, binS_eq, dNil, dRow, dInts, cRow]) (by simp [dNum, gRow, dBox, dS, binS_eq, dNil, dRow, dInts, cRow]) (by simp [dNum, gRow, dBox, dS, binS_eq, dNil, dRow, dInts, cRow]) (by simp [dNum, gRow, dBox, dS, binS_eq, dNil, dRow, dInts, cRow]) ?_
      simp [dNum, gRow, dBox, dS, binS_eq, dNil, dRow, dInts, cRow]
      refine hK2 _ ?_
      clear hK2 K2
      repeat (refine sxf_next fun K2 hK2 => ?_; simp [dNum, gRow, dBox, dS, binS_eq, dNil, dRow, dInts, cRow]; (repeat (refine ⟨by omega, ?_⟩)); refine hK2 _ ?_; clear hK2 K2)
      refine sxf_nil (hK' _ ?_)
      refine AW.st (by simp [dNum, gRow, dBox, dS, binS_eq, dNil, dRow, dInts, cRow]; rfl) ?_
      clear hK' K'
      refine AW_ret ?_
      simp [gRow, cRow, dNum, D.le, dRow, dInts, dBox, dS]
    | not x =>
      rw [WfE] at hw
      have hN' : ∀ s ∈ nmsE true x, s ∈ ns := fun s h => hN s (by rw [nmsE]; exact h)
      have hE' : ∀ s ∈ nmsE false x, s ∈ es := fun s h => hE s (by rw [nmsE]; exact h)
      simp only [szN] at hV2 hC
      have hc := ih x (by simp at hsz; omega) hN' hE' hw V cs hV (by omega) (by omega)
      have hin := lit_inW ns es x hN' hE' hw (V, cs) hV (by dsimp only; omega)
      simp only [nmR, rixI, if_true] at hi1 hi2
      rw [litG, dR]
      rw [dR_form x] at hc ⊢
      generalize litG ns es x (V, cs) = Q at hc hin ⊢
      generalize kdR x = kx at *
      generalize nmR x = mx at *
      generalize ofR x = ox at *
      refine MC.of_body (tyOf_good _) Tryz.func44 rfl rfl (rs := [.tmp 7]) Tryz.results44 (by simp [Tryz.ntmps44]) rfl fun X => ?_
      simp only [Tryz.ntmps44]
      refine AW_rg (tyOf_good _) [0, 1, 2, 3, 4, 5] [501, 502, 503, 504] (notIn_ok rfl) fun K' hK' => ?_
      repeat (refine sxf_next fun K2 hK2 => ?_; simp [dNum, gRow, dBox, dS, binS_eq, dNil]; (repeat (refine ⟨by omega, ?_⟩)); refine hK2 _ ?_; clear hK2 K2)
      refine sxf_nil (hK' _ ?_)
      refine AW.st (by simp [dNum, gRow, dBox, dS, binS_eq, dNil]; rfl) ?_
      clear hK' K'
      refine AW_rd (tyOf_good _) (by kernel_rfl) [0, 3, 4, 5, 8, 9] [501, 502, 503, 504] (notIn_ok rfl) (by kernel_rfl) fun K' hK' => ?_
      repeat (refine sxd_next fun K2 hK2 => ?_; simp [dNum, gRow, dBox, dS, binS_eq, dNil]; (repeat (refine ⟨by omega, ?_⟩)); refine hK2 _ ?_; clear hK2 K2)
      refine sxd_next fun K2 hK2 => ?_
      simp [dNum, gRow, dBox, dS, binS_eq, dNil]
      refine callQ.data (hi1) (by simp; rfl) (by simp; rfl) (by first | exact D.leGo_refl _ | simp [takeMap, List.map_map, Function.comp_def, D.le, D.le.go, D.le_refl, D.leGo_refl, dNum, gRow, dBox, dS, binS_eq, dNil]) ?_
      refine hK2 _ ?_
      clear hK2 K2
      simp only [putd, upd_lst]
      repeat (refine sxd_next fun K2 hK2 => ?_; simp [dNum, gRow, dBox, dS, binS_eq, dNil]; (repeat (refine ⟨by omega, ?_⟩)); refine hK2 _ ?_; clear hK2 K2)
      refine sxd_next fun K2 hK2 => ?_
      simp [dNum, gRow, dBox, dS, binS_eq, dNil]
      refine callQ.data (hi2) (by simp; rfl) (by simp; rfl) (by first | exact D.leGo_refl _ | simp [takeMap, List.map_map, Function.comp_def, D.le, D.le.go, D.le_refl, D.leGo_refl, dNum, gRow, dBox, dS, binS_eq, dNil]) ?_
      refine hK2 _ ?_
      clear hK2 K2
      simp only [putd, upd_lst]
      repeat (refine sxd_next fun K2 hK2 => ?_; simp [dNum, gRow, dBox, dS, binS_eq, dNil]; (repeat (refine ⟨by omega, ?_⟩)); refine hK2 _ ?_; clear hK2 K2)
      refine sxd_nil (hK' _ ?_)
      refine AW.st (by simp [dNum, gRow, dBox, dS, binS_eq, dNil]; rfl) ?_
      clear hK' K'
      refine AW_then fun K1 hK1 => ?_
      refine AW_rg (tyOf_good _) [0, 3, 4, 5, 8, 9, 35] [501, 502, 503, 504] (notIn_ok rfl) fun K' hK' => ?_
      repeat (refine sxf_next fun K2 hK2 => ?_; simp [dNum, gRow, dBox, dS, binS_eq, dNil]; (repeat (refine ⟨by omega, ?_⟩)); refine hK2 _ ?_; clear hK2 K2)
      refine sxf_nil (hK' _ ?_)
      refine AW.st (by simp [dNum, gRow, dBox, dS, binS_eq, dNil]; rfl) ?_
      clear hK' K'
      refine AW_block ?_
      refine AW_rg (tyOf_good _) [0, 3, 4, 5, 8, 9, 35, 36] [501, 502, 503, 504] (notIn_ok rfl) fun K' hK' => ?_
      repeat (refine sxf_next fun K2 hK2 => ?_; simp [dNum, gRow, dBox, dS, binS_eq, dNil]; (repeat (refine ⟨by omega, ?_⟩)); refine hK2 _ ?_; clear hK2 K2)
      refine sxf_nil (hK' _ ?_)
      refine AW.st (by simp [dNum, gRow, dBox, dS, binS_eq, dNil]; rfl) ?_
      clear hK' K'
      refine AW_cond false rfl (fun h => by cases h) (fun _ => ?_)
      refine AW_rg (tyOf_good _) [0, 3, 4, 5, 8, 9, 35, 39] [501, 502, 503, 504] (notIn_ok rfl) fun K' hK' => ?_
      repeat (refine sxf_next fun K2 hK2 => ?_; simp [dNum, gRow, dBox, dS, binS_eq, dNil]; (repeat (refine ⟨by omega, ?_⟩)); refine hK2 _ ?_; clear hK2 K2)
      refine sxf_nil (hK' _ ?_)
      refine AW.st (by simp [dNum, gRow, dBox, dS, binS_eq, dNil]; rfl) ?_
      clear hK' K'
      refine AW_cond false rfl (fun h => by cases h) (fun _ => ?_)
      refine AW_rg (tyOf_good _) [0, 3, 4, 5, 8, 9, 35, 47] [501, 502, 503, 504] (notIn_ok rfl) fun K' hK' => ?_
      repeat (refine sxf_next fun K2 hK2 => ?_; simp [dNum, gRow, dBox, dS, binS_eq, dNil]; (repeat (refine ⟨by omega, ?_⟩)); refine hK2 _ ?_; clear hK2 K2)
      refine sxf_nil (hK' _ ?_)
      refine AW.st (by simp [dNum, gRow, dBox, dS, binS_eq, dNil]; rfl) ?_
      clear hK' K'
      refine AW_cond false rfl (fun h => by cases h) (fun _ => ?_)
      refine AW_rg (tyOf_good _) [0, 3, 4, 5, 35, 55] [501, 502, 503, 504] (notIn_ok rfl) fun K' hK' => ?_
      repeat (refine sxf_next fun K2 hK2 => ?_; simp [dNum, gRow, dBox, dS, binS_eq, dNil]; (repeat (refine ⟨by omega, ?_⟩)); refine hK2 _ ?_; clear hK2 K2)
      refine sxf_nil (hK' _ ?_)
      refine AW.st (by simp [dNum, gRow, dBox, dS, binS_eq, dNil]; rfl) ?_
      clear hK' K'
      refine AW_cond true rfl (fun _ => ?_) (fun h => by cases h)
      refine AW_rm (tyOf_good _) (by kernel_rfl) ([502]) ([]) ([7]) ([]) (List.range 10) [7] [501, 502, 503, 504] (notIn_ok rfl) (by kernel_rfl) (by simp [OffE]) fun K' hK' => ?_
      repeat (refine sxm_nextO rfl fun K2 hK2 => ?_; simp [dNum, gRow, dBox, dS, binS_eq, dNil]; (repeat (refine ⟨by omega, ?_⟩)); refine hK2 _ ?_; clear hK2 K2)
      refine sxm_nextO rfl fun K2 hK2 => ?_
      simp [dNum, gRow, dBox, dS, binS_eq, dNil]
      refine hcK.mc (hc) (by simp [dNum, gRow, dBox, dS, binS_eq, dNil]) (by simp [dNum, gRow, dBox, dS, binS_eq, dNil]) (by simp [dNum, gRow, dBox, dS, binS_eq, dNil]) (by simp [dNum, gRow, dBox, dS, binS_eq, dNil]) (by simp [dNum, gRow, dBox, dS, binS_eq, dNil]) (by simp [dNum, gRow, dBox, dS, binS_eq, dNil]) (by simp [LdSame, dNum, gRow, dBox, dS, binS_eq, dNil]) ?_
      simp [dNum, gRow, dBox, dS, binS_eq, dNil]
      refine hK2 _ ?_
      clear hK2 K2
      repeat (refine sxm_nextO rfl fun K2 hK2 => ?_; simp [dNum, gRow, dBox, dS, binS_eq, dNil]; (repeat (refine ⟨by omega, ?_⟩)); refine hK2 _ ?_; clear hK2 K2)
      refine sxm_nilO (hK' _ ?_)
      refine AW.st (by simp [dNum, gRow, dBox, dS, binS_eq, dNil]; rfl) ?_
      clear hK' K'
      refine AW_ret ?_
      simp [gRow, dNum, D.le, dBox, dS]
    | and l =>
      rw [WfE] at hw
      have hwl := (WfEs_iff l).1 hw.2
      have hN' : ∀ s ∈ nmsL true l, s ∈ ns := fun s h => hN s (by rw [nmsE]; exact h)
      have hE' : ∀ s ∈ nmsL false l, s ∈ es := fun s h => hE s (by rw [nmsE]; exact h)
      simp only [szN] at hV2 hC
      have hch : ∀ x ∈ l, RLitAt G ns es x := fun x hx => ih x (by have := List.sizeOf_lt_of_mem hx; simp only [Ex.and.sizeOf_spec] at hsz; omega) (fun s h => hN' s (nms_at hx h)) (fun s h => hE' s (nms_at hx h)) (hwl x hx)
      have hlb := len_szNs l
      have hpre : ∀ i, i ≤ l.length → ns.length + es.length ≤ (litsG ns es (l.take i) (V, cs)).2.1 ∧ (litsG ns es (l.take i) (V, cs)).2.1 ≤ V + szNs (l.take i) ∧ (litsG ns es (l.take i) (V, cs)).2.2.length + i ≤ cs.length + 4 * szNs (l.take i) := fun i hi => by
        have h1 := litsG_size ns es (l.take i) (V, cs)
        have h2 := litsG_vars ns es (l.take i) (V, cs)
        rw [List.length_take] at h1
        have : min i l.length = i := by omega
        rw [this] at h1
        dsimp only at h1 h2
        exact ⟨by omega, h1.1, h1.2⟩
      have hall := lits_inW ns es l hN' hE' hwl (V, cs) hV (by dsimp only; omega)
      simp only [nmR, rixI, if_true] at hi1 hi2
      rw [litG, dR, dRs_map]
      refine MC.of_body (tyOf_good _) Tryz.func44 rfl rfl (rs := [.tmp 7]) Tryz.results44 (by simp [Tryz.ntmps44]) rfl fun X => ?_
      simp only [Tryz.ntmps44]
      refine AW_rg (tyOf_good _) [0, 1, 2, 3, 4, 5] [501, 502, 503, 504] (notIn_ok rfl) fun K' hK' => ?_
      repeat (refine sxf_next fun K2 hK2 => ?_; simp [dNum, gRow, dBox, dS, binS_eq, dNil]; (repeat (refine ⟨by omega, ?_⟩)); refine hK2 _ ?_; clear hK2 K2)
      refine sxf_nil (hK' _ ?_)
      refine AW.st (by simp [dNum, gRow, dBox, dS, binS_eq, dNil]; rfl) ?_
      clear hK' K'
      refine AW_rd (tyOf_good _) (by kernel_rfl) [0, 3, 4, 5, 8, 9] [501, 502, 503, 504] (notIn_ok rfl) (by kernel_rfl) fun K' hK' => ?_
      repeat (refine sxd_next fun K2 hK2 => ?_; simp [dNum, gRow, dBox, dS, binS_eq, dNil]; (repeat (refine ⟨by omega, ?_⟩)); refine hK2 _ ?_; clear hK2 K2)
      refine sxd_next fun K2 hK2 => ?_
      simp [dNum, gRow, dBox, dS, binS_eq, dNil]
      refine callQ.data (hi1) (by simp; rfl) (by simp; rfl) (by first | exact D.leGo_refl _ | simp [takeMap, List.map_map, Function.comp_def, D.le, D.le.go, D.le_refl, D.leGo_refl, dNum, gRow, dBox, dS, binS_eq, dNil]) ?_
      refine hK2 _ ?_
      clear hK2 K2
      simp only [putd, upd_lst]
      repeat (refine sxd_next fun K2 hK2 => ?_; simp [dNum, gRow, dBox, dS, binS_eq, dNil]; (repeat (refine ⟨by omega, ?_⟩)); refine hK2 _ ?_; clear hK2 K2)
      refine sxd_next fun K2 hK2 => ?_
      simp [dNum, gRow, dBox, dS, binS_eq, dNil]
      refine callQ.data (hi2) (by simp; rfl) (by simp; rfl) (by first | exact D.leGo_refl _ | simp [takeMap, List.map_map, Function.comp_def, D.le, D.le.go, D.le_refl, D.leGo_refl, dNum, gRow, dBox, dS, binS_eq, dNil]) ?_
      refine hK2 _ ?_
      clear hK2 K2
      simp only [putd, upd_lst]
      repeat (refine sxd_next fun K2 hK2 => ?_; simp [dNum, gRow, dBox, dS, binS_eq, dNil]; (repeat (refine ⟨by omega, ?_⟩)); refine hK2 _ ?_; clear hK2 K2)
      refine sxd_nil (hK' _ ?_)
      refine AW.st (by simp [dNum, gRow, dBox, dS, binS_eq, dNil]; rfl) ?_
      clear hK' K'
      refine AW_then fun K1 hK1 => ?_
      refine AW_rg (tyOf_good _) [0, 3, 4, 5, 8, 9, 35] [501, 502, 503, 504] (notIn_ok rfl) fun K' hK' => ?_
      repeat (refine sxf_next fun K2 hK2 => ?_; simp [dNum, gRow, dBox, dS, binS_eq, dNil]; (repeat (refine ⟨by omega, ?_⟩)); refine hK2 _ ?_; clear hK2 K2)
      refine sxf_nil (hK' _ ?_)
      refine AW.st (by simp [dNum, gRow, dBox, dS, binS_eq, dNil]; rfl) ?_
      clear hK' K'
      refine AW_block ?_
      refine AW_rg (tyOf_good _) [0, 3, 4, 5, 8, 9, 35, 36] [501, 502, 503, 504] (notIn_ok rfl) fun K' hK' => ?_
      repeat (refine sxf_next fun K2 hK2 => ?_; simp [dNum, gRow, dBox, dS, binS_eq, dNil]; (repeat (refine ⟨by omega, ?_⟩)); refine hK2 _ ?_; clear hK2 K2)
      refine sxf_nil (hK' _ ?_)
      refine AW.st (by simp [dNum, gRow, dBox, dS, binS_eq, dNil]; rfl) ?_
      clear hK' K'
      refine AW_cond false rfl (fun h => by cases h) (fun _ => ?_)
      refine AW_rg (tyOf_good _) [0, 3, 4, 5, 8, 9, 35, 39] [501, 502, 503, 504] (notIn_ok rfl) fun K' hK' => ?_
      repeat (refine sxf_next fun K2 hK2 => ?_; simp [dNum, gRow, dBox, dS, binS_eq, dNil]; (repeat (refine ⟨by omega, ?_⟩)); refine hK2 _ ?_; clear hK2 K2)
      refine sxf_nil (hK' _ ?_)
      refine AW.st (by simp [dNum, gRow, dBox, dS, binS_eq, dNil]; rfl) ?_
      clear hK' K'
      refine AW_cond false rfl (fun h => by cases h) (fun _ => ?_)
      refine AW_rg (tyOf_good _) [0, 3, 4, 5, 8, 9, 35, 47] [501, 502, 503, 504] (notIn_ok rfl) fun K' hK' => ?_
      repeat (refine sxf_next fun K2 hK2 => ?_; simp [dNum, gRow, dBox, dS, binS_eq, dNil]; (repeat (refine ⟨by omega, ?_⟩)); refine hK2 _ ?_; clear hK2 K2)
      refine sxf_nil (hK' _ ?_)
      refine AW.st (by simp [dNum, gRow, dBox, dS, binS_eq, dNil]; rfl) ?_
      clear hK' K'
      refine AW_cond false rfl (fun h => by cases h) (fun _ => ?_)
      refine AW_rg (tyOf_good _) [0, 3, 4, 5, 35, 55] [501, 502, 503, 504] (notIn_ok rfl) fun K' hK' => ?_
      repeat (refine sxf_next fun K2 hK2 => ?_; simp [dNum, gRow, dBox, dS, binS_eq, dNil]; (repeat (refine ⟨by omega, ?_⟩)); refine hK2 _ ?_; clear hK2 K2)
      refine sxf_nil (hK' _ ?_)
      refine AW.st (by simp [dNum, gRow, dBox, dS, binS_eq, dNil]; rfl) ?_
      clear hK' K'
      refine AW_cond false rfl (fun h => by cases h) (fun _ => ?_)
      refine AW_then fun K2 hK2 => ?_
      refine AW_rg (tyOf_good _) [0, 3, 4, 5, 35, 66] [501, 502, 503, 504] (notIn_ok rfl) fun K' hK' => ?_
      repeat (refine sxf_next fun K2 hK2 => ?_; simp [dNum, gRow, dBox, dS, binS_eq, dNil]; (repeat (refine ⟨by omega, ?_⟩)); refine hK2 _ ?_; clear hK2 K2)
      refine sxf_nil (hK' _ ?_)
      refine AW.st (by simp [dNum, gRow, dBox, dS, binS_eq, dNil]; rfl) ?_
      clear hK' K'
      refine AW_cond true rfl (fun _ => ?_) (fun h => by cases h)
      refine AW_skip (hK2 _ ?_)
      refine AW_cond true rfl (fun _ => ?_) (fun h => by cases h)
      refine AW_rg (tyOf_good _) [0, 3, 4, 10] [501, 502, 503, 504] (notIn_ok rfl) fun K' hK' => ?_
      repeat (refine sxf_next fun K2 hK2 => ?_; simp [dNum, gRow, dBox, dS, binS_eq, dNil]; (repeat (refine ⟨by omega, ?_⟩)); refine hK2 _ ?_; clear hK2 K2)
      refine sxf_nil (hK' _ ?_)
      refine AW.st (by simp [dNum, gRow, dBox, dS, binS_eq, dNil]; rfl) ?_
      clear hK' K'
      refine AW_then fun K3 hK3 => ?_
      refine AW_rg (tyOf_good _) [0, 3, 4, 10, 73] [501, 502, 503, 504] (notIn_ok rfl) fun K' hK' => ?_
      repeat (refine sxf_next fun K2 hK2 => ?_; simp [dNum, gRow, dBox, dS, binS_eq, dNil]; (repeat (refine ⟨by omega, ?_⟩)); refine hK2 _ ?_; clear hK2 K2)
      refine sxf_nil (hK' _ ?_)
      refine AW.st (by simp [dNum, gRow, dBox, dS, binS_eq, dNil]; rfl) ?_
      clear hK' K'
      refine AW_cond false rfl (fun h => by cases h) (fun _ => ?_)
      refine AW_skip (hK3 _ ?_)
      refine AW_rg (tyOf_good _) [0, 3, 4, 10, 11] [501, 502, 503, 504] (notIn_ok rfl) fun K' hK' => ?_
      repeat (refine sxf_next fun K2 hK2 => ?_; simp [dNum, gRow, dBox, dS, binS_eq, dNil]; (repeat (refine ⟨by omega, ?_⟩)); refine hK2 _ ?_; clear hK2 K2)
      refine sxf_nil (hK' _ ?_)
      refine AW.st (by simp [dNum, gRow, dBox, dS, binS_eq, dNil]; rfl) ?_
      clear hK' K'
      refine AW_then fun K4 hK4 => ?_
      refine AW_rg (tyOf_good _) [3, 4, 10, 11, 77, 78, 79] [501, 502, 503, 504] (notIn_ok rfl) fun K' hK' => ?_
      repeat (refine sxf_next fun K2 hK2 => ?_; simp [dNum, gRow, dBox, dS, binS_eq, dNil]; (repeat (refine ⟨by omega, ?_⟩)); refine hK2 _ ?_; clear hK2 K2)
      refine sxf_nil (hK' _ ?_)
      refine AW.st (by simp [dNum, gRow, dBox, dS, binS_eq, dNil]; rfl) ?_
      clear hK' K'
      refine AW_for (S := Nat) (fun i => i ≤ l.length) (fun i => ⟨lst [(3, .ref 503 0 0), (4, .ref 504 0 0), (10, int 1), (11, .own 300 0 i), (77, .d (.sl none (l.map fun x => [dR x]))), (78, int l.length), (79, int i)], hlst (gRow ns es (litsG ns es (l.take i) (V, cs)).2.1 (litsG ns es (l.take i) (V, cs)).2.2 ++ [(300, .sl 3 1 ((litsG ns es (l.take i) (V, cs)).1.map fun x => [dNum (x)]))])⟩) (fun i => l.length - i) 0 ?_ (by omega) ?_
      · refine (Imp.adopt 11 300 3 1 rfl rfl).trans ?_
        refine Imp.to' (notIn_ok rfl) (by simp [dNum, gRow, dBox, dS, binS_eq, dNil, litsG]) (by simp [dNum, gRow, dBox, dS, binS_eq, dNil, litsG])
      · intro i hi
        refine AW_rg (tyOf_good _) [3, 4, 10, 11, 77, 78, 79, 80] [501, 502, 503, 504, 300] (notIn_ok rfl) fun K' hK' => ?_
        repeat (refine sxf_next fun K2 hK2 => ?_; simp [dNum, gRow, dBox, dS, binS_eq, dNil]; (repeat (refine ⟨by omega, ?_⟩)); refine hK2 _ ?_; clear hK2 K2)
        refine sxf_nil (hK' _ ?_)
        refine AW.st (by simp [dNum, gRow, dBox, dS, binS_eq, dNil]; rfl) ?_
        clear hK' K'
        refine AW_then fun K5 hK5 => ?_
        refine AW_cond' (b := i < l.length) (by simp [D.le, D.le.go, takeMap, dNum, gRow, dBox, dS, binS_eq, dNil]) (fun hc => ?_) (fun hc => ?_)
        · have hil : i < l.length := hc
          obtain ⟨p1, p2, p3⟩ := hpre i hi
          have htk := litsG_take ns es hil (V, cs)
          have hsz2 := szNs_take hil
          have hsz3 := szNs_le l (i + 1)
          have hll := litsG_len ns es (l.take i) (V, cs)
          rw [List.length_take] at hll
          have hmn : min i l.length = i := by omega
          rw [hmn] at hll
          have hcc := hch _ (List.getElem_mem hil) _ (litsG ns es (l.take i) (V, cs)).2.2 p1 (by omega) (by omega)
          have hin := lit_inW ns es l[i] (fun s h => hN' s (nms_at (List.getElem_mem hil) h)) (fun s h => hE' s (nms_at (List.getElem_mem hil) h)) (hwl _ (List.getElem_mem hil)) (litsG ns es (l.take i) (V, cs)).2 p1 (by omega)
          have hx := dR_form l[i]
          rw [hx] at hcc
          have hpe : ((litsG ns es (l.take i) (V, cs)).2.1, (litsG ns es (l.take i) (V, cs)).2.2) = (litsG ns es (l.take i) (V, cs)).2 := rfl
          rw [hpe] at hcc
          generalize litG ns es l[i] (litsG ns es (l.take i) (V, cs)).2 = Q1 at hcc hin htk
          generalize litsG ns es (l.take i) (V, cs) = Q at *
          refine AW_skip (hK5 _ ?_)
          refine AW_then fun K6 hK6 => ?_
          refine AW_block ?_
          refine AW_rg (tyOf_good _) [3, 4, 10, 11, 13, 77, 78, 79] [501, 502, 503, 504, 300] (notIn_ok rfl) fun K' hK' => ?_
          repeat (refine sxf_next fun K2 hK2 => ?_; simp [dNum, gRow, dBox, dS, binS_eq, dNil, hil, hx]; (repeat (refine ⟨by omega, ?_⟩)); refine hK2 _ ?_; clear hK2 K2)
          refine sxf_nil (hK' _ ?_)
          refine AW.st (by simp [dNum, gRow, dBox, dS, binS_eq, dNil, hil, hx]; rfl) ?_
          clear hK' K'
          refine AW_re (tyOf_good _) fun K' hK' => ?_
          repeat (refine sxf_next fun K2 hK2 => ?_; simp [dNum, gRow, dBox, dS, binS_eq, dNil]; (repeat (refine ⟨by omega, ?_⟩)); refine hK2 _ ?_; clear hK2 K2)
          refine sxf_next fun K2 hK2 => ?_
          simp [dNum, gRow, dBox, dS, binS_eq, dNil]
          refine callK.mc (hcc) (by simp [dNum, gRow, dBox, dS, binS_eq, dNil]) (by simp [dNum, gRow, dBox, dS, binS_eq, dNil]) (by simp [dNum, gRow, dBox, dS, binS_eq, dNil]) (by simp [dNum, gRow, dBox, dS, binS_eq, dNil]) ?_
          simp [dNum, gRow, dBox, dS, binS_eq, dNil]
          refine hK2 _ ?_
          clear hK2 K2
          repeat (refine sxf_next fun K2 hK2 => ?_; simp [dNum, gRow, dBox, dS, binS_eq, dNil]; (repeat (refine ⟨by omega, ?_⟩)); refine hK2 _ ?_; clear hK2 K2)
          refine sxf_nil (hK' _ ?_)
          clear hK' K'
          refine hK6 _ (AW.norm [3, 4, 10, 11, 77, 78, 79] [501, 502, 503, 504, 300] (notIn_ok rfl) (AW.st (by simp [dNum, gRow, dBox, dS, binS_eq, dNil]; rfl) ?_))
          refine AW_re (tyOf_good _) fun K' hK' => ?_
          repeat (refine sxf_next fun K2 hK2 => ?_; simp [dNum, gRow, dBox, dS, binS_eq, dNil]; (repeat (refine ⟨by omega, ?_⟩)); refine hK2 _ ?_; clear hK2 K2)
          refine sxf_nil (hK' _ ?_)
          clear hK' K'
          try simp only [thn, inb]
          refine Again.mk (i + 1) (by omega) (by omega) ?_
          have hq2 : ∀ f : Int → List D, List.take i (Q.1.map f) = Q.1.map f := fun f => List.take_of_length_le (by rw [List.length_map]; omega)
          refine Imp.to' (notIn_ok rfl) (by simp [dNum, gRow, dBox, dS, binS_eq, dNil, htk, hll, hq2]) (by simp [dNum, gRow, dBox, dS, binS_eq, dNil, htk, hll, hq2])
        · obtain rfl : i = l.length := by omega
          obtain ⟨p1, p2, p3⟩ := hpre l.length (Nat.le_refl _)
          rw [List.take_length] at p1 p2 p3 ⊢
          have hll := litsG_len ns es l (V, cs)
          generalize litsG ns es l (V, cs) = Q at *
          have ha := rand_spec G Q.2.1 (by omega) Q.2.2 (by omega) Q.1 (by omega) (fun x hx => by have := hall x hx; unfold inW; omega)
          have hpe : (Q.2.1, Q.2.2) = Q.2 := rfl
          rw [hpe] at ha
          have hbd : -2^60 < (mkAnd Q.1 Q.2).1 ∧ (mkAnd Q.1 Q.2).1 < 2^60 := by simp only [mkAnd]; omega
          obtain ⟨S, hS⟩ : ∃ S, mkAnd Q.1 Q.2 = S := ⟨_, rfl⟩
          rw [hS] at ha hbd
          refine AW_exit (hK4 _ ?_)
          refine AW_rg (tyOf_good _) [7] [501, 502, 503, 504] (notIn_ok rfl) fun K' hK' => ?_
          repeat (refine sxf_next fun K2 hK2 => ?_; simp [dNum, gRow, dBox, dS, binS_eq, dNil, dRow, dInts, hll, takeMap, Function.comp_def, cRow]; (repeat (refine ⟨by omega, ?_⟩)); refine hK2 _ ?_; clear hK2 K2)
          refine sxf_next fun K2 hK2 => ?_
          simp [dNum, gRow, dBox, dS, binS_eq, dNil, dRow, dInts, hll, takeMap, Function.comp_def, cRow]
          refine callK.frz 300 (by first | rfl | (simp [dNum, gRow, dBox, dS, binS_eq, dNil, dRow, dInts, hll, takeMap, Function.comp_def, cRow]; rfl)) (by decide) ?_
          simp [dNum, gRow, dBox, dS, binS_eq, dNil, dRow, dInts, hll, takeMap, Function.comp_def, cRow]
          refine callK.mc (ha) (by simp [dNum, gRow, dBox, dS, binS_eq, dNil, dRow, dInts, hll, takeMap, Function.comp_def, cRow]) (by simp [dNum, gRow, dBox, dS, binS_eq, dNil, dRow, dInts, hll, takeMap, Function.comp_def, cRow]) (by simp [dNum, gRow, dBox, dS, binS_eq, dNil, dRow, dInts, hll, takeMap, Function.comp_def, cRow]) (by simp [dNum, gRow, dBox, dS, binS_eq, dNil, dRow, dInts, hll, takeMap, Function.comp_def, cRow]) ?_
          simp [dNum, gRow, dBox, dS, binS_eq, dNil, dRow, dInts, hll, takeMap, Function.comp_def, cRow]
          refine hK2 _ ?_
          clear hK2 K2
          repeat (refine sxf_next fun K2 hK2 => ?_; simp [dNum, gRow, dBox, dS, binS_eq, dNil, dRow, dInts, hll, takeMap, Function.comp_def, cRow]; (repeat (refine ⟨by omega, ?_⟩)); refine hK2 _ ?_; clear hK2 K2)
          refine sxf_nil (hK' _ ?_)
          refine AW.st (by simp [dNum, gRow, dBox, dS, binS_eq, dNil, dRow, dInts, hll, takeMap, Function.comp_def, cRow]; rfl) ?_
          clear hK' K'
          refine AW_ret ?_
          simp [hS, gRow, cRow, dNum, D.le, dRow, dInts, dBox, dS]
    | or l =>
      rw [WfE] at hw
      have hwl := (WfEs_iff l).1 hw.2
      have hN' : ∀ s ∈ nmsL true l, s ∈ ns := fun s h => hN s (by rw [nmsE]; exact h)
      have hE' : ∀ s ∈ nmsL false l, s ∈ es := fun s h => hE s (by rw [nmsE]; exact h)
      simp only [szN] at hV2 hC
      have hch : ∀ x ∈ l, RLitAt G ns es x := fun x hx => ih x (by have := List.sizeOf_lt_of_mem hx; simp only [Ex.or.sizeOf_spec] at hsz; omega) (fun s h => hN' s (nms_at hx h)) (fun s h => hE' s (nms_at hx h)) (hwl x hx)
      have hlb := len_szNs l
      have hpre : ∀ i, i ≤ l.length → ns.length + es.length ≤ (litsG ns es (l.take i) (V, cs)).2.1 ∧ (litsG ns es (l.take i) (V, cs)).2.1 ≤ V + szNs (l.take i) ∧ (litsG ns es (l.take i) (V, cs)).2.2.length + i ≤ cs.length + 4 * szNs (l.take i) := fun i hi => by
        have h1 := litsG_size ns es (l.take i) (V, cs)
        have h2 := litsG_vars ns es (l.take i) (V, cs)
        rw [List.length_take] at h1
        have : min i l.length = i := by omega
        rw [this] at h1
        dsimp only at h1 h2
        exact ⟨by omega, h1.1, h1.2⟩
      have hall := lits_inW ns es l hN' hE' hwl (V, cs) hV (by dsimp only; omega)
      simp only [nmR, rixI, if_true] at hi1 hi2
      rw [litG, dR, dRs_map]
      refine MC.of_body (tyOf_good _) Tryz.func44 rfl rfl (rs := [.tmp 7]) Tryz.results44 (by simp [Tryz.ntmps44]) rfl fun X => ?_
      simp only [Tryz.ntmps44]
      refine AW_rg (tyOf_good _) [0, 1, 2, 3, 4, 5] [501, 502, 503, 504] (notIn_ok rfl) fun K' hK' => ?_
      repeat (refine sxf_next fun K2 hK2 => ?_; simp [dNum, gRow, dBox, dS, binS_eq, dNil]; (repeat (refine ⟨by omega, ?_⟩)); refine hK2 _ ?_; clear hK2 K2)
      refine sxf_nil (hK' _ ?_)
      refine AW.st (by simp [dNum, gRow, dBox, dS, binS_eq, dNil]; rfl) ?_
      clear hK' K'
      refine AW_rd (tyOf_good _) (by kernel_rfl) [0, 3, 4, 5, 8, 9] [501, 502, 503, 504] (notIn_ok rfl) (by kernel_rfl) fun K' hK' => ?_
      repeat (refine sxd_next fun K2 hK2 => ?_; simp [dNum, gRow, dBox, dS, binS_eq, dNil]; (repeat (refine ⟨by omega, ?_⟩)); refine hK2 _ ?_; clear hK2 K2)
      refine sxd_next fun K2 hK2 => ?_
      simp [dNum, gRow, dBox, dS, binS_eq, dNil]
      refine callQ.data (hi1) (by simp; rfl) (by simp; rfl) (by first | exact D.leGo_refl _ | simp [takeMap, List.map_map, Function.comp_def, D.le, D.le.go, D.le_refl, D.leGo_refl, dNum, gRow, dBox, dS, binS_eq, dNil]) ?_
      refine hK2 _ ?_
      clear hK2 K2
      simp only [putd, upd_lst]
      repeat (refine sxd_next fun K2 hK2 => ?_; simp [dNum, gRow, dBox, dS, binS_eq, dNil]; (repeat (refine ⟨by omega, ?_⟩)); refine hK2 _ ?_; clear hK2 K2)
      refine sxd_next fun K2 hK2 => ?_
      simp [dNum, gRow, dBox, dS, binS_eq, dNil]
      refine callQ.data (hi2) (by simp; rfl) (by simp; rfl) (by first | exact D.leGo_refl _ | simp [takeMap, List.map_map, Function.comp_def, D.le, D.le.go, D.le_refl, D.leGo_refl, dNum, gRow, dBox, dS, binS_eq, dNil]) ?_
      refine hK2 _ ?_
      clear hK2 K2
      simp only [putd, upd_lst]
      repeat (refine sxd_next fun K2 hK2 => ?_; simp [dNum, gRow, dBox, dS, binS_eq, dNil]; (repeat (refine ⟨by omega, ?_⟩)); refine hK2 _ ?_; clear hK2 K2)
      refine sxd_nil (hK' _ ?_)
      refine AW.st (by simp [dNum, gRow, dBox, dS, binS_eq, dNil]; rfl) ?_
      clear hK' K'
      refine AW_then fun K1 hK1 => ?_
      refine AW_rg (tyOf_good _) [0, 3, 4, 5, 8, 9, 35] [501, 502, 503, 504] (notIn_ok rfl) fun K' hK' => ?_
      repeat (refine sxf_next fun K2 hK2 => ?_; simp [dNum, gRow, dBox, dS, binS_eq, dNil]; (repeat (refine ⟨by omega, ?_⟩)); refine hK2 _ ?_; clear hK2 K2)
      refine sxf_nil (hK' _ ?_)
      refine AW.st (by simp [dNum, gRow, dBox, dS, binS_eq, dNil]; rfl) ?_
      clear hK' K'
      refine AW_block ?_
      refine AW_rg (tyOf_good _) [0, 3, 4, 5, 8, 9, 35, 36] [501, 502, 503, 504] (notIn_ok rfl) fun K' hK' => ?_
      repeat (refine sxf_next fun K2 hK2 => ?_; simp [dNum, gRow, dBox, dS, binS_eq, dNil]; (repeat (refine ⟨by omega, ?_⟩)); refine hK2 _ ?_; clear hK2 K2)
      refine sxf_nil (hK' _ ?_)
      refine AW.st (by simp [dNum, gRow, dBox, dS, binS_eq, dNil]; rfl) ?_
      clear hK' K'
      refine AW_cond false rfl (fun h => by cases h) (fun _ => ?_)
      refine AW_rg (tyOf_good _) [0, 3, 4, 5, 8, 9, 35, 39] [501, 502, 503, 504] (notIn_ok rfl) fun K' hK' => ?_
      repeat (refine sxf_next fun K2 hK2 => ?_; simp [dNum, gRow, dBox, dS, binS_eq, dNil]; (repeat (refine ⟨by omega, ?_⟩)); refine hK2 _ ?_; clear hK2 K2)
      refine sxf_nil (hK' _ ?_)
      refine AW.st (by simp [dNum, gRow, dBox, dS, binS_eq, dNil]; rfl) ?_
      clear hK' K'
      refine AW_cond false rfl (fun h => by cases h) (fun _ => ?_)
      refine AW_rg (tyOf_good _) [0, 3, 4, 5, 8, 9, 35, 47] [501, 502, 503, 504] (notIn_ok rfl) fun K' hK' => ?_
      repeat (refine sxf_next fun K2 hK2 => ?_; simp [dNum, gRow, dBox, dS, binS_eq, dNil]; (repeat (refine ⟨by omega, ?_⟩)); refine hK2 _ ?_; clear hK2 K2)
      refine sxf_nil (hK' _ ?_)
      refine AW.st (by simp [dNum, gRow, dBox, dS, binS_eq, dNil]; rfl) ?_
      clear hK' K'
      refine AW_cond false rfl (fun h => by cases h) (fun _ => ?_)
      refine AW_rg (tyOf_good _) [0, 3, 4, 5, 35, 55] [501, 502, 503, 504] (notIn_ok rfl) fun K' hK' => ?_
      repeat (refine sxf_next fun K2 hK2 => ?_; simp [dNum, gRow, dBox, dS, binS_eq, dNil]; (repeat (refine ⟨by omega, ?_⟩)); refine hK2 _ ?_; clear hK2 K2)
      refine sxf_nil (hK' _ ?_)
      refine AW.st (by simp [dNum, gRow, dBox, dS, binS_eq, dNil]; rfl) ?_
      clear hK' K'
      refine AW_cond false rfl (fun h => by cases h) (fun _ => ?_)
      refine AW_then fun K2 hK2 => ?_
      refine AW_rg (tyOf_good _) [0, 3, 4, 5, 35, 66] [501, 502, 503, 504] (notIn_ok rfl) fun K' hK' => ?_
      repeat (refine sxf_next fun K2 hK2 => ?_; simp [dNum, gRow, dBox, dS, binS_eq, dNil]; (repeat (refine ⟨by omega, ?_⟩)); refine hK2 _ ?_; clear hK2 K2)
      refine sxf_nil (hK' _ ?_)
      refine AW.st (by simp [dNum, gRow, dBox, dS, binS_eq, dNil]; rfl) ?_
      clear hK' K'
      refine AW_cond false rfl (fun h => by cases h) (fun _ => ?_)
      refine AW_re (tyOf_good _) fun K' hK' => ?_
      repeat (refine sxf_next fun K2 hK2 => ?_; simp [dNum, gRow, dBox, dS, binS_eq, dNil]; (repeat (refine ⟨by omega, ?_⟩)); refine hK2 _ ?_; clear hK2 K2)
      refine sxf_nil (hK' _ ?_)
      clear hK' K'
      refine hK2 _ (AW.norm [0, 3, 4, 5, 66] [501, 502, 503, 504] (notIn_ok rfl) (AW.st (by simp [dNum, gRow, dBox, dS, binS_eq, dNil]; rfl) ?_))
      refine AW_cond true rfl (fun _ => ?_) (fun h => by cases h)
      refine AW_rg (tyOf_good _) [0, 3, 4, 10] [501, 502, 503, 504] (notIn_ok rfl) fun K' hK' => ?_
      repeat (refine sxf_next fun K2 hK2 => ?_; simp [dNum, gRow, dBox, dS, binS_eq, dNil]; (repeat (refine ⟨by omega, ?_⟩)); refine hK2 _ ?_; clear hK2 K2)
      refine sxf_nil (hK' _ ?_)
      refine AW.st (by simp [dNum, gRow, dBox, dS, binS_eq, dNil]; rfl) ?_
      clear hK' K'
      refine AW_then fun K3 hK3 => ?_
      refine AW_rg (tyOf_good _) [0, 3, 4, 10, 73] [501, 502, 503, 504] (notIn_ok rfl) fun K' hK' => ?_
      repeat (refine sxf_next fun K2 hK2 => ?_; simp [dNum, gRow, dBox, dS, binS_eq, dNil]; (repeat (refine ⟨by omega, ?_⟩)); refine hK2 _ ?_; clear hK2 K2)
      refine sxf_nil (hK' _ ?_)
      refine AW.st (by simp [dNum, gRow, dBox, dS, binS_eq, dNil]; rfl) ?_
      clear hK' K'
      refine AW_cond true rfl (fun _ => ?_) (fun h => by cases h)
      refine AW_re (tyOf_good _) fun K' hK' => ?_
      repeat (refine sxf_next fun K2 hK2 => ?_; simp [dNum, gRow, dBox, dS, binS_eq, dNil]; (repeat (refine ⟨by omega, ?_⟩)); refine hK2 _ ?_; clear hK2 K2)
      refine sxf_nil (hK' _ ?_)
      clear hK' K'
      refine hK3 _ (AW.norm [0, 3, 4, 10] [501, 502, 503, 504] (notIn_ok rfl) (AW.st (by simp [dNum, gRow, dBox, dS, binS_eq, dNil]; rfl) ?_))
      refine AW_rg (tyOf_good _) [0, 3, 4, 10, 11] [501, 502, 503, 504] (notIn_ok rfl) fun K' hK' => ?_
      repeat (refine sxf_next fun K2 hK2 => ?_; simp [dNum, gRow, dBox, dS, binS_eq, dNil]; (repeat (refine ⟨by omega, ?_⟩)); refine hK2 _ ?_; clear hK2 K2)
      refine sxf_nil (hK' _ ?_)
      refine AW.st (by simp [dNum, gRow, dBox, dS, binS_eq, dNil]; rfl) ?_
      clear hK' K'
      refine AW_then fun K4 hK4 => ?_
      refine AW_rg (tyOf_good _) [3, 4, 10, 11, 77, 78, 79] [501, 502, 503, 504] (notIn_ok rfl) fun K' hK' => ?_
      repeat (refine sxf_next fun K2 hK2 => ?_; simp [dNum, gRow, dBox, dS, binS_eq, dNil]; (repeat (refine ⟨by omega, ?_⟩)); refine hK2 _ ?_; clear hK2 K2)
      refine sxf_nil (hK' _ ?_)
      refine AW.st (by simp [dNum, gRow, dBox, dS, binS_eq, dNil]; rfl) ?_
      clear hK' K'
      refine AW_for (S := Nat) (fun i => i ≤ l.length) (fun i => ⟨lst [(3, .ref 503 0 0), (4, .ref 504 0 0), (10, int (-1)), (11, .own 300 0 i), (77, .d (.sl none (l.map fun x => [dR x]))), (78, int l.length), (79, int i)], hlst (gRow ns es (litsG ns es (l.take i) (V, cs)).2.1 (litsG ns es (l.take i) (V, cs)).2.2 ++ [(300, .sl 3 1 ((litsG ns es (l.take i) (V, cs)).1.map fun x => [dNum (-x)]))])⟩) (fun i => l.length - i) 0 ?_ (by omega) ?_
      · refine (Imp.adopt 11 300 3 1 rfl rfl).trans ?_
        refine Imp.to' (notIn_ok rfl) (by simp [dNum, gRow, dBox, dS, binS_eq, dNil, litsG]) (by simp [dNum, gRow, dBox, dS, binS_eq, dNil, litsG])
      · intro i hi
        refine AW_rg (tyOf_good _) [3, 4, 10, 11, 77, 78, 79, 80] [501, 502, 503, 504, 300] (notIn_ok rfl) fun K' hK' => ?_
        repeat (refine sxf_next fun K2 hK2 => ?_; simp [dNum, gRow, dBox, dS, binS_eq, dNil]; (repeat (refine ⟨by omega, ?_⟩)); refine hK2 _ ?_; clear hK2 K2)
        refine sxf_nil (hK' _ ?_)
        refine AW.st (by simp [dNum, gRow, dBox, dS, binS_eq, dNil]; rfl) ?_
        clear hK' K'
        refine AW_then fun K5 hK5 => ?_
        refine AW_cond' (b := i < l.length) (by simp [D.le, D.le.go, takeMap, dNum, gRow, dBox, dS, binS_eq, dNil]) (fun hc => ?_) (fun hc => ?_)
        · have hil : i < l.length := hc
          obtain ⟨p1, p2, p3⟩ := hpre i hi
          have htk := litsG_take ns es hil (V, cs)
          have hsz2 := szNs_take hil
          have hsz3 := szNs_le l (i + 1)
          have hll := litsG_len ns es (l.take i) (V, cs)
          rw [List.length_take] at hll
          have hmn : min i l.length = i := by omega
          rw [hmn] at hll
          have hcc := hch _ (List.getElem_mem hil) _ (litsG ns es (l.take i) (V, cs)).2.2 p1 (by omega) (by omega)
          have hin := lit_inW ns es l[i] (fun s h => hN' s (nms_at (List.getElem_mem hil) h)) (fun s h => hE' s (nms_at (List.getElem_mem hil) h)) (hwl _ (List.getElem_mem hil)) (litsG ns es (l.take i) (V, cs)).2 p1 (by omega)
          have hx := dR_form l[i]
          rw [hx] at hcc
          have hpe : ((litsG ns es (l.take i) (V, cs)).2.1, (litsG ns es (l.take i) (V, cs)).2.2) = (litsG ns es (l.take i) (V, cs)).2 := rfl
          rw [hpe] at hcc
          generalize litG ns es l[i] (litsG ns es (l.take i) (V, cs)).2 = Q1 at hcc hin htk
          generalize litsG ns es (l.take i) (V, cs) = Q at *
          refine AW_skip (hK5 _ ?_)
          refine AW_then fun K6 hK6 => ?_
          refine AW_block ?_
          refine AW_rg (tyOf_good _) [3, 4, 10, 11, 13, 77, 78, 79] [501, 502, 503, 504, 300] (notIn_ok rfl) fun K' hK' => ?_
          repeat (refine sxf_next fun K2 hK2 => ?_; simp [dNum, gRow, dBox, dS, binS_eq, dNil, hil, hx]; (repeat (refine ⟨by omega, ?_⟩)); refine hK2 _ ?_; clear hK2 K2)
          refine sxf_nil (hK' _ ?_)
          refine AW.st (by simp [dNum, gRow, dBox, dS, binS_eq, dNil, hil, hx]; rfl) ?_
          clear hK' K'
          refine AW_re (tyOf_good _) fun K' hK' => ?_
          repeat (refine sxf_next fun K2 hK2 => ?_; simp [dNum, gRow, dBox, dS, binS_eq, dNil]; (repeat (refine ⟨by omega, ?_⟩)); refine hK2 _ ?_; clear hK2 K2)
          refine sxf_next fun K2 hK2 => ?_
          simp [dNum, gRow, dBox, dS, binS_eq, dNil]
          refine callK.mc (hcc) (by simp [dNum, gRow, dBox, dS, binS_eq, dNil]) (by simp [dNum, gRow, dBox, dS, binS_eq, dNil]) (by simp [dNum, gRow, dBox, dS, binS_eq, dNil]) (by simp [dNum, gRow, dBox, dS, binS_eq, dNil]) ?_
          simp [dNum, gRow, dBox, dS, binS_eq, dNil]
          refine hK2 _ ?_
          clear hK2 K2
          repeat (refine sxf_next fun K2 hK2 => ?_; simp [dNum, gRow, dBox, dS, binS_eq, dNil]; (repeat (refine ⟨by omega, ?_⟩)); refine hK2 _ ?_; clear hK2 K2)
          refine sxf_nil (hK' _ ?_)
          clear hK' K'
          refine hK6 _ (AW.norm [3, 4, 10, 11, 77, 78, 79] [501, 502, 503, 504, 300] (notIn_ok rfl) (AW.st (by simp [dNum, gRow, dBox, dS, binS_eq, dNil]; rfl) ?_))
          refine AW_re (tyOf_good _) fun K' hK' => ?_
          repeat (refine sxf_next fun K2 hK2 => ?_; simp [dNum, gRow, dBox, dS, binS_eq, dNil]; (repeat (refine ⟨by omega, ?_⟩)); refine hK2 _ ?_; clear hK2 K2)
          refine sxf_nil (hK' _ ?_)
          clear hK' K'
          try simp only [thn, inb]
          refine Again.mk (i + 1) (by omega) (by omega) ?_
          have hq2 : ∀ f : Int → List D, List.take i (Q.1.map f) = Q.1.map f := fun f => List.take_of_length_le (by rw [List.length_map]; omega)
          refine Imp.to' (notIn_ok rfl) (by simp [dNum, gRow, dBox, dS, binS_eq, dNil, htk, hll, hq2]) (by simp [dNum, gRow, dBox, dS, binS_eq, dNil, htk, hll, hq2])
        · obtain rfl : i = l.length := by omega
          obtain ⟨p1, p2, p3⟩ := hpre l.length (Nat.le_refl _)
          rw [List.take_length] at p1 p2 p3 ⊢
          have hll := litsG_len ns es l (V, cs)
          generalize litsG ns es l (V, cs) = Q at *
          have ha := rand_spec G Q.2.1 (by omega) Q.2.2 (by omega) (Q.1.map fun x => -x) (by rw [List.length_map]; omega) (by intro x hx; obtain ⟨y, hy, rfl⟩ := List.mem_map.1 hx; have := hall y hy; unfold inW; omega)
          have hpe : (Q.2.1, Q.2.2) = Q.2 := rfl
          rw [hpe] at ha
          have hbd : -2^60 < (mkAnd (Q.1.map fun x => -x) Q.2).1 ∧ (mkAnd (Q.1.map fun x => -x) Q.2).1 < 2^60 := by simp only [mkAnd]; omega
          obtain ⟨S, hS⟩ : ∃ S, mkAnd (Q.1.map fun x => -x) Q.2 = S := ⟨_, rfl⟩
          rw [hS] at ha hbd
          refine AW_exit (hK4 _ ?_)
          refine AW_rg (tyOf_good _) [7] [501, 502, 503, 504] (notIn_ok rfl) fun K' hK' => ?_
          repeat (refine sxf_next fun K2 hK2 => ?_; simp [dNum, gRow, dBox, dS, binS_eq, dNil, dRow, dInts, hll, takeMap, Function.comp_def, cRow]; (repeat (refine ⟨by omega, ?_⟩)); refine hK2 _ ?_; clear hK2 K2)
          refine sxf_next fun K2 hK2 => ?_
          simp [dNum, gRow, dBox, dS, binS_eq, dNil, dRow, dInts, hll, takeMap, Function.comp_def, cRow]
          refine callK.frz 300 (by first | rfl | (simp [dNum, gRow, dBox, dS, binS_eq, dNil, dRow, dInts, hll, takeMap, Function.comp_def, cRow]; rfl)) (by decide) ?_
          simp [dNum, gRow, dBox, dS, binS_eq, dNil, dRow, dInts, hll, takeMap, Function.comp_def, cRow]
          refine callK.mc (ha) (by simp [dNum, gRow, dBox, dS, binS_eq, dNil, dRow, dInts, hll, takeMap, Function.comp_def, cRow]) (by simp [dNum, gRow, dBox, dS, binS_eq, dNil, dRow, dInts, hll, takeMap, Function.comp_def, cRow]) (by simp [dNum, gRow, dBox, dS, binS_eq, dNil, dRow, dInts, hll, takeMap, Function.comp_def, cRow]) (by simp [dNum, gRow, dBox, dS, binS_eq, dNil, dRow, dInts, hll, takeMap, Function.comp_def, cRow]) ?_
          simp [dNum, gRow, dBox, dS, binS_eq, dNil, dRow, dInts, hll, takeMap, Function.comp_def, cRow]
          refine hK2 _ ?_
          clear hK2 K2
          repeat (refine sxf_next fun K2 hK2 => ?_; simp [dNum, gRow, dBox, dS, binS_eq, dNil, dRow, dInts, hll, takeMap, Function.comp_def, cRow]; (repeat (refine ⟨by omega, ?_⟩)); refine hK2 _ ?_; clear hK2 K2)
          refine sxf_nil (hK' _ ?_)
          refine AW.st (by simp [dNum, gRow, dBox, dS, binS_eq, dNil, dRow, dInts, hll, takeMap, Function.comp_def, cRow]; rfl) ?_
          clear hK' K'
          refine AW_ret ?_
          simp [hS, gRow, cRow, dNum, D.le, dRow, dInts, dBox, dS]
    | cst b =>
      simp only [szN] at hV2 hC
      simp only [nmR, rixI, if_true] at hi1 hi2
      rw [litG]
      have htk : ∀ f : List Int → List D, List.take cs.length (cs.map f) = cs.map f := fun f => List.take_of_length_le (by simp)
      cases b with
      | true =>
        rw [dR]
        refine MC.of_body (tyOf_good _) Tryz.func44 rfl rfl (rs := [.tmp 7]) Tryz.results44 (by simp [Tryz.ntmps44]) rfl fun X => ?_
        simp only [Tryz.ntmps44]
        refine AW_rg (tyOf_good _) [0, 1, 2, 3, 4, 5] [501, 502, 503, 504] (notIn_ok rfl) fun K' hK' => ?_
        repeat (refine sxf_next fun K2 hK2 => ?_; simp [dNum, gRow, dBox, dS, binS_eq, dNil]; (repeat (refine ⟨by omega, ?_⟩)); refine hK2 _ ?_; clear hK2 K2)
        refine sxf_nil (hK' _ ?_)
        refine AW.st (by simp [dNum, gRow, dBox, dS, binS_eq, dNil]; rfl) ?_
        clear hK' K'
        refine AW_rd (tyOf_good _) (by kernel_rfl) [0, 3, 4, 5, 8, 9] [501, 502, 503, 504] (notIn_ok rfl) (by kernel_rfl) fun K' hK' => ?_
        repeat (refine sxd_next fun K2 hK2 => ?_; simp [dNum, gRow, dBox, dS, binS_eq, dNil]; (repeat (refine ⟨by omega, ?_⟩)); refine hK2 _ ?_; clear hK2 K2)
        refine sxd_next fun K2 hK2 => ?_
        simp [dNum, gRow, dBox, dS, binS_eq, dNil]
        refine callQ.data (hi1) (by simp; rfl) (by simp; rfl) (by first | exact D.leGo_refl _ | simp [takeMap, List.map_map, Function.comp_def, D.le, D.le.go, D.le_refl, D.leGo_refl, dNum, gRow, dBox, dS, binS_eq, dNil]) ?_
        refine hK2 _ ?_
        clear hK2 K2
        simp only [putd, upd_lst]
        repeat (refine sxd_next fun K2 hK2 => ?_; simp [dNum, gRow, dBox, dS, binS_eq, dNil]; (repeat (refine ⟨by omega, ?_⟩)); refine hK2 _ ?_; clear hK2 K2)
        refine sxd_next fun K2 hK2 => ?_
        simp [dNum, gRow, dBox, dS, binS_eq, dNil]
        refine callQ.data (hi2) (by simp; rfl) (by simp; rfl) (by first | exact D.leGo_refl _ | simp [takeMap, List.map_map, Function.comp_def, D.le, D.le.go, D.le_refl, D.leGo_refl, dNum, gRow, dBox, dS, binS_eq, dNil]) ?_
        refine hK2 _ ?_
        clear hK2 K2
        simp only [putd, upd_lst]
        repeat (refine sxd_next fun K2 hK2 => ?_; simp [dNum, gRow, dBox, dS, binS_eq, dNil]; (repeat (refine ⟨by omega, ?_⟩)); refine hK2 _ ?_; clear hK2 K2)
        refine sxd_nil (hK' _ ?_)
        refine AW.st (by simp [dNum, gRow, dBox, dS, binS_eq, dNil]; rfl) ?_
        clear hK' K'
        refine AW_then fun K1 hK1 => ?_
        refine AW_rg (tyOf_good _) [0, 3, 4, 5, 8, 9, 35] [501, 502, 503, 504] (notIn_ok rfl) fun K' hK' => ?_
        repeat (refine sxf_next fun K2 hK2 => ?_; simp [dNum, gRow, dBox, dS, binS_eq, dNil]; (repeat (refine ⟨by omega, ?_⟩)); refine hK2 _ ?_; clear hK2 K2)
        refine sxf_nil (hK' _ ?_)
        refine AW.st (by simp [dNum, gRow, dBox, dS, binS_eq, dNil]; rfl) ?_
        clear hK' K'
        refine AW_block ?_
        refine AW_rg (tyOf_good _) [0, 3, 4, 5, 8, 9, 35, 36] [501, 502, 503, 504] (notIn_ok rfl) fun K' hK' => ?_
        repeat (refine sxf_next fun K2 hK2 => ?_; simp [dNum, gRow, dBox, dS, binS_eq, dNil]; (repeat (refine ⟨by omega, ?_⟩)); refine hK2 _ ?_; clear hK2 K2)
        refine sxf_nil (hK' _ ?_)
        refine AW.st (by simp [dNum, gRow, dBox, dS, binS_eq, dNil]; rfl) ?_
        clear hK' K'
        refine AW_cond false rfl (fun h => by cases h) (fun _ => ?_)
        refine AW_rg (tyOf_good _) [0, 3, 4, 5, 8, 9, 35, 39] [501, 502, 503, 504] (notIn_ok rfl) fun K' hK' => ?_
        repeat (refine sxf_next fun K2 hK2 => ?_; simp [dNum, gRow, dBox, dS, binS_eq, dNil]; (repeat (refine ⟨by omega, ?_⟩)); refine hK2 _ ?_; clear hK2 K2)
        refine sxf_nil (hK' _ ?_)
        refine AW.st (by simp [dNum, gRow, dBox, dS, binS_eq, dNil]; rfl) ?_
        clear hK' K'
        refine AW_cond false rfl (fun h => by cases h) (fun _ => ?_)
        refine AW_rg (tyOf_good _) [0, 3, 4, 5, 8, 9, 35, 47] [501, 502, 503, 504] (notIn_ok rfl) fun K' hK' => ?_
        repeat (refine sxf_next fun K2 hK2 => ?_; simp [dNum, gRow, dBox, dS, binS_eq, dNil]; (repeat (refine ⟨by omega, ?_⟩)); refine hK2 _ ?_; clear hK2 K2)
        refine sxf_nil (hK' _ ?_)
        refine AW.st (by simp [dNum, gRow, dBox, dS, binS_eq, dNil]; rfl) ?_
        clear hK' K'
        refine AW_cond false rfl (fun h => by cases h) (fun _ => ?_)
        refine AW_rg (tyOf_good _) [0, 3, 4, 5, 35, 55] [501, 502, 503, 504] (notIn_ok rfl) fun K' hK' => ?_
        repeat (refine sxf_next fun K2 hK2 => ?_; simp [dNum, gRow, dBox, dS, binS_eq, dNil]; (repeat (refine ⟨by omega, ?_⟩)); refine hK2 _ ?_; clear hK2 K2)
        refine sxf_nil (hK' _ ?_)
        refine AW.st (by simp [dNum, gRow, dBox, dS, binS_eq, dNil]; rfl) ?_
        clear hK' K'
        refine AW_cond false rfl (fun h => by cases h) (fun _ => ?_)
        refine AW_then fun K2 hK2 => ?_
        refine AW_rg (tyOf_good _) [0, 3, 4, 5, 35, 66] [501, 502, 503, 504] (notIn_ok rfl) fun K' hK' => ?_
        repeat (refine sxf_next fun K2 hK2 => ?_; simp [dNum, gRow, dBox, dS, binS_eq, dNil]; (repeat (refine ⟨by omega, ?_⟩)); refine hK2 _ ?_; clear hK2 K2)
        refine sxf_nil (hK' _ ?_)
        refine AW.st (by simp [dNum, gRow, dBox, dS, binS_eq, dNil]; rfl) ?_
        clear hK' K'
        refine AW_cond false rfl (fun h => by cases h) (fun _ => ?_)
        refine AW_re (tyOf_good _) fun K' hK' => ?_
        repeat (refine sxf_next fun K2 hK2 => ?_; simp [dNum, gRow, dBox, dS, binS_eq, dNil]; (repeat (refine ⟨by omega, ?_⟩)); refine hK2 _ ?_; clear hK2 K2)
        refine sxf_nil (hK' _ ?_)
        clear hK' K'
        refine hK2 _ (AW.norm [0, 3, 4, 5, 66] [501, 502, 503, 504] (notIn_ok rfl) (AW.st (by simp [dNum, gRow, dBox, dS, binS_eq, dNil]; rfl) ?_))
        refine AW_cond false rfl (fun h => by cases h) (fun _ => ?_)
        refine AW_skip (hK1 _ ?_)
        refine AW_rg (tyOf_good _) [0, 5] [501, 502, 503, 504] (notIn_ok rfl) fun K' hK' => ?_
        repeat (refine sxf_next fun K2 hK2 => ?_; simp [dNum, gRow, dBox, dS, binS_eq, dNil]; (repeat (refine ⟨by omega, ?_⟩)); refine hK2 _ ?_; clear hK2 K2)
        refine sxf_nil (hK' _ ?_)
        refine AW.st (by simp [dNum, gRow, dBox, dS, binS_eq, dNil]; rfl) ?_
        clear hK' K'
        refine AW_rg (tyOf_good _) [0, 5, 14] [501, 502, 503, 504] (notIn_ok rfl) fun K' hK' => ?_
        repeat (refine sxf_next fun K2 hK2 => ?_; simp [dNum, gRow, dBox, dS, binS_eq, dNil]; (repeat (refine ⟨by omega, ?_⟩)); refine hK2 _ ?_; clear hK2 K2)
        refine sxf_nil (hK' _ ?_)
        refine AW.st (by simp [dNum, gRow, dBox, dS, binS_eq, dNil]; rfl) ?_
        clear hK' K'
        refine AW_then fun K7 hK7 => ?_
        refine AW_rg (tyOf_good _) [5, 14, 107] [501, 502, 503, 504] (notIn_ok rfl) fun K' hK' => ?_
        repeat (refine sxf_next fun K2 hK2 => ?_; simp [dNum, gRow, dBox, dS, binS_eq, dNil]; (repeat (refine ⟨by omega, ?_⟩)); refine hK2 _ ?_; clear hK2 K2)
        refine sxf_nil (hK' _ ?_)
        refine AW.st (by simp [dNum, gRow, dBox, dS, binS_eq, dNil]; rfl) ?_
        clear hK' K'
        refine AW_cond true rfl (fun _ => ?_) (fun h => by cases h)
        refine AW_re (tyOf_good _) fun K' hK' => ?_
        repeat (refine sxf_next fun K2 hK2 => ?_; simp [dNum, gRow, dBox, dS, binS_eq, dNil, dRow, dInts, htk]; (repeat (refine ⟨by omega, ?_⟩)); refine hK2 _ ?_; clear hK2 K2)
        refine sxf_nil (hK' _ ?_)
        clear hK' K'
        refine hK7 _ (AW.norm [14] [501, 502, 503, 504] (notIn_ok rfl) (AW.st (by simp [dNum, gRow, dBox, dS, binS_eq, dNil, dRow, dInts, htk]; rfl) ?_))
        refine AW_rg (tyOf_good _) [7] [501, 502, 503, 504] (notIn_ok rfl) fun K' hK' => ?_
        repeat (refine sxf_next fun K2 hK2 => ?_; simp [dNum, gRow, dBox, dS, binS_eq, dNil]; (repeat (refine ⟨by omega, ?_⟩)); refine hK2 _ ?_; clear hK2 K2)
        refine sxf_nil (hK' _ ?_)
        refine AW.st (by simp [dNum, gRow, dBox, dS, binS_eq, dNil]; rfl) ?_
        clear hK' K'
        refine AW_ret ?_
        simp [gRow, dNum, D.le, dRow, dInts, htk, dBox, dS]
      | false =>
        rw [dR]
        refine MC.of_body (tyOf_good _) Tryz.func44 rfl rfl (rs := [.tmp 7]) Tryz.results44 (by simp [Tryz.ntmps44]) rfl fun X => ?_
        simp only [Tryz.ntmps44]
        refine AW_rg (tyOf_good _) [0, 1, 2, 3, 4, 5] [501, 502, 503, 504] (notIn_ok rfl) fun K' hK' => ?_
        repeat (refine sxf_next fun K2 hK2 => ?_; simp [dNum, gRow, dBox, dS, binS_eq, dNil]; (repeat (refine ⟨by omega, ?_⟩)); refine hK2 _ ?_; clear hK2 K2)
        refine sxf_nil (hK' _ ?_)
        refine AW.st (by simp [dNum, gRow, dBox, dS, binS_eq, dNil]; rfl) ?_
        clear hK' K'
        refine AW_rd (tyOf_good _) (by kernel_rfl) [0, 3, 4, 5, 8, 9] [501, 502, 503, 504] (notIn_ok rfl) (by kernel_rfl) fun K' hK' => ?_
        repeat (refine sxd_next fun K2 hK2 => ?_; simp [dNum, gRow, dBox, dS, binS_eq, dNil]; (repeat (refine ⟨by omega, ?_⟩)); refine hK2 _ ?_; clear hK2 K2)
        refine sxd_next fun K2 hK2 => ?_
        simp [dNum, gRow, dBox, dS, binS_eq, dNil]
        refine callQ.data (hi1) (by simp; rfl) (by simp; rfl) (by first | exact D.leGo_refl _ | simp [takeMap, List.map_map, Function.comp_def, D.le, D.le.go, D.le_refl, D.leGo_refl, dNum, gRow, dBox, dS, binS_eq, dNil]) ?_
        refine hK2 _ ?_
        clear hK2 K2
        simp only [putd, upd_lst]
        repeat (refine sxd_next fun K2 hK2 => ?_; simp [dNum, gRow, dBox, dS, binS_eq, dNil]; (repeat (refine ⟨by omega, ?_⟩)); refine hK2 _ ?_; clear hK2 K2)
        refine sxd_next fun K2 hK2 => ?_
        simp [dNum, gRow, dBox, dS, binS_eq, dNil]
        refine callQ.data (hi2) (by simp; rfl) (by simp; rfl) (by first | exact D.leGo_refl _ | simp [takeMap, List.map_map, Function.comp_def, D.le, D.le.go, D.le_refl, D.leGo_refl, dNum, gRow, dBox, dS, binS_eq, dNil]) ?_
        refine hK2 _ ?_
        clear hK2 K2
        simp only [putd, upd_lst]
        repeat (refine sxd_next fun K2 hK2 => ?_; simp [dNum, gRow, dBox, dS, binS_eq, dNil]; (repeat (refine ⟨by omega, ?_⟩)); refine hK2 _ ?_; clear hK2 K2)
        refine sxd_nil (hK' _ ?_)
        refine AW.st (by simp [dNum, gRow, dBox, dS, binS_eq, dNil]; rfl) ?_
        clear hK' K'
        refine AW_then fun K1 hK1 => ?_
        refine AW_rg (tyOf_good _) [0, 3, 4, 5, 8, 9, 35] [501, 502, 503, 504] (notIn_ok rfl) fun K' hK' => ?_
        repeat (refine sxf_next fun K2 hK2 => ?_; simp [dNum, gRow, dBox, dS, binS_eq, dNil]; (repeat (refine ⟨by omega, ?_⟩)); refine hK2 _ ?_; clear hK2 K2)
        refine sxf_nil (hK' _ ?_)
        refine AW.st (by simp [dNum, gRow, dBox, dS, binS_eq, dNil]; rfl) ?_
        clear hK' K'
        refine AW_block ?_
        refine AW_rg (tyOf_good _) [0, 3, 4, 5, 8, 9, 35, 36] [501, 502, 503, 504] (notIn_ok rfl) fun K' hK' => ?_
        repeat (refine sxf_next fun K2 hK2 => ?_; simp [dNum, gRow, dBox, dS, binS_eq, dNil]; (repeat (refine ⟨by omega, ?_⟩)); refine hK2 _ ?_; clear hK2 K2)
        refine sxf_nil (hK' _ ?_)
        refine AW.st (by simp [dNum, gRow, dBox, dS, binS_eq, dNil]; rfl) ?_
        clear hK' K'
        refine AW_cond false rfl (fun h => by cases h) (fun _ => ?_)
        refine AW_rg (tyOf_good _) [0, 3, 4, 5, 8, 9, 35, 39] [501, 502, 503, 504] (notIn_ok rfl) fun K' hK' => ?_
        repeat (refine sxf_next fun K2 hK2 => ?_; simp [dNum, gRow, dBox, dS, binS_eq, dNil]; (repeat (refine ⟨by omega, ?_⟩)); refine hK2 _ ?_; clear hK2 K2)
        refine sxf_nil (hK' _ ?_)
        refine AW.st (by simp [dNum, gRow, dBox, dS, binS_eq, dNil]; rfl) ?_
        clear hK' K'
        refine AW_cond false rfl (fun h => by cases h) (fun _ => ?_)
        refine AW_rg (tyOf_good _) [0, 3, 4, 5, 8, 9, 35, 47] [501, 502, 503, 504] (notIn_ok rfl) fun K' hK' => ?_
        repeat (refine sxf_next fun K2 hK2 => ?_; simp [dNum, gRow, dBox, dS, binS_eq, dNil]; (repeat (refine ⟨by omega, ?_⟩)); refine hK2 _ ?_; clear hK2 K2)
        refine sxf_nil (hK' _ ?_)
        refine AW.st (by simp [dNum, gRow, dBox, dS, binS_eq, dNil]; rfl) ?_
        clear hK' K'
        refine AW_cond false rfl (fun h => by cases h) (fun _ => ?_)
        refine AW_rg (tyOf_good _) [0, 3, 4, 5, 35, 55] [501, 502, 503, 504] (notIn_ok rfl) fun K' hK' => ?_
        repeat (refine sxf_next fun K2 hK2 => ?_; simp [dNum, gRow, dBox, dS, binS_eq, dNil]; (repeat (refine ⟨by omega, ?_⟩)); refine hK2 _ ?_; clear hK2 K2)
        refine sxf_nil (hK' _ ?_)
        refine AW.st (by simp [dNum, gRow, dBox, dS, binS_eq, dNil]; rfl) ?_
        clear hK' K'
        refine AW_cond false rfl (fun h => by cases h) (fun _ => ?_)
        refine AW_then fun K2 hK2 => ?_
        refine AW_rg (tyOf_good _) [0, 3, 4, 5, 35, 66] [501, 502, 503, 504] (notIn_ok rfl) fun K' hK' => ?_
        repeat (refine sxf_next fun K2 hK2 => ?_; simp [dNum, gRow, dBox, dS, binS_eq, dNil]; (repeat (refine ⟨by omega, ?_⟩)); refine hK2 _ ?_; clear hK2 K2)
        refine sxf_nil (hK' _ ?_)
        refine AW.st (by simp [dNum, gRow, dBox, dS, binS_eq, dNil]; rfl) ?_
        clear hK' K'
        refine AW_cond false rfl (fun h => by cases h) (fun _ => ?_)
        refine AW_re (tyOf_good _) fun K' hK' => ?_
        repeat (refine sxf_next fun K2 hK2 => ?_; simp [dNum, gRow, dBox, dS, binS_eq, dNil]; (repeat (refine ⟨by omega, ?_⟩)); refine hK2 _ ?_; clear hK2 K2)
        refine sxf_nil (hK' _ ?_)
        clear hK' K'
        refine hK2 _ (AW.norm [0, 3, 4, 5, 66] [501, 502, 503, 504] (notIn_ok rfl) (AW.st (by simp [dNum, gRow, dBox, dS, binS_eq, dNil]; rfl) ?_))
        refine AW_cond false rfl (fun h => by cases h) (fun _ => ?_)
        refine AW_skip (hK1 _ ?_)
        refine AW_rg (tyOf_good _) [0, 5] [501, 502, 503, 504] (notIn_ok rfl) fun K' hK' => ?_
        repeat (refine sxf_next fun K2 hK2 => ?_; simp [dNum, gRow, dBox, dS, binS_eq, dNil]; (repeat (refine ⟨by omega, ?_⟩)); refine hK2 _ ?_; clear hK2 K2)
        refine sxf_nil (hK' _ ?_)
        refine AW.st (by simp [dNum, gRow, dBox, dS, binS_eq, dNil]; rfl) ?_
        clear hK' K'
        refine AW_rg (tyOf_good _) [0, 5, 14] [501, 502, 503, 504] (notIn_ok rfl) fun K' hK' => ?_
        repeat (refine sxf_next fun K2 hK2 => ?_; simp [dNum, gRow, dBox, dS, binS_eq, dNil]; (repeat (refine ⟨by omega, ?_⟩)); refine hK2 _ ?_; clear hK2 K2)
        refine sxf_nil (hK' _ ?_)
        refine AW.st (by simp [dNum, gRow, dBox, dS, binS_eq, dNil]; rfl) ?_
        clear hK' K'
        refine AW_then fun K7 hK7 => ?_
        refine AW_rg (tyOf_good _) [5, 14, 107] [501, 502, 503, 504] (notIn_ok rfl) fun K' hK' => ?_
        repeat (refine sxf_next fun K2 hK2 => ?_; simp [dNum, gRow, dBox, dS, binS_eq, dNil]; (repeat (refine ⟨by omega, ?_⟩)); refine hK2 _ ?_; clear hK2 K2)
        refine sxf_nil (hK' _ ?_)
        refine AW.st (by simp [dNum, gRow, dBox, dS, binS_eq, dNil]; rfl) ?_
        clear hK' K'
        refine AW_cond false rfl (fun h => by cases h) (fun _ => ?_)
        refine AW_re (tyOf_good _) fun K' hK' => ?_
        repeat (refine sxf_next fun K2 hK2 => ?_; simp [dNum, gRow, dBox, dS, binS_eq, dNil, dRow, dInts, htk]; (repeat (refine ⟨by omega, ?_⟩)); refine hK2 _ ?_; clear hK2 K2)
        refine sxf_nil (hK' _ ?_)
        clear hK' K'
        refine hK7 _ (AW.norm [14] [501, 502, 503, 504] (notIn_ok rfl) (AW.st (by simp [dNum, gRow, dBox, dS, binS_eq, dNil, dRow, dInts, htk]; rfl) ?_))
        refine AW_rg (tyOf_good _) [7] [501, 502, 503, 504] (notIn_ok rfl) fun K' hK' => ?_
        repeat (refine sxf_next fun K2 hK2 => ?_; simp [dNum, gRow, dBox, dS, binS_eq, dNil]; (repeat (refine ⟨by omega, ?_⟩)); refine hK2 _ ?_; clear hK2 K2)
        refine sxf_nil (hK' _ ?_)
        refine AW.st (by simp [dNum, gRow, dBox, dS, binS_eq, dNil]; rfl) ?_
        clear hK' K'
        refine AW_ret ?_
        simp [gRow, dNum, D.le, dRow, dInts, htk, dBox, dS]
end Go.Proofs.YtagfbbnlbncjlaaGreatDoor

/-
  read, and what ExprTidies says.
-/
namespace Go.Proofs.YtagfbbnlbncjlaaGreatDoor
set_option linter.unusedSimpArgs false
set_option linter.unusedVariables false
open Go.Av

def readE (t : List UInt8) : Option Ex := if 1000 < t.length then none else (parseM t).1
def dRead : Option Ex → D
  | none => .tup [.v .nilIface, .v (.pointer none), .v (.bool false)]
  | some x => .tup [dE x, dR x, .v (.bool true)]

set_option maxHeartbeats 4000000 in
theorem read_spec (G : Glob) (hF : HasFine G) (t : List UInt8) : PureC Tryz.prog G 8 [dS t] (dRead (readE t)) := by
  unfold readE
  by_cases hl : 1000 < t.length
  · have hl' : (1000 : Int) < (t.length : Int) := by omega
    rw [if_pos hl]
    refine PureC.of_body (tyOf_good _) Tryz.func8 rfl rfl (rs := [.tmp 2, .tmp 3, .tmp 4]) Tryz.results8 (by simp [Tryz.ntmps8]) fun X => ?_
    simp only [Tryz.ntmps8, List.map]
    refine AW_rg (tyOf_good _) [0] [] (fun _ _ => trivial) fun K' hK' => ?_
    repeat (refine sxf_next fun K2 hK2 => ?_; simp [dNum, dS]; (repeat (refine ⟨by omega, ?_⟩)); refine hK2 _ ?_; clear hK2 K2)
    refine sxf_nil (hK' _ ?_)
    refine AW.st (by simp [dNum, dS]; rfl) ?_
    clear hK' K'
    refine AW_then fun K1 hK1 => ?_
    refine AW_rg (tyOf_good _) [0, 11] [] (fun _ _ => trivial) fun K' hK' => ?_
    repeat (refine sxf_next fun K2 hK2 => ?_; simp [dNum, dS, bs_size, hl, hl']; (repeat (refine ⟨by omega, ?_⟩)); refine hK2 _ ?_; clear hK2 K2)
    refine sxf_nil (hK' _ ?_)
    refine AW.st (by simp [dNum, dS, bs_size, hl, hl']; rfl) ?_
    clear hK' K'
    refine AW_cond true rfl (fun _ => ?_) (fun h => by cases h)
    refine AW_rg (tyOf_good _) [2, 3, 4] [] (fun _ _ => trivial) fun K' hK' => ?_
    repeat (refine sxf_next fun K2 hK2 => ?_; simp [dNum, dS]; (repeat (refine ⟨by omega, ?_⟩)); refine hK2 _ ?_; clear hK2 K2)
    refine sxf_nil (hK' _ ?_)
    refine AW.st (by simp [dNum, dS]; rfl) ?_
    clear hK' K'
    refine AW_ret ?_
    simp [D.le, D.le.go, takeMap, dNum, dS, dRead]
  have hl' : ¬ (1000 : Int) < (t.length : Int) := by omega
  rw [if_neg hl]
  have hrp := rparse_spec G hF t (by omega)
  have hep := parse_spec G t (by omega)
  cases he : (parseM t).2 with
  | some e =>
    obtain ⟨c, p⟩ := e
    have h0 : ¬ c = 0 := by have := parse_pos he; omega
    have hn := parse_none he
    rw [he, hn] at hrp
    rw [hn]
    refine PureC.of_body (tyOf_good _) Tryz.func8 rfl rfl (rs := [.tmp 2, .tmp 3, .tmp 4]) Tryz.results8 (by simp [Tryz.ntmps8]) fun X => ?_
    simp only [Tryz.ntmps8, List.map]
    refine AW_rg (tyOf_good _) [0] [] (fun _ _ => trivial) fun K' hK' => ?_
    repeat (refine sxf_next fun K2 hK2 => ?_; simp [dNum, dS]; (repeat (refine ⟨by omega, ?_⟩)); refine hK2 _ ?_; clear hK2 K2)
    refine sxf_nil (hK' _ ?_)
    refine AW.st (by simp [dNum, dS]; rfl) ?_
    clear hK' K'
    refine AW_then fun K1 hK1 => ?_
    refine AW_rg (tyOf_good _) [0, 11] [] (fun _ _ => trivial) fun K' hK' => ?_
    repeat (refine sxf_next fun K2 hK2 => ?_; simp [dNum, dS, bs_size, hl, hl']; (repeat (refine ⟨by omega, ?_⟩)); refine hK2 _ ?_; clear hK2 K2)
    refine sxf_nil (hK' _ ?_)
    refine AW.st (by simp [dNum, dS, bs_size, hl, hl']; rfl) ?_
    clear hK' K'
    refine AW_cond false rfl (fun h => by cases h) (fun _ => ?_)
    refine AW_skip (hK1 _ ?_)
    refine AW_rg (tyOf_good _) [0, 5, 6] [6] (fun _ _ => trivial) fun K' hK' => ?_
    repeat (refine sxf_next fun K2 hK2 => ?_; simp [dNum, dS, dOR, dFault, codeF, placeF]; (repeat (refine ⟨by omega, ?_⟩)); refine hK2 _ ?_; clear hK2 K2)
    refine sxf_next fun K2 hK2 => ?_
    simp [dNum, dS, dOR, dFault, codeF, placeF]
    refine callK.data (hrp) (by simp; rfl) (by first | exact D.leGo_refl _ | simp [takeMap, List.map_map, Function.comp_def, D.le, D.le.go, D.le_refl, D.leGo_refl, dNum, dS, dOR, dFault, codeF, placeF]) ?_
    refine hK2 _ ?_
    clear hK2 K2
    simp only [putd, upd_lst]
    repeat (refine sxf_next fun K2 hK2 => ?_; simp [dNum, dS, dOR, dFault, codeF, placeF]; (repeat (refine ⟨by omega, ?_⟩)); refine hK2 _ ?_; clear hK2 K2)
    refine sxf_nil (hK' _ ?_)
    refine AW.st (by simp [dNum, dS, dOR, dFault, codeF, placeF]; rfl) ?_
    clear hK' K'
    refine AW_then fun K2 hK2 => ?_
    refine AW_rg (tyOf_good _) [0, 5, 19] [6] (fun _ _ => trivial) fun K' hK' => ?_
    repeat (refine sxf_next fun K2 hK2 => ?_; simp [dNum, dS, h0]; (repeat (refine ⟨by omega, ?_⟩)); refine hK2 _ ?_; clear hK2 K2)
    refine sxf_nil (hK' _ ?_)
    refine AW.st (by simp [dNum, dS, h0]; rfl) ?_
    clear hK' K'
    refine AW_cond true rfl (fun _ => ?_) (fun h => by cases h)
    refine AW_rg (tyOf_good _) [2, 3, 4] [6] (fun _ _ => trivial) fun K' hK' => ?_
    repeat (refine sxf_next fun K2 hK2 => ?_; simp [dNum, dS]; (repeat (refine ⟨by omega, ?_⟩)); refine hK2 _ ?_; clear hK2 K2)
    refine sxf_nil (hK' _ ?_)
    refine AW.st (by simp [dNum, dS]; rfl) ?_
    clear hK' K'
    refine AW_ret ?_
    simp [D.le, D.le.go, takeMap, dNum, dS, dRead]
  | none =>
    obtain ⟨x, hx⟩ := parse_some he
    obtain ⟨cx, hcx⟩ := dR_ip x
    obtain ⟨tx, dx, hdx⟩ := dE_ifc x
    rw [he, hx] at hrp hep
    rw [hx]
    simp only [dOR, dOE, dRead] at hrp hep ⊢
    rw [hcx] at hrp ⊢
    rw [hdx] at hep ⊢
    refine PureC.of_body (tyOf_good _) Tryz.func8 rfl rfl (rs := [.tmp 2, .tmp 3, .tmp 4]) Tryz.results8 (by simp [Tryz.ntmps8]) fun X => ?_
    simp only [Tryz.ntmps8, List.map]
    refine AW_rg (tyOf_good _) [0] [] (fun _ _ => trivial) fun K' hK' => ?_
    repeat (refine sxf_next fun K2 hK2 => ?_; simp [dNum, dS]; (repeat (refine ⟨by omega, ?_⟩)); refine hK2 _ ?_; clear hK2 K2)
    refine sxf_nil (hK' _ ?_)
    refine AW.st (by simp [dNum, dS]; rfl) ?_
    clear hK' K'
    refine AW_then fun K1 hK1 => ?_
    refine AW_rg (tyOf_good _) [0, 11] [] (fun _ _ => trivial) fun K' hK' => ?_
    repeat (refine sxf_next fun K2 hK2 => ?_; simp [dNum, dS, bs_size, hl, hl']; (repeat (refine ⟨by omega, ?_⟩)); refine hK2 _ ?_; clear hK2 K2)
    refine sxf_nil (hK' _ ?_)
    refine AW.st (by simp [dNum, dS, bs_size, hl, hl']; rfl) ?_
    clear hK' K'
    refine AW_cond false rfl (fun h => by cases h) (fun _ => ?_)
    refine AW_skip (hK1 _ ?_)
    refine AW_rg (tyOf_good _) [0, 5, 6] [6] (fun _ _ => trivial) fun K' hK' => ?_
    repeat (refine sxf_next fun K2 hK2 => ?_; simp [dNum, dS, dFault, codeF, placeF]; (repeat (refine ⟨by omega, ?_⟩)); refine hK2 _ ?_; clear hK2 K2)
    refine sxf_next fun K2 hK2 => ?_
    simp [dNum, dS, dFault, codeF, placeF]
    refine callK.data (hrp) (by simp; rfl) (by first | exact D.leGo_refl _ | simp [takeMap, List.map_map, Function.comp_def, D.le, D.le.go, D.le_refl, D.leGo_refl, dNum, dS, dFault, codeF, placeF]) ?_
    refine hK2 _ ?_
    clear hK2 K2
    simp only [putd, upd_lst]
    repeat (refine sxf_next fun K2 hK2 => ?_; simp [dNum, dS, dFault, codeF, placeF]; (repeat (refine ⟨by omega, ?_⟩)); refine hK2 _ ?_; clear hK2 K2)
    refine sxf_nil (hK' _ ?_)
    refine AW.st (by simp [dNum, dS, dFault, codeF, placeF]; rfl) ?_
    clear hK' K'
    refine AW_then fun K2 hK2 => ?_
    refine AW_rg (tyOf_good _) [0, 5, 19] [6] (fun _ _ => trivial) fun K' hK' => ?_
    repeat (refine sxf_next fun K2 hK2 => ?_; simp [dNum, dS]; (repeat (refine ⟨by omega, ?_⟩)); refine hK2 _ ?_; clear hK2 K2)
    refine sxf_nil (hK' _ ?_)
    refine AW.st (by simp [dNum, dS]; rfl) ?_
    clear hK' K'
    refine AW_cond false rfl (fun h => by cases h) (fun _ => ?_)
    refine AW_skip (hK2 _ ?_)
    refine AW_rg (tyOf_good _) [5, 7, 8] [6] (fun _ _ => trivial) fun K' hK' => ?_
    repeat (refine sxf_next fun K2 hK2 => ?_; simp [dNum, dS, dErr]; (repeat (refine ⟨by omega, ?_⟩)); refine hK2 _ ?_; clear hK2 K2)
    refine sxf_next fun K2 hK2 => ?_
    simp [dNum, dS, dErr]
    refine callK.data (hep) (by simp; rfl) (by first | exact D.leGo_refl _ | simp [takeMap, List.map_map, Function.comp_def, D.le, D.le.go, D.le_refl, D.leGo_refl, dNum, dS, dErr]) ?_
    refine hK2 _ ?_
    clear hK2 K2
    simp only [putd, upd_lst]
    repeat (refine sxf_next fun K2 hK2 => ?_; simp [dNum, dS, dErr]; (repeat (refine ⟨by omega, ?_⟩)); refine hK2 _ ?_; clear hK2 K2)
    refine sxf_nil (hK' _ ?_)
    refine AW.st (by simp [dNum, dS, dErr]; rfl) ?_
    clear hK' K'
    refine AW_then fun K3 hK3 => ?_
    refine AW_rg (tyOf_good _) [5, 7, 26] [6] (fun _ _ => trivial) fun K' hK' => ?_
    repeat (refine sxf_next fun K2 hK2 => ?_; simp [dNum, dS]; (repeat (refine ⟨by omega, ?_⟩)); refine hK2 _ ?_; clear hK2 K2)
    refine sxf_nil (hK' _ ?_)
    refine AW.st (by simp [dNum, dS]; rfl) ?_
    clear hK' K'
    refine AW_cond false rfl (fun h => by cases h) (fun _ => ?_)
    refine AW_skip (hK3 _ ?_)
    refine AW_rg (tyOf_good _) [2, 3, 4] [6] (fun _ _ => trivial) fun K' hK' => ?_
    repeat (refine sxf_next fun K2 hK2 => ?_; simp [dNum, dS]; (repeat (refine ⟨by omega, ?_⟩)); refine hK2 _ ?_; clear hK2 K2)
    refine sxf_nil (hK' _ ?_)
    refine AW.st (by simp [dNum, dS]; rfl) ?_
    clear hK' K'
    refine AW_ret ?_
    simp [D.le, D.le.go, takeMap, dNum, dS, D.le_refl, D.leGo_refl]
theorem readE_some {t : List UInt8} {x : Ex} (h : readE t = some x) : (parseM t).1 = some x := by
  unfold readE at h
  split at h
  · cases h
  · exact h

end Go.Proofs.YtagfbbnlbncjlaaGreatDoor

/-
  The document's GateOf, whole; what GateMakes says.
-/
namespace Go.Proofs.YtagfbbnlbncjlaaGreatDoor
set_option linter.unusedSimpArgs false
set_option linter.unusedVariables false
open Go.Av

set_option maxHeartbeats 16000000 in
theorem rgof_spec (G : Glob) (hM : HasMax G) (e : Ex) (hw : WfE e) (hb : bE e ≤ 2^28) (hs3 : szN e ≤ 300) : PureC Tryz.prog G 16 [dR e] (.tup [dCl (tsE e).2.1 (tsE e).2.2, dNum (tsE e).1]) := by
  unfold tsE
  have hns := rnames_spec G hM e hb
  have hes := redges_spec G hM e hb
  have hN : ∀ s ∈ nmsE true e, s ∈ namesE true e := fun s hs => namesE_mem.2 hs
  have hE : ∀ s ∈ nmsE false e, s ∈ namesE false e := fun s hs => namesE_mem.2 hs
  have hl1 := names_sz true e
  have hl2 := names_sz false e
  generalize namesE true e = ns at *
  generalize namesE false e = es at *
  have hlit := rlit_spec G ns es (by omega) (by omega) _ e (Nat.le_refl _) hN hE hw (ns.length + es.length) [] (Nat.le_refl _) (by omega) (by simp; omega)
  have hts : litG ns es e (ns.length + es.length, []) = tsC ns es e := rfl
  rw [hts] at hlit
  generalize tsC ns es e = R at hlit ⊢
  obtain ⟨c, hec⟩ := dR_ip e
  rw [hec] at hns hes hlit ⊢
  refine PureC.of_body (tyOf_good _) Tryz.func16 rfl rfl (rs := [.cell 2 49, .tmp 3]) Tryz.results16 (by simp [Tryz.ntmps16]) fun X => ?_
  simp only [Tryz.ntmps16, List.map]
  refine AW_rg (tyOf_good _) [0, 2] [2] (fun _ _ => trivial) fun K' hK' => ?_
  repeat (refine sxf_next fun K2 hK2 => ?_; simp [dNum, dCl, gRow, dBox]; (repeat (refine ⟨by omega, ?_⟩)); refine hK2 _ ?_; clear hK2 K2)
  refine sxf_nil (hK' _ ?_)
  refine AW.st (by simp [dNum, dCl, gRow, dBox]; rfl) ?_
  clear hK' K'
  refine AW_rg (tyOf_good _) [0, 2, 4] [2, 4] (fun _ _ => trivial) fun K' hK' => ?_
  repeat (refine sxf_next fun K2 hK2 => ?_; simp [dNum, dCl, gRow, dBox]; (repeat (refine ⟨by omega, ?_⟩)); refine hK2 _ ?_; clear hK2 K2)
  refine sxf_nil (hK' _ ?_)
  refine AW.st (by simp [dNum, dCl, gRow, dBox]; rfl) ?_
  clear hK' K'
  refine AW_rg (tyOf_good _) [0, 2, 4, 5, 6] [2, 4, 5, 6] (fun _ _ => trivial) fun K' hK' => ?_
  repeat (refine sxf_next fun K2 hK2 => ?_; simp [dNum, dCl, gRow, dBox]; (repeat (refine ⟨by omega, ?_⟩)); refine hK2 _ ?_; clear hK2 K2)
  refine sxf_next fun K2 hK2 => ?_
  simp [dNum, dCl, gRow, dBox]
  refine callK.data (hns) (by simp; rfl) (by first | exact D.leGo_refl _ | simp [takeMap, List.map_map, Function.comp_def, D.le, D.le.go, D.le_refl, D.leGo_refl, dNum, dCl, gRow, dBox]) ?_
  refine hK2 _ ?_
  clear hK2 K2
  simp only [putd, upd_lst]
  repeat (refine sxf_next fun K2 hK2 => ?_; simp [dNum, dCl, gRow, dBox]; (repeat (refine ⟨by omega, ?_⟩)); refine hK2 _ ?_; clear hK2 K2)
  refine sxf_next fun K2 hK2 => ?_
  simp [dNum, dCl, gRow, dBox]
  refine callK.data (hes) (by simp; rfl) (by first | exact D.leGo_refl _ | simp [takeMap, List.map_map, Function.comp_def, D.le, D.le.go, D.le_refl, D.leGo_refl, dNum, dCl, gRow, dBox]) ?_
  refine hK2 _ ?_
  clear hK2 K2
  simp only [putd, upd_lst]
  repeat (refine sxf_next fun K2 hK2 => ?_; simp [dNum, dCl, gRow, dBox]; (repeat (refine ⟨by omega, ?_⟩)); refine hK2 _ ?_; clear hK2 K2)
  refine sxf_nil (hK' _ ?_)
  refine AW.st (by simp [dNum, dCl, gRow, dBox]; rfl) ?_
  clear hK' K'
  refine AW.imp (Imp.freezeB 5 trivial) ?_
  refine AW.st (by simp [dNum, dCl, gRow, dBox]; rfl) ?_
  refine AW.imp (Imp.freezeB 6 trivial) ?_
  refine AW.st (by simp [dNum, dCl, gRow, dBox]; rfl) ?_
  refine AW_rg (tyOf_good _) [0, 2, 4, 5, 6] [2, 4] (fun _ _ => trivial) fun K' hK' => ?_
  repeat (refine sxf_next fun K2 hK2 => ?_; simp [dNum, dCl, gRow, dBox]; (repeat (refine ⟨by omega, ?_⟩)); refine hK2 _ ?_; clear hK2 K2)
  refine sxf_nil (hK' _ ?_)
  refine AW.st (by simp [dNum, dCl, gRow, dBox]; rfl) ?_
  clear hK' K'
  refine AW_rg (tyOf_good _) [0, 2, 4, 5, 6, 7] [2, 4, 7] (fun _ _ => trivial) fun K' hK' => ?_
  repeat (refine sxf_next fun K2 hK2 => ?_; simp [dNum, dCl, gRow, dBox]; (repeat (refine ⟨by omega, ?_⟩)); refine hK2 _ ?_; clear hK2 K2)
  refine sxf_nil (hK' _ ?_)
  refine AW.st (by simp [dNum, dCl, gRow, dBox]; rfl) ?_
  clear hK' K'
  refine AW_rg (tyOf_good _) [0, 2, 4, 5, 6, 7, 8] [2, 4, 7, 8] (fun _ _ => trivial) fun K' hK' => ?_
  repeat (refine sxf_next fun K2 hK2 => ?_; simp [dNum, dCl, gRow, dBox]; (repeat (refine ⟨by omega, ?_⟩)); refine hK2 _ ?_; clear hK2 K2)
  refine sxf_nil (hK' _ ?_)
  refine AW.st (by simp [dNum, dCl, gRow, dBox]; rfl) ?_
  clear hK' K'
  refine AW_rg (tyOf_good _) [0, 2, 4, 7] [2, 4, 7, 8] (fun _ _ => trivial) fun K' hK' => ?_
  repeat (refine sxf_next fun K2 hK2 => ?_; simp [dNum, dCl, gRow, dBox]; (repeat (refine ⟨by omega, ?_⟩)); refine hK2 _ ?_; clear hK2 K2)
  refine sxf_nil (hK' _ ?_)
  refine AW.st (by simp [dNum, dCl, gRow, dBox]; rfl) ?_
  clear hK' K'
  refine AW.imp (Imp.ren (r := 4) (r' := 501) trivial (by simp)) ?_
  refine AW.st (by simp [renO, renF, Go.Av.ren, renH_hlst]; rfl) ?_
  refine AW.imp (Imp.ren (r := 7) (r' := 504) trivial (by simp)) ?_
  refine AW.st (by simp [renO, renF, Go.Av.ren, renH_hlst]; rfl) ?_
  refine AW.imp (Imp.ren (r := 8) (r' := 503) trivial (by simp)) ?_
  refine AW.st (by simp [renO, renF, Go.Av.ren, renH_hlst]; rfl) ?_
  refine AW.imp (Imp.adoptCell 501 1 502 58 1 rfl rfl rfl) ?_
  refine AW.imp (τ := ⟨lst [(0, .d (.ip c)), (2, .ref 2 0 0), (4, .ref 501 0 0), (7, .ref 504 0 0)], hlst (gRow ns es (ns.length + es.length) [] ++ [(2, .box 49 [int 0, .d (.sl (some false) [])])])⟩) ?_ ?_
  · refine Imp.to' (fun _ _ => trivial) (by simp [dNum, dCl, gRow, dBox]) (by simp [dNum, dCl, gRow, dBox])
  refine AW_rg (tyOf_good _) [2, 4, 9] [2, 501, 502, 503, 504] (fun _ _ => trivial) fun K' hK' => ?_
  repeat (refine sxf_next fun K2 hK2 => ?_; simp [dNum, dCl, gRow, dBox]; (repeat (refine ⟨by omega, ?_⟩)); refine hK2 _ ?_; clear hK2 K2)
  refine sxf_next fun K2 hK2 => ?_
  simp [dNum, dCl, gRow, dBox]
  refine callK.mc (hlit) (by simp [dNum, dCl, gRow, dBox]) (by simp [dNum, dCl, gRow, dBox]) (by simp [dNum, dCl, gRow, dBox]) (by simp [dNum, dCl, gRow, dBox]) ?_
  simp [dNum, dCl, gRow, dBox]
  refine hK2 _ ?_
  clear hK2 K2
  repeat (refine sxf_next fun K2 hK2 => ?_; simp [dNum, dCl, gRow, dBox]; (repeat (refine ⟨by omega, ?_⟩)); refine hK2 _ ?_; clear hK2 K2)
  refine sxf_nil (hK' _ ?_)
  refine AW.st (by simp [dNum, dCl, gRow, dBox]; rfl) ?_
  clear hK' K'
  refine AW_rg (tyOf_good _) [2, 3] [2, 501, 502] (fun _ _ => trivial) fun K' hK' => ?_
  repeat (refine sxf_next fun K2 hK2 => ?_; simp [dNum, dCl, gRow, dBox]; (repeat (refine ⟨by omega, ?_⟩)); refine hK2 _ ?_; clear hK2 K2)
  refine sxf_nil (hK' _ ?_)
  refine AW.st (by simp [dNum, dCl, gRow, dBox]; rfl) ?_
  clear hK' K'
  have htk : List.take R.2.2.length (R.2.2.map fun l => [dRow l]) = R.2.2.map fun l => [dRow l] := List.take_of_length_le (by simp)
  refine AW.imp (Imp.freeze 502 trivial) ?_
  refine AW.st (by simp [dNum, dCl, gRow, dBox, htk]; rfl) ?_
  refine AW_ret ?_
  simp [D.le, D.le.go, takeMap, dNum, dCl, gRow, dBox, dRows, htk]
set_option maxHeartbeats 16000000 in
theorem gmakes_spec (G : Glob) (hG : HasErr G) (hF : HasFine G) (hM : HasMax G) (t : List UInt8) : PureC Tryz.prog G 4 [dS t] (.v (.bool true)) := by
  have hrd := read_spec G hF t
  cases hr : readE t with
  | none =>
    rw [hr] at hrd
    refine PureC.of_body (tyOf_good _) Tryz.func4 rfl rfl (rs := [.tmp 2]) Tryz.results4 (by simp [Tryz.ntmps4]) fun X => ?_
    simp only [Tryz.ntmps4, List.map]
    refine AW_rg (tyOf_good _) [0] [] (fun _ _ => trivial) fun K' hK' => ?_
    repeat (refine sxf_next fun K2 hK2 => ?_; simp [dNum, dCl, gRow, dBox]; (repeat (refine ⟨by omega, ?_⟩)); refine hK2 _ ?_; clear hK2 K2)
    refine sxf_nil (hK' _ ?_)
    refine AW.st (by simp [dNum, dCl, gRow, dBox]; rfl) ?_
    clear hK' K'
    refine AW_rg (tyOf_good _) [3, 4, 5] [] (fun _ _ => trivial) fun K' hK' => ?_
    repeat (refine sxf_next fun K2 hK2 => ?_; simp [dNum, dCl, gRow, dBox, dRead]; (repeat (refine ⟨by omega, ?_⟩)); refine hK2 _ ?_; clear hK2 K2)
    refine sxf_next fun K2 hK2 => ?_
    simp [dNum, dCl, gRow, dBox, dRead]
    refine callK.data (hrd) (by simp; rfl) (by first | exact D.leGo_refl _ | simp [takeMap, List.map_map, Function.comp_def, D.le, D.le.go, D.le_refl, D.leGo_refl, dNum, dCl, gRow, dBox, dRead]) ?_
    refine hK2 _ ?_
    clear hK2 K2
    simp only [putd, upd_lst]
    repeat (refine sxf_next fun K2 hK2 => ?_; simp [dNum, dCl, gRow, dBox, dRead]; (repeat (refine ⟨by omega, ?_⟩)); refine hK2 _ ?_; clear hK2 K2)
    refine sxf_nil (hK' _ ?_)
    refine AW.st (by simp [dNum, dCl, gRow, dBox, dRead]; rfl) ?_
    clear hK' K'
    refine AW_then fun K1 hK1 => ?_
    refine AW_rg (tyOf_good _) [3, 4, 21] [] (fun _ _ => trivial) fun K' hK' => ?_
    repeat (refine sxf_next fun K2 hK2 => ?_; simp [dNum, dCl, gRow, dBox]; (repeat (refine ⟨by omega, ?_⟩)); refine hK2 _ ?_; clear hK2 K2)
    refine sxf_nil (hK' _ ?_)
    refine AW.st (by simp [dNum, dCl, gRow, dBox]; rfl) ?_
    clear hK' K'
    refine AW_cond true rfl (fun _ => ?_) (fun h => by cases h)
    refine AW_rg (tyOf_good _) [2] [] (fun _ _ => trivial) fun K' hK' => ?_
    repeat (refine sxf_next fun K2 hK2 => ?_; simp [dNum, dCl, gRow, dBox]; (repeat (refine ⟨by omega, ?_⟩)); refine hK2 _ ?_; clear hK2 K2)
    refine sxf_nil (hK' _ ?_)
    refine AW.st (by simp [dNum, dCl, gRow, dBox]; rfl) ?_
    clear hK' K'
    refine AW_ret ?_
    simp [D.le, D.le.go, takeMap, dNum, dCl, gRow, dBox]
  | some x =>
    rw [hr] at hrd
    have hp := readE_some hr
    have hb := parse_b hp
    obtain ⟨hwf, _⟩ := parse_wf hp
    simp only [dRead] at hrd
    have hnil := gof_nil G
    have hb7 := bare_spec G hG 7
    have hrz := rsize_spec G x (by omega)
    obtain ⟨tx, cx, hcx⟩ := dE_ifc x
    obtain ⟨rx, hrx⟩ := dR_ip x
    simp only [errOf, dErr] at hb7 hnil
    by_cases h3 : 300 < szN x
    · have h3' : (300 : Int) < (szN x : Int) := by omega
      have hof := gof_limit G x (by omega) h3
      have hb4 := bare_spec G hG 4
      simp only [errOf, dErr] at hb4 hof
      rw [hcx] at hrd hof
      rw [hrx] at hrd hrz
      refine PureC.of_body (tyOf_good _) Tryz.func4 rfl rfl (rs := [.tmp 2]) Tryz.results4 (by simp [Tryz.ntmps4]) fun X => ?_
      simp only [Tryz.ntmps4, List.map]
      refine AW_rg (tyOf_good _) [0] [] (fun _ _ => trivial) fun K' hK' => ?_
      repeat (refine sxf_next fun K2 hK2 => ?_; simp [dNum]; (repeat (refine ⟨by omega, ?_⟩)); refine hK2 _ ?_; clear hK2 K2)
      refine sxf_nil (hK' _ ?_)
      refine AW.st (by simp [dNum]; rfl) ?_
      clear hK' K'
      refine AW_rg (tyOf_good _) [3, 4, 5] [] (fun _ _ => trivial) fun K' hK' => ?_
      repeat (refine sxf_next fun K2 hK2 => ?_; simp [dNum]; (repeat (refine ⟨by omega, ?_⟩)); refine hK2 _ ?_; clear hK2 K2)
      refine sxf_next fun K2 hK2 => ?_
      simp [dNum]
      refine callK.data (hrd) (by simp; rfl) (by first | exact D.leGo_refl _ | simp [takeMap, List.map_map, Function.comp_def, D.le, D.le.go, D.le_refl, D.leGo_refl, dNum]) ?_
      refine hK2 _ ?_
      clear hK2 K2
      simp only [putd, upd_lst]
      repeat (refine sxf_next fun K2 hK2 => ?_; simp [dNum]; (repeat (refine ⟨by omega, ?_⟩)); refine hK2 _ ?_; clear hK2 K2)
      refine sxf_nil (hK' _ ?_)
      refine AW.st (by simp [dNum]; rfl) ?_
      clear hK' K'
      refine AW_then fun K1 hK1 => ?_
      refine AW_rg (tyOf_good _) [3, 4, 21] [] (fun _ _ => trivial) fun K' hK' => ?_
      repeat (refine sxf_next fun K2 hK2 => ?_; simp [dNum]; (repeat (refine ⟨by omega, ?_⟩)); refine hK2 _ ?_; clear hK2 K2)
      refine sxf_nil (hK' _ ?_)
      refine AW.st (by simp [dNum]; rfl) ?_
      clear hK' K'
      refine AW_cond false rfl (fun h => by cases h) (fun _ => ?_)
      refine AW_skip (hK1 _ ?_)
      refine AW_rg (tyOf_good _) [3, 4, 6, 7, 8] [6] (fun _ _ => trivial) fun K' hK' => ?_
      repeat (refine sxf_next fun K2 hK2 => ?_; simp [dNum]; (repeat (refine ⟨by omega, ?_⟩)); refine hK2 _ ?_; clear hK2 K2)
      refine sxf_next fun K2 hK2 => ?_
      simp [dNum]
      refine callK.data (hof) (by simp; rfl) (by first | exact D.leGo_refl _ | simp [takeMap, List.map_map, Function.comp_def, D.le, D.le.go, D.le_refl, D.leGo_refl, dNum]) ?_
      refine hK2 _ ?_
      clear hK2 K2
      simp only [putd, upd_lst]
      repeat (refine sxf_next fun K2 hK2 => ?_; simp [dNum]; (repeat (refine ⟨by omega, ?_⟩)); refine hK2 _ ?_; clear hK2 K2)
      refine sxf_nil (hK' _ ?_)
      refine AW.st (by simp [dNum]; rfl) ?_
      clear hK' K'
      refine AW_rg (tyOf_good _) [3, 4, 6, 7, 8, 11] [6] (fun _ _ => trivial) fun K' hK' => ?_
      repeat (refine sxf_next fun K2 hK2 => ?_; simp [dNum]; (repeat (refine ⟨by omega, ?_⟩)); refine hK2 _ ?_; clear hK2 K2)
      refine sxf_next fun K2 hK2 => ?_
      simp [dNum]
      refine callK.data (hnil) (by simp; rfl) (by first | exact D.leGo_refl _ | simp [takeMap, List.map_map, Function.comp_def, D.le, D.le.go, D.le_refl, D.leGo_refl, dNum]) ?_
      refine hK2 _ ?_
      clear hK2 K2
      simp only [putd, upd_lst]
      repeat (refine sxf_next fun K2 hK2 => ?_; simp [dNum]; (repeat (refine ⟨by omega, ?_⟩)); refine hK2 _ ?_; clear hK2 K2)
      refine sxf_nil (hK' _ ?_)
      refine AW.st (by simp [dNum]; rfl) ?_
      clear hK' K'
      refine AW_then fun K2 hK2 => ?_
      refine AW_rg (tyOf_good _) [4, 6, 7, 8, 39] [6] (fun _ _ => trivial) fun K' hK' => ?_
      repeat (refine sxf_next fun K2 hK2 => ?_; simp [dNum]; (repeat (refine ⟨by omega, ?_⟩)); refine hK2 _ ?_; clear hK2 K2)
      refine sxf_next fun K2 hK2 => ?_
      simp [dNum]
      refine callK.data (hb7) (by simp; rfl) (by first | exact D.leGo_refl _ | simp [takeMap, List.map_map, Function.comp_def, D.le, D.le.go, D.le_refl, D.leGo_refl, dNum]) ?_
      refine hK2 _ ?_
      clear hK2 K2
      simp only [putd, upd_lst]
      repeat (refine sxf_next fun K2 hK2 => ?_; simp [dNum]; (repeat (refine ⟨by omega, ?_⟩)); refine hK2 _ ?_; clear hK2 K2)
      refine sxf_nil (hK' _ ?_)
      refine AW.st (by simp [dNum]; rfl) ?_
      clear hK' K'
      refine AW_cond false rfl (fun h => by cases h) (fun _ => ?_)
      refine AW_skip (hK2 _ ?_)
      refine AW_then fun K3 hK3 => ?_
      refine AW_rg (tyOf_good _) [4, 6, 7, 8, 42] [6] (fun _ _ => trivial) fun K' hK' => ?_
      repeat (refine sxf_next fun K2 hK2 => ?_; simp [dNum, h3']; (repeat (refine ⟨by omega, ?_⟩)); refine hK2 _ ?_; clear hK2 K2)
      refine sxf_next fun K2 hK2 => ?_
      simp [dNum, h3']
      refine callK.data (hrz) (by simp; rfl) (by first | exact D.leGo_refl _ | simp [takeMap, List.map_map, Function.comp_def, D.le, D.le.go, D.le_refl, D.leGo_refl, dNum, h3']) ?_
      refine hK2 _ ?_
      clear hK2 K2
      simp only [putd, upd_lst]
      repeat (refine sxf_next fun K2 hK2 => ?_; simp [dNum, h3']; (repeat (refine ⟨by omega, ?_⟩)); refine hK2 _ ?_; clear hK2 K2)
      refine sxf_nil (hK' _ ?_)
      refine AW.st (by simp [dNum, h3']; rfl) ?_
      clear hK' K'
      refine AW_cond true (by simp [h3', h3]) (fun _ => ?_) (fun h => by cases h)
      refine AW_rg (tyOf_good _) [2] [6] (fun _ _ => trivial) fun K' hK' => ?_
      repeat (refine sxf_next fun K2 hK2 => ?_; simp [dNum]; (repeat (refine ⟨by omega, ?_⟩)); refine hK2 _ ?_; clear hK2 K2)
      refine sxf_next fun K2 hK2 => ?_
      simp [dNum]
      refine callK.data (hb4) (by simp; rfl) (by first | exact D.leGo_refl _ | simp [takeMap, List.map_map, Function.comp_def, D.le, D.le.go, D.le_refl, D.leGo_refl, dNum]) ?_
      refine hK2 _ ?_
      clear hK2 K2
      simp only [putd, upd_lst]
      repeat (refine sxf_next fun K2 hK2 => ?_; simp [dNum]; (repeat (refine ⟨by omega, ?_⟩)); refine hK2 _ ?_; clear hK2 K2)
      refine sxf_nil (hK' _ ?_)
      refine AW.st (by simp [dNum]; rfl) ?_
      clear hK' K'
      refine AW_ret ?_
      simp [D.le, D.le.go, takeMap, dNum]
    · have h3' : ¬ (300 : Int) < (szN x : Int) := by omega
      have hof := gof_spec G x hwf (by omega) (by omega)
      have hrg := rgof_spec G hM x hwf (by omega) (by omega)
      have hsl := fun h1 h2 => lsameLists_spec G (tsE x).2.2 (tsE x).2.2 h1 h2
      have hlen := lit_size (namesE true x) (namesE false x) _ x (Nat.le_refl _) ((namesE true x).length + (namesE false x).length, [])
      have hlns := lit_lens (namesE true x) (namesE false x) _ x (Nat.le_refl _) ((namesE true x).length + (namesE false x).length, [])
      have e1 : litG (namesE true x) (namesE false x) x ((namesE true x).length + (namesE false x).length, []) = tsE x := rfl
      rw [e1] at hlen hlns
      have hn1 := names_sz true x
      have hn2 := names_sz false x
      simp only [List.length_nil] at hlen
      have hsl := hsl (by omega) (fun r hr => by
        rcases hlns r hr with h | h
        · cases h
        · omega)
      rw [hcx] at hrd hof
      rw [hrx] at hrd hrz hrg
      generalize tsE x = R at *
      refine PureC.of_body (tyOf_good _) Tryz.func4 rfl rfl (rs := [.tmp 2]) Tryz.results4 (by simp [Tryz.ntmps4]) fun X => ?_
      simp only [Tryz.ntmps4, List.map]
      refine AW_rg (tyOf_good _) [0] [] (fun _ _ => trivial) fun K' hK' => ?_
      repeat (refine sxf_next fun K2 hK2 => ?_; simp [dNum]; (repeat (refine ⟨by omega, ?_⟩)); refine hK2 _ ?_; clear hK2 K2)
      refine sxf_nil (hK' _ ?_)
      refine AW.st (by simp [dNum]; rfl) ?_
      clear hK' K'
      refine AW_rg (tyOf_good _) [3, 4, 5] [] (fun _ _ => trivial) fun K' hK' => ?_
      repeat (refine sxf_next fun K2 hK2 => ?_; simp [dNum]; (repeat (refine ⟨by omega, ?_⟩)); refine hK2 _ ?_; clear hK2 K2)
      refine sxf_next fun K2 hK2 => ?_
      simp [dNum]
      refine callK.data (hrd) (by simp; rfl) (by first | exact D.leGo_refl _ | simp [takeMap, List.map_map, Function.comp_def, D.le, D.le.go, D.le_refl, D.leGo_refl, dNum]) ?_
      refine hK2 _ ?_
      clear hK2 K2
      simp only [putd, upd_lst]
      repeat (refine sxf_next fun K2 hK2 => ?_; simp [dNum]; (repeat (refine ⟨by omega, ?_⟩)); refine hK2 _ ?_; clear hK2 K2)
      refine sxf_nil (hK' _ ?_)
      refine AW.st (by simp [dNum]; rfl) ?_
      clear hK' K'
      refine AW_then fun K1 hK1 => ?_
      refine AW_rg (tyOf_good _) [3, 4, 21] [] (fun _ _ => trivial) fun K' hK' => ?_
      repeat (refine sxf_next fun K2 hK2 => ?_; simp [dNum]; (repeat (refine ⟨by omega, ?_⟩)); refine hK2 _ ?_; clear hK2 K2)
      refine sxf_nil (hK' _ ?_)
      refine AW.st (by simp [dNum]; rfl) ?_
      clear hK' K'
      refine AW_cond false rfl (fun h => by cases h) (fun _ => ?_)
      refine AW_skip (hK1 _ ?_)
      refine AW_rg (tyOf_good _) [3, 4, 6, 7, 8] [6, 502] (fun _ _ => trivial) fun K' hK' => ?_
      repeat (refine sxf_next fun K2 hK2 => ?_; simp [dNum]; (repeat (refine ⟨by omega, ?_⟩)); refine hK2 _ ?_; clear hK2 K2)
      refine sxf_next fun K2 hK2 => ?_
      simp [dNum]
      refine callK.mc (hof) (by simp [dNum]) (by simp [dNum]) (by simp [dNum]) (by simp [dNum]) ?_
      simp [dNum]
      refine hK2 _ ?_
      clear hK2 K2
      repeat (refine sxf_next fun K2 hK2 => ?_; simp [dNum]; (repeat (refine ⟨by omega, ?_⟩)); refine hK2 _ ?_; clear hK2 K2)
      refine sxf_nil (hK' _ ?_)
      refine AW.st (by simp [dNum]; rfl) ?_
      clear hK' K'
      have htk : List.take R.2.2.length (R.2.2.map fun l => [dRow l]) = R.2.2.map fun l => [dRow l] := List.take_of_length_le (by simp)
      refine AW.imp (Imp.freeze 502 trivial) ?_
      refine AW.st (by simp [dNum, htk]; rfl) ?_
      refine AW_rg (tyOf_good _) [3, 4, 6, 7, 8, 11] [6] (fun _ _ => trivial) fun K' hK' => ?_
      repeat (refine sxf_next fun K2 hK2 => ?_; simp [dNum]; (repeat (refine ⟨by omega, ?_⟩)); refine hK2 _ ?_; clear hK2 K2)
      refine sxf_next fun K2 hK2 => ?_
      simp [dNum]
      refine callK.data (hnil) (by simp; rfl) (by first | exact D.leGo_refl _ | simp [takeMap, List.map_map, Function.comp_def, D.le, D.le.go, D.le_refl, D.leGo_refl, dNum]) ?_
      refine hK2 _ ?_
      clear hK2 K2
      simp only [putd, upd_lst]
      repeat (refine sxf_next fun K2 hK2 => ?_; simp [dNum]; (repeat (refine ⟨by omega, ?_⟩)); refine hK2 _ ?_; clear hK2 K2)
      refine sxf_nil (hK' _ ?_)
      refine AW.st (by simp [dNum]; rfl) ?_
      clear hK' K'
      refine AW_then fun K2 hK2 => ?_
      refine AW_rg (tyOf_good _) [4, 6, 7, 8, 39] [6] (fun _ _ => trivial) fun K' hK' => ?_
      repeat (refine sxf_next fun K2 hK2 => ?_; simp [dNum]; (repeat (refine ⟨by omega, ?_⟩)); refine hK2 _ ?_; clear hK2 K2)
      refine sxf_next fun K2 hK2 => ?_
      simp [dNum]
      refine callK.data (hb7) (by simp; rfl) (by first | exact D.leGo_refl _ | simp [takeMap, List.map_map, Function.comp_def, D.le, D.le.go, D.le_refl, D.leGo_refl, dNum]) ?_
      refine hK2 _ ?_
      clear hK2 K2
      simp only [putd, upd_lst]
      repeat (refine sxf_next fun K2 hK2 => ?_; simp [dNum]; (repeat (refine ⟨by omega, ?_⟩)); refine hK2 _ ?_; clear hK2 K2)
      refine sxf_nil (hK' _ ?_)
      refine AW.st (by simp [dNum]; rfl) ?_
      clear hK' K'
      refine AW_cond false rfl (fun h => by cases h) (fun _ => ?_)
      refine AW_skip (hK2 _ ?_)
      refine AW_then fun K3 hK3 => ?_
      refine AW_rg (tyOf_good _) [4, 6, 7, 8, 42] [6] (fun _ _ => trivial) fun K' hK' => ?_
      repeat (refine sxf_next fun K2 hK2 => ?_; simp [dNum, h3']; (repeat (refine ⟨by omega, ?_⟩)); refine hK2 _ ?_; clear hK2 K2)
      refine sxf_next fun K2 hK2 => ?_
      simp [dNum, h3']
      refine callK.data (hrz) (by simp; rfl) (by first | exact D.leGo_refl _ | simp [takeMap, List.map_map, Function.comp_def, D.le, D.le.go, D.le_refl, D.leGo_refl, dNum, h3']) ?_
      refine hK2 _ ?_
      clear hK2 K2
      simp only [putd, upd_lst]
      repeat (refine sxf_next fun K2 hK2 => ?_; simp [dNum, h3']; (repeat (refine ⟨by omega, ?_⟩)); refine hK2 _ ?_; clear hK2 K2)
      refine sxf_nil (hK' _ ?_)
      refine AW.st (by simp [dNum, h3']; rfl) ?_
      clear hK' K'
      refine AW_cond false (by simp [h3']) (fun h => by cases h) (fun _ => ?_)
      refine AW_skip (hK3 _ ?_)
      refine AW_rg (tyOf_good _) [6, 7, 8, 12, 13] [6, 12] (fun _ _ => trivial) fun K' hK' => ?_
      repeat (refine sxf_next fun K2 hK2 => ?_; simp [dNum, dCl, dRows]; (repeat (refine ⟨by omega, ?_⟩)); refine hK2 _ ?_; clear hK2 K2)
      refine sxf_next fun K2 hK2 => ?_
      simp [dNum, dCl, dRows]
      refine callK.data (hrg) (by simp; rfl) (by first | exact D.leGo_refl _ | simp [takeMap, List.map_map, Function.comp_def, D.le, D.le.go, D.le_refl, D.leGo_refl, dNum, dCl, dRows]) ?_
      refine hK2 _ ?_
      clear hK2 K2
      simp only [putd, upd_lst]
      repeat (refine sxf_next fun K2 hK2 => ?_; simp [dNum, dCl, dRows]; (repeat (refine ⟨by omega, ?_⟩)); refine hK2 _ ?_; clear hK2 K2)
      refine sxf_nil (hK' _ ?_)
      refine AW.st (by simp [dNum, dCl, dRows]; rfl) ?_
      clear hK' K'
      refine AW_rg (tyOf_good _) [2] [6, 12] (fun _ _ => trivial) fun K' hK' => ?_
      repeat (refine sxf_next fun K2 hK2 => ?_; simp [dNum, dRows]; (repeat (refine ⟨by omega, ?_⟩)); refine hK2 _ ?_; clear hK2 K2)
      refine sxf_next fun K2 hK2 => ?_
      simp [dNum, dRows]
      refine callK.data (hsl) (by simp; rfl) (by first | exact D.leGo_refl _ | simp [takeMap, List.map_map, Function.comp_def, D.le, D.le.go, D.le_refl, D.leGo_refl, dNum, dRows]) ?_
      refine hK2 _ ?_
      clear hK2 K2
      simp only [putd, upd_lst]
      repeat (refine sxf_next fun K2 hK2 => ?_; simp [dNum, dRows]; (repeat (refine ⟨by omega, ?_⟩)); refine hK2 _ ?_; clear hK2 K2)
      refine sxf_nil (hK' _ ?_)
      refine AW.st (by simp [dNum, dRows]; rfl) ?_
      clear hK' K'
      refine AW_ret ?_
      simp [D.le, D.le.go, takeMap, dNum]
end Go.Proofs.YtagfbbnlbncjlaaGreatDoor

/-
  Tables, as they are read.
-/
namespace Go.Proofs.YtagfbbnlbncjlaaGreatDoor
set_option linter.unusedSimpArgs false
set_option linter.unusedVariables false
open Go.Av Go.ChangeShapes Go.WideShapes Go.ChangeAt Go.RowKit

theorem law_own : ownKnob Tryz.prog.godebug = none := by kernel_rfl
theorem law_laidOut : laidOutB Tryz.prog = true := by kernel_rfl
theorem cells_int : Tryz.prog.cellsOf 3 = 1 := by kernel_rfl
section
variable {H : Type} {enc : TypeId × Value → H} {w : World} {base : Nat} {spare : Nat → Bool} {held : Bool} {X : Nat → Prop}

end

end Go.Proofs.YtagfbbnlbncjlaaGreatDoor
