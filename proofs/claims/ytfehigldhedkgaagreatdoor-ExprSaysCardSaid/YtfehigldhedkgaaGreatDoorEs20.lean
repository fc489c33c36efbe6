/-
  Texts that belong together, in one file: U4, U5, A7, V5, U6, R1.
-/
import Derived.Test.YtfehigldhedkgaaGreatDoorEs19
import Derived.Sort.Walk0
/-
  The document's names: named, Names, Edges.
-/
namespace Go.Proofs.YtfehigldhedkgaaGreatDoor
set_option linter.unusedSimpArgs false
set_option linter.unusedVariables false
open Go.Av

def kAll (all : Bool) : List UInt8 := if all then [98, 105, 116, 94, 126] else [94, 126]
theorem nmsE_kids (all : Bool) (e : Ex) : nmsE all e = one1 (nmE all e) ++ nmsL all (kidsR e) := by
  cases e <;> simp [nmsE, kidsR, nmsL, nmE, one1]
/-- What the node itself gives: by its name and kind. -/
theorem nmE_kind (all : Bool) (e : Ex) : (nmR e = [] ∧ one1 (nmE all e) = []) ∨ (nmR e ≠ [] ∧ Lib.contains (kAll all) (kdR e) = false ∧ one1 (nmE all e) = []) ∨ (nmR e ≠ [] ∧ Lib.contains (kAll all) (kdR e) = true ∧ one1 (nmE all e) = [nmR e]) := by
  have c1 : Lib.contains (kAll true) [98, 105, 116] = true := by decide +kernel
  have c2 : Lib.contains (kAll false) [98, 105, 116] = false := by decide +kernel
  have c3 : ∀ all, Lib.contains (kAll all) [94] = true := by decide +kernel
  have c4 : ∀ all, Lib.contains (kAll all) [126] = true := by decide +kernel
  cases e with
  | bit s =>
    by_cases hs : s = []
    · subst hs; cases all <;> exact .inl ⟨rfl, rfl⟩
    · cases all with
      | true => exact .inr (.inr ⟨hs, c1, by simp [nmE, one1, nmR, hs]⟩)
      | false => exact .inr (.inl ⟨hs, c2, by simp [nmE, one1]⟩)
  | rise s =>
    by_cases hs : s = []
    · subst hs; exact .inl ⟨rfl, rfl⟩
    · exact .inr (.inr ⟨hs, c3 _, by simp [nmE, one1, nmR, hs]⟩)
  | fall s =>
    by_cases hs : s = []
    · subst hs; exact .inl ⟨rfl, rfl⟩
    · exact .inr (.inr ⟨hs, c4 _, by simp [nmE, one1, nmR, hs]⟩)
  | _ => exact .inl ⟨rfl, rfl⟩

def wFn : AV := .fn (.func 40) [.ref 501 0 0, .ref 502 0 0, .ref 504 0 0]
def wRow (all : Bool) (l : List Tx) : List (Nat × Row) := [(501, .box 9 [.d (dS (kAll all))]), (502, .box 22 [.own 503 0 l.length]), (503, .sl 9 1 (l.map fun s => [dS s])), (504, .box 83 [wFn])]
theorem binS_lt (a b : Tx) : binS .lss (bs a) (bs b) = some (True, .bool (decide (a < b))) := by
  simp only [binS, bs_list, bytesLess_eq]
theorem binS_ne (a b : Tx) : binS .neq (bs a) (bs b) = some (True, .bool (!decide (a = b))) := by
  simp only [binS, bs_list]
  have h : (a == b) = decide (a = b) := by
    by_cases e : a = b
    · subst e; exact (beq_self_eq_true a).trans (decide_eq_true rfl).symm
    · exact (beq_eq_false_iff_ne.2 e).trans (decide_eq_false e).symm
  rw [h]

/-- One element is put in: what is copied, what lies there then, and behind the store. -/
theorem put_in (m : List (List D)) (z x : List D) (k : Nat) (hk : k ≤ m.length) (hm : ∀ el ∈ m, el.length = 1 ∧ ∀ c ∈ el, D.one c = true) (hz : z.length = 1 ∧ ∀ c ∈ z, D.one c = true) :
    ∃ news els2 : List (List D), ∃ w0 : D, ((m ++ [z]).drop k).take (m.length + 1 - k) = news ∧ (∀ el ∈ news, el.length = 1) ∧ (∀ el ∈ news, ∀ c ∈ el, D.one c = true) ∧
      copyEls (m ++ [z]) news (k + 1) (m.length + 1 - (k + 1)) = els2 ∧ els2.length = m.length + 1 ∧ els2[k]? = some [w0] ∧ els2.set k x = m.take k ++ x :: m.drop k ∧ (k = m.length → els2 = m ++ [z]) := by
  have h1 : ((m ++ [z]).drop k).take (m.length + 1 - k) = m.drop k ++ [z] := by
    rw [List.take_of_length_le (by simp), List.drop_append_of_le_length hk]
  have h2 : (m.drop k ++ [z]).take (m.length + 1 - (k + 1)) = m.drop k := by
    rw [List.take_append_of_le_length (by simp), List.take_of_length_le (by simp)]
  have h3 : copyEls (m ++ [z]) (m.drop k ++ [z]) (k + 1) (m.length + 1 - (k + 1)) = (m ++ [z]).take (k + 1) ++ m.drop k := by
    unfold copyEls
    rw [h2, List.drop_of_length_le (l := m ++ [z]) (by simp; omega), List.append_nil]
  have hmem : ∀ el ∈ m.drop k ++ [z], el.length = 1 ∧ ∀ c ∈ el, D.one c = true := fun el hel => by
    rcases List.mem_append.1 hel with h | h
    · exact hm el (List.mem_of_mem_drop h)
    · rw [List.mem_singleton] at h; subst h; exact hz
  have hl : ((m ++ [z]).take (k + 1) ++ m.drop k).length = m.length + 1 := by simp; omega
  have hkk : k < (m ++ [z]).length := by simp; omega
  have hgk : ((m ++ [z]).take (k + 1) ++ m.drop k)[k]? = some ((m ++ [z])[k]) := by
    rw [List.getElem?_append_left (by simp; omega), List.getElem?_take, if_pos (by omega), List.getElem?_eq_getElem hkk]
  have hone : ∃ w0, (m ++ [z])[k] = [w0] := by
    have hq : ((m ++ [z])[k]).length = 1 := by
      rcases List.mem_append.1 (List.getElem_mem hkk) with h | h
      · exact (hm _ h).1
      · rw [List.mem_singleton] at h; rw [h]; exact hz.1
    exact List.length_eq_one_iff.1 hq
  obtain ⟨w0, hw0⟩ := hone
  refine ⟨_, _, w0, h1, fun el hel => (hmem el hel).1, fun el hel => (hmem el hel).2, h3, hl, by rw [hgk, hw0], ?_, fun e => ?_⟩
  · rw [List.take_succ_eq_append_getElem hkk, List.append_assoc, List.set_append_right _ _ (by simp; omega)]
    have e1 : ((m ++ [z]).take k).length = k := by simp; omega
    rw [e1, Nat.sub_self, List.take_append_of_le_length hk]
    rfl
  · subst e; rw [List.take_of_length_le (by simp), List.drop_of_length_le (by simp), List.append_nil]

set_option maxHeartbeats 32000000 in
set_option maxRecDepth 100000 in
theorem rwalk_at (G : Glob) (hM : HasMax G) (all : Bool) : ∀ (n : Nat) (e : Ex), SizeOf.sizeOf e ≤ n → ∀ l0 : List Tx, l0.length + bE e ≤ 2^39 → MC Tryz.prog G [501, 502, 504] 40 ([.d (dR e)] ++ [.ref 501 0 0, .ref 502 0 0, .ref 504 0 0]) (hlst (wRow all l0)) (.d (.tup [])) (hlst (wRow all (insL l0 (nmsE all e)))) := by
  intro n
  induction n with
  | zero => intro e hsz; cases e <;> simp at hsz
  | succ n ih =>
    intro e hsz l0 hb
    have hch : ∀ x ∈ kidsR e, ∀ l1 : List Tx, l1.length + bE x ≤ 2^39 → MC Tryz.prog G [501, 502, 504] 40 ([.d (dR x)] ++ [.ref 501 0 0, .ref 502 0 0, .ref 504 0 0]) (hlst (wRow all l1)) (.d (.tup [])) (hlst (wRow all (insL l1 (nmsE all x)))) := fun x hx => ih x (by have := sz_kids hx; omega)
    clear ih
    have hkb := bE_kids e
    have hln := bEs_len (kidsR e)
    have hnl := nmsL_len all (kidsR e)
    have hkind := nmE_kind all e
    have hon : (one1 (nmE all e)).length ≤ 1 := by unfold one1; split <;> simp
    have hbd : (one1 (nmE all e)).length + bEs (kidsR e) ≤ bE e := by
      cases e <;> simp [kidsR, bE, bEs] <;> first | omega | (simp [one1, nmE] <;> omega) | skip
    have hcon := scontains_spec G hM (kAll all) (kdR e) (by cases all <;> simp [kAll])
    have hkl : (kAll all).length ≤ 5 := by cases all <;> simp [kAll]
    rw [nmsE_kids, insL_app, dR_form, ofR_form]
    generalize kidsR e = l at hch hkb hln hnl hbd ⊢
    generalize kdR e = kd at hcon hkind ⊢
    generalize nmR e = nm at hkind ⊢
    generalize kR e = kk
    generalize hone : one1 (nmE all e) = on at hkind hbd hon ⊢
    generalize hout : insL l0 on = out1
    have hol := insL_len on l0
    rw [hout] at hol
    clear hsz
    refine MC.of_body (tyOf_good _) Tryz.func40 rfl rfl (rs := []) Tryz.results40 (by simp [Tryz.ntmps40]) rfl fun X => ?_
    simp only [Tryz.ntmps40]
    refine AW_then fun K1 hK1 => ?_
    refine (fun hgo => ?_) (fun (σ : St) himp => hK1 σ (AW.imp (τ := ⟨lst [(0, .d (.ip [dS kd, dS nm, .sl kk (l.map fun x => [dR x])])), (3, .ref 504 0 0)], hlst (wRow all out1)⟩) himp ?_))
    · rcases hkind with ⟨h1, h2⟩ | ⟨h1, h2, h3⟩ | ⟨h1, h2, h3⟩
      · subst h1 h2
        have hq : l0 = out1 := by rw [← hout]; rfl
        subst hq
        refine AW_rd (tyOf_good _) (by kernel_rfl) [0, 2, 3, 20] [501, 502, 503, 504] (notIn_ok rfl) (by kernel_rfl) fun K' hK' => ?_
        repeat (refine sxd_next fun K2 hK2 => ?_; simp [dNum, dS, wRow, wFn, binS_ne, bs_nil]; (repeat (refine ⟨by omega, ?_⟩)); refine hK2 _ ?_; clear hK2 K2)
        refine sxd_nil (hK' _ ?_)
        refine AW.st (by simp [dNum, dS, wRow, wFn, binS_ne, bs_nil]; rfl) ?_
        clear hK' K'
        refine AW_cond false rfl (fun h => by cases h) (fun _ => ?_)
        refine AW_skip (hgo _ ?_)
        refine Imp.to' (notIn_ok rfl) (by simp [dNum, dS, wRow, wFn]) (by simp [dNum, dS, wRow, wFn])
      · subst h3
        have hq : l0 = out1 := by rw [← hout]; rfl
        subst hq
        rw [h2] at hcon
        have hnb : binS .neq (bs nm) ⟨#[]⟩ = some (True, .bool true) := by
          have := binS_ne nm []
          rw [decide_eq_false h1] at this
          exact this
        refine AW_rd (tyOf_good _) (by kernel_rfl) [0, 2, 3, 20] [501, 502, 503, 504] (notIn_ok rfl) (by kernel_rfl) fun K' hK' => ?_
        repeat (refine sxd_next fun K2 hK2 => ?_; simp [dNum, dS, wRow, wFn, hnb]; (repeat (refine ⟨by omega, ?_⟩)); refine hK2 _ ?_; clear hK2 K2)
        refine sxd_next fun K2 hK2 => ?_
        simp [dNum, dS, wRow, wFn, hnb]
        refine callQ.data (hcon) (by simp; rfl) (by simp; rfl) (by first | exact D.leGo_refl _ | simp [takeMap, List.map_map, Function.comp_def, D.le, D.le.go, D.le_refl, D.leGo_refl, dNum, dS, wRow, wFn, hnb]) ?_
        refine hK2 _ ?_
        clear hK2 K2
        simp only [putd, upd_lst]
        repeat (refine sxd_next fun K2 hK2 => ?_; simp [dNum, dS, wRow, wFn, hnb]; (repeat (refine ⟨by omega, ?_⟩)); refine hK2 _ ?_; clear hK2 K2)
        refine sxd_nil (hK' _ ?_)
        refine AW.st (by simp [dNum, dS, wRow, wFn, hnb]; rfl) ?_
        clear hK' K'
        refine AW_cond false rfl (fun h => by cases h) (fun _ => ?_)
        refine AW_skip (hgo _ ?_)
        refine Imp.to' (notIn_ok rfl) (by simp [dNum, dS, wRow, wFn]) (by simp [dNum, dS, wRow, wFn])
      · subst h3
        rw [h2] at hcon
        have hnb : binS .neq (bs nm) ⟨#[]⟩ = some (True, .bool true) := by
          have := binS_ne nm []
          rw [decide_eq_false h1] at this
          exact this
        refine AW_rd (tyOf_good _) (by kernel_rfl) [0, 2, 3, 20] [501, 502, 503, 504] (notIn_ok rfl) (by kernel_rfl) fun K' hK' => ?_
        repeat (refine sxd_next fun K2 hK2 => ?_; simp [dNum, dS, wRow, wFn, hnb]; (repeat (refine ⟨by omega, ?_⟩)); refine hK2 _ ?_; clear hK2 K2)
        refine sxd_next fun K2 hK2 => ?_
        simp [dNum, dS, wRow, wFn, hnb]
        refine callQ.data (hcon) (by simp; rfl) (by simp; rfl) (by first | exact D.leGo_refl _ | simp [takeMap, List.map_map, Function.comp_def, D.le, D.le.go, D.le_refl, D.leGo_refl, dNum, dS, wRow, wFn, hnb]) ?_
        refine hK2 _ ?_
        clear hK2 K2
        simp only [putd, upd_lst]
        repeat (refine sxd_next fun K2 hK2 => ?_; simp [dNum, dS, wRow, wFn, hnb]; (repeat (refine ⟨by omega, ?_⟩)); refine hK2 _ ?_; clear hK2 K2)
        refine sxd_nil (hK' _ ?_)
        refine AW.st (by simp [dNum, dS, wRow, wFn, hnb]; rfl) ?_
        clear hK' K'
        refine AW_cond true rfl (fun _ => ?_) (fun h => by cases h)
        refine AW_rg (tyOf_good _) [0, 2, 3, 5] [501, 502, 503, 504] (notIn_ok rfl) fun K' hK' => ?_
        repeat (refine sxf_next fun K2 hK2 => ?_; simp [dNum, dS, wRow, wFn]; (repeat (refine ⟨by omega, ?_⟩)); refine hK2 _ ?_; clear hK2 K2)
        refine sxf_nil (hK' _ ?_)
        refine AW.st (by simp [dNum, dS, wRow, wFn]; rfl) ?_
        clear hK' K'
        refine AW_then fun K2 hK2 => ?_
        refine (fun hgo2 => ?_) (fun (k : Nat) (hk : k ≤ l0.length) (hp : ∀ i (hi : i < l0.length), i < k → l0[i]'hi < nm) (hx : ∀ hk : k < l0.length, ¬ l0[k]'hk < nm) (σ : St) himp => hK2 σ (AW.imp (τ := ⟨lst [(0, .d (.ip [dS kd, dS nm, .sl kk (l.map fun x => [dR x])])), (2, .ref 502 0 0), (3, .ref 504 0 0), (5, int k)], hlst (wRow all l0)⟩) himp ?_))
        · refine AW_for (S := Nat) (fun k => k ≤ l0.length ∧ ∀ i (hi : i < l0.length), i < k → l0[i] < nm) (fun k => ⟨lst [(0, .d (.ip [dS kd, dS nm, .sl kk (l.map fun x => [dR x])])), (2, .ref 502 0 0), (3, .ref 504 0 0), (5, int k)], hlst (wRow all l0)⟩) (fun k => l0.length - k) 0 ?_ (by simp) ?_
          · refine Imp.to' (notIn_ok rfl) (by simp [dNum, dS, wRow, wFn]) (by simp [dNum, dS, wRow, wFn])
          · rintro k ⟨hk, hp⟩
            refine AW_then fun K3 hK3 => ?_
            by_cases hkl : k < l0.length
            · cases hlt : decide (l0[k] < nm) with
              | true =>
                have hb2 : binS .lss (bs l0[k]) (bs nm) = some (True, .bool true) := by rw [binS_lt, hlt]
                refine AW_rd (tyOf_good _) (by kernel_rfl) [0, 2, 3, 5, 35] [501, 502, 503, 504] (notIn_ok rfl) (by kernel_rfl) fun K' hK' => ?_
                repeat (refine sxd_next fun K2 hK2 => ?_; simp [dNum, dS, wRow, wFn, hkl, hb2]; (repeat (refine ⟨by omega, ?_⟩)); refine hK2 _ ?_; clear hK2 K2)
                refine sxd_nil (hK' _ ?_)
                refine AW.st (by simp [dNum, dS, wRow, wFn, hkl, hb2]; rfl) ?_
                clear hK' K'
                refine AW_cond true rfl (fun _ => ?_) (fun h => by cases h)
                refine AW_skip (hK3 _ ?_)
                refine AW_block ?_
                refine AW_re (tyOf_good _) fun K' hK' => ?_
                repeat (refine sxf_next fun K2 hK2 => ?_; simp [dNum, dS, wRow, wFn]; (repeat (refine ⟨by omega, ?_⟩)); refine hK2 _ ?_; clear hK2 K2)
                refine sxf_nil (hK' _ ?_)
                clear hK' K'
                try simp only [thn, inb]
                refine Again.mk (k + 1) ⟨by omega, fun i hi hik => ?_⟩ (by omega) ?_
                · by_cases he : i = k
                  · subst he; exact of_decide_eq_true hlt
                  · exact hp i hi (by omega)
                refine Imp.to' (notIn_ok rfl) (by simp [dNum, dS, wRow, wFn]) (by simp [dNum, dS, wRow, wFn])
              | false =>
                have hb2 : binS .lss (bs l0[k]) (bs nm) = some (True, .bool false) := by rw [binS_lt, hlt]
                refine AW_rd (tyOf_good _) (by kernel_rfl) [0, 2, 3, 5, 35] [501, 502, 503, 504] (notIn_ok rfl) (by kernel_rfl) fun K' hK' => ?_
                repeat (refine sxd_next fun K2 hK2 => ?_; simp [dNum, dS, wRow, wFn, hkl, hb2]; (repeat (refine ⟨by omega, ?_⟩)); refine hK2 _ ?_; clear hK2 K2)
                refine sxd_nil (hK' _ ?_)
                refine AW.st (by simp [dNum, dS, wRow, wFn, hkl, hb2]; rfl) ?_
                clear hK' K'
                refine AW_cond false rfl (fun h => by cases h) (fun _ => ?_)
                refine AW_exit (hgo2 k hk hp (fun _ => of_decide_eq_false hlt) _ ?_)
                refine Imp.to' (notIn_ok rfl) (by simp [dNum, dS, wRow, wFn]) (by simp [dNum, dS, wRow, wFn])
            · refine AW_rd (tyOf_good _) (by kernel_rfl) [0, 2, 3, 5, 35] [501, 502, 503, 504] (notIn_ok rfl) (by kernel_rfl) fun K' hK' => ?_
              repeat (refine sxd_next fun K2 hK2 => ?_; simp [dNum, dS, wRow, wFn, hkl]; (repeat (refine ⟨by omega, ?_⟩)); refine hK2 _ ?_; clear hK2 K2)
              refine sxd_nil (hK' _ ?_)
              refine AW.st (by simp [dNum, dS, wRow, wFn, hkl]; rfl) ?_
              clear hK' K'
              refine AW_cond false rfl (fun h => by cases h) (fun _ => ?_)
              refine AW_exit (hgo2 k hk hp (fun h => absurd h hkl) _ ?_)
              refine Imp.to' (notIn_ok rfl) (by simp [dNum, dS, wRow, wFn]) (by simp [dNum, dS, wRow, wFn])
        · have hins := insT_at nm l0 k hk hp hx
          have ho2 : out1 = insT nm l0 := hout.symm
          rw [hins] at ho2
          by_cases hkl : k < l0.length
          · by_cases he : l0[k] = nm
            · have hb3 : binS .neq (bs l0[k]) (bs nm) = some (True, .bool false) := by rw [binS_ne, he, decide_eq_true rfl]; rfl
              rw [if_pos ⟨hkl, he⟩] at ho2
              have hne : ¬ k = l0.length := by omega
              refine AW_rd (tyOf_good _) (by kernel_rfl) [0, 2, 3, 5, 52] [501, 502, 503, 504] (notIn_ok rfl) (by kernel_rfl) fun K' hK' => ?_
              repeat (refine sxd_next fun K2 hK2 => ?_; simp [dNum, dS, wRow, wFn, hkl, hb3, hne]; (repeat (refine ⟨by omega, ?_⟩)); refine hK2 _ ?_; clear hK2 K2)
              refine sxd_nil (hK' _ ?_)
              refine AW.st (by simp [dNum, dS, wRow, wFn, hkl, hb3, hne]; rfl) ?_
              clear hK' K'
              refine AW_cond false rfl (fun h => by cases h) (fun _ => ?_)
              refine AW_skip (hgo _ ?_)
              refine Imp.to' (notIn_ok rfl) (by simp [dNum, dS, wRow, wFn, ho2]) (by simp [dNum, dS, wRow, wFn, ho2])
            · have hb3 : binS .neq (bs l0[k]) (bs nm) = some (True, .bool true) := by rw [binS_ne, decide_eq_false he]; rfl
              rw [if_neg (fun ⟨_, h⟩ => he h)] at ho2
              have hne : ¬ k = l0.length := by omega
              refine AW_rd (tyOf_good _) (by kernel_rfl) [0, 2, 3, 5, 52] [501, 502, 503, 504] (notIn_ok rfl) (by kernel_rfl) fun K' hK' => ?_
              repeat (refine sxd_next fun K2 hK2 => ?_; simp [dNum, dS, wRow, wFn, hkl, hb3, hne]; (repeat (refine ⟨by omega, ?_⟩)); refine hK2 _ ?_; clear hK2 K2)
              refine sxd_nil (hK' _ ?_)
              refine AW.st (by simp [dNum, dS, wRow, wFn, hkl, hb3, hne]; rfl) ?_
              clear hK' K'
              refine AW_cond true rfl (fun _ => ?_) (fun h => by cases h)
              refine AW_rg (tyOf_good _) [0, 2, 3, 5] [501, 502, 503, 504] (notIn_ok rfl) fun K' hK' => ?_
              repeat (refine sxf_next fun K2 hK2 => ?_; simp [dNum, dS, wRow, wFn, List.take_of_length_le]; (repeat (refine ⟨by omega, ?_⟩)); refine hK2 _ ?_; clear hK2 K2)
              refine sxf_nil (hK' _ ?_)
              refine AW.st (by simp [dNum, dS, wRow, wFn, List.take_of_length_le]; rfl) ?_
              clear hK' K'
              have hk1 : k + 1 ≤ l0.length + 1 := by omega
              have hi2 : ¬ (k : Int) = (l0.length : Int) + 1 := by omega
              have hi3 : ((l0.length : Int) + 1 - ((k : Int) + 1)).toNat = l0.length + 1 - (k + 1) := by omega
              have hle : k + (l0.length + 1 - k) ≤ l0.length + 1 := by omega
              have hle2 : k + 1 + (l0.length - k) ≤ l0.length + 1 := by omega
              obtain ⟨news, els2, w0, q1, q2, q3, q4, q5, q6, q7, _⟩ := put_in (l0.map fun s => [dS s]) [dS []] [dS nm] k (by simpa using hk) (by intro el hel; obtain ⟨s, _, rfl⟩ := List.mem_map.1 hel; simp [dS, D.one]) (by simp [dS, D.one])
              have q8 : List.take k (l0.map fun s => [dS s]) ++ [dS nm] :: List.drop k (l0.map fun s => [dS s]) = out1.map fun s => [dS s] := by rw [ho2]; simp
              rw [q8] at q7
              have q9 : out1.length = l0.length + 1 := by rw [ho2]; simp; omega
              rw [List.length_map] at q1 q4 q5
              rw [Nat.add_sub_add_right] at q4
              simp only [dS] at q1 q4 q7
              rw [← bs_nil] at q1 q4
              have q10 : (els2[k]'(by omega)).tail = [] := by
                have := q6
                rw [List.getElem?_eq_getElem (by omega)] at this
                rw [Option.some.inj this]
                rfl
              have q23 := eq_true (And.intro q2 q3)
              have q2t := eq_true q2
              have q3t := eq_true q3
              have hkl1 : k < l0.length + 1 := by omega
              refine AW_rd (tyOf_good _) (by kernel_rfl) [0, 2, 3, 5] [501, 502, 503, 504] (notIn_ok rfl) (by kernel_rfl) fun K' hK' => ?_
              repeat (refine sxd_next fun K2 hK2 => ?_; simp [dNum, dS, wRow, wFn, hk1, hk, hne, hi2, hi3, hle, hle2, q1, q23, q2t, q3t, q4]; (repeat (refine ⟨by omega, ?_⟩)); refine hK2 _ ?_; clear hK2 K2)
              refine sxd_nil (hK' _ ?_)
              refine AW.st (by simp [dNum, dS, wRow, wFn, hk1, hk, hne, hi2, hi3, hle, hle2, q1, q23, q2t, q3t, q4]; rfl) ?_
              clear hK' K'
              refine AW_rde (tyOf_good _) (by kernel_rfl) (by kernel_rfl) fun K' hK' => ?_
              repeat (refine sxd_next fun K2 hK2 => ?_; simp [dNum, dS, wRow, wFn, q5, q6, q7, q10, hkl1]; (repeat (refine ⟨by omega, ?_⟩)); refine hK2 _ ?_; clear hK2 K2)
              refine sxd_nil (hK' _ ?_)
              clear hK' K'
              try simp only [thn, inb]
              refine hgo _ ?_
              refine Imp.to' (notIn_ok rfl) (by simp [dNum, dS, wRow, wFn, q9, q7, q10]) (by simp [dNum, dS, wRow, wFn, q9, q7, q10])
          · obtain rfl : k = l0.length := by omega
            rw [if_neg (fun ⟨h, _⟩ => hkl h), List.take_length, List.drop_length] at ho2
            refine AW_rd (tyOf_good _) (by kernel_rfl) [0, 2, 3, 5, 52] [501, 502, 503, 504] (notIn_ok rfl) (by kernel_rfl) fun K' hK' => ?_
            repeat (refine sxd_next fun K2 hK2 => ?_; simp [dNum, dS, wRow, wFn, hkl]; (repeat (refine ⟨by omega, ?_⟩)); refine hK2 _ ?_; clear hK2 K2)
            refine sxd_nil (hK' _ ?_)
            refine AW.st (by simp [dNum, dS, wRow, wFn, hkl]; rfl) ?_
            clear hK' K'
            refine AW_cond true rfl (fun _ => ?_) (fun h => by cases h)
            refine AW_rg (tyOf_good _) [0, 2, 3, 5] [501, 502, 503, 504] (notIn_ok rfl) fun K' hK' => ?_
            repeat (refine sxf_next fun K2 hK2 => ?_; simp [dNum, dS, wRow, wFn, List.take_of_length_le]; (repeat (refine ⟨by omega, ?_⟩)); refine hK2 _ ?_; clear hK2 K2)
            refine sxf_nil (hK' _ ?_)
            refine AW.st (by simp [dNum, dS, wRow, wFn, List.take_of_length_le]; rfl) ?_
            clear hK' K'
            have hi2 : ¬ (l0.length : Int) = (l0.length : Int) + 1 := by omega
            have hi3 : ¬ (l0.length : Int) + 1 = 0 := by omega
            have q8 : (l0.map fun s => [dS s]) ++ [[dS nm]] = out1.map fun s => [dS s] := by rw [ho2]; simp
            have q9 : out1.length = l0.length + 1 := by rw [ho2]; simp
            simp only [dS] at q8
            refine AW_rd (tyOf_good _) (by kernel_rfl) [0, 2, 3, 5] [501, 502, 503, 504] (notIn_ok rfl) (by kernel_rfl) fun K' hK' => ?_
            repeat (refine sxd_next fun K2 hK2 => ?_; simp [dNum, dS, wRow, wFn, hi2, hi3, D.one]; (repeat (refine ⟨by omega, ?_⟩)); refine hK2 _ ?_; clear hK2 K2)
            refine sxd_nil (hK' _ ?_)
            refine AW.st (by simp [dNum, dS, wRow, wFn, hi2, hi3, D.one]; rfl) ?_
            clear hK' K'
            refine AW_rde (tyOf_good _) (by kernel_rfl) (by kernel_rfl) fun K' hK' => ?_
            repeat (refine sxd_next fun K2 hK2 => ?_; simp [dNum, dS, wRow, wFn]; (repeat (refine ⟨by omega, ?_⟩)); refine hK2 _ ?_; clear hK2 K2)
            refine sxd_nil (hK' _ ?_)
            clear hK' K'
            try simp only [thn, inb]
            refine hgo _ ?_
            refine Imp.to' (notIn_ok rfl) (by simp [dNum, dS, wRow, wFn, q9, q8]) (by simp [dNum, dS, wRow, wFn, q9, q8])
    · simp only [List.singleton_append] at hch
      refine AW_rg (tyOf_good _) [3, 74, 75, 76] [501, 502, 503, 504] (notIn_ok rfl) fun K' hK' => ?_
      repeat (refine sxf_next fun K2 hK2 => ?_; simp [dNum, dS, wRow, wFn]; (repeat (refine ⟨by omega, ?_⟩)); refine hK2 _ ?_; clear hK2 K2)
      refine sxf_nil (hK' _ ?_)
      refine AW.st (by simp [dNum, dS, wRow, wFn]; rfl) ?_
      clear hK' K'
      refine AW_for (S := Nat) (fun i => i ≤ l.length) (fun i => ⟨lst [(3, .ref 504 0 0), (74, .d (.sl kk (l.map fun x => [dR x]))), (75, int l.length), (76, int i)], hlst (wRow all (insL out1 (nmsL all (l.take i))))⟩) (fun i => l.length - i) 0 ?_ (by omega) ?_
      · refine Imp.to' (notIn_ok rfl) (by simp [dNum, dS, wRow, wFn, nmsL, insL_nil]) (by simp [dNum, dS, wRow, wFn, nmsL, insL_nil])
      · intro i hi
        refine AW_rg (tyOf_good _) [3, 74, 75, 76, 77] [501, 502, 503, 504] (notIn_ok rfl) fun K' hK' => ?_
        repeat (refine sxf_next fun K2 hK2 => ?_; simp [dNum, dS, wRow, wFn]; (repeat (refine ⟨by omega, ?_⟩)); refine hK2 _ ?_; clear hK2 K2)
        refine sxf_nil (hK' _ ?_)
        refine AW.st (by simp [dNum, dS, wRow, wFn]; rfl) ?_
        clear hK' K'
        refine AW_then fun K4 hK4 => ?_
        refine AW_cond' (b := i < l.length) (by simp [D.le, D.le.go, takeMap, dNum, dS, wRow, wFn]) (fun hc => ?_) (fun hc => ?_)
        · have hil : i < l.length := hc
          have h1 := nmsL_take all hil
          have h2 := nmsL_len all (l.take i)
          have h3 := bEs_take hil
          have h4 := insL_len (nmsL all (l.take i)) out1
          have hcc := hch _ (List.getElem_mem hil) (insL out1 (nmsL all (l.take i))) (by omega)
          rw [← insL_app, ← h1] at hcc
          have hf := dR_form l[i]
          rw [hf] at hcc
          refine AW_skip (hK4 _ ?_)
          refine AW_then fun K5 hK5 => ?_
          refine AW_block ?_
          refine AW_rg (tyOf_good _) [3, 7, 74, 75, 76] [501, 502, 503, 504] (notIn_ok rfl) fun K' hK' => ?_
          repeat (refine sxf_next fun K2 hK2 => ?_; simp [dNum, dS, wRow, wFn, hil, hf]; (repeat (refine ⟨by omega, ?_⟩)); refine hK2 _ ?_; clear hK2 K2)
          refine sxf_nil (hK' _ ?_)
          refine AW.st (by simp [dNum, dS, wRow, wFn, hil, hf]; rfl) ?_
          clear hK' K'
          refine AW_re (tyOf_good _) fun K' hK' => ?_
          repeat (refine sxf_next fun K2 hK2 => ?_; simp [dNum, dS, wRow, wFn]; (repeat (refine ⟨by omega, ?_⟩)); refine hK2 _ ?_; clear hK2 K2)
          refine sxf_next fun K2 hK2 => ?_
          simp [dNum, dS, wRow, wFn]
          refine callK.mc (hcc) (by simp [dNum, dS, wRow, wFn]) (by simp [dNum, dS, wRow, wFn]) (by simp [dNum, dS, wRow, wFn]) (by simp [dNum, dS, wRow, wFn]) ?_
          simp [dNum, dS, wRow, wFn]
          refine hK2 _ ?_
          clear hK2 K2
          repeat (refine sxf_next fun K2 hK2 => ?_; simp [dNum, dS, wRow, wFn]; (repeat (refine ⟨by omega, ?_⟩)); refine hK2 _ ?_; clear hK2 K2)
          refine sxf_nil (hK' _ ?_)
          clear hK' K'
          refine hK5 _ (AW.norm [3, 74, 75, 76] [501, 502, 503, 504] (notIn_ok rfl) (AW.st (by simp [dNum, dS, wRow, wFn]; rfl) ?_))
          refine AW_re (tyOf_good _) fun K' hK' => ?_
          repeat (refine sxf_next fun K2 hK2 => ?_; simp [dNum, dS, wRow, wFn]; (repeat (refine ⟨by omega, ?_⟩)); refine hK2 _ ?_; clear hK2 K2)
          refine sxf_nil (hK' _ ?_)
          clear hK' K'
          try simp only [thn, inb]
          refine Again.mk (i + 1) (by omega) (by omega) ?_
          refine Imp.to' (notIn_ok rfl) (by simp [dNum, dS, wRow, wFn]) (by simp [dNum, dS, wRow, wFn])
        · obtain rfl : i = l.length := by omega
          refine AW_exit ?_
          simp [D.le_refl, List.take_length, wRow, wFn, dS]
end Go.Proofs.YtfehigldhedkgaaGreatDoor

/-
  The document's Names and Edges.
-/
namespace Go.Proofs.YtfehigldhedkgaaGreatDoor
set_option linter.unusedSimpArgs false
set_option linter.unusedVariables false
open Go.Av

theorem renH_hlst {r r' : Nat} (hr : r ≠ r') (l : List (Nat × Row)) (hl : ∀ p ∈ l, p.1 ≠ r') : renH r r' (hlst l) = hlst (l.map fun p => (if p.1 = r then r' else p.1, p.2.tr (renO r r') (renF r r'))) := by
  funext q
  unfold renH
  induction l with
  | nil => simp [hlst, List.lookup]
  | cons p l ih =>
    have ih := ih fun p hp => hl p (by simp [hp])
    have hp := hl p (by simp)
    obtain ⟨k, row⟩ := p
    simp only [hlst, List.lookup, List.map_cons] at ih ⊢
    by_cases h1 : q = r'
    · subst h1
      simp only [if_true] at ih ⊢
      by_cases h2 : k = r
      · subst h2; simp
      · have a1 : (r == k) = false := by simpa using fun e => h2 e.symm
        have a2 : (q == k) = false := by simpa using fun e => hp e.symm
        simp only [h2, if_false, a1, a2]
        exact ih
    · simp only [h1, if_false] at ih ⊢
      by_cases h2 : q = r
      · subst h2
        simp only [if_true] at ih ⊢
        by_cases h3 : k = q
        · have a1 : (q == r') = false := by simpa using h1
          simp only [h3, if_true, a1]
          exact ih
        · have a1 : (q == k) = false := by simpa using fun e => h3 e.symm
          simp only [h3, if_false, a1]
          exact ih
      · simp only [h2, if_false] at ih ⊢
        by_cases h3 : k = r
        · have a1 : (q == k) = false := by rw [h3]; simpa using h2
          have a2 : (q == r') = false := by simpa using h1
          simp only [h3, if_true, a2] at a1 ⊢
          rw [a1]
          exact ih
        · simp only [h3, if_false]
          by_cases h4 : q = k
          · subst h4; simp
          · have a1 : (q == k) = false := by simpa using h4
            simp only [a1]
            exact ih

set_option maxHeartbeats 8000000 in
theorem named_spec (G : Glob) (hM : HasMax G) (all : Bool) (e : Ex) (hb : bE e ≤ 2^28) : PureC Tryz.prog G 24 [dR e, dS (kAll all)] (.sl none ((namesE all e).map fun s => [dS s])) := by
  have hw := rwalk_at G hM all _ e (Nat.le_refl _) [] (by simp; omega)
  have hnm := insL_names all e
  rw [hnm] at hw
  simp only [List.singleton_append] at hw
  generalize namesE all e = l at hw ⊢
  clear hnm
  rw [dR_form] at hw ⊢
  refine PureC.of_body (tyOf_good _) Tryz.func24 rfl rfl (rs := [.tmp 4]) Tryz.results24 (by simp [Tryz.ntmps24]) fun X => ?_
  simp only [Tryz.ntmps24, List.map]
  refine AW_rg (tyOf_good _) [0, 3] [3] (fun _ _ => trivial) fun K' hK' => ?_
  repeat (refine sxf_next fun K2 hK2 => ?_; simp [dNum, dS, wRow, wFn]; (repeat (refine ⟨by omega, ?_⟩)); refine hK2 _ ?_; clear hK2 K2)
  refine sxf_nil (hK' _ ?_)
  refine AW.st (by simp [dNum, dS, wRow, wFn]; rfl) ?_
  clear hK' K'
  refine AW_rg (tyOf_good _) [0, 3, 5] [3, 5] (fun _ _ => trivial) fun K' hK' => ?_
  repeat (refine sxf_next fun K2 hK2 => ?_; simp [dNum, dS, wRow, wFn]; (repeat (refine ⟨by omega, ?_⟩)); refine hK2 _ ?_; clear hK2 K2)
  refine sxf_nil (hK' _ ?_)
  refine AW.st (by simp [dNum, dS, wRow, wFn]; rfl) ?_
  clear hK' K'
  refine AW_rg (tyOf_good _) [0, 3, 5, 6] [3, 5, 6] (fun _ _ => trivial) fun K' hK' => ?_
  repeat (refine sxf_next fun K2 hK2 => ?_; simp [dNum, dS, wRow, wFn]; (repeat (refine ⟨by omega, ?_⟩)); refine hK2 _ ?_; clear hK2 K2)
  refine sxf_nil (hK' _ ?_)
  refine AW.st (by simp [dNum, dS, wRow, wFn]; rfl) ?_
  clear hK' K'
  refine AW_rg (tyOf_good _) [0, 5, 6] [3, 5, 6] (fun _ _ => trivial) fun K' hK' => ?_
  repeat (refine sxf_next fun K2 hK2 => ?_; simp [dNum, dS, wRow, wFn]; (repeat (refine ⟨by omega, ?_⟩)); refine hK2 _ ?_; clear hK2 K2)
  refine sxf_nil (hK' _ ?_)
  refine AW.st (by simp [dNum, dS, wRow, wFn]; rfl) ?_
  clear hK' K'
  refine AW.imp (Imp.ren (r := 3) (r' := 501) trivial (by simp)) ?_
  refine AW.st (by simp [renO, renF, Go.Av.ren, renH_hlst]; rfl) ?_
  refine AW.imp (Imp.ren (r := 5) (r' := 502) trivial (by simp)) ?_
  refine AW.st (by simp [renO, renF, Go.Av.ren, renH_hlst]; rfl) ?_
  refine AW.imp (Imp.ren (r := 6) (r' := 504) trivial (by simp)) ?_
  refine AW.st (by simp [renO, renF, Go.Av.ren, renH_hlst]; rfl) ?_
  refine AW.imp (Imp.adoptCell 502 0 503 9 1 rfl rfl rfl) ?_
  refine AW.imp (τ := ⟨lst [(0, .d (.ip [dS (kdR e), dS (nmR e), ofR e])), (5, .ref 502 0 0), (6, .ref 504 0 0)], hlst (wRow all [])⟩) ?_ ?_
  · refine Imp.to' (fun _ _ => trivial) (by simp [dNum, dS, wRow, wFn, wRow, wFn]) (by simp [dNum, dS, wRow, wFn, wRow, wFn])
  refine AW_rg (tyOf_good _) [5] [502, 503] (fun _ _ => trivial) fun K' hK' => ?_
  repeat (refine sxf_next fun K2 hK2 => ?_; simp [dNum, dS, wRow, wFn]; (repeat (refine ⟨by omega, ?_⟩)); refine hK2 _ ?_; clear hK2 K2)
  refine sxf_next fun K2 hK2 => ?_
  simp [dNum, dS, wRow, wFn]
  refine callK.mc (hw) (by simp [dNum, dS, wRow, wFn]) (by simp [dNum, dS, wRow, wFn]) (by simp [dNum, dS, wRow, wFn]) (by simp [dNum, dS, wRow, wFn]) ?_
  simp [dNum, dS, wRow, wFn]
  refine hK2 _ ?_
  clear hK2 K2
  repeat (refine sxf_next fun K2 hK2 => ?_; simp [dNum, dS, wRow, wFn]; (repeat (refine ⟨by omega, ?_⟩)); refine hK2 _ ?_; clear hK2 K2)
  refine sxf_nil (hK' _ ?_)
  refine AW.st (by simp [dNum, dS, wRow, wFn]; rfl) ?_
  clear hK' K'
  refine AW_rg (tyOf_good _) [4] [502, 503] (fun _ _ => trivial) fun K' hK' => ?_
  repeat (refine sxf_next fun K2 hK2 => ?_; simp [dNum, dS, wRow, wFn, wRow, wFn]; (repeat (refine ⟨by omega, ?_⟩)); refine hK2 _ ?_; clear hK2 K2)
  refine sxf_nil (hK' _ ?_)
  refine AW.st (by simp [dNum, dS, wRow, wFn, wRow, wFn]; rfl) ?_
  clear hK' K'
  have htk : List.take l.length (l.map fun s => [dS s]) = l.map fun s => [dS s] := List.take_of_length_le (by simp)
  simp only [dS] at htk
  refine AW.imp (Imp.freeze 503 trivial) ?_
  refine AW.st (by simp [dNum, dS, wRow, wFn, htk]; rfl) ?_
  refine AW_ret ?_
  simp [D.le, D.le.go, takeMap, dNum, dS, wRow, wFn, D.le_refl, D.leGo_refl, htk]
theorem rnames_spec (G : Glob) (hM : HasMax G) (e : Ex) (hb : bE e ≤ 2^28) : PureC Tryz.prog G 11 [dR e] (.sl none ((namesE true e).map fun s => [dS s])) := by
  have hs := named_spec G hM true e hb
  rw [dR_form] at hs ⊢
  generalize namesE true e = l at hs ⊢
  have hk : dS (kAll true) = .v (.string ⟨#[98, 105, 116, 94, 126]⟩) := rfl
  rw [hk] at hs
  refine PureC.of_body (tyOf_good _) Tryz.func11 rfl rfl (rs := [.tmp 2]) Tryz.results11 (by simp [Tryz.ntmps11]) fun X => ?_
  simp only [Tryz.ntmps11, List.map]
  refine AW_rg (tyOf_good _) [0] [] (fun _ _ => trivial) fun K' hK' => ?_
  repeat (refine sxf_next fun K2 hK2 => ?_; simp [dNum, dS, wRow, wFn]; (repeat (refine ⟨by omega, ?_⟩)); refine hK2 _ ?_; clear hK2 K2)
  refine sxf_nil (hK' _ ?_)
  refine AW.st (by simp [dNum, dS, wRow, wFn]; rfl) ?_
  clear hK' K'
  refine AW_rg (tyOf_good _) [2] [] (fun _ _ => trivial) fun K' hK' => ?_
  repeat (refine sxf_next fun K2 hK2 => ?_; simp [dNum, dS, wRow, wFn]; (repeat (refine ⟨by omega, ?_⟩)); refine hK2 _ ?_; clear hK2 K2)
  refine sxf_next fun K2 hK2 => ?_
  simp [dNum, dS, wRow, wFn]
  refine callK.data (hs) (by simp; rfl) (by first | exact D.leGo_refl _ | simp [takeMap, List.map_map, Function.comp_def, D.le, D.le.go, D.le_refl, D.leGo_refl, dNum, dS, wRow, wFn]) ?_
  refine hK2 _ ?_
  clear hK2 K2
  simp only [putd, upd_lst]
  repeat (refine sxf_next fun K2 hK2 => ?_; simp [dNum, dS, wRow, wFn]; (repeat (refine ⟨by omega, ?_⟩)); refine hK2 _ ?_; clear hK2 K2)
  refine sxf_nil (hK' _ ?_)
  refine AW.st (by simp [dNum, dS, wRow, wFn]; rfl) ?_
  clear hK' K'
  refine AW_ret ?_
  simp [D.le, D.le.go, takeMap, dNum, dS, wRow, wFn, D.le_refl, D.leGo_refl]
theorem redges_spec (G : Glob) (hM : HasMax G) (e : Ex) (hb : bE e ≤ 2^28) : PureC Tryz.prog G 13 [dR e] (.sl none ((namesE false e).map fun s => [dS s])) := by
  have hs := named_spec G hM false e hb
  rw [dR_form] at hs ⊢
  generalize namesE false e = l at hs ⊢
  have hk : dS (kAll false) = .v (.string ⟨#[94, 126]⟩) := rfl
  rw [hk] at hs
  refine PureC.of_body (tyOf_good _) Tryz.func13 rfl rfl (rs := [.tmp 2]) Tryz.results13 (by simp [Tryz.ntmps13]) fun X => ?_
  simp only [Tryz.ntmps13, List.map]
  refine AW_rg (tyOf_good _) [0] [] (fun _ _ => trivial) fun K' hK' => ?_
  repeat (refine sxf_next fun K2 hK2 => ?_; simp [dNum, dS, wRow, wFn]; (repeat (refine ⟨by omega, ?_⟩)); refine hK2 _ ?_; clear hK2 K2)
  refine sxf_nil (hK' _ ?_)
  refine AW.st (by simp [dNum, dS, wRow, wFn]; rfl) ?_
  clear hK' K'
  refine AW_rg (tyOf_good _) [2] [] (fun _ _ => trivial) fun K' hK' => ?_
  repeat (refine sxf_next fun K2 hK2 => ?_; simp [dNum, dS, wRow, wFn]; (repeat (refine ⟨by omega, ?_⟩)); refine hK2 _ ?_; clear hK2 K2)
  refine sxf_next fun K2 hK2 => ?_
  simp [dNum, dS, wRow, wFn]
  refine callK.data (hs) (by simp; rfl) (by first | exact D.leGo_refl _ | simp [takeMap, List.map_map, Function.comp_def, D.le, D.le.go, D.le_refl, D.leGo_refl, dNum, dS, wRow, wFn]) ?_
  refine hK2 _ ?_
  clear hK2 K2
  simp only [putd, upd_lst]
  repeat (refine sxf_next fun K2 hK2 => ?_; simp [dNum, dS, wRow, wFn]; (repeat (refine ⟨by omega, ?_⟩)); refine hK2 _ ?_; clear hK2 K2)
  refine sxf_nil (hK' _ ?_)
  refine AW.st (by simp [dNum, dS, wRow, wFn]; rfl) ?_
  clear hK' K'
  refine AW_ret ?_
  simp [D.le, D.le.go, takeMap, dNum, dS, wRow, wFn, D.le_refl, D.leGo_refl]
end Go.Proofs.YtfehigldhedkgaaGreatDoor

/-
  ExprParse, and what ExprParses says.
-/
namespace Go.Proofs.YtfehigldhedkgaaGreatDoor
set_option linter.unusedSimpArgs false
set_option linter.unusedVariables false
open Go.Av

theorem renH_two2 {r r' s : Nat} (h : r ≠ r') (hs : s ≠ r') (hr : s ≠ r) (row row2 : Row) : renH r r' (hlst [(s, row2), (r, row)]) = hlst [(s, row2.tr (renO r r') (renF r r')), (r', row.tr (renO r r') (renF r r'))] := by
  funext q
  unfold renH
  by_cases h1 : q = r'
  · subst h1
    simp [hlst, List.lookup, beq_eq_false_iff_ne.2 (Ne.symm hs), beq_eq_false_iff_ne.2 (Ne.symm hr)]
  · rw [if_neg h1]
    by_cases h2 : q = r
    · subst h2
      simp [hlst, List.lookup, beq_eq_false_iff_ne.2 h1, beq_eq_false_iff_ne.2 (Ne.symm hr)]
    · by_cases h3 : q = s
      · subst h3
        simp [hlst, List.lookup, h2, beq_eq_false_iff_ne.2 h1, beq_eq_false_iff_ne.2 h2]
      · simp [hlst, List.lookup, h2, beq_eq_false_iff_ne.2 h1, beq_eq_false_iff_ne.2 h2, beq_eq_false_iff_ne.2 h3]
def dOR : Option Ex → D
  | some x => dR x
  | none => .v (.pointer none)
theorem whole_reads (G : Glob) (t : List UInt8) (ht : t.length ≤ 2000) : Reads G t [500] [] 29 [.ref 500 0 0, .d (dNum 0)] 20 (orR t (oneR t 20)) :=
  pwhole_spec G t ht 0 20 (piece_spec G t ht 20 0 (Nat.le_refl _) rfl)
theorem parse_pos {t : List UInt8} {c : Int} {p : Option Nat} (h : (parseM t).2 = some (c, p)) : 0 < c := by
  unfold parseM at h
  split at h
  · simp at h; omega
  · rename_i hl
    obtain ⟨yF, kF, hr⟩ := whole_reads (fun _ => none) t (by omega)
    split at h
    · rename_i c' p' q' he
      simp at h
      have := (hr 0 (Nat.zero_le _)).2 _ _ _ he
      omega
    · split at h
      · simp at h; omega
      · cases h
theorem parse_none {t : List UInt8} {e : Int × Option Nat} (h : (parseM t).2 = some e) : (parseM t).1 = none := by
  unfold parseM at h ⊢
  split at h
  · rw [if_pos ‹_›]
  · rw [if_neg ‹_›]
    split at h
    · rfl
    · split at h
      · rw [if_pos ‹_›]
      · cases h
theorem parse_some {t : List UInt8} (h : (parseM t).2 = none) : ∃ x, (parseM t).1 = some x := by
  unfold parseM at h ⊢
  split at h
  · cases h
  · rw [if_neg ‹_›]
    split at h
    · cases h
    · split at h
      · cases h
      · rw [if_neg ‹_›]
        exact ⟨_, rfl⟩

set_option maxHeartbeats 8000000 in
theorem rparse_spec (G : Glob) (hF : HasFine G) (t : List UInt8) (ht : t.length < 2^60) : PureC Tryz.prog G 16 [dS t] (.tup [dOR (parseM t).1, dFault (parseM t).2]) := by
  unfold parseM
  unfold HasFine at hF
  by_cases hl : 2000 < t.length
  · have hl' : (2000 : Int) < (t.length : Int) := by omega
    have hb := bare0_spec G 4
    rw [if_pos hl]
    refine PureC.of_body (tyOf_good _) Tryz.func16 rfl rfl (rs := [.tmp 2, .cell 3 40]) Tryz.results16 (by simp [Tryz.ntmps16]) fun X => ?_
    simp only [Tryz.ntmps16, List.map]
    refine AW_rg (tyOf_good _) [0, 3] [3] (fun _ _ => trivial) fun K' hK' => ?_
    repeat (refine sxf_next fun K2 hK2 => ?_; simp [dNum, pRow, dS]; (repeat (refine ⟨by omega, ?_⟩)); refine hK2 _ ?_; clear hK2 K2)
    refine sxf_nil (hK' _ ?_)
    refine AW.st (by simp [dNum, pRow, dS]; rfl) ?_
    clear hK' K'
    refine AW_then fun K1 hK1 => ?_
    refine AW_rg (tyOf_good _) [0, 3, 8] [3] (fun _ _ => trivial) fun K' hK' => ?_
    repeat (refine sxf_next fun K2 hK2 => ?_; simp [dNum, pRow, dS, bs_size, hl, hl']; (repeat (refine ⟨by omega, ?_⟩)); refine hK2 _ ?_; clear hK2 K2)
    refine sxf_nil (hK' _ ?_)
    refine AW.st (by simp [dNum, pRow, dS, bs_size, hl, hl']; rfl) ?_
    clear hK' K'
    refine AW_cond true rfl (fun _ => ?_) (fun h => by cases h)
    refine AW_rg (tyOf_good _) [2, 3] [3] (fun _ _ => trivial) fun K' hK' => ?_
    repeat (refine sxf_next fun K2 hK2 => ?_; simp [dNum, pRow, dS]; (repeat (refine ⟨by omega, ?_⟩)); refine hK2 _ ?_; clear hK2 K2)
    refine sxf_next fun K2 hK2 => ?_
    simp [dNum, pRow, dS]
    refine callK.data (hb) (by simp; rfl) (by first | exact D.leGo_refl _ | simp [takeMap, List.map_map, Function.comp_def, D.le, D.le.go, D.le_refl, D.leGo_refl, dNum, pRow, dS]) ?_
    refine hK2 _ ?_
    clear hK2 K2
    simp only [putd, upd_lst]
    repeat (refine sxf_next fun K2 hK2 => ?_; simp [dNum, pRow, dS]; (repeat (refine ⟨by omega, ?_⟩)); refine hK2 _ ?_; clear hK2 K2)
    refine sxf_nil (hK' _ ?_)
    refine AW.st (by simp [dNum, pRow, dS]; rfl) ?_
    clear hK' K'
    refine AW_ret ?_
    simp [D.le, D.le.go, takeMap, dNum, pRow, dS, dOR, dFault, codeF, placeF]
  have hl' : ¬ (2000 : Int) < (t.length : Int) := by omega
  rw [if_neg hl]
  obtain ⟨yF, kF, hr⟩ := whole_reads G t (by omega)
  have hc := (hr 0 (Nat.zero_le _)).1
  have he := (hr 0 (Nat.zero_le _)).2
  cases ho : orR t (oneR t 20) 0 with
  | err c p q =>
    rw [ho] at hc
    obtain ⟨h1, h2, h3⟩ := he _ _ _ ho
    have h0 : ¬ c = 0 := by omega
    generalize yF 0 = y at hc h2
    generalize kF 0 = k at hc h3
    refine PureC.of_body (tyOf_good _) Tryz.func16 rfl rfl (rs := [.tmp 2, .cell 3 40]) Tryz.results16 (by simp [Tryz.ntmps16]) fun X => ?_
    simp only [Tryz.ntmps16, List.map]
    refine AW_rg (tyOf_good _) [0, 3] [3] (fun _ _ => trivial) fun K' hK' => ?_
    repeat (refine sxf_next fun K2 hK2 => ?_; simp [dNum, pRow, dS]; (repeat (refine ⟨by omega, ?_⟩)); refine hK2 _ ?_; clear hK2 K2)
    refine sxf_nil (hK' _ ?_)
    refine AW.st (by simp [dNum, pRow, dS]; rfl) ?_
    clear hK' K'
    refine AW_then fun K1 hK1 => ?_
    refine AW_rg (tyOf_good _) [0, 3, 8] [3] (fun _ _ => trivial) fun K' hK' => ?_
    repeat (refine sxf_next fun K2 hK2 => ?_; simp [dNum, pRow, dS, bs_size, hl, hl']; (repeat (refine ⟨by omega, ?_⟩)); refine hK2 _ ?_; clear hK2 K2)
    refine sxf_nil (hK' _ ?_)
    refine AW.st (by simp [dNum, pRow, dS, bs_size, hl, hl']; rfl) ?_
    clear hK' K'
    refine AW_cond false rfl (fun h => by cases h) (fun _ => ?_)
    refine AW_skip (hK1 _ ?_)
    refine AW_rg (tyOf_good _) [0, 3, 4] [3, 13] (fun _ _ => trivial) fun K' hK' => ?_
    repeat (refine sxf_next fun K2 hK2 => ?_; simp [dNum, pRow, dS, hF]; (repeat (refine ⟨by omega, ?_⟩)); refine hK2 _ ?_; clear hK2 K2)
    refine sxf_nil (hK' _ ?_)
    refine AW.st (by simp [dNum, pRow, dS, hF]; rfl) ?_
    clear hK' K'
    refine AW.imp (Imp.ren (r := 13) (r' := 500) trivial (by simp)) ?_
    refine AW.st (by simp [renO, renF, Go.Av.ren, renH_two2]; rfl) ?_
    refine AW_rg (tyOf_good _) [0, 3, 4, 5] [3, 500] (fun _ _ => trivial) fun K' hK' => ?_
    repeat (refine sxf_next fun K2 hK2 => ?_; simp [dNum, pRow, dS, outD, outK, eR, pR]; (repeat (refine ⟨by omega, ?_⟩)); refine hK2 _ ?_; clear hK2 K2)
    refine sxf_next fun K2 hK2 => ?_
    simp [dNum, pRow, dS, outD, outK, eR, pR]
    refine callK.mc (hc) (by simp [dNum, pRow, dS, outD, outK, eR, pR]) (by simp [dNum, pRow, dS, outD, outK, eR, pR]) (by simp [dNum, pRow, dS, outD, outK, eR, pR]) (by simp [dNum, pRow, dS, outD, outK, eR, pR]) ?_
    simp [dNum, pRow, dS, outD, outK, eR, pR]
    refine hK2 _ ?_
    clear hK2 K2
    repeat (refine sxf_next fun K2 hK2 => ?_; simp [dNum, pRow, dS, outD, outK, eR, pR]; (repeat (refine ⟨by omega, ?_⟩)); refine hK2 _ ?_; clear hK2 K2)
    refine sxf_nil (hK' _ ?_)
    refine AW.st (by simp [dNum, pRow, dS, outD, outK, eR, pR]; rfl) ?_
    clear hK' K'
    refine AW_then fun K2 hK2 => ?_
    refine AW_rg (tyOf_good _) [3, 4, 5, 43] [3, 500] (fun _ _ => trivial) fun K' hK' => ?_
    repeat (refine sxf_next fun K2 hK2 => ?_; simp [dNum, pRow, dS, h0]; (repeat (refine ⟨by omega, ?_⟩)); refine hK2 _ ?_; clear hK2 K2)
    refine sxf_nil (hK' _ ?_)
    refine AW.st (by simp [dNum, pRow, dS, h0]; rfl) ?_
    clear hK' K'
    refine AW_cond false rfl (fun h => by cases h) (fun _ => ?_)
    refine AW_skip (hK2 _ ?_)
    refine AW_then fun K3 hK3 => ?_
    refine AW_rg (tyOf_good _) [3, 4, 5, 51] [3, 500] (fun _ _ => trivial) fun K' hK' => ?_
    repeat (refine sxf_next fun K2 hK2 => ?_; simp [dNum, pRow, dS, h0]; (repeat (refine ⟨by omega, ?_⟩)); refine hK2 _ ?_; clear hK2 K2)
    refine sxf_nil (hK' _ ?_)
    refine AW.st (by simp [dNum, pRow, dS, h0]; rfl) ?_
    clear hK' K'
    refine AW_cond true rfl (fun _ => ?_) (fun h => by cases h)
    refine AW_rdg (tyOf_good _) (by kernel_rfl) [(3, 500), (5, 3)] [2, 3] [3, 500] (fun _ _ => trivial) (by kernel_rfl) fun K' hK' => ?_
    repeat (refine sxg_next fun K2 hK2 => ?_; simp [dNum, pRow, dS]; (repeat (refine ⟨by omega, ?_⟩)); refine hK2 _ ?_; clear hK2 K2)
    refine sxg_nil (hK' _ ?_)
    refine AW.st (by simp [dNum, pRow, dS]; rfl) ?_
    clear hK' K'
    refine AW_ret ?_
    simp [D.le, D.le.go, takeMap, dNum, pRow, dS, dOR, dFault, codeF, placeF]
  | ok x k =>
    rw [ho] at hc
    dsimp only [outD, outK, eR, pR] at hc
    have hk := (or_goes (one_goes t 20) 0 x k (Nat.zero_le _) ho).2
    have hnx := pnext_spec G t k (by omega) hk 0 (-1)
    have hk2 := skipB_top hk
    have hfl := pfail_spec G t (skipB t k) (by omega) hk2 3
    rw [skipB_idem hk] at hfl
    have hnb : skipB t k < t.length ∨ nxB t k = 0 := by
      by_cases h : skipB t k < t.length
      · exact .inl h
      · exact .inr (by unfold nxB; rw [List.getD_eq_getElem?_getD, List.getElem?_eq_none (by omega)]; rfl)
    obtain ⟨cx, hx⟩ := dR_ip x
    dsimp only
    generalize skipB t k = j at hnx hk2 hfl hnb ⊢
    generalize nxB t k = b at hnx hnb
    by_cases hj : j < t.length
    · have hj' : (j : Int) < (t.length : Int) := by omega
      rw [if_pos hj]
      rw [hx] at hc
      by_cases hb : ((b.toNat : Int) = 0)
      · have hbn : b.toNat = 0 := by omega
        refine PureC.of_body (tyOf_good _) Tryz.func16 rfl rfl (rs := [.tmp 2, .cell 3 40]) Tryz.results16 (by simp [Tryz.ntmps16]) fun X => ?_
        simp only [Tryz.ntmps16, List.map]
        refine AW_rg (tyOf_good _) [0, 3] [3] (fun _ _ => trivial) fun K' hK' => ?_
        repeat (refine sxf_next fun K2 hK2 => ?_; simp [dNum, pRow, dS]; (repeat (refine ⟨by omega, ?_⟩)); refine hK2 _ ?_; clear hK2 K2)
        refine sxf_nil (hK' _ ?_)
        refine AW.st (by simp [dNum, pRow, dS]; rfl) ?_
        clear hK' K'
        refine AW_then fun K1 hK1 => ?_
        refine AW_rg (tyOf_good _) [0, 3, 8] [3] (fun _ _ => trivial) fun K' hK' => ?_
        repeat (refine sxf_next fun K2 hK2 => ?_; simp [dNum, pRow, dS, bs_size, hl, hl']; (repeat (refine ⟨by omega, ?_⟩)); refine hK2 _ ?_; clear hK2 K2)
        refine sxf_nil (hK' _ ?_)
        refine AW.st (by simp [dNum, pRow, dS, bs_size, hl, hl']; rfl) ?_
        clear hK' K'
        refine AW_cond false rfl (fun h => by cases h) (fun _ => ?_)
        refine AW_skip (hK1 _ ?_)
        refine AW_rg (tyOf_good _) [0, 3, 4] [3, 13] (fun _ _ => trivial) fun K' hK' => ?_
        repeat (refine sxf_next fun K2 hK2 => ?_; simp [dNum, pRow, dS, hF]; (repeat (refine ⟨by omega, ?_⟩)); refine hK2 _ ?_; clear hK2 K2)
        refine sxf_nil (hK' _ ?_)
        refine AW.st (by simp [dNum, pRow, dS, hF]; rfl) ?_
        clear hK' K'
        refine AW.imp (Imp.ren (r := 13) (r' := 500) trivial (by simp)) ?_
        refine AW.st (by simp [renO, renF, Go.Av.ren, renH_two2]; rfl) ?_
        refine AW_rg (tyOf_good _) [0, 3, 4, 5] [3, 500] (fun _ _ => trivial) fun K' hK' => ?_
        repeat (refine sxf_next fun K2 hK2 => ?_; simp [dNum, pRow, dS]; (repeat (refine ⟨by omega, ?_⟩)); refine hK2 _ ?_; clear hK2 K2)
        refine sxf_next fun K2 hK2 => ?_
        simp [dNum, pRow, dS]
        refine callK.mc (hc) (by simp [dNum, pRow, dS]) (by simp [dNum, pRow, dS]) (by simp [dNum, pRow, dS]) (by simp [dNum, pRow, dS]) ?_
        simp [dNum, pRow, dS]
        refine hK2 _ ?_
        clear hK2 K2
        repeat (refine sxf_next fun K2 hK2 => ?_; simp [dNum, pRow, dS]; (repeat (refine ⟨by omega, ?_⟩)); refine hK2 _ ?_; clear hK2 K2)
        refine sxf_nil (hK' _ ?_)
        refine AW.st (by simp [dNum, pRow, dS]; rfl) ?_
        clear hK' K'
        refine AW_then fun K2 hK2 => ?_
        refine AW_rg (tyOf_good _) [3, 4, 5, 43] [3, 500] (fun _ _ => trivial) fun K' hK' => ?_
        repeat (refine sxf_next fun K2 hK2 => ?_; simp [dNum, pRow, dS, hb, hbn, bs_size, hj, hj']; (repeat (refine ⟨by omega, ?_⟩)); refine hK2 _ ?_; clear hK2 K2)
        refine sxf_next fun K2 hK2 => ?_
        simp [dNum, pRow, dS, hb, hbn, bs_size, hj, hj']
        refine callK.mc (hnx) (by simp [dNum, pRow, dS, hb, hbn, bs_size, hj, hj']) (by simp [dNum, pRow, dS, hb, hbn, bs_size, hj, hj']) (by simp [dNum, pRow, dS, hb, hbn, bs_size, hj, hj']) (by simp [dNum, pRow, dS, hb, hbn, bs_size, hj, hj']) ?_
        simp [dNum, pRow, dS, hb, hbn, bs_size, hj, hj']
        refine hK2 _ ?_
        clear hK2 K2
        repeat (refine sxf_next fun K2 hK2 => ?_; simp [dNum, pRow, dS, hb, hbn, bs_size, hj, hj']; (repeat (refine ⟨by omega, ?_⟩)); refine hK2 _ ?_; clear hK2 K2)
        refine sxf_nil (hK' _ ?_)
        refine AW.st (by simp [dNum, pRow, dS, hb, hbn, bs_size, hj, hj']; rfl) ?_
        clear hK' K'
        refine AW_cond true rfl (fun _ => ?_) (fun h => by cases h)
        refine AW_re (tyOf_good _) fun K' hK' => ?_
        repeat (refine sxf_next fun K2 hK2 => ?_; simp [dNum, pRow, dS]; (repeat (refine ⟨by omega, ?_⟩)); refine hK2 _ ?_; clear hK2 K2)
        refine sxf_next fun K2 hK2 => ?_
        simp [dNum, pRow, dS]
        refine callK.mc (hfl) (by simp [dNum, pRow, dS]) (by simp [dNum, pRow, dS]) (by simp [dNum, pRow, dS]) (by simp [dNum, pRow, dS]) ?_
        simp [dNum, pRow, dS]
        refine hK2 _ ?_
        clear hK2 K2
        repeat (refine sxf_next fun K2 hK2 => ?_; simp [dNum, pRow, dS]; (repeat (refine ⟨by omega, ?_⟩)); refine hK2 _ ?_; clear hK2 K2)
        refine sxf_nil (hK' _ ?_)
        clear hK' K'
        refine hK2 _ (AW.norm [3, 4, 5] [3, 500] (fun _ _ => trivial) (AW.st (by simp [dNum, pRow, dS]; rfl) ?_))
        refine AW_then fun K3 hK3 => ?_
        refine AW_rg (tyOf_good _) [3, 4, 5, 51] [3, 500] (fun _ _ => trivial) fun K' hK' => ?_
        repeat (refine sxf_next fun K2 hK2 => ?_; simp [dNum, pRow, dS]; (repeat (refine ⟨by omega, ?_⟩)); refine hK2 _ ?_; clear hK2 K2)
        refine sxf_nil (hK' _ ?_)
        refine AW.st (by simp [dNum, pRow, dS]; rfl) ?_
        clear hK' K'
        refine AW_cond true rfl (fun _ => ?_) (fun h => by cases h)
        refine AW_rdg (tyOf_good _) (by kernel_rfl) [(3, 500), (5, 3)] [2, 3] [3, 500] (fun _ _ => trivial) (by kernel_rfl) fun K' hK' => ?_
        repeat (refine sxg_next fun K2 hK2 => ?_; simp [dNum, pRow, dS]; (repeat (refine ⟨by omega, ?_⟩)); refine hK2 _ ?_; clear hK2 K2)
        refine sxg_nil (hK' _ ?_)
        refine AW.st (by simp [dNum, pRow, dS]; rfl) ?_
        clear hK' K'
        refine AW_ret ?_
        simp [D.le, D.le.go, takeMap, dNum, pRow, dS, dOR, dFault, codeF, placeF]
      · have hbn : ¬ b.toNat = 0 := by omega
        refine PureC.of_body (tyOf_good _) Tryz.func16 rfl rfl (rs := [.tmp 2, .cell 3 40]) Tryz.results16 (by simp [Tryz.ntmps16]) fun X => ?_
        simp only [Tryz.ntmps16, List.map]
        refine AW_rg (tyOf_good _) [0, 3] [3] (fun _ _ => trivial) fun K' hK' => ?_
        repeat (refine sxf_next fun K2 hK2 => ?_; simp [dNum, pRow, dS]; (repeat (refine ⟨by omega, ?_⟩)); refine hK2 _ ?_; clear hK2 K2)
        refine sxf_nil (hK' _ ?_)
        refine AW.st (by simp [dNum, pRow, dS]; rfl) ?_
        clear hK' K'
        refine AW_then fun K1 hK1 => ?_
        refine AW_rg (tyOf_good _) [0, 3, 8] [3] (fun _ _ => trivial) fun K' hK' => ?_
        repeat (refine sxf_next fun K2 hK2 => ?_; simp [dNum, pRow, dS, bs_size, hl, hl']; (repeat (refine ⟨by omega, ?_⟩)); refine hK2 _ ?_; clear hK2 K2)
        refine sxf_nil (hK' _ ?_)
        refine AW.st (by simp [dNum, pRow, dS, bs_size, hl, hl']; rfl) ?_
        clear hK' K'
        refine AW_cond false rfl (fun h => by cases h) (fun _ => ?_)
        refine AW_skip (hK1 _ ?_)
        refine AW_rg (tyOf_good _) [0, 3, 4] [3, 13] (fun _ _ => trivial) fun K' hK' => ?_
        repeat (refine sxf_next fun K2 hK2 => ?_; simp [dNum, pRow, dS, hF]; (repeat (refine ⟨by omega, ?_⟩)); refine hK2 _ ?_; clear hK2 K2)
        refine sxf_nil (hK' _ ?_)
        refine AW.st (by simp [dNum, pRow, dS, hF]; rfl) ?_
        clear hK' K'
        refine AW.imp (Imp.ren (r := 13) (r' := 500) trivial (by simp)) ?_
        refine AW.st (by simp [renO, renF, Go.Av.ren, renH_two2]; rfl) ?_
        refine AW_rg (tyOf_good _) [0, 3, 4, 5] [3, 500] (fun _ _ => trivial) fun K' hK' => ?_
        repeat (refine sxf_next fun K2 hK2 => ?_; simp [dNum, pRow, dS]; (repeat (refine ⟨by omega, ?_⟩)); refine hK2 _ ?_; clear hK2 K2)
        refine sxf_next fun K2 hK2 => ?_
        simp [dNum, pRow, dS]
        refine callK.mc (hc) (by simp [dNum, pRow, dS]) (by simp [dNum, pRow, dS]) (by simp [dNum, pRow, dS]) (by simp [dNum, pRow, dS]) ?_
        simp [dNum, pRow, dS]
        refine hK2 _ ?_
        clear hK2 K2
        repeat (refine sxf_next fun K2 hK2 => ?_; simp [dNum, pRow, dS]; (repeat (refine ⟨by omega, ?_⟩)); refine hK2 _ ?_; clear hK2 K2)
        refine sxf_nil (hK' _ ?_)
        refine AW.st (by simp [dNum, pRow, dS]; rfl) ?_
        clear hK' K'
        refine AW_then fun K2 hK2 => ?_
        refine AW_rg (tyOf_good _) [3, 4, 5, 43] [3, 500] (fun _ _ => trivial) fun K' hK' => ?_
        repeat (refine sxf_next fun K2 hK2 => ?_; simp [dNum, pRow, dS, hb, hbn, bs_size, hj, hj']; (repeat (refine ⟨by omega, ?_⟩)); refine hK2 _ ?_; clear hK2 K2)
        refine sxf_next fun K2 hK2 => ?_
        simp [dNum, pRow, dS, hb, hbn, bs_size, hj, hj']
        refine callK.mc (hnx) (by simp [dNum, pRow, dS, hb, hbn, bs_size, hj, hj']) (by simp [dNum, pRow, dS, hb, hbn, bs_size, hj, hj']) (by simp [dNum, pRow, dS, hb, hbn, bs_size, hj, hj']) (by simp [dNum, pRow, dS, hb, hbn, bs_size, hj, hj']) ?_
        simp [dNum, pRow, dS, hb, hbn, bs_size, hj, hj']
        refine hK2 _ ?_
        clear hK2 K2
        repeat (refine sxf_next fun K2 hK2 => ?_; simp [dNum, pRow, dS, hb, hbn, bs_size, hj, hj']; (repeat (refine ⟨by omega, ?_⟩)); refine hK2 _ ?_; clear hK2 K2)
        refine sxf_nil (hK' _ ?_)
        refine AW.st (by simp [dNum, pRow, dS, hb, hbn, bs_size, hj, hj']; rfl) ?_
        clear hK' K'
        refine AW_cond true rfl (fun _ => ?_) (fun h => by cases h)
        refine AW_re (tyOf_good _) fun K' hK' => ?_
        repeat (refine sxf_next fun K2 hK2 => ?_; simp [dNum, pRow, dS]; (repeat (refine ⟨by omega, ?_⟩)); refine hK2 _ ?_; clear hK2 K2)
        refine sxf_next fun K2 hK2 => ?_
        simp [dNum, pRow, dS]
        refine callK.mc (hfl) (by simp [dNum, pRow, dS]) (by simp [dNum, pRow, dS]) (by simp [dNum, pRow, dS]) (by simp [dNum, pRow, dS]) ?_
        simp [dNum, pRow, dS]
        refine hK2 _ ?_
        clear hK2 K2
        repeat (refine sxf_next fun K2 hK2 => ?_; simp [dNum, pRow, dS]; (repeat (refine ⟨by omega, ?_⟩)); refine hK2 _ ?_; clear hK2 K2)
        refine sxf_nil (hK' _ ?_)
        clear hK' K'
        refine hK2 _ (AW.norm [3, 4, 5] [3, 500] (fun _ _ => trivial) (AW.st (by simp [dNum, pRow, dS]; rfl) ?_))
        refine AW_then fun K3 hK3 => ?_
        refine AW_rg (tyOf_good _) [3, 4, 5, 51] [3, 500] (fun _ _ => trivial) fun K' hK' => ?_
        repeat (refine sxf_next fun K2 hK2 => ?_; simp [dNum, pRow, dS]; (repeat (refine ⟨by omega, ?_⟩)); refine hK2 _ ?_; clear hK2 K2)
        refine sxf_nil (hK' _ ?_)
        refine AW.st (by simp [dNum, pRow, dS]; rfl) ?_
        clear hK' K'
        refine AW_cond true rfl (fun _ => ?_) (fun h => by cases h)
        refine AW_rdg (tyOf_good _) (by kernel_rfl) [(3, 500), (5, 3)] [2, 3] [3, 500] (fun _ _ => trivial) (by kernel_rfl) fun K' hK' => ?_
        repeat (refine sxg_next fun K2 hK2 => ?_; simp [dNum, pRow, dS]; (repeat (refine ⟨by omega, ?_⟩)); refine hK2 _ ?_; clear hK2 K2)
        refine sxg_nil (hK' _ ?_)
        refine AW.st (by simp [dNum, pRow, dS]; rfl) ?_
        clear hK' K'
        refine AW_ret ?_
        simp [D.le, D.le.go, takeMap, dNum, pRow, dS, dOR, dFault, codeF, placeF]
    · have hj' : ¬ (j : Int) < (t.length : Int) := by omega
      have hb : ((b.toNat : Int) = 0) := by
        rcases hnb with h | h
        · exact absurd h hj
        · rw [h]; rfl
      have hbn : b.toNat = 0 := by omega
      rw [if_neg hj]
      simp only [dOR]
      rw [hx] at hc ⊢
      refine PureC.of_body (tyOf_good _) Tryz.func16 rfl rfl (rs := [.tmp 2, .cell 3 40]) Tryz.results16 (by simp [Tryz.ntmps16]) fun X => ?_
      simp only [Tryz.ntmps16, List.map]
      refine AW_rg (tyOf_good _) [0, 3] [3] (fun _ _ => trivial) fun K' hK' => ?_
      repeat (refine sxf_next fun K2 hK2 => ?_; simp [dNum, pRow, dS]; (repeat (refine ⟨by omega, ?_⟩)); refine hK2 _ ?_; clear hK2 K2)
      refine sxf_nil (hK' _ ?_)
      refine AW.st (by simp [dNum, pRow, dS]; rfl) ?_
      clear hK' K'
      refine AW_then fun K1 hK1 => ?_
      refine AW_rg (tyOf_good _) [0, 3, 8] [3] (fun _ _ => trivial) fun K' hK' => ?_
      repeat (refine sxf_next fun K2 hK2 => ?_; simp [dNum, pRow, dS, bs_size, hl, hl']; (repeat (refine ⟨by omega, ?_⟩)); refine hK2 _ ?_; clear hK2 K2)
      refine sxf_nil (hK' _ ?_)
      refine AW.st (by simp [dNum, pRow, dS, bs_size, hl, hl']; rfl) ?_
      clear hK' K'
      refine AW_cond false rfl (fun h => by cases h) (fun _ => ?_)
      refine AW_skip (hK1 _ ?_)
      refine AW_rg (tyOf_good _) [0, 3, 4] [3, 13] (fun _ _ => trivial) fun K' hK' => ?_
      repeat (refine sxf_next fun K2 hK2 => ?_; simp [dNum, pRow, dS, hF]; (repeat (refine ⟨by omega, ?_⟩)); refine hK2 _ ?_; clear hK2 K2)
      refine sxf_nil (hK' _ ?_)
      refine AW.st (by simp [dNum, pRow, dS, hF]; rfl) ?_
      clear hK' K'
      refine AW.imp (Imp.ren (r := 13) (r' := 500) trivial (by simp)) ?_
      refine AW.st (by simp [renO, renF, Go.Av.ren, renH_two2]; rfl) ?_
      refine AW_rg (tyOf_good _) [0, 3, 4, 5] [3, 500] (fun _ _ => trivial) fun K' hK' => ?_
      repeat (refine sxf_next fun K2 hK2 => ?_; simp [dNum, pRow, dS]; (repeat (refine ⟨by omega, ?_⟩)); refine hK2 _ ?_; clear hK2 K2)
      refine sxf_next fun K2 hK2 => ?_
      simp [dNum, pRow, dS]
      refine callK.mc (hc) (by simp [dNum, pRow, dS]) (by simp [dNum, pRow, dS]) (by simp [dNum, pRow, dS]) (by simp [dNum, pRow, dS]) ?_
      simp [dNum, pRow, dS]
      refine hK2 _ ?_
      clear hK2 K2
      repeat (refine sxf_next fun K2 hK2 => ?_; simp [dNum, pRow, dS]; (repeat (refine ⟨by omega, ?_⟩)); refine hK2 _ ?_; clear hK2 K2)
      refine sxf_nil (hK' _ ?_)
      refine AW.st (by simp [dNum, pRow, dS]; rfl) ?_
      clear hK' K'
      refine AW_then fun K2 hK2 => ?_
      refine AW_rg (tyOf_good _) [3, 4, 5, 43] [3, 500] (fun _ _ => trivial) fun K' hK' => ?_
      repeat (refine sxf_next fun K2 hK2 => ?_; simp [dNum, pRow, dS, hb, hbn, bs_size, hj, hj']; (repeat (refine ⟨by omega, ?_⟩)); refine hK2 _ ?_; clear hK2 K2)
      refine sxf_next fun K2 hK2 => ?_
      simp [dNum, pRow, dS, hb, hbn, bs_size, hj, hj']
      refine callK.mc (hnx) (by simp [dNum, pRow, dS, hb, hbn, bs_size, hj, hj']) (by simp [dNum, pRow, dS, hb, hbn, bs_size, hj, hj']) (by simp [dNum, pRow, dS, hb, hbn, bs_size, hj, hj']) (by simp [dNum, pRow, dS, hb, hbn, bs_size, hj, hj']) ?_
      simp [dNum, pRow, dS, hb, hbn, bs_size, hj, hj']
      refine hK2 _ ?_
      clear hK2 K2
      repeat (refine sxf_next fun K2 hK2 => ?_; simp [dNum, pRow, dS, hb, hbn, bs_size, hj, hj']; (repeat (refine ⟨by omega, ?_⟩)); refine hK2 _ ?_; clear hK2 K2)
      refine sxf_nil (hK' _ ?_)
      refine AW.st (by simp [dNum, pRow, dS, hb, hbn, bs_size, hj, hj']; rfl) ?_
      clear hK' K'
      refine AW_cond false rfl (fun h => by cases h) (fun _ => ?_)
      refine AW_skip (hK2 _ ?_)
      refine AW_then fun K3 hK3 => ?_
      refine AW_rg (tyOf_good _) [3, 4, 5, 51] [3, 500] (fun _ _ => trivial) fun K' hK' => ?_
      repeat (refine sxf_next fun K2 hK2 => ?_; simp [dNum, pRow, dS]; (repeat (refine ⟨by omega, ?_⟩)); refine hK2 _ ?_; clear hK2 K2)
      refine sxf_nil (hK' _ ?_)
      refine AW.st (by simp [dNum, pRow, dS]; rfl) ?_
      clear hK' K'
      refine AW_cond false rfl (fun h => by cases h) (fun _ => ?_)
      refine AW_skip (hK3 _ ?_)
      refine AW_rdg (tyOf_good _) (by kernel_rfl) [(3, 3)] [2, 3] [3, 500] (fun _ _ => trivial) (by kernel_rfl) fun K' hK' => ?_
      repeat (refine sxg_next fun K2 hK2 => ?_; simp [dNum, pRow, dS, hF]; (repeat (refine ⟨by omega, ?_⟩)); refine hK2 _ ?_; clear hK2 K2)
      refine sxg_nil (hK' _ ?_)
      refine AW.st (by simp [dNum, pRow, dS, hF]; rfl) ?_
      clear hK' K'
      refine AW_ret ?_
      simp [D.le, D.le.go, takeMap, dNum, pRow, dS, dFault, codeF, placeF, D.le_refl, D.leGo_refl]
end Go.Proofs.YtfehigldhedkgaaGreatDoor

/-
  read, and what ExprTidies says.
-/
namespace Go.Proofs.YtfehigldhedkgaaGreatDoor
set_option linter.unusedSimpArgs false
set_option linter.unusedVariables false
open Go.Av

def readE (t : List UInt8) : Option Ex := if 1000 < t.length then none else (parseM t).1
def dRead : Option Ex → D
  | none => .tup [.v .nilIface, .v (.pointer none), .v (.bool false)]
  | some x => .tup [dE x, dR x, .v (.bool true)]

set_option maxHeartbeats 4000000 in
theorem read_spec (G : Glob) (hF : HasFine G) (t : List UInt8) : PureC Tryz.prog G 4 [dS t] (dRead (readE t)) := by
  unfold readE
  by_cases hl : 1000 < t.length
  · have hl' : (1000 : Int) < (t.length : Int) := by omega
    rw [if_pos hl]
    refine PureC.of_body (tyOf_good _) Tryz.func4 rfl rfl (rs := [.tmp 2, .tmp 3, .tmp 4]) Tryz.results4 (by simp [Tryz.ntmps4]) fun X => ?_
    simp only [Tryz.ntmps4, List.map]
    refine AW_rg (tyOf_good _) [0] [] (fun _ _ => trivial) fun K' hK' => ?_
    repeat (refine sxf_next fun K2 hK2 => ?_; simp [dNum, dS]; (repeat (refine ⟨by omega, ?_⟩)); refine hK2 _ ?_; clear hK2 K2)
    refine sxf_nil (hK' _ ?_)
    refine AW.st (by simp [dNum, dS]; rfl) ?_
    clear hK' K'
    refine AW_then fun K1 hK1 => ?_
    refine AW_rg (tyOf_good _) [0, 11] [] (fun _ _ => trivial) fun K' hK' => ?_
    repeat (refine sxf_next fun K2 hK2 => ?_; simp [dNum, dS, bs_size, hl, hl']; (repeat (refine ⟨by omega, ?_⟩)); refine hK2 _ ?_; clear hK2 K2)
    refine sxf_nil (hK' _ ?_)
    refine AW.st (by simp [dNum, dS, bs_size, hl, hl']; rfl) ?_
    clear hK' K'
    refine AW_cond true rfl (fun _ => ?_) (fun h => by cases h)
    refine AW_rg (tyOf_good _) [2, 3, 4] [] (fun _ _ => trivial) fun K' hK' => ?_
    repeat (refine sxf_next fun K2 hK2 => ?_; simp [dNum, dS]; (repeat (refine ⟨by omega, ?_⟩)); refine hK2 _ ?_; clear hK2 K2)
    refine sxf_nil (hK' _ ?_)
    refine AW.st (by simp [dNum, dS]; rfl) ?_
    clear hK' K'
    refine AW_ret ?_
    simp [D.le, D.le.go, takeMap, dNum, dS, dRead]
  have hl' : ¬ (1000 : Int) < (t.length : Int) := by omega
  rw [if_neg hl]
  have hrp := rparse_spec G hF t (by omega)
  have hep := parse_spec G t (by omega)
  cases he : (parseM t).2 with
  | some e =>
    obtain ⟨c, p⟩ := e
    have h0 : ¬ c = 0 := by have := parse_pos he; omega
    have hn := parse_none he
    rw [he, hn] at hrp
    rw [hn]
    refine PureC.of_body (tyOf_good _) Tryz.func4 rfl rfl (rs := [.tmp 2, .tmp 3, .tmp 4]) Tryz.results4 (by simp [Tryz.ntmps4]) fun X => ?_
    simp only [Tryz.ntmps4, List.map]
    refine AW_rg (tyOf_good _) [0] [] (fun _ _ => trivial) fun K' hK' => ?_
    repeat (refine sxf_next fun K2 hK2 => ?_; simp [dNum, dS]; (repeat (refine ⟨by omega, ?_⟩)); refine hK2 _ ?_; clear hK2 K2)
    refine sxf_nil (hK' _ ?_)
    refine AW.st (by simp [dNum, dS]; rfl) ?_
    clear hK' K'
    refine AW_then fun K1 hK1 => ?_
    refine AW_rg (tyOf_good _) [0, 11] [] (fun _ _ => trivial) fun K' hK' => ?_
    repeat (refine sxf_next fun K2 hK2 => ?_; simp [dNum, dS, bs_size, hl, hl']; (repeat (refine ⟨by omega, ?_⟩)); refine hK2 _ ?_; clear hK2 K2)
    refine sxf_nil (hK' _ ?_)
    refine AW.st (by simp [dNum, dS, bs_size, hl, hl']; rfl) ?_
    clear hK' K'
    refine AW_cond false rfl (fun h => by cases h) (fun _ => ?_)
    refine AW_skip (hK1 _ ?_)
    refine AW_rg (tyOf_good _) [0, 5, 6] [6] (fun _ _ => trivial) fun K' hK' => ?_
    repeat (refine sxf_next fun K2 hK2 => ?_; simp [dNum, dS, dOR, dFault, codeF, placeF]; (repeat (refine ⟨by omega, ?_⟩)); refine hK2 _ ?_; clear hK2 K2)
    refine sxf_next fun K2 hK2 => ?_
    simp [dNum, dS, dOR, dFault, codeF, placeF]
    refine callK.data (hrp) (by simp; rfl) (by first | exact D.leGo_refl _ | simp [takeMap, List.map_map, Function.comp_def, D.le, D.le.go, D.le_refl, D.leGo_refl, dNum, dS, dOR, dFault, codeF, placeF]) ?_
    refine hK2 _ ?_
    clear hK2 K2
    simp only [putd, upd_lst]
    repeat (refine sxf_next fun K2 hK2 => ?_; simp [dNum, dS, dOR, dFault, codeF, placeF]; (repeat (refine ⟨by omega, ?_⟩)); refine hK2 _ ?_; clear hK2 K2)
    refine sxf_nil (hK' _ ?_)
    refine AW.st (by simp [dNum, dS, dOR, dFault, codeF, placeF]; rfl) ?_
    clear hK' K'
    refine AW_then fun K2 hK2 => ?_
    refine AW_rg (tyOf_good _) [0, 5, 19] [6] (fun _ _ => trivial) fun K' hK' => ?_
    repeat (refine sxf_next fun K2 hK2 => ?_; simp [dNum, dS, h0]; (repeat (refine ⟨by omega, ?_⟩)); refine hK2 _ ?_; clear hK2 K2)
    refine sxf_nil (hK' _ ?_)
    refine AW.st (by simp [dNum, dS, h0]; rfl) ?_
    clear hK' K'
    refine AW_cond true rfl (fun _ => ?_) (fun h => by cases h)
    refine AW_rg (tyOf_good _) [2, 3, 4] [6] (fun _ _ => trivial) fun K' hK' => ?_
    repeat (refine sxf_next fun K2 hK2 => ?_; simp [dNum, dS]; (repeat (refine ⟨by omega, ?_⟩)); refine hK2 _ ?_; clear hK2 K2)
    refine sxf_nil (hK' _ ?_)
    refine AW.st (by simp [dNum, dS]; rfl) ?_
    clear hK' K'
    refine AW_ret ?_
    simp [D.le, D.le.go, takeMap, dNum, dS, dRead]
  | none =>
    obtain ⟨x, hx⟩ := parse_some he
    obtain ⟨cx, hcx⟩ := dR_ip x
    obtain ⟨tx, dx, hdx⟩ := dE_ifc x
    rw [he, hx] at hrp hep
    rw [hx]
    simp only [dOR, dOE, dRead] at hrp hep ⊢
    rw [hcx] at hrp ⊢
    rw [hdx] at hep ⊢
    refine PureC.of_body (tyOf_good _) Tryz.func4 rfl rfl (rs := [.tmp 2, .tmp 3, .tmp 4]) Tryz.results4 (by simp [Tryz.ntmps4]) fun X => ?_
    simp only [Tryz.ntmps4, List.map]
    refine AW_rg (tyOf_good _) [0] [] (fun _ _ => trivial) fun K' hK' => ?_
    repeat (refine sxf_next fun K2 hK2 => ?_; simp [dNum, dS]; (repeat (refine ⟨by omega, ?_⟩)); refine hK2 _ ?_; clear hK2 K2)
    refine sxf_nil (hK' _ ?_)
    refine AW.st (by simp [dNum, dS]; rfl) ?_
    clear hK' K'
    refine AW_then fun K1 hK1 => ?_
    refine AW_rg (tyOf_good _) [0, 11] [] (fun _ _ => trivial) fun K' hK' => ?_
    repeat (refine sxf_next fun K2 hK2 => ?_; simp [dNum, dS, bs_size, hl, hl']; (repeat (refine ⟨by omega, ?_⟩)); refine hK2 _ ?_; clear hK2 K2)
    refine sxf_nil (hK' _ ?_)
    refine AW.st (by simp [dNum, dS, bs_size, hl, hl']; rfl) ?_
    clear hK' K'
    refine AW_cond false rfl (fun h => by cases h) (fun _ => ?_)
    refine AW_skip (hK1 _ ?_)
    refine AW_rg (tyOf_good _) [0, 5, 6] [6] (fun _ _ => trivial) fun K' hK' => ?_
    repeat (refine sxf_next fun K2 hK2 => ?_; simp [dNum, dS, dFault, codeF, placeF]; (repeat (refine ⟨by omega, ?_⟩)); refine hK2 _ ?_; clear hK2 K2)
    refine sxf_next fun K2 hK2 => ?_
    simp [dNum, dS, dFault, codeF, placeF]
    refine callK.data (hrp) (by simp; rfl) (by first | exact D.leGo_refl _ | simp [takeMap, List.map_map, Function.comp_def, D.le, D.le.go, D.le_refl, D.leGo_refl, dNum, dS, dFault, codeF, placeF]) ?_
    refine hK2 _ ?_
    clear hK2 K2
    simp only [putd, upd_lst]
    repeat (refine sxf_next fun K2 hK2 => ?_; simp [dNum, dS, dFault, codeF, placeF]; (repeat (refine ⟨by omega, ?_⟩)); refine hK2 _ ?_; clear hK2 K2)
    refine sxf_nil (hK' _ ?_)
    refine AW.st (by simp [dNum, dS, dFault, codeF, placeF]; rfl) ?_
    clear hK' K'
    refine AW_then fun K2 hK2 => ?_
    refine AW_rg (tyOf_good _) [0, 5, 19] [6] (fun _ _ => trivial) fun K' hK' => ?_
    repeat (refine sxf_next fun K2 hK2 => ?_; simp [dNum, dS]; (repeat (refine ⟨by omega, ?_⟩)); refine hK2 _ ?_; clear hK2 K2)
    refine sxf_nil (hK' _ ?_)
    refine AW.st (by simp [dNum, dS]; rfl) ?_
    clear hK' K'
    refine AW_cond false rfl (fun h => by cases h) (fun _ => ?_)
    refine AW_skip (hK2 _ ?_)
    refine AW_rg (tyOf_good _) [5, 7, 8] [6] (fun _ _ => trivial) fun K' hK' => ?_
    repeat (refine sxf_next fun K2 hK2 => ?_; simp [dNum, dS, dErr]; (repeat (refine ⟨by omega, ?_⟩)); refine hK2 _ ?_; clear hK2 K2)
    refine sxf_next fun K2 hK2 => ?_
    simp [dNum, dS, dErr]
    refine callK.data (hep) (by simp; rfl) (by first | exact D.leGo_refl _ | simp [takeMap, List.map_map, Function.comp_def, D.le, D.le.go, D.le_refl, D.leGo_refl, dNum, dS, dErr]) ?_
    refine hK2 _ ?_
    clear hK2 K2
    simp only [putd, upd_lst]
    repeat (refine sxf_next fun K2 hK2 => ?_; simp [dNum, dS, dErr]; (repeat (refine ⟨by omega, ?_⟩)); refine hK2 _ ?_; clear hK2 K2)
    refine sxf_nil (hK' _ ?_)
    refine AW.st (by simp [dNum, dS, dErr]; rfl) ?_
    clear hK' K'
    refine AW_then fun K3 hK3 => ?_
    refine AW_rg (tyOf_good _) [5, 7, 26] [6] (fun _ _ => trivial) fun K' hK' => ?_
    repeat (refine sxf_next fun K2 hK2 => ?_; simp [dNum, dS]; (repeat (refine ⟨by omega, ?_⟩)); refine hK2 _ ?_; clear hK2 K2)
    refine sxf_nil (hK' _ ?_)
    refine AW.st (by simp [dNum, dS]; rfl) ?_
    clear hK' K'
    refine AW_cond false rfl (fun h => by cases h) (fun _ => ?_)
    refine AW_skip (hK3 _ ?_)
    refine AW_rg (tyOf_good _) [2, 3, 4] [6] (fun _ _ => trivial) fun K' hK' => ?_
    repeat (refine sxf_next fun K2 hK2 => ?_; simp [dNum, dS]; (repeat (refine ⟨by omega, ?_⟩)); refine hK2 _ ?_; clear hK2 K2)
    refine sxf_nil (hK' _ ?_)
    refine AW.st (by simp [dNum, dS]; rfl) ?_
    clear hK' K'
    refine AW_ret ?_
    simp [D.le, D.le.go, takeMap, dNum, dS, D.le_refl, D.leGo_refl]
theorem readE_some {t : List UInt8} {x : Ex} (h : readE t = some x) : (parseM t).1 = some x := by
  unfold readE at h
  split at h
  · cases h
  · exact h

end Go.Proofs.YtfehigldhedkgaaGreatDoor

/-
  What ExprSays says.
-/
namespace Go.Proofs.YtfehigldhedkgaaGreatDoor
set_option linter.unusedSimpArgs false
set_option linter.unusedVariables false
open Go.Av

theorem names_small (all : Bool) (e : Ex) : (namesE all e).length ≤ bE e := by
  have h1 := Lib.compact_length_le (sortT (nmsE all e))
  have h2 := sortT_len (nmsE all e)
  have h3 := nms_len all e
  unfold namesE
  omega

set_option maxHeartbeats 32000000 in
theorem esays_spec (G : Glob) (hF : HasFine G) (hM : HasMax G) (t : List UInt8) (is was : List (List UInt8)) : PureC Tryz.prog G 3 [dS t, .sl none (is.map fun s => [dS s]), .sl none (was.map fun s => [dS s])] (.v (.bool true)) := by
  have hrd := read_spec G hF t
  cases hr : readE t with
  | none =>
    rw [hr] at hrd
    refine PureC.of_body (tyOf_good _) Tryz.func3 rfl rfl (rs := [.tmp 6]) Tryz.results3 (by simp [Tryz.ntmps3]) fun X => ?_
    simp only [Tryz.ntmps3, List.map]
    refine AW_rg (tyOf_good _) [0, 1, 2] [] (fun _ _ => trivial) fun K' hK' => ?_
    repeat (refine sxf_next fun K2 hK2 => ?_; simp [dNum, dS]; (repeat (refine ⟨by omega, ?_⟩)); refine hK2 _ ?_; clear hK2 K2)
    refine sxf_nil (hK' _ ?_)
    refine AW.st (by simp [dNum, dS]; rfl) ?_
    clear hK' K'
    refine AW_rg (tyOf_good _) [1, 2, 7, 8, 9] [] (fun _ _ => trivial) fun K' hK' => ?_
    repeat (refine sxf_next fun K2 hK2 => ?_; simp [dNum, dS, dRead]; (repeat (refine ⟨by omega, ?_⟩)); refine hK2 _ ?_; clear hK2 K2)
    refine sxf_next fun K2 hK2 => ?_
    simp [dNum, dS, dRead]
    refine callK.data (hrd) (by simp; rfl) (by first | exact D.leGo_refl _ | simp [takeMap, List.map_map, Function.comp_def, D.le, D.le.go, D.le_refl, D.leGo_refl, dNum, dS, dRead]) ?_
    refine hK2 _ ?_
    clear hK2 K2
    simp only [putd, upd_lst]
    repeat (refine sxf_next fun K2 hK2 => ?_; simp [dNum, dS, dRead]; (repeat (refine ⟨by omega, ?_⟩)); refine hK2 _ ?_; clear hK2 K2)
    refine sxf_nil (hK' _ ?_)
    refine AW.st (by simp [dNum, dS, dRead]; rfl) ?_
    clear hK' K'
    refine AW_then fun K1 hK1 => ?_
    refine AW_rg (tyOf_good _) [1, 2, 7, 8, 28] [] (fun _ _ => trivial) fun K' hK' => ?_
    repeat (refine sxf_next fun K2 hK2 => ?_; simp [dNum, dS]; (repeat (refine ⟨by omega, ?_⟩)); refine hK2 _ ?_; clear hK2 K2)
    refine sxf_nil (hK' _ ?_)
    refine AW.st (by simp [dNum, dS]; rfl) ?_
    clear hK' K'
    refine AW_cond true rfl (fun _ => ?_) (fun h => by cases h)
    refine AW_rg (tyOf_good _) [6] [] (fun _ _ => trivial) fun K' hK' => ?_
    repeat (refine sxf_next fun K2 hK2 => ?_; simp [dNum, dS]; (repeat (refine ⟨by omega, ?_⟩)); refine hK2 _ ?_; clear hK2 K2)
    refine sxf_nil (hK' _ ?_)
    refine AW.st (by simp [dNum, dS]; rfl) ?_
    clear hK' K'
    refine AW_ret ?_
    simp [D.le, D.le.go, takeMap, dNum, dS]
  | some x =>
    rw [hr] at hrd
    have hp := readE_some hr
    have hb := parse_b hp
    have hw := (parse_wf hp).1
    obtain ⟨cx, hcx⟩ := dR_ip x
    obtain ⟨tx, dx, hdx⟩ := dE_ifc x
    simp only [dRead] at hrd
    rw [hcx, hdx] at hrd
    by_cases h1 : 30 < is.length
    · have h1' : (30 : Int) < (is.length : Int) := by omega
      refine PureC.of_body (tyOf_good _) Tryz.func3 rfl rfl (rs := [.tmp 6]) Tryz.results3 (by simp [Tryz.ntmps3]) fun X => ?_
      simp only [Tryz.ntmps3, List.map]
      refine AW_rg (tyOf_good _) [0, 1, 2] [] (fun _ _ => trivial) fun K' hK' => ?_
      repeat (refine sxf_next fun K2 hK2 => ?_; simp [dNum, dS]; (repeat (refine ⟨by omega, ?_⟩)); refine hK2 _ ?_; clear hK2 K2)
      refine sxf_nil (hK' _ ?_)
      refine AW.st (by simp [dNum, dS]; rfl) ?_
      clear hK' K'
      refine AW_rg (tyOf_good _) [1, 2, 7, 8, 9] [] (fun _ _ => trivial) fun K' hK' => ?_
      repeat (refine sxf_next fun K2 hK2 => ?_; simp [dNum, dS]; (repeat (refine ⟨by omega, ?_⟩)); refine hK2 _ ?_; clear hK2 K2)
      refine sxf_next fun K2 hK2 => ?_
      simp [dNum, dS]
      refine callK.data (hrd) (by simp; rfl) (by first | exact D.leGo_refl _ | simp [takeMap, List.map_map, Function.comp_def, D.le, D.le.go, D.le_refl, D.leGo_refl, dNum, dS]) ?_
      refine hK2 _ ?_
      clear hK2 K2
      simp only [putd, upd_lst]
      repeat (refine sxf_next fun K2 hK2 => ?_; simp [dNum, dS]; (repeat (refine ⟨by omega, ?_⟩)); refine hK2 _ ?_; clear hK2 K2)
      refine sxf_nil (hK' _ ?_)
      refine AW.st (by simp [dNum, dS]; rfl) ?_
      clear hK' K'
      refine AW_then fun K1 hK1 => ?_
      refine AW_rg (tyOf_good _) [1, 2, 7, 8, 28] [] (fun _ _ => trivial) fun K' hK' => ?_
      repeat (refine sxf_next fun K2 hK2 => ?_; simp [dNum, dS, h1, h1']; (repeat (refine ⟨by omega, ?_⟩)); refine hK2 _ ?_; clear hK2 K2)
      refine sxf_nil (hK' _ ?_)
      refine AW.st (by simp [dNum, dS, h1, h1']; rfl) ?_
      clear hK' K'
      refine AW_cond true rfl (fun _ => ?_) (fun h => by cases h)
      refine AW_rg (tyOf_good _) [6] [] (fun _ _ => trivial) fun K' hK' => ?_
      repeat (refine sxf_next fun K2 hK2 => ?_; simp [dNum, dS]; (repeat (refine ⟨by omega, ?_⟩)); refine hK2 _ ?_; clear hK2 K2)
      refine sxf_nil (hK' _ ?_)
      refine AW.st (by simp [dNum, dS]; rfl) ?_
      clear hK' K'
      refine AW_ret ?_
      simp [D.le, D.le.go, takeMap, dNum, dS]
    have h1' : ¬ (30 : Int) < (is.length : Int) := by omega
    by_cases h2 : 30 < was.length
    · have h2' : (30 : Int) < (was.length : Int) := by omega
      refine PureC.of_body (tyOf_good _) Tryz.func3 rfl rfl (rs := [.tmp 6]) Tryz.results3 (by simp [Tryz.ntmps3]) fun X => ?_
      simp only [Tryz.ntmps3, List.map]
      refine AW_rg (tyOf_good _) [0, 1, 2] [] (fun _ _ => trivial) fun K' hK' => ?_
      repeat (refine sxf_next fun K2 hK2 => ?_; simp [dNum, dS]; (repeat (refine ⟨by omega, ?_⟩)); refine hK2 _ ?_; clear hK2 K2)
      refine sxf_nil (hK' _ ?_)
      refine AW.st (by simp [dNum, dS]; rfl) ?_
      clear hK' K'
      refine AW_rg (tyOf_good _) [1, 2, 7, 8, 9] [] (fun _ _ => trivial) fun K' hK' => ?_
      repeat (refine sxf_next fun K2 hK2 => ?_; simp [dNum, dS]; (repeat (refine ⟨by omega, ?_⟩)); refine hK2 _ ?_; clear hK2 K2)
      refine sxf_next fun K2 hK2 => ?_
      simp [dNum, dS]
      refine callK.data (hrd) (by simp; rfl) (by first | exact D.leGo_refl _ | simp [takeMap, List.map_map, Function.comp_def, D.le, D.le.go, D.le_refl, D.leGo_refl, dNum, dS]) ?_
      refine hK2 _ ?_
      clear hK2 K2
      simp only [putd, upd_lst]
      repeat (refine sxf_next fun K2 hK2 => ?_; simp [dNum, dS]; (repeat (refine ⟨by omega, ?_⟩)); refine hK2 _ ?_; clear hK2 K2)
      refine sxf_nil (hK' _ ?_)
      refine AW.st (by simp [dNum, dS]; rfl) ?_
      clear hK' K'
      refine AW_then fun K1 hK1 => ?_
      refine AW_rg (tyOf_good _) [1, 2, 7, 8, 28] [] (fun _ _ => trivial) fun K' hK' => ?_
      repeat (refine sxf_next fun K2 hK2 => ?_; simp [dNum, dS, h1, h1', h2, h2']; (repeat (refine ⟨by omega, ?_⟩)); refine hK2 _ ?_; clear hK2 K2)
      refine sxf_nil (hK' _ ?_)
      refine AW.st (by simp [dNum, dS, h1, h1', h2, h2']; rfl) ?_
      clear hK' K'
      refine AW_cond true rfl (fun _ => ?_) (fun h => by cases h)
      refine AW_rg (tyOf_good _) [6] [] (fun _ _ => trivial) fun K' hK' => ?_
      repeat (refine sxf_next fun K2 hK2 => ?_; simp [dNum, dS]; (repeat (refine ⟨by omega, ?_⟩)); refine hK2 _ ?_; clear hK2 K2)
      refine sxf_nil (hK' _ ?_)
      refine AW.st (by simp [dNum, dS]; rfl) ?_
      clear hK' K'
      refine AW_ret ?_
      simp [D.le, D.le.go, takeMap, dNum, dS]
    have h2' : ¬ (30 : Int) < (was.length : Int) := by omega
    have ha1 := lamong_spec G none is
    have ha2 := lamong_spec G none was
    have he1 := eval_spec G _ _ _ _ _ _ (lamong_tells G none is (by omega)) (lamong_tells G none was (by omega)) x (by omega)
    have he2 := reval_spec G _ _ _ _ _ _ (lamong_tells G none is (by omega)) (lamong_tells G none was (by omega)) x hw (by omega)
    have hn1 := namesE_spec G x (by omega)
    have hn2 := rnames_spec G hM x (by omega)
    have hg1 := edgesE_spec G x (by omega)
    have hg2 := redges_spec G hM x (by omega)
    have hs1 := size_spec G x (by omega)
    have hs2 := rsize_spec G x (by omega)
    have hnl := names_small true x
    have hgl := names_small false x
    have ht1 := sameTexts_spec G none none (namesE true x) (by omega)
    have ht2 := sameTexts_spec G none none (namesE false x) (by omega)
    generalize evE _ _ x = b at he1 he2
    generalize namesE true x = nms at hn1 hn2 ht1
    generalize namesE false x = eds at hg1 hg2 ht2
    generalize szN x = sz at hs1 hs2
    rw [hdx] at he1 hn1 hg1 hs1
    rw [hcx] at he2 hn2 hg2 hs2
    refine PureC.of_body (tyOf_good _) Tryz.func3 rfl rfl (rs := [.tmp 6]) Tryz.results3 (by simp [Tryz.ntmps3]) fun X => ?_
    simp only [Tryz.ntmps3, List.map]
    refine AW_rg (tyOf_good _) [0, 1, 2] [] (fun _ _ => trivial) fun K' hK' => ?_
    repeat (refine sxf_next fun K2 hK2 => ?_; simp [dNum, dS]; (repeat (refine ⟨by omega, ?_⟩)); refine hK2 _ ?_; clear hK2 K2)
    refine sxf_nil (hK' _ ?_)
    refine AW.st (by simp [dNum, dS]; rfl) ?_
    clear hK' K'
    refine AW_rg (tyOf_good _) [1, 2, 7, 8, 9] [] (fun _ _ => trivial) fun K' hK' => ?_
    repeat (refine sxf_next fun K2 hK2 => ?_; simp [dNum, dS]; (repeat (refine ⟨by omega, ?_⟩)); refine hK2 _ ?_; clear hK2 K2)
    refine sxf_next fun K2 hK2 => ?_
    simp [dNum, dS]
    refine callK.data (hrd) (by simp; rfl) (by first | exact D.leGo_refl _ | simp [takeMap, List.map_map, Function.comp_def, D.le, D.le.go, D.le_refl, D.leGo_refl, dNum, dS]) ?_
    refine hK2 _ ?_
    clear hK2 K2
    simp only [putd, upd_lst]
    repeat (refine sxf_next fun K2 hK2 => ?_; simp [dNum, dS]; (repeat (refine ⟨by omega, ?_⟩)); refine hK2 _ ?_; clear hK2 K2)
    refine sxf_nil (hK' _ ?_)
    refine AW.st (by simp [dNum, dS]; rfl) ?_
    clear hK' K'
    refine AW_then fun K1 hK1 => ?_
    refine AW_rg (tyOf_good _) [1, 2, 7, 8, 28] [] (fun _ _ => trivial) fun K' hK' => ?_
    repeat (refine sxf_next fun K2 hK2 => ?_; simp [dNum, dS, h1, h1', h2, h2']; (repeat (refine ⟨by omega, ?_⟩)); refine hK2 _ ?_; clear hK2 K2)
    refine sxf_nil (hK' _ ?_)
    refine AW.st (by simp [dNum, dS, h1, h1', h2, h2']; rfl) ?_
    clear hK' K'
    refine AW_cond false rfl (fun h => by cases h) (fun _ => ?_)
    refine AW_skip (hK1 _ ?_)
    refine AW_rg (tyOf_good _) [1, 2, 7, 8, 10] [] (fun _ _ => trivial) fun K' hK' => ?_
    repeat (refine sxf_next fun K2 hK2 => ?_; simp [dNum, dS]; (repeat (refine ⟨by omega, ?_⟩)); refine hK2 _ ?_; clear hK2 K2)
    refine sxf_nil (hK' _ ?_)
    refine AW.st (by simp [dNum, dS]; rfl) ?_
    clear hK' K'
    refine AW_rg (tyOf_good _) [6] [] (fun _ _ => trivial) fun K' hK' => ?_
    repeat (refine sxf_next fun K2 hK2 => ?_; simp [dNum, dS, dLam]; (repeat (refine ⟨by omega, ?_⟩)); refine hK2 _ ?_; clear hK2 K2)
    refine sxf_next fun K2 hK2 => ?_
    simp [dNum, dS, dLam]
    refine callK.data (ha1) (by simp; rfl) (by first | exact D.leGo_refl _ | simp [takeMap, List.map_map, Function.comp_def, D.le, D.le.go, D.le_refl, D.leGo_refl, dNum, dS, dLam]) ?_
    refine hK2 _ ?_
    clear hK2 K2
    simp only [putd, upd_lst]
    repeat (refine sxf_next fun K2 hK2 => ?_; simp [dNum, dS, dLam]; (repeat (refine ⟨by omega, ?_⟩)); refine hK2 _ ?_; clear hK2 K2)
    refine sxf_next fun K2 hK2 => ?_
    simp [dNum, dS, dLam]
    refine callK.data (ha2) (by simp; rfl) (by first | exact D.leGo_refl _ | simp [takeMap, List.map_map, Function.comp_def, D.le, D.le.go, D.le_refl, D.leGo_refl, dNum, dS, dLam]) ?_
    refine hK2 _ ?_
    clear hK2 K2
    simp only [putd, upd_lst]
    repeat (refine sxf_next fun K2 hK2 => ?_; simp [dNum, dS, dLam]; (repeat (refine ⟨by omega, ?_⟩)); refine hK2 _ ?_; clear hK2 K2)
    refine sxf_next fun K2 hK2 => ?_
    simp [dNum, dS, dLam]
    refine callK.data (he1) (by simp; rfl) (by first | exact D.leGo_refl _ | simp [takeMap, List.map_map, Function.comp_def, D.le, D.le.go, D.le_refl, D.leGo_refl, dNum, dS, dLam]) ?_
    refine hK2 _ ?_
    clear hK2 K2
    simp only [putd, upd_lst]
    repeat (refine sxf_next fun K2 hK2 => ?_; simp [dNum, dS, dLam]; (repeat (refine ⟨by omega, ?_⟩)); refine hK2 _ ?_; clear hK2 K2)
    refine sxf_next fun K2 hK2 => ?_
    simp [dNum, dS, dLam]
    refine callK.data (ha1) (by simp; rfl) (by first | exact D.leGo_refl _ | simp [takeMap, List.map_map, Function.comp_def, D.le, D.le.go, D.le_refl, D.leGo_refl, dNum, dS, dLam]) ?_
    refine hK2 _ ?_
    clear hK2 K2
    simp only [putd, upd_lst]
    repeat (refine sxf_next fun K2 hK2 => ?_; simp [dNum, dS, dLam]; (repeat (refine ⟨by omega, ?_⟩)); refine hK2 _ ?_; clear hK2 K2)
    refine sxf_next fun K2 hK2 => ?_
    simp [dNum, dS, dLam]
    refine callK.data (ha2) (by simp; rfl) (by first | exact D.leGo_refl _ | simp [takeMap, List.map_map, Function.comp_def, D.le, D.le.go, D.le_refl, D.leGo_refl, dNum, dS, dLam]) ?_
    refine hK2 _ ?_
    clear hK2 K2
    simp only [putd, upd_lst]
    repeat (refine sxf_next fun K2 hK2 => ?_; simp [dNum, dS, dLam]; (repeat (refine ⟨by omega, ?_⟩)); refine hK2 _ ?_; clear hK2 K2)
    refine sxf_next fun K2 hK2 => ?_
    simp [dNum, dS, dLam]
    refine callK.data (he2) (by simp; rfl) (by first | exact D.leGo_refl _ | simp [takeMap, List.map_map, Function.comp_def, D.le, D.le.go, D.le_refl, D.leGo_refl, dNum, dS, dLam]) ?_
    refine hK2 _ ?_
    clear hK2 K2
    simp only [putd, upd_lst]
    repeat (refine sxf_next fun K2 hK2 => ?_; simp [dNum, dS, dLam]; (repeat (refine ⟨by omega, ?_⟩)); refine hK2 _ ?_; clear hK2 K2)
    refine sxf_next fun K2 hK2 => ?_
    simp [dNum, dS, dLam]
    refine callK.data (hn1) (by simp; rfl) (by first | exact D.leGo_refl _ | simp [takeMap, List.map_map, Function.comp_def, D.le, D.le.go, D.le_refl, D.leGo_refl, dNum, dS, dLam]) ?_
    refine hK2 _ ?_
    clear hK2 K2
    simp only [putd, upd_lst]
    repeat (refine sxf_next fun K2 hK2 => ?_; simp [dNum, dS, dLam]; (repeat (refine ⟨by omega, ?_⟩)); refine hK2 _ ?_; clear hK2 K2)
    refine sxf_next fun K2 hK2 => ?_
    simp [dNum, dS, dLam]
    refine callK.data (hn2) (by simp; rfl) (by first | exact D.leGo_refl _ | simp [takeMap, List.map_map, Function.comp_def, D.le, D.le.go, D.le_refl, D.leGo_refl, dNum, dS, dLam]) ?_
    refine hK2 _ ?_
    clear hK2 K2
    simp only [putd, upd_lst]
    repeat (refine sxf_next fun K2 hK2 => ?_; simp [dNum, dS, dLam]; (repeat (refine ⟨by omega, ?_⟩)); refine hK2 _ ?_; clear hK2 K2)
    refine sxf_next fun K2 hK2 => ?_
    simp [dNum, dS, dLam]
    refine callK.data (ht1) (by simp; rfl) (by first | exact D.leGo_refl _ | simp [takeMap, List.map_map, Function.comp_def, D.le, D.le.go, D.le_refl, D.leGo_refl, dNum, dS, dLam]) ?_
    refine hK2 _ ?_
    clear hK2 K2
    simp only [putd, upd_lst]
    repeat (refine sxf_next fun K2 hK2 => ?_; simp [dNum, dS, dLam]; (repeat (refine ⟨by omega, ?_⟩)); refine hK2 _ ?_; clear hK2 K2)
    refine sxf_next fun K2 hK2 => ?_
    simp [dNum, dS, dLam]
    refine callK.data (hg1) (by simp; rfl) (by first | exact D.leGo_refl _ | simp [takeMap, List.map_map, Function.comp_def, D.le, D.le.go, D.le_refl, D.leGo_refl, dNum, dS, dLam]) ?_
    refine hK2 _ ?_
    clear hK2 K2
    simp only [putd, upd_lst]
    repeat (refine sxf_next fun K2 hK2 => ?_; simp [dNum, dS, dLam]; (repeat (refine ⟨by omega, ?_⟩)); refine hK2 _ ?_; clear hK2 K2)
    refine sxf_next fun K2 hK2 => ?_
    simp [dNum, dS, dLam]
    refine callK.data (hg2) (by simp; rfl) (by first | exact D.leGo_refl _ | simp [takeMap, List.map_map, Function.comp_def, D.le, D.le.go, D.le_refl, D.leGo_refl, dNum, dS, dLam]) ?_
    refine hK2 _ ?_
    clear hK2 K2
    simp only [putd, upd_lst]
    repeat (refine sxf_next fun K2 hK2 => ?_; simp [dNum, dS, dLam]; (repeat (refine ⟨by omega, ?_⟩)); refine hK2 _ ?_; clear hK2 K2)
    refine sxf_next fun K2 hK2 => ?_
    simp [dNum, dS, dLam]
    refine callK.data (ht2) (by simp; rfl) (by first | exact D.leGo_refl _ | simp [takeMap, List.map_map, Function.comp_def, D.le, D.le.go, D.le_refl, D.leGo_refl, dNum, dS, dLam]) ?_
    refine hK2 _ ?_
    clear hK2 K2
    simp only [putd, upd_lst]
    repeat (refine sxf_next fun K2 hK2 => ?_; simp [dNum, dS, dLam]; (repeat (refine ⟨by omega, ?_⟩)); refine hK2 _ ?_; clear hK2 K2)
    refine sxf_next fun K2 hK2 => ?_
    simp [dNum, dS, dLam]
    refine callK.data (hs1) (by simp; rfl) (by first | exact D.leGo_refl _ | simp [takeMap, List.map_map, Function.comp_def, D.le, D.le.go, D.le_refl, D.leGo_refl, dNum, dS, dLam]) ?_
    refine hK2 _ ?_
    clear hK2 K2
    simp only [putd, upd_lst]
    repeat (refine sxf_next fun K2 hK2 => ?_; simp [dNum, dS, dLam]; (repeat (refine ⟨by omega, ?_⟩)); refine hK2 _ ?_; clear hK2 K2)
    refine sxf_next fun K2 hK2 => ?_
    simp [dNum, dS, dLam]
    refine callK.data (hs2) (by simp; rfl) (by first | exact D.leGo_refl _ | simp [takeMap, List.map_map, Function.comp_def, D.le, D.le.go, D.le_refl, D.leGo_refl, dNum, dS, dLam]) ?_
    refine hK2 _ ?_
    clear hK2 K2
    simp only [putd, upd_lst]
    repeat (refine sxf_next fun K2 hK2 => ?_; simp [dNum, dS, dLam]; (repeat (refine ⟨by omega, ?_⟩)); refine hK2 _ ?_; clear hK2 K2)
    refine sxf_nil (hK' _ ?_)
    refine AW.st (by simp [dNum, dS, dLam]; rfl) ?_
    clear hK' K'
    refine AW_ret ?_
    simp [D.le, D.le.go, takeMap, dNum, dS]
end Go.Proofs.YtfehigldhedkgaaGreatDoor

/-
  Tables, as they are read.
-/
namespace Go.Proofs.YtfehigldhedkgaaGreatDoor
set_option linter.unusedSimpArgs false
set_option linter.unusedVariables false
open Go.Av Go.ChangeShapes Go.WideShapes Go.ChangeAt Go.RowKit

theorem law_own : ownKnob Tryz.prog.godebug = none := by kernel_rfl
theorem law_laidOut : laidOutB Tryz.prog = true := by kernel_rfl
theorem cells_int : Tryz.prog.cellsOf 3 = 1 := by kernel_rfl
section
variable {H : Type} {enc : TypeId × Value → H} {w : World} {base : Nat} {spare : Nat → Bool} {held : Bool} {X : Nat → Prop}

end

end Go.Proofs.YtfehigldhedkgaaGreatDoor
