/-
  Texts that belong together, in one file: GA3, RN, GA4, GA5, GA6, GA7, GA9, R1.
-/
import Derived.Test.YtagfbbnlbncjlaaGreatDoorGd21
set_option linter.unusedSimpArgs false
set_option linter.unusedVariables false
namespace Go.Proofs.YtagfbbnlbncjlaaGreatDoor
open Go.Av
theorem litsG_app (ns es : List Tx) : ∀ (a b : List Ex) (c : Cs), litsG ns es (a ++ b) c = ((litsG ns es a c).1 ++ (litsG ns es b (litsG ns es a c).2).1, (litsG ns es b (litsG ns es a c).2).2)
 | [], b, c => by simp [litsG]
 | e :: a, b, c => by simp only [List.cons_append, litsG, litsG_app ns es a b]
theorem litsG_take (ns es : List Tx) {l : List Ex} {i : Nat} (h : i < l.length) (c : Cs) : litsG ns es (l.take (i + 1)) c = ((litsG ns es (l.take i) c).1 ++ [(litG ns es l[i] (litsG ns es (l.take i) c).2).1], (litG ns es l[i] (litsG ns es (l.take i) c).2).2) := by
 rw [List.take_succ_eq_append_getElem h, litsG_app]; simp [litsG]
theorem litsG_len (ns es : List Tx) : ∀ (l : List Ex) (c : Cs), (litsG ns es l c).1.length = l.length
 | [], c => rfl
 | e :: l, c => by simp [litsG, litsG_len ns es l]
theorem litsG_size (ns es : List Tx) : ∀ (l : List Ex) (c : Cs), (litsG ns es l c).2.1 ≤ c.1 + szNs l ∧ (litsG ns es l c).2.2.length + l.length ≤ c.2.length + 4 * szNs l
 | [], c => by simp [litsG]
 | e :: l, c => by
  have h1 := lit_size ns es _ e (Nat.le_refl _) c
  have h2 := litsG_size ns es l (litG ns es e c).2
  simp only [litsG, szNs, List.length_cons]
  omega
structure EntsOk (ns es : List Tx) (ents : List (Value × D)) : Prop where
 keys : ∀ p ∈ ents, keyOk TypeDesc.string p.1 = true
 is : ∀ s ∈ ns, entGet (.string (bs s)) ents = some (dNum ((ixT ns s : Int) + 1))
 was : ∀ s ∈ es, entGet (.string (bs (94 :: s))) ents = some (dNum ((ns.length : Int) + ixT es s + 1))
def LitAt (G : Glob) (ns es : List Tx) (ents : List (Value × D)) (e : Ex) : Prop := ∀ (V : Nat) (cs : Cl), ns.length + es.length ≤ V → V + szN e ≤ 2^36 → cs.length + 4 * szN e ≤ 2^36 →
 MC Tryz.prog G [501, 503] 42 [.ref 501 0 0, .d (dE e)] (hlst (bRow V cs ents)) (.d (dNum (litG ns es e (V, cs)).1)) (hlst (bRow (litG ns es e (V, cs)).2.1 (litG ns es e (V, cs)).2.2 ents))
theorem bs94 (s : Tx) : (⟨#[94]⟩ : ByteArray) ++ bs s = bs (94 :: s) := by
 have : (⟨#[94]⟩ : ByteArray) = bs [94] := rfl
 rw [this, bs_append]; rfl
theorem litG_vars (ns es : List Tx) : ∀ (n : Nat) (e : Ex), SizeOf.sizeOf e ≤ n → ∀ c : Cs, c.1 ≤ (litG ns es e c).2.1
 | 0, e, hn, _ => by cases e <;> simp at hn
 | n + 1, e, hn, c => by
  have many : ∀ l : List Ex, (∀ x ∈ l, SizeOf.sizeOf x ≤ n) → ∀ c : Cs, c.1 ≤ (litsG ns es l c).2.1 := by
   intro l
   induction l with
   | nil => intro _ c; simp [litsG]
   | cons x l ih =>
    intro hs c
    have h1 := litG_vars ns es n x (hs x (by simp)) c
    have h2 := ih (fun y hy => hs y (by simp [hy])) (litG ns es x c).2
    simp only [litsG]
    omega
  cases e with
  | cst b => simp [litG]
  | bit s => simp [litG]
  | rise s => simp [litG, mkAnd]
  | fall s => simp [litG, mkAnd]
  | not x => have := litG_vars ns es n x (by simp at hn; omega) c; simpa [litG] using this
  | and l =>
   have := many l (fun x hx => by have := List.sizeOf_lt_of_mem hx; simp only [Ex.and.sizeOf_spec] at hn; omega) c
   simp only [litG, mkAnd]; omega
  | or l =>
   have := many l (fun x hx => by have := List.sizeOf_lt_of_mem hx; simp only [Ex.or.sizeOf_spec] at hn; omega) c
   simp only [litG, mkAnd]; omega
theorem lit_inW (ns es : List Tx) (e : Ex) (hN : ∀ s ∈ nmsE true e, s ∈ ns) (hE : ∀ s ∈ nmsE false e, s ∈ es) (hw : WfE e) (c : Cs) (h0 : ns.length + es.length ≤ c.1) (h1 : c.1 + szN e ≤ 2^36) : -2^37 < (litG ns es e c).1 ∧ (litG ns es e c).1 < 2^37 := by
 obtain ⟨_, ⟨_, h3, h4⟩, _⟩ := lit_tells ns es _ e (Nat.le_refl _) hN hE hw c h0
 have := (lit_size ns es _ e (Nat.le_refl _) c).1
 omega
theorem lits_inW (ns es : List Tx) : ∀ (l : List Ex), (∀ s ∈ nmsL true l, s ∈ ns) → (∀ s ∈ nmsL false l, s ∈ es) → (∀ x ∈ l, WfE x) → ∀ c : Cs, ns.length + es.length ≤ c.1 → c.1 + szNs l ≤ 2^36 → ∀ x ∈ (litsG ns es l c).1, -2^37 < x ∧ x < 2^37
 | [], _, _, _, _, _, _, x, hx => by simp [litsG] at hx
 | e :: l, h1, h2, h3, c, h0, h4, x, hx => by
  simp only [nmsL, List.mem_append] at h1 h2; simp only [szNs] at h4; simp only [litsG, List.mem_cons] at hx
  have hg := (lit_tells ns es _ e (Nat.le_refl _) (fun s h => h1 s (.inl h)) (fun s h => h2 s (.inl h)) (h3 e (by simp)) c h0).1.vars
  have hs := (lit_size ns es _ e (Nat.le_refl _) c).1
  rcases hx with rfl | hx
  ·exact lit_inW ns es e (fun s h => h1 s (.inl h)) (fun s h => h2 s (.inl h)) (h3 e (by simp)) c h0 (by omega)
  ·exact lits_inW ns es l (fun s h => h1 s (.inr h)) (fun s h => h2 s (.inr h)) (fun y hy => h3 y (by simp [hy])) _ (by omega) (by omega) x hx
theorem litsG_vars (ns es : List Tx) : ∀ (l : List Ex) (c : Cs), c.1 ≤ (litsG ns es l c).2.1
 | [], c => by simp [litsG]
 | e :: l, c => by
  have h1 := litG_vars ns es _ e (Nat.le_refl _) c
  have h2 := litsG_vars ns es l (litG ns es e c).2
  simp only [litsG]
  omega
theorem len_szNs : ∀ l : List Ex, l.length ≤ szNs l
 | [] => by simp [szNs]
 | e :: l => by
  have h1 := len_szNs l
  have h2 := szN_pos e
  simp only [szNs, List.length_cons]
  omega
theorem nms_at {all : Bool} {l : List Ex} {x : Ex} (hx : x ∈ l) {s : Tx} (h : s ∈ nmsE all x) : s ∈ nmsL all l := by
 induction l with
 | nil => cases hx
 | cons y l ih =>
  rw [nmsL, List.mem_append]
  rcases List.mem_cons.1 hx with rfl | hx
  ·exact .inl h
  ·exact .inr (ih hx)
set_option maxHeartbeats 16000000 in
theorem lit_spec (G : Glob) (ns es : List Tx) (ents : List (Value × D)) (hen : EntsOk ns es ents) (hns : ns.length ≤ 2^20) (hes : es.length ≤ 2^20) : ∀ (n : Nat) (e : Ex), SizeOf.sizeOf e ≤ n → (∀ s ∈ nmsE true e, s ∈ ns) → (∀ s ∈ nmsE false e, s ∈ es) → WfE e → LitAt G ns es ents e := by
 intro n
 induction n with
 | zero => intro e hsz; cases e <;> simp at hsz
 | succ n ih =>
  intro e hsz hN hE hw V cs hV hV2 hC
  have hk0 : ∀ p ∈ ents, keyOk TypeDesc.string p.1 = true := hen.keys
  simp at hk0
  have hk1 := eq_true hk0
  cases e with
  | bit s =>
   rw [WfE] at hw
   have hs : s ∈ ns := hN s (by simp [nmsE, nmE, one1, nameF_nn hw])
   have hg := hen.is s hs
   rw [litG, dE]; refine MC.of_body (tyOf_good _) Tryz.func42 rfl rfl (rs := [.tmp 4]) Tryz.results42 (by simp [Tryz.ntmps42]) rfl fun X => ?_; simp only [Tryz.ntmps42]; refine rg [0, 1] [501, 502, 503] (notIn_ok rfl) fun K' hK' => ?_; (repeat (refine sxn fun K2 hK2 => ?_; simp [dNum, bRow, dS, pairA, assertA, ofOk, zeroM]; (repeat (refine ⟨by omega, ?_⟩)); refine hK2 _ ?_; clear hK2 K2)); refine sxz (hK' _ (AW.st (by simp [dNum, bRow, dS, pairA, assertA, ofOk, zeroM]; rfl) ?_)); clear hK' K'; refine AW_then fun K1 hK1 => ?_; refine rg [0, 1, 20] [501, 502, 503] (notIn_ok rfl) fun K' hK' => ?_; (repeat (refine sxn fun K2 hK2 => ?_; simp [dNum, bRow, dS, pairA, assertA, ofOk, zeroM]; (repeat (refine ⟨by omega, ?_⟩)); refine hK2 _ ?_; clear hK2 K2)); refine sxz (hK' _ (AW.st (by simp [dNum, bRow, dS, pairA, assertA, ofOk, zeroM]; rfl) ?_)); clear hK' K'; refine AW_block ?_; refine rg [0, 1, 20, 22, 23] [501, 502, 503] (notIn_ok rfl) fun K' hK' => ?_; (repeat (refine sxn fun K2 hK2 => ?_; simp [dNum, bRow, dS, pairA, assertA, ofOk, zeroM]; (repeat (refine ⟨by omega, ?_⟩)); refine hK2 _ ?_; clear hK2 K2)); refine sxz (hK' _ (AW.st (by simp [dNum, bRow, dS, pairA, assertA, ofOk, zeroM]; rfl) ?_)); clear hK' K'; refine AW_tt rfl ?_; refine rg [0, 5] [501, 502, 503] (notIn_ok rfl) fun K' hK' => ?_; (repeat (refine sxn fun K2 hK2 => ?_; simp [dNum, bRow, dS, pairA, assertA, ofOk, zeroM]; (repeat (refine ⟨by omega, ?_⟩)); refine hK2 _ ?_; clear hK2 K2)); refine sxz (hK' _ (AW.st (by simp [dNum, bRow, dS, pairA, assertA, ofOk, zeroM]; rfl) ?_)); clear hK' K'; refine rg [4] [501, 502, 503] (notIn_ok rfl) fun K' hK' => ?_; (repeat (refine sxn fun K2 hK2 => ?_; simp [dNum, bRow, dS, pairA, assertA, ofOk, zeroM, hg, hk1]; (repeat (refine ⟨by omega, ?_⟩)); refine hK2 _ ?_; clear hK2 K2)); refine sxz (hK' _ (AW.st (by simp [dNum, bRow, dS, pairA, assertA, ofOk, zeroM, hg, hk1]; rfl) ?_)); clear hK' K'; refine AW_ret ?_; simp [bRow, dNum, D.le]
  | rise s =>
   rw [WfE] at hw
   have hs : s ∈ ns := hN s (by simp [nmsE, nmE, one1, nameF_nn hw])
   have hs2 : s ∈ es := hE s (by simp [nmsE, nmE, one1, nameF_nn hw])
   have hg := hen.is s hs
   have hg2 := hen.was s hs2
   have l1 := ixT_lt hs
   have l2 := ixT_lt hs2
   simp only [szN] at hV2 hC
   have ha := gand_spec G V (by omega) cs (by omega) ents [(ixT ns s : Int) + 1, -((ns.length : Int) + ixT es s + 1)] (by simp) (by intro x hx; simp at hx; unfold inW; rcases hx with rfl | rfl <;> omega)
   have hb := bs94 s
   have hsl := (name_facts hw).2.1
   have h94 : (⟨#[94]⟩ : ByteArray).size = 1 := rfl
   rw [litG, dE]; generalize mkAnd [(ixT ns s : Int) + 1, -((ns.length : Int) + ixT es s + 1)] (V, cs) = R at ha ⊢; refine MC.of_body (tyOf_good _) Tryz.func42 rfl rfl (rs := [.tmp 4]) Tryz.results42 (by simp [Tryz.ntmps42]) rfl fun X => ?_; simp only [Tryz.ntmps42]; refine rg [0, 1] [501, 502, 503] (notIn_ok rfl) fun K' hK' => ?_; (repeat (refine sxn fun K2 hK2 => ?_; simp [dNum, bRow, dS, pairA, assertA, ofOk, zeroM]; (repeat (refine ⟨by omega, ?_⟩)); refine hK2 _ ?_; clear hK2 K2)); refine sxz (hK' _ (AW.st (by simp [dNum, bRow, dS, pairA, assertA, ofOk, zeroM]; rfl) ?_)); clear hK' K'; refine AW_then fun K1 hK1 => ?_; refine rg [0, 1, 20] [501, 502, 503] (notIn_ok rfl) fun K' hK' => ?_; (repeat (refine sxn fun K2 hK2 => ?_; simp [dNum, bRow, dS, pairA, assertA, ofOk, zeroM]; (repeat (refine ⟨by omega, ?_⟩)); refine hK2 _ ?_; clear hK2 K2)); refine sxz (hK' _ (AW.st (by simp [dNum, bRow, dS, pairA, assertA, ofOk, zeroM]; rfl) ?_)); clear hK' K'; refine AW_block ?_; refine rg [0, 1, 20, 22, 23] [501, 502, 503] (notIn_ok rfl) fun K' hK' => ?_; (repeat (refine sxn fun K2 hK2 => ?_; simp [dNum, bRow, dS, pairA, assertA, ofOk, zeroM]; (repeat (refine ⟨by omega, ?_⟩)); refine hK2 _ ?_; clear hK2 K2)); refine sxz (hK' _ (AW.st (by simp [dNum, bRow, dS, pairA, assertA, ofOk, zeroM]; rfl) ?_)); clear hK' K'; refine AW_ff rfl ?_; refine rg [0, 1, 20, 31, 32] [501, 502, 503] (notIn_ok rfl) fun K' hK' => ?_; (repeat (refine sxn fun K2 hK2 => ?_; simp [dNum, bRow, dS, pairA, assertA, ofOk, zeroM]; (repeat (refine ⟨by omega, ?_⟩)); refine hK2 _ ?_; clear hK2 K2)); refine sxz (hK' _ (AW.st (by simp [dNum, bRow, dS, pairA, assertA, ofOk, zeroM]; rfl) ?_)); clear hK' K'; refine AW_tt rfl ?_; refine rg [0, 6] [501, 502, 503] (notIn_ok rfl) fun K' hK' => ?_; (repeat (refine sxn fun K2 hK2 => ?_; simp [dNum, bRow, dS, pairA, assertA, ofOk, zeroM]; (repeat (refine ⟨by omega, ?_⟩)); refine hK2 _ ?_; clear hK2 K2)); refine sxz (hK' _ (AW.st (by simp [dNum, bRow, dS, pairA, assertA, ofOk, zeroM]; rfl) ?_)); clear hK' K'; refine AW_rm (tyOf_good _) (by kernel_rfl) ([502]) ([15]) ([16]) ([]) (List.range 18) [4] [501, 502, 503] (notIn_ok rfl) (by kernel_rfl) (by simp [OffE]) fun K' hK' => ?_; (repeat (refine sxm_nextO rfl fun K2 hK2 => ?_; simp [dNum, bRow, dS, pairA, assertA, ofOk, zeroM, hg, hg2, hk1, hb, h94, binS, bs_size, dRow, dInts]; (repeat (refine ⟨by omega, ?_⟩)); refine hK2 _ ?_; clear hK2 K2)); refine sxm_nextO rfl fun K2 hK2 => ?_; simp [dNum, bRow, dS, pairA, assertA, ofOk, zeroM, hg, hg2, hk1, hb, h94, binS, bs_size, dRow, dInts]; refine hcK.mc (ha) (by simp [dNum, bRow, dS, pairA, assertA, ofOk, zeroM, hg, hg2, hk1, hb, h94, binS, bs_size, dRow, dInts]) (by simp [dNum, bRow, dS, pairA, assertA, ofOk, zeroM, hg, hg2, hk1, hb, h94, binS, bs_size, dRow, dInts]) (by simp [dNum, bRow, dS, pairA, assertA, ofOk, zeroM, hg, hg2, hk1, hb, h94, binS, bs_size, dRow, dInts]) (by simp [dNum, bRow, dS, pairA, assertA, ofOk, zeroM, hg, hg2, hk1, hb, h94, binS, bs_size, dRow, dInts]) (by simp [dNum, bRow, dS, pairA, assertA, ofOk, zeroM, hg, hg2, hk1, hb, h94, binS, bs_size, dRow, dInts]) (by simp [dNum, bRow, dS, pairA, assertA, ofOk, zeroM, hg, hg2, hk1, hb, h94, binS, bs_size, dRow, dInts]) (by simp [LdSame, dNum, bRow, dS, pairA, assertA, ofOk, zeroM, hg, hg2, hk1, hb, h94, binS, bs_size, dRow, dInts]) ?_
   simp [dNum, bRow, dS, pairA, assertA, ofOk, zeroM, hg, hg2, hk1, hb, h94, binS, bs_size, dRow, dInts]; refine hK2 _ ?_; clear hK2 K2; (repeat (refine sxm_nextO rfl fun K2 hK2 => ?_; simp [dNum, bRow, dS, pairA, assertA, ofOk, zeroM, hg, hg2, hk1, hb, h94, binS, bs_size, dRow, dInts]; (repeat (refine ⟨by omega, ?_⟩)); refine hK2 _ ?_; clear hK2 K2)); refine sxm_nilO (hK' _ ?_); refine AW.st (by simp [dNum, bRow, dS, pairA, assertA, ofOk, zeroM, hg, hg2, hk1, hb, h94, binS, bs_size, dRow, dInts]; rfl) ?_; clear hK' K'; refine AW_ret ?_; simp [bRow, dNum, D.le, dRow, dInts]
  | fall s =>
   rw [WfE] at hw
   have hs : s ∈ ns := hN s (by simp [nmsE, nmE, one1, nameF_nn hw])
   have hs2 : s ∈ es := hE s (by simp [nmsE, nmE, one1, nameF_nn hw])
   have hg := hen.is s hs
   have hg2 := hen.was s hs2
   have l1 := ixT_lt hs
   have l2 := ixT_lt hs2
   simp only [szN] at hV2 hC
   have ha := gand_spec G V (by omega) cs (by omega) ents [-((ixT ns s : Int) + 1), (ns.length : Int) + ixT es s + 1] (by simp) (by intro x hx; simp at hx; unfold inW; rcases hx with rfl | rfl <;> omega)
   have hb := bs94 s
   have hsl := (name_facts hw).2.1
   have h94 : (⟨#[94]⟩ : ByteArray).size = 1 := rfl
   rw [litG, dE]; generalize mkAnd [-((ixT ns s : Int) + 1), (ns.length : Int) + ixT es s + 1] (V, cs) = R at ha ⊢; refine MC.of_body (tyOf_good _) Tryz.func42 rfl rfl (rs := [.tmp 4]) Tryz.results42 (by simp [Tryz.ntmps42]) rfl fun X => ?_; simp only [Tryz.ntmps42]; refine rg [0, 1] [501, 502, 503] (notIn_ok rfl) fun K' hK' => ?_; (repeat (refine sxn fun K2 hK2 => ?_; simp [dNum, bRow, dS, pairA, assertA, ofOk, zeroM]; (repeat (refine ⟨by omega, ?_⟩)); refine hK2 _ ?_; clear hK2 K2)); refine sxz (hK' _ (AW.st (by simp [dNum, bRow, dS, pairA, assertA, ofOk, zeroM]; rfl) ?_)); clear hK' K'; refine AW_then fun K1 hK1 => ?_; refine rg [0, 1, 20] [501, 502, 503] (notIn_ok rfl) fun K' hK' => ?_; (repeat (refine sxn fun K2 hK2 => ?_; simp [dNum, bRow, dS, pairA, assertA, ofOk, zeroM]; (repeat (refine ⟨by omega, ?_⟩)); refine hK2 _ ?_; clear hK2 K2)); refine sxz (hK' _ (AW.st (by simp [dNum, bRow, dS, pairA, assertA, ofOk, zeroM]; rfl) ?_)); clear hK' K'; refine AW_block ?_; refine rg [0, 1, 20, 22, 23] [501, 502, 503] (notIn_ok rfl) fun K' hK' => ?_; (repeat (refine sxn fun K2 hK2 => ?_; simp [dNum, bRow, dS, pairA, assertA, ofOk, zeroM]; (repeat (refine ⟨by omega, ?_⟩)); refine hK2 _ ?_; clear hK2 K2)); refine sxz (hK' _ (AW.st (by simp [dNum, bRow, dS, pairA, assertA, ofOk, zeroM]; rfl) ?_)); clear hK' K'; refine AW_ff rfl ?_; refine rg [0, 1, 20, 31, 32] [501, 502, 503] (notIn_ok rfl) fun K' hK' => ?_; (repeat (refine sxn fun K2 hK2 => ?_; simp [dNum, bRow, dS, pairA, assertA, ofOk, zeroM]; (repeat (refine ⟨by omega, ?_⟩)); refine hK2 _ ?_; clear hK2 K2)); refine sxz (hK' _ (AW.st (by simp [dNum, bRow, dS, pairA, assertA, ofOk, zeroM]; rfl) ?_)); clear hK' K'; refine AW_ff rfl ?_; refine rg [0, 1, 20, 51, 52] [501, 502, 503] (notIn_ok rfl) fun K' hK' => ?_; (repeat (refine sxn fun K2 hK2 => ?_; simp [dNum, bRow, dS, pairA, assertA, ofOk, zeroM]; (repeat (refine ⟨by omega, ?_⟩)); refine hK2 _ ?_; clear hK2 K2)); refine sxz (hK' _ (AW.st (by simp [dNum, bRow, dS, pairA, assertA, ofOk, zeroM]; rfl) ?_)); clear hK' K'; refine AW_tt rfl ?_; refine rg [0, 7] [501, 502, 503] (notIn_ok rfl) fun K' hK' => ?_; (repeat (refine sxn fun K2 hK2 => ?_; simp [dNum, bRow, dS, pairA, assertA, ofOk, zeroM]; (repeat (refine ⟨by omega, ?_⟩)); refine hK2 _ ?_; clear hK2 K2)); refine sxz (hK' _ (AW.st (by simp [dNum, bRow, dS, pairA, assertA, ofOk, zeroM]; rfl) ?_)); clear hK' K'; refine AW_rm (tyOf_good _) (by kernel_rfl) ([502]) ([15]) ([16]) ([]) (List.range 18) [4] [501, 502, 503] (notIn_ok rfl) (by kernel_rfl) (by simp [OffE]) fun K' hK' => ?_; (repeat (refine sxm_nextO rfl fun K2 hK2 => ?_; simp [dNum, bRow, dS, pairA, assertA, ofOk, zeroM, hg, hg2, hk1, hb, h94, binS, bs_size, dRow, dInts]; (repeat (refine ⟨by omega, ?_⟩)); refine hK2 _ ?_; clear hK2 K2)); refine sxm_nextO rfl fun K2 hK2 => ?_; simp [dNum, bRow, dS, pairA, assertA, ofOk, zeroM, hg, hg2, hk1, hb, h94, binS, bs_size, dRow, dInts]; refine hcK.mc (ha) (by simp [dNum, bRow, dS, pairA, assertA, ofOk, zeroM, hg, hg2, hk1, hb, h94, binS, bs_size, dRow, dInts]) (by simp [dNum, bRow, dS, pairA, assertA, ofOk, zeroM, hg, hg2, hk1, hb, h94, binS, bs_size, dRow, dInts]) (by simp [dNum, bRow, dS, pairA, assertA, ofOk, zeroM, hg, hg2, hk1, hb, h94, binS, bs_size, dRow, dInts]) (by simp [dNum, bRow, dS, pairA, assertA, ofOk, zeroM, hg, hg2, hk1, hb, h94, binS, bs_size, dRow, dInts]) (by simp [dNum, bRow, dS, pairA, assertA, ofOk, zeroM, hg, hg2, hk1, hb, h94, binS, bs_size, dRow, dInts]) (by simp [dNum, bRow, dS, pairA, assertA, ofOk, zeroM, hg, hg2, hk1, hb, h94, binS, bs_size, dRow, dInts]) (by simp [LdSame, dNum, bRow, dS, pairA, assertA, ofOk, zeroM, hg, hg2, hk1, hb, h94, binS, bs_size, dRow, dInts]) ?_
   simp [dNum, bRow, dS, pairA, assertA, ofOk, zeroM, hg, hg2, hk1, hb, h94, binS, bs_size, dRow, dInts]; refine hK2 _ ?_; clear hK2 K2; (repeat (refine sxm_nextO rfl fun K2 hK2 => ?_; simp [dNum, bRow, dS, pairA, assertA, ofOk, zeroM, hg, hg2, hk1, hb, h94, binS, bs_size, dRow, dInts]; (repeat (refine ⟨by omega, ?_⟩)); refine hK2 _ ?_; clear hK2 K2)); refine sxm_nilO (hK' _ ?_); refine AW.st (by simp [dNum, bRow, dS, pairA, assertA, ofOk, zeroM, hg, hg2, hk1, hb, h94, binS, bs_size, dRow, dInts]; rfl) ?_; clear hK' K'; refine AW_ret ?_; simp [bRow, dNum, D.le, dRow, dInts]
  | not x =>
   rw [WfE] at hw
   have hN' : ∀ s ∈ nmsE true x, s ∈ ns := fun s h => hN s (by rw [nmsE]; exact h)
   have hE' : ∀ s ∈ nmsE false x, s ∈ es := fun s h => hE s (by rw [nmsE]; exact h)
   simp only [szN] at hV2 hC
   have hc := ih x (by simp at hsz; omega) hN' hE' hw V cs hV (by omega) (by omega)
   have hin := lit_inW ns es x hN' hE' hw (V, cs) hV (by dsimp only; omega)
   rw [litG, dE]
   obtain ⟨tx, cx, hx⟩ := dE_ifc x
   rw [hx] at hc ⊢; generalize litG ns es x (V, cs) = R at hc hin ⊢; refine MC.of_body (tyOf_good _) Tryz.func42 rfl rfl (rs := [.tmp 4]) Tryz.results42 (by simp [Tryz.ntmps42]) rfl fun X => ?_; simp only [Tryz.ntmps42]; refine rg [0, 1] [501, 502, 503] (notIn_ok rfl) fun K' hK' => ?_; (repeat (refine sxn fun K2 hK2 => ?_; simp [dNum, bRow, dS, pairA, assertA, ofOk, zeroM]; (repeat (refine ⟨by omega, ?_⟩)); refine hK2 _ ?_; clear hK2 K2)); refine sxz (hK' _ (AW.st (by simp [dNum, bRow, dS, pairA, assertA, ofOk, zeroM]; rfl) ?_)); clear hK' K'; refine AW_then fun K1 hK1 => ?_; refine rg [0, 1, 20] [501, 502, 503] (notIn_ok rfl) fun K' hK' => ?_; (repeat (refine sxn fun K2 hK2 => ?_; simp [dNum, bRow, dS, pairA, assertA, ofOk, zeroM]; (repeat (refine ⟨by omega, ?_⟩)); refine hK2 _ ?_; clear hK2 K2)); refine sxz (hK' _ (AW.st (by simp [dNum, bRow, dS, pairA, assertA, ofOk, zeroM]; rfl) ?_)); clear hK' K'; refine AW_block ?_; refine rg [0, 1, 20, 22, 23] [501, 502, 503] (notIn_ok rfl) fun K' hK' => ?_; (repeat (refine sxn fun K2 hK2 => ?_; simp [dNum, bRow, dS, pairA, assertA, ofOk, zeroM]; (repeat (refine ⟨by omega, ?_⟩)); refine hK2 _ ?_; clear hK2 K2)); refine sxz (hK' _ (AW.st (by simp [dNum, bRow, dS, pairA, assertA, ofOk, zeroM]; rfl) ?_)); clear hK' K'; refine AW_ff rfl ?_; refine rg [0, 1, 20, 31, 32] [501, 502, 503] (notIn_ok rfl) fun K' hK' => ?_; (repeat (refine sxn fun K2 hK2 => ?_; simp [dNum, bRow, dS, pairA, assertA, ofOk, zeroM]; (repeat (refine ⟨by omega, ?_⟩)); refine hK2 _ ?_; clear hK2 K2)); refine sxz (hK' _ (AW.st (by simp [dNum, bRow, dS, pairA, assertA, ofOk, zeroM]; rfl) ?_)); clear hK' K'; refine AW_ff rfl ?_; refine rg [0, 1, 20, 51, 52] [501, 502, 503] (notIn_ok rfl) fun K' hK' => ?_; (repeat (refine sxn fun K2 hK2 => ?_; simp [dNum, bRow, dS, pairA, assertA, ofOk, zeroM]; (repeat (refine ⟨by omega, ?_⟩)); refine hK2 _ ?_; clear hK2 K2)); refine sxz (hK' _ (AW.st (by simp [dNum, bRow, dS, pairA, assertA, ofOk, zeroM]; rfl) ?_)); clear hK' K'; refine AW_ff rfl ?_; refine rg [0, 1, 20, 71, 72] [501, 502, 503] (notIn_ok rfl) fun K' hK' => ?_; (repeat (refine sxn fun K2 hK2 => ?_; simp [dNum, bRow, dS, pairA, assertA, ofOk, zeroM]; (repeat (refine ⟨by omega, ?_⟩)); refine hK2 _ ?_; clear hK2 K2)); refine sxz (hK' _ (AW.st (by simp [dNum, bRow, dS, pairA, assertA, ofOk, zeroM]; rfl) ?_)); clear hK' K'; refine AW_tt rfl ?_; refine rg [0, 8] [501, 502, 503, 8] (notIn_ok rfl) fun K' hK' => ?_; (repeat (refine sxn fun K2 hK2 => ?_; simp [dNum, bRow, dS, pairA, assertA, ofOk, zeroM]; (repeat (refine ⟨by omega, ?_⟩)); refine hK2 _ ?_; clear hK2 K2)); refine sxz (hK' _ (AW.st (by simp [dNum, bRow, dS, pairA, assertA, ofOk, zeroM]; rfl) ?_)); clear hK' K'; refine rg [4] [501, 502, 503] (notIn_ok rfl) fun K' hK' => ?_; (repeat (refine sxn fun K2 hK2 => ?_; simp [dNum, bRow, dS, pairA, assertA, ofOk, zeroM]; (repeat (refine ⟨by omega, ?_⟩)); refine hK2 _ ?_; clear hK2 K2)); refine sxn fun K2 hK2 => ?_; simp [dNum, bRow, dS, pairA, assertA, ofOk, zeroM]
   refine callK.mc (hc) ?_ ?_ ?_ ?_ ?_ <;> simp [dNum, bRow, dS, pairA, assertA, ofOk, zeroM]; refine hK2 _ ?_; clear hK2 K2; (repeat (refine sxn fun K2 hK2 => ?_; simp [dNum, bRow, dS, pairA, assertA, ofOk, zeroM]; (repeat (refine ⟨by omega, ?_⟩)); refine hK2 _ ?_; clear hK2 K2)); refine sxz (hK' _ (AW.st (by simp [dNum, bRow, dS, pairA, assertA, ofOk, zeroM]; rfl) ?_)); clear hK' K'; refine AW_ret ?_; simp [bRow, dNum, D.le, dRow, dInts]
  | and l =>
   rw [WfE] at hw
   have hwl := (WfEs_iff l).1 hw.2
   have hN' : ∀ s ∈ nmsL true l, s ∈ ns := fun s h => hN s (by rw [nmsE]; exact h)
   have hE' : ∀ s ∈ nmsL false l, s ∈ es := fun s h => hE s (by rw [nmsE]; exact h)
   simp only [szN] at hV2 hC
   have hch : ∀ x ∈ l, LitAt G ns es ents x := fun x hx => ih x (by have := List.sizeOf_lt_of_mem hx; simp only [Ex.and.sizeOf_spec] at hsz; omega) (fun s h => hN' s (nms_at hx h)) (fun s h => hE' s (nms_at hx h)) (hwl x hx)
   have hlb := len_szNs l
   have hpre : ∀ i, i ≤ l.length → ns.length + es.length ≤ (litsG ns es (l.take i) (V, cs)).2.1 ∧ (litsG ns es (l.take i) (V, cs)).2.1 ≤ V + szNs (l.take i) ∧ (litsG ns es (l.take i) (V, cs)).2.2.length + i ≤ cs.length + 4 * szNs (l.take i) := fun i hi => by
    have h1 := litsG_size ns es (l.take i) (V, cs)
    have h2 := litsG_vars ns es (l.take i) (V, cs)
    rw [List.length_take] at h1
    have : min i l.length = i := by omega
    rw [this] at h1
    dsimp only at h1 h2
    exact ⟨by omega, h1.1, h1.2⟩
   have hall := lits_inW ns es l hN' hE' hwl (V, cs) hV (by dsimp only; omega)
   rw [litG, dE, dEs_map]; refine MC.of_body (tyOf_good _) Tryz.func42 rfl rfl (rs := [.tmp 4]) Tryz.results42 (by simp [Tryz.ntmps42]) rfl fun X => ?_; simp only [Tryz.ntmps42]; refine rg [0, 1] [501, 502, 503] (notIn_ok rfl) fun K' hK' => ?_; (repeat (refine sxn fun K2 hK2 => ?_; simp [dNum, bRow, dS, pairA, assertA, ofOk, zeroM]; (repeat (refine ⟨by omega, ?_⟩)); refine hK2 _ ?_; clear hK2 K2)); refine sxz (hK' _ (AW.st (by simp [dNum, bRow, dS, pairA, assertA, ofOk, zeroM]; rfl) ?_)); clear hK' K'; refine AW_then fun K1 hK1 => ?_; refine rg [0, 1, 20] [501, 502, 503] (notIn_ok rfl) fun K' hK' => ?_; (repeat (refine sxn fun K2 hK2 => ?_; simp [dNum, bRow, dS, pairA, assertA, ofOk, zeroM]; (repeat (refine ⟨by omega, ?_⟩)); refine hK2 _ ?_; clear hK2 K2)); refine sxz (hK' _ (AW.st (by simp [dNum, bRow, dS, pairA, assertA, ofOk, zeroM]; rfl) ?_)); clear hK' K'; refine AW_block ?_; refine rg [0, 1, 20, 22, 23] [501, 502, 503] (notIn_ok rfl) fun K' hK' => ?_; (repeat (refine sxn fun K2 hK2 => ?_; simp [dNum, bRow, dS, pairA, assertA, ofOk, zeroM]; (repeat (refine ⟨by omega, ?_⟩)); refine hK2 _ ?_; clear hK2 K2)); refine sxz (hK' _ (AW.st (by simp [dNum, bRow, dS, pairA, assertA, ofOk, zeroM]; rfl) ?_)); clear hK' K'; refine AW_ff rfl ?_; refine rg [0, 1, 20, 31, 32] [501, 502, 503] (notIn_ok rfl) fun K' hK' => ?_; (repeat (refine sxn fun K2 hK2 => ?_; simp [dNum, bRow, dS, pairA, assertA, ofOk, zeroM]; (repeat (refine ⟨by omega, ?_⟩)); refine hK2 _ ?_; clear hK2 K2)); refine sxz (hK' _ (AW.st (by simp [dNum, bRow, dS, pairA, assertA, ofOk, zeroM]; rfl) ?_)); clear hK' K'; refine AW_ff rfl ?_; refine rg [0, 1, 20, 51, 52] [501, 502, 503] (notIn_ok rfl) fun K' hK' => ?_; (repeat (refine sxn fun K2 hK2 => ?_; simp [dNum, bRow, dS, pairA, assertA, ofOk, zeroM]; (repeat (refine ⟨by omega, ?_⟩)); refine hK2 _ ?_; clear hK2 K2)); refine sxz (hK' _ (AW.st (by simp [dNum, bRow, dS, pairA, assertA, ofOk, zeroM]; rfl) ?_)); clear hK' K'; refine AW_ff rfl ?_; refine rg [0, 1, 20, 71, 72] [501, 502, 503] (notIn_ok rfl) fun K' hK' => ?_; (repeat (refine sxn fun K2 hK2 => ?_; simp [dNum, bRow, dS, pairA, assertA, ofOk, zeroM]; (repeat (refine ⟨by omega, ?_⟩)); refine hK2 _ ?_; clear hK2 K2)); refine sxz (hK' _ (AW.st (by simp [dNum, bRow, dS, pairA, assertA, ofOk, zeroM]; rfl) ?_)); clear hK' K'; refine AW_ff rfl ?_; refine rg [0, 1, 20, 79, 80] [501, 502, 503] (notIn_ok rfl) fun K' hK' => ?_; (repeat (refine sxn fun K2 hK2 => ?_; simp [dNum, bRow, dS, pairA, assertA, ofOk, zeroM]; (repeat (refine ⟨by omega, ?_⟩)); refine hK2 _ ?_; clear hK2 K2)); refine sxz (hK' _ (AW.st (by simp [dNum, bRow, dS, pairA, assertA, ofOk, zeroM]; rfl) ?_)); clear hK' K'; refine AW_tt rfl ?_; refine rg [0, 9] [501, 502, 503] (notIn_ok rfl) fun K' hK' => ?_; (repeat (refine sxn fun K2 hK2 => ?_; simp [dNum, bRow, dS, pairA, assertA, ofOk, zeroM]; (repeat (refine ⟨by omega, ?_⟩)); refine hK2 _ ?_; clear hK2 K2)); refine sxz (hK' _ (AW.st (by simp [dNum, bRow, dS, pairA, assertA, ofOk, zeroM]; rfl) ?_)); clear hK' K'
   refine rg [0, 9, 10] [501, 502, 503] (notIn_ok rfl) fun K' hK' => ?_; (repeat (refine sxn fun K2 hK2 => ?_; simp [dNum, bRow, dS, pairA, assertA, ofOk, zeroM]; (repeat (refine ⟨by omega, ?_⟩)); refine hK2 _ ?_; clear hK2 K2)); refine sxz (hK' _ (AW.st (by simp [dNum, bRow, dS, pairA, assertA, ofOk, zeroM]; rfl) ?_)); clear hK' K'; refine AW_then fun K2 hK2 => ?_; refine rg [0, 10, 81, 82, 83] [501, 502, 503] (notIn_ok rfl) fun K' hK' => ?_; (repeat (refine sxn fun K2 hK2 => ?_; simp [dNum, bRow, dS, pairA, assertA, ofOk, zeroM]; (repeat (refine ⟨by omega, ?_⟩)); refine hK2 _ ?_; clear hK2 K2)); refine sxz (hK' _ (AW.st (by simp [dNum, bRow, dS, pairA, assertA, ofOk, zeroM]; rfl) ?_)); clear hK' K'; refine AW_for (S := Nat) (fun i => i ≤ l.length) (fun i => ⟨lst [(0, .ref 501 0 0), (10, .own 300 0 i), (81, .d (.sl none (l.map fun x => [dE x]))), (82, int l.length), (83, int i)], hlst (bRow (litsG ns es (l.take i) (V, cs)).2.1 (litsG ns es (l.take i) (V, cs)).2.2 ents ++ [(300, .sl 3 1 ((litsG ns es (l.take i) (V, cs)).1.map fun x => [dNum (x)]))])⟩) (fun i => l.length - i) 0 ?_ (by omega) ?_
   ·refine (Imp.adopt 10 300 3 1 rfl rfl).trans ?_; refine Imp.to' (notIn_ok rfl) (by simp [dNum, bRow, dS, pairA, assertA, ofOk, zeroM, litsG]) (by simp [dNum, bRow, dS, pairA, assertA, ofOk, zeroM, litsG])
   ·intro i hi
    refine rg [0, 10, 81, 82, 83, 84] [501, 502, 503, 300] (notIn_ok rfl) fun K' hK' => ?_; (repeat (refine sxn fun K2 hK2 => ?_; simp [dNum, bRow, dS, pairA, assertA, ofOk, zeroM]; (repeat (refine ⟨by omega, ?_⟩)); refine hK2 _ ?_; clear hK2 K2)); refine sxz (hK' _ (AW.st (by simp [dNum, bRow, dS, pairA, assertA, ofOk, zeroM]; rfl) ?_)); clear hK' K'; refine AW_then fun K3 hK3 => ?_; refine AW_cond' (b := i < l.length) (by simp [D.le, D.le.go, takeMap, dNum, bRow, dS, pairA, assertA, ofOk, zeroM]) (fun hc => ?_) (fun hc => ?_)
    ·have hil : i < l.length := hc
     obtain ⟨p1, p2, p3⟩ := hpre i hi
     have htk := litsG_take ns es hil (V, cs)
     have hsz2 := szNs_take hil
     have hsz3 := szNs_le l (i + 1)
     have hll := litsG_len ns es (l.take i) (V, cs)
     rw [List.length_take] at hll
     have hmn : min i l.length = i := by omega
     rw [hmn] at hll
     have hcc := hch _ (List.getElem_mem hil) _ (litsG ns es (l.take i) (V, cs)).2.2 p1 (by omega) (by omega)
     have hin := lit_inW ns es l[i] (fun s h => hN' s (nms_at (List.getElem_mem hil) h)) (fun s h => hE' s (nms_at (List.getElem_mem hil) h)) (hwl _ (List.getElem_mem hil)) (litsG ns es (l.take i) (V, cs)).2 p1 (by omega)
     obtain ⟨tx, cx, hx⟩ := dE_ifc l[i]
     rw [hx] at hcc
     have hpe : ((litsG ns es (l.take i) (V, cs)).2.1, (litsG ns es (l.take i) (V, cs)).2.2) = (litsG ns es (l.take i) (V, cs)).2 := rfl
     rw [hpe] at hcc; generalize litG ns es l[i] (litsG ns es (l.take i) (V, cs)).2 = R at hcc hin htk; generalize litsG ns es (l.take i) (V, cs) = Q at *; refine AW_skip (hK3 _ ?_); refine AW_then fun K4 hK4 => ?_; refine AW_block ?_; refine rg [0, 10, 12, 81, 82, 83] [501, 502, 503, 300] (notIn_ok rfl) fun K' hK' => ?_; (repeat (refine sxn fun K2 hK2 => ?_; simp [dNum, bRow, dS, pairA, assertA, ofOk, zeroM, hil, hx]; (repeat (refine ⟨by omega, ?_⟩)); refine hK2 _ ?_; clear hK2 K2)); refine sxz (hK' _ (AW.st (by simp [dNum, bRow, dS, pairA, assertA, ofOk, zeroM, hil, hx]; rfl) ?_)); clear hK' K'; refine AW_re (tyOf_good _) fun K' hK' => ?_; (repeat (refine sxn fun K2 hK2 => ?_; simp [dNum, bRow, dS, pairA, assertA, ofOk, zeroM]; (repeat (refine ⟨by omega, ?_⟩)); refine hK2 _ ?_; clear hK2 K2)); refine sxn fun K2 hK2 => ?_; simp [dNum, bRow, dS, pairA, assertA, ofOk, zeroM]; refine callK.mc (hcc) ?_ ?_ ?_ ?_ ?_ <;> simp [dNum, bRow, dS, pairA, assertA, ofOk, zeroM]; refine hK2 _ ?_; clear hK2 K2; (repeat (refine sxn fun K2 hK2 => ?_; simp [dNum, bRow, dS, pairA, assertA, ofOk, zeroM]; (repeat (refine ⟨by omega, ?_⟩)); refine hK2 _ ?_; clear hK2 K2)); refine sxz (hK' _ ?_); clear hK' K'; refine hK4 _ (AW.norm [0, 10, 81, 82, 83] [501, 502, 503, 300] (notIn_ok rfl) (AW.st (by simp [dNum, bRow, dS, pairA, assertA, ofOk, zeroM]; rfl) ?_)); refine AW_re (tyOf_good _) fun K' hK' => ?_; (repeat (refine sxn fun K2 hK2 => ?_; simp [dNum, bRow, dS, pairA, assertA, ofOk, zeroM]; (repeat (refine ⟨by omega, ?_⟩)); refine hK2 _ ?_; clear hK2 K2)); refine sxz (hK' _ ?_); clear hK' K'; (try simp only [thn, inb]); refine Again.mk (i + 1) (by omega) (by omega) ?_
     have hq2 : ∀ f : Int → List D, List.take i (Q.1.map f) = Q.1.map f := fun f => List.take_of_length_le (by rw [List.length_map]; omega)
     refine Imp.to' (notIn_ok rfl) (by simp [dNum, bRow, dS, pairA, assertA, ofOk, zeroM, htk, hll, hq2]) (by simp [dNum, bRow, dS, pairA, assertA, ofOk, zeroM, htk, hll, hq2])
    ·obtain rfl : i = l.length := by omega
     obtain ⟨p1, p2, p3⟩ := hpre l.length (Nat.le_refl _)
     rw [List.take_length] at p1 p2 p3 ⊢
     have hll := litsG_len ns es l (V, cs)
     generalize litsG ns es l (V, cs) = Q at *
     have ha := gand_spec G Q.2.1 (by omega) Q.2.2 (by omega) ents Q.1 (by omega) (fun x hx => by have := hall x hx; unfold inW; omega)
     have hpe : (Q.2.1, Q.2.2) = Q.2 := rfl
     rw [hpe] at ha
     obtain ⟨R, hR⟩ : ∃ R, mkAnd Q.1 Q.2 = R := ⟨_, rfl⟩
     rw [hR] at ha; refine AW_exit (hK2 _ ?_); refine rg [4] [501, 502, 503] (notIn_ok rfl) fun K' hK' => ?_; (repeat (refine sxn fun K2 hK2 => ?_; simp [dNum, bRow, dS, pairA, assertA, ofOk, zeroM, dRow, dInts, hll, takeMap, Function.comp_def]; (repeat (refine ⟨by omega, ?_⟩)); refine hK2 _ ?_; clear hK2 K2)); refine sxn fun K2 hK2 => ?_; simp [dNum, bRow, dS, pairA, assertA, ofOk, zeroM, dRow, dInts, hll, takeMap, Function.comp_def]; refine callK.frz 300 (by first | rfl | (simp [dNum, bRow, dS, pairA, assertA, ofOk, zeroM, dRow, dInts, hll, takeMap, Function.comp_def]; rfl)) (by decide) ?_; simp [dNum, bRow, dS, pairA, assertA, ofOk, zeroM, dRow, dInts, hll, takeMap, Function.comp_def]; refine callK.mc (ha) ?_ ?_ ?_ ?_ ?_ <;> simp [dNum, bRow, dS, pairA, assertA, ofOk, zeroM, dRow, dInts, hll, takeMap, Function.comp_def]; refine hK2 _ ?_; clear hK2 K2; (repeat (refine sxn fun K2 hK2 => ?_; simp [dNum, bRow, dS, pairA, assertA, ofOk, zeroM, dRow, dInts, hll, takeMap, Function.comp_def]; (repeat (refine ⟨by omega, ?_⟩)); refine hK2 _ ?_; clear hK2 K2)); refine sxz (hK' _ (AW.st (by simp [dNum, bRow, dS, pairA, assertA, ofOk, zeroM, dRow, dInts, hll, takeMap, Function.comp_def]; rfl) ?_)); clear hK' K'; refine AW_ret ?_; simp [hR, bRow, dNum, D.le, dRow, dInts]
  | or l =>
   rw [WfE] at hw
   have hwl := (WfEs_iff l).1 hw.2
   have hN' : ∀ s ∈ nmsL true l, s ∈ ns := fun s h => hN s (by rw [nmsE]; exact h)
   have hE' : ∀ s ∈ nmsL false l, s ∈ es := fun s h => hE s (by rw [nmsE]; exact h)
   simp only [szN] at hV2 hC
   have hch : ∀ x ∈ l, LitAt G ns es ents x := fun x hx => ih x (by have := List.sizeOf_lt_of_mem hx; simp only [Ex.or.sizeOf_spec] at hsz; omega) (fun s h => hN' s (nms_at hx h)) (fun s h => hE' s (nms_at hx h)) (hwl x hx)
   have hlb := len_szNs l
   have hpre : ∀ i, i ≤ l.length → ns.length + es.length ≤ (litsG ns es (l.take i) (V, cs)).2.1 ∧ (litsG ns es (l.take i) (V, cs)).2.1 ≤ V + szNs (l.take i) ∧ (litsG ns es (l.take i) (V, cs)).2.2.length + i ≤ cs.length + 4 * szNs (l.take i) := fun i hi => by
    have h1 := litsG_size ns es (l.take i) (V, cs)
    have h2 := litsG_vars ns es (l.take i) (V, cs)
    rw [List.length_take] at h1
    have : min i l.length = i := by omega
    rw [this] at h1
    dsimp only at h1 h2
    exact ⟨by omega, h1.1, h1.2⟩
   have hall := lits_inW ns es l hN' hE' hwl (V, cs) hV (by dsimp only; omega)
   rw [litG, dE, dEs_map]; refine MC.of_body (tyOf_good _) Tryz.func42 rfl rfl (rs := [.tmp 4]) Tryz.results42 (by simp [Tryz.ntmps42]) rfl fun X => ?_; simp only [Tryz.ntmps42]; refine rg [0, 1] [501, 502, 503] (notIn_ok rfl) fun K' hK' => ?_; (repeat (refine sxn fun K2 hK2 => ?_; simp [dNum, bRow, dS, pairA, assertA, ofOk, zeroM]; (repeat (refine ⟨by omega, ?_⟩)); refine hK2 _ ?_; clear hK2 K2)); refine sxz (hK' _ (AW.st (by simp [dNum, bRow, dS, pairA, assertA, ofOk, zeroM]; rfl) ?_)); clear hK' K'; refine AW_then fun K1 hK1 => ?_; refine rg [0, 1, 20] [501, 502, 503] (notIn_ok rfl) fun K' hK' => ?_; (repeat (refine sxn fun K2 hK2 => ?_; simp [dNum, bRow, dS, pairA, assertA, ofOk, zeroM]; (repeat (refine ⟨by omega, ?_⟩)); refine hK2 _ ?_; clear hK2 K2)); refine sxz (hK' _ (AW.st (by simp [dNum, bRow, dS, pairA, assertA, ofOk, zeroM]; rfl) ?_)); clear hK' K'; refine AW_block ?_; refine rg [0, 1, 20, 22, 23] [501, 502, 503] (notIn_ok rfl) fun K' hK' => ?_; (repeat (refine sxn fun K2 hK2 => ?_; simp [dNum, bRow, dS, pairA, assertA, ofOk, zeroM]; (repeat (refine ⟨by omega, ?_⟩)); refine hK2 _ ?_; clear hK2 K2)); refine sxz (hK' _ (AW.st (by simp [dNum, bRow, dS, pairA, assertA, ofOk, zeroM]; rfl) ?_)); clear hK' K'; refine AW_ff rfl ?_; refine rg [0, 1, 20, 31, 32] [501, 502, 503] (notIn_ok rfl) fun K' hK' => ?_; (repeat (refine sxn fun K2 hK2 => ?_; simp [dNum, bRow, dS, pairA, assertA, ofOk, zeroM]; (repeat (refine ⟨by omega, ?_⟩)); refine hK2 _ ?_; clear hK2 K2)); refine sxz (hK' _ (AW.st (by simp [dNum, bRow, dS, pairA, assertA, ofOk, zeroM]; rfl) ?_)); clear hK' K'; refine AW_ff rfl ?_; refine rg [0, 1, 20, 51, 52] [501, 502, 503] (notIn_ok rfl) fun K' hK' => ?_; (repeat (refine sxn fun K2 hK2 => ?_; simp [dNum, bRow, dS, pairA, assertA, ofOk, zeroM]; (repeat (refine ⟨by omega, ?_⟩)); refine hK2 _ ?_; clear hK2 K2)); refine sxz (hK' _ (AW.st (by simp [dNum, bRow, dS, pairA, assertA, ofOk, zeroM]; rfl) ?_)); clear hK' K'; refine AW_ff rfl ?_; refine rg [0, 1, 20, 71, 72] [501, 502, 503] (notIn_ok rfl) fun K' hK' => ?_; (repeat (refine sxn fun K2 hK2 => ?_; simp [dNum, bRow, dS, pairA, assertA, ofOk, zeroM]; (repeat (refine ⟨by omega, ?_⟩)); refine hK2 _ ?_; clear hK2 K2)); refine sxz (hK' _ (AW.st (by simp [dNum, bRow, dS, pairA, assertA, ofOk, zeroM]; rfl) ?_)); clear hK' K'; refine AW_ff rfl ?_; refine rg [0, 1, 20, 79, 80] [501, 502, 503] (notIn_ok rfl) fun K' hK' => ?_; (repeat (refine sxn fun K2 hK2 => ?_; simp [dNum, bRow, dS, pairA, assertA, ofOk, zeroM]; (repeat (refine ⟨by omega, ?_⟩)); refine hK2 _ ?_; clear hK2 K2)); refine sxz (hK' _ (AW.st (by simp [dNum, bRow, dS, pairA, assertA, ofOk, zeroM]; rfl) ?_)); clear hK' K'; refine AW_ff rfl ?_; refine rg [0, 1, 98, 99] [501, 502, 503] (notIn_ok rfl) fun K' hK' => ?_; (repeat (refine sxn fun K2 hK2 => ?_; simp [dNum, bRow, dS, pairA, assertA, ofOk, zeroM]; (repeat (refine ⟨by omega, ?_⟩)); refine hK2 _ ?_; clear hK2 K2)); refine sxz (hK' _ (AW.st (by simp [dNum, bRow, dS, pairA, assertA, ofOk, zeroM]; rfl) ?_)); clear hK' K'
   refine AW_tt rfl ?_; refine rg [0, 13] [501, 502, 503] (notIn_ok rfl) fun K' hK' => ?_; (repeat (refine sxn fun K2 hK2 => ?_; simp [dNum, bRow, dS, pairA, assertA, ofOk, zeroM]; (repeat (refine ⟨by omega, ?_⟩)); refine hK2 _ ?_; clear hK2 K2)); refine sxz (hK' _ (AW.st (by simp [dNum, bRow, dS, pairA, assertA, ofOk, zeroM]; rfl) ?_)); clear hK' K'; refine rg [0, 13, 14] [501, 502, 503] (notIn_ok rfl) fun K' hK' => ?_; (repeat (refine sxn fun K2 hK2 => ?_; simp [dNum, bRow, dS, pairA, assertA, ofOk, zeroM]; (repeat (refine ⟨by omega, ?_⟩)); refine hK2 _ ?_; clear hK2 K2)); refine sxz (hK' _ (AW.st (by simp [dNum, bRow, dS, pairA, assertA, ofOk, zeroM]; rfl) ?_)); clear hK' K'; refine AW_then fun K2 hK2 => ?_; refine rg [0, 14, 100, 101, 102] [501, 502, 503] (notIn_ok rfl) fun K' hK' => ?_; (repeat (refine sxn fun K2 hK2 => ?_; simp [dNum, bRow, dS, pairA, assertA, ofOk, zeroM]; (repeat (refine ⟨by omega, ?_⟩)); refine hK2 _ ?_; clear hK2 K2)); refine sxz (hK' _ (AW.st (by simp [dNum, bRow, dS, pairA, assertA, ofOk, zeroM]; rfl) ?_)); clear hK' K'; refine AW_for (S := Nat) (fun i => i ≤ l.length) (fun i => ⟨lst [(0, .ref 501 0 0), (14, .own 300 0 i), (100, .d (.sl none (l.map fun x => [dE x]))), (101, int l.length), (102, int i)], hlst (bRow (litsG ns es (l.take i) (V, cs)).2.1 (litsG ns es (l.take i) (V, cs)).2.2 ents ++ [(300, .sl 3 1 ((litsG ns es (l.take i) (V, cs)).1.map fun x => [dNum (-x)]))])⟩) (fun i => l.length - i) 0 ?_ (by omega) ?_
   ·refine (Imp.adopt 14 300 3 1 rfl rfl).trans ?_; refine Imp.to' (notIn_ok rfl) (by simp [dNum, bRow, dS, pairA, assertA, ofOk, zeroM, litsG]) (by simp [dNum, bRow, dS, pairA, assertA, ofOk, zeroM, litsG])
   ·intro i hi
    refine rg [0, 14, 100, 101, 102, 103] [501, 502, 503, 300] (notIn_ok rfl) fun K' hK' => ?_; (repeat (refine sxn fun K2 hK2 => ?_; simp [dNum, bRow, dS, pairA, assertA, ofOk, zeroM]; (repeat (refine ⟨by omega, ?_⟩)); refine hK2 _ ?_; clear hK2 K2)); refine sxz (hK' _ (AW.st (by simp [dNum, bRow, dS, pairA, assertA, ofOk, zeroM]; rfl) ?_)); clear hK' K'; refine AW_then fun K3 hK3 => ?_; refine AW_cond' (b := i < l.length) (by simp [D.le, D.le.go, takeMap, dNum, bRow, dS, pairA, assertA, ofOk, zeroM]) (fun hc => ?_) (fun hc => ?_)
    ·have hil : i < l.length := hc
     obtain ⟨p1, p2, p3⟩ := hpre i hi
     have htk := litsG_take ns es hil (V, cs)
     have hsz2 := szNs_take hil
     have hsz3 := szNs_le l (i + 1)
     have hll := litsG_len ns es (l.take i) (V, cs)
     rw [List.length_take] at hll
     have hmn : min i l.length = i := by omega
     rw [hmn] at hll
     have hcc := hch _ (List.getElem_mem hil) _ (litsG ns es (l.take i) (V, cs)).2.2 p1 (by omega) (by omega)
     have hin := lit_inW ns es l[i] (fun s h => hN' s (nms_at (List.getElem_mem hil) h)) (fun s h => hE' s (nms_at (List.getElem_mem hil) h)) (hwl _ (List.getElem_mem hil)) (litsG ns es (l.take i) (V, cs)).2 p1 (by omega)
     obtain ⟨tx, cx, hx⟩ := dE_ifc l[i]
     rw [hx] at hcc
     have hpe : ((litsG ns es (l.take i) (V, cs)).2.1, (litsG ns es (l.take i) (V, cs)).2.2) = (litsG ns es (l.take i) (V, cs)).2 := rfl
     rw [hpe] at hcc; generalize litG ns es l[i] (litsG ns es (l.take i) (V, cs)).2 = R at hcc hin htk; generalize litsG ns es (l.take i) (V, cs) = Q at *; refine AW_skip (hK3 _ ?_); refine AW_then fun K4 hK4 => ?_; refine AW_block ?_; refine rg [0, 14, 16, 100, 101, 102] [501, 502, 503, 300] (notIn_ok rfl) fun K' hK' => ?_; (repeat (refine sxn fun K2 hK2 => ?_; simp [dNum, bRow, dS, pairA, assertA, ofOk, zeroM, hil, hx]; (repeat (refine ⟨by omega, ?_⟩)); refine hK2 _ ?_; clear hK2 K2)); refine sxz (hK' _ (AW.st (by simp [dNum, bRow, dS, pairA, assertA, ofOk, zeroM, hil, hx]; rfl) ?_)); clear hK' K'; refine AW_re (tyOf_good _) fun K' hK' => ?_; (repeat (refine sxn fun K2 hK2 => ?_; simp [dNum, bRow, dS, pairA, assertA, ofOk, zeroM]; (repeat (refine ⟨by omega, ?_⟩)); refine hK2 _ ?_; clear hK2 K2)); refine sxn fun K2 hK2 => ?_; simp [dNum, bRow, dS, pairA, assertA, ofOk, zeroM]; refine callK.mc (hcc) ?_ ?_ ?_ ?_ ?_ <;> simp [dNum, bRow, dS, pairA, assertA, ofOk, zeroM]; refine hK2 _ ?_; clear hK2 K2; (repeat (refine sxn fun K2 hK2 => ?_; simp [dNum, bRow, dS, pairA, assertA, ofOk, zeroM]; (repeat (refine ⟨by omega, ?_⟩)); refine hK2 _ ?_; clear hK2 K2)); refine sxz (hK' _ ?_); clear hK' K'; refine hK4 _ (AW.norm [0, 14, 100, 101, 102] [501, 502, 503, 300] (notIn_ok rfl) (AW.st (by simp [dNum, bRow, dS, pairA, assertA, ofOk, zeroM]; rfl) ?_)); refine AW_re (tyOf_good _) fun K' hK' => ?_; (repeat (refine sxn fun K2 hK2 => ?_; simp [dNum, bRow, dS, pairA, assertA, ofOk, zeroM]; (repeat (refine ⟨by omega, ?_⟩)); refine hK2 _ ?_; clear hK2 K2)); refine sxz (hK' _ ?_); clear hK' K'; (try simp only [thn, inb]); refine Again.mk (i + 1) (by omega) (by omega) ?_
     have hq2 : ∀ f : Int → List D, List.take i (Q.1.map f) = Q.1.map f := fun f => List.take_of_length_le (by rw [List.length_map]; omega)
     refine Imp.to' (notIn_ok rfl) (by simp [dNum, bRow, dS, pairA, assertA, ofOk, zeroM, htk, hll, hq2]) (by simp [dNum, bRow, dS, pairA, assertA, ofOk, zeroM, htk, hll, hq2])
    ·obtain rfl : i = l.length := by omega
     obtain ⟨p1, p2, p3⟩ := hpre l.length (Nat.le_refl _)
     rw [List.take_length] at p1 p2 p3 ⊢
     have hll := litsG_len ns es l (V, cs)
     generalize litsG ns es l (V, cs) = Q at *
     have ha := gand_spec G Q.2.1 (by omega) Q.2.2 (by omega) ents (Q.1.map fun x => -x) (by rw [List.length_map]; omega) (by intro x hx; obtain ⟨y, hy, rfl⟩ := List.mem_map.1 hx; have := hall y hy; unfold inW; omega)
     have hpe : (Q.2.1, Q.2.2) = Q.2 := rfl
     rw [hpe] at ha
     have hbd : -2^60 < (mkAnd (Q.1.map fun x => -x) Q.2).1 ∧ (mkAnd (Q.1.map fun x => -x) Q.2).1 < 2^60 := by simp only [mkAnd]; omega
     obtain ⟨R, hR⟩ : ∃ R, mkAnd (Q.1.map fun x => -x) Q.2 = R := ⟨_, rfl⟩
     rw [hR] at ha hbd; refine AW_exit (hK2 _ ?_); refine rg [4] [501, 502, 503] (notIn_ok rfl) fun K' hK' => ?_; (repeat (refine sxn fun K2 hK2 => ?_; simp [dNum, bRow, dS, pairA, assertA, ofOk, zeroM, dRow, dInts, hll, takeMap, Function.comp_def]; (repeat (refine ⟨by omega, ?_⟩)); refine hK2 _ ?_; clear hK2 K2)); refine sxn fun K2 hK2 => ?_; simp [dNum, bRow, dS, pairA, assertA, ofOk, zeroM, dRow, dInts, hll, takeMap, Function.comp_def]; refine callK.frz 300 (by first | rfl | (simp [dNum, bRow, dS, pairA, assertA, ofOk, zeroM, dRow, dInts, hll, takeMap, Function.comp_def]; rfl)) (by decide) ?_; simp [dNum, bRow, dS, pairA, assertA, ofOk, zeroM, dRow, dInts, hll, takeMap, Function.comp_def]; refine callK.mc (ha) ?_ ?_ ?_ ?_ ?_ <;> simp [dNum, bRow, dS, pairA, assertA, ofOk, zeroM, dRow, dInts, hll, takeMap, Function.comp_def]; refine hK2 _ ?_; clear hK2 K2; (repeat (refine sxn fun K2 hK2 => ?_; simp [dNum, bRow, dS, pairA, assertA, ofOk, zeroM, dRow, dInts, hll, takeMap, Function.comp_def]; (repeat (refine ⟨by omega, ?_⟩)); refine hK2 _ ?_; clear hK2 K2)); refine sxz (hK' _ (AW.st (by simp [dNum, bRow, dS, pairA, assertA, ofOk, zeroM, dRow, dInts, hll, takeMap, Function.comp_def]; rfl) ?_)); clear hK' K'; refine AW_ret ?_; simp [hR, bRow, dNum, D.le, dRow, dInts]
  | cst b =>
   simp only [szN] at hV2 hC
   have hf := fresh_spec G V (by omega) cs ents
   have ha := fun x => add_spec2 G (V + 1) cs (by omega) ents [x]
   rw [litG, dE]; refine MC.of_body (tyOf_good _) Tryz.func42 rfl rfl (rs := [.tmp 4]) Tryz.results42 (by simp [Tryz.ntmps42]) rfl fun X => ?_; simp only [Tryz.ntmps42]; refine rg [0, 1] [501, 502, 503] (notIn_ok rfl) fun K' hK' => ?_; (repeat (refine sxn fun K2 hK2 => ?_; simp [dNum, bRow, dS, pairA, assertA, ofOk, zeroM]; (repeat (refine ⟨by omega, ?_⟩)); refine hK2 _ ?_; clear hK2 K2)); refine sxz (hK' _ (AW.st (by simp [dNum, bRow, dS, pairA, assertA, ofOk, zeroM]; rfl) ?_)); clear hK' K'; refine AW_then fun K1 hK1 => ?_; refine rg [0, 1, 20] [501, 502, 503] (notIn_ok rfl) fun K' hK' => ?_; (repeat (refine sxn fun K2 hK2 => ?_; simp [dNum, bRow, dS, pairA, assertA, ofOk, zeroM]; (repeat (refine ⟨by omega, ?_⟩)); refine hK2 _ ?_; clear hK2 K2)); refine sxz (hK' _ (AW.st (by simp [dNum, bRow, dS, pairA, assertA, ofOk, zeroM]; rfl) ?_)); clear hK' K'; refine AW_block ?_; refine rg [0, 1, 20, 22, 23] [501, 502, 503] (notIn_ok rfl) fun K' hK' => ?_; (repeat (refine sxn fun K2 hK2 => ?_; simp [dNum, bRow, dS, pairA, assertA, ofOk, zeroM]; (repeat (refine ⟨by omega, ?_⟩)); refine hK2 _ ?_; clear hK2 K2)); refine sxz (hK' _ (AW.st (by simp [dNum, bRow, dS, pairA, assertA, ofOk, zeroM]; rfl) ?_)); clear hK' K'; refine AW_ff rfl ?_; refine rg [0, 1, 20, 31, 32] [501, 502, 503] (notIn_ok rfl) fun K' hK' => ?_; (repeat (refine sxn fun K2 hK2 => ?_; simp [dNum, bRow, dS, pairA, assertA, ofOk, zeroM]; (repeat (refine ⟨by omega, ?_⟩)); refine hK2 _ ?_; clear hK2 K2)); refine sxz (hK' _ (AW.st (by simp [dNum, bRow, dS, pairA, assertA, ofOk, zeroM]; rfl) ?_)); clear hK' K'; refine AW_ff rfl ?_; refine rg [0, 1, 20, 51, 52] [501, 502, 503] (notIn_ok rfl) fun K' hK' => ?_; (repeat (refine sxn fun K2 hK2 => ?_; simp [dNum, bRow, dS, pairA, assertA, ofOk, zeroM]; (repeat (refine ⟨by omega, ?_⟩)); refine hK2 _ ?_; clear hK2 K2)); refine sxz (hK' _ (AW.st (by simp [dNum, bRow, dS, pairA, assertA, ofOk, zeroM]; rfl) ?_)); clear hK' K'; refine AW_ff rfl ?_; refine rg [0, 1, 20, 71, 72] [501, 502, 503] (notIn_ok rfl) fun K' hK' => ?_; (repeat (refine sxn fun K2 hK2 => ?_; simp [dNum, bRow, dS, pairA, assertA, ofOk, zeroM]; (repeat (refine ⟨by omega, ?_⟩)); refine hK2 _ ?_; clear hK2 K2)); refine sxz (hK' _ (AW.st (by simp [dNum, bRow, dS, pairA, assertA, ofOk, zeroM]; rfl) ?_)); clear hK' K'; refine AW_ff rfl ?_; refine rg [0, 1, 20, 79, 80] [501, 502, 503] (notIn_ok rfl) fun K' hK' => ?_; (repeat (refine sxn fun K2 hK2 => ?_; simp [dNum, bRow, dS, pairA, assertA, ofOk, zeroM]; (repeat (refine ⟨by omega, ?_⟩)); refine hK2 _ ?_; clear hK2 K2)); refine sxz (hK' _ (AW.st (by simp [dNum, bRow, dS, pairA, assertA, ofOk, zeroM]; rfl) ?_)); clear hK' K'; refine AW_ff rfl ?_; refine rg [0, 1, 98, 99] [501, 502, 503] (notIn_ok rfl) fun K' hK' => ?_; (repeat (refine sxn fun K2 hK2 => ?_; simp [dNum, bRow, dS, pairA, assertA, ofOk, zeroM]; (repeat (refine ⟨by omega, ?_⟩)); refine hK2 _ ?_; clear hK2 K2)); refine sxz (hK' _ (AW.st (by simp [dNum, bRow, dS, pairA, assertA, ofOk, zeroM]; rfl) ?_)); clear hK' K'
   refine AW_ff rfl ?_; refine AW_skip (hK1 _ ?_); refine rg [0, 1, 17] [501, 502, 503] (notIn_ok rfl) fun K' hK' => ?_; (repeat (refine sxn fun K2 hK2 => ?_; simp [dNum, bRow, dS, pairA, assertA, ofOk, zeroM]; (repeat (refine ⟨by omega, ?_⟩)); refine hK2 _ ?_; clear hK2 K2)); refine sxn fun K2 hK2 => ?_; simp [dNum, bRow, dS, pairA, assertA, ofOk, zeroM]; refine callK.mc (hf) ?_ ?_ ?_ ?_ ?_ <;> simp [dNum, bRow, dS, pairA, assertA, ofOk, zeroM]; refine hK2 _ ?_; clear hK2 K2; (repeat (refine sxn fun K2 hK2 => ?_; simp [dNum, bRow, dS, pairA, assertA, ofOk, zeroM]; (repeat (refine ⟨by omega, ?_⟩)); refine hK2 _ ?_; clear hK2 K2)); refine sxz (hK' _ (AW.st (by simp [dNum, bRow, dS, pairA, assertA, ofOk, zeroM]; rfl) ?_)); clear hK' K'; refine AW_then fun K8 hK8 => ?_; refine rg [0, 17, 18, 19] [501, 502, 503] (notIn_ok rfl) fun K' hK' => ?_; (repeat (refine sxn fun K2 hK2 => ?_; simp [dNum, bRow, dS, pairA, assertA, ofOk, zeroM]; (repeat (refine ⟨by omega, ?_⟩)); refine hK2 _ ?_; clear hK2 K2)); refine sxz (hK' _ (AW.st (by simp [dNum, bRow, dS, pairA, assertA, ofOk, zeroM]; rfl) ?_)); clear hK' K'
   cases b with
   | true =>
    refine rg [0, 17, 128] [501, 502, 503] (notIn_ok rfl) fun K' hK' => ?_; (repeat (refine sxn fun K2 hK2 => ?_; simp [dNum, bRow, dS, pairA, assertA, ofOk, zeroM]; (repeat (refine ⟨by omega, ?_⟩)); refine hK2 _ ?_; clear hK2 K2)); refine sxz (hK' _ (AW.st (by simp [dNum, bRow, dS, pairA, assertA, ofOk, zeroM]; rfl) ?_)); clear hK' K'; refine AW_tt rfl ?_
    have ha := ha ((V : Int) + 1)
    refine AW_re (tyOf_good _) fun K' hK' => ?_; (repeat (refine sxn fun K2 hK2 => ?_; simp [dNum, bRow, dS, pairA, assertA, ofOk, zeroM, dRow, dInts]; (repeat (refine ⟨by omega, ?_⟩)); refine hK2 _ ?_; clear hK2 K2)); refine sxn fun K2 hK2 => ?_; simp [dNum, bRow, dS, pairA, assertA, ofOk, zeroM, dRow, dInts]; refine callK.frz 131 (by first | rfl | (simp [dNum, bRow, dS, pairA, assertA, ofOk, zeroM, dRow, dInts]; rfl)) (by decide) ?_; simp [dNum, bRow, dS, pairA, assertA, ofOk, zeroM, dRow, dInts]; refine callK.mc (ha) ?_ ?_ ?_ ?_ ?_ <;> simp [dNum, bRow, dS, pairA, assertA, ofOk, zeroM, dRow, dInts]; refine hK2 _ ?_; clear hK2 K2; (repeat (refine sxn fun K2 hK2 => ?_; simp [dNum, bRow, dS, pairA, assertA, ofOk, zeroM, dRow, dInts]; (repeat (refine ⟨by omega, ?_⟩)); refine hK2 _ ?_; clear hK2 K2)); refine sxz (hK' _ ?_); clear hK' K'; refine hK8 _ (AW.norm [17] [501, 502, 503] (notIn_ok rfl) (AW.st (by simp [dNum, bRow, dS, pairA, assertA, ofOk, zeroM, dRow, dInts]; rfl) ?_)); refine rg [4] [501, 502, 503] (notIn_ok rfl) fun K' hK' => ?_; (repeat (refine sxn fun K2 hK2 => ?_; simp [dNum, bRow, dS, pairA, assertA, ofOk, zeroM]; (repeat (refine ⟨by omega, ?_⟩)); refine hK2 _ ?_; clear hK2 K2)); refine sxz (hK' _ (AW.st (by simp [dNum, bRow, dS, pairA, assertA, ofOk, zeroM]; rfl) ?_)); clear hK' K'; refine AW_ret ?_; simp [bRow, dNum, D.le, dRow, dInts]
   | false =>
    refine rg [0, 17, 128] [501, 502, 503] (notIn_ok rfl) fun K' hK' => ?_; (repeat (refine sxn fun K2 hK2 => ?_; simp [dNum, bRow, dS, pairA, assertA, ofOk, zeroM]; (repeat (refine ⟨by omega, ?_⟩)); refine hK2 _ ?_; clear hK2 K2)); refine sxz (hK' _ (AW.st (by simp [dNum, bRow, dS, pairA, assertA, ofOk, zeroM]; rfl) ?_)); clear hK' K'; refine AW_ff rfl ?_
    have ha := ha (-((V : Int) + 1))
    refine AW_re (tyOf_good _) fun K' hK' => ?_; (repeat (refine sxn fun K2 hK2 => ?_; simp [dNum, bRow, dS, pairA, assertA, ofOk, zeroM, dRow, dInts]; (repeat (refine ⟨by omega, ?_⟩)); refine hK2 _ ?_; clear hK2 K2)); refine sxn fun K2 hK2 => ?_; simp [dNum, bRow, dS, pairA, assertA, ofOk, zeroM, dRow, dInts]; refine callK.frz 136 (by first | rfl | (simp [dNum, bRow, dS, pairA, assertA, ofOk, zeroM, dRow, dInts]; rfl)) (by decide) ?_; simp [dNum, bRow, dS, pairA, assertA, ofOk, zeroM, dRow, dInts]; refine callK.mc (ha) ?_ ?_ ?_ ?_ ?_ <;> simp [dNum, bRow, dS, pairA, assertA, ofOk, zeroM, dRow, dInts]; refine hK2 _ ?_; clear hK2 K2; (repeat (refine sxn fun K2 hK2 => ?_; simp [dNum, bRow, dS, pairA, assertA, ofOk, zeroM, dRow, dInts]; (repeat (refine ⟨by omega, ?_⟩)); refine hK2 _ ?_; clear hK2 K2)); refine sxz (hK' _ ?_); clear hK' K'; refine hK8 _ (AW.norm [17] [501, 502, 503] (notIn_ok rfl) (AW.st (by simp [dNum, bRow, dS, pairA, assertA, ofOk, zeroM, dRow, dInts]; rfl) ?_)); refine rg [4] [501, 502, 503] (notIn_ok rfl) fun K' hK' => ?_; (repeat (refine sxn fun K2 hK2 => ?_; simp [dNum, bRow, dS, pairA, assertA, ofOk, zeroM]; (repeat (refine ⟨by omega, ?_⟩)); refine hK2 _ ?_; clear hK2 K2)); refine sxz (hK' _ (AW.st (by simp [dNum, bRow, dS, pairA, assertA, ofOk, zeroM]; rfl) ?_)); clear hK' K'; refine AW_ret ?_; simp [bRow, dNum, D.le, dRow, dInts]
end Go.Proofs.YtagfbbnlbncjlaaGreatDoor
namespace Go.Proofs.YtagfbbnlbncjlaaGreatDoor
open Go.Av
theorem renH_hlst {r r' : Nat} (hr : r ≠ r') (l : List (Nat × Row)) (hl : ∀ p ∈ l, p.1 ≠ r') : renH r r' (hlst l) = hlst (l.map fun p => (if p.1 = r then r' else p.1, p.2.tr (renO r r') (renF r r'))) := by
 funext q
 unfold renH
 induction l with
 | nil => simp [hlst, List.lookup]
 | cons p l ih =>
  have ih := ih fun p hp => hl p (by simp [hp])
  have hp := hl p (by simp)
  obtain ⟨k, row⟩ := p
  simp only [hlst, List.lookup, List.map_cons] at ih ⊢
  by_cases h1 : q = r'
  ·subst h1; simp only [if_true] at ih ⊢
   by_cases h2 : k = r
   ·subst h2; simp
   ·have a1 : (r == k) = false := by simpa using fun e => h2 e.symm
    have a2 : (q == k) = false := by simpa using fun e => hp e.symm
    simp only [h2, if_false, a1, a2]; exact ih
  ·simp only [h1, if_false] at ih ⊢
   by_cases h2 : q = r
   ·subst h2; simp only [if_true] at ih ⊢
    by_cases h3 : k = q
    ·have a1 : (q == r') = false := by simpa using h1
     simp only [h3, if_true, a1]; exact ih
    ·have a1 : (q == k) = false := by simpa using fun e => h3 e.symm
     simp only [h3, if_false, a1]; exact ih
   ·simp only [h2, if_false] at ih ⊢
    by_cases h3 : k = r
    ·have a1 : (q == k) = false := by rw [h3]; simpa using h2
     have a2 : (q == r') = false := by simpa using h1
     simp only [h3, if_true, a2] at a1 ⊢; rw [a1]; exact ih
    ·simp only [h3, if_false]
     by_cases h4 : q = k
     ·subst h4; simp
     ·have a1 : (q == k) = false := by simpa using h4
      simp only [a1]; exact ih
end Go.Proofs.YtagfbbnlbncjlaaGreatDoor
namespace Go.Proofs.YtagfbbnlbncjlaaGreatDoor
open Go.Av
theorem nms_nameF (all : Bool) : ∀ (n : Nat) (e : Ex), SizeOf.sizeOf e ≤ n → WfE e → ∀ s ∈ nmsE all e, nameF s = true
 | 0, e, hn, _, _, _ => by cases e <;> simp at hn
 | n + 1, e, hn, hw, s, hs => by
  have many : ∀ l : List Ex, (∀ x ∈ l, SizeOf.sizeOf x ≤ n) → (∀ x ∈ l, WfE x) → ∀ s ∈ nmsL all l, nameF s = true := by
   intro l
   induction l with
   | nil => intro _ _ s h; simp [nmsL] at h
   | cons x l ih =>
    intro h1 h2 s h
    rw [nmsL, List.mem_append] at h
    rcases h with h | h
    ·exact nms_nameF all n x (h1 x (by simp)) (h2 x (by simp)) s h
    ·exact ih (fun y hy => h1 y (by simp [hy])) (fun y hy => h2 y (by simp [hy])) s h
  have one : ∀ {t : Tx}, s ∈ one1 t → s = t := fun {t} h => by unfold one1 at h; split at h <;> simp_all
  cases e with
  | cst b => rw [nmsE] at hs <;> simp_all [nmE, one1]
  | bit t =>
   rw [WfE] at hw; rw [nmsE] at hs
   ·cases all with
    | true => have := one hs; simp only [nmE, if_true] at this; rw [this]; exact hw
    | false => simp [nmE, one1] at hs
   all_goals (intros; simp_all)
  | rise t =>
   rw [WfE] at hw; rw [nmsE] at hs
   ·have := one hs; simp only [nmE] at this; rw [this]; exact hw
   all_goals (intros; simp_all)
  | fall t =>
   rw [WfE] at hw; rw [nmsE] at hs
   ·have := one hs; simp only [nmE] at this; rw [this]; exact hw
   all_goals (intros; simp_all)
  | not x =>
   rw [WfE] at hw; rw [nmsE] at hs; exact nms_nameF all n x (by simp at hn; omega) hw s hs
  | and l =>
   rw [WfE] at hw; rw [nmsE] at hs; exact many l (fun x hx => by have := List.sizeOf_lt_of_mem hx; simp only [Ex.and.sizeOf_spec] at hn; omega) ((WfEs_iff l).1 hw.2) s hs
  | or l =>
   rw [WfE] at hw; rw [nmsE] at hs; exact many l (fun x hx => by have := List.sizeOf_lt_of_mem hx; simp only [Ex.or.sizeOf_spec] at hn; omega) ((WfEs_iff l).1 hw.2) s hs
theorem nms_sz (all : Bool) : ∀ (n : Nat) (e : Ex), SizeOf.sizeOf e ≤ n → (nmsE all e).length ≤ szN e
 | 0, e, hn => by cases e <;> simp at hn
 | n + 1, e, hn => by
  have many : ∀ l : List Ex, (∀ x ∈ l, SizeOf.sizeOf x ≤ n) → (nmsL all l).length ≤ szNs l := by
   intro l
   induction l with
   | nil => intro _; simp [nmsL]
   | cons x l ih =>
    intro h
    have a := ih fun y hy => h y (by simp [hy])
    have b := nms_sz all n x (h x (by simp))
    simp only [nmsL, szNs, List.length_append]
    omega
  have hone : ∀ s, (one1 s).length ≤ 1 := fun s => by unfold one1; split <;> simp
  have hp := szN_pos e
  cases e with
  | not x => have := nms_sz all n x (by simp at hn; omega); simp only [nmsE, szN]; omega
  | and l =>
   have := many l fun x hx => by have := List.sizeOf_lt_of_mem hx; simp only [Ex.and.sizeOf_spec] at hn; omega
   simp only [nmsE, szN]; omega
  | or l =>
   have := many l fun x hx => by have := List.sizeOf_lt_of_mem hx; simp only [Ex.or.sizeOf_spec] at hn; omega
   simp only [nmsE, szN]; omega
  | cst b => have := hone (nmE all (.cst b)); simp only [nmsE]; omega
  | bit s => have := hone (nmE all (.bit s)); simp only [nmsE]; omega
  | rise s => have := hone (nmE all (.rise s)); simp only [nmsE]; omega
  | fall s => have := hone (nmE all (.fall s)); simp only [nmsE]; omega
theorem names_sz (all : Bool) (e : Ex) : (namesE all e).length ≤ szN e := by
 rw [← insL_names]; exact Nat.le_trans (insL_len _ _) (by have := nms_sz all _ e (Nat.le_refl _); simp; omega)
def entsOf (f : Tx → Tx) : Nat → List Tx → List (Value × D)
 | _, [] => []
 | k, s :: l => (.string (bs (f s)), dNum ((k : Int) + 1)) :: entsOf f (k + 1) l
theorem entsOf_app (f : Tx → Tx) : ∀ (a b : List Tx) (k : Nat), entsOf f k (a ++ b) = entsOf f k a ++ entsOf f (k + a.length) b
 | [], b, k => by simp [entsOf]
 | s :: a, b, k => by
  have h := entsOf_app f a b (k + 1)
  simp only [List.cons_append, entsOf, h, List.length_cons]; rw [show k + 1 + a.length = k + (a.length + 1) from by omega]
theorem entsOf_take (f : Tx → Tx) {l : List Tx} {i k : Nat} (h : i < l.length) : entsOf f k (l.take (i + 1)) = entsOf f k (l.take i) ++ [(.string (bs (f l[i])), dNum ((k : Int) + i + 1))] := by
 rw [List.take_succ_eq_append_getElem h, entsOf_app]
 have : min i l.length = i := by omega
 simp [entsOf, List.length_take, this]
theorem entsOf_key {f : Tx → Tx} : ∀ {l : List Tx} {k : Nat} {p : Value × D}, p ∈ entsOf f k l → ∃ s ∈ l, p.1 = .string (bs (f s))
 | [], k, p, h => by simp [entsOf] at h
 | s :: l, k, p, h => by
  rw [entsOf, List.mem_cons] at h
  rcases h with rfl | h
  ·exact ⟨s, by simp, rfl⟩
  ·obtain ⟨t, ht, he⟩ := entsOf_key h
   exact ⟨t, by simp [ht], he⟩
theorem bs_beq (a b : Tx) : (bs a == bs b) = (a == b) := by
 by_cases h : a = b
 ·subst h; rw [show (a == a) = true from beq_self_eq_true a]
  show ((bs a).data == (bs a).data) = true
  exact beq_self_eq_true _
 ·rw [beq_eq_false_iff_ne.2 h]
  show ((bs a).data == (bs b).data) = false
  exact beq_eq_false_iff_ne.2 fun e => h (by simpa [bs] using e)
theorem key_ne {a b : Tx} (h : a ≠ b) : keyEq (.string (bs a)) (.string (bs b)) = false := by
 show (bs a == bs b) = false
 rw [bs_beq]; exact beq_eq_false_iff_ne.2 h
theorem key_same (a : Tx) : keyEq (.string (bs a)) (.string (bs a)) = true := by
 show (bs a == bs a) = true
 rw [bs_beq]; exact beq_self_eq_true _
theorem entPut_new {k : Value} {x : D} {ents : List (Value × D)} (h : ∀ p ∈ ents, keyEq k p.1 = false) : entPut k x ents = ents ++ [(k, x)] := by
 unfold entPut; rw [List.findIdx?_eq_none_iff.2 h]
theorem entGet_skip {k : Value} {a b : List (Value × D)} (h : ∀ p ∈ a, keyEq k p.1 = false) : entGet k (a ++ b) = entGet k b := by
 unfold entGet; rw [List.find?_append, List.find?_eq_none.2 (fun p hp => by rw [h p hp]; exact Bool.false_ne_true)]
 rfl
theorem entGet_of {f : Tx → Tx} (hf : ∀ a b, f a = f b → a = b) : ∀ {l : List Tx} {k : Nat} {s : Tx} (b : List (Value × D)), s ∈ l → entGet (.string (bs (f s))) (entsOf f k l ++ b) = some (dNum ((k : Int) + ixT l s + 1))
 | [], k, s, b, h => by cases h
 | t :: l, k, s, b, h => by
  by_cases hst : t = s
  ·subst hst; rw [entsOf, List.cons_append]; unfold entGet; rw [List.find?_cons]; simp only [key_same]
   have : ixT (t :: l) t = 0 := by simp [ixT, List.findIdx_cons]
   rw [this]; simp
  ·have hs : s ∈ l := by
    rcases List.mem_cons.1 h with h | h
    ·exact absurd h.symm hst
    ·exact h
   have ih := entGet_of hf (k := k + 1) b hs
   have h1 : ixT (t :: l) s = ixT l s + 1 := by
    have : (t == s) = false := by simpa using hst
    simp [ixT, List.findIdx_cons, this]
   rw [entsOf, List.cons_append]
   have h2 : entGet (.string (bs (f s))) ((.string (bs (f t)), dNum ((k : Int) + 1)) :: (entsOf f (k + 1) l ++ b)) = entGet (.string (bs (f s))) (entsOf f (k + 1) l ++ b) := by
    unfold entGet; rw [List.find?_cons]
    have : keyEq (.string (bs (f s))) (.string (bs (f t))) = false := key_ne fun e => hst (hf _ _ e).symm
    simp only [this]
   rw [h2, ih, h1]
   congr 2
   omega
theorem ents_ok {ns es : List Tx} (hne : ∀ s ∈ ns, ∀ t ∈ es, s ≠ 94 :: t) : EntsOk ns es (entsOf id 0 ns ++ entsOf (fun s => 94 :: s) ns.length es) := by
 refine ⟨fun p hp => ?_, fun s hs => ?_, fun s hs => ?_⟩
 ·rcases List.mem_append.1 hp with h | h <;> (obtain ⟨t, _, he⟩ := entsOf_key h; rw [he]; rfl)
 ·have := entGet_of (f := id) (fun a b h => h) (k := 0) (entsOf (fun s => 94 :: s) ns.length es) hs
  simpa using this
 ·rw [entGet_skip fun p hp => ?_]
  ·have := entGet_of (f := fun s => 94 :: s) (fun a b h => by simpa using h) (k := ns.length) [] hs
   simpa using this
  ·obtain ⟨t, ht, he⟩ := entsOf_key hp
   rw [he]; exact key_ne (hne t ht s hs).symm
theorem ents_keys {ents : List (Value × D)} (h : ∀ p ∈ ents, ∃ s, p.1 = .string (bs s)) : ∀ p ∈ ents, keyOk TypeDesc.string p.1 = true := fun p hp => by
 obtain ⟨s, he⟩ := h p hp
 rw [he]; rfl
theorem srt_ne {l : List Tx} (h : l.Pairwise (· < ·)) {i j : Nat} (hi : i < l.length) (hj : j < l.length) (hij : i ≠ j) : l[i] ≠ l[j] := fun e => by
 rcases Nat.lt_or_gt_of_ne hij with hlt | hlt
 ·exact tx_irr _ (e ▸ List.pairwise_iff_getElem.1 h _ _ hi hj hlt)
 ·exact tx_irr _ (e ▸ List.pairwise_iff_getElem.1 h _ _ hj hi hlt)
theorem name_no94 {s t : Tx} (h : nameF s = true) : s ≠ 94 :: t := fun e => by
 subst e
 have := ((name_facts h).2.2.1 94 (by simp))
 revert this; decide
theorem put_names {ns : List Tx} (hs : ns.Pairwise (· < ·)) {i : Nat} (h : i < ns.length) : entPut (.string (bs ns[i])) (dNum ((i : Int) + 1)) (entsOf id 0 (ns.take i)) = entsOf id 0 (ns.take (i + 1)) := by
 rw [entsOf_take id h, entPut_new]
 ·simp
 ·intro p hp
  obtain ⟨s, hm, he⟩ := entsOf_key hp
  rw [he]
  obtain ⟨j, hj, rfl⟩ := List.mem_iff_getElem.1 hm
  rw [List.length_take] at hj; rw [List.getElem_take]; exact key_ne (srt_ne hs h (by omega) (by omega))
theorem put_edges {ns es : List Tx} (hs : es.Pairwise (· < ·)) (hne : ∀ s ∈ ns, ∀ t : Tx, s ≠ 94 :: t) {i : Nat} (h : i < es.length) : entPut (.string (bs (94 :: es[i]))) (dNum ((ns.length : Int) + i + 1)) (entsOf id 0 ns ++ entsOf (fun s => 94 :: s) ns.length (es.take i)) = entsOf id 0 ns ++ entsOf (fun s => 94 :: s) ns.length (es.take (i + 1)) := by
 rw [entsOf_take _ h, entPut_new]
 ·simp
 ·intro p hp
  rcases List.mem_append.1 hp with hp | hp
  ·obtain ⟨s, hm, he⟩ := entsOf_key hp
   rw [he]; exact key_ne (hne s hm _).symm
  ·obtain ⟨s, hm, he⟩ := entsOf_key hp
   rw [he]
   obtain ⟨j, hj, rfl⟩ := List.mem_iff_getElem.1 hm
   rw [List.length_take] at hj; rw [List.getElem_take]
   have := srt_ne hs h (show j < es.length by omega) (by omega)
   exact key_ne fun e => this (by simpa using e)
def tsE (e : Ex) : Int × Cs := tsC (namesE true e) (namesE false e) e
set_option maxHeartbeats 16000000 in
theorem gof_spec (G : Glob) (e : Ex) (hw : WfE e) (hb : bE e ≤ 2^28) (hs3 : szN e ≤ 300) : MC Tryz.prog G [] 14 [.d (dE e)] (hlst []) (.tup [.agg [.d (dNum (tsE e).2.1), .own 502 0 (tsE e).2.2.length], .d (dNum (tsE e).1), .d (.v .nilIface)]) (hlst [(502, .sl 58 1 ((tsE e).2.2.map fun l => [dRow l]))]) := by
 unfold tsE
 have hns := namesE_spec G e hb
 have hes := edgesE_spec G e hb
 have hsz := size_spec G e hb
 have hN : ∀ s ∈ nmsE true e, s ∈ namesE true e := fun s hs => namesE_mem.2 hs
 have hE : ∀ s ∈ nmsE false e, s ∈ namesE false e := fun s hs => namesE_mem.2 hs
 have hsr := namesE_srt true e
 have hsr2 := namesE_srt false e
 have hnf : ∀ s ∈ namesE true e, nameF s = true := fun s hs => nms_nameF true _ e (Nat.le_refl _) hw s (namesE_mem.1 hs)
 have hef : ∀ s ∈ namesE false e, nameF s = true := fun s hs => nms_nameF false _ e (Nat.le_refl _) hw s (namesE_mem.1 hs)
 have hl1 := names_sz true e
 have hl2 := names_sz false e
 have hbd : bE e ≤ 2^28 := hb
 generalize namesE true e = ns at *; generalize namesE false e = es at *
 have hlit := lit_spec G ns es _ (ents_ok fun s hs t ht => name_no94 (hnf s hs)) (by omega) (by omega) _ e (Nat.le_refl _) hN hE hw (ns.length + es.length) [] (Nat.le_refl _) (by omega) (by simp; omega)
 have hts : litG ns es e (ns.length + es.length, []) = tsC ns es e := rfl
 rw [hts] at hlit; generalize tsC ns es e = R at hlit ⊢
 have h300 : ¬ (300 : Int) < (szN e : Int) := by omega
 obtain ⟨t, c, hec⟩ := dE_ifc e
 rw [hec] at hns hes hsz hlit ⊢; refine MC.of_body (tyOf_good _) Tryz.func14 rfl rfl (rs := [.cell 2 45, .tmp 3, .tmp 4]) Tryz.results14 (by simp [Tryz.ntmps14]) rfl fun X => ?_; simp only [Tryz.ntmps14]; refine rg [0, 2] [2] (notIn_ok rfl) fun K' hK' => ?_; (repeat (refine sxn fun K2 hK2 => ?_; simp [dNum, dS, bRow, dCl]; (repeat (refine ⟨by omega, ?_⟩)); refine hK2 _ ?_; clear hK2 K2)); refine sxz (hK' _ (AW.st (by simp [dNum, dS, bRow, dCl]; rfl) ?_)); clear hK' K'; refine AW_then fun K1 hK1 => ?_; refine rg [0, 2, 12] [2] (notIn_ok rfl) fun K' hK' => ?_; (repeat (refine sxn fun K2 hK2 => ?_; simp [dNum, dS, bRow, dCl]; (repeat (refine ⟨by omega, ?_⟩)); refine hK2 _ ?_; clear hK2 K2)); refine sxz (hK' _ (AW.st (by simp [dNum, dS, bRow, dCl]; rfl) ?_)); clear hK' K'; refine AW_ff rfl ?_; refine AW_skip (hK1 _ ?_); refine AW_then fun K2 hK2 => ?_; refine rg [0, 2, 17] [2] (notIn_ok rfl) fun K' hK' => ?_; (repeat (refine sxn fun K2 hK2 => ?_; simp [dNum, dS, bRow, dCl, h300]; (repeat (refine ⟨by omega, ?_⟩)); refine hK2 _ ?_; clear hK2 K2)); refine sxn fun K2 hK2 => ?_; simp [dNum, dS, bRow, dCl, h300]; refine callK.data (hsz) (by simp; rfl) (by first | exact D.leGo_refl _ | simp [takeMap, List.map_map, Function.comp_def, D.le, D.le.go, D.le_refl, D.leGo_refl, dNum, dS, bRow, dCl, h300]) ?_; refine hK2 _ ?_; clear hK2 K2; simp only [putd, upd_lst]; (repeat (refine sxn fun K2 hK2 => ?_; simp [dNum, dS, bRow, dCl, h300]; (repeat (refine ⟨by omega, ?_⟩)); refine hK2 _ ?_; clear hK2 K2)); refine sxz (hK' _ (AW.st (by simp [dNum, dS, bRow, dCl, h300]; rfl) ?_)); clear hK' K'; refine AW_cond false (by simp [h300]) (fun h => by cases h) (fun _ => ?_); refine AW_skip (hK2 _ ?_); refine rg [0, 2, 5] [2, 20, 22] (notIn_ok rfl) fun K' hK' => ?_; (repeat (refine sxn fun K2 hK2 => ?_; simp [dNum, dS, bRow, dCl]; (repeat (refine ⟨by omega, ?_⟩)); refine hK2 _ ?_; clear hK2 K2)); refine sxz (hK' _ (AW.st (by simp [dNum, dS, bRow, dCl]; rfl) ?_)); clear hK' K'; refine AW.imp (Imp.ren (r := 22) (r' := 501) (by decide) (by simp)) ?_; refine AW.st (by simp [renO, renF, Go.Av.ren, renH_hlst]; rfl) ?_; refine AW.imp (Imp.ren (r := 20) (r' := 503) (by decide) (by simp)) ?_; refine AW.st (by simp [renO, renF, Go.Av.ren, renH_hlst]; rfl) ?_; refine AW.imp (Imp.adoptCell 501 1 502 58 1 rfl rfl rfl) ?_; refine AW.imp (τ := ⟨lst [(0, .d (.ifc t c)), (2, .ref 2 0 0), (5, .ref 501 0 0)], hlst (bRow 0 [] [] ++ [(2, .box 45 [int 0, .d (.sl (some false) [])])])⟩) ?_ ?_
 ·refine Imp.to' (notIn_ok rfl) (by simp [dNum, dS, bRow, dCl]) (by simp [dNum, dS, bRow, dCl])
 refine AW_then fun K3 hK3 => ?_; refine rg [0, 2, 5, 24, 25, 26] [2, 501, 502, 503] (notIn_ok rfl) fun K' hK' => ?_; (repeat (refine sxn fun K2 hK2 => ?_; simp [dNum, dS, bRow, dCl]; (repeat (refine ⟨by omega, ?_⟩)); refine hK2 _ ?_; clear hK2 K2)); refine sxn fun K2 hK2 => ?_; simp [dNum, dS, bRow, dCl]; refine callK.data (hns) (by simp; rfl) (by first | exact D.leGo_refl _ | simp [takeMap, List.map_map, Function.comp_def, D.le, D.le.go, D.le_refl, D.leGo_refl, dNum, dS, bRow, dCl]) ?_; refine hK2 _ ?_; clear hK2 K2; simp only [putd, upd_lst]; (repeat (refine sxn fun K2 hK2 => ?_; simp [dNum, dS, bRow, dCl]; (repeat (refine ⟨by omega, ?_⟩)); refine hK2 _ ?_; clear hK2 K2)); refine sxz (hK' _ (AW.st (by simp [dNum, dS, bRow, dCl]; rfl) ?_)); clear hK' K'; refine AW_for (S := Nat) (fun i => i ≤ ns.length) (fun i => ⟨lst [(0, .d (.ifc t c)), (2, .ref 2 0 0), (5, .ref 501 0 0), (24, .d (.sl none (ns.map fun s => [dS s]))), (25, int ns.length), (26, int i)], hlst (bRow i [] (entsOf id 0 (ns.take i)) ++ [(2, .box 45 [int 0, .d (.sl (some false) [])])])⟩) (fun i => ns.length - i) 0 ?_ (by omega) ?_
 ·refine Imp.to' (notIn_ok rfl) (by simp [dNum, dS, bRow, dCl, entsOf]) (by simp [dNum, dS, bRow, dCl, entsOf])
 ·intro i hi
  refine rg [0, 2, 5, 24, 25, 26, 27] [2, 501, 502, 503] (notIn_ok rfl) fun K' hK' => ?_; (repeat (refine sxn fun K2 hK2 => ?_; simp [dNum, dS, bRow, dCl]; (repeat (refine ⟨by omega, ?_⟩)); refine hK2 _ ?_; clear hK2 K2)); refine sxz (hK' _ (AW.st (by simp [dNum, dS, bRow, dCl]; rfl) ?_)); clear hK' K'; refine AW_then fun K4 hK4 => ?_; refine AW_cond' (b := i < ns.length) (by simp [D.le, D.le.go, takeMap, dNum, dS, bRow, dCl]) (fun hc => ?_) (fun hc => ?_)
  ·have hil : i < ns.length := hc
   have hf := fresh_spec G i (by omega) [] (entsOf id 0 (ns.take i))
   have hk0 : ∀ p ∈ entsOf id 0 (ns.take i), keyOk TypeDesc.string p.1 = true := ents_keys fun p hp => by obtain ⟨s, _, he⟩ := entsOf_key hp; exact ⟨s, he⟩
   simp at hk0
   have hk1 := eq_true hk0
   have hput := put_names hsr hil
   simp only [dNum] at hput; refine AW_skip (hK4 _ ?_); refine AW_then fun K5 hK5 => ?_; refine AW_block ?_; refine rg [0, 2, 5, 7, 24, 25, 26] [2, 501, 502, 503] (notIn_ok rfl) fun K' hK' => ?_; (repeat (refine sxn fun K2 hK2 => ?_; simp [dNum, dS, bRow, dCl, hil]; (repeat (refine ⟨by omega, ?_⟩)); refine hK2 _ ?_; clear hK2 K2)); refine sxz (hK' _ (AW.st (by simp [dNum, dS, bRow, dCl, hil]; rfl) ?_)); clear hK' K'; refine AW_rme (tyOf_good _) (by kernel_rfl) ([502]) ([]) ([6]) ([(3, .ref 501 0 2)]) (List.range 8) (by kernel_rfl) (by simp [OffE]) fun K' hK' => ?_; (repeat (refine sxm_nextO rfl fun K2 hK2 => ?_; simp [dNum, dS, bRow, dCl, hk1, hput]; (repeat (refine ⟨by omega, ?_⟩)); refine hK2 _ ?_; clear hK2 K2)); refine sxm_nextO rfl fun K2 hK2 => ?_; simp [dNum, dS, bRow, dCl, hk1, hput]; refine hcK.mc (hf) (by simp [dNum, dS, bRow, dCl, hk1, hput]) (by simp [dNum, dS, bRow, dCl, hk1, hput]) (by simp [dNum, dS, bRow, dCl, hk1, hput]) (by simp [dNum, dS, bRow, dCl, hk1, hput]) (by simp [dNum, dS, bRow, dCl, hk1, hput]) (by simp [dNum, dS, bRow, dCl, hk1, hput]) (by simp [LdSame, dNum, dS, bRow, dCl, hk1, hput]) ?_; simp [dNum, dS, bRow, dCl, hk1, hput]; refine hK2 _ ?_; clear hK2 K2; (repeat (refine sxm_nextO rfl fun K2 hK2 => ?_; simp [dNum, dS, bRow, dCl, hk1, hput]; (repeat (refine ⟨by omega, ?_⟩)); refine hK2 _ ?_; clear hK2 K2)); refine sxm_nilO (hK' _ ?_); clear hK' K'; refine hK5 _ (AW.norm [0, 2, 5, 24, 25, 26] [2, 501, 502, 503] (notIn_ok rfl) (AW.st (by simp [dNum, dS, bRow, dCl, hk1, hput]; rfl) ?_)); refine AW_re (tyOf_good _) fun K' hK' => ?_; (repeat (refine sxn fun K2 hK2 => ?_; simp [dNum, dS, bRow, dCl]; (repeat (refine ⟨by omega, ?_⟩)); refine hK2 _ ?_; clear hK2 K2)); refine sxz (hK' _ ?_); clear hK' K'; (try simp only [thn, inb]); refine Again.mk (i + 1) (by omega) (by omega) ?_; refine Imp.to' (notIn_ok rfl) (by simp [dNum, dS, bRow, dCl]) (by simp [dNum, dS, bRow, dCl])
  ·obtain rfl : i = ns.length := by omega
   rw [List.take_length]; refine AW_exit (hK3 _ ?_); refine AW_then fun K6 hK6 => ?_; refine rg [0, 2, 5, 39, 40, 41] [2, 501, 502, 503] (notIn_ok rfl) fun K' hK' => ?_; (repeat (refine sxn fun K2 hK2 => ?_; simp [dNum, dS, bRow, dCl]; (repeat (refine ⟨by omega, ?_⟩)); refine hK2 _ ?_; clear hK2 K2)); refine sxn fun K2 hK2 => ?_; simp [dNum, dS, bRow, dCl]; refine callK.data (hes) (by simp; rfl) (by first | exact D.leGo_refl _ | simp [takeMap, List.map_map, Function.comp_def, D.le, D.le.go, D.le_refl, D.leGo_refl, dNum, dS, bRow, dCl]) ?_; refine hK2 _ ?_; clear hK2 K2; simp only [putd, upd_lst]; (repeat (refine sxn fun K2 hK2 => ?_; simp [dNum, dS, bRow, dCl]; (repeat (refine ⟨by omega, ?_⟩)); refine hK2 _ ?_; clear hK2 K2)); refine sxz (hK' _ (AW.st (by simp [dNum, dS, bRow, dCl]; rfl) ?_)); clear hK' K'; refine AW_for (S := Nat) (fun i => i ≤ es.length) (fun i => ⟨lst [(0, .d (.ifc t c)), (2, .ref 2 0 0), (5, .ref 501 0 0), (39, .d (.sl none (es.map fun s => [dS s]))), (40, int es.length), (41, int i)], hlst (bRow (ns.length + i) [] (entsOf id 0 ns ++ entsOf (fun s => 94 :: s) ns.length (es.take i)) ++ [(2, .box 45 [int 0, .d (.sl (some false) [])])])⟩) (fun i => es.length - i) 0 ?_ (by omega) ?_
   ·refine Imp.to' (notIn_ok rfl) (by simp [dNum, dS, bRow, dCl, entsOf]) (by simp [dNum, dS, bRow, dCl, entsOf])
   ·intro i hi
    refine rg [0, 2, 5, 39, 40, 41, 42] [2, 501, 502, 503] (notIn_ok rfl) fun K' hK' => ?_; (repeat (refine sxn fun K2 hK2 => ?_; simp [dNum, dS, bRow, dCl]; (repeat (refine ⟨by omega, ?_⟩)); refine hK2 _ ?_; clear hK2 K2)); refine sxz (hK' _ (AW.st (by simp [dNum, dS, bRow, dCl]; rfl) ?_)); clear hK' K'; refine AW_then fun K7 hK7 => ?_; refine AW_cond' (b := i < es.length) (by simp [D.le, D.le.go, takeMap, dNum, dS, bRow, dCl]) (fun hc => ?_) (fun hc => ?_)
    ·have hil : i < es.length := hc
     have hf := fresh_spec G (ns.length + i) (by omega) [] (entsOf id 0 ns ++ entsOf (fun s => 94 :: s) ns.length (es.take i))
     have hk0 : ∀ p ∈ entsOf id 0 ns ++ entsOf (fun s => 94 :: s) ns.length (es.take i), keyOk TypeDesc.string p.1 = true := ents_keys fun p hp => by
      rcases List.mem_append.1 hp with hp | hp <;> (obtain ⟨s, _, he⟩ := entsOf_key hp; exact ⟨_, he⟩)
     simp at hk0
     have hk1 := eq_true hk0
     have hput := put_edges (ns := ns) hsr2 (fun s hs t => name_no94 (hnf s hs)) hil
     simp only [dNum] at hput
     have hb94 := bs94 es[i]
     have h94 : (⟨#[94]⟩ : ByteArray).size = 1 := rfl
     have hsl := (name_facts (hef _ (List.getElem_mem hil))).2.1
     refine AW_skip (hK7 _ ?_); refine AW_then fun K8 hK8 => ?_; refine AW_block ?_; refine rg [0, 2, 5, 9, 39, 40, 41] [2, 501, 502, 503] (notIn_ok rfl) fun K' hK' => ?_; (repeat (refine sxn fun K2 hK2 => ?_; simp [dNum, dS, bRow, dCl, hil]; (repeat (refine ⟨by omega, ?_⟩)); refine hK2 _ ?_; clear hK2 K2)); refine sxz (hK' _ (AW.st (by simp [dNum, dS, bRow, dCl, hil]; rfl) ?_)); clear hK' K'; refine AW_rme (tyOf_good _) (by kernel_rfl) ([502]) ([]) ([7]) ([(3, .ref 501 0 2)]) (List.range 9) (by kernel_rfl) (by simp [OffE]) fun K' hK' => ?_; (repeat (refine sxm_nextO rfl fun K2 hK2 => ?_; simp [dNum, dS, bRow, dCl, hk1, hput, hb94, h94, binS, bs_size]; (repeat (refine ⟨by omega, ?_⟩)); refine hK2 _ ?_; clear hK2 K2)); refine sxm_nextO rfl fun K2 hK2 => ?_; simp [dNum, dS, bRow, dCl, hk1, hput, hb94, h94, binS, bs_size]; refine hcK.mc (hf) (by simp [dNum, dS, bRow, dCl, hk1, hput, hb94, h94, binS, bs_size]) (by simp [dNum, dS, bRow, dCl, hk1, hput, hb94, h94, binS, bs_size]) (by simp [dNum, dS, bRow, dCl, hk1, hput, hb94, h94, binS, bs_size]) (by simp [dNum, dS, bRow, dCl, hk1, hput, hb94, h94, binS, bs_size]) (by simp [dNum, dS, bRow, dCl, hk1, hput, hb94, h94, binS, bs_size]) (by simp [dNum, dS, bRow, dCl, hk1, hput, hb94, h94, binS, bs_size]) (by simp [LdSame, dNum, dS, bRow, dCl, hk1, hput, hb94, h94, binS, bs_size]) ?_; simp [dNum, dS, bRow, dCl, hk1, hput, hb94, h94, binS, bs_size]; refine hK2 _ ?_; clear hK2 K2; (repeat (refine sxm_nextO rfl fun K2 hK2 => ?_; simp [dNum, dS, bRow, dCl, hk1, hput, hb94, h94, binS, bs_size]; (repeat (refine ⟨by omega, ?_⟩)); refine hK2 _ ?_; clear hK2 K2)); refine sxm_nilO (hK' _ ?_); clear hK' K'; refine hK8 _ (AW.norm [0, 2, 5, 39, 40, 41] [2, 501, 502, 503] (notIn_ok rfl) (AW.st (by simp [dNum, dS, bRow, dCl, hk1, hput, hb94, h94, binS, bs_size]; rfl) ?_)); refine AW_re (tyOf_good _) fun K' hK' => ?_; (repeat (refine sxn fun K2 hK2 => ?_; simp [dNum, dS, bRow, dCl]; (repeat (refine ⟨by omega, ?_⟩)); refine hK2 _ ?_; clear hK2 K2)); refine sxz (hK' _ ?_); clear hK' K'; (try simp only [thn, inb]); refine Again.mk (i + 1) (by omega) (by omega) ?_; refine Imp.to' (notIn_ok rfl) (by simp [dNum, dS, bRow, dCl, Int.add_assoc]) (by simp [dNum, dS, bRow, dCl, Int.add_assoc])
    ·obtain rfl : i = es.length := by omega
     rw [List.take_length]; refine AW_exit (hK6 _ ?_); refine rg [2, 5, 10] [2, 501, 502, 503] (notIn_ok rfl) fun K' hK' => ?_; (repeat (refine sxn fun K2 hK2 => ?_; simp [dNum, dS, bRow, dCl]; (repeat (refine ⟨by omega, ?_⟩)); refine hK2 _ ?_; clear hK2 K2)); refine sxn fun K2 hK2 => ?_; simp [dNum, dS, bRow, dCl]; refine callK.mc (hlit) ?_ ?_ ?_ ?_ ?_ <;> simp [dNum, dS, bRow, dCl]; refine hK2 _ ?_; clear hK2 K2; (repeat (refine sxn fun K2 hK2 => ?_; simp [dNum, dS, bRow, dCl]; (repeat (refine ⟨by omega, ?_⟩)); refine hK2 _ ?_; clear hK2 K2)); refine sxz (hK' _ (AW.st (by simp [dNum, dS, bRow, dCl]; rfl) ?_)); clear hK' K'; refine rg [2, 3, 4] [2, 501, 502, 503] (notIn_ok rfl) fun K' hK' => ?_; (repeat (refine sxn fun K2 hK2 => ?_; simp [dNum, dS, bRow, dCl]; (repeat (refine ⟨by omega, ?_⟩)); refine hK2 _ ?_; clear hK2 K2)); refine sxz (hK' _ (AW.st (by simp [dNum, dS, bRow, dCl]; rfl) ?_)); clear hK' K'; refine AW_ret ?_; simp [D.le, dNum]
end Go.Proofs.YtagfbbnlbncjlaaGreatDoor
namespace Go.Proofs.YtagfbbnlbncjlaaGreatDoor
open Go.Av
theorem mkAnd_lens (l : List Int) (c : Cs) : ∀ x ∈ (mkAnd l c).2.2, x ∈ c.2 ∨ x.length ≤ l.length + 2 := by
 intro x hx
 simp only [mkAnd, List.mem_append, List.mem_map, List.mem_singleton] at hx
 rcases hx with (hx | ⟨y, _, rfl⟩) | rfl
 ·exact .inl hx
 ·exact .inr (by simp)
 ·exact .inr (by simp)
theorem lit_lens (ns es : List Tx) : ∀ (n : Nat) (e : Ex), SizeOf.sizeOf e ≤ n → ∀ c : Cs, ∀ x ∈ (litG ns es e c).2.2, x ∈ c.2 ∨ x.length ≤ szN e + 4
 | 0, e, hn, _ => by cases e <;> simp at hn
 | n + 1, e, hn, c => by
  have many : ∀ l : List Ex, (∀ x ∈ l, SizeOf.sizeOf x ≤ n) → ∀ c : Cs, ∀ x ∈ (litsG ns es l c).2.2, x ∈ c.2 ∨ x.length ≤ szNs l + 4 := by
   intro l
   induction l with
   | nil => intro _ c x hx; exact .inl hx
   | cons y l ih =>
    intro hs c x hx
    simp only [litsG, szNs] at hx ⊢
    rcases ih (fun z hz => hs z (by simp [hz])) _ x hx with h | h
    ·rcases lit_lens ns es n y (hs y (by simp)) c x h with h | h
     ·exact .inl h
     ·exact .inr (by omega)
    ·exact .inr (by omega)
  intro x hx
  cases e with
  | cst b =>
   simp only [litG, List.mem_append, List.mem_singleton] at hx
   rcases hx with hx | rfl
   ·exact .inl hx
   ·exact .inr (by simp)
  | bit s => exact .inl hx
  | rise s => exact (mkAnd_lens _ _ x hx).imp id fun h => by simp at h; simp only [szN]; omega
  | fall s => exact (mkAnd_lens _ _ x hx).imp id fun h => by simp at h; simp only [szN]; omega
  | not y => exact (lit_lens ns es n y (by simp at hn; omega) c x hx).imp id fun h => by simp only [szN]; omega
  | and l =>
   have hl := litsG_len ns es l c
   have hz := len_szNs l
   rcases mkAnd_lens _ _ x hx with h | h
   ·exact (many l (fun x hx => by have := List.sizeOf_lt_of_mem hx; simp only [Ex.and.sizeOf_spec] at hn; omega) c x h).imp id fun h => by simp only [szN]; omega
   ·exact .inr (by simp only [szN]; omega)
  | or l =>
   have hl := litsG_len ns es l c
   have hz := len_szNs l
   rcases mkAnd_lens _ _ x hx with h | h
   ·exact (many l (fun x hx => by have := List.sizeOf_lt_of_mem hx; simp only [Ex.or.sizeOf_spec] at hn; omega) c x h).imp id fun h => by simp only [szN]; omega
   ·rw [List.length_map] at h; exact .inr (by simp only [szN]; omega)
def srchE (e : Ex) := searchF (tsAll (namesE true e) (namesE false e) e) (tsE e).2.1 ((namesE true e).length + (namesE false e).length + 1) [] 0
def allE (e : Ex) : Cl := tsAll (namesE true e) (namesE false e) e
theorem allE_eq (e : Ex) : allE e = (tsE e).2.2 ++ [[(tsE e).1]] := rfl
theorem gbad_none {V : Nat} : ∀ {cs : Cl}, OkC V cs → ∀ i, gbad V cs i = none
 | [], _, _ => rfl
 | c :: cs, ok, i => by
  have h1 : c.any (badL V) = false := by
   rw [List.any_eq_false]
   intro x hx
   obtain ⟨a, b, c⟩ := ok _ (by simp) x hx
   unfold badL; simp only [Bool.or_eq_true, decide_eq_true_eq, not_or]; exact ⟨by omega, by omega, by omega⟩
  rw [gbad, h1]; exact gbad_none (fun c hc => ok c (by simp [hc])) _
theorem tsE_bounds (e : Ex) (hs3 : szN e ≤ 300) (h6 : (namesE true e).length + (namesE false e).length ≤ 6) : (tsE e).2.1 ≤ 306 ∧ (tsE e).2.2.length ≤ 1200 ∧ ∀ c ∈ (tsE e).2.2, c.length ≤ 304 := by
 have h := lit_size (namesE true e) (namesE false e) _ e (Nat.le_refl _) ((namesE true e).length + (namesE false e).length, [])
 have h2 := lit_lens (namesE true e) (namesE false e) _ e (Nat.le_refl _) ((namesE true e).length + (namesE false e).length, [])
 have e1 : litG (namesE true e) (namesE false e) e ((namesE true e).length + (namesE false e).length, []) = tsE e := rfl
 rw [e1] at h h2
 dsimp only at h
 refine ⟨by omega, by simp at h; omega, fun c hc => ?_⟩
 rcases h2 c hc with h | h
 ·cases h
 ·omega
theorem gsolve_e (G : Glob) (e : Ex) (hw : WfE e) (hs3 : szN e ≤ 300) (h6 : (namesE true e).length + (namesE false e).length ≤ 6) :
  PureC Tryz.prog G 23 [dCl (tsE e).2.1 (allE e)] (if (srchE e).1 = true then .tup [dVals (tsE e).2.1 (valT (srchE e).2.1), .v .nilIface] else .tup [.sl (some false) [], dErr (some (8, none))]) := by
 have hN : ∀ s ∈ nmsE true e, s ∈ namesE true e := fun s hs => namesE_mem.2 hs
 have hE : ∀ s ∈ nmsE false e, s ∈ namesE false e := fun s hs => namesE_mem.2 hs
 have ok := ts_ok hN hE hw
 obtain ⟨b1, b2, b3⟩ := tsE_bounds e hs3 h6
 have hlen : (allE e).length ≤ 1201 := by rw [allE_eq]; simp; omega
 have hge : gateE ((tsE e).2.1 : Nat) (allE e) = none := by
  unfold gateE; rw [if_neg (by omega)]; exact gbad_none ok 0
 refine Solve_goodM G (tsE e).2.1 (by omega) (allE e) (by omega) (fun c hc => ?_) ok hge (leftT ((namesE true e).length + (namesE false e).length)) (fun tr g h1 h2 => ts_falls hN hE hw tr g h1 h2) _ (by have := leftT_le ((namesE true e).length + (namesE false e).length) []; omega) ?_
 ·rw [allE_eq, List.mem_append, List.mem_singleton] at hc
  rcases hc with hc | rfl
  ·have := b3 c hc; omega
  ·simp
 ·have : 2^((namesE true e).length + (namesE false e).length + 1) ≤ 2^7 := Nat.pow_le_pow_right (by decide) (by omega)
  omega
def difE (a b : Ex) : Ex := .or [.and [a, .not b], .and [.not a, b]]
theorem difE_ev (is was : Tx → Bool) (a b : Ex) : evE is was (difE a b) = (evE is was a != evE is was b) := by
 simp only [difE, evE, evA, evO]
 cases evE is was a <;> cases evE is was b <;> rfl
theorem difE_wf {a b : Ex} (ha : WfE a) (hb : WfE b) : WfE (difE a b) := by
 simp [difE, WfE, WfEs, ha, hb]
theorem difE_sz (a b : Ex) : szN (difE a b) = 2 * szN a + 2 * szN b + 5 := by
 simp [difE, szN, szNs]; omega
theorem difE_mem {all : Bool} {a b : Ex} {s : Tx} : s ∈ nmsE all (difE a b) ↔ s ∈ nmsE all a ∨ s ∈ nmsE all b := by
 simp [difE, nmsE, nmsL]
 grind
theorem nodup_len : ∀ {l m : List Tx}, l.Nodup → (∀ s ∈ l, s ∈ m) → l.length ≤ m.length
 | [], m, _, _ => Nat.zero_le _
 | x :: l, m, h, hs => by
  rw [List.nodup_cons] at h
  have hx := hs x (by simp)
  have ih := nodup_len (m := m.erase x) h.2 fun s hm => (List.mem_erase_of_ne fun e => h.1 (by rw [← e]; exact hm)).2 (hs s (by simp [hm]))
  rw [List.length_erase_of_mem hx] at ih
  have : 0 < m.length := List.length_pos_of_mem hx
  simp only [List.length_cons]
  omega
theorem srt_nodup {l : List Tx} (h : l.Pairwise (· < ·)) : l.Nodup := List.Pairwise.imp (fun {a b} hab (e : a = b) => by subst e; exact tx_irr _ hab) h
theorem difE_len (all : Bool) (a b : Ex) : (namesE all (difE a b)).length ≤ (namesE all a).length + (namesE all b).length := by
 rw [← List.length_append]; refine nodup_len (srt_nodup (namesE_srt all _)) fun s hs => ?_; rw [List.mem_append, namesE_mem, namesE_mem]; exact difE_mem.1 (namesE_mem.1 hs)
def sameE (a b : Ex) : Bool := !(srchE (difE a b)).1
theorem sameE_iff {a b : Ex} (ha : WfE a) (hb : WfE b) : sameE a b = true ↔ ∀ is was, evE is was a = evE is was b := by
 have hN : ∀ s ∈ nmsE true (difE a b), s ∈ namesE true (difE a b) := fun s hs => namesE_mem.2 hs
 have hE : ∀ s ∈ nmsE false (difE a b), s ∈ namesE false (difE a b) := fun s hs => namesE_mem.2 hs
 obtain ⟨_, h1, h2⟩ := ts_search hN hE (difE_wf ha hb)
 unfold sameE
 constructor
 ·intro h is was
  have h' : (srchE (difE a b)).1 = false := by simpa using h
  have := h2 h' is was
  rw [difE_ev] at this; simpa using this
 ·intro h
  cases hs : (srchE (difE a b)).1 with
  | false => rfl
  | true =>
   have := h1 hs
   rw [difE_ev, h] at this; simp at this
end Go.Proofs.YtagfbbnlbncjlaaGreatDoor
namespace Go.Proofs.YtagfbbnlbncjlaaGreatDoor
open Go.Av
set_option maxHeartbeats 16000000 in
theorem same_spec (G : Glob) (hG : HasErr G) (a b : Ex) (ha : WfE a) (hb : WfE b) (hab : bE a ≤ 2^24) (hbb : bE b ≤ 2^24) (hs : szN a + szN b ≤ 140) (h6 : (namesE true (difE a b)).length + (namesE false (difE a b)).length ≤ 6) :
  PureC Tryz.prog G 26 [dE a, dE b] (.tup [.v (.bool (sameE a b)), .v .nilIface]) := by
 have hsz := difE_sz a b
 have hof := gof_spec G (difE a b) (difE_wf ha hb) (by simp only [difE, bE, bEs]; omega) (by omega)
 have hso := gsolve_e G (difE a b) (difE_wf ha hb) (by omega) h6
 rw [allE_eq] at hso; unfold sameE; generalize (srchE (difE a b)).2.1 = tr at hso; generalize (srchE (difE a b)).1 = r at hso ⊢
 have hd : dE (difE a b) = .ifc 116 (.sl none [[.ifc 113 (.sl none [[dE a], [.ifc 111 (.agg [dE b])]])], [.ifc 113 (.sl none [[.ifc 111 (.agg [dE a])], [dE b]])]]) := by simp [difE, dE, dEs]
 rw [hd] at hof
 have hbd := (tsE_bounds (difE a b) (by omega) h6).2.1
 generalize tsE (difE a b) = R at hof hso hbd
 obtain ⟨ta, ca, hca⟩ := dE_ifc a
 obtain ⟨tb, cb, hcb⟩ := dE_ifc b
 rw [hca, hcb] at hof ⊢; refine PureC.of_body (tyOf_good _) Tryz.func26 rfl rfl (rs := [.tmp 4, .tmp 5]) Tryz.results26 (by simp [Tryz.ntmps26]) fun X => ?_; simp only [Tryz.ntmps26, List.map]; refine rg [0, 1] [] (fun _ _ => trivial) fun K' hK' => ?_; (repeat (refine sxn fun K2 hK2 => ?_; simp [dNum]; (repeat (refine ⟨by omega, ?_⟩)); refine hK2 _ ?_; clear hK2 K2)); refine sxz (hK' _ (AW.st (by simp [dNum]; rfl) ?_)); clear hK' K'; refine AW_then fun K1 hK1 => ?_; refine rg [0, 1, 15] [] (fun _ _ => trivial) fun K' hK' => ?_; (repeat (refine sxn fun K2 hK2 => ?_; simp [dNum]; (repeat (refine ⟨by omega, ?_⟩)); refine hK2 _ ?_; clear hK2 K2)); refine sxz (hK' _ (AW.st (by simp [dNum]; rfl) ?_)); clear hK' K'; refine AW_ff rfl ?_; refine AW_skip (hK1 _ ?_); refine rg [6] [29] (fun _ _ => trivial) fun K' hK' => ?_; (repeat (refine sxn fun K2 hK2 => ?_; simp [dNum]; (repeat (refine ⟨by omega, ?_⟩)); refine hK2 _ ?_; clear hK2 K2)); refine sxz (hK' _ (AW.st (by simp [dNum]; rfl) ?_)); clear hK' K'; refine AW.imp (Imp.freeze 29 trivial) ?_; refine AW.st (by simp [dNum]; rfl) ?_; refine rg [7, 8, 9] [502, 7] (fun _ _ => trivial) fun K' hK' => ?_; (repeat (refine sxn fun K2 hK2 => ?_; simp [dNum]; (repeat (refine ⟨by omega, ?_⟩)); refine hK2 _ ?_; clear hK2 K2)); refine sxn fun K2 hK2 => ?_; simp [dNum]; refine callK.mc (hof) ?_ ?_ ?_ ?_ ?_ <;> simp [dNum]; refine hK2 _ ?_; clear hK2 K2; (repeat (refine sxn fun K2 hK2 => ?_; simp [dNum]; (repeat (refine ⟨by omega, ?_⟩)); refine hK2 _ ?_; clear hK2 K2)); refine sxz (hK' _ (AW.st (by simp [dNum]; rfl) ?_)); clear hK' K'; refine AW_then fun K2 hK2 => ?_; refine rg [7, 8, 9, 38] [502, 7] (fun _ _ => trivial) fun K' hK' => ?_; (repeat (refine sxn fun K2 hK2 => ?_; simp [dNum]; (repeat (refine ⟨by omega, ?_⟩)); refine hK2 _ ?_; clear hK2 K2)); refine sxz (hK' _ (AW.st (by simp [dNum]; rfl) ?_)); clear hK' K'; refine AW_ff rfl ?_; refine AW_skip (hK2 _ ?_)
 have htk : List.take R.2.2.length (R.2.2.map fun l => [dRow l]) = R.2.2.map fun l => [dRow l] := List.take_of_length_le (by simp)
 simp only [dRow, dInts] at htk; refine rg [7] [502, 7] (fun _ _ => trivial) fun K' hK' => ?_; (repeat (refine sxn fun K2 hK2 => ?_; simp [dNum, htk, dRow, dInts]; (repeat (refine ⟨by omega, ?_⟩)); refine hK2 _ ?_; clear hK2 K2)); refine sxz (hK' _ (AW.st (by simp [dNum, htk, dRow, dInts]; rfl) ?_)); clear hK' K'
 have htk2 : List.take (R.2.2.length + 1) ((R.2.2.map fun l => [dRow l]) ++ [[dRow [R.1]]]) = (R.2.2.map fun l => [dRow l]) ++ [[dRow [R.1]]] := List.take_of_length_le (by simp)
 simp only [dRow, dInts, dNum, List.map_cons, List.map_nil] at htk2; refine AW.imp (Imp.freeze 502 trivial) ?_; refine AW.st (by simp [dNum, htk2, dRow, dInts]; rfl) ?_
 have hts := tell_spec G hG
 cases r with
 | true =>
  have ht := hts none
  refine rg [9] [] (fun _ _ => trivial) fun K' hK' => ?_; (repeat (refine sxn fun K2 hK2 => ?_; simp [dNum, dCl, dRows, dRow, dInts, htk2]; (repeat (refine ⟨by omega, ?_⟩)); refine hK2 _ ?_; clear hK2 K2)); refine sxn fun K2 hK2 => ?_; simp [dNum, dCl, dRows, dRow, dInts, htk2]; refine callK.data (hso) (by simp; rfl) (by first | exact D.leGo_refl _ | simp [takeMap, List.map_map, Function.comp_def, D.le, D.le.go, D.le_refl, D.leGo_refl, dNum, dCl, dRows, dRow, dInts, htk2]) ?_; refine hK2 _ ?_; clear hK2 K2; simp only [putd, upd_lst]; (repeat (refine sxn fun K2 hK2 => ?_; simp [dNum, dCl, dRows, dRow, dInts, htk2]; (repeat (refine ⟨by omega, ?_⟩)); refine hK2 _ ?_; clear hK2 K2)); refine sxz (hK' _ (AW.st (by simp [dNum, dCl, dRows, dRow, dInts, htk2]; rfl) ?_)); clear hK' K'; refine AW_then fun K3 hK3 => ?_; refine rg [9, 53] [] (fun _ _ => trivial) fun K' hK' => ?_; (repeat (refine sxn fun K2 hK2 => ?_; simp [dNum, dErr]; (repeat (refine ⟨by omega, ?_⟩)); refine hK2 _ ?_; clear hK2 K2)); refine sxn fun K2 hK2 => ?_; simp [dNum, dErr]; refine callK.data (ht) (by simp; rfl) (by first | exact D.leGo_refl _ | simp [takeMap, List.map_map, Function.comp_def, D.le, D.le.go, D.le_refl, D.leGo_refl, dNum, dErr]) ?_; refine hK2 _ ?_; clear hK2 K2; simp only [putd, upd_lst]; (repeat (refine sxn fun K2 hK2 => ?_; simp [dNum, dErr]; (repeat (refine ⟨by omega, ?_⟩)); refine hK2 _ ?_; clear hK2 K2)); refine sxz (hK' _ (AW.st (by simp [dNum, dErr]; rfl) ?_)); clear hK' K'; refine AW_block ?_; refine rg [9, 53, 54] [] (fun _ _ => trivial) fun K' hK' => ?_; (repeat (refine sxn fun K2 hK2 => ?_; simp [dNum, codeF]; (repeat (refine ⟨by omega, ?_⟩)); refine hK2 _ ?_; clear hK2 K2)); refine sxz (hK' _ (AW.st (by simp [dNum, codeF]; rfl) ?_)); clear hK' K'; refine AW_tt rfl ?_; refine rg [4, 5] [] (fun _ _ => trivial) fun K' hK' => ?_; (repeat (refine sxn fun K2 hK2 => ?_; simp [dNum]; (repeat (refine ⟨by omega, ?_⟩)); refine hK2 _ ?_; clear hK2 K2)); refine sxz (hK' _ (AW.st (by simp [dNum]; rfl) ?_)); clear hK' K'; refine AW_ret ?_; simp [D.le, D.le.go, takeMap, dNum]
 | false =>
  have ht := hts (some (8, none))
  refine rg [9] [] (fun _ _ => trivial) fun K' hK' => ?_; (repeat (refine sxn fun K2 hK2 => ?_; simp [dNum, dCl, dRows, dRow, dInts, htk2]; (repeat (refine ⟨by omega, ?_⟩)); refine hK2 _ ?_; clear hK2 K2)); refine sxn fun K2 hK2 => ?_; simp [dNum, dCl, dRows, dRow, dInts, htk2]; refine callK.data (hso) (by simp; rfl) (by first | exact D.leGo_refl _ | simp [takeMap, List.map_map, Function.comp_def, D.le, D.le.go, D.le_refl, D.leGo_refl, dNum, dCl, dRows, dRow, dInts, htk2]) ?_; refine hK2 _ ?_; clear hK2 K2; simp only [putd, upd_lst]; (repeat (refine sxn fun K2 hK2 => ?_; simp [dNum, dCl, dRows, dRow, dInts, htk2]; (repeat (refine ⟨by omega, ?_⟩)); refine hK2 _ ?_; clear hK2 K2)); refine sxz (hK' _ (AW.st (by simp [dNum, dCl, dRows, dRow, dInts, htk2]; rfl) ?_)); clear hK' K'; refine AW_then fun K3 hK3 => ?_; refine rg [9, 53] [] (fun _ _ => trivial) fun K' hK' => ?_; (repeat (refine sxn fun K2 hK2 => ?_; simp [dNum, dErr]; (repeat (refine ⟨by omega, ?_⟩)); refine hK2 _ ?_; clear hK2 K2)); refine sxn fun K2 hK2 => ?_; simp [dNum, dErr]; refine callK.data (ht) (by simp; rfl) (by first | exact D.leGo_refl _ | simp [takeMap, List.map_map, Function.comp_def, D.le, D.le.go, D.le_refl, D.leGo_refl, dNum, dErr]) ?_; refine hK2 _ ?_; clear hK2 K2; simp only [putd, upd_lst]; (repeat (refine sxn fun K2 hK2 => ?_; simp [dNum, dErr]; (repeat (refine ⟨by omega, ?_⟩)); refine hK2 _ ?_; clear hK2 K2)); refine sxz (hK' _ (AW.st (by simp [dNum, dErr]; rfl) ?_)); clear hK' K'; refine AW_block ?_; refine rg [9, 53, 54] [] (fun _ _ => trivial) fun K' hK' => ?_; (repeat (refine sxn fun K2 hK2 => ?_; simp [dNum, codeF]; (repeat (refine ⟨by omega, ?_⟩)); refine hK2 _ ?_; clear hK2 K2)); refine sxz (hK' _ (AW.st (by simp [dNum, codeF]; rfl) ?_)); clear hK' K'; refine AW_ff rfl ?_; refine rg [9, 56] [] (fun _ _ => trivial) fun K' hK' => ?_; (repeat (refine sxn fun K2 hK2 => ?_; simp [dNum, codeF]; (repeat (refine ⟨by omega, ?_⟩)); refine hK2 _ ?_; clear hK2 K2)); refine sxz (hK' _ (AW.st (by simp [dNum, codeF]; rfl) ?_)); clear hK' K'; refine AW_tt rfl ?_; refine rg [4, 5] [] (fun _ _ => trivial) fun K' hK' => ?_; (repeat (refine sxn fun K2 hK2 => ?_; simp [dNum]; (repeat (refine ⟨by omega, ?_⟩)); refine hK2 _ ?_; clear hK2 K2)); refine sxz (hK' _ (AW.st (by simp [dNum]; rfl) ?_)); clear hK' K'; refine AW_ret ?_; simp [D.le, D.le.go, takeMap, dNum]
end Go.Proofs.YtagfbbnlbncjlaaGreatDoor
namespace Go.Proofs.YtagfbbnlbncjlaaGreatDoor
open Go.Av
def exG1 : Ex := .not (.and [.bit [97], .bit [98]])
def exG2 : Ex := .or [.not (.bit [97]), .not (.bit [98])]
def exG3 : Ex := .and [.not (.bit [97]), .not (.bit [98])]
theorem exG1_wf : WfE exG1 := by simp only [exG1, WfE, WfEs]; exact ⟨by simp, by decide +kernel, by decide +kernel, trivial⟩
theorem exG2_wf : WfE exG2 := by simp only [exG2, WfE, WfEs]; exact ⟨by simp, by decide +kernel, by decide +kernel, trivial⟩
theorem exG3_wf : WfE exG3 := by simp only [exG3, WfE, WfEs]; exact ⟨by simp, by decide +kernel, by decide +kernel, trivial⟩
theorem exG1_parse : parseM [33, 40, 97, 32, 38, 32, 98, 41] = (some exG1, none) := by
 have ht : wrE exG1 0 = [33, 40, 97, 32, 38, 32, 98, 41] := by simp [exG1, wrE, wrL, Lib.join, List.intercalate]
 have := parse_back exG1_wf (by simp [exG1, dpI, dpA, dpE, dpO]) (by rw [ht]; simp)
 rw [ht] at this; exact this
theorem exG2_parse : parseM [33, 97, 32, 124, 32, 33, 98] = (some exG2, none) := by
 have ht : wrE exG2 0 = [33, 97, 32, 124, 32, 33, 98] := by simp [exG2, wrE, wrL, Lib.join, List.intercalate]
 have := parse_back exG2_wf (by simp [exG2, dpI, dpA, dpE, dpO]) (by rw [ht]; simp)
 rw [ht] at this; exact this
theorem exG3_parse : parseM [33, 97, 32, 38, 32, 33, 98] = (some exG3, none) := by
 have ht : wrE exG3 0 = [33, 97, 32, 38, 32, 33, 98] := by simp [exG3, wrE, wrL, Lib.join, List.intercalate]
 have := parse_back exG3_wf (by simp [exG3, dpI, dpA, dpE, dpO]) (by rw [ht]; simp)
 rw [ht] at this; exact this
theorem names_le {all : Bool} {e : Ex} {m : List Tx} (h : ∀ s ∈ nmsE all e, s ∈ m) : (namesE all e).length ≤ m.length := nodup_len (srt_nodup (namesE_srt all e)) fun s hs => h s (namesE_mem.1 hs)
theorem exG12_six : (namesE true (difE exG1 exG2)).length + (namesE false (difE exG1 exG2)).length ≤ 6 := by
 have h1 := names_le (all := true) (e := difE exG1 exG2) (m := [[97], [98]]) (by simp [difE, exG1, exG2, nmsE, nmsL, nmE, one1])
 have h2 := names_le (all := false) (e := difE exG1 exG2) (m := []) (by simp [difE, exG1, exG2, nmsE, nmsL, nmE, one1])
 simp only [List.length_cons, List.length_nil] at h1 h2
 omega
theorem exG13_six : (namesE true (difE exG1 exG3)).length + (namesE false (difE exG1 exG3)).length ≤ 6 := by
 have h1 := names_le (all := true) (e := difE exG1 exG3) (m := [[97], [98]]) (by simp [difE, exG1, exG3, nmsE, nmsL, nmE, one1])
 have h2 := names_le (all := false) (e := difE exG1 exG3) (m := []) (by simp [difE, exG1, exG3, nmsE, nmsL, nmE, one1])
 simp only [List.length_cons, List.length_nil] at h1 h2
 omega
theorem exG12_same : sameE exG1 exG2 = true := by
 rw [sameE_iff exG1_wf exG2_wf]
 intro is was
 simp only [exG1, exG2, evE, evA, evO]
 cases is [97] <;> cases is [98] <;> rfl
theorem exG13_same : sameE exG1 exG3 = false := by
 cases h : sameE exG1 exG3 with
 | false => rfl
 | true =>
  have := (sameE_iff exG1_wf exG3_wf).1 h (fun s => s == [97]) (fun _ => false)
  revert this
  simp [exG1, exG3, evE, evA]
theorem lg1 : (⟨#[33, 40, 97, 32, 38, 32, 98, 41]⟩ : ByteArray) = bs [33, 40, 97, 32, 38, 32, 98, 41] := rfl
theorem lg2 : (⟨#[33, 97, 32, 124, 32, 33, 98]⟩ : ByteArray) = bs [33, 97, 32, 124, 32, 33, 98] := rfl
theorem lg3 : (⟨#[33, 97, 32, 38, 32, 33, 98]⟩ : ByteArray) = bs [33, 97, 32, 38, 32, 33, 98] := rfl
set_option maxHeartbeats 16000000 in
theorem gated_spec (G : Glob) (hG : HasErr G) : PureC Tryz.prog G 19 [] (.v (.bool true)) := by
 have hp1 := parse_spec G [33, 40, 97, 32, 38, 32, 98, 41] (by decide)
 rw [exG1_parse] at hp1
 have hp2 := parse_spec G [33, 97, 32, 124, 32, 33, 98] (by decide)
 rw [exG2_parse] at hp2
 have hp3 := parse_spec G [33, 97, 32, 38, 32, 33, 98] (by decide)
 rw [exG3_parse] at hp3
 have hs1 := same_spec G hG exG1 exG2 exG1_wf exG2_wf (by simp [exG1, bE, bEs]) (by simp [exG2, bE, bEs]) (by simp [exG1, exG2, szN, szNs]) exG12_six
 have hs2 := same_spec G hG exG1 exG3 exG1_wf exG3_wf (by simp [exG1, bE, bEs]) (by simp [exG3, bE, bEs]) (by simp [exG1, exG3, szN, szNs]) exG13_six
 rw [exG12_same] at hs1; rw [exG13_same] at hs2
 obtain ⟨t1, c1, h1⟩ := dE_ifc exG1
 obtain ⟨t2, c2, h2⟩ := dE_ifc exG2
 obtain ⟨t3, c3, h3⟩ := dE_ifc exG3
 simp only [dOE] at hp1 hp2 hp3; rw [h1] at hp1 hs1 hs2; rw [h2] at hp2 hs1; rw [h3] at hp3 hs2; refine PureC.of_body (tyOf_good _) Tryz.func19 rfl rfl (rs := [.tmp 0]) Tryz.results19 (by simp [Tryz.ntmps19]) fun X => ?_; simp only [Tryz.ntmps19, List.map]; refine rg [] [] (fun _ _ => trivial) fun K' hK' => ?_; (repeat (refine sxn fun K2 hK2 => ?_; simp [dNum, dS, dErr]; (repeat (refine ⟨by omega, ?_⟩)); refine hK2 _ ?_; clear hK2 K2)); refine sxz (hK' _ (AW.st (by simp [dNum, dS, dErr]; rfl) ?_)); clear hK' K'; refine rg [1, 2] [] (fun _ _ => trivial) fun K' hK' => ?_; (repeat (refine sxn fun K2 hK2 => ?_; simp [dNum, dS, dErr, lg1]; (repeat (refine ⟨by omega, ?_⟩)); refine hK2 _ ?_; clear hK2 K2)); refine sxn fun K2 hK2 => ?_; simp [dNum, dS, dErr, lg1]; refine callK.data (hp1) (by simp; rfl) (by first | exact D.leGo_refl _ | simp [takeMap, List.map_map, Function.comp_def, D.le, D.le.go, D.le_refl, D.leGo_refl, dNum, dS, dErr, lg1]) ?_; refine hK2 _ ?_; clear hK2 K2; simp only [putd, upd_lst]; (repeat (refine sxn fun K2 hK2 => ?_; simp [dNum, dS, dErr, lg1]; (repeat (refine ⟨by omega, ?_⟩)); refine hK2 _ ?_; clear hK2 K2)); refine sxz (hK' _ (AW.st (by simp [dNum, dS, dErr, lg1]; rfl) ?_)); clear hK' K'; refine rg [1, 2, 3, 4] [] (fun _ _ => trivial) fun K' hK' => ?_; (repeat (refine sxn fun K2 hK2 => ?_; simp [dNum, dS, dErr, lg2]; (repeat (refine ⟨by omega, ?_⟩)); refine hK2 _ ?_; clear hK2 K2)); refine sxn fun K2 hK2 => ?_; simp [dNum, dS, dErr, lg2]; refine callK.data (hp2) (by simp; rfl) (by first | exact D.leGo_refl _ | simp [takeMap, List.map_map, Function.comp_def, D.le, D.le.go, D.le_refl, D.leGo_refl, dNum, dS, dErr, lg2]) ?_; refine hK2 _ ?_; clear hK2 K2; simp only [putd, upd_lst]; (repeat (refine sxn fun K2 hK2 => ?_; simp [dNum, dS, dErr, lg2]; (repeat (refine ⟨by omega, ?_⟩)); refine hK2 _ ?_; clear hK2 K2)); refine sxz (hK' _ (AW.st (by simp [dNum, dS, dErr, lg2]; rfl) ?_)); clear hK' K'; refine rg [1, 2, 3, 4, 5, 6] [] (fun _ _ => trivial) fun K' hK' => ?_; (repeat (refine sxn fun K2 hK2 => ?_; simp [dNum, dS, dErr, lg3]; (repeat (refine ⟨by omega, ?_⟩)); refine hK2 _ ?_; clear hK2 K2)); refine sxn fun K2 hK2 => ?_; simp [dNum, dS, dErr, lg3]; refine callK.data (hp3) (by simp; rfl) (by first | exact D.leGo_refl _ | simp [takeMap, List.map_map, Function.comp_def, D.le, D.le.go, D.le_refl, D.leGo_refl, dNum, dS, dErr, lg3]) ?_; refine hK2 _ ?_; clear hK2 K2; simp only [putd, upd_lst]; (repeat (refine sxn fun K2 hK2 => ?_; simp [dNum, dS, dErr, lg3]; (repeat (refine ⟨by omega, ?_⟩)); refine hK2 _ ?_; clear hK2 K2)); refine sxz (hK' _ (AW.st (by simp [dNum, dS, dErr, lg3]; rfl) ?_)); clear hK' K'; refine AW_then fun K1 hK1 => ?_; refine rg [1, 3, 5, 30] [] (fun _ _ => trivial) fun K' hK' => ?_; (repeat (refine sxn fun K2 hK2 => ?_; simp [dNum, dS, dErr]; (repeat (refine ⟨by omega, ?_⟩)); refine hK2 _ ?_; clear hK2 K2)); refine sxz (hK' _ (AW.st (by simp [dNum, dS, dErr]; rfl) ?_)); clear hK' K'; refine AW_ff rfl ?_; refine AW_skip (hK1 _ ?_)
 refine rg [1, 2, 5, 7] [] (fun _ _ => trivial) fun K' hK' => ?_; (repeat (refine sxn fun K2 hK2 => ?_; simp [dNum, dS, dErr]; (repeat (refine ⟨by omega, ?_⟩)); refine hK2 _ ?_; clear hK2 K2)); refine sxn fun K2 hK2 => ?_; simp [dNum, dS, dErr]; refine callK.data (hs1) (by simp; rfl) (by first | exact D.leGo_refl _ | simp [takeMap, List.map_map, Function.comp_def, D.le, D.le.go, D.le_refl, D.leGo_refl, dNum, dS, dErr]) ?_; refine hK2 _ ?_; clear hK2 K2; simp only [putd, upd_lst]; (repeat (refine sxn fun K2 hK2 => ?_; simp [dNum, dS, dErr]; (repeat (refine ⟨by omega, ?_⟩)); refine hK2 _ ?_; clear hK2 K2)); refine sxz (hK' _ (AW.st (by simp [dNum, dS, dErr]; rfl) ?_)); clear hK' K'; refine rg [2, 4, 7, 8] [] (fun _ _ => trivial) fun K' hK' => ?_; (repeat (refine sxn fun K2 hK2 => ?_; simp [dNum, dS, dErr]; (repeat (refine ⟨by omega, ?_⟩)); refine hK2 _ ?_; clear hK2 K2)); refine sxn fun K2 hK2 => ?_; simp [dNum, dS, dErr]; refine callK.data (hs2) (by simp; rfl) (by first | exact D.leGo_refl _ | simp [takeMap, List.map_map, Function.comp_def, D.le, D.le.go, D.le_refl, D.leGo_refl, dNum, dS, dErr]) ?_; refine hK2 _ ?_; clear hK2 K2; simp only [putd, upd_lst]; (repeat (refine sxn fun K2 hK2 => ?_; simp [dNum, dS, dErr]; (repeat (refine ⟨by omega, ?_⟩)); refine hK2 _ ?_; clear hK2 K2)); refine sxz (hK' _ (AW.st (by simp [dNum, dS, dErr]; rfl) ?_)); clear hK' K'; refine rg [0] [] (fun _ _ => trivial) fun K' hK' => ?_; (repeat (refine sxn fun K2 hK2 => ?_; simp [dNum, dS, dErr]; (repeat (refine ⟨by omega, ?_⟩)); refine hK2 _ ?_; clear hK2 K2)); refine sxz (hK' _ (AW.st (by simp [dNum, dS, dErr]; rfl) ?_)); clear hK' K'; refine AW_ret ?_; simp [D.le, D.le.go, takeMap, dNum, dS, dErr]
end Go.Proofs.YtagfbbnlbncjlaaGreatDoor
namespace Go.Proofs.YtagfbbnlbncjlaaGreatDoor
open Go.Av
theorem add_nm {all : Bool} {out o : List Ex} {x : Ex} (h : addE out x = some o) {s : Tx} (hs : s ∈ nmsL all o) : s ∈ nmsL all out ∨ s ∈ nmsE all x := by
 unfold addE at h
 split at h
 ·obtain rfl := Option.some.inj h; exact .inl hs
 ·split at h
  ·cases h
  ·obtain rfl := Option.some.inj h
   rw [nmsL_app, List.mem_append] at hs
   rcases hs with hs | hs
   ·exact .inl hs
   ·exact .inr (by simpa [nmsL] using hs)
theorem adds_nm {all : Bool} : ∀ (l out o : List Ex), addsE out l = some o → ∀ {s : Tx}, s ∈ nmsL all o → s ∈ nmsL all out ∨ s ∈ nmsL all l
 | [], out, o, h, s, hs => by rw [addsE] at h; obtain rfl := Option.some.inj h; exact .inl hs
 | x :: l, out, o, h, s, hs => by
  rw [addsE] at h
  split at h
  ·cases h
  ·rename_i o1 h1
   rw [nmsL, List.mem_append]
   rcases adds_nm l o1 o h hs with h2 | h2
   ·rcases add_nm h1 h2 with h3 | h3
    ·exact .inl h3
    ·exact .inr (.inl h3)
   ·exact .inr (.inr h2)
theorem pieces_nm {all and : Bool} {x : Ex} {i : List Ex} (h : piecesE and x = some i) {s : Tx} (hs : s ∈ nmsL all i) : s ∈ nmsE all x := by
 cases x with
 | cst b =>
  have hp : piecesE and (.cst b) = if b != and then none else some [] := rfl
  rw [hp] at h
  split at h
  ·cases h
  ·obtain rfl := Option.some.inj h; simp [nmsL] at hs
 | and l => cases and <;> (obtain rfl := Option.some.inj h; simpa [nmsL, nmsE] using hs)
 | or l => cases and <;> (obtain rfl := Option.some.inj h; simpa [nmsL, nmsE] using hs)
 | bit s => obtain rfl := Option.some.inj h; simpa [nmsL] using hs
 | rise s => obtain rfl := Option.some.inj h; simpa [nmsL] using hs
 | fall s => obtain rfl := Option.some.inj h; simpa [nmsL] using hs
 | not y => obtain rfl := Option.some.inj h; simpa [nmsL] using hs
theorem parts_nm {all and : Bool} : ∀ (l out o : List Ex), partsE and out l = some o → ∀ {s : Tx}, s ∈ nmsL all o → s ∈ nmsL all out ∨ s ∈ nmsL all l
 | [], out, o, h, s, hs => by rw [partsE] at h; obtain rfl := Option.some.inj h; exact .inl hs
 | x :: l, out, o, h, s, hs => by
  rw [partsE] at h
  split at h
  ·cases h
  ·rename_i i hi
   split at h
   ·cases h
   ·rename_i o1 h1
    rw [nmsL, List.mem_append]
    rcases parts_nm l o1 o h hs with h2 | h2
    ·rcases adds_nm _ _ _ h1 h2 with h3 | h3
     ·exact .inl h3
     ·exact .inr (.inl (pieces_nm hi h3))
    ·exact .inr (.inr h2)
theorem fin_nm {all and : Bool} {l : List Ex} {s : Tx} (hs : s ∈ nmsE all (finE and (partsE and [] l))) : s ∈ nmsL all l := by
 cases h : partsE and [] l with
 | none => rw [h] at hs; simp [finE, nmsE, nmE, one1] at hs
 | some o =>
  have key : s ∈ nmsL all o → s ∈ nmsL all l := fun hm => by
   rcases parts_nm l [] o h hm with h2 | h2
   ·simp [nmsL] at h2
   ·exact h2
  rw [h] at hs
  match o, hs, key with
  | [], hs, _ => simp [finE, nmsE, nmE, one1] at hs
  | [x], hs, key => exact key (by simpa [finE, nmsL] using hs)
  | x :: y :: o, hs, key => exact key (by cases and <;> simpa [finE, grp, nmsE] using hs)
theorem tid_nm {all : Bool} : ∀ (n : Nat) (e : Ex), SizeOf.sizeOf e ≤ n → ∀ s ∈ nmsE all (tidE e), s ∈ nmsE all e
 | 0, e, hn, _, _ => by cases e <;> simp at hn
 | n + 1, e, hn, s, hs => by
  have many : ∀ l : List Ex, (∀ x ∈ l, SizeOf.sizeOf x ≤ n) → ∀ s ∈ nmsL all (tidL l), s ∈ nmsL all l := by
   intro l
   induction l with
   | nil => intro _ s h; simpa [tidL] using h
   | cons x l ih =>
    intro h s hs
    rw [tidL, nmsL, List.mem_append] at hs; rw [nmsL, List.mem_append]
    rcases hs with hs | hs
    ·exact .inl (tid_nm n x (h x (by simp)) s hs)
    ·exact .inr (ih (fun y hy => h y (by simp [hy])) s hs)
  cases e with
  | cst b => exact hs
  | bit s => exact hs
  | rise s => exact hs
  | fall s => exact hs
  | not x =>
   have h := tid_nm (all := all) n x (by simp at hn; omega) s
   rw [tidE] at hs; rw [nmsE]
   apply h
   generalize tidE x = y at hs ⊢
   cases y <;> first | (simp [notE, nmsE, nmE, one1] at hs; done) | simpa [notE, nmsE, nmE, one1] using hs
  | and l =>
   rw [nmsE]; exact many l (fun x hx => by have := List.sizeOf_lt_of_mem hx; simp only [Ex.and.sizeOf_spec] at hn; omega) s (fin_nm (by rw [tidE] at hs; exact hs))
  | or l =>
   rw [nmsE]; exact many l (fun x hx => by have := List.sizeOf_lt_of_mem hx; simp only [Ex.or.sizeOf_spec] at hn; omega) s (fin_nm (by rw [tidE] at hs; exact hs))
theorem dif_tid_len (all : Bool) (e : Ex) : (namesE all (difE e (tidE e))).length ≤ (namesE all e).length := by
 refine nodup_len (srt_nodup (namesE_srt all _)) fun s hs => ?_; rw [namesE_mem] at hs ⊢
 rcases difE_mem.1 hs with h | h
 ·exact h
 ·exact tid_nm _ e (Nat.le_refl _) s h
theorem sameE_comm {a b : Ex} (ha : WfE a) (hb : WfE b) : sameE a b = sameE b a := by
 have h1 := sameE_iff ha hb
 have h2 := sameE_iff hb ha
 rcases Bool.eq_false_or_eq_true (sameE a b) with h | h <;> rcases Bool.eq_false_or_eq_true (sameE b a) with g | g
 ·rw [h, g]
 ·rw [h2.2 fun is was => (h1.1 h is was).symm] at g; cases g
 ·rw [h1.2 fun is was => (h2.1 g is was).symm] at h; cases h
 ·rw [h, g]
set_option maxHeartbeats 32000000 in
theorem gtidy_spec (G : Glob) (hG : HasErr G) (ta tb : List UInt8) (is was : List (List UInt8)) : PureC Tryz.prog G 7 [dS ta, dS tb, .sl none (is.map fun s => [dS s]), .sl none (was.map fun s => [dS s])] (.v (.bool true)) := by
 by_cases h1 : 200 < ta.length
 ·have h1' : (200 : Int) < (ta.length : Int) := by omega
  refine PureC.of_body (tyOf_good _) Tryz.func7 rfl rfl (rs := [.tmp 8]) Tryz.results7 (by simp [Tryz.ntmps7]) fun X => ?_; simp only [Tryz.ntmps7, List.map]; refine rg [0, 1, 2, 3] [] (fun _ _ => trivial) fun K' hK' => ?_; (repeat (refine sxn fun K2 hK2 => ?_; simp [dNum]; (repeat (refine ⟨by omega, ?_⟩)); refine hK2 _ ?_; clear hK2 K2)); refine sxz (hK' _ (AW.st (by simp [dNum]; rfl) ?_)); clear hK' K'; refine AW_then fun K1 hK1 => ?_; refine rg [0, 1, 2, 3, 34] [] (fun _ _ => trivial) fun K' hK' => ?_; (repeat (refine sxn fun K2 hK2 => ?_; simp [dNum, bs_size, dS, h1, h1']; (repeat (refine ⟨by omega, ?_⟩)); refine hK2 _ ?_; clear hK2 K2)); refine sxz (hK' _ (AW.st (by simp [dNum, bs_size, dS, h1, h1']; rfl) ?_)); clear hK' K'; refine AW_tt rfl ?_; refine rg [8] [] (fun _ _ => trivial) fun K' hK' => ?_; (repeat (refine sxn fun K2 hK2 => ?_; simp [dNum]; (repeat (refine ⟨by omega, ?_⟩)); refine hK2 _ ?_; clear hK2 K2)); refine sxz (hK' _ (AW.st (by simp [dNum]; rfl) ?_)); clear hK' K'; refine AW_ret ?_; simp [D.le, D.le.go, takeMap, dNum]
 have h1' : ¬ (200 : Int) < (ta.length : Int) := by omega
 by_cases h2 : 200 < tb.length
 ·have h2' : (200 : Int) < (tb.length : Int) := by omega
  refine PureC.of_body (tyOf_good _) Tryz.func7 rfl rfl (rs := [.tmp 8]) Tryz.results7 (by simp [Tryz.ntmps7]) fun X => ?_; simp only [Tryz.ntmps7, List.map]; refine rg [0, 1, 2, 3] [] (fun _ _ => trivial) fun K' hK' => ?_; (repeat (refine sxn fun K2 hK2 => ?_; simp [dNum]; (repeat (refine ⟨by omega, ?_⟩)); refine hK2 _ ?_; clear hK2 K2)); refine sxz (hK' _ (AW.st (by simp [dNum]; rfl) ?_)); clear hK' K'; refine AW_then fun K1 hK1 => ?_; refine rg [0, 1, 2, 3, 34] [] (fun _ _ => trivial) fun K' hK' => ?_; (repeat (refine sxn fun K2 hK2 => ?_; simp [dNum, bs_size, dS, h1, h1', h2, h2']; (repeat (refine ⟨by omega, ?_⟩)); refine hK2 _ ?_; clear hK2 K2)); refine sxz (hK' _ (AW.st (by simp [dNum, bs_size, dS, h1, h1', h2, h2']; rfl) ?_)); clear hK' K'; refine AW_tt rfl ?_; refine rg [8] [] (fun _ _ => trivial) fun K' hK' => ?_; (repeat (refine sxn fun K2 hK2 => ?_; simp [dNum]; (repeat (refine ⟨by omega, ?_⟩)); refine hK2 _ ?_; clear hK2 K2)); refine sxz (hK' _ (AW.st (by simp [dNum]; rfl) ?_)); clear hK' K'; refine AW_ret ?_; simp [D.le, D.le.go, takeMap, dNum]
 have h2' : ¬ (200 : Int) < (tb.length : Int) := by omega
 by_cases h3 : 20 < is.length
 ·have h3' : (20 : Int) < (is.length : Int) := by omega
  refine PureC.of_body (tyOf_good _) Tryz.func7 rfl rfl (rs := [.tmp 8]) Tryz.results7 (by simp [Tryz.ntmps7]) fun X => ?_; simp only [Tryz.ntmps7, List.map]; refine rg [0, 1, 2, 3] [] (fun _ _ => trivial) fun K' hK' => ?_; (repeat (refine sxn fun K2 hK2 => ?_; simp [dNum]; (repeat (refine ⟨by omega, ?_⟩)); refine hK2 _ ?_; clear hK2 K2)); refine sxz (hK' _ (AW.st (by simp [dNum]; rfl) ?_)); clear hK' K'; refine AW_then fun K1 hK1 => ?_; refine rg [0, 1, 2, 3, 34] [] (fun _ _ => trivial) fun K' hK' => ?_; (repeat (refine sxn fun K2 hK2 => ?_; simp [dNum, bs_size, dS, h1, h1', h2, h2', h3, h3']; (repeat (refine ⟨by omega, ?_⟩)); refine hK2 _ ?_; clear hK2 K2)); refine sxz (hK' _ (AW.st (by simp [dNum, bs_size, dS, h1, h1', h2, h2', h3, h3']; rfl) ?_)); clear hK' K'; refine AW_tt rfl ?_; refine rg [8] [] (fun _ _ => trivial) fun K' hK' => ?_; (repeat (refine sxn fun K2 hK2 => ?_; simp [dNum]; (repeat (refine ⟨by omega, ?_⟩)); refine hK2 _ ?_; clear hK2 K2)); refine sxz (hK' _ (AW.st (by simp [dNum]; rfl) ?_)); clear hK' K'; refine AW_ret ?_; simp [D.le, D.le.go, takeMap, dNum]
 have h3' : ¬ (20 : Int) < (is.length : Int) := by omega
 by_cases h4 : 20 < was.length
 ·have h4' : (20 : Int) < (was.length : Int) := by omega
  refine PureC.of_body (tyOf_good _) Tryz.func7 rfl rfl (rs := [.tmp 8]) Tryz.results7 (by simp [Tryz.ntmps7]) fun X => ?_; simp only [Tryz.ntmps7, List.map]; refine rg [0, 1, 2, 3] [] (fun _ _ => trivial) fun K' hK' => ?_; (repeat (refine sxn fun K2 hK2 => ?_; simp [dNum]; (repeat (refine ⟨by omega, ?_⟩)); refine hK2 _ ?_; clear hK2 K2)); refine sxz (hK' _ (AW.st (by simp [dNum]; rfl) ?_)); clear hK' K'; refine AW_then fun K1 hK1 => ?_; refine rg [0, 1, 2, 3, 34] [] (fun _ _ => trivial) fun K' hK' => ?_; (repeat (refine sxn fun K2 hK2 => ?_; simp [dNum, bs_size, dS, h1, h1', h2, h2', h3, h3', h4, h4']; (repeat (refine ⟨by omega, ?_⟩)); refine hK2 _ ?_; clear hK2 K2)); refine sxz (hK' _ (AW.st (by simp [dNum, bs_size, dS, h1, h1', h2, h2', h3, h3', h4, h4']; rfl) ?_)); clear hK' K'; refine AW_tt rfl ?_; refine rg [8] [] (fun _ _ => trivial) fun K' hK' => ?_; (repeat (refine sxn fun K2 hK2 => ?_; simp [dNum]; (repeat (refine ⟨by omega, ?_⟩)); refine hK2 _ ?_; clear hK2 K2)); refine sxz (hK' _ (AW.st (by simp [dNum]; rfl) ?_)); clear hK' K'; refine AW_ret ?_; simp [D.le, D.le.go, takeMap, dNum]
 have h4' : ¬ (20 : Int) < (was.length : Int) := by omega
 have hgt := gated_spec G hG
 have hpa := parse_spec G ta (by omega)
 have hpb := parse_spec G tb (by omega)
 cases hma : parseM ta with
 | mk oxa oea =>
 rw [hma] at hpa
 cases hmb : parseM tb with
 | mk oxb oeb =>
 rw [hmb] at hpb
 have none_of : ∀ {t : List UInt8} {ox : Option Ex} {e : Int × Option Nat}, parseM t = (ox, some e) → ox = none := fun {t ox e} h => by
  have := parse_none (t := t) (e := e) (by rw [h])
  rw [h] at this; exact this
 have err_of : ∀ e : Int × Option Nat, ∃ te ce, dErr (some e) = .ifc te ce := fun e => by obtain ⟨c, p⟩ := e; cases p <;> exact ⟨_, _, rfl⟩
 cases oea with
 | some e =>
  obtain rfl := none_of hma
  obtain ⟨te, ce, hee⟩ := err_of e
  simp only [dOE] at hpa; rw [hee] at hpa
  cases oeb with
  | some e2 =>
   obtain rfl := none_of hmb
   obtain ⟨te2, ce2, hee2⟩ := err_of e2
   simp only [dOE] at hpb; rw [hee2] at hpb; refine PureC.of_body (tyOf_good _) Tryz.func7 rfl rfl (rs := [.tmp 8]) Tryz.results7 (by simp [Tryz.ntmps7]) fun X => ?_; simp only [Tryz.ntmps7, List.map]; refine rg [0, 1, 2, 3] [] (fun _ _ => trivial) fun K' hK' => ?_; (repeat (refine sxn fun K2 hK2 => ?_; simp [dNum]; (repeat (refine ⟨by omega, ?_⟩)); refine hK2 _ ?_; clear hK2 K2)); refine sxz (hK' _ (AW.st (by simp [dNum]; rfl) ?_)); clear hK' K'; refine AW_then fun K1 hK1 => ?_; refine rg [0, 1, 2, 3, 34] [] (fun _ _ => trivial) fun K' hK' => ?_; (repeat (refine sxn fun K2 hK2 => ?_; simp [dNum, bs_size, dS, h1, h1', h2, h2', h3, h3', h4, h4']; (repeat (refine ⟨by omega, ?_⟩)); refine hK2 _ ?_; clear hK2 K2)); refine sxz (hK' _ (AW.st (by simp [dNum, bs_size, dS, h1, h1', h2, h2', h3, h3', h4, h4']; rfl) ?_)); clear hK' K'; refine AW_ff rfl ?_; refine AW_skip (hK1 _ ?_); refine rg [1, 2, 3, 9, 10] [] (fun _ _ => trivial) fun K' hK' => ?_; (repeat (refine sxn fun K2 hK2 => ?_; simp [dNum]; (repeat (refine ⟨by omega, ?_⟩)); refine hK2 _ ?_; clear hK2 K2)); refine sxn fun K2 hK2 => ?_; simp [dNum]; refine callK.data (hpa) (by simp; rfl) (by first | exact D.leGo_refl _ | simp [takeMap, List.map_map, Function.comp_def, D.le, D.le.go, D.le_refl, D.leGo_refl, dNum]) ?_; refine hK2 _ ?_; clear hK2 K2; simp only [putd, upd_lst]; (repeat (refine sxn fun K2 hK2 => ?_; simp [dNum]; (repeat (refine ⟨by omega, ?_⟩)); refine hK2 _ ?_; clear hK2 K2)); refine sxz (hK' _ (AW.st (by simp [dNum]; rfl) ?_)); clear hK' K'; refine rg [2, 3, 9, 10, 11, 12] [] (fun _ _ => trivial) fun K' hK' => ?_; (repeat (refine sxn fun K2 hK2 => ?_; simp [dNum]; (repeat (refine ⟨by omega, ?_⟩)); refine hK2 _ ?_; clear hK2 K2)); refine sxn fun K2 hK2 => ?_; simp [dNum]; refine callK.data (hpb) (by simp; rfl) (by first | exact D.leGo_refl _ | simp [takeMap, List.map_map, Function.comp_def, D.le, D.le.go, D.le_refl, D.leGo_refl, dNum]) ?_; refine hK2 _ ?_; clear hK2 K2; simp only [putd, upd_lst]; (repeat (refine sxn fun K2 hK2 => ?_; simp [dNum]; (repeat (refine ⟨by omega, ?_⟩)); refine hK2 _ ?_; clear hK2 K2)); refine sxz (hK' _ (AW.st (by simp [dNum]; rfl) ?_)); clear hK' K'; refine AW_then fun K2 hK2 => ?_; refine rg [2, 3, 9, 11, 54] [] (fun _ _ => trivial) fun K' hK' => ?_; (repeat (refine sxn fun K2 hK2 => ?_; simp [dNum]; (repeat (refine ⟨by omega, ?_⟩)); refine hK2 _ ?_; clear hK2 K2)); refine sxn fun K2 hK2 => ?_; simp [dNum]; refine callK.data (hgt) (by simp; rfl) (by first | exact D.leGo_refl _ | simp [takeMap, List.map_map, Function.comp_def, D.le, D.le.go, D.le_refl, D.leGo_refl, dNum]) ?_; refine hK2 _ ?_; clear hK2 K2; simp only [putd, upd_lst]; (repeat (refine sxn fun K2 hK2 => ?_; simp [dNum]; (repeat (refine ⟨by omega, ?_⟩)); refine hK2 _ ?_; clear hK2 K2)); refine sxz (hK' _ (AW.st (by simp [dNum]; rfl) ?_)); clear hK' K'; refine AW_tt rfl ?_; refine rg [8] [] (fun _ _ => trivial) fun K' hK' => ?_; repeat (refine sxn fun K2 hK2 => ?_; simp [dNum]; (repeat (refine ⟨by omega, ?_⟩)); refine hK2 _ ?_; clear hK2 K2)
   refine sxn fun K2 hK2 => ?_; simp [dNum]; refine callK.data (hgt) (by simp; rfl) (by first | exact D.leGo_refl _ | simp [takeMap, List.map_map, Function.comp_def, D.le, D.le.go, D.le_refl, D.leGo_refl, dNum]) ?_; refine hK2 _ ?_; clear hK2 K2; simp only [putd, upd_lst]; (repeat (refine sxn fun K2 hK2 => ?_; simp [dNum]; (repeat (refine ⟨by omega, ?_⟩)); refine hK2 _ ?_; clear hK2 K2)); refine sxz (hK' _ (AW.st (by simp [dNum]; rfl) ?_)); clear hK' K'; refine AW_ret ?_; simp [D.le, D.le.go, takeMap, dNum]
  | none =>
   obtain ⟨y, hy⟩ := parse_some (t := tb) (by rw [hmb])
   rw [hmb] at hy
   dsimp only at hy
   subst hy
   obtain ⟨ty, cy, hcy⟩ := dE_ifc y
   simp only [dOE, dErr] at hpb; rw [hcy] at hpb; refine PureC.of_body (tyOf_good _) Tryz.func7 rfl rfl (rs := [.tmp 8]) Tryz.results7 (by simp [Tryz.ntmps7]) fun X => ?_; simp only [Tryz.ntmps7, List.map]; refine rg [0, 1, 2, 3] [] (fun _ _ => trivial) fun K' hK' => ?_; (repeat (refine sxn fun K2 hK2 => ?_; simp [dNum]; (repeat (refine ⟨by omega, ?_⟩)); refine hK2 _ ?_; clear hK2 K2)); refine sxz (hK' _ (AW.st (by simp [dNum]; rfl) ?_)); clear hK' K'; refine AW_then fun K1 hK1 => ?_; refine rg [0, 1, 2, 3, 34] [] (fun _ _ => trivial) fun K' hK' => ?_; (repeat (refine sxn fun K2 hK2 => ?_; simp [dNum, bs_size, dS, h1, h1', h2, h2', h3, h3', h4, h4']; (repeat (refine ⟨by omega, ?_⟩)); refine hK2 _ ?_; clear hK2 K2)); refine sxz (hK' _ (AW.st (by simp [dNum, bs_size, dS, h1, h1', h2, h2', h3, h3', h4, h4']; rfl) ?_)); clear hK' K'; refine AW_ff rfl ?_; refine AW_skip (hK1 _ ?_); refine rg [1, 2, 3, 9, 10] [] (fun _ _ => trivial) fun K' hK' => ?_; (repeat (refine sxn fun K2 hK2 => ?_; simp [dNum]; (repeat (refine ⟨by omega, ?_⟩)); refine hK2 _ ?_; clear hK2 K2)); refine sxn fun K2 hK2 => ?_; simp [dNum]; refine callK.data (hpa) (by simp; rfl) (by first | exact D.leGo_refl _ | simp [takeMap, List.map_map, Function.comp_def, D.le, D.le.go, D.le_refl, D.leGo_refl, dNum]) ?_; refine hK2 _ ?_; clear hK2 K2; simp only [putd, upd_lst]; (repeat (refine sxn fun K2 hK2 => ?_; simp [dNum]; (repeat (refine ⟨by omega, ?_⟩)); refine hK2 _ ?_; clear hK2 K2)); refine sxz (hK' _ (AW.st (by simp [dNum]; rfl) ?_)); clear hK' K'; refine rg [2, 3, 9, 10, 11, 12] [] (fun _ _ => trivial) fun K' hK' => ?_; (repeat (refine sxn fun K2 hK2 => ?_; simp [dNum]; (repeat (refine ⟨by omega, ?_⟩)); refine hK2 _ ?_; clear hK2 K2)); refine sxn fun K2 hK2 => ?_; simp [dNum]; refine callK.data (hpb) (by simp; rfl) (by first | exact D.leGo_refl _ | simp [takeMap, List.map_map, Function.comp_def, D.le, D.le.go, D.le_refl, D.leGo_refl, dNum]) ?_; refine hK2 _ ?_; clear hK2 K2; simp only [putd, upd_lst]; (repeat (refine sxn fun K2 hK2 => ?_; simp [dNum]; (repeat (refine ⟨by omega, ?_⟩)); refine hK2 _ ?_; clear hK2 K2)); refine sxz (hK' _ (AW.st (by simp [dNum]; rfl) ?_)); clear hK' K'; refine AW_then fun K2 hK2 => ?_; refine rg [2, 3, 9, 11, 54] [] (fun _ _ => trivial) fun K' hK' => ?_; (repeat (refine sxn fun K2 hK2 => ?_; simp [dNum]; (repeat (refine ⟨by omega, ?_⟩)); refine hK2 _ ?_; clear hK2 K2)); refine sxn fun K2 hK2 => ?_; simp [dNum]; refine callK.data (hgt) (by simp; rfl) (by first | exact D.leGo_refl _ | simp [takeMap, List.map_map, Function.comp_def, D.le, D.le.go, D.le_refl, D.leGo_refl, dNum]) ?_; refine hK2 _ ?_; clear hK2 K2; simp only [putd, upd_lst]; (repeat (refine sxn fun K2 hK2 => ?_; simp [dNum]; (repeat (refine ⟨by omega, ?_⟩)); refine hK2 _ ?_; clear hK2 K2)); refine sxz (hK' _ (AW.st (by simp [dNum]; rfl) ?_)); clear hK' K'; refine AW_tt rfl ?_; refine rg [8] [] (fun _ _ => trivial) fun K' hK' => ?_; repeat (refine sxn fun K2 hK2 => ?_; simp [dNum]; (repeat (refine ⟨by omega, ?_⟩)); refine hK2 _ ?_; clear hK2 K2)
   refine sxn fun K2 hK2 => ?_; simp [dNum]; refine callK.data (hgt) (by simp; rfl) (by first | exact D.leGo_refl _ | simp [takeMap, List.map_map, Function.comp_def, D.le, D.le.go, D.le_refl, D.leGo_refl, dNum]) ?_; refine hK2 _ ?_; clear hK2 K2; simp only [putd, upd_lst]; (repeat (refine sxn fun K2 hK2 => ?_; simp [dNum]; (repeat (refine ⟨by omega, ?_⟩)); refine hK2 _ ?_; clear hK2 K2)); refine sxz (hK' _ (AW.st (by simp [dNum]; rfl) ?_)); clear hK' K'; refine AW_ret ?_; simp [D.le, D.le.go, takeMap, dNum]
 | none =>
  obtain ⟨x, hx⟩ := parse_some (t := ta) (by rw [hma])
  have hba := parse_b hx
  obtain ⟨hwa, _⟩ := parse_wf hx
  rw [hma] at hx
  dsimp only at hx
  subst hx; simp only [dOE, dErr] at hpa
  obtain ⟨tx, cx, hcx⟩ := dE_ifc x
  cases oeb with
  | some e2 =>
   obtain rfl := none_of hmb
   obtain ⟨te2, ce2, hee2⟩ := err_of e2
   simp only [dOE] at hpb; rw [hee2] at hpb; rw [hcx] at hpa; refine PureC.of_body (tyOf_good _) Tryz.func7 rfl rfl (rs := [.tmp 8]) Tryz.results7 (by simp [Tryz.ntmps7]) fun X => ?_; simp only [Tryz.ntmps7, List.map]; refine rg [0, 1, 2, 3] [] (fun _ _ => trivial) fun K' hK' => ?_; (repeat (refine sxn fun K2 hK2 => ?_; simp [dNum]; (repeat (refine ⟨by omega, ?_⟩)); refine hK2 _ ?_; clear hK2 K2)); refine sxz (hK' _ (AW.st (by simp [dNum]; rfl) ?_)); clear hK' K'; refine AW_then fun K1 hK1 => ?_; refine rg [0, 1, 2, 3, 34] [] (fun _ _ => trivial) fun K' hK' => ?_; (repeat (refine sxn fun K2 hK2 => ?_; simp [dNum, bs_size, dS, h1, h1', h2, h2', h3, h3', h4, h4']; (repeat (refine ⟨by omega, ?_⟩)); refine hK2 _ ?_; clear hK2 K2)); refine sxz (hK' _ (AW.st (by simp [dNum, bs_size, dS, h1, h1', h2, h2', h3, h3', h4, h4']; rfl) ?_)); clear hK' K'; refine AW_ff rfl ?_; refine AW_skip (hK1 _ ?_); refine rg [1, 2, 3, 9, 10] [] (fun _ _ => trivial) fun K' hK' => ?_; (repeat (refine sxn fun K2 hK2 => ?_; simp [dNum]; (repeat (refine ⟨by omega, ?_⟩)); refine hK2 _ ?_; clear hK2 K2)); refine sxn fun K2 hK2 => ?_; simp [dNum]; refine callK.data (hpa) (by simp; rfl) (by first | exact D.leGo_refl _ | simp [takeMap, List.map_map, Function.comp_def, D.le, D.le.go, D.le_refl, D.leGo_refl, dNum]) ?_; refine hK2 _ ?_; clear hK2 K2; simp only [putd, upd_lst]; (repeat (refine sxn fun K2 hK2 => ?_; simp [dNum]; (repeat (refine ⟨by omega, ?_⟩)); refine hK2 _ ?_; clear hK2 K2)); refine sxz (hK' _ (AW.st (by simp [dNum]; rfl) ?_)); clear hK' K'; refine rg [2, 3, 9, 10, 11, 12] [] (fun _ _ => trivial) fun K' hK' => ?_; (repeat (refine sxn fun K2 hK2 => ?_; simp [dNum]; (repeat (refine ⟨by omega, ?_⟩)); refine hK2 _ ?_; clear hK2 K2)); refine sxn fun K2 hK2 => ?_; simp [dNum]; refine callK.data (hpb) (by simp; rfl) (by first | exact D.leGo_refl _ | simp [takeMap, List.map_map, Function.comp_def, D.le, D.le.go, D.le_refl, D.leGo_refl, dNum]) ?_; refine hK2 _ ?_; clear hK2 K2; simp only [putd, upd_lst]; (repeat (refine sxn fun K2 hK2 => ?_; simp [dNum]; (repeat (refine ⟨by omega, ?_⟩)); refine hK2 _ ?_; clear hK2 K2)); refine sxz (hK' _ (AW.st (by simp [dNum]; rfl) ?_)); clear hK' K'; refine AW_then fun K2 hK2 => ?_; refine rg [2, 3, 9, 11, 54] [] (fun _ _ => trivial) fun K' hK' => ?_; (repeat (refine sxn fun K2 hK2 => ?_; simp [dNum]; (repeat (refine ⟨by omega, ?_⟩)); refine hK2 _ ?_; clear hK2 K2)); refine sxn fun K2 hK2 => ?_; simp [dNum]; refine callK.data (hgt) (by simp; rfl) (by first | exact D.leGo_refl _ | simp [takeMap, List.map_map, Function.comp_def, D.le, D.le.go, D.le_refl, D.leGo_refl, dNum]) ?_; refine hK2 _ ?_; clear hK2 K2; simp only [putd, upd_lst]; (repeat (refine sxn fun K2 hK2 => ?_; simp [dNum]; (repeat (refine ⟨by omega, ?_⟩)); refine hK2 _ ?_; clear hK2 K2)); refine sxz (hK' _ (AW.st (by simp [dNum]; rfl) ?_)); clear hK' K'; refine AW_tt rfl ?_; refine rg [8] [] (fun _ _ => trivial) fun K' hK' => ?_; repeat (refine sxn fun K2 hK2 => ?_; simp [dNum]; (repeat (refine ⟨by omega, ?_⟩)); refine hK2 _ ?_; clear hK2 K2)
   refine sxn fun K2 hK2 => ?_; simp [dNum]; refine callK.data (hgt) (by simp; rfl) (by first | exact D.leGo_refl _ | simp [takeMap, List.map_map, Function.comp_def, D.le, D.le.go, D.le_refl, D.leGo_refl, dNum]) ?_; refine hK2 _ ?_; clear hK2 K2; simp only [putd, upd_lst]; (repeat (refine sxn fun K2 hK2 => ?_; simp [dNum]; (repeat (refine ⟨by omega, ?_⟩)); refine hK2 _ ?_; clear hK2 K2)); refine sxz (hK' _ (AW.st (by simp [dNum]; rfl) ?_)); clear hK' K'; refine AW_ret ?_; simp [D.le, D.le.go, takeMap, dNum]
  | none =>
   obtain ⟨y, hy⟩ := parse_some (t := tb) (by rw [hmb])
   have hbb := parse_b hy
   obtain ⟨hwb, _⟩ := parse_wf hy
   rw [hmb] at hy
   dsimp only at hy
   subst hy; simp only [dOE, dErr] at hpb
   obtain ⟨ty, cy, hcy⟩ := dE_ifc y
   have n1 := namesE_spec G x (by omega)
   have e1 := edgesE_spec G x (by omega)
   have n2 := namesE_spec G y (by omega)
   have e2 := edgesE_spec G y (by omega)
   have z1 := size_spec G x (by omega)
   have z2 := size_spec G y (by omega)
   have sb1 := size_b x
   have sb2 := size_b y
   have zn1 := names_sz true x
   have zn2 := names_sz true y
   have zn3 := names_sz false x
   have zn4 := names_sz false y
   by_cases g6 : 6 < (namesE true x).length + (namesE false x).length + (namesE true y).length + (namesE false y).length
   ·have g6' : (6 : Int) < ((namesE true x).length : Int) + ((namesE false x).length : Int) + ((namesE true y).length : Int) + ((namesE false y).length : Int) := by omega
    rw [hcx] at hpa n1 e1 z1; rw [hcy] at hpb n2 e2 z2; generalize namesE true x = a1 at *; generalize namesE false x = a2 at *; generalize namesE true y = a3 at *; generalize namesE false y = a4 at *; refine PureC.of_body (tyOf_good _) Tryz.func7 rfl rfl (rs := [.tmp 8]) Tryz.results7 (by simp [Tryz.ntmps7]) fun X => ?_; simp only [Tryz.ntmps7, List.map]; refine rg [0, 1, 2, 3] [] (fun _ _ => trivial) fun K' hK' => ?_; (repeat (refine sxn fun K2 hK2 => ?_; simp [dNum]; (repeat (refine ⟨by omega, ?_⟩)); refine hK2 _ ?_; clear hK2 K2)); refine sxz (hK' _ (AW.st (by simp [dNum]; rfl) ?_)); clear hK' K'; refine AW_then fun K1 hK1 => ?_; refine rg [0, 1, 2, 3, 34] [] (fun _ _ => trivial) fun K' hK' => ?_; (repeat (refine sxn fun K2 hK2 => ?_; simp [dNum, bs_size, dS, h1, h1', h2, h2', h3, h3', h4, h4']; (repeat (refine ⟨by omega, ?_⟩)); refine hK2 _ ?_; clear hK2 K2)); refine sxz (hK' _ (AW.st (by simp [dNum, bs_size, dS, h1, h1', h2, h2', h3, h3', h4, h4']; rfl) ?_)); clear hK' K'; refine AW_ff rfl ?_; refine AW_skip (hK1 _ ?_); refine rg [1, 2, 3, 9, 10] [] (fun _ _ => trivial) fun K' hK' => ?_; (repeat (refine sxn fun K2 hK2 => ?_; simp [dNum]; (repeat (refine ⟨by omega, ?_⟩)); refine hK2 _ ?_; clear hK2 K2)); refine sxn fun K2 hK2 => ?_; simp [dNum]; refine callK.data (hpa) (by simp; rfl) (by first | exact D.leGo_refl _ | simp [takeMap, List.map_map, Function.comp_def, D.le, D.le.go, D.le_refl, D.leGo_refl, dNum]) ?_; refine hK2 _ ?_; clear hK2 K2; simp only [putd, upd_lst]; (repeat (refine sxn fun K2 hK2 => ?_; simp [dNum]; (repeat (refine ⟨by omega, ?_⟩)); refine hK2 _ ?_; clear hK2 K2)); refine sxz (hK' _ (AW.st (by simp [dNum]; rfl) ?_)); clear hK' K'; refine rg [2, 3, 9, 10, 11, 12] [] (fun _ _ => trivial) fun K' hK' => ?_; (repeat (refine sxn fun K2 hK2 => ?_; simp [dNum]; (repeat (refine ⟨by omega, ?_⟩)); refine hK2 _ ?_; clear hK2 K2)); refine sxn fun K2 hK2 => ?_; simp [dNum]; refine callK.data (hpb) (by simp; rfl) (by first | exact D.leGo_refl _ | simp [takeMap, List.map_map, Function.comp_def, D.le, D.le.go, D.le_refl, D.leGo_refl, dNum]) ?_; refine hK2 _ ?_; clear hK2 K2; simp only [putd, upd_lst]; (repeat (refine sxn fun K2 hK2 => ?_; simp [dNum]; (repeat (refine ⟨by omega, ?_⟩)); refine hK2 _ ?_; clear hK2 K2)); refine sxz (hK' _ (AW.st (by simp [dNum]; rfl) ?_)); clear hK' K'; refine AW_then fun K2 hK2 => ?_; refine rg [2, 3, 9, 11, 54] [] (fun _ _ => trivial) fun K' hK' => ?_; (repeat (refine sxn fun K2 hK2 => ?_; simp [dNum]; (repeat (refine ⟨by omega, ?_⟩)); refine hK2 _ ?_; clear hK2 K2)); refine sxn fun K2 hK2 => ?_; simp [dNum]; refine callK.data (hgt) (by simp; rfl) (by first | exact D.leGo_refl _ | simp [takeMap, List.map_map, Function.comp_def, D.le, D.le.go, D.le_refl, D.leGo_refl, dNum]) ?_; refine hK2 _ ?_; clear hK2 K2; simp only [putd, upd_lst]; (repeat (refine sxn fun K2 hK2 => ?_; simp [dNum]; (repeat (refine ⟨by omega, ?_⟩)); refine hK2 _ ?_; clear hK2 K2)); refine sxz (hK' _ (AW.st (by simp [dNum]; rfl) ?_)); clear hK' K'
    refine AW_ff rfl ?_; refine AW_skip (hK2 _ ?_); refine AW_then fun K3 hK3 => ?_; refine rg [2, 3, 9, 11, 84] [] (fun _ _ => trivial) fun K' hK' => ?_; (repeat (refine sxn fun K2 hK2 => ?_; simp [dNum, g6']; (repeat (refine ⟨by omega, ?_⟩)); refine hK2 _ ?_; clear hK2 K2)); refine sxn fun K2 hK2 => ?_; simp [dNum, g6']; refine callK.data (n1) (by simp; rfl) (by first | exact D.leGo_refl _ | simp [takeMap, List.map_map, Function.comp_def, D.le, D.le.go, D.le_refl, D.leGo_refl, dNum, g6']) ?_; refine hK2 _ ?_; clear hK2 K2; simp only [putd, upd_lst]; (repeat (refine sxn fun K2 hK2 => ?_; simp [dNum, g6']; (repeat (refine ⟨by omega, ?_⟩)); refine hK2 _ ?_; clear hK2 K2)); refine sxn fun K2 hK2 => ?_; simp [dNum, g6']; refine callK.data (e1) (by simp; rfl) (by first | exact D.leGo_refl _ | simp [takeMap, List.map_map, Function.comp_def, D.le, D.le.go, D.le_refl, D.leGo_refl, dNum, g6']) ?_; refine hK2 _ ?_; clear hK2 K2; simp only [putd, upd_lst]; (repeat (refine sxn fun K2 hK2 => ?_; simp [dNum, g6']; (repeat (refine ⟨by omega, ?_⟩)); refine hK2 _ ?_; clear hK2 K2)); refine sxn fun K2 hK2 => ?_; simp [dNum, g6']; refine callK.data (n2) (by simp; rfl) (by first | exact D.leGo_refl _ | simp [takeMap, List.map_map, Function.comp_def, D.le, D.le.go, D.le_refl, D.leGo_refl, dNum, g6']) ?_; refine hK2 _ ?_; clear hK2 K2; simp only [putd, upd_lst]; (repeat (refine sxn fun K2 hK2 => ?_; simp [dNum, g6']; (repeat (refine ⟨by omega, ?_⟩)); refine hK2 _ ?_; clear hK2 K2)); refine sxn fun K2 hK2 => ?_; simp [dNum, g6']; refine callK.data (e2) (by simp; rfl) (by first | exact D.leGo_refl _ | simp [takeMap, List.map_map, Function.comp_def, D.le, D.le.go, D.le_refl, D.leGo_refl, dNum, g6']) ?_; refine hK2 _ ?_; clear hK2 K2; simp only [putd, upd_lst]; (repeat (refine sxn fun K2 hK2 => ?_; simp [dNum, g6']; (repeat (refine ⟨by omega, ?_⟩)); refine hK2 _ ?_; clear hK2 K2)); refine sxz (hK' _ (AW.st (by simp [dNum, g6']; rfl) ?_)); clear hK' K'; refine AW_cond true (by simp [g6']) (fun _ => ?_) (fun h => by cases h); refine rg [8] [] (fun _ _ => trivial) fun K' hK' => ?_; (repeat (refine sxn fun K2 hK2 => ?_; simp [dNum]; (repeat (refine ⟨by omega, ?_⟩)); refine hK2 _ ?_; clear hK2 K2)); refine sxz (hK' _ (AW.st (by simp [dNum]; rfl) ?_)); clear hK' K'; refine AW_ret ?_; simp [D.le, D.le.go, takeMap, dNum]
   have g6' : ¬ (6 : Int) < ((namesE true x).length : Int) + ((namesE false x).length : Int) + ((namesE true y).length : Int) + ((namesE false y).length : Int) := by omega
   by_cases g60 : 60 < szN x
   ·have g60' : (60 : Int) < (szN x : Int) := by omega
    rw [hcx] at hpa n1 e1 z1; rw [hcy] at hpb n2 e2 z2; generalize namesE true x = a1 at *; generalize namesE false x = a2 at *; generalize namesE true y = a3 at *; generalize namesE false y = a4 at *; refine PureC.of_body (tyOf_good _) Tryz.func7 rfl rfl (rs := [.tmp 8]) Tryz.results7 (by simp [Tryz.ntmps7]) fun X => ?_; simp only [Tryz.ntmps7, List.map]; refine rg [0, 1, 2, 3] [] (fun _ _ => trivial) fun K' hK' => ?_; (repeat (refine sxn fun K2 hK2 => ?_; simp [dNum]; (repeat (refine ⟨by omega, ?_⟩)); refine hK2 _ ?_; clear hK2 K2)); refine sxz (hK' _ (AW.st (by simp [dNum]; rfl) ?_)); clear hK' K'; refine AW_then fun K1 hK1 => ?_; refine rg [0, 1, 2, 3, 34] [] (fun _ _ => trivial) fun K' hK' => ?_; (repeat (refine sxn fun K2 hK2 => ?_; simp [dNum, bs_size, dS, h1, h1', h2, h2', h3, h3', h4, h4']; (repeat (refine ⟨by omega, ?_⟩)); refine hK2 _ ?_; clear hK2 K2)); refine sxz (hK' _ (AW.st (by simp [dNum, bs_size, dS, h1, h1', h2, h2', h3, h3', h4, h4']; rfl) ?_)); clear hK' K'; refine AW_ff rfl ?_; refine AW_skip (hK1 _ ?_); refine rg [1, 2, 3, 9, 10] [] (fun _ _ => trivial) fun K' hK' => ?_; (repeat (refine sxn fun K2 hK2 => ?_; simp [dNum]; (repeat (refine ⟨by omega, ?_⟩)); refine hK2 _ ?_; clear hK2 K2)); refine sxn fun K2 hK2 => ?_; simp [dNum]; refine callK.data (hpa) (by simp; rfl) (by first | exact D.leGo_refl _ | simp [takeMap, List.map_map, Function.comp_def, D.le, D.le.go, D.le_refl, D.leGo_refl, dNum]) ?_; refine hK2 _ ?_; clear hK2 K2; simp only [putd, upd_lst]; (repeat (refine sxn fun K2 hK2 => ?_; simp [dNum]; (repeat (refine ⟨by omega, ?_⟩)); refine hK2 _ ?_; clear hK2 K2)); refine sxz (hK' _ (AW.st (by simp [dNum]; rfl) ?_)); clear hK' K'; refine rg [2, 3, 9, 10, 11, 12] [] (fun _ _ => trivial) fun K' hK' => ?_; (repeat (refine sxn fun K2 hK2 => ?_; simp [dNum]; (repeat (refine ⟨by omega, ?_⟩)); refine hK2 _ ?_; clear hK2 K2)); refine sxn fun K2 hK2 => ?_; simp [dNum]; refine callK.data (hpb) (by simp; rfl) (by first | exact D.leGo_refl _ | simp [takeMap, List.map_map, Function.comp_def, D.le, D.le.go, D.le_refl, D.leGo_refl, dNum]) ?_; refine hK2 _ ?_; clear hK2 K2; simp only [putd, upd_lst]; (repeat (refine sxn fun K2 hK2 => ?_; simp [dNum]; (repeat (refine ⟨by omega, ?_⟩)); refine hK2 _ ?_; clear hK2 K2)); refine sxz (hK' _ (AW.st (by simp [dNum]; rfl) ?_)); clear hK' K'; refine AW_then fun K2 hK2 => ?_; refine rg [2, 3, 9, 11, 54] [] (fun _ _ => trivial) fun K' hK' => ?_; (repeat (refine sxn fun K2 hK2 => ?_; simp [dNum]; (repeat (refine ⟨by omega, ?_⟩)); refine hK2 _ ?_; clear hK2 K2)); refine sxn fun K2 hK2 => ?_; simp [dNum]; refine callK.data (hgt) (by simp; rfl) (by first | exact D.leGo_refl _ | simp [takeMap, List.map_map, Function.comp_def, D.le, D.le.go, D.le_refl, D.leGo_refl, dNum]) ?_; refine hK2 _ ?_; clear hK2 K2; simp only [putd, upd_lst]; (repeat (refine sxn fun K2 hK2 => ?_; simp [dNum]; (repeat (refine ⟨by omega, ?_⟩)); refine hK2 _ ?_; clear hK2 K2)); refine sxz (hK' _ (AW.st (by simp [dNum]; rfl) ?_)); clear hK' K'
    refine AW_ff rfl ?_; refine AW_skip (hK2 _ ?_); refine AW_then fun K3 hK3 => ?_; refine rg [2, 3, 9, 11, 84] [] (fun _ _ => trivial) fun K' hK' => ?_; (repeat (refine sxn fun K2 hK2 => ?_; simp [dNum, g6', g60']; (repeat (refine ⟨by omega, ?_⟩)); refine hK2 _ ?_; clear hK2 K2)); refine sxn fun K2 hK2 => ?_; simp [dNum, g6', g60']; refine callK.data (n1) (by simp; rfl) (by first | exact D.leGo_refl _ | simp [takeMap, List.map_map, Function.comp_def, D.le, D.le.go, D.le_refl, D.leGo_refl, dNum, g6', g60']) ?_; refine hK2 _ ?_; clear hK2 K2; simp only [putd, upd_lst]; (repeat (refine sxn fun K2 hK2 => ?_; simp [dNum, g6', g60']; (repeat (refine ⟨by omega, ?_⟩)); refine hK2 _ ?_; clear hK2 K2)); refine sxn fun K2 hK2 => ?_; simp [dNum, g6', g60']; refine callK.data (e1) (by simp; rfl) (by first | exact D.leGo_refl _ | simp [takeMap, List.map_map, Function.comp_def, D.le, D.le.go, D.le_refl, D.leGo_refl, dNum, g6', g60']) ?_; refine hK2 _ ?_; clear hK2 K2; simp only [putd, upd_lst]; (repeat (refine sxn fun K2 hK2 => ?_; simp [dNum, g6', g60']; (repeat (refine ⟨by omega, ?_⟩)); refine hK2 _ ?_; clear hK2 K2)); refine sxn fun K2 hK2 => ?_; simp [dNum, g6', g60']; refine callK.data (n2) (by simp; rfl) (by first | exact D.leGo_refl _ | simp [takeMap, List.map_map, Function.comp_def, D.le, D.le.go, D.le_refl, D.leGo_refl, dNum, g6', g60']) ?_; refine hK2 _ ?_; clear hK2 K2; simp only [putd, upd_lst]; (repeat (refine sxn fun K2 hK2 => ?_; simp [dNum, g6', g60']; (repeat (refine ⟨by omega, ?_⟩)); refine hK2 _ ?_; clear hK2 K2)); refine sxn fun K2 hK2 => ?_; simp [dNum, g6', g60']; refine callK.data (e2) (by simp; rfl) (by first | exact D.leGo_refl _ | simp [takeMap, List.map_map, Function.comp_def, D.le, D.le.go, D.le_refl, D.leGo_refl, dNum, g6', g60']) ?_; refine hK2 _ ?_; clear hK2 K2; simp only [putd, upd_lst]; (repeat (refine sxn fun K2 hK2 => ?_; simp [dNum, g6', g60']; (repeat (refine ⟨by omega, ?_⟩)); refine hK2 _ ?_; clear hK2 K2)); refine sxn fun K2 hK2 => ?_; simp [dNum, g6', g60']; refine callK.data (z1) (by simp; rfl) (by first | exact D.leGo_refl _ | simp [takeMap, List.map_map, Function.comp_def, D.le, D.le.go, D.le_refl, D.leGo_refl, dNum, g6', g60']) ?_; refine hK2 _ ?_; clear hK2 K2; simp only [putd, upd_lst]; (repeat (refine sxn fun K2 hK2 => ?_; simp [dNum, g6', g60']; (repeat (refine ⟨by omega, ?_⟩)); refine hK2 _ ?_; clear hK2 K2)); refine sxz (hK' _ (AW.st (by simp [dNum, g6', g60']; rfl) ?_)); clear hK' K'; refine AW_cond true (by simp [g60', g60]) (fun _ => ?_) (fun h => by cases h); refine rg [8] [] (fun _ _ => trivial) fun K' hK' => ?_; (repeat (refine sxn fun K2 hK2 => ?_; simp [dNum]; (repeat (refine ⟨by omega, ?_⟩)); refine hK2 _ ?_; clear hK2 K2)); refine sxz (hK' _ (AW.st (by simp [dNum]; rfl) ?_)); clear hK' K'; refine AW_ret ?_; simp [D.le, D.le.go, takeMap, dNum]
   have g60' : ¬ (60 : Int) < (szN x : Int) := by omega
   by_cases g80 : 80 < szN x + szN y
   ·have g80' : (80 : Int) < (szN x : Int) + (szN y : Int) := by omega
    rw [hcx] at hpa n1 e1 z1; rw [hcy] at hpb n2 e2 z2; generalize namesE true x = a1 at *; generalize namesE false x = a2 at *; generalize namesE true y = a3 at *; generalize namesE false y = a4 at *; refine PureC.of_body (tyOf_good _) Tryz.func7 rfl rfl (rs := [.tmp 8]) Tryz.results7 (by simp [Tryz.ntmps7]) fun X => ?_; simp only [Tryz.ntmps7, List.map]; refine rg [0, 1, 2, 3] [] (fun _ _ => trivial) fun K' hK' => ?_; (repeat (refine sxn fun K2 hK2 => ?_; simp [dNum]; (repeat (refine ⟨by omega, ?_⟩)); refine hK2 _ ?_; clear hK2 K2)); refine sxz (hK' _ (AW.st (by simp [dNum]; rfl) ?_)); clear hK' K'; refine AW_then fun K1 hK1 => ?_; refine rg [0, 1, 2, 3, 34] [] (fun _ _ => trivial) fun K' hK' => ?_; (repeat (refine sxn fun K2 hK2 => ?_; simp [dNum, bs_size, dS, h1, h1', h2, h2', h3, h3', h4, h4']; (repeat (refine ⟨by omega, ?_⟩)); refine hK2 _ ?_; clear hK2 K2)); refine sxz (hK' _ (AW.st (by simp [dNum, bs_size, dS, h1, h1', h2, h2', h3, h3', h4, h4']; rfl) ?_)); clear hK' K'; refine AW_ff rfl ?_; refine AW_skip (hK1 _ ?_); refine rg [1, 2, 3, 9, 10] [] (fun _ _ => trivial) fun K' hK' => ?_; (repeat (refine sxn fun K2 hK2 => ?_; simp [dNum]; (repeat (refine ⟨by omega, ?_⟩)); refine hK2 _ ?_; clear hK2 K2)); refine sxn fun K2 hK2 => ?_; simp [dNum]; refine callK.data (hpa) (by simp; rfl) (by first | exact D.leGo_refl _ | simp [takeMap, List.map_map, Function.comp_def, D.le, D.le.go, D.le_refl, D.leGo_refl, dNum]) ?_; refine hK2 _ ?_; clear hK2 K2; simp only [putd, upd_lst]; (repeat (refine sxn fun K2 hK2 => ?_; simp [dNum]; (repeat (refine ⟨by omega, ?_⟩)); refine hK2 _ ?_; clear hK2 K2)); refine sxz (hK' _ (AW.st (by simp [dNum]; rfl) ?_)); clear hK' K'; refine rg [2, 3, 9, 10, 11, 12] [] (fun _ _ => trivial) fun K' hK' => ?_; (repeat (refine sxn fun K2 hK2 => ?_; simp [dNum]; (repeat (refine ⟨by omega, ?_⟩)); refine hK2 _ ?_; clear hK2 K2)); refine sxn fun K2 hK2 => ?_; simp [dNum]; refine callK.data (hpb) (by simp; rfl) (by first | exact D.leGo_refl _ | simp [takeMap, List.map_map, Function.comp_def, D.le, D.le.go, D.le_refl, D.leGo_refl, dNum]) ?_; refine hK2 _ ?_; clear hK2 K2; simp only [putd, upd_lst]; (repeat (refine sxn fun K2 hK2 => ?_; simp [dNum]; (repeat (refine ⟨by omega, ?_⟩)); refine hK2 _ ?_; clear hK2 K2)); refine sxz (hK' _ (AW.st (by simp [dNum]; rfl) ?_)); clear hK' K'; refine AW_then fun K2 hK2 => ?_; refine rg [2, 3, 9, 11, 54] [] (fun _ _ => trivial) fun K' hK' => ?_; (repeat (refine sxn fun K2 hK2 => ?_; simp [dNum]; (repeat (refine ⟨by omega, ?_⟩)); refine hK2 _ ?_; clear hK2 K2)); refine sxn fun K2 hK2 => ?_; simp [dNum]; refine callK.data (hgt) (by simp; rfl) (by first | exact D.leGo_refl _ | simp [takeMap, List.map_map, Function.comp_def, D.le, D.le.go, D.le_refl, D.leGo_refl, dNum]) ?_; refine hK2 _ ?_; clear hK2 K2; simp only [putd, upd_lst]; (repeat (refine sxn fun K2 hK2 => ?_; simp [dNum]; (repeat (refine ⟨by omega, ?_⟩)); refine hK2 _ ?_; clear hK2 K2)); refine sxz (hK' _ (AW.st (by simp [dNum]; rfl) ?_)); clear hK' K'
    refine AW_ff rfl ?_; refine AW_skip (hK2 _ ?_); refine AW_then fun K3 hK3 => ?_; refine rg [2, 3, 9, 11, 84] [] (fun _ _ => trivial) fun K' hK' => ?_; (repeat (refine sxn fun K2 hK2 => ?_; simp [dNum, g6', g60', g80']; (repeat (refine ⟨by omega, ?_⟩)); refine hK2 _ ?_; clear hK2 K2)); refine sxn fun K2 hK2 => ?_; simp [dNum, g6', g60', g80']; refine callK.data (n1) (by simp; rfl) (by first | exact D.leGo_refl _ | simp [takeMap, List.map_map, Function.comp_def, D.le, D.le.go, D.le_refl, D.leGo_refl, dNum, g6', g60', g80']) ?_; refine hK2 _ ?_; clear hK2 K2; simp only [putd, upd_lst]; (repeat (refine sxn fun K2 hK2 => ?_; simp [dNum, g6', g60', g80']; (repeat (refine ⟨by omega, ?_⟩)); refine hK2 _ ?_; clear hK2 K2)); refine sxn fun K2 hK2 => ?_; simp [dNum, g6', g60', g80']; refine callK.data (e1) (by simp; rfl) (by first | exact D.leGo_refl _ | simp [takeMap, List.map_map, Function.comp_def, D.le, D.le.go, D.le_refl, D.leGo_refl, dNum, g6', g60', g80']) ?_; refine hK2 _ ?_; clear hK2 K2; simp only [putd, upd_lst]; (repeat (refine sxn fun K2 hK2 => ?_; simp [dNum, g6', g60', g80']; (repeat (refine ⟨by omega, ?_⟩)); refine hK2 _ ?_; clear hK2 K2)); refine sxn fun K2 hK2 => ?_; simp [dNum, g6', g60', g80']; refine callK.data (n2) (by simp; rfl) (by first | exact D.leGo_refl _ | simp [takeMap, List.map_map, Function.comp_def, D.le, D.le.go, D.le_refl, D.leGo_refl, dNum, g6', g60', g80']) ?_; refine hK2 _ ?_; clear hK2 K2; simp only [putd, upd_lst]; (repeat (refine sxn fun K2 hK2 => ?_; simp [dNum, g6', g60', g80']; (repeat (refine ⟨by omega, ?_⟩)); refine hK2 _ ?_; clear hK2 K2)); refine sxn fun K2 hK2 => ?_; simp [dNum, g6', g60', g80']; refine callK.data (e2) (by simp; rfl) (by first | exact D.leGo_refl _ | simp [takeMap, List.map_map, Function.comp_def, D.le, D.le.go, D.le_refl, D.leGo_refl, dNum, g6', g60', g80']) ?_; refine hK2 _ ?_; clear hK2 K2; simp only [putd, upd_lst]; (repeat (refine sxn fun K2 hK2 => ?_; simp [dNum, g6', g60', g80']; (repeat (refine ⟨by omega, ?_⟩)); refine hK2 _ ?_; clear hK2 K2)); refine sxn fun K2 hK2 => ?_; simp [dNum, g6', g60', g80']; refine callK.data (z1) (by simp; rfl) (by first | exact D.leGo_refl _ | simp [takeMap, List.map_map, Function.comp_def, D.le, D.le.go, D.le_refl, D.leGo_refl, dNum, g6', g60', g80']) ?_; refine hK2 _ ?_; clear hK2 K2; simp only [putd, upd_lst]; (repeat (refine sxn fun K2 hK2 => ?_; simp [dNum, g6', g60', g80']; (repeat (refine ⟨by omega, ?_⟩)); refine hK2 _ ?_; clear hK2 K2)); refine sxn fun K2 hK2 => ?_; simp [dNum, g6', g60', g80']; refine callK.data (z1) (by simp; rfl) (by first | exact D.leGo_refl _ | simp [takeMap, List.map_map, Function.comp_def, D.le, D.le.go, D.le_refl, D.leGo_refl, dNum, g6', g60', g80']) ?_; refine hK2 _ ?_; clear hK2 K2; simp only [putd, upd_lst]; (repeat (refine sxn fun K2 hK2 => ?_; simp [dNum, g6', g60', g80']; (repeat (refine ⟨by omega, ?_⟩)); refine hK2 _ ?_; clear hK2 K2)); refine sxn fun K2 hK2 => ?_; simp [dNum, g6', g60', g80']; refine callK.data (z2) (by simp; rfl) (by first | exact D.leGo_refl _ | simp [takeMap, List.map_map, Function.comp_def, D.le, D.le.go, D.le_refl, D.leGo_refl, dNum, g6', g60', g80']) ?_
    refine hK2 _ ?_; clear hK2 K2; simp only [putd, upd_lst]; (repeat (refine sxn fun K2 hK2 => ?_; simp [dNum, g6', g60', g80']; (repeat (refine ⟨by omega, ?_⟩)); refine hK2 _ ?_; clear hK2 K2)); refine sxz (hK' _ (AW.st (by simp [dNum, g6', g60', g80']; rfl) ?_)); clear hK' K'; refine AW_cond true (by simp [g80']) (fun _ => ?_) (fun h => by cases h); refine rg [8] [] (fun _ _ => trivial) fun K' hK' => ?_; (repeat (refine sxn fun K2 hK2 => ?_; simp [dNum]; (repeat (refine ⟨by omega, ?_⟩)); refine hK2 _ ?_; clear hK2 K2)); refine sxz (hK' _ (AW.st (by simp [dNum]; rfl) ?_)); clear hK' K'; refine AW_ret ?_; simp [D.le, D.le.go, takeMap, dNum]
   have g80' : ¬ (80 : Int) < (szN x : Int) + (szN y : Int) := by omega
   have d1 := difE_len true x y
   have d2 := difE_len false x y
   have d3 := difE_len true y x
   have d4 := difE_len false y x
   have d5 := dif_tid_len true x
   have d6 := dif_tid_len false x
   obtain ⟨tdy, tev, tsz⟩ := tid_law (fun s => is.any fun x => x == s) (fun s => was.any fun x => x == s) _ x (Nat.le_refl _) hwa
   have twf := tdy_wf _ tdy
   have htb := tidy_b x
   have htd := tidy_spec G x (by omega)
   have hs1 := same_spec G hG x (tidE x) hwa twf (by omega) (by omega) (by omega) (by omega)
   have hs2 := same_spec G hG x y hwa hwb (by omega) (by omega) (by omega) (by omega)
   have hs3 := same_spec G hG y x hwb hwa (by omega) (by omega) (by omega) (by omega)
   rw [(sameE_iff hwa twf).2 fun i w => ((tid_law i w _ x (Nat.le_refl _) hwa).2.1).symm] at hs1; rw [sameE_comm hwb hwa] at hs3
   have hsev : sameE x y = true → evE (fun s => is.any fun x => x == s) (fun s => was.any fun x => x == s) x = evE (fun s => is.any fun x => x == s) (fun s => was.any fun x => x == s) y := fun h => (sameE_iff hwa hwb).1 h _ _
   have hv1 := tells2 G is was (by omega) (by omega) x (by omega)
   have hv2 := tells2 G is was (by omega) (by omega) y (by omega)
   have ha1 := among_spec G none is
   have ha2 := among_spec G none was
   clear tdy tev twf htb tsz
   obtain ⟨tt, ct, hct⟩ := dE_ifc (tidE x)
   rw [hct] at htd hs1; rw [hcx] at hpa n1 e1 z1 htd hs1 hs2 hs3 hv1; rw [hcy] at hpb n2 e2 z2 hs2 hs3 hv2; generalize namesE true x = a1 at *; generalize namesE false x = a2 at *; generalize namesE true y = a3 at *; generalize namesE false y = a4 at *; generalize evE (fun s => is.any fun x => x == s) (fun s => was.any fun x => x == s) x = v1 at *; generalize evE (fun s => is.any fun x => x == s) (fun s => was.any fun x => x == s) y = v2 at *
   cases hse : sameE x y with
   | false =>
    rw [hse] at hs2 hs3; refine PureC.of_body (tyOf_good _) Tryz.func7 rfl rfl (rs := [.tmp 8]) Tryz.results7 (by simp [Tryz.ntmps7]) fun X => ?_; simp only [Tryz.ntmps7, List.map]; refine rg [0, 1, 2, 3] [] (fun _ _ => trivial) fun K' hK' => ?_; (repeat (refine sxn fun K2 hK2 => ?_; simp [dNum]; (repeat (refine ⟨by omega, ?_⟩)); refine hK2 _ ?_; clear hK2 K2)); refine sxz (hK' _ (AW.st (by simp [dNum]; rfl) ?_)); clear hK' K'; refine AW_then fun K1 hK1 => ?_; refine rg [0, 1, 2, 3, 34] [] (fun _ _ => trivial) fun K' hK' => ?_; (repeat (refine sxn fun K2 hK2 => ?_; simp [dNum, bs_size, dS, h1, h1', h2, h2', h3, h3', h4, h4']; (repeat (refine ⟨by omega, ?_⟩)); refine hK2 _ ?_; clear hK2 K2)); refine sxz (hK' _ (AW.st (by simp [dNum, bs_size, dS, h1, h1', h2, h2', h3, h3', h4, h4']; rfl) ?_)); clear hK' K'; refine AW_ff rfl ?_; refine AW_skip (hK1 _ ?_); refine rg [1, 2, 3, 9, 10] [] (fun _ _ => trivial) fun K' hK' => ?_; (repeat (refine sxn fun K2 hK2 => ?_; simp [dNum]; (repeat (refine ⟨by omega, ?_⟩)); refine hK2 _ ?_; clear hK2 K2)); refine sxn fun K2 hK2 => ?_; simp [dNum]; refine callK.data (hpa) (by simp; rfl) (by first | exact D.leGo_refl _ | simp [takeMap, List.map_map, Function.comp_def, D.le, D.le.go, D.le_refl, D.leGo_refl, dNum]) ?_; refine hK2 _ ?_; clear hK2 K2; simp only [putd, upd_lst]; (repeat (refine sxn fun K2 hK2 => ?_; simp [dNum]; (repeat (refine ⟨by omega, ?_⟩)); refine hK2 _ ?_; clear hK2 K2)); refine sxz (hK' _ (AW.st (by simp [dNum]; rfl) ?_)); clear hK' K'; refine rg [2, 3, 9, 10, 11, 12] [] (fun _ _ => trivial) fun K' hK' => ?_; (repeat (refine sxn fun K2 hK2 => ?_; simp [dNum]; (repeat (refine ⟨by omega, ?_⟩)); refine hK2 _ ?_; clear hK2 K2)); refine sxn fun K2 hK2 => ?_; simp [dNum]; refine callK.data (hpb) (by simp; rfl) (by first | exact D.leGo_refl _ | simp [takeMap, List.map_map, Function.comp_def, D.le, D.le.go, D.le_refl, D.leGo_refl, dNum]) ?_; refine hK2 _ ?_; clear hK2 K2; simp only [putd, upd_lst]; (repeat (refine sxn fun K2 hK2 => ?_; simp [dNum]; (repeat (refine ⟨by omega, ?_⟩)); refine hK2 _ ?_; clear hK2 K2)); refine sxz (hK' _ (AW.st (by simp [dNum]; rfl) ?_)); clear hK' K'; refine AW_then fun K2 hK2 => ?_; refine rg [2, 3, 9, 11, 54] [] (fun _ _ => trivial) fun K' hK' => ?_; (repeat (refine sxn fun K2 hK2 => ?_; simp [dNum]; (repeat (refine ⟨by omega, ?_⟩)); refine hK2 _ ?_; clear hK2 K2)); refine sxn fun K2 hK2 => ?_; simp [dNum]; refine callK.data (hgt) (by simp; rfl) (by first | exact D.leGo_refl _ | simp [takeMap, List.map_map, Function.comp_def, D.le, D.le.go, D.le_refl, D.leGo_refl, dNum]) ?_; refine hK2 _ ?_; clear hK2 K2; simp only [putd, upd_lst]; (repeat (refine sxn fun K2 hK2 => ?_; simp [dNum]; (repeat (refine ⟨by omega, ?_⟩)); refine hK2 _ ?_; clear hK2 K2)); refine sxz (hK' _ (AW.st (by simp [dNum]; rfl) ?_)); clear hK' K'; refine AW_ff rfl ?_; refine AW_skip (hK2 _ ?_); refine AW_then fun K3 hK3 => ?_; refine rg [2, 3, 9, 11, 84] [] (fun _ _ => trivial) fun K' hK' => ?_; repeat (refine sxn fun K2 hK2 => ?_; simp [dNum, g6', g60', g80']; (repeat (refine ⟨by omega, ?_⟩)); refine hK2 _ ?_; clear hK2 K2)
    refine sxn fun K2 hK2 => ?_; simp [dNum, g6', g60', g80']; refine callK.data (n1) (by simp; rfl) (by first | exact D.leGo_refl _ | simp [takeMap, List.map_map, Function.comp_def, D.le, D.le.go, D.le_refl, D.leGo_refl, dNum, g6', g60', g80']) ?_; refine hK2 _ ?_; clear hK2 K2; simp only [putd, upd_lst]; (repeat (refine sxn fun K2 hK2 => ?_; simp [dNum, g6', g60', g80']; (repeat (refine ⟨by omega, ?_⟩)); refine hK2 _ ?_; clear hK2 K2)); refine sxn fun K2 hK2 => ?_; simp [dNum, g6', g60', g80']; refine callK.data (e1) (by simp; rfl) (by first | exact D.leGo_refl _ | simp [takeMap, List.map_map, Function.comp_def, D.le, D.le.go, D.le_refl, D.leGo_refl, dNum, g6', g60', g80']) ?_; refine hK2 _ ?_; clear hK2 K2; simp only [putd, upd_lst]; (repeat (refine sxn fun K2 hK2 => ?_; simp [dNum, g6', g60', g80']; (repeat (refine ⟨by omega, ?_⟩)); refine hK2 _ ?_; clear hK2 K2)); refine sxn fun K2 hK2 => ?_; simp [dNum, g6', g60', g80']; refine callK.data (n2) (by simp; rfl) (by first | exact D.leGo_refl _ | simp [takeMap, List.map_map, Function.comp_def, D.le, D.le.go, D.le_refl, D.leGo_refl, dNum, g6', g60', g80']) ?_; refine hK2 _ ?_; clear hK2 K2; simp only [putd, upd_lst]; (repeat (refine sxn fun K2 hK2 => ?_; simp [dNum, g6', g60', g80']; (repeat (refine ⟨by omega, ?_⟩)); refine hK2 _ ?_; clear hK2 K2)); refine sxn fun K2 hK2 => ?_; simp [dNum, g6', g60', g80']; refine callK.data (e2) (by simp; rfl) (by first | exact D.leGo_refl _ | simp [takeMap, List.map_map, Function.comp_def, D.le, D.le.go, D.le_refl, D.leGo_refl, dNum, g6', g60', g80']) ?_; refine hK2 _ ?_; clear hK2 K2; simp only [putd, upd_lst]; (repeat (refine sxn fun K2 hK2 => ?_; simp [dNum, g6', g60', g80']; (repeat (refine ⟨by omega, ?_⟩)); refine hK2 _ ?_; clear hK2 K2)); refine sxn fun K2 hK2 => ?_; simp [dNum, g6', g60', g80']; refine callK.data (z1) (by simp; rfl) (by first | exact D.leGo_refl _ | simp [takeMap, List.map_map, Function.comp_def, D.le, D.le.go, D.le_refl, D.leGo_refl, dNum, g6', g60', g80']) ?_; refine hK2 _ ?_; clear hK2 K2; simp only [putd, upd_lst]; (repeat (refine sxn fun K2 hK2 => ?_; simp [dNum, g6', g60', g80']; (repeat (refine ⟨by omega, ?_⟩)); refine hK2 _ ?_; clear hK2 K2)); refine sxn fun K2 hK2 => ?_; simp [dNum, g6', g60', g80']; refine callK.data (z1) (by simp; rfl) (by first | exact D.leGo_refl _ | simp [takeMap, List.map_map, Function.comp_def, D.le, D.le.go, D.le_refl, D.leGo_refl, dNum, g6', g60', g80']) ?_; refine hK2 _ ?_; clear hK2 K2; simp only [putd, upd_lst]; (repeat (refine sxn fun K2 hK2 => ?_; simp [dNum, g6', g60', g80']; (repeat (refine ⟨by omega, ?_⟩)); refine hK2 _ ?_; clear hK2 K2)); refine sxn fun K2 hK2 => ?_; simp [dNum, g6', g60', g80']; refine callK.data (z2) (by simp; rfl) (by first | exact D.leGo_refl _ | simp [takeMap, List.map_map, Function.comp_def, D.le, D.le.go, D.le_refl, D.leGo_refl, dNum, g6', g60', g80']) ?_; refine hK2 _ ?_; clear hK2 K2; simp only [putd, upd_lst]; repeat (refine sxn fun K2 hK2 => ?_; simp [dNum, g6', g60', g80']; (repeat (refine ⟨by omega, ?_⟩)); refine hK2 _ ?_; clear hK2 K2)
    refine sxz (hK' _ (AW.st (by simp [dNum, g6', g60', g80']; rfl) ?_)); clear hK' K'; refine AW_cond false (by simp [g80']) (fun h => by cases h) (fun _ => ?_); refine AW_skip (hK3 _ ?_); refine rg [2, 3, 9, 10, 11, 13] [] (fun _ _ => trivial) fun K' hK' => ?_; (repeat (refine sxn fun K2 hK2 => ?_; simp [dNum]; (repeat (refine ⟨by omega, ?_⟩)); refine hK2 _ ?_; clear hK2 K2)); refine sxn fun K2 hK2 => ?_; simp [dNum]; refine callK.data (htd) (by simp; rfl) (by first | exact D.leGo_refl _ | simp [takeMap, List.map_map, Function.comp_def, D.le, D.le.go, D.le_refl, D.leGo_refl, dNum]) ?_; refine hK2 _ ?_; clear hK2 K2; simp only [putd, upd_lst]; (repeat (refine sxn fun K2 hK2 => ?_; simp [dNum]; (repeat (refine ⟨by omega, ?_⟩)); refine hK2 _ ?_; clear hK2 K2)); refine sxn fun K2 hK2 => ?_; simp [dNum]; refine callK.data (hs1) (by simp; rfl) (by first | exact D.leGo_refl _ | simp [takeMap, List.map_map, Function.comp_def, D.le, D.le.go, D.le_refl, D.leGo_refl, dNum]) ?_; refine hK2 _ ?_; clear hK2 K2; simp only [putd, upd_lst]; (repeat (refine sxn fun K2 hK2 => ?_; simp [dNum]; (repeat (refine ⟨by omega, ?_⟩)); refine hK2 _ ?_; clear hK2 K2)); refine sxz (hK' _ (AW.st (by simp [dNum]; rfl) ?_)); clear hK' K'; refine rg [2, 3, 9, 10, 11, 12, 13, 14] [] (fun _ _ => trivial) fun K' hK' => ?_; (repeat (refine sxn fun K2 hK2 => ?_; simp [dNum]; (repeat (refine ⟨by omega, ?_⟩)); refine hK2 _ ?_; clear hK2 K2)); refine sxn fun K2 hK2 => ?_; simp [dNum]; refine callK.data (hs2) (by simp; rfl) (by first | exact D.leGo_refl _ | simp [takeMap, List.map_map, Function.comp_def, D.le, D.le.go, D.le_refl, D.leGo_refl, dNum]) ?_; refine hK2 _ ?_; clear hK2 K2; simp only [putd, upd_lst]; (repeat (refine sxn fun K2 hK2 => ?_; simp [dNum]; (repeat (refine ⟨by omega, ?_⟩)); refine hK2 _ ?_; clear hK2 K2)); refine sxz (hK' _ (AW.st (by simp [dNum]; rfl) ?_)); clear hK' K'; refine rg [2, 3, 9, 10, 11, 12, 13, 14, 15, 16] [] (fun _ _ => trivial) fun K' hK' => ?_; (repeat (refine sxn fun K2 hK2 => ?_; simp [dNum]; (repeat (refine ⟨by omega, ?_⟩)); refine hK2 _ ?_; clear hK2 K2)); refine sxn fun K2 hK2 => ?_; simp [dNum]; refine callK.data (hs3) (by simp; rfl) (by first | exact D.leGo_refl _ | simp [takeMap, List.map_map, Function.comp_def, D.le, D.le.go, D.le_refl, D.leGo_refl, dNum]) ?_; refine hK2 _ ?_; clear hK2 K2; simp only [putd, upd_lst]; (repeat (refine sxn fun K2 hK2 => ?_; simp [dNum]; (repeat (refine ⟨by omega, ?_⟩)); refine hK2 _ ?_; clear hK2 K2)); refine sxz (hK' _ (AW.st (by simp [dNum]; rfl) ?_)); clear hK' K'; refine rg [8] [] (fun _ _ => trivial) fun K' hK' => ?_; (repeat (refine sxn fun K2 hK2 => ?_; simp [dNum]; (repeat (refine ⟨by omega, ?_⟩)); refine hK2 _ ?_; clear hK2 K2)); refine sxz (hK' _ (AW.st (by simp [dNum]; rfl) ?_)); clear hK' K'; refine AW_ret ?_; simp [D.le, D.le.go, takeMap, dNum]
   | true =>
    rw [hse] at hs2 hs3
    have hvv := hsev hse
    subst hvv; refine PureC.of_body (tyOf_good _) Tryz.func7 rfl rfl (rs := [.tmp 8]) Tryz.results7 (by simp [Tryz.ntmps7]) fun X => ?_; simp only [Tryz.ntmps7, List.map]; refine rg [0, 1, 2, 3] [] (fun _ _ => trivial) fun K' hK' => ?_; (repeat (refine sxn fun K2 hK2 => ?_; simp [dNum]; (repeat (refine ⟨by omega, ?_⟩)); refine hK2 _ ?_; clear hK2 K2)); refine sxz (hK' _ (AW.st (by simp [dNum]; rfl) ?_)); clear hK' K'; refine AW_then fun K1 hK1 => ?_; refine rg [0, 1, 2, 3, 34] [] (fun _ _ => trivial) fun K' hK' => ?_; (repeat (refine sxn fun K2 hK2 => ?_; simp [dNum, bs_size, dS, h1, h1', h2, h2', h3, h3', h4, h4']; (repeat (refine ⟨by omega, ?_⟩)); refine hK2 _ ?_; clear hK2 K2)); refine sxz (hK' _ (AW.st (by simp [dNum, bs_size, dS, h1, h1', h2, h2', h3, h3', h4, h4']; rfl) ?_)); clear hK' K'; refine AW_ff rfl ?_; refine AW_skip (hK1 _ ?_); refine rg [1, 2, 3, 9, 10] [] (fun _ _ => trivial) fun K' hK' => ?_; (repeat (refine sxn fun K2 hK2 => ?_; simp [dNum]; (repeat (refine ⟨by omega, ?_⟩)); refine hK2 _ ?_; clear hK2 K2)); refine sxn fun K2 hK2 => ?_; simp [dNum]; refine callK.data (hpa) (by simp; rfl) (by first | exact D.leGo_refl _ | simp [takeMap, List.map_map, Function.comp_def, D.le, D.le.go, D.le_refl, D.leGo_refl, dNum]) ?_; refine hK2 _ ?_; clear hK2 K2; simp only [putd, upd_lst]; (repeat (refine sxn fun K2 hK2 => ?_; simp [dNum]; (repeat (refine ⟨by omega, ?_⟩)); refine hK2 _ ?_; clear hK2 K2)); refine sxz (hK' _ (AW.st (by simp [dNum]; rfl) ?_)); clear hK' K'; refine rg [2, 3, 9, 10, 11, 12] [] (fun _ _ => trivial) fun K' hK' => ?_; (repeat (refine sxn fun K2 hK2 => ?_; simp [dNum]; (repeat (refine ⟨by omega, ?_⟩)); refine hK2 _ ?_; clear hK2 K2)); refine sxn fun K2 hK2 => ?_; simp [dNum]; refine callK.data (hpb) (by simp; rfl) (by first | exact D.leGo_refl _ | simp [takeMap, List.map_map, Function.comp_def, D.le, D.le.go, D.le_refl, D.leGo_refl, dNum]) ?_; refine hK2 _ ?_; clear hK2 K2; simp only [putd, upd_lst]; (repeat (refine sxn fun K2 hK2 => ?_; simp [dNum]; (repeat (refine ⟨by omega, ?_⟩)); refine hK2 _ ?_; clear hK2 K2)); refine sxz (hK' _ (AW.st (by simp [dNum]; rfl) ?_)); clear hK' K'; refine AW_then fun K2 hK2 => ?_; refine rg [2, 3, 9, 11, 54] [] (fun _ _ => trivial) fun K' hK' => ?_; (repeat (refine sxn fun K2 hK2 => ?_; simp [dNum]; (repeat (refine ⟨by omega, ?_⟩)); refine hK2 _ ?_; clear hK2 K2)); refine sxn fun K2 hK2 => ?_; simp [dNum]; refine callK.data (hgt) (by simp; rfl) (by first | exact D.leGo_refl _ | simp [takeMap, List.map_map, Function.comp_def, D.le, D.le.go, D.le_refl, D.leGo_refl, dNum]) ?_; refine hK2 _ ?_; clear hK2 K2; simp only [putd, upd_lst]; (repeat (refine sxn fun K2 hK2 => ?_; simp [dNum]; (repeat (refine ⟨by omega, ?_⟩)); refine hK2 _ ?_; clear hK2 K2)); refine sxz (hK' _ (AW.st (by simp [dNum]; rfl) ?_)); clear hK' K'; refine AW_ff rfl ?_; refine AW_skip (hK2 _ ?_); refine AW_then fun K3 hK3 => ?_; refine rg [2, 3, 9, 11, 84] [] (fun _ _ => trivial) fun K' hK' => ?_; repeat (refine sxn fun K2 hK2 => ?_; simp [dNum, g6', g60', g80']; (repeat (refine ⟨by omega, ?_⟩)); refine hK2 _ ?_; clear hK2 K2)
    refine sxn fun K2 hK2 => ?_; simp [dNum, g6', g60', g80']; refine callK.data (n1) (by simp; rfl) (by first | exact D.leGo_refl _ | simp [takeMap, List.map_map, Function.comp_def, D.le, D.le.go, D.le_refl, D.leGo_refl, dNum, g6', g60', g80']) ?_; refine hK2 _ ?_; clear hK2 K2; simp only [putd, upd_lst]; (repeat (refine sxn fun K2 hK2 => ?_; simp [dNum, g6', g60', g80']; (repeat (refine ⟨by omega, ?_⟩)); refine hK2 _ ?_; clear hK2 K2)); refine sxn fun K2 hK2 => ?_; simp [dNum, g6', g60', g80']; refine callK.data (e1) (by simp; rfl) (by first | exact D.leGo_refl _ | simp [takeMap, List.map_map, Function.comp_def, D.le, D.le.go, D.le_refl, D.leGo_refl, dNum, g6', g60', g80']) ?_; refine hK2 _ ?_; clear hK2 K2; simp only [putd, upd_lst]; (repeat (refine sxn fun K2 hK2 => ?_; simp [dNum, g6', g60', g80']; (repeat (refine ⟨by omega, ?_⟩)); refine hK2 _ ?_; clear hK2 K2)); refine sxn fun K2 hK2 => ?_; simp [dNum, g6', g60', g80']; refine callK.data (n2) (by simp; rfl) (by first | exact D.leGo_refl _ | simp [takeMap, List.map_map, Function.comp_def, D.le, D.le.go, D.le_refl, D.leGo_refl, dNum, g6', g60', g80']) ?_; refine hK2 _ ?_; clear hK2 K2; simp only [putd, upd_lst]; (repeat (refine sxn fun K2 hK2 => ?_; simp [dNum, g6', g60', g80']; (repeat (refine ⟨by omega, ?_⟩)); refine hK2 _ ?_; clear hK2 K2)); refine sxn fun K2 hK2 => ?_; simp [dNum, g6', g60', g80']; refine callK.data (e2) (by simp; rfl) (by first | exact D.leGo_refl _ | simp [takeMap, List.map_map, Function.comp_def, D.le, D.le.go, D.le_refl, D.leGo_refl, dNum, g6', g60', g80']) ?_; refine hK2 _ ?_; clear hK2 K2; simp only [putd, upd_lst]; (repeat (refine sxn fun K2 hK2 => ?_; simp [dNum, g6', g60', g80']; (repeat (refine ⟨by omega, ?_⟩)); refine hK2 _ ?_; clear hK2 K2)); refine sxn fun K2 hK2 => ?_; simp [dNum, g6', g60', g80']; refine callK.data (z1) (by simp; rfl) (by first | exact D.leGo_refl _ | simp [takeMap, List.map_map, Function.comp_def, D.le, D.le.go, D.le_refl, D.leGo_refl, dNum, g6', g60', g80']) ?_; refine hK2 _ ?_; clear hK2 K2; simp only [putd, upd_lst]; (repeat (refine sxn fun K2 hK2 => ?_; simp [dNum, g6', g60', g80']; (repeat (refine ⟨by omega, ?_⟩)); refine hK2 _ ?_; clear hK2 K2)); refine sxn fun K2 hK2 => ?_; simp [dNum, g6', g60', g80']; refine callK.data (z1) (by simp; rfl) (by first | exact D.leGo_refl _ | simp [takeMap, List.map_map, Function.comp_def, D.le, D.le.go, D.le_refl, D.leGo_refl, dNum, g6', g60', g80']) ?_; refine hK2 _ ?_; clear hK2 K2; simp only [putd, upd_lst]; (repeat (refine sxn fun K2 hK2 => ?_; simp [dNum, g6', g60', g80']; (repeat (refine ⟨by omega, ?_⟩)); refine hK2 _ ?_; clear hK2 K2)); refine sxn fun K2 hK2 => ?_; simp [dNum, g6', g60', g80']; refine callK.data (z2) (by simp; rfl) (by first | exact D.leGo_refl _ | simp [takeMap, List.map_map, Function.comp_def, D.le, D.le.go, D.le_refl, D.leGo_refl, dNum, g6', g60', g80']) ?_; refine hK2 _ ?_; clear hK2 K2; simp only [putd, upd_lst]; repeat (refine sxn fun K2 hK2 => ?_; simp [dNum, g6', g60', g80']; (repeat (refine ⟨by omega, ?_⟩)); refine hK2 _ ?_; clear hK2 K2)
    refine sxz (hK' _ (AW.st (by simp [dNum, g6', g60', g80']; rfl) ?_)); clear hK' K'; refine AW_cond false (by simp [g80']) (fun h => by cases h) (fun _ => ?_); refine AW_skip (hK3 _ ?_); refine rg [2, 3, 9, 10, 11, 13] [] (fun _ _ => trivial) fun K' hK' => ?_; (repeat (refine sxn fun K2 hK2 => ?_; simp [dNum]; (repeat (refine ⟨by omega, ?_⟩)); refine hK2 _ ?_; clear hK2 K2)); refine sxn fun K2 hK2 => ?_; simp [dNum]; refine callK.data (htd) (by simp; rfl) (by first | exact D.leGo_refl _ | simp [takeMap, List.map_map, Function.comp_def, D.le, D.le.go, D.le_refl, D.leGo_refl, dNum]) ?_; refine hK2 _ ?_; clear hK2 K2; simp only [putd, upd_lst]; (repeat (refine sxn fun K2 hK2 => ?_; simp [dNum]; (repeat (refine ⟨by omega, ?_⟩)); refine hK2 _ ?_; clear hK2 K2)); refine sxn fun K2 hK2 => ?_; simp [dNum]; refine callK.data (hs1) (by simp; rfl) (by first | exact D.leGo_refl _ | simp [takeMap, List.map_map, Function.comp_def, D.le, D.le.go, D.le_refl, D.leGo_refl, dNum]) ?_; refine hK2 _ ?_; clear hK2 K2; simp only [putd, upd_lst]; (repeat (refine sxn fun K2 hK2 => ?_; simp [dNum]; (repeat (refine ⟨by omega, ?_⟩)); refine hK2 _ ?_; clear hK2 K2)); refine sxz (hK' _ (AW.st (by simp [dNum]; rfl) ?_)); clear hK' K'; refine rg [2, 3, 9, 10, 11, 12, 13, 14] [] (fun _ _ => trivial) fun K' hK' => ?_; (repeat (refine sxn fun K2 hK2 => ?_; simp [dNum]; (repeat (refine ⟨by omega, ?_⟩)); refine hK2 _ ?_; clear hK2 K2)); refine sxn fun K2 hK2 => ?_; simp [dNum]; refine callK.data (hs2) (by simp; rfl) (by first | exact D.leGo_refl _ | simp [takeMap, List.map_map, Function.comp_def, D.le, D.le.go, D.le_refl, D.leGo_refl, dNum]) ?_; refine hK2 _ ?_; clear hK2 K2; simp only [putd, upd_lst]; (repeat (refine sxn fun K2 hK2 => ?_; simp [dNum]; (repeat (refine ⟨by omega, ?_⟩)); refine hK2 _ ?_; clear hK2 K2)); refine sxz (hK' _ (AW.st (by simp [dNum]; rfl) ?_)); clear hK' K'; refine rg [2, 3, 9, 10, 11, 12, 13, 14, 15, 16] [] (fun _ _ => trivial) fun K' hK' => ?_; (repeat (refine sxn fun K2 hK2 => ?_; simp [dNum]; (repeat (refine ⟨by omega, ?_⟩)); refine hK2 _ ?_; clear hK2 K2)); refine sxn fun K2 hK2 => ?_; simp [dNum]; refine callK.data (hs3) (by simp; rfl) (by first | exact D.leGo_refl _ | simp [takeMap, List.map_map, Function.comp_def, D.le, D.le.go, D.le_refl, D.leGo_refl, dNum]) ?_; refine hK2 _ ?_; clear hK2 K2; simp only [putd, upd_lst]; (repeat (refine sxn fun K2 hK2 => ?_; simp [dNum]; (repeat (refine ⟨by omega, ?_⟩)); refine hK2 _ ?_; clear hK2 K2)); refine sxz (hK' _ (AW.st (by simp [dNum]; rfl) ?_)); clear hK' K'; refine rg [8] [] (fun _ _ => trivial) fun K' hK' => ?_; (repeat (refine sxn fun K2 hK2 => ?_; simp [dNum, dAm]; (repeat (refine ⟨by omega, ?_⟩)); refine hK2 _ ?_; clear hK2 K2)); refine sxn fun K2 hK2 => ?_; simp [dNum, dAm]; refine callK.data (ha1) (by simp; rfl) (by first | exact D.leGo_refl _ | simp [takeMap, List.map_map, Function.comp_def, D.le, D.le.go, D.le_refl, D.leGo_refl, dNum, dAm]) ?_; refine hK2 _ ?_; clear hK2 K2; simp only [putd, upd_lst]
    (repeat (refine sxn fun K2 hK2 => ?_; simp [dNum, dAm]; (repeat (refine ⟨by omega, ?_⟩)); refine hK2 _ ?_; clear hK2 K2)); refine sxn fun K2 hK2 => ?_; simp [dNum, dAm]; refine callK.data (ha2) (by simp; rfl) (by first | exact D.leGo_refl _ | simp [takeMap, List.map_map, Function.comp_def, D.le, D.le.go, D.le_refl, D.leGo_refl, dNum, dAm]) ?_; refine hK2 _ ?_; clear hK2 K2; simp only [putd, upd_lst]; (repeat (refine sxn fun K2 hK2 => ?_; simp [dNum, dAm]; (repeat (refine ⟨by omega, ?_⟩)); refine hK2 _ ?_; clear hK2 K2)); refine sxn fun K2 hK2 => ?_; simp [dNum, dAm]; refine callK.data (hv1) (by simp; rfl) (by first | exact D.leGo_refl _ | simp [takeMap, List.map_map, Function.comp_def, D.le, D.le.go, D.le_refl, D.leGo_refl, dNum, dAm]) ?_; refine hK2 _ ?_; clear hK2 K2; simp only [putd, upd_lst]; (repeat (refine sxn fun K2 hK2 => ?_; simp [dNum, dAm]; (repeat (refine ⟨by omega, ?_⟩)); refine hK2 _ ?_; clear hK2 K2)); refine sxn fun K2 hK2 => ?_; simp [dNum, dAm]; refine callK.data (ha1) (by simp; rfl) (by first | exact D.leGo_refl _ | simp [takeMap, List.map_map, Function.comp_def, D.le, D.le.go, D.le_refl, D.leGo_refl, dNum, dAm]) ?_; refine hK2 _ ?_; clear hK2 K2; simp only [putd, upd_lst]; (repeat (refine sxn fun K2 hK2 => ?_; simp [dNum, dAm]; (repeat (refine ⟨by omega, ?_⟩)); refine hK2 _ ?_; clear hK2 K2)); refine sxn fun K2 hK2 => ?_; simp [dNum, dAm]; refine callK.data (ha2) (by simp; rfl) (by first | exact D.leGo_refl _ | simp [takeMap, List.map_map, Function.comp_def, D.le, D.le.go, D.le_refl, D.leGo_refl, dNum, dAm]) ?_; refine hK2 _ ?_; clear hK2 K2; simp only [putd, upd_lst]; (repeat (refine sxn fun K2 hK2 => ?_; simp [dNum, dAm]; (repeat (refine ⟨by omega, ?_⟩)); refine hK2 _ ?_; clear hK2 K2)); refine sxn fun K2 hK2 => ?_; simp [dNum, dAm]; refine callK.data (hv2) (by simp; rfl) (by first | exact D.leGo_refl _ | simp [takeMap, List.map_map, Function.comp_def, D.le, D.le.go, D.le_refl, D.leGo_refl, dNum, dAm]) ?_; refine hK2 _ ?_; clear hK2 K2; simp only [putd, upd_lst]; (repeat (refine sxn fun K2 hK2 => ?_; simp [dNum, dAm]; (repeat (refine ⟨by omega, ?_⟩)); refine hK2 _ ?_; clear hK2 K2)); refine sxz (hK' _ (AW.st (by simp [dNum, dAm]; rfl) ?_)); clear hK' K'; refine AW_ret ?_; simp [D.le, D.le.go, takeMap, dNum]
end Go.Proofs.YtagfbbnlbncjlaaGreatDoor
namespace Go.Proofs.YtagfbbnlbncjlaaGreatDoor
open Go.Av Go.ChangeShapes Go.WideShapes Go.ChangeAt Go.RowKit
theorem law_own : ownKnob Tryz.prog.godebug = none := by kernel_rfl
theorem law_laidOut : laidOutB Tryz.prog = true := by kernel_rfl
section
variable {H : Type} {enc : TypeId × Value → H} {w : World} {base : Nat} {spare : Nat → Bool} {held : Bool} {X : Nat → Prop}
end
end Go.Proofs.YtagfbbnlbncjlaaGreatDoor
