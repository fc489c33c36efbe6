/-
  Texts that belong together, in one file: GA3, RN, GA4, GA5, U1.
-/
import Derived.Test.YtagfbbnlbncjlaaGreatDoorGs20
set_option linter.unusedSimpArgs false
set_option linter.unusedVariables false
namespace Go.Proofs.YtagfbbnlbncjlaaGreatDoor
open Go.Av
theorem litsG_app (ns es : List Tx) : ∀ (a b : List Ex) (c : Cs), litsG ns es (a ++ b) c = ((litsG ns es a c).1 ++ (litsG ns es b (litsG ns es a c).2).1, (litsG ns es b (litsG ns es a c).2).2)
 | [], b, c => by simp [litsG]
 | e :: a, b, c => by simp only [List.cons_append, litsG, litsG_app ns es a b]
theorem litsG_take (ns es : List Tx) {l : List Ex} {i : Nat} (h : i < l.length) (c : Cs) : litsG ns es (l.take (i + 1)) c = ((litsG ns es (l.take i) c).1 ++ [(litG ns es l[i] (litsG ns es (l.take i) c).2).1], (litG ns es l[i] (litsG ns es (l.take i) c).2).2) := by
 rw [List.take_succ_eq_append_getElem h, litsG_app]; simp [litsG]
theorem litsG_len (ns es : List Tx) : ∀ (l : List Ex) (c : Cs), (litsG ns es l c).1.length = l.length
 | [], c => rfl
 | e :: l, c => by simp [litsG, litsG_len ns es l]
theorem litsG_size (ns es : List Tx) : ∀ (l : List Ex) (c : Cs), (litsG ns es l c).2.1 ≤ c.1 + szNs l ∧ (litsG ns es l c).2.2.length + l.length ≤ c.2.length + 4 * szNs l
 | [], c => by simp [litsG]
 | e :: l, c => by
  have h1 := lit_size ns es _ e (Nat.le_refl _) c
  have h2 := litsG_size ns es l (litG ns es e c).2
  simp only [litsG, szNs, List.length_cons]
  omega
structure EntsOk (ns es : List Tx) (ents : List (Value × D)) : Prop where
 keys : ∀ p ∈ ents, keyOk TypeDesc.string p.1 = true
 is : ∀ s ∈ ns, entGet (.string (bs s)) ents = some (dNum ((ixT ns s : Int) + 1))
 was : ∀ s ∈ es, entGet (.string (bs (94 :: s))) ents = some (dNum ((ns.length : Int) + ixT es s + 1))
def LitAt (G : Glob) (ns es : List Tx) (ents : List (Value × D)) (e : Ex) : Prop := ∀ (V : Nat) (cs : Cl), ns.length + es.length ≤ V → V + szN e ≤ 2^36 → cs.length + 4 * szN e ≤ 2^36 →
 MC Tryz.prog G [501, 503] 42 [.ref 501 0 0, .d (dE e)] (hlst (bRow V cs ents)) (.d (dNum (litG ns es e (V, cs)).1)) (hlst (bRow (litG ns es e (V, cs)).2.1 (litG ns es e (V, cs)).2.2 ents))
theorem bs94 (s : Tx) : (⟨#[94]⟩ : ByteArray) ++ bs s = bs (94 :: s) := by
 have : (⟨#[94]⟩ : ByteArray) = bs [94] := rfl
 rw [this, bs_append]; rfl
theorem litG_vars (ns es : List Tx) : ∀ (n : Nat) (e : Ex), SizeOf.sizeOf e ≤ n → ∀ c : Cs, c.1 ≤ (litG ns es e c).2.1
 | 0, e, hn, _ => by cases e <;> simp at hn
 | n + 1, e, hn, c => by
  have many : ∀ l : List Ex, (∀ x ∈ l, SizeOf.sizeOf x ≤ n) → ∀ c : Cs, c.1 ≤ (litsG ns es l c).2.1 := by
   intro l
   induction l with
   | nil => intro _ c; simp [litsG]
   | cons x l ih =>
    intro hs c
    have h1 := litG_vars ns es n x (hs x (by simp)) c
    have h2 := ih (fun y hy => hs y (by simp [hy])) (litG ns es x c).2
    simp only [litsG]
    omega
  cases e with
  | cst b => simp [litG]
  | bit s => simp [litG]
  | rise s => simp [litG, mkAnd]
  | fall s => simp [litG, mkAnd]
  | not x => have := litG_vars ns es n x (by simp at hn; omega) c; simpa [litG] using this
  | and l =>
   have := many l (fun x hx => by have := List.sizeOf_lt_of_mem hx; simp only [Ex.and.sizeOf_spec] at hn; omega) c
   simp only [litG, mkAnd]; omega
  | or l =>
   have := many l (fun x hx => by have := List.sizeOf_lt_of_mem hx; simp only [Ex.or.sizeOf_spec] at hn; omega) c
   simp only [litG, mkAnd]; omega
theorem lit_inW (ns es : List Tx) (e : Ex) (hN : ∀ s ∈ nmsE true e, s ∈ ns) (hE : ∀ s ∈ nmsE false e, s ∈ es) (hw : WfE e) (c : Cs) (h0 : ns.length + es.length ≤ c.1) (h1 : c.1 + szN e ≤ 2^36) : -2^37 < (litG ns es e c).1 ∧ (litG ns es e c).1 < 2^37 := by
 obtain ⟨_, ⟨_, h3, h4⟩, _⟩ := lit_tells ns es _ e (Nat.le_refl _) hN hE hw c h0
 have := (lit_size ns es _ e (Nat.le_refl _) c).1
 omega
theorem lits_inW (ns es : List Tx) : ∀ (l : List Ex), (∀ s ∈ nmsL true l, s ∈ ns) → (∀ s ∈ nmsL false l, s ∈ es) → (∀ x ∈ l, WfE x) → ∀ c : Cs, ns.length + es.length ≤ c.1 → c.1 + szNs l ≤ 2^36 → ∀ x ∈ (litsG ns es l c).1, -2^37 < x ∧ x < 2^37
 | [], _, _, _, _, _, _, x, hx => by simp [litsG] at hx
 | e :: l, h1, h2, h3, c, h0, h4, x, hx => by
  simp only [nmsL, List.mem_append] at h1 h2; simp only [szNs] at h4; simp only [litsG, List.mem_cons] at hx
  have hg := (lit_tells ns es _ e (Nat.le_refl _) (fun s h => h1 s (.inl h)) (fun s h => h2 s (.inl h)) (h3 e (by simp)) c h0).1.vars
  have hs := (lit_size ns es _ e (Nat.le_refl _) c).1
  rcases hx with rfl | hx
  ·exact lit_inW ns es e (fun s h => h1 s (.inl h)) (fun s h => h2 s (.inl h)) (h3 e (by simp)) c h0 (by omega)
  ·exact lits_inW ns es l (fun s h => h1 s (.inr h)) (fun s h => h2 s (.inr h)) (fun y hy => h3 y (by simp [hy])) _ (by omega) (by omega) x hx
theorem litsG_vars (ns es : List Tx) : ∀ (l : List Ex) (c : Cs), c.1 ≤ (litsG ns es l c).2.1
 | [], c => by simp [litsG]
 | e :: l, c => by
  have h1 := litG_vars ns es _ e (Nat.le_refl _) c
  have h2 := litsG_vars ns es l (litG ns es e c).2
  simp only [litsG]
  omega
theorem len_szNs : ∀ l : List Ex, l.length ≤ szNs l
 | [] => by simp [szNs]
 | e :: l => by
  have h1 := len_szNs l
  have h2 := szN_pos e
  simp only [szNs, List.length_cons]
  omega
theorem nms_at {all : Bool} {l : List Ex} {x : Ex} (hx : x ∈ l) {s : Tx} (h : s ∈ nmsE all x) : s ∈ nmsL all l := by
 induction l with
 | nil => cases hx
 | cons y l ih =>
  rw [nmsL, List.mem_append]
  rcases List.mem_cons.1 hx with rfl | hx
  ·exact .inl h
  ·exact .inr (ih hx)
set_option maxHeartbeats 16000000 in
theorem lit_spec (G : Glob) (ns es : List Tx) (ents : List (Value × D)) (hen : EntsOk ns es ents) (hns : ns.length ≤ 2^20) (hes : es.length ≤ 2^20) : ∀ (n : Nat) (e : Ex), SizeOf.sizeOf e ≤ n → (∀ s ∈ nmsE true e, s ∈ ns) → (∀ s ∈ nmsE false e, s ∈ es) → WfE e → LitAt G ns es ents e := by
 intro n
 induction n with
 | zero => intro e hsz; cases e <;> simp at hsz
 | succ n ih =>
  intro e hsz hN hE hw V cs hV hV2 hC
  have hk0 : ∀ p ∈ ents, keyOk TypeDesc.string p.1 = true := hen.keys
  simp at hk0
  have hk1 := eq_true hk0
  cases e with
  | bit s =>
   rw [WfE] at hw
   have hs : s ∈ ns := hN s (by simp [nmsE, nmE, one1, nameF_nn hw])
   have hg := hen.is s hs
   rw [litG, dE]; refine MC.of_body (tyOf_good _) Tryz.func42 rfl rfl (rs := [.tmp 4]) Tryz.results42 (by simp [Tryz.ntmps42]) rfl fun X => ?_; simp only [Tryz.ntmps42]; refine rg [0, 1] [501, 502, 503] (notIn_ok rfl) fun K' hK' => ?_; (repeat (refine sxn fun K2 hK2 => ?_; simp [dNum, bRow, dS, pairA, assertA, ofOk, zeroM]; (repeat (refine ⟨by omega, ?_⟩)); refine hK2 _ ?_; clear hK2 K2)); refine sxz (hK' _ (AW.st (by simp [dNum, bRow, dS, pairA, assertA, ofOk, zeroM]; rfl) ?_)); clear hK' K'; refine AW_then fun K1 hK1 => ?_; refine rg [0, 1, 20] [501, 502, 503] (notIn_ok rfl) fun K' hK' => ?_; (repeat (refine sxn fun K2 hK2 => ?_; simp [dNum, bRow, dS, pairA, assertA, ofOk, zeroM]; (repeat (refine ⟨by omega, ?_⟩)); refine hK2 _ ?_; clear hK2 K2)); refine sxz (hK' _ (AW.st (by simp [dNum, bRow, dS, pairA, assertA, ofOk, zeroM]; rfl) ?_)); clear hK' K'; refine AW_block ?_; refine rg [0, 1, 20, 22, 23] [501, 502, 503] (notIn_ok rfl) fun K' hK' => ?_; (repeat (refine sxn fun K2 hK2 => ?_; simp [dNum, bRow, dS, pairA, assertA, ofOk, zeroM]; (repeat (refine ⟨by omega, ?_⟩)); refine hK2 _ ?_; clear hK2 K2)); refine sxz (hK' _ (AW.st (by simp [dNum, bRow, dS, pairA, assertA, ofOk, zeroM]; rfl) ?_)); clear hK' K'; refine AW_tt rfl ?_; refine rg [0, 5] [501, 502, 503] (notIn_ok rfl) fun K' hK' => ?_; (repeat (refine sxn fun K2 hK2 => ?_; simp [dNum, bRow, dS, pairA, assertA, ofOk, zeroM]; (repeat (refine ⟨by omega, ?_⟩)); refine hK2 _ ?_; clear hK2 K2)); refine sxz (hK' _ (AW.st (by simp [dNum, bRow, dS, pairA, assertA, ofOk, zeroM]; rfl) ?_)); clear hK' K'; refine rg [4] [501, 502, 503] (notIn_ok rfl) fun K' hK' => ?_; (repeat (refine sxn fun K2 hK2 => ?_; simp [dNum, bRow, dS, pairA, assertA, ofOk, zeroM, hg, hk1]; (repeat (refine ⟨by omega, ?_⟩)); refine hK2 _ ?_; clear hK2 K2)); refine sxz (hK' _ (AW.st (by simp [dNum, bRow, dS, pairA, assertA, ofOk, zeroM, hg, hk1]; rfl) ?_)); clear hK' K'; refine AW_ret ?_; simp [bRow, dNum, D.le]
  | rise s =>
   rw [WfE] at hw
   have hs : s ∈ ns := hN s (by simp [nmsE, nmE, one1, nameF_nn hw])
   have hs2 : s ∈ es := hE s (by simp [nmsE, nmE, one1, nameF_nn hw])
   have hg := hen.is s hs
   have hg2 := hen.was s hs2
   have l1 := ixT_lt hs
   have l2 := ixT_lt hs2
   simp only [szN] at hV2 hC
   have ha := gand_spec G V (by omega) cs (by omega) ents [(ixT ns s : Int) + 1, -((ns.length : Int) + ixT es s + 1)] (by simp) (by intro x hx; simp at hx; unfold inW; rcases hx with rfl | rfl <;> omega)
   have hb := bs94 s
   have hsl := (name_facts hw).2.1
   have h94 : (⟨#[94]⟩ : ByteArray).size = 1 := rfl
   rw [litG, dE]; generalize mkAnd [(ixT ns s : Int) + 1, -((ns.length : Int) + ixT es s + 1)] (V, cs) = R at ha ⊢; refine MC.of_body (tyOf_good _) Tryz.func42 rfl rfl (rs := [.tmp 4]) Tryz.results42 (by simp [Tryz.ntmps42]) rfl fun X => ?_; simp only [Tryz.ntmps42]; refine rg [0, 1] [501, 502, 503] (notIn_ok rfl) fun K' hK' => ?_; (repeat (refine sxn fun K2 hK2 => ?_; simp [dNum, bRow, dS, pairA, assertA, ofOk, zeroM]; (repeat (refine ⟨by omega, ?_⟩)); refine hK2 _ ?_; clear hK2 K2)); refine sxz (hK' _ (AW.st (by simp [dNum, bRow, dS, pairA, assertA, ofOk, zeroM]; rfl) ?_)); clear hK' K'; refine AW_then fun K1 hK1 => ?_; refine rg [0, 1, 20] [501, 502, 503] (notIn_ok rfl) fun K' hK' => ?_; (repeat (refine sxn fun K2 hK2 => ?_; simp [dNum, bRow, dS, pairA, assertA, ofOk, zeroM]; (repeat (refine ⟨by omega, ?_⟩)); refine hK2 _ ?_; clear hK2 K2)); refine sxz (hK' _ (AW.st (by simp [dNum, bRow, dS, pairA, assertA, ofOk, zeroM]; rfl) ?_)); clear hK' K'; refine AW_block ?_; refine rg [0, 1, 20, 22, 23] [501, 502, 503] (notIn_ok rfl) fun K' hK' => ?_; (repeat (refine sxn fun K2 hK2 => ?_; simp [dNum, bRow, dS, pairA, assertA, ofOk, zeroM]; (repeat (refine ⟨by omega, ?_⟩)); refine hK2 _ ?_; clear hK2 K2)); refine sxz (hK' _ (AW.st (by simp [dNum, bRow, dS, pairA, assertA, ofOk, zeroM]; rfl) ?_)); clear hK' K'; refine AW_ff rfl ?_; refine rg [0, 1, 20, 31, 32] [501, 502, 503] (notIn_ok rfl) fun K' hK' => ?_; (repeat (refine sxn fun K2 hK2 => ?_; simp [dNum, bRow, dS, pairA, assertA, ofOk, zeroM]; (repeat (refine ⟨by omega, ?_⟩)); refine hK2 _ ?_; clear hK2 K2)); refine sxz (hK' _ (AW.st (by simp [dNum, bRow, dS, pairA, assertA, ofOk, zeroM]; rfl) ?_)); clear hK' K'; refine AW_tt rfl ?_; refine rg [0, 6] [501, 502, 503] (notIn_ok rfl) fun K' hK' => ?_; (repeat (refine sxn fun K2 hK2 => ?_; simp [dNum, bRow, dS, pairA, assertA, ofOk, zeroM]; (repeat (refine ⟨by omega, ?_⟩)); refine hK2 _ ?_; clear hK2 K2)); refine sxz (hK' _ (AW.st (by simp [dNum, bRow, dS, pairA, assertA, ofOk, zeroM]; rfl) ?_)); clear hK' K'; refine AW_rm (tyOf_good _) (by kernel_rfl) ([502]) ([15]) ([16]) ([]) (List.range 18) [4] [501, 502, 503] (notIn_ok rfl) (by kernel_rfl) (by simp [OffE]) fun K' hK' => ?_; (repeat (refine sxm_nextO rfl fun K2 hK2 => ?_; simp [dNum, bRow, dS, pairA, assertA, ofOk, zeroM, hg, hg2, hk1, hb, h94, binS, bs_size, dRow, dInts]; (repeat (refine ⟨by omega, ?_⟩)); refine hK2 _ ?_; clear hK2 K2)); refine sxm_nextO rfl fun K2 hK2 => ?_; simp [dNum, bRow, dS, pairA, assertA, ofOk, zeroM, hg, hg2, hk1, hb, h94, binS, bs_size, dRow, dInts]; refine hcK.mc (ha) (by simp [dNum, bRow, dS, pairA, assertA, ofOk, zeroM, hg, hg2, hk1, hb, h94, binS, bs_size, dRow, dInts]) (by simp [dNum, bRow, dS, pairA, assertA, ofOk, zeroM, hg, hg2, hk1, hb, h94, binS, bs_size, dRow, dInts]) (by simp [dNum, bRow, dS, pairA, assertA, ofOk, zeroM, hg, hg2, hk1, hb, h94, binS, bs_size, dRow, dInts]) (by simp [dNum, bRow, dS, pairA, assertA, ofOk, zeroM, hg, hg2, hk1, hb, h94, binS, bs_size, dRow, dInts]) (by simp [dNum, bRow, dS, pairA, assertA, ofOk, zeroM, hg, hg2, hk1, hb, h94, binS, bs_size, dRow, dInts]) (by simp [dNum, bRow, dS, pairA, assertA, ofOk, zeroM, hg, hg2, hk1, hb, h94, binS, bs_size, dRow, dInts]) (by simp [LdSame, dNum, bRow, dS, pairA, assertA, ofOk, zeroM, hg, hg2, hk1, hb, h94, binS, bs_size, dRow, dInts]) ?_
   simp [dNum, bRow, dS, pairA, assertA, ofOk, zeroM, hg, hg2, hk1, hb, h94, binS, bs_size, dRow, dInts]; refine hK2 _ ?_; clear hK2 K2; (repeat (refine sxm_nextO rfl fun K2 hK2 => ?_; simp [dNum, bRow, dS, pairA, assertA, ofOk, zeroM, hg, hg2, hk1, hb, h94, binS, bs_size, dRow, dInts]; (repeat (refine ⟨by omega, ?_⟩)); refine hK2 _ ?_; clear hK2 K2)); refine sxm_nilO (hK' _ ?_); refine AW.st (by simp [dNum, bRow, dS, pairA, assertA, ofOk, zeroM, hg, hg2, hk1, hb, h94, binS, bs_size, dRow, dInts]; rfl) ?_; clear hK' K'; refine AW_ret ?_; simp [bRow, dNum, D.le, dRow, dInts]
  | fall s =>
   rw [WfE] at hw
   have hs : s ∈ ns := hN s (by simp [nmsE, nmE, one1, nameF_nn hw])
   have hs2 : s ∈ es := hE s (by simp [nmsE, nmE, one1, nameF_nn hw])
   have hg := hen.is s hs
   have hg2 := hen.was s hs2
   have l1 := ixT_lt hs
   have l2 := ixT_lt hs2
   simp only [szN] at hV2 hC
   have ha := gand_spec G V (by omega) cs (by omega) ents [-((ixT ns s : Int) + 1), (ns.length : Int) + ixT es s + 1] (by simp) (by intro x hx; simp at hx; unfold inW; rcases hx with rfl | rfl <;> omega)
   have hb := bs94 s
   have hsl := (name_facts hw).2.1
   have h94 : (⟨#[94]⟩ : ByteArray).size = 1 := rfl
   rw [litG, dE]; generalize mkAnd [-((ixT ns s : Int) + 1), (ns.length : Int) + ixT es s + 1] (V, cs) = R at ha ⊢; refine MC.of_body (tyOf_good _) Tryz.func42 rfl rfl (rs := [.tmp 4]) Tryz.results42 (by simp [Tryz.ntmps42]) rfl fun X => ?_; simp only [Tryz.ntmps42]; refine rg [0, 1] [501, 502, 503] (notIn_ok rfl) fun K' hK' => ?_; (repeat (refine sxn fun K2 hK2 => ?_; simp [dNum, bRow, dS, pairA, assertA, ofOk, zeroM]; (repeat (refine ⟨by omega, ?_⟩)); refine hK2 _ ?_; clear hK2 K2)); refine sxz (hK' _ (AW.st (by simp [dNum, bRow, dS, pairA, assertA, ofOk, zeroM]; rfl) ?_)); clear hK' K'; refine AW_then fun K1 hK1 => ?_; refine rg [0, 1, 20] [501, 502, 503] (notIn_ok rfl) fun K' hK' => ?_; (repeat (refine sxn fun K2 hK2 => ?_; simp [dNum, bRow, dS, pairA, assertA, ofOk, zeroM]; (repeat (refine ⟨by omega, ?_⟩)); refine hK2 _ ?_; clear hK2 K2)); refine sxz (hK' _ (AW.st (by simp [dNum, bRow, dS, pairA, assertA, ofOk, zeroM]; rfl) ?_)); clear hK' K'; refine AW_block ?_; refine rg [0, 1, 20, 22, 23] [501, 502, 503] (notIn_ok rfl) fun K' hK' => ?_; (repeat (refine sxn fun K2 hK2 => ?_; simp [dNum, bRow, dS, pairA, assertA, ofOk, zeroM]; (repeat (refine ⟨by omega, ?_⟩)); refine hK2 _ ?_; clear hK2 K2)); refine sxz (hK' _ (AW.st (by simp [dNum, bRow, dS, pairA, assertA, ofOk, zeroM]; rfl) ?_)); clear hK' K'; refine AW_ff rfl ?_; refine rg [0, 1, 20, 31, 32] [501, 502, 503] (notIn_ok rfl) fun K' hK' => ?_; (repeat (refine sxn fun K2 hK2 => ?_; simp [dNum, bRow, dS, pairA, assertA, ofOk, zeroM]; (repeat (refine ⟨by omega, ?_⟩)); refine hK2 _ ?_; clear hK2 K2)); refine sxz (hK' _ (AW.st (by simp [dNum, bRow, dS, pairA, assertA, ofOk, zeroM]; rfl) ?_)); clear hK' K'; refine AW_ff rfl ?_; refine rg [0, 1, 20, 51, 52] [501, 502, 503] (notIn_ok rfl) fun K' hK' => ?_; (repeat (refine sxn fun K2 hK2 => ?_; simp [dNum, bRow, dS, pairA, assertA, ofOk, zeroM]; (repeat (refine ⟨by omega, ?_⟩)); refine hK2 _ ?_; clear hK2 K2)); refine sxz (hK' _ (AW.st (by simp [dNum, bRow, dS, pairA, assertA, ofOk, zeroM]; rfl) ?_)); clear hK' K'; refine AW_tt rfl ?_; refine rg [0, 7] [501, 502, 503] (notIn_ok rfl) fun K' hK' => ?_; (repeat (refine sxn fun K2 hK2 => ?_; simp [dNum, bRow, dS, pairA, assertA, ofOk, zeroM]; (repeat (refine ⟨by omega, ?_⟩)); refine hK2 _ ?_; clear hK2 K2)); refine sxz (hK' _ (AW.st (by simp [dNum, bRow, dS, pairA, assertA, ofOk, zeroM]; rfl) ?_)); clear hK' K'; refine AW_rm (tyOf_good _) (by kernel_rfl) ([502]) ([15]) ([16]) ([]) (List.range 18) [4] [501, 502, 503] (notIn_ok rfl) (by kernel_rfl) (by simp [OffE]) fun K' hK' => ?_; (repeat (refine sxm_nextO rfl fun K2 hK2 => ?_; simp [dNum, bRow, dS, pairA, assertA, ofOk, zeroM, hg, hg2, hk1, hb, h94, binS, bs_size, dRow, dInts]; (repeat (refine ⟨by omega, ?_⟩)); refine hK2 _ ?_; clear hK2 K2)); refine sxm_nextO rfl fun K2 hK2 => ?_; simp [dNum, bRow, dS, pairA, assertA, ofOk, zeroM, hg, hg2, hk1, hb, h94, binS, bs_size, dRow, dInts]; refine hcK.mc (ha) (by simp [dNum, bRow, dS, pairA, assertA, ofOk, zeroM, hg, hg2, hk1, hb, h94, binS, bs_size, dRow, dInts]) (by simp [dNum, bRow, dS, pairA, assertA, ofOk, zeroM, hg, hg2, hk1, hb, h94, binS, bs_size, dRow, dInts]) (by simp [dNum, bRow, dS, pairA, assertA, ofOk, zeroM, hg, hg2, hk1, hb, h94, binS, bs_size, dRow, dInts]) (by simp [dNum, bRow, dS, pairA, assertA, ofOk, zeroM, hg, hg2, hk1, hb, h94, binS, bs_size, dRow, dInts]) (by simp [dNum, bRow, dS, pairA, assertA, ofOk, zeroM, hg, hg2, hk1, hb, h94, binS, bs_size, dRow, dInts]) (by simp [dNum, bRow, dS, pairA, assertA, ofOk, zeroM, hg, hg2, hk1, hb, h94, binS, bs_size, dRow, dInts]) (by simp [LdSame, dNum, bRow, dS, pairA, assertA, ofOk, zeroM, hg, hg2, hk1, hb, h94, binS, bs_size, dRow, dInts]) ?_
   simp [dNum, bRow, dS, pairA, assertA, ofOk, zeroM, hg, hg2, hk1, hb, h94, binS, bs_size, dRow, dInts]; refine hK2 _ ?_; clear hK2 K2; (repeat (refine sxm_nextO rfl fun K2 hK2 => ?_; simp [dNum, bRow, dS, pairA, assertA, ofOk, zeroM, hg, hg2, hk1, hb, h94, binS, bs_size, dRow, dInts]; (repeat (refine ⟨by omega, ?_⟩)); refine hK2 _ ?_; clear hK2 K2)); refine sxm_nilO (hK' _ ?_); refine AW.st (by simp [dNum, bRow, dS, pairA, assertA, ofOk, zeroM, hg, hg2, hk1, hb, h94, binS, bs_size, dRow, dInts]; rfl) ?_; clear hK' K'; refine AW_ret ?_; simp [bRow, dNum, D.le, dRow, dInts]
  | not x =>
   rw [WfE] at hw
   have hN' : ∀ s ∈ nmsE true x, s ∈ ns := fun s h => hN s (by rw [nmsE]; exact h)
   have hE' : ∀ s ∈ nmsE false x, s ∈ es := fun s h => hE s (by rw [nmsE]; exact h)
   simp only [szN] at hV2 hC
   have hc := ih x (by simp at hsz; omega) hN' hE' hw V cs hV (by omega) (by omega)
   have hin := lit_inW ns es x hN' hE' hw (V, cs) hV (by dsimp only; omega)
   rw [litG, dE]
   obtain ⟨tx, cx, hx⟩ := dE_ifc x
   rw [hx] at hc ⊢; generalize litG ns es x (V, cs) = R at hc hin ⊢; refine MC.of_body (tyOf_good _) Tryz.func42 rfl rfl (rs := [.tmp 4]) Tryz.results42 (by simp [Tryz.ntmps42]) rfl fun X => ?_; simp only [Tryz.ntmps42]; refine rg [0, 1] [501, 502, 503] (notIn_ok rfl) fun K' hK' => ?_; (repeat (refine sxn fun K2 hK2 => ?_; simp [dNum, bRow, dS, pairA, assertA, ofOk, zeroM]; (repeat (refine ⟨by omega, ?_⟩)); refine hK2 _ ?_; clear hK2 K2)); refine sxz (hK' _ (AW.st (by simp [dNum, bRow, dS, pairA, assertA, ofOk, zeroM]; rfl) ?_)); clear hK' K'; refine AW_then fun K1 hK1 => ?_; refine rg [0, 1, 20] [501, 502, 503] (notIn_ok rfl) fun K' hK' => ?_; (repeat (refine sxn fun K2 hK2 => ?_; simp [dNum, bRow, dS, pairA, assertA, ofOk, zeroM]; (repeat (refine ⟨by omega, ?_⟩)); refine hK2 _ ?_; clear hK2 K2)); refine sxz (hK' _ (AW.st (by simp [dNum, bRow, dS, pairA, assertA, ofOk, zeroM]; rfl) ?_)); clear hK' K'; refine AW_block ?_; refine rg [0, 1, 20, 22, 23] [501, 502, 503] (notIn_ok rfl) fun K' hK' => ?_; (repeat (refine sxn fun K2 hK2 => ?_; simp [dNum, bRow, dS, pairA, assertA, ofOk, zeroM]; (repeat (refine ⟨by omega, ?_⟩)); refine hK2 _ ?_; clear hK2 K2)); refine sxz (hK' _ (AW.st (by simp [dNum, bRow, dS, pairA, assertA, ofOk, zeroM]; rfl) ?_)); clear hK' K'; refine AW_ff rfl ?_; refine rg [0, 1, 20, 31, 32] [501, 502, 503] (notIn_ok rfl) fun K' hK' => ?_; (repeat (refine sxn fun K2 hK2 => ?_; simp [dNum, bRow, dS, pairA, assertA, ofOk, zeroM]; (repeat (refine ⟨by omega, ?_⟩)); refine hK2 _ ?_; clear hK2 K2)); refine sxz (hK' _ (AW.st (by simp [dNum, bRow, dS, pairA, assertA, ofOk, zeroM]; rfl) ?_)); clear hK' K'; refine AW_ff rfl ?_; refine rg [0, 1, 20, 51, 52] [501, 502, 503] (notIn_ok rfl) fun K' hK' => ?_; (repeat (refine sxn fun K2 hK2 => ?_; simp [dNum, bRow, dS, pairA, assertA, ofOk, zeroM]; (repeat (refine ⟨by omega, ?_⟩)); refine hK2 _ ?_; clear hK2 K2)); refine sxz (hK' _ (AW.st (by simp [dNum, bRow, dS, pairA, assertA, ofOk, zeroM]; rfl) ?_)); clear hK' K'; refine AW_ff rfl ?_; refine rg [0, 1, 20, 71, 72] [501, 502, 503] (notIn_ok rfl) fun K' hK' => ?_; (repeat (refine sxn fun K2 hK2 => ?_; simp [dNum, bRow, dS, pairA, assertA, ofOk, zeroM]; (repeat (refine ⟨by omega, ?_⟩)); refine hK2 _ ?_; clear hK2 K2)); refine sxz (hK' _ (AW.st (by simp [dNum, bRow, dS, pairA, assertA, ofOk, zeroM]; rfl) ?_)); clear hK' K'; refine AW_tt rfl ?_; refine rg [0, 8] [501, 502, 503, 8] (notIn_ok rfl) fun K' hK' => ?_; (repeat (refine sxn fun K2 hK2 => ?_; simp [dNum, bRow, dS, pairA, assertA, ofOk, zeroM]; (repeat (refine ⟨by omega, ?_⟩)); refine hK2 _ ?_; clear hK2 K2)); refine sxz (hK' _ (AW.st (by simp [dNum, bRow, dS, pairA, assertA, ofOk, zeroM]; rfl) ?_)); clear hK' K'; refine rg [4] [501, 502, 503] (notIn_ok rfl) fun K' hK' => ?_; (repeat (refine sxn fun K2 hK2 => ?_; simp [dNum, bRow, dS, pairA, assertA, ofOk, zeroM]; (repeat (refine ⟨by omega, ?_⟩)); refine hK2 _ ?_; clear hK2 K2)); refine sxn fun K2 hK2 => ?_; simp [dNum, bRow, dS, pairA, assertA, ofOk, zeroM]
   refine callK.mc (hc) ?_ ?_ ?_ ?_ ?_ <;> simp [dNum, bRow, dS, pairA, assertA, ofOk, zeroM]; refine hK2 _ ?_; clear hK2 K2; (repeat (refine sxn fun K2 hK2 => ?_; simp [dNum, bRow, dS, pairA, assertA, ofOk, zeroM]; (repeat (refine ⟨by omega, ?_⟩)); refine hK2 _ ?_; clear hK2 K2)); refine sxz (hK' _ (AW.st (by simp [dNum, bRow, dS, pairA, assertA, ofOk, zeroM]; rfl) ?_)); clear hK' K'; refine AW_ret ?_; simp [bRow, dNum, D.le, dRow, dInts]
  | and l =>
   rw [WfE] at hw
   have hwl := (WfEs_iff l).1 hw.2
   have hN' : ∀ s ∈ nmsL true l, s ∈ ns := fun s h => hN s (by rw [nmsE]; exact h)
   have hE' : ∀ s ∈ nmsL false l, s ∈ es := fun s h => hE s (by rw [nmsE]; exact h)
   simp only [szN] at hV2 hC
   have hch : ∀ x ∈ l, LitAt G ns es ents x := fun x hx => ih x (by have := List.sizeOf_lt_of_mem hx; simp only [Ex.and.sizeOf_spec] at hsz; omega) (fun s h => hN' s (nms_at hx h)) (fun s h => hE' s (nms_at hx h)) (hwl x hx)
   have hlb := len_szNs l
   have hpre : ∀ i, i ≤ l.length → ns.length + es.length ≤ (litsG ns es (l.take i) (V, cs)).2.1 ∧ (litsG ns es (l.take i) (V, cs)).2.1 ≤ V + szNs (l.take i) ∧ (litsG ns es (l.take i) (V, cs)).2.2.length + i ≤ cs.length + 4 * szNs (l.take i) := fun i hi => by
    have h1 := litsG_size ns es (l.take i) (V, cs)
    have h2 := litsG_vars ns es (l.take i) (V, cs)
    rw [List.length_take] at h1
    have : min i l.length = i := by omega
    rw [this] at h1
    dsimp only at h1 h2
    exact ⟨by omega, h1.1, h1.2⟩
   have hall := lits_inW ns es l hN' hE' hwl (V, cs) hV (by dsimp only; omega)
   rw [litG, dE, dEs_map]; refine MC.of_body (tyOf_good _) Tryz.func42 rfl rfl (rs := [.tmp 4]) Tryz.results42 (by simp [Tryz.ntmps42]) rfl fun X => ?_; simp only [Tryz.ntmps42]; refine rg [0, 1] [501, 502, 503] (notIn_ok rfl) fun K' hK' => ?_; (repeat (refine sxn fun K2 hK2 => ?_; simp [dNum, bRow, dS, pairA, assertA, ofOk, zeroM]; (repeat (refine ⟨by omega, ?_⟩)); refine hK2 _ ?_; clear hK2 K2)); refine sxz (hK' _ (AW.st (by simp [dNum, bRow, dS, pairA, assertA, ofOk, zeroM]; rfl) ?_)); clear hK' K'; refine AW_then fun K1 hK1 => ?_; refine rg [0, 1, 20] [501, 502, 503] (notIn_ok rfl) fun K' hK' => ?_; (repeat (refine sxn fun K2 hK2 => ?_; simp [dNum, bRow, dS, pairA, assertA, ofOk, zeroM]; (repeat (refine ⟨by omega, ?_⟩)); refine hK2 _ ?_; clear hK2 K2)); refine sxz (hK' _ (AW.st (by simp [dNum, bRow, dS, pairA, assertA, ofOk, zeroM]; rfl) ?_)); clear hK' K'; refine AW_block ?_; refine rg [0, 1, 20, 22, 23] [501, 502, 503] (notIn_ok rfl) fun K' hK' => ?_; (repeat (refine sxn fun K2 hK2 => ?_; simp [dNum, bRow, dS, pairA, assertA, ofOk, zeroM]; (repeat (refine ⟨by omega, ?_⟩)); refine hK2 _ ?_; clear hK2 K2)); refine sxz (hK' _ (AW.st (by simp [dNum, bRow, dS, pairA, assertA, ofOk, zeroM]; rfl) ?_)); clear hK' K'; refine AW_ff rfl ?_; refine rg [0, 1, 20, 31, 32] [501, 502, 503] (notIn_ok rfl) fun K' hK' => ?_; (repeat (refine sxn fun K2 hK2 => ?_; simp [dNum, bRow, dS, pairA, assertA, ofOk, zeroM]; (repeat (refine ⟨by omega, ?_⟩)); refine hK2 _ ?_; clear hK2 K2)); refine sxz (hK' _ (AW.st (by simp [dNum, bRow, dS, pairA, assertA, ofOk, zeroM]; rfl) ?_)); clear hK' K'; refine AW_ff rfl ?_; refine rg [0, 1, 20, 51, 52] [501, 502, 503] (notIn_ok rfl) fun K' hK' => ?_; (repeat (refine sxn fun K2 hK2 => ?_; simp [dNum, bRow, dS, pairA, assertA, ofOk, zeroM]; (repeat (refine ⟨by omega, ?_⟩)); refine hK2 _ ?_; clear hK2 K2)); refine sxz (hK' _ (AW.st (by simp [dNum, bRow, dS, pairA, assertA, ofOk, zeroM]; rfl) ?_)); clear hK' K'; refine AW_ff rfl ?_; refine rg [0, 1, 20, 71, 72] [501, 502, 503] (notIn_ok rfl) fun K' hK' => ?_; (repeat (refine sxn fun K2 hK2 => ?_; simp [dNum, bRow, dS, pairA, assertA, ofOk, zeroM]; (repeat (refine ⟨by omega, ?_⟩)); refine hK2 _ ?_; clear hK2 K2)); refine sxz (hK' _ (AW.st (by simp [dNum, bRow, dS, pairA, assertA, ofOk, zeroM]; rfl) ?_)); clear hK' K'; refine AW_ff rfl ?_; refine rg [0, 1, 20, 79, 80] [501, 502, 503] (notIn_ok rfl) fun K' hK' => ?_; (repeat (refine sxn fun K2 hK2 => ?_; simp [dNum, bRow, dS, pairA, assertA, ofOk, zeroM]; (repeat (refine ⟨by omega, ?_⟩)); refine hK2 _ ?_; clear hK2 K2)); refine sxz (hK' _ (AW.st (by simp [dNum, bRow, dS, pairA, assertA, ofOk, zeroM]; rfl) ?_)); clear hK' K'; refine AW_tt rfl ?_; refine rg [0, 9] [501, 502, 503] (notIn_ok rfl) fun K' hK' => ?_; (repeat (refine sxn fun K2 hK2 => ?_; simp [dNum, bRow, dS, pairA, assertA, ofOk, zeroM]; (repeat (refine ⟨by omega, ?_⟩)); refine hK2 _ ?_; clear hK2 K2)); refine sxz (hK' _ (AW.st (by simp [dNum, bRow, dS, pairA, assertA, ofOk, zeroM]; rfl) ?_)); clear hK' K'
   refine rg [0, 9, 10] [501, 502, 503] (notIn_ok rfl) fun K' hK' => ?_; (repeat (refine sxn fun K2 hK2 => ?_; simp [dNum, bRow, dS, pairA, assertA, ofOk, zeroM]; (repeat (refine ⟨by omega, ?_⟩)); refine hK2 _ ?_; clear hK2 K2)); refine sxz (hK' _ (AW.st (by simp [dNum, bRow, dS, pairA, assertA, ofOk, zeroM]; rfl) ?_)); clear hK' K'; refine AW_then fun K2 hK2 => ?_; refine rg [0, 10, 81, 82, 83] [501, 502, 503] (notIn_ok rfl) fun K' hK' => ?_; (repeat (refine sxn fun K2 hK2 => ?_; simp [dNum, bRow, dS, pairA, assertA, ofOk, zeroM]; (repeat (refine ⟨by omega, ?_⟩)); refine hK2 _ ?_; clear hK2 K2)); refine sxz (hK' _ (AW.st (by simp [dNum, bRow, dS, pairA, assertA, ofOk, zeroM]; rfl) ?_)); clear hK' K'; refine AW_for (S := Nat) (fun i => i ≤ l.length) (fun i => ⟨lst [(0, .ref 501 0 0), (10, .own 300 0 i), (81, .d (.sl none (l.map fun x => [dE x]))), (82, int l.length), (83, int i)], hlst (bRow (litsG ns es (l.take i) (V, cs)).2.1 (litsG ns es (l.take i) (V, cs)).2.2 ents ++ [(300, .sl 3 1 ((litsG ns es (l.take i) (V, cs)).1.map fun x => [dNum (x)]))])⟩) (fun i => l.length - i) 0 ?_ (by omega) ?_
   ·refine (Imp.adopt 10 300 3 1 rfl rfl).trans ?_; refine Imp.to' (notIn_ok rfl) (by simp [dNum, bRow, dS, pairA, assertA, ofOk, zeroM, litsG]) (by simp [dNum, bRow, dS, pairA, assertA, ofOk, zeroM, litsG])
   ·intro i hi
    refine rg [0, 10, 81, 82, 83, 84] [501, 502, 503, 300] (notIn_ok rfl) fun K' hK' => ?_; (repeat (refine sxn fun K2 hK2 => ?_; simp [dNum, bRow, dS, pairA, assertA, ofOk, zeroM]; (repeat (refine ⟨by omega, ?_⟩)); refine hK2 _ ?_; clear hK2 K2)); refine sxz (hK' _ (AW.st (by simp [dNum, bRow, dS, pairA, assertA, ofOk, zeroM]; rfl) ?_)); clear hK' K'; refine AW_then fun K3 hK3 => ?_; refine AW_cond' (b := i < l.length) (by simp [D.le, D.le.go, takeMap, dNum, bRow, dS, pairA, assertA, ofOk, zeroM]) (fun hc => ?_) (fun hc => ?_)
    ·have hil : i < l.length := hc
     obtain ⟨p1, p2, p3⟩ := hpre i hi
     have htk := litsG_take ns es hil (V, cs)
     have hsz2 := szNs_take hil
     have hsz3 := szNs_le l (i + 1)
     have hll := litsG_len ns es (l.take i) (V, cs)
     rw [List.length_take] at hll
     have hmn : min i l.length = i := by omega
     rw [hmn] at hll
     have hcc := hch _ (List.getElem_mem hil) _ (litsG ns es (l.take i) (V, cs)).2.2 p1 (by omega) (by omega)
     have hin := lit_inW ns es l[i] (fun s h => hN' s (nms_at (List.getElem_mem hil) h)) (fun s h => hE' s (nms_at (List.getElem_mem hil) h)) (hwl _ (List.getElem_mem hil)) (litsG ns es (l.take i) (V, cs)).2 p1 (by omega)
     obtain ⟨tx, cx, hx⟩ := dE_ifc l[i]
     rw [hx] at hcc
     have hpe : ((litsG ns es (l.take i) (V, cs)).2.1, (litsG ns es (l.take i) (V, cs)).2.2) = (litsG ns es (l.take i) (V, cs)).2 := rfl
     rw [hpe] at hcc; generalize litG ns es l[i] (litsG ns es (l.take i) (V, cs)).2 = R at hcc hin htk; generalize litsG ns es (l.take i) (V, cs) = Q at *; refine AW_skip (hK3 _ ?_); refine AW_then fun K4 hK4 => ?_; refine AW_block ?_; refine rg [0, 10, 12, 81, 82, 83] [501, 502, 503, 300] (notIn_ok rfl) fun K' hK' => ?_; (repeat (refine sxn fun K2 hK2 => ?_; simp [dNum, bRow, dS, pairA, assertA, ofOk, zeroM, hil, hx]; (repeat (refine ⟨by omega, ?_⟩)); refine hK2 _ ?_; clear hK2 K2)); refine sxz (hK' _ (AW.st (by simp [dNum, bRow, dS, pairA, assertA, ofOk, zeroM, hil, hx]; rfl) ?_)); clear hK' K'; refine AW_re (tyOf_good _) fun K' hK' => ?_; (repeat (refine sxn fun K2 hK2 => ?_; simp [dNum, bRow, dS, pairA, assertA, ofOk, zeroM]; (repeat (refine ⟨by omega, ?_⟩)); refine hK2 _ ?_; clear hK2 K2)); refine sxn fun K2 hK2 => ?_; simp [dNum, bRow, dS, pairA, assertA, ofOk, zeroM]; refine callK.mc (hcc) ?_ ?_ ?_ ?_ ?_ <;> simp [dNum, bRow, dS, pairA, assertA, ofOk, zeroM]; refine hK2 _ ?_; clear hK2 K2; (repeat (refine sxn fun K2 hK2 => ?_; simp [dNum, bRow, dS, pairA, assertA, ofOk, zeroM]; (repeat (refine ⟨by omega, ?_⟩)); refine hK2 _ ?_; clear hK2 K2)); refine sxz (hK' _ ?_); clear hK' K'; refine hK4 _ (AW.norm [0, 10, 81, 82, 83] [501, 502, 503, 300] (notIn_ok rfl) (AW.st (by simp [dNum, bRow, dS, pairA, assertA, ofOk, zeroM]; rfl) ?_)); refine AW_re (tyOf_good _) fun K' hK' => ?_; (repeat (refine sxn fun K2 hK2 => ?_; simp [dNum, bRow, dS, pairA, assertA, ofOk, zeroM]; (repeat (refine ⟨by omega, ?_⟩)); refine hK2 _ ?_; clear hK2 K2)); refine sxz (hK' _ ?_); clear hK' K'; (try simp only [thn, inb]); refine Again.mk (i + 1) (by omega) (by omega) ?_
     have hq2 : ∀ f : Int → List D, List.take i (Q.1.map f) = Q.1.map f := fun f => List.take_of_length_le (by rw [List.length_map]; omega)
     refine Imp.to' (notIn_ok rfl) (by simp [dNum, bRow, dS, pairA, assertA, ofOk, zeroM, htk, hll, hq2]) (by simp [dNum, bRow, dS, pairA, assertA, ofOk, zeroM, htk, hll, hq2])
    ·obtain rfl : i = l.length := by omega
     obtain ⟨p1, p2, p3⟩ := hpre l.length (Nat.le_refl _)
     rw [List.take_length] at p1 p2 p3 ⊢
     have hll := litsG_len ns es l (V, cs)
     generalize litsG ns es l (V, cs) = Q at *
     have ha := gand_spec G Q.2.1 (by omega) Q.2.2 (by omega) ents Q.1 (by omega) (fun x hx => by have := hall x hx; unfold inW; omega)
     have hpe : (Q.2.1, Q.2.2) = Q.2 := rfl
     rw [hpe] at ha
     obtain ⟨R, hR⟩ : ∃ R, mkAnd Q.1 Q.2 = R := ⟨_, rfl⟩
     rw [hR] at ha; refine AW_exit (hK2 _ ?_); refine rg [4] [501, 502, 503] (notIn_ok rfl) fun K' hK' => ?_; (repeat (refine sxn fun K2 hK2 => ?_; simp [dNum, bRow, dS, pairA, assertA, ofOk, zeroM, dRow, dInts, hll, takeMap, Function.comp_def]; (repeat (refine ⟨by omega, ?_⟩)); refine hK2 _ ?_; clear hK2 K2)); refine sxn fun K2 hK2 => ?_; simp [dNum, bRow, dS, pairA, assertA, ofOk, zeroM, dRow, dInts, hll, takeMap, Function.comp_def]; refine callK.frz 300 (by first | rfl | (simp [dNum, bRow, dS, pairA, assertA, ofOk, zeroM, dRow, dInts, hll, takeMap, Function.comp_def]; rfl)) (by decide) ?_; simp [dNum, bRow, dS, pairA, assertA, ofOk, zeroM, dRow, dInts, hll, takeMap, Function.comp_def]; refine callK.mc (ha) ?_ ?_ ?_ ?_ ?_ <;> simp [dNum, bRow, dS, pairA, assertA, ofOk, zeroM, dRow, dInts, hll, takeMap, Function.comp_def]; refine hK2 _ ?_; clear hK2 K2; (repeat (refine sxn fun K2 hK2 => ?_; simp [dNum, bRow, dS, pairA, assertA, ofOk, zeroM, dRow, dInts, hll, takeMap, Function.comp_def]; (repeat (refine ⟨by omega, ?_⟩)); refine hK2 _ ?_; clear hK2 K2)); refine sxz (hK' _ (AW.st (by simp [dNum, bRow, dS, pairA, assertA, ofOk, zeroM, dRow, dInts, hll, takeMap, Function.comp_def]; rfl) ?_)); clear hK' K'; refine AW_ret ?_; simp [hR, bRow, dNum, D.le, dRow, dInts]
  | or l =>
   rw [WfE] at hw
   have hwl := (WfEs_iff l).1 hw.2
   have hN' : ∀ s ∈ nmsL true l, s ∈ ns := fun s h => hN s (by rw [nmsE]; exact h)
   have hE' : ∀ s ∈ nmsL false l, s ∈ es := fun s h => hE s (by rw [nmsE]; exact h)
   simp only [szN] at hV2 hC
   have hch : ∀ x ∈ l, LitAt G ns es ents x := fun x hx => ih x (by have := List.sizeOf_lt_of_mem hx; simp only [Ex.or.sizeOf_spec] at hsz; omega) (fun s h => hN' s (nms_at hx h)) (fun s h => hE' s (nms_at hx h)) (hwl x hx)
   have hlb := len_szNs l
   have hpre : ∀ i, i ≤ l.length → ns.length + es.length ≤ (litsG ns es (l.take i) (V, cs)).2.1 ∧ (litsG ns es (l.take i) (V, cs)).2.1 ≤ V + szNs (l.take i) ∧ (litsG ns es (l.take i) (V, cs)).2.2.length + i ≤ cs.length + 4 * szNs (l.take i) := fun i hi => by
    have h1 := litsG_size ns es (l.take i) (V, cs)
    have h2 := litsG_vars ns es (l.take i) (V, cs)
    rw [List.length_take] at h1
    have : min i l.length = i := by omega
    rw [this] at h1
    dsimp only at h1 h2
    exact ⟨by omega, h1.1, h1.2⟩
   have hall := lits_inW ns es l hN' hE' hwl (V, cs) hV (by dsimp only; omega)
   rw [litG, dE, dEs_map]; refine MC.of_body (tyOf_good _) Tryz.func42 rfl rfl (rs := [.tmp 4]) Tryz.results42 (by simp [Tryz.ntmps42]) rfl fun X => ?_; simp only [Tryz.ntmps42]; refine rg [0, 1] [501, 502, 503] (notIn_ok rfl) fun K' hK' => ?_; (repeat (refine sxn fun K2 hK2 => ?_; simp [dNum, bRow, dS, pairA, assertA, ofOk, zeroM]; (repeat (refine ⟨by omega, ?_⟩)); refine hK2 _ ?_; clear hK2 K2)); refine sxz (hK' _ (AW.st (by simp [dNum, bRow, dS, pairA, assertA, ofOk, zeroM]; rfl) ?_)); clear hK' K'; refine AW_then fun K1 hK1 => ?_; refine rg [0, 1, 20] [501, 502, 503] (notIn_ok rfl) fun K' hK' => ?_; (repeat (refine sxn fun K2 hK2 => ?_; simp [dNum, bRow, dS, pairA, assertA, ofOk, zeroM]; (repeat (refine ⟨by omega, ?_⟩)); refine hK2 _ ?_; clear hK2 K2)); refine sxz (hK' _ (AW.st (by simp [dNum, bRow, dS, pairA, assertA, ofOk, zeroM]; rfl) ?_)); clear hK' K'; refine AW_block ?_; refine rg [0, 1, 20, 22, 23] [501, 502, 503] (notIn_ok rfl) fun K' hK' => ?_; (repeat (refine sxn fun K2 hK2 => ?_; simp [dNum, bRow, dS, pairA, assertA, ofOk, zeroM]; (repeat (refine ⟨by omega, ?_⟩)); refine hK2 _ ?_; clear hK2 K2)); refine sxz (hK' _ (AW.st (by simp [dNum, bRow, dS, pairA, assertA, ofOk, zeroM]; rfl) ?_)); clear hK' K'; refine AW_ff rfl ?_; refine rg [0, 1, 20, 31, 32] [501, 502, 503] (notIn_ok rfl) fun K' hK' => ?_; (repeat (refine sxn fun K2 hK2 => ?_; simp [dNum, bRow, dS, pairA, assertA, ofOk, zeroM]; (repeat (refine ⟨by omega, ?_⟩)); refine hK2 _ ?_; clear hK2 K2)); refine sxz (hK' _ (AW.st (by simp [dNum, bRow, dS, pairA, assertA, ofOk, zeroM]; rfl) ?_)); clear hK' K'; refine AW_ff rfl ?_; refine rg [0, 1, 20, 51, 52] [501, 502, 503] (notIn_ok rfl) fun K' hK' => ?_; (repeat (refine sxn fun K2 hK2 => ?_; simp [dNum, bRow, dS, pairA, assertA, ofOk, zeroM]; (repeat (refine ⟨by omega, ?_⟩)); refine hK2 _ ?_; clear hK2 K2)); refine sxz (hK' _ (AW.st (by simp [dNum, bRow, dS, pairA, assertA, ofOk, zeroM]; rfl) ?_)); clear hK' K'; refine AW_ff rfl ?_; refine rg [0, 1, 20, 71, 72] [501, 502, 503] (notIn_ok rfl) fun K' hK' => ?_; (repeat (refine sxn fun K2 hK2 => ?_; simp [dNum, bRow, dS, pairA, assertA, ofOk, zeroM]; (repeat (refine ⟨by omega, ?_⟩)); refine hK2 _ ?_; clear hK2 K2)); refine sxz (hK' _ (AW.st (by simp [dNum, bRow, dS, pairA, assertA, ofOk, zeroM]; rfl) ?_)); clear hK' K'; refine AW_ff rfl ?_; refine rg [0, 1, 20, 79, 80] [501, 502, 503] (notIn_ok rfl) fun K' hK' => ?_; (repeat (refine sxn fun K2 hK2 => ?_; simp [dNum, bRow, dS, pairA, assertA, ofOk, zeroM]; (repeat (refine ⟨by omega, ?_⟩)); refine hK2 _ ?_; clear hK2 K2)); refine sxz (hK' _ (AW.st (by simp [dNum, bRow, dS, pairA, assertA, ofOk, zeroM]; rfl) ?_)); clear hK' K'; refine AW_ff rfl ?_; refine rg [0, 1, 98, 99] [501, 502, 503] (notIn_ok rfl) fun K' hK' => ?_; (repeat (refine sxn fun K2 hK2 => ?_; simp [dNum, bRow, dS, pairA, assertA, ofOk, zeroM]; (repeat (refine ⟨by omega, ?_⟩)); refine hK2 _ ?_; clear hK2 K2)); refine sxz (hK' _ (AW.st (by simp [dNum, bRow, dS, pairA, assertA, ofOk, zeroM]; rfl) ?_)); clear hK' K'
   refine AW_tt rfl ?_; refine rg [0, 13] [501, 502, 503] (notIn_ok rfl) fun K' hK' => ?_; (repeat (refine sxn fun K2 hK2 => ?_; simp [dNum, bRow, dS, pairA, assertA, ofOk, zeroM]; (repeat (refine ⟨by omega, ?_⟩)); refine hK2 _ ?_; clear hK2 K2)); refine sxz (hK' _ (AW.st (by simp [dNum, bRow, dS, pairA, assertA, ofOk, zeroM]; rfl) ?_)); clear hK' K'; refine rg [0, 13, 14] [501, 502, 503] (notIn_ok rfl) fun K' hK' => ?_; (repeat (refine sxn fun K2 hK2 => ?_; simp [dNum, bRow, dS, pairA, assertA, ofOk, zeroM]; (repeat (refine ⟨by omega, ?_⟩)); refine hK2 _ ?_; clear hK2 K2)); refine sxz (hK' _ (AW.st (by simp [dNum, bRow, dS, pairA, assertA, ofOk, zeroM]; rfl) ?_)); clear hK' K'; refine AW_then fun K2 hK2 => ?_; refine rg [0, 14, 100, 101, 102] [501, 502, 503] (notIn_ok rfl) fun K' hK' => ?_; (repeat (refine sxn fun K2 hK2 => ?_; simp [dNum, bRow, dS, pairA, assertA, ofOk, zeroM]; (repeat (refine ⟨by omega, ?_⟩)); refine hK2 _ ?_; clear hK2 K2)); refine sxz (hK' _ (AW.st (by simp [dNum, bRow, dS, pairA, assertA, ofOk, zeroM]; rfl) ?_)); clear hK' K'; refine AW_for (S := Nat) (fun i => i ≤ l.length) (fun i => ⟨lst [(0, .ref 501 0 0), (14, .own 300 0 i), (100, .d (.sl none (l.map fun x => [dE x]))), (101, int l.length), (102, int i)], hlst (bRow (litsG ns es (l.take i) (V, cs)).2.1 (litsG ns es (l.take i) (V, cs)).2.2 ents ++ [(300, .sl 3 1 ((litsG ns es (l.take i) (V, cs)).1.map fun x => [dNum (-x)]))])⟩) (fun i => l.length - i) 0 ?_ (by omega) ?_
   ·refine (Imp.adopt 14 300 3 1 rfl rfl).trans ?_; refine Imp.to' (notIn_ok rfl) (by simp [dNum, bRow, dS, pairA, assertA, ofOk, zeroM, litsG]) (by simp [dNum, bRow, dS, pairA, assertA, ofOk, zeroM, litsG])
   ·intro i hi
    refine rg [0, 14, 100, 101, 102, 103] [501, 502, 503, 300] (notIn_ok rfl) fun K' hK' => ?_; (repeat (refine sxn fun K2 hK2 => ?_; simp [dNum, bRow, dS, pairA, assertA, ofOk, zeroM]; (repeat (refine ⟨by omega, ?_⟩)); refine hK2 _ ?_; clear hK2 K2)); refine sxz (hK' _ (AW.st (by simp [dNum, bRow, dS, pairA, assertA, ofOk, zeroM]; rfl) ?_)); clear hK' K'; refine AW_then fun K3 hK3 => ?_; refine AW_cond' (b := i < l.length) (by simp [D.le, D.le.go, takeMap, dNum, bRow, dS, pairA, assertA, ofOk, zeroM]) (fun hc => ?_) (fun hc => ?_)
    ·have hil : i < l.length := hc
     obtain ⟨p1, p2, p3⟩ := hpre i hi
     have htk := litsG_take ns es hil (V, cs)
     have hsz2 := szNs_take hil
     have hsz3 := szNs_le l (i + 1)
     have hll := litsG_len ns es (l.take i) (V, cs)
     rw [List.length_take] at hll
     have hmn : min i l.length = i := by omega
     rw [hmn] at hll
     have hcc := hch _ (List.getElem_mem hil) _ (litsG ns es (l.take i) (V, cs)).2.2 p1 (by omega) (by omega)
     have hin := lit_inW ns es l[i] (fun s h => hN' s (nms_at (List.getElem_mem hil) h)) (fun s h => hE' s (nms_at (List.getElem_mem hil) h)) (hwl _ (List.getElem_mem hil)) (litsG ns es (l.take i) (V, cs)).2 p1 (by omega)
     obtain ⟨tx, cx, hx⟩ := dE_ifc l[i]
     rw [hx] at hcc
     have hpe : ((litsG ns es (l.take i) (V, cs)).2.1, (litsG ns es (l.take i) (V, cs)).2.2) = (litsG ns es (l.take i) (V, cs)).2 := rfl
     rw [hpe] at hcc; generalize litG ns es l[i] (litsG ns es (l.take i) (V, cs)).2 = R at hcc hin htk; generalize litsG ns es (l.take i) (V, cs) = Q at *; refine AW_skip (hK3 _ ?_); refine AW_then fun K4 hK4 => ?_; refine AW_block ?_; refine rg [0, 14, 16, 100, 101, 102] [501, 502, 503, 300] (notIn_ok rfl) fun K' hK' => ?_; (repeat (refine sxn fun K2 hK2 => ?_; simp [dNum, bRow, dS, pairA, assertA, ofOk, zeroM, hil, hx]; (repeat (refine ⟨by omega, ?_⟩)); refine hK2 _ ?_; clear hK2 K2)); refine sxz (hK' _ (AW.st (by simp [dNum, bRow, dS, pairA, assertA, ofOk, zeroM, hil, hx]; rfl) ?_)); clear hK' K'; refine AW_re (tyOf_good _) fun K' hK' => ?_; (repeat (refine sxn fun K2 hK2 => ?_; simp [dNum, bRow, dS, pairA, assertA, ofOk, zeroM]; (repeat (refine ⟨by omega, ?_⟩)); refine hK2 _ ?_; clear hK2 K2)); refine sxn fun K2 hK2 => ?_; simp [dNum, bRow, dS, pairA, assertA, ofOk, zeroM]; refine callK.mc (hcc) ?_ ?_ ?_ ?_ ?_ <;> simp [dNum, bRow, dS, pairA, assertA, ofOk, zeroM]; refine hK2 _ ?_; clear hK2 K2; (repeat (refine sxn fun K2 hK2 => ?_; simp [dNum, bRow, dS, pairA, assertA, ofOk, zeroM]; (repeat (refine ⟨by omega, ?_⟩)); refine hK2 _ ?_; clear hK2 K2)); refine sxz (hK' _ ?_); clear hK' K'; refine hK4 _ (AW.norm [0, 14, 100, 101, 102] [501, 502, 503, 300] (notIn_ok rfl) (AW.st (by simp [dNum, bRow, dS, pairA, assertA, ofOk, zeroM]; rfl) ?_)); refine AW_re (tyOf_good _) fun K' hK' => ?_; (repeat (refine sxn fun K2 hK2 => ?_; simp [dNum, bRow, dS, pairA, assertA, ofOk, zeroM]; (repeat (refine ⟨by omega, ?_⟩)); refine hK2 _ ?_; clear hK2 K2)); refine sxz (hK' _ ?_); clear hK' K'; (try simp only [thn, inb]); refine Again.mk (i + 1) (by omega) (by omega) ?_
     have hq2 : ∀ f : Int → List D, List.take i (Q.1.map f) = Q.1.map f := fun f => List.take_of_length_le (by rw [List.length_map]; omega)
     refine Imp.to' (notIn_ok rfl) (by simp [dNum, bRow, dS, pairA, assertA, ofOk, zeroM, htk, hll, hq2]) (by simp [dNum, bRow, dS, pairA, assertA, ofOk, zeroM, htk, hll, hq2])
    ·obtain rfl : i = l.length := by omega
     obtain ⟨p1, p2, p3⟩ := hpre l.length (Nat.le_refl _)
     rw [List.take_length] at p1 p2 p3 ⊢
     have hll := litsG_len ns es l (V, cs)
     generalize litsG ns es l (V, cs) = Q at *
     have ha := gand_spec G Q.2.1 (by omega) Q.2.2 (by omega) ents (Q.1.map fun x => -x) (by rw [List.length_map]; omega) (by intro x hx; obtain ⟨y, hy, rfl⟩ := List.mem_map.1 hx; have := hall y hy; unfold inW; omega)
     have hpe : (Q.2.1, Q.2.2) = Q.2 := rfl
     rw [hpe] at ha
     have hbd : -2^60 < (mkAnd (Q.1.map fun x => -x) Q.2).1 ∧ (mkAnd (Q.1.map fun x => -x) Q.2).1 < 2^60 := by simp only [mkAnd]; omega
     obtain ⟨R, hR⟩ : ∃ R, mkAnd (Q.1.map fun x => -x) Q.2 = R := ⟨_, rfl⟩
     rw [hR] at ha hbd; refine AW_exit (hK2 _ ?_); refine rg [4] [501, 502, 503] (notIn_ok rfl) fun K' hK' => ?_; (repeat (refine sxn fun K2 hK2 => ?_; simp [dNum, bRow, dS, pairA, assertA, ofOk, zeroM, dRow, dInts, hll, takeMap, Function.comp_def]; (repeat (refine ⟨by omega, ?_⟩)); refine hK2 _ ?_; clear hK2 K2)); refine sxn fun K2 hK2 => ?_; simp [dNum, bRow, dS, pairA, assertA, ofOk, zeroM, dRow, dInts, hll, takeMap, Function.comp_def]; refine callK.frz 300 (by first | rfl | (simp [dNum, bRow, dS, pairA, assertA, ofOk, zeroM, dRow, dInts, hll, takeMap, Function.comp_def]; rfl)) (by decide) ?_; simp [dNum, bRow, dS, pairA, assertA, ofOk, zeroM, dRow, dInts, hll, takeMap, Function.comp_def]; refine callK.mc (ha) ?_ ?_ ?_ ?_ ?_ <;> simp [dNum, bRow, dS, pairA, assertA, ofOk, zeroM, dRow, dInts, hll, takeMap, Function.comp_def]; refine hK2 _ ?_; clear hK2 K2; (repeat (refine sxn fun K2 hK2 => ?_; simp [dNum, bRow, dS, pairA, assertA, ofOk, zeroM, dRow, dInts, hll, takeMap, Function.comp_def]; (repeat (refine ⟨by omega, ?_⟩)); refine hK2 _ ?_; clear hK2 K2)); refine sxz (hK' _ (AW.st (by simp [dNum, bRow, dS, pairA, assertA, ofOk, zeroM, dRow, dInts, hll, takeMap, Function.comp_def]; rfl) ?_)); clear hK' K'; refine AW_ret ?_; simp [hR, bRow, dNum, D.le, dRow, dInts]
  | cst b =>
   simp only [szN] at hV2 hC
   have hf := fresh_spec G V (by omega) cs ents
   have ha := fun x => add_spec2 G (V + 1) cs (by omega) ents [x]
   rw [litG, dE]; refine MC.of_body (tyOf_good _) Tryz.func42 rfl rfl (rs := [.tmp 4]) Tryz.results42 (by simp [Tryz.ntmps42]) rfl fun X => ?_; simp only [Tryz.ntmps42]; refine rg [0, 1] [501, 502, 503] (notIn_ok rfl) fun K' hK' => ?_; (repeat (refine sxn fun K2 hK2 => ?_; simp [dNum, bRow, dS, pairA, assertA, ofOk, zeroM]; (repeat (refine ⟨by omega, ?_⟩)); refine hK2 _ ?_; clear hK2 K2)); refine sxz (hK' _ (AW.st (by simp [dNum, bRow, dS, pairA, assertA, ofOk, zeroM]; rfl) ?_)); clear hK' K'; refine AW_then fun K1 hK1 => ?_; refine rg [0, 1, 20] [501, 502, 503] (notIn_ok rfl) fun K' hK' => ?_; (repeat (refine sxn fun K2 hK2 => ?_; simp [dNum, bRow, dS, pairA, assertA, ofOk, zeroM]; (repeat (refine ⟨by omega, ?_⟩)); refine hK2 _ ?_; clear hK2 K2)); refine sxz (hK' _ (AW.st (by simp [dNum, bRow, dS, pairA, assertA, ofOk, zeroM]; rfl) ?_)); clear hK' K'; refine AW_block ?_; refine rg [0, 1, 20, 22, 23] [501, 502, 503] (notIn_ok rfl) fun K' hK' => ?_; (repeat (refine sxn fun K2 hK2 => ?_; simp [dNum, bRow, dS, pairA, assertA, ofOk, zeroM]; (repeat (refine ⟨by omega, ?_⟩)); refine hK2 _ ?_; clear hK2 K2)); refine sxz (hK' _ (AW.st (by simp [dNum, bRow, dS, pairA, assertA, ofOk, zeroM]; rfl) ?_)); clear hK' K'; refine AW_ff rfl ?_; refine rg [0, 1, 20, 31, 32] [501, 502, 503] (notIn_ok rfl) fun K' hK' => ?_; (repeat (refine sxn fun K2 hK2 => ?_; simp [dNum, bRow, dS, pairA, assertA, ofOk, zeroM]; (repeat (refine ⟨by omega, ?_⟩)); refine hK2 _ ?_; clear hK2 K2)); refine sxz (hK' _ (AW.st (by simp [dNum, bRow, dS, pairA, assertA, ofOk, zeroM]; rfl) ?_)); clear hK' K'; refine AW_ff rfl ?_; refine rg [0, 1, 20, 51, 52] [501, 502, 503] (notIn_ok rfl) fun K' hK' => ?_; (repeat (refine sxn fun K2 hK2 => ?_; simp [dNum, bRow, dS, pairA, assertA, ofOk, zeroM]; (repeat (refine ⟨by omega, ?_⟩)); refine hK2 _ ?_; clear hK2 K2)); refine sxz (hK' _ (AW.st (by simp [dNum, bRow, dS, pairA, assertA, ofOk, zeroM]; rfl) ?_)); clear hK' K'; refine AW_ff rfl ?_; refine rg [0, 1, 20, 71, 72] [501, 502, 503] (notIn_ok rfl) fun K' hK' => ?_; (repeat (refine sxn fun K2 hK2 => ?_; simp [dNum, bRow, dS, pairA, assertA, ofOk, zeroM]; (repeat (refine ⟨by omega, ?_⟩)); refine hK2 _ ?_; clear hK2 K2)); refine sxz (hK' _ (AW.st (by simp [dNum, bRow, dS, pairA, assertA, ofOk, zeroM]; rfl) ?_)); clear hK' K'; refine AW_ff rfl ?_; refine rg [0, 1, 20, 79, 80] [501, 502, 503] (notIn_ok rfl) fun K' hK' => ?_; (repeat (refine sxn fun K2 hK2 => ?_; simp [dNum, bRow, dS, pairA, assertA, ofOk, zeroM]; (repeat (refine ⟨by omega, ?_⟩)); refine hK2 _ ?_; clear hK2 K2)); refine sxz (hK' _ (AW.st (by simp [dNum, bRow, dS, pairA, assertA, ofOk, zeroM]; rfl) ?_)); clear hK' K'; refine AW_ff rfl ?_; refine rg [0, 1, 98, 99] [501, 502, 503] (notIn_ok rfl) fun K' hK' => ?_; (repeat (refine sxn fun K2 hK2 => ?_; simp [dNum, bRow, dS, pairA, assertA, ofOk, zeroM]; (repeat (refine ⟨by omega, ?_⟩)); refine hK2 _ ?_; clear hK2 K2)); refine sxz (hK' _ (AW.st (by simp [dNum, bRow, dS, pairA, assertA, ofOk, zeroM]; rfl) ?_)); clear hK' K'
   refine AW_ff rfl ?_; refine AW_skip (hK1 _ ?_); refine rg [0, 1, 17] [501, 502, 503] (notIn_ok rfl) fun K' hK' => ?_; (repeat (refine sxn fun K2 hK2 => ?_; simp [dNum, bRow, dS, pairA, assertA, ofOk, zeroM]; (repeat (refine ⟨by omega, ?_⟩)); refine hK2 _ ?_; clear hK2 K2)); refine sxn fun K2 hK2 => ?_; simp [dNum, bRow, dS, pairA, assertA, ofOk, zeroM]; refine callK.mc (hf) ?_ ?_ ?_ ?_ ?_ <;> simp [dNum, bRow, dS, pairA, assertA, ofOk, zeroM]; refine hK2 _ ?_; clear hK2 K2; (repeat (refine sxn fun K2 hK2 => ?_; simp [dNum, bRow, dS, pairA, assertA, ofOk, zeroM]; (repeat (refine ⟨by omega, ?_⟩)); refine hK2 _ ?_; clear hK2 K2)); refine sxz (hK' _ (AW.st (by simp [dNum, bRow, dS, pairA, assertA, ofOk, zeroM]; rfl) ?_)); clear hK' K'; refine AW_then fun K8 hK8 => ?_; refine rg [0, 17, 18, 19] [501, 502, 503] (notIn_ok rfl) fun K' hK' => ?_; (repeat (refine sxn fun K2 hK2 => ?_; simp [dNum, bRow, dS, pairA, assertA, ofOk, zeroM]; (repeat (refine ⟨by omega, ?_⟩)); refine hK2 _ ?_; clear hK2 K2)); refine sxz (hK' _ (AW.st (by simp [dNum, bRow, dS, pairA, assertA, ofOk, zeroM]; rfl) ?_)); clear hK' K'
   cases b with
   | true =>
    refine rg [0, 17, 128] [501, 502, 503] (notIn_ok rfl) fun K' hK' => ?_; (repeat (refine sxn fun K2 hK2 => ?_; simp [dNum, bRow, dS, pairA, assertA, ofOk, zeroM]; (repeat (refine ⟨by omega, ?_⟩)); refine hK2 _ ?_; clear hK2 K2)); refine sxz (hK' _ (AW.st (by simp [dNum, bRow, dS, pairA, assertA, ofOk, zeroM]; rfl) ?_)); clear hK' K'; refine AW_tt rfl ?_
    have ha := ha ((V : Int) + 1)
    refine AW_re (tyOf_good _) fun K' hK' => ?_; (repeat (refine sxn fun K2 hK2 => ?_; simp [dNum, bRow, dS, pairA, assertA, ofOk, zeroM, dRow, dInts]; (repeat (refine ⟨by omega, ?_⟩)); refine hK2 _ ?_; clear hK2 K2)); refine sxn fun K2 hK2 => ?_; simp [dNum, bRow, dS, pairA, assertA, ofOk, zeroM, dRow, dInts]; refine callK.frz 131 (by first | rfl | (simp [dNum, bRow, dS, pairA, assertA, ofOk, zeroM, dRow, dInts]; rfl)) (by decide) ?_; simp [dNum, bRow, dS, pairA, assertA, ofOk, zeroM, dRow, dInts]; refine callK.mc (ha) ?_ ?_ ?_ ?_ ?_ <;> simp [dNum, bRow, dS, pairA, assertA, ofOk, zeroM, dRow, dInts]; refine hK2 _ ?_; clear hK2 K2; (repeat (refine sxn fun K2 hK2 => ?_; simp [dNum, bRow, dS, pairA, assertA, ofOk, zeroM, dRow, dInts]; (repeat (refine ⟨by omega, ?_⟩)); refine hK2 _ ?_; clear hK2 K2)); refine sxz (hK' _ ?_); clear hK' K'; refine hK8 _ (AW.norm [17] [501, 502, 503] (notIn_ok rfl) (AW.st (by simp [dNum, bRow, dS, pairA, assertA, ofOk, zeroM, dRow, dInts]; rfl) ?_)); refine rg [4] [501, 502, 503] (notIn_ok rfl) fun K' hK' => ?_; (repeat (refine sxn fun K2 hK2 => ?_; simp [dNum, bRow, dS, pairA, assertA, ofOk, zeroM]; (repeat (refine ⟨by omega, ?_⟩)); refine hK2 _ ?_; clear hK2 K2)); refine sxz (hK' _ (AW.st (by simp [dNum, bRow, dS, pairA, assertA, ofOk, zeroM]; rfl) ?_)); clear hK' K'; refine AW_ret ?_; simp [bRow, dNum, D.le, dRow, dInts]
   | false =>
    refine rg [0, 17, 128] [501, 502, 503] (notIn_ok rfl) fun K' hK' => ?_; (repeat (refine sxn fun K2 hK2 => ?_; simp [dNum, bRow, dS, pairA, assertA, ofOk, zeroM]; (repeat (refine ⟨by omega, ?_⟩)); refine hK2 _ ?_; clear hK2 K2)); refine sxz (hK' _ (AW.st (by simp [dNum, bRow, dS, pairA, assertA, ofOk, zeroM]; rfl) ?_)); clear hK' K'; refine AW_ff rfl ?_
    have ha := ha (-((V : Int) + 1))
    refine AW_re (tyOf_good _) fun K' hK' => ?_; (repeat (refine sxn fun K2 hK2 => ?_; simp [dNum, bRow, dS, pairA, assertA, ofOk, zeroM, dRow, dInts]; (repeat (refine ⟨by omega, ?_⟩)); refine hK2 _ ?_; clear hK2 K2)); refine sxn fun K2 hK2 => ?_; simp [dNum, bRow, dS, pairA, assertA, ofOk, zeroM, dRow, dInts]; refine callK.frz 136 (by first | rfl | (simp [dNum, bRow, dS, pairA, assertA, ofOk, zeroM, dRow, dInts]; rfl)) (by decide) ?_; simp [dNum, bRow, dS, pairA, assertA, ofOk, zeroM, dRow, dInts]; refine callK.mc (ha) ?_ ?_ ?_ ?_ ?_ <;> simp [dNum, bRow, dS, pairA, assertA, ofOk, zeroM, dRow, dInts]; refine hK2 _ ?_; clear hK2 K2; (repeat (refine sxn fun K2 hK2 => ?_; simp [dNum, bRow, dS, pairA, assertA, ofOk, zeroM, dRow, dInts]; (repeat (refine ⟨by omega, ?_⟩)); refine hK2 _ ?_; clear hK2 K2)); refine sxz (hK' _ ?_); clear hK' K'; refine hK8 _ (AW.norm [17] [501, 502, 503] (notIn_ok rfl) (AW.st (by simp [dNum, bRow, dS, pairA, assertA, ofOk, zeroM, dRow, dInts]; rfl) ?_)); refine rg [4] [501, 502, 503] (notIn_ok rfl) fun K' hK' => ?_; (repeat (refine sxn fun K2 hK2 => ?_; simp [dNum, bRow, dS, pairA, assertA, ofOk, zeroM]; (repeat (refine ⟨by omega, ?_⟩)); refine hK2 _ ?_; clear hK2 K2)); refine sxz (hK' _ (AW.st (by simp [dNum, bRow, dS, pairA, assertA, ofOk, zeroM]; rfl) ?_)); clear hK' K'; refine AW_ret ?_; simp [bRow, dNum, D.le, dRow, dInts]
end Go.Proofs.YtagfbbnlbncjlaaGreatDoor
namespace Go.Proofs.YtagfbbnlbncjlaaGreatDoor
open Go.Av
theorem renH_hlst {r r' : Nat} (hr : r ≠ r') (l : List (Nat × Row)) (hl : ∀ p ∈ l, p.1 ≠ r') : renH r r' (hlst l) = hlst (l.map fun p => (if p.1 = r then r' else p.1, p.2.tr (renO r r') (renF r r'))) := by
 funext q
 unfold renH
 induction l with
 | nil => simp [hlst, List.lookup]
 | cons p l ih =>
  have ih := ih fun p hp => hl p (by simp [hp])
  have hp := hl p (by simp)
  obtain ⟨k, row⟩ := p
  simp only [hlst, List.lookup, List.map_cons] at ih ⊢
  by_cases h1 : q = r'
  ·subst h1; simp only [if_true] at ih ⊢
   by_cases h2 : k = r
   ·subst h2; simp
   ·have a1 : (r == k) = false := by simpa using fun e => h2 e.symm
    have a2 : (q == k) = false := by simpa using fun e => hp e.symm
    simp only [h2, if_false, a1, a2]; exact ih
  ·simp only [h1, if_false] at ih ⊢
   by_cases h2 : q = r
   ·subst h2; simp only [if_true] at ih ⊢
    by_cases h3 : k = q
    ·have a1 : (q == r') = false := by simpa using h1
     simp only [h3, if_true, a1]; exact ih
    ·have a1 : (q == k) = false := by simpa using fun e => h3 e.symm
     simp only [h3, if_false, a1]; exact ih
   ·simp only [h2, if_false] at ih ⊢
    by_cases h3 : k = r
    ·have a1 : (q == k) = false := by rw [h3]; simpa using h2
     have a2 : (q == r') = false := by simpa using h1
     simp only [h3, if_true, a2] at a1 ⊢; rw [a1]; exact ih
    ·simp only [h3, if_false]
     by_cases h4 : q = k
     ·subst h4; simp
     ·have a1 : (q == k) = false := by simpa using h4
      simp only [a1]; exact ih
end Go.Proofs.YtagfbbnlbncjlaaGreatDoor
namespace Go.Proofs.YtagfbbnlbncjlaaGreatDoor
open Go.Av
theorem nms_nameF (all : Bool) : ∀ (n : Nat) (e : Ex), SizeOf.sizeOf e ≤ n → WfE e → ∀ s ∈ nmsE all e, nameF s = true
 | 0, e, hn, _, _, _ => by cases e <;> simp at hn
 | n + 1, e, hn, hw, s, hs => by
  have many : ∀ l : List Ex, (∀ x ∈ l, SizeOf.sizeOf x ≤ n) → (∀ x ∈ l, WfE x) → ∀ s ∈ nmsL all l, nameF s = true := by
   intro l
   induction l with
   | nil => intro _ _ s h; simp [nmsL] at h
   | cons x l ih =>
    intro h1 h2 s h
    rw [nmsL, List.mem_append] at h
    rcases h with h | h
    ·exact nms_nameF all n x (h1 x (by simp)) (h2 x (by simp)) s h
    ·exact ih (fun y hy => h1 y (by simp [hy])) (fun y hy => h2 y (by simp [hy])) s h
  have one : ∀ {t : Tx}, s ∈ one1 t → s = t := fun {t} h => by unfold one1 at h; split at h <;> simp_all
  cases e with
  | cst b => rw [nmsE] at hs <;> simp_all [nmE, one1]
  | bit t =>
   rw [WfE] at hw; rw [nmsE] at hs
   ·cases all with
    | true => have := one hs; simp only [nmE, if_true] at this; rw [this]; exact hw
    | false => simp [nmE, one1] at hs
   all_goals (intros; simp_all)
  | rise t =>
   rw [WfE] at hw; rw [nmsE] at hs
   ·have := one hs; simp only [nmE] at this; rw [this]; exact hw
   all_goals (intros; simp_all)
  | fall t =>
   rw [WfE] at hw; rw [nmsE] at hs
   ·have := one hs; simp only [nmE] at this; rw [this]; exact hw
   all_goals (intros; simp_all)
  | not x =>
   rw [WfE] at hw; rw [nmsE] at hs; exact nms_nameF all n x (by simp at hn; omega) hw s hs
  | and l =>
   rw [WfE] at hw; rw [nmsE] at hs; exact many l (fun x hx => by have := List.sizeOf_lt_of_mem hx; simp only [Ex.and.sizeOf_spec] at hn; omega) ((WfEs_iff l).1 hw.2) s hs
  | or l =>
   rw [WfE] at hw; rw [nmsE] at hs; exact many l (fun x hx => by have := List.sizeOf_lt_of_mem hx; simp only [Ex.or.sizeOf_spec] at hn; omega) ((WfEs_iff l).1 hw.2) s hs
theorem nms_sz (all : Bool) : ∀ (n : Nat) (e : Ex), SizeOf.sizeOf e ≤ n → (nmsE all e).length ≤ szN e
 | 0, e, hn => by cases e <;> simp at hn
 | n + 1, e, hn => by
  have many : ∀ l : List Ex, (∀ x ∈ l, SizeOf.sizeOf x ≤ n) → (nmsL all l).length ≤ szNs l := by
   intro l
   induction l with
   | nil => intro _; simp [nmsL]
   | cons x l ih =>
    intro h
    have a := ih fun y hy => h y (by simp [hy])
    have b := nms_sz all n x (h x (by simp))
    simp only [nmsL, szNs, List.length_append]
    omega
  have hone : ∀ s, (one1 s).length ≤ 1 := fun s => by unfold one1; split <;> simp
  have hp := szN_pos e
  cases e with
  | not x => have := nms_sz all n x (by simp at hn; omega); simp only [nmsE, szN]; omega
  | and l =>
   have := many l fun x hx => by have := List.sizeOf_lt_of_mem hx; simp only [Ex.and.sizeOf_spec] at hn; omega
   simp only [nmsE, szN]; omega
  | or l =>
   have := many l fun x hx => by have := List.sizeOf_lt_of_mem hx; simp only [Ex.or.sizeOf_spec] at hn; omega
   simp only [nmsE, szN]; omega
  | cst b => have := hone (nmE all (.cst b)); simp only [nmsE]; omega
  | bit s => have := hone (nmE all (.bit s)); simp only [nmsE]; omega
  | rise s => have := hone (nmE all (.rise s)); simp only [nmsE]; omega
  | fall s => have := hone (nmE all (.fall s)); simp only [nmsE]; omega
theorem names_sz (all : Bool) (e : Ex) : (namesE all e).length ≤ szN e := by
 rw [← insL_names]; exact Nat.le_trans (insL_len _ _) (by have := nms_sz all _ e (Nat.le_refl _); simp; omega)
def entsOf (f : Tx → Tx) : Nat → List Tx → List (Value × D)
 | _, [] => []
 | k, s :: l => (.string (bs (f s)), dNum ((k : Int) + 1)) :: entsOf f (k + 1) l
theorem entsOf_app (f : Tx → Tx) : ∀ (a b : List Tx) (k : Nat), entsOf f k (a ++ b) = entsOf f k a ++ entsOf f (k + a.length) b
 | [], b, k => by simp [entsOf]
 | s :: a, b, k => by
  have h := entsOf_app f a b (k + 1)
  simp only [List.cons_append, entsOf, h, List.length_cons]; rw [show k + 1 + a.length = k + (a.length + 1) from by omega]
theorem entsOf_take (f : Tx → Tx) {l : List Tx} {i k : Nat} (h : i < l.length) : entsOf f k (l.take (i + 1)) = entsOf f k (l.take i) ++ [(.string (bs (f l[i])), dNum ((k : Int) + i + 1))] := by
 rw [List.take_succ_eq_append_getElem h, entsOf_app]
 have : min i l.length = i := by omega
 simp [entsOf, List.length_take, this]
theorem entsOf_key {f : Tx → Tx} : ∀ {l : List Tx} {k : Nat} {p : Value × D}, p ∈ entsOf f k l → ∃ s ∈ l, p.1 = .string (bs (f s))
 | [], k, p, h => by simp [entsOf] at h
 | s :: l, k, p, h => by
  rw [entsOf, List.mem_cons] at h
  rcases h with rfl | h
  ·exact ⟨s, by simp, rfl⟩
  ·obtain ⟨t, ht, he⟩ := entsOf_key h
   exact ⟨t, by simp [ht], he⟩
theorem bs_beq (a b : Tx) : (bs a == bs b) = (a == b) := by
 by_cases h : a = b
 ·subst h; rw [show (a == a) = true from beq_self_eq_true a]
  show ((bs a).data == (bs a).data) = true
  exact beq_self_eq_true _
 ·rw [beq_eq_false_iff_ne.2 h]
  show ((bs a).data == (bs b).data) = false
  exact beq_eq_false_iff_ne.2 fun e => h (by simpa [bs] using e)
theorem key_ne {a b : Tx} (h : a ≠ b) : keyEq (.string (bs a)) (.string (bs b)) = false := by
 show (bs a == bs b) = false
 rw [bs_beq]; exact beq_eq_false_iff_ne.2 h
theorem key_same (a : Tx) : keyEq (.string (bs a)) (.string (bs a)) = true := by
 show (bs a == bs a) = true
 rw [bs_beq]; exact beq_self_eq_true _
theorem entPut_new {k : Value} {x : D} {ents : List (Value × D)} (h : ∀ p ∈ ents, keyEq k p.1 = false) : entPut k x ents = ents ++ [(k, x)] := by
 unfold entPut; rw [List.findIdx?_eq_none_iff.2 h]
theorem entGet_skip {k : Value} {a b : List (Value × D)} (h : ∀ p ∈ a, keyEq k p.1 = false) : entGet k (a ++ b) = entGet k b := by
 unfold entGet; rw [List.find?_append, List.find?_eq_none.2 (fun p hp => by rw [h p hp]; exact Bool.false_ne_true)]
 rfl
theorem entGet_of {f : Tx → Tx} (hf : ∀ a b, f a = f b → a = b) : ∀ {l : List Tx} {k : Nat} {s : Tx} (b : List (Value × D)), s ∈ l → entGet (.string (bs (f s))) (entsOf f k l ++ b) = some (dNum ((k : Int) + ixT l s + 1))
 | [], k, s, b, h => by cases h
 | t :: l, k, s, b, h => by
  by_cases hst : t = s
  ·subst hst; rw [entsOf, List.cons_append]; unfold entGet; rw [List.find?_cons]; simp only [key_same]
   have : ixT (t :: l) t = 0 := by simp [ixT, List.findIdx_cons]
   rw [this]; simp
  ·have hs : s ∈ l := by
    rcases List.mem_cons.1 h with h | h
    ·exact absurd h.symm hst
    ·exact h
   have ih := entGet_of hf (k := k + 1) b hs
   have h1 : ixT (t :: l) s = ixT l s + 1 := by
    have : (t == s) = false := by simpa using hst
    simp [ixT, List.findIdx_cons, this]
   rw [entsOf, List.cons_append]
   have h2 : entGet (.string (bs (f s))) ((.string (bs (f t)), dNum ((k : Int) + 1)) :: (entsOf f (k + 1) l ++ b)) = entGet (.string (bs (f s))) (entsOf f (k + 1) l ++ b) := by
    unfold entGet; rw [List.find?_cons]
    have : keyEq (.string (bs (f s))) (.string (bs (f t))) = false := key_ne fun e => hst (hf _ _ e).symm
    simp only [this]
   rw [h2, ih, h1]
   congr 2
   omega
theorem ents_ok {ns es : List Tx} (hne : ∀ s ∈ ns, ∀ t ∈ es, s ≠ 94 :: t) : EntsOk ns es (entsOf id 0 ns ++ entsOf (fun s => 94 :: s) ns.length es) := by
 refine ⟨fun p hp => ?_, fun s hs => ?_, fun s hs => ?_⟩
 ·rcases List.mem_append.1 hp with h | h <;> (obtain ⟨t, _, he⟩ := entsOf_key h; rw [he]; rfl)
 ·have := entGet_of (f := id) (fun a b h => h) (k := 0) (entsOf (fun s => 94 :: s) ns.length es) hs
  simpa using this
 ·rw [entGet_skip fun p hp => ?_]
  ·have := entGet_of (f := fun s => 94 :: s) (fun a b h => by simpa using h) (k := ns.length) [] hs
   simpa using this
  ·obtain ⟨t, ht, he⟩ := entsOf_key hp
   rw [he]; exact key_ne (hne t ht s hs).symm
theorem ents_keys {ents : List (Value × D)} (h : ∀ p ∈ ents, ∃ s, p.1 = .string (bs s)) : ∀ p ∈ ents, keyOk TypeDesc.string p.1 = true := fun p hp => by
 obtain ⟨s, he⟩ := h p hp
 rw [he]; rfl
theorem srt_ne {l : List Tx} (h : l.Pairwise (· < ·)) {i j : Nat} (hi : i < l.length) (hj : j < l.length) (hij : i ≠ j) : l[i] ≠ l[j] := fun e => by
 rcases Nat.lt_or_gt_of_ne hij with hlt | hlt
 ·exact tx_irr _ (e ▸ List.pairwise_iff_getElem.1 h _ _ hi hj hlt)
 ·exact tx_irr _ (e ▸ List.pairwise_iff_getElem.1 h _ _ hj hi hlt)
theorem name_no94 {s t : Tx} (h : nameF s = true) : s ≠ 94 :: t := fun e => by
 subst e
 have := ((name_facts h).2.2.1 94 (by simp))
 revert this; decide
theorem put_names {ns : List Tx} (hs : ns.Pairwise (· < ·)) {i : Nat} (h : i < ns.length) : entPut (.string (bs ns[i])) (dNum ((i : Int) + 1)) (entsOf id 0 (ns.take i)) = entsOf id 0 (ns.take (i + 1)) := by
 rw [entsOf_take id h, entPut_new]
 ·simp
 ·intro p hp
  obtain ⟨s, hm, he⟩ := entsOf_key hp
  rw [he]
  obtain ⟨j, hj, rfl⟩ := List.mem_iff_getElem.1 hm
  rw [List.length_take] at hj; rw [List.getElem_take]; exact key_ne (srt_ne hs h (by omega) (by omega))
theorem put_edges {ns es : List Tx} (hs : es.Pairwise (· < ·)) (hne : ∀ s ∈ ns, ∀ t : Tx, s ≠ 94 :: t) {i : Nat} (h : i < es.length) : entPut (.string (bs (94 :: es[i]))) (dNum ((ns.length : Int) + i + 1)) (entsOf id 0 ns ++ entsOf (fun s => 94 :: s) ns.length (es.take i)) = entsOf id 0 ns ++ entsOf (fun s => 94 :: s) ns.length (es.take (i + 1)) := by
 rw [entsOf_take _ h, entPut_new]
 ·simp
 ·intro p hp
  rcases List.mem_append.1 hp with hp | hp
  ·obtain ⟨s, hm, he⟩ := entsOf_key hp
   rw [he]; exact key_ne (hne s hm _).symm
  ·obtain ⟨s, hm, he⟩ := entsOf_key hp
   rw [he]
   obtain ⟨j, hj, rfl⟩ := List.mem_iff_getElem.1 hm
   rw [List.length_take] at hj; rw [List.getElem_take]
   have := srt_ne hs h (show j < es.length by omega) (by omega)
   exact key_ne fun e => this (by simpa using e)
def tsE (e : Ex) : Int × Cs := tsC (namesE true e) (namesE false e) e
set_option maxHeartbeats 16000000 in
theorem gof_spec (G : Glob) (e : Ex) (hw : WfE e) (hb : bE e ≤ 2^28) (hs3 : szN e ≤ 300) : MC Tryz.prog G [] 14 [.d (dE e)] (hlst []) (.tup [.agg [.d (dNum (tsE e).2.1), .own 502 0 (tsE e).2.2.length], .d (dNum (tsE e).1), .d (.v .nilIface)]) (hlst [(502, .sl 58 1 ((tsE e).2.2.map fun l => [dRow l]))]) := by
 unfold tsE
 have hns := namesE_spec G e hb
 have hes := edgesE_spec G e hb
 have hsz := size_spec G e hb
 have hN : ∀ s ∈ nmsE true e, s ∈ namesE true e := fun s hs => namesE_mem.2 hs
 have hE : ∀ s ∈ nmsE false e, s ∈ namesE false e := fun s hs => namesE_mem.2 hs
 have hsr := namesE_srt true e
 have hsr2 := namesE_srt false e
 have hnf : ∀ s ∈ namesE true e, nameF s = true := fun s hs => nms_nameF true _ e (Nat.le_refl _) hw s (namesE_mem.1 hs)
 have hef : ∀ s ∈ namesE false e, nameF s = true := fun s hs => nms_nameF false _ e (Nat.le_refl _) hw s (namesE_mem.1 hs)
 have hl1 := names_sz true e
 have hl2 := names_sz false e
 have hbd : bE e ≤ 2^28 := hb
 generalize namesE true e = ns at *; generalize namesE false e = es at *
 have hlit := lit_spec G ns es _ (ents_ok fun s hs t ht => name_no94 (hnf s hs)) (by omega) (by omega) _ e (Nat.le_refl _) hN hE hw (ns.length + es.length) [] (Nat.le_refl _) (by omega) (by simp; omega)
 have hts : litG ns es e (ns.length + es.length, []) = tsC ns es e := rfl
 rw [hts] at hlit; generalize tsC ns es e = R at hlit ⊢
 have h300 : ¬ (300 : Int) < (szN e : Int) := by omega
 obtain ⟨t, c, hec⟩ := dE_ifc e
 rw [hec] at hns hes hsz hlit ⊢; refine MC.of_body (tyOf_good _) Tryz.func14 rfl rfl (rs := [.cell 2 45, .tmp 3, .tmp 4]) Tryz.results14 (by simp [Tryz.ntmps14]) rfl fun X => ?_; simp only [Tryz.ntmps14]; refine rg [0, 2] [2] (notIn_ok rfl) fun K' hK' => ?_; (repeat (refine sxn fun K2 hK2 => ?_; simp [dNum, dS, bRow, dCl]; (repeat (refine ⟨by omega, ?_⟩)); refine hK2 _ ?_; clear hK2 K2)); refine sxz (hK' _ (AW.st (by simp [dNum, dS, bRow, dCl]; rfl) ?_)); clear hK' K'; refine AW_then fun K1 hK1 => ?_; refine rg [0, 2, 12] [2] (notIn_ok rfl) fun K' hK' => ?_; (repeat (refine sxn fun K2 hK2 => ?_; simp [dNum, dS, bRow, dCl]; (repeat (refine ⟨by omega, ?_⟩)); refine hK2 _ ?_; clear hK2 K2)); refine sxz (hK' _ (AW.st (by simp [dNum, dS, bRow, dCl]; rfl) ?_)); clear hK' K'; refine AW_ff rfl ?_; refine AW_skip (hK1 _ ?_); refine AW_then fun K2 hK2 => ?_; refine rg [0, 2, 17] [2] (notIn_ok rfl) fun K' hK' => ?_; (repeat (refine sxn fun K2 hK2 => ?_; simp [dNum, dS, bRow, dCl, h300]; (repeat (refine ⟨by omega, ?_⟩)); refine hK2 _ ?_; clear hK2 K2)); refine sxn fun K2 hK2 => ?_; simp [dNum, dS, bRow, dCl, h300]; refine callK.data (hsz) (by simp; rfl) (by first | exact D.leGo_refl _ | simp [takeMap, List.map_map, Function.comp_def, D.le, D.le.go, D.le_refl, D.leGo_refl, dNum, dS, bRow, dCl, h300]) ?_; refine hK2 _ ?_; clear hK2 K2; simp only [putd, upd_lst]; (repeat (refine sxn fun K2 hK2 => ?_; simp [dNum, dS, bRow, dCl, h300]; (repeat (refine ⟨by omega, ?_⟩)); refine hK2 _ ?_; clear hK2 K2)); refine sxz (hK' _ (AW.st (by simp [dNum, dS, bRow, dCl, h300]; rfl) ?_)); clear hK' K'; refine AW_cond false (by simp [h300]) (fun h => by cases h) (fun _ => ?_); refine AW_skip (hK2 _ ?_); refine rg [0, 2, 5] [2, 20, 22] (notIn_ok rfl) fun K' hK' => ?_; (repeat (refine sxn fun K2 hK2 => ?_; simp [dNum, dS, bRow, dCl]; (repeat (refine ⟨by omega, ?_⟩)); refine hK2 _ ?_; clear hK2 K2)); refine sxz (hK' _ (AW.st (by simp [dNum, dS, bRow, dCl]; rfl) ?_)); clear hK' K'; refine AW.imp (Imp.ren (r := 22) (r' := 501) (by decide) (by simp)) ?_; refine AW.st (by simp [renO, renF, Go.Av.ren, renH_hlst]; rfl) ?_; refine AW.imp (Imp.ren (r := 20) (r' := 503) (by decide) (by simp)) ?_; refine AW.st (by simp [renO, renF, Go.Av.ren, renH_hlst]; rfl) ?_; refine AW.imp (Imp.adoptCell 501 1 502 58 1 rfl rfl rfl) ?_; refine AW.imp (τ := ⟨lst [(0, .d (.ifc t c)), (2, .ref 2 0 0), (5, .ref 501 0 0)], hlst (bRow 0 [] [] ++ [(2, .box 45 [int 0, .d (.sl (some false) [])])])⟩) ?_ ?_
 ·refine Imp.to' (notIn_ok rfl) (by simp [dNum, dS, bRow, dCl]) (by simp [dNum, dS, bRow, dCl])
 refine AW_then fun K3 hK3 => ?_; refine rg [0, 2, 5, 24, 25, 26] [2, 501, 502, 503] (notIn_ok rfl) fun K' hK' => ?_; (repeat (refine sxn fun K2 hK2 => ?_; simp [dNum, dS, bRow, dCl]; (repeat (refine ⟨by omega, ?_⟩)); refine hK2 _ ?_; clear hK2 K2)); refine sxn fun K2 hK2 => ?_; simp [dNum, dS, bRow, dCl]; refine callK.data (hns) (by simp; rfl) (by first | exact D.leGo_refl _ | simp [takeMap, List.map_map, Function.comp_def, D.le, D.le.go, D.le_refl, D.leGo_refl, dNum, dS, bRow, dCl]) ?_; refine hK2 _ ?_; clear hK2 K2; simp only [putd, upd_lst]; (repeat (refine sxn fun K2 hK2 => ?_; simp [dNum, dS, bRow, dCl]; (repeat (refine ⟨by omega, ?_⟩)); refine hK2 _ ?_; clear hK2 K2)); refine sxz (hK' _ (AW.st (by simp [dNum, dS, bRow, dCl]; rfl) ?_)); clear hK' K'; refine AW_for (S := Nat) (fun i => i ≤ ns.length) (fun i => ⟨lst [(0, .d (.ifc t c)), (2, .ref 2 0 0), (5, .ref 501 0 0), (24, .d (.sl none (ns.map fun s => [dS s]))), (25, int ns.length), (26, int i)], hlst (bRow i [] (entsOf id 0 (ns.take i)) ++ [(2, .box 45 [int 0, .d (.sl (some false) [])])])⟩) (fun i => ns.length - i) 0 ?_ (by omega) ?_
 ·refine Imp.to' (notIn_ok rfl) (by simp [dNum, dS, bRow, dCl, entsOf]) (by simp [dNum, dS, bRow, dCl, entsOf])
 ·intro i hi
  refine rg [0, 2, 5, 24, 25, 26, 27] [2, 501, 502, 503] (notIn_ok rfl) fun K' hK' => ?_; (repeat (refine sxn fun K2 hK2 => ?_; simp [dNum, dS, bRow, dCl]; (repeat (refine ⟨by omega, ?_⟩)); refine hK2 _ ?_; clear hK2 K2)); refine sxz (hK' _ (AW.st (by simp [dNum, dS, bRow, dCl]; rfl) ?_)); clear hK' K'; refine AW_then fun K4 hK4 => ?_; refine AW_cond' (b := i < ns.length) (by simp [D.le, D.le.go, takeMap, dNum, dS, bRow, dCl]) (fun hc => ?_) (fun hc => ?_)
  ·have hil : i < ns.length := hc
   have hf := fresh_spec G i (by omega) [] (entsOf id 0 (ns.take i))
   have hk0 : ∀ p ∈ entsOf id 0 (ns.take i), keyOk TypeDesc.string p.1 = true := ents_keys fun p hp => by obtain ⟨s, _, he⟩ := entsOf_key hp; exact ⟨s, he⟩
   simp at hk0
   have hk1 := eq_true hk0
   have hput := put_names hsr hil
   simp only [dNum] at hput; refine AW_skip (hK4 _ ?_); refine AW_then fun K5 hK5 => ?_; refine AW_block ?_; refine rg [0, 2, 5, 7, 24, 25, 26] [2, 501, 502, 503] (notIn_ok rfl) fun K' hK' => ?_; (repeat (refine sxn fun K2 hK2 => ?_; simp [dNum, dS, bRow, dCl, hil]; (repeat (refine ⟨by omega, ?_⟩)); refine hK2 _ ?_; clear hK2 K2)); refine sxz (hK' _ (AW.st (by simp [dNum, dS, bRow, dCl, hil]; rfl) ?_)); clear hK' K'; refine AW_rme (tyOf_good _) (by kernel_rfl) ([502]) ([]) ([6]) ([(3, .ref 501 0 2)]) (List.range 8) (by kernel_rfl) (by simp [OffE]) fun K' hK' => ?_; (repeat (refine sxm_nextO rfl fun K2 hK2 => ?_; simp [dNum, dS, bRow, dCl, hk1, hput]; (repeat (refine ⟨by omega, ?_⟩)); refine hK2 _ ?_; clear hK2 K2)); refine sxm_nextO rfl fun K2 hK2 => ?_; simp [dNum, dS, bRow, dCl, hk1, hput]; refine hcK.mc (hf) (by simp [dNum, dS, bRow, dCl, hk1, hput]) (by simp [dNum, dS, bRow, dCl, hk1, hput]) (by simp [dNum, dS, bRow, dCl, hk1, hput]) (by simp [dNum, dS, bRow, dCl, hk1, hput]) (by simp [dNum, dS, bRow, dCl, hk1, hput]) (by simp [dNum, dS, bRow, dCl, hk1, hput]) (by simp [LdSame, dNum, dS, bRow, dCl, hk1, hput]) ?_; simp [dNum, dS, bRow, dCl, hk1, hput]; refine hK2 _ ?_; clear hK2 K2; (repeat (refine sxm_nextO rfl fun K2 hK2 => ?_; simp [dNum, dS, bRow, dCl, hk1, hput]; (repeat (refine ⟨by omega, ?_⟩)); refine hK2 _ ?_; clear hK2 K2)); refine sxm_nilO (hK' _ ?_); clear hK' K'; refine hK5 _ (AW.norm [0, 2, 5, 24, 25, 26] [2, 501, 502, 503] (notIn_ok rfl) (AW.st (by simp [dNum, dS, bRow, dCl, hk1, hput]; rfl) ?_)); refine AW_re (tyOf_good _) fun K' hK' => ?_; (repeat (refine sxn fun K2 hK2 => ?_; simp [dNum, dS, bRow, dCl]; (repeat (refine ⟨by omega, ?_⟩)); refine hK2 _ ?_; clear hK2 K2)); refine sxz (hK' _ ?_); clear hK' K'; (try simp only [thn, inb]); refine Again.mk (i + 1) (by omega) (by omega) ?_; refine Imp.to' (notIn_ok rfl) (by simp [dNum, dS, bRow, dCl]) (by simp [dNum, dS, bRow, dCl])
  ·obtain rfl : i = ns.length := by omega
   rw [List.take_length]; refine AW_exit (hK3 _ ?_); refine AW_then fun K6 hK6 => ?_; refine rg [0, 2, 5, 39, 40, 41] [2, 501, 502, 503] (notIn_ok rfl) fun K' hK' => ?_; (repeat (refine sxn fun K2 hK2 => ?_; simp [dNum, dS, bRow, dCl]; (repeat (refine ⟨by omega, ?_⟩)); refine hK2 _ ?_; clear hK2 K2)); refine sxn fun K2 hK2 => ?_; simp [dNum, dS, bRow, dCl]; refine callK.data (hes) (by simp; rfl) (by first | exact D.leGo_refl _ | simp [takeMap, List.map_map, Function.comp_def, D.le, D.le.go, D.le_refl, D.leGo_refl, dNum, dS, bRow, dCl]) ?_; refine hK2 _ ?_; clear hK2 K2; simp only [putd, upd_lst]; (repeat (refine sxn fun K2 hK2 => ?_; simp [dNum, dS, bRow, dCl]; (repeat (refine ⟨by omega, ?_⟩)); refine hK2 _ ?_; clear hK2 K2)); refine sxz (hK' _ (AW.st (by simp [dNum, dS, bRow, dCl]; rfl) ?_)); clear hK' K'; refine AW_for (S := Nat) (fun i => i ≤ es.length) (fun i => ⟨lst [(0, .d (.ifc t c)), (2, .ref 2 0 0), (5, .ref 501 0 0), (39, .d (.sl none (es.map fun s => [dS s]))), (40, int es.length), (41, int i)], hlst (bRow (ns.length + i) [] (entsOf id 0 ns ++ entsOf (fun s => 94 :: s) ns.length (es.take i)) ++ [(2, .box 45 [int 0, .d (.sl (some false) [])])])⟩) (fun i => es.length - i) 0 ?_ (by omega) ?_
   ·refine Imp.to' (notIn_ok rfl) (by simp [dNum, dS, bRow, dCl, entsOf]) (by simp [dNum, dS, bRow, dCl, entsOf])
   ·intro i hi
    refine rg [0, 2, 5, 39, 40, 41, 42] [2, 501, 502, 503] (notIn_ok rfl) fun K' hK' => ?_; (repeat (refine sxn fun K2 hK2 => ?_; simp [dNum, dS, bRow, dCl]; (repeat (refine ⟨by omega, ?_⟩)); refine hK2 _ ?_; clear hK2 K2)); refine sxz (hK' _ (AW.st (by simp [dNum, dS, bRow, dCl]; rfl) ?_)); clear hK' K'; refine AW_then fun K7 hK7 => ?_; refine AW_cond' (b := i < es.length) (by simp [D.le, D.le.go, takeMap, dNum, dS, bRow, dCl]) (fun hc => ?_) (fun hc => ?_)
    ·have hil : i < es.length := hc
     have hf := fresh_spec G (ns.length + i) (by omega) [] (entsOf id 0 ns ++ entsOf (fun s => 94 :: s) ns.length (es.take i))
     have hk0 : ∀ p ∈ entsOf id 0 ns ++ entsOf (fun s => 94 :: s) ns.length (es.take i), keyOk TypeDesc.string p.1 = true := ents_keys fun p hp => by
      rcases List.mem_append.1 hp with hp | hp <;> (obtain ⟨s, _, he⟩ := entsOf_key hp; exact ⟨_, he⟩)
     simp at hk0
     have hk1 := eq_true hk0
     have hput := put_edges (ns := ns) hsr2 (fun s hs t => name_no94 (hnf s hs)) hil
     simp only [dNum] at hput
     have hb94 := bs94 es[i]
     have h94 : (⟨#[94]⟩ : ByteArray).size = 1 := rfl
     have hsl := (name_facts (hef _ (List.getElem_mem hil))).2.1
     refine AW_skip (hK7 _ ?_); refine AW_then fun K8 hK8 => ?_; refine AW_block ?_; refine rg [0, 2, 5, 9, 39, 40, 41] [2, 501, 502, 503] (notIn_ok rfl) fun K' hK' => ?_; (repeat (refine sxn fun K2 hK2 => ?_; simp [dNum, dS, bRow, dCl, hil]; (repeat (refine ⟨by omega, ?_⟩)); refine hK2 _ ?_; clear hK2 K2)); refine sxz (hK' _ (AW.st (by simp [dNum, dS, bRow, dCl, hil]; rfl) ?_)); clear hK' K'; refine AW_rme (tyOf_good _) (by kernel_rfl) ([502]) ([]) ([7]) ([(3, .ref 501 0 2)]) (List.range 9) (by kernel_rfl) (by simp [OffE]) fun K' hK' => ?_; (repeat (refine sxm_nextO rfl fun K2 hK2 => ?_; simp [dNum, dS, bRow, dCl, hk1, hput, hb94, h94, binS, bs_size]; (repeat (refine ⟨by omega, ?_⟩)); refine hK2 _ ?_; clear hK2 K2)); refine sxm_nextO rfl fun K2 hK2 => ?_; simp [dNum, dS, bRow, dCl, hk1, hput, hb94, h94, binS, bs_size]; refine hcK.mc (hf) (by simp [dNum, dS, bRow, dCl, hk1, hput, hb94, h94, binS, bs_size]) (by simp [dNum, dS, bRow, dCl, hk1, hput, hb94, h94, binS, bs_size]) (by simp [dNum, dS, bRow, dCl, hk1, hput, hb94, h94, binS, bs_size]) (by simp [dNum, dS, bRow, dCl, hk1, hput, hb94, h94, binS, bs_size]) (by simp [dNum, dS, bRow, dCl, hk1, hput, hb94, h94, binS, bs_size]) (by simp [dNum, dS, bRow, dCl, hk1, hput, hb94, h94, binS, bs_size]) (by simp [LdSame, dNum, dS, bRow, dCl, hk1, hput, hb94, h94, binS, bs_size]) ?_; simp [dNum, dS, bRow, dCl, hk1, hput, hb94, h94, binS, bs_size]; refine hK2 _ ?_; clear hK2 K2; (repeat (refine sxm_nextO rfl fun K2 hK2 => ?_; simp [dNum, dS, bRow, dCl, hk1, hput, hb94, h94, binS, bs_size]; (repeat (refine ⟨by omega, ?_⟩)); refine hK2 _ ?_; clear hK2 K2)); refine sxm_nilO (hK' _ ?_); clear hK' K'; refine hK8 _ (AW.norm [0, 2, 5, 39, 40, 41] [2, 501, 502, 503] (notIn_ok rfl) (AW.st (by simp [dNum, dS, bRow, dCl, hk1, hput, hb94, h94, binS, bs_size]; rfl) ?_)); refine AW_re (tyOf_good _) fun K' hK' => ?_; (repeat (refine sxn fun K2 hK2 => ?_; simp [dNum, dS, bRow, dCl]; (repeat (refine ⟨by omega, ?_⟩)); refine hK2 _ ?_; clear hK2 K2)); refine sxz (hK' _ ?_); clear hK' K'; (try simp only [thn, inb]); refine Again.mk (i + 1) (by omega) (by omega) ?_; refine Imp.to' (notIn_ok rfl) (by simp [dNum, dS, bRow, dCl, Int.add_assoc]) (by simp [dNum, dS, bRow, dCl, Int.add_assoc])
    ·obtain rfl : i = es.length := by omega
     rw [List.take_length]; refine AW_exit (hK6 _ ?_); refine rg [2, 5, 10] [2, 501, 502, 503] (notIn_ok rfl) fun K' hK' => ?_; (repeat (refine sxn fun K2 hK2 => ?_; simp [dNum, dS, bRow, dCl]; (repeat (refine ⟨by omega, ?_⟩)); refine hK2 _ ?_; clear hK2 K2)); refine sxn fun K2 hK2 => ?_; simp [dNum, dS, bRow, dCl]; refine callK.mc (hlit) ?_ ?_ ?_ ?_ ?_ <;> simp [dNum, dS, bRow, dCl]; refine hK2 _ ?_; clear hK2 K2; (repeat (refine sxn fun K2 hK2 => ?_; simp [dNum, dS, bRow, dCl]; (repeat (refine ⟨by omega, ?_⟩)); refine hK2 _ ?_; clear hK2 K2)); refine sxz (hK' _ (AW.st (by simp [dNum, dS, bRow, dCl]; rfl) ?_)); clear hK' K'; refine rg [2, 3, 4] [2, 501, 502, 503] (notIn_ok rfl) fun K' hK' => ?_; (repeat (refine sxn fun K2 hK2 => ?_; simp [dNum, dS, bRow, dCl]; (repeat (refine ⟨by omega, ?_⟩)); refine hK2 _ ?_; clear hK2 K2)); refine sxz (hK' _ (AW.st (by simp [dNum, dS, bRow, dCl]; rfl) ?_)); clear hK' K'; refine AW_ret ?_; simp [D.le, dNum]
end Go.Proofs.YtagfbbnlbncjlaaGreatDoor
namespace Go.Proofs.YtagfbbnlbncjlaaGreatDoor
open Go.Av
theorem mkAnd_lens (l : List Int) (c : Cs) : ∀ x ∈ (mkAnd l c).2.2, x ∈ c.2 ∨ x.length ≤ l.length + 2 := by
 intro x hx
 simp only [mkAnd, List.mem_append, List.mem_map, List.mem_singleton] at hx
 rcases hx with (hx | ⟨y, _, rfl⟩) | rfl
 ·exact .inl hx
 ·exact .inr (by simp)
 ·exact .inr (by simp)
theorem lit_lens (ns es : List Tx) : ∀ (n : Nat) (e : Ex), SizeOf.sizeOf e ≤ n → ∀ c : Cs, ∀ x ∈ (litG ns es e c).2.2, x ∈ c.2 ∨ x.length ≤ szN e + 4
 | 0, e, hn, _ => by cases e <;> simp at hn
 | n + 1, e, hn, c => by
  have many : ∀ l : List Ex, (∀ x ∈ l, SizeOf.sizeOf x ≤ n) → ∀ c : Cs, ∀ x ∈ (litsG ns es l c).2.2, x ∈ c.2 ∨ x.length ≤ szNs l + 4 := by
   intro l
   induction l with
   | nil => intro _ c x hx; exact .inl hx
   | cons y l ih =>
    intro hs c x hx
    simp only [litsG, szNs] at hx ⊢
    rcases ih (fun z hz => hs z (by simp [hz])) _ x hx with h | h
    ·rcases lit_lens ns es n y (hs y (by simp)) c x h with h | h
     ·exact .inl h
     ·exact .inr (by omega)
    ·exact .inr (by omega)
  intro x hx
  cases e with
  | cst b =>
   simp only [litG, List.mem_append, List.mem_singleton] at hx
   rcases hx with hx | rfl
   ·exact .inl hx
   ·exact .inr (by simp)
  | bit s => exact .inl hx
  | rise s => exact (mkAnd_lens _ _ x hx).imp id fun h => by simp at h; simp only [szN]; omega
  | fall s => exact (mkAnd_lens _ _ x hx).imp id fun h => by simp at h; simp only [szN]; omega
  | not y => exact (lit_lens ns es n y (by simp at hn; omega) c x hx).imp id fun h => by simp only [szN]; omega
  | and l =>
   have hl := litsG_len ns es l c
   have hz := len_szNs l
   rcases mkAnd_lens _ _ x hx with h | h
   ·exact (many l (fun x hx => by have := List.sizeOf_lt_of_mem hx; simp only [Ex.and.sizeOf_spec] at hn; omega) c x h).imp id fun h => by simp only [szN]; omega
   ·exact .inr (by simp only [szN]; omega)
  | or l =>
   have hl := litsG_len ns es l c
   have hz := len_szNs l
   rcases mkAnd_lens _ _ x hx with h | h
   ·exact (many l (fun x hx => by have := List.sizeOf_lt_of_mem hx; simp only [Ex.or.sizeOf_spec] at hn; omega) c x h).imp id fun h => by simp only [szN]; omega
   ·rw [List.length_map] at h; exact .inr (by simp only [szN]; omega)
def srchE (e : Ex) := searchF (tsAll (namesE true e) (namesE false e) e) (tsE e).2.1 ((namesE true e).length + (namesE false e).length + 1) [] 0
def allE (e : Ex) : Cl := tsAll (namesE true e) (namesE false e) e
theorem allE_eq (e : Ex) : allE e = (tsE e).2.2 ++ [[(tsE e).1]] := rfl
theorem gbad_none {V : Nat} : ∀ {cs : Cl}, OkC V cs → ∀ i, gbad V cs i = none
 | [], _, _ => rfl
 | c :: cs, ok, i => by
  have h1 : c.any (badL V) = false := by
   rw [List.any_eq_false]
   intro x hx
   obtain ⟨a, b, c⟩ := ok _ (by simp) x hx
   unfold badL; simp only [Bool.or_eq_true, decide_eq_true_eq, not_or]; exact ⟨by omega, by omega, by omega⟩
  rw [gbad, h1]; exact gbad_none (fun c hc => ok c (by simp [hc])) _
theorem tsE_bounds (e : Ex) (hs3 : szN e ≤ 300) (h6 : (namesE true e).length + (namesE false e).length ≤ 6) : (tsE e).2.1 ≤ 306 ∧ (tsE e).2.2.length ≤ 1200 ∧ ∀ c ∈ (tsE e).2.2, c.length ≤ 304 := by
 have h := lit_size (namesE true e) (namesE false e) _ e (Nat.le_refl _) ((namesE true e).length + (namesE false e).length, [])
 have h2 := lit_lens (namesE true e) (namesE false e) _ e (Nat.le_refl _) ((namesE true e).length + (namesE false e).length, [])
 have e1 : litG (namesE true e) (namesE false e) e ((namesE true e).length + (namesE false e).length, []) = tsE e := rfl
 rw [e1] at h h2
 dsimp only at h
 refine ⟨by omega, by simp at h; omega, fun c hc => ?_⟩
 rcases h2 c hc with h | h
 ·cases h
 ·omega
theorem gsolve_e (G : Glob) (e : Ex) (hw : WfE e) (hs3 : szN e ≤ 300) (h6 : (namesE true e).length + (namesE false e).length ≤ 6) :
  PureC Tryz.prog G 23 [dCl (tsE e).2.1 (allE e)] (if (srchE e).1 = true then .tup [dVals (tsE e).2.1 (valT (srchE e).2.1), .v .nilIface] else .tup [.sl (some false) [], dErr (some (8, none))]) := by
 have hN : ∀ s ∈ nmsE true e, s ∈ namesE true e := fun s hs => namesE_mem.2 hs
 have hE : ∀ s ∈ nmsE false e, s ∈ namesE false e := fun s hs => namesE_mem.2 hs
 have ok := ts_ok hN hE hw
 obtain ⟨b1, b2, b3⟩ := tsE_bounds e hs3 h6
 have hlen : (allE e).length ≤ 1201 := by rw [allE_eq]; simp; omega
 have hge : gateE ((tsE e).2.1 : Nat) (allE e) = none := by
  unfold gateE; rw [if_neg (by omega)]; exact gbad_none ok 0
 refine Solve_goodM G (tsE e).2.1 (by omega) (allE e) (by omega) (fun c hc => ?_) ok hge (leftT ((namesE true e).length + (namesE false e).length)) (fun tr g h1 h2 => ts_falls hN hE hw tr g h1 h2) _ (by have := leftT_le ((namesE true e).length + (namesE false e).length) []; omega) ?_
 ·rw [allE_eq, List.mem_append, List.mem_singleton] at hc
  rcases hc with hc | rfl
  ·have := b3 c hc; omega
  ·simp
 ·have : 2^((namesE true e).length + (namesE false e).length + 1) ≤ 2^7 := Nat.pow_le_pow_right (by decide) (by omega)
  omega
def difE (a b : Ex) : Ex := .or [.and [a, .not b], .and [.not a, b]]
theorem difE_ev (is was : Tx → Bool) (a b : Ex) : evE is was (difE a b) = (evE is was a != evE is was b) := by
 simp only [difE, evE, evA, evO]
 cases evE is was a <;> cases evE is was b <;> rfl
theorem difE_wf {a b : Ex} (ha : WfE a) (hb : WfE b) : WfE (difE a b) := by
 simp [difE, WfE, WfEs, ha, hb]
theorem difE_sz (a b : Ex) : szN (difE a b) = 2 * szN a + 2 * szN b + 5 := by
 simp [difE, szN, szNs]; omega
theorem difE_mem {all : Bool} {a b : Ex} {s : Tx} : s ∈ nmsE all (difE a b) ↔ s ∈ nmsE all a ∨ s ∈ nmsE all b := by
 simp [difE, nmsE, nmsL]
 grind
theorem nodup_len : ∀ {l m : List Tx}, l.Nodup → (∀ s ∈ l, s ∈ m) → l.length ≤ m.length
 | [], m, _, _ => Nat.zero_le _
 | x :: l, m, h, hs => by
  rw [List.nodup_cons] at h
  have hx := hs x (by simp)
  have ih := nodup_len (m := m.erase x) h.2 fun s hm => (List.mem_erase_of_ne fun e => h.1 (by rw [← e]; exact hm)).2 (hs s (by simp [hm]))
  rw [List.length_erase_of_mem hx] at ih
  have : 0 < m.length := List.length_pos_of_mem hx
  simp only [List.length_cons]
  omega
theorem srt_nodup {l : List Tx} (h : l.Pairwise (· < ·)) : l.Nodup := List.Pairwise.imp (fun {a b} hab (e : a = b) => by subst e; exact tx_irr _ hab) h
theorem difE_len (all : Bool) (a b : Ex) : (namesE all (difE a b)).length ≤ (namesE all a).length + (namesE all b).length := by
 rw [← List.length_append]; refine nodup_len (srt_nodup (namesE_srt all _)) fun s hs => ?_; rw [List.mem_append, namesE_mem, namesE_mem]; exact difE_mem.1 (namesE_mem.1 hs)
def sameE (a b : Ex) : Bool := !(srchE (difE a b)).1
theorem sameE_iff {a b : Ex} (ha : WfE a) (hb : WfE b) : sameE a b = true ↔ ∀ is was, evE is was a = evE is was b := by
 have hN : ∀ s ∈ nmsE true (difE a b), s ∈ namesE true (difE a b) := fun s hs => namesE_mem.2 hs
 have hE : ∀ s ∈ nmsE false (difE a b), s ∈ namesE false (difE a b) := fun s hs => namesE_mem.2 hs
 obtain ⟨_, h1, h2⟩ := ts_search hN hE (difE_wf ha hb)
 unfold sameE
 constructor
 ·intro h is was
  have h' : (srchE (difE a b)).1 = false := by simpa using h
  have := h2 h' is was
  rw [difE_ev] at this; simpa using this
 ·intro h
  cases hs : (srchE (difE a b)).1 with
  | false => rfl
  | true =>
   have := h1 hs
   rw [difE_ev, h] at this; simp at this
end Go.Proofs.YtagfbbnlbncjlaaGreatDoor
namespace Go.Proofs.YtagfbbnlbncjlaaGreatDoor
open Go.Av
def cntE (is was : List UInt8 → Bool) : List Ex → Nat
 | [] => 0
 | e :: l => (if evE is was e then 1 else 0) + cntE is was l
theorem cntE_app (is was : List UInt8 → Bool) : ∀ a b : List Ex, cntE is was (a ++ b) = cntE is was a + cntE is was b
 | [], b => by simp [cntE]
 | e :: a, b => by simp only [List.cons_append, cntE, cntE_app is was a b]; omega
theorem cntE_le (is was : List UInt8 → Bool) : ∀ l : List Ex, cntE is was l ≤ l.length
 | [] => by simp [cntE]
 | e :: l => by have := cntE_le is was l; simp only [cntE, List.length_cons]; split <;> omega
theorem cntE_take (is was : List UInt8 → Bool) {l : List Ex} {i : Nat} (hi : i < l.length) : cntE is was (l.take (i + 1)) = cntE is was (l.take i) + (if evE is was l[i] then 1 else 0) := by
 rw [List.take_succ_eq_append_getElem hi, cntE_app]; simp [cntE]
theorem cntE_and (is was : List UInt8 → Bool) : ∀ l : List Ex, decide (cntE is was l = l.length) = evA is was l
 | [] => rfl
 | e :: l => by
  have h1 := cntE_and is was l
  have h2 := cntE_le is was l
  rw [evA, ← h1]; simp only [cntE, List.length_cons]
  rcases Bool.eq_false_or_eq_true (evE is was e) with hE | hE
  ·simp [hE, Nat.add_comm 1]
  ·have : ¬ cntE is was l = l.length + 1 := by omega
   simp [hE, this]
theorem cntE_or (is was : List UInt8 → Bool) : ∀ l : List Ex, decide (0 < cntE is was l) = evO is was l
 | [] => rfl
 | e :: l => by
  have h1 := cntE_or is was l
  rw [evO, ← h1]; simp only [cntE]
  rcases Bool.eq_false_or_eq_true (evE is was e) with hE | hE
  ·simp [hE]; omega
  ·simp [hE]
set_option maxHeartbeats 32000000 in
set_option maxRecDepth 100000 in
theorem reval_at (G : Glob) (g1 g2 : FuncId) (c1 c2 : List D) (is was : List UInt8 → Bool) (S1 S2 : List UInt8 → Prop) (h1 : TellsOn S1 G g1 c1 is) (h2 : TellsOn S2 G g2 c2 was) : ∀ (n : Nat) (e : Ex), SizeOf.sizeOf e ≤ n → AskE S1 S2 e → WfE e → bE e ≤ 2^28 → PureC Tryz.prog G 40 [dR e, .fn (.func g1) c1, .fn (.func g2) c2] (.v (.bool (evE is was e))) := by
 intro n
 induction n with
 | zero => intro e hsz; cases e <;> simp at hsz
 | succ n ih =>
  intro e hsz hask hwf hb
  cases e with
  | cst b =>
   cases b with
   | true =>
    rw [dR]; refine PureC.of_body (tyOf_good _) Tryz.func40 rfl rfl (rs := [.tmp 6]) Tryz.results40 (by simp [Tryz.ntmps40]) fun X => ?_; simp only [Tryz.ntmps40, List.map]; refine rg [0, 1, 2] [] (fun _ _ => trivial) fun K' hK' => ?_; (repeat (refine sxn fun K2 hK2 => ?_; simp [dNum, dS, binS_eq, dNil]; (repeat (refine ⟨by omega, ?_⟩)); refine hK2 _ ?_; clear hK2 K2)); refine sxz (hK' _ (AW.st (by simp [dNum, dS, binS_eq, dNil]; rfl) ?_)); clear hK' K'; refine AW_then fun K1 hK1 => ?_; refine rg [0, 1, 2, 13] [] (fun _ _ => trivial) fun K' hK' => ?_; (repeat (refine sxn fun K2 hK2 => ?_; simp [dNum, dS, binS_eq, dNil]; (repeat (refine ⟨by omega, ?_⟩)); refine hK2 _ ?_; clear hK2 K2)); refine sxz (hK' _ (AW.st (by simp [dNum, dS, binS_eq, dNil]; rfl) ?_)); clear hK' K'; refine AW_block ?_; refine rg [0, 1, 2, 13, 14] [] (fun _ _ => trivial) fun K' hK' => ?_; (repeat (refine sxn fun K2 hK2 => ?_; simp [dNum, dS, binS_eq, dNil]; (repeat (refine ⟨by omega, ?_⟩)); refine hK2 _ ?_; clear hK2 K2)); refine sxz (hK' _ (AW.st (by simp [dNum, dS, binS_eq, dNil]; rfl) ?_)); clear hK' K'; refine AW_tt rfl ?_; refine rg [6] [] (fun _ _ => trivial) fun K' hK' => ?_; (repeat (refine sxn fun K2 hK2 => ?_; simp [dNum, dS, binS_eq, dNil]; (repeat (refine ⟨by omega, ?_⟩)); refine hK2 _ ?_; clear hK2 K2)); refine sxz (hK' _ (AW.st (by simp [dNum, dS, binS_eq, dNil]; rfl) ?_)); clear hK' K'; refine AW_ret ?_; simp [D.le, D.le.go, takeMap, dNum, dS, binS_eq, dNil, evE]
   | false =>
    rw [dR]; refine PureC.of_body (tyOf_good _) Tryz.func40 rfl rfl (rs := [.tmp 6]) Tryz.results40 (by simp [Tryz.ntmps40]) fun X => ?_; simp only [Tryz.ntmps40, List.map]; refine rg [0, 1, 2] [] (fun _ _ => trivial) fun K' hK' => ?_; (repeat (refine sxn fun K2 hK2 => ?_; simp [dNum, dS, binS_eq, dNil]; (repeat (refine ⟨by omega, ?_⟩)); refine hK2 _ ?_; clear hK2 K2)); refine sxz (hK' _ (AW.st (by simp [dNum, dS, binS_eq, dNil]; rfl) ?_)); clear hK' K'; refine AW_then fun K1 hK1 => ?_; refine rg [0, 1, 2, 13] [] (fun _ _ => trivial) fun K' hK' => ?_; (repeat (refine sxn fun K2 hK2 => ?_; simp [dNum, dS, binS_eq, dNil]; (repeat (refine ⟨by omega, ?_⟩)); refine hK2 _ ?_; clear hK2 K2)); refine sxz (hK' _ (AW.st (by simp [dNum, dS, binS_eq, dNil]; rfl) ?_)); clear hK' K'; refine AW_block ?_; refine rg [0, 1, 2, 13, 14] [] (fun _ _ => trivial) fun K' hK' => ?_; (repeat (refine sxn fun K2 hK2 => ?_; simp [dNum, dS, binS_eq, dNil]; (repeat (refine ⟨by omega, ?_⟩)); refine hK2 _ ?_; clear hK2 K2)); refine sxz (hK' _ (AW.st (by simp [dNum, dS, binS_eq, dNil]; rfl) ?_)); clear hK' K'; refine AW_ff rfl ?_; refine rg [0, 1, 2, 13, 16] [] (fun _ _ => trivial) fun K' hK' => ?_; (repeat (refine sxn fun K2 hK2 => ?_; simp [dNum, dS, binS_eq, dNil]; (repeat (refine ⟨by omega, ?_⟩)); refine hK2 _ ?_; clear hK2 K2)); refine sxz (hK' _ (AW.st (by simp [dNum, dS, binS_eq, dNil]; rfl) ?_)); clear hK' K'; refine AW_ff rfl ?_; refine rg [0, 1, 2, 13, 24] [] (fun _ _ => trivial) fun K' hK' => ?_; (repeat (refine sxn fun K2 hK2 => ?_; simp [dNum, dS, binS_eq, dNil]; (repeat (refine ⟨by omega, ?_⟩)); refine hK2 _ ?_; clear hK2 K2)); refine sxz (hK' _ (AW.st (by simp [dNum, dS, binS_eq, dNil]; rfl) ?_)); clear hK' K'; refine AW_ff rfl ?_; refine rg [0, 1, 2, 13, 41] [] (fun _ _ => trivial) fun K' hK' => ?_; (repeat (refine sxn fun K2 hK2 => ?_; simp [dNum, dS, binS_eq, dNil]; (repeat (refine ⟨by omega, ?_⟩)); refine hK2 _ ?_; clear hK2 K2)); refine sxz (hK' _ (AW.st (by simp [dNum, dS, binS_eq, dNil]; rfl) ?_)); clear hK' K'; refine AW_ff rfl ?_; refine rg [0, 1, 2, 13, 58] [] (fun _ _ => trivial) fun K' hK' => ?_; (repeat (refine sxn fun K2 hK2 => ?_; simp [dNum, dS, binS_eq, dNil]; (repeat (refine ⟨by omega, ?_⟩)); refine hK2 _ ?_; clear hK2 K2)); refine sxz (hK' _ (AW.st (by simp [dNum, dS, binS_eq, dNil]; rfl) ?_)); clear hK' K'; refine AW_ff rfl ?_; refine AW_then fun K2 hK2 => ?_; refine rg [0, 1, 2, 13, 70] [] (fun _ _ => trivial) fun K' hK' => ?_; (repeat (refine sxn fun K2 hK2 => ?_; simp [dNum, dS, binS_eq, dNil]; (repeat (refine ⟨by omega, ?_⟩)); refine hK2 _ ?_; clear hK2 K2)); refine sxz (hK' _ (AW.st (by simp [dNum, dS, binS_eq, dNil]; rfl) ?_)); clear hK' K'; refine AW_ff rfl ?_; refine AW_re (tyOf_good _) fun K' hK' => ?_; (repeat (refine sxn fun K2 hK2 => ?_; simp [dNum, dS, binS_eq, dNil]; (repeat (refine ⟨by omega, ?_⟩)); refine hK2 _ ?_; clear hK2 K2)); refine sxz (hK' _ ?_); clear hK' K'; refine hK2 _ (AW.norm [0, 1, 2, 70] [] (fun _ _ => trivial) (AW.st (by simp [dNum, dS, binS_eq, dNil]; rfl) ?_))
    refine AW_ff rfl ?_; refine AW_skip (hK1 _ ?_); refine rg [6] [] (fun _ _ => trivial) fun K' hK' => ?_; (repeat (refine sxn fun K2 hK2 => ?_; simp [dNum, dS, binS_eq, dNil]; (repeat (refine ⟨by omega, ?_⟩)); refine hK2 _ ?_; clear hK2 K2)); refine sxz (hK' _ (AW.st (by simp [dNum, dS, binS_eq, dNil]; rfl) ?_)); clear hK' K'; refine AW_ret ?_; simp [D.le, D.le.go, takeMap, dNum, dS, binS_eq, dNil, evE]
  | bit s =>
   rw [AskE] at hask
   have hi := h1 s hask
   rw [dR, evE]; refine PureC.of_body (tyOf_good _) Tryz.func40 rfl rfl (rs := [.tmp 6]) Tryz.results40 (by simp [Tryz.ntmps40]) fun X => ?_; simp only [Tryz.ntmps40, List.map]; refine rg [0, 1, 2] [] (fun _ _ => trivial) fun K' hK' => ?_; (repeat (refine sxn fun K2 hK2 => ?_; simp [dNum, dS, binS_eq, dNil]; (repeat (refine ⟨by omega, ?_⟩)); refine hK2 _ ?_; clear hK2 K2)); refine sxz (hK' _ (AW.st (by simp [dNum, dS, binS_eq, dNil]; rfl) ?_)); clear hK' K'; refine AW_then fun K1 hK1 => ?_; refine rg [0, 1, 2, 13] [] (fun _ _ => trivial) fun K' hK' => ?_; (repeat (refine sxn fun K2 hK2 => ?_; simp [dNum, dS, binS_eq, dNil]; (repeat (refine ⟨by omega, ?_⟩)); refine hK2 _ ?_; clear hK2 K2)); refine sxz (hK' _ (AW.st (by simp [dNum, dS, binS_eq, dNil]; rfl) ?_)); clear hK' K'; refine AW_block ?_; refine rg [0, 1, 2, 13, 14] [] (fun _ _ => trivial) fun K' hK' => ?_; (repeat (refine sxn fun K2 hK2 => ?_; simp [dNum, dS, binS_eq, dNil]; (repeat (refine ⟨by omega, ?_⟩)); refine hK2 _ ?_; clear hK2 K2)); refine sxz (hK' _ (AW.st (by simp [dNum, dS, binS_eq, dNil]; rfl) ?_)); clear hK' K'; refine AW_ff rfl ?_; refine rg [0, 1, 2, 13, 16] [] (fun _ _ => trivial) fun K' hK' => ?_; (repeat (refine sxn fun K2 hK2 => ?_; simp [dNum, dS, binS_eq, dNil]; (repeat (refine ⟨by omega, ?_⟩)); refine hK2 _ ?_; clear hK2 K2)); refine sxz (hK' _ (AW.st (by simp [dNum, dS, binS_eq, dNil]; rfl) ?_)); clear hK' K'; refine AW_tt rfl ?_; refine rg [6] [] (fun _ _ => trivial) fun K' hK' => ?_; (repeat (refine sxn fun K2 hK2 => ?_; simp [dNum, dS, binS_eq, dNil]; (repeat (refine ⟨by omega, ?_⟩)); refine hK2 _ ?_; clear hK2 K2)); refine sxn fun K2 hK2 => ?_; simp [dNum, dS, binS_eq, dNil]; refine callK.data (hi) (by simp; rfl) (by first | exact D.leGo_refl _ | simp [takeMap, List.map_map, Function.comp_def, D.le, D.le.go, D.le_refl, D.leGo_refl, dNum, dS, binS_eq, dNil]) ?_; refine hK2 _ ?_; clear hK2 K2; simp only [putd, upd_lst]; (repeat (refine sxn fun K2 hK2 => ?_; simp [dNum, dS, binS_eq, dNil]; (repeat (refine ⟨by omega, ?_⟩)); refine hK2 _ ?_; clear hK2 K2)); refine sxz (hK' _ (AW.st (by simp [dNum, dS, binS_eq, dNil]; rfl) ?_)); clear hK' K'; refine AW_ret ?_; simp [D.le, D.le.go, takeMap, dNum, dS, binS_eq, dNil]
  | rise s =>
   rw [AskE] at hask
   have hi := h1 s hask.1
   have hw := h2 s hask.2
   rw [dR, evE]
   cases hx : is s with
   | false =>
    rw [hx] at hi; refine PureC.of_body (tyOf_good _) Tryz.func40 rfl rfl (rs := [.tmp 6]) Tryz.results40 (by simp [Tryz.ntmps40]) fun X => ?_; simp only [Tryz.ntmps40, List.map]; refine rg [0, 1, 2] [] (fun _ _ => trivial) fun K' hK' => ?_; (repeat (refine sxn fun K2 hK2 => ?_; simp [dNum, dS, binS_eq, dNil]; (repeat (refine ⟨by omega, ?_⟩)); refine hK2 _ ?_; clear hK2 K2)); refine sxz (hK' _ (AW.st (by simp [dNum, dS, binS_eq, dNil]; rfl) ?_)); clear hK' K'; refine AW_then fun K1 hK1 => ?_; refine rg [0, 1, 2, 13] [] (fun _ _ => trivial) fun K' hK' => ?_; (repeat (refine sxn fun K2 hK2 => ?_; simp [dNum, dS, binS_eq, dNil]; (repeat (refine ⟨by omega, ?_⟩)); refine hK2 _ ?_; clear hK2 K2)); refine sxz (hK' _ (AW.st (by simp [dNum, dS, binS_eq, dNil]; rfl) ?_)); clear hK' K'; refine AW_block ?_; refine rg [0, 1, 2, 13, 14] [] (fun _ _ => trivial) fun K' hK' => ?_; (repeat (refine sxn fun K2 hK2 => ?_; simp [dNum, dS, binS_eq, dNil]; (repeat (refine ⟨by omega, ?_⟩)); refine hK2 _ ?_; clear hK2 K2)); refine sxz (hK' _ (AW.st (by simp [dNum, dS, binS_eq, dNil]; rfl) ?_)); clear hK' K'; refine AW_ff rfl ?_; refine rg [0, 1, 2, 13, 16] [] (fun _ _ => trivial) fun K' hK' => ?_; (repeat (refine sxn fun K2 hK2 => ?_; simp [dNum, dS, binS_eq, dNil]; (repeat (refine ⟨by omega, ?_⟩)); refine hK2 _ ?_; clear hK2 K2)); refine sxz (hK' _ (AW.st (by simp [dNum, dS, binS_eq, dNil]; rfl) ?_)); clear hK' K'; refine AW_ff rfl ?_; refine rg [0, 1, 2, 13, 24] [] (fun _ _ => trivial) fun K' hK' => ?_; (repeat (refine sxn fun K2 hK2 => ?_; simp [dNum, dS, binS_eq, dNil]; (repeat (refine ⟨by omega, ?_⟩)); refine hK2 _ ?_; clear hK2 K2)); refine sxz (hK' _ (AW.st (by simp [dNum, dS, binS_eq, dNil]; rfl) ?_)); clear hK' K'; refine AW_tt rfl ?_; refine rg [6] [] (fun _ _ => trivial) fun K' hK' => ?_; (repeat (refine sxn fun K2 hK2 => ?_; simp [dNum, dS, binS_eq, dNil]; (repeat (refine ⟨by omega, ?_⟩)); refine hK2 _ ?_; clear hK2 K2)); refine sxn fun K2 hK2 => ?_; simp [dNum, dS, binS_eq, dNil]; refine callK.data (hi) (by simp; rfl) (by first | exact D.leGo_refl _ | simp [takeMap, List.map_map, Function.comp_def, D.le, D.le.go, D.le_refl, D.leGo_refl, dNum, dS, binS_eq, dNil]) ?_; refine hK2 _ ?_; clear hK2 K2; simp only [putd, upd_lst]; (repeat (refine sxn fun K2 hK2 => ?_; simp [dNum, dS, binS_eq, dNil]; (repeat (refine ⟨by omega, ?_⟩)); refine hK2 _ ?_; clear hK2 K2)); refine sxz (hK' _ (AW.st (by simp [dNum, dS, binS_eq, dNil]; rfl) ?_)); clear hK' K'; refine AW_ret ?_; simp [D.le, D.le.go, takeMap, dNum, dS, binS_eq, dNil]
   | true =>
    rw [hx] at hi; refine PureC.of_body (tyOf_good _) Tryz.func40 rfl rfl (rs := [.tmp 6]) Tryz.results40 (by simp [Tryz.ntmps40]) fun X => ?_; simp only [Tryz.ntmps40, List.map]; refine rg [0, 1, 2] [] (fun _ _ => trivial) fun K' hK' => ?_; (repeat (refine sxn fun K2 hK2 => ?_; simp [dNum, dS, binS_eq, dNil]; (repeat (refine ⟨by omega, ?_⟩)); refine hK2 _ ?_; clear hK2 K2)); refine sxz (hK' _ (AW.st (by simp [dNum, dS, binS_eq, dNil]; rfl) ?_)); clear hK' K'; refine AW_then fun K1 hK1 => ?_; refine rg [0, 1, 2, 13] [] (fun _ _ => trivial) fun K' hK' => ?_; (repeat (refine sxn fun K2 hK2 => ?_; simp [dNum, dS, binS_eq, dNil]; (repeat (refine ⟨by omega, ?_⟩)); refine hK2 _ ?_; clear hK2 K2)); refine sxz (hK' _ (AW.st (by simp [dNum, dS, binS_eq, dNil]; rfl) ?_)); clear hK' K'; refine AW_block ?_; refine rg [0, 1, 2, 13, 14] [] (fun _ _ => trivial) fun K' hK' => ?_; (repeat (refine sxn fun K2 hK2 => ?_; simp [dNum, dS, binS_eq, dNil]; (repeat (refine ⟨by omega, ?_⟩)); refine hK2 _ ?_; clear hK2 K2)); refine sxz (hK' _ (AW.st (by simp [dNum, dS, binS_eq, dNil]; rfl) ?_)); clear hK' K'; refine AW_ff rfl ?_; refine rg [0, 1, 2, 13, 16] [] (fun _ _ => trivial) fun K' hK' => ?_; (repeat (refine sxn fun K2 hK2 => ?_; simp [dNum, dS, binS_eq, dNil]; (repeat (refine ⟨by omega, ?_⟩)); refine hK2 _ ?_; clear hK2 K2)); refine sxz (hK' _ (AW.st (by simp [dNum, dS, binS_eq, dNil]; rfl) ?_)); clear hK' K'; refine AW_ff rfl ?_; refine rg [0, 1, 2, 13, 24] [] (fun _ _ => trivial) fun K' hK' => ?_; (repeat (refine sxn fun K2 hK2 => ?_; simp [dNum, dS, binS_eq, dNil]; (repeat (refine ⟨by omega, ?_⟩)); refine hK2 _ ?_; clear hK2 K2)); refine sxz (hK' _ (AW.st (by simp [dNum, dS, binS_eq, dNil]; rfl) ?_)); clear hK' K'; refine AW_tt rfl ?_; refine rg [6] [] (fun _ _ => trivial) fun K' hK' => ?_; (repeat (refine sxn fun K2 hK2 => ?_; simp [dNum, dS, binS_eq, dNil]; (repeat (refine ⟨by omega, ?_⟩)); refine hK2 _ ?_; clear hK2 K2)); refine sxn fun K2 hK2 => ?_; simp [dNum, dS, binS_eq, dNil]; refine callK.data (hi) (by simp; rfl) (by first | exact D.leGo_refl _ | simp [takeMap, List.map_map, Function.comp_def, D.le, D.le.go, D.le_refl, D.leGo_refl, dNum, dS, binS_eq, dNil]) ?_; refine hK2 _ ?_; clear hK2 K2; simp only [putd, upd_lst]; (repeat (refine sxn fun K2 hK2 => ?_; simp [dNum, dS, binS_eq, dNil]; (repeat (refine ⟨by omega, ?_⟩)); refine hK2 _ ?_; clear hK2 K2)); refine sxn fun K2 hK2 => ?_; simp [dNum, dS, binS_eq, dNil]; refine callK.data (hw) (by simp; rfl) (by first | exact D.leGo_refl _ | simp [takeMap, List.map_map, Function.comp_def, D.le, D.le.go, D.le_refl, D.leGo_refl, dNum, dS, binS_eq, dNil]) ?_; refine hK2 _ ?_; clear hK2 K2; simp only [putd, upd_lst]; (repeat (refine sxn fun K2 hK2 => ?_; simp [dNum, dS, binS_eq, dNil]; (repeat (refine ⟨by omega, ?_⟩)); refine hK2 _ ?_; clear hK2 K2)); refine sxz (hK' _ (AW.st (by simp [dNum, dS, binS_eq, dNil]; rfl) ?_)); clear hK' K'; refine AW_ret ?_; simp [D.le, D.le.go, takeMap, dNum, dS, binS_eq, dNil]
  | fall s =>
   rw [AskE] at hask
   have hi := h2 s hask.2
   have hw := h1 s hask.1
   rw [dR, evE]; rw [Bool.and_comm]
   cases hx : was s with
   | false =>
    rw [hx] at hi; refine PureC.of_body (tyOf_good _) Tryz.func40 rfl rfl (rs := [.tmp 6]) Tryz.results40 (by simp [Tryz.ntmps40]) fun X => ?_; simp only [Tryz.ntmps40, List.map]; refine rg [0, 1, 2] [] (fun _ _ => trivial) fun K' hK' => ?_; (repeat (refine sxn fun K2 hK2 => ?_; simp [dNum, dS, binS_eq, dNil]; (repeat (refine ⟨by omega, ?_⟩)); refine hK2 _ ?_; clear hK2 K2)); refine sxz (hK' _ (AW.st (by simp [dNum, dS, binS_eq, dNil]; rfl) ?_)); clear hK' K'; refine AW_then fun K1 hK1 => ?_; refine rg [0, 1, 2, 13] [] (fun _ _ => trivial) fun K' hK' => ?_; (repeat (refine sxn fun K2 hK2 => ?_; simp [dNum, dS, binS_eq, dNil]; (repeat (refine ⟨by omega, ?_⟩)); refine hK2 _ ?_; clear hK2 K2)); refine sxz (hK' _ (AW.st (by simp [dNum, dS, binS_eq, dNil]; rfl) ?_)); clear hK' K'; refine AW_block ?_; refine rg [0, 1, 2, 13, 14] [] (fun _ _ => trivial) fun K' hK' => ?_; (repeat (refine sxn fun K2 hK2 => ?_; simp [dNum, dS, binS_eq, dNil]; (repeat (refine ⟨by omega, ?_⟩)); refine hK2 _ ?_; clear hK2 K2)); refine sxz (hK' _ (AW.st (by simp [dNum, dS, binS_eq, dNil]; rfl) ?_)); clear hK' K'; refine AW_ff rfl ?_; refine rg [0, 1, 2, 13, 16] [] (fun _ _ => trivial) fun K' hK' => ?_; (repeat (refine sxn fun K2 hK2 => ?_; simp [dNum, dS, binS_eq, dNil]; (repeat (refine ⟨by omega, ?_⟩)); refine hK2 _ ?_; clear hK2 K2)); refine sxz (hK' _ (AW.st (by simp [dNum, dS, binS_eq, dNil]; rfl) ?_)); clear hK' K'; refine AW_ff rfl ?_; refine rg [0, 1, 2, 13, 24] [] (fun _ _ => trivial) fun K' hK' => ?_; (repeat (refine sxn fun K2 hK2 => ?_; simp [dNum, dS, binS_eq, dNil]; (repeat (refine ⟨by omega, ?_⟩)); refine hK2 _ ?_; clear hK2 K2)); refine sxz (hK' _ (AW.st (by simp [dNum, dS, binS_eq, dNil]; rfl) ?_)); clear hK' K'; refine AW_ff rfl ?_; refine rg [0, 1, 2, 13, 41] [] (fun _ _ => trivial) fun K' hK' => ?_; (repeat (refine sxn fun K2 hK2 => ?_; simp [dNum, dS, binS_eq, dNil]; (repeat (refine ⟨by omega, ?_⟩)); refine hK2 _ ?_; clear hK2 K2)); refine sxz (hK' _ (AW.st (by simp [dNum, dS, binS_eq, dNil]; rfl) ?_)); clear hK' K'; refine AW_tt rfl ?_; refine rg [6] [] (fun _ _ => trivial) fun K' hK' => ?_; (repeat (refine sxn fun K2 hK2 => ?_; simp [dNum, dS, binS_eq, dNil]; (repeat (refine ⟨by omega, ?_⟩)); refine hK2 _ ?_; clear hK2 K2)); refine sxn fun K2 hK2 => ?_; simp [dNum, dS, binS_eq, dNil]; refine callK.data (hi) (by simp; rfl) (by first | exact D.leGo_refl _ | simp [takeMap, List.map_map, Function.comp_def, D.le, D.le.go, D.le_refl, D.leGo_refl, dNum, dS, binS_eq, dNil]) ?_; refine hK2 _ ?_; clear hK2 K2; simp only [putd, upd_lst]; (repeat (refine sxn fun K2 hK2 => ?_; simp [dNum, dS, binS_eq, dNil]; (repeat (refine ⟨by omega, ?_⟩)); refine hK2 _ ?_; clear hK2 K2)); refine sxz (hK' _ (AW.st (by simp [dNum, dS, binS_eq, dNil]; rfl) ?_)); clear hK' K'; refine AW_ret ?_; simp [D.le, D.le.go, takeMap, dNum, dS, binS_eq, dNil]
   | true =>
    rw [hx] at hi; refine PureC.of_body (tyOf_good _) Tryz.func40 rfl rfl (rs := [.tmp 6]) Tryz.results40 (by simp [Tryz.ntmps40]) fun X => ?_; simp only [Tryz.ntmps40, List.map]; refine rg [0, 1, 2] [] (fun _ _ => trivial) fun K' hK' => ?_; (repeat (refine sxn fun K2 hK2 => ?_; simp [dNum, dS, binS_eq, dNil]; (repeat (refine ⟨by omega, ?_⟩)); refine hK2 _ ?_; clear hK2 K2)); refine sxz (hK' _ (AW.st (by simp [dNum, dS, binS_eq, dNil]; rfl) ?_)); clear hK' K'; refine AW_then fun K1 hK1 => ?_; refine rg [0, 1, 2, 13] [] (fun _ _ => trivial) fun K' hK' => ?_; (repeat (refine sxn fun K2 hK2 => ?_; simp [dNum, dS, binS_eq, dNil]; (repeat (refine ⟨by omega, ?_⟩)); refine hK2 _ ?_; clear hK2 K2)); refine sxz (hK' _ (AW.st (by simp [dNum, dS, binS_eq, dNil]; rfl) ?_)); clear hK' K'; refine AW_block ?_; refine rg [0, 1, 2, 13, 14] [] (fun _ _ => trivial) fun K' hK' => ?_; (repeat (refine sxn fun K2 hK2 => ?_; simp [dNum, dS, binS_eq, dNil]; (repeat (refine ⟨by omega, ?_⟩)); refine hK2 _ ?_; clear hK2 K2)); refine sxz (hK' _ (AW.st (by simp [dNum, dS, binS_eq, dNil]; rfl) ?_)); clear hK' K'; refine AW_ff rfl ?_; refine rg [0, 1, 2, 13, 16] [] (fun _ _ => trivial) fun K' hK' => ?_; (repeat (refine sxn fun K2 hK2 => ?_; simp [dNum, dS, binS_eq, dNil]; (repeat (refine ⟨by omega, ?_⟩)); refine hK2 _ ?_; clear hK2 K2)); refine sxz (hK' _ (AW.st (by simp [dNum, dS, binS_eq, dNil]; rfl) ?_)); clear hK' K'; refine AW_ff rfl ?_; refine rg [0, 1, 2, 13, 24] [] (fun _ _ => trivial) fun K' hK' => ?_; (repeat (refine sxn fun K2 hK2 => ?_; simp [dNum, dS, binS_eq, dNil]; (repeat (refine ⟨by omega, ?_⟩)); refine hK2 _ ?_; clear hK2 K2)); refine sxz (hK' _ (AW.st (by simp [dNum, dS, binS_eq, dNil]; rfl) ?_)); clear hK' K'; refine AW_ff rfl ?_; refine rg [0, 1, 2, 13, 41] [] (fun _ _ => trivial) fun K' hK' => ?_; (repeat (refine sxn fun K2 hK2 => ?_; simp [dNum, dS, binS_eq, dNil]; (repeat (refine ⟨by omega, ?_⟩)); refine hK2 _ ?_; clear hK2 K2)); refine sxz (hK' _ (AW.st (by simp [dNum, dS, binS_eq, dNil]; rfl) ?_)); clear hK' K'; refine AW_tt rfl ?_; refine rg [6] [] (fun _ _ => trivial) fun K' hK' => ?_; (repeat (refine sxn fun K2 hK2 => ?_; simp [dNum, dS, binS_eq, dNil]; (repeat (refine ⟨by omega, ?_⟩)); refine hK2 _ ?_; clear hK2 K2)); refine sxn fun K2 hK2 => ?_; simp [dNum, dS, binS_eq, dNil]; refine callK.data (hi) (by simp; rfl) (by first | exact D.leGo_refl _ | simp [takeMap, List.map_map, Function.comp_def, D.le, D.le.go, D.le_refl, D.leGo_refl, dNum, dS, binS_eq, dNil]) ?_; refine hK2 _ ?_; clear hK2 K2; simp only [putd, upd_lst]; (repeat (refine sxn fun K2 hK2 => ?_; simp [dNum, dS, binS_eq, dNil]; (repeat (refine ⟨by omega, ?_⟩)); refine hK2 _ ?_; clear hK2 K2)); refine sxn fun K2 hK2 => ?_; simp [dNum, dS, binS_eq, dNil]; refine callK.data (hw) (by simp; rfl) (by first | exact D.leGo_refl _ | simp [takeMap, List.map_map, Function.comp_def, D.le, D.le.go, D.le_refl, D.leGo_refl, dNum, dS, binS_eq, dNil]) ?_; refine hK2 _ ?_; clear hK2 K2; simp only [putd, upd_lst]
    (repeat (refine sxn fun K2 hK2 => ?_; simp [dNum, dS, binS_eq, dNil]; (repeat (refine ⟨by omega, ?_⟩)); refine hK2 _ ?_; clear hK2 K2)); refine sxz (hK' _ (AW.st (by simp [dNum, dS, binS_eq, dNil]; rfl) ?_)); clear hK' K'; refine AW_ret ?_; simp [D.le, D.le.go, takeMap, dNum, dS, binS_eq, dNil]
  | not x =>
   have hc := ih x (by simp at hsz; omega) (by rwa [AskE] at hask) (by simpa [WfE] using hwf) (by simp only [bE] at hb; omega)
   rw [dR, evE]; rw [dR_form x] at hc ⊢; refine PureC.of_body (tyOf_good _) Tryz.func40 rfl rfl (rs := [.tmp 6]) Tryz.results40 (by simp [Tryz.ntmps40]) fun X => ?_; simp only [Tryz.ntmps40, List.map]; refine rg [0, 1, 2] [] (fun _ _ => trivial) fun K' hK' => ?_; (repeat (refine sxn fun K2 hK2 => ?_; simp [dNum, dS, binS_eq, dNil]; (repeat (refine ⟨by omega, ?_⟩)); refine hK2 _ ?_; clear hK2 K2)); refine sxz (hK' _ (AW.st (by simp [dNum, dS, binS_eq, dNil]; rfl) ?_)); clear hK' K'; refine AW_then fun K1 hK1 => ?_; refine rg [0, 1, 2, 13] [] (fun _ _ => trivial) fun K' hK' => ?_; (repeat (refine sxn fun K2 hK2 => ?_; simp [dNum, dS, binS_eq, dNil]; (repeat (refine ⟨by omega, ?_⟩)); refine hK2 _ ?_; clear hK2 K2)); refine sxz (hK' _ (AW.st (by simp [dNum, dS, binS_eq, dNil]; rfl) ?_)); clear hK' K'; refine AW_block ?_; refine rg [0, 1, 2, 13, 14] [] (fun _ _ => trivial) fun K' hK' => ?_; (repeat (refine sxn fun K2 hK2 => ?_; simp [dNum, dS, binS_eq, dNil]; (repeat (refine ⟨by omega, ?_⟩)); refine hK2 _ ?_; clear hK2 K2)); refine sxz (hK' _ (AW.st (by simp [dNum, dS, binS_eq, dNil]; rfl) ?_)); clear hK' K'; refine AW_ff rfl ?_; refine rg [0, 1, 2, 13, 16] [] (fun _ _ => trivial) fun K' hK' => ?_; (repeat (refine sxn fun K2 hK2 => ?_; simp [dNum, dS, binS_eq, dNil]; (repeat (refine ⟨by omega, ?_⟩)); refine hK2 _ ?_; clear hK2 K2)); refine sxz (hK' _ (AW.st (by simp [dNum, dS, binS_eq, dNil]; rfl) ?_)); clear hK' K'; refine AW_ff rfl ?_; refine rg [0, 1, 2, 13, 24] [] (fun _ _ => trivial) fun K' hK' => ?_; (repeat (refine sxn fun K2 hK2 => ?_; simp [dNum, dS, binS_eq, dNil]; (repeat (refine ⟨by omega, ?_⟩)); refine hK2 _ ?_; clear hK2 K2)); refine sxz (hK' _ (AW.st (by simp [dNum, dS, binS_eq, dNil]; rfl) ?_)); clear hK' K'; refine AW_ff rfl ?_; refine rg [0, 1, 2, 13, 41] [] (fun _ _ => trivial) fun K' hK' => ?_; (repeat (refine sxn fun K2 hK2 => ?_; simp [dNum, dS, binS_eq, dNil]; (repeat (refine ⟨by omega, ?_⟩)); refine hK2 _ ?_; clear hK2 K2)); refine sxz (hK' _ (AW.st (by simp [dNum, dS, binS_eq, dNil]; rfl) ?_)); clear hK' K'; refine AW_ff rfl ?_; refine rg [0, 1, 2, 13, 58] [] (fun _ _ => trivial) fun K' hK' => ?_; (repeat (refine sxn fun K2 hK2 => ?_; simp [dNum, dS, binS_eq, dNil]; (repeat (refine ⟨by omega, ?_⟩)); refine hK2 _ ?_; clear hK2 K2)); refine sxz (hK' _ (AW.st (by simp [dNum, dS, binS_eq, dNil]; rfl) ?_)); clear hK' K'; refine AW_tt rfl ?_; refine rg [6] [] (fun _ _ => trivial) fun K' hK' => ?_; (repeat (refine sxn fun K2 hK2 => ?_; simp [dNum, dS, binS_eq, dNil]; (repeat (refine ⟨by omega, ?_⟩)); refine hK2 _ ?_; clear hK2 K2)); refine sxn fun K2 hK2 => ?_; simp [dNum, dS, binS_eq, dNil]; refine callK.data (hc) (by simp; rfl) (by first | exact D.leGo_refl _ | simp [takeMap, List.map_map, Function.comp_def, D.le, D.le.go, D.le_refl, D.leGo_refl, dNum, dS, binS_eq, dNil]) ?_; refine hK2 _ ?_; clear hK2 K2; simp only [putd, upd_lst]; repeat (refine sxn fun K2 hK2 => ?_; simp [dNum, dS, binS_eq, dNil]; (repeat (refine ⟨by omega, ?_⟩)); refine hK2 _ ?_; clear hK2 K2)
   refine sxz (hK' _ (AW.st (by simp [dNum, dS, binS_eq, dNil]; rfl) ?_)); clear hK' K'; refine AW_ret ?_; simp [D.le, D.le.go, takeMap, dNum, dS, binS_eq, dNil]
  | and l =>
   have hln := bEs_len l
   simp only [bE] at hb
   have hwl : 2 ≤ l.length ∧ ∀ x ∈ l, WfE x := by rw [WfE] at hwf; exact ⟨hwf.1, (WfEs_iff l).1 hwf.2⟩
   have hch : ∀ x ∈ l, PureC Tryz.prog G 40 [dR x, .fn (.func g1) c1, .fn (.func g2) c2] (.v (.bool (evE is was x))) := fun x hx => by
    have h5 := List.sizeOf_lt_of_mem hx
    exact ih x (by simp only [Ex.and.sizeOf_spec] at hsz; omega) (by rw [AskE, AskL_iff] at hask; exact hask x hx) (hwl.2 x hx) (by have := bEs_mem hx; omega)
   have hcnt := cntE_and is was l
   rw [evE, ← hcnt]; rw [dR, dRs_map]; clear hcnt; refine PureC.of_body (tyOf_good _) Tryz.func40 rfl rfl (rs := [.tmp 6]) Tryz.results40 (by simp [Tryz.ntmps40]) fun X => ?_; simp only [Tryz.ntmps40, List.map]; refine rg [0, 1, 2] [] (fun _ _ => trivial) fun K' hK' => ?_; (repeat (refine sxn fun K2 hK2 => ?_; simp [dNum, dS, binS_eq, dNil]; (repeat (refine ⟨by omega, ?_⟩)); refine hK2 _ ?_; clear hK2 K2)); refine sxz (hK' _ (AW.st (by simp [dNum, dS, binS_eq, dNil]; rfl) ?_)); clear hK' K'; refine AW_then fun K1 hK1 => ?_; refine rg [0, 1, 2, 13] [] (fun _ _ => trivial) fun K' hK' => ?_; (repeat (refine sxn fun K2 hK2 => ?_; simp [dNum, dS, binS_eq, dNil]; (repeat (refine ⟨by omega, ?_⟩)); refine hK2 _ ?_; clear hK2 K2)); refine sxz (hK' _ (AW.st (by simp [dNum, dS, binS_eq, dNil]; rfl) ?_)); clear hK' K'; refine AW_block ?_; refine rg [0, 1, 2, 13, 14] [] (fun _ _ => trivial) fun K' hK' => ?_; (repeat (refine sxn fun K2 hK2 => ?_; simp [dNum, dS, binS_eq, dNil]; (repeat (refine ⟨by omega, ?_⟩)); refine hK2 _ ?_; clear hK2 K2)); refine sxz (hK' _ (AW.st (by simp [dNum, dS, binS_eq, dNil]; rfl) ?_)); clear hK' K'; refine AW_ff rfl ?_; refine rg [0, 1, 2, 13, 16] [] (fun _ _ => trivial) fun K' hK' => ?_; (repeat (refine sxn fun K2 hK2 => ?_; simp [dNum, dS, binS_eq, dNil]; (repeat (refine ⟨by omega, ?_⟩)); refine hK2 _ ?_; clear hK2 K2)); refine sxz (hK' _ (AW.st (by simp [dNum, dS, binS_eq, dNil]; rfl) ?_)); clear hK' K'; refine AW_ff rfl ?_; refine rg [0, 1, 2, 13, 24] [] (fun _ _ => trivial) fun K' hK' => ?_; (repeat (refine sxn fun K2 hK2 => ?_; simp [dNum, dS, binS_eq, dNil]; (repeat (refine ⟨by omega, ?_⟩)); refine hK2 _ ?_; clear hK2 K2)); refine sxz (hK' _ (AW.st (by simp [dNum, dS, binS_eq, dNil]; rfl) ?_)); clear hK' K'; refine AW_ff rfl ?_; refine rg [0, 1, 2, 13, 41] [] (fun _ _ => trivial) fun K' hK' => ?_; (repeat (refine sxn fun K2 hK2 => ?_; simp [dNum, dS, binS_eq, dNil]; (repeat (refine ⟨by omega, ?_⟩)); refine hK2 _ ?_; clear hK2 K2)); refine sxz (hK' _ (AW.st (by simp [dNum, dS, binS_eq, dNil]; rfl) ?_)); clear hK' K'; refine AW_ff rfl ?_; refine rg [0, 1, 2, 13, 58] [] (fun _ _ => trivial) fun K' hK' => ?_; (repeat (refine sxn fun K2 hK2 => ?_; simp [dNum, dS, binS_eq, dNil]; (repeat (refine ⟨by omega, ?_⟩)); refine hK2 _ ?_; clear hK2 K2)); refine sxz (hK' _ (AW.st (by simp [dNum, dS, binS_eq, dNil]; rfl) ?_)); clear hK' K'; refine AW_ff rfl ?_; refine AW_then fun K2 hK2 => ?_; refine rg [0, 1, 2, 13, 70] [] (fun _ _ => trivial) fun K' hK' => ?_; (repeat (refine sxn fun K2 hK2 => ?_; simp [dNum, dS, binS_eq, dNil]; (repeat (refine ⟨by omega, ?_⟩)); refine hK2 _ ?_; clear hK2 K2)); refine sxz (hK' _ (AW.st (by simp [dNum, dS, binS_eq, dNil]; rfl) ?_)); clear hK' K'; refine AW_tt rfl ?_; refine AW_skip (hK2 _ ?_); refine AW_tt rfl ?_; refine rg [0, 1, 2, 7] [] (fun _ _ => trivial) fun K' hK' => ?_; repeat (refine sxn fun K2 hK2 => ?_; simp [dNum, dS, binS_eq, dNil]; (repeat (refine ⟨by omega, ?_⟩)); refine hK2 _ ?_; clear hK2 K2)
   refine sxz (hK' _ (AW.st (by simp [dNum, dS, binS_eq, dNil]; rfl) ?_)); clear hK' K'; refine AW_then fun K3 hK3 => ?_; refine rg [0, 1, 2, 7, 76, 77, 78] [] (fun _ _ => trivial) fun K' hK' => ?_; (repeat (refine sxn fun K2 hK2 => ?_; simp [dNum, dS, binS_eq, dNil]; (repeat (refine ⟨by omega, ?_⟩)); refine hK2 _ ?_; clear hK2 K2)); refine sxz (hK' _ (AW.st (by simp [dNum, dS, binS_eq, dNil]; rfl) ?_)); clear hK' K'; refine AW_for (S := Nat) (fun i => i ≤ l.length) (fun i => ⟨lst [(0, .d (.ip [dS [38], dS [], .sl none (l.map fun e => [dR e])])), (1, .d (.fn (.func g1) c1)), (2, .d (.fn (.func g2) c2)), (7, int (cntE is was (l.take i) : Nat)), (76, .d (.sl none (l.map fun e => [dR e]))), (77, int l.length), (78, int i)], hlst []⟩) (fun i => l.length - i) 0 ?_ (by omega) ?_
   ·refine Imp.to' (fun _ _ => trivial) (by simp [dNum, dS, binS_eq, dNil, cntE]) (by simp [dNum, dS, binS_eq, dNil, cntE])
   ·intro i hi
    have hcl := cntE_le is was (l.take i)
    rw [List.length_take] at hcl; refine rg [0, 1, 2, 7, 76, 77, 78, 79] [] (fun _ _ => trivial) fun K' hK' => ?_; (repeat (refine sxn fun K2 hK2 => ?_; simp [dNum, dS, binS_eq, dNil]; (repeat (refine ⟨by omega, ?_⟩)); refine hK2 _ ?_; clear hK2 K2)); refine sxz (hK' _ (AW.st (by simp [dNum, dS, binS_eq, dNil]; rfl) ?_)); clear hK' K'; refine AW_then fun K4 hK4 => ?_; refine AW_cond' (b := i < l.length) (by simp [D.le, D.le.go, takeMap, dNum, dS, binS_eq, dNil]) (fun hc => ?_) (fun hc => ?_)
    ·have hil : i < l.length := hc
     have hcc := hch _ (List.getElem_mem hil)
     have htk := cntE_take is was hil
     have hf := dR_form l[i]
     rw [hf] at hcc; refine AW_skip (hK4 _ ?_); refine AW_then fun K5 hK5 => ?_; refine AW_block ?_; refine rg [0, 1, 2, 7, 9, 76, 77, 78] [] (fun _ _ => trivial) fun K' hK' => ?_; (repeat (refine sxn fun K2 hK2 => ?_; simp [dNum, dS, binS_eq, dNil, hil, hf]; (repeat (refine ⟨by omega, ?_⟩)); refine hK2 _ ?_; clear hK2 K2)); refine sxz (hK' _ (AW.st (by simp [dNum, dS, binS_eq, dNil, hil, hf]; rfl) ?_)); clear hK' K'; refine rg [0, 1, 2, 7, 76, 77, 78, 85] [] (fun _ _ => trivial) fun K' hK' => ?_; (repeat (refine sxn fun K2 hK2 => ?_; simp [dNum, dS, binS_eq, dNil]; (repeat (refine ⟨by omega, ?_⟩)); refine hK2 _ ?_; clear hK2 K2)); refine sxn fun K2 hK2 => ?_; simp [dNum, dS, binS_eq, dNil]; refine callK.data (hcc) (by simp; rfl) (by first | exact D.leGo_refl _ | simp [takeMap, List.map_map, Function.comp_def, D.le, D.le.go, D.le_refl, D.leGo_refl, dNum, dS, binS_eq, dNil]) ?_; refine hK2 _ ?_; clear hK2 K2; simp only [putd, upd_lst]; (repeat (refine sxn fun K2 hK2 => ?_; simp [dNum, dS, binS_eq, dNil]; (repeat (refine ⟨by omega, ?_⟩)); refine hK2 _ ?_; clear hK2 K2)); refine sxz (hK' _ (AW.st (by simp [dNum, dS, binS_eq, dNil]; rfl) ?_)); clear hK' K'
     cases hv : evE is was l[i] with
     | true =>
      rw [hv] at htk; refine AW_cond true (by simp [hv]) (fun _ => ?_) (fun h => by cases h); refine AW_re (tyOf_good _) fun K' hK' => ?_; (repeat (refine sxn fun K2 hK2 => ?_; simp [dNum, dS, binS_eq, dNil]; (repeat (refine ⟨by omega, ?_⟩)); refine hK2 _ ?_; clear hK2 K2)); refine sxz (hK' _ ?_); clear hK' K'; refine hK5 _ (AW.norm [0, 1, 2, 7, 76, 77, 78] [] (fun _ _ => trivial) (AW.st (by simp [dNum, dS, binS_eq, dNil]; rfl) ?_)); refine AW_re (tyOf_good _) fun K' hK' => ?_; (repeat (refine sxn fun K2 hK2 => ?_; simp [dNum, dS, binS_eq, dNil]; (repeat (refine ⟨by omega, ?_⟩)); refine hK2 _ ?_; clear hK2 K2)); refine sxz (hK' _ ?_); clear hK' K'; (try simp only [thn, inb]); refine Again.mk (i + 1) (by omega) (by omega) ?_; refine Imp.to' (fun _ _ => trivial) (by simp [dNum, dS, binS_eq, dNil, htk]) (by simp [dNum, dS, binS_eq, dNil, htk])
     | false =>
      rw [hv] at htk; refine AW_cond false (by simp [hv]) (fun h => by cases h) (fun _ => ?_); refine AW_skip (hK5 _ ?_); refine AW_re (tyOf_good _) fun K' hK' => ?_; (repeat (refine sxn fun K2 hK2 => ?_; simp [dNum, dS, binS_eq, dNil]; (repeat (refine ⟨by omega, ?_⟩)); refine hK2 _ ?_; clear hK2 K2)); refine sxz (hK' _ ?_); clear hK' K'; (try simp only [thn, inb]); refine Again.mk (i + 1) (by omega) (by omega) ?_; refine Imp.to' (fun _ _ => trivial) (by simp [dNum, dS, binS_eq, dNil, htk]) (by simp [dNum, dS, binS_eq, dNil, htk])
    ·obtain rfl : i = l.length := by omega
     refine AW_exit (hK3 _ ?_); rw [List.take_length] at hcl ⊢; refine rg [6] [] (fun _ _ => trivial) fun K' hK' => ?_; (repeat (refine sxn fun K2 hK2 => ?_; simp [dNum, dS, binS_eq, dNil]; (repeat (refine ⟨by omega, ?_⟩)); refine hK2 _ ?_; clear hK2 K2)); refine sxz (hK' _ (AW.st (by simp [dNum, dS, binS_eq, dNil]; rfl) ?_)); clear hK' K'; refine AW_ret ?_; simp [D.le, D.le.go, takeMap, dNum, dS, binS_eq, dNil]
  | or l =>
   have hln := bEs_len l
   simp only [bE] at hb
   have hwl : 2 ≤ l.length ∧ ∀ x ∈ l, WfE x := by rw [WfE] at hwf; exact ⟨hwf.1, (WfEs_iff l).1 hwf.2⟩
   have hch : ∀ x ∈ l, PureC Tryz.prog G 40 [dR x, .fn (.func g1) c1, .fn (.func g2) c2] (.v (.bool (evE is was x))) := fun x hx => by
    have h5 := List.sizeOf_lt_of_mem hx
    exact ih x (by simp only [Ex.or.sizeOf_spec] at hsz; omega) (by rw [AskE, AskL_iff] at hask; exact hask x hx) (hwl.2 x hx) (by have := bEs_mem hx; omega)
   have hcnt := cntE_or is was l
   rw [evE, ← hcnt]; rw [dR, dRs_map]; clear hcnt; refine PureC.of_body (tyOf_good _) Tryz.func40 rfl rfl (rs := [.tmp 6]) Tryz.results40 (by simp [Tryz.ntmps40]) fun X => ?_; simp only [Tryz.ntmps40, List.map]; refine rg [0, 1, 2] [] (fun _ _ => trivial) fun K' hK' => ?_; (repeat (refine sxn fun K2 hK2 => ?_; simp [dNum, dS, binS_eq, dNil]; (repeat (refine ⟨by omega, ?_⟩)); refine hK2 _ ?_; clear hK2 K2)); refine sxz (hK' _ (AW.st (by simp [dNum, dS, binS_eq, dNil]; rfl) ?_)); clear hK' K'; refine AW_then fun K1 hK1 => ?_; refine rg [0, 1, 2, 13] [] (fun _ _ => trivial) fun K' hK' => ?_; (repeat (refine sxn fun K2 hK2 => ?_; simp [dNum, dS, binS_eq, dNil]; (repeat (refine ⟨by omega, ?_⟩)); refine hK2 _ ?_; clear hK2 K2)); refine sxz (hK' _ (AW.st (by simp [dNum, dS, binS_eq, dNil]; rfl) ?_)); clear hK' K'; refine AW_block ?_; refine rg [0, 1, 2, 13, 14] [] (fun _ _ => trivial) fun K' hK' => ?_; (repeat (refine sxn fun K2 hK2 => ?_; simp [dNum, dS, binS_eq, dNil]; (repeat (refine ⟨by omega, ?_⟩)); refine hK2 _ ?_; clear hK2 K2)); refine sxz (hK' _ (AW.st (by simp [dNum, dS, binS_eq, dNil]; rfl) ?_)); clear hK' K'; refine AW_ff rfl ?_; refine rg [0, 1, 2, 13, 16] [] (fun _ _ => trivial) fun K' hK' => ?_; (repeat (refine sxn fun K2 hK2 => ?_; simp [dNum, dS, binS_eq, dNil]; (repeat (refine ⟨by omega, ?_⟩)); refine hK2 _ ?_; clear hK2 K2)); refine sxz (hK' _ (AW.st (by simp [dNum, dS, binS_eq, dNil]; rfl) ?_)); clear hK' K'; refine AW_ff rfl ?_; refine rg [0, 1, 2, 13, 24] [] (fun _ _ => trivial) fun K' hK' => ?_; (repeat (refine sxn fun K2 hK2 => ?_; simp [dNum, dS, binS_eq, dNil]; (repeat (refine ⟨by omega, ?_⟩)); refine hK2 _ ?_; clear hK2 K2)); refine sxz (hK' _ (AW.st (by simp [dNum, dS, binS_eq, dNil]; rfl) ?_)); clear hK' K'; refine AW_ff rfl ?_; refine rg [0, 1, 2, 13, 41] [] (fun _ _ => trivial) fun K' hK' => ?_; (repeat (refine sxn fun K2 hK2 => ?_; simp [dNum, dS, binS_eq, dNil]; (repeat (refine ⟨by omega, ?_⟩)); refine hK2 _ ?_; clear hK2 K2)); refine sxz (hK' _ (AW.st (by simp [dNum, dS, binS_eq, dNil]; rfl) ?_)); clear hK' K'; refine AW_ff rfl ?_; refine rg [0, 1, 2, 13, 58] [] (fun _ _ => trivial) fun K' hK' => ?_; (repeat (refine sxn fun K2 hK2 => ?_; simp [dNum, dS, binS_eq, dNil]; (repeat (refine ⟨by omega, ?_⟩)); refine hK2 _ ?_; clear hK2 K2)); refine sxz (hK' _ (AW.st (by simp [dNum, dS, binS_eq, dNil]; rfl) ?_)); clear hK' K'; refine AW_ff rfl ?_; refine AW_then fun K2 hK2 => ?_; refine rg [0, 1, 2, 13, 70] [] (fun _ _ => trivial) fun K' hK' => ?_; (repeat (refine sxn fun K2 hK2 => ?_; simp [dNum, dS, binS_eq, dNil]; (repeat (refine ⟨by omega, ?_⟩)); refine hK2 _ ?_; clear hK2 K2)); refine sxz (hK' _ (AW.st (by simp [dNum, dS, binS_eq, dNil]; rfl) ?_)); clear hK' K'; refine AW_ff rfl ?_; refine AW_re (tyOf_good _) fun K' hK' => ?_; (repeat (refine sxn fun K2 hK2 => ?_; simp [dNum, dS, binS_eq, dNil]; (repeat (refine ⟨by omega, ?_⟩)); refine hK2 _ ?_; clear hK2 K2)); refine sxz (hK' _ ?_); clear hK' K'; refine hK2 _ (AW.norm [0, 1, 2, 70] [] (fun _ _ => trivial) (AW.st (by simp [dNum, dS, binS_eq, dNil]; rfl) ?_))
   refine AW_tt rfl ?_; refine rg [0, 1, 2, 7] [] (fun _ _ => trivial) fun K' hK' => ?_; (repeat (refine sxn fun K2 hK2 => ?_; simp [dNum, dS, binS_eq, dNil]; (repeat (refine ⟨by omega, ?_⟩)); refine hK2 _ ?_; clear hK2 K2)); refine sxz (hK' _ (AW.st (by simp [dNum, dS, binS_eq, dNil]; rfl) ?_)); clear hK' K'; refine AW_then fun K3 hK3 => ?_; refine rg [0, 1, 2, 7, 76, 77, 78] [] (fun _ _ => trivial) fun K' hK' => ?_; (repeat (refine sxn fun K2 hK2 => ?_; simp [dNum, dS, binS_eq, dNil]; (repeat (refine ⟨by omega, ?_⟩)); refine hK2 _ ?_; clear hK2 K2)); refine sxz (hK' _ (AW.st (by simp [dNum, dS, binS_eq, dNil]; rfl) ?_)); clear hK' K'; refine AW_for (S := Nat) (fun i => i ≤ l.length) (fun i => ⟨lst [(0, .d (.ip [dS [124], dS [], .sl none (l.map fun e => [dR e])])), (1, .d (.fn (.func g1) c1)), (2, .d (.fn (.func g2) c2)), (7, int (cntE is was (l.take i) : Nat)), (76, .d (.sl none (l.map fun e => [dR e]))), (77, int l.length), (78, int i)], hlst []⟩) (fun i => l.length - i) 0 ?_ (by omega) ?_
   ·refine Imp.to' (fun _ _ => trivial) (by simp [dNum, dS, binS_eq, dNil, cntE]) (by simp [dNum, dS, binS_eq, dNil, cntE])
   ·intro i hi
    have hcl := cntE_le is was (l.take i)
    rw [List.length_take] at hcl; refine rg [0, 1, 2, 7, 76, 77, 78, 79] [] (fun _ _ => trivial) fun K' hK' => ?_; (repeat (refine sxn fun K2 hK2 => ?_; simp [dNum, dS, binS_eq, dNil]; (repeat (refine ⟨by omega, ?_⟩)); refine hK2 _ ?_; clear hK2 K2)); refine sxz (hK' _ (AW.st (by simp [dNum, dS, binS_eq, dNil]; rfl) ?_)); clear hK' K'; refine AW_then fun K4 hK4 => ?_; refine AW_cond' (b := i < l.length) (by simp [D.le, D.le.go, takeMap, dNum, dS, binS_eq, dNil]) (fun hc => ?_) (fun hc => ?_)
    ·have hil : i < l.length := hc
     have hcc := hch _ (List.getElem_mem hil)
     have htk := cntE_take is was hil
     have hf := dR_form l[i]
     rw [hf] at hcc; refine AW_skip (hK4 _ ?_); refine AW_then fun K5 hK5 => ?_; refine AW_block ?_; refine rg [0, 1, 2, 7, 9, 76, 77, 78] [] (fun _ _ => trivial) fun K' hK' => ?_; (repeat (refine sxn fun K2 hK2 => ?_; simp [dNum, dS, binS_eq, dNil, hil, hf]; (repeat (refine ⟨by omega, ?_⟩)); refine hK2 _ ?_; clear hK2 K2)); refine sxz (hK' _ (AW.st (by simp [dNum, dS, binS_eq, dNil, hil, hf]; rfl) ?_)); clear hK' K'; refine rg [0, 1, 2, 7, 76, 77, 78, 85] [] (fun _ _ => trivial) fun K' hK' => ?_; (repeat (refine sxn fun K2 hK2 => ?_; simp [dNum, dS, binS_eq, dNil]; (repeat (refine ⟨by omega, ?_⟩)); refine hK2 _ ?_; clear hK2 K2)); refine sxn fun K2 hK2 => ?_; simp [dNum, dS, binS_eq, dNil]; refine callK.data (hcc) (by simp; rfl) (by first | exact D.leGo_refl _ | simp [takeMap, List.map_map, Function.comp_def, D.le, D.le.go, D.le_refl, D.leGo_refl, dNum, dS, binS_eq, dNil]) ?_; refine hK2 _ ?_; clear hK2 K2; simp only [putd, upd_lst]; (repeat (refine sxn fun K2 hK2 => ?_; simp [dNum, dS, binS_eq, dNil]; (repeat (refine ⟨by omega, ?_⟩)); refine hK2 _ ?_; clear hK2 K2)); refine sxz (hK' _ (AW.st (by simp [dNum, dS, binS_eq, dNil]; rfl) ?_)); clear hK' K'
     cases hv : evE is was l[i] with
     | true =>
      rw [hv] at htk; refine AW_cond true (by simp [hv]) (fun _ => ?_) (fun h => by cases h); refine AW_re (tyOf_good _) fun K' hK' => ?_; (repeat (refine sxn fun K2 hK2 => ?_; simp [dNum, dS, binS_eq, dNil]; (repeat (refine ⟨by omega, ?_⟩)); refine hK2 _ ?_; clear hK2 K2)); refine sxz (hK' _ ?_); clear hK' K'; refine hK5 _ (AW.norm [0, 1, 2, 7, 76, 77, 78] [] (fun _ _ => trivial) (AW.st (by simp [dNum, dS, binS_eq, dNil]; rfl) ?_)); refine AW_re (tyOf_good _) fun K' hK' => ?_; (repeat (refine sxn fun K2 hK2 => ?_; simp [dNum, dS, binS_eq, dNil]; (repeat (refine ⟨by omega, ?_⟩)); refine hK2 _ ?_; clear hK2 K2)); refine sxz (hK' _ ?_); clear hK' K'; (try simp only [thn, inb]); refine Again.mk (i + 1) (by omega) (by omega) ?_; refine Imp.to' (fun _ _ => trivial) (by simp [dNum, dS, binS_eq, dNil, htk]) (by simp [dNum, dS, binS_eq, dNil, htk])
     | false =>
      rw [hv] at htk; refine AW_cond false (by simp [hv]) (fun h => by cases h) (fun _ => ?_); refine AW_skip (hK5 _ ?_); refine AW_re (tyOf_good _) fun K' hK' => ?_; (repeat (refine sxn fun K2 hK2 => ?_; simp [dNum, dS, binS_eq, dNil]; (repeat (refine ⟨by omega, ?_⟩)); refine hK2 _ ?_; clear hK2 K2)); refine sxz (hK' _ ?_); clear hK' K'; (try simp only [thn, inb]); refine Again.mk (i + 1) (by omega) (by omega) ?_; refine Imp.to' (fun _ _ => trivial) (by simp [dNum, dS, binS_eq, dNil, htk]) (by simp [dNum, dS, binS_eq, dNil, htk])
    ·obtain rfl : i = l.length := by omega
     refine AW_exit (hK3 _ ?_); rw [List.take_length] at hcl ⊢
     by_cases h0 : 0 < cntE is was l
     ·refine rg [6] [] (fun _ _ => trivial) fun K' hK' => ?_; (repeat (refine sxn fun K2 hK2 => ?_; simp [dNum, dS, binS_eq, dNil, h0]; (repeat (refine ⟨by omega, ?_⟩)); refine hK2 _ ?_; clear hK2 K2)); refine sxz (hK' _ (AW.st (by simp [dNum, dS, binS_eq, dNil, h0]; rfl) ?_)); clear hK' K'; refine AW_ret ?_; simp [D.le, D.le.go, takeMap, dNum, dS, binS_eq, dNil, h0]
     ·have hz : cntE is was l = 0 := by omega
      have hne : ¬ l.length = 0 := by omega
      have hne2 : ¬ 0 = (l.length : Int) := by omega
      refine rg [6] [] (fun _ _ => trivial) fun K' hK' => ?_; (repeat (refine sxn fun K2 hK2 => ?_; simp [dNum, dS, binS_eq, dNil, h0, hz, hne, hne2]; (repeat (refine ⟨by omega, ?_⟩)); refine hK2 _ ?_; clear hK2 K2)); refine sxz (hK' _ (AW.st (by simp [dNum, dS, binS_eq, dNil, h0, hz, hne, hne2]; rfl) ?_)); clear hK' K'; refine AW_ret ?_; simp [D.le, D.le.go, takeMap, dNum, dS, binS_eq, dNil, h0, hz, hne, hne2]
theorem reval_on (G : Glob) (g1 g2 : FuncId) (c1 c2 : List D) (is was : List UInt8 → Bool) (S1 S2 : List UInt8 → Prop) (h1 : TellsOn S1 G g1 c1 is) (h2 : TellsOn S2 G g2 c2 was) (e : Ex) (ha : AskE S1 S2 e) (hw : WfE e) (hb : bE e ≤ 2^28) : PureC Tryz.prog G 40 [dR e, .fn (.func g1) c1, .fn (.func g2) c2] (.v (.bool (evE is was e))) :=
 reval_at G g1 g2 c1 c2 is was S1 S2 h1 h2 _ e (Nat.le_refl _) ha hw hb
def kidsR : Ex → List Ex
 | .not e => [e]
 | .and l => l
 | .or l => l
 | _ => []
def kR : Ex → Option Bool
 | .not _ => none
 | .and _ => none
 | .or _ => none
 | _ => some false
theorem ofR_form (e : Ex) : ofR e = .sl (kR e) ((kidsR e).map fun x => [dR x]) := by
 cases e <;> simp [ofR, kidsR, kR, dNil, dRs_map]
theorem szN_kids (e : Ex) : szN e = szNs (kidsR e) + 1 := by cases e <;> simp [szN, kidsR, szNs]
theorem bE_kids (e : Ex) : bEs (kidsR e) ≤ bE e := by cases e <;> simp [bE, kidsR, bEs] <;> omega
theorem sz_kids {e x : Ex} (h : x ∈ kidsR e) : SizeOf.sizeOf x < SizeOf.sizeOf e := by
 cases e with
 | not y => simp only [kidsR, List.mem_singleton] at h; subst h; simp
 | and l => simp only [kidsR] at h; have := List.sizeOf_lt_of_mem h; simp only [Ex.and.sizeOf_spec]; omega
 | or l => simp only [kidsR] at h; have := List.sizeOf_lt_of_mem h; simp only [Ex.or.sizeOf_spec]; omega
 | _ => simp [kidsR] at h
set_option maxHeartbeats 8000000 in
theorem rsize_at (G : Glob) : ∀ (n : Nat) (e : Ex), SizeOf.sizeOf e ≤ n → bE e ≤ 2^28 → PureC Tryz.prog G 15 [dR e] (dNum (szN e)) := by
 intro n
 induction n with
 | zero => intro e hsz; cases e <;> simp at hsz
 | succ n ih =>
  intro e hsz hb
  have hch : ∀ x ∈ kidsR e, PureC Tryz.prog G 15 [dR x] (dNum (szN x)) := fun x hx => ih x (by have := sz_kids hx; omega) (by have := bEs_mem hx; have := bE_kids e; omega)
  have hkb := bE_kids e
  have hln := bEs_len (kidsR e)
  have hsb := szNs_bs (kidsR e)
  rw [dR_form, szN_kids, ofR_form]; generalize kidsR e = l at hch hkb hln hsb ⊢; generalize kdR e = kd; generalize nmR e = nm; generalize kR e = kk; clear ih hsz; refine PureC.of_body (tyOf_good _) Tryz.func15 rfl rfl (rs := [.tmp 2]) Tryz.results15 (by simp [Tryz.ntmps15]) fun X => ?_; simp only [Tryz.ntmps15, List.map]; refine rg [0] [] (fun _ _ => trivial) fun K' hK' => ?_; (repeat (refine sxn fun K2 hK2 => ?_; simp [dNum, dS]; (repeat (refine ⟨by omega, ?_⟩)); refine hK2 _ ?_; clear hK2 K2)); refine sxz (hK' _ (AW.st (by simp [dNum, dS]; rfl) ?_)); clear hK' K'; refine rg [0, 3] [] (fun _ _ => trivial) fun K' hK' => ?_; (repeat (refine sxn fun K2 hK2 => ?_; simp [dNum, dS]; (repeat (refine ⟨by omega, ?_⟩)); refine hK2 _ ?_; clear hK2 K2)); refine sxz (hK' _ (AW.st (by simp [dNum, dS]; rfl) ?_)); clear hK' K'; refine AW_then fun K1 hK1 => ?_; refine rg [3, 9, 10, 11] [] (fun _ _ => trivial) fun K' hK' => ?_; (repeat (refine sxn fun K2 hK2 => ?_; simp [dNum, dS]; (repeat (refine ⟨by omega, ?_⟩)); refine hK2 _ ?_; clear hK2 K2)); refine sxz (hK' _ (AW.st (by simp [dNum, dS]; rfl) ?_)); clear hK' K'; refine AW_for (S := Nat) (fun i => i ≤ l.length) (fun i => ⟨lst [(3, int ((szNs (l.take i) : Nat) + 1)), (9, .d (.sl kk (l.map fun x => [dR x]))), (10, int l.length), (11, int i)], hlst []⟩) (fun i => l.length - i) 0 ?_ (by omega) ?_
  ·refine Imp.to' (fun _ _ => trivial) (by simp [dNum, dS, szNs]) (by simp [dNum, dS, szNs])
  ·intro i hi
   refine rg [3, 9, 10, 11, 12] [] (fun _ _ => trivial) fun K' hK' => ?_; (repeat (refine sxn fun K2 hK2 => ?_; simp [dNum, dS]; (repeat (refine ⟨by omega, ?_⟩)); refine hK2 _ ?_; clear hK2 K2)); refine sxz (hK' _ (AW.st (by simp [dNum, dS]; rfl) ?_)); clear hK' K'; refine AW_then fun K2 hK2 => ?_; refine AW_cond' (b := i < l.length) (by simp [D.le, D.le.go, takeMap, dNum, dS]) (fun hc => ?_) (fun hc => ?_)
   ·have hil : i < l.length := hc
    have hcc := hch _ (List.getElem_mem hil)
    have htk := szNs_take hil
    have hle := szNs_le l (i + 1)
    have hf := dR_form l[i]
    rw [hf] at hcc; refine AW_skip (hK2 _ ?_); refine AW_then fun K3 hK3 => ?_; refine AW_block ?_; refine rg [3, 5, 9, 10, 11] [] (fun _ _ => trivial) fun K' hK' => ?_; (repeat (refine sxn fun K2 hK2 => ?_; simp [dNum, dS, hil, hf]; (repeat (refine ⟨by omega, ?_⟩)); refine hK2 _ ?_; clear hK2 K2)); refine sxz (hK' _ (AW.st (by simp [dNum, dS, hil, hf]; rfl) ?_)); clear hK' K'; refine AW_re (tyOf_good _) fun K' hK' => ?_; (repeat (refine sxn fun K2 hK2 => ?_; simp [dNum, dS]; (repeat (refine ⟨by omega, ?_⟩)); refine hK2 _ ?_; clear hK2 K2)); refine sxn fun K2 hK2 => ?_; simp [dNum, dS]; refine callK.data (hcc) (by simp; rfl) (by first | exact D.leGo_refl _ | simp [takeMap, List.map_map, Function.comp_def, D.le, D.le.go, D.le_refl, D.leGo_refl, dNum, dS]) ?_; refine hK2 _ ?_; clear hK2 K2; simp only [putd, upd_lst]; (repeat (refine sxn fun K2 hK2 => ?_; simp [dNum, dS]; (repeat (refine ⟨by omega, ?_⟩)); refine hK2 _ ?_; clear hK2 K2)); refine sxz (hK' _ ?_); clear hK' K'; refine hK3 _ (AW.norm [3, 9, 10, 11] [] (fun _ _ => trivial) (AW.st (by simp [dNum, dS]; rfl) ?_)); refine AW_re (tyOf_good _) fun K' hK' => ?_; (repeat (refine sxn fun K2 hK2 => ?_; simp [dNum, dS]; (repeat (refine ⟨by omega, ?_⟩)); refine hK2 _ ?_; clear hK2 K2)); refine sxz (hK' _ ?_); clear hK' K'; (try simp only [thn, inb]); refine Again.mk (i + 1) (by omega) (by omega) ?_
    have e1 : (szNs (List.take (i + 1) l) : Int) + 1 = (szNs (List.take i l) : Int) + 1 + (szN l[i] : Int) := by omega
    refine Imp.to' (fun _ _ => trivial) (by simp [dNum, dS, e1]) (by simp [dNum, dS, e1])
   ·obtain rfl : i = l.length := by omega
    refine AW_exit (hK1 _ ?_); rw [List.take_length]; refine rg [2] [] (fun _ _ => trivial) fun K' hK' => ?_; (repeat (refine sxn fun K2 hK2 => ?_; simp [dNum, dS]; (repeat (refine ⟨by omega, ?_⟩)); refine hK2 _ ?_; clear hK2 K2)); refine sxz (hK' _ (AW.st (by simp [dNum, dS]; rfl) ?_)); clear hK' K'; refine AW_ret ?_; simp [D.le, D.le.go, takeMap, dNum, dS]
theorem rsize_spec (G : Glob) (e : Ex) (hb : bE e ≤ 2^28) : PureC Tryz.prog G 15 [dR e] (dNum (szN e)) := rsize_at G _ e (Nat.le_refl _) hb
end Go.Proofs.YtagfbbnlbncjlaaGreatDoor
