/-
  Texts that belong together, in one file: Av29, T5, H1, P11, H2, T6, R1, R2, R3, Q2.
-/
import Derived.Test.YtblafkekblaibaaDoorLq5
import Derived.SizedLaws
import Derived.Test.YtblafkekblaibaaDoorRows
import Derived.LaidLaws
import Derived.LaidHandle
import Derived.LaidSub
import Derived.Stop.Joined
import Derived.Lay
import Derived.OpenShut
/-
  Regions that draw their order, in which some operations (a map's entries, as its text writes them) come in whatever order.
-/
namespace Go.Av
set_option linter.unusedSimpArgs false
set_option linter.unusedVariables false
set_option linter.unusedSectionVars false

def isIns : Op → Bool
  | .insert _ _ _ _ => true
  | _ => false
def onIns (G : Glob) (e : Env) (o : Op) (r : Nat) : Prop := match o with
  | .insert _ m _ _ => aeval G e m = some (.mp r)
  | _ => False
def touchP (G : Glob) (fp : List (Nat × Nat)) (e : Env) (i : Nat) (o : Op) : Prop := match fp.lookup i with
  | some r => if isIns o = true then onIns G e o r else onRow G e o r
  | none => True
def compatP (fp : List (Nat × Nat)) (ops : Array Oper) (i j : Nat) (oi oj : Oper) : Bool := compat ops oi oj || (oi.apart ops oj && (isLS oi.op || isIns oi.op) && (isLS oj.op || isIns oj.op) && match fp.lookup i, fp.lookup j with
  | some r, some r' => !(r == r')
  | _, _ => false)

section
variable {P : Program} {T : Ty} {Mv X : Nat → Prop} {G : Glob} {N : Nat} {ops : Array Oper} {fp : List (Nat × Nat)}

theorem Ex.touchI {o : Oper} {e : Env} {H H' : Heap} {x : AV} {r : Nat} (ht : onIns G e o.op r) (h : Ex P T Mv G o e H x H') :
    ∃ u, H' = pset H r u ∧ ∀ H2, H2 r = H r → Ex P T Mv G o e H2 x (pset H2 r u) := by
  obtain ⟨dst, op, type, pos, after, guard⟩ := o
  dsimp only at ht
  cases op <;> simp only [onIns] at ht
  case insert t m k v =>
    unfold Ex at h
    simp only [isCall, isWr, if_true] at h
    obtain ⟨c, h1, h3⟩ := h
    cases dst with
    | some d => simp [wr] at h1
    | none =>
      simp only [wr, ht] at h1
      split at h1
      · rename_i q key y hm hk hv
        simp only [Option.some.injEq, AV.mp.injEq] at hm
        subst hm
        split at h1
        · rename_i ty ents hr
          split at h1
          · rename_i c' ents' hp
            simp only [Option.some.injEq, Prod.mk.injEq, St.mk.injEq, true_and] at h1
            obtain ⟨rfl, rfl, rfl⟩ := h1
            refine ⟨some (.mp ty ents'), rfl, fun H2 h2 => ?_⟩
            unfold Ex
            simp only [isCall, isWr, if_true]
            exact ⟨_, by simp only [wr, ht, hk, hv, h2, hr, hp]; rfl, h3⟩
          · cases h1
        · cases h1
      · cases h1
theorem onIns_congr {o : Op} {e e' : Env} {r : Nat} (ha : Agree o e e') (h : onIns G e o r) : onIns G e' o r := by
  cases o <;> simp only [onIns] at h ⊢ <;> try exact h
  case insert t m k v =>
    have : aeval G e m = aeval G e' m := aeval_congr fun t ht => ha t (by simp [Op.operands, ht])
    rw [← this]; exact h
theorem touchP_congr {o : Op} {e e' : Env} {i : Nat} (ha : Agree o e e') (h : touchP G fp e i o) : touchP G fp e' i o := by
  unfold touchP at h ⊢
  split
  · rename_i r hr
    simp only [hr] at h
    split
    · rename_i hi
      rw [if_pos hi] at h
      exact onIns_congr ha h
    · rename_i hi
      rw [if_neg hi] at h
      exact onRow_congr ha h
  · trivial
theorem Ex.touchP {o : Oper} {e : Env} {H H' : Heap} {x : AV} {r i : Nat} (hr : fp.lookup i = some r) (ht : Av.touchP G fp e i o.op) (h : Ex P T Mv G o e H x H') :
    ∃ u, H' = pset H r u ∧ ∀ H2, H2 r = H r → Ex P T Mv G o e H2 x (pset H2 r u) := by
  unfold Av.touchP at ht
  simp only [hr] at ht
  split at ht
  · exact h.touchI ht
  · exact h.touch ht

def PStep (P : Program) (T : Ty) (Mv : Nat → Prop) (G : Glob) (N : Nat) (ops : Array Oper) (fp : List (Nat × Nat)) (i : Nat) (o : Oper) (σ σ' : St) : Prop := stepTo P T Mv G N ops o σ σ' ∧ (wantedS ops σ.env o = some true → touchP G fp σ.env i o.op)

theorem isIns_kind {o : Op} (h : isIns o = true) : kindOf o ≠ 9 := by
  cases o <;> simp [isIns] at h
  simp [kindOf]

theorem pswap {i j : Nat} {oi oj : Oper} (hc : compatP fp ops i j oi oj = true) {σ σ1 σ2 : St} (h1 : PStep P T Mv G N ops fp i oi σ σ1) (h2 : PStep P T Mv G N ops fp j oj σ1 σ2) :
    ∃ σ3, PStep P T Mv G N ops fp j oj σ σ3 ∧ PStep P T Mv G N ops fp i oi σ3 σ2 := by
  have hk : kindOf oi.op ≠ 9 ∧ kindOf oj.op ≠ 9 := by
    simp only [compatP, Bool.or_eq_true, Bool.and_eq_true] at hc
    rcases hc with hc | ⟨⟨⟨_, h3⟩, h4⟩, _⟩
    · exact compat_kinds hc
    · exact ⟨h3.elim isLS_kind isIns_kind, h4.elim isLS_kind isIns_kind⟩
  obtain ⟨hki, hkj⟩ := hk
  obtain ⟨s1, t1⟩ := h1
  obtain ⟨s2, t2⟩ := h2
  obtain ⟨x, H1, sx1, rfl⟩ := (stepTo_Sx hki).1 s1
  obtain ⟨y, H2, sx2, rfl⟩ := (stepTo_Sx hkj).1 s2
  obtain ⟨e, H⟩ := σ
  dsimp only at s1 s2 sx1 sx2 t1 t2 ⊢
  have hap : oi.apart ops oj = true := by
    simp only [compatP, compat, Bool.or_eq_true, Bool.and_eq_true] at hc
    rcases hc with hc | hc
    · exact hc.1
    · exact hc.1.1.1
  obtain ⟨a1, _, hne⟩ := agree_put hap (e := e) (v := x)
  obtain ⟨_, a2, _⟩ := agree_put hap (e := e) (v := y)
  have wj := wantedS_congr (o := oj) (e := putd e oi.dst x) (e' := e) a1
  have wi := wantedS_congr (o := oi) (e := putd e oj.dst y) (e' := e) a2
  have agj : Agree oj.op (putd e oi.dst x) e := fun t ht => a1 t (looks_of_op ht)
  have agi : Agree oi.op e (putd e oj.dst y) := fun t ht => (a2 t (looks_of_op ht)).symm
  have main : ∃ H3, Sx P T Mv G N ops oj e H y H3 ∧ Sx P T Mv G N ops oi (putd e oj.dst y) H3 x H2 := by
    simp only [compatP, Bool.or_eq_true, Bool.and_eq_true] at hc
    rcases hc with hc | ⟨_, hfp⟩
    · exact commute hc sx1 sx2 hki hkj
    · cases hfi : fp.lookup i with
      | none => simp [hfi] at hfp
      | some r =>
        cases hfj : fp.lookup j with
        | none => simp [hfi, hfj] at hfp
        | some r' =>
          have hr : r ≠ r' := by simpa [hfi, hfj] using hfp
          obtain ⟨di, sx1⟩ := sx1
          obtain ⟨dj, sx2⟩ := sx2
          rw [wj] at sx2
          rcases sx1 with ⟨w1, e1⟩ | ⟨w1, rfl, rfl⟩
          · have t1 := t1 w1
            obtain ⟨u, rfl, loc1⟩ := e1.touchP hfi t1
            rcases sx2 with ⟨w2, e2⟩ | ⟨w2, rfl, rfl⟩
            · have t2 := t2 (by rw [wj]; exact w2)
              have e2 := e2.congr hkj agj
              obtain ⟨u', rfl, loc2⟩ := e2.touchP hfj (touchP_congr agj t2)
              refine ⟨pset H r' u', ⟨dj, .inl ⟨w2, loc2 H (pset_ne (Ne.symm hr)).symm⟩⟩, ⟨di, .inl ⟨by rw [wi]; exact w1, ?_⟩⟩⟩
              rw [pset_comm hr]
              exact (loc1 _ (pset_ne hr)).congr hki agi
            · exact ⟨H, ⟨dj, .inr ⟨w2, rfl, rfl⟩⟩, ⟨di, .inl ⟨by rw [wi]; exact w1, e1.congr hki agi⟩⟩⟩
          · rcases sx2 with ⟨w2, e2⟩ | ⟨w2, rfl, rfl⟩
            · exact ⟨H2, ⟨dj, .inl ⟨w2, e2.congr hkj agj⟩⟩, ⟨di, .inr ⟨by rw [wi]; exact w1, rfl, rfl⟩⟩⟩
            · exact ⟨_, ⟨dj, .inr ⟨w2, rfl, rfl⟩⟩, ⟨di, .inr ⟨by rw [wi]; exact w1, rfl, rfl⟩⟩⟩
  obtain ⟨H3, f1, f2⟩ := main
  refine ⟨⟨putd e oj.dst y, H3⟩, ⟨(stepTo_Sx hkj).2 ⟨y, H3, f1, rfl⟩, fun hw => ?_⟩, ⟨(stepTo_Sx hki).2 ⟨x, H2, f2, by rw [putd_comm hne]⟩, fun hw => ?_⟩⟩
  · exact touchP_congr agj (t2 (by rw [wj]; exact hw))
  · exact touchP_congr agi (t1 (by rw [← wi]; exact hw))

/-- An operation that is no call has one outcome. -/
theorem stepTo_one {o : Oper} (hn : isCall o.op = none) {σ σ1 σ2 : St} (h1 : stepTo P T Mv G N ops o σ σ1) (h2 : stepTo P T Mv G N ops o σ σ2) : σ1 = σ2 := by
  obtain ⟨_, h1⟩ := h1
  obtain ⟨_, h2⟩ := h2
  rcases h1 with ⟨w1, h1⟩ | ⟨w1, rfl⟩
  · rcases h2 with ⟨w2, h2⟩ | ⟨w2, rfl⟩
    · unfold exTo at h1 h2
      simp only [hn] at h1 h2
      split at h1
      · rename_i hw
        rw [if_pos hw] at h2
        obtain ⟨c, x, τ, a1, _, rfl⟩ := h1
        obtain ⟨c', x', τ', a2, _, rfl⟩ := h2
        rw [a1] at a2
        simp only [Option.some.injEq, Prod.mk.injEq] at a2
        obtain ⟨_, rfl, rfl⟩ := a2
        rfl
      · rename_i hw
        rw [if_neg hw] at h2
        obtain ⟨c, x, a1, _, rfl⟩ := h1
        obtain ⟨c', x', a2, _, rfl⟩ := h2
        rw [a1] at a2
        simp only [Option.some.injEq, Prod.mk.injEq] at a2
        obtain ⟨_, rfl⟩ := a2
        rfl
    · rw [w1] at w2; cases w2
  · rcases h2 with ⟨w2, h2⟩ | ⟨w2, rfl⟩
    · rw [w1] at w2; cases w2
    · rfl

/-! ### The region -/

def runP (P : Program) (T : Ty) (Mv : Nat → Prop) (G : Glob) (N : Nat) (ops : Array Oper) (fp : List (Nat × Nat)) : List Nat → St → St → Prop
  | [], σ, σ' => σ = σ'
  | i :: l, σ, σ' => ∃ o, ops[i]? = some o ∧ ∃ σ1, PStep P T Mv G N ops fp i o σ σ1 ∧ runP P T Mv G N ops fp l σ1 σ'

theorem runP_front {p : Nat} {op : Oper} (hp : ops[p]? = some op) : ∀ (l1 : List Nat) {l2 : List Nat} {σ σ' : St}, (∀ q ∈ l1, ∀ oq, ops[q]? = some oq → compatP fp ops q p oq op = true) → runP P T Mv G N ops fp (l1 ++ p :: l2) σ σ' → runP P T Mv G N ops fp (p :: (l1 ++ l2)) σ σ' := by
  intro l1
  induction l1 with
  | nil => intro l2 σ σ' _ h; exact h
  | cons q l1 ih =>
    intro l2 σ σ' hall h
    obtain ⟨oq, hq, σ1, s1, rest⟩ := h
    obtain ⟨o', ho', σ2, s2, rest2⟩ := ih (fun q' hq' => hall q' (by simp [hq'])) rest
    rw [hp] at ho'
    obtain rfl := Option.some.inj ho'
    obtain ⟨σ3, f1, f2⟩ := pswap (hall q (by simp) oq hq) s1 s2
    exact ⟨op, hp, σ3, f1, oq, hq, σ2, f2, rest2⟩

def PairP (fp : List (Nat × Nat)) (S : List Nat) (ops : Array Oper) (a b : Nat) : Prop := ∀ oa ob, ops[a]? = some oa → ops[b]? = some ob →
  (∀ e ∈ oa.after, Region.binds .any e = true → e.on ≠ b) ∧ ((a ∈ S ∧ b ∈ S) ∨ ((tb ops).getD b 0).testBit a = true ∨ compatP fp ops a b oa ob = true)

/-- The order in which the rest comes up, and some of it in whatever order. -/
def okDrawP (fp : List (Nat × Nat)) (pre S post : List Nat) (ops : Array Oper) : Bool :=
  let t := tb ops
  ((List.range ops.size).all fun j => match ops[j]? with
    | some oj => (oj.after.all fun e => !Region.binds .any e || e.on < j) && (isCall oj.op).isNone
    | none => true) &&
  (pre ++ S ++ post).length == ops.size && ((pre ++ S ++ post).all fun i => decide (i < ops.size)) && ((List.range ops.size).all fun i => (pre ++ S ++ post).contains i) && decide (pre ++ S ++ post).Nodup &&
  go t (pre ++ S ++ post)
where
  go (t : List Nat) : List Nat → Bool
  | [] => true
  | a :: l => (l.all fun b => match ops[a]?, ops[b]? with
    | some oa, some ob => (oa.after.all fun e => !Region.binds .any e || !(e.on == b)) && ((S.contains a && S.contains b) || ((t.getD b 0).testBit a || compatP fp ops a b oa ob))
    | _, _ => true) && go t l

theorem pairsP_of {S : List Nat} : ∀ {l : List Nat}, okDrawP.go fp S ops (tb ops) l = true → l.Pairwise (PairP fp S ops)
  | [], _ => .nil
  | a :: l, h => by
    simp only [okDrawP.go, Bool.and_eq_true] at h
    refine .cons (fun b hb oa ob hoa hob => ?_) (pairsP_of h.2)
    have := List.all_eq_true.1 h.1 b hb
    simp only [hoa, hob, Bool.and_eq_true, Bool.or_eq_true] at this
    refine ⟨fun e he hbi heq => ?_, ?_⟩
    · have h1 := Array.all_eq_true_iff_forall_mem.1 this.1 e he
      simp [hbi, heq] at h1
    · rcases this.2 with ⟨h1, h2⟩ | h
      · exact .inl ⟨by simpa using h1, by simpa using h2⟩
      · exact .inr h

theorem anyP_ok (hg : Good P T) (S0 : List Nat) (hlt : ∀ (j : Nat) (oj : Oper), ops[j]? = some oj → ∀ e ∈ oj.after, Region.binds .any e = true → e.on < j) (hnc : ∀ (j : Nat) (oj : Oper), ops[j]? = some oj → isCall oj.op = none) {Q : Exit → St → Prop} {w0 : World} {μ0 : Mu} : ∀ (n : Nat) (pre S post : List Nat) (listed : Array Bool) (w : World) (μ : Mu) (a : Act) (σ : St), (pre ++ S ++ post).length = n → (pre ++ S ++ post).Nodup →
    (∀ j, j ∈ pre ++ S ++ post ↔ j < ops.size ∧ listed.getD j true = false) → listed.size = ops.size → (pre ++ S ++ post).Pairwise (PairP fp S0 ops) →
    (∀ j ∈ pre, j ∉ S0) → (∀ j ∈ post, j ∉ S0) → (∀ j ∈ S, j ∈ S0) →
    (∀ j oj, ops[j]? = some oj → listed.getD j false = true → ∀ e ∈ oj.after, Region.binds .any e = true → listed.getD e.on false = true) → (∀ π, π.Perm S → ∃ σn, Q .normal σn ∧ runP P T Mv G N ops fp (pre ++ π ++ post) σ σn) → In w X G μ N a σ → Ev Mv w0 μ0 w μ →
    wpAny P .any ops (After Mv X G N w0 μ0 Q) n listed a w := by
  intro n
  induction n with
  | zero =>
    intro pre S post listed w μ a σ hl _ hR hsz _ _ _ _ _ hrun hi hev
    have : pre ++ S ++ post = [] := List.eq_nil_of_length_eq_zero hl
    have hr : Region.ready .any ops listed = [] := by
      apply List.eq_nil_iff_forall_not_mem.2
      intro j hj
      obtain ⟨h1, o, ho, _⟩ := mem_ready.1 hj
      have := (hR j).2 ⟨(Array.getElem?_eq_some_iff.1 ho).1, h1⟩
      rw [‹pre ++ S ++ post = []›] at this
      simp at this
    obtain ⟨σn, hQ, hrun⟩ := hrun S (.refl _)
    rw [this] at hrun
    have : σ = σn := hrun
    subst this
    exact ⟨hr, μ, σ, hQ, hi, hev⟩
  | succ n ih =>
    intro pre S post listed w μ a σ hl hnd hR hsz hpw hp1 hp2 hS hdown hrun hi hev
    refine ⟨fun hr => ?_, fun i hir => ?_⟩
    · generalize hR0 : pre ++ S ++ post = R at hl hnd hR hpw
      cases R with
      | nil => simp at hl
      | cons j R =>
        obtain ⟨hj1, hj2⟩ := (hR j).1 (by simp)
        have hoj : ops[j]? = some ops[j] := by simp [hj1]
        have hjr : j ∈ Region.ready .any ops listed := by
          refine mem_ready.2 ⟨hj2, ops[j], hoj, fun e he hb => ?_⟩
          have hlt' := hlt j ops[j] hoj e he hb
          have hlt2 : e.on < ops.size := by omega
          have hne : e.on ∉ (j :: R) := by
            intro hm
            rcases List.mem_cons.1 hm with h | h
            · omega
            · exact ((List.pairwise_cons.1 hpw).1 _ h ops[j] ops[e.on] hoj (by simp [hlt2])).1 e he hb rfl
          have := mt (hR e.on).2 hne
          have hls : e.on < listed.size := by omega
          simp only [hlt2, true_and, Array.getD_eq_getD_getElem?] at this ⊢
          simp [hls] at this ⊢
          exact this
        rw [hr] at hjr
        cases hjr
    · obtain ⟨hi1, oi, hoi, hall⟩ := mem_ready.1 hir
      have hiR : i ∈ pre ++ S ++ post := (hR i).2 ⟨(Array.getElem?_eq_some_iff.1 hoi).1, hi1⟩
      -- what stands ahead of it, and not both in S0, may pass
      have hpass : ∀ q oq, ops[q]? = some oq → q ∈ pre ++ S ++ post → PairP fp S0 ops q i → ¬ (q ∈ S0 ∧ i ∈ S0) → compatP fp ops q i oq oi = true := fun q oq hoq hq hpq hns => by
        rcases (hpq oq oi hoq hoi).2 with h | h | h
        · exact absurd h hns
        · exfalso
          have hlq := behindL hlt hdown i i oi (Nat.le_refl _) hoi hall q h
          have hq2 := ((hR q).1 hq).2
          have hqs : q < listed.size := by have := (Array.getElem?_eq_some_iff.1 hoq).1; omega
          simp [Array.getD_eq_getD_getElem?, hqs] at hlq hq2
          rw [hlq] at hq2; cases hq2
        · exact h
      have fin : ∀ (pre' S' post' : List Nat), (pre' ++ S' ++ post').length = n → (pre' ++ S' ++ post').Nodup → (∀ j, j ∈ pre' ++ S' ++ post' ↔ j ∈ pre ++ S ++ post ∧ j ≠ i) → (pre' ++ S' ++ post').Pairwise (PairP fp S0 ops) → (∀ j ∈ pre', j ∉ S0) → (∀ j ∈ post', j ∉ S0) → (∀ j ∈ S', j ∈ S0) →
          (∀ π, π.Perm S' → ∃ σn, Q .normal σn ∧ runP P T Mv G N ops fp (i :: (pre' ++ π ++ post')) σ σn) → wpOp P ops (After Mv X G N w0 μ0 Q) i (wpAny P .any ops (After Mv X G N w0 μ0 Q) n (listed.setIfInBounds i true)) a w := by
        intro pre' S' post' hl' hnd' hm' hpw' h1' h2' h3' hrun'
        obtain ⟨_, _, o', ho', σ1, hstep, _⟩ := hrun' S' (.refl _)
        rw [hoi] at ho'
        obtain rfl := Option.some.inj ho'
        refine stepTo_ok hg hstep.1 hi hoi fun w' μ' a' hin hev' => ?_
        refine ih pre' S' post' _ w' μ' a' σ1 hl' hnd' (fun j => ?_) (by simpa using hsz) hpw' h1' h2' h3' ?_ ?_ hin (hev.trans hev')
        · rw [hm' j]
          by_cases hji : j = i
          · subst hji
            have hls : j < listed.size := by rw [hsz]; exact (Array.getElem?_eq_some_iff.1 hoi).1
            simp [hls]
          · rw [getD_set_ne true (Ne.symm hji)]
            rw [← hR j]
            simp [hji]
        · intro j oj hoj hlj e he hb
          by_cases hji : j = i
          · subst hji
            rw [hoi] at hoj
            obtain rfl := Option.some.inj hoj
            exact getD_set_true (hall e he hb)
          · rw [getD_set_ne false (Ne.symm hji)] at hlj
            exact getD_set_true (hdown j oj hoj hlj e he hb)
        · intro π hπ
          obtain ⟨σn, hQ, o', ho', σ2, hs2, hr2⟩ := hrun' π hπ
          rw [hoi] at ho'
          obtain rfl := Option.some.inj ho'
          obtain rfl := stepTo_one (hnc i _ hoi) hstep.1 hs2.1
          exact ⟨σn, hQ, hr2⟩
      have hget : ∀ q, q ∈ pre ++ S ++ post → ∃ oq, ops[q]? = some oq := fun q hq => by
        have := ((hR q).1 hq).1
        exact ⟨ops[q], by simp [this]⟩
      rcases List.mem_append.1 hiR with hiR' | hipost
      · rcases List.mem_append.1 hiR' with hipre | hiS
        · obtain ⟨R1, R2, rfl⟩ := List.append_of_mem hipre
          have e1 : R1 ++ i :: R2 ++ S ++ post = R1 ++ i :: (R2 ++ S ++ post) := by simp
          have e2 : R1 ++ R2 ++ S ++ post = R1 ++ (R2 ++ S ++ post) := by simp
          rw [e1] at hl hnd hpw
          rw [List.pairwise_append] at hpw
          rw [List.nodup_append] at hnd
          obtain ⟨g1, g2, g3⟩ := hpw
          obtain ⟨d1, d2, d3⟩ := hnd
          have hni : i ∉ R1 := fun h => d3 i h i (by simp) rfl
          refine fin (R1 ++ R2) S post (by rw [e2]; simp at hl ⊢; omega) ?_ (fun j => ?_) ?_ (fun j hj => hp1 j (by simp at hj ⊢; rcases hj with h | h <;> simp [h])) hp2 hS fun π hπ => ?_
          · rw [e2, List.nodup_append]
            exact ⟨d1, (List.nodup_cons.1 d2).2, fun x hx y hy => d3 x hx y (by simp at hy ⊢; exact .inr hy)⟩
          · rw [e1, e2]
            have d4 := (List.nodup_cons.1 d2).1
            constructor
            · intro h
              rcases List.mem_append.1 h with h | h
              · exact ⟨by simp [h], fun e => hni (e ▸ h)⟩
              · exact ⟨List.mem_append.2 (.inr (List.mem_cons.2 (.inr h))), fun e => d4 (e ▸ h)⟩
            · rintro ⟨h, hne⟩
              rcases List.mem_append.1 h with h | h
              · exact List.mem_append.2 (.inl h)
              · rcases List.mem_cons.1 h with h | h
                · exact absurd h hne
                · exact List.mem_append.2 (.inr h)
          · rw [e2, List.pairwise_append]
            exact ⟨g1, (List.pairwise_cons.1 g2).2, fun x hx y hy => g3 x hx y (List.mem_cons.2 (.inr hy))⟩
          · obtain ⟨σn, hQ, hr⟩ := hrun π hπ
            refine ⟨σn, hQ, ?_⟩
            have e3 : R1 ++ i :: R2 ++ π ++ post = R1 ++ i :: (R2 ++ π ++ post) := by simp
            have e4 : R1 ++ R2 ++ π ++ post = R1 ++ (R2 ++ π ++ post) := by simp
            rw [e3] at hr
            rw [e4]
            exact runP_front hoi R1 (fun q hq oq hoq => hpass q oq hoq (by rw [e1]; simp [hq]) (g3 q hq i (by simp)) fun h => hp1 i (by simp) h.2) hr
        · obtain ⟨S1, S2, rfl⟩ := List.append_of_mem hiS
          have e1 : pre ++ (S1 ++ i :: S2) ++ post = (pre ++ S1) ++ i :: (S2 ++ post) := by simp
          have e2 : pre ++ (S1 ++ S2) ++ post = (pre ++ S1) ++ (S2 ++ post) := by simp
          rw [e1] at hl hnd hpw
          rw [List.pairwise_append] at hpw
          rw [List.nodup_append] at hnd
          obtain ⟨g1, g2, g3⟩ := hpw
          obtain ⟨d1, d2, d3⟩ := hnd
          have hni : i ∉ pre ++ S1 := fun h => d3 i h i (by simp) rfl
          refine fin pre (S1 ++ S2) post (by rw [e2]; simp at hl ⊢; omega) ?_ (fun j => ?_) ?_ hp1 hp2 (fun j hj => hS j (by simp at hj ⊢; rcases hj with h | h <;> simp [h])) fun π hπ => ?_
          · rw [e2, List.nodup_append]
            exact ⟨d1, (List.nodup_cons.1 d2).2, fun x hx y hy => d3 x hx y (List.mem_cons.2 (.inr hy))⟩
          · rw [e1, e2]
            have d4 := (List.nodup_cons.1 d2).1
            constructor
            · intro h
              rcases List.mem_append.1 h with h | h
              · exact ⟨List.mem_append.2 (.inl h), fun e => hni (e ▸ h)⟩
              · exact ⟨List.mem_append.2 (.inr (List.mem_cons.2 (.inr h))), fun e => d4 (e ▸ h)⟩
            · rintro ⟨h, hne⟩
              rcases List.mem_append.1 h with h | h
              · exact List.mem_append.2 (.inl h)
              · rcases List.mem_cons.1 h with h | h
                · exact absurd h hne
                · exact List.mem_append.2 (.inr h)
          · rw [e2, List.pairwise_append]
            exact ⟨g1, (List.pairwise_cons.1 g2).2, fun x hx y hy => g3 x hx y (List.mem_cons.2 (.inr hy))⟩
          · obtain ⟨σn, hQ, hr⟩ := hrun (i :: π) ((hπ.cons i).trans List.perm_middle.symm)
            refine ⟨σn, hQ, ?_⟩
            have e3 : pre ++ i :: π ++ post = pre ++ i :: (π ++ post) := by simp
            rw [e3] at hr
            rw [List.append_assoc]
            exact runP_front hoi pre (fun q hq oq hoq => hpass q oq hoq (by simp [hq]) (g3 q (by simp [hq]) i (by simp)) fun h => hp1 q hq h.1) hr
      · obtain ⟨R1, R2, rfl⟩ := List.append_of_mem hipost
        have e1 : pre ++ S ++ (R1 ++ i :: R2) = (pre ++ S ++ R1) ++ i :: R2 := by simp
        have e2 : pre ++ S ++ (R1 ++ R2) = (pre ++ S ++ R1) ++ R2 := by simp
        rw [e1] at hl hnd hpw
        rw [List.pairwise_append] at hpw
        rw [List.nodup_append] at hnd
        obtain ⟨g1, g2, g3⟩ := hpw
        obtain ⟨d1, d2, d3⟩ := hnd
        have hni : i ∉ pre ++ S ++ R1 := fun h => d3 i h i (by simp) rfl
        refine fin pre S (R1 ++ R2) (by rw [e2]; simp at hl ⊢; omega) ?_ (fun j => ?_) ?_ hp1 (fun j hj => hp2 j (by simp at hj ⊢; rcases hj with h | h <;> simp [h])) hS fun π hπ => ?_
        · rw [e2, List.nodup_append]
          exact ⟨d1, (List.nodup_cons.1 d2).2, fun x hx y hy => d3 x hx y (List.mem_cons.2 (.inr hy))⟩
        · rw [e1, e2]
          have d4 := (List.nodup_cons.1 d2).1
          constructor
          · intro h
            rcases List.mem_append.1 h with h | h
            · exact ⟨List.mem_append.2 (.inl h), fun e => hni (e ▸ h)⟩
            · exact ⟨List.mem_append.2 (.inr (List.mem_cons.2 (.inr h))), fun e => d4 (e ▸ h)⟩
          · rintro ⟨h, hne⟩
            rcases List.mem_append.1 h with h | h
            · exact List.mem_append.2 (.inl h)
            · rcases List.mem_cons.1 h with h | h
              · exact absurd h hne
              · exact List.mem_append.2 (.inr h)
        · rw [e2, List.pairwise_append]
          exact ⟨g1, (List.pairwise_cons.1 g2).2, fun x hx y hy => g3 x hx y (List.mem_cons.2 (.inr hy))⟩
        · obtain ⟨σn, hQ, hr⟩ := hrun π hπ
          refine ⟨σn, hQ, ?_⟩
          have e3 : pre ++ π ++ (R1 ++ i :: R2) = (pre ++ π ++ R1) ++ i :: R2 := by simp
          have e4 : pre ++ π ++ (R1 ++ R2) = (pre ++ π ++ R1) ++ R2 := by simp
          rw [e3] at hr
          rw [e4]
          have hmem : ∀ q, q ∈ pre ++ π ++ R1 → q ∈ pre ++ S ++ R1 := fun q hq => by
            simp only [List.mem_append] at hq ⊢
            rcases hq with (h | h) | h
            · exact .inl (.inl h)
            · exact .inl (.inr (hπ.mem_iff.1 h))
            · exact .inr h
          exact runP_front hoi (pre ++ π ++ R1) (fun q hq oq hoq => hpass q oq hoq (by rw [e1]; exact List.mem_append.2 (.inl (hmem q hq))) (g3 q (hmem q hq) i (by simp)) fun h => hp2 i (by simp) h.2) hr

/-! ### As one computes it -/

def stepP (P : Program) (T : Ty) (Mv : Nat → Prop) (G : Glob) (N : Nat) (ops : Array Oper) (fp : List (Nat × Nat)) (i : Nat) (o : Oper) (σ : St) (K : St → Prop) : Prop := okDst N o ∧ match wantedS ops σ.env o with
  | some b => if b = true then touchP G fp σ.env i o.op ∧ (match isCall o.op with
    | some c => False
    | none => plainS T G Mv o σ K) else K ⟨putd σ.env o.dst und, σ.H⟩
  | none => False
def sxp (P : Program) (T : Ty) (Mv : Nat → Prop) (G : Glob) (N : Nat) (ops : Array Oper) (fp : List (Nat × Nat)) (K : St → Prop) : List Nat → St → Prop
  | [], σ => K σ
  | i :: rest, σ => ∃ o, ops[i]? = some o ∧ stepP P T Mv G N ops fp i o σ (sxp P T Mv G N ops fp K rest)

theorem sxp_next {K : St → Prop} {i : Nat} {o : Oper} {rest : List Nat} {σ : St} (ho : ops[i]? = some o) (h : ∀ K' : St → Prop, (∀ τ, sxp P T Mv G N ops fp K rest τ → K' τ) → stepP P T Mv G N ops fp i o σ K') : sxp P T Mv G N ops fp K (i :: rest) σ := ⟨o, ho, h _ fun _ h => h⟩
theorem sxp_nil {K : St → Prop} {σ : St} (h : K σ) : sxp P T Mv G N ops fp K [] σ := h

theorem stepP_mono {i : Nat} {o : Oper} {σ : St} {K K' : St → Prop} (hK : ∀ τ, K τ → K' τ) (h : stepP P T Mv G N ops fp i o σ K) : stepP P T Mv G N ops fp i o σ K' := by
  unfold stepP at h ⊢
  refine ⟨h.1, ?_⟩
  have h := h.2
  revert h
  cases wantedS ops σ.env o with
  | none => exact fun h => h
  | some b =>
    dsimp only
    split
    · rintro ⟨h1, h⟩
      refine ⟨h1, ?_⟩
      revert h
      cases isCall o.op with
      | some c => exact fun h => h
      | none =>
        dsimp only
        unfold plainS
        split
        · cases wr T G Mv σ o with
          | none => exact fun h => h
          | some z => exact fun h => ⟨h.1, hK _ h.2⟩
        · cases rd T G σ o.op with
          | none => exact fun h => h
          | some z => exact fun h => ⟨h.1, hK _ h.2⟩
    · exact hK _
theorem sxp_append {K : St → Prop} : ∀ (l l' : List Nat) (σ : St), sxp P T Mv G N ops fp (sxp P T Mv G N ops fp K l') l σ → sxp P T Mv G N ops fp K (l ++ l') σ
  | [], _, _, h => h
  | i :: l, l', σ, ⟨o, ho, h⟩ => ⟨o, ho, stepP_mono (fun τ hτ => sxp_append l l' τ hτ) h⟩
theorem sxp_mono {K K' : St → Prop} (hK : ∀ τ, K τ → K' τ) : ∀ (l : List Nat) (σ : St), sxp P T Mv G N ops fp K l σ → sxp P T Mv G N ops fp K' l σ
  | [], _, h => hK _ h
  | i :: l, σ, ⟨o, ho, h⟩ => ⟨o, ho, stepP_mono (fun τ hτ => sxp_mono hK l τ hτ) h⟩

theorem sxp_run {K : St → Prop} : ∀ (l : List Nat) (σ : St), sxp P T Mv G N ops fp K l σ → ∃ σn, K σn ∧ runP P T Mv G N ops fp l σ σn
  | [], σ, h => ⟨σ, h, rfl⟩
  | k :: l, σ, h => by
    obtain ⟨o, h0, hd, h⟩ := h
    have fin : ∀ σ1, PStep P T Mv G N ops fp k o σ σ1 → sxp P T Mv G N ops fp K l σ1 → ∃ σn, K σn ∧ runP P T Mv G N ops fp (k :: l) σ σn := by
      intro σ1 hs hq
      obtain ⟨σn, hk, hr⟩ := sxp_run l σ1 hq
      exact ⟨σn, hk, o, h0, σ1, hs, hr⟩
    split at h
    · rename_i b hb
      split at h
      · rename_i hbt
        subst hbt
        obtain ⟨ht, h⟩ := h
        split at h
        · exact h.elim
        · rename_i hc
          unfold plainS at h
          split at h
          · rename_i hw
            split at h
            · rename_i c x σ1 h1
              obtain ⟨hcc, h⟩ := h
              refine fin _ ⟨⟨hd, .inl ⟨hb, ?_⟩⟩, fun _ => ht⟩ h
              unfold exTo
              simp only [hc]
              rw [if_pos hw]
              exact ⟨c, x, σ1, h1, hcc, rfl⟩
            · exact h.elim
          · rename_i hw
            split at h
            · rename_i c x h1
              obtain ⟨hcc, h⟩ := h
              refine fin _ ⟨⟨hd, .inl ⟨hb, ?_⟩⟩, fun _ => ht⟩ h
              unfold exTo
              simp only [hc]
              rw [if_neg hw]
              exact ⟨c, x, h1, hcc, rfl⟩
            · exact h.elim
      · rename_i hbt
        have : b = false := by simpa using hbt
        subst this
        exact fin _ ⟨⟨hd, .inr ⟨hb, rfl⟩⟩, fun hw => by rw [hb] at hw; cases hw⟩ h
    · exact h.elim

/-- A REGION THAT DRAWS ITS ORDER, some of it in whatever order. -/
theorem AW_regionP (hg : Good P T) (hm : P.follows .mixedOrders = true) (fp : List (Nat × Nat)) (pre S post : List Nat) {id : Nat} (hok : okDrawP fp pre S post ops = true) {Q : Exit → St → Prop} {σ : St} (h : sxp P T Mv G N ops fp (fun τ => ∀ π, π.Perm S → sxp P T Mv G N ops fp (sxp P T Mv G N ops fp (fun σ' => Q .normal σ') post) π τ) pre σ) : AW P Mv X G N (.region id ops true) Q σ := fun w μ a hi => by
  unfold okDrawP at hok
  simp only [Bool.and_eq_true] at hok
  obtain ⟨⟨⟨⟨⟨h5, h1⟩, h2⟩, h3⟩, h4⟩, h6⟩ := hok
  have hat : ∀ j oj, ops[j]? = some oj → (∀ e ∈ oj.after, Region.binds .any e = true → e.on < j) ∧ isCall oj.op = none := fun j oj hoj => by
    have := List.all_eq_true.1 h5 j (List.mem_range.2 (Array.getElem?_eq_some_iff.1 hoj).1)
    simp only [hoj, Bool.and_eq_true] at this
    refine ⟨fun e he hb => ?_, by simpa using this.2⟩
    have := Array.all_eq_true_iff_forall_mem.1 this.1 e he
    simpa [hb] using this
  have hnd : (pre ++ S ++ post).Nodup := of_decide_eq_true h4
  have hrun : ∀ π, π.Perm S → ∃ σn, Q .normal σn ∧ runP P T Mv G N ops fp (pre ++ π ++ post) σ σn := fun π hπ =>
    sxp_run _ _ (sxp_append _ _ _ (sxp_append _ _ _ (sxp_mono (fun τ hτ => hτ π hπ) _ _ h)))
  refine wp_region_any hm ?_
  obtain ⟨hin, hev⟩ := hi.grew (Mv := Mv) (Grew.drew w)
  have hnd2 := hnd
  rw [List.append_assoc, List.nodup_append] at hnd2
  obtain ⟨_, n2, n3⟩ := hnd2
  rw [List.nodup_append] at n2
  refine anyP_ok hg S (fun j oj hoj => (hat j oj hoj).1) (fun j oj hoj => (hat j oj hoj).2) ops.size pre S post _ w.drew μ a σ (by simpa using h1) hnd (fun j => ?_) (by simp) (pairsP_of h6) (fun j hj hjS => n3 j hj j (by simp [hjS]) rfl) (fun j hj hjS => n2.2.2 j hjS j hj rfl) (fun _ hj => hj) ?_ hrun hin hev
  · constructor
    · intro hj
      have := List.all_eq_true.1 h2 j hj
      have hj' : j < ops.size := of_decide_eq_true this
      simp [Array.getD_eq_getD_getElem?, hj']
    · intro hj
      have := List.all_eq_true.1 h3 j (List.mem_range.2 hj.1)
      simpa using this
  · intro j oj hoj hlj
    have hj := (Array.getElem?_eq_some_iff.1 hoj).1
    simp [Array.getD_eq_getD_getElem?, hj] at hlj

theorem AW_rp (hg : Good P T) (hm : P.follows .mixedOrders = true) (fp : List (Nat × Nat)) (pre S post : List Nat) (l ns : List Nat) (hM : ∀ r, ns.contains r = false → Mv r) {id : Nat} (hok : okDrawP fp pre S post ops = true) {y : Code} {Q : Exit → St → Prop} {σ : St}
    (h : ∀ K : St → Prop, (∀ τ : St, AW P Mv X G N y Q (τ.norm l ns) → K τ) → sxp P T Mv G N ops fp (fun τ => ∀ π, π.Perm S → sxp P T Mv G N ops fp (sxp P T Mv G N ops fp K post) π τ) pre σ) : AW P Mv X G N (.seq (.region id ops true) y) Q σ :=
  AW_seq (AW_regionP hg hm fp pre S post hok (h _ fun _ h => h.norm l ns hM))

/-! ### The entries of a map, in whatever order -/
/-- The operation at i writes the constant x at the constant key k into the map of tmp m. -/
def insAt (ops : Array Oper) (t : TypeId) (m : Nat) (i : Nat) : Option (Value × Value) := match ops[i]? with
  | some ⟨none, .insert t' (.tmp m') (.const k) (.const x), _, _, _, none⟩ => if t' = t ∧ m' = m then some (k, x) else none
  | _ => none
theorem entGet_cons (κ : Value) (p : Value × D) (l : List (Value × D)) : entGet κ (p :: l) = if keyEq κ p.1 = true then some p.2 else entGet κ l := by
  unfold entGet
  rw [List.find?_cons]
  cases h : keyEq κ p.1 <;> rfl
theorem entGet_put {d : TypeDesc} {κ k : Value} {x : D} (hκ : keyOk d κ = true) (hk : keyOk d k = true) : ∀ (l : List (Value × D)), (∀ p ∈ l, keyOk d p.1 = true) → entGet κ (entPut k x l) = if keyEq κ k = true then some x else entGet κ l
  | [], _ => entGet_cons κ (k, x) []
  | p :: l, hp => by
    have hpk := hp p (by simp)
    have ih := entGet_put hκ hk (x := x) l fun q hq => hp q (by simp [hq])
    have e : entPut k x (p :: l) = if keyEq k p.1 then (k, x) :: l else p :: entPut k x l := by
      unfold entPut
      rw [List.findIdx?_cons]
      cases h : keyEq k p.1 with
      | true => simp
      | false =>
        simp only [Bool.false_eq_true, if_false]
        cases List.findIdx? (fun p => keyEq k p.1) l <;> simp
    rw [e]
    by_cases h : keyEq k p.1 = true
    · rw [if_pos h]
      have hpe := keyEq_eq hk hpk h
      rw [entGet_cons, entGet_cons, hpe]
      dsimp only
      split <;> rfl
    · rw [if_neg h, entGet_cons, entGet_cons, ih]
      by_cases h3 : keyEq κ p.1 = true
      · have : ¬ keyEq κ k = true := fun h2 => by
          have e1 := keyEq_eq hκ hpk h3
          have e2 := keyEq_eq hκ hk h2
          rw [e2] at h
          exact h h3
        rw [if_neg this, if_pos h3, if_neg this]
      · rw [if_neg h3, if_neg h3]
theorem keyOk_put {d : TypeDesc} {k : Value} {x : D} (hk : keyOk d k = true) {l : List (Value × D)} (hl : ∀ p ∈ l, keyOk d p.1 = true) : ∀ p ∈ entPut k x l, keyOk d p.1 = true := fun p hp => by
  unfold entPut at hp
  split at hp
  · rename_i j hj
    rcases List.mem_or_eq_of_mem_set hp with h | rfl
    · exact hl p h
    · exact hk
  · rcases List.mem_append.1 hp with h | h
    · exact hl p h
    · rw [List.mem_singleton.1 h]; exact hk

theorem sxp_ins {t kt et : TypeId} {m r ty : Nat} {tt tk : TI} {κ : Value} {v : D} {K : St → Prop} {e : Env} (htt : T t = some tt) (hd : tt.desc = TypeDesc.map kt et) (htk : T kt = some tk) (hκ : keyOk tk.desc κ = true) (he : e m = some (.mp r)) :
    ∀ (π : List Nat) (H : Heap) (ents : List (Value × D)), H r = some (.mp ty ents) → (∀ p ∈ ents, keyOk tk.desc p.1 = true) →
    (∀ i ∈ π, fp.lookup i = some r) →
    (∀ i ∈ π, ∃ k x, insAt ops t m i = some (k, x) ∧ keyOk tk.desc k = true ∧ (keyEq κ k = true → cst x = .d v)) →
    ((∃ i ∈ π, ∃ k x, insAt ops t m i = some (k, x) ∧ keyEq κ k = true) ∨ entGet κ ents = some v) →
    (∀ H' ents', (∀ q, q ≠ r → H' q = H q) → H' r = some (.mp ty ents') → entGet κ ents' = some v → (∀ p ∈ ents', keyOk tk.desc p.1 = true) → K ⟨e, H'⟩) →
    sxp P T Mv G N ops fp K π ⟨e, H⟩
  | [], H, ents, hH, hk, _, _, hor, hK => by
    refine hK H ents (fun _ _ => rfl) hH ?_ hk
    rcases hor with ⟨i, hi, _⟩ | h
    · simp at hi
    · exact h
  | i :: π, H, ents, hH, hk, hfp, hins, hor, hK => by
    obtain ⟨k, x, hik, hkk, hkv⟩ := hins i (by simp)
    have hik0 := hik
    unfold insAt at hik
    split at hik
    · rename_i t' m' k' x' ty' pos' af' ho
      split at hik
      · rename_i htm
        obtain ⟨rfl, rfl⟩ := htm
        simp only [Option.some.injEq, Prod.mk.injEq] at hik
        obtain ⟨rfl, rfl⟩ := hik
        refine ⟨_, ho, ?_⟩
        unfold stepP
        refine ⟨trivial, ?_⟩
        simp only [wantedS, if_true, isCall]
        refine ⟨?_, ?_⟩
        · unfold touchP
          simp only [hfp i (by simp), isIns, if_true, onIns, aeval, he]
        · have hkc : cst k' = .d (.v k') := by
            clear hik0 hkv hor hins ho
            revert hkk
            generalize tk.desc = dd
            intro hkk
            cases k' <;> first | rfl | (cases dd <;> simp [keyOk] at hkk)
          obtain ⟨y, hy⟩ : ∃ y, cst x' = .d y := by
            unfold cst
            split <;> exact ⟨_, rfl⟩
          have hput : putM T t' ents k' y = some (keyOk tk.desc k' = true ∧ (∀ p ∈ ents, keyOk tk.desc p.1 = true), entPut k' y ents) := by
            unfold putM
            simp only [htt, hd, htk]
          unfold plainS
          simp only [isWr, if_true, wr, aeval, he, hkc, hH, hy, hput]
          refine ⟨⟨hkk, hk⟩, ?_⟩
          have hor' : (∃ i ∈ π, ∃ k x, insAt ops t' m' i = some (k, x) ∧ keyEq κ k = true) ∨ entGet κ (entPut k' y ents) = some v := by
            rw [entGet_put hκ hkk ents hk]
            by_cases hq : keyEq κ k' = true
            · rw [if_pos hq]
              have := hkv hq
              rw [hy] at this
              exact .inr (by injection this with this; rw [this])
            · rw [if_neg hq]
              rcases hor with ⟨i', hi', k2, x2, h2, h3⟩ | h
              · rcases List.mem_cons.1 hi' with rfl | hi'
                · rw [hik0] at h2
                  simp only [Option.some.injEq, Prod.mk.injEq] at h2
                  obtain ⟨rfl, rfl⟩ := h2
                  exact absurd h3 hq
                · exact .inl ⟨i', hi', k2, x2, h2, h3⟩
              · exact .inr h
          exact sxp_ins htt hd htk hκ he π _ _ (by simp [hup]) (keyOk_put hkk hk) (fun j hj => hfp j (by simp [hj])) (fun j hj => hins j (by simp [hj])) hor' fun H' ents' h1 h2 h3 h4 => hK H' ents' (fun q hq => by rw [h1 q hq]; simp [hup, hq]) h2 h3 h4
      · cases hik
    · cases hik
/-- A map's entries, in whatever order they are written: the entry that is looked for is there. -/
theorem sxp_fill {t kt et : TypeId} {m r ty : Nat} {tt tk : TI} (κ : Value) (v : D) {K : St → Prop} {e : Env} {H : Heap} {S π : List Nat} (hπ : π.Perm S) (htt : T t = some tt) (hd : tt.desc = TypeDesc.map kt et) (htk : T kt = some tk) (hκ : keyOk tk.desc κ = true) (he : e m = some (.mp r)) (hH : H r = some (.mp ty [])) (hfp : ∀ i ∈ S, fp.lookup i = some r)
    (hins : ∀ i ∈ S, ∃ k x, insAt ops t m i = some (k, x) ∧ keyOk tk.desc k = true ∧ (keyEq κ k = true → cst x = .d v)) (hex : ∃ i ∈ S, ∃ k x, insAt ops t m i = some (k, x) ∧ keyEq κ k = true)
    (hK : ∀ ents, entGet κ ents = some v → (∀ p ∈ ents, keyOk tk.desc p.1 = true) → K ⟨e, hup H r (.mp ty ents)⟩) : sxp P T Mv G N ops fp K π ⟨e, H⟩ := by
  refine sxp_ins htt hd htk hκ he π H [] hH (fun p hp => by simp at hp) (fun i hi => hfp i (hπ.mem_iff.1 hi)) (fun i hi => hins i (hπ.mem_iff.1 hi)) (.inl ?_) fun H' ents' h1 h2 h3 h4 => ?_
  · obtain ⟨i, hi, h⟩ := hex
    exact ⟨i, hπ.mem_iff.2 hi, h⟩
  · have : H' = hup H r (.mp ty ents') := by
      funext q
      by_cases hq : q = r
      · subst hq; simp [hup, h2]
      · rw [h1 q hq]; simp [hup, hq]
    rw [this]
    exact hK ents' h3 h4
attribute [simp] stepP touchP isIns onIns
end
end Go.Av

/-
  The document's text of a formula: (*signalcabinref.Formula).Text.
-/
namespace Go.Proofs.YtblafkekblaibaaDoor
set_option linter.unusedSimpArgs false
set_option linter.unusedVariables false
open Go.Av

theorem join_two (x y sep : List UInt8) : Lib.join [x, y] sep = x ++ (sep ++ y) := by simp [Lib.join, List.intercalate]
theorem two_of {α : Type} {l : List α} (h : l.length = 2) : ∃ x y, l = [x, y] := by
  match l, h with
  | [x, y], _ => exact ⟨x, y, rfl⟩
theorem text_child {k : Int} {s : List UInt8} {l : List Fm} (hb : badF k s l.length = 0) : ∀ g ∈ l, (textF g).length ≤ (signF k s (l.map textF)).length := fun g hg => by
  rcases bad_kinds hb with ⟨rfl, hn⟩ | ⟨rfl, hk⟩
  · rw [List.eq_nil_of_length_eq_zero hn] at hg; simp at hg
  · rcases hk with ⟨rfl, hn⟩ | hk
    · rw [List.eq_nil_of_length_eq_zero hn] at hg; simp at hg
    · have h12 : l.length = 1 ∨ l.length = 2 := by omega
      have hlen : (textF g).length ≤ (Lib.join (l.map textF) []).length ∧ ∀ sep, (textF g).length ≤ (Lib.join (l.map textF) sep).length := by
        rcases h12 with h | h
        · obtain ⟨x, rfl⟩ := List.length_eq_one_iff.1 h
          rw [List.mem_singleton.1 hg]
          simp [Lib.join_one]
        · obtain ⟨x, y, rfl⟩ := two_of h
          rcases List.mem_cons.1 hg with rfl | hg
          · simp [join_two]
          · rw [List.mem_singleton.1 hg]
            simp only [List.map, join_two, List.length_append]
            exact ⟨by omega, fun sep => by omega⟩
      obtain ⟨g1, g2⟩ := hlen
      have g3 := g2 [32, 38, 32]
      have g4 := g2 [32, 124, 32]
      have g5 := g2 [32, 85, 32]
      have g6 := g2 [32, 82, 32]
      clear g2
      unfold signF
      repeat' split
      all_goals first | omega | (simp only [List.length_append, List.length_cons, List.length_nil]; omega)

set_option maxHeartbeats 16000000 in
theorem rtext_spec (G : Glob) : ∀ (d : Nat) (f : Fm), (rightF d f).2 = 0 → (textF f).length ≤ 2^30 → PureC Tryd.prog G 30 [dF f] (dS (textF f)) := by
  intro d
  induction d with
  | zero =>
    intro f h _
    cases f <;> simp [rightF] at h
  | succ d ih =>
    intro f h hlen
    cases f with
    | nil => simp [rightF] at h
    | mk k s l =>
      have hb : badF k s l.length = 0 := by
        rw [rightF] at h
        by_cases hb : badF k s l.length = 0
        · exact hb
        · rw [if_pos hb] at h; exact absurd h hb
      rw [rightF, if_neg (fun h' => h' hb)] at h
      rw [textF, textL_map] at hlen ⊢
      have hch : ∀ g ∈ l, PureC Tryd.prog G 30 [dF g] (dS (textF g)) := fun g hg => ih g (right_at h g hg) (Nat.le_trans (text_child hb g hg) hlen)
      have hip : ∀ g ∈ l, ∃ c, dF g = .ip c := fun g hg => by
        have h1 := right_at h g hg
        cases g with
        | nil => cases d <;> simp [rightF] at h1
        | mk k s l => exact ⟨_, rfl⟩
      clear ih h
      have hk : 1 ≤ k ∧ k ≤ 10 ∧ (l.length : Int) = arityF k := by
        unfold badF at hb
        split at hb
        · cases hb
        · omega
      obtain ⟨hk1, hk10, hlk⟩ := hk
      have ha2 := arity_two hk1 hk10
      refine PureC.of_body (tyOf_good _) Tryd.func30 rfl rfl (rs := [.tmp 2]) Tryd.results30 (by simp [Tryd.ntmps30]) fun X => ?_
      simp only [Tryd.ntmps30, List.map]
      refine AW_rg (tyOf_good _) [0] [] (fun _ _ => trivial) fun K' hK' => ?_
      repeat (refine sxf_next fun K2 hK2 => ?_; simp [dNum, dF, dFs_map]; (repeat (refine ⟨by omega, ?_⟩)); refine hK2 _ ?_; clear hK2 K2)
      refine sxf_nil (hK' _ ?_)
      refine AW.st (by simp [dNum, dF, dFs_map]; rfl) ?_
      clear hK' K'
      refine AW_rg (tyOf_good _) [0, 3] [] (fun _ _ => trivial) fun K' hK' => ?_
      repeat (refine sxf_next fun K2 hK2 => ?_; simp [dNum]; (repeat (refine ⟨by omega, ?_⟩)); refine hK2 _ ?_; clear hK2 K2)
      refine sxf_nil (hK' _ ?_)
      refine AW.st (by simp [dNum]; rfl) ?_
      clear hK' K'
      refine AW_then fun K1 hK1 => ?_
      refine AW_rg (tyOf_good _) [0, 3, 9, 10, 11] [] (fun _ _ => trivial) fun K' hK' => ?_
      repeat (refine sxf_next fun K2 hK2 => ?_; simp [dNum]; (repeat (refine ⟨by omega, ?_⟩)); refine hK2 _ ?_; clear hK2 K2)
      refine sxf_nil (hK' _ ?_)
      refine AW.st (by simp [dNum]; rfl) ?_
      clear hK' K'
      refine AW_for (S := Nat) (fun i => i ≤ l.length) (fun i => ⟨lst [(0, .d (.ip [dNum k, dS s, .sl (ofK l) (l.map fun f => [dF f])])), (3, .own 300 0 i), (9, .d (.sl (ofK l) (l.map fun f => [dF f]))), (10, int l.length), (11, int i)], hlst [(300, .sl 9 1 (List.take i (l.map fun f => [dS (textF f)])))]⟩) (fun i => l.length - i) 0 ?_ (by omega) ?_
      · refine (Imp.adopt 3 300 9 1 rfl rfl).trans ?_
        refine Imp.to' (fun _ _ => trivial) (by simp [dNum]) (by simp [dNum])
      · intro i hi
        refine AW_rg (tyOf_good _) [0, 3, 9, 10, 11, 12] [300] (fun _ _ => trivial) fun K' hK' => ?_
        repeat (refine sxf_next fun K2 hK2 => ?_; simp [dNum]; (repeat (refine ⟨by omega, ?_⟩)); refine hK2 _ ?_; clear hK2 K2)
        refine sxf_nil (hK' _ ?_)
        refine AW.st (by simp [dNum]; rfl) ?_
        clear hK' K'
        refine AW_then fun K2 hK2 => ?_
        refine AW_cond' (b := i < l.length) (by simp [D.le, D.le.go, takeMap, dNum]) (fun hc => ?_) (fun hc => ?_)
        · have hil : i < l.length := hc
          obtain ⟨ci, hci⟩ := hip _ (List.getElem_mem hil)
          have hcc := hch _ (List.getElem_mem hil)
          rw [hci] at hcc
          have htk : ∀ g : Fm → List D, List.take (i + 1) (List.map g l) = List.take i (List.map g l) ++ [g l[i]] := fun g => by
            rw [List.take_succ_eq_append_getElem (by simp; exact hil), List.getElem_map]
          refine AW_skip (hK2 _ ?_)
          refine AW_then fun K3 hK3 => ?_
          refine AW_block ?_
          refine AW_rg (tyOf_good _) [0, 3, 5, 9, 10, 11] [300] (fun _ _ => trivial) fun K' hK' => ?_
          repeat (refine sxf_next fun K2 hK2 => ?_; simp [dNum, hil, hci]; (repeat (refine ⟨by omega, ?_⟩)); refine hK2 _ ?_; clear hK2 K2)
          refine sxf_nil (hK' _ ?_)
          refine AW.st (by simp [dNum, hil, hci]; rfl) ?_
          clear hK' K'
          refine AW_re (tyOf_good _) fun K' hK' => ?_
          repeat (refine sxf_next fun K2 hK2 => ?_; simp [dNum, dS, List.take_take]; (repeat (refine ⟨by omega, ?_⟩)); refine hK2 _ ?_; clear hK2 K2)
          refine sxf_next fun K2 hK2 => ?_
          simp [dNum, dS, List.take_take]
          refine callK.data (hcc) (by simp; rfl) (by first | exact D.leGo_refl _ | simp [takeMap, List.map_map, Function.comp_def, D.le, D.le.go, D.le_refl, D.leGo_refl, dNum, dS, List.take_take]) ?_
          refine hK2 _ ?_
          clear hK2 K2
          simp only [putd, upd_lst]
          repeat (refine sxf_next fun K2 hK2 => ?_; simp [dNum, dS, List.take_take]; (repeat (refine ⟨by omega, ?_⟩)); refine hK2 _ ?_; clear hK2 K2)
          refine sxf_nil (hK' _ ?_)
          clear hK' K'
          refine hK3 _ (AW.norm [0, 3, 9, 10, 11] [300] (fun _ _ => trivial) (AW.st (by simp [dNum, dS, List.take_take]; rfl) ?_))
          refine AW_re (tyOf_good _) fun K' hK' => ?_
          repeat (refine sxf_next fun K2 hK2 => ?_; simp [dNum]; (repeat (refine ⟨by omega, ?_⟩)); refine hK2 _ ?_; clear hK2 K2)
          refine sxf_nil (hK' _ ?_)
          clear hK' K'
          try simp only [thn, inb]
          refine Again.mk (i + 1) (by omega) (by omega) ?_
          refine Imp.to' (fun _ _ => trivial) (by simp [dNum, htk, dS]) (by simp [dNum, htk, dS])
        · obtain rfl : i = l.length := by omega
          refine AW_exit (hK1 _ ?_)
          have htkl : ∀ g : Fm → List D, List.take l.length (l.map g) = l.map g := fun g => List.take_of_length_le (by simp)
          refine AW.imp (Imp.freeze 300 trivial) ?_
          refine AW.st (by simp [dNum, htkl]; rfl) ?_
          refine AW_then fun K4 hK4 => ?_
          refine AW_rg (tyOf_good _) [0, 3, 24] [] (fun _ _ => trivial) fun K' hK' => ?_
          repeat (refine sxf_next fun K2 hK2 => ?_; simp [dNum]; (repeat (refine ⟨by omega, ?_⟩)); refine hK2 _ ?_; clear hK2 K2)
          refine sxf_nil (hK' _ ?_)
          refine AW.st (by simp [dNum]; rfl) ?_
          clear hK' K'
          refine AW_block ?_
          have a1 : arityF 1 = 0 := by decide
          have a2 : arityF 2 = 0 := by decide
          have a3 : arityF 3 = 1 := by decide
          have a4 : arityF 4 = 2 := by decide
          have a5 : arityF 5 = 2 := by decide
          have a6 : arityF 6 = 1 := by decide
          have a7 : arityF 7 = 2 := by decide
          have a8 : arityF 8 = 2 := by decide
          have a9 : arityF 9 = 1 := by decide
          have a10 : arityF 10 = 1 := by decide
          have hks : k = 1 ∨ k = 2 ∨ k = 3 ∨ k = 4 ∨ k = 5 ∨ k = 6 ∨ k = 7 ∨ k = 8 ∨ k = 9 ∨ k = 10 := by omega
          rcases hks with rfl | rfl | rfl | rfl | rfl | rfl | rfl | rfl | rfl | rfl
          · obtain rfl : l = [] := List.eq_nil_of_length_eq_zero (by omega)
            clear hip hch
            refine AW_rg (tyOf_good _) [0, 3, 24, 25] [] (fun _ _ => trivial) fun K' hK' => ?_
            repeat (refine sxf_next fun K2 hK2 => ?_; simp [dNum]; (repeat (refine ⟨by omega, ?_⟩)); refine hK2 _ ?_; clear hK2 K2)
            refine sxf_nil (hK' _ ?_)
            refine AW.st (by simp [dNum]; rfl) ?_
            clear hK' K'
            refine AW_cond true rfl (fun _ => ?_) (fun h => by cases h)
            refine AW_rg (tyOf_good _) [2] [] (fun _ _ => trivial) fun K' hK' => ?_
            repeat (refine sxf_next fun K2 hK2 => ?_; simp [dNum, dS]; (repeat (refine ⟨by omega, ?_⟩)); refine hK2 _ ?_; clear hK2 K2)
            refine sxf_nil (hK' _ ?_)
            refine AW.st (by simp [dNum, dS]; rfl) ?_
            clear hK' K'
            refine AW_ret ?_
            simp [D.le, D.le.go, takeMap, dNum, signF, dS]
          · obtain rfl : l = [] := List.eq_nil_of_length_eq_zero (by omega)
            clear hip hch
            refine AW_rg (tyOf_good _) [0, 3, 24, 25] [] (fun _ _ => trivial) fun K' hK' => ?_
            repeat (refine sxf_next fun K2 hK2 => ?_; simp [dNum]; (repeat (refine ⟨by omega, ?_⟩)); refine hK2 _ ?_; clear hK2 K2)
            refine sxf_nil (hK' _ ?_)
            refine AW.st (by simp [dNum]; rfl) ?_
            clear hK' K'
            refine AW_cond false rfl (fun h => by cases h) (fun _ => ?_)
            refine AW_rg (tyOf_good _) [0, 3, 24, 31] [] (fun _ _ => trivial) fun K' hK' => ?_
            repeat (refine sxf_next fun K2 hK2 => ?_; simp [dNum]; (repeat (refine ⟨by omega, ?_⟩)); refine hK2 _ ?_; clear hK2 K2)
            refine sxf_nil (hK' _ ?_)
            refine AW.st (by simp [dNum]; rfl) ?_
            clear hK' K'
            refine AW_cond true rfl (fun _ => ?_) (fun h => by cases h)
            refine AW_rg (tyOf_good _) [2] [] (fun _ _ => trivial) fun K' hK' => ?_
            repeat (refine sxf_next fun K2 hK2 => ?_; simp [dNum, dS]; (repeat (refine ⟨by omega, ?_⟩)); refine hK2 _ ?_; clear hK2 K2)
            refine sxf_nil (hK' _ ?_)
            refine AW.st (by simp [dNum, dS]; rfl) ?_
            clear hK' K'
            refine AW_ret ?_
            simp [D.le, D.le.go, takeMap, dNum, signF, bs_lit, dS]
          · obtain ⟨x, rfl⟩ := List.length_eq_one_iff.1 (show l.length = 1 by omega)
            clear hip hch
            simp only [List.map] at hlen ⊢
            obtain ⟨tx, htx⟩ : ∃ t, textF x = t := ⟨_, rfl⟩
            rw [htx] at hlen ⊢
            have h1 : binS .add ⟨#[33]⟩ (bs tx) = some (True, .string (bs (33 :: tx))) := binS_bs [33] _ (by simp [signF, Lib.join_one] at hlen ⊢; omega)
            refine AW_rg (tyOf_good _) [0, 3, 24, 25] [] (fun _ _ => trivial) fun K' hK' => ?_
            repeat (refine sxf_next fun K2 hK2 => ?_; simp [dNum]; (repeat (refine ⟨by omega, ?_⟩)); refine hK2 _ ?_; clear hK2 K2)
            refine sxf_nil (hK' _ ?_)
            refine AW.st (by simp [dNum]; rfl) ?_
            clear hK' K'
            refine AW_cond false rfl (fun h => by cases h) (fun _ => ?_)
            refine AW_rg (tyOf_good _) [0, 3, 24, 31] [] (fun _ _ => trivial) fun K' hK' => ?_
            repeat (refine sxf_next fun K2 hK2 => ?_; simp [dNum]; (repeat (refine ⟨by omega, ?_⟩)); refine hK2 _ ?_; clear hK2 K2)
            refine sxf_nil (hK' _ ?_)
            refine AW.st (by simp [dNum]; rfl) ?_
            clear hK' K'
            refine AW_cond false rfl (fun h => by cases h) (fun _ => ?_)
            refine AW_then fun K5 hK5 => ?_
            refine AW_rg (tyOf_good _) [0, 3, 24, 33] [] (fun _ _ => trivial) fun K' hK' => ?_
            repeat (refine sxf_next fun K2 hK2 => ?_; simp [dNum]; (repeat (refine ⟨by omega, ?_⟩)); refine hK2 _ ?_; clear hK2 K2)
            refine sxf_nil (hK' _ ?_)
            refine AW.st (by simp [dNum]; rfl) ?_
            clear hK' K'
            refine AW_cond true rfl (fun _ => ?_) (fun h => by cases h)
            refine AW_skip (hK5 _ ?_)
            refine AW_cond true rfl (fun _ => ?_) (fun h => by cases h)
            refine AW_rp (tyOf_good _) (by kernel_rfl) ([(1, 38), (2, 38), (3, 38), (4, 38), (9, 999), (12, 999), (13, 999)]) ([6, 7, 8, 9, 11, 12, 13, 0]) ([1, 2, 3, 4]) ([5, 10, 14, 15]) [2] [] (fun _ _ => trivial) (by kernel_rfl) fun K' hK' => ?_
            repeat (refine sxp_next rfl fun K2 hK2 => ?_; simp [dNum, h1, ofOk, zeroM, dS]; (repeat (refine ⟨by omega, ?_⟩)); refine hK2 _ ?_; clear hK2 K2)
            refine sxp_nil fun π hπ => ?_
            refine sxp_fill (m := 38) (r := 38) (.int .i64 3) (.v (.string ⟨#[33]⟩)) hπ ty114 rfl ty3 rfl (by simp) (by simp; rfl) (fun i hi => by simp at hi; rcases hi with rfl | rfl | rfl | rfl <;> rfl) (fun i hi => by simp at hi; rcases hi with rfl | rfl | rfl | rfl <;> exact ⟨_, _, rfl, rfl, fun h => by first | rfl | exact absurd h (by decide)⟩) (by first | exact ⟨_, List.mem_cons_self, _, _, rfl, by decide⟩ | exact ⟨_, List.mem_cons.2 (.inr List.mem_cons_self), _, _, rfl, by decide⟩ | exact ⟨_, List.mem_cons.2 (.inr (List.mem_cons.2 (.inr List.mem_cons_self))), _, _, rfl, by decide⟩ | exact ⟨_, List.mem_cons.2 (.inr (List.mem_cons.2 (.inr (List.mem_cons.2 (.inr List.mem_cons_self))))), _, _, rfl, by decide⟩) fun ents hent hkeys => ?_
            simp only [hup_hlst]
            have hkeys2 := hkeys
            simp at hkeys2
            repeat (refine sxp_next rfl fun K2 hK2 => ?_; simp [dNum, h1, ofOk, zeroM, dS, hent]; (repeat (refine ⟨by first | omega | exact hkeys2, ?_⟩)); refine hK2 _ ?_; clear hK2 K2)
            refine sxp_nil (hK' _ ?_)
            refine AW.st (by simp [dNum, h1, ofOk, zeroM, dS]; rfl) ?_
            clear hK' K'
            refine AW_ret ?_
            simp [D.le, D.le.go, takeMap, dNum, signF, Lib.join_one, dS, htx]
          · obtain ⟨x, y, rfl⟩ := two_of (show l.length = 2 by omega)
            clear hip hch
            simp only [List.map] at hlen ⊢
            obtain ⟨tx, htx⟩ : ∃ t, textF x = t := ⟨_, rfl⟩
            rw [htx] at hlen ⊢
            obtain ⟨ty, hty⟩ : ∃ t, textF y = t := ⟨_, rfl⟩
            rw [hty] at hlen ⊢
            have h1 : binS .add ⟨#[40]⟩ (bs tx) = some (True, .string (bs (40 :: tx))) := binS_bs [40] _ (by simp [signF, join_two] at hlen ⊢; omega)
            have h2 : binS .add (bs (40 :: tx)) ⟨#[32, 38, 32]⟩ = some (True, .string (bs (40 :: (tx ++ [32, 38, 32])))) := binS_bs (40 :: tx) [32, 38, 32] (by simp [signF, join_two] at hlen ⊢; omega)
            have h3 : binS .add (bs (40 :: (tx ++ [32, 38, 32]))) (bs ty) = some (True, .string (bs ((40 :: (tx ++ [32, 38, 32])) ++ ty))) := binS_bs _ _ (by simp [signF, join_two] at hlen ⊢; omega)
            have h4 : binS .add (bs ((40 :: (tx ++ [32, 38, 32])) ++ ty)) ⟨#[41]⟩ = some (True, .string (bs (((40 :: (tx ++ [32, 38, 32])) ++ ty) ++ [41]))) := binS_bs _ [41] (by simp [signF, join_two] at hlen ⊢; omega)
            simp only [List.cons_append, List.append_assoc, List.nil_append] at h3 h4
            refine AW_rg (tyOf_good _) [0, 3, 24, 25] [] (fun _ _ => trivial) fun K' hK' => ?_
            repeat (refine sxf_next fun K2 hK2 => ?_; simp [dNum]; (repeat (refine ⟨by omega, ?_⟩)); refine hK2 _ ?_; clear hK2 K2)
            refine sxf_nil (hK' _ ?_)
            refine AW.st (by simp [dNum]; rfl) ?_
            clear hK' K'
            refine AW_cond false rfl (fun h => by cases h) (fun _ => ?_)
            refine AW_rg (tyOf_good _) [0, 3, 24, 31] [] (fun _ _ => trivial) fun K' hK' => ?_
            repeat (refine sxf_next fun K2 hK2 => ?_; simp [dNum]; (repeat (refine ⟨by omega, ?_⟩)); refine hK2 _ ?_; clear hK2 K2)
            refine sxf_nil (hK' _ ?_)
            refine AW.st (by simp [dNum]; rfl) ?_
            clear hK' K'
            refine AW_cond false rfl (fun h => by cases h) (fun _ => ?_)
            refine AW_then fun K5 hK5 => ?_
            refine AW_rg (tyOf_good _) [0, 3, 24, 33] [] (fun _ _ => trivial) fun K' hK' => ?_
            repeat (refine sxf_next fun K2 hK2 => ?_; simp [dNum]; (repeat (refine ⟨by omega, ?_⟩)); refine hK2 _ ?_; clear hK2 K2)
            refine sxf_nil (hK' _ ?_)
            refine AW.st (by simp [dNum]; rfl) ?_
            clear hK' K'
            refine AW_cond false rfl (fun h => by cases h) (fun _ => ?_)
            refine AW_rg (tyOf_good _) [0, 3, 24, 33] [] (fun _ _ => trivial) fun K' hK' => ?_
            repeat (refine sxf_next fun K2 hK2 => ?_; simp [dNum]; (repeat (refine ⟨by omega, ?_⟩)); refine hK2 _ ?_; clear hK2 K2)
            refine sxf_nil (hK' _ ?_)
            refine AW.st (by simp [dNum]; rfl) ?_
            clear hK' K'
            refine AW_cond false rfl (fun h => by cases h) (fun _ => ?_)
            refine AW_rg (tyOf_good _) [0, 3, 24, 33] [] (fun _ _ => trivial) fun K' hK' => ?_
            repeat (refine sxf_next fun K2 hK2 => ?_; simp [dNum]; (repeat (refine ⟨by omega, ?_⟩)); refine hK2 _ ?_; clear hK2 K2)
            refine sxf_nil (hK' _ ?_)
            refine AW.st (by simp [dNum]; rfl) ?_
            clear hK' K'
            refine AW_cond false rfl (fun h => by cases h) (fun _ => ?_)
            refine AW_re (tyOf_good _) fun K' hK' => ?_
            repeat (refine sxf_next fun K2 hK2 => ?_; simp [dNum]; (repeat (refine ⟨by omega, ?_⟩)); refine hK2 _ ?_; clear hK2 K2)
            refine sxf_nil (hK' _ ?_)
            clear hK' K'
            refine hK5 _ (AW.norm [0, 3, 33] [] (fun _ _ => trivial) (AW.st (by simp [dNum]; rfl) ?_))
            refine AW_cond false rfl (fun h => by cases h) (fun _ => ?_)
            refine AW_skip (hK4 _ ?_)
            refine AW_rp (tyOf_good _) (by kernel_rfl) ([(1, 999), (2, 999), (5, 53), (6, 53), (7, 53), (8, 53), (13, 999), (17, 999), (18, 999)]) ([0, 1, 2, 3, 10, 11, 12, 13, 16, 17, 18, 4]) ([5, 6, 7, 8]) ([9, 14, 15, 19, 20, 21]) [2] [] (fun _ _ => trivial) (by kernel_rfl) fun K' hK' => ?_
            repeat (refine sxp_next rfl fun K2 hK2 => ?_; simp [dNum, h1, h2, h3, h4, ofOk, zeroM, dS]; (repeat (refine ⟨by omega, ?_⟩)); refine hK2 _ ?_; clear hK2 K2)
            refine sxp_nil fun π hπ => ?_
            refine sxp_fill (m := 53) (r := 53) (.int .i64 4) (.v (.string ⟨#[32, 38, 32]⟩)) hπ ty114 rfl ty3 rfl (by simp) (by simp; rfl) (fun i hi => by simp at hi; rcases hi with rfl | rfl | rfl | rfl <;> rfl) (fun i hi => by simp at hi; rcases hi with rfl | rfl | rfl | rfl <;> exact ⟨_, _, rfl, rfl, fun h => by first | rfl | exact absurd h (by decide)⟩) (by first | exact ⟨_, List.mem_cons_self, _, _, rfl, by decide⟩ | exact ⟨_, List.mem_cons.2 (.inr List.mem_cons_self), _, _, rfl, by decide⟩ | exact ⟨_, List.mem_cons.2 (.inr (List.mem_cons.2 (.inr List.mem_cons_self))), _, _, rfl, by decide⟩ | exact ⟨_, List.mem_cons.2 (.inr (List.mem_cons.2 (.inr (List.mem_cons.2 (.inr List.mem_cons_self))))), _, _, rfl, by decide⟩) fun ents hent hkeys => ?_
            simp only [hup_hlst]
            have hkeys2 := hkeys
            simp at hkeys2
            repeat (refine sxp_next rfl fun K2 hK2 => ?_; simp [dNum, h1, h2, h3, h4, ofOk, zeroM, dS, hent]; (repeat (refine ⟨by first | omega | exact hkeys2, ?_⟩)); refine hK2 _ ?_; clear hK2 K2)
            refine sxp_nil (hK' _ ?_)
            refine AW.st (by simp [dNum, h1, h2, h3, h4, ofOk, zeroM, dS]; rfl) ?_
            clear hK' K'
            refine AW_ret ?_
            simp [D.le, D.le.go, takeMap, dNum, signF, join_two, dS, htx, hty]
          · obtain ⟨x, y, rfl⟩ := two_of (show l.length = 2 by omega)
            clear hip hch
            simp only [List.map] at hlen ⊢
            obtain ⟨tx, htx⟩ : ∃ t, textF x = t := ⟨_, rfl⟩
            rw [htx] at hlen ⊢
            obtain ⟨ty, hty⟩ : ∃ t, textF y = t := ⟨_, rfl⟩
            rw [hty] at hlen ⊢
            have h1 : binS .add ⟨#[40]⟩ (bs tx) = some (True, .string (bs (40 :: tx))) := binS_bs [40] _ (by simp [signF, join_two] at hlen ⊢; omega)
            have h2 : binS .add (bs (40 :: tx)) ⟨#[32, 124, 32]⟩ = some (True, .string (bs (40 :: (tx ++ [32, 124, 32])))) := binS_bs (40 :: tx) [32, 124, 32] (by simp [signF, join_two] at hlen ⊢; omega)
            have h3 : binS .add (bs (40 :: (tx ++ [32, 124, 32]))) (bs ty) = some (True, .string (bs ((40 :: (tx ++ [32, 124, 32])) ++ ty))) := binS_bs _ _ (by simp [signF, join_two] at hlen ⊢; omega)
            have h4 : binS .add (bs ((40 :: (tx ++ [32, 124, 32])) ++ ty)) ⟨#[41]⟩ = some (True, .string (bs (((40 :: (tx ++ [32, 124, 32])) ++ ty) ++ [41]))) := binS_bs _ [41] (by simp [signF, join_two] at hlen ⊢; omega)
            simp only [List.cons_append, List.append_assoc, List.nil_append] at h3 h4
            refine AW_rg (tyOf_good _) [0, 3, 24, 25] [] (fun _ _ => trivial) fun K' hK' => ?_
            repeat (refine sxf_next fun K2 hK2 => ?_; simp [dNum]; (repeat (refine ⟨by omega, ?_⟩)); refine hK2 _ ?_; clear hK2 K2)
            refine sxf_nil (hK' _ ?_)
            refine AW.st (by simp [dNum]; rfl) ?_
            clear hK' K'
            refine AW_cond false rfl (fun h => by cases h) (fun _ => ?_)
            refine AW_rg (tyOf_good _) [0, 3, 24, 31] [] (fun _ _ => trivial) fun K' hK' => ?_
            repeat (refine sxf_next fun K2 hK2 => ?_; simp [dNum]; (repeat (refine ⟨by omega, ?_⟩)); refine hK2 _ ?_; clear hK2 K2)
            refine sxf_nil (hK' _ ?_)
            refine AW.st (by simp [dNum]; rfl) ?_
            clear hK' K'
            refine AW_cond false rfl (fun h => by cases h) (fun _ => ?_)
            refine AW_then fun K5 hK5 => ?_
            refine AW_rg (tyOf_good _) [0, 3, 24, 33] [] (fun _ _ => trivial) fun K' hK' => ?_
            repeat (refine sxf_next fun K2 hK2 => ?_; simp [dNum]; (repeat (refine ⟨by omega, ?_⟩)); refine hK2 _ ?_; clear hK2 K2)
            refine sxf_nil (hK' _ ?_)
            refine AW.st (by simp [dNum]; rfl) ?_
            clear hK' K'
            refine AW_cond false rfl (fun h => by cases h) (fun _ => ?_)
            refine AW_rg (tyOf_good _) [0, 3, 24, 33] [] (fun _ _ => trivial) fun K' hK' => ?_
            repeat (refine sxf_next fun K2 hK2 => ?_; simp [dNum]; (repeat (refine ⟨by omega, ?_⟩)); refine hK2 _ ?_; clear hK2 K2)
            refine sxf_nil (hK' _ ?_)
            refine AW.st (by simp [dNum]; rfl) ?_
            clear hK' K'
            refine AW_cond false rfl (fun h => by cases h) (fun _ => ?_)
            refine AW_rg (tyOf_good _) [0, 3, 24, 33] [] (fun _ _ => trivial) fun K' hK' => ?_
            repeat (refine sxf_next fun K2 hK2 => ?_; simp [dNum]; (repeat (refine ⟨by omega, ?_⟩)); refine hK2 _ ?_; clear hK2 K2)
            refine sxf_nil (hK' _ ?_)
            refine AW.st (by simp [dNum]; rfl) ?_
            clear hK' K'
            refine AW_cond false rfl (fun h => by cases h) (fun _ => ?_)
            refine AW_re (tyOf_good _) fun K' hK' => ?_
            repeat (refine sxf_next fun K2 hK2 => ?_; simp [dNum]; (repeat (refine ⟨by omega, ?_⟩)); refine hK2 _ ?_; clear hK2 K2)
            refine sxf_nil (hK' _ ?_)
            clear hK' K'
            refine hK5 _ (AW.norm [0, 3, 33] [] (fun _ _ => trivial) (AW.st (by simp [dNum]; rfl) ?_))
            refine AW_cond false rfl (fun h => by cases h) (fun _ => ?_)
            refine AW_skip (hK4 _ ?_)
            refine AW_rp (tyOf_good _) (by kernel_rfl) ([(1, 999), (2, 999), (5, 53), (6, 53), (7, 53), (8, 53), (13, 999), (17, 999), (18, 999)]) ([0, 1, 2, 3, 10, 11, 12, 13, 16, 17, 18, 4]) ([5, 6, 7, 8]) ([9, 14, 15, 19, 20, 21]) [2] [] (fun _ _ => trivial) (by kernel_rfl) fun K' hK' => ?_
            repeat (refine sxp_next rfl fun K2 hK2 => ?_; simp [dNum, h1, h2, h3, h4, ofOk, zeroM, dS]; (repeat (refine ⟨by omega, ?_⟩)); refine hK2 _ ?_; clear hK2 K2)
            refine sxp_nil fun π hπ => ?_
            refine sxp_fill (m := 53) (r := 53) (.int .i64 5) (.v (.string ⟨#[32, 124, 32]⟩)) hπ ty114 rfl ty3 rfl (by simp) (by simp; rfl) (fun i hi => by simp at hi; rcases hi with rfl | rfl | rfl | rfl <;> rfl) (fun i hi => by simp at hi; rcases hi with rfl | rfl | rfl | rfl <;> exact ⟨_, _, rfl, rfl, fun h => by first | rfl | exact absurd h (by decide)⟩) (by first | exact ⟨_, List.mem_cons_self, _, _, rfl, by decide⟩ | exact ⟨_, List.mem_cons.2 (.inr List.mem_cons_self), _, _, rfl, by decide⟩ | exact ⟨_, List.mem_cons.2 (.inr (List.mem_cons.2 (.inr List.mem_cons_self))), _, _, rfl, by decide⟩ | exact ⟨_, List.mem_cons.2 (.inr (List.mem_cons.2 (.inr (List.mem_cons.2 (.inr List.mem_cons_self))))), _, _, rfl, by decide⟩) fun ents hent hkeys => ?_
            simp only [hup_hlst]
            have hkeys2 := hkeys
            simp at hkeys2
            repeat (refine sxp_next rfl fun K2 hK2 => ?_; simp [dNum, h1, h2, h3, h4, ofOk, zeroM, dS, hent]; (repeat (refine ⟨by first | omega | exact hkeys2, ?_⟩)); refine hK2 _ ?_; clear hK2 K2)
            refine sxp_nil (hK' _ ?_)
            refine AW.st (by simp [dNum, h1, h2, h3, h4, ofOk, zeroM, dS]; rfl) ?_
            clear hK' K'
            refine AW_ret ?_
            simp [D.le, D.le.go, takeMap, dNum, signF, join_two, dS, htx, hty]
          · obtain ⟨x, rfl⟩ := List.length_eq_one_iff.1 (show l.length = 1 by omega)
            clear hip hch
            simp only [List.map] at hlen ⊢
            obtain ⟨tx, htx⟩ : ∃ t, textF x = t := ⟨_, rfl⟩
            rw [htx] at hlen ⊢
            have h1 : binS .add ⟨#[88, 32]⟩ (bs tx) = some (True, .string (bs (88 :: 32 :: tx))) := binS_bs [88, 32] _ (by simp [signF, Lib.join_one] at hlen ⊢; omega)
            refine AW_rg (tyOf_good _) [0, 3, 24, 25] [] (fun _ _ => trivial) fun K' hK' => ?_
            repeat (refine sxf_next fun K2 hK2 => ?_; simp [dNum]; (repeat (refine ⟨by omega, ?_⟩)); refine hK2 _ ?_; clear hK2 K2)
            refine sxf_nil (hK' _ ?_)
            refine AW.st (by simp [dNum]; rfl) ?_
            clear hK' K'
            refine AW_cond false rfl (fun h => by cases h) (fun _ => ?_)
            refine AW_rg (tyOf_good _) [0, 3, 24, 31] [] (fun _ _ => trivial) fun K' hK' => ?_
            repeat (refine sxf_next fun K2 hK2 => ?_; simp [dNum]; (repeat (refine ⟨by omega, ?_⟩)); refine hK2 _ ?_; clear hK2 K2)
            refine sxf_nil (hK' _ ?_)
            refine AW.st (by simp [dNum]; rfl) ?_
            clear hK' K'
            refine AW_cond false rfl (fun h => by cases h) (fun _ => ?_)
            refine AW_then fun K5 hK5 => ?_
            refine AW_rg (tyOf_good _) [0, 3, 24, 33] [] (fun _ _ => trivial) fun K' hK' => ?_
            repeat (refine sxf_next fun K2 hK2 => ?_; simp [dNum]; (repeat (refine ⟨by omega, ?_⟩)); refine hK2 _ ?_; clear hK2 K2)
            refine sxf_nil (hK' _ ?_)
            refine AW.st (by simp [dNum]; rfl) ?_
            clear hK' K'
            refine AW_cond false rfl (fun h => by cases h) (fun _ => ?_)
            refine AW_rg (tyOf_good _) [0, 3, 24, 33] [] (fun _ _ => trivial) fun K' hK' => ?_
            repeat (refine sxf_next fun K2 hK2 => ?_; simp [dNum]; (repeat (refine ⟨by omega, ?_⟩)); refine hK2 _ ?_; clear hK2 K2)
            refine sxf_nil (hK' _ ?_)
            refine AW.st (by simp [dNum]; rfl) ?_
            clear hK' K'
            refine AW_cond true rfl (fun _ => ?_) (fun h => by cases h)
            refine AW_skip (hK5 _ ?_)
            refine AW_cond true rfl (fun _ => ?_) (fun h => by cases h)
            refine AW_rp (tyOf_good _) (by kernel_rfl) ([(1, 38), (2, 38), (3, 38), (4, 38), (9, 999), (12, 999), (13, 999)]) ([6, 7, 8, 9, 11, 12, 13, 0]) ([1, 2, 3, 4]) ([5, 10, 14, 15]) [2] [] (fun _ _ => trivial) (by kernel_rfl) fun K' hK' => ?_
            repeat (refine sxp_next rfl fun K2 hK2 => ?_; simp [dNum, h1, ofOk, zeroM, dS]; (repeat (refine ⟨by omega, ?_⟩)); refine hK2 _ ?_; clear hK2 K2)
            refine sxp_nil fun π hπ => ?_
            refine sxp_fill (m := 38) (r := 38) (.int .i64 6) (.v (.string ⟨#[88, 32]⟩)) hπ ty114 rfl ty3 rfl (by simp) (by simp; rfl) (fun i hi => by simp at hi; rcases hi with rfl | rfl | rfl | rfl <;> rfl) (fun i hi => by simp at hi; rcases hi with rfl | rfl | rfl | rfl <;> exact ⟨_, _, rfl, rfl, fun h => by first | rfl | exact absurd h (by decide)⟩) (by first | exact ⟨_, List.mem_cons_self, _, _, rfl, by decide⟩ | exact ⟨_, List.mem_cons.2 (.inr List.mem_cons_self), _, _, rfl, by decide⟩ | exact ⟨_, List.mem_cons.2 (.inr (List.mem_cons.2 (.inr List.mem_cons_self))), _, _, rfl, by decide⟩ | exact ⟨_, List.mem_cons.2 (.inr (List.mem_cons.2 (.inr (List.mem_cons.2 (.inr List.mem_cons_self))))), _, _, rfl, by decide⟩) fun ents hent hkeys => ?_
            simp only [hup_hlst]
            have hkeys2 := hkeys
            simp at hkeys2
            repeat (refine sxp_next rfl fun K2 hK2 => ?_; simp [dNum, h1, ofOk, zeroM, dS, hent]; (repeat (refine ⟨by first | omega | exact hkeys2, ?_⟩)); refine hK2 _ ?_; clear hK2 K2)
            refine sxp_nil (hK' _ ?_)
            refine AW.st (by simp [dNum, h1, ofOk, zeroM, dS]; rfl) ?_
            clear hK' K'
            refine AW_ret ?_
            simp [D.le, D.le.go, takeMap, dNum, signF, Lib.join_one, dS, htx]
          · obtain ⟨x, y, rfl⟩ := two_of (show l.length = 2 by omega)
            clear hip hch
            simp only [List.map] at hlen ⊢
            obtain ⟨tx, htx⟩ : ∃ t, textF x = t := ⟨_, rfl⟩
            rw [htx] at hlen ⊢
            obtain ⟨ty, hty⟩ : ∃ t, textF y = t := ⟨_, rfl⟩
            rw [hty] at hlen ⊢
            have h1 : binS .add ⟨#[40]⟩ (bs tx) = some (True, .string (bs (40 :: tx))) := binS_bs [40] _ (by simp [signF, join_two] at hlen ⊢; omega)
            have h2 : binS .add (bs (40 :: tx)) ⟨#[32, 85, 32]⟩ = some (True, .string (bs (40 :: (tx ++ [32, 85, 32])))) := binS_bs (40 :: tx) [32, 85, 32] (by simp [signF, join_two] at hlen ⊢; omega)
            have h3 : binS .add (bs (40 :: (tx ++ [32, 85, 32]))) (bs ty) = some (True, .string (bs ((40 :: (tx ++ [32, 85, 32])) ++ ty))) := binS_bs _ _ (by simp [signF, join_two] at hlen ⊢; omega)
            have h4 : binS .add (bs ((40 :: (tx ++ [32, 85, 32])) ++ ty)) ⟨#[41]⟩ = some (True, .string (bs (((40 :: (tx ++ [32, 85, 32])) ++ ty) ++ [41]))) := binS_bs _ [41] (by simp [signF, join_two] at hlen ⊢; omega)
            simp only [List.cons_append, List.append_assoc, List.nil_append] at h3 h4
            refine AW_rg (tyOf_good _) [0, 3, 24, 25] [] (fun _ _ => trivial) fun K' hK' => ?_
            repeat (refine sxf_next fun K2 hK2 => ?_; simp [dNum]; (repeat (refine ⟨by omega, ?_⟩)); refine hK2 _ ?_; clear hK2 K2)
            refine sxf_nil (hK' _ ?_)
            refine AW.st (by simp [dNum]; rfl) ?_
            clear hK' K'
            refine AW_cond false rfl (fun h => by cases h) (fun _ => ?_)
            refine AW_rg (tyOf_good _) [0, 3, 24, 31] [] (fun _ _ => trivial) fun K' hK' => ?_
            repeat (refine sxf_next fun K2 hK2 => ?_; simp [dNum]; (repeat (refine ⟨by omega, ?_⟩)); refine hK2 _ ?_; clear hK2 K2)
            refine sxf_nil (hK' _ ?_)
            refine AW.st (by simp [dNum]; rfl) ?_
            clear hK' K'
            refine AW_cond false rfl (fun h => by cases h) (fun _ => ?_)
            refine AW_then fun K5 hK5 => ?_
            refine AW_rg (tyOf_good _) [0, 3, 24, 33] [] (fun _ _ => trivial) fun K' hK' => ?_
            repeat (refine sxf_next fun K2 hK2 => ?_; simp [dNum]; (repeat (refine ⟨by omega, ?_⟩)); refine hK2 _ ?_; clear hK2 K2)
            refine sxf_nil (hK' _ ?_)
            refine AW.st (by simp [dNum]; rfl) ?_
            clear hK' K'
            refine AW_cond false rfl (fun h => by cases h) (fun _ => ?_)
            refine AW_rg (tyOf_good _) [0, 3, 24, 33] [] (fun _ _ => trivial) fun K' hK' => ?_
            repeat (refine sxf_next fun K2 hK2 => ?_; simp [dNum]; (repeat (refine ⟨by omega, ?_⟩)); refine hK2 _ ?_; clear hK2 K2)
            refine sxf_nil (hK' _ ?_)
            refine AW.st (by simp [dNum]; rfl) ?_
            clear hK' K'
            refine AW_cond false rfl (fun h => by cases h) (fun _ => ?_)
            refine AW_rg (tyOf_good _) [0, 3, 24, 33] [] (fun _ _ => trivial) fun K' hK' => ?_
            repeat (refine sxf_next fun K2 hK2 => ?_; simp [dNum]; (repeat (refine ⟨by omega, ?_⟩)); refine hK2 _ ?_; clear hK2 K2)
            refine sxf_nil (hK' _ ?_)
            refine AW.st (by simp [dNum]; rfl) ?_
            clear hK' K'
            refine AW_cond false rfl (fun h => by cases h) (fun _ => ?_)
            refine AW_re (tyOf_good _) fun K' hK' => ?_
            repeat (refine sxf_next fun K2 hK2 => ?_; simp [dNum]; (repeat (refine ⟨by omega, ?_⟩)); refine hK2 _ ?_; clear hK2 K2)
            refine sxf_nil (hK' _ ?_)
            clear hK' K'
            refine hK5 _ (AW.norm [0, 3, 33] [] (fun _ _ => trivial) (AW.st (by simp [dNum]; rfl) ?_))
            refine AW_cond false rfl (fun h => by cases h) (fun _ => ?_)
            refine AW_skip (hK4 _ ?_)
            refine AW_rp (tyOf_good _) (by kernel_rfl) ([(1, 999), (2, 999), (5, 53), (6, 53), (7, 53), (8, 53), (13, 999), (17, 999), (18, 999)]) ([0, 1, 2, 3, 10, 11, 12, 13, 16, 17, 18, 4]) ([5, 6, 7, 8]) ([9, 14, 15, 19, 20, 21]) [2] [] (fun _ _ => trivial) (by kernel_rfl) fun K' hK' => ?_
            repeat (refine sxp_next rfl fun K2 hK2 => ?_; simp [dNum, h1, h2, h3, h4, ofOk, zeroM, dS]; (repeat (refine ⟨by omega, ?_⟩)); refine hK2 _ ?_; clear hK2 K2)
            refine sxp_nil fun π hπ => ?_
            refine sxp_fill (m := 53) (r := 53) (.int .i64 7) (.v (.string ⟨#[32, 85, 32]⟩)) hπ ty114 rfl ty3 rfl (by simp) (by simp; rfl) (fun i hi => by simp at hi; rcases hi with rfl | rfl | rfl | rfl <;> rfl) (fun i hi => by simp at hi; rcases hi with rfl | rfl | rfl | rfl <;> exact ⟨_, _, rfl, rfl, fun h => by first | rfl | exact absurd h (by decide)⟩) (by first | exact ⟨_, List.mem_cons_self, _, _, rfl, by decide⟩ | exact ⟨_, List.mem_cons.2 (.inr List.mem_cons_self), _, _, rfl, by decide⟩ | exact ⟨_, List.mem_cons.2 (.inr (List.mem_cons.2 (.inr List.mem_cons_self))), _, _, rfl, by decide⟩ | exact ⟨_, List.mem_cons.2 (.inr (List.mem_cons.2 (.inr (List.mem_cons.2 (.inr List.mem_cons_self))))), _, _, rfl, by decide⟩) fun ents hent hkeys => ?_
            simp only [hup_hlst]
            have hkeys2 := hkeys
            simp at hkeys2
            repeat (refine sxp_next rfl fun K2 hK2 => ?_; simp [dNum, h1, h2, h3, h4, ofOk, zeroM, dS, hent]; (repeat (refine ⟨by first | omega | exact hkeys2, ?_⟩)); refine hK2 _ ?_; clear hK2 K2)
            refine sxp_nil (hK' _ ?_)
            refine AW.st (by simp [dNum, h1, h2, h3, h4, ofOk, zeroM, dS]; rfl) ?_
            clear hK' K'
            refine AW_ret ?_
            simp [D.le, D.le.go, takeMap, dNum, signF, join_two, dS, htx, hty]
          · obtain ⟨x, y, rfl⟩ := two_of (show l.length = 2 by omega)
            clear hip hch
            simp only [List.map] at hlen ⊢
            obtain ⟨tx, htx⟩ : ∃ t, textF x = t := ⟨_, rfl⟩
            rw [htx] at hlen ⊢
            obtain ⟨ty, hty⟩ : ∃ t, textF y = t := ⟨_, rfl⟩
            rw [hty] at hlen ⊢
            have h1 : binS .add ⟨#[40]⟩ (bs tx) = some (True, .string (bs (40 :: tx))) := binS_bs [40] _ (by simp [signF, join_two] at hlen ⊢; omega)
            have h2 : binS .add (bs (40 :: tx)) ⟨#[32, 82, 32]⟩ = some (True, .string (bs (40 :: (tx ++ [32, 82, 32])))) := binS_bs (40 :: tx) [32, 82, 32] (by simp [signF, join_two] at hlen ⊢; omega)
            have h3 : binS .add (bs (40 :: (tx ++ [32, 82, 32]))) (bs ty) = some (True, .string (bs ((40 :: (tx ++ [32, 82, 32])) ++ ty))) := binS_bs _ _ (by simp [signF, join_two] at hlen ⊢; omega)
            have h4 : binS .add (bs ((40 :: (tx ++ [32, 82, 32])) ++ ty)) ⟨#[41]⟩ = some (True, .string (bs (((40 :: (tx ++ [32, 82, 32])) ++ ty) ++ [41]))) := binS_bs _ [41] (by simp [signF, join_two] at hlen ⊢; omega)
            simp only [List.cons_append, List.append_assoc, List.nil_append] at h3 h4
            refine AW_rg (tyOf_good _) [0, 3, 24, 25] [] (fun _ _ => trivial) fun K' hK' => ?_
            repeat (refine sxf_next fun K2 hK2 => ?_; simp [dNum]; (repeat (refine ⟨by omega, ?_⟩)); refine hK2 _ ?_; clear hK2 K2)
            refine sxf_nil (hK' _ ?_)
            refine AW.st (by simp [dNum]; rfl) ?_
            clear hK' K'
            refine AW_cond false rfl (fun h => by cases h) (fun _ => ?_)
            refine AW_rg (tyOf_good _) [0, 3, 24, 31] [] (fun _ _ => trivial) fun K' hK' => ?_
            repeat (refine sxf_next fun K2 hK2 => ?_; simp [dNum]; (repeat (refine ⟨by omega, ?_⟩)); refine hK2 _ ?_; clear hK2 K2)
            refine sxf_nil (hK' _ ?_)
            refine AW.st (by simp [dNum]; rfl) ?_
            clear hK' K'
            refine AW_cond false rfl (fun h => by cases h) (fun _ => ?_)
            refine AW_then fun K5 hK5 => ?_
            refine AW_rg (tyOf_good _) [0, 3, 24, 33] [] (fun _ _ => trivial) fun K' hK' => ?_
            repeat (refine sxf_next fun K2 hK2 => ?_; simp [dNum]; (repeat (refine ⟨by omega, ?_⟩)); refine hK2 _ ?_; clear hK2 K2)
            refine sxf_nil (hK' _ ?_)
            refine AW.st (by simp [dNum]; rfl) ?_
            clear hK' K'
            refine AW_cond false rfl (fun h => by cases h) (fun _ => ?_)
            refine AW_rg (tyOf_good _) [0, 3, 24, 33] [] (fun _ _ => trivial) fun K' hK' => ?_
            repeat (refine sxf_next fun K2 hK2 => ?_; simp [dNum]; (repeat (refine ⟨by omega, ?_⟩)); refine hK2 _ ?_; clear hK2 K2)
            refine sxf_nil (hK' _ ?_)
            refine AW.st (by simp [dNum]; rfl) ?_
            clear hK' K'
            refine AW_cond false rfl (fun h => by cases h) (fun _ => ?_)
            refine AW_rg (tyOf_good _) [0, 3, 24, 33] [] (fun _ _ => trivial) fun K' hK' => ?_
            repeat (refine sxf_next fun K2 hK2 => ?_; simp [dNum]; (repeat (refine ⟨by omega, ?_⟩)); refine hK2 _ ?_; clear hK2 K2)
            refine sxf_nil (hK' _ ?_)
            refine AW.st (by simp [dNum]; rfl) ?_
            clear hK' K'
            refine AW_cond false rfl (fun h => by cases h) (fun _ => ?_)
            refine AW_re (tyOf_good _) fun K' hK' => ?_
            repeat (refine sxf_next fun K2 hK2 => ?_; simp [dNum]; (repeat (refine ⟨by omega, ?_⟩)); refine hK2 _ ?_; clear hK2 K2)
            refine sxf_nil (hK' _ ?_)
            clear hK' K'
            refine hK5 _ (AW.norm [0, 3, 33] [] (fun _ _ => trivial) (AW.st (by simp [dNum]; rfl) ?_))
            refine AW_cond false rfl (fun h => by cases h) (fun _ => ?_)
            refine AW_skip (hK4 _ ?_)
            refine AW_rp (tyOf_good _) (by kernel_rfl) ([(1, 999), (2, 999), (5, 53), (6, 53), (7, 53), (8, 53), (13, 999), (17, 999), (18, 999)]) ([0, 1, 2, 3, 10, 11, 12, 13, 16, 17, 18, 4]) ([5, 6, 7, 8]) ([9, 14, 15, 19, 20, 21]) [2] [] (fun _ _ => trivial) (by kernel_rfl) fun K' hK' => ?_
            repeat (refine sxp_next rfl fun K2 hK2 => ?_; simp [dNum, h1, h2, h3, h4, ofOk, zeroM, dS]; (repeat (refine ⟨by omega, ?_⟩)); refine hK2 _ ?_; clear hK2 K2)
            refine sxp_nil fun π hπ => ?_
            refine sxp_fill (m := 53) (r := 53) (.int .i64 8) (.v (.string ⟨#[32, 82, 32]⟩)) hπ ty114 rfl ty3 rfl (by simp) (by simp; rfl) (fun i hi => by simp at hi; rcases hi with rfl | rfl | rfl | rfl <;> rfl) (fun i hi => by simp at hi; rcases hi with rfl | rfl | rfl | rfl <;> exact ⟨_, _, rfl, rfl, fun h => by first | rfl | exact absurd h (by decide)⟩) (by first | exact ⟨_, List.mem_cons_self, _, _, rfl, by decide⟩ | exact ⟨_, List.mem_cons.2 (.inr List.mem_cons_self), _, _, rfl, by decide⟩ | exact ⟨_, List.mem_cons.2 (.inr (List.mem_cons.2 (.inr List.mem_cons_self))), _, _, rfl, by decide⟩ | exact ⟨_, List.mem_cons.2 (.inr (List.mem_cons.2 (.inr (List.mem_cons.2 (.inr List.mem_cons_self))))), _, _, rfl, by decide⟩) fun ents hent hkeys => ?_
            simp only [hup_hlst]
            have hkeys2 := hkeys
            simp at hkeys2
            repeat (refine sxp_next rfl fun K2 hK2 => ?_; simp [dNum, h1, h2, h3, h4, ofOk, zeroM, dS, hent]; (repeat (refine ⟨by first | omega | exact hkeys2, ?_⟩)); refine hK2 _ ?_; clear hK2 K2)
            refine sxp_nil (hK' _ ?_)
            refine AW.st (by simp [dNum, h1, h2, h3, h4, ofOk, zeroM, dS]; rfl) ?_
            clear hK' K'
            refine AW_ret ?_
            simp [D.le, D.le.go, takeMap, dNum, signF, join_two, dS, htx, hty]
          · obtain ⟨x, rfl⟩ := List.length_eq_one_iff.1 (show l.length = 1 by omega)
            clear hip hch
            simp only [List.map] at hlen ⊢
            obtain ⟨tx, htx⟩ : ∃ t, textF x = t := ⟨_, rfl⟩
            rw [htx] at hlen ⊢
            have h1 : binS .add ⟨#[70, 32]⟩ (bs tx) = some (True, .string (bs (70 :: 32 :: tx))) := binS_bs [70, 32] _ (by simp [signF, Lib.join_one] at hlen ⊢; omega)
            refine AW_rg (tyOf_good _) [0, 3, 24, 25] [] (fun _ _ => trivial) fun K' hK' => ?_
            repeat (refine sxf_next fun K2 hK2 => ?_; simp [dNum]; (repeat (refine ⟨by omega, ?_⟩)); refine hK2 _ ?_; clear hK2 K2)
            refine sxf_nil (hK' _ ?_)
            refine AW.st (by simp [dNum]; rfl) ?_
            clear hK' K'
            refine AW_cond false rfl (fun h => by cases h) (fun _ => ?_)
            refine AW_rg (tyOf_good _) [0, 3, 24, 31] [] (fun _ _ => trivial) fun K' hK' => ?_
            repeat (refine sxf_next fun K2 hK2 => ?_; simp [dNum]; (repeat (refine ⟨by omega, ?_⟩)); refine hK2 _ ?_; clear hK2 K2)
            refine sxf_nil (hK' _ ?_)
            refine AW.st (by simp [dNum]; rfl) ?_
            clear hK' K'
            refine AW_cond false rfl (fun h => by cases h) (fun _ => ?_)
            refine AW_then fun K5 hK5 => ?_
            refine AW_rg (tyOf_good _) [0, 3, 24, 33] [] (fun _ _ => trivial) fun K' hK' => ?_
            repeat (refine sxf_next fun K2 hK2 => ?_; simp [dNum]; (repeat (refine ⟨by omega, ?_⟩)); refine hK2 _ ?_; clear hK2 K2)
            refine sxf_nil (hK' _ ?_)
            refine AW.st (by simp [dNum]; rfl) ?_
            clear hK' K'
            refine AW_cond false rfl (fun h => by cases h) (fun _ => ?_)
            refine AW_rg (tyOf_good _) [0, 3, 24, 33] [] (fun _ _ => trivial) fun K' hK' => ?_
            repeat (refine sxf_next fun K2 hK2 => ?_; simp [dNum]; (repeat (refine ⟨by omega, ?_⟩)); refine hK2 _ ?_; clear hK2 K2)
            refine sxf_nil (hK' _ ?_)
            refine AW.st (by simp [dNum]; rfl) ?_
            clear hK' K'
            refine AW_cond false rfl (fun h => by cases h) (fun _ => ?_)
            refine AW_rg (tyOf_good _) [0, 3, 24, 33] [] (fun _ _ => trivial) fun K' hK' => ?_
            repeat (refine sxf_next fun K2 hK2 => ?_; simp [dNum]; (repeat (refine ⟨by omega, ?_⟩)); refine hK2 _ ?_; clear hK2 K2)
            refine sxf_nil (hK' _ ?_)
            refine AW.st (by simp [dNum]; rfl) ?_
            clear hK' K'
            refine AW_cond true rfl (fun _ => ?_) (fun h => by cases h)
            refine AW_skip (hK5 _ ?_)
            refine AW_cond true rfl (fun _ => ?_) (fun h => by cases h)
            refine AW_rp (tyOf_good _) (by kernel_rfl) ([(1, 38), (2, 38), (3, 38), (4, 38), (9, 999), (12, 999), (13, 999)]) ([6, 7, 8, 9, 11, 12, 13, 0]) ([1, 2, 3, 4]) ([5, 10, 14, 15]) [2] [] (fun _ _ => trivial) (by kernel_rfl) fun K' hK' => ?_
            repeat (refine sxp_next rfl fun K2 hK2 => ?_; simp [dNum, h1, ofOk, zeroM, dS]; (repeat (refine ⟨by omega, ?_⟩)); refine hK2 _ ?_; clear hK2 K2)
            refine sxp_nil fun π hπ => ?_
            refine sxp_fill (m := 38) (r := 38) (.int .i64 9) (.v (.string ⟨#[70, 32]⟩)) hπ ty114 rfl ty3 rfl (by simp) (by simp; rfl) (fun i hi => by simp at hi; rcases hi with rfl | rfl | rfl | rfl <;> rfl) (fun i hi => by simp at hi; rcases hi with rfl | rfl | rfl | rfl <;> exact ⟨_, _, rfl, rfl, fun h => by first | rfl | exact absurd h (by decide)⟩) (by first | exact ⟨_, List.mem_cons_self, _, _, rfl, by decide⟩ | exact ⟨_, List.mem_cons.2 (.inr List.mem_cons_self), _, _, rfl, by decide⟩ | exact ⟨_, List.mem_cons.2 (.inr (List.mem_cons.2 (.inr List.mem_cons_self))), _, _, rfl, by decide⟩ | exact ⟨_, List.mem_cons.2 (.inr (List.mem_cons.2 (.inr (List.mem_cons.2 (.inr List.mem_cons_self))))), _, _, rfl, by decide⟩) fun ents hent hkeys => ?_
            simp only [hup_hlst]
            have hkeys2 := hkeys
            simp at hkeys2
            repeat (refine sxp_next rfl fun K2 hK2 => ?_; simp [dNum, h1, ofOk, zeroM, dS, hent]; (repeat (refine ⟨by first | omega | exact hkeys2, ?_⟩)); refine hK2 _ ?_; clear hK2 K2)
            refine sxp_nil (hK' _ ?_)
            refine AW.st (by simp [dNum, h1, ofOk, zeroM, dS]; rfl) ?_
            clear hK' K'
            refine AW_ret ?_
            simp [D.le, D.le.go, takeMap, dNum, signF, Lib.join_one, dS, htx]
          · obtain ⟨x, rfl⟩ := List.length_eq_one_iff.1 (show l.length = 1 by omega)
            clear hip hch
            simp only [List.map] at hlen ⊢
            obtain ⟨tx, htx⟩ : ∃ t, textF x = t := ⟨_, rfl⟩
            rw [htx] at hlen ⊢
            have h1 : binS .add ⟨#[71, 32]⟩ (bs tx) = some (True, .string (bs (71 :: 32 :: tx))) := binS_bs [71, 32] _ (by simp [signF, Lib.join_one] at hlen ⊢; omega)
            refine AW_rg (tyOf_good _) [0, 3, 24, 25] [] (fun _ _ => trivial) fun K' hK' => ?_
            repeat (refine sxf_next fun K2 hK2 => ?_; simp [dNum]; (repeat (refine ⟨by omega, ?_⟩)); refine hK2 _ ?_; clear hK2 K2)
            refine sxf_nil (hK' _ ?_)
            refine AW.st (by simp [dNum]; rfl) ?_
            clear hK' K'
            refine AW_cond false rfl (fun h => by cases h) (fun _ => ?_)
            refine AW_rg (tyOf_good _) [0, 3, 24, 31] [] (fun _ _ => trivial) fun K' hK' => ?_
            repeat (refine sxf_next fun K2 hK2 => ?_; simp [dNum]; (repeat (refine ⟨by omega, ?_⟩)); refine hK2 _ ?_; clear hK2 K2)
            refine sxf_nil (hK' _ ?_)
            refine AW.st (by simp [dNum]; rfl) ?_
            clear hK' K'
            refine AW_cond false rfl (fun h => by cases h) (fun _ => ?_)
            refine AW_then fun K5 hK5 => ?_
            refine AW_rg (tyOf_good _) [0, 3, 24, 33] [] (fun _ _ => trivial) fun K' hK' => ?_
            repeat (refine sxf_next fun K2 hK2 => ?_; simp [dNum]; (repeat (refine ⟨by omega, ?_⟩)); refine hK2 _ ?_; clear hK2 K2)
            refine sxf_nil (hK' _ ?_)
            refine AW.st (by simp [dNum]; rfl) ?_
            clear hK' K'
            refine AW_cond false rfl (fun h => by cases h) (fun _ => ?_)
            refine AW_rg (tyOf_good _) [0, 3, 24, 33] [] (fun _ _ => trivial) fun K' hK' => ?_
            repeat (refine sxf_next fun K2 hK2 => ?_; simp [dNum]; (repeat (refine ⟨by omega, ?_⟩)); refine hK2 _ ?_; clear hK2 K2)
            refine sxf_nil (hK' _ ?_)
            refine AW.st (by simp [dNum]; rfl) ?_
            clear hK' K'
            refine AW_cond false rfl (fun h => by cases h) (fun _ => ?_)
            refine AW_rg (tyOf_good _) [0, 3, 24, 33] [] (fun _ _ => trivial) fun K' hK' => ?_
            repeat (refine sxf_next fun K2 hK2 => ?_; simp [dNum]; (repeat (refine ⟨by omega, ?_⟩)); refine hK2 _ ?_; clear hK2 K2)
            refine sxf_nil (hK' _ ?_)
            refine AW.st (by simp [dNum]; rfl) ?_
            clear hK' K'
            refine AW_cond false rfl (fun h => by cases h) (fun _ => ?_)
            refine AW_re (tyOf_good _) fun K' hK' => ?_
            repeat (refine sxf_next fun K2 hK2 => ?_; simp [dNum]; (repeat (refine ⟨by omega, ?_⟩)); refine hK2 _ ?_; clear hK2 K2)
            refine sxf_nil (hK' _ ?_)
            clear hK' K'
            refine hK5 _ (AW.norm [0, 3, 33] [] (fun _ _ => trivial) (AW.st (by simp [dNum]; rfl) ?_))
            refine AW_cond true rfl (fun _ => ?_) (fun h => by cases h)
            refine AW_rp (tyOf_good _) (by kernel_rfl) ([(1, 38), (2, 38), (3, 38), (4, 38), (9, 999), (12, 999), (13, 999)]) ([6, 7, 8, 9, 11, 12, 13, 0]) ([1, 2, 3, 4]) ([5, 10, 14, 15]) [2] [] (fun _ _ => trivial) (by kernel_rfl) fun K' hK' => ?_
            repeat (refine sxp_next rfl fun K2 hK2 => ?_; simp [dNum, h1, ofOk, zeroM, dS]; (repeat (refine ⟨by omega, ?_⟩)); refine hK2 _ ?_; clear hK2 K2)
            refine sxp_nil fun π hπ => ?_
            refine sxp_fill (m := 38) (r := 38) (.int .i64 10) (.v (.string ⟨#[71, 32]⟩)) hπ ty114 rfl ty3 rfl (by simp) (by simp; rfl) (fun i hi => by simp at hi; rcases hi with rfl | rfl | rfl | rfl <;> rfl) (fun i hi => by simp at hi; rcases hi with rfl | rfl | rfl | rfl <;> exact ⟨_, _, rfl, rfl, fun h => by first | rfl | exact absurd h (by decide)⟩) (by first | exact ⟨_, List.mem_cons_self, _, _, rfl, by decide⟩ | exact ⟨_, List.mem_cons.2 (.inr List.mem_cons_self), _, _, rfl, by decide⟩ | exact ⟨_, List.mem_cons.2 (.inr (List.mem_cons.2 (.inr List.mem_cons_self))), _, _, rfl, by decide⟩ | exact ⟨_, List.mem_cons.2 (.inr (List.mem_cons.2 (.inr (List.mem_cons.2 (.inr List.mem_cons_self))))), _, _, rfl, by decide⟩) fun ents hent hkeys => ?_
            simp only [hup_hlst]
            have hkeys2 := hkeys
            simp at hkeys2
            repeat (refine sxp_next rfl fun K2 hK2 => ?_; simp [dNum, h1, ofOk, zeroM, dS, hent]; (repeat (refine ⟨by first | omega | exact hkeys2, ?_⟩)); refine hK2 _ ?_; clear hK2 K2)
            refine sxp_nil (hK' _ ?_)
            refine AW.st (by simp [dNum, h1, ofOk, zeroM, dS]; rfl) ?_
            clear hK' K'
            refine AW_ret ?_
            simp [D.le, D.le.go, takeMap, dNum, signF, Lib.join_one, dS, htx]
#print axioms rtext_spec
end Go.Proofs.YtblafkekblaibaaDoor

/-
  LassoHolds, the document's side: formulas that steps make, as the document's.
-/
namespace Go.Proofs.YtblafkekblaibaaDoor
set_option linter.unusedSimpArgs false
set_option linter.unusedVariables false
open Go.Av

def capS (f : Fm) : Nat := min (szF f) 1000000
def fRow (l : List Fm) : Row := .sl 57 1 (l.map fun f => [dF f])
def sRow (l : List Fm) : Row := .sl 3 1 (l.map fun f => [dNum (capS f)])
def pRow (l : List Fm) : Row := .sl 3 1 (l.map fun f => [dNum (dpF f)])

set_option maxHeartbeats 1000000 in
theorem lformula_many (G : Glob) (l : List Stp) (hl : (40 : Int) < l.length) : PureC Tryd.prog G 26 [dStps l] (.tup [.v (.pointer none), dNum 0, dB false]) := by
  refine PureC.of_body (tyOf_good _) Tryd.func26 rfl rfl (rs := [.tmp 2, .tmp 3, .tmp 4]) Tryd.results26 (by simp [Tryd.ntmps26]) fun X => ?_
  simp only [Tryd.ntmps26, List.map]
  refine AW_rg (tyOf_good _) [0] [] (fun _ _ => trivial) fun K' hK' => ?_
  repeat (refine sxf_next fun K2 hK2 => ?_; simp [dNum, dB]; (repeat (refine ⟨by omega, ?_⟩)); refine hK2 _ ?_; clear hK2 K2)
  refine sxf_nil (hK' _ ?_)
  refine AW.st (by simp [dNum, dB]; rfl) ?_
  clear hK' K'
  refine AW_then fun K1 hK1 => ?_
  refine AW_rg (tyOf_good _) [0, 18] [] (fun _ _ => trivial) fun K' hK' => ?_
  repeat (refine sxf_next fun K2 hK2 => ?_; simp [dNum, dB, dStps, hl]; (repeat (refine ⟨by omega, ?_⟩)); refine hK2 _ ?_; clear hK2 K2)
  refine sxf_nil (hK' _ ?_)
  refine AW.st (by simp [dNum, dB, dStps, hl]; rfl) ?_
  clear hK' K'
  refine AW_cond true rfl (fun _ => ?_) (fun h => by cases h)
  refine AW_rg (tyOf_good _) [2, 3, 4] [] (fun _ _ => trivial) fun K' hK' => ?_
  repeat (refine sxf_next fun K2 hK2 => ?_; simp [dNum, dB]; (repeat (refine ⟨by omega, ?_⟩)); refine hK2 _ ?_; clear hK2 K2)
  refine sxf_nil (hK' _ ?_)
  refine AW.st (by simp [dNum, dB]; rfl) ?_
  clear hK' K'
  refine AW_ret ?_
  simp [D.le, D.le.go, takeMap, dNum, dB]

set_option maxHeartbeats 8000000 in
theorem lformula_spec (G : Glob) (l : List Stp) (hl : ¬ (40 : Int) < l.length) : PureC Tryd.prog G 26 [dStps l] (.tup [dF (formF l), dNum (capS (formF l)), dB (decide (dpF (formF l) ≤ 20))]) := by
  refine PureC.of_body (tyOf_good _) Tryd.func26 rfl rfl (rs := [.tmp 2, .tmp 3, .tmp 4]) Tryd.results26 (by simp [Tryd.ntmps26]) fun X => ?_
  simp only [Tryd.ntmps26, List.map]
  refine AW_rg (tyOf_good _) [0] [] (fun _ _ => trivial) fun K' hK' => ?_
  repeat (refine sxf_next fun K2 hK2 => ?_; simp [dNum, dB]; (repeat (refine ⟨by omega, ?_⟩)); refine hK2 _ ?_; clear hK2 K2)
  refine sxf_nil (hK' _ ?_)
  refine AW.st (by simp [dNum, dB]; rfl) ?_
  clear hK' K'
  refine AW_then fun K1 hK1 => ?_
  refine AW_rg (tyOf_good _) [0, 18] [] (fun _ _ => trivial) fun K' hK' => ?_
  repeat (refine sxf_next fun K2 hK2 => ?_; simp [dNum, dB, dStps, hl]; (repeat (refine ⟨by omega, ?_⟩)); refine hK2 _ ?_; clear hK2 K2)
  refine sxf_nil (hK' _ ?_)
  refine AW.st (by simp [dNum, dB, dStps, hl]; rfl) ?_
  clear hK' K'
  refine AW_cond false rfl (fun h => by cases h) (fun _ => ?_)
  refine AW_skip (hK1 _ ?_)
  refine AW_rg (tyOf_good _) [0, 5] [21] (fun _ _ => trivial) fun K' hK' => ?_
  repeat (refine sxf_next fun K2 hK2 => ?_; simp [dNum, dB]; (repeat (refine ⟨by omega, ?_⟩)); refine hK2 _ ?_; clear hK2 K2)
  refine sxf_nil (hK' _ ?_)
  refine AW.st (by simp [dNum, dB]; rfl) ?_
  clear hK' K'
  refine AW_rg (tyOf_good _) [0, 5, 6, 7] [21, 22, 23] (fun _ _ => trivial) fun K' hK' => ?_
  repeat (refine sxf_next fun K2 hK2 => ?_; simp [dNum, dB]; (repeat (refine ⟨by omega, ?_⟩)); refine hK2 _ ?_; clear hK2 K2)
  refine sxf_nil (hK' _ ?_)
  refine AW.st (by simp [dNum, dB]; rfl) ?_
  clear hK' K'
  refine AW_then fun K2 hK2 => ?_
  refine AW_rg (tyOf_good _) [0, 5, 6, 7, 8] [21, 22, 23] (fun _ _ => trivial) fun K' hK' => ?_
  repeat (refine sxf_next fun K2 hK2 => ?_; simp [dNum, dB]; (repeat (refine ⟨by omega, ?_⟩)); refine hK2 _ ?_; clear hK2 K2)
  refine sxf_nil (hK' _ ?_)
  refine AW.st (by simp [dNum, dB]; rfl) ?_
  clear hK' K'
  refine AW_for (S := Nat) (fun i => i ≤ l.length) (fun i => ⟨lst [(0, .d (dStps l)), (5, .own 21 0 (i + 1)), (6, .own 22 0 (i + 1)), (7, .own 23 0 (i + 1)), (8, int i)], hlst [(21, fRow (madeF l i)), (22, sRow (madeF l i)), (23, pRow (madeF l i))]⟩) (fun i => l.length - i) 0 ?_ (by omega) ?_
  · refine Imp.to' (fun _ _ => trivial) (by simp [dNum, dB, dStps, madeF, allF, dF, dFs, ofK, dS, bs_nil, fRow, sRow, pRow, capS, szF, szL, dpF, dpL]) (by simp [dNum, dB, dStps, madeF, allF, dF, dFs, ofK, dS, bs_nil, fRow, sRow, pRow, capS, szF, szL, dpF, dpL])
  · intro i hi
    have hml := madeF_len l hi
    refine AW_then fun K3 hK3 => ?_
    refine AW_rg (tyOf_good _) [0, 5, 6, 7, 8, 27] [21, 22, 23] (fun _ _ => trivial) fun K' hK' => ?_
    repeat (refine sxf_next fun K2 hK2 => ?_; simp [dNum, dB, dStps, fRow, sRow, pRow]; (repeat (refine ⟨by omega, ?_⟩)); refine hK2 _ ?_; clear hK2 K2)
    refine sxf_nil (hK' _ ?_)
    refine AW.st (by simp [dNum, dB, dStps, fRow, sRow, pRow]; rfl) ?_
    clear hK' K'
    refine AW_cond' (b := i < l.length) (by simp [D.le, D.le.go, takeMap, dNum, dB]) (fun hc => ?_) (fun hc => ?_)
    · have hil : i < l.length := hc
      have hms := madeF_succ hil
      obtain ⟨x, hxe⟩ : ∃ x, l[i] = x := ⟨_, rfl⟩
      rw [hxe] at hms
      have hdp := made_dp l i
      have hmin := preS_min (madeF l i) x
      have hple := preS_le (madeF l i) x
      refine AW_skip (hK3 _ ?_)
      refine AW_then fun K4 hK4 => ?_
      refine AW_block ?_
      refine AW_rg (tyOf_good _) [0, 5, 6, 7, 8, 9] [21, 22, 23, 9] (fun _ _ => trivial) fun K' hK' => ?_
      repeat (refine sxf_next fun K2 hK2 => ?_; simp [dNum, dB, dStps, hil, hxe, dS]; (repeat (refine ⟨by omega, ?_⟩)); refine hK2 _ ?_; clear hK2 K2)
      refine sxf_nil (hK' _ ?_)
      refine AW.st (by simp [dNum, dB, dStps, hil, hxe, dS]; rfl) ?_
      clear hK' K'
      obtain ⟨ja, hja, hea⟩ : ∃ ja, ja < i + 1 ∧ atF x.a (i + 1) = ja := ⟨_, atF_lt _ (by omega), rfl⟩
      obtain ⟨jb, hjb, heb⟩ : ∃ jb, jb < i + 1 ∧ atF x.b (i + 1) = jb := ⟨_, atF_lt _ (by omega), rfl⟩
      have hcalla := at0_spec G x.a (i + 1) (by omega) (by omega)
      have hcallb := at0_spec G x.b (i + 1) (by omega) (by omega)
      rw [hea] at hcalla
      rw [heb] at hcallb
      have hja2 : ja < (madeF l i).length := by omega
      have hjb2 : jb < (madeF l i).length := by omega
      have hsa : (madeF l i).getD (atF x.a (madeF l i).length) .nil = (madeF l i)[ja] := by
        rw [show atF x.a (madeF l i).length = ja by rw [hml]; exact hea]
        simp [List.getD_eq_getElem?_getD, hja2]
      have hsb : (madeF l i).getD (atF x.b (madeF l i).length) .nil = (madeF l i)[jb] := by
        rw [show atF x.b (madeF l i).length = jb by rw [hml]; exact heb]
        simp [List.getD_eq_getElem?_getD, hjb2]
      obtain ⟨ca, hfa⟩ := (madeF_mk l i _ (List.getElem_mem hja2)).ip
      obtain ⟨cb, hfb⟩ := (madeF_mk l i _ (List.getElem_mem hjb2)).ip
      have hda := hdp _ (List.getElem_mem hja2)
      have hdb := hdp _ (List.getElem_mem hjb2)
      have hca : capS (madeF l i)[ja] ≤ 1000000 := Nat.min_le_right _ _
      have hcb : capS (madeF l i)[jb] ≤ 1000000 := Nat.min_le_right _ _
      have hmx : (if dpF (madeF l i)[ja] < dpF (madeF l i)[jb] then ((dpF (madeF l i)[jb] : Nat) : Int) else ((dpF (madeF l i)[ja] : Nat) : Int)) = ((max (dpF (madeF l i)[ja]) (dpF (madeF l i)[jb]) : Nat) : Int) := by split <;> omega
      have hji : (ja : Int) < (i : Int) + 1 := by omega
      have hjj : (jb : Int) < (i : Int) + 1 := by omega
      obtain ⟨k, hk⟩ : ∃ k, x.kind = k := ⟨_, rfl⟩
      rw [hk]
      refine AW_rd (tyOf_good _) (by kernel_rfl) [0, 5, 6, 7, 8, 9, 10, 11] [21, 22, 23, 9] (fun _ _ => trivial) (by kernel_rfl) fun K' hK' => ?_
      repeat (refine sxd_next fun K2 hK2 => ?_; simp [dNum, dB, hml, hja, hjb]; (repeat (refine ⟨by omega, ?_⟩)); refine hK2 _ ?_; clear hK2 K2)
      refine sxd_next fun K2 hK2 => ?_
      simp [dNum, dB, hml, hja, hjb]
      refine callQ.data (hcalla) (by simp; rfl) (by simp; rfl) (by first | exact D.leGo_refl _ | simp [takeMap, List.map_map, Function.comp_def, D.le, D.le.go, D.le_refl, D.leGo_refl, dNum, dB, hml, hja, hjb]) ?_
      refine hK2 _ ?_
      clear hK2 K2
      simp only [putd, upd_lst]
      repeat (refine sxd_next fun K2 hK2 => ?_; simp [dNum, dB, hml, hja, hjb]; (repeat (refine ⟨by omega, ?_⟩)); refine hK2 _ ?_; clear hK2 K2)
      refine sxd_next fun K2 hK2 => ?_
      simp [dNum, dB, hml, hja, hjb]
      refine callQ.data (hcallb) (by simp; rfl) (by simp; rfl) (by first | exact D.leGo_refl _ | simp [takeMap, List.map_map, Function.comp_def, D.le, D.le.go, D.le_refl, D.leGo_refl, dNum, dB, hml, hja, hjb]) ?_
      refine hK2 _ ?_
      clear hK2 K2
      simp only [putd, upd_lst]
      repeat (refine sxd_next fun K2 hK2 => ?_; simp [dNum, dB, hml, hja, hjb]; (repeat (refine ⟨by omega, ?_⟩)); refine hK2 _ ?_; clear hK2 K2)
      refine sxd_nil (hK' _ ?_)
      refine AW.st (by simp [dNum, dB, hml, hja, hjb]; rfl) ?_
      clear hK' K'
      refine AW_rg (tyOf_good _) [0, 5, 6, 7, 8, 9, 10, 11, 12] [21, 22, 23, 9, 47] (fun _ _ => trivial) fun K' hK' => ?_
      repeat (refine sxf_next fun K2 hK2 => ?_; simp [dNum, dB]; (repeat (refine ⟨by omega, ?_⟩)); refine hK2 _ ?_; clear hK2 K2)
      refine sxf_nil (hK' _ ?_)
      refine AW.st (by simp [dNum, dB]; rfl) ?_
      clear hK' K'
      refine AW_rg (tyOf_good _) [0, 5, 6, 7, 8, 9, 10, 11, 12, 13, 14] [21, 22, 23, 9, 47] (fun _ _ => trivial) fun K' hK' => ?_
      repeat (refine sxf_next fun K2 hK2 => ?_; simp [dNum, dB]; (repeat (refine ⟨by omega, ?_⟩)); refine hK2 _ ?_; clear hK2 K2)
      refine sxf_nil (hK' _ ?_)
      refine AW.st (by simp [dNum, dB]; rfl) ?_
      clear hK' K'
      refine AW_then fun K5 hK5 => ?_
      refine AW_block ?_
      refine (fun hcont => ?_) (fun (σ : St) himp => hK5 σ (AW.imp (τ := ⟨lst [(0, .d (dStps l)), (5, .own 21 0 (i + 1)), (6, .own 22 0 (i + 1)), (7, .own 23 0 (i + 1)), (8, int i), (12, .d (dF (stepF (madeF l i) x))), (13, int (preS (madeF l i) x)), (14, int (dpF (stepF (madeF l i) x)))], hlst [(21, fRow (madeF l i)), (22, sRow (madeF l i)), (23, pRow (madeF l i))]⟩) himp ?_))
      · by_cases h2 : k = 2
        · subst h2
          have hst : stepF (madeF l i) x = .mk 2 [] [] := by unfold stepF; rw [if_pos hk]
          have hpr : preS (madeF l i) x = 1 := by unfold preS; rw [if_pos hk]
          refine AW_rg (tyOf_good _) [0, 5, 6, 7, 8, 9, 10, 11, 12, 13, 14, 56] [21, 22, 23, 9, 47] (fun _ _ => trivial) fun K' hK' => ?_
          repeat (refine sxf_next fun K2 hK2 => ?_; simp [dNum, dB]; (repeat (refine ⟨by omega, ?_⟩)); refine hK2 _ ?_; clear hK2 K2)
          refine sxf_nil (hK' _ ?_)
          refine AW.st (by simp [dNum, dB]; rfl) ?_
          clear hK' K'
          refine AW_cond true rfl (fun _ => ?_) (fun h => by cases h)
          refine AW_skip (hcont _ ?_)
          refine (Imp.freezeB 47 trivial).trans ?_
          refine Imp.to' (fun _ _ => trivial) (by simp [dNum, dB, hst, hpr, dF, dFs, ofK, dS, bs_nil, szF, szL, dpF, dpL, fRow, sRow, pRow, capS, dStps, hfa, hfb, hmx]) (by simp [dNum, dB, hst, hpr, dF, dFs, ofK, dS, bs_nil, szF, szL, dpF, dpL, fRow, sRow, pRow, capS, dStps, hfa, hfb, hmx])
        refine AW_rg (tyOf_good _) [0, 5, 6, 7, 8, 9, 10, 11, 12, 13, 14, 56] [21, 22, 23, 9, 47] (fun _ _ => trivial) fun K' hK' => ?_
        repeat (refine sxf_next fun K2 hK2 => ?_; simp [dNum, dB, h2]; (repeat (refine ⟨by omega, ?_⟩)); refine hK2 _ ?_; clear hK2 K2)
        refine sxf_nil (hK' _ ?_)
        refine AW.st (by simp [dNum, dB, h2]; rfl) ?_
        clear hK' K'
        refine AW_cond false rfl (fun h => by cases h) (fun _ => ?_)
        have hk2 : ¬ x.kind = 2 := by rw [hk]; exact h2
        by_cases h1 : k = 3 ∨ k = 6 ∨ k = 9 ∨ k = 10
        · have hk3 : x.kind = 3 ∨ x.kind = 6 ∨ x.kind = 9 ∨ x.kind = 10 := by rw [hk]; exact h1
          have hst : stepF (madeF l i) x = .mk k [] [(madeF l i)[ja]] := by unfold stepF; rw [if_neg hk2, if_pos hk3, hsa, hk]
          have hpr : preS (madeF l i) x = 1 + capS (madeF l i)[ja] := by unfold preS; rw [if_neg hk2, if_pos hk3, hsa]; rfl
          rcases h1 with rfl | rfl | rfl | rfl
          · refine AW_rg (tyOf_good _) [0, 5, 6, 7, 8, 9, 10, 11, 12, 13, 14, 60] [21, 22, 23, 9, 47] (fun _ _ => trivial) fun K' hK' => ?_
            repeat (refine sxf_next fun K2 hK2 => ?_; simp [dNum, dB]; (repeat (refine ⟨by omega, ?_⟩)); refine hK2 _ ?_; clear hK2 K2)
            refine sxf_nil (hK' _ ?_)
            refine AW.st (by simp [dNum, dB]; rfl) ?_
            clear hK' K'
            refine AW_cond true rfl (fun _ => ?_) (fun h => by cases h)
            refine AW_rg (tyOf_good _) [0, 5, 6, 7, 8, 10, 12] [21, 22, 23, 47, 84] (fun _ _ => trivial) fun K' hK' => ?_
            repeat (refine sxf_next fun K2 hK2 => ?_; simp [dNum, dB, fRow, hml, hja, hja2, hji, hfa]; (repeat (refine ⟨by omega, ?_⟩)); refine hK2 _ ?_; clear hK2 K2)
            refine sxf_nil (hK' _ ?_)
            refine AW.st (by simp [dNum, dB, fRow, hml, hja, hja2, hji, hfa]; rfl) ?_
            clear hK' K'
            refine AW_rde (tyOf_good _) (by kernel_rfl) (by kernel_rfl) fun K' hK' => ?_
            repeat (refine sxd_next fun K2 hK2 => ?_; simp [dNum, dB, sRow, pRow, hml, hja, hja2, hji]; (repeat (refine ⟨by omega, ?_⟩)); refine hK2 _ ?_; clear hK2 K2)
            refine sxd_nil (hK' _ ?_)
            clear hK' K'
            try simp only [thn, inb]
            refine hcont _ ?_
            refine (Imp.freeze 84 trivial).trans ((Imp.freezeB 47 trivial).trans ?_)
            refine Imp.to' (fun _ _ => trivial) (by simp [dNum, dB, hst, hpr, dF, dFs, ofK, dS, bs_nil, szF, szL, dpF, dpL, fRow, sRow, pRow, capS, dStps, hfa, hfb, hmx]) (by simp [dNum, dB, hst, hpr, dF, dFs, ofK, dS, bs_nil, szF, szL, dpF, dpL, fRow, sRow, pRow, capS, dStps, hfa, hfb, hmx])
          · refine AW_rg (tyOf_good _) [0, 5, 6, 7, 8, 9, 10, 11, 12, 13, 14, 60] [21, 22, 23, 9, 47] (fun _ _ => trivial) fun K' hK' => ?_
            repeat (refine sxf_next fun K2 hK2 => ?_; simp [dNum, dB]; (repeat (refine ⟨by omega, ?_⟩)); refine hK2 _ ?_; clear hK2 K2)
            refine sxf_nil (hK' _ ?_)
            refine AW.st (by simp [dNum, dB]; rfl) ?_
            clear hK' K'
            refine AW_cond true rfl (fun _ => ?_) (fun h => by cases h)
            refine AW_rg (tyOf_good _) [0, 5, 6, 7, 8, 10, 12] [21, 22, 23, 47, 84] (fun _ _ => trivial) fun K' hK' => ?_
            repeat (refine sxf_next fun K2 hK2 => ?_; simp [dNum, dB, fRow, hml, hja, hja2, hji, hfa]; (repeat (refine ⟨by omega, ?_⟩)); refine hK2 _ ?_; clear hK2 K2)
            refine sxf_nil (hK' _ ?_)
            refine AW.st (by simp [dNum, dB, fRow, hml, hja, hja2, hji, hfa]; rfl) ?_
            clear hK' K'
            refine AW_rde (tyOf_good _) (by kernel_rfl) (by kernel_rfl) fun K' hK' => ?_
            repeat (refine sxd_next fun K2 hK2 => ?_; simp [dNum, dB, sRow, pRow, hml, hja, hja2, hji]; (repeat (refine ⟨by omega, ?_⟩)); refine hK2 _ ?_; clear hK2 K2)
            refine sxd_nil (hK' _ ?_)
            clear hK' K'
            try simp only [thn, inb]
            refine hcont _ ?_
            refine (Imp.freeze 84 trivial).trans ((Imp.freezeB 47 trivial).trans ?_)
            refine Imp.to' (fun _ _ => trivial) (by simp [dNum, dB, hst, hpr, dF, dFs, ofK, dS, bs_nil, szF, szL, dpF, dpL, fRow, sRow, pRow, capS, dStps, hfa, hfb, hmx]) (by simp [dNum, dB, hst, hpr, dF, dFs, ofK, dS, bs_nil, szF, szL, dpF, dpL, fRow, sRow, pRow, capS, dStps, hfa, hfb, hmx])
          · refine AW_rg (tyOf_good _) [0, 5, 6, 7, 8, 9, 10, 11, 12, 13, 14, 60] [21, 22, 23, 9, 47] (fun _ _ => trivial) fun K' hK' => ?_
            repeat (refine sxf_next fun K2 hK2 => ?_; simp [dNum, dB]; (repeat (refine ⟨by omega, ?_⟩)); refine hK2 _ ?_; clear hK2 K2)
            refine sxf_nil (hK' _ ?_)
            refine AW.st (by simp [dNum, dB]; rfl) ?_
            clear hK' K'
            refine AW_cond true rfl (fun _ => ?_) (fun h => by cases h)
            refine AW_rg (tyOf_good _) [0, 5, 6, 7, 8, 10, 12] [21, 22, 23, 47, 84] (fun _ _ => trivial) fun K' hK' => ?_
            repeat (refine sxf_next fun K2 hK2 => ?_; simp [dNum, dB, fRow, hml, hja, hja2, hji, hfa]; (repeat (refine ⟨by omega, ?_⟩)); refine hK2 _ ?_; clear hK2 K2)
            refine sxf_nil (hK' _ ?_)
            refine AW.st (by simp [dNum, dB, fRow, hml, hja, hja2, hji, hfa]; rfl) ?_
            clear hK' K'
            refine AW_rde (tyOf_good _) (by kernel_rfl) (by kernel_rfl) fun K' hK' => ?_
            repeat (refine sxd_next fun K2 hK2 => ?_; simp [dNum, dB, sRow, pRow, hml, hja, hja2, hji]; (repeat (refine ⟨by omega, ?_⟩)); refine hK2 _ ?_; clear hK2 K2)
            refine sxd_nil (hK' _ ?_)
            clear hK' K'
            try simp only [thn, inb]
            refine hcont _ ?_
            refine (Imp.freeze 84 trivial).trans ((Imp.freezeB 47 trivial).trans ?_)
            refine Imp.to' (fun _ _ => trivial) (by simp [dNum, dB, hst, hpr, dF, dFs, ofK, dS, bs_nil, szF, szL, dpF, dpL, fRow, sRow, pRow, capS, dStps, hfa, hfb, hmx]) (by simp [dNum, dB, hst, hpr, dF, dFs, ofK, dS, bs_nil, szF, szL, dpF, dpL, fRow, sRow, pRow, capS, dStps, hfa, hfb, hmx])
          · refine AW_rg (tyOf_good _) [0, 5, 6, 7, 8, 9, 10, 11, 12, 13, 14, 60] [21, 22, 23, 9, 47] (fun _ _ => trivial) fun K' hK' => ?_
            repeat (refine sxf_next fun K2 hK2 => ?_; simp [dNum, dB]; (repeat (refine ⟨by omega, ?_⟩)); refine hK2 _ ?_; clear hK2 K2)
            refine sxf_nil (hK' _ ?_)
            refine AW.st (by simp [dNum, dB]; rfl) ?_
            clear hK' K'
            refine AW_cond true rfl (fun _ => ?_) (fun h => by cases h)
            refine AW_rg (tyOf_good _) [0, 5, 6, 7, 8, 10, 12] [21, 22, 23, 47, 84] (fun _ _ => trivial) fun K' hK' => ?_
            repeat (refine sxf_next fun K2 hK2 => ?_; simp [dNum, dB, fRow, hml, hja, hja2, hji, hfa]; (repeat (refine ⟨by omega, ?_⟩)); refine hK2 _ ?_; clear hK2 K2)
            refine sxf_nil (hK' _ ?_)
            refine AW.st (by simp [dNum, dB, fRow, hml, hja, hja2, hji, hfa]; rfl) ?_
            clear hK' K'
            refine AW_rde (tyOf_good _) (by kernel_rfl) (by kernel_rfl) fun K' hK' => ?_
            repeat (refine sxd_next fun K2 hK2 => ?_; simp [dNum, dB, sRow, pRow, hml, hja, hja2, hji]; (repeat (refine ⟨by omega, ?_⟩)); refine hK2 _ ?_; clear hK2 K2)
            refine sxd_nil (hK' _ ?_)
            clear hK' K'
            try simp only [thn, inb]
            refine hcont _ ?_
            refine (Imp.freeze 84 trivial).trans ((Imp.freezeB 47 trivial).trans ?_)
            refine Imp.to' (fun _ _ => trivial) (by simp [dNum, dB, hst, hpr, dF, dFs, ofK, dS, bs_nil, szF, szL, dpF, dpL, fRow, sRow, pRow, capS, dStps, hfa, hfb, hmx]) (by simp [dNum, dB, hst, hpr, dF, dFs, ofK, dS, bs_nil, szF, szL, dpF, dpL, fRow, sRow, pRow, capS, dStps, hfa, hfb, hmx])
        have hn3 : ¬ k = 3 := fun h => h1 (.inl h)
        have hn6 : ¬ k = 6 := fun h => h1 (.inr (.inl h))
        have hn9 : ¬ k = 9 := fun h => h1 (.inr (.inr (.inl h)))
        have hn10 : ¬ k = 10 := fun h => h1 (.inr (.inr (.inr h)))
        have hk3 : ¬ (x.kind = 3 ∨ x.kind = 6 ∨ x.kind = 9 ∨ x.kind = 10) := by rw [hk]; exact h1
        refine AW_rg (tyOf_good _) [0, 5, 6, 7, 8, 9, 10, 11, 12, 13, 14, 60] [21, 22, 23, 9, 47] (fun _ _ => trivial) fun K' hK' => ?_
        repeat (refine sxf_next fun K2 hK2 => ?_; simp [dNum, dB, hn3, hn6, hn9, hn10]; (repeat (refine ⟨by omega, ?_⟩)); refine hK2 _ ?_; clear hK2 K2)
        refine sxf_nil (hK' _ ?_)
        refine AW.st (by simp [dNum, dB, hn3, hn6, hn9, hn10]; rfl) ?_
        clear hK' K'
        refine AW_cond false rfl (fun h => by cases h) (fun _ => ?_)
        by_cases h4 : k = 4 ∨ k = 5 ∨ k = 7 ∨ k = 8
        · have hk4 : x.kind = 4 ∨ x.kind = 5 ∨ x.kind = 7 ∨ x.kind = 8 := by rw [hk]; exact h4
          have hst : stepF (madeF l i) x = .mk k [] [(madeF l i)[ja], (madeF l i)[jb]] := by unfold stepF; rw [if_neg hk2, if_neg hk3, if_pos hk4, hsa, hsb, hk]
          have hpr : preS (madeF l i) x = 1 + capS (madeF l i)[ja] + capS (madeF l i)[jb] := by unfold preS; rw [if_neg hk2, if_neg hk3, if_pos hk4, hsa, hsb]; rfl
          rcases h4 with rfl | rfl | rfl | rfl
          · refine AW_rg (tyOf_good _) [0, 5, 6, 7, 8, 9, 10, 11, 12, 13, 14, 97] [21, 22, 23, 9, 47] (fun _ _ => trivial) fun K' hK' => ?_
            repeat (refine sxf_next fun K2 hK2 => ?_; simp [dNum, dB]; (repeat (refine ⟨by omega, ?_⟩)); refine hK2 _ ?_; clear hK2 K2)
            refine sxf_nil (hK' _ ?_)
            refine AW.st (by simp [dNum, dB]; rfl) ?_
            clear hK' K'
            refine AW_cond true rfl (fun _ => ?_) (fun h => by cases h)
            refine AW_rdg (tyOf_good _) (by kernel_rfl) [(4, 21), (8, 21), (12, 47)] [0, 5, 6, 7, 8, 10, 11, 12] [21, 22, 23, 47, 125] (fun _ _ => trivial) (by kernel_rfl) fun K' hK' => ?_
            repeat (refine sxg_next fun K2 hK2 => ?_; simp [dNum, dB, fRow, hml, hja, hja2, hji, hjb, hjb2, hjj, hfa, hfb]; (repeat (refine ⟨by omega, ?_⟩)); refine hK2 _ ?_; clear hK2 K2)
            refine sxg_nil (hK' _ ?_)
            refine AW.st (by simp [dNum, dB, fRow, hml, hja, hja2, hji, hjb, hjb2, hjj, hfa, hfb]; rfl) ?_
            clear hK' K'
            refine AW_rde (tyOf_good _) (by kernel_rfl) (by kernel_rfl) fun K' hK' => ?_
            repeat (refine sxd_next fun K2 hK2 => ?_; simp [dNum, dB, sRow, pRow, hml, hja, hja2, hji, hjb, hjb2, hjj]; (repeat (refine ⟨by omega, ?_⟩)); refine hK2 _ ?_; clear hK2 K2)
            refine sxd_nil (hK' _ ?_)
            clear hK' K'
            try simp only [thn, inb]
            refine hcont _ ?_
            refine (Imp.freeze 125 trivial).trans ((Imp.freezeB 47 trivial).trans ?_)
            refine Imp.to' (fun _ _ => trivial) (by simp [dNum, dB, hst, hpr, dF, dFs, ofK, dS, bs_nil, szF, szL, dpF, dpL, fRow, sRow, pRow, capS, dStps, hfa, hfb, hmx]) (by simp [dNum, dB, hst, hpr, dF, dFs, ofK, dS, bs_nil, szF, szL, dpF, dpL, fRow, sRow, pRow, capS, dStps, hfa, hfb, hmx])
          · refine AW_rg (tyOf_good _) [0, 5, 6, 7, 8, 9, 10, 11, 12, 13, 14, 97] [21, 22, 23, 9, 47] (fun _ _ => trivial) fun K' hK' => ?_
            repeat (refine sxf_next fun K2 hK2 => ?_; simp [dNum, dB]; (repeat (refine ⟨by omega, ?_⟩)); refine hK2 _ ?_; clear hK2 K2)
            refine sxf_nil (hK' _ ?_)
            refine AW.st (by simp [dNum, dB]; rfl) ?_
            clear hK' K'
            refine AW_cond true rfl (fun _ => ?_) (fun h => by cases h)
            refine AW_rdg (tyOf_good _) (by kernel_rfl) [(4, 21), (8, 21), (12, 47)] [0, 5, 6, 7, 8, 10, 11, 12] [21, 22, 23, 47, 125] (fun _ _ => trivial) (by kernel_rfl) fun K' hK' => ?_
            repeat (refine sxg_next fun K2 hK2 => ?_; simp [dNum, dB, fRow, hml, hja, hja2, hji, hjb, hjb2, hjj, hfa, hfb]; (repeat (refine ⟨by omega, ?_⟩)); refine hK2 _ ?_; clear hK2 K2)
            refine sxg_nil (hK' _ ?_)
            refine AW.st (by simp [dNum, dB, fRow, hml, hja, hja2, hji, hjb, hjb2, hjj, hfa, hfb]; rfl) ?_
            clear hK' K'
            refine AW_rde (tyOf_good _) (by kernel_rfl) (by kernel_rfl) fun K' hK' => ?_
            repeat (refine sxd_next fun K2 hK2 => ?_; simp [dNum, dB, sRow, pRow, hml, hja, hja2, hji, hjb, hjb2, hjj]; (repeat (refine ⟨by omega, ?_⟩)); refine hK2 _ ?_; clear hK2 K2)
            refine sxd_nil (hK' _ ?_)
            clear hK' K'
            try simp only [thn, inb]
            refine hcont _ ?_
            refine (Imp.freeze 125 trivial).trans ((Imp.freezeB 47 trivial).trans ?_)
            refine Imp.to' (fun _ _ => trivial) (by simp [dNum, dB, hst, hpr, dF, dFs, ofK, dS, bs_nil, szF, szL, dpF, dpL, fRow, sRow, pRow, capS, dStps, hfa, hfb, hmx]) (by simp [dNum, dB, hst, hpr, dF, dFs, ofK, dS, bs_nil, szF, szL, dpF, dpL, fRow, sRow, pRow, capS, dStps, hfa, hfb, hmx])
          · refine AW_rg (tyOf_good _) [0, 5, 6, 7, 8, 9, 10, 11, 12, 13, 14, 97] [21, 22, 23, 9, 47] (fun _ _ => trivial) fun K' hK' => ?_
            repeat (refine sxf_next fun K2 hK2 => ?_; simp [dNum, dB]; (repeat (refine ⟨by omega, ?_⟩)); refine hK2 _ ?_; clear hK2 K2)
            refine sxf_nil (hK' _ ?_)
            refine AW.st (by simp [dNum, dB]; rfl) ?_
            clear hK' K'
            refine AW_cond true rfl (fun _ => ?_) (fun h => by cases h)
            refine AW_rdg (tyOf_good _) (by kernel_rfl) [(4, 21), (8, 21), (12, 47)] [0, 5, 6, 7, 8, 10, 11, 12] [21, 22, 23, 47, 125] (fun _ _ => trivial) (by kernel_rfl) fun K' hK' => ?_
            repeat (refine sxg_next fun K2 hK2 => ?_; simp [dNum, dB, fRow, hml, hja, hja2, hji, hjb, hjb2, hjj, hfa, hfb]; (repeat (refine ⟨by omega, ?_⟩)); refine hK2 _ ?_; clear hK2 K2)
            refine sxg_nil (hK' _ ?_)
            refine AW.st (by simp [dNum, dB, fRow, hml, hja, hja2, hji, hjb, hjb2, hjj, hfa, hfb]; rfl) ?_
            clear hK' K'
            refine AW_rde (tyOf_good _) (by kernel_rfl) (by kernel_rfl) fun K' hK' => ?_
            repeat (refine sxd_next fun K2 hK2 => ?_; simp [dNum, dB, sRow, pRow, hml, hja, hja2, hji, hjb, hjb2, hjj]; (repeat (refine ⟨by omega, ?_⟩)); refine hK2 _ ?_; clear hK2 K2)
            refine sxd_nil (hK' _ ?_)
            clear hK' K'
            try simp only [thn, inb]
            refine hcont _ ?_
            refine (Imp.freeze 125 trivial).trans ((Imp.freezeB 47 trivial).trans ?_)
            refine Imp.to' (fun _ _ => trivial) (by simp [dNum, dB, hst, hpr, dF, dFs, ofK, dS, bs_nil, szF, szL, dpF, dpL, fRow, sRow, pRow, capS, dStps, hfa, hfb, hmx]) (by simp [dNum, dB, hst, hpr, dF, dFs, ofK, dS, bs_nil, szF, szL, dpF, dpL, fRow, sRow, pRow, capS, dStps, hfa, hfb, hmx])
          · refine AW_rg (tyOf_good _) [0, 5, 6, 7, 8, 9, 10, 11, 12, 13, 14, 97] [21, 22, 23, 9, 47] (fun _ _ => trivial) fun K' hK' => ?_
            repeat (refine sxf_next fun K2 hK2 => ?_; simp [dNum, dB]; (repeat (refine ⟨by omega, ?_⟩)); refine hK2 _ ?_; clear hK2 K2)
            refine sxf_nil (hK' _ ?_)
            refine AW.st (by simp [dNum, dB]; rfl) ?_
            clear hK' K'
            refine AW_cond true rfl (fun _ => ?_) (fun h => by cases h)
            refine AW_rdg (tyOf_good _) (by kernel_rfl) [(4, 21), (8, 21), (12, 47)] [0, 5, 6, 7, 8, 10, 11, 12] [21, 22, 23, 47, 125] (fun _ _ => trivial) (by kernel_rfl) fun K' hK' => ?_
            repeat (refine sxg_next fun K2 hK2 => ?_; simp [dNum, dB, fRow, hml, hja, hja2, hji, hjb, hjb2, hjj, hfa, hfb]; (repeat (refine ⟨by omega, ?_⟩)); refine hK2 _ ?_; clear hK2 K2)
            refine sxg_nil (hK' _ ?_)
            refine AW.st (by simp [dNum, dB, fRow, hml, hja, hja2, hji, hjb, hjb2, hjj, hfa, hfb]; rfl) ?_
            clear hK' K'
            refine AW_rde (tyOf_good _) (by kernel_rfl) (by kernel_rfl) fun K' hK' => ?_
            repeat (refine sxd_next fun K2 hK2 => ?_; simp [dNum, dB, sRow, pRow, hml, hja, hja2, hji, hjb, hjb2, hjj]; (repeat (refine ⟨by omega, ?_⟩)); refine hK2 _ ?_; clear hK2 K2)
            refine sxd_nil (hK' _ ?_)
            clear hK' K'
            try simp only [thn, inb]
            refine hcont _ ?_
            refine (Imp.freeze 125 trivial).trans ((Imp.freezeB 47 trivial).trans ?_)
            refine Imp.to' (fun _ _ => trivial) (by simp [dNum, dB, hst, hpr, dF, dFs, ofK, dS, bs_nil, szF, szL, dpF, dpL, fRow, sRow, pRow, capS, dStps, hfa, hfb, hmx]) (by simp [dNum, dB, hst, hpr, dF, dFs, ofK, dS, bs_nil, szF, szL, dpF, dpL, fRow, sRow, pRow, capS, dStps, hfa, hfb, hmx])
        have hn4 : ¬ k = 4 := fun h => h4 (.inl h)
        have hn5 : ¬ k = 5 := fun h => h4 (.inr (.inl h))
        have hn7 : ¬ k = 7 := fun h => h4 (.inr (.inr (.inl h)))
        have hn8 : ¬ k = 8 := fun h => h4 (.inr (.inr (.inr h)))
        have hk4 : ¬ (x.kind = 4 ∨ x.kind = 5 ∨ x.kind = 7 ∨ x.kind = 8) := by rw [hk]; exact h4
        have hst : stepF (madeF l i) x = .mk 1 x.name [] := by unfold stepF; rw [if_neg hk2, if_neg hk3, if_neg hk4]
        have hpr : preS (madeF l i) x = 1 := by unfold preS; rw [if_neg hk2, if_neg hk3, if_neg hk4]
        refine AW_rg (tyOf_good _) [0, 5, 6, 7, 8, 9, 10, 11, 12, 13, 14, 97] [21, 22, 23, 9, 47] (fun _ _ => trivial) fun K' hK' => ?_
        repeat (refine sxf_next fun K2 hK2 => ?_; simp [dNum, dB, hn4, hn5, hn7, hn8]; (repeat (refine ⟨by omega, ?_⟩)); refine hK2 _ ?_; clear hK2 K2)
        refine sxf_nil (hK' _ ?_)
        refine AW.st (by simp [dNum, dB, hn4, hn5, hn7, hn8]; rfl) ?_
        clear hK' K'
        refine AW_cond false rfl (fun h => by cases h) (fun _ => ?_)
        refine AW_rdge (tyOf_good _) (by kernel_rfl) [(3, 9), (6, 47), (9, 47)] (by kernel_rfl) fun K' hK' => ?_
        repeat (refine sxg_next fun K2 hK2 => ?_; simp [dNum, dB, dS]; (repeat (refine ⟨by omega, ?_⟩)); refine hK2 _ ?_; clear hK2 K2)
        refine sxg_nil (hK' _ ?_)
        clear hK' K'
        try simp only [thn, inb]
        refine hcont _ ?_
        refine (Imp.freezeB 47 trivial).trans ?_
        refine Imp.to' (fun _ _ => trivial) (by simp [dNum, dB, hst, hpr, dF, dFs, ofK, dS, bs_nil, szF, szL, dpF, dpL, fRow, sRow, pRow, capS, dStps, hfa, hfb, hmx]) (by simp [dNum, dB, hst, hpr, dF, dFs, ofK, dS, bs_nil, szF, szL, dpF, dpL, fRow, sRow, pRow, capS, dStps, hfa, hfb, hmx])
      · obtain ⟨cs, hcs⟩ := (stepF_mk (madeF l i) x).ip
        have htk : ∀ g : Fm → List D, List.take (i + 1) (List.map g (madeF l i)) = List.map g (madeF l i) := fun g => List.take_of_length_le (by simp [hml])
        have hmn : (if (1000000 : Int) < (preS (madeF l i) x : Nat) then (1000000 : Int) else ((preS (madeF l i) x : Nat) : Int)) = ((min (szF (stepF (madeF l i) x)) 1000000 : Nat) : Int) := by split <;> omega
        refine AW_re (tyOf_good _) fun K' hK' => ?_
        repeat (refine sxf_next fun K2 hK2 => ?_; simp [dNum, dB, fRow, sRow, pRow, hcs]; (repeat (refine ⟨by omega, ?_⟩)); refine hK2 _ ?_; clear hK2 K2)
        refine sxf_nil (hK' _ ?_)
        clear hK' K'
        refine hK4 _ (AW.norm [0, 5, 6, 7, 8] [21, 22, 23] (fun _ _ => trivial) (AW.st (by simp [dNum, dB, fRow, sRow, pRow, hcs]; rfl) ?_))
        refine AW_re (tyOf_good _) fun K' hK' => ?_
        repeat (refine sxf_next fun K2 hK2 => ?_; simp [dNum, dB]; (repeat (refine ⟨by omega, ?_⟩)); refine hK2 _ ?_; clear hK2 K2)
        refine sxf_nil (hK' _ ?_)
        clear hK' K'
        try simp only [thn, inb]
        refine Again.mk (i + 1) (by omega) (by omega) ?_
        refine Imp.to' (fun _ _ => trivial) (by simp [dNum, dB, dStps, hms, fRow, sRow, pRow, capS, hcs, htk, hmn]) (by simp [dNum, dB, dStps, hms, fRow, sRow, pRow, capS, hcs, htk, hmn])
    · obtain rfl : i = l.length := by omega
      refine AW_exit (hK2 _ ?_)
      refine AW_rg (tyOf_good _) [5, 6, 7, 15] [21, 22, 23] (fun _ _ => trivial) fun K' hK' => ?_
      repeat (refine sxf_next fun K2 hK2 => ?_; simp [dNum, dB, fRow, sRow, pRow]; (repeat (refine ⟨by omega, ?_⟩)); refine hK2 _ ?_; clear hK2 K2)
      refine sxf_nil (hK' _ ?_)
      refine AW.st (by simp [dNum, dB, fRow, sRow, pRow]; rfl) ?_
      clear hK' K'
      have hlt : l.length < (madeF l l.length).length := by omega
      have hfe : (madeF l l.length)[l.length] = formF l := by unfold formF; simp [hlt]
      refine AW_rd (tyOf_good _) (by kernel_rfl) [2, 3, 4] [21, 22, 23] (fun _ _ => trivial) (by kernel_rfl) fun K' hK' => ?_
      repeat (refine sxd_next fun K2 hK2 => ?_; simp [dNum, dB, fRow, sRow, pRow, hlt, hfe]; (repeat (refine ⟨by omega, ?_⟩)); refine hK2 _ ?_; clear hK2 K2)
      refine sxd_nil (hK' _ ?_)
      refine AW.st (by simp [dNum, dB, fRow, sRow, pRow, hlt, hfe]; rfl) ?_
      clear hK' K'
      refine AW_ret ?_
      simp [D.le, D.le.go, takeMap, dNum, dB]
      exact ⟨D.le_refl _, by omega⟩
#print axioms lformula_spec
end Go.Proofs.YtblafkekblaibaaDoor

/-
  Plain facts of looking on for two rounds.
-/
namespace Go.Proofs.YtblafkekblaibaaDoor
set_option linter.unusedSimpArgs false
set_option linter.unusedVariables false

/-- Where a time lies in a word. -/
def foldF (n R i : Nat) : Nat := if i < n + R then i else n + (i - n) % R
theorem foldF_lt {n R : Nat} (hR : 0 < R) (i : Nat) : foldF n R i < n + R := by
  unfold foldF
  split
  · assumption
  · have := Nat.mod_lt (i - n) hR
    omega
theorem foldF_id {n R i : Nat} (h : i < n + R) : foldF n R i = i := by unfold foldF; rw [if_pos h]
theorem foldF_mod {n R i : Nat} (h : n ≤ i) (hR : 0 < R) : foldF n R i = n + (i - n) % R := by
  unfold foldF
  split
  · rw [Nat.mod_eq_of_lt (by omega)]; omega
  · rfl
theorem succ_mod {x R : Nat} (hR : 0 < R) : (x + 1) % R = if x % R + 1 = R then 0 else x % R + 1 := by
  have h1 := Nat.mod_lt x hR
  have h2 : (x + 1) % R = (x % R + 1) % R := by rw [Nat.add_mod, Nat.add_mod (x % R)]; simp
  rw [h2]
  split
  · rename_i h; rw [h, Nat.mod_self]
  · rw [Nat.mod_eq_of_lt (by omega)]
theorem foldF_succ {n R : Nat} (hR : 0 < R) (k : Nat) : foldF n R (k + 1) = nxF n (n + R) (foldF n R k) := by
  rcases Nat.lt_or_ge k n with h | h
  · rw [foldF_id (by omega), foldF_id (by omega)]
    unfold nxF
    rw [if_neg (by omega)]
  · rw [foldF_mod (by omega) hR, foldF_mod h hR, show k + 1 - n = (k - n) + 1 by omega, succ_mod hR]
    have := Nat.mod_lt (k - n) hR
    unfold nxF
    by_cases e : (k - n) % R + 1 = R
    · rw [if_pos e, if_pos (by omega)]; rfl
    · rw [if_neg e, if_neg (by omega)]; omega

theorem scan_round {now : Nat → Bool → Bool} (hm : MonoN now) {st : Bool} {n R : Nat} (hR : 0 < R) {i m m' : Nat} (h1 : n ≤ i) (h2 : i < n + R) (hm1 : R ≤ m) (hm2 : R ≤ m') : iterN now (nxF n (n + R)) st m i = iterN now (nxF n (n + R)) st m' i := by
  have hmm : MonoN fun j b => now (n + j) b := fun j h => hm _ h
  have hx : ∀ j, j < R → nxF n (n + R) (n + j) - n < R := fun j hj => by
    have := nxF_lt (show n < n + R by omega) (show n + j < n + R by omega)
    unfold nxF at this ⊢
    split <;> omega
  have h3 : ∀ j, j < R → n + (nxF n (n + R) (n + j) - n) = nxF n (n + R) (n + j) := fun j hj => by
    unfold nxF
    split <;> omega
  have key : ∀ k, iterN (fun j b => now (n + j) b) (fun j => nxF n (n + R) (n + j) - n) st k (i - n) = iterN now (nxF n (n + R)) st k i := fun k => by
    have h := iterN_sim (now := now) (now' := fun j b => now (n + j) b) (nx := nxF n (n + R)) (nx' := fun j => nxF n (n + R) (n + j) - n) (st := st) (φ := fun j => n + j) hx h3 (fun j b _ => rfl) k (i - n) (by omega)
    rw [h]
    show iterN now _ st k (n + (i - n)) = _
    rw [show n + (i - n) = i by omega]
  rw [← key, ← key, iterN_all hmm hx hm1 (by omega), iterN_all hmm hx hm2 (by omega)]
theorem scan_ahead {now : Nat → Bool → Bool} (hm : MonoN now) {st : Bool} {n R : Nat} (hR : 0 < R) {m m' : Nat} (hm1 : R ≤ m) (hm2 : R ≤ m') : ∀ d i, i + d = n → iterN now (nxF n (n + R)) st (d + m) i = iterN now (nxF n (n + R)) st (d + m') i
  | 0, i, h => by
    rw [Nat.zero_add, Nat.zero_add]
    exact scan_round hm hR (by omega) (by omega) hm1 hm2
  | d + 1, i, h => by
    have e : nxF n (n + R) i = i + 1 := by unfold nxF; rw [if_neg (by omega)]
    rw [show d + 1 + m = (d + m) + 1 by omega, show d + 1 + m' = (d + m') + 1 by omega]
    simp only [iterN]
    rw [e, scan_ahead hm hR hm1 hm2 d (i + 1) (by omega)]
/-- To look on for two rounds is enough. -/
theorem scan_two {now : Nat → Bool → Bool} (hm : MonoN now) {st : Bool} {n R i : Nat} (hR : 0 < R) (hi : i < n + R) : iterN now (nxF n (n + R)) st (max i n + 2 * R - i) i = iterN now (nxF n (n + R)) st (n + R) i := by
  rcases Nat.lt_or_ge i n with h | h
  · have := scan_ahead hm hR (st := st) (n := n) (m := 2 * R) (m' := R + i) (by omega) (by omega) (n - i) i (by omega)
    rw [show max i n + 2 * R - i = (n - i) + 2 * R by omega, this]
    congr 1
    omega
  · exact scan_round hm hR h hi (by omega) (by omega)
/-- One more that is looked at. -/
theorem scan_step (now : Nat → Bool → Bool) (st : Bool) {n R : Nat} (hR : 0 < R) {k e : Nat} (h : k < e) : iterN now (nxF n (n + R)) st (e - k) (foldF n R k) = now (foldF n R k) (iterN now (nxF n (n + R)) st (e - (k + 1)) (foldF n R (k + 1))) := by
  rw [show e - k = (e - (k + 1)) + 1 by omega, foldF_succ hR]
  rfl
end Go.Proofs.YtblafkekblaibaaDoor

/-
  LassoHolds, the document's side: names of formulas, places, words.
-/
namespace Go.Proofs.YtblafkekblaibaaDoor
set_option linter.unusedSimpArgs false
set_option linter.unusedVariables false
open Go.Av

theorem ofK_ne {α : Type} (l : List α) : D.le (.sl (ofK l) ([] : List (List D))) (.sl none []) := ⟨.inl rfl, rfl⟩

set_option maxHeartbeats 4000000 in
theorem named_spec (G : Glob) : ∀ (n : Nat) (f : Fm), dpF f ≤ n → WfF f → namesOk f → PureC Tryd.prog G 27 [dF f] (dB (nmF f)) := by
  intro n
  induction n with
  | zero =>
    intro f h hw
    cases f with
    | nil => exact hw.elim
    | mk k s l => simp only [dpF] at h; omega
  | succ n ih =>
    intro f hd hw hnm
    cases f with
    | nil => exact hw.elim
    | mk k s l =>
      have hch : ∀ g ∈ l, PureC Tryd.prog G 27 [dF g] (dB (nmF g)) := fun g hg => ih g (by have := dpL_mem hg; simp only [dpF] at hd; omega) (WfL_mem hw.2 g hg) (namesOkL_mem hnm.2 g hg)
      clear ih
      have hlen : l.length ≤ 2 := by
        have h1 := hw.1
        have := arity_two h1.1 h1.2.1
        omega
      have hname := ncheck_spec G s hnm.1
      rw [← name_same] at hname
      refine PureC.of_body (tyOf_good _) Tryd.func27 rfl rfl (rs := [.tmp 2]) Tryd.results27 (by simp [Tryd.ntmps27]) fun X => ?_
      simp only [Tryd.ntmps27, List.map]
      refine AW_rg (tyOf_good _) [0] [] (fun _ _ => trivial) fun K' hK' => ?_
      repeat (refine sxf_next fun K2 hK2 => ?_; simp [dNum, dB, dF, dFs_map]; (repeat (refine ⟨by omega, ?_⟩)); refine hK2 _ ?_; clear hK2 K2)
      refine sxf_nil (hK' _ ?_)
      refine AW.st (by simp [dNum, dB, dF, dFs_map]; rfl) ?_
      clear hK' K'
      refine AW_then fun K1 hK1 => ?_
      refine (fun hcont => ?_) (fun (σ : St) (hh : nmF (.mk k s l) = nmL l) himp => hK1 σ (AW.imp (τ := ⟨lst [(0, .d (.ip [dNum k, dS s, .sl (ofK l) (l.map fun f => [dF f])]))], hlst []⟩) himp ?_))
      · by_cases hk : k = 1
        · subst hk
          cases hn : nameF s with
          | false =>
            rw [hn] at hname
            refine AW_rg (tyOf_good _) [0, 16] [] (fun _ _ => trivial) fun K' hK' => ?_
            repeat (refine sxf_next fun K2 hK2 => ?_; simp [dNum, dB]; (repeat (refine ⟨by omega, ?_⟩)); refine hK2 _ ?_; clear hK2 K2)
            refine sxf_next fun K2 hK2 => ?_
            simp [dNum, dB]
            refine callK.data (hname) (by simp; rfl) (by first | exact D.leGo_refl _ | simp [takeMap, List.map_map, Function.comp_def, D.le, D.le.go, D.le_refl, D.leGo_refl, dNum, dB]) ?_
            refine hK2 _ ?_
            clear hK2 K2
            simp only [putd, upd_lst]
            repeat (refine sxf_next fun K2 hK2 => ?_; simp [dNum, dB]; (repeat (refine ⟨by omega, ?_⟩)); refine hK2 _ ?_; clear hK2 K2)
            refine sxf_nil (hK' _ ?_)
            refine AW.st (by simp [dNum, dB]; rfl) ?_
            clear hK' K'
            refine AW_cond true rfl (fun _ => ?_) (fun h => by cases h)
            refine AW_rg (tyOf_good _) [2] [] (fun _ _ => trivial) fun K' hK' => ?_
            repeat (refine sxf_next fun K2 hK2 => ?_; simp [dNum, dB]; (repeat (refine ⟨by omega, ?_⟩)); refine hK2 _ ?_; clear hK2 K2)
            refine sxf_nil (hK' _ ?_)
            refine AW.st (by simp [dNum, dB]; rfl) ?_
            clear hK' K'
            refine AW_ret ?_
            simp [D.le, D.le.go, takeMap, dNum, dB, nmF, hn]
          | true =>
            rw [hn] at hname
            refine AW_rg (tyOf_good _) [0, 16] [] (fun _ _ => trivial) fun K' hK' => ?_
            repeat (refine sxf_next fun K2 hK2 => ?_; simp [dNum, dB]; (repeat (refine ⟨by omega, ?_⟩)); refine hK2 _ ?_; clear hK2 K2)
            refine sxf_next fun K2 hK2 => ?_
            simp [dNum, dB]
            refine callK.data (hname) (by simp; rfl) (by first | exact D.leGo_refl _ | simp [takeMap, List.map_map, Function.comp_def, D.le, D.le.go, D.le_refl, D.leGo_refl, dNum, dB]) ?_
            refine hK2 _ ?_
            clear hK2 K2
            simp only [putd, upd_lst]
            repeat (refine sxf_next fun K2 hK2 => ?_; simp [dNum, dB]; (repeat (refine ⟨by omega, ?_⟩)); refine hK2 _ ?_; clear hK2 K2)
            refine sxf_nil (hK' _ ?_)
            refine AW.st (by simp [dNum, dB]; rfl) ?_
            clear hK' K'
            refine AW_cond false rfl (fun h => by cases h) (fun _ => ?_)
            refine AW_skip (hcont _ (by simp [nmF, hn]) ?_)
            refine Imp.to' (fun _ _ => trivial) (by simp [dNum, dB]) (by simp [dNum, dB])
        · refine AW_rg (tyOf_good _) [0, 16] [] (fun _ _ => trivial) fun K' hK' => ?_
          repeat (refine sxf_next fun K2 hK2 => ?_; simp [dNum, dB, hk]; (repeat (refine ⟨by omega, ?_⟩)); refine hK2 _ ?_; clear hK2 K2)
          refine sxf_nil (hK' _ ?_)
          refine AW.st (by simp [dNum, dB, hk]; rfl) ?_
          clear hK' K'
          refine AW_cond false rfl (fun h => by cases h) (fun _ => ?_)
          refine AW_skip (hcont _ (by simp [nmF, hk]) ?_)
          refine Imp.to' (fun _ _ => trivial) (by simp [dNum, dB]) (by simp [dNum, dB])
      · rw [hh]
        refine AW_then fun K2 hK2 => ?_
        refine AW_rg (tyOf_good _) [0, 3] [] (fun _ _ => trivial) fun K' hK' => ?_
        repeat (refine sxf_next fun K2 hK2 => ?_; simp [dNum, dB]; (repeat (refine ⟨by omega, ?_⟩)); refine hK2 _ ?_; clear hK2 K2)
        refine sxf_nil (hK' _ ?_)
        refine AW.st (by simp [dNum, dB]; rfl) ?_
        clear hK' K'
        refine AW_for (S := Nat) (fun i => i ≤ l.length ∧ nmL l = nmL (l.drop i)) (fun i => ⟨lst [(0, .d (.ip [dNum k, dS s, .sl (ofK l) (l.map fun f => [dF f])])), (3, int i)], hlst []⟩) (fun i => l.length - i) 0 ?_ ⟨by omega, by simp⟩ ?_
        · refine Imp.to' (fun _ _ => trivial) (by simp [dNum, dB]) (by simp [dNum, dB])
        · rintro i ⟨hi, hr⟩
          refine AW_then fun K3 hK3 => ?_
          refine AW_rg (tyOf_good _) [0, 3, 23] [] (fun _ _ => trivial) fun K' hK' => ?_
          repeat (refine sxf_next fun K2 hK2 => ?_; simp [dNum, dB]; (repeat (refine ⟨by omega, ?_⟩)); refine hK2 _ ?_; clear hK2 K2)
          refine sxf_nil (hK' _ ?_)
          refine AW.st (by simp [dNum, dB]; rfl) ?_
          clear hK' K'
          refine AW_cond' (b := i < l.length) (by simp [D.le, D.le.go, takeMap, dNum, dB]) (fun hc => ?_) (fun hc => ?_)
          · have hil : i < l.length := hc
            have hcc := hch _ (List.getElem_mem hil)
            rw [List.drop_eq_getElem_cons hil, nmL] at hr
            refine AW_skip (hK3 _ ?_)
            refine AW_then fun K4 hK4 => ?_
            refine AW_block ?_
            cases hn : nmF l[i] with
            | false =>
              rw [hn] at hcc hr
              refine AW_rg (tyOf_good _) [0, 3, 34] [] (fun _ _ => trivial) fun K' hK' => ?_
              repeat (refine sxf_next fun K2 hK2 => ?_; simp [dNum, dB, hil]; (repeat (refine ⟨by omega, ?_⟩)); refine hK2 _ ?_; clear hK2 K2)
              refine sxf_next fun K2 hK2 => ?_
              simp [dNum, dB, hil]
              refine callK.data (hcc) (by simp; rfl) (by first | exact D.leGo_refl _ | simp [takeMap, List.map_map, Function.comp_def, D.le, D.le.go, D.le_refl, D.leGo_refl, dNum, dB, hil]) ?_
              refine hK2 _ ?_
              clear hK2 K2
              simp only [putd, upd_lst]
              repeat (refine sxf_next fun K2 hK2 => ?_; simp [dNum, dB, hil]; (repeat (refine ⟨by omega, ?_⟩)); refine hK2 _ ?_; clear hK2 K2)
              refine sxf_nil (hK' _ ?_)
              refine AW.st (by simp [dNum, dB, hil]; rfl) ?_
              clear hK' K'
              refine AW_cond true rfl (fun _ => ?_) (fun h => by cases h)
              refine AW_rg (tyOf_good _) [2] [] (fun _ _ => trivial) fun K' hK' => ?_
              repeat (refine sxf_next fun K2 hK2 => ?_; simp [dNum, dB]; (repeat (refine ⟨by omega, ?_⟩)); refine hK2 _ ?_; clear hK2 K2)
              refine sxf_nil (hK' _ ?_)
              refine AW.st (by simp [dNum, dB]; rfl) ?_
              clear hK' K'
              refine AW_ret ?_
              simp [D.le, D.le.go, takeMap, dNum, dB, hr]
            | true =>
              rw [hn, Bool.true_and] at hr
              rw [hn] at hcc
              refine AW_rg (tyOf_good _) [0, 3, 34] [] (fun _ _ => trivial) fun K' hK' => ?_
              repeat (refine sxf_next fun K2 hK2 => ?_; simp [dNum, dB, hil]; (repeat (refine ⟨by omega, ?_⟩)); refine hK2 _ ?_; clear hK2 K2)
              refine sxf_next fun K2 hK2 => ?_
              simp [dNum, dB, hil]
              refine callK.data (hcc) (by simp; rfl) (by first | exact D.leGo_refl _ | simp [takeMap, List.map_map, Function.comp_def, D.le, D.le.go, D.le_refl, D.leGo_refl, dNum, dB, hil]) ?_
              refine hK2 _ ?_
              clear hK2 K2
              simp only [putd, upd_lst]
              repeat (refine sxf_next fun K2 hK2 => ?_; simp [dNum, dB, hil]; (repeat (refine ⟨by omega, ?_⟩)); refine hK2 _ ?_; clear hK2 K2)
              refine sxf_nil (hK' _ ?_)
              refine AW.st (by simp [dNum, dB, hil]; rfl) ?_
              clear hK' K'
              refine AW_cond false rfl (fun h => by cases h) (fun _ => ?_)
              refine AW_skip ?_
              refine hK4 _ (AW.norm [0, 3] [] (fun _ _ => trivial) (AW.st (by simp [dNum, dB]; rfl) ?_))
              refine AW_re (tyOf_good _) fun K' hK' => ?_
              repeat (refine sxf_next fun K2 hK2 => ?_; simp [dNum, dB]; (repeat (refine ⟨by omega, ?_⟩)); refine hK2 _ ?_; clear hK2 K2)
              refine sxf_nil (hK' _ ?_)
              clear hK' K'
              try simp only [thn, inb]
              refine Again.mk (i + 1) ⟨by omega, hr⟩ (by omega) ?_
              refine Imp.to' (fun _ _ => trivial) (by simp [dNum, dB]) (by simp [dNum, dB])
          · obtain rfl : i = l.length := by omega
            refine AW_exit (hK2 _ ?_)
            rw [hr, List.drop_length]
            refine AW_rg (tyOf_good _) [2] [] (fun _ _ => trivial) fun K' hK' => ?_
            repeat (refine sxf_next fun K2 hK2 => ?_; simp [dNum, dB]; (repeat (refine ⟨by omega, ?_⟩)); refine hK2 _ ?_; clear hK2 K2)
            refine sxf_nil (hK' _ ?_)
            refine AW.st (by simp [dNum, dB]; rfl) ?_
            clear hK' K'
            refine AW_ret ?_
            simp [D.le, D.le.go, takeMap, dNum, dB, nmL]

theorem idx_any2 {α : Type} (p : α → Bool) (l : List α) : decide (0 ≤ idx p l) = l.any p := by
  unfold idx
  cases h : l.findIdx? p with
  | none =>
    rw [List.findIdx?_eq_none_iff] at h
    have : l.any p = false := by rw [List.any_eq_false]; intro x hx; simp [h x hx]
    rw [this]; simp
  | some i =>
    rw [List.findIdx?_eq_some_iff_getElem] at h
    obtain ⟨hi, hp, _⟩ := h
    have : l.any p = true := List.any_eq_true.2 ⟨_, List.getElem_mem hi, hp⟩
    rw [this]; simp
#print axioms named_spec
end Go.Proofs.YtblafkekblaibaaDoor

/-
  LassoPushes: a formula's text, and that with not ahead of names alone, is the document's.
-/
namespace Go.Proofs.YtblafkekblaibaaDoor
set_option linter.unusedSimpArgs false
set_option linter.unusedVariables false
open Go.Av

theorem rightE_nil : rightE .nil = 7 := by decide

set_option maxHeartbeats 16000000 in
theorem pushes_spec (G : Glob) (hA : HasArity G) (hG : HasErr G) (l : List Stp) (hn : ∀ x ∈ l, x.name.length < 2^60) : PureC Tryd.prog G 6 [dStps l] (.v (.bool true)) := by
  by_cases h1 : (40 : Int) < l.length
  · have hlf := lformula_many G l h1
    refine PureC.of_body (tyOf_good _) Tryd.func6 rfl rfl (rs := [.tmp 2]) Tryd.results6 (by simp [Tryd.ntmps6]) fun X => ?_
    simp only [Tryd.ntmps6, List.map]
    refine AW_rg (tyOf_good _) [0] [] (fun _ _ => trivial) fun K' hK' => ?_
    repeat (refine sxf_next fun K2 hK2 => ?_; simp [dNum, dB]; (repeat (refine ⟨by omega, ?_⟩)); refine hK2 _ ?_; clear hK2 K2)
    refine sxf_nil (hK' _ ?_)
    refine AW.st (by simp [dNum, dB]; rfl) ?_
    clear hK' K'
    refine AW_rg (tyOf_good _) [0, 3, 4, 5] [] (fun _ _ => trivial) fun K' hK' => ?_
    repeat (refine sxf_next fun K2 hK2 => ?_; simp [dNum, dB]; (repeat (refine ⟨by omega, ?_⟩)); refine hK2 _ ?_; clear hK2 K2)
    refine sxf_next fun K2 hK2 => ?_
    simp [dNum, dB]
    refine callK.data (hlf) (by simp; rfl) (by first | exact D.leGo_refl _ | simp [takeMap, List.map_map, Function.comp_def, D.le, D.le.go, D.le_refl, D.leGo_refl, dNum, dB]) ?_
    refine hK2 _ ?_
    clear hK2 K2
    simp only [putd, upd_lst]
    repeat (refine sxf_next fun K2 hK2 => ?_; simp [dNum, dB]; (repeat (refine ⟨by omega, ?_⟩)); refine hK2 _ ?_; clear hK2 K2)
    refine sxf_nil (hK' _ ?_)
    refine AW.st (by simp [dNum, dB]; rfl) ?_
    clear hK' K'
    refine AW_then fun K1 hK1 => ?_
    refine AW_rg (tyOf_good _) [0, 3, 4, 25] [] (fun _ _ => trivial) fun K' hK' => ?_
    repeat (refine sxf_next fun K2 hK2 => ?_; simp [dNum, dB]; (repeat (refine ⟨by omega, ?_⟩)); refine hK2 _ ?_; clear hK2 K2)
    refine sxf_nil (hK' _ ?_)
    refine AW.st (by simp [dNum, dB]; rfl) ?_
    clear hK' K'
    refine AW_cond true rfl (fun _ => ?_) (fun h => by cases h)
    refine AW_rg (tyOf_good _) [2] [] (fun _ _ => trivial) fun K' hK' => ?_
    repeat (refine sxf_next fun K2 hK2 => ?_; simp [dNum, dB]; (repeat (refine ⟨by omega, ?_⟩)); refine hK2 _ ?_; clear hK2 K2)
    refine sxf_nil (hK' _ ?_)
    refine AW.st (by simp [dNum, dB]; rfl) ?_
    clear hK' K'
    refine AW_ret ?_
    simp [D.le, D.le.go, takeMap, dNum, dB]
  have hform := formula_spec G l (by omega)
  have hlf := lformula_spec G l h1
  have hnf := names_form l hn
  have hwf := form_wf l
  have hright := form_right l
  obtain ⟨cf, hcf⟩ : ∃ c, dF (formF l) = .ip c := form_ip l
  generalize formF l = f at hform hlf hnf hwf hright hcf
  by_cases hd : dpF f ≤ 20
  rotate_left
  · rw [decide_eq_false hd] at hlf
    refine PureC.of_body (tyOf_good _) Tryd.func6 rfl rfl (rs := [.tmp 2]) Tryd.results6 (by simp [Tryd.ntmps6]) fun X => ?_
    simp only [Tryd.ntmps6, List.map]
    refine AW_rg (tyOf_good _) [0] [] (fun _ _ => trivial) fun K' hK' => ?_
    repeat (refine sxf_next fun K2 hK2 => ?_; simp [dNum, dB]; (repeat (refine ⟨by omega, ?_⟩)); refine hK2 _ ?_; clear hK2 K2)
    refine sxf_nil (hK' _ ?_)
    refine AW.st (by simp [dNum, dB]; rfl) ?_
    clear hK' K'
    refine AW_rg (tyOf_good _) [0, 3, 4, 5] [] (fun _ _ => trivial) fun K' hK' => ?_
    repeat (refine sxf_next fun K2 hK2 => ?_; simp [dNum, dB]; (repeat (refine ⟨by omega, ?_⟩)); refine hK2 _ ?_; clear hK2 K2)
    refine sxf_next fun K2 hK2 => ?_
    simp [dNum, dB]
    refine callK.data (hlf) (by simp; rfl) (by first | exact D.leGo_refl _ | simp [takeMap, List.map_map, Function.comp_def, D.le, D.le.go, D.le_refl, D.leGo_refl, dNum, dB]) ?_
    refine hK2 _ ?_
    clear hK2 K2
    simp only [putd, upd_lst]
    repeat (refine sxf_next fun K2 hK2 => ?_; simp [dNum, dB]; (repeat (refine ⟨by omega, ?_⟩)); refine hK2 _ ?_; clear hK2 K2)
    refine sxf_nil (hK' _ ?_)
    refine AW.st (by simp [dNum, dB]; rfl) ?_
    clear hK' K'
    refine AW_then fun K1 hK1 => ?_
    refine AW_rg (tyOf_good _) [0, 3, 4, 25] [] (fun _ _ => trivial) fun K' hK' => ?_
    repeat (refine sxf_next fun K2 hK2 => ?_; simp [dNum, dB]; (repeat (refine ⟨by omega, ?_⟩)); refine hK2 _ ?_; clear hK2 K2)
    refine sxf_nil (hK' _ ?_)
    refine AW.st (by simp [dNum, dB]; rfl) ?_
    clear hK' K'
    refine AW_cond true rfl (fun _ => ?_) (fun h => by cases h)
    refine AW_rg (tyOf_good _) [2] [] (fun _ _ => trivial) fun K' hK' => ?_
    repeat (refine sxf_next fun K2 hK2 => ?_; simp [dNum, dB]; (repeat (refine ⟨by omega, ?_⟩)); refine hK2 _ ?_; clear hK2 K2)
    refine sxf_nil (hK' _ ?_)
    refine AW.st (by simp [dNum, dB]; rfl) ?_
    clear hK' K'
    refine AW_ret ?_
    simp [D.le, D.le.go, takeMap, dNum, dB]
  rw [decide_eq_true hd] at hlf
  have hright := hright hd
  by_cases h2 : (2000 : Int) < capS f
  · refine PureC.of_body (tyOf_good _) Tryd.func6 rfl rfl (rs := [.tmp 2]) Tryd.results6 (by simp [Tryd.ntmps6]) fun X => ?_
    simp only [Tryd.ntmps6, List.map]
    refine AW_rg (tyOf_good _) [0] [] (fun _ _ => trivial) fun K' hK' => ?_
    repeat (refine sxf_next fun K2 hK2 => ?_; simp [dNum, dB]; (repeat (refine ⟨by omega, ?_⟩)); refine hK2 _ ?_; clear hK2 K2)
    refine sxf_nil (hK' _ ?_)
    refine AW.st (by simp [dNum, dB]; rfl) ?_
    clear hK' K'
    refine AW_rg (tyOf_good _) [0, 3, 4, 5] [] (fun _ _ => trivial) fun K' hK' => ?_
    repeat (refine sxf_next fun K2 hK2 => ?_; simp [dNum, dB]; (repeat (refine ⟨by omega, ?_⟩)); refine hK2 _ ?_; clear hK2 K2)
    refine sxf_next fun K2 hK2 => ?_
    simp [dNum, dB]
    refine callK.data (hlf) (by simp; rfl) (by first | exact D.leGo_refl _ | simp [takeMap, List.map_map, Function.comp_def, D.le, D.le.go, D.le_refl, D.leGo_refl, dNum, dB]) ?_
    refine hK2 _ ?_
    clear hK2 K2
    simp only [putd, upd_lst]
    repeat (refine sxf_next fun K2 hK2 => ?_; simp [dNum, dB]; (repeat (refine ⟨by omega, ?_⟩)); refine hK2 _ ?_; clear hK2 K2)
    refine sxf_nil (hK' _ ?_)
    refine AW.st (by simp [dNum, dB]; rfl) ?_
    clear hK' K'
    refine AW_then fun K1 hK1 => ?_
    refine AW_rg (tyOf_good _) [0, 3, 4, 25] [] (fun _ _ => trivial) fun K' hK' => ?_
    repeat (refine sxf_next fun K2 hK2 => ?_; simp [dNum, dB, h2]; (repeat (refine ⟨by omega, ?_⟩)); refine hK2 _ ?_; clear hK2 K2)
    refine sxf_nil (hK' _ ?_)
    refine AW.st (by simp [dNum, dB, h2]; rfl) ?_
    clear hK' K'
    refine AW_cond true rfl (fun _ => ?_) (fun h => by cases h)
    refine AW_rg (tyOf_good _) [2] [] (fun _ _ => trivial) fun K' hK' => ?_
    repeat (refine sxf_next fun K2 hK2 => ?_; simp [dNum, dB]; (repeat (refine ⟨by omega, ?_⟩)); refine hK2 _ ?_; clear hK2 K2)
    refine sxf_nil (hK' _ ?_)
    refine AW.st (by simp [dNum, dB]; rfl) ?_
    clear hK' K'
    refine AW_ret ?_
    simp [D.le, D.le.go, takeMap, dNum, dB]
  have hcap : capS f = szF f := by unfold capS at h2 ⊢; omega
  have hnmd := named_spec G 20 f hd hwf hnf
  have hRg := Right_spec G hA f hnf
  have hPn := Push_bad G hA .nil trivial (by rw [rightE_nil]; decide)
  have hTn := Text_bad G hA .nil trivial (by rw [rightE_nil]; decide)
  have hb7 := bare_spec G hG 7
  rw [rightE_nil] at hPn
  have e7 : errOf 7 = some (7, none) := rfl
  rw [e7] at hPn hb7
  have enil : dF .nil = .v (.pointer none) := rfl
  rw [enil] at hPn hTn
  rw [hcap] at hlf h2
  have hform' := hform
  rw [hcf] at hlf hform' hnmd
  refine PureC.of_body (tyOf_good _) Tryd.func6 rfl rfl (rs := [.tmp 2]) Tryd.results6 (by simp [Tryd.ntmps6]) fun X => ?_
  simp only [Tryd.ntmps6, List.map]
  refine AW_rg (tyOf_good _) [0] [] (fun _ _ => trivial) fun K' hK' => ?_
  repeat (refine sxf_next fun K2 hK2 => ?_; simp [dNum, dB]; (repeat (refine ⟨by omega, ?_⟩)); refine hK2 _ ?_; clear hK2 K2)
  refine sxf_nil (hK' _ ?_)
  refine AW.st (by simp [dNum, dB]; rfl) ?_
  clear hK' K'
  refine AW_rg (tyOf_good _) [0, 3, 4, 5] [] (fun _ _ => trivial) fun K' hK' => ?_
  repeat (refine sxf_next fun K2 hK2 => ?_; simp [dNum, dB]; (repeat (refine ⟨by omega, ?_⟩)); refine hK2 _ ?_; clear hK2 K2)
  refine sxf_next fun K2 hK2 => ?_
  simp [dNum, dB]
  refine callK.data (hlf) (by simp; rfl) (by first | exact D.leGo_refl _ | simp [takeMap, List.map_map, Function.comp_def, D.le, D.le.go, D.le_refl, D.leGo_refl, dNum, dB]) ?_
  refine hK2 _ ?_
  clear hK2 K2
  simp only [putd, upd_lst]
  repeat (refine sxf_next fun K2 hK2 => ?_; simp [dNum, dB]; (repeat (refine ⟨by omega, ?_⟩)); refine hK2 _ ?_; clear hK2 K2)
  refine sxf_nil (hK' _ ?_)
  refine AW.st (by simp [dNum, dB]; rfl) ?_
  clear hK' K'
  refine AW_then fun K1 hK1 => ?_
  refine AW_rg (tyOf_good _) [0, 3, 4, 25] [] (fun _ _ => trivial) fun K' hK' => ?_
  repeat (refine sxf_next fun K2 hK2 => ?_; simp [dNum, dB, h2]; (repeat (refine ⟨by omega, ?_⟩)); refine hK2 _ ?_; clear hK2 K2)
  refine sxf_nil (hK' _ ?_)
  refine AW.st (by simp [dNum, dB, h2]; rfl) ?_
  clear hK' K'
  refine AW_cond false rfl (fun h => by cases h) (fun _ => ?_)
  refine AW_skip (hK1 _ ?_)
  refine AW_rg (tyOf_good _) [3, 4, 6] [] (fun _ _ => trivial) fun K' hK' => ?_
  repeat (refine sxf_next fun K2 hK2 => ?_; simp [dNum, dB]; (repeat (refine ⟨by omega, ?_⟩)); refine hK2 _ ?_; clear hK2 K2)
  refine sxf_next fun K2 hK2 => ?_
  simp [dNum, dB]
  refine callK.data (hform') (by simp; rfl) (by first | exact D.leGo_refl _ | simp [takeMap, List.map_map, Function.comp_def, D.le, D.le.go, D.le_refl, D.leGo_refl, dNum, dB]) ?_
  refine hK2 _ ?_
  clear hK2 K2
  simp only [putd, upd_lst]
  repeat (refine sxf_next fun K2 hK2 => ?_; simp [dNum, dB]; (repeat (refine ⟨by omega, ?_⟩)); refine hK2 _ ?_; clear hK2 K2)
  refine sxf_nil (hK' _ ?_)
  refine AW.st (by simp [dNum, dB]; rfl) ?_
  clear hK' K'
  refine AW_rg (tyOf_good _) [3, 4, 6, 7] [] (fun _ _ => trivial) fun K' hK' => ?_
  repeat (refine sxf_next fun K2 hK2 => ?_; simp [dNum, dB]; (repeat (refine ⟨by omega, ?_⟩)); refine hK2 _ ?_; clear hK2 K2)
  refine sxf_nil (hK' _ ?_)
  refine AW.st (by simp [dNum, dB]; rfl) ?_
  clear hK' K'
  refine AW_then fun K2 hK2 => ?_
  refine (fun hcont => ?_) (fun (σ : St) (ee : Int) (he : rightE f = ee) (hok : ee = 0 → nmF f = true ∧ szF f ≤ 100) himp => hK2 σ (AW.imp (τ := ⟨lst [(3, .d (.ip cf)), (6, .d (.ip cf)), (7, int ee)], hlst []⟩) himp ?_))
  · refine AW_block ?_
    cases hnm : nmF f with
    | false =>
      rw [hnm] at hnmd hright
      refine AW_rg (tyOf_good _) [3, 4, 6, 7, 28] [] (fun _ _ => trivial) fun K' hK' => ?_
      repeat (refine sxf_next fun K2 hK2 => ?_; simp [dNum, dB]; (repeat (refine ⟨by omega, ?_⟩)); refine hK2 _ ?_; clear hK2 K2)
      refine sxf_next fun K2 hK2 => ?_
      simp [dNum, dB]
      refine callK.data (hnmd) (by simp; rfl) (by first | exact D.leGo_refl _ | simp [takeMap, List.map_map, Function.comp_def, D.le, D.le.go, D.le_refl, D.leGo_refl, dNum, dB]) ?_
      refine hK2 _ ?_
      clear hK2 K2
      simp only [putd, upd_lst]
      repeat (refine sxf_next fun K2 hK2 => ?_; simp [dNum, dB]; (repeat (refine ⟨by omega, ?_⟩)); refine hK2 _ ?_; clear hK2 K2)
      refine sxf_nil (hK' _ ?_)
      refine AW.st (by simp [dNum, dB]; rfl) ?_
      clear hK' K'
      refine AW_cond true rfl (fun _ => ?_) (fun h => by cases h)
      refine AW_re (tyOf_good _) fun K' hK' => ?_
      repeat (refine sxf_next fun K2 hK2 => ?_; simp [dNum, dB]; (repeat (refine ⟨by omega, ?_⟩)); refine hK2 _ ?_; clear hK2 K2)
      refine sxf_nil (hK' _ ?_)
      clear hK' K'
      try simp only [thn, inb]
      refine hcont _ 5 (by rw [hright]; rfl) (fun h => by cases h) ?_
      refine Imp.to' (fun _ _ => trivial) (by simp [dNum, dB]) (by simp [dNum, dB])
    | true =>
      rw [hnm] at hnmd hright
      refine AW_rg (tyOf_good _) [3, 4, 6, 7, 28] [] (fun _ _ => trivial) fun K' hK' => ?_
      repeat (refine sxf_next fun K2 hK2 => ?_; simp [dNum, dB]; (repeat (refine ⟨by omega, ?_⟩)); refine hK2 _ ?_; clear hK2 K2)
      refine sxf_next fun K2 hK2 => ?_
      simp [dNum, dB]
      refine callK.data (hnmd) (by simp; rfl) (by first | exact D.leGo_refl _ | simp [takeMap, List.map_map, Function.comp_def, D.le, D.le.go, D.le_refl, D.leGo_refl, dNum, dB]) ?_
      refine hK2 _ ?_
      clear hK2 K2
      simp only [putd, upd_lst]
      repeat (refine sxf_next fun K2 hK2 => ?_; simp [dNum, dB]; (repeat (refine ⟨by omega, ?_⟩)); refine hK2 _ ?_; clear hK2 K2)
      refine sxf_nil (hK' _ ?_)
      refine AW.st (by simp [dNum, dB]; rfl) ?_
      clear hK' K'
      refine AW_cond false rfl (fun h => by cases h) (fun _ => ?_)
      by_cases h100 : (100 : Int) < szF f
      · refine AW_rg (tyOf_good _) [3, 6, 7, 32] [] (fun _ _ => trivial) fun K' hK' => ?_
        repeat (refine sxf_next fun K2 hK2 => ?_; simp [dNum, dB, h100]; (repeat (refine ⟨by omega, ?_⟩)); refine hK2 _ ?_; clear hK2 K2)
        refine sxf_nil (hK' _ ?_)
        refine AW.st (by simp [dNum, dB, h100]; rfl) ?_
        clear hK' K'
        refine AW_cond true rfl (fun _ => ?_) (fun h => by cases h)
        refine AW_re (tyOf_good _) fun K' hK' => ?_
        repeat (refine sxf_next fun K2 hK2 => ?_; simp [dNum, dB]; (repeat (refine ⟨by omega, ?_⟩)); refine hK2 _ ?_; clear hK2 K2)
        refine sxf_nil (hK' _ ?_)
        clear hK' K'
        try simp only [thn, inb]
        refine hcont _ 4 (by rw [hright, if_neg (by decide), if_pos (by omega)]) (fun h => by cases h) ?_
        refine Imp.to' (fun _ _ => trivial) (by simp [dNum, dB]) (by simp [dNum, dB])
      · refine AW_rg (tyOf_good _) [3, 6, 7, 32] [] (fun _ _ => trivial) fun K' hK' => ?_
        repeat (refine sxf_next fun K2 hK2 => ?_; simp [dNum, dB, h100]; (repeat (refine ⟨by omega, ?_⟩)); refine hK2 _ ?_; clear hK2 K2)
        refine sxf_nil (hK' _ ?_)
        refine AW.st (by simp [dNum, dB, h100]; rfl) ?_
        clear hK' K'
        refine AW_cond false rfl (fun h => by cases h) (fun _ => ?_)
        refine AW_skip (hcont _ 0 (by rw [hright, if_neg (by decide), if_neg (by omega)]) (fun _ => ⟨hnm, by omega⟩) ?_)
        refine Imp.to' (fun _ _ => trivial) (by simp [dNum, dB]) (by simp [dNum, dB])
  clear hK2
  by_cases hee : ee = 0
  · subst hee
    obtain ⟨hnm, hsz⟩ := hok rfl
    have hP := Push_good G hA f hnf he
    have hT := Text_good G hA f hnf he
    have hr20 := rightE_ok he
    have hrp := rpush_spec G 20 f hr20 false
    have hwr := (wf_right f hwf 20 hd).1 hnm
    have hlen := text_len 20 f hr20
    rw [hwr] at hlen
    have hrt := rtext_spec G 20 f hr20 (by omega)
    obtain ⟨hw1, hw2, hw3⟩ := wf_push f hwf false
    have hwr2 := (wf_right _ hw1 _ (Nat.le_refl _)).1 (hw3 hnm)
    have hlen2 := text_len _ _ (by rw [hwr2])
    rw [hwr2] at hlen2
    have hrt2 := rtext_spec G _ _ (by rw [hwr2]) (by omega : (textF (pushF f false)).length ≤ 2^30)
    have hng := names_push f hnf false
    have hRp := Right_spec G hA _ hng
    have hTp := Text_good G hA _ hng
    obtain ⟨cg, hcg⟩ := push_ip 20 f hr20 false
    generalize pushF f false = g at hP hrp hrt2 hRp hTp hcg
    have e0 : errOf 0 = none := rfl
    have hb0 := bare_spec G hG 0
    rw [he, e0] at hRg
    rw [e0] at hb0
    rw [hcf] at hRg hP hT hrp hrt
    rw [hcg] at hP hrp hrt2 hRp hTp
    refine AW_rg (tyOf_good _) [3, 6, 7, 8, 9] [] (fun _ _ => trivial) fun K' hK' => ?_
    repeat (refine sxf_next fun K2 hK2 => ?_; simp [dNum, dB]; (repeat (refine ⟨by omega, ?_⟩)); refine hK2 _ ?_; clear hK2 K2)
    refine sxf_next fun K2 hK2 => ?_
    simp [dNum, dB]
    refine callK.data (hP) (by simp; rfl) (by first | exact D.leGo_refl _ | simp [takeMap, List.map_map, Function.comp_def, D.le, D.le.go, D.le_refl, D.leGo_refl, dNum, dB]) ?_
    refine hK2 _ ?_
    clear hK2 K2
    simp only [putd, upd_lst]
    repeat (refine sxf_next fun K2 hK2 => ?_; simp [dNum, dB]; (repeat (refine ⟨by omega, ?_⟩)); refine hK2 _ ?_; clear hK2 K2)
    refine sxf_nil (hK' _ ?_)
    refine AW.st (by simp [dNum, dB]; rfl) ?_
    clear hK' K'
    refine AW_rg (tyOf_good _) [3, 6, 7, 8, 9, 11] [] (fun _ _ => trivial) fun K' hK' => ?_
    repeat (refine sxf_next fun K2 hK2 => ?_; simp [dNum, dB, dErr]; (repeat (refine ⟨by omega, ?_⟩)); refine hK2 _ ?_; clear hK2 K2)
    refine sxf_next fun K2 hK2 => ?_
    simp [dNum, dB, dErr]
    refine callK.data (hPn) (by simp; rfl) (by first | exact D.leGo_refl _ | simp [takeMap, List.map_map, Function.comp_def, D.le, D.le.go, D.le_refl, D.leGo_refl, dNum, dB, dErr]) ?_
    refine hK2 _ ?_
    clear hK2 K2
    simp only [putd, upd_lst]
    repeat (refine sxf_next fun K2 hK2 => ?_; simp [dNum, dB, dErr]; (repeat (refine ⟨by omega, ?_⟩)); refine hK2 _ ?_; clear hK2 K2)
    refine sxf_nil (hK' _ ?_)
    refine AW.st (by simp [dNum, dB, dErr]; rfl) ?_
    clear hK' K'
    refine AW_then fun K3 hK3 => ?_
    refine AW_rg (tyOf_good _) [3, 6, 7, 8, 63] [] (fun _ _ => trivial) fun K' hK' => ?_
    repeat (refine sxf_next fun K2 hK2 => ?_; simp [dNum, dB, dErr, dS, bs_nil, binS]; (repeat (refine ⟨by omega, ?_⟩)); refine hK2 _ ?_; clear hK2 K2)
    refine sxf_next fun K2 hK2 => ?_
    simp [dNum, dB, dErr, dS, bs_nil, binS]
    refine callK.data (hRg) (by simp; rfl) (by first | exact D.leGo_refl _ | simp [takeMap, List.map_map, Function.comp_def, D.le, D.le.go, D.le_refl, D.leGo_refl, dNum, dB, dErr, dS, bs_nil, binS]) ?_
    refine hK2 _ ?_
    clear hK2 K2
    simp only [putd, upd_lst]
    repeat (refine sxf_next fun K2 hK2 => ?_; simp [dNum, dB, dErr, dS, bs_nil, binS]; (repeat (refine ⟨by omega, ?_⟩)); refine hK2 _ ?_; clear hK2 K2)
    refine sxf_next fun K2 hK2 => ?_
    simp [dNum, dB, dErr, dS, bs_nil, binS]
    refine callK.data (hb0) (by simp; rfl) (by first | exact D.leGo_refl _ | simp [takeMap, List.map_map, Function.comp_def, D.le, D.le.go, D.le_refl, D.leGo_refl, dNum, dB, dErr, dS, bs_nil, binS]) ?_
    refine hK2 _ ?_
    clear hK2 K2
    simp only [putd, upd_lst]
    repeat (refine sxf_next fun K2 hK2 => ?_; simp [dNum, dB, dErr, dS, bs_nil, binS]; (repeat (refine ⟨by omega, ?_⟩)); refine hK2 _ ?_; clear hK2 K2)
    refine sxf_next fun K2 hK2 => ?_
    simp [dNum, dB, dErr, dS, bs_nil, binS]
    refine callK.data (hb0) (by simp; rfl) (by first | exact D.leGo_refl _ | simp [takeMap, List.map_map, Function.comp_def, D.le, D.le.go, D.le_refl, D.leGo_refl, dNum, dB, dErr, dS, bs_nil, binS]) ?_
    refine hK2 _ ?_
    clear hK2 K2
    simp only [putd, upd_lst]
    repeat (refine sxf_next fun K2 hK2 => ?_; simp [dNum, dB, dErr, dS, bs_nil, binS]; (repeat (refine ⟨by omega, ?_⟩)); refine hK2 _ ?_; clear hK2 K2)
    refine sxf_next fun K2 hK2 => ?_
    simp [dNum, dB, dErr, dS, bs_nil, binS]
    refine callK.data (hb7) (by simp; rfl) (by first | exact D.leGo_refl _ | simp [takeMap, List.map_map, Function.comp_def, D.le, D.le.go, D.le_refl, D.leGo_refl, dNum, dB, dErr, dS, bs_nil, binS]) ?_
    refine hK2 _ ?_
    clear hK2 K2
    simp only [putd, upd_lst]
    repeat (refine sxf_next fun K2 hK2 => ?_; simp [dNum, dB, dErr, dS, bs_nil, binS]; (repeat (refine ⟨by omega, ?_⟩)); refine hK2 _ ?_; clear hK2 K2)
    refine sxf_next fun K2 hK2 => ?_
    simp [dNum, dB, dErr, dS, bs_nil, binS]
    refine callK.data (hTn) (by simp; rfl) (by first | exact D.leGo_refl _ | simp [takeMap, List.map_map, Function.comp_def, D.le, D.le.go, D.le_refl, D.leGo_refl, dNum, dB, dErr, dS, bs_nil, binS]) ?_
    refine hK2 _ ?_
    clear hK2 K2
    simp only [putd, upd_lst]
    repeat (refine sxf_next fun K2 hK2 => ?_; simp [dNum, dB, dErr, dS, bs_nil, binS]; (repeat (refine ⟨by omega, ?_⟩)); refine hK2 _ ?_; clear hK2 K2)
    refine sxf_nil (hK' _ ?_)
    refine AW.st (by simp [dNum, dB, dErr, dS, bs_nil, binS]; rfl) ?_
    clear hK' K'
    refine AW_cond false rfl (fun h => by cases h) (fun _ => ?_)
    refine AW_skip (hK3 _ ?_)
    refine AW_then fun K4 hK4 => ?_
    refine AW_rg (tyOf_good _) [3, 6, 8, 65] [] (fun _ _ => trivial) fun K' hK' => ?_
    repeat (refine sxf_next fun K2 hK2 => ?_; simp [dNum, dB]; (repeat (refine ⟨by omega, ?_⟩)); refine hK2 _ ?_; clear hK2 K2)
    refine sxf_nil (hK' _ ?_)
    refine AW.st (by simp [dNum, dB]; rfl) ?_
    clear hK' K'
    refine AW_cond false rfl (fun h => by cases h) (fun _ => ?_)
    refine AW_skip (hK4 _ ?_)
    refine AW_rg (tyOf_good _) [3, 6, 8, 12] [] (fun _ _ => trivial) fun K' hK' => ?_
    repeat (refine sxf_next fun K2 hK2 => ?_; simp [dNum, dB]; (repeat (refine ⟨by omega, ?_⟩)); refine hK2 _ ?_; clear hK2 K2)
    refine sxf_next fun K2 hK2 => ?_
    simp [dNum, dB]
    refine callK.data (hrp) (by simp; rfl) (by first | exact D.leGo_refl _ | simp [takeMap, List.map_map, Function.comp_def, D.le, D.le.go, D.le_refl, D.leGo_refl, dNum, dB]) ?_
    refine hK2 _ ?_
    clear hK2 K2
    simp only [putd, upd_lst]
    repeat (refine sxf_next fun K2 hK2 => ?_; simp [dNum, dB]; (repeat (refine ⟨by omega, ?_⟩)); refine hK2 _ ?_; clear hK2 K2)
    refine sxf_nil (hK' _ ?_)
    refine AW.st (by simp [dNum, dB]; rfl) ?_
    clear hK' K'
    refine AW_rg (tyOf_good _) [3, 6, 8, 13] [] (fun _ _ => trivial) fun K' hK' => ?_
    repeat (refine sxf_next fun K2 hK2 => ?_; simp [dNum, dB]; (repeat (refine ⟨by omega, ?_⟩)); refine hK2 _ ?_; clear hK2 K2)
    refine sxf_next fun K2 hK2 => ?_
    simp [dNum, dB]
    refine callK.data (hrt2) (by simp; rfl) (by first | exact D.leGo_refl _ | simp [takeMap, List.map_map, Function.comp_def, D.le, D.le.go, D.le_refl, D.leGo_refl, dNum, dB]) ?_
    refine hK2 _ ?_
    clear hK2 K2
    simp only [putd, upd_lst]
    repeat (refine sxf_next fun K2 hK2 => ?_; simp [dNum, dB]; (repeat (refine ⟨by omega, ?_⟩)); refine hK2 _ ?_; clear hK2 K2)
    refine sxf_nil (hK' _ ?_)
    refine AW.st (by simp [dNum, dB]; rfl) ?_
    clear hK' K'
    by_cases hg0 : rightE g = 0
    · have hTp := hTp hg0
      rw [hg0, e0] at hRp
      refine AW_rg (tyOf_good _) [2] [] (fun _ _ => trivial) fun K' hK' => ?_
      repeat (refine sxf_next fun K2 hK2 => ?_; simp [dNum, dB, dErr, dS, bs_list, binS]; (repeat (refine ⟨by omega, ?_⟩)); refine hK2 _ ?_; clear hK2 K2)
      refine sxf_next fun K2 hK2 => ?_
      simp [dNum, dB, dErr, dS, bs_list, binS]
      refine callK.data (hT) (by simp; rfl) (by first | exact D.leGo_refl _ | simp [takeMap, List.map_map, Function.comp_def, D.le, D.le.go, D.le_refl, D.leGo_refl, dNum, dB, dErr, dS, bs_list, binS]) ?_
      refine hK2 _ ?_
      clear hK2 K2
      simp only [putd, upd_lst]
      repeat (refine sxf_next fun K2 hK2 => ?_; simp [dNum, dB, dErr, dS, bs_list, binS]; (repeat (refine ⟨by omega, ?_⟩)); refine hK2 _ ?_; clear hK2 K2)
      refine sxf_next fun K2 hK2 => ?_
      simp [dNum, dB, dErr, dS, bs_list, binS]
      refine callK.data (hrt) (by simp; rfl) (by first | exact D.leGo_refl _ | simp [takeMap, List.map_map, Function.comp_def, D.le, D.le.go, D.le_refl, D.leGo_refl, dNum, dB, dErr, dS, bs_list, binS]) ?_
      refine hK2 _ ?_
      clear hK2 K2
      simp only [putd, upd_lst]
      repeat (refine sxf_next fun K2 hK2 => ?_; simp [dNum, dB, dErr, dS, bs_list, binS]; (repeat (refine ⟨by omega, ?_⟩)); refine hK2 _ ?_; clear hK2 K2)
      refine sxf_next fun K2 hK2 => ?_
      simp [dNum, dB, dErr, dS, bs_list, binS]
      refine callK.data (hRp) (by simp; rfl) (by first | exact D.leGo_refl _ | simp [takeMap, List.map_map, Function.comp_def, D.le, D.le.go, D.le_refl, D.leGo_refl, dNum, dB, dErr, dS, bs_list, binS]) ?_
      refine hK2 _ ?_
      clear hK2 K2
      simp only [putd, upd_lst]
      repeat (refine sxf_next fun K2 hK2 => ?_; simp [dNum, dB, dErr, dS, bs_list, binS]; (repeat (refine ⟨by omega, ?_⟩)); refine hK2 _ ?_; clear hK2 K2)
      refine sxf_next fun K2 hK2 => ?_
      simp [dNum, dB, dErr, dS, bs_list, binS]
      refine callK.data (hTp) (by simp; rfl) (by first | exact D.leGo_refl _ | simp [takeMap, List.map_map, Function.comp_def, D.le, D.le.go, D.le_refl, D.leGo_refl, dNum, dB, dErr, dS, bs_list, binS]) ?_
      refine hK2 _ ?_
      clear hK2 K2
      simp only [putd, upd_lst]
      repeat (refine sxf_next fun K2 hK2 => ?_; simp [dNum, dB, dErr, dS, bs_list, binS]; (repeat (refine ⟨by omega, ?_⟩)); refine hK2 _ ?_; clear hK2 K2)
      refine sxf_nil (hK' _ ?_)
      refine AW.st (by simp [dNum, dB, dErr, dS, bs_list, binS]; rfl) ?_
      clear hK' K'
      refine AW_ret ?_
      simp [D.le, D.le.go, takeMap, dNum, dB]
    · rw [errOf_ne hg0] at hRp
      refine AW_rg (tyOf_good _) [2] [] (fun _ _ => trivial) fun K' hK' => ?_
      repeat (refine sxf_next fun K2 hK2 => ?_; simp [dNum, dB, dErr, dS, bs_list, binS]; (repeat (refine ⟨by omega, ?_⟩)); refine hK2 _ ?_; clear hK2 K2)
      refine sxf_next fun K2 hK2 => ?_
      simp [dNum, dB, dErr, dS, bs_list, binS]
      refine callK.data (hT) (by simp; rfl) (by first | exact D.leGo_refl _ | simp [takeMap, List.map_map, Function.comp_def, D.le, D.le.go, D.le_refl, D.leGo_refl, dNum, dB, dErr, dS, bs_list, binS]) ?_
      refine hK2 _ ?_
      clear hK2 K2
      simp only [putd, upd_lst]
      repeat (refine sxf_next fun K2 hK2 => ?_; simp [dNum, dB, dErr, dS, bs_list, binS]; (repeat (refine ⟨by omega, ?_⟩)); refine hK2 _ ?_; clear hK2 K2)
      refine sxf_next fun K2 hK2 => ?_
      simp [dNum, dB, dErr, dS, bs_list, binS]
      refine callK.data (hrt) (by simp; rfl) (by first | exact D.leGo_refl _ | simp [takeMap, List.map_map, Function.comp_def, D.le, D.le.go, D.le_refl, D.leGo_refl, dNum, dB, dErr, dS, bs_list, binS]) ?_
      refine hK2 _ ?_
      clear hK2 K2
      simp only [putd, upd_lst]
      repeat (refine sxf_next fun K2 hK2 => ?_; simp [dNum, dB, dErr, dS, bs_list, binS]; (repeat (refine ⟨by omega, ?_⟩)); refine hK2 _ ?_; clear hK2 K2)
      refine sxf_next fun K2 hK2 => ?_
      simp [dNum, dB, dErr, dS, bs_list, binS]
      refine callK.data (hRp) (by simp; rfl) (by first | exact D.leGo_refl _ | simp [takeMap, List.map_map, Function.comp_def, D.le, D.le.go, D.le_refl, D.leGo_refl, dNum, dB, dErr, dS, bs_list, binS]) ?_
      refine hK2 _ ?_
      clear hK2 K2
      simp only [putd, upd_lst]
      repeat (refine sxf_next fun K2 hK2 => ?_; simp [dNum, dB, dErr, dS, bs_list, binS]; (repeat (refine ⟨by omega, ?_⟩)); refine hK2 _ ?_; clear hK2 K2)
      refine sxf_nil (hK' _ ?_)
      refine AW.st (by simp [dNum, dB, dErr, dS, bs_list, binS]; rfl) ?_
      clear hK' K'
      refine AW_ret ?_
      simp [D.le, D.le.go, takeMap, dNum, dB]
  · have hP := Push_bad G hA f hnf (by rw [he]; exact hee)
    have hT := Text_bad G hA f hnf (by rw [he]; exact hee)
    have hbe := bare_spec G hG ee
    rw [he, errOf_ne hee] at hRg hP
    rw [errOf_ne hee] at hbe
    rw [enil] at hP
    rw [hcf] at hRg hP hT
    refine AW_rg (tyOf_good _) [3, 6, 7, 8, 9] [] (fun _ _ => trivial) fun K' hK' => ?_
    repeat (refine sxf_next fun K2 hK2 => ?_; simp [dNum, dB, dErr]; (repeat (refine ⟨by omega, ?_⟩)); refine hK2 _ ?_; clear hK2 K2)
    refine sxf_next fun K2 hK2 => ?_
    simp [dNum, dB, dErr]
    refine callK.data (hP) (by simp; rfl) (by first | exact D.leGo_refl _ | simp [takeMap, List.map_map, Function.comp_def, D.le, D.le.go, D.le_refl, D.leGo_refl, dNum, dB, dErr]) ?_
    refine hK2 _ ?_
    clear hK2 K2
    simp only [putd, upd_lst]
    repeat (refine sxf_next fun K2 hK2 => ?_; simp [dNum, dB, dErr]; (repeat (refine ⟨by omega, ?_⟩)); refine hK2 _ ?_; clear hK2 K2)
    refine sxf_nil (hK' _ ?_)
    refine AW.st (by simp [dNum, dB, dErr]; rfl) ?_
    clear hK' K'
    refine AW_rg (tyOf_good _) [3, 6, 7, 8, 9, 11] [] (fun _ _ => trivial) fun K' hK' => ?_
    repeat (refine sxf_next fun K2 hK2 => ?_; simp [dNum, dB, dErr]; (repeat (refine ⟨by omega, ?_⟩)); refine hK2 _ ?_; clear hK2 K2)
    refine sxf_next fun K2 hK2 => ?_
    simp [dNum, dB, dErr]
    refine callK.data (hPn) (by simp; rfl) (by first | exact D.leGo_refl _ | simp [takeMap, List.map_map, Function.comp_def, D.le, D.le.go, D.le_refl, D.leGo_refl, dNum, dB, dErr]) ?_
    refine hK2 _ ?_
    clear hK2 K2
    simp only [putd, upd_lst]
    repeat (refine sxf_next fun K2 hK2 => ?_; simp [dNum, dB, dErr]; (repeat (refine ⟨by omega, ?_⟩)); refine hK2 _ ?_; clear hK2 K2)
    refine sxf_nil (hK' _ ?_)
    refine AW.st (by simp [dNum, dB, dErr]; rfl) ?_
    clear hK' K'
    refine AW_then fun K3 hK3 => ?_
    refine AW_rg (tyOf_good _) [3, 6, 7, 8, 63] [] (fun _ _ => trivial) fun K' hK' => ?_
    repeat (refine sxf_next fun K2 hK2 => ?_; simp [dNum, dB, dErr, dS, bs_nil, binS]; (repeat (refine ⟨by omega, ?_⟩)); refine hK2 _ ?_; clear hK2 K2)
    refine sxf_next fun K2 hK2 => ?_
    simp [dNum, dB, dErr, dS, bs_nil, binS]
    refine callK.data (hRg) (by simp; rfl) (by first | exact D.leGo_refl _ | simp [takeMap, List.map_map, Function.comp_def, D.le, D.le.go, D.le_refl, D.leGo_refl, dNum, dB, dErr, dS, bs_nil, binS]) ?_
    refine hK2 _ ?_
    clear hK2 K2
    simp only [putd, upd_lst]
    repeat (refine sxf_next fun K2 hK2 => ?_; simp [dNum, dB, dErr, dS, bs_nil, binS]; (repeat (refine ⟨by omega, ?_⟩)); refine hK2 _ ?_; clear hK2 K2)
    refine sxf_next fun K2 hK2 => ?_
    simp [dNum, dB, dErr, dS, bs_nil, binS]
    refine callK.data (hbe) (by simp; rfl) (by first | exact D.leGo_refl _ | simp [takeMap, List.map_map, Function.comp_def, D.le, D.le.go, D.le_refl, D.leGo_refl, dNum, dB, dErr, dS, bs_nil, binS]) ?_
    refine hK2 _ ?_
    clear hK2 K2
    simp only [putd, upd_lst]
    repeat (refine sxf_next fun K2 hK2 => ?_; simp [dNum, dB, dErr, dS, bs_nil, binS]; (repeat (refine ⟨by omega, ?_⟩)); refine hK2 _ ?_; clear hK2 K2)
    refine sxf_next fun K2 hK2 => ?_
    simp [dNum, dB, dErr, dS, bs_nil, binS]
    refine callK.data (hbe) (by simp; rfl) (by first | exact D.leGo_refl _ | simp [takeMap, List.map_map, Function.comp_def, D.le, D.le.go, D.le_refl, D.leGo_refl, dNum, dB, dErr, dS, bs_nil, binS]) ?_
    refine hK2 _ ?_
    clear hK2 K2
    simp only [putd, upd_lst]
    repeat (refine sxf_next fun K2 hK2 => ?_; simp [dNum, dB, dErr, dS, bs_nil, binS]; (repeat (refine ⟨by omega, ?_⟩)); refine hK2 _ ?_; clear hK2 K2)
    refine sxf_next fun K2 hK2 => ?_
    simp [dNum, dB, dErr, dS, bs_nil, binS]
    refine callK.data (hb7) (by simp; rfl) (by first | exact D.leGo_refl _ | simp [takeMap, List.map_map, Function.comp_def, D.le, D.le.go, D.le_refl, D.leGo_refl, dNum, dB, dErr, dS, bs_nil, binS]) ?_
    refine hK2 _ ?_
    clear hK2 K2
    simp only [putd, upd_lst]
    repeat (refine sxf_next fun K2 hK2 => ?_; simp [dNum, dB, dErr, dS, bs_nil, binS]; (repeat (refine ⟨by omega, ?_⟩)); refine hK2 _ ?_; clear hK2 K2)
    refine sxf_next fun K2 hK2 => ?_
    simp [dNum, dB, dErr, dS, bs_nil, binS]
    refine callK.data (hTn) (by simp; rfl) (by first | exact D.leGo_refl _ | simp [takeMap, List.map_map, Function.comp_def, D.le, D.le.go, D.le_refl, D.leGo_refl, dNum, dB, dErr, dS, bs_nil, binS]) ?_
    refine hK2 _ ?_
    clear hK2 K2
    simp only [putd, upd_lst]
    repeat (refine sxf_next fun K2 hK2 => ?_; simp [dNum, dB, dErr, dS, bs_nil, binS]; (repeat (refine ⟨by omega, ?_⟩)); refine hK2 _ ?_; clear hK2 K2)
    refine sxf_nil (hK' _ ?_)
    refine AW.st (by simp [dNum, dB, dErr, dS, bs_nil, binS]; rfl) ?_
    clear hK' K'
    refine AW_cond false rfl (fun h => by cases h) (fun _ => ?_)
    refine AW_skip (hK3 _ ?_)
    refine AW_then fun K4 hK4 => ?_
    refine AW_rg (tyOf_good _) [3, 6, 8, 65] [] (fun _ _ => trivial) fun K' hK' => ?_
    repeat (refine sxf_next fun K2 hK2 => ?_; simp [dNum, dB, hee]; (repeat (refine ⟨by omega, ?_⟩)); refine hK2 _ ?_; clear hK2 K2)
    refine sxf_nil (hK' _ ?_)
    refine AW.st (by simp [dNum, dB, hee]; rfl) ?_
    clear hK' K'
    refine AW_cond true rfl (fun _ => ?_) (fun h => by cases h)
    refine AW_rg (tyOf_good _) [2] [] (fun _ _ => trivial) fun K' hK' => ?_
    repeat (refine sxf_next fun K2 hK2 => ?_; simp [dNum, dB, dErr, dS, bs_nil, binS]; (repeat (refine ⟨by omega, ?_⟩)); refine hK2 _ ?_; clear hK2 K2)
    refine sxf_next fun K2 hK2 => ?_
    simp [dNum, dB, dErr, dS, bs_nil, binS]
    refine callK.data (hT) (by simp; rfl) (by first | exact D.leGo_refl _ | simp [takeMap, List.map_map, Function.comp_def, D.le, D.le.go, D.le_refl, D.leGo_refl, dNum, dB, dErr, dS, bs_nil, binS]) ?_
    refine hK2 _ ?_
    clear hK2 K2
    simp only [putd, upd_lst]
    repeat (refine sxf_next fun K2 hK2 => ?_; simp [dNum, dB, dErr, dS, bs_nil, binS]; (repeat (refine ⟨by omega, ?_⟩)); refine hK2 _ ?_; clear hK2 K2)
    refine sxf_nil (hK' _ ?_)
    refine AW.st (by simp [dNum, dB, dErr, dS, bs_nil, binS]; rfl) ?_
    clear hK' K'
    refine AW_ret ?_
    simp [D.le, D.le.go, takeMap, dNum, dB]
#print axioms pushes_spec
end Go.Proofs.YtblafkekblaibaaDoor

/-
  Tables, as they are read.
-/
namespace Go.Proofs.YtblafkekblaibaaDoor
set_option linter.unusedSimpArgs false
set_option linter.unusedVariables false
open Go.Av Go.ChangeShapes Go.WideShapes Go.ChangeAt Go.RowKit

theorem law_own : ownKnob Tryd.prog.godebug = none := by kernel_rfl
theorem law_laidOut : laidOutB Tryd.prog = true := by kernel_rfl
theorem cells_int : Tryd.prog.cellsOf 3 = 1 := by kernel_rfl
theorem cells_ints : Tryd.prog.cellsOf 109 = 1 := by kernel_rfl
section
variable {H : Type} {enc : TypeId × Value → H} {w : World} {base : Nat} {spare : Nat → Bool} {held : Bool} {X : Nat → Prop}

theorem reads_ints (hX : ∀ b, ¬ X b) : ReadsAs enc Tryd.prog w base spare held X 109 (fun _ : List Int => True) (fun l => [dRow l]) := by
  intro fuel cs x h
  obtain ⟨l, _, hr⟩ := reads_slice Tryd.underlying109 cells_int (by omega) hX (reads_int Tryd.underlying3) fuel cs x h
  exact ⟨l, trivial, hr⟩
end

end Go.Proofs.YtblafkekblaibaaDoor

/-
  What is read, and how great it is at most: by what the arguments weigh.
-/
namespace Go.Proofs.YtblafkekblaibaaDoor
set_option linter.unusedSimpArgs false
set_option linter.unusedVariables false
open Go.Av Go.ChangeShapes Go.WideShapes Go.ChangeAt Go.RowKit
section
variable {P : Program} {H : Type} {enc : TypeId × Value → H} {w : World} {base : Nat} {spare : Nat → Bool} {held : Bool} {X : Nat → Prop}
theorem weightsAll_in {e : TypeId} : ∀ {l : List (DataW H)} {d : DataW H}, d ∈ l → ∀ n ∈ d.weights P e, n ∈ DataW.weightsAll P e l
  | [], _, h, _, _ => by cases h
  | d :: l, d', h, n, hn => by
    simp only [DataW.weightsAll, List.mem_append]
    rcases List.mem_cons.1 h with rfl | h
    · exact .inl hn
    · exact .inr (weightsAll_in h n hn)
/-- What is read of type t, if it weighs no more than a program may reach. -/
def ReadsW (enc : TypeId × Value → H) (P : Program) (w : World) (base : Nat) (spare : Nat → Bool) (held : Bool) (X : Nat → Prop) (t : TypeId) {α : Type} (p : α → Prop) (f : α → List D) : Prop :=
  ∀ fuel cs x, DataW.trod enc P w base spare held fuel t cs = some x → (∀ n ∈ x.1.weights P t, n ≤ reachBytes) → ∃ a, p a ∧ CellsRD w X cs (f a)
theorem ReadsAs.weighed {t : TypeId} {α : Type} {p : α → Prop} {f : α → List D} (h : ReadsAs enc P w base spare held X t p f) : ReadsW enc P w base spare held X t p f := fun fuel cs x hx _ => h fuel cs x hx
theorem readsW_string {t : TypeId} (ht : P.underlying t = some .string) : ReadsW enc P w base spare held X t (fun s : List UInt8 => s.length ≤ reachBytes) (fun s => [.v (.string (bs s))]) := by
  intro fuel cs x h hwt
  obtain ⟨s, rfl, rfl, _⟩ := DataW.trod_string ht h
  refine ⟨s.data.toList, hwt _ (by simp [DataW.weights]), .one ?_⟩
  have : bs s.data.toList = s := by cases s; simp [bs]
  rw [this]
  exact .v _
theorem readsW_slice {t e : TypeId} {α : Type} {p : α → Prop} {f : α → List D} {sz : Nat} (ht : P.underlying t = some (.slice e)) (hc : P.cellsOf e = sz) (hz : 0 < sz) (hby : 0 < P.bytesOf e) (hX : ∀ b, ¬ X b) (he : ReadsW enc P w base spare held X e p f) :
    ReadsW enc P w base spare held X t (fun l : List α => (∀ a ∈ l, p a) ∧ l.length ≤ reachBytes) (fun l => [.sl none (l.map f)]) := by
  intro fuel cs x h hwt
  rcases Deep.open_slice ht h with ⟨rfl, _⟩ | ⟨a, len, cap, m, n, DD, PP, rfl, hb, hl, hm, hmm, rfl, hx⟩
  · exact ⟨[], ⟨by simp, by simp⟩, .one (.nil (by simp))⟩
  · have hle : len ≤ m := by rw [hmm]; split <;> omega
    simp only [DataW.weights, ht, List.mem_cons, List.mem_append, List.length_map, List.length_range] at hwt
    have hlr : len ≤ reachBytes := by
      have h1 := hwt _ (.inl rfl)
      have h2 : len * 1 ≤ (len + (m - len)) * P.bytesOf e := Nat.mul_le_mul (by omega) hby
      omega
    have hdw : ∀ i, i < len → ∀ n ∈ (DD i).weights P e, n ≤ reachBytes := fun i hi n hn => hwt n (.inr (.inl (weightsAll_in (List.mem_map.2 ⟨i, List.mem_range.2 hi, rfl⟩) n hn)))
    rcases Nat.eq_zero_or_pos len with rfl | hpos
    · exact ⟨[], ⟨by simp, by simp⟩, .one (.empty (by simp) hm)⟩
    · have hel : ∀ i, i < len → ∃ x, p x ∧ ∃ cs', w.cells? base (a.add (i * P.cellsOf e)) (P.cellsOf e) = some cs' ∧ CellsRD w X cs' (f x) := fun i hi => by
        obtain ⟨cs', h1, h2⟩ := hx i (by omega)
        obtain ⟨x, hp, hr⟩ := he _ _ _ h2 (hdw i hi)
        exact ⟨x, hp, cs', h1, hr⟩
      have : Inhabited α := ⟨(hel 0 hpos).choose⟩
      obtain ⟨g, hg⟩ := Deep.choose_lt hel
      refine ⟨(List.range len).map g, ⟨fun y hy => ?_, by simp; omega⟩, .one ?_⟩
      · obtain ⟨i, hi, rfl⟩ := List.mem_map.1 hy
        exact (hg i (List.mem_range.1 hi)).1
      rw [hc] at hg
      have hcell : ∀ i j, i < len → j < sz → ∃ u, w.cell? ((a.add (i * sz)).add j) = some u ∧ (∀ c, (f (g i))[j]? = some c → RD w X u c) ∧ (f (g i)).length = sz := fun i j hi hj => by
        obtain ⟨_, cs', h1, h2, h3⟩ := hg i hi
        obtain ⟨_, hlen, hcs⟩ := World.cells?_some h1
        refine ⟨cs'[j], by rw [hcs j hj]; simp [hlen, hj], fun c hcc => h3 j _ c (by simp [hlen, hj]) hcc, by omega⟩
      have hspot : a.spot = none := by
        obtain ⟨u, hu, _⟩ := hcell 0 0 hpos hz
        simp only [Nat.zero_mul, Addr.add, if_true] at hu
        exact World.cell?_spot hu
      obtain ⟨b, off, spot⟩ := a
      dsimp only at hspot
      subst hspot
      have hcell : ∀ i j, i < len → j < sz → ∃ u, w.cell? ⟨b, off + (i * sz + j), none⟩ = some u ∧ (∀ c, (f (g i))[j]? = some c → RD w X u c) ∧ (f (g i)).length = sz := fun i j hi hj => by
        have := hcell i j hi hj
        rwa [addr_add, addr_add, Nat.add_assoc] at this
      refine .sl (f := fun i j => (w.cell? ⟨b, off + (i * sz + j), none⟩).getD undef) (by simp) (by simp) hl hm (hX b) (fun el hel => ?_) hz hpos (fun i j hi hj => ?_) (fun i j el c h1 h2 => ?_)
      · obtain ⟨y, hy, rfl⟩ := List.mem_map.1 hel
        obtain ⟨i, hi, rfl⟩ := List.mem_map.1 hy
        exact (hcell i 0 (List.mem_range.1 hi) hz).choose_spec.2.2
      · obtain ⟨u, hu, _⟩ := hcell i j hi hj
        rw [hu]; rfl
      · rw [List.getElem?_map, List.getElem?_map] at h1
        obtain ⟨y, hy, rfl⟩ := Option.map_eq_some_iff.1 h1
        obtain ⟨i', hi', rfl⟩ := Option.map_eq_some_iff.1 hy
        obtain ⟨hlt, rfl⟩ := List.getElem?_eq_some_iff.1 hi'
        rw [List.getElem_range] at h2
        simp only [List.length_range] at hlt
        have hj : j < sz := by
          obtain ⟨_, _, _, h3⟩ := hcell i 0 hlt hz
          rw [← h3]
          exact (List.getElem?_eq_some_iff.1 h2).1
        obtain ⟨u, hu, hr, _⟩ := hcell i j hlt hj
        rw [hu]
        exact hr c h2

theorem readsW_struct2 {t : TypeId} {f0 f1 : Field} {α β : Type} {p : α → Prop} {q : β → Prop} {f : α → List D} {g : β → List D} (ht : P.underlying t = some (.struct #[f0, f1])) (hn : P.cellsOf t = P.cellsOf f0.type + P.cellsOf f1.type) (h0 : f0.offset = 0) (h1 : f1.offset = P.cellsOf f0.type)
    (hf : ReadsW enc P w base spare held X f0.type p f) (hg : ReadsW enc P w base spare held X f1.type q g) : ReadsW enc P w base spare held X t (fun s : α × β => p s.1 ∧ q s.2) (fun s => f s.1 ++ g s.2) := by
  intro fuel cs x h hwt
  obtain ⟨y0, y1, n, hx, hl, t0, t1⟩ := trod_struct2 ht h
  subst hx
  simp only [DataW.weights, ht, DataW.weightsEach, List.map_cons, List.map_nil, List.mem_append, List.append_nil] at hwt
  obtain ⟨a, pa, ca⟩ := hf _ _ _ t0 fun n hn => hwt n (.inl hn)
  obtain ⟨b, pb, cb⟩ := hg _ _ _ t1 fun n hn => hwt n (.inr hn)
  refine ⟨(a, b), ⟨pa, pb⟩, ?_⟩
  have e0 : cs = (cs.drop f0.offset).take (P.cellsOf f0.type) ++ (cs.drop f1.offset).take (P.cellsOf f1.type) := by
    rw [h0, h1, List.drop_zero, List.take_of_length_le (l := List.drop _ _) (by simp; omega), List.take_append_drop]
  rw [e0]
  obtain ⟨la, ra⟩ := ca
  obtain ⟨lb, rb⟩ := cb
  refine ⟨by rw [List.length_append, List.length_append, la, lb], fun j u c hu hc => ?_⟩
  rcases Nat.lt_or_ge j (f a).length with hj | hj
  · rw [List.getElem?_append_left (by omega)] at hu hc
    exact ra j u c hu hc
  · rw [List.getElem?_append_right (by omega)] at hu hc
    rw [la] at hu
    exact rb _ u c hu hc

end
end Go.Proofs.YtblafkekblaibaaDoor

/-
  Words and steps, as they are read, and how great they are at most.
-/
namespace Go.Proofs.YtblafkekblaibaaDoor
set_option linter.unusedSimpArgs false
set_option linter.unusedVariables false
open Go.Av Go.ChangeShapes Go.WideShapes Go.ChangeAt Go.RowKit

theorem cells_str : Tryd.prog.cellsOf 9 = 1 := by kernel_rfl
theorem cells_strs : Tryd.prog.cellsOf 22 = 1 := by kernel_rfl
theorem cells_times : Tryd.prog.cellsOf 36 = 1 := by kernel_rfl
theorem cells_word : Tryd.prog.cellsOf 38 = 2 := by kernel_rfl
theorem cells_step : Tryd.prog.cellsOf 93 = 4 := by kernel_rfl
theorem by_str : 0 < Tryd.prog.bytesOf 9 := by
  have h : Tryd.prog.bytesOf 9 = 16 := by kernel_rfl
  omega
theorem by_strs : 0 < Tryd.prog.bytesOf 22 := by
  have h : Tryd.prog.bytesOf 22 = 24 := by kernel_rfl
  omega
theorem list4 {α : Type} : ∀ {l : List α}, l.length = 4 → ∃ a b c d, l = [a, b, c, d]
  | [a, b, c, d], _ => ⟨a, b, c, d, rfl⟩
theorem by_step : 0 < Tryd.prog.bytesOf 93 := by
  have h : Tryd.prog.bytesOf 93 = 40 := by kernel_rfl
  omega
section
variable {H : Type} {enc : TypeId × Value → H} {w : World} {base : Nat} {spare : Nat → Bool} {held : Bool} {X : Nat → Prop}
theorem readsW_names (hX : ∀ b, ¬ X b) : ReadsW enc Tryd.prog w base spare held X 22 (fun l : List (List UInt8) => (∀ s ∈ l, s.length ≤ reachBytes) ∧ l.length ≤ reachBytes) (fun l => [dNames l]) := readsW_slice Tryd.underlying22 cells_str (by omega) by_str hX (readsW_string Tryd.underlying9)
theorem readsW_times (hX : ∀ b, ¬ X b) : ReadsW enc Tryd.prog w base spare held X 36 (fun l : Times => (∀ t ∈ l, (∀ s ∈ t, s.length ≤ reachBytes) ∧ t.length ≤ reachBytes) ∧ l.length ≤ reachBytes) (fun l => [dTimes l]) := readsW_slice Tryd.underlying36 cells_strs (by omega) by_strs hX (readsW_names hX)
theorem readsW_word (hX : ∀ b, ¬ X b) : ReadsW enc Tryd.prog w base spare held X 38 (fun s : Times × Times => Small s.1 s.2) (fun s => [dTimes s.1, dTimes s.2]) := by
  intro fuel cs x h hwt
  obtain ⟨s, ⟨⟨a1, a2⟩, b1, b2⟩, hr⟩ := readsW_struct2 Tryd.underlying38 (by rw [cells_word]; simp only [cells_times]) rfl (by simp only [cells_times]) (readsW_times hX) (readsW_times hX) fuel cs x h hwt
  have hb : reachBytes < 2^47 := by decide
  refine ⟨s, ⟨by omega, fun t ht => ?_, fun t ht q hq => ?_⟩, hr⟩
  · rcases List.mem_append.1 ht with ht | ht
    · have := (a1 t ht).2; omega
    · have := (b1 t ht).2; omega
  · rcases List.mem_append.1 ht with ht | ht
    · have := (a1 t ht).1 q hq; omega
    · have := (b1 t ht).1 q hq; omega
theorem trod_struct4 {P : Program} {t : TypeId} {f0 f1 f2 f3 : Field} {fuel : Nat} {cs : List Value} {x : DataW H × List MemPlace} (ht : P.underlying t = some (.struct #[f0, f1, f2, f3])) (h : DataW.trod enc P w base spare held fuel t cs = some x) :
    ∃ y0 y1 y2 y3 n, x.1 = .agg [y0.1, y1.1, y2.1, y3.1] ∧ cs.length = P.cellsOf t ∧ DataW.trod enc P w base spare held n f0.type ((cs.drop f0.offset).take (P.cellsOf f0.type)) = some y0 ∧ DataW.trod enc P w base spare held n f1.type ((cs.drop f1.offset).take (P.cellsOf f1.type)) = some y1 ∧
      DataW.trod enc P w base spare held n f2.type ((cs.drop f2.offset).take (P.cellsOf f2.type)) = some y2 ∧ DataW.trod enc P w base spare held n f3.type ((cs.drop f3.offset).take (P.cellsOf f3.type)) = some y3 := by
  obtain ⟨xs, n, _, rfl, hl, hlen, hf⟩ := DataW.trod_struct ht h
  obtain ⟨y0, y1, y2, y3, rfl⟩ := list4 hlen
  exact ⟨y0, y1, y2, y3, n, by simp, hl, by simpa using hf 0 f0 rfl, by simpa using hf 1 f1 rfl, by simpa using hf 2 f2 rfl, by simpa using hf 3 f3 rfl⟩
theorem readsW_step : ReadsW enc Tryd.prog w base spare held X 93 (fun x : Stp => x.name.length ≤ reachBytes) (fun x => [dNum x.kind, dNum x.a, dNum x.b, dS x.name]) := by
  intro fuel cs x h hwt
  obtain ⟨y0, y1, y2, y3, n, hx, hl, t0, t1, t2, t3⟩ := trod_struct4 Tryd.underlying93 h
  rw [cells_step] at hl
  obtain ⟨c0, c1, c2, c3, rfl⟩ := list4 hl
  rw [hx] at hwt
  · simp only [cells_int] at t0 t1 t2
    simp only [cells_str] at t3
    obtain ⟨n0, e0, _, _⟩ := DataW.trod_int Tryd.underlying3 (show DataW.trod enc Tryd.prog w base spare held n 3 [c0] = some y0 from t0)
    obtain ⟨n1, e1, _, _⟩ := DataW.trod_int Tryd.underlying3 (show DataW.trod enc Tryd.prog w base spare held n 3 [c1] = some y1 from t1)
    obtain ⟨n2, e2, _, _⟩ := DataW.trod_int Tryd.underlying3 (show DataW.trod enc Tryd.prog w base spare held n 3 [c2] = some y2 from t2)
    obtain ⟨s, e3, e4, _⟩ := DataW.trod_string Tryd.underlying9 (show DataW.trod enc Tryd.prog w base spare held n 9 [c3] = some y3 from t3)
    simp only [List.cons.injEq, and_true] at e0 e1 e2 e3
    subst e0 e1 e2 e3
    have hb : bs s.data.toList = s := by cases s; simp [bs]
    refine ⟨⟨n0, n1, n2, s.data.toList⟩, hwt _ ?_, rfl, fun j u c hu hc => ?_⟩
    · rw [e4]
      simp [DataW.weights, Tryd.underlying93, DataW.weightsEach]
    · match j, hu, hc with
      | 0, hu, hc => simp at hu hc; subst hu hc; exact .v _
      | 1, hu, hc => simp at hu hc; subst hu hc; exact .v _
      | 2, hu, hc => simp at hu hc; subst hu hc; exact .v _
      | 3, hu, hc => simp [dS, hb] at hu hc; subst hu hc; exact .v _
      | j + 4, hu, hc => simp at hu
theorem readsW_steps (hX : ∀ b, ¬ X b) : ReadsW enc Tryd.prog w base spare held X 39 (fun l : List Stp => (∀ x ∈ l, x.name.length ≤ reachBytes) ∧ l.length ≤ reachBytes) (fun l => [dStps l]) := readsW_slice Tryd.underlying39 cells_step (by omega) by_step hX readsW_step
end
end Go.Proofs.YtblafkekblaibaaDoor

/-
  Package-level variables that are laid: errors.errorType, and lasso's arity.
-/
namespace Go.Proofs.YtblafkekblaibaaDoor
set_option linter.unusedSimpArgs false
set_option linter.unusedVariables false
open Go.Av Go.ChangeShapes Go.WideShapes Go.ChangeAt Go.RowKit

theorem laid_et : Tryd.prog.globalNamed "errors.errorType" = some 2 := by kernel_rfl
theorem laid_rt : (Tryd.prog.cutTypes.find? (·.1 == "internal/reflectlite.rtype")).map (·.2) = some 188 := by kernel_rfl
theorem laid_oneRow : ((List.range (335 - 100)).filter fun t => Tryd.prog.rowNamed t [101, 114, 114, 111, 114]) = [26] := by kernel_rfl
theorem laid_size : Tryd.prog.types.size = 335 - 100 := by kernel_rfl
theorem laid_ar : Tryd.prog.globalNamed "signalcabin/lasso.arity" = some 1 := by kernel_rfl
theorem laid_arT : (Tryd.prog.globals[1]?).map (·.type) = some 130 := by kernel_rfl
theorem cells_ar : Tryd.prog.cellsOf 130 = 11 := by kernel_rfl

def laidE : List (String × DataW Unit) := [("errors.errorType", Rows.laid_errors_errorType)]
def laidA : List (String × DataW Unit) := [("signalcabin/lasso.arity", Rows.laid_signalcabin_lasso_arity)]

theorem handle_of_met {W : World} (h : handlesMet Tryd.prog laidE W) : W.cell? ⟨2, 0, none⟩ = some errType := by
  obtain ⟨name, u, ty, e1, e2, e3, e4, e5⟩ := h _ (List.mem_singleton.2 rfl)
  have en : name = [101, 114, 114, 111, 114] := (Option.some.inj e1).symm
  subst en
  obtain rfl := Option.some.inj (laid_rt.symm.trans e2)
  have hm : ty ∈ (List.range (335 - 100)).filter fun t => Tryd.prog.rowNamed t [101, 114, 114, 111, 114] := List.mem_filter.2 ⟨List.mem_range.2 (by rw [← laid_size]; exact e3), e4⟩
  rw [laid_oneRow] at hm
  obtain rfl := List.mem_singleton.1 hm
  have hh : typeHandle Tryd.prog 26 = .pointer (some ⟨6, 26, none⟩) := by kernel_rfl
  rw [hh] at e5
  simpa [errType] using World.var?_cell laid_et e5 0

theorem laid_ar_lits : (Rows.laid_signalcabin_lasso_arity : DataW Unit) = .agg (arityL.map fun n => .lit (.int .i64 n)) := rfl
theorem arity_of_met {W : World} (h : laidMet Tryd.prog laidA W) : ∀ i n, arityL[i]? = some n → W.cell? ⟨1, i, none⟩ = some (.int .i64 n) := by
  intro i n hin
  obtain ⟨ps, hv, _, _⟩ := h
  obtain ⟨g, t, cs, fuel, p, q, hg, ht, hcs, htr, _, _⟩ := hv
  obtain rfl := Option.some.inj (laid_ar.symm.trans hg)
  obtain rfl := Option.some.inj (laid_arT.symm.trans ht)
  obtain ⟨xs, m, _, hx, hl, hxl, hel⟩ := DataW.trod_array Tryd.underlying130 htr
  have hd : (Rows.laid_signalcabin_lasso_arity : DataW Unit) = .agg (xs.map (·.1)) := congrArg (·.1) hx
  rw [laid_ar_lits, DataW.agg.injEq] at hd
  have hi : i < 11 := (List.getElem?_eq_some_iff.1 hin).1
  have he := hel i hi
  rw [cells_int, Nat.mul_one] at he
  have hxi : i < xs.length := by omega
  rw [List.getElem?_eq_getElem hxi] at he
  obtain ⟨k, e1, e2, _⟩ := DataW.trod_int Tryd.underlying3 he
  have hk := congrArg (fun l => l[i]?) hd
  simp only [List.getElem?_map, hin, List.getElem?_eq_getElem hxi, Option.map_some, e2, Option.some.injEq, DataW.lit.injEq, Lit.int.injEq, true_and] at hk
  subst hk
  have c0 : cs[i]? = some (.int .i64 n) := by
    have h0 : ((cs.toList.drop i).take (Tryd.prog.cellsOf 3))[0]? = some (.int .i64 n) := by rw [cells_int, e1]; rfl
    rw [cells_int] at h0
    simpa using h0
  rw [World.var?_cell laid_ar hcs i]
  exact c0

theorem RD.ints {W : World} {X : Nat → Prop} {g : Nat} {l : List Int} (hX : ∀ b, ¬ X b) (hl : 0 < l.length) (h : ∀ i n, l[i]? = some n → W.cell? ⟨g, i, none⟩ = some (.int .i64 n)) : RD W X (.pointer (some ⟨g, 0, none⟩)) (.ip (l.map dNum)) := by
  refine .ip (f := fun j => .int .i64 (l.getD j 0)) (hX _) (cell_lt (h 0 l[0] (by simp [hl]))) (fun j hj => ?_) fun j c hc => ?_
  · rw [List.length_map] at hj
    have := h j l[j] (by simp [hj])
    simpa [hj] using this
  · rw [List.getElem?_map] at hc
    cases hj : l[j]? with
    | none => rw [hj] at hc; cases hc
    | some n =>
      rw [hj] at hc
      obtain rfl := Option.some.inj hc
      rw [List.getD_eq_getElem?_getD, hj]
      exact .v _
def globEA : Glob := fun g => if g = 2 then some (.ip [.v errType]) else if g = 1 then some (.ip (arityL.map dNum)) else none
theorem globEA_err : HasErr globEA := rfl
theorem globEA_arity : HasArity globEA := rfl
theorem globEA_ok {W : World} (ha : laidMet Tryd.prog laidA W) (he : handlesMet Tryd.prog laidE W) : ∀ g x, globEA g = some x → RD W (fun _ => False) (.pointer (some ⟨g, 0, none⟩)) x := fun g x hx => by
  unfold globEA at hx
  split at hx
  · rename_i hg
    subst hg
    obtain rfl := Option.some.inj hx
    exact RD.cell1 (by simp) (handle_of_met he)
  · split at hx
    · rename_i hg
      subst hg
      obtain rfl := Option.some.inj hx
      exact RD.ints (by simp) (by decide) (arity_of_met ha)
    · cases hx
end Go.Proofs.YtblafkekblaibaaDoor
