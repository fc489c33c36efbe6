/-
  Texts that belong together, in one file: SS, SI, LN, Av36, JP, LD, KB, Av37, SC2, C2, SC3, SC4, IP, RV2, RV3, RR, RR2, R1.
-/
import Derived.Test.YthnjfeielmbfkaaGreatDoorRv22
import Derived.RangeFuncNested
import Derived.RangeFuncBound
import Derived.RangeFuncCalls
import Derived.RangeFuncLeaves
import Derived.Shelf.Abstract
import Derived.Shelf.RegionOpen
import Derived.OwnWalkIn
import Derived.TacticsInMore
import Derived.LoopNIn
import Derived.LoopIn
set_option linter.unusedSectionVars false
set_option linter.unusedSimpArgs false
set_option linter.unusedVariables false
namespace Go.Proofs.YthnjfeielmbfkaaGreatDoor
open Go.Av Go.Shelf Go.RowKit
attribute [local go_sem] Oper.semAt_some
end Go.Proofs.YthnjfeielmbfkaaGreatDoor
namespace Go.Proofs.YthnjfeielmbfkaaGreatDoor
open Go.Av Go.Shelf Go.RowKit
attribute [local go_sem] Oper.semAt_some
end Go.Proofs.YthnjfeielmbfkaaGreatDoor
namespace Go.Proofs.YthnjfeielmbfkaaGreatDoor
open Go.Av
theorem wq1 : IntKind.i64.wrap 1 = 1 := by decide
end Go.Proofs.YthnjfeielmbfkaaGreatDoor
namespace Go.Av
section
variable {P : Program} {T : Ty} {Mv X : Nat → Prop} {G : Glob} {N : Fr} {w w' : World} {μ : Mu} {a : Act} {σ : St} {ops : Array Oper} {db : List Nat} {fp : List (Nat × Nat)}
def QStep (P : Program) (T : Ty) (Mv : Nat → Prop) (G : Glob) (N : Fr) (db : List Nat) (fp : List (Nat × Nat)) (i : Nat) (o : Oper) (σ σ' : St) : Prop :=
 FStep P T Mv G N db i o σ σ' ∧ (db.contains i = false → touchC G fp σ.env i o.op)
theorem FStep.env {i : Nat} {o : Oper} {σ σ' : St} (h : FStep P T Mv G N db i o σ σ') : ∃ v, σ'.env = putd σ.env o.dst v := by
 rcases h.2.2 with ⟨_, c, y, _, _, rfl⟩ | ⟨_, _, x, H', _, rfl⟩
 ·exact ⟨_, rfl⟩
 ·exact ⟨_, rfl⟩
def compatQ (db : List Nat) (fp : List (Nat × Nat)) (ops : Array Oper) (i j : Nat) (oi oj : Oper) : Bool := compatB db ops i j oi oj || (!db.contains i && !db.contains j && oi.apart ops oj && isLS oi.op && isLS oj.op && match fp.lookup i, fp.lookup j with
 | some r, some r' => !(r == r')
 | _, _ => false)
theorem qswap {i j : Nat} {oi oj : Oper} (hc : compatQ db fp ops i j oi oj = true) {σ σ1 σ2 : St} (h1 : QStep P T Mv G N db fp i oi σ σ1) (h2 : QStep P T Mv G N db fp j oj σ1 σ2) :
  ∃ σ3, QStep P T Mv G N db fp j oj σ σ3 ∧ QStep P T Mv G N db fp i oi σ3 σ2 := by
 obtain ⟨s1, t1⟩ := h1
 obtain ⟨s2, t2⟩ := h2
 have hap : oi.apart ops oj = true := by
  simp only [compatQ, compatB, Bool.or_eq_true, Bool.and_eq_true] at hc
  rcases hc with hc | hc
  ·exact hc.1
  ·exact hc.1.1.1.2
 have agj : ∀ v, Agree oj.op (putd σ.env oi.dst v) σ.env := fun v t ht => (agree_put hap (e := σ.env) (v := v)).1 t (looks_of_op ht)
 have agi : ∀ v, Agree oi.op σ.env (putd σ.env oj.dst v) := fun v t ht => ((agree_put hap (e := σ.env) (v := v)).2.1 t (looks_of_op ht)).symm
 have hne := (agree_put hap (e := σ.env) (v := und)).2.2
 obtain ⟨v1, ev1⟩ := s1.env
 have main : ∃ σ3, FStep P T Mv G N db j oj σ σ3 ∧ FStep P T Mv G N db i oi σ3 σ2 := by
  simp only [compatQ, Bool.or_eq_true] at hc
  rcases hc with hc | hc
  ·exact fswap hc s1 s2
  ·simp only [Bool.and_eq_true, Bool.not_eq_true'] at hc
   obtain ⟨⟨⟨⟨⟨bi, bj⟩, _⟩, li⟩, lj⟩, hfp⟩ := hc
   have t1' := t1 bi
   have t2' := t2 bj
   cases hfi : fp.lookup i with
   | none => simp [hfi] at hfp
   | some r =>
    cases hfj : fp.lookup j with
    | none => simp [hfi, hfj] at hfp
    | some r' =>
     have hr : r ≠ r' := by simpa [hfi, hfj] using hfp
     obtain ⟨di, gi, s1⟩ := s1
     obtain ⟨dj, gj, s2⟩ := s2
     rcases s1 with ⟨b, _⟩ | ⟨_, k1, x, H', e1, rfl⟩
     ·rw [bi] at b; cases b
     rcases s2 with ⟨b, _⟩ | ⟨_, k2, z, H2, e2, rfl⟩
     ·rw [bj] at b; cases b
     dsimp only at e2 t2' ev1
     simp only [touchC, hfi] at t1'; simp only [touchC, hfj] at t2'
     obtain ⟨u, rfl, loc1⟩ := e1.touch t1'
     have e2 := e2.congr k2 (agj _)
     obtain ⟨u', rfl, loc2⟩ := e2.touch (onRow_congr (agj _) t2')
     refine ⟨⟨putd σ.env oj.dst z, pset σ.H r' u'⟩, ⟨dj, gj, .inr ⟨bj, k2, z, pset σ.H r' u', loc2 σ.H (pset_ne (H := σ.H) (u := u) (Ne.symm hr)).symm, rfl⟩⟩, di, gi, .inr ⟨bi, k1, x, pset (pset σ.H r' u') r u, (loc1 (pset σ.H r' u') (pset_ne hr)).congr k1 (agi _), ?_⟩⟩; rw [pset_comm hr, putd_comm hne]
 obtain ⟨σ3, f1, f2⟩ := main
 obtain ⟨v3, ev3⟩ := f1.env
 refine ⟨σ3, ⟨f1, fun hb => ?_⟩, f2, fun hb => ?_⟩
 ·have h := t2 hb
  rw [ev1] at h; exact touchC_congr (agj _) h
 ·rw [ev3]; exact touchC_congr (agi _) (t1 hb)
def runQ (P : Program) (T : Ty) (Mv : Nat → Prop) (G : Glob) (N : Fr) (db : List Nat) (fp : List (Nat × Nat)) (ops : Array Oper) : List Nat → St → St → Prop
 | [], σ, σ' => σ = σ'
 | i :: l, σ, σ' => ∃ o, ops[i]? = some o ∧ ∃ σ1, QStep P T Mv G N db fp i o σ σ1 ∧ runQ P T Mv G N db fp ops l σ1 σ'
theorem runQ_front {p : Nat} {op : Oper} (hp : ops[p]? = some op) : ∀ (l1 : List Nat) {l2 : List Nat} {σ σ' : St}, (∀ q ∈ l1, ∀ oq, ops[q]? = some oq → compatQ db fp ops q p oq op = true) → runQ P T Mv G N db fp ops (l1 ++ p :: l2) σ σ' → runQ P T Mv G N db fp ops (p :: (l1 ++ l2)) σ σ' := by
 intro l1
 induction l1 with
 | nil => intro l2 σ σ' _ h; exact h
 | cons q l1 ih =>
  intro l2 σ σ' hall h
  obtain ⟨oq, hq, σ1, s1, rest⟩ := h
  obtain ⟨o', ho', σ2, s2, rest2⟩ := ih (fun q' hq' => hall q' (by simp [hq'])) rest
  rw [hp] at ho'
  obtain rfl := Option.some.inj ho'
  obtain ⟨σ3, f1, f2⟩ := qswap (hall q (by simp) oq hq) s1 s2
  exact ⟨op, hp, σ3, f1, oq, hq, σ2, f2, rest2⟩
def okDrawQ (db : List Nat) (fp : List (Nat × Nat)) (ord : List Nat) (ops : Array Oper) : Bool :=
 let t := tb ops
 ord.length == ops.size && (ord.all fun i => decide (i < ops.size)) && ((List.range ops.size).all fun i => ord.contains i) && decide ord.Nodup &&
 ((List.range ops.size).all fun j => match ops[j]? with
  | some oj => oj.after.all fun e => !Region.binds .any e || e.on < j
  | none => true) &&
 go t ord
where
 go (t : List Nat) : List Nat → Bool
 | [] => true
 | a :: l => (l.all fun b => match ops[a]?, ops[b]? with
  | some oa, some ob => (oa.after.all fun e => !Region.binds .any e || !(e.on == b)) && ((t.getD b 0).testBit a || compatQ db fp ops a b oa ob)
  | _, _ => true) && go t l
def PairQ (db : List Nat) (fp : List (Nat × Nat)) (ops : Array Oper) (a b : Nat) : Prop := ∀ oa ob, ops[a]? = some oa → ops[b]? = some ob →
 (∀ e ∈ oa.after, Region.binds .any e = true → e.on ≠ b) ∧ (((tb ops).getD b 0).testBit a = true ∨ compatQ db fp ops a b oa ob = true)
theorem pairsQ_of : ∀ {l : List Nat}, okDrawQ.go db fp ops (tb ops) l = true → l.Pairwise (PairQ db fp ops)
 | [], _ => .nil
 | a :: l, h => by
  simp only [okDrawQ.go, Bool.and_eq_true] at h; refine .cons (fun b hb oa ob hoa hob => ?_) (pairsQ_of h.2)
  have := List.all_eq_true.1 h.1 b hb
  simp only [hoa, hob, Bool.and_eq_true, Bool.or_eq_true] at this; refine ⟨fun e he hbi heq => ?_, this.2⟩
  have h1 := Array.all_eq_true_iff_forall_mem.1 this.1 e he
  simp [hbi, heq] at h1
theorem anyQ_ok (hg : Good P T) (hlt : ∀ j oj, ops[j]? = some oj → ∀ e ∈ oj.after, Region.binds .any e = true → e.on < j) {Q : Exit → St → Prop} {w0 : World} {μ0 : Mu} {σn : St} (hQ : Q .normal σn) : ∀ (n : Nat) (R : List Nat) (listed : Array Bool) (w : World) (μ : Mu) (a : Act) (σ : St), R.length = n → R.Nodup →
  (∀ j, j ∈ R ↔ j < ops.size ∧ listed.getD j true = false) → listed.size = ops.size → R.Pairwise (PairQ db fp ops) →
  (∀ j oj, ops[j]? = some oj → listed.getD j false = true → ∀ e ∈ oj.after, Region.binds .any e = true → listed.getD e.on false = true) → runQ P T Mv G N db fp ops R σ σn → In w X G μ N a σ → Ev Mv w0 μ0 w μ →
  wpAnyIn (wd N.ro) 0 P .any ops (After Mv X G N w0 μ0 Q) n listed a w := by
 intro n
 induction n with
 | zero =>
  intro R listed w μ a σ hl _ hR hsz _ _ hrun hi hev
  have : R = [] := List.eq_nil_of_length_eq_zero hl
  subst this
  have hr : Region.ready .any ops listed = [] := by
   apply List.eq_nil_iff_forall_not_mem.2
   intro j hj
   obtain ⟨h1, o, ho, _⟩ := mem_ready.1 hj
   exact absurd ((hR j).2 ⟨(Array.getElem?_eq_some_iff.1 ho).1, h1⟩) (by simp)
  have : σ = σn := hrun
  subst this; exact ⟨hr, μ, σ, hQ, hi, hev⟩
 | succ n ih =>
  intro R listed w μ a σ hl hnd hR hsz hpw hdown hrun hi hev
  refine ⟨fun hr => ?_, fun i hir => ?_⟩
  ·cases R with
   | nil => simp at hl
   | cons j R =>
    obtain ⟨hj1, hj2⟩ := (hR j).1 (by simp)
    have hoj : ops[j]? = some ops[j] := by simp [hj1]
    have hjr : j ∈ Region.ready .any ops listed := by
     refine mem_ready.2 ⟨hj2, ops[j], hoj, fun e he hb => ?_⟩
     have hlt' := hlt j ops[j] hoj e he hb
     have hlt2 : e.on < ops.size := by omega
     have hne : e.on ∉ (j :: R) := by
      intro hm
      rcases List.mem_cons.1 hm with h | h
      ·omega
      ·exact ((List.pairwise_cons.1 hpw).1 _ h ops[j] ops[e.on] hoj (by simp [hlt2])).1 e he hb rfl
     have := mt (hR e.on).2 hne
     have hls : e.on < listed.size := by omega
     simp only [hlt2, true_and, Array.getD_eq_getD_getElem?] at this ⊢; simp [hls] at this ⊢; exact this
    rw [hr] at hjr
    cases hjr
  ·obtain ⟨hi1, oi, hoi, hall⟩ := mem_ready.1 hir
   have hiR : i ∈ R := (hR i).2 ⟨(Array.getElem?_eq_some_iff.1 hoi).1, hi1⟩
   obtain ⟨R1, R2, rfl⟩ := List.append_of_mem hiR
   have hfront := runQ_front (P := P) (T := T) (Mv := Mv) (G := G) (N := N) (db := db) (fp := fp) hoi R1 (fun q hq oq hoq => by
    have hpq : PairQ db fp ops q i := (List.pairwise_append.1 hpw).2.2 q hq i (by simp)
    rcases (hpq oq oi hoq hoi).2 with h | h
    ·exfalso
     have hlq := behindL hlt hdown i i oi (Nat.le_refl _) hoi hall q h
     have hq2 := ((hR q).1 (by simp [hq])).2
     have hqs : q < listed.size := by have := (Array.getElem?_eq_some_iff.1 hoq).1; omega
     simp [Array.getD_eq_getD_getElem?, hqs] at hlq hq2; rw [hlq] at hq2; cases hq2
    ·exact h) hrun
   obtain ⟨o', ho', σ1, hstep, hrest⟩ := hfront
   rw [hoi] at ho'
   obtain rfl := Option.some.inj ho'
   refine hstep.1.ok hg hi hoi fun w' μ' a' hin hev' => ?_
   have hnd' : (R1 ++ R2).Nodup := by
    have := hnd
    rw [List.nodup_append] at this ⊢
    obtain ⟨g1, g2, g3⟩ := this
    exact ⟨g1, (List.nodup_cons.1 g2).2, fun x hx y hy => g3 x hx y (by simp [hy])⟩
   have hi_not : i ∉ R1 ++ R2 := by
    have := hnd
    rw [List.nodup_append] at this
    obtain ⟨g1, g2, g3⟩ := this
    intro hm
    rcases List.mem_append.1 hm with h | h
    ·exact g3 i h i (by simp) rfl
    ·exact (List.nodup_cons.1 g2).1 h
   refine ih (R1 ++ R2) _ w' μ' a' σ1 (by simp at hl ⊢; omega) hnd' (fun j => ?_) (by simpa using hsz) ?_ ?_ hrest hin (hev.trans hev')
   ·by_cases hji : j = i
    ·subst hji
     have hls : j < listed.size := by rw [hsz]; exact (Array.getElem?_eq_some_iff.1 hoi).1
     simp [hls]; simpa using hi_not
    ·rw [getD_set_ne true (Ne.symm hji)]; rw [← hR j]; simp [hji]
   ·rw [List.pairwise_append] at hpw ⊢
    obtain ⟨g1, g2, g3⟩ := hpw
    exact ⟨g1, (List.pairwise_cons.1 g2).2, fun x hx y hy => g3 x hx y (by simp [hy])⟩
   ·intro j oj hoj hlj e he hb
    by_cases hji : j = i
    ·subst hji; rw [hoi] at hoj
     obtain rfl := Option.some.inj hoj
     exact getD_set_true (hall e he hb)
    ·rw [getD_set_ne false (Ne.symm hji)] at hlj; exact getD_set_true (hdown j oj hoj hlj e he hb)
def stepQ (P : Program) (T : Ty) (Mv : Nat → Prop) (G : Glob) (N : Fr) (db : List Nat) (fp : List (Nat × Nat)) (i : Nat) (o : Oper) (σ : St) (K : St → Prop) : Prop := okDst N o ∧ o.guard = none ∧
 if db.contains i = true then (match dataW T G σ.env o with
  | some (c, y) => c ∧ K ⟨putd σ.env o.dst (.d y), σ.H⟩
  | none => False)
 else touchC G fp σ.env i o.op ∧ kindOf o.op ≠ 9 ∧ match isCall o.op with
  | some c => callD P G c σ.env o.dst σ.H [] [] K
  | none => plainL T G Mv o σ [] K
def sxQ (P : Program) (T : Ty) (Mv : Nat → Prop) (G : Glob) (N : Fr) (db : List Nat) (fp : List (Nat × Nat)) (K : St → Prop) : List (Nat × Oper) → St → Prop
 | [], σ => K σ
 | (i, o) :: rest, σ => stepQ P T Mv G N db fp i o σ (sxQ P T Mv G N db fp K rest)
theorem sxQ_run {K : St → Prop} : ∀ (l : List Nat) (σ : St), (∀ i ∈ l, i < ops.size) → sxQ P T Mv G N db fp K (inOrder ops l) σ → ∃ σn, K σn ∧ runQ P T Mv G N db fp ops l σ σn := by
 intro l
 induction l with
 | nil => intro σ _ h; exact ⟨σ, h, rfl⟩
 | cons i l ih =>
  intro σ hl h
  have hi := hl i (by simp)
  have ho : ops[i]? = some ops[i] := by simp [hi]
  simp only [inOrder, ho] at h; generalize ops[i] = o at ho h; simp only [sxQ, stepQ] at h
  obtain ⟨hd, hgu, h⟩ := h
  have fin : ∀ σ1, QStep P T Mv G N db fp i o σ σ1 → sxQ P T Mv G N db fp K (inOrder ops l) σ1 → ∃ σn, K σn ∧ runQ P T Mv G N db fp ops (i :: l) σ σn := fun σ1 hs h1 => by
   obtain ⟨σn, hk, hr⟩ := ih σ1 (fun j hj => hl j (by simp [hj])) h1
   exact ⟨σn, hk, o, ho, σ1, hs, hr⟩
  split at h
  ·rename_i hb
   split at h
   ·rename_i c y hw
    obtain ⟨hc, h⟩ := h
    exact fin _ ⟨⟨hd, hgu, .inl ⟨hb, c, y, hw, hc, rfl⟩⟩, fun e => by rw [hb] at e; cases e⟩ h
   ·exact h.elim
  ·rename_i hb
   have hb : db.contains i = false := by simpa using hb
   obtain ⟨htc, hk, h⟩ := h
   split at h
   ·rename_i c hc
    obtain ⟨y, g, ds, ht, hp, hoff, h⟩ := h
    refine fin _ ⟨⟨hd, hgu, .inr ⟨hb, hk, .d y, σ.H, ?_, rfl⟩⟩, fun _ => htc⟩ h; unfold Ex; simp only [hc]; exact ⟨y, ⟨g, _, ht, .inl ⟨ds, rfl, hp⟩⟩, rfl, trivial⟩
   ·rename_i hc
    unfold plainL at h
    split at h
    ·rename_i hw
     split at h
     ·rename_i c x σ1 h1
      obtain ⟨hcc, hoff, h⟩ := h
      have he := wr_env hk h1
      obtain ⟨e, H⟩ := σ
      obtain ⟨e1, H1⟩ := σ1
      dsimp only at he
      subst he; refine fin _ ⟨⟨hd, hgu, .inr ⟨hb, hk, x, H1, ?_, rfl⟩⟩, fun _ => htc⟩ h; unfold Ex; simp only [hc]; rw [if_pos hw]; exact ⟨c, h1, hcc⟩
     ·exact h.elim
    ·rename_i hw
     split at h
     ·rename_i c x h1
      obtain ⟨hcc, hoff, h⟩ := h
      refine fin _ ⟨⟨hd, hgu, .inr ⟨hb, hk, x, σ.H, ?_, rfl⟩⟩, fun _ => htc⟩ h; unfold Ex; simp only [hc]; rw [if_neg hw]; exact ⟨c, h1, hcc, trivial⟩
     ·exact h.elim
theorem AW_regionQ (hg : Good P T) (hm : P.follows .mixedOrders = true) (db : List Nat) (fp : List (Nat × Nat)) (ord : List Nat) {id : Nat} (hok : okDrawQ db fp ord ops = true) {Q : Exit → St → Prop} {σ : St} (h : sxQ P T Mv G N db fp (fun σ' => Q .normal σ') (inOrder ops ord) σ) : AW P Mv X G N (.region id ops true) Q σ := fun w μ a hi => by
 unfold okDrawQ at hok; simp only [Bool.and_eq_true] at hok
 obtain ⟨⟨⟨⟨⟨h1, h2⟩, h3⟩, h4⟩, h5⟩, h6⟩ := hok
 have hlen : ord.length = ops.size := by simpa using h1
 have hlt : ∀ i ∈ ord, i < ops.size := fun i hi => by simpa using List.all_eq_true.1 h2 i hi
 have hall : ∀ i, i < ops.size → i ∈ ord := fun i hi => by simpa using List.all_eq_true.1 h3 i (List.mem_range.2 hi)
 have hnd : ord.Nodup := by simpa using h4
 have hedge : ∀ j oj, ops[j]? = some oj → ∀ e ∈ oj.after, Region.binds .any e = true → e.on < j := fun j oj hoj e he hb => by
  have := List.all_eq_true.1 h5 j (List.mem_range.2 (Array.getElem?_eq_some_iff.1 hoj).1)
  simp only [hoj] at this
  have := Array.all_eq_true_iff_forall_mem.1 this e he
  simpa [hb] using this
 obtain ⟨σn, hQ, hrun⟩ := sxQ_run ord σ hlt h
 refine wpIn_region_any hm ?_
 obtain ⟨hin, hev⟩ := hi.grew (Mv := Mv) (Grew.drew w)
 refine anyQ_ok hg hedge hQ ops.size ord _ w.drew μ a σ hlen hnd (fun j => ?_) (by simp) (pairsQ_of h6) ?_ hrun hin hev
 ·constructor
  ·intro hj
   have := hlt j hj
   simp [Array.getD_eq_getD_getElem?, this]
  ·intro hj
   exact hall j hj.1
 ·intro j oj hoj hlj
  have hj := (Array.getElem?_eq_some_iff.1 hoj).1
  simp [Array.getD_eq_getD_getElem?, hj] at hlj
theorem AW_rQ (hg : Good P T) (hm : P.follows .mixedOrders = true) (db : List Nat) (fp : List (Nat × Nat)) (ord : List Nat) (l ns : List Nat) (hM : ∀ r, ns.contains r = false → Mv r) {id : Nat} (hok : okDrawQ db fp ord ops = true) {y : Code} {Q : Exit → St → Prop} {σ : St}
  (h : ∀ K : St → Prop, (∀ τ : St, AW P Mv X G N y Q (τ.norm l ns) → K τ) → sxQ P T Mv G N db fp K (inOrder ops ord) σ) : AW P Mv X G N (.seq (.region id ops true) y) Q σ :=
 AW_seq (AW_regionQ hg hm db fp ord hok (h _ fun _ h => h.norm l ns hM))
theorem sxQ_nextO {K : St → Prop} {i : Nat} {l : List Nat} {o : Oper} (ho : ops[i]? = some o) (h : ∀ K' : St → Prop, (∀ τ, sxQ P T Mv G N db fp K (inOrder ops l) τ → K' τ) → stepQ P T Mv G N db fp i o σ K') : sxQ P T Mv G N db fp K (inOrder ops (i :: l)) σ := by
 have : inOrder ops (i :: l) = (i, o) :: inOrder ops l := by simp [inOrder, ho]
 rw [this]; exact h _ fun _ h => h
theorem sxQ_nilO {K : St → Prop} (h : K σ) : sxQ P T Mv G N db fp K (inOrder ops []) σ := h
end
attribute [simp] stepQ
end Go.Av
namespace Go.Proofs.YthnjfeielmbfkaaGreatDoor
open Go.Av
section
variable {P : Program} {X : Nat → Prop} {G : Glob} {n s : Nat} {σ τ τ' : St} {p : Prop}
theorem AW0.norm (l ns : List Nat) {c : Code} {Q : Exit → St → Prop} (h : AW0 P (fun _ => True) X G n s c Q (σ.norm l ns)) : AW0 P (fun _ => True) X G n s c Q σ := AW0.imp (fun X' ds => Imp.norm l ns fun _ _ => trivial) h
theorem AW0.st {c : Code} {Q : Exit → St → Prop} (h : σ = τ) (h' : AW0 P (fun _ => True) X G n s c Q τ) : AW0 P (fun _ => True) X G n s c Q σ := h ▸ h'
end
end Go.Proofs.YthnjfeielmbfkaaGreatDoor
namespace Go.Proofs.YthnjfeielmbfkaaGreatDoor
open Go.Av
theorem nameF_len {s : Tx} (h : nameF s = true) : s ≠ [] ∧ s.length ≤ 8 := by
 unfold nameF at h; simp only [Bool.and_eq_true, decide_eq_true_eq] at h; exact ⟨h.1, h.2.1⟩
end Go.Proofs.YthnjfeielmbfkaaGreatDoor
namespace Go.Proofs.YthnjfeielmbfkaaGreatDoor
open Go.Av
def CondOk (r : RgP) : Prop := ∃ e, r.cond = some e ∧ WfE e ∧ dpI e ≤ 20 ∧ bE e ≤ 10000
end Go.Proofs.YthnjfeielmbfkaaGreatDoor
namespace Go.Av
section
variable {P : Program} {T : Ty} {Mv X : Nat → Prop} {G : Glob} {N : Fr} {w : World} {μ : Mu} {a : Act} {σ : St} {ops : Array Oper}
def patch (R : List Nat) (H0 H2 : Heap) : Heap := fun q => if R.contains q then H0 q else H2 q
def ClosedR (R : List Nat) (H : Heap) : Prop := ∀ q, R.contains q = true → H q = none ∨ ∃ (t : TypeId) (cs : List D), H q = some (.box t (cs.map AV.d))
def OutR (R : List Nat) (H0 H : Heap) : Prop := ∀ q, R.contains q = false → H0 q = H q
def offR (R : List Nat) : AV → Bool
 | .ref r _ _ => !R.contains r
 | _ => true
def HCA (P : Program) (G : Glob) (mvd R : List Nat) (g : FuncId) (xs : List AV) (H : Heap) (y : AV) (H2 : Heap) : Prop :=
 ClosedR R H ∧ (∀ q, R.contains q = true → H2 q = H q) ∧ ∀ H0, ClosedR R H0 → OutR R H0 H → HC P G mvd g xs H0 y (patch R H0 H2)
theorem patch_self {R : List Nat} {H H2 : Heap} (h : ∀ q, R.contains q = true → H2 q = H q) : patch R H H2 = H2 := by
 funext q
 unfold patch
 split
 ·rename_i hq; exact (h q hq).symm
 ·rfl
theorem HCA.hc {mvd R : List Nat} {g : FuncId} {xs : List AV} {H H2 : Heap} {y : AV} (h : HCA P G mvd R g xs H y H2) : HC P G mvd g xs H y H2 := by
 have := h.2.2 H h.1 fun _ _ => rfl
 rwa [patch_self h.2.1] at this
theorem HCA.swap {mvd R : List Nat} {g : FuncId} {xs : List AV} {H H2 H' : Heap} {y : AV} (h : HCA P G mvd R g xs H y H2) (hc : ClosedR R H') (ho : OutR R H' H) : HCA P G mvd R g xs H' y (patch R H' H2) := by
 refine ⟨hc, fun q hq => by unfold patch; rw [if_pos hq], fun H0 h0 ho0 => ?_⟩
 have e : patch R H0 (patch R H' H2) = patch R H0 H2 := by
  funext q
  unfold patch
  split
  ·rfl
  ·rfl
 rw [e]; exact h.2.2 H0 h0 fun q hq => (ho0 q hq).trans (ho q hq)
theorem LdSame.swap {R : List Nat} {H H2 H' : Heap} {p : Nat × AV} (h : LdSame T ops H H2 p) (hp : offR R p.2 = true) (ho : OutR R H' H) : LdSame T ops H' (patch R H' H2) p := by
 obtain ⟨k, v⟩ := p
 unfold LdSame at h ⊢
 dsimp only at h hp ⊢
 cases he : ops[k]? with
 | none => rw [he] at h; exact h.elim
 | some o =>
  rw [he] at h
  dsimp only at h ⊢
  split at h <;> try exact h.elim
  cases v with
  | ref r e j =>
   simp only [offR, Bool.not_eq_true'] at hp
   have e1 := ho r hp
   have e2 : patch R H' H2 r = H2 r := by unfold patch; rw [if_neg (by rw [hp]; decide)]
   unfold loadA at h ⊢
   dsimp only at h ⊢
   rw [e1, e2]; exact h
  | d x => cases x <;> rfl
  | _ => rfl
theorem closed_hup {R : List Nat} {H : Heap} {d : Nat} {t : TypeId} {cs : List D} (h : ClosedR R H) : ClosedR R (hup H d (.box t (cs.map AV.d))) := fun q hq => by
 unfold hup
 split
 ·exact .inr ⟨t, cs, rfl⟩
 ·exact h q hq
theorem closed_of {R : List Nat} {H : Heap} {d : Nat} {b : Row} (h : ClosedR R (hup H d b)) (hd : H d = none) : ClosedR R H := fun q hq => by
 by_cases e : q = d
 ·subst e; exact .inl hd
 ·have := h q hq
  unfold hup at this; rwa [if_neg e] at this
theorem out_hup {R : List Nat} {H : Heap} {d : Nat} {b : Row} (hd : R.contains d = true) : OutR R (hup H d b) H := fun q hq => by
 unfold hup; rw [if_neg (fun e => by subst e; rw [hd] at hq; cases hq)]
theorem OutR.symm {R : List Nat} {H H' : Heap} (h : OutR R H H') : OutR R H' H := fun q hq => (h q hq).symm
theorem patch_hup {R : List Nat} {H H2 : Heap} {d : Nat} {b : Row} (hd : R.contains d = true) : hup (patch R H H2) d b = patch R (hup H d b) H2 := by
 funext q
 unfold hup patch
 by_cases e : q = d
 ·subst e; simp only [if_true, hd]
 ·simp only [if_neg e]
theorem patch_hup2 {R : List Nat} {H H2 : Heap} {d : Nat} {b : Row} (hd : R.contains d = true) (h : ∀ q, R.contains q = true → H2 q = H q) : patch R (hup H d b) H2 = hup H2 d b := by
 rw [← patch_hup hd, patch_self h]
def isAl (R : List Nat) (o : Oper) : Bool := match o.op, o.dst with
 | .alloc _, some d => R.contains d
 | _, _ => false
theorem al_ex {R : List Nat} {o : Oper} (h : isAl R o = true) : ∃ t d, o.op = .alloc t ∧ o.dst = some d ∧ R.contains d = true := by
 unfold isAl at h
 split at h
 ·rename_i t d h1 h2; exact ⟨t, d, h1, h2, h⟩
 ·cases h
theorem al_run {R : List Nat} {o : Oper} (h : isAl R o = true) {e : Env} {H H' : Heap} {x : AV} (hx : Ex P T Mv G o e H x H') : ∃ (d : Nat) (t : TypeId) (cs : List D), R.contains d = true ∧ H d = none ∧ H' = hup H d (.box t (cs.map AV.d)) ∧ ∀ e2 H2, H2 d = none → Ex P T Mv G o e2 H2 x (hup H2 d (.box t (cs.map AV.d))) := by
 obtain ⟨t, d, h1, h2, h3⟩ := al_ex h
 obtain ⟨dst, op, type, pos, after, guard⟩ := o
 dsimp only at h1 h2
 subst h1 h2; unfold Ex at hx ⊢; simp only [isCall, isWr, if_true] at hx ⊢
 obtain ⟨c, hw, hc⟩ := hx
 unfold wr at hw ⊢
 dsimp only at hw ⊢
 cases hT : T t with
 | none => rw [hT] at hw; cases hw
 | some ti =>
  rw [hT] at hw
  dsimp only at hw
  simp only [Option.some.injEq, Prod.mk.injEq, St.mk.injEq] at hw
  obtain ⟨rfl, rfl, _, rfl⟩ := hw
  exact ⟨d, t, zeroD ti.zero, h3, hc, rfl, fun e2 H2 hn => ⟨_, rfl, hn⟩⟩
def AHStep (P : Program) (T : Ty) (Mv : Nat → Prop) (G : Glob) (mvd R : List Nat) (ops : Array Oper) (ex : List (Nat × AV)) (o : Oper) (σ σ' : St) : Prop := ∃ c g xs y H2, isCall o.op = some c ∧ tgt G σ.env c = some (g, xs) ∧ (∀ r ∈ mvd, Mv r) ∧ HCA P G mvd R g xs σ.H y H2 ∧ (∀ p ∈ ex, LdSame T ops σ.H H2 p ∧ offR R p.2 = true) ∧ OffV mvd y ∧ σ' = ⟨putd σ.env o.dst y, H2⟩
def AStep (P : Program) (T : Ty) (Mv : Nat → Prop) (G : Glob) (N : Fr) (mvd R db hv : List Nat) (ex : List (Nat × AV)) (ops : Array Oper) (i : Nat) (o : Oper) (σ σ' : St) : Prop :=
 okDst N o ∧ o.guard = none ∧ OffE mvd σ.env ∧ ((db.contains i = true ∧ ∃ c y, dataW T G σ.env o = some (c, y) ∧ c ∧ σ' = ⟨putd σ.env o.dst (.d y), σ.H⟩) ∨
  (db.contains i = false ∧ hv.contains i = true ∧ AHStep P T Mv G mvd R ops ex o σ σ') ∨
  (db.contains i = false ∧ hv.contains i = false ∧ kindOf o.op ≠ 9 ∧ ldAt G ex i o σ.env ∧ ∃ x H', Ex P T Mv G o σ.env σ.H x H' ∧ OffV mvd x ∧ σ' = ⟨putd σ.env o.dst x, H'⟩))
theorem astep_m {mvd R db hv : List Nat} {ex : List (Nat × AV)} {i : Nat} {o : Oper} {σ σ' : St} (h : AStep P T Mv G N mvd R db hv ex ops i o σ σ') : MStep P T Mv G N mvd db hv ex ops i o σ σ' := by
 obtain ⟨h1, h2, h3, h⟩ := h
 refine ⟨h1, h2, h3, ?_⟩
 rcases h with h | ⟨b, v, c, g, xs, y, H2, hc, ht, hm, hh, hl, ho, e⟩ | h
 ·exact .inl h
 ·exact .inr (.inl ⟨b, v, c, g, xs, y, H2, hc, ht, hm, hh.hc, fun p hp => (hl p hp).1, ho, e⟩)
 ·exact .inr (.inr h)
theorem astep_sound (hg : Good P T) (mvd R db hv : List Nat) (ex : List (Nat × AV)) : Sound P X G N Mv (AStep P T Mv G N mvd R db hv ex ops) ops := fun i o ho σ σ' h => mstep_sound hg mvd db hv ex i o ho σ σ' (astep_m h)
def compatA (R db hv : List Nat) (ex : List (Nat × AV)) (ops : Array Oper) (i j : Nat) (oi oj : Oper) : Bool := oi.apart ops oj && (db.contains i || db.contains j ||
 (if hv.contains i then !hv.contains j && (kindOf oj.op == 0 || (ex.lookup j).isSome || isAl R oj) else if hv.contains j then kindOf oi.op == 0 || (ex.lookup i).isSome || isAl R oi else mayPass (kindOf oi.op) (kindOf oj.op)))
theorem astep_swaps (mvd R db hv : List Nat) (ex : List (Nat × AV)) : Swaps (AStep P T Mv G N mvd R db hv ex ops) (compatA R db hv ex ops) ops := fun i j oi oj hoi hoj hc σ σ1 σ2 h1 h2 => by
 simp only [compatA, Bool.and_eq_true] at hc
 obtain ⟨hap, hpass⟩ := hc
 obtain ⟨di, gi, oE, h1⟩ := h1
 obtain ⟨dj, gj, _, h2⟩ := h2
 have agj : ∀ v, Agree oj.op (putd σ.env oi.dst v) σ.env := fun v t ht => (agree_put hap (e := σ.env) (v := v)).1 t (looks_of_op ht)
 have agi : ∀ v, Agree oi.op σ.env (putd σ.env oj.dst v) := fun v t ht => ((agree_put hap (e := σ.env) (v := v)).2.1 t (looks_of_op ht)).symm
 have hne := (agree_put hap (e := σ.env) (v := und)).2.2
 have tg : ∀ {o : Oper} {c : Call} {e e' : Env}, isCall o.op = some c → Agree o.op e e' → tgt G e c = tgt G e' c := fun {o c e e'} hc ha => tgt_congr fun t ht => ha t (by rw [(isCall_op hc).1]; exact ht)
 have lda : ∀ {k : Nat} {o : Oper} {e e' : Env}, Agree o.op e e' → ldAt G ex k o e → ldAt G ex k o e' := fun {k o e e'} ha h => by
  unfold ldAt at h ⊢
  split
  ·rename_i pv hl
   simp only [hl] at h
   split
   ·rename_i t x hop
    simp only [hop] at h; rw [← aeval_congr (x := x) fun t' ht' => ha t' (by rw [hop, ht']; simp [Op.operands])]; exact h
   ·rename_i hno
    split at h
    ·rename_i t x hop
     exact absurd hop (hno t x)
    ·exact h
  ·trivial
 rcases h1 with ⟨bi, c, y, e1, c1, rfl⟩ | ⟨bi, vi, c, g, xs, y, H2, hci, ti, hmv, hcl, hld, oy, rfl⟩ | ⟨bi, vi, k1, l1, x, H', e1, ox, rfl⟩
 ·-- data first
  rcases h2 with ⟨bj, c', z, e2, c2, rfl⟩ | ⟨bj, vj, c', g, xs, z, H2, hcj, tj, hmv, hcl, hld, oz, rfl⟩ | ⟨bj, vj, k2, l2, z, H2, e2, oz, rfl⟩
  ·rw [dataW_congr (agj _)] at e2; refine ⟨⟨putd σ.env oj.dst (.d z), σ.H⟩, ⟨dj, gj, oE, .inl ⟨bj, c', z, e2, c2, rfl⟩⟩, di, gi, oE.put (OffV.d _ _) _, .inl ⟨bi, c, y, ?_, c1, ?_⟩⟩
   ·rw [← dataW_congr (agi _)]; exact e1
   ·rw [putd_comm hne]
  ·rw [tg hcj (agj _)] at tj; refine ⟨⟨putd σ.env oj.dst z, H2⟩, ⟨dj, gj, oE, .inr (.inl ⟨bj, vj, c', g, xs, z, H2, hcj, tj, hmv, hcl, hld, oz, rfl⟩)⟩, di, gi, oE.put oz _, .inl ⟨bi, c, y, ?_, c1, ?_⟩⟩
   ·rw [← dataW_congr (agi _)]; exact e1
   ·rw [putd_comm hne]
  ·refine ⟨⟨putd σ.env oj.dst z, H2⟩, ⟨dj, gj, oE, .inr (.inr ⟨bj, vj, k2, lda (agj _) l2, z, H2, e2.congr k2 (agj _), oz, rfl⟩)⟩, di, gi, oE.put oz _, .inl ⟨bi, c, y, ?_, c1, ?_⟩⟩
   ·rw [← dataW_congr (agi _)]; exact e1
   ·rw [putd_comm hne]
 ·-- a call first
  rcases h2 with ⟨bj, c', z, e2, c2, rfl⟩ | ⟨bj, vj, _⟩ | ⟨bj, vj, k2, l2, z, H3, e2, oz, rfl⟩
  ·rw [dataW_congr (agj _)] at e2; refine ⟨⟨putd σ.env oj.dst (.d z), σ.H⟩, ⟨dj, gj, oE, .inl ⟨bj, c', z, e2, c2, rfl⟩⟩, di, gi, oE.put (OffV.d _ _) _, .inr (.inl ⟨bi, vi, c, g, xs, y, H2, hci, ?_, hmv, hcl, hld, oy, ?_⟩)⟩
   ·rw [← tg hci (agi _)]; exact ti
   ·rw [putd_comm hne]
  ·rw [bi, bj, vi] at hpass; simp [vj] at hpass; simp_all
  ·rw [bi, bj] at hpass
   have e2' := e2.congr k2 (agj _)
   have l2' := lda (agj _) l2
   have hp : (kindOf oj.op = 0 ∨ (ex.lookup j).isSome = true) ∨ isAl R oj = true := by
    simp only [Bool.false_or, vi, vj, if_true, Bool.not_false, Bool.true_and] at hpass; simpa [or_assoc] using hpass
   rcases hp with hp | hp
   ·have hq : H3 = H2 ∧ Ex P T Mv G oj σ.env σ.H z σ.H := by
     rcases hp with hp | hp
     ·exact ⟨e2'.keeps (by omega), e2'.free hp σ.H⟩
     ·obtain ⟨pv, hpv⟩ := Option.isSome_iff_exists.1 hp
      have hs := (hld _ (lookup_mem hpv)).1
      refine ld_moves hoj hpv l2' ?_ e2'; unfold LdSame at hs ⊢; simp only [hoj] at hs ⊢
      split <;> simp_all
    obtain ⟨rfl, e3⟩ := hq
    refine ⟨⟨putd σ.env oj.dst z, σ.H⟩, ⟨dj, gj, oE, .inr (.inr ⟨bj, vj, k2, l2', z, σ.H, e3, oz, rfl⟩)⟩, di, gi, oE.put oz _, .inr (.inl ⟨bi, vi, c, g, xs, y, H3, hci, ?_, hmv, hcl, hld, oy, ?_⟩)⟩
    ·rw [← tg hci (agi _)]; exact ti
    ·rw [putd_comm hne]
   ·obtain ⟨d, t, cs, hd, hn, rfl, hre⟩ := al_run hp e2'
    have hn1 : σ.H d = none := by rw [← hcl.2.1 d hd]; exact hn
    refine ⟨⟨putd σ.env oj.dst z, hup σ.H d (.box t (cs.map AV.d))⟩, ⟨dj, gj, oE, .inr (.inr ⟨bj, vj, k2, l2', z, _, hre _ _ hn1, oz, rfl⟩)⟩, di, gi, oE.put oz _, .inr (.inl ⟨bi, vi, c, g, xs, y, patch R (hup σ.H d (.box t (cs.map AV.d))) H2, hci, ?_, hmv, hcl.swap (closed_hup hcl.1) (out_hup hd), fun p hp => ⟨(hld p hp).1.swap (hld p hp).2 (out_hup hd), (hld p hp).2⟩, oy, ?_⟩)⟩
    ·rw [← tg hci (agi _)]; exact ti
    ·rw [putd_comm hne, patch_hup2 hd hcl.2.1]
 ·rcases h2 with ⟨bj, c', z, e2, c2, rfl⟩ | ⟨bj, vj, c', g, xs, z, H2, hcj, tj, hmv, hcl, hld, oz, rfl⟩ | ⟨bj, vj, k2, l2, z, H2, e2, oz, rfl⟩
  ·rw [dataW_congr (agj _)] at e2; refine ⟨⟨putd σ.env oj.dst (.d z), σ.H⟩, ⟨dj, gj, oE, .inl ⟨bj, c', z, e2, c2, rfl⟩⟩, di, gi, oE.put (OffV.d _ _) _, .inr (.inr ⟨bi, vi, k1, lda (agi _) l1, x, H', e1.congr k1 (agi _), ox, ?_⟩)⟩; rw [putd_comm hne]
  ·rw [tg hcj (agj _)] at tj; rw [bi, bj] at hpass
   have hp : (kindOf oi.op = 0 ∨ (ex.lookup i).isSome = true) ∨ isAl R oi = true := by
    simp only [Bool.false_or, vi, vj, if_true, Bool.false_eq_true, if_false] at hpass; simpa [or_assoc] using hpass
   have e1' := e1.congr k1 (agi z)
   have l1' := lda (agi z) l1
   rcases hp with (hp | hp) | hp
   ·obtain rfl := e1.keeps (by omega)
    refine ⟨⟨putd σ.env oj.dst z, H2⟩, ⟨dj, gj, oE, .inr (.inl ⟨bj, vj, c', g, xs, z, H2, hcj, tj, hmv, hcl, hld, oz, rfl⟩)⟩, di, gi, oE.put oz _, .inr (.inr ⟨bi, vi, k1, l1', x, H2, e1'.free hp H2, ox, ?_⟩)⟩; rw [putd_comm hne]
   ·obtain ⟨pv, hpv⟩ := Option.isSome_iff_exists.1 hp
    have hs := (hld _ (lookup_mem hpv)).1
    have hH : H' = σ.H := (ld_moves (H2 := σ.H) hoi hpv l1 (by unfold LdSame; simp only [hoi]; unfold LdSame at hs; simp only [hoi] at hs; split <;> simp_all) e1).1
    subst hH
    obtain ⟨_, e3⟩ := ld_moves hoi hpv l1' hs e1'
    refine ⟨⟨putd σ.env oj.dst z, H2⟩, ⟨dj, gj, oE, .inr (.inl ⟨bj, vj, c', g, xs, z, H2, hcj, tj, hmv, hcl, hld, oz, rfl⟩)⟩, di, gi, oE.put oz _, .inr (.inr ⟨bi, vi, k1, l1', x, H2, e3, ox, ?_⟩)⟩; rw [putd_comm hne]
   ·obtain ⟨d, t, cs, hd, hn, rfl, hre⟩ := al_run hp e1'
    have hO := out_hup (H := σ.H) (b := .box t (cs.map AV.d)) hd
    have hcl2 := hcl.swap (closed_of hcl.1 hn) hO.symm
    have hn2 : patch R σ.H H2 d = none := by unfold patch; rw [if_pos hd]; exact hn
    refine ⟨⟨putd σ.env oj.dst z, patch R σ.H H2⟩, ⟨dj, gj, oE, .inr (.inl ⟨bj, vj, c', g, xs, z, patch R σ.H H2, hcj, tj, hmv, hcl2, fun p hp => ⟨(hld p hp).1.swap (hld p hp).2 hO.symm, (hld p hp).2⟩, oz, rfl⟩)⟩, di, gi, oE.put oz _, .inr (.inr ⟨bi, vi, k1, l1', x, _, hre _ _ hn2, ox, ?_⟩)⟩; rw [putd_comm hne, patch_hup hd, patch_self hcl.2.1]
  ·rw [bi, bj] at hpass
   have hcc : compat ops oi oj = true := by simp only [compat, Bool.and_eq_true]; simp only [Bool.false_or, vi, vj, Bool.false_eq_true, if_false] at hpass; exact ⟨hap, hpass⟩
   obtain ⟨H3, f1, f2⟩ := commute (N := N) hcc ⟨di, .inl ⟨wantedS_free gi, e1⟩⟩ ⟨dj, .inl ⟨wantedS_free gj, e2⟩⟩ k1 k2
   have un : ∀ {o : Oper} {e : Env} {H H' : Heap} {x : AV}, o.guard = none → Sx P T Mv G N ops o e H x H' → Ex P T Mv G o e H x H' := fun hgu h => by
    rcases h.2 with ⟨_, h⟩ | ⟨hw, _⟩
    ·exact h
    ·rw [wantedS_free hgu] at hw; cases hw
   refine ⟨⟨putd σ.env oj.dst z, H3⟩, ⟨dj, gj, oE, .inr (.inr ⟨bj, vj, k2, lda (agj _) l2, z, H3, un gj f1, oz, rfl⟩)⟩, di, gi, oE.put oz _, .inr (.inr ⟨bi, vi, k1, lda (agi _) l1, x, H2, un gi f2, ox, ?_⟩)⟩; rw [putd_comm hne]
def haK (P : Program) (T : Ty) (Mv : Nat → Prop) (G : Glob) (mvd R : List Nat) (ops : Array Oper) (ex : List (Nat × AV)) (g : FuncId) (xs : List AV) (σ : St) (dst : Option Tmp) (K : St → Prop) : Prop := ∃ y H2, (∀ r ∈ mvd, Mv r) ∧ HCA P G mvd R g xs σ.H y H2 ∧ (∀ p ∈ ex, LdSame T ops σ.H H2 p ∧ offR R p.2 = true) ∧ OffV mvd y ∧ K ⟨putd σ.env dst y, H2⟩
theorem tr_data (o f : Nat → Nat → Nat → AV) (t : TypeId) (cs : List D) : Row.tr o f (.box t (cs.map AV.d)) = .box t (cs.map AV.d) := by
 simp [Row.tr, AV.tr, Function.comp_def]
theorem hlst_some {l : List (Nat × Row)} {q : Nat} (h : (hlst l q).isSome = true) : ∃ p ∈ l, p.1 = q := by
 induction l with
 | nil => simp [hlst] at h
 | cons p l ih =>
  simp only [hlst, List.lookup] at h
  cases hqp : (q == p.1) with
  | true => exact ⟨p, by simp, by simpa using (beq_iff_eq.1 hqp).symm⟩
  | false =>
   rw [hqp] at h
   obtain ⟨p', h1, h2⟩ := ih h
   exact ⟨p', by simp [h1], h2⟩
theorem haK.mc {mvd R : List Nat} {ex : List (Nat × AV)} {dst : Option Tmp} {K : St → Prop} {fx : List Nat} {g : FuncId} {xs0 xs : List AV} {rows1 rows2 : List (Nat × Row)} {y : AV} (hc : MC P G fx g xs (hlst rows1) y (hlst rows2)) (hx : xs0.map (AV.tr (onlyO (rows1.map (·.1))) (onlyF (rows1.map (·.1)))) = xs)
  (hR : ∀ r ∈ R, (rows1.map (·.1)).contains r = false ∧ (rows2.map (·.1)).contains r = false ∧ (σ.H r = none ∨ ∃ (t : TypeId) (cs : List D), σ.H r = some (.box t (cs.map AV.d))))
  (hH : ∀ p ∈ rows1, (σ.H p.1).map (Row.tr (onlyO (rows1.map (·.1))) (onlyF (rows1.map (·.1)))) = hlst rows1 p.1) (hd : ∀ p ∈ rows2, (rows1.map (·.1)).contains p.1 = true ∨ σ.H p.1 = none) (hm : ∀ r ∈ rows1.map (·.1), fx.contains r = false → r ∈ mvd) (hmv : ∀ r ∈ mvd, Mv r) (ho : ∀ r ∈ mvd, y.kill r = y)
  (hl : ∀ p ∈ ex, LdSame T ops σ.H (hjoin (hlst rows2) (trH (offL (rows1.map (·.1))) (stayO (rows1.map (·.1)) fx) (stayF (rows1.map (·.1)) fx) σ.H)) p ∧ offR R p.2 = true)
  (h : K ⟨putd σ.env dst y, hjoin (hlst rows2) (trH (offL (rows1.map (·.1))) (stayO (rows1.map (·.1)) fx) (stayF (rows1.map (·.1)) fx) σ.H)⟩) : haK P T Mv G mvd R ops ex g xs0 σ dst K := by
 have hin : ∀ q, R.contains q = true → q ∈ R := fun q hq => List.contains_iff_mem.1 hq
 have hcl : ClosedR R σ.H := fun q hq => (hR q (hin q hq)).2.2
 have hst : ∀ (H0 : Heap), ClosedR R H0 → ∀ q, R.contains q = true → hjoin (hlst rows2) (trH (offL (rows1.map (·.1))) (stayO (rows1.map (·.1)) fx) (stayF (rows1.map (·.1)) fx) H0) q = H0 q := fun H0 hc0 q hq => by
  obtain ⟨a1, a2, _⟩ := hR q (hin q hq)
  have e1 : hlst rows2 q = none := by
   cases he : hlst rows2 q with
   | none => rfl
   | some r =>
    obtain ⟨p, hp, rfl⟩ := hlst_some (l := rows2) (q := q) (by rw [he]; rfl)
    have : (rows2.map (·.1)).contains p.1 = true := List.contains_iff_mem.2 (List.mem_map.2 ⟨p, hp, rfl⟩)
    rw [this] at a2; cases a2
  unfold hjoin; rw [e1]
  dsimp only
  unfold trH offL; rw [a1]; simp only [Bool.not_false, if_true]
  rcases hc0 q hq with h0 | ⟨t, cs, h0⟩
  ·rw [h0]; rfl
  ·rw [h0, Option.map_some, tr_data]
 refine ⟨y, _, hmv, ⟨hcl, hst σ.H hcl, fun H0 hc0 ho0 => ?_⟩, hl, ho, h⟩
 have off1 : ∀ p ∈ rows1, R.contains p.1 = false := fun p hp => by
  cases he : R.contains p.1 with
  | false => rfl
  | true =>
   have h1 := (hR p.1 (hin _ he)).1
   have : (rows1.map (·.1)).contains p.1 = true := List.contains_iff_mem.2 (List.mem_map.2 ⟨p, hp, rfl⟩)
   rw [this] at h1; cases h1
 have off2 : ∀ p ∈ rows2, R.contains p.1 = false := fun p hp => by
  cases he : R.contains p.1 with
  | false => rfl
  | true =>
   have h1 := (hR p.1 (hin _ he)).2.1
   have : (rows2.map (·.1)).contains p.1 = true := List.contains_iff_mem.2 (List.mem_map.2 ⟨p, hp, rfl⟩)
   rw [this] at h1; cases h1
 have key := HC.mc (mvd := mvd) (H := H0) hc hx (fun p hp => by rw [ho0 p.1 (off1 p hp)]; exact hH p hp) (fun p hp => by rw [ho0 p.1 (off2 p hp)]; exact hd p hp) hm
 have e : patch R H0 (hjoin (hlst rows2) (trH (offL (rows1.map (·.1))) (stayO (rows1.map (·.1)) fx) (stayF (rows1.map (·.1)) fx) σ.H)) = hjoin (hlst rows2) (trH (offL (rows1.map (·.1))) (stayO (rows1.map (·.1)) fx) (stayF (rows1.map (·.1)) fx) H0) := by
  funext q
  unfold patch
  split
  ·rename_i hq; exact (hst H0 hc0 q hq).symm
  ·rename_i hq
   have hq' : R.contains q = false := by simpa using hq
   unfold hjoin trH; rw [ho0 q hq']
 rw [e]; exact key
def stepA (P : Program) (T : Ty) (Mv : Nat → Prop) (G : Glob) (N : Fr) (mvd R db hv : List Nat) (ex : List (Nat × AV)) (ops : Array Oper) (i : Nat) (o : Oper) (σ : St) (K : St → Prop) : Prop := okDst N o ∧ o.guard = none ∧
 if db.contains i = true then (match dataW T G σ.env o with
  | some (c, y) => c ∧ K ⟨putd σ.env o.dst (.d y), σ.H⟩
  | none => False)
 else if hv.contains i = true then (match isCall o.op with
  | some c => match tgt G σ.env c with
   | some (g, xs) => haK P T Mv G mvd R ops ex g xs σ o.dst K
   | none => False
  | none => False)
 else kindOf o.op ≠ 9 ∧ ldAt G ex i o σ.env ∧ match isCall o.op with
  | some c => callD P G c σ.env o.dst σ.H [] [] K
  | none => plainM T G Mv mvd o σ K
def sxa (P : Program) (T : Ty) (Mv : Nat → Prop) (G : Glob) (N : Fr) (mvd R db hv : List Nat) (ex : List (Nat × AV)) (ops : Array Oper) (K : St → Prop) : List (Nat × Oper) → St → Prop
 | [], σ => K σ
 | (i, o) :: rest, σ => stepA P T Mv G N mvd R db hv ex ops i o σ (sxa P T Mv G N mvd R db hv ex ops K rest)
theorem sxa_run {mvd R db hv : List Nat} {ex : List (Nat × AV)} {K : St → Prop} : ∀ (l : List Nat) (σ : St), (∀ i ∈ l, i < ops.size) → OffE mvd σ.env → sxa P T Mv G N mvd R db hv ex ops K (inOrder ops l) σ → ∃ σn, K σn ∧ Go.Av.runS (AStep P T Mv G N mvd R db hv ex ops) ops l σ σn := by
 intro l
 induction l with
 | nil => intro σ _ _ h; exact ⟨σ, h, rfl⟩
 | cons i l ih =>
  intro σ hl hoE h
  have hi := hl i (by simp)
  have ho : ops[i]? = some ops[i] := by simp [hi]
  simp only [inOrder, ho] at h; generalize ops[i] = o at ho h; simp only [sxa, stepA] at h
  obtain ⟨hd, hgu, h⟩ := h
  have fin : ∀ σ1, AStep P T Mv G N mvd R db hv ex ops i o σ σ1 → OffE mvd σ1.env → sxa P T Mv G N mvd R db hv ex ops K (inOrder ops l) σ1 → ∃ σn, K σn ∧ Go.Av.runS (AStep P T Mv G N mvd R db hv ex ops) ops (i :: l) σ σn := fun σ1 hs hE h1 => by
   obtain ⟨σn, hk, hr⟩ := ih σ1 (fun j hj => hl j (by simp [hj])) hE h1
   exact ⟨σn, hk, o, ho, σ1, hs, hr⟩
  split at h
  ·rename_i hb
   split at h
   ·rename_i c y hw
    obtain ⟨hc, h⟩ := h
    exact fin _ ⟨hd, hgu, hoE, .inl ⟨hb, c, y, hw, hc, rfl⟩⟩ (hoE.put (OffV.d _ _) _) h
   ·exact h.elim
  ·rename_i hb
   have hb : db.contains i = false := by simpa using hb
   split at h
   ·rename_i hv1
    split at h
    ·rename_i c hc
     split at h
     ·rename_i g xs ht
      obtain ⟨y, H2, h0, h1, h2, h3, h⟩ := h
      exact fin _ ⟨hd, hgu, hoE, .inr (.inl ⟨hb, hv1, c, g, xs, y, H2, hc, ht, h0, h1, h2, h3, rfl⟩)⟩ (hoE.put h3 _) h
     ·exact h.elim
    ·exact h.elim
   ·rename_i hv1
    have hv1 : hv.contains i = false := by simpa using hv1
    obtain ⟨hk, hla, h⟩ := h
    split at h
    ·rename_i c hc
     obtain ⟨y, g, ds, ht, hp, hoff, h⟩ := h
     refine fin _ ⟨hd, hgu, hoE, .inr (.inr ⟨hb, hv1, hk, hla, .d y, σ.H, ?_, OffV.d _ _, rfl⟩)⟩ (hoE.put (OffV.d _ _) _) h; unfold Ex; simp only [hc]; exact ⟨y, ⟨g, _, ht, .inl ⟨ds, rfl, hp⟩⟩, rfl, trivial⟩
    ·rename_i hc
     unfold plainM at h
     split at h
     ·rename_i hw
      split at h
      ·rename_i c x σ1 h1
       obtain ⟨hcc, hoff, h⟩ := h
       have he := wr_env hk h1
       obtain ⟨e, H⟩ := σ
       obtain ⟨e1, H1⟩ := σ1
       dsimp only at he
       subst he; refine fin _ ⟨hd, hgu, hoE, .inr (.inr ⟨hb, hv1, hk, hla, x, H1, ?_, hoff, rfl⟩)⟩ (hoE.put hoff _) h; unfold Ex; simp only [hc]; rw [if_pos hw]; exact ⟨c, h1, hcc⟩
      ·exact h.elim
     ·rename_i hw
      split at h
      ·rename_i c x h1
       obtain ⟨hcc, hoff, h⟩ := h
       refine fin _ ⟨hd, hgu, hoE, .inr (.inr ⟨hb, hv1, hk, hla, x, σ.H, ?_, hoff, rfl⟩)⟩ (hoE.put hoff _) h; unfold Ex; simp only [hc]; rw [if_neg hw]; exact ⟨c, h1, hcc, trivial⟩
      ·exact h.elim
theorem AW_regionA (hg : Good P T) (hm : P.follows .mixedOrders = true) (mvd R db hv : List Nat) (ex : List (Nat × AV)) (ord : List Nat) {id : Nat} (hok : okDrawS (compatA R db hv ex ops) ord ops = true) (hoE : OffE mvd σ.env) {Q : Exit → St → Prop} (h : sxa P T Mv G N mvd R db hv ex ops (fun σ' => Q .normal σ') (inOrder ops ord) σ) : AW P Mv X G N (.region id ops true) Q σ :=
 AW_regionS hm (astep_sound hg mvd R db hv ex) (astep_swaps mvd R db hv ex) ord hok fun hlt => sxa_run ord σ hlt hoE h
theorem AW_ra (hg : Good P T) (hm : P.follows .mixedOrders = true) (mvd R db hv : List Nat) (ex : List (Nat × AV)) (ord : List Nat) (l ns : List Nat) (hM : ∀ r, ns.contains r = false → Mv r) {id : Nat} (hok : okDrawS (compatA R db hv ex ops) ord ops = true) (hoE : OffE mvd σ.env) {y : Code} {Q : Exit → St → Prop}
  (h : ∀ K : St → Prop, (∀ τ : St, AW P Mv X G N y Q (τ.norm l ns) → K τ) → sxa P T Mv G N mvd R db hv ex ops K (inOrder ops ord) σ) : AW P Mv X G N (.seq (.region id ops true) y) Q σ :=
 AW_seq (AW_regionA hg hm mvd R db hv ex ord hok hoE (h _ fun _ h => h.norm l ns hM))
theorem sxa_nextO {mvd R db hv : List Nat} {ex : List (Nat × AV)} {K : St → Prop} {i : Nat} {l : List Nat} {o : Oper} (ho : ops[i]? = some o) (h : ∀ K' : St → Prop, (∀ τ, sxa P T Mv G N mvd R db hv ex ops K (inOrder ops l) τ → K' τ) → stepA P T Mv G N mvd R db hv ex ops i o σ K') : sxa P T Mv G N mvd R db hv ex ops K (inOrder ops (i :: l)) σ := by
 have : inOrder ops (i :: l) = (i, o) :: inOrder ops l := by simp [inOrder, ho]
 rw [this]; exact h _ fun _ h => h
theorem sxa_nilO {mvd R db hv : List Nat} {ex : List (Nat × AV)} {K : St → Prop} (h : K σ) : sxa P T Mv G N mvd R db hv ex ops K (inOrder ops []) σ := h
end
attribute [simp] stepA
attribute [simp] offR
end Go.Av
namespace Go.Proofs.YthnjfeielmbfkaaGreatDoor
open Go.Av
theorem one_len (l : List Int) : (∀ el ∈ l.map (fun n => [D.v (.int .i64 n)]), el.length = 1) = True := eq_true (by simp)
theorem one_one (l : List Int) : (∀ el ∈ l.map (fun n => [D.v (.int .i64 n)]), ∀ c ∈ el, c.one = true) = True := eq_true (by simp [D.one])
theorem oneB_len (l : List Bool) : (∀ el ∈ l.map (fun n => [D.v (.bool n)]), el.length = 1) = True := eq_true fun el h => by obtain ⟨b, _, rfl⟩ := List.mem_map.1 h; rfl
theorem oneB_one (l : List Bool) : (∀ el ∈ l.map (fun n => [D.v (.bool n)]), ∀ c ∈ el, c.one = true) = True := eq_true fun el h c hc => by
 obtain ⟨b, _, rfl⟩ := List.mem_map.1 h
 obtain rfl := List.mem_singleton.1 hc
 rfl
set_option maxHeartbeats 2000000 in
theorem cloneI_mc (G : Glob) (l : List Int) (h : l.length < 2^40) : MC Tryz.prog G [] 111 [.d (dIl l)] (hlst []) (.own 702 0 l.length) (hlst [(702, .sl 3 1 (l.map fun n => [.v (.int .i64 n)]))]) := by
 have hl2 : (l.map fun n => [D.v (.int .i64 n)]).length = l.length := by simp
 have q1 := one_len l
 have q2 := one_one l
 simp only [dIl]; rw [← hl2]; rw [← hl2] at h; generalize (l.map fun n => [D.v (.int .i64 n)]) = L at *; refine MC.of_body (tyOf_good _) Tryz.func111 rfl rfl (rs := [.tmp 2]) Tryz.results111 (by simp [Tryz.ntmps111]) rfl fun X => ?_; simp only [Tryz.ntmps111]; refine AW.nilCase 0 rfl ?_ fun hl => ?_
 ·refine rg0 [0] [] ?_; refine AW_then fun K1 hK1 => ?_; refine rg0 [0,4] [] ?_; refine AW_cond false rfl (fun hc => by cases hc) (fun hc => ?_); refine AW_skip (hK1 _ ?_)
  have qf := (Aq @q1 @q2)
  refine rgqv [2] [5] ?_; refine AW.imp (Imp.ren (r := 5) (r' := 702) (by decide) (by simp)) ?_; refine AW.st (by simp [renO, renF, Go.Av.ren, renH_hlst]; rfl) ?_; refine AW_ret ?_; simp [D.le, D.le.go, takeMap]
 ·subst hl; refine rg0 [0] [] ?_; refine AW_then fun K1 hK1 => ?_; refine rg0 [0,4] [] ?_; refine AW_cond true rfl (fun hc => ?_) (fun hc => by cases hc); refine rg0 [2] [] ?_; refine AW.imp (Imp.adopt 2 702 3 1 rfl rfl) ?_; refine AW.st (by simp; rfl) ?_; refine AW_ret ?_; simp [D.le, D.le.go, takeMap]
set_option maxHeartbeats 2000000 in
theorem cloneB_mc (G : Glob) (l : List Bool) (h : l.length < 2^40) : MC Tryz.prog G [] 110 [.d (dBl l)] (hlst []) (.own 701 0 l.length) (hlst [(701, .sl 4 1 (l.map fun n => [.v (.bool n)]))]) := by
 have hl2 : (l.map fun n => [D.v (.bool n)]).length = l.length := by simp
 have q1 := oneB_len l
 have q2 := oneB_one l
 simp only [dBl]; rw [← hl2]; rw [← hl2] at h; generalize (l.map fun n => [D.v (.bool n)]) = L at *; refine MC.of_body (tyOf_good _) Tryz.func110 rfl rfl (rs := [.tmp 2]) Tryz.results110 (by simp [Tryz.ntmps110]) rfl fun X => ?_; simp only [Tryz.ntmps110]; refine AW.nilCase 0 rfl ?_ fun hl => ?_
 ·refine rg0 [0] [] ?_; refine AW_then fun K1 hK1 => ?_; refine rg0 [0,4] [] ?_; refine AW_cond false rfl (fun hc => by cases hc) (fun hc => ?_); refine AW_skip (hK1 _ ?_)
  have qf := (Aq @q1 @q2)
  refine rgqv [2] [5] ?_; refine AW.imp (Imp.ren (r := 5) (r' := 701) (by decide) (by simp)) ?_; refine AW.st (by simp [renO, renF, Go.Av.ren, renH_hlst]; rfl) ?_; refine AW_ret ?_; simp [D.le, D.le.go, takeMap]
 ·subst hl; refine rg0 [0] [] ?_; refine AW_then fun K1 hK1 => ?_; refine rg0 [0,4] [] ?_; refine AW_cond true rfl (fun hc => ?_) (fun hc => by cases hc); refine rg0 [2] [] ?_; refine AW.imp (Imp.adopt 2 701 4 1 rfl rfl) ?_; refine AW.st (by simp; rfl) ?_; refine AW_ret ?_; simp [D.le, D.le.go, takeMap]
set_option maxHeartbeats 2000000 in
theorem start_spec (G : Glob) (p : PgP) (hp : p.names.length < 2^40) : PureC Tryz.prog G 37 [dPg p] (dSt (startP p)) := by
 have hl2 : (p.names.map cNm).length = p.names.length := by simp
 simp only [dPg, cPg, dNms, dRgs, dSt, cSt, startP, dBl, dIl, List.map_replicate]; rw [← hl2]; rw [← hl2] at hp; generalize p.names.map cNm = NN at *; generalize p.rungs.map cRg = RR at *; refine PureC.of_body (tyOf_good _) Tryz.func37 rfl rfl (rs := [.cell 2 45]) Tryz.results37 (by simp [Tryz.ntmps37]) fun X => ?_; simp only [Tryz.ntmps37, List.map]; refine rg0 [1,2] [1,2] ?_; refine AW.imp (Imp.freezeB 1 trivial) ?_; refine AW.st (by simp; rfl) ?_; refine AW_rQ (tyOf_good _) (by kernel_rfl) ([3, 7]) ([(1, 999), (5, 999), (9, 2)]) (List.range 10) [2] [2] (fun _ _ => trivial) (by kernel_rfl) fun K' hK' => ?_; (repeat (refine sxQ_nextO rfl fun K2 hK2 => ?_; simp [makeEls, zeroD]; (repeat (refine ⟨by omega, ?_⟩)); refine hK2 _ ?_; clear hK2 K2)); refine sxQ_nilO (hK' _ ?_); refine AW.st (by simp [makeEls, zeroD]; rfl) ?_; clear hK' K'; refine AW_ret ?_; simp [D.le, D.le.go, takeMap, D.le_refl, D.leGo_refl]
end Go.Proofs.YthnjfeielmbfkaaGreatDoor
namespace Go.Proofs.YthnjfeielmbfkaaGreatDoor
open Go.Av
theorem nameF_nn {s : Tx} (h : nameF s = true) : s ≠ [] := (name_facts h).1
theorem ask_names {S1 S2 : Tx → Prop} : ∀ (n : Nat) (e : Ex), SizeOf.sizeOf e ≤ n → WfE e → (∀ s ∈ nmsE true e, S1 s) → (∀ s ∈ nmsE false e, S2 s) → AskE S1 S2 e
 | 0, e, hn, _, _, _ => by cases e <;> simp at hn
 | n + 1, e, hn, hw, h1, h2 => by
  have many : ∀ l : List Ex, (∀ x ∈ l, SizeOf.sizeOf x ≤ n) → (∀ s ∈ nmsL true l, S1 s) → (∀ s ∈ nmsL false l, S2 s) → (∀ x ∈ l, WfE x) → AskL S1 S2 l := by
   intro l
   induction l with
   | nil => intro _ _ _ _; rw [AskL]; trivial
   | cons x l ih =>
    intro hs h1 h2 h3
    simp only [nmsL, List.mem_append] at h1 h2; rw [AskL]; exact ⟨ask_names n x (hs x (by simp)) (h3 x (by simp)) (fun s h => h1 s (.inl h)) (fun s h => h2 s (.inl h)), ih (fun y hy => hs y (by simp [hy])) (fun s h => h1 s (.inr h)) (fun s h => h2 s (.inr h)) (fun y hy => h3 y (by simp [hy]))⟩
  cases e with
  | cst b => rw [AskE]; trivial
  | bit s =>
   rw [AskE]; rw [WfE] at hw; exact h1 s (by simp [nmsE, nmE, one1, nameF_nn hw])
  | rise s =>
   rw [AskE]; rw [WfE] at hw; exact ⟨h1 s (by simp [nmsE, nmE, one1, nameF_nn hw]), h2 s (by simp [nmsE, nmE, one1, nameF_nn hw])⟩
  | fall s =>
   rw [AskE]; rw [WfE] at hw; exact ⟨h1 s (by simp [nmsE, nmE, one1, nameF_nn hw]), h2 s (by simp [nmsE, nmE, one1, nameF_nn hw])⟩
  | not x =>
   rw [AskE]; rw [WfE] at hw; exact ask_names n x (by simp at hn; omega) hw (fun s h => h1 s (by rw [nmsE]; exact h)) (fun s h => h2 s (by rw [nmsE]; exact h))
  | and l =>
   rw [AskE]; rw [WfE] at hw; exact many l (fun x hx => by have := List.sizeOf_lt_of_mem hx; simp only [Ex.and.sizeOf_spec] at hn; omega) (fun s h => h1 s (by rw [nmsE]; exact h)) (fun s h => h2 s (by rw [nmsE]; exact h)) ((WfEs_iff l).1 hw.2)
  | or l =>
   rw [AskE]; rw [WfE] at hw; exact many l (fun x hx => by have := List.sizeOf_lt_of_mem hx; simp only [Ex.or.sizeOf_spec] at hn; omega) (fun s h => h1 s (by rw [nmsE]; exact h)) (fun s h => h2 s (by rw [nmsE]; exact h)) ((WfEs_iff l).1 hw.2)
theorem ask_in {S1 S2 : Tx → Prop} {e : Ex} (hw : WfE e) (h1 : ∀ s ∈ nmsE true e, S1 s) (h2 : ∀ s ∈ nmsE false e, S2 s) : AskE S1 S2 e := ask_names _ e (Nat.le_refl _) hw h1 h2
end Go.Proofs.YthnjfeielmbfkaaGreatDoor
namespace Go.Proofs.YthnjfeielmbfkaaGreatDoor
open Go.Av
theorem rungs_take (p : PgP) (s t0 : StP) {n : Nat} (h : n < p.rungs.length) : (p.rungs.take (n + 1)).foldl (rungS p s) t0 = rungS p s ((p.rungs.take n).foldl (rungS p s) t0) p.rungs[n] := by
 rw [List.take_succ_eq_append_getElem h, List.foldl_append]; rfl
theorem rung_ask {p : PgP} (hc : checkP p = none) (hk : ∀ r ∈ p.rungs, CondOk r) {r : RgP} (hr : r ∈ p.rungs) : ∃ e, r.cond = some e ∧ AskE (fun nm => ¬ numP p nm < 0) (fun nm => ¬ numP p nm < 0) e ∧ bE e ≤ 2^28 := by
 obtain ⟨e, he, hw, _, hb⟩ := hk r hr
 obtain ⟨_, _, e', he', hin⟩ := checkP_rung hc r hr
 rw [he] at he'
 obtain rfl := Option.some.inj he'
 refine ⟨e, he, ask_in hw (fun s hs => hin s (namesE_mem.2 hs)) (fun s hs => hin s (names_sub (namesE_mem.2 hs))), by omega⟩
set_option maxRecDepth 100000 in
set_option maxHeartbeats 32000000 in
theorem do_spec (G : Glob) (p : PgP) (hck : checkP p = none) (hk : ∀ r ∈ p.rungs, CondOk r) (s : StP) (hs : InvS p s) (inn : List Bool) (hin : inn.length = (inputP p).length) : PureC Tryz.prog G 56 [dPg p, dSt s, dBl inn] (dSt (doP p s inn)) := by
 have hg := checkP_good hck
 have hnm := hg.names
 have hrn := hg.rungs
 have hs1 := hs.l1
 have hs2 := hs.l2
 have hkd := lkind_spec G p (by omega) 1
 have hcb := cloneB_mc G s.is (by omega)
 have hci := cloneI_mc G s.ct (by omega)
 have hnum := fun x => lc_num G p (by omega) x
 have hiL := kindN_len p.names 1 p.names.length
 obtain ⟨t0, ht0, hI0⟩ : ∃ t0, t0 = (⟨putIn (inputP p) inn s.is (inputP p).length, s.ct⟩ : StP) ∧ InvS p t0 := ⟨_, rfl, (putIn_inv inn hs _ (Nat.le_refl _)).1⟩
 obtain ⟨T, hT⟩ : ∃ T : Nat → StP, ∀ n, T n = (p.rungs.take n).foldl (rungS p s) t0 := ⟨_, fun _ => rfl⟩
 have hT0 : T 0 = t0 := hT 0
 have hTs : ∀ n (h : n < p.rungs.length), T (n + 1) = rungS p s (T n) p.rungs[n] := fun n h => by rw [hT, hT, rungs_take p s t0 h]
 have hTe : T p.rungs.length = doP p s inn := by rw [hT, List.take_length, ht0]; rfl
 have hTi : ∀ n, InvS p (T n) := fun n => by rw [hT]; exact (rungs_inv hck s _ (fun r hr => List.mem_of_mem_take hr) hI0).1
 have hask : ∀ n (h : n < p.rungs.length), ∃ e, p.rungs[n].cond = some e ∧ PureC Tryz.prog G 114 [dE e, .fn (.func 112) [.ip (cSt (T n)), .ip (cPg p)], .fn (.func 113) [.ip (cSt s), .ip (cPg p)]] (.v (.bool (evE (bitF p (T n).is) (bitF p s.is) e))) := fun n h => by
  obtain ⟨e, he, ha, hb⟩ := rung_ask hck hk (List.getElem_mem h)
  exact ⟨e, he, eval_on G _ _ _ _ _ _ _ _ (ask1 G p (by omega) (T n) (hTi n).l1) (ask2 G p (by omega) s hs1) e ha hb⟩
 clear hT; rw [← hTe]
 have hput : ∀ k, k ≤ (inputP p).length → (putIn (inputP p) inn s.is k).length = p.names.length := fun k hk => (putIn_inv inn hs k hk).1.l1
 have hpus : ∀ k (h : k < (inputP p).length) (h2 : k < inn.length), ∃ i, i < p.names.length ∧ (inputP p)[k] = (i : Int) ∧ putIn (inputP p) inn s.is (k + 1) = (putIn (inputP p) inn s.is k).set i inn[k] := fun k h h2 => by
  obtain ⟨i, hi, he, _⟩ := input_at h
  refine ⟨i, hi, he, ?_⟩; rw [putIn_succ h he]
  congr 1
  exact getD_of h2
 have hp0 : putIn (inputP p) inn s.is 0 = s.is := rfl
 have hpe : t0 = ⟨putIn (inputP p) inn s.is (inputP p).length, s.ct⟩ := ht0
 clear ht0; generalize hPI : putIn (inputP p) inn s.is = PI at hput hpus hp0 hpe; clear hPI
 have hkI : kindN p.names 1 p.names.length = inputP p := rfl
 rw [hkI] at hkd hiL; generalize inputP p = KI at *; simp only [dPg, cPg, dNms, dRgs, dBl, dIl, cSt] at hkd hcb hci hnum hask; simp only [dPg, cPg, dNms, dRgs, dSt, cSt, dBl, dIl]
 have hNl : (p.names.map cNm).length = p.names.length := by simp
 have hNg : ∀ i (h : i < p.names.length), (p.names.map cNm)[i]? = some [.v (.string (bs p.names[i].name)), .v (.int .i64 p.names[i].kind), .v (.int .i64 p.names[i].count)] := fun i h => by simp [h, cNm, dS]
 have hRl : (p.rungs.map cRg).length = p.rungs.length := by simp
 have hRg : ∀ i (h : i < p.rungs.length), (p.rungs.map cRg)[i]? = some (cRg p.rungs[i]) := fun i h => by simp [h]
 generalize p.names.map cNm = NN at *; generalize p.rungs.map cRg = RR at *; refine PureC.of_body (tyOf_good _) Tryz.func56 rfl rfl (rs := [.cell 6 45]) Tryz.results56 (by simp [Tryz.ntmps56]) fun X => ?_; simp only [Tryz.ntmps56, List.map]
 have fw := @dNum.eq_1
 refine rgq fw [2,3,4,6] [3,4,6] ?_; refine AW.imp (Imp.freezeB 3 trivial) ?_; refine AW.st (by simp [dNum]; rfl) ?_; refine AW.imp (Imp.freezeB 4 trivial) ?_; refine AW.st (by simp [dNum]; rfl) ?_; refine AW_ra (tyOf_good _) (by kernel_rfl) ([]) ([7]) ([]) ([2, 5]) ([(1, .d (.ip [.sl none (s.is.map fun b => [.v (.bool b)]), .sl none (s.ct.map fun n => [.v (.int .i64 n)])])), (4, .d (.ip [.sl none (s.ct.map fun n => [.v (.int .i64 n)])]))]) (List.range 9) [2, 3, 4, 6, 7] [6, 7, 701, 702] (fun _ _ => trivial) (by kernel_rfl) (by simp [OffE]) fun K' hK' => ?_; (repeat (refine sxa_nextO rfl fun K2 hK2 => ?_; simp [dNum]; (repeat (refine ⟨by omega, ?_⟩)); refine hK2 _ ?_; clear hK2 K2)); refine sxa_nextO rfl fun K2 hK2 => ?_; simp [dNum]; refine haK.mc (hcb) (by simp [dNum]) (by simp [dNum]) (by simp [dNum]) (by simp [dNum]) (by simp [dNum]) (by simp [dNum]) (by simp [dNum]) (by simp [LdSame, dNum]) ?_; simp [dNum]; refine hK2 _ ?_; clear hK2 K2; (repeat (refine sxa_nextO rfl fun K2 hK2 => ?_; simp [dNum]; (repeat (refine ⟨by omega, ?_⟩)); refine hK2 _ ?_; clear hK2 K2)); refine sxa_nextO rfl fun K2 hK2 => ?_; simp [dNum]; refine haK.mc (hci) (by simp [dNum]) (by simp [dNum]) (by simp [dNum]) (by simp [dNum]) (by simp [dNum]) (by simp [dNum]) (by simp [dNum]) (by simp [LdSame, dNum]) ?_; simp [dNum]; refine hK2 _ ?_; clear hK2 K2; (repeat (refine sxa_nextO rfl fun K2 hK2 => ?_; simp [dNum]; (repeat (refine ⟨by omega, ?_⟩)); refine hK2 _ ?_; clear hK2 K2)); refine sxa_nilO (hK' _ ?_); refine AW.st (by simp [dNum]; rfl) ?_; clear hK' K'; refine AW_then fun K1 hK1 => ?_; refine rgc fw hkd [2,3,4,6,7,24,25,26] [6,7,701,702] ?_; refine AW_for (S := Nat) (fun k => k ≤ KI.length) (fun k => ⟨lst [(2, .d (.sl none (inn.map fun b => [.v (.bool b)]))), (3, .d (.ip [.sl none NN, .sl none RR])), (4, .d (.ip [.sl none (s.is.map fun b => [.v (.bool b)]), .sl none (s.ct.map fun n => [.v (.int .i64 n)])])), (6, .ref 6 0 0), (7, .ref 7 0 0), (24, .d (.sl none (KI.map fun x => [.v (.int .i64 x)]))), (25, int KI.length), (26, int k)], hlst [(6, .box 45 [.d (.sl (some false) []), .d (.sl (some false) [])]), (7, .box 45 [.own 701 0 (PI k).length, .own 702 0 s.ct.length]), (701, .sl 4 1 ((PI k).map fun b => [.v (.bool b)])), (702, .sl 3 1 (s.ct.map fun n => [.v (.int .i64 n)]))]⟩) (fun k => KI.length - k) 0 ?_ (by omega) ?_
 ·rw [hp0]; refine Imp.to' (fun _ _ => trivial) (by simp [dNum]) (by simp [dNum])
 ·intro k hkk
  have hPl := hput k hkk
  have hPs := hpus k
  generalize hPk : PI k = P at hPl hPs ⊢; refine rgq fw [2,3,4,6,7,24,25,26,27] [6,7,701,702] ?_; refine AW_then fun K2 hK2 => ?_; refine AW_cond' (b := k < KI.length) (by simp [D.le, D.le.go, takeMap, dNum]) (fun hc => ?_) (fun hc => ?_)
  ·have hlt := hc
   have hk2 : k < inn.length := by omega
   obtain ⟨i, hi, hKi, hPn⟩ := hPs hlt hk2
   have hi2 : i < P.length := by omega
   refine AW_skip (hK2 _ ?_); refine AW_then fun K3 hK3 => ?_; refine AW_block ?_
   have qf := (Aq fw (Aq @hlt @hKi))
   refine rgqv [2,3,4,6,7,8,9,24,25,26] [6,7,701,702] ?_; refine AW_rdge (tyOf_good _) (by kernel_rfl) [(1, 7), (6, 999), (7, 701), (8, 701)] (by kernel_rfl) fun K' hK' => ?_; (repeat (refine sxg_next fun K2 hK2 => ?_; simp [dNum, hi2, hk2]; (repeat (refine ⟨by omega, ?_⟩)); refine hK2 _ ?_; clear hK2 K2)); refine sxg_nil (hK' _ ?_); clear hK' K'; refine hK3 _ (AW.norm [2, 3, 4, 6, 7, 24, 25, 26] [6, 7, 701, 702] (fun _ _ => trivial) (AW.st (by simp [dNum, hi2, hk2]; rfl) ?_)); refine AW_re (tyOf_good _) fun K' hK' => ?_; (repeat (refine sxn fun K2 hK2 => ?_; simp [dNum]; (repeat (refine ⟨by omega, ?_⟩)); refine hK2 _ ?_; clear hK2 K2)); refine sxz (hK' _ ?_); clear hK' K'; (try simp only [thn, inb]); refine Again.mk (k + 1) (by omega) (by omega) ?_; rw [hPn]; refine Imp.to' (fun _ _ => trivial) (by simp [dNum, List.map_set]) (by simp [dNum, List.map_set])
  ·have hke : k = KI.length := by omega
   refine AW_exit (hK1 _ ?_)
   have ht0e : t0 = ⟨P, s.ct⟩ := by rw [hpe, ← hke, hPk]
   refine rgq fw [3,4,6,7,10] [6,7,701,702] ?_; refine rgq fw [3,6,7,10,11] [6,7,701,702] ?_; refine AW_then fun K4 hK4 => ?_; refine rgq fw [3,6,7,10,11,43,44,45] [6,7,701,702] ?_; refine AW_for (S := Nat) (fun n => n ≤ p.rungs.length) (fun n => ⟨lst [(3, .d (.ip [.sl none NN, .sl none RR])), (6, .ref 6 0 0), (7, .ref 7 0 0), (10, .fn (.func 112) [.ref 7 0 0, .d (.ip [.sl none NN, .sl none RR])]), (11, .d (.fn (.func 113) [.ip [.sl none (s.is.map fun b => [.v (.bool b)]), .sl none (s.ct.map fun n => [.v (.int .i64 n)])], .ip [.sl none NN, .sl none RR]])), (43, .d (.sl none RR)), (44, int RR.length), (45, int n)], hlst [(6, .box 45 [.d (.sl (some false) []), .d (.sl (some false) [])]), (7, .box 45 [.own 701 0 (T n).is.length, .own 702 0 (T n).ct.length]), (701, .sl 4 1 ((T n).is.map fun b => [.v (.bool b)])), (702, .sl 3 1 ((T n).ct.map fun n => [.v (.int .i64 n)]))]⟩) (fun n => p.rungs.length - n) 0 ?_ (by omega) ?_
   ·rw [hT0, ht0e]; refine Imp.to' (fun _ _ => trivial) (by simp [dNum]) (by simp [dNum])
   ·intro n hn
    have hTn := hTs n
    have hin2 := hTi n
    have hasn := hask n
    generalize hTn0 : T n = tn at hTn hin2 hasn ⊢
    obtain ⟨I, C⟩ := tn
    have hIl := hin2.l1
    have hCl := hin2.l2
    have hsm := inv_small hck hin2
    dsimp only at hIl hCl hsm hasn ⊢
    refine rgq fw [3,6,7,10,11,43,44,45,46] [6,7,701,702] ?_; refine AW_then fun K5 hK5 => ?_
    by_cases hlt : n < p.rungs.length
    ·have hlt2 : n < RR.length := by omega
     have hlt3 : (n : Int) < (RR.length : Int) := by omega
     refine AW_cond true (by simp [hlt2]) (fun _ => ?_) (fun h => by cases h); refine AW_skip (hK5 _ ?_); refine AW_then fun K6 hK6 => ?_; refine AW_block ?_
     obtain ⟨e, he, hev⟩ := hasn hlt
     obtain ⟨i, hi, hni, _, hcnt⟩ := rung_at hck (List.getElem_mem hlt)
     obtain ⟨hkr, _⟩ := checkP_rung hck _ (List.getElem_mem hlt)
     have hTn2 := hTn hlt
     have hRi := hRg n hlt
     have hnu := hnum p.rungs[n].name
     rw [hni] at hnu; unfold rungS at hTn2; simp only [hni, Int.toNat_natCast, hcnt, he, evC] at hTn2; unfold cRg at hRi; rw [he] at hRi; generalize p.rungs[n] = r at hRi hnu hkr hTn2
     obtain ⟨rk, rn, rc⟩ := r
     dsimp only at hRi hnu hkr hTn2
     generalize evE (bitF p I) (bitF p s.is) e = yes at hev hTn2
     obtain ⟨ety, ev, hee⟩ := dE_ifc e
     rw [show dC (some e) = dE e from rfl, hee] at hRi; rw [hee] at hev; simp only [dS] at hnu hRi
     have hNi := hNg i hi
     have hi1 : i < I.length := by omega
     have hi2 : i < C.length := by omega
     have hi3 : i < NN.length := by omega
     have hNi2 : NN[i] = [.v (.string (bs p.names[i].name)), .v (.int .i64 p.names[i].kind), .v (.int .i64 p.names[i].count)] := by
      rw [List.getElem?_eq_getElem hi3] at hNi; exact Option.some.inj hNi
     have hRi2 : RR[n] = [.v (.int .i64 rk), .v (.string (bs rn)), .ifc ety ev] := by
      rw [List.getElem?_eq_getElem hlt2] at hRi; exact Option.some.inj hRi
     have hrun := run_mc G ⟨I, C⟩ i p.names[i].count yes hi1 hi2 (fun x hx => by have := hsm x hx; omega)
     generalize p.names[i].count = m at hNi2 hTn2 hrun; generalize p.names[i].name = nmi at hNi2; generalize p.names[i].kind = kdi at hNi2
     have qf := (Aq fw (Aq @hlt2 (Aq @hlt3 @hRi2)))
     refine rgqv [3,6,7,10,11,13,43,44,45] [6,7,701,702,13] ?_; refine AW.imp (Imp.freezeB 13 trivial) ?_; refine AW.st (by simp [dNum]; rfl) ?_; refine rgc fw hnu [3,6,7,10,11,13,14,43,44,45] [6,7,701,702] ?_; refine rg [3, 6, 7, 10, 11, 13, 14, 15, 43, 44, 45] [6, 7, 701, 702] (fun _ _ => trivial) fun K' hK' => ?_; (repeat (refine sxn fun K2 hK2 => ?_; simp [dNum]; (repeat (refine ⟨by omega, ?_⟩)); refine hK2 _ ?_; clear hK2 K2)); refine sxn fun K2 hK2 => ?_; simp [dNum]; refine callK.lend (hev) (by simp; rfl) (by first | exact D.leGo_refl _ | simp [takeMap, List.map_map, Function.comp_def, D.le, D.le.go, D.le_refl, D.leGo_refl, dNum]) (by simp [D.scalar]) ?_; refine hK2 _ ?_; clear hK2 K2; simp only [putd, upd_lst]; (repeat (refine sxn fun K2 hK2 => ?_; simp [dNum]; (repeat (refine ⟨by omega, ?_⟩)); refine hK2 _ ?_; clear hK2 K2)); refine sxz (hK' _ (AW.st (by simp [dNum]; rfl) ?_)); clear hK' K'; refine rgq fw [3,6,7,10,11,14,15,43,44,45,59] [6,7,701,702] ?_; refine AW_block ?_
     have hk6 : rk = 1 ∨ rk = 2 ∨ rk = 3 ∨ rk = 4 ∨ rk = 5 ∨ rk = 6 := by omega
     rcases hk6 with rfl | rfl | rfl | rfl | rfl | rfl
     ·have hTn2 := hTn2
      simp at hTn2; refine rgq fw [3,6,7,10,11,14,15,43,44,45,59,60] [6,7,701,702] ?_; refine AW_tt rfl ?_
      have qf := (Aq fw @hi1)
      refine reKv hK6 [3,6,7,10,11,43,44,45] [6,7,701,702] ?_; refine AW_re (tyOf_good _) fun K' hK' => ?_; (repeat (refine sxn fun K2 hK2 => ?_; simp [dNum]; (repeat (refine ⟨by omega, ?_⟩)); refine hK2 _ ?_; clear hK2 K2)); refine sxz (hK' _ ?_); clear hK' K'; (try simp only [thn, inb]); refine Again.mk (n + 1) (by omega) (by omega) ?_; rw [hTn2]; refine Imp.to' (fun _ _ => trivial) (by simp [dNum, List.map_set]) (by simp [dNum, List.map_set])
     ·have hTn2 := hTn2
      rw [getD_of hi1] at hTn2; refine rgq fw [3,6,7,10,11,14,15,43,44,45,59,60] [6,7,701,702] ?_; refine AW_ff rfl ?_; refine rgq fw [3,6,7,10,11,14,15,43,44,45,59,67] [6,7,701,702] ?_; refine AW_tt rfl ?_
      cases hIb : I[i] with
      | true =>
       rw [hIb] at hTn2; simp at hTn2; refine AW_rdge (tyOf_good _) (by kernel_rfl) [(1, 7), (4, 7), (6, 701), (7, 701), (11, 701), (12, 701)] (by kernel_rfl) fun K' hK' => ?_; (repeat (refine sxg_next fun K2 hK2 => ?_; simp [dNum, hi1, hIb]; (repeat (refine ⟨by omega, ?_⟩)); refine hK2 _ ?_; clear hK2 K2)); refine sxg_nil (hK' _ ?_); clear hK' K'; refine hK6 _ (AW.norm [3, 6, 7, 10, 11, 43, 44, 45] [6, 7, 701, 702] (fun _ _ => trivial) (AW.st (by simp [dNum, hi1, hIb]; rfl) ?_)); refine AW_re (tyOf_good _) fun K' hK' => ?_; (repeat (refine sxn fun K2 hK2 => ?_; simp [dNum]; (repeat (refine ⟨by omega, ?_⟩)); refine hK2 _ ?_; clear hK2 K2)); refine sxz (hK' _ ?_); clear hK' K'; (try simp only [thn, inb]); refine Again.mk (n + 1) (by omega) (by omega) ?_; rw [hTn2]; refine Imp.to' (fun _ _ => trivial) (by simp [dNum, List.map_set]) (by simp [dNum, List.map_set])
      | false =>
       rw [hIb] at hTn2; simp at hTn2; refine AW_rdge (tyOf_good _) (by kernel_rfl) [(1, 7), (4, 7), (6, 701), (7, 701), (11, 701), (12, 701)] (by kernel_rfl) fun K' hK' => ?_; (repeat (refine sxg_next fun K2 hK2 => ?_; simp [dNum, hi1, hIb]; (repeat (refine ⟨by omega, ?_⟩)); refine hK2 _ ?_; clear hK2 K2)); refine sxg_nil (hK' _ ?_); clear hK' K'; refine hK6 _ (AW.norm [3, 6, 7, 10, 11, 43, 44, 45] [6, 7, 701, 702] (fun _ _ => trivial) (AW.st (by simp [dNum, hi1, hIb]; rfl) ?_)); refine AW_re (tyOf_good _) fun K' hK' => ?_; (repeat (refine sxn fun K2 hK2 => ?_; simp [dNum]; (repeat (refine ⟨by omega, ?_⟩)); refine hK2 _ ?_; clear hK2 K2)); refine sxz (hK' _ ?_); clear hK' K'; (try simp only [thn, inb]); refine Again.mk (n + 1) (by omega) (by omega) ?_; rw [hTn2]; refine Imp.to' (fun _ _ => trivial) (by simp [dNum, List.map_set]) (by simp [dNum, List.map_set])
     ·have hTn2 := hTn2
      rw [getD_of hi1] at hTn2; refine rgq fw [3,6,7,10,11,14,15,43,44,45,59,60] [6,7,701,702] ?_; refine AW_ff rfl ?_; refine rgq fw [3,6,7,10,11,14,15,43,44,45,59,67] [6,7,701,702] ?_; refine AW_ff rfl ?_; refine rgq fw [3,6,7,10,11,14,15,43,44,45,59,81] [6,7,701,702] ?_; refine AW_tt rfl ?_
      cases hIb : I[i] with
      | true =>
       rw [hIb] at hTn2; simp at hTn2; refine AW_rdge (tyOf_good _) (by kernel_rfl) [(1, 7), (4, 7), (6, 701), (7, 701), (12, 701), (13, 701)] (by kernel_rfl) fun K' hK' => ?_; (repeat (refine sxg_next fun K2 hK2 => ?_; simp [dNum, hi1, hIb]; (repeat (refine ⟨by omega, ?_⟩)); refine hK2 _ ?_; clear hK2 K2)); refine sxg_nil (hK' _ ?_); clear hK' K'; refine hK6 _ (AW.norm [3, 6, 7, 10, 11, 43, 44, 45] [6, 7, 701, 702] (fun _ _ => trivial) (AW.st (by simp [dNum, hi1, hIb]; rfl) ?_)); refine AW_re (tyOf_good _) fun K' hK' => ?_; (repeat (refine sxn fun K2 hK2 => ?_; simp [dNum]; (repeat (refine ⟨by omega, ?_⟩)); refine hK2 _ ?_; clear hK2 K2)); refine sxz (hK' _ ?_); clear hK' K'; (try simp only [thn, inb]); refine Again.mk (n + 1) (by omega) (by omega) ?_; rw [hTn2]; refine Imp.to' (fun _ _ => trivial) (by simp [dNum, List.map_set]) (by simp [dNum, List.map_set])
      | false =>
       rw [hIb] at hTn2; simp at hTn2; refine AW_rdge (tyOf_good _) (by kernel_rfl) [(1, 7), (4, 7), (6, 701), (7, 701), (12, 701), (13, 701)] (by kernel_rfl) fun K' hK' => ?_; (repeat (refine sxg_next fun K2 hK2 => ?_; simp [dNum, hi1, hIb]; (repeat (refine ⟨by omega, ?_⟩)); refine hK2 _ ?_; clear hK2 K2)); refine sxg_nil (hK' _ ?_); clear hK' K'; refine hK6 _ (AW.norm [3, 6, 7, 10, 11, 43, 44, 45] [6, 7, 701, 702] (fun _ _ => trivial) (AW.st (by simp [dNum, hi1, hIb]; rfl) ?_)); refine AW_re (tyOf_good _) fun K' hK' => ?_; (repeat (refine sxn fun K2 hK2 => ?_; simp [dNum]; (repeat (refine ⟨by omega, ?_⟩)); refine hK2 _ ?_; clear hK2 K2)); refine sxz (hK' _ ?_); clear hK' K'; (try simp only [thn, inb]); refine Again.mk (n + 1) (by omega) (by omega) ?_; rw [hTn2]; refine Imp.to' (fun _ _ => trivial) (by simp [dNum, List.map_set]) (by simp [dNum, List.map_set])
     ·have hTn2 := hTn2
      simp at hTn2; refine rgq fw [3,6,7,10,11,14,15,43,44,45,59,60] [6,7,701,702] ?_; refine AW_ff rfl ?_; refine rgq fw [3,6,7,10,11,14,15,43,44,45,59,67] [6,7,701,702] ?_; refine AW_ff rfl ?_; refine rgq fw [3,6,7,10,11,14,15,43,44,45,59,81] [6,7,701,702] ?_; refine AW_ff rfl ?_; refine rgq fw [3,6,7,10,11,14,15,43,44,45,59,96] [6,7,701,702] ?_; refine AW_tt rfl ?_
      obtain ⟨I2, C2, hIC, hI2, hC2⟩ : ∃ I2 C2, runS ⟨I, C⟩ i m yes = ⟨I2, C2⟩ ∧ I2.length = I.length ∧ C2.length = C.length := ⟨_, _, rfl, by simp, by simp⟩
      rw [hIC] at hrun hTn2; simp only [stR, dNum] at hrun
      have hj1 : i < I2.length := by omega
      have hj2 : i < C2.length := by omega
      have qf := (Aq fw (Aq @hi3 @hNi2))
      refine rgmv hrun [3,6,7,10,11,14,15,43,44,45] [6,7,701,702] ?_; refine rgq fw [3,6,7,10,11,14,43,44,45,108] [6,7,701,702] ?_
      cases yes with
      | true =>
       simp only [if_true] at hTn2; refine AW_ff rfl ?_; refine AW_skip ?_; refine hK6 _ (AW.norm [3, 6, 7, 10, 11, 43, 44, 45] [6, 7, 701, 702] (fun _ _ => trivial) (AW.st (by simp [dNum]; rfl) ?_)); refine AW_re (tyOf_good _) fun K' hK' => ?_; (repeat (refine sxn fun K2 hK2 => ?_; simp [dNum]; (repeat (refine ⟨by omega, ?_⟩)); refine hK2 _ ?_; clear hK2 K2)); refine sxz (hK' _ ?_); clear hK' K'; (try simp only [thn, inb]); refine Again.mk (n + 1) (by omega) (by omega) ?_; rw [hTn2]; refine Imp.to' (fun _ _ => trivial) (by simp [dNum, List.map_set]) (by simp [dNum, List.map_set])
      | false =>
       simp only [Bool.false_eq_true, if_false, zeroS] at hTn2; refine AW_tt rfl ?_
       have qf := (Aq fw (Aq @hj1 @hj2))
       refine reKv hK6 [3,6,7,10,11,43,44,45] [6,7,701,702] ?_; refine AW_re (tyOf_good _) fun K' hK' => ?_; (repeat (refine sxn fun K2 hK2 => ?_; simp [dNum]; (repeat (refine ⟨by omega, ?_⟩)); refine hK2 _ ?_; clear hK2 K2)); refine sxz (hK' _ ?_); clear hK' K'; (try simp only [thn, inb]); refine Again.mk (n + 1) (by omega) (by omega) ?_; rw [hTn2]; refine Imp.to' (fun _ _ => trivial) (by simp [dNum, List.map_set]) (by simp [dNum, List.map_set])
     ·have hTn2 := hTn2
      simp at hTn2; refine rgq fw [3,6,7,10,11,14,15,43,44,45,59,60] [6,7,701,702] ?_; refine AW_ff rfl ?_; refine rgq fw [3,6,7,10,11,14,15,43,44,45,59,67] [6,7,701,702] ?_; refine AW_ff rfl ?_; refine rgq fw [3,6,7,10,11,14,15,43,44,45,59,81] [6,7,701,702] ?_; refine AW_ff rfl ?_; refine rgq fw [3,6,7,10,11,14,15,43,44,45,59,96] [6,7,701,702] ?_; refine AW_ff rfl ?_; refine rgq fw [3,6,7,10,11,14,15,43,44,45,59,117] [6,7,701,702] ?_; refine AW_tt rfl ?_
      obtain ⟨I2, C2, hIC, hI2, hC2⟩ : ∃ I2 C2, runS ⟨I, C⟩ i m yes = ⟨I2, C2⟩ ∧ I2.length = I.length ∧ C2.length = C.length := ⟨_, _, rfl, by simp, by simp⟩
      rw [hIC] at hrun hTn2; simp only [stR, dNum] at hrun; refine AW_re (tyOf_good _) fun K' hK' => ?_; (repeat (refine sxn fun K2 hK2 => ?_; simp [dNum, hi3, hNi2]; (repeat (refine ⟨by omega, ?_⟩)); refine hK2 _ ?_; clear hK2 K2)); refine sxn fun K2 hK2 => ?_; simp [dNum, hi3, hNi2]; refine callK.mc (hrun) ?_ ?_ ?_ ?_ ?_ <;> simp [dNum, hi3, hNi2]; refine hK2 _ ?_; clear hK2 K2; (repeat (refine sxn fun K2 hK2 => ?_; simp [dNum, hi3, hNi2]; (repeat (refine ⟨by omega, ?_⟩)); refine hK2 _ ?_; clear hK2 K2)); refine sxz (hK' _ ?_); clear hK' K'; refine hK6 _ (AW.norm [3, 6, 7, 10, 11, 43, 44, 45] [6, 7, 701, 702] (fun _ _ => trivial) (AW.st (by simp [dNum, hi3, hNi2]; rfl) ?_)); refine AW_re (tyOf_good _) fun K' hK' => ?_; (repeat (refine sxn fun K2 hK2 => ?_; simp [dNum]; (repeat (refine ⟨by omega, ?_⟩)); refine hK2 _ ?_; clear hK2 K2)); refine sxz (hK' _ ?_); clear hK' K'; (try simp only [thn, inb]); refine Again.mk (n + 1) (by omega) (by omega) ?_; rw [hTn2]; refine Imp.to' (fun _ _ => trivial) (by simp [dNum, List.map_set]) (by simp [dNum, List.map_set])
     ·have hTn2 := hTn2
      simp at hTn2; refine rgq fw [3,6,7,10,11,14,15,43,44,45,59,60] [6,7,701,702] ?_; refine AW_ff rfl ?_; refine rgq fw [3,6,7,10,11,14,15,43,44,45,59,67] [6,7,701,702] ?_; refine AW_ff rfl ?_; refine rgq fw [3,6,7,10,11,14,15,43,44,45,59,81] [6,7,701,702] ?_; refine AW_ff rfl ?_; refine rgq fw [3,6,7,10,11,14,15,43,44,45,59,96] [6,7,701,702] ?_; refine AW_ff rfl ?_; refine rgq fw [3,6,7,10,11,14,15,43,44,45,59,117] [6,7,701,702] ?_; refine AW_ff rfl ?_; refine rgq fw [3,6,7,10,11,14,15,43,44,45,128] [6,7,701,702] ?_; refine AW_tt rfl ?_; refine rgq fw [3,6,7,10,11,14,43,44,45,130] [6,7,701,702] ?_
      cases yes with
      | true =>
       simp only [if_true, zeroS] at hTn2; refine AW_tt rfl ?_
       have qf := (Aq fw (Aq @hi1 @hi2))
       refine reKv hK6 [3,6,7,10,11,43,44,45] [6,7,701,702] ?_; refine AW_re (tyOf_good _) fun K' hK' => ?_; (repeat (refine sxn fun K2 hK2 => ?_; simp [dNum]; (repeat (refine ⟨by omega, ?_⟩)); refine hK2 _ ?_; clear hK2 K2)); refine sxz (hK' _ ?_); clear hK' K'; (try simp only [thn, inb]); refine Again.mk (n + 1) (by omega) (by omega) ?_; rw [hTn2]; refine Imp.to' (fun _ _ => trivial) (by simp [dNum, List.map_set]) (by simp [dNum, List.map_set])
      | false =>
       simp only [Bool.false_eq_true, if_false] at hTn2; refine AW_ff rfl ?_; refine AW_skip ?_; refine hK6 _ (AW.norm [3, 6, 7, 10, 11, 43, 44, 45] [6, 7, 701, 702] (fun _ _ => trivial) (AW.st (by simp [dNum]; rfl) ?_)); refine AW_re (tyOf_good _) fun K' hK' => ?_; (repeat (refine sxn fun K2 hK2 => ?_; simp [dNum]; (repeat (refine ⟨by omega, ?_⟩)); refine hK2 _ ?_; clear hK2 K2)); refine sxz (hK' _ ?_); clear hK' K'; (try simp only [thn, inb]); refine Again.mk (n + 1) (by omega) (by omega) ?_; rw [hTn2]; refine Imp.to' (fun _ _ => trivial) (by simp [dNum, List.map_set]) (by simp [dNum, List.map_set])
    ·have hlt3 : ¬ (n : Int) < (RR.length : Int) := by omega
     have hne : n = p.rungs.length := by omega
     refine AW_cond false (by simp; omega) (fun h => by cases h) (fun _ => ?_); refine AW_exit (hK4 _ ?_)
     have hTl : T p.rungs.length = ⟨I, C⟩ := by rw [← hne]; exact hTn0
     refine rgq fw [6] [6,7,701,702] ?_; refine AW_ret ?_; simp [D.le, D.le.go, takeMap, dNum, hTl, D.le_refl, D.leGo_refl]
end Go.Proofs.YthnjfeielmbfkaaGreatDoor
namespace Go.Proofs.YthnjfeielmbfkaaGreatDoor
open Go.Av
theorem small_of {p : PgP} (hck : checkP p = none) (hk : ∀ r ∈ p.rungs, CondOk r) : SmallP p := by
 have hg := checkP_good hck
 have hnm := hg.names
 have hrn := hg.rungs
 refine ⟨by omega, by omega, fun n hn => ?_, fun r hr e he => ?_⟩
 ·have := nameF_len (hg.name n hn).1; omega
 ·obtain ⟨e', he', _, _, hb⟩ := hk r hr
  rw [he] at he'
  obtain rfl := Option.some.inj he'
  have h1 := Lib.compact_length_le (sortT (nmsE true e))
  have h2 := sortT_len (nmsE true e)
  have h3 := nms_len true e
  refine ⟨by omega, ?_⟩; unfold namesE; omega
set_option maxRecDepth 100000 in
set_option maxHeartbeats 8000000 in
theorem step_good (G : Glob) (p : PgP) (hck : checkP p = none) (hk : ∀ r ∈ p.rungs, CondOk r) (s : StP) (hs : InvS p s) (inn : List Bool) (hin : inn.length = (inputP p).length) : PureC Tryz.prog G 36 [dPg p, dSt s, dBl inn] (.tup [dSt (doP p s inn), .v .nilIface]) := by
 have hdo := do_spec G p hck hk s hs inn hin
 have hcs := ladderCheck_spec G p (small_of hck hk)
 rw [hck] at hcs
 have hkd := lkind_spec G p (by have := (checkP_good hck).names; omega) 1
 have hkI : kindN p.names 1 p.names.length = inputP p := rfl
 rw [hkI] at hkd
 have hs1 := hs.l1
 have hs2 := hs.l2
 have hNl : (p.names.map cNm).length = p.names.length := by simp
 rw [← hNl] at hs1 hs2; simp only [dPg, cPg, dNms, dRgs, dBl, dIl, cSt, dSt, dErr] at hkd hcs hdo ⊢; generalize doP p s inn = t at *; generalize inputP p = KI at *; generalize p.names.map cNm = NN at *; generalize p.rungs.map cRg = RR at *
 obtain ⟨I, C⟩ := s
 obtain ⟨I2, C2⟩ := t
 dsimp only at hdo hs1 hs2 ⊢
 clear hs; refine PureC.of_body (tyOf_good _) Tryz.func36 rfl rfl (rs := [.cell 6 45, .tmp 7]) Tryz.results36 (by simp [Tryz.ntmps36]) fun X => ?_; simp only [Tryz.ntmps36, List.map]
 have fw := @dNum.eq_1
 refine rgq fw [2,3,4,6] [3,4,6] ?_; refine AW.imp (Imp.freezeB 3 trivial) ?_; refine AW.st (by simp [dNum]; rfl) ?_; refine AW.imp (Imp.freezeB 4 trivial) ?_; refine AW.st (by simp [dNum]; rfl) ?_; refine AW_then fun K1 hK1 => ?_; refine rgc fw hcs [2,3,4,6,8] [6] ?_; refine rgq fw [2,3,4,6,8,12] [6] ?_; refine AW_ff rfl ?_; refine AW_skip (hK1 _ ?_); refine AW_then fun K2 hK2 => ?_
 have qf := (Aq fw (Aq @hin (Aq @hs1 @hs2)))
 refine rgcv hkd [2,3,4,6,38] [6] ?_; refine AW_ff rfl ?_; refine AW_skip (hK2 _ ?_); refine rgc fw hdo [6,7] [6] ?_; refine AW_ret ?_; simp [D.le, D.le.go, takeMap, dNum, D.le_refl, D.leGo_refl]
def dBls (l : List (List Bool)) : D := .sl none (l.map fun x => [dBl x])
def cSts (l : List StP) : List (List D) := l.map cSt
set_option maxRecDepth 100000 in
set_option maxHeartbeats 8000000 in
theorem play_good (G : Glob) (p : PgP) (hck : checkP p = none) (hk : ∀ r ∈ p.rungs, CondOk r) (l : List (List Bool)) (hl : l.length ≤ 1000) (hin : ∀ x ∈ l, x.length = (inputP p).length) : PureC Tryz.prog G 14 [dPg p, dBls l] (.tup [.sl none (cSts (playP p (startP p) l)), .v .nilIface]) := by
 have hnm := (checkP_good hck).names
 have hcs := ladderCheck_spec G p (small_of hck hk)
 rw [hck] at hcs
 have hst := start_spec G p (by omega)
 have hstep : ∀ k (hk2 : k < l.length), PureC Tryz.prog G 36 [dPg p, dSt (behindP p (startP p) l k), dBl l[k]] (.tup [dSt (behindP p (startP p) l (k + 1)), .v .nilIface]) := fun k hk2 => by
  have := step_good G p hck hk _ (behind_inv hck l k (by omega)) l[k] (hin _ (List.getElem_mem hk2))
  rw [← behind_succ _ _ hk2] at this; exact this
 have hb0 : behindP p (startP p) l 0 = startP p := rfl
 have hpl := playP_len p (startP p) l
 have hpt := fun k (hk2 : k < l.length) => playP_take p (startP p) hk2
 generalize playP p (startP p) l = PL at *; generalize hBH : behindP p (startP p) l = BH at hstep hb0 hpt; simp only [dPg, cPg, dNms, dRgs, dBl, dIl, cSt, dSt, dErr, dBls, cSts] at hcs hst hstep ⊢; rw [← hb0] at hst; generalize p.names.map cNm = NN at *; generalize p.rungs.map cRg = RR at *
 have hl2 : ¬ (l.length : Int) > 1000 := by omega
 have hlg : ∀ k (hk2 : k < l.length), (l.map fun x => [D.sl none (x.map fun b => [D.v (.bool b)])])[k]? = some [.sl none (l[k].map fun b => [.v (.bool b)])] := fun k hk2 => by simp [hk2]
 have hll : (l.map fun x => [D.sl none (x.map fun b => [D.v (.bool b)])]).length = l.length := by simp
 generalize (l.map fun x => [D.sl none (x.map fun b => [D.v (.bool b)])]) = LL at *
 have hl3 : ¬ (LL.length : Int) > 1000 := by omega
 refine PureC.of_body (tyOf_good _) Tryz.func14 rfl rfl (rs := [.tmp 4, .tmp 5]) Tryz.results14 (by simp [Tryz.ntmps14]) fun X => ?_; simp only [Tryz.ntmps14, List.map]
 have fw := @dNum.eq_1
 refine rgq fw [1,2] [2] ?_; refine AW.imp (Imp.freezeB 2 trivial) ?_; refine AW.st (by simp [dNum]; rfl) ?_; refine AW_then fun K1 hK1 => ?_
 have qf := (Aq fw @hl3)
 refine rgqv [1,2,14] [] ?_; refine AW_cond false (by simp <;> omega) (fun h => by cases h) (fun _ => ?_); refine AW_skip (hK1 _ ?_); refine AW_then fun K2 hK2 => ?_; refine rgc fw hcs [1,2,6] [] ?_; refine rgq fw [1,2,6,19] [] ?_; refine AW_ff rfl ?_; refine AW_skip (hK2 _ ?_); refine rgc fw hst [1,2,7] [7] ?_; refine rgq fw [1,2,7,8] [7] ?_; refine AW_then fun K3 hK3 => ?_; refine rgq fw [2,7,8,23,24,25] [7] ?_; refine AW_for (S := Nat) (fun n => n ≤ l.length) (fun n => ⟨lst [(2, .d (.ip [.sl none NN, .sl none RR])), (7, .ref 7 0 0), (8, .own 800 0 n), (23, .d (.sl none LL)), (24, int LL.length), (25, int n)], hlst [(7, .box 45 [.d (.sl none ((BH n).is.map fun b => [.v (.bool b)])), .d (.sl none ((BH n).ct.map fun n => [.v (.int .i64 n)]))]), (800, .sl 45 2 ((PL.take n).map cSt))]⟩) (fun n => l.length - n) 0 ?_ (by omega) ?_
 ·refine (Imp.adopt 8 800 45 2 rfl rfl).trans ?_; refine Imp.to' (fun _ _ => trivial) (by simp [dNum]) (by simp [dNum])
 ·intro n hn
  have hstn := hstep n
  have hptn := hpt n
  have hPl : ((PL.take n).map cSt).length = n := by simp; omega
  generalize hPT : PL.take n = P at hptn hPl ⊢
  have hPm : (P.map cSt).length = P.length := by simp
  generalize hbn : BH n = bn at hstn ⊢
  obtain ⟨I, C⟩ := bn
  dsimp only at hstn ⊢
  refine rgq fw [2,7,8,23,24,25,26] [7,800] ?_; refine AW_then fun K4 hK4 => ?_; refine AW_cond' (b := n < LL.length) (by simp [D.le, D.le.go, takeMap, dNum]) (fun hc => ?_) (fun hc => ?_)
  ·have hlt : n < l.length := by omega
   have hLg := hlg n hlt
   have hLn : LL[n] = [.sl none (l[n].map fun b => [.v (.bool b)])] := by
    rw [List.getElem?_eq_getElem hc] at hLg; exact Option.some.inj hLg
   have hst2 := hstn hlt
   have hPn := hptn hlt
   generalize hb2 : BH (n + 1) = b2 at hst2 hPn
   obtain ⟨I2, C2⟩ := b2
   generalize l[n].map (fun b => [D.v (.bool b)]) = X at hLn hst2
   dsimp only at hst2
   refine AW_skip (hK4 _ ?_); refine AW_then fun K5 hK5 => ?_; refine AW_block ?_
   have qf := (Aq fw (Aq @hc @hLn))
   refine rgqv [2,7,8,10,23,24,25] [7,800] ?_; refine rgq fw [2,7,8,10,23,24,25] [7,800] ?_; refine AW_then fun K6 hK6 => ?_; refine rgc fw hst2 [2,7,8,11,23,24,25] [7,800] ?_; refine rgq fw [2,7,8,11,23,24,25,37] [7,800] ?_; refine AW_ff rfl ?_; refine AW_skip (hK6 _ ?_); refine AW_re (tyOf_good _) fun K' hK' => ?_; (repeat (refine sxn fun K2 hK2 => ?_; simp [dNum, hPl, List.take_of_length_le]; (repeat (refine ⟨by omega, ?_⟩)); refine hK2 _ ?_; clear hK2 K2)); refine sxz (hK' _ ?_); clear hK' K'; refine hK5 _ (AW.norm [2, 7, 8, 23, 24, 25] [7, 800] (fun _ _ => trivial) (AW.st (by simp [dNum, hPl, List.take_of_length_le]; rfl) ?_)); refine AW_re (tyOf_good _) fun K' hK' => ?_; (repeat (refine sxn fun K2 hK2 => ?_; simp [dNum]; (repeat (refine ⟨by omega, ?_⟩)); refine hK2 _ ?_; clear hK2 K2)); refine sxz (hK' _ ?_); clear hK' K'; (try simp only [thn, inb]); refine Again.mk (n + 1) (by omega) (by omega) ?_; rw [hb2, hPn]; refine Imp.to' (fun _ _ => trivial) (by simp [dNum, cSt, dBl, dIl]) (by simp [dNum, cSt, dBl, dIl])
  ·have hne : n = l.length := by omega
   have hPe : P = PL := by rw [← hPT]; exact List.take_of_length_le (by omega)
   subst hPe; refine AW_exit (hK3 _ ?_); refine AW.imp (Imp.freeze 800 trivial) ?_; refine AW.st (by simp [dNum, hPl, List.take_of_length_le]; rfl) ?_; refine rgq fw [4,5] [7] ?_; refine AW_ret ?_; simp [D.le, D.le.go, takeMap, dNum, cSt, dBl, dIl, D.le_refl, D.leGo_refl]
end Go.Proofs.YthnjfeielmbfkaaGreatDoor
namespace Go.Proofs.YthnjfeielmbfkaaGreatDoor
open Go.Av
def inB (x : Int) (k : Nat) : Bool := bitsI .and .i64 (x.fdiv (2 ^ (min k IntKind.i64.bits))) 1 == 1
def inBs (x : Int) : Nat → List Bool
 | 0 => []
 | k + 1 => inBs x k ++ [inB x k]
theorem inBs_len (x : Int) : ∀ k, (inBs x k).length = k
 | 0 => rfl
 | k + 1 => by rw [inBs, List.length_append, inBs_len x k]; rfl
def inputsF (l : List Int) (m : Nat) : List (List Bool) := l.map fun x => inBs x m
theorem inputsF_len (l : List Int) (m : Nat) : (inputsF l m).length = l.length := by simp [inputsF]
theorem inputsF_each {l : List Int} {m : Nat} : ∀ x ∈ inputsF l m, x.length = m := fun x hx => by
 obtain ⟨y, _, rfl⟩ := List.mem_map.1 hx
 exact inBs_len y m
theorem inputsF_take {l : List Int} {m n : Nat} (h : n < l.length) : (inputsF l m).take (n + 1) = (inputsF l m).take n ++ [inBs l[n] m] := by
 rw [List.take_succ_eq_append_getElem (by rw [inputsF_len]; exact h)]; simp [inputsF]
set_option maxRecDepth 100000 in
set_option maxHeartbeats 8000000 in
theorem kinputs_mc (G : Glob) (l : List Int) (m : Nat) (hl : l.length < 2^40) (hm : m < 2^40) : MC Tryz.prog G [] 13 [.d (dIl l), .d (dNum m)] (hlst []) (.own 900 0 (inputsF l m).length) (hlst [(900, .sl 39 1 ((inputsF l m).map fun x => [dBl x]))]) := by
 have hOl := inputsF_len l m
 have hOt := fun n (h : n < l.length) => inputsF_take (m := m) h
 simp only [dIl, dBls, dNum, dBl]; generalize inputsF l m = OUT at *
 have hLl : (l.map fun n => [D.v (.int .i64 n)]).length = l.length := by simp
 have hLg : ∀ n (h : n < l.length), (l.map fun n => [D.v (.int .i64 n)])[n]? = some [.v (.int .i64 l[n])] := fun n h => by simp [h]
 generalize (l.map fun n => [D.v (.int .i64 n)]) = LL at *; refine MC.of_body (tyOf_good _) Tryz.func13 rfl rfl (rs := [.tmp 4]) Tryz.results13 (by simp [Tryz.ntmps13]) rfl fun X => ?_; simp only [Tryz.ntmps13]; refine rg0 [0,1] [] ?_; refine rg0 [0,1,5] [] ?_; refine AW_then fun K1 hK1 => ?_; refine rg0 [0,1,5,6] [] ?_; refine AW_for (S := Nat) (fun n => n ≤ l.length) (fun n => ⟨lst [(0, .d (.sl none LL)), (1, int m), (5, .own 900 0 n), (6, int n)], hlst [(900, .sl 39 1 ((OUT.take n).map fun x => [.sl none (x.map fun b => [.v (.bool b)])]))]⟩) (fun n => l.length - n) 0 ?_ (by omega) ?_
 ·refine (Imp.adopt 5 900 39 1 rfl rfl).trans ?_; refine Imp.to' (notIn_ok rfl) (by simp) (by simp)
 ·intro n hn
  have hOn := hOt n
  have hPl : ((OUT.take n).map fun x => [D.sl none (x.map fun b => [D.v (.bool b)])]).length = n := by simp; omega
  generalize hPT : OUT.take n = P at hOn hPl ⊢; refine AW_then fun K2 hK2 => ?_
  by_cases hlt : n < l.length
  ·have hlt2 : n < LL.length := by omega
   have hOn2 := hOn hlt
   have hLn : LL[n] = [.v (.int .i64 l[n])] := by
    have := hLg n hlt
    rw [List.getElem?_eq_getElem hlt2] at this; exact Option.some.inj this
   generalize l[n] = x at hLn hOn2
   have qf := @hlt2
   refine rgqv [0,1,5,6,12] [900] ?_; refine AW_cond true (by simp [hlt2]) (fun _ => ?_) (fun h => by cases h); refine AW_skip (hK2 _ ?_); refine AW_then fun K3 hK3 => ?_; refine AW_block ?_; refine rg0 [0,1,5,6,7] [900] ?_; refine AW_then fun K4 hK4 => ?_; refine rg0 [0,1,5,6,7,8] [900] ?_; refine AW_for (S := Nat) (fun k => k ≤ m) (fun k => ⟨lst [(0, .d (.sl none LL)), (1, int m), (5, .own 900 0 n), (6, int n), (7, .own 901 0 k), (8, int k)], hlst [(900, .sl 39 1 (P.map fun x => [.sl none (x.map fun b => [.v (.bool b)])])), (901, .sl 4 1 ((inBs x k).map fun b => [.v (.bool b)]))]⟩) (fun k => m - k) 0 ?_ (by omega) ?_
   ·refine (Imp.adopt 7 901 4 1 rfl rfl).trans ?_; refine Imp.to' (notIn_ok rfl) (by simp [inBs]) (by simp [inBs])
   ·intro k hkm
    have hBl : ((inBs x k).map fun b => [D.v (.bool b)]).length = k := by simp [inBs_len]
    have hBs : inBs x (k + 1) = inBs x k ++ [inB x k] := rfl
    have hinB : (bitsI .and .i64 (x.fdiv (2 ^ (min k IntKind.i64.bits))) 1 == 1) = inB x k := rfl
    generalize hbk : inBs x k = B at hBl hBs ⊢; refine AW_then fun K5 hK5 => ?_; refine rg0 [0,1,5,6,7,8,17] [900,901] ?_; refine AW_cond' (b := k < m) (by simp [D.le, D.le.go, takeMap]) (fun hc => ?_) (fun hc => ?_)
    ·refine AW_skip (hK5 _ ?_); refine AW_then fun K6 hK6 => ?_; refine AW_block ?_; refine AW_re (tyOf_good _) fun K' hK' => ?_; (repeat (refine sxn fun K2 hK2 => ?_; simp [hlt2, hLn, hBl, List.take_of_length_le, shI, hinB]; (repeat (refine ⟨by omega, ?_⟩)); refine hK2 _ ?_; clear hK2 K2)); refine sxz (hK' _ ?_); clear hK' K'; refine hK6 _ (AW.norm [0, 1, 5, 6, 7, 8] [900, 901] (notIn_ok rfl) (AW.st (by simp [hlt2, hLn, hBl, List.take_of_length_le, shI, hinB]; rfl) ?_)); refine AW_re (tyOf_good _) fun K' hK' => ?_; (repeat (refine sxn fun K2 hK2 => ?_; simp; (repeat (refine ⟨by omega, ?_⟩)); refine hK2 _ ?_; clear hK2 K2)); refine sxz (hK' _ ?_); clear hK' K'; (try simp only [thn, inb]); refine Again.mk (k + 1) (by omega) (by omega) ?_; rw [hBs]; refine Imp.to' (notIn_ok rfl) (by simp) (by simp)
    ·obtain rfl : k = m := by omega
     refine AW_exit (hK4 _ ?_); rw [hbk] at hOn2; refine AW.imp (Imp.freeze 901 (by decide)) ?_; refine AW.st (by simp [hBl, List.take_of_length_le]; rfl) ?_; refine AW_re (tyOf_good _) fun K' hK' => ?_; (repeat (refine sxn fun K2 hK2 => ?_; simp [hPl, List.take_of_length_le]; (repeat (refine ⟨by omega, ?_⟩)); refine hK2 _ ?_; clear hK2 K2)); refine sxz (hK' _ ?_); clear hK' K'; refine hK3 _ (AW.norm [0, 1, 5, 6] [900] (notIn_ok rfl) (AW.st (by simp [hPl, List.take_of_length_le]; rfl) ?_)); refine AW_re (tyOf_good _) fun K' hK' => ?_; (repeat (refine sxn fun K2 hK2 => ?_; simp; (repeat (refine ⟨by omega, ?_⟩)); refine hK2 _ ?_; clear hK2 K2)); refine sxz (hK' _ ?_); clear hK' K'; (try simp only [thn, inb]); refine Again.mk (n + 1) (by omega) (by omega) ?_; rw [hOn2]; refine Imp.to' (notIn_ok rfl) (by simp) (by simp)
  ·obtain rfl : n = l.length := by omega
   have hlt3 : ¬ (l.length : Int) < (LL.length : Int) := by omega
   have hPe : P = OUT := by rw [← hPT]; exact List.take_of_length_le (by omega)
   subst hPe
   have qf := @hlt3
   refine rgqv [0,1,5,6,12] [900] ?_; refine AW_cond false (by simp <;> omega) (fun h => by cases h) (fun _ => ?_); refine AW_exit (hK1 _ ?_); refine rg0 [4] [900] ?_; refine AW_ret ?_; simp [D.le, D.le.go, takeMap, hOl]
end Go.Proofs.YthnjfeielmbfkaaGreatDoor
namespace Go.Proofs.YthnjfeielmbfkaaGreatDoor
open Go.Av
theorem rdpA_le {m : Nat} : ∀ {l : List Ex}, (∀ e ∈ l, dpE e ≤ m) → dpA l ≤ m
 | [], _ => by simp [dpA]
 | e :: l, h => by
  rw [dpA]
  have := h e (by simp)
  have := rdpA_le (l := l) fun x hx => h x (by simp [hx])
  omega
theorem rdpO_le {m : Nat} : ∀ {l : List Ex}, (∀ e ∈ l, dpJ e ≤ m) → dpO l ≤ m
 | [], _ => by simp [dpO]
 | e :: l, h => by
  rw [dpO_cons]
  have := h e (by simp)
  have := rdpO_le (l := l) fun x hx => h x (by simp [hx])
  omega
theorem name_ok {S P : Nat} {rts : List Rt} (hg : GoodT S P rts) {s : Tx} (h : InN rts.length S P s) : nameF s = true := by
 have hall := num_all hg
 have hn : ∃ k : Nat, numP (ladderT S P rts) s = (k : Int) := by
  cases h with
  | a i hi => exact ⟨_, hall.1 i hi⟩
  | b i hi => exact ⟨_, hall.2.1 i hi⟩
  | l i hi => exact ⟨_, hall.2.2.1 i hi⟩
 obtain ⟨k0, hk0⟩ := hn
 have hne : ¬ numP (ladderT S P rts) s < 0 := by omega
 obtain ⟨k, hk, _, hks⟩ := idx_pos hne
 have hks' : (ladderT S P rts).names[k].name = s := by simpa using hks
 rw [← hks']; exact ((checkP_good (ladder_check hg)).name _ (List.getElem_mem hk)).1
theorem route_cond {S P : Nat} {rts : List Rt} (hg : GoodT S P rts) : ∀ r ∈ (ladderT S P rts).rungs, CondOk r := fun r hr => by
 have hin := rungs_in hg hr
 obtain ⟨l, hl0, hl8, hc, hm⟩ := hin.cond
 have each : ∀ e ∈ l, WfE e ∧ dpE e ≤ 5 ∧ dpJ e ≤ 5 ∧ dpI e ≤ 5 := fun e he => by
  rcases hm e he with ⟨c, i, rfl, h, _⟩ | ⟨c, i, rfl, h, _⟩
  ·have := name_ok hg h
   refine ⟨by unfold notB; rw [WfE, WfE]; exact this, ?_, ?_, ?_⟩ <;> simp [notB, dpE, dpJ, dpI]
  ·have := name_ok hg h
   refine ⟨by rw [WfE]; exact this, ?_, ?_, ?_⟩ <;> simp [dpE, dpJ, dpI]
 have hb : ∀ e, r.cond = some e → bE e ≤ 10000 := fun e he => by
  have hb : bEs l ≤ 8 * l.length := bEs_le fun e he => by
   rcases hm e he with ⟨c, i, rfl, _, hi⟩ | ⟨c, i, rfl, _, hi⟩
   ·have := nmT_len c hi
    simp only [notB, bE]; omega
   ·have := nmT_len c hi
    simp only [bE]; omega
  have h1 := andE_b l
  have h2 := orE_b l
  rcases hc with hc | hc <;> (rw [hc, Option.some.injEq] at he; subst he; omega)
 have two : ∀ x y (r : List Ex), l = x :: y :: r → 2 ≤ l.length := fun x y r h => by rw [h]; simp
 rcases hc with hc | hc
 ·refine ⟨_, hc, ?_, ?_, hb _ hc⟩
  ·unfold andE
   split
   ·rename_i x; exact (each x (by simp)).1
   ·rename_i hne
    rw [WfE]; refine ⟨?_, (WfEs_iff l).2 fun e he => (each e he).1⟩
    match l, hl0, hne with
    | [x], _, hne => exact absurd rfl (hne x)
    | x :: y :: r, _, _ => simp
  ·unfold andE
   split
   ·rename_i x; have := (each x (by simp)).2.2.2; omega
   ·have := rdpA_le (m := 5) fun e he => (each e he).2.1
    simp only [dpI]; omega
 ·refine ⟨_, hc, ?_, ?_, hb _ hc⟩
  ·unfold orE
   split
   ·rename_i x; exact (each x (by simp)).1
   ·rename_i hne
    rw [WfE]; refine ⟨?_, (WfEs_iff l).2 fun e he => (each e he).1⟩
    match l, hl0, hne with
    | [x], _, hne => exact absurd rfl (hne x)
    | x :: y :: r, _, _ => simp
  ·unfold orE
   split
   ·rename_i x; have := (each x (by simp)).2.2.2; omega
   ·have := rdpO_le (m := 5) fun e he => (each e he).2.2.1
    simp only [dpI]; omega
set_option maxHeartbeats 4000000 in
theorem rladder_bad (G : Glob) (t : Tb) (ht : SmallT t) {e : Int × Option Nat} (he : checkT t = some e) : PureC Tryz.prog G 9 [dTb t] (.tup [.agg [.sl none [], .sl none []], dErr (some e)]) := by
 have hck := rcheck_spec G t ht
 rw [he] at hck
 obtain ⟨c, o⟩ := e
 obtain ⟨sc, pt, rts⟩ := t
 simp only [dTb, cTb] at hck ⊢; generalize dRts rts = RT at *
 cases o with
 | none =>
  simp only [dErr] at hck ⊢; refine PureC.of_body (tyOf_good _) Tryz.func9 rfl rfl (rs := [.cell 2 29, .tmp 3]) Tryz.results9 (by simp [Tryz.ntmps9]) fun X => ?_; simp only [Tryz.ntmps9, List.map]; refine rg0 [1,2] [1,2] ?_; refine AW.imp (Imp.freezeB 1 trivial) ?_; refine AW.st (by simp; rfl) ?_; refine AW_then fun K1 hK1 => ?_; refine rgc trivial hck [1,2,4] [2] ?_; refine rg0 [1,2,4,27] [2] ?_; refine AW_tt rfl ?_; refine rg0 [2,3] [2] ?_; refine AW_ret ?_; simp [D.le, D.le.go, takeMap, D.le_refl, D.leGo_refl]
 | some o =>
  simp only [dErr] at hck ⊢; refine PureC.of_body (tyOf_good _) Tryz.func9 rfl rfl (rs := [.cell 2 29, .tmp 3]) Tryz.results9 (by simp [Tryz.ntmps9]) fun X => ?_; simp only [Tryz.ntmps9, List.map]; refine rg0 [1,2] [1,2] ?_; refine AW.imp (Imp.freezeB 1 trivial) ?_; refine AW.st (by simp; rfl) ?_; refine AW_then fun K1 hK1 => ?_; refine rgc trivial hck [1,2,4] [2] ?_; refine rg0 [1,2,4,27] [2] ?_; refine AW_tt rfl ?_; refine rg0 [2,3] [2] ?_; refine AW_ret ?_; simp [D.le, D.le.go, takeMap, D.le_refl, D.leGo_refl]
def kpickF (a : Int) (n : Nat) : Nat := ((IntKind.u64.wrap a).tmod (n : Int)).toNat
theorem kpickF_is (a : Int) {n : Nat} (hn : 0 < n) : ((IntKind.u64.wrap a).tmod (n : Int)) = (kpickF a n : Int) ∧ kpickF a n < n := by
 have h0 : 0 ≤ IntKind.u64.wrap a := by
  unfold IntKind.wrap
  have h : IntKind.u64.signed = false := rfl
  simp [h]; exact Int.emod_nonneg _ (by decide)
 have h1 : 0 ≤ (IntKind.u64.wrap a).tmod (n : Int) := Int.tmod_nonneg _ h0
 have h2 : (IntKind.u64.wrap a).tmod (n : Int) < n := Int.tmod_lt_of_pos _ (by omega)
 unfold kpickF
 constructor <;> omega
theorem wrapU {n : Nat} (hn : n < 2^40) : IntKind.u64.wrap (n : Int) = n := u_wrap n (by omega)
set_option maxHeartbeats 4000000 in
theorem kpick_spec (G : Glob) (a : Int) (n : Nat) (hn : 0 < n) (hn2 : n < 2^40) : PureC Tryz.prog G 11 [dNum a, dNum n] (dNum (kpickF a n)) := by
 obtain ⟨h1, h2⟩ := kpickF_is a hn
 have hw := wrapU hn2
 have hn0 : ¬ n = 0 := by omega
 generalize kpickF a n = w at h1 h2 ⊢; simp only [dNum]; refine PureC.of_body (tyOf_good _) Tryz.func11 rfl rfl (rs := [.tmp 4]) Tryz.results11 (by simp [Tryz.ntmps11]) fun X => ?_; simp only [Tryz.ntmps11, List.map]; refine rg0 [0,1] [] ?_
 have qf := (Aq @hw (Aq @h1 @hn0))
 refine rgqv [4] [] ?_; refine AW_ret ?_; simp [D.le, D.le.go, takeMap]
end Go.Proofs.YthnjfeielmbfkaaGreatDoor
namespace Go.Proofs.YthnjfeielmbfkaaGreatDoor
open Go.Av
def servIn (IN : List (List Bool)) (m w : Nat) : List (List Bool) := IN ++ [List.replicate m false, (List.replicate m false).set w true, (List.replicate m false).set w true, List.replicate m false]
theorem servIn_len (IN : List (List Bool)) (m w : Nat) : (servIn IN m w).length = IN.length + 4 := by simp [servIn]
theorem servIn_each {IN : List (List Bool)} {m w : Nat} (h : ∀ x ∈ IN, x.length = m) : ∀ x ∈ servIn IN m w, x.length = m := fun x hx => by
 simp only [servIn, List.mem_append, List.mem_cons, List.not_mem_nil, or_false] at hx
 rcases hx with hx | rfl | rfl | rfl | rfl
 ·exact h x hx
 all_goals simp
theorem servIn_at (IN : List (List Bool)) (m w : Nat) : ∀ j (hj : j < 4), (servIn IN m w)[IN.length + j]'(by rw [servIn_len]; omega) = ([List.replicate m false, (List.replicate m false).set w true, (List.replicate m false).set w true, List.replicate m false] : List (List Bool))[j]'hj := fun j hj => by
 simp only [servIn]; rw [List.getElem_append_right (by omega)]
 congr 1
 omega
theorem no_at (m k : Nat) : (List.replicate m false).getD k false = false := getD_rep m k false
theorem ask_at {m w : Nat} (hw : w < m) : ((List.replicate m false).set w true).getD w false = true := getD_set_same (by simpa using hw)
theorem ask_off {m w k : Nat} (h : k ≠ w) : ((List.replicate m false).set w true).getD k false = false := by
 rw [getD_set_other (fun e => h e.symm)]; exact no_at m k
theorem serv_plays {S P : Nat} {rts : List Rt} (hg : GoodT S P rts) (IN : List (List Bool)) {w : Nat} (hw : w < rts.length) (m : Nat) (hm : m = rts.length + S) :
  (behindP (ladderT S P rts) (startP (ladderT S P rts)) (servIn IN m w) (IN.length + 3)).is.getD (rts.length + S + w) false = true ∧ (behindP (ladderT S P rts) (startP (ladderT S P rts)) (servIn IN m w) (IN.length + 4)).is.getD (rts.length + S + w) false = false := by
 have hc := ladder_check hg
 have hl := servIn_len IN m w
 have hs := behind_inv hc (servIn IN m w) IN.length (by omega)
 have h := route_serves hg hc hs hw (no := List.replicate m false) (ask := (List.replicate m false).set w true) (no_at m) (ask_at (by omega)) (fun k hk => ask_off hk)
 have e0 := servIn_at IN m w 0 (by omega)
 have e1 := servIn_at IN m w 1 (by omega)
 have e2 := servIn_at IN m w 2 (by omega)
 have e3 := servIn_at IN m w 3 (by omega)
 have b1 := behind_succ (ladderT S P rts) (startP (ladderT S P rts)) (l := servIn IN m w) (k := IN.length) (by omega)
 have b2 := behind_succ (ladderT S P rts) (startP (ladderT S P rts)) (l := servIn IN m w) (k := IN.length + 1) (by omega)
 have b3 := behind_succ (ladderT S P rts) (startP (ladderT S P rts)) (l := servIn IN m w) (k := IN.length + 2) (by omega)
 have b4 := behind_succ (ladderT S P rts) (startP (ladderT S P rts)) (l := servIn IN m w) (k := IN.length + 3) (by omega)
 rw [show (servIn IN m w)[IN.length]'(by omega) = _ from e0] at b1; rw [e1, b1] at b2; rw [e2, b2] at b3; rw [e3] at b4; refine ⟨?_, ?_⟩
 ·show (behindP _ _ _ (IN.length + 2 + 1)).is.getD _ false = true
  rw [b3]; exact h.1
 ·show (behindP _ _ _ (IN.length + 3 + 1)).is.getD _ false = false
  rw [b4, show (behindP (ladderT S P rts) (startP (ladderT S P rts)) (servIn IN m w) (IN.length + 3)) = _ from b3]; exact h.2
theorem dig_txt : ∀ w < 3, (⟨#[108]⟩ : ByteArray) ++ Utf8.encode (48 + (w : Nat)) = bs (nmT 108 w) ∧ (Utf8.encode (48 + ((w : Nat) : Int))).size = 1 ∧ IntKind.i32.wrap (48 + ((w : Nat) : Int)) = 48 + ((w : Nat) : Int) := by decide +kernel
set_option maxRecDepth 100000 in
set_option maxHeartbeats 16000000 in
theorem rserves_law (G : Glob) (t : Tb) (ht : SmallT t) (which : Int) (l : List Int) : PureC Tryz.prog G 3 [dTb t, dNum which, dIl l] (.v (.bool true)) := by
 have hro := routed_spec G
 have hLl : (l.map fun n => [D.v (.int .i64 n)]).length = l.length := by simp
 cases hct : checkT t with
 | some e =>
  have hlad := rladder_bad G t ht hct
  obtain ⟨c, o⟩ := e
  obtain ⟨sc, pt, rts⟩ := t
  simp only [dTb, cTb, dNum, dIl] at hlad ⊢; generalize dRts rts = RT at *; generalize (l.map fun n => [D.v (.int .i64 n)]) = LL at *
  cases o with
  | none =>
   simp only [dErr] at hlad; refine PureC.of_body (tyOf_good _) Tryz.func3 rfl rfl (rs := [.tmp 6]) Tryz.results3 (by simp [Tryz.ntmps3]) fun X => ?_; simp only [Tryz.ntmps3, List.map]; refine rg0 [1,2,3] [3] ?_; refine AW.imp (Imp.freezeB 3 trivial) ?_; refine AW.st (by simp; rfl) ?_; refine rgc trivial hlad [1,2,3,7,8] [7] ?_; refine AW_then fun K1 hK1 => ?_; refine rgc trivial hro [1,2,3,7,30] [7] ?_; refine AW_tt rfl ?_; refine rgc trivial hro [6] [7] ?_; refine AW_ret ?_; simp [D.le, D.le.go, takeMap]
  | some o =>
   simp only [dErr] at hlad; refine PureC.of_body (tyOf_good _) Tryz.func3 rfl rfl (rs := [.tmp 6]) Tryz.results3 (by simp [Tryz.ntmps3]) fun X => ?_; simp only [Tryz.ntmps3, List.map]; refine rg0 [1,2,3] [3] ?_; refine AW.imp (Imp.freezeB 3 trivial) ?_; refine AW.st (by simp; rfl) ?_; refine rgc trivial hlad [1,2,3,7,8] [7] ?_; refine AW_then fun K1 hK1 => ?_; refine rgc trivial hro [1,2,3,7,30] [7] ?_; refine AW_tt rfl ?_; refine rgc trivial hro [6] [7] ?_; refine AW_ret ?_; simp [D.le, D.le.go, takeMap]
 | none =>
  obtain ⟨secs, pts, rts⟩ := t
  obtain ⟨S, P, rfl, rfl, hg⟩ := good_of hct
  have hck := ladder_check hg
  have hk := route_cond hg
  have hlad := rladder_good G S P rts hg hct (ladder_small hg) hck
  by_cases h40 : (l.length : Int) > 40
  ·simp only [dTb, cTb, dNum, dIl, dPg, cPg, dNms, dRgs] at hlad ⊢; generalize (ladderT S P rts).names.map cNm = NN at *; generalize (ladderT S P rts).rungs.map cRg = RR at *; generalize (l.map fun n => [D.v (.int .i64 n)]) = LL at *
   have h40' : (LL.length : Int) > 40 := by omega
   refine PureC.of_body (tyOf_good _) Tryz.func3 rfl rfl (rs := [.tmp 6]) Tryz.results3 (by simp [Tryz.ntmps3]) fun X => ?_; simp only [Tryz.ntmps3, List.map]; refine rg0 [1,2,3] [3] ?_; refine AW.imp (Imp.freezeB 3 trivial) ?_; refine AW.st (by simp; rfl) ?_; refine rgc trivial hlad [1,2,3,7,8] [7] ?_; refine AW_then fun K1 hK1 => ?_
   have qf := @h40'
   refine rgcv hro [1,2,3,7,30] [7] ?_; refine AW_cond true (by simp <;> omega) (fun _ => ?_) (fun h => by cases h); refine rgc trivial hro [6] [7] ?_; refine AW_ret ?_; simp [D.le, D.le.go, takeMap]
  have ⟨hs0, hs1, hp1, hr0, hr1, _, _, _, _, _⟩ := hg
  have hpk := kpick_spec G which rts.length (by omega) (by omega)
  have hwl := (kpickF_is which (n := rts.length) (by omega)).2
  have hkd := lkind_spec G (ladderT S P rts) (by rw [names_len]; omega) 1
  have hkI : kindN (ladderT S P rts).names 1 (ladderT S P rts).names.length = inputP (ladderT S P rts) := rfl
  rw [hkI] at hkd
  have hil := inputs_len hg
  have hin := kinputs_mc G l (rts.length + S) (by omega) (by omega)
  have hnum := lc_num G (ladderT S P rts) (by rw [names_len]; omega) (nmT 108 (kpickF which rts.length))
  rw [(num_all hg).2.2.1 _ hwl] at hnum
  obtain ⟨d1, d2, d3⟩ := dig_txt (kpickF which rts.length) (by omega)
  have hpl := play_good G (ladderT S P rts) hck hk (servIn (inputsF l (rts.length + S)) (rts.length + S) (kpickF which rts.length)) (by rw [servIn_len, inputsF_len]; omega) (by rw [hil]; exact servIn_each inputsF_each)
  obtain ⟨q1, q2⟩ := serv_plays hg (inputsF l (rts.length + S)) hwl (rts.length + S) rfl
  have hPLl := playP_len (ladderT S P rts) (startP (ladderT S P rts)) (servIn (inputsF l (rts.length + S)) (rts.length + S) (kpickF which rts.length))
  have hinv := fun k hk => behind_inv hck (servIn (inputsF l (rts.length + S)) (rts.length + S) (kpickF which rts.length)) k hk
  have hPg := playP_get (ladderT S P rts) (startP (ladderT S P rts)) (servIn (inputsF l (rts.length + S)) (rts.length + S) (kpickF which rts.length))
  rw [servIn_len, inputsF_len] at hPLl hinv; rw [inputsF_len] at q1 q2
  have hnl : (ladderT S P rts).names.length = rts.length + S + rts.length + P := names_len
  generalize kpickF which rts.length = w at *; generalize hm : rts.length + S = m at *
  have hINl := inputsF_len l m
  have hSD : (servIn (inputsF l m) m w).map (fun x => [D.sl none (x.map fun b => [D.v (.bool b)])]) = (inputsF l m).map (fun x => [D.sl none (x.map fun b => [D.v (.bool b)])]) ++ [[D.sl none (List.replicate m [D.v (.bool false)])]] ++ [[D.sl none ((List.replicate m [D.v (.bool false)]).set w [D.v (.bool true)])], [D.sl none ((List.replicate m [D.v (.bool false)]).set w [D.v (.bool true)])], [D.sl none (List.replicate m [D.v (.bool false)])]] := by
   simp [servIn, List.map_set]
  have g1 : ∀ i (hi : i < (playP (ladderT S P rts) (startP (ladderT S P rts)) (servIn (inputsF l m) m w)).length), i = l.length + 2 → ∃ I C, (playP (ladderT S P rts) (startP (ladderT S P rts)) (servIn (inputsF l m) m w))[i] = ⟨I, C⟩ ∧ m + w < I.length ∧ I[m + w]? = some true := fun i hi e => by
   subst e
   have h1 := (hinv (l.length + 3) (by omega)).l1
   have e2 : behindP (ladderT S P rts) (startP (ladderT S P rts)) (servIn (inputsF l m) m w) (l.length + 2 + 1) = behindP (ladderT S P rts) (startP (ladderT S P rts)) (servIn (inputsF l m) m w) (l.length + 3) := rfl
   rw [hPg, e2]; clear e2 hPg hinv; generalize behindP (ladderT S P rts) (startP (ladderT S P rts)) (servIn (inputsF l m) m w) (l.length + 3) = b at h1 q1 ⊢
   obtain ⟨I, C⟩ := b
   have hlt : m + w < I.length := by
    have h1' : I.length = _ := h1
    rw [h1', hnl]; omega
   have q' : I.getD (m + w) false = true := q1
   rw [getD_of hlt] at q'; exact ⟨I, C, rfl, hlt, by rw [List.getElem?_eq_getElem hlt, q']⟩
  have g2 : ∀ i (hi : i < (playP (ladderT S P rts) (startP (ladderT S P rts)) (servIn (inputsF l m) m w)).length), i = l.length + 3 → ∃ I C, (playP (ladderT S P rts) (startP (ladderT S P rts)) (servIn (inputsF l m) m w))[i] = ⟨I, C⟩ ∧ m + w < I.length ∧ I[m + w]? = some false := fun i hi e => by
   subst e
   have h1 := (hinv (l.length + 4) (by omega)).l1
   have e2 : behindP (ladderT S P rts) (startP (ladderT S P rts)) (servIn (inputsF l m) m w) (l.length + 3 + 1) = behindP (ladderT S P rts) (startP (ladderT S P rts)) (servIn (inputsF l m) m w) (l.length + 4) := rfl
   rw [hPg, e2]; clear e2 hPg hinv; generalize behindP (ladderT S P rts) (startP (ladderT S P rts)) (servIn (inputsF l m) m w) (l.length + 4) = b at h1 q2 ⊢
   obtain ⟨I, C⟩ := b
   have hlt : m + w < I.length := by
    have h1' : I.length = _ := h1
    rw [h1', hnl]; omega
   have q' : I.getD (m + w) false = false := q2
   rw [getD_of hlt] at q'; exact ⟨I, C, rfl, hlt, by rw [List.getElem?_eq_getElem hlt, q']⟩
  clear hPg hinv q1 q2; simp only [dTb, cTb, dRts, dNum, dIl, dPg, cPg, dNms, dRgs, dBls, cSts, dBl, dS, hSD] at hlad hkd hin hnum hpl hpk ⊢; clear hSD; generalize playP (ladderT S P rts) (startP (ladderT S P rts)) (servIn (inputsF l m) m w) = PL at *; generalize inputP (ladderT S P rts) = KI at *
  have hPD : ∀ i (hi : i < PL.length), (PL.map cSt)[i]? = some (cSt PL[i]) := fun i hi => by simp [hi]
  have hPDl : (PL.map cSt).length = l.length + 4 := by simp; omega
  obtain ⟨I1, C1, e1, l1, v1⟩ := g1 (l.length + 2) (by omega) rfl
  obtain ⟨I2, C2, e2, l2, v2⟩ := g2 (l.length + 3) (by omega) rfl
  have p1 := hPD (l.length + 2) (by omega)
  have p2 := hPD (l.length + 3) (by omega)
  rw [e1] at p1; rw [e2] at p2; clear hPD e1 e2 g1 g2; generalize PL.map cSt = PD at *
  have v1 : I1[m + w] = true := by rw [List.getElem?_eq_getElem l1] at v1; exact Option.some.inj v1
  have v2 : I2[m + w] = false := by rw [List.getElem?_eq_getElem l2] at v2; exact Option.some.inj v2
  simp only [cSt, dBl, dIl] at p1 p2
  have i1 : l.length + 2 < PD.length := by omega
  have i2 : l.length + 3 < PD.length := by omega
  have p1 : PD[l.length + 2] = [.sl none (I1.map fun b => [.v (.bool b)]), .sl none (C1.map fun n => [.v (.int .i64 n)])] := by rw [List.getElem?_eq_getElem i1] at p1; exact Option.some.inj p1
  have p2 : PD[l.length + 3] = [.sl none (I2.map fun b => [.v (.bool b)]), .sl none (C2.map fun n => [.v (.int .i64 n)])] := by rw [List.getElem?_eq_getElem i2] at p2; exact Option.some.inj p2
  have hIDl : ((inputsF l m).map (fun x => [D.sl none (x.map fun b => [D.v (.bool b)])])).length = l.length := by simp [hINl]
  rw [hINl] at hin; generalize (inputsF l m).map (fun x => [D.sl none (x.map fun b => [D.v (.bool b)])]) = ID at *; generalize (ladderT S P rts).names.map cNm = NN at *; generalize (ladderT S P rts).rungs.map cRg = RR at *; generalize (l.map fun n => [D.v (.int .i64 n)]) = LL at *
  have h40' : ¬ (LL.length : Int) > 40 := by omega
  have hrl : (rts.map cRt).length = rts.length := by simp
  have hwm : w < m := by omega
  refine PureC.of_body (tyOf_good _) Tryz.func3 rfl rfl (rs := [.tmp 6]) Tryz.results3 (by simp [Tryz.ntmps3]) fun X => ?_; simp only [Tryz.ntmps3, List.map]; refine rg0 [1,2,3] [3] ?_; refine AW.imp (Imp.freezeB 3 trivial) ?_; refine AW.st (by simp; rfl) ?_; refine rgc trivial hlad [1,2,3,7,8] [7] ?_; refine AW.imp (Imp.freezeB 7 trivial) ?_; refine AW.st (by simp; rfl) ?_; refine AW_then fun K1 hK1 => ?_
  have qf := @h40'
  refine rgcv hro [1,2,3,7,30] [] ?_; refine AW_cond false (by simp <;> omega) (fun h => by cases h) (fun _ => ?_); refine AW_skip (hK1 _ ?_)
  have qf := @hrl
  refine rgqv [1,2,7,9] [] ?_; refine rgc trivial hpk [1,2,7] [] ?_
  have qf := @hil
  refine rgcv hkd [1,2,7,10] [] ?_; refine rgm trivial hin [1,7,10,11] [900] ?_; refine rg [1, 7, 10, 11] [900] (fun _ _ => trivial) fun K' hK' => ?_; (repeat (refine sxn fun K2 hK2 => ?_; simp [makeEls, hIDl, List.take_of_length_le]; (repeat (refine ⟨by omega, ?_⟩)); refine hK2 _ ?_; clear hK2 K2)); refine sxz (hK' _ (AW.st (by simp [makeEls, hIDl, List.take_of_length_le]; rfl) ?_)); clear hK' K'; refine rgq @makeEls.eq_1 [1,7,10,11,12] [900,50] ?_
  have qf := @hwm
  refine rgqv [1,7,10,11,12] [900,50] ?_; refine AW.imp (Imp.freeze 50 trivial) ?_; refine AW.st (by simp; rfl) ?_; refine rg [1, 7, 11] [900] (fun _ _ => trivial) fun K' hK' => ?_; (repeat (refine sxn fun K2 hK2 => ?_; simp [makeEls, hIDl, List.take_of_length_le]; (repeat (refine ⟨by omega, ?_⟩)); refine hK2 _ ?_; clear hK2 K2)); refine sxz (hK' _ (AW.st (by simp [makeEls, hIDl, List.take_of_length_le]; rfl) ?_)); clear hK' K'; refine AW.imp (Imp.freeze 900 trivial) ?_; refine AW.st (by simp [hIDl, List.take_of_length_le]; rfl) ?_; refine rgc trivial hpl [1,7,8,11,13] [] ?_
  have d0 : (⟨#[108]⟩ : ByteArray).size = 1 := rfl
  refine rg [8, 11, 13, 14] [] (fun _ _ => trivial) fun K' hK' => ?_; (repeat (refine sxn fun K2 hK2 => ?_; simp [binS, d0, d1, d2, d3]; (repeat (refine ⟨by omega, ?_⟩)); refine hK2 _ ?_; clear hK2 K2)); refine sxn fun K2 hK2 => ?_; simp [binS, d0, d1, d2, d3]; refine callK.data (hnum) (by simp; rfl) (by first | exact D.leGo_refl _ | simp [takeMap, List.map_map, Function.comp_def, D.le, D.le.go, D.le_refl, D.leGo_refl, binS, d0, d1, d2, d3]) ?_; refine hK2 _ ?_; clear hK2 K2; simp only [putd, upd_lst]; (repeat (refine sxn fun K2 hK2 => ?_; simp [binS, d0, d1, d2, d3]; (repeat (refine ⟨by omega, ?_⟩)); refine hK2 _ ?_; clear hK2 K2)); refine sxz (hK' _ (AW.st (by simp [binS, d0, d1, d2, d3]; rfl) ?_)); clear hK' K'; refine AW_then fun K2 hK2 => ?_
  have qf := (Aq @hPDl @hIDl)
  refine rgqv [13,14,86] [] ?_; refine AW_cond false (by simp <;> omega) (fun h => by cases h) (fun _ => ?_); refine AW_skip (hK2 _ ?_)
  have z1 : (l.length : Int) + 4 - 2 = (l.length : Int) + 2 := by omega
  have z2 : ((l.length : Int) + 2).toNat = l.length + 2 := by omega
  have z3 : (l.length : Int) + 4 - 1 = (l.length : Int) + 3 := by omega
  have z4 : ((l.length : Int) + 3).toNat = l.length + 3 := by omega
  have z5 : ((m : Int) + (w : Int)).toNat = m + w := by omega
  have qf := (Aq @hPDl (Aq @p1 (Aq @p2 (Aq @l1 (Aq @l2 (Aq @v1 (Aq @v2 (Aq @z1 (Aq @z2 (Aq @z3 (Aq @z4 (Aq @z5 (Aq @i1 @i2)))))))))))))
  refine rgqv [6] [] ?_; refine AW_ret ?_; simp [D.le, D.le.go, takeMap]
end Go.Proofs.YthnjfeielmbfkaaGreatDoor
namespace Go.Proofs.YthnjfeielmbfkaaGreatDoor
open Go.Av Go.ChangeShapes Go.WideShapes Go.ChangeAt Go.RowKit
theorem cellsR_int : Tryz.prog.cellsOf 3 = 1 := by kernel_rfl
theorem cellsR_bool : Tryz.prog.cellsOf 4 = 1 := by kernel_rfl
theorem cellsR_ints : Tryz.prog.cellsOf 25 = 1 := by kernel_rfl
theorem cellsR_pt : Tryz.prog.cellsOf 118 = 2 := by kernel_rfl
theorem cellsR_pts : Tryz.prog.cellsOf 104 = 1 := by kernel_rfl
theorem cellsR_rt : Tryz.prog.cellsOf 106 = 2 := by kernel_rfl
section
variable {H : Type} {enc : TypeId × Value → H} {w : World} {base : Nat} {spare : Nat → Bool} {held : Bool} {X : Nat → Prop}
theorem readsR_int : ReadsAs enc Tryz.prog w base spare held X 3 (fun _ : Int => True) (fun n => [.v (.int .i64 n)]) := fun fuel cs x h =>
 let ⟨n, _, hr⟩ := reads_int Tryz.underlying3 fuel cs x h
 ⟨n, trivial, hr⟩
theorem readsR_bool : ReadsAs enc Tryz.prog w base spare held X 4 (fun _ : Bool => True) (fun b => [.v (.bool b)]) := fun fuel cs x h => by
 obtain ⟨b, rfl, _⟩ := DataW.trod_bool Tryz.underlying4 h
 exact ⟨b, trivial, .one (.v _)⟩
theorem readsR_pt : ReadsAs enc Tryz.prog w base spare held X 118 (fun _ : Int × Bool => True) cPt := fun fuel cs x h => by
 obtain ⟨s, _, hr⟩ := reads_struct2 Tryz.underlying118 (by rw [cellsR_pt]; simp only [cellsR_int, cellsR_bool]) rfl (by simp only [cellsR_int]) readsR_int readsR_bool fuel cs x h
 exact ⟨s, trivial, hr⟩
end
end Go.Proofs.YthnjfeielmbfkaaGreatDoor
namespace Go.Proofs.YthnjfeielmbfkaaGreatDoor
open Go.Av Go.ChangeShapes Go.WideShapes Go.ChangeAt Go.RowKit
theorem cellsR_rts : Tryz.prog.cellsOf 22 = 1 := by kernel_rfl
theorem cellsR_tb : Tryz.prog.cellsOf 24 = 3 := by kernel_rfl
theorem list3 {α : Type} : ∀ {l : List α}, l.length = 3 → ∃ a b c, l = [a, b, c]
 | [a, b, c], _ => ⟨a, b, c, rfl⟩
section
variable {H : Type} {enc : TypeId × Value → H} {w : World} {base : Nat} {spare : Nat → Bool} {held : Bool} {X : Nat → Prop}
end
end Go.Proofs.YthnjfeielmbfkaaGreatDoor
namespace Go.Proofs.YthnjfeielmbfkaaGreatDoor
open Go.Av Go.ChangeShapes Go.WideShapes Go.ChangeAt Go.RowKit
theorem law_own : ownKnob Tryz.prog.godebug = none := by kernel_rfl
theorem law_laidOut : laidOutB Tryz.prog = true := by kernel_rfl
theorem cells_int : Tryz.prog.cellsOf 3 = 1 := by kernel_rfl
section
variable {H : Type} {enc : TypeId × Value → H} {w : World} {base : Nat} {spare : Nat → Bool} {held : Bool} {X : Nat → Prop}
theorem reads_ints (hX : ∀ b, ¬ X b) : ReadsAs enc Tryz.prog w base spare held X 25 (fun _ : List Int => True) (fun l => [dRow l]) := by
 intro fuel cs x h
 obtain ⟨l, _, hr⟩ := reads_slice Tryz.underlying25 cells_int (by omega) hX (reads_int Tryz.underlying3) fuel cs x h
 exact ⟨l, trivial, hr⟩
end
end Go.Proofs.YthnjfeielmbfkaaGreatDoor
