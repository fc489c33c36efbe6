/-
  Texts that belong together, in one file: Av28, P8, Ty, F1, F2, P5, Sh0, Av20, Av21, Av22, N1, E1, E2, F3, F4, F5, F6, E3, E4, G1, B1, F7, P1, P2, P3, F8, F10, F9, F13, P4, F14, F16.
-/
import Derived.Test.YtblafkekblaibaaDoorLq2
import Derived.Test.YtblafkekblaibaaDoorProg
import Derived.Lib.SlTrimSet
import Derived.Ground.NamesProg
import Derived.Shelf.Strings.SlTrimAscii
import Derived.ProofKit
import Derived.OpenShut
import Derived.Carry
import Derived.Deep.Slices
import Derived.Laws.Strings
import Derived.WalkKit
import Derived.LaidEql
import Derived.Stop.Asserts
import Derived.RowKitTokens
import Derived.RegionTactic
import Derived.ChangeAlike
/-
  Regions that draw their order, in which what is made becomes data at once.
-/
namespace Go.Av
set_option linter.unusedSimpArgs false
set_option linter.unusedVariables false
set_option linter.unusedSectionVars false

/-- What an operation that makes memory yields, as data: the condition, the data. -/
def dataW (T : Ty) (G : Glob) (e : Env) (o : Oper) : Option (Prop × D) := match o.op, o.dst with
  | .box _ x, some _ => match (aeval G e x).bind valCells with
    | some cs => match allD cs with
      | some ds => some (True, .ip ds)
      | none => none
    | none => none
  | .buildSlice t len parts, some _ => match T t with
    | some tt => match tt.desc with
      | .slice q => match T q, evalP G e parts.toList with
        | some te, some ps => match catD te.size 0 ps with
          | some els => some (ps.length = len ∧ 0 < te.size ∧ len * te.size ≤ 16777216, .sl none els)
          | none => none
        | _, _ => none
      | _ => none
    | none => none
  | _, _ => none

section
variable {P : Program} {T : Ty} {Mv X : Nat → Prop} {G : Glob} {N : Nat} {w : World} {μ : Mu} {a : Act} {σ : St}

theorem dataW_congr {o : Oper} {e e' : Env} (h : Agree o.op e e') : dataW T G e o = dataW T G e' o := by
  obtain ⟨dst, op, type, pos, after, guard⟩ := o
  unfold Agree at h
  dsimp only at h
  unfold dataW
  cases op <;> try rfl
  case box t x =>
    cases dst with
    | none => rfl
    | some d =>
      dsimp only
      rw [aeval_congr (x := x) fun t ht => h t (by simp [Op.operands, ht])]
  case buildSlice t n ps =>
    cases dst with
    | none => rfl
    | some d =>
      dsimp only
      rw [evalP_congr (l := ps.toList) fun t ht => h t (by simpa [Op.operands] using ht)]

theorem new_free (hi : In w X G μ N a σ) : ¬ XX X μ w.heap.size := by
  rintro (h | h)
  · exact Nat.lt_irrefl _ (hi.sim.fits _ h)
  · exact Nat.lt_irrefl _ (hi.sim.blk_lt h)

theorem new_cell (w : World) (cur : Array Value) (t : TypeId) {o : Nat} {v : Value} (h : cur[o]? = some v) : (w.alloc (.cells cur t)).cell? ⟨w.heap.size, o, none⟩ = some v := by
  rw [cell_of_row _ w.heap.size o cur t (0, 0) (by simpa using heap_alloc_new w (.cells cur t))]
  exact h

theorem dataW_ok (hg : Good P T) (hi : In w X G μ N a σ) {o : Oper} {c : Prop} {y : D} (h : dataW T G σ.env o = some (c, y)) (hc : c) :
    ∃ v w', (execOp a.eval o).run P w = .ok (.value v) w' ∧ In w' X G μ N a σ ∧ RV w' X μ v (.d y) ∧ Ev Mv w μ w' μ := by
  obtain ⟨dst, op, type, pos, after, guard⟩ := o
  unfold dataW at h
  dsimp only at h
  split at h
  · rename_i t x d
    split at h
    · rename_i cs hcs
      obtain ⟨z, hz, he⟩ := Option.bind_eq_some_iff.1 hcs
      split at h
      · rename_i ds hds
        simp only [Option.some.injEq, Prod.mk.injEq] at h
        obtain ⟨rfl, rfl⟩ := h
        have hp := valCells_ok (hi.eval hz) he
        rw [allD_eq hds] at hp
        obtain ⟨hin, hev⟩ := hi.grew (Mv := Mv) (Grew.alloc w (.cells (a.eval x).cells t))
        refine ⟨.pointer (some ⟨w.heap.size, 0, none⟩), _, by simp [execOp, Instr.box, newVar, newRow], hin, .d (.ip (f := fun j => (a.eval x).cells.getD j undef) (new_free hi) (by simp) (fun j hj => ?_) fun j c hj => ?_), hev⟩
        · have hlt : j < (a.eval x).cells.size := by rw [hp.size]; simpa using hj
          exact new_cell w _ t (by simp [Array.getD_eq_getD_getElem?, hlt])
        · have hlt : j < (a.eval x).cells.size := by rw [hp.size]; simpa using (List.getElem?_eq_some_iff.1 hj).1
          have := (hp.at_ j _ (.d c) (Array.getElem?_eq_getElem hlt) (by rw [List.getElem?_map, hj]; rfl)).data
          rw [Array.getD_eq_getD_getElem?, Array.getElem?_eq_getElem hlt]
          exact this.ev hev
      · cases h
    · cases h
  · rename_i t len parts d
    split at h
    · rename_i tt htt
      split at h
      · rename_i q hdd
        split at h
        · rename_i te ps hte hps
          split at h
          · rename_i els hels
            simp only [Option.some.injEq, Prod.mk.injEq] at h
            obtain ⟨rfl, rfl⟩ := h
            obtain ⟨g2, g3, g4⟩ := hc
            obtain ⟨hv, hr⟩ := hi.evalP hps
            have hu := hg.und (w := w) htt
            have hsz := hg.sizeOf (w := w) hte
            have hzv := hg.zero (w := w) hte
            obtain ⟨arr', hf, hsz', _, hl, hall, hnew⟩ := fill_cat (w := w) (X := X) (μ := μ) (sz := te.size) ps (parts.toList.map fun p => (p.1, a.eval p.2)) 0 els ((Array.range (len * te.size)).map ((if len * te.size = 0 then #[] else te.zero.cells)[· % (if len * te.size = 0 then #[] else te.zero.cells).size]!)) hels hv
              (fun i p v h1 h2 => hr i p v h1 h2) (by simp [g2])
            have hn : ¬ len * te.size > 2 ^ 24 := by omega
            have e0 : ∀ f : Nat → Value, (Array.range 0).map f = #[] := fun f => by apply Array.ext <;> simp
            have hsz2 : arr'.size = len * te.size := by rw [hsz']; simp
            have hlen : els.length = len := by omega
            obtain ⟨hin, hev⟩ := hi.grew (Mv := Mv) (Grew.alloc w (.cells arr' q))
            have hrun : (Instr.buildSlice t len (parts.map fun p => (p.1, a.eval p.2))).run P w = .ok (.slice (some ⟨w.heap.size, 0, none⟩) len len) (w.alloc (.cells arr' q)) := by
              by_cases h0 : len * te.size = 0
              · simp only [h0, if_true, e0] at hf
                simp only [Instr.buildSlice, Sem.run_bind, hu, hdd, Result.andThen_ok, hsz, hn, if_false, h0, if_true, Sem.run_pure, e0]
                simp [hf, newRow]
              · simp only [h0, if_false] at hf
                simp only [Instr.buildSlice, Sem.run_bind, hu, hdd, Result.andThen_ok, hsz, hn, if_false, h0, Sem.run_pure, hzv]
                simp [hf, newRow]
            have hcap : len ≤ maxLen := by
              have : len ≤ len * te.size := Nat.le_mul_of_pos_right _ g3
              unfold maxLen; omega
            refine ⟨.slice (some ⟨w.heap.size, 0, none⟩) len len, _, by simp [execOp, hrun], hin, .d ?_, hev⟩
            by_cases h0 : len = 0
            · subst h0
              obtain rfl := List.eq_nil_of_length_eq_zero hlen
              exact .empty (by simp) hcap
            · refine .sl (sz := te.size) (f := fun i j => arr'.getD (i * te.size + j) undef) (by simp) hlen (Nat.le_refl _) hcap (new_free hi) hall g3 (by omega) (fun i j hi' hj => ?_) fun i j el c h1 h2 => ?_
              · have hlt : i * te.size + j < arr'.size := by
                  rw [hsz2]
                  have : (i + 1) * te.size ≤ len * te.size := Nat.mul_le_mul_right _ hi'
                  rw [Nat.add_mul] at this
                  omega
                rw [Nat.zero_add]
                exact new_cell w _ q (by simp [Array.getD_eq_getD_getElem?, hlt])
              · obtain ⟨u, hu', hrd⟩ := hnew i j el c h1 h2
                rw [Nat.zero_add] at hu'
                rw [Array.getD_eq_getD_getElem?, hu']
                exact hrd.ev hev
          · cases h
        · cases h
      · cases h
    · cases h
  · cases h

/-! ### Steps -/

variable {ops : Array Oper} {db : List Nat}

def FStep (P : Program) (T : Ty) (Mv : Nat → Prop) (G : Glob) (N : Nat) (db : List Nat) (i : Nat) (o : Oper) (σ σ' : St) : Prop :=
  okDst N o ∧ o.guard = none ∧ ((db.contains i = true ∧ ∃ c y, dataW T G σ.env o = some (c, y) ∧ c ∧ σ' = ⟨putd σ.env o.dst (.d y), σ.H⟩) ∨
    (db.contains i = false ∧ kindOf o.op ≠ 9 ∧ ∃ x H', Ex P T Mv G o σ.env σ.H x H' ∧ σ' = ⟨putd σ.env o.dst x, H'⟩))

theorem FStep.ok (hg : Good P T) {o : Oper} {i : Nat} {σ' : St} (h : FStep P T Mv G N db i o σ σ') (hi : In w X G μ N a σ) (ho : ops[i]? = some o) {Q : Exit → Act → World → Prop} {K : Act → World → Prop}
    (hk : ∀ w' μ' a', In w' X G μ' N a' σ' → Ev Mv w μ w' μ' → K a' w') : wpOp P ops Q i K a w := by
  obtain ⟨hd, hgu, h⟩ := h
  have hd' : ∀ d, o.dst = some d → d < N := fun d e => by unfold okDst at hd; rw [e] at hd; exact hd
  rcases h with ⟨_, c, y, h1, h2, rfl⟩ | ⟨_, h9, x, H', h1, rfl⟩
  · unfold wpOp
    simp only [ho]
    rw [wantedS_ok hi (wantedS_free hgu), if_pos rfl]
    refine .inl ?_
    obtain ⟨v, w', hr, hin, hrv, hev⟩ := dataW_ok (Mv := Mv) hg hi h1 h2
    unfold Oper.wp
    rw [hr]
    exact hk _ μ _ (hin.put hrv hd') hev
  · exact stepTo_ok hg ⟨hd, .inl ⟨wantedS_free hgu, h1.to⟩⟩ hi ho hk

def compatB (db : List Nat) (ops : Array Oper) (i j : Nat) (oi oj : Oper) : Bool := oi.apart ops oj && (db.contains i || db.contains j || mayPass (kindOf oi.op) (kindOf oj.op))

theorem fswap {i j : Nat} {oi oj : Oper} (hc : compatB db ops i j oi oj = true) {σ σ1 σ2 : St} (h1 : FStep P T Mv G N db i oi σ σ1) (h2 : FStep P T Mv G N db j oj σ1 σ2) :
    ∃ σ3, FStep P T Mv G N db j oj σ σ3 ∧ FStep P T Mv G N db i oi σ3 σ2 := by
  simp only [compatB, Bool.and_eq_true] at hc
  obtain ⟨hap, hpass⟩ := hc
  obtain ⟨di, gi, h1⟩ := h1
  obtain ⟨dj, gj, h2⟩ := h2
  have agj : ∀ v, Agree oj.op (putd σ.env oi.dst v) σ.env := fun v t ht => (agree_put hap (e := σ.env) (v := v)).1 t (looks_of_op ht)
  have agi : ∀ v, Agree oi.op σ.env (putd σ.env oj.dst v) := fun v t ht => ((agree_put hap (e := σ.env) (v := v)).2.1 t (looks_of_op ht)).symm
  have hne := (agree_put hap (e := σ.env) (v := und)).2.2
  rcases h1 with ⟨bi, c, y, e1, c1, rfl⟩ | ⟨bi, k1, x, H', e1, rfl⟩
  · rcases h2 with ⟨bj, c', z, e2, c2, rfl⟩ | ⟨bj, k2, z, H2, e2, rfl⟩
    · rw [dataW_congr (agj _)] at e2
      refine ⟨⟨putd σ.env oj.dst (.d z), σ.H⟩, ⟨dj, gj, .inl ⟨bj, c', z, e2, c2, rfl⟩⟩, di, gi, .inl ⟨bi, c, y, ?_, c1, ?_⟩⟩
      · rw [← dataW_congr (agi _)]; exact e1
      · rw [putd_comm hne]
    · refine ⟨⟨putd σ.env oj.dst z, H2⟩, ⟨dj, gj, .inr ⟨bj, k2, z, H2, e2.congr k2 (agj _), rfl⟩⟩, di, gi, .inl ⟨bi, c, y, ?_, c1, ?_⟩⟩
      · rw [← dataW_congr (agi _)]; exact e1
      · rw [putd_comm hne]
  · rcases h2 with ⟨bj, c', z, e2, c2, rfl⟩ | ⟨bj, k2, z, H2, e2, rfl⟩
    · rw [dataW_congr (agj _)] at e2
      refine ⟨⟨putd σ.env oj.dst (.d z), σ.H⟩, ⟨dj, gj, .inl ⟨bj, c', z, e2, c2, rfl⟩⟩, di, gi, .inr ⟨bi, k1, x, H', e1.congr k1 (agi _), ?_⟩⟩
      rw [putd_comm hne]
    · rw [bi, bj] at hpass
      have hcc : compat ops oi oj = true := by simp only [compat, Bool.and_eq_true]; exact ⟨hap, by simpa using hpass⟩
      obtain ⟨H3, f1, f2⟩ := commute (N := N) hcc ⟨di, .inl ⟨wantedS_free gi, e1⟩⟩ ⟨dj, .inl ⟨wantedS_free gj, e2⟩⟩ k1 k2
      have un : ∀ {o : Oper} {e : Env} {H H' : Heap} {x : AV}, o.guard = none → Sx P T Mv G N ops o e H x H' → Ex P T Mv G o e H x H' := fun hgu h => by
        rcases h.2 with ⟨_, h⟩ | ⟨hw, _⟩
        · exact h
        · rw [wantedS_free hgu] at hw; cases hw
      refine ⟨⟨putd σ.env oj.dst z, H3⟩, ⟨dj, gj, .inr ⟨bj, k2, z, H3, un gj f1, rfl⟩⟩, di, gi, .inr ⟨bi, k1, x, H2, un gi f2, ?_⟩⟩
      rw [putd_comm hne]

def runB (P : Program) (T : Ty) (Mv : Nat → Prop) (G : Glob) (N : Nat) (db : List Nat) (ops : Array Oper) : List Nat → St → St → Prop
  | [], σ, σ' => σ = σ'
  | i :: l, σ, σ' => ∃ o, ops[i]? = some o ∧ ∃ σ1, FStep P T Mv G N db i o σ σ1 ∧ runB P T Mv G N db ops l σ1 σ'

theorem runB_front {p : Nat} {op : Oper} (hp : ops[p]? = some op) : ∀ (l1 : List Nat) {l2 : List Nat} {σ σ' : St}, (∀ q ∈ l1, ∀ oq, ops[q]? = some oq → compatB db ops q p oq op = true) → runB P T Mv G N db ops (l1 ++ p :: l2) σ σ' → runB P T Mv G N db ops (p :: (l1 ++ l2)) σ σ' := by
  intro l1
  induction l1 with
  | nil => intro l2 σ σ' _ h; exact h
  | cons q l1 ih =>
    intro l2 σ σ' hall h
    obtain ⟨oq, hq, σ1, s1, rest⟩ := h
    obtain ⟨o', ho', σ2, s2, rest2⟩ := ih (fun q' hq' => hall q' (by simp [hq'])) rest
    rw [hp] at ho'
    obtain rfl := Option.some.inj ho'
    obtain ⟨σ3, f1, f2⟩ := fswap (hall q (by simp) oq hq) s1 s2
    exact ⟨op, hp, σ3, f1, oq, hq, σ2, f2, rest2⟩

def okDrawB (db : List Nat) (ord : List Nat) (ops : Array Oper) : Bool :=
  let t := tb ops
  ord.length == ops.size && (ord.all fun i => decide (i < ops.size)) && ((List.range ops.size).all fun i => ord.contains i) && decide ord.Nodup &&
  ((List.range ops.size).all fun j => match ops[j]? with
    | some oj => oj.after.all fun e => !Region.binds .any e || e.on < j
    | none => true) &&
  go t ord
where
  go (t : List Nat) : List Nat → Bool
  | [] => true
  | a :: l => (l.all fun b => match ops[a]?, ops[b]? with
    | some oa, some ob => (oa.after.all fun e => !Region.binds .any e || !(e.on == b)) && ((t.getD b 0).testBit a || compatB db ops a b oa ob)
    | _, _ => true) && go t l

def PairB (db : List Nat) (ops : Array Oper) (a b : Nat) : Prop := ∀ oa ob, ops[a]? = some oa → ops[b]? = some ob →
  (∀ e ∈ oa.after, Region.binds .any e = true → e.on ≠ b) ∧ (((tb ops).getD b 0).testBit a = true ∨ compatB db ops a b oa ob = true)

theorem pairsB_of : ∀ {l : List Nat}, okDrawB.go db ops (tb ops) l = true → l.Pairwise (PairB db ops)
  | [], _ => .nil
  | a :: l, h => by
    simp only [okDrawB.go, Bool.and_eq_true] at h
    refine .cons (fun b hb oa ob hoa hob => ?_) (pairsB_of h.2)
    have := List.all_eq_true.1 h.1 b hb
    simp only [hoa, hob, Bool.and_eq_true, Bool.or_eq_true] at this
    refine ⟨fun e he hbi heq => ?_, this.2⟩
    have h1 := Array.all_eq_true_iff_forall_mem.1 this.1 e he
    simp [hbi, heq] at h1

theorem anyB_ok (hg : Good P T) (hlt : ∀ j oj, ops[j]? = some oj → ∀ e ∈ oj.after, Region.binds .any e = true → e.on < j) {Q : Exit → St → Prop} {w0 : World} {μ0 : Mu} {σn : St} (hQ : Q .normal σn) : ∀ (n : Nat) (R : List Nat) (listed : Array Bool) (w : World) (μ : Mu) (a : Act) (σ : St), R.length = n → R.Nodup →
    (∀ j, j ∈ R ↔ j < ops.size ∧ listed.getD j true = false) → listed.size = ops.size → R.Pairwise (PairB db ops) →
    (∀ j oj, ops[j]? = some oj → listed.getD j false = true → ∀ e ∈ oj.after, Region.binds .any e = true → listed.getD e.on false = true) → runB P T Mv G N db ops R σ σn → In w X G μ N a σ → Ev Mv w0 μ0 w μ →
    wpAny P .any ops (After Mv X G N w0 μ0 Q) n listed a w := by
  intro n
  induction n with
  | zero =>
    intro R listed w μ a σ hl _ hR hsz _ _ hrun hi hev
    have : R = [] := List.eq_nil_of_length_eq_zero hl
    subst this
    have hr : Region.ready .any ops listed = [] := by
      apply List.eq_nil_iff_forall_not_mem.2
      intro j hj
      obtain ⟨h1, o, ho, _⟩ := mem_ready.1 hj
      exact absurd ((hR j).2 ⟨(Array.getElem?_eq_some_iff.1 ho).1, h1⟩) (by simp)
    have : σ = σn := hrun
    subst this
    exact ⟨hr, μ, σ, hQ, hi, hev⟩
  | succ n ih =>
    intro R listed w μ a σ hl hnd hR hsz hpw hdown hrun hi hev
    refine ⟨fun hr => ?_, fun i hir => ?_⟩
    · cases R with
      | nil => simp at hl
      | cons j R =>
        obtain ⟨hj1, hj2⟩ := (hR j).1 (by simp)
        have hoj : ops[j]? = some ops[j] := by simp [hj1]
        have hjr : j ∈ Region.ready .any ops listed := by
          refine mem_ready.2 ⟨hj2, ops[j], hoj, fun e he hb => ?_⟩
          have hlt' := hlt j ops[j] hoj e he hb
          have hlt2 : e.on < ops.size := by omega
          have hne : e.on ∉ (j :: R) := by
            intro hm
            rcases List.mem_cons.1 hm with h | h
            · omega
            · exact ((List.pairwise_cons.1 hpw).1 _ h ops[j] ops[e.on] hoj (by simp [hlt2])).1 e he hb rfl
          have := mt (hR e.on).2 hne
          have hls : e.on < listed.size := by omega
          simp only [hlt2, true_and, Array.getD_eq_getD_getElem?] at this ⊢
          simp [hls] at this ⊢
          exact this
        rw [hr] at hjr
        cases hjr
    · obtain ⟨hi1, oi, hoi, hall⟩ := mem_ready.1 hir
      have hiR : i ∈ R := (hR i).2 ⟨(Array.getElem?_eq_some_iff.1 hoi).1, hi1⟩
      obtain ⟨R1, R2, rfl⟩ := List.append_of_mem hiR
      have hfront := runB_front (P := P) (T := T) (Mv := Mv) (G := G) (N := N) (db := db) hoi R1 (fun q hq oq hoq => by
        have hpq : PairB db ops q i := (List.pairwise_append.1 hpw).2.2 q hq i (by simp)
        rcases (hpq oq oi hoq hoi).2 with h | h
        · exfalso
          have hlq := behindL hlt hdown i i oi (Nat.le_refl _) hoi hall q h
          have hq2 := ((hR q).1 (by simp [hq])).2
          have hqs : q < listed.size := by have := (Array.getElem?_eq_some_iff.1 hoq).1; omega
          simp [Array.getD_eq_getD_getElem?, hqs] at hlq hq2
          rw [hlq] at hq2; cases hq2
        · exact h) hrun
      obtain ⟨o', ho', σ1, hstep, hrest⟩ := hfront
      rw [hoi] at ho'
      obtain rfl := Option.some.inj ho'
      refine hstep.ok hg hi hoi fun w' μ' a' hin hev' => ?_
      have hnd' : (R1 ++ R2).Nodup := by
        have := hnd
        rw [List.nodup_append] at this ⊢
        obtain ⟨g1, g2, g3⟩ := this
        exact ⟨g1, (List.nodup_cons.1 g2).2, fun x hx y hy => g3 x hx y (by simp [hy])⟩
      have hi_not : i ∉ R1 ++ R2 := by
        have := hnd
        rw [List.nodup_append] at this
        obtain ⟨g1, g2, g3⟩ := this
        intro hm
        rcases List.mem_append.1 hm with h | h
        · exact g3 i h i (by simp) rfl
        · exact (List.nodup_cons.1 g2).1 h
      refine ih (R1 ++ R2) _ w' μ' a' σ1 (by simp at hl ⊢; omega) hnd' (fun j => ?_) (by simpa using hsz) ?_ ?_ hrest hin (hev.trans hev')
      · by_cases hji : j = i
        · subst hji
          have hls : j < listed.size := by rw [hsz]; exact (Array.getElem?_eq_some_iff.1 hoi).1
          simp [hls]
          simpa using hi_not
        · rw [getD_set_ne true (Ne.symm hji)]
          rw [← hR j]
          simp [hji]
      · rw [List.pairwise_append] at hpw ⊢
        obtain ⟨g1, g2, g3⟩ := hpw
        exact ⟨g1, (List.pairwise_cons.1 g2).2, fun x hx y hy => g3 x hx y (by simp [hy])⟩
      · intro j oj hoj hlj e he hb
        by_cases hji : j = i
        · subst hji
          rw [hoi] at hoj
          obtain rfl := Option.some.inj hoj
          exact getD_set_true (hall e he hb)
        · rw [getD_set_ne false (Ne.symm hji)] at hlj
          exact getD_set_true (hdown j oj hoj hlj e he hb)

/-! ### As one computes it -/

def stepB (P : Program) (T : Ty) (Mv : Nat → Prop) (G : Glob) (N : Nat) (db : List Nat) (i : Nat) (o : Oper) (σ : St) (K : St → Prop) : Prop := okDst N o ∧ o.guard = none ∧
  if db.contains i = true then (match dataW T G σ.env o with
    | some (c, y) => c ∧ K ⟨putd σ.env o.dst (.d y), σ.H⟩
    | none => False)
  else kindOf o.op ≠ 9 ∧ match isCall o.op with
    | some c => callD P G c σ.env o.dst σ.H [] [] K
    | none => plainL T G Mv o σ [] K

def sxb (P : Program) (T : Ty) (Mv : Nat → Prop) (G : Glob) (N : Nat) (db : List Nat) (K : St → Prop) : List (Nat × Oper) → St → Prop
  | [], σ => K σ
  | (i, o) :: rest, σ => stepB P T Mv G N db i o σ (sxb P T Mv G N db K rest)

theorem sxb_run {K : St → Prop} : ∀ (l : List Nat) (σ : St), (∀ i ∈ l, i < ops.size) → sxb P T Mv G N db K (inOrder ops l) σ → ∃ σn, K σn ∧ runB P T Mv G N db ops l σ σn := by
  intro l
  induction l with
  | nil => intro σ _ h; exact ⟨σ, h, rfl⟩
  | cons i l ih =>
    intro σ hl h
    have hi := hl i (by simp)
    have ho : ops[i]? = some ops[i] := by simp [hi]
    simp only [inOrder, ho] at h
    generalize ops[i] = o at ho h
    simp only [sxb, stepB] at h
    obtain ⟨hd, hgu, h⟩ := h
    have fin : ∀ σ1, FStep P T Mv G N db i o σ σ1 → sxb P T Mv G N db K (inOrder ops l) σ1 → ∃ σn, K σn ∧ runB P T Mv G N db ops (i :: l) σ σn := fun σ1 hs h1 => by
      obtain ⟨σn, hk, hr⟩ := ih σ1 (fun j hj => hl j (by simp [hj])) h1
      exact ⟨σn, hk, o, ho, σ1, hs, hr⟩
    split at h
    · rename_i hb
      split at h
      · rename_i c y hw
        obtain ⟨hc, h⟩ := h
        exact fin _ ⟨hd, hgu, .inl ⟨hb, c, y, hw, hc, rfl⟩⟩ h
      · exact h.elim
    · rename_i hb
      have hb : db.contains i = false := by simpa using hb
      obtain ⟨hk, h⟩ := h
      split at h
      · rename_i c hc
        obtain ⟨y, g, ds, ht, hp, hoff, h⟩ := h
        refine fin _ ⟨hd, hgu, .inr ⟨hb, hk, .d y, σ.H, ?_, rfl⟩⟩ h
        unfold Ex
        simp only [hc]
        exact ⟨y, ⟨g, _, ht, .inl ⟨ds, rfl, hp⟩⟩, rfl, trivial⟩
      · rename_i hc
        unfold plainL at h
        split at h
        · rename_i hw
          split at h
          · rename_i c x σ1 h1
            obtain ⟨hcc, hoff, h⟩ := h
            have he := wr_env hk h1
            obtain ⟨e, H⟩ := σ
            obtain ⟨e1, H1⟩ := σ1
            dsimp only at he
            subst he
            refine fin _ ⟨hd, hgu, .inr ⟨hb, hk, x, H1, ?_, rfl⟩⟩ h
            unfold Ex
            simp only [hc]
            rw [if_pos hw]
            exact ⟨c, h1, hcc⟩
          · exact h.elim
        · rename_i hw
          split at h
          · rename_i c x h1
            obtain ⟨hcc, hoff, h⟩ := h
            refine fin _ ⟨hd, hgu, .inr ⟨hb, hk, x, σ.H, ?_, rfl⟩⟩ h
            unfold Ex
            simp only [hc]
            rw [if_neg hw]
            exact ⟨c, h1, hcc, trivial⟩
          · exact h.elim

/-- A REGION THAT DRAWS ITS ORDER; what db lists is data at once. -/
theorem AW_regionB (hg : Good P T) (hm : P.follows .mixedOrders = true) (db : List Nat) (ord : List Nat) {id : Nat} (hok : okDrawB db ord ops = true) {Q : Exit → St → Prop} {σ : St} (h : sxb P T Mv G N db (fun σ' => Q .normal σ') (inOrder ops ord) σ) : AW P Mv X G N (.region id ops true) Q σ := fun w μ a hi => by
  unfold okDrawB at hok
  simp only [Bool.and_eq_true] at hok
  obtain ⟨⟨⟨⟨⟨h1, h2⟩, h3⟩, h4⟩, h5⟩, h6⟩ := hok
  have hlen : ord.length = ops.size := by simpa using h1
  have hlt : ∀ i ∈ ord, i < ops.size := fun i hi => by simpa using List.all_eq_true.1 h2 i hi
  have hall : ∀ i, i < ops.size → i ∈ ord := fun i hi => by simpa using List.all_eq_true.1 h3 i (List.mem_range.2 hi)
  have hnd : ord.Nodup := by simpa using h4
  have hedge : ∀ j oj, ops[j]? = some oj → ∀ e ∈ oj.after, Region.binds .any e = true → e.on < j := fun j oj hoj e he hb => by
    have := List.all_eq_true.1 h5 j (List.mem_range.2 (Array.getElem?_eq_some_iff.1 hoj).1)
    simp only [hoj] at this
    have := Array.all_eq_true_iff_forall_mem.1 this e he
    simpa [hb] using this
  obtain ⟨σn, hQ, hrun⟩ := sxb_run ord σ hlt h
  refine wp_region_any hm ?_
  obtain ⟨hin, hev⟩ := hi.grew (Mv := Mv) (Grew.drew w)
  refine anyB_ok hg hedge hQ ops.size ord _ w.drew μ a σ hlen hnd (fun j => ?_) (by simp) (pairsB_of h6) ?_ hrun hin hev
  · constructor
    · intro hj
      have := hlt j hj
      simp [Array.getD_eq_getD_getElem?, this]
    · intro hj
      exact hall j hj.1
  · intro j oj hoj hlj
    have hj := (Array.getElem?_eq_some_iff.1 hoj).1
    simp [Array.getD_eq_getD_getElem?, hj] at hlj

theorem AW_rb (hg : Good P T) (hm : P.follows .mixedOrders = true) (db : List Nat) (ord : List Nat) (l ns : List Nat) (hM : ∀ r, ns.contains r = false → Mv r) {id : Nat} (hok : okDrawB db ord ops = true) {y : Code} {Q : Exit → St → Prop} {σ : St}
    (h : ∀ K : St → Prop, (∀ τ : St, AW P Mv X G N y Q (τ.norm l ns) → K τ) → sxb P T Mv G N db K (inOrder ops ord) σ) : AW P Mv X G N (.seq (.region id ops true) y) Q σ :=
  AW_seq (AW_regionB hg hm db ord hok (h _ fun _ h => h.norm l ns hM))
theorem AW_rbe (hg : Good P T) (hm : P.follows .mixedOrders = true) (db : List Nat) (ord : List Nat) {id : Nat} (hok : okDrawB db ord ops = true) {Q : Exit → St → Prop} {σ : St}
    (h : ∀ K : St → Prop, (∀ τ : St, Q .normal τ → K τ) → sxb P T Mv G N db K (inOrder ops ord) σ) : AW P Mv X G N (.region id ops true) Q σ := AW_regionB hg hm db ord hok (h _ fun _ h => h)
theorem sxb_nextO {K : St → Prop} {i : Nat} {l : List Nat} {o : Oper} (ho : ops[i]? = some o) (h : ∀ K' : St → Prop, (∀ τ, sxb P T Mv G N db K (inOrder ops l) τ → K' τ) → stepB P T Mv G N db i o σ K') : sxb P T Mv G N db K (inOrder ops (i :: l)) σ := by
  have : inOrder ops (i :: l) = (i, o) :: inOrder ops l := by simp [inOrder, ho]
  rw [this]
  exact h _ fun _ h => h
theorem sxb_nilO {K : St → Prop} (h : K σ) : sxb P T Mv G N db K (inOrder ops []) σ := h
end
attribute [simp] stepB dataW
end Go.Av

/-
  Plain facts of what is worked out until nothing changes.
-/
namespace Go.Proofs.YtblafkekblaibaaDoor
set_option linter.unusedSimpArgs false
set_option linter.unusedVariables false

/-- Below, where st is at the bottom. -/
def Le (st a b : Bool) : Prop := a = st ∨ a = b
theorem Le.refl (st a : Bool) : Le st a a := .inr rfl
theorem Le.trans {st a b c : Bool} (h : Le st a b) (h' : Le st b c) : Le st a c := by
  rcases h with h | rfl
  · exact .inl h
  · exact h'
theorem Le.anti {st a b : Bool} (h : Le st a b) (h' : Le st b a) : a = b := by
  rcases h with rfl | rfl
  · rcases h' with rfl | rfl <;> rfl
  · rfl
theorem Le.ne {st a b : Bool} (h : Le st a b) (hne : a ≠ b) : a = st ∧ b ≠ st := by
  rcases h with rfl | h
  · exact ⟨rfl, fun e => hne e.symm⟩
  · exact absurd h hne

def MonoN (now : Nat → Bool → Bool) : Prop := ∀ i, now i false = true → now i true = true
theorem MonoN.le {now : Nat → Bool → Bool} (h : MonoN now) (st : Bool) {i : Nat} {a b : Bool} (hab : Le st a b) : Le st (now i a) (now i b) := by
  have hi := h i
  rcases hab with rfl | rfl
  · cases a <;> cases b <;> unfold Le <;> cases h1 : now i false <;> cases h2 : now i true <;> simp_all
  · exact .refl _ _

def iterN (now : Nat → Bool → Bool) (nx : Nat → Nat) (st : Bool) : Nat → Nat → Bool
  | 0, _ => st
  | k + 1, i => now i (iterN now nx st k (nx i))

theorem iterN_le {now : Nat → Bool → Bool} (h : MonoN now) (nx : Nat → Nat) (st : Bool) : ∀ k i, Le st (iterN now nx st k i) (iterN now nx st (k + 1) i)
  | 0, i => .inl rfl
  | k + 1, i => h.le st (iterN_le h nx st k (nx i))
theorem iterN_least {now : Nat → Bool → Bool} (h : MonoN now) {nx : Nat → Nat} {st : Bool} {n : Nat} (hn : ∀ i, i < n → nx i < n) {f : Nat → Bool} (hf : ∀ i, i < n → f i = now i (f (nx i))) : ∀ k i, i < n → Le st (iterN now nx st k i) (f i)
  | 0, i, _ => .inl rfl
  | k + 1, i, hi => by
    rw [hf i hi]
    exact h.le st (iterN_least h hn hf k _ (hn i hi))

def cntB (f : Nat → Bool) : Nat → Nat
  | 0 => 0
  | n + 1 => cntB f n + if f n then 1 else 0
theorem cntB_le (f : Nat → Bool) : ∀ n, cntB f n ≤ n
  | 0 => Nat.le_refl _
  | n + 1 => by
    have := cntB_le f n
    simp only [cntB]
    split <;> omega
theorem cntB_mono {f g : Nat → Bool} : ∀ n, (∀ i, i < n → f i = true → g i = true) → cntB f n ≤ cntB g n
  | 0, _ => Nat.le_refl _
  | n + 1, h => by
    have ih := cntB_mono n fun i hi => h i (by omega)
    have hn := h n (by omega)
    simp only [cntB]
    cases h1 : f n with
    | false => simp; omega
    | true => rw [hn h1]; simp; omega
theorem cntB_lt {f g : Nat → Bool} : ∀ n, (∀ i, i < n → f i = true → g i = true) → (∃ i, i < n ∧ f i = false ∧ g i = true) → cntB f n < cntB g n
  | 0, _, ⟨i, hi, _⟩ => by omega
  | n + 1, h, ⟨i, hi, h1, h2⟩ => by
    have hn := h n (by omega)
    simp only [cntB]
    by_cases hin : i = n
    · subst hin
      have := cntB_mono i fun j hj => h j (by omega)
      rw [h1, h2]
      simp; omega
    · have := cntB_lt n (fun j hj => h j (by omega)) ⟨i, by omega, h1, h2⟩
      cases h3 : f n with
      | false => simp; split <;> omega
      | true => rw [hn h3]; simp; omega

/-- How many are not at the bottom. -/
def up (st : Bool) (n : Nat) (f : Nat → Bool) : Nat := cntB (fun i => f i != st) n
theorem up_le (st : Bool) (n : Nat) (f : Nat → Bool) : up st n f ≤ n := cntB_le _ _
theorem up_mono {st : Bool} {n : Nat} {f g : Nat → Bool} (h : ∀ i, i < n → Le st (f i) (g i)) : up st n f ≤ up st n g := cntB_mono n fun i hi hf => by
  simp only [bne_iff_ne, ne_eq] at hf ⊢
  rcases h i hi with h | h
  · exact absurd h hf
  · rwa [← h]
theorem up_lt {st : Bool} {n : Nat} {f g : Nat → Bool} (h : ∀ i, i < n → Le st (f i) (g i)) (hx : ∃ i, i < n ∧ f i ≠ g i) : up st n f < up st n g := cntB_lt n (fun i hi hf => by
  simp only [bne_iff_ne, ne_eq] at hf ⊢
  rcases h i hi with h | h
  · exact absurd h hf
  · rwa [← h]) (by
  obtain ⟨i, hi, hne⟩ := hx
  obtain ⟨h1, h2⟩ := (h i hi).ne hne
  exact ⟨i, hi, by simp [h1], by simpa using h2⟩)

theorem iterN_stop {now : Nat → Bool → Bool} (h : MonoN now) {nx : Nat → Nat} {st : Bool} {n : Nat} (hn : ∀ i, i < n → nx i < n) : ∃ k, k ≤ n ∧ ∀ i, i < n → iterN now nx st k i = iterN now nx st (k + 1) i := by
  apply Classical.byContradiction
  intro hno
  have key : ∀ k, k ≤ n + 1 → k ≤ up st n (iterN now nx st k) := by
    intro k
    induction k with
    | zero => intro _; omega
    | succ k ih =>
      intro hk
      have h1 := ih (by omega)
      have hx : ∃ i, i < n ∧ iterN now nx st k i ≠ iterN now nx st (k + 1) i := by
        apply Classical.byContradiction
        intro hall
        exact hno ⟨k, by omega, fun i hi => Classical.byContradiction fun hne => hall ⟨i, hi, hne⟩⟩
      have := up_lt (fun i _ => iterN_le h nx st k i) hx
      omega
  have h1 := key (n + 1) (Nat.le_refl _)
  have h2 := up_le st n (iterN now nx st (n + 1))
  omega
theorem iterN_stay {now : Nat → Bool → Bool} {nx : Nat → Nat} {st : Bool} {n k : Nat} (hn : ∀ i, i < n → nx i < n) (hk : ∀ i, i < n → iterN now nx st k i = iterN now nx st (k + 1) i) : ∀ d i, i < n → iterN now nx st (k + d) i = iterN now nx st k i
  | 0, i, _ => rfl
  | d + 1, i, hi => by
    have ih := iterN_stay hn hk d _ (hn i hi)
    rw [hk i hi, ← Nat.add_assoc]
    simp only [iterN]
    rw [ih]
/-- From n on, all stays. -/
theorem iterN_all {now : Nat → Bool → Bool} (h : MonoN now) {nx : Nat → Nat} {st : Bool} {n : Nat} (hn : ∀ i, i < n → nx i < n) {m : Nat} (hm : n ≤ m) {i : Nat} (hi : i < n) : iterN now nx st m i = iterN now nx st n i := by
  obtain ⟨k, hk, he⟩ := iterN_stop h (st := st) hn
  have h1 := iterN_stay hn he (m - k) i hi
  have h2 := iterN_stay hn he (n - k) i hi
  rw [show k + (m - k) = m by omega] at h1
  rw [show k + (n - k) = n by omega] at h2
  rw [h1, h2]
theorem iterN_fix {now : Nat → Bool → Bool} (h : MonoN now) {nx : Nat → Nat} {st : Bool} {n : Nat} (hn : ∀ i, i < n → nx i < n) {i : Nat} (hi : i < n) : iterN now nx st n i = now i (iterN now nx st n (nx i)) :=
  (iterN_all h hn (Nat.le_succ n) hi).symm
/-- What lies between, and is so now as it is by what is next, is it. -/
theorem iterN_is {now : Nat → Bool → Bool} (h : MonoN now) {nx : Nat → Nat} {st : Bool} {n : Nat} (hn : ∀ i, i < n → nx i < n) {f : Nat → Bool} (hf : ∀ i, i < n → f i = now i (f (nx i))) (hle : ∀ i, i < n → Le st (f i) (iterN now nx st n i)) {i : Nat} (hi : i < n) : f i = iterN now nx st n i :=
  (hle i hi).anti (iterN_least h hn hf n i hi)

/-- One of them set. -/
def setB (f : Nat → Bool) (i : Nat) (x : Bool) : Nat → Bool := fun j => if j = i then x else f j
/-- What is kept all along. -/
structure Kept (now : Nat → Bool → Bool) (nx : Nat → Nat) (st : Bool) (n : Nat) (f : Nat → Bool) : Prop where
  le : ∀ i, i < n → Le st (f i) (iterN now nx st n i)
  grow : ∀ i, i < n → Le st (f i) (now i (f (nx i)))
theorem Kept.start (now : Nat → Bool → Bool) (nx : Nat → Nat) (st : Bool) (n : Nat) : Kept now nx st n fun _ => st := ⟨fun _ _ => .inl rfl, fun _ _ => .inl rfl⟩
theorem Kept.set {now : Nat → Bool → Bool} {nx : Nat → Nat} {st : Bool} {n : Nat} {f : Nat → Bool} (k : Kept now nx st n f) (h : MonoN now) (hn : ∀ i, i < n → nx i < n) {i : Nat} (hi : i < n) (hne : now i (f (nx i)) ≠ f i) :
    Kept now nx st n (setB f i (now i (f (nx i)))) ∧ up st n f < up st n (setB f i (now i (f (nx i)))) := by
  have hup : ∀ j, j < n → Le st (f j) (setB f i (now i (f (nx i))) j) := fun j hj => by
    unfold setB
    split
    · rename_i e; subst e; exact k.grow j hj
    · exact .refl _ _
  refine ⟨⟨fun j hj => ?_, fun j hj => ?_⟩, up_lt hup ⟨i, hi, by simp [setB, Ne.symm hne]⟩⟩
  · by_cases e : j = i
    · subst e
      rw [show setB f j (now j (f (nx j))) j = now j (f (nx j)) by simp [setB], iterN_fix h hn hj]
      exact h.le st (k.le _ (hn j hj))
    · rw [show setB f i (now i (f (nx i))) j = f j by simp [setB, e]]
      exact k.le j hj
  · have hb := h.le st (i := j) (hup (nx j) (hn j hj))
    by_cases e : j = i
    · subst e
      rw [show setB f j (now j (f (nx j))) j = now j (f (nx j)) by simp [setB]]
      exact hb
    · rw [show setB f i (now i (f (nx i))) j = f j by simp [setB, e]]
      exact (k.grow j hj).trans hb
end Go.Proofs.YtblafkekblaibaaDoor

/-
  What the types of this seat's translation are: closed facts, by program (wip/tools/gen_ty.py).
-/
namespace Go.Proofs.YtblafkekblaibaaDoor
open Go.Av
@[simp] theorem ty0 : tyOf Tryd.prog 0 = some ⟨.tuple #[], 1, 0, .tuple #[]⟩ := by kernel_rfl
@[simp] theorem ty1 : tyOf Tryd.prog 1 = some ⟨.func #[] #[] false, 1, 8, .nilFunc⟩ := by kernel_rfl
@[simp] theorem ty2 : tyOf Tryd.prog 2 = some ⟨.int .i64, 1, 8, .int .i64 0⟩ := by kernel_rfl
@[simp] theorem ty3 : tyOf Tryd.prog 3 = some ⟨.int .i64, 1, 8, .int .i64 0⟩ := by kernel_rfl
@[simp] theorem ty4 : tyOf Tryd.prog 4 = some ⟨.bool, 1, 1, .bool false⟩ := by kernel_rfl
@[simp] theorem ty5 : tyOf Tryd.prog 5 = some ⟨.int .u8, 1, 1, .int .u8 0⟩ := by kernel_rfl
@[simp] theorem ty7 : tyOf Tryd.prog 7 = some ⟨.struct #[{ name := "x", type := 2, offset := 0, embedded := false, tag := "", pkgPath := "runtime", byteOffset := 0 }, { name := "y", type := 3, offset := 1, embedded := false, tag := "", pkgPath := "runtime", byteOffset := 8 }, { name := "signed", type := 4, offset := 2, embedded := false, tag := "", pkgPath := "runtime", byteOffset := 16 }, { name := "code", type := 6, offset := 3, embedded := false, tag := "", pkgPath := "runtime", byteOffset := 17 }], 4, 24, .agg #[.int .i64 0, .int .i64 0, .bool false, .int .u8 0]⟩ := by kernel_rfl
@[simp] theorem ty9 : tyOf Tryd.prog 9 = some ⟨.string, 1, 16, .string ⟨#[]⟩⟩ := by kernel_rfl
@[simp] theorem ty12 : tyOf Tryd.prog 12 = some ⟨.int .u64, 1, 8, .int .u64 0⟩ := by kernel_rfl
@[simp] theorem ty13 : tyOf Tryd.prog 13 = some ⟨.struct #[{ name := "msg", type := 9, offset := 0, embedded := false, tag := "", pkgPath := "runtime", byteOffset := 0 }, { name := "addr", type := 12, offset := 1, embedded := false, tag := "", pkgPath := "runtime", byteOffset := 16 }], 2, 24, .agg #[.string ⟨#[]⟩, .int .u64 0]⟩ := by kernel_rfl
@[simp] theorem ty15 : tyOf Tryd.prog 15 = some ⟨.pointer 206, 1, 8, .pointer none⟩ := by kernel_rfl
@[simp] theorem ty16 : tyOf Tryd.prog 16 = some ⟨.pointer 209, 1, 8, .pointer none⟩ := by kernel_rfl
@[simp] theorem ty17 : tyOf Tryd.prog 17 = some ⟨.pointer 218, 1, 8, .pointer none⟩ := by kernel_rfl
@[simp] theorem ty18 : tyOf Tryd.prog 18 = some ⟨.struct #[{ name := "typ", type := 17, offset := 0, embedded := false, tag := "", pkgPath := "internal/runtime/maps", byteOffset := 0 }], 1, 8, .agg #[.pointer none]⟩ := by kernel_rfl
@[simp] theorem ty20 : tyOf Tryd.prog 20 = some ⟨.interface #[], 1, 16, .nilIface⟩ := by kernel_rfl
@[simp] theorem ty21 : tyOf Tryd.prog 21 = some ⟨.int .i32, 1, 4, .int .i32 0⟩ := by kernel_rfl
@[simp] theorem ty22 : tyOf Tryd.prog 22 = some ⟨.slice 9, 1, 24, .slice none 0 0⟩ := by kernel_rfl
@[simp] theorem ty23 : tyOf Tryd.prog 23 = some ⟨.interface #[("Text", 56)], 1, 16, .nilIface⟩ := by kernel_rfl
@[simp] theorem ty24 : tyOf Tryd.prog 24 = some ⟨.interface #[("Text", 56)], 1, 16, .nilIface⟩ := by kernel_rfl
@[simp] theorem ty25 : tyOf Tryd.prog 25 = some ⟨.interface #[("Error", 56)], 1, 16, .nilIface⟩ := by kernel_rfl
@[simp] theorem ty26 : tyOf Tryd.prog 26 = some ⟨.interface #[("Error", 56)], 1, 16, .nilIface⟩ := by kernel_rfl
@[simp] theorem ty27 : tyOf Tryd.prog 27 = some ⟨.tuple #[24, 26], 1, 0, .tuple #[.nilIface, .nilIface]⟩ := by kernel_rfl
@[simp] theorem ty28 : tyOf Tryd.prog 28 = some ⟨.func #[9] #[24, 26] false, 1, 8, .nilFunc⟩ := by kernel_rfl
@[simp] theorem ty29 : tyOf Tryd.prog 29 = some ⟨.func #[] #[4] false, 1, 8, .nilFunc⟩ := by kernel_rfl
@[simp] theorem ty30 : tyOf Tryd.prog 30 = some ⟨.func #[24] #[9] false, 1, 8, .nilFunc⟩ := by kernel_rfl
@[simp] theorem ty31 : tyOf Tryd.prog 31 = some ⟨.func #[24] #[3] false, 1, 8, .nilFunc⟩ := by kernel_rfl
@[simp] theorem ty32 : tyOf Tryd.prog 32 = some ⟨.func #[24, 33, 33] #[4] false, 1, 8, .nilFunc⟩ := by kernel_rfl
@[simp] theorem ty33 : tyOf Tryd.prog 33 = some ⟨.func #[9] #[4] false, 1, 8, .nilFunc⟩ := by kernel_rfl
@[simp] theorem ty34 : tyOf Tryd.prog 34 = some ⟨.func #[22] #[33] false, 1, 8, .nilFunc⟩ := by kernel_rfl
@[simp] theorem ty35 : tyOf Tryd.prog 35 = some ⟨.func #[9, 22, 22] #[4] false, 1, 8, .nilFunc⟩ := by kernel_rfl
@[simp] theorem ty36 : tyOf Tryd.prog 36 = some ⟨.slice 22, 1, 24, .slice none 0 0⟩ := by kernel_rfl
@[simp] theorem ty37 : tyOf Tryd.prog 37 = some ⟨.struct #[{ name := "Ahead", type := 36, offset := 0, embedded := false, tag := "", pkgPath := "", byteOffset := 0 }, { name := "Round", type := 36, offset := 1, embedded := false, tag := "", pkgPath := "", byteOffset := 24 }], 2, 48, .agg #[.slice none 0 0, .slice none 0 0]⟩ := by kernel_rfl
@[simp] theorem ty38 : tyOf Tryd.prog 38 = some ⟨.struct #[{ name := "Ahead", type := 36, offset := 0, embedded := false, tag := "", pkgPath := "", byteOffset := 0 }, { name := "Round", type := 36, offset := 1, embedded := false, tag := "", pkgPath := "", byteOffset := 24 }], 2, 48, .agg #[.slice none 0 0, .slice none 0 0]⟩ := by kernel_rfl
@[simp] theorem ty39 : tyOf Tryd.prog 39 = some ⟨.slice 93, 1, 24, .slice none 0 0⟩ := by kernel_rfl
@[simp] theorem ty40 : tyOf Tryd.prog 40 = some ⟨.pointer 91, 1, 8, .pointer none⟩ := by kernel_rfl
@[simp] theorem ty41 : tyOf Tryd.prog 41 = some ⟨.func #[39] #[40] false, 1, 8, .nilFunc⟩ := by kernel_rfl
@[simp] theorem ty42 : tyOf Tryd.prog 42 = some ⟨.tuple #[40, 26], 1, 0, .tuple #[.pointer none, .nilIface]⟩ := by kernel_rfl
@[simp] theorem ty43 : tyOf Tryd.prog 43 = some ⟨.func #[40] #[40, 26] false, 1, 8, .nilFunc⟩ := by kernel_rfl
@[simp] theorem ty44 : tyOf Tryd.prog 44 = some ⟨.func #[40] #[26] false, 1, 8, .nilFunc⟩ := by kernel_rfl
@[simp] theorem ty45 : tyOf Tryd.prog 45 = some ⟨.slice 4, 1, 24, .slice none 0 0⟩ := by kernel_rfl
@[simp] theorem ty46 : tyOf Tryd.prog 46 = some ⟨.tuple #[45, 26], 1, 0, .tuple #[.slice none 0 0, .nilIface]⟩ := by kernel_rfl
@[simp] theorem ty47 : tyOf Tryd.prog 47 = some ⟨.func #[38, 40] #[45, 26] false, 1, 8, .nilFunc⟩ := by kernel_rfl
@[simp] theorem ty48 : tyOf Tryd.prog 48 = some ⟨.func #[45, 45] #[4] false, 1, 8, .nilFunc⟩ := by kernel_rfl
@[simp] theorem ty49 : tyOf Tryd.prog 49 = some ⟨.func #[40] #[9] false, 1, 8, .nilFunc⟩ := by kernel_rfl
@[simp] theorem ty50 : tyOf Tryd.prog 50 = some ⟨.func #[38, 39] #[4] false, 1, 8, .nilFunc⟩ := by kernel_rfl
@[simp] theorem ty51 : tyOf Tryd.prog 51 = some ⟨.pointer 104, 1, 8, .pointer none⟩ := by kernel_rfl
@[simp] theorem ty52 : tyOf Tryd.prog 52 = some ⟨.tuple #[24, 51, 4], 1, 0, .tuple #[.nilIface, .pointer none, .bool false]⟩ := by kernel_rfl
@[simp] theorem ty53 : tyOf Tryd.prog 53 = some ⟨.func #[9] #[24, 51, 4] false, 1, 8, .nilFunc⟩ := by kernel_rfl
@[simp] theorem ty54 : tyOf Tryd.prog 54 = some ⟨.func #[24] #[24] false, 1, 8, .nilFunc⟩ := by kernel_rfl
@[simp] theorem ty55 : tyOf Tryd.prog 55 = some ⟨.func #[] #[51] false, 1, 8, .nilFunc⟩ := by kernel_rfl
@[simp] theorem ty56 : tyOf Tryd.prog 56 = some ⟨.func #[] #[9] false, 1, 8, .nilFunc⟩ := by kernel_rfl
@[simp] theorem ty57 : tyOf Tryd.prog 57 = some ⟨.pointer 108, 1, 8, .pointer none⟩ := by kernel_rfl
@[simp] theorem ty58 : tyOf Tryd.prog 58 = some ⟨.tuple #[57, 3, 4], 1, 0, .tuple #[.pointer none, .int .i64 0, .bool false]⟩ := by kernel_rfl
@[simp] theorem ty59 : tyOf Tryd.prog 59 = some ⟨.func #[39] #[57, 3, 4] false, 1, 8, .nilFunc⟩ := by kernel_rfl
@[simp] theorem ty60 : tyOf Tryd.prog 60 = some ⟨.int .i64, 1, 8, .int .i64 0⟩ := by kernel_rfl
@[simp] theorem ty61 : tyOf Tryd.prog 61 = some ⟨.func #[57] #[4] false, 1, 8, .nilFunc⟩ := by kernel_rfl
@[simp] theorem ty62 : tyOf Tryd.prog 62 = some ⟨.func #[26, 60] #[4] false, 1, 8, .nilFunc⟩ := by kernel_rfl
@[simp] theorem ty63 : tyOf Tryd.prog 63 = some ⟨.func #[4] #[57] false, 1, 8, .nilFunc⟩ := by kernel_rfl
@[simp] theorem ty64 : tyOf Tryd.prog 64 = some ⟨.func #[39] #[4] false, 1, 8, .nilFunc⟩ := by kernel_rfl
@[simp] theorem ty65 : tyOf Tryd.prog 65 = some ⟨.struct #[{ name := "Err", type := 60, offset := 0, embedded := false, tag := "", pkgPath := "", byteOffset := 0 }, { name := "Place", type := 3, offset := 1, embedded := false, tag := "", pkgPath := "", byteOffset := 8 }], 2, 16, .agg #[.int .i64 0, .int .i64 0]⟩ := by kernel_rfl
@[simp] theorem ty66 : tyOf Tryd.prog 66 = some ⟨.struct #[{ name := "Err", type := 60, offset := 0, embedded := false, tag := "", pkgPath := "", byteOffset := 0 }, { name := "Place", type := 3, offset := 1, embedded := false, tag := "", pkgPath := "", byteOffset := 8 }], 2, 16, .agg #[.int .i64 0, .int .i64 0]⟩ := by kernel_rfl
@[simp] theorem ty67 : tyOf Tryd.prog 67 = some ⟨.tuple #[51, 66], 1, 0, .tuple #[.pointer none, .agg #[.int .i64 0, .int .i64 0]]⟩ := by kernel_rfl
@[simp] theorem ty68 : tyOf Tryd.prog 68 = some ⟨.func #[9] #[51, 66] false, 1, 8, .nilFunc⟩ := by kernel_rfl
@[simp] theorem ty69 : tyOf Tryd.prog 69 = some ⟨.func #[26, 66] #[4] false, 1, 8, .nilFunc⟩ := by kernel_rfl
@[simp] theorem ty70 : tyOf Tryd.prog 70 = some ⟨.pointer 72, 1, 8, .pointer none⟩ := by kernel_rfl
@[simp] theorem ty71 : tyOf Tryd.prog 71 = some ⟨.struct #[{ name := "text", type := 9, offset := 0, embedded := false, tag := "", pkgPath := "signalcabin/expr", byteOffset := 0 }, { name := "at", type := 3, offset := 1, embedded := false, tag := "", pkgPath := "signalcabin/expr", byteOffset := 16 }], 2, 24, .agg #[.string ⟨#[]⟩, .int .i64 0]⟩ := by kernel_rfl
@[simp] theorem ty72 : tyOf Tryd.prog 72 = some ⟨.struct #[{ name := "text", type := 9, offset := 0, embedded := false, tag := "", pkgPath := "signalcabin/expr", byteOffset := 0 }, { name := "at", type := 3, offset := 1, embedded := false, tag := "", pkgPath := "signalcabin/expr", byteOffset := 16 }], 2, 24, .agg #[.string ⟨#[]⟩, .int .i64 0]⟩ := by kernel_rfl
@[simp] theorem ty73 : tyOf Tryd.prog 73 = some ⟨.func #[3] #[24, 26] false, 1, 8, .nilFunc⟩ := by kernel_rfl
@[simp] theorem ty74 : tyOf Tryd.prog 74 = some ⟨.func #[60] #[26] false, 1, 8, .nilFunc⟩ := by kernel_rfl
@[simp] theorem ty75 : tyOf Tryd.prog 75 = some ⟨.func #[24, 76] #[] false, 1, 8, .nilFunc⟩ := by kernel_rfl
@[simp] theorem ty76 : tyOf Tryd.prog 76 = some ⟨.func #[24] #[] false, 1, 8, .nilFunc⟩ := by kernel_rfl
@[simp] theorem ty77 : tyOf Tryd.prog 77 = some ⟨.bool, 1, 1, .bool false⟩ := by kernel_rfl
@[simp] theorem ty78 : tyOf Tryd.prog 78 = some ⟨.string, 1, 16, .string ⟨#[]⟩⟩ := by kernel_rfl
@[simp] theorem ty79 : tyOf Tryd.prog 79 = some ⟨.string, 1, 16, .string ⟨#[]⟩⟩ := by kernel_rfl
@[simp] theorem ty80 : tyOf Tryd.prog 80 = some ⟨.string, 1, 16, .string ⟨#[]⟩⟩ := by kernel_rfl
@[simp] theorem ty81 : tyOf Tryd.prog 81 = some ⟨.struct #[{ name := "Of", type := 24, offset := 0, embedded := false, tag := "", pkgPath := "", byteOffset := 0 }], 1, 16, .agg #[.nilIface]⟩ := by kernel_rfl
@[simp] theorem ty82 : tyOf Tryd.prog 82 = some ⟨.struct #[{ name := "Of", type := 24, offset := 0, embedded := false, tag := "", pkgPath := "", byteOffset := 0 }], 1, 16, .agg #[.nilIface]⟩ := by kernel_rfl
@[simp] theorem ty83 : tyOf Tryd.prog 83 = some ⟨.slice 24, 1, 24, .slice none 0 0⟩ := by kernel_rfl
@[simp] theorem ty84 : tyOf Tryd.prog 84 = some ⟨.slice 24, 1, 24, .slice none 0 0⟩ := by kernel_rfl
@[simp] theorem ty85 : tyOf Tryd.prog 85 = some ⟨.func #[84, 86] #[4] false, 1, 8, .nilFunc⟩ := by kernel_rfl
@[simp] theorem ty86 : tyOf Tryd.prog 86 = some ⟨.func #[24] #[4] false, 1, 8, .nilFunc⟩ := by kernel_rfl
@[simp] theorem ty87 : tyOf Tryd.prog 87 = some ⟨.slice 24, 1, 24, .slice none 0 0⟩ := by kernel_rfl
@[simp] theorem ty88 : tyOf Tryd.prog 88 = some ⟨.func #[87, 86] #[4] false, 1, 8, .nilFunc⟩ := by kernel_rfl
@[simp] theorem ty89 : tyOf Tryd.prog 89 = some ⟨.slice 40, 1, 24, .slice none 0 0⟩ := by kernel_rfl
@[simp] theorem ty90 : tyOf Tryd.prog 90 = some ⟨.struct #[{ name := "Kind", type := 3, offset := 0, embedded := false, tag := "", pkgPath := "", byteOffset := 0 }, { name := "Name", type := 9, offset := 1, embedded := false, tag := "", pkgPath := "", byteOffset := 8 }, { name := "Of", type := 89, offset := 2, embedded := false, tag := "", pkgPath := "", byteOffset := 24 }], 3, 48, .agg #[.int .i64 0, .string ⟨#[]⟩, .slice none 0 0]⟩ := by kernel_rfl
@[simp] theorem ty91 : tyOf Tryd.prog 91 = some ⟨.struct #[{ name := "Kind", type := 3, offset := 0, embedded := false, tag := "", pkgPath := "", byteOffset := 0 }, { name := "Name", type := 9, offset := 1, embedded := false, tag := "", pkgPath := "", byteOffset := 8 }, { name := "Of", type := 89, offset := 2, embedded := false, tag := "", pkgPath := "", byteOffset := 24 }], 3, 48, .agg #[.int .i64 0, .string ⟨#[]⟩, .slice none 0 0]⟩ := by kernel_rfl
@[simp] theorem ty92 : tyOf Tryd.prog 92 = some ⟨.struct #[{ name := "Kind", type := 3, offset := 0, embedded := false, tag := "", pkgPath := "", byteOffset := 0 }, { name := "A", type := 3, offset := 1, embedded := false, tag := "", pkgPath := "", byteOffset := 8 }, { name := "B", type := 3, offset := 2, embedded := false, tag := "", pkgPath := "", byteOffset := 16 }, { name := "Name", type := 9, offset := 3, embedded := false, tag := "", pkgPath := "", byteOffset := 24 }], 4, 40, .agg #[.int .i64 0, .int .i64 0, .int .i64 0, .string ⟨#[]⟩]⟩ := by kernel_rfl
@[simp] theorem ty93 : tyOf Tryd.prog 93 = some ⟨.struct #[{ name := "Kind", type := 3, offset := 0, embedded := false, tag := "", pkgPath := "", byteOffset := 0 }, { name := "A", type := 3, offset := 1, embedded := false, tag := "", pkgPath := "", byteOffset := 8 }, { name := "B", type := 3, offset := 2, embedded := false, tag := "", pkgPath := "", byteOffset := 16 }, { name := "Name", type := 9, offset := 3, embedded := false, tag := "", pkgPath := "", byteOffset := 24 }], 4, 40, .agg #[.int .i64 0, .int .i64 0, .int .i64 0, .string ⟨#[]⟩]⟩ := by kernel_rfl
@[simp] theorem ty94 : tyOf Tryd.prog 94 = some ⟨.func #[3, 3] #[3] false, 1, 8, .nilFunc⟩ := by kernel_rfl
@[simp] theorem ty95 : tyOf Tryd.prog 95 = some ⟨.func #[40, 4] #[40] false, 1, 8, .nilFunc⟩ := by kernel_rfl
@[simp] theorem ty96 : tyOf Tryd.prog 96 = some ⟨.tuple #[3, 60], 1, 0, .tuple #[.int .i64 0, .int .i64 0]⟩ := by kernel_rfl
@[simp] theorem ty97 : tyOf Tryd.prog 97 = some ⟨.func #[40, 3] #[3, 60] false, 1, 8, .nilFunc⟩ := by kernel_rfl
@[simp] theorem ty98 : tyOf Tryd.prog 98 = some ⟨.func #[38] #[26] false, 1, 8, .nilFunc⟩ := by kernel_rfl
@[simp] theorem ty99 : tyOf Tryd.prog 99 = some ⟨.func #[38, 40] #[45] false, 1, 8, .nilFunc⟩ := by kernel_rfl
@[simp] theorem ty100 : tyOf Tryd.prog 100 = some ⟨.tuple #[83, 4], 1, 0, .tuple #[.slice none 0 0, .bool false]⟩ := by kernel_rfl
@[simp] theorem ty101 : tyOf Tryd.prog 101 = some ⟨.func #[83, 4] #[83, 4] false, 1, 8, .nilFunc⟩ := by kernel_rfl
@[simp] theorem ty102 : tyOf Tryd.prog 102 = some ⟨.slice 51, 1, 24, .slice none 0 0⟩ := by kernel_rfl
@[simp] theorem ty103 : tyOf Tryd.prog 103 = some ⟨.struct #[{ name := "Kind", type := 9, offset := 0, embedded := false, tag := "", pkgPath := "", byteOffset := 0 }, { name := "Name", type := 9, offset := 1, embedded := false, tag := "", pkgPath := "", byteOffset := 16 }, { name := "Of", type := 102, offset := 2, embedded := false, tag := "", pkgPath := "", byteOffset := 32 }], 3, 56, .agg #[.string ⟨#[]⟩, .string ⟨#[]⟩, .slice none 0 0]⟩ := by kernel_rfl
@[simp] theorem ty104 : tyOf Tryd.prog 104 = some ⟨.struct #[{ name := "Kind", type := 9, offset := 0, embedded := false, tag := "", pkgPath := "", byteOffset := 0 }, { name := "Name", type := 9, offset := 1, embedded := false, tag := "", pkgPath := "", byteOffset := 16 }, { name := "Of", type := 102, offset := 2, embedded := false, tag := "", pkgPath := "", byteOffset := 32 }], 3, 56, .agg #[.string ⟨#[]⟩, .string ⟨#[]⟩, .slice none 0 0]⟩ := by kernel_rfl
@[simp] theorem ty105 : tyOf Tryd.prog 105 = some ⟨.func #[22, 9] #[9] false, 1, 8, .nilFunc⟩ := by kernel_rfl
@[simp] theorem ty106 : tyOf Tryd.prog 106 = some ⟨.slice 57, 1, 24, .slice none 0 0⟩ := by kernel_rfl
@[simp] theorem ty107 : tyOf Tryd.prog 107 = some ⟨.struct #[{ name := "Kind", type := 3, offset := 0, embedded := false, tag := "", pkgPath := "", byteOffset := 0 }, { name := "Name", type := 9, offset := 1, embedded := false, tag := "", pkgPath := "", byteOffset := 8 }, { name := "Of", type := 106, offset := 2, embedded := false, tag := "", pkgPath := "", byteOffset := 24 }], 3, 48, .agg #[.int .i64 0, .string ⟨#[]⟩, .slice none 0 0]⟩ := by kernel_rfl
@[simp] theorem ty108 : tyOf Tryd.prog 108 = some ⟨.struct #[{ name := "Kind", type := 3, offset := 0, embedded := false, tag := "", pkgPath := "", byteOffset := 0 }, { name := "Name", type := 9, offset := 1, embedded := false, tag := "", pkgPath := "", byteOffset := 8 }, { name := "Of", type := 106, offset := 2, embedded := false, tag := "", pkgPath := "", byteOffset := 24 }], 3, 48, .agg #[.int .i64 0, .string ⟨#[]⟩, .slice none 0 0]⟩ := by kernel_rfl
@[simp] theorem ty109 : tyOf Tryd.prog 109 = some ⟨.slice 3, 1, 24, .slice none 0 0⟩ := by kernel_rfl
@[simp] theorem ty110 : tyOf Tryd.prog 110 = some ⟨.func #[60] #[66] false, 1, 8, .nilFunc⟩ := by kernel_rfl
@[simp] theorem ty111 : tyOf Tryd.prog 111 = some ⟨.func #[57] #[57] false, 1, 8, .nilFunc⟩ := by kernel_rfl
@[simp] theorem ty112 : tyOf Tryd.prog 112 = some ⟨.map 3 3, 1, 8, .map none⟩ := by kernel_rfl
@[simp] theorem ty113 : tyOf Tryd.prog 113 = some ⟨.func #[3, 106] #[57] true, 1, 8, .nilFunc⟩ := by kernel_rfl
@[simp] theorem ty114 : tyOf Tryd.prog 114 = some ⟨.map 3 9, 1, 8, .map none⟩ := by kernel_rfl
@[simp] theorem ty115 : tyOf Tryd.prog 115 = some ⟨.pointer 117, 1, 8, .pointer none⟩ := by kernel_rfl
@[simp] theorem ty116 : tyOf Tryd.prog 116 = some ⟨.struct #[{ name := "s", type := 9, offset := 0, embedded := false, tag := "", pkgPath := "signalcabin/signalcabinref", byteOffset := 0 }, { name := "i", type := 3, offset := 1, embedded := false, tag := "", pkgPath := "signalcabin/signalcabinref", byteOffset := 16 }, { name := "f", type := 66, offset := 2, embedded := false, tag := "", pkgPath := "signalcabin/signalcabinref", byteOffset := 24 }], 4, 40, .agg #[.string ⟨#[]⟩, .int .i64 0, .int .i64 0, .int .i64 0]⟩ := by kernel_rfl
@[simp] theorem ty117 : tyOf Tryd.prog 117 = some ⟨.struct #[{ name := "s", type := 9, offset := 0, embedded := false, tag := "", pkgPath := "signalcabin/signalcabinref", byteOffset := 0 }, { name := "i", type := 3, offset := 1, embedded := false, tag := "", pkgPath := "signalcabin/signalcabinref", byteOffset := 16 }, { name := "f", type := 66, offset := 2, embedded := false, tag := "", pkgPath := "signalcabin/signalcabinref", byteOffset := 24 }], 4, 40, .agg #[.string ⟨#[]⟩, .int .i64 0, .int .i64 0, .int .i64 0]⟩ := by kernel_rfl
@[simp] theorem ty118 : tyOf Tryd.prog 118 = some ⟨.func #[3] #[51] false, 1, 8, .nilFunc⟩ := by kernel_rfl
@[simp] theorem ty119 : tyOf Tryd.prog 119 = some ⟨.func #[] #[5] false, 1, 8, .nilFunc⟩ := by kernel_rfl
@[simp] theorem ty120 : tyOf Tryd.prog 120 = some ⟨.func #[60] #[51] false, 1, 8, .nilFunc⟩ := by kernel_rfl
@[simp] theorem ty121 : tyOf Tryd.prog 121 = some ⟨.tuple #[60, 3], 1, 0, .tuple #[.int .i64 0, .int .i64 0]⟩ := by kernel_rfl
@[simp] theorem ty122 : tyOf Tryd.prog 122 = some ⟨.func #[26] #[60, 3] false, 1, 8, .nilFunc⟩ := by kernel_rfl
@[simp] theorem ty123 : tyOf Tryd.prog 123 = some ⟨.tuple #[83, 26], 1, 0, .tuple #[.slice none 0 0, .nilIface]⟩ := by kernel_rfl
@[simp] theorem ty124 : tyOf Tryd.prog 124 = some ⟨.func #[5, 3, 73] #[83, 26] false, 1, 8, .nilFunc⟩ := by kernel_rfl
@[simp] theorem ty125 : tyOf Tryd.prog 125 = some ⟨.pointer 126, 1, 8, .pointer none⟩ := by kernel_rfl
@[simp] theorem ty126 : tyOf Tryd.prog 126 = some ⟨.struct #[{ name := "Err", type := 60, offset := 0, embedded := false, tag := "", pkgPath := "", byteOffset := 0 }, { name := "Place", type := 3, offset := 1, embedded := false, tag := "", pkgPath := "", byteOffset := 8 }], 2, 16, .agg #[.int .i64 0, .int .i64 0]⟩ := by kernel_rfl
@[simp] theorem ty127 : tyOf Tryd.prog 127 = some ⟨.func #[84, 86] #[3] false, 1, 8, .nilFunc⟩ := by kernel_rfl
@[simp] theorem ty128 : tyOf Tryd.prog 128 = some ⟨.func #[87, 86] #[3] false, 1, 8, .nilFunc⟩ := by kernel_rfl
@[simp] theorem ty129 : tyOf Tryd.prog 129 = some ⟨.int .u64, 1, 8, .int .u64 0⟩ := by kernel_rfl
@[simp] theorem ty130 : tyOf Tryd.prog 130 = some ⟨.array 11 3, 11, 88, .agg #[.int .i64 0, .int .i64 0, .int .i64 0, .int .i64 0, .int .i64 0, .int .i64 0, .int .i64 0, .int .i64 0, .int .i64 0, .int .i64 0, .int .i64 0]⟩ := by kernel_rfl
@[simp] theorem ty131 : tyOf Tryd.prog 131 = some ⟨.slice 36, 1, 24, .slice none 0 0⟩ := by kernel_rfl
@[simp] theorem ty132 : tyOf Tryd.prog 132 = some ⟨.func #[3] #[3] false, 1, 8, .nilFunc⟩ := by kernel_rfl
@[simp] theorem ty133 : tyOf Tryd.prog 133 = some ⟨.slice 45, 1, 24, .slice none 0 0⟩ := by kernel_rfl
@[simp] theorem ty134 : tyOf Tryd.prog 134 = some ⟨.func #[3, 4] #[4] false, 1, 8, .nilFunc⟩ := by kernel_rfl
@[simp] theorem ty135 : tyOf Tryd.prog 135 = some ⟨.func #[4, 134] #[] false, 1, 8, .nilFunc⟩ := by kernel_rfl
@[simp] theorem ty136 : tyOf Tryd.prog 136 = some ⟨.func #[22, 9] #[4] false, 1, 8, .nilFunc⟩ := by kernel_rfl
@[simp] theorem ty137 : tyOf Tryd.prog 137 = some ⟨.tuple #[82, 4], 1, 0, .tuple #[.agg #[.nilIface], .bool false]⟩ := by kernel_rfl
@[simp] theorem ty138 : tyOf Tryd.prog 138 = some ⟨.func #[83, 86] #[4] false, 1, 8, .nilFunc⟩ := by kernel_rfl
@[simp] theorem ty139 : tyOf Tryd.prog 139 = some ⟨.pointer 142, 1, 8, .pointer none⟩ := by kernel_rfl
@[simp] theorem ty140 : tyOf Tryd.prog 140 = some ⟨.slice 5, 1, 24, .slice none 0 0⟩ := by kernel_rfl
@[simp] theorem ty141 : tyOf Tryd.prog 141 = some ⟨.struct #[{ name := "addr", type := 139, offset := 0, embedded := false, tag := "", pkgPath := "strings", byteOffset := 0 }, { name := "buf", type := 140, offset := 1, embedded := false, tag := "", pkgPath := "strings", byteOffset := 8 }], 2, 32, .agg #[.pointer none, .slice none 0 0]⟩ := by kernel_rfl
@[simp] theorem ty142 : tyOf Tryd.prog 142 = some ⟨.struct #[{ name := "addr", type := 139, offset := 0, embedded := false, tag := "", pkgPath := "strings", byteOffset := 0 }, { name := "buf", type := 140, offset := 1, embedded := false, tag := "", pkgPath := "strings", byteOffset := 8 }], 2, 32, .agg #[.pointer none, .slice none 0 0]⟩ := by kernel_rfl
@[simp] theorem ty143 : tyOf Tryd.prog 143 = some ⟨.func #[3] #[] false, 1, 8, .nilFunc⟩ := by kernel_rfl
@[simp] theorem ty144 : tyOf Tryd.prog 144 = some ⟨.tuple #[3, 26], 1, 0, .tuple #[.int .i64 0, .nilIface]⟩ := by kernel_rfl
@[simp] theorem ty145 : tyOf Tryd.prog 145 = some ⟨.func #[9] #[3, 26] false, 1, 8, .nilFunc⟩ := by kernel_rfl
@[simp] theorem ty146 : tyOf Tryd.prog 146 = some ⟨.func #[5, 3, 118] #[51] false, 1, 8, .nilFunc⟩ := by kernel_rfl
@[simp] theorem ty147 : tyOf Tryd.prog 147 = some ⟨.func #[26] #[60] false, 1, 8, .nilFunc⟩ := by kernel_rfl
@[simp] theorem ty148 : tyOf Tryd.prog 148 = some ⟨.tuple #[125, 4], 1, 0, .tuple #[.pointer none, .bool false]⟩ := by kernel_rfl
@[simp] theorem ty149 : tyOf Tryd.prog 149 = some ⟨.interface #[("Unwrap", 151)], 1, 16, .nilIface⟩ := by kernel_rfl
@[simp] theorem ty150 : tyOf Tryd.prog 150 = some ⟨.tuple #[149, 4], 1, 0, .tuple #[.nilIface, .bool false]⟩ := by kernel_rfl
@[simp] theorem ty151 : tyOf Tryd.prog 151 = some ⟨.func #[] #[26] false, 1, 8, .nilFunc⟩ := by kernel_rfl
@[simp] theorem ty152 : tyOf Tryd.prog 152 = some ⟨.func #[5] #[4] false, 1, 8, .nilFunc⟩ := by kernel_rfl
@[simp] theorem ty153 : tyOf Tryd.prog 153 = some ⟨.func #[9, 9] #[9] false, 1, 8, .nilFunc⟩ := by kernel_rfl
@[simp] theorem ty154 : tyOf Tryd.prog 154 = some ⟨.func #[22, 9] #[3] false, 1, 8, .nilFunc⟩ := by kernel_rfl
@[simp] theorem ty155 : tyOf Tryd.prog 155 = some ⟨.func #[83, 86] #[3] false, 1, 8, .nilFunc⟩ := by kernel_rfl
@[simp] theorem ty156 : tyOf Tryd.prog 156 = some ⟨.pointer 5, 1, 8, .pointer none⟩ := by kernel_rfl
@[simp] theorem ty157 : tyOf Tryd.prog 157 = some ⟨.func #[26, 20] #[4] false, 1, 8, .nilFunc⟩ := by kernel_rfl
@[simp] theorem ty158 : tyOf Tryd.prog 158 = some ⟨.pointer 60, 1, 8, .pointer none⟩ := by kernel_rfl
@[simp] theorem ty159 : tyOf Tryd.prog 159 = some ⟨.tuple #[9, 26], 1, 0, .tuple #[.string ⟨#[]⟩, .nilIface]⟩ := by kernel_rfl
@[simp] theorem ty160 : tyOf Tryd.prog 160 = some ⟨.func #[] #[9, 26] false, 1, 8, .nilFunc⟩ := by kernel_rfl
@[simp] theorem ty161 : tyOf Tryd.prog 161 = some ⟨.func #[9, 5] #[9] false, 1, 8, .nilFunc⟩ := by kernel_rfl
@[simp] theorem ty164 : tyOf Tryd.prog 164 = some ⟨.tuple #[163, 4], 1, 0, .tuple #[.agg #[.bool false, .bool false, .bool false, .bool false, .bool false, .bool false, .bool false, .bool false, .bool false, .bool false, .bool false, .bool false, .bool false, .bool false, .bool false, .bool false, .bool false, .bool false, .bool false, .bool false, .bool false, .bool false, .bool false, .bool false, .bool false, .bool false, .bool false, .bool false, .bool false, .bool false, .bool false, .bool false, .bool false, .bool false, .bool false, .bool false, .bool false, .bool false, .bool false, .bool false, .bool false, .bool false, .bool false, .bool false, .bool false, .bool false, .bool false, .bool false, .bool false, .bool false, .bool false, .bool false, .bool false, .bool false, .bool false, .bool false, .bool false, .bool false, .bool false, .bool false, .bool false, .bool false, .bool false, .bool false, .bool false, .bool false, .bool false, .bool false, .bool false, .bool false, .bool false, .bool false, .bool false, .bool false, .bool false, .bool false, .bool false, .bool false, .bool false, .bool false, .bool false, .bool false, .bool false, .bool false, .bool false, .bool false, .bool false, .bool false, .bool false, .bool false, .bool false, .bool false, .bool false, .bool false, .bool false, .bool false, .bool false, .bool false, .bool false, .bool false, .bool false, .bool false, .bool false, .bool false, .bool false, .bool false, .bool false, .bool false, .bool false, .bool false, .bool false, .bool false, .bool false, .bool false, .bool false, .bool false, .bool false, .bool false, .bool false, .bool false, .bool false, .bool false, .bool false, .bool false, .bool false, .bool false, .bool false, .bool false, .bool false, .bool false, .bool false, .bool false, .bool false, .bool false, .bool false, .bool false, .bool false, .bool false, .bool false, .bool false, .bool false, .bool false, .bool false, .bool false, .bool false, .bool false, .bool false, .bool false, .bool false, .bool false, .bool false, .bool false, .bool false, .bool false, .bool false, .bool false, .bool false, .bool false, .bool false, .bool false, .bool false, .bool false, .bool false, .bool false, .bool false, .bool false, .bool false, .bool false, .bool false, .bool false, .bool false, .bool false, .bool false, .bool false, .bool false, .bool false, .bool false, .bool false, .bool false, .bool false, .bool false, .bool false, .bool false, .bool false, .bool false, .bool false, .bool false, .bool false, .bool false, .bool false, .bool false, .bool false, .bool false, .bool false, .bool false, .bool false, .bool false, .bool false, .bool false, .bool false, .bool false, .bool false, .bool false, .bool false, .bool false, .bool false, .bool false, .bool false, .bool false, .bool false, .bool false, .bool false, .bool false, .bool false, .bool false, .bool false, .bool false, .bool false, .bool false, .bool false, .bool false, .bool false, .bool false, .bool false, .bool false, .bool false, .bool false, .bool false, .bool false, .bool false, .bool false, .bool false, .bool false, .bool false, .bool false, .bool false, .bool false, .bool false, .bool false, .bool false, .bool false, .bool false, .bool false, .bool false, .bool false, .bool false, .bool false, .bool false, .bool false, .bool false, .bool false, .bool false, .bool false, .bool false, .bool false, .bool false], .bool false]⟩ := by kernel_rfl
@[simp] theorem ty165 : tyOf Tryd.prog 165 = some ⟨.func #[9] #[163, 4] false, 1, 8, .nilFunc⟩ := by kernel_rfl
@[simp] theorem ty166 : tyOf Tryd.prog 166 = some ⟨.func #[9, 167] #[9] false, 1, 8, .nilFunc⟩ := by kernel_rfl
@[simp] theorem ty167 : tyOf Tryd.prog 167 = some ⟨.pointer 163, 1, 8, .pointer none⟩ := by kernel_rfl
@[simp] theorem ty169 : tyOf Tryd.prog 169 = some ⟨.func #[168] #[168] false, 1, 8, .nilFunc⟩ := by kernel_rfl
@[simp] theorem ty170 : tyOf Tryd.prog 170 = some ⟨.func #[3] #[140] false, 1, 8, .nilFunc⟩ := by kernel_rfl
@[simp] theorem ty171 : tyOf Tryd.prog 171 = some ⟨.func #[9, 21] #[4] false, 1, 8, .nilFunc⟩ := by kernel_rfl
@[simp] theorem ty173 : tyOf Tryd.prog 173 = some ⟨.struct #[{ name := "typ_", type := 17, offset := 0, embedded := false, tag := "", pkgPath := "internal/reflectlite", byteOffset := 0 }, { name := "ptr", type := 168, offset := 1, embedded := false, tag := "", pkgPath := "internal/reflectlite", byteOffset := 8 }, { name := "flag", type := 172, offset := 2, embedded := true, tag := "", pkgPath := "internal/reflectlite", byteOffset := 16 }], 3, 24, .agg #[.pointer none, .pointer none, .int .u64 0]⟩ := by kernel_rfl
@[simp] theorem ty175 : tyOf Tryd.prog 175 = some ⟨.func #[20] #[174] false, 1, 8, .nilFunc⟩ := by kernel_rfl
@[simp] theorem ty176 : tyOf Tryd.prog 176 = some ⟨.interface #[("AssignableTo", 181), ("Comparable", 29), ("Elem", 178), ("Implements", 181), ("Kind", 180), ("Name", 56), ("PkgPath", 56), ("Size", 221), ("String", 56), ("internal/reflectlite.common", 211), ("internal/reflectlite.uncommon", 222)], 1, 16, .nilIface⟩ := by kernel_rfl
@[simp] theorem ty178 : tyOf Tryd.prog 178 = some ⟨.func #[] #[177] false, 1, 8, .nilFunc⟩ := by kernel_rfl
@[simp] theorem ty180 : tyOf Tryd.prog 180 = some ⟨.func #[] #[179] false, 1, 8, .nilFunc⟩ := by kernel_rfl
@[simp] theorem ty181 : tyOf Tryd.prog 181 = some ⟨.func #[177] #[4] false, 1, 8, .nilFunc⟩ := by kernel_rfl
@[simp] theorem ty182 : tyOf Tryd.prog 182 = some ⟨.func #[26, 20, 174, 177] #[4] false, 1, 8, .nilFunc⟩ := by kernel_rfl
@[simp] theorem ty183 : tyOf Tryd.prog 183 = some ⟨.func #[9, 5] #[3] false, 1, 8, .nilFunc⟩ := by kernel_rfl
@[simp] theorem ty184 : tyOf Tryd.prog 184 = some ⟨.tuple #[21, 3], 1, 0, .tuple #[.int .i32 0, .int .i64 0]⟩ := by kernel_rfl
@[simp] theorem ty185 : tyOf Tryd.prog 185 = some ⟨.func #[9] #[21, 3] false, 1, 8, .nilFunc⟩ := by kernel_rfl
@[simp] theorem ty186 : tyOf Tryd.prog 186 = some ⟨.func #[9, 21] #[3] false, 1, 8, .nilFunc⟩ := by kernel_rfl
@[simp] theorem ty187 : tyOf Tryd.prog 187 = some ⟨.struct #[{ name := "Type", type := 17, offset := 0, embedded := true, tag := "", pkgPath := "", byteOffset := 0 }], 1, 8, .agg #[.pointer none]⟩ := by kernel_rfl
@[simp] theorem ty189 : tyOf Tryd.prog 189 = some ⟨.pointer 224, 1, 8, .pointer none⟩ := by kernel_rfl
@[simp] theorem ty190 : tyOf Tryd.prog 190 = some ⟨.func #[20] #[177] false, 1, 8, .nilFunc⟩ := by kernel_rfl
@[simp] theorem ty191 : tyOf Tryd.prog 191 = some ⟨.func #[] #[174] false, 1, 8, .nilFunc⟩ := by kernel_rfl
@[simp] theorem ty192 : tyOf Tryd.prog 192 = some ⟨.func #[174] #[] false, 1, 8, .nilFunc⟩ := by kernel_rfl
@[simp] theorem ty193 : tyOf Tryd.prog 193 = some ⟨.interface #[("As", 195)], 1, 16, .nilIface⟩ := by kernel_rfl
@[simp] theorem ty194 : tyOf Tryd.prog 194 = some ⟨.tuple #[193, 4], 1, 0, .tuple #[.nilIface, .bool false]⟩ := by kernel_rfl
@[simp] theorem ty195 : tyOf Tryd.prog 195 = some ⟨.func #[20] #[4] false, 1, 8, .nilFunc⟩ := by kernel_rfl
@[simp] theorem ty196 : tyOf Tryd.prog 196 = some ⟨.interface #[("Unwrap", 198)], 1, 16, .nilIface⟩ := by kernel_rfl
@[simp] theorem ty197 : tyOf Tryd.prog 197 = some ⟨.slice 26, 1, 24, .slice none 0 0⟩ := by kernel_rfl
@[simp] theorem ty198 : tyOf Tryd.prog 198 = some ⟨.func #[] #[197] false, 1, 8, .nilFunc⟩ := by kernel_rfl
@[simp] theorem ty199 : tyOf Tryd.prog 199 = some ⟨.func #[21] #[4] false, 1, 8, .nilFunc⟩ := by kernel_rfl
@[simp] theorem ty200 : tyOf Tryd.prog 200 = some ⟨.func #[9, 9] #[3] false, 1, 8, .nilFunc⟩ := by kernel_rfl
@[simp] theorem ty202 : tyOf Tryd.prog 202 = some ⟨.struct #[{ name := "lo", type := 5, offset := 0, embedded := false, tag := "", pkgPath := "unicode/utf8", byteOffset := 0 }, { name := "hi", type := 5, offset := 1, embedded := false, tag := "", pkgPath := "unicode/utf8", byteOffset := 1 }], 2, 2, .agg #[.int .u8 0, .int .u8 0]⟩ := by kernel_rfl
@[simp] theorem ty203 : tyOf Tryd.prog 203 = some ⟨.struct #[{ name := "lo", type := 5, offset := 0, embedded := false, tag := "", pkgPath := "unicode/utf8", byteOffset := 0 }, { name := "hi", type := 5, offset := 1, embedded := false, tag := "", pkgPath := "unicode/utf8", byteOffset := 1 }], 2, 2, .agg #[.int .u8 0, .int .u8 0]⟩ := by kernel_rfl
@[simp] theorem ty204 : tyOf Tryd.prog 204 = some ⟨.array 16 203, 32, 32, .agg #[.int .u8 0, .int .u8 0, .int .u8 0, .int .u8 0, .int .u8 0, .int .u8 0, .int .u8 0, .int .u8 0, .int .u8 0, .int .u8 0, .int .u8 0, .int .u8 0, .int .u8 0, .int .u8 0, .int .u8 0, .int .u8 0, .int .u8 0, .int .u8 0, .int .u8 0, .int .u8 0, .int .u8 0, .int .u8 0, .int .u8 0, .int .u8 0, .int .u8 0, .int .u8 0, .int .u8 0, .int .u8 0, .int .u8 0, .int .u8 0, .int .u8 0, .int .u8 0]⟩ := by kernel_rfl
@[simp] theorem ty205 : tyOf Tryd.prog 205 = some ⟨.struct #[{ name := "_interface", type := 17, offset := 0, embedded := false, tag := "", pkgPath := "runtime", byteOffset := 0 }, { name := "concrete", type := 17, offset := 1, embedded := false, tag := "", pkgPath := "runtime", byteOffset := 8 }, { name := "asserted", type := 17, offset := 2, embedded := false, tag := "", pkgPath := "runtime", byteOffset := 16 }, { name := "missingMethod", type := 9, offset := 3, embedded := false, tag := "", pkgPath := "runtime", byteOffset := 24 }], 4, 40, .agg #[.pointer none, .pointer none, .pointer none, .string ⟨#[]⟩]⟩ := by kernel_rfl
@[simp] theorem ty207 : tyOf Tryd.prog 207 = some ⟨.array 0 16, 0, 0, .agg #[]⟩ := by kernel_rfl
@[simp] theorem ty208 : tyOf Tryd.prog 208 = some ⟨.struct #[{ name := "_", type := 207, offset := 0, embedded := false, tag := "", pkgPath := "runtime", byteOffset := 0 }], 0, 0, .agg #[]⟩ := by kernel_rfl
@[simp] theorem ty210 : tyOf Tryd.prog 210 = some ⟨.func #[] #[3] false, 1, 8, .nilFunc⟩ := by kernel_rfl
@[simp] theorem ty211 : tyOf Tryd.prog 211 = some ⟨.func #[] #[17] false, 1, 8, .nilFunc⟩ := by kernel_rfl
@[simp] theorem ty212 : tyOf Tryd.prog 212 = some ⟨.int .u32, 1, 4, .int .u32 0⟩ := by kernel_rfl
@[simp] theorem ty214 : tyOf Tryd.prog 214 = some ⟨.func #[168, 168] #[4] false, 1, 8, .nilFunc⟩ := by kernel_rfl
@[simp] theorem ty217 : tyOf Tryd.prog 217 = some ⟨.struct #[{ name := "Size_", type := 12, offset := 0, embedded := false, tag := "", pkgPath := "", byteOffset := 0 }, { name := "PtrBytes", type := 12, offset := 1, embedded := false, tag := "", pkgPath := "", byteOffset := 8 }, { name := "Hash", type := 212, offset := 2, embedded := false, tag := "", pkgPath := "", byteOffset := 16 }, { name := "TFlag", type := 213, offset := 3, embedded := false, tag := "", pkgPath := "", byteOffset := 20 }, { name := "Align_", type := 5, offset := 4, embedded := false, tag := "", pkgPath := "", byteOffset := 21 }, { name := "FieldAlign_", type := 5, offset := 5, embedded := false, tag := "", pkgPath := "", byteOffset := 22 }, { name := "Kind_", type := 179, offset := 6, embedded := false, tag := "", pkgPath := "", byteOffset := 23 }, { name := "Equal", type := 214, offset := 7, embedded := false, tag := "", pkgPath := "", byteOffset := 24 }, { name := "GCData", type := 156, offset := 8, embedded := false, tag := "", pkgPath := "", byteOffset := 32 }, { name := "Str", type := 215, offset := 9, embedded := false, tag := "", pkgPath := "", byteOffset := 40 }, { name := "PtrToThis", type := 216, offset := 10, embedded := false, tag := "", pkgPath := "", byteOffset := 44 }], 11, 48, .agg #[.int .u64 0, .int .u64 0, .int .u32 0, .int .u8 0, .int .u8 0, .int .u8 0, .int .u8 0, .nilFunc, .pointer none, .int .i32 0, .int .i32 0]⟩ := by kernel_rfl
@[simp] theorem ty219 : tyOf Tryd.prog 219 = some ⟨.func #[24, 3] #[9] false, 1, 8, .nilFunc⟩ := by kernel_rfl
@[simp] theorem ty220 : tyOf Tryd.prog 220 = some ⟨.func #[83, 9, 3, 4] #[9] false, 1, 8, .nilFunc⟩ := by kernel_rfl
@[simp] theorem ty221 : tyOf Tryd.prog 221 = some ⟨.func #[] #[12] false, 1, 8, .nilFunc⟩ := by kernel_rfl
@[simp] theorem ty222 : tyOf Tryd.prog 222 = some ⟨.func #[] #[225] false, 1, 8, .nilFunc⟩ := by kernel_rfl
@[simp] theorem ty223 : tyOf Tryd.prog 223 = some ⟨.struct #[{ name := "Method", type := 9, offset := 0, embedded := false, tag := "", pkgPath := "", byteOffset := 0 }, { name := "Kind", type := 179, offset := 1, embedded := false, tag := "", pkgPath := "", byteOffset := 16 }], 2, 24, .agg #[.string ⟨#[]⟩, .int .u8 0]⟩ := by kernel_rfl
@[simp] theorem ty225 : tyOf Tryd.prog 225 = some ⟨.pointer 229, 1, 8, .pointer none⟩ := by kernel_rfl
@[simp] theorem ty226 : tyOf Tryd.prog 226 = some ⟨.func #[] #[230] false, 1, 8, .nilFunc⟩ := by kernel_rfl
@[simp] theorem ty227 : tyOf Tryd.prog 227 = some ⟨.int .u16, 1, 2, .int .u16 0⟩ := by kernel_rfl
@[simp] theorem ty228 : tyOf Tryd.prog 228 = some ⟨.struct #[{ name := "PkgPath", type := 215, offset := 0, embedded := false, tag := "", pkgPath := "", byteOffset := 0 }, { name := "Mcount", type := 227, offset := 1, embedded := false, tag := "", pkgPath := "", byteOffset := 4 }, { name := "Xcount", type := 227, offset := 2, embedded := false, tag := "", pkgPath := "", byteOffset := 6 }, { name := "Moff", type := 212, offset := 3, embedded := false, tag := "", pkgPath := "", byteOffset := 8 }, { name := "_", type := 212, offset := 4, embedded := false, tag := "", pkgPath := "internal/abi", byteOffset := 12 }], 5, 16, .agg #[.int .i32 0, .int .u16 0, .int .u16 0, .int .u32 0, .int .u32 0]⟩ := by kernel_rfl
@[simp] theorem ty230 : tyOf Tryd.prog 230 = some ⟨.slice 233, 1, 24, .slice none 0 0⟩ := by kernel_rfl
@[simp] theorem ty232 : tyOf Tryd.prog 232 = some ⟨.struct #[{ name := "Name", type := 215, offset := 0, embedded := false, tag := "", pkgPath := "", byteOffset := 0 }, { name := "Mtyp", type := 216, offset := 1, embedded := false, tag := "", pkgPath := "", byteOffset := 4 }, { name := "Ifn", type := 231, offset := 2, embedded := false, tag := "", pkgPath := "", byteOffset := 8 }, { name := "Tfn", type := 231, offset := 3, embedded := false, tag := "", pkgPath := "", byteOffset := 12 }], 4, 16, .agg #[.int .i32 0, .int .i32 0, .int .i32 0, .int .i32 0]⟩ := by kernel_rfl
@[simp] theorem ty234 : tyOf Tryd.prog 234 = some ⟨.pointer 26, 1, 8, .pointer none⟩ := by kernel_rfl
end Go.Proofs.YtblafkekblaibaaDoor

/-
  Lists of numbers that are told apart.
-/
namespace Go.Proofs.YtblafkekblaibaaDoor
set_option linter.unusedSimpArgs false
set_option linter.unusedVariables false
open Go.Av

def dInts (k : Option Bool) (l : List Int) : D := .sl k (l.map fun n => [.v (.int .i64 n)])

theorem take_eq_all {l l' : List Int} (hl : l.length = l'.length) (h : l.take l.length = l'.take l.length) : l = l' := by
  rw [List.take_length, hl, List.take_length] at h; exact h
theorem take_step {l l' : List Int} {k : Nat} (h : l.take k = l'.take k) (hk : k < l.length) (hk' : k < l'.length) (he : l[k] = l'[k]) : l.take (k + 1) = l'.take (k + 1) := by
  rw [List.take_succ_eq_append_getElem hk, List.take_succ_eq_append_getElem hk', h, he]

end Go.Proofs.YtblafkekblaibaaDoor

/-
  Searching by a function.
-/
namespace Go.Proofs.YtblafkekblaibaaDoor
set_option linter.unusedSimpArgs false
set_option linter.unusedVariables false
open Go.Av

/-- Where the first one is that fits, or -1. -/
def idx {α : Type} (p : α → Bool) (l : List α) : Int := match l.findIdx? p with
  | some i => i
  | none => -1

theorem idx_hit {α : Type} {p : α → Bool} {l : List α} {n : Nat} (hn : n < l.length) (h : p l[n] = true) (hb : ∀ i (hi : i < n), p (l[i]'(by omega)) = false) : idx p l = n := by
  unfold idx
  have : l.findIdx? p = some n := by
    rw [List.findIdx?_eq_some_iff_getElem]
    exact ⟨hn, h, fun j hj => by simpa using hb j hj⟩
  rw [this]
theorem idx_miss {α : Type} {p : α → Bool} {l : List α} (hb : ∀ i (hi : i < l.length), p l[i] = false) : idx p l = -1 := by
  unfold idx
  have : l.findIdx? p = none := by
    rw [List.findIdx?_eq_none_iff]
    intro x hx
    obtain ⟨i, hi, rfl⟩ := List.mem_iff_getElem.1 hx
    exact hb i hi
  rw [this]

/-- A function that answers as p does, of some data. -/
def Answers {α : Type} (G : Glob) (g : FuncId) (caps : List D) (enc : α → D) (p : α → Bool) (xs : List α) : Prop := ∀ x ∈ xs, PureC Tryd.prog G g (enc x :: caps) (.v (.bool (p x)))

theorem idx_any {α : Type} (p : α → Bool) (l : List α) : decide (0 ≤ idx p l) = l.any p := by
  unfold idx
  split
  · rename_i i hi
    rw [List.findIdx?_eq_some_iff_getElem] at hi
    obtain ⟨h1, h2, _⟩ := hi
    have : l.any p = true := List.any_eq_true.2 ⟨_, List.getElem_mem h1, h2⟩
    rw [this]; simp
  · rename_i h
    rw [List.findIdx?_eq_none_iff] at h
    have : l.any p = false := by
      rw [List.any_eq_false]
      intro x hx
      simpa using h x hx
    rw [this]; simp

end Go.Proofs.YtblafkekblaibaaDoor

/-
  Plain facts of names.
-/
namespace Go.Proofs.YtblafkekblaibaaDoor
set_option linter.unusedSimpArgs false
set_option linter.unusedVariables false

def cutL : List UInt8 := [97, 98, 99, 100, 101, 102, 103, 104, 105, 106, 107, 108, 109, 110, 111, 112, 113, 114, 115, 116, 117, 118, 119, 120, 121, 122, 48, 49, 50, 51, 52, 53, 54, 55, 56, 57, 95]
def wordsL : List (List UInt8) := [[105, 110, 112, 117, 116], [99, 111, 105, 108], [116, 105, 109, 101, 114], [99, 111, 117, 110, 116, 101, 114], [115, 101, 116], [114, 101, 115, 101, 116], [114, 117, 110], [99, 111, 117, 110, 116], [122, 101, 114, 111]]

def lowC (c : UInt8) : Bool := decide (97 ≤ c.toNat) && decide (c.toNat ≤ 122)
def restC (c : UInt8) : Bool := (decide (48 ≤ c.toNat) && decide (c.toNat ≤ 57)) || decide (c.toNat = 95)
def okC (j : Nat) (c : UInt8) : Bool := lowC c || (decide (j ≠ 0) && restC c)

def nameF (l : List UInt8) : Bool := decide (l ≠ []) && (decide (l.length ≤ 8) && (decide (97 ≤ (l.getD 0 0).toNat) && (decide ((l.getD 0 0).toNat ≤ 122) && (decide (Lib.trimS l cutL = []) && !(wordsL.any fun x => l == x)))))
def okAll (l : List UInt8) (n : Nat) : Bool := (List.range n).all fun j => okC j (l.getD j 0)
def checkNF (l : List UInt8) : Bool := okAll l l.length && (!(([] :: wordsL).any fun x => l == x) && decide (l.length ≤ 8))

theorem cut_iff (c : UInt8) : cutL.contains c = (lowC c || restC c) := by
  have h : ∀ n : Fin 256, cutL.contains (UInt8.ofNat n) = (lowC (UInt8.ofNat n) || restC (UInt8.ofNat n)) := by decide +kernel
  have := h ⟨c.toNat, c.toNat_lt⟩
  simpa using this

theorem dropWhile_nil {p : UInt8 → Bool} : ∀ {l : List UInt8}, l.dropWhile p = [] ↔ ∀ x ∈ l, p x = true
  | [] => by simp
  | x :: l => by
    rw [List.dropWhile_cons]
    split
    · rename_i h
      rw [dropWhile_nil]
      simp [h]
    · rename_i h
      simp [h]
theorem dropWhile_head {p : UInt8 → Bool} : ∀ {l : List UInt8} {x : UInt8} {r : List UInt8}, l.dropWhile p = x :: r → p x = false
  | [], _, _, h => by simp at h
  | y :: l, x, r, h => by
    rw [List.dropWhile_cons] at h
    split at h
    · exact dropWhile_head h
    · rename_i hp
      simp only [List.cons.injEq] at h
      rw [← h.1]
      simpa using hp
theorem trim_nil {l cs : List UInt8} : Lib.trimS l cs = [] ↔ ∀ x ∈ l, cs.contains x = true := by
  unfold Lib.trimS Lib.trimLeftS Lib.trimRightS
  rw [dropWhile_nil]
  constructor
  · intro h
    have hr : l.reverse.dropWhile (cs.contains ·) = [] := by
      cases hd : l.reverse.dropWhile (cs.contains ·) with
      | nil => rfl
      | cons x r =>
        have h1 := dropWhile_head hd
        have h2 := h x (by rw [hd]; simp)
        rw [h1] at h2
        cases h2
    rw [dropWhile_nil] at hr
    exact fun x hx => hr x (by simpa using hx)
  · intro h x hx
    rw [List.mem_reverse] at hx
    exact h x (by simpa using (List.dropWhile_sublist _).subset hx)

theorem name_same (l : List UInt8) : nameF l = checkNF l := by
  cases l with
  | nil => rfl
  | cons a l =>
    have hw : (([] :: wordsL).any fun x => (a :: l) == x) = wordsL.any fun x => (a :: l) == x := by simp
    unfold nameF checkNF
    rw [hw]
    have key : (decide (97 ≤ a.toNat) && (decide (a.toNat ≤ 122) && decide (Lib.trimS (a :: l) cutL = []))) = okAll (a :: l) (a :: l).length := by
      rw [Bool.eq_iff_iff]
      simp only [Bool.and_eq_true, decide_eq_true_eq, trim_nil, okAll, List.all_eq_true, List.mem_range]
      constructor
      · rintro ⟨h1, h2, h3⟩ j hj
        have hm : (a :: l).getD j 0 ∈ a :: l := by
          rw [List.getD_eq_getElem?_getD, List.getElem?_eq_getElem hj]
          exact List.getElem_mem hj
        have := h3 _ hm
        rw [cut_iff] at this
        unfold okC
        cases j with
        | zero => simp [lowC, h1, h2]
        | succ j => simpa using this
      · intro h
        have h0 := h 0 (by simp)
        simp [okC, lowC] at h0
        refine ⟨h0.1, h0.2, fun x hx => ?_⟩
        obtain ⟨j, hj, rfl⟩ := List.getElem_of_mem hx
        have := h j hj
        rw [List.getD_eq_getElem?_getD, List.getElem?_eq_getElem hj] at this
        rw [cut_iff]
        unfold okC at this
        simp only [Option.getD_some, Bool.or_eq_true, Bool.and_eq_true] at this ⊢
        rcases this with h | h
        · exact .inl h
        · exact .inr h.2
    rw [← key]
    simp only [List.getD_cons_zero, ne_eq, reduceCtorEq, not_false_eq_true, decide_true, Bool.true_and]
    cases decide ((a :: l).length ≤ 8) <;> cases decide (97 ≤ a.toNat) <;> cases decide (a.toNat ≤ 122) <;> cases decide (Lib.trimS (a :: l) cutL = []) <;> cases (wordsL.any fun x => (a :: l) == x) <;> rfl
end Go.Proofs.YtblafkekblaibaaDoor

/-
  DERIVED: THE SHELF's CONTRACTS AT THIS DUMP, IN PLAIN WORDS (tools/lay-plain.mjs out of 'YtblafkekblaibaaDoorSh0s.lean', which tools/lay-shelf.mjs wrote): THE SAME DECLARATIONS UNDER THE SAME NAMES: 'import', 'namespace', 'open', 'def', 'theorem' AND NOTHING ELSE: no command of the shelf's: FOR A HAND-IN. Each laying: the table of numbers ('.._ren') and one theorem, a field a fact of the dump's own or the kernel's comparison; each contract: ONE APPLICATION.
-/
namespace Go.Proofs
open Go.Shelf
def Tryd.lays160_ren : Go.Shelf.Ren := ⟨fun | 160 => 84 | 232 => 93 | 231 => 92 | 227 => 94 | 234 => 96 | 233 => 95 | 236 => 98 | 235 => 97 | 228 => 107 | 271 => 109 | 151 => 101 | 197 => 108 | 120 => 116 | 152 => 110 | 260 => 115 | 137 => 106 | 119 => 117 | 224 => 118 | 225 => 119 | 217 => 114 | 266 => 120 | n => n, fun | 9 => 9 | 4 => 4 | 3 => 3 | 5 => 5 | 117 => 164 | 116 => 163 | 0 => 0 | 124 => 167 | 21 => 21 | 105 => 184 | 46 => 129 | 119 => 201 | 139 => 204 | 138 => 203 | n => n, fun | 3 => 4 | 4 => 5 | n => n⟩
theorem Tryd.lays160 : Go.Proofs.Lays.n160 Tryd.prog Tryd.lays160_ren := {
  mixed := by kernel_rfl
  f119 := Tryd.func117.trans (congrArg some (by kernel_rfl))
  f120 := Tryd.func116.trans (congrArg some (by kernel_rfl))
  f137 := Tryd.func106.trans (congrArg some (by kernel_rfl))
  f151 := Tryd.func101.trans (congrArg some (by kernel_rfl))
  f152 := Tryd.func110.trans (congrArg some (by kernel_rfl))
  f160 := Tryd.func84.trans (congrArg some (by kernel_rfl))
  f197 := Tryd.func108.trans (congrArg some (by kernel_rfl))
  f217 := Tryd.func114.trans (congrArg some (by kernel_rfl))
  f224 := Tryd.func118.trans (congrArg some (by kernel_rfl))
  f225 := Tryd.func119.trans (congrArg some (by kernel_rfl))
  f227 := Tryd.func94.trans (congrArg some (by kernel_rfl))
  f228 := Tryd.func107.trans (congrArg some (by kernel_rfl))
  f231 := Tryd.func92.trans (congrArg some (by kernel_rfl))
  f232 := Tryd.func93.trans (congrArg some (by kernel_rfl))
  f233 := Tryd.func95.trans (congrArg some (by kernel_rfl))
  f234 := Tryd.func96.trans (congrArg some (by kernel_rfl))
  f235 := Tryd.func97.trans (congrArg some (by kernel_rfl))
  f236 := Tryd.func98.trans (congrArg some (by kernel_rfl))
  f260 := Tryd.func115.trans (congrArg some (by kernel_rfl))
  f266 := Tryd.func120.trans (congrArg some (by kernel_rfl))
  f271 := Tryd.func109.trans (congrArg some (by kernel_rfl))
  t0 := Tryd.underlying0
  a0 := Tryd.isAgg0
  z0 := Tryd.sizeOf0
  v0 := Tryd.zeroValue0
  t3 := Tryd.underlying3
  a3 := Tryd.isAgg3
  z3 := Tryd.sizeOf3
  v3 := Tryd.zeroValue3
  t4 := Tryd.underlying4
  a4 := Tryd.isAgg4
  z4 := Tryd.sizeOf4
  v4 := Tryd.zeroValue4
  t5 := Tryd.underlying5
  a5 := Tryd.isAgg5
  z5 := Tryd.sizeOf5
  v5 := Tryd.zeroValue5
  t9 := Tryd.underlying9
  a9 := Tryd.isAgg9
  z9 := Tryd.sizeOf9
  v9 := Tryd.zeroValue9
  t21 := Tryd.underlying21
  a21 := Tryd.isAgg21
  z21 := Tryd.sizeOf21
  v21 := Tryd.zeroValue21
  t46 := Tryd.underlying129
  a46 := Tryd.isAgg129
  z46 := Tryd.sizeOf129
  v46 := Tryd.zeroValue129
  t105 := Tryd.underlying184
  a105 := Tryd.isAgg184
  z105 := Tryd.sizeOf184
  v105 := Tryd.zeroValue184
  t116 := Tryd.underlying163
  a116 := Tryd.isAgg163
  z116 := Tryd.sizeOf163
  t117 := Tryd.underlying164
  a117 := Tryd.isAgg164
  z117 := Tryd.sizeOf164
  v117 := Tryd.zeroValue164
  t119 := Tryd.underlying201
  a119 := Tryd.isAgg201
  z119 := Tryd.sizeOf201
  t124 := Tryd.underlying167
  a124 := Tryd.isAgg167
  z124 := Tryd.sizeOf167
  v124 := Tryd.zeroValue167
  t138 := Tryd.underlying203
  a138 := Tryd.isAgg203
  z138 := Tryd.sizeOf203
  v138 := Tryd.zeroValue203
  t139 := Tryd.underlying204
  a139 := Tryd.isAgg204
  z139 := Tryd.sizeOf204
  v139 := Tryd.zeroValue204
  g3 := by kernel_rfl
  g4 := by kernel_rfl }
end Go.Proofs

/-
  Laws: what is read as data is immutable data; what a call that only yields data leaves behind.
-/
namespace Go.Av
set_option linter.unusedSimpArgs false
set_option linter.unusedVariables false
set_option linter.unusedSectionVars false
open Go.ChangeShapes Go.WideShapes Go.RowKit

theorem law_calls {P : Program} {g : FuncId} {xs : List D} {b : Bool} (hc : PureC P (fun _ => none) g xs (.v (.bool b))) {W : World} {args : Array Value} (hsz : args.size = xs.length)
    (hrd : ∀ (i : Nat) (u : Value) (x : D), args[i]? = some u → xs[i]? = some x → RD W (fun _ => False) u x) : Calls P g args W fun e W' => e = .returned (.bool b) ∧ Below W.heap.size W W' := by
  refine (hc.2 (fun _ => False) W (fun _ => none) args (Sim.none (by simp)) (by simp) (by simpa using hsz) fun i u x hu hx => ?_).mono fun e W' ⟨v, x, H', μ', he, ⟨hx, _⟩, hr, _, ev⟩ => ?_
  · rw [List.getElem?_map] at hx
    obtain ⟨d, hd, rfl⟩ := Option.map_eq_some_iff.1 hx
    exact .d ((hrd i u d hu hd).sub fun b hb => XX_none.1 hb)
  · subst hx
    have := hr.scalar
    subst this
    have hg := Ev.grew ev
    exact ⟨he, hg.os, hg.tape, hg.output, hg.size, hg.same⟩

section
variable {H : Type} {enc : TypeId × Value → H} {P : Program} {w : World} {base : Nat} {spare : Nat → Bool} {held : Bool} {X : Nat → Prop}

/-- Cells stand for this data, one by one. -/
def CellsRD (w : World) (X : Nat → Prop) (cs : List Value) (ds : List D) : Prop := cs.length = ds.length ∧ ∀ (j : Nat) (u : Value) (c : D), cs[j]? = some u → ds[j]? = some c → RD w X u c

theorem CellsRD.one {u : Value} {c : D} (h : RD w X u c) : CellsRD w X [u] [c] := ⟨rfl, fun j u' c' hu hc => by
  cases j with
  | zero => simp at hu hc; subst hu hc; exact h
  | succ j => simp at hu⟩
theorem CellsRD.inv {u : Value} {c : D} (h : CellsRD w X [u] [c]) : RD w X u c := h.2 0 u c rfl rfl

/-- What is read of type t is some a, as f lays it out. -/
def ReadsAs (enc : TypeId × Value → H) (P : Program) (w : World) (base : Nat) (spare : Nat → Bool) (held : Bool) (X : Nat → Prop) (t : TypeId) {α : Type} (p : α → Prop) (f : α → List D) : Prop :=
  ∀ fuel cs x, DataW.trod enc P w base spare held fuel t cs = some x → ∃ a, p a ∧ CellsRD w X cs (f a)

theorem reads_int {t : TypeId} (ht : P.underlying t = some (.int .i64)) : ReadsAs enc P w base spare held X t (fun n : Int => -9223372036854775808 ≤ n ∧ n ≤ 9223372036854775807) (fun n => [.v (.int .i64 n)]) := by
  intro fuel cs x h
  obtain ⟨n, rfl, _, hw⟩ := DataW.trod_int ht h
  refine ⟨n, ?_, .one (.v _)⟩
  simp only [Lit.wf, Bool.and_eq_true, decide_eq_true_eq] at hw
  have e1 : IntKind.i64.min = -9223372036854775808 := by decide
  have e2 : IntKind.i64.max = 9223372036854775807 := by decide
  rw [e1, e2] at hw
  exact hw

theorem reads_slice {t e : TypeId} {α : Type} {p : α → Prop} {f : α → List D} {sz : Nat} (ht : P.underlying t = some (.slice e)) (hc : P.cellsOf e = sz) (hz : 0 < sz) (hX : ∀ b, ¬ X b) (he : ReadsAs enc P w base spare held X e p f) :
    ReadsAs enc P w base spare held X t (fun l : List α => (∀ a ∈ l, p a) ∧ l.length ≤ maxLen) (fun l => [.sl none (l.map f)]) := by
  intro fuel cs x h
  rcases Deep.open_slice ht h with ⟨rfl, _⟩ | ⟨a, len, cap, m, n, _, _, rfl, hb, hl, hm, hmm, _, hx⟩
  · exact ⟨[], ⟨by simp, by simp⟩, .one (.nil (by simp))⟩
  · have hle : len ≤ m := by rw [hmm]; split <;> omega
    rcases Nat.eq_zero_or_pos len with rfl | hpos
    · exact ⟨[], ⟨by simp, by simp⟩, .one (.empty (by simp) hm)⟩
    · have hel : ∀ i, i < len → ∃ x, p x ∧ ∃ cs', w.cells? base (a.add (i * P.cellsOf e)) (P.cellsOf e) = some cs' ∧ CellsRD w X cs' (f x) := fun i hi => by
        obtain ⟨cs', h1, h2⟩ := hx i (by omega)
        obtain ⟨x, hp, hr⟩ := he _ _ _ h2
        exact ⟨x, hp, cs', h1, hr⟩
      have : Inhabited α := ⟨(hel 0 hpos).choose⟩
      obtain ⟨g, hg⟩ := Deep.choose_lt hel
      refine ⟨(List.range len).map g, ⟨fun y hy => ?_, by simp; omega⟩, .one ?_⟩
      · obtain ⟨i, hi, rfl⟩ := List.mem_map.1 hy
        exact (hg i (List.mem_range.1 hi)).1
      rw [hc] at hg
      have hcell : ∀ i j, i < len → j < sz → ∃ u, w.cell? ((a.add (i * sz)).add j) = some u ∧ (∀ c, (f (g i))[j]? = some c → RD w X u c) ∧ (f (g i)).length = sz := fun i j hi hj => by
        obtain ⟨_, cs', h1, h2, h3⟩ := hg i hi
        obtain ⟨_, hlen, hcs⟩ := World.cells?_some h1
        refine ⟨cs'[j], by rw [hcs j hj]; simp [hlen, hj], fun c hcc => h3 j _ c (by simp [hlen, hj]) hcc, by omega⟩
      have hspot : a.spot = none := by
        obtain ⟨u, hu, _⟩ := hcell 0 0 hpos hz
        simp only [Nat.zero_mul, Addr.add, if_true] at hu
        exact World.cell?_spot hu
      obtain ⟨b, off, spot⟩ := a
      dsimp only at hspot
      subst hspot
      have hcell : ∀ i j, i < len → j < sz → ∃ u, w.cell? ⟨b, off + (i * sz + j), none⟩ = some u ∧ (∀ c, (f (g i))[j]? = some c → RD w X u c) ∧ (f (g i)).length = sz := fun i j hi hj => by
        have := hcell i j hi hj
        rwa [addr_add, addr_add, Nat.add_assoc] at this
      refine .sl (f := fun i j => (w.cell? ⟨b, off + (i * sz + j), none⟩).getD undef) (by simp) (by simp) hl hm (hX b) (fun el hel => ?_) hz hpos (fun i j hi hj => ?_) (fun i j el c h1 h2 => ?_)
      · obtain ⟨y, hy, rfl⟩ := List.mem_map.1 hel
        obtain ⟨i, hi, rfl⟩ := List.mem_map.1 hy
        exact (hcell i 0 (List.mem_range.1 hi) hz).choose_spec.2.2
      · obtain ⟨u, hu, _⟩ := hcell i j hi hj
        rw [hu]; rfl
      · rw [List.getElem?_map, List.getElem?_map] at h1
        obtain ⟨y, hy, rfl⟩ := Option.map_eq_some_iff.1 h1
        obtain ⟨i', hi', rfl⟩ := Option.map_eq_some_iff.1 hy
        obtain ⟨hlt, rfl⟩ := List.getElem?_eq_some_iff.1 hi'
        rw [List.getElem_range] at h2
        simp only [List.length_range] at hlt
        have hj : j < sz := by
          obtain ⟨_, _, _, h3⟩ := hcell i 0 hlt hz
          rw [← h3]
          exact (List.getElem?_eq_some_iff.1 h2).1
        obtain ⟨u, hu, hr, _⟩ := hcell i j hlt hj
        rw [hu]
        exact hr c h2

theorem reads_struct2 {t : TypeId} {f0 f1 : Field} {α β : Type} {p : α → Prop} {q : β → Prop} {f : α → List D} {g : β → List D} (ht : P.underlying t = some (.struct #[f0, f1])) (hn : P.cellsOf t = P.cellsOf f0.type + P.cellsOf f1.type) (h0 : f0.offset = 0) (h1 : f1.offset = P.cellsOf f0.type)
    (hf : ReadsAs enc P w base spare held X f0.type p f) (hg : ReadsAs enc P w base spare held X f1.type q g) : ReadsAs enc P w base spare held X t (fun s : α × β => p s.1 ∧ q s.2) (fun s => f s.1 ++ g s.2) := by
  intro fuel cs x h
  obtain ⟨y0, y1, n, _, hl, t0, t1⟩ := trod_struct2 ht h
  obtain ⟨a, pa, ca⟩ := hf _ _ _ t0
  obtain ⟨b, pb, cb⟩ := hg _ _ _ t1
  refine ⟨(a, b), ⟨pa, pb⟩, ?_⟩
  have e0 : cs = (cs.drop f0.offset).take (P.cellsOf f0.type) ++ (cs.drop f1.offset).take (P.cellsOf f1.type) := by
    rw [h0, h1, List.drop_zero, List.take_of_length_le (l := List.drop _ _) (by simp; omega), List.take_append_drop]
  rw [e0]
  obtain ⟨la, ra⟩ := ca
  obtain ⟨lb, rb⟩ := cb
  refine ⟨by rw [List.length_append, List.length_append, la, lb], fun j u c hu hc => ?_⟩
  rcases Nat.lt_or_ge j (f a).length with hj | hj
  · rw [List.getElem?_append_left (by omega)] at hu hc
    exact ra j u c hu hc
  · rw [List.getElem?_append_right (by omega)] at hu hc
    rw [la] at hu
    exact rb _ u c hu hc

/-- A value of a struct's type. -/
theorem RD.of_cells {u : Value} {ds : List D} (ha : ∃ arr, u = .agg arr) (h : CellsRD w X u.cells.toList ds) : RD w X u (.agg ds) := by
  obtain ⟨arr, rfl⟩ := ha
  refine .agg (by have := h.1; simpa [Value.cells] using this) fun j u c hu hc => h.2 j u c (by simpa [Value.cells] using hu) hc
theorem RD.of_cell {u : Value} {d : D} (ha : ∀ arr, u ≠ .agg arr) (h : CellsRD w X u.cells.toList [d]) : RD w X u d := by
  have : u.cells = #[u] := by
    cases u <;> first | rfl | exact absurd rfl (ha _)
  rw [this] at h
  exact h.inv
end

/-- All arguments read as they did. -/
theorem trodAll_below {H : Type} {enc : TypeId × Value → H} {P : Program} (hl : laidOutB P = true) {W W' : World} (hb : Below W.heap.size W W') : ∀ {ts : List TypeId} {vs : List Value} {ds : List (DataW H)} {ps : List MemPlace},
    (∀ t ∈ ts, P.readableRec t = true ∧ t < P.types.size) → DataW.TrodAll enc P W 0 (fun _ => true) true ts vs ds ps → (∀ x ∈ ps, x.block < W.heap.size) → DataW.TrodAll enc P W' 0 (fun b => decide (b < W.heap.size)) true ts vs ds ps
  | [], vs, ds, ps, _, h, _ => by
    obtain ⟨rfl, rfl, rfl⟩ := trodAll_nil h
    exact rfl
  | t :: ts, vs, ds, ps, ht, h, hp => by
    obtain ⟨v, vs1, d, ds1, a, b, rfl, rfl, rfl, h1, h2⟩ := trodAll_cons h
    exact ⟨a, b, Below.trod hl (ht t (by simp)).1 (ht t (by simp)).2 h1 hb (fun x hx => hp x (by simp [hx])), trodAll_below hl hb (fun t h => ht t (by simp [h])) h2 (fun x hx => hp x (by simp [hx])), rfl⟩
end Go.Av

/-
  Contracts on the model's own 'Calls' become contracts of this logic.
-/
namespace Go.Av
set_option linter.unusedSimpArgs false
set_option linter.unusedVariables false
set_option linter.unusedSectionVars false

theorem PureC.of_calls {P : Program} {G : Glob} {g : FuncId} {ds : List D} {y : D} (hf : Fun P g)
    (h : ∀ (X : Nat → Prop) (w : World) (vs : Array Value), vs.size = ds.length → (∀ (i : Nat) (u : Value) (x : D), vs[i]? = some u → ds[i]? = some x → RD w X u x) → (∀ g x, G g = some x → RD w X (.pointer (some ⟨g, 0, none⟩)) x) →
      Calls P g vs w fun e w' => ∃ v, e = .returned v ∧ Grew w w' ∧ RD w' X v y) : PureC P G g ds y := by
  refine ⟨hf, fun X w μ vs hs hgl hsz hv => ?_⟩
  have hμ : μ = fun _ => none := by
    funext r
    cases hr : μ r with
    | none => rfl
    | some m => obtain ⟨row, hrow⟩ := hs.dom r m hr; cases hrow
  subst hμ
  refine (h X w vs (by simpa using hsz) (fun i u x hu hx => ?_) (fun g x hx => (hgl g x hx).sub fun b hb => XX_none.2 hb)).mono fun e w' ⟨v, he, hg, hr⟩ => ?_
  · exact (hv i u (.d x) hu (by rw [List.getElem?_map, hx]; rfl)).data.sub fun b hb => XX_none.2 hb
  · refine ⟨v, .d y, hno, fun _ => none, he, ⟨rfl, rfl⟩, .d (hr.sub fun b hb => XX_none.1 hb), Sim.none fun b hb => Nat.lt_of_lt_of_le (hs.fits b hb) hg.size, hg.size, hg.os, hg.tape, hg.output, fun b hb _ => ⟨hg.same b hb, fun ⟨_, _, hh, _⟩ => by cases hh⟩, fun r m hr => by cases hr⟩
end Go.Av

/-
  Laws over programs whose package-level variables are known.
-/
namespace Go.Av
set_option linter.unusedSimpArgs false
set_option linter.unusedVariables false
set_option linter.unusedSectionVars false
open Go.ChangeShapes Go.WideShapes Go.RowKit

theorem law_callsG {P : Program} {G : Glob} {g : FuncId} {xs : List D} {b : Bool} (hc : PureC P G g xs (.v (.bool b))) {W : World} {args : Array Value} (hgl : ∀ g x, G g = some x → RD W (fun _ => False) (.pointer (some ⟨g, 0, none⟩)) x) (hsz : args.size = xs.length)
    (hrd : ∀ (i : Nat) (u : Value) (x : D), args[i]? = some u → xs[i]? = some x → RD W (fun _ => False) u x) : Calls P g args W fun e W' => e = .returned (.bool b) ∧ Below W.heap.size W W' := by
  refine (hc.2 (fun _ => False) W (fun _ => none) args (Sim.none (by simp)) (fun g x hx => (hgl g x hx).sub fun b hb => XX_none.1 hb) (by simpa using hsz) fun i u x hu hx => ?_).mono fun e W' ⟨v, x, H', μ', he, ⟨hx, _⟩, hr, _, ev⟩ => ?_
  · rw [List.getElem?_map] at hx
    obtain ⟨d, hd, rfl⟩ := Option.map_eq_some_iff.1 hx
    exact .d ((hrd i u d hu hd).sub fun b hb => XX_none.1 hb)
  · subst hx
    have := hr.scalar
    subst this
    have hg := Ev.grew ev
    exact ⟨he, hg.os, hg.tape, hg.output, hg.size, hg.same⟩

theorem RD.cell1 {W : World} {X : Nat → Prop} {g : Nat} {v : Value} (hX : ∀ b, ¬ X b) (h : W.cell? ⟨g, 0, none⟩ = some v) : RD W X (.pointer (some ⟨g, 0, none⟩)) (.ip [.v v]) :=
  .ip (f := fun _ => v) (hX g) (cell_lt h) (fun j hj => by
    have : j = 0 := by simpa using hj
    subst this
    exact h) (fun j c hc => by
    have hj : j = 0 := by
      have := (List.getElem?_eq_some_iff.1 hc).1
      simpa using this
    subst hj
    simp at hc
    subst hc
    exact .v v)
theorem RD.at2 {W : World} {X : Nat → Prop} {x y : Value} {a b : D} (h0 : RD W X x a) (h1 : RD W X y b) : ∀ (i : Nat) (u : Value) (c : D), #[x, y][i]? = some u → [a, b][i]? = some c → RD W X u c := fun i u c hu hc => by
  match i, hu, hc with
  | 0, hu, hc => simp at hu hc; subst hu hc; exact h0
  | 1, hu, hc => simp at hu hc; subst hu hc; exact h1
  | i + 2, hu, hc => simp at hu
theorem RD.at1 {W : World} {X : Nat → Prop} {x : Value} {a : D} (h0 : RD W X x a) : ∀ (i : Nat) (u : Value) (c : D), #[x][i]? = some u → [a][i]? = some c → RD W X u c := fun i u c hu hc => by
  match i, hu, hc with
  | 0, hu, hc => simp at hu hc; subst hu hc; exact h0
  | i + 1, hu, hc => simp at hu
theorem RD.at4 {W : World} {X : Nat → Prop} {x y z v : Value} {a b e f : D} (h0 : RD W X x a) (h1 : RD W X y b) (h2 : RD W X z e) (h3 : RD W X v f) : ∀ (i : Nat) (u : Value) (c : D), #[x, y, z, v][i]? = some u → [a, b, e, f][i]? = some c → RD W X u c := fun i u c hu hc => by
  match i, hu, hc with
  | 0, hu, hc => simp at hu hc; subst hu hc; exact h0
  | 1, hu, hc => simp at hu hc; subst hu hc; exact h1
  | 2, hu, hc => simp at hu hc; subst hu hc; exact h2
  | 3, hu, hc => simp at hu hc; subst hu hc; exact h3
  | i + 4, hu, hc => simp at hu
end Go.Av

/-
  Texts that may be names: the walks.
-/
namespace Go.Proofs.YtblafkekblaibaaDoor
set_option linter.unusedSimpArgs false
set_option linter.unusedVariables false
open Go.Av
open Go.RowKit Go.Shelf Go.Lib

def bs (l : List UInt8) : ByteArray := ⟨l.toArray⟩
def dS (l : List UInt8) : D := .v (.string (bs l))
theorem bs_list (l : List UInt8) : (bs l).toList = l := by rw [ByteArray.toList_eq]; rfl
theorem bs_data (l : List UInt8) : (bs l).data.toList = l := rfl
theorem bs_size (l : List UInt8) : (bs l).size = l.length := rfl
theorem bs_nil : (⟨#[]⟩ : ByteArray) = bs [] := rfl

theorem below_grew {w w' : World} (h : Below w.heap.size w w') : Grew w w' := ⟨h.size, h.os, h.tape, h.output, h.block⟩

theorem trim_spec (G : Glob) (l : List UInt8) (hl : l.length < 2^60) : PureC Tryd.prog G 84 [dS l, dS cutL] (dS (Lib.trimS l cutL)) := by
  refine PureC.of_calls (Fun.of Tryd.func84 rfl rfl) fun X w vs hsz hrd hgl => ?_
  obtain ⟨a, b, rfl⟩ : ∃ a b, vs = #[a, b] := by
    match vs, hsz with
    | ⟨[a, b]⟩, _ => exact ⟨a, b, rfl⟩
  have ha := (hrd 0 a _ rfl rfl).scalar
  have hb := (hrd 1 b _ rfl rfl).scalar
  subst ha hb
  have hcon := Any.strings_Trim_laid Tryd.lays160 (by kernel_rfl) (bs l) (bs cutL) w (by rw [bs_size]; omega) (by decide) (ascii_of_all (by decide))
  change Calls Tryd.prog 84 _ _ (fun e w' => e = .returned (.string (bs (Lib.trimS l cutL))) ∧ Below w.heap.size w w') at hcon
  exact hcon.mono fun e w' ⟨he, hB⟩ => ⟨_, he, below_grew hB, .v _⟩

set_option maxHeartbeats 1000000 in
theorem index_spec (G : Glob) (k : Option Bool) (ws : List (List UInt8)) (s : List UInt8) (hl : ws.length < 2^60) : PureC Tryd.prog G 85 [.sl k (ws.map fun x => [dS x]), dS s] (.v (.int .i64 (idx (fun x => s == x) ws))) := by
  refine PureC.of_body (tyOf_good _) Tryd.func85 rfl rfl (rs := [.tmp 4]) Tryd.results85 (by simp [Tryd.ntmps85]) fun X => ?_
  simp only [Tryd.ntmps85, List.map]
  refine AW_rg (tyOf_good _) [0, 1] [] (fun _ _ => trivial) fun K' hK' => ?_
  repeat (refine sxf_next fun K2 hK2 => ?_; simp; (repeat (refine ⟨by omega, ?_⟩)); refine hK2 _ ?_; clear hK2 K2)
  refine sxf_nil (hK' _ ?_)
  refine AW.st (by simp; rfl) ?_
  clear hK' K'
  refine AW_then fun K1 hK1 => ?_
  refine AW_rg (tyOf_good _) [0, 1, 7, 8] [] (fun _ _ => trivial) fun K' hK' => ?_
  repeat (refine sxf_next fun K2 hK2 => ?_; simp; (repeat (refine ⟨by omega, ?_⟩)); refine hK2 _ ?_; clear hK2 K2)
  refine sxf_nil (hK' _ ?_)
  refine AW.st (by simp; rfl) ?_
  clear hK' K'
  refine AW_for (S := Nat) (fun n => n ≤ ws.length ∧ ∀ i (hi : i < ws.length), i < n → (s == ws[i]) = false) (fun n => ⟨lst [(0, .d (.sl k (ws.map fun x => [dS x]))), (1, .d (dS s)), (7, int ws.length), (8, int n)], hlst []⟩) (fun n => ws.length - n) 0 ?_ (by simp) ?_
  · refine Imp.to' (fun _ _ => trivial) (by simp) (by simp)
  · rintro n ⟨hn, hp⟩
    refine AW_rg (tyOf_good _) [0, 1, 7, 8, 9] [] (fun _ _ => trivial) fun K' hK' => ?_
    repeat (refine sxf_next fun K2 hK2 => ?_; simp; (repeat (refine ⟨by omega, ?_⟩)); refine hK2 _ ?_; clear hK2 K2)
    refine sxf_nil (hK' _ ?_)
    refine AW.st (by simp; rfl) ?_
    clear hK' K'
    refine AW_then fun K2 hK2 => ?_
    refine AW_cond' (b := n < ws.length) (by simp [D.le, D.le.go, takeMap]) (fun hc => ?_) (fun hc => ?_)
    · refine AW_skip (hK2 _ ?_)
      refine AW_then fun K3 hK3 => ?_
      refine AW_block ?_
      refine AW_rg (tyOf_good _) [0, 1, 5, 7, 8] [] (fun _ _ => trivial) fun K' hK' => ?_
      repeat (refine sxf_next fun K2 hK2 => ?_; simp; (repeat (refine ⟨by omega, ?_⟩)); refine hK2 _ ?_; clear hK2 K2)
      refine sxf_nil (hK' _ ?_)
      refine AW.st (by simp; rfl) ?_
      clear hK' K'
      by_cases he : s = ws[n]
      · refine AW_rg (tyOf_good _) [0, 1, 5, 7, 8, 16] [] (fun _ _ => trivial) fun K' hK' => ?_
        repeat (refine sxf_next fun K2 hK2 => ?_; simp [hc, dS, bs_list, he, binS]; (repeat (refine ⟨by omega, ?_⟩)); refine hK2 _ ?_; clear hK2 K2)
        refine sxf_nil (hK' _ ?_)
        refine AW.st (by simp [hc, dS, bs_list, he, binS]; rfl) ?_
        clear hK' K'
        refine AW_cond true rfl (fun _ => ?_) (fun h => by cases h)
        refine AW_rg (tyOf_good _) [4] [] (fun _ _ => trivial) fun K' hK' => ?_
        repeat (refine sxf_next fun K2 hK2 => ?_; simp; (repeat (refine ⟨by omega, ?_⟩)); refine hK2 _ ?_; clear hK2 K2)
        refine sxf_nil (hK' _ ?_)
        refine AW.st (by simp; rfl) ?_
        clear hK' K'
        refine AW_ret ?_
        simp [D.le, D.le.go, takeMap]
        exact (idx_hit (p := fun x => s == x) hc (by simp [he]) fun i hi => hp i (by omega) hi).symm
      · have he' : (s == ws[n]) = false := by simpa using he
        refine AW_rg (tyOf_good _) [0, 1, 5, 7, 8, 16] [] (fun _ _ => trivial) fun K' hK' => ?_
        repeat (refine sxf_next fun K2 hK2 => ?_; simp [hc, dS, bs_list, he, he', binS]; (repeat (refine ⟨by omega, ?_⟩)); refine hK2 _ ?_; clear hK2 K2)
        refine sxf_nil (hK' _ ?_)
        refine AW.st (by simp [hc, dS, bs_list, he, he', binS]; rfl) ?_
        clear hK' K'
        refine AW_cond false rfl (fun h => by cases h) (fun _ => ?_)
        refine AW_skip (hK3 _ ?_)
        refine AW_re (tyOf_good _) fun K' hK' => ?_
        repeat (refine sxf_next fun K2 hK2 => ?_; simp; (repeat (refine ⟨by omega, ?_⟩)); refine hK2 _ ?_; clear hK2 K2)
        refine sxf_nil (hK' _ ?_)
        clear hK' K'
        try simp only [thn, inb]
        refine Again.mk (n + 1) ⟨by omega, fun i hi hin => ?_⟩ (by omega) ?_
        · by_cases h : i = n
          · subst h; simpa using he
          · exact hp i hi (by omega)
        refine Imp.to' (fun _ _ => trivial) (by simp [dS]) (by simp [dS])
    · refine AW_exit (hK1 _ ?_)
      refine AW_rg (tyOf_good _) [4] [] (fun _ _ => trivial) fun K' hK' => ?_
      repeat (refine sxf_next fun K2 hK2 => ?_; simp; (repeat (refine ⟨by omega, ?_⟩)); refine hK2 _ ?_; clear hK2 K2)
      refine sxf_nil (hK' _ ?_)
      refine AW.st (by simp; rfl) ?_
      clear hK' K'
      refine AW_ret ?_
      simp [D.le, D.le.go, takeMap]
      exact (idx_miss (p := fun x => s == x) fun i hi => hp i hi (by omega)).symm

theorem contains_spec (G : Glob) (k : Option Bool) (ws : List (List UInt8)) (s : List UInt8) (hl : ws.length < 2^60) : PureC Tryd.prog G 72 [.sl k (ws.map fun x => [dS x]), dS s] (.v (.bool (ws.any fun x => s == x))) := by
  refine PureC.of_body (tyOf_good _) Tryd.func72 rfl rfl (rs := [.tmp 4]) Tryd.results72 (by simp [Tryd.ntmps72]) fun X => ?_
  simp only [Tryd.ntmps72, List.map]
  refine AW_rg (tyOf_good _) [0, 1] [] (fun _ _ => trivial) fun K' hK' => ?_
  repeat (refine sxf_next fun K2 hK2 => ?_; simp; (repeat (refine ⟨by omega, ?_⟩)); refine hK2 _ ?_; clear hK2 K2)
  refine sxf_nil (hK' _ ?_)
  refine AW.st (by simp; rfl) ?_
  clear hK' K'
  refine AW_rg (tyOf_good _) [4] [] (fun _ _ => trivial) fun K' hK' => ?_
  repeat (refine sxf_next fun K2 hK2 => ?_; simp; (repeat (refine ⟨by omega, ?_⟩)); refine hK2 _ ?_; clear hK2 K2)
  refine sxf_next fun K2 hK2 => ?_
  simp
  refine callK.data (index_spec G k ws s hl) (by simp; rfl) (by first | exact D.leGo_refl _ | simp [takeMap, List.map_map, Function.comp_def, D.le, D.le.go, D.le_refl, D.leGo_refl]) ?_
  refine hK2 _ ?_
  clear hK2 K2
  simp only [putd, upd_lst]
  repeat (refine sxf_next fun K2 hK2 => ?_; simp; (repeat (refine ⟨by omega, ?_⟩)); refine hK2 _ ?_; clear hK2 K2)
  refine sxf_nil (hK' _ ?_)
  refine AW.st (by simp; rfl) ?_
  clear hK' K'
  refine AW_ret ?_
  simp [D.le, D.le.go, takeMap]
  exact idx_any (fun x => s == x) ws

set_option maxHeartbeats 4000000 in
theorem name_spec (G : Glob) (l : List UInt8) (hl : l.length < 2^60) : PureC Tryd.prog G 64 [dS l] (.v (.bool (nameF l))) := by
  have htrim := trim_spec G l hl
  have hcont := contains_spec G none wordsL l (by decide)
  refine PureC.of_body (tyOf_good _) Tryd.func64 rfl rfl (rs := [.tmp 2]) Tryd.results64 (by simp [Tryd.ntmps64]) fun X => ?_
  simp only [Tryd.ntmps64, List.map]
  refine AW_rg (tyOf_good _) [0] [] (fun _ _ => trivial) fun K' hK' => ?_
  repeat (refine sxf_next fun K2 hK2 => ?_; simp [dS]; (repeat (refine ⟨by omega, ?_⟩)); refine hK2 _ ?_; clear hK2 K2)
  refine sxf_nil (hK' _ ?_)
  refine AW.st (by simp [dS]; rfl) ?_
  clear hK' K'
  by_cases h1 : l = []
  · subst h1
    refine AW_rg (tyOf_good _) [2] [] (fun _ _ => trivial) fun K' hK' => ?_
    repeat (refine sxf_next fun K2 hK2 => ?_; simp [bs_nil, bs_list, binS]; (repeat (refine ⟨by omega, ?_⟩)); refine hK2 _ ?_; clear hK2 K2)
    refine sxf_nil (hK' _ ?_)
    refine AW.st (by simp [bs_nil, bs_list, binS]; rfl) ?_
    clear hK' K'
    refine AW_ret ?_
    simp [D.le, D.le.go, takeMap]
    simp [nameF]
  obtain ⟨a, l', hal⟩ : ∃ a l', l = a :: l' := by
    cases l with
    | nil => exact absurd rfl h1
    | cons a l' => exact ⟨a, l', rfl⟩
  have e0 : l[0]? = some a := by rw [hal]; rfl
  have e1 : l.head? = some a := by rw [hal]; rfl
  have h0 : 0 < l.length := by rw [hal]; simp
  have hg : l.getD 0 0 = a := by rw [hal]; rfl
  have hga : l[0] = a := by apply Option.some.inj; rw [← e0]; exact (List.getElem?_eq_getElem h0).symm
  by_cases h2 : (l.length : Int) ≤ 8
  · have h2' : l.length ≤ 8 := by omega
    by_cases h3 : (97 : Int) ≤ (a.toNat : Int)
    · have h3' : 97 ≤ a.toNat := by omega
      by_cases h4 : (a.toNat : Int) ≤ 122
      · have h4' : a.toNat ≤ 122 := by omega
        by_cases h5 : Lib.trimS l cutL = []
        · rw [h5] at htrim
          refine AW_rg (tyOf_good _) [2] [26] (fun _ _ => trivial) fun K' hK' => ?_
          repeat (refine sxf_next fun K2 hK2 => ?_; simp [bs_nil, bs_list, bs_size, bs_data, binS, e0, e1, h0, hga, h1, h2, h2', h3, h4, dS]; (repeat (refine ⟨by omega, ?_⟩)); refine hK2 _ ?_; clear hK2 K2)
          refine sxf_next fun K2 hK2 => ?_
          simp [bs_nil, bs_list, bs_size, bs_data, binS, e0, e1, h0, hga, h1, h2, h2', h3, h4, dS]
          refine callK.data (htrim) (by simp; rfl) (by first | exact D.leGo_refl _ | simp [takeMap, List.map_map, Function.comp_def, D.le, D.le.go, D.le_refl, D.leGo_refl, bs_nil, bs_list, bs_size, bs_data, binS, e0, e1, h0, hga, h1, h2, h2', h3, h4, dS]) ?_
          refine hK2 _ ?_
          clear hK2 K2
          simp only [putd, upd_lst]
          repeat (refine sxf_next fun K2 hK2 => ?_; simp [bs_nil, bs_list, bs_size, bs_data, binS, e0, e1, h0, hga, h1, h2, h2', h3, h4, dS]; (repeat (refine ⟨by omega, ?_⟩)); refine hK2 _ ?_; clear hK2 K2)
          refine sxf_next fun K2 hK2 => ?_
          simp [bs_nil, bs_list, bs_size, bs_data, binS, e0, e1, h0, hga, h1, h2, h2', h3, h4, dS]
          refine callK.lend (hcont) (by simp; rfl) (by first | exact D.leGo_refl _ | simp [takeMap, List.map_map, Function.comp_def, D.le, D.le.go, D.le_refl, D.leGo_refl, bs_nil, bs_list, bs_size, bs_data, binS, e0, e1, h0, hga, h1, h2, h2', h3, h4, dS]) (by simp [D.scalar]) ?_
          refine hK2 _ ?_
          clear hK2 K2
          simp only [putd, upd_lst]
          repeat (refine sxf_next fun K2 hK2 => ?_; simp [bs_nil, bs_list, bs_size, bs_data, binS, e0, e1, h0, hga, h1, h2, h2', h3, h4, dS]; (repeat (refine ⟨by omega, ?_⟩)); refine hK2 _ ?_; clear hK2 K2)
          refine sxf_nil (hK' _ ?_)
          refine AW.st (by simp [bs_nil, bs_list, bs_size, bs_data, binS, e0, e1, h0, hga, h1, h2, h2', h3, h4, dS]; rfl) ?_
          clear hK' K'
          refine AW_ret ?_
          simp [D.le, D.le.go, takeMap]
          simp [nameF, h1, h2', hg, e0, h3', h4', h5]
        · have h5' : ¬ (Lib.trimS l cutL == []) = true := by simpa using h5
          refine AW_rg (tyOf_good _) [2] [] (fun _ _ => trivial) fun K' hK' => ?_
          repeat (refine sxf_next fun K2 hK2 => ?_; simp [bs_nil, bs_list, bs_size, bs_data, binS, e0, e1, h0, hga, h1, h2, h2', h3, h4, h5, dS]; (repeat (refine ⟨by omega, ?_⟩)); refine hK2 _ ?_; clear hK2 K2)
          refine sxf_next fun K2 hK2 => ?_
          simp [bs_nil, bs_list, bs_size, bs_data, binS, e0, e1, h0, hga, h1, h2, h2', h3, h4, h5, dS]
          refine callK.data (htrim) (by simp; rfl) (by first | exact D.leGo_refl _ | simp [takeMap, List.map_map, Function.comp_def, D.le, D.le.go, D.le_refl, D.leGo_refl, bs_nil, bs_list, bs_size, bs_data, binS, e0, e1, h0, hga, h1, h2, h2', h3, h4, h5, dS]) ?_
          refine hK2 _ ?_
          clear hK2 K2
          simp only [putd, upd_lst]
          repeat (refine sxf_next fun K2 hK2 => ?_; simp [bs_nil, bs_list, bs_size, bs_data, binS, e0, e1, h0, hga, h1, h2, h2', h3, h4, h5, dS]; (repeat (refine ⟨by omega, ?_⟩)); refine hK2 _ ?_; clear hK2 K2)
          refine sxf_nil (hK' _ ?_)
          refine AW.st (by simp [bs_nil, bs_list, bs_size, bs_data, binS, e0, e1, h0, hga, h1, h2, h2', h3, h4, h5, dS]; rfl) ?_
          clear hK' K'
          refine AW_ret ?_
          simp [D.le, D.le.go, takeMap]
          simp [nameF, h1, h2', hg, e0, h3', h4', h5]
      · have h4' : ¬ a.toNat ≤ 122 := by omega
        refine AW_rg (tyOf_good _) [2] [] (fun _ _ => trivial) fun K' hK' => ?_
        repeat (refine sxf_next fun K2 hK2 => ?_; simp [bs_nil, bs_list, bs_size, bs_data, binS, e0, e1, h0, hga, h1, h2, h2', h3, h4]; (repeat (refine ⟨by omega, ?_⟩)); refine hK2 _ ?_; clear hK2 K2)
        refine sxf_nil (hK' _ ?_)
        refine AW.st (by simp [bs_nil, bs_list, bs_size, bs_data, binS, e0, e1, h0, hga, h1, h2, h2', h3, h4]; rfl) ?_
        clear hK' K'
        refine AW_ret ?_
        simp [D.le, D.le.go, takeMap]
        simp [nameF, h1, h2', hg, e0, h3', h4']
    · have h3' : ¬ 97 ≤ a.toNat := by omega
      refine AW_rg (tyOf_good _) [2] [] (fun _ _ => trivial) fun K' hK' => ?_
      repeat (refine sxf_next fun K2 hK2 => ?_; simp [bs_nil, bs_list, bs_size, bs_data, binS, e0, e1, h0, hga, h1, h2, h2', h3]; (repeat (refine ⟨by omega, ?_⟩)); refine hK2 _ ?_; clear hK2 K2)
      refine sxf_nil (hK' _ ?_)
      refine AW.st (by simp [bs_nil, bs_list, bs_size, bs_data, binS, e0, e1, h0, hga, h1, h2, h2', h3]; rfl) ?_
      clear hK' K'
      refine AW_ret ?_
      simp [D.le, D.le.go, takeMap]
      simp [nameF, h1, h2', hg, e0, h3']
  · have h2' : ¬ l.length ≤ 8 := by omega
    refine AW_rg (tyOf_good _) [2] [] (fun _ _ => trivial) fun K' hK' => ?_
    repeat (refine sxf_next fun K2 hK2 => ?_; simp [bs_nil, bs_list, bs_size, bs_data, binS, e0, e1, h0, hga, h1, h2, h2']; (repeat (refine ⟨by omega, ?_⟩)); refine hK2 _ ?_; clear hK2 K2)
    refine sxf_nil (hK' _ ?_)
    refine AW.st (by simp [bs_nil, bs_list, bs_size, bs_data, binS, e0, e1, h0, hga, h1, h2, h2']; rfl) ?_
    clear hK' K'
    refine AW_ret ?_
    simp [D.le, D.le.go, takeMap]
    simp [nameF, h1, h2']
#print axioms name_spec
end Go.Proofs.YtblafkekblaibaaDoor

/-
  errors.As at a target of the type *api.Errno: Go's own text of errors.As and errors.as, walked (after the kit's worked example Toyas).
-/
namespace Go.Proofs.YtblafkekblaibaaDoor
set_option linter.unusedSimpArgs false
set_option linter.unusedVariables false
open Go.RowKit Go.Extern.Stop Go.Stop Go.Extern
set_option linter.unusedSimpArgs false
set_option linter.unusedVariables false

/-! ### Closed facts on the model's entries for internal/reflectlite -/
theorem rl_valueOfP (t : Addr) (w : World) : (ReflectliteValue.unpack (.iface 158 (.pointer (some t)))).run Tryd.prog w
    = .ok (.agg #[.pointer (some ⟨6, 158, none⟩), .pointer (some ⟨w.heap.size, 0, none⟩), .int .u64 150]) (w.alloc (.cells #[.pointer (some t)] 158)) := by kernel_rfl
theorem rl_typeP (a : Addr) (w : World) : (ReflectliteValue.methodAny (ReflectliteValue.valueError "reflectlite.Value.Type" 0) (fun t _ _ _ => ReflectliteType.toType t) #[.agg #[.pointer (some ⟨6, 158, none⟩), .pointer (some a), .int .u64 150]]).run Tryd.prog w
    = .ok (.iface 188 (.agg #[.pointer (some ⟨6, 158, none⟩)])) w := by kernel_rfl
theorem rl_methodKind (h : Value) (w : World) : (Go.method 335 188 (.agg #[h]) "Kind").run Tryd.prog w = .ok (135, h) w := by kernel_rfl
theorem rl_kindP (w : World) : ((ReflectliteType.abiMethod fun t => (fun a : Nat => Value.int IntKind.u8 (a : Int)) <$> Rtype.kind t) #[.pointer (some ⟨6, 158, none⟩)]).run Tryd.prog w = .ok (.int .u8 22) w := by kernel_rfl
theorem rl_kindE (w : World) : ((ReflectliteType.abiMethod fun t => (fun a : Nat => Value.int IntKind.u8 (a : Int)) <$> Rtype.kind t) #[.pointer (some ⟨6, 60, none⟩)]).run Tryd.prog w = .ok (.int .u8 2) w := by kernel_rfl

theorem rlm (z : Sem Value) (f : TypeId → Addr → Nat → Nat → Sem Value) (v : Value) :
    ReflectliteValue.method z f #[v] = (do match ← ReflectliteValue.parts v with | none => z | some (t, a, fl) => f t a fl (fl % 32)) := rfl
theorem rl_partsP (a : Addr) (w : World) : (ReflectliteValue.parts (.agg #[.pointer (some ⟨6, 158, none⟩), .pointer (some a), .int .u64 150])).run Tryd.prog w = .ok (some (158, a, 150)) w := by kernel_rfl
theorem rl_isNilP (a p : Addr) (W : World) (ha : W.cell? a = some (.pointer (some p))) :
    (ReflectliteValue.method (ReflectliteValue.valueError "reflectlite.Value.IsNil" 0) ReflectliteValue.isNil #[.agg #[.pointer (some ⟨6, 158, none⟩), .pointer (some a), .int .u64 150]]).run Tryd.prog W = .ok (.bool false) W := by
  rw [rlm]
  simp only [Sem.run_bind, rl_partsP, Result.andThen]
  simp [ReflectliteValue.isNil, loadVar, isAgg, underlying, Tryd.underlying158, ha, Result.andThen]

theorem rl_methodElem (h : Value) (w : World) : (Go.method 335 188 (.agg #[h]) "Elem").run Tryd.prog w = .ok (158, .agg #[h]) w := by kernel_rfl
theorem rl_methodImplements (h : Value) (w : World) : (Go.method 335 188 (.agg #[h]) "Implements").run Tryd.prog w = .ok (159, .agg #[h]) w := by kernel_rfl
theorem rl_methodAssignableTo (h : Value) (w : World) : (Go.method 335 188 (.agg #[h]) "AssignableTo").run Tryd.prog w = .ok (156, .agg #[h]) w := by kernel_rfl
theorem rl_elemP (w : World) : (ReflectliteType.method ReflectliteType.elem #[.agg #[.pointer (some ⟨6, 158, none⟩)]]).run Tryd.prog w = .ok (.iface 188 (.agg #[.pointer (some ⟨6, 60, none⟩)])) w := by kernel_rfl
theorem rl_implementsE (w : World) : (ReflectliteType.relation "Implements" ReflectliteType.implements_ #[.agg #[.pointer (some ⟨6, 60, none⟩)], .iface 188 (.agg #[.pointer (some ⟨6, 26, none⟩)])]).run Tryd.prog w = .ok (.bool true) w := by kernel_rfl
theorem rl_typeOfE (v : Value) (w : World) : (ReflectliteType.typeOf #[.iface 60 v]).run Tryd.prog w = .ok (.iface 188 (.agg #[.pointer (some ⟨6, 60, none⟩)])) w := by kernel_rfl
theorem rl_typeOfA (v : Value) (w : World) : (ReflectliteType.typeOf #[.iface 125 v]).run Tryd.prog w = .ok (.iface 188 (.agg #[.pointer (some ⟨6, 125, none⟩)])) w := by kernel_rfl
theorem rl_assignableE (w : World) : (ReflectliteType.relation "AssignableTo" ReflectliteType.assignableTo #[.agg #[.pointer (some ⟨6, 60, none⟩)], .iface 188 (.agg #[.pointer (some ⟨6, 60, none⟩)])]).run Tryd.prog w = .ok (.bool true) w := by kernel_rfl
theorem rl_assignableA (w : World) : (ReflectliteType.relation "AssignableTo" ReflectliteType.assignableTo #[.agg #[.pointer (some ⟨6, 125, none⟩)], .iface 188 (.agg #[.pointer (some ⟨6, 60, none⟩)])]).run Tryd.prog w = .ok (.bool false) w := by kernel_rfl
theorem rl_valueOfE (n : Int) (w : World) : (ReflectliteValue.unpack (.iface 60 (.int .i64 n))).run Tryd.prog w
    = .ok (.agg #[.pointer (some ⟨6, 60, none⟩), .pointer (some ⟨w.heap.size, 0, none⟩), .int .u64 130]) (w.alloc (.cells #[.int .i64 n] 60)) := by kernel_rfl
theorem rl_elemOfP (w : World) : (Rtype.elem? 158).run Tryd.prog w = .ok (some 60) w := by kernel_rfl
theorem rl_mkE (p : Addr) (w : World) : (ReflectliteValue.mk 60 p ReflectliteValue.flagAddr).run Tryd.prog w = .ok (.agg #[.pointer (some ⟨6, 60, none⟩), .pointer (some p), .int .u64 386]) w := by kernel_rfl
theorem rl_elemVP (a p : Addr) (W : World) (ha : W.cell? a = some (.pointer (some p))) :
    (ReflectliteValue.method (ReflectliteValue.valueError "reflectlite.Value.Elem" 0) ReflectliteValue.elem #[.agg #[.pointer (some ⟨6, 158, none⟩), .pointer (some a), .int .u64 150]]).run Tryd.prog W
      = .ok (.agg #[.pointer (some ⟨6, 60, none⟩), .pointer (some p), .int .u64 386]) W := by
  rw [rlm]
  simp only [Sem.run_bind, rl_partsP, Result.andThen]
  simp [ReflectliteValue.elem, loadVar, isAgg, underlying, Tryd.underlying158, ha, Result.andThen, rl_elemOfP, rl_mkE]
theorem rls (v x : Value) : ReflectliteValue.set #[v, x] = (do
    let (some (dst, a, fl), some (src, b, _)) := (← ReflectliteValue.parts v, ← ReflectliteValue.parts x)
      | unsupported (.noEntry "extern/(internal/reflectlite.Value).Set.zeroValue")
    if fl / ReflectliteValue.flagAddr % 2 == 0 then unsupported (.noEntry "extern/(internal/reflectlite.Value).Set.unaddressable")
    let val ← loadVar src b
    if ← Rtype.directlyAssignable dst src then storeVar dst a val
    else if ← Rtype.implements dst src then
      if (← Rtype.kind src) == 20 then
        match val with
        | .nilIface => unsupported (.noEntry "extern/reflectlite: a nil value of one interface type handed on as a value of another")
        | _ => storeVar dst a val
      else storeVar dst a (.iface src val)
    else panicString ("reflectlite.Set: value of type " ++ (← Rtype.spelt src) ++ " is not assignable to type " ++ (← Rtype.spelt dst))
    pure (.tuple #[])) := rfl
theorem rl_partsEa (a : Addr) (w : World) : (ReflectliteValue.parts (.agg #[.pointer (some ⟨6, 60, none⟩), .pointer (some a), .int .u64 386])).run Tryd.prog w = .ok (some (60, a, 386)) w := by kernel_rfl
theorem rl_partsE (a : Addr) (w : World) : (ReflectliteValue.parts (.agg #[.pointer (some ⟨6, 60, none⟩), .pointer (some a), .int .u64 130])).run Tryd.prog w = .ok (some (60, a, 130)) w := by kernel_rfl
theorem rl_directE (w : World) : (Rtype.directlyAssignable 60 60).run Tryd.prog w = .ok true w := by kernel_rfl
theorem rl_setE (ta b : Addr) (n : Int) (old : Value) (W : World) (hb : W.cell? b = some (.int .i64 n)) (ht : W.cell? ta = some old) (hf : W.frozen? ta = false) :
    (ReflectliteValue.set #[.agg #[.pointer (some ⟨6, 60, none⟩), .pointer (some ta), .int .u64 386], .agg #[.pointer (some ⟨6, 60, none⟩), .pointer (some b), .int .u64 130]]).run Tryd.prog W
      = .ok (.tuple #[]) (W.setCell ta (.int .i64 n)) := by
  rw [rls]
  simp only [Sem.run_bind, rl_partsEa, rl_partsE, Result.andThen]
  simp [ReflectliteValue.flagAddr, loadVar, isAgg, underlying, Tryd.underlying60, hb, Result.andThen, rl_directE, storeVar, Value.cells, storeCells, Addr.add]
  rw [run_store Tryd.prog W ta _ _ (by rfl)]
  simp [ht, hf]

theorem as_nil (t : Value) (w : World) : Calls Tryd.prog 90 #[.nilIface, t] w fun e w' => e = .returned (.bool false) ∧ w' = w := by
  go_enter Tryd.func90, Tryd.ntmps90
  go_wp2
  go_ret
  exact ⟨rfl, rfl⟩

def asWorld (t : Addr) (n : Int) (w : World) : World := ((((w.alloc (.cells #[.pointer (some t)] 158)).alloc (.cells #[.pointer (some ⟨6, 158, none⟩), .pointer (some ⟨w.heap.size, 0, none⟩), .int .u64 150] 174)).alloc (.cells #[.pointer (some ⟨6, 158, none⟩), .pointer (some ⟨w.heap.size, 0, none⟩), .int .u64 150] 174)).alloc (.cells #[.int .i64 n] 60)).setCell t (.int .i64 n)

set_option maxHeartbeats 4000000 in
theorem as_errno (n : Int) (t : Addr) (old : Value) (w : World) (hg : w.cell? ⟨2, 0, none⟩ = some (.iface 188 (.agg #[.pointer (some ⟨6, 26, none⟩)]))) (ht0 : w.cell? t = some old) (hf0 : w.frozen? t = false) :
    Calls Tryd.prog 90 #[.iface 60 (.int .i64 n), .iface 158 (.pointer (some t))] w fun ev w' => ev = .returned (.bool true) ∧ w' = asWorld t n w := by
  have h6 := @run_callFunc_extern Tryd.prog 102 _ (fun args => ReflectliteValue.unpack (args.getD 0 (.tuple #[]))) Tryd.func102 (by kernel_rfl) (by kernel_rfl) (by kernel_rfl) (by kernel_rfl)
  have h7 := @run_callFunc_extern Tryd.prog 103 _ (ReflectliteValue.methodAny (ReflectliteValue.valueError "reflectlite.Value.Type" 0) (fun t _ _ _ => ReflectliteType.toType t)) Tryd.func103 (by kernel_rfl) (by kernel_rfl) (by kernel_rfl) (by kernel_rfl)
  have h8 := @run_callFunc_extern Tryd.prog 104 _ (ReflectliteValue.method (ReflectliteValue.valueError "reflectlite.Value.IsNil" 0) ReflectliteValue.isNil) Tryd.func104 (by kernel_rfl) (by kernel_rfl) (by kernel_rfl) (by kernel_rfl)
  have h27 := @run_callFunc_extern Tryd.prog 135 _ (ReflectliteType.abiMethod fun t => do pure (.int .u8 (← Rtype.kind t))) Tryd.func135 (by kernel_rfl) (by kernel_rfl) (by kernel_rfl) (by kernel_rfl)
  have h37 := @run_callFunc_extern Tryd.prog 158 _ (ReflectliteType.method ReflectliteType.elem) Tryd.func158 (by kernel_rfl) (by kernel_rfl) (by kernel_rfl) (by kernel_rfl)
  have h38 := @run_callFunc_extern Tryd.prog 159 _ (ReflectliteType.relation "Implements" ReflectliteType.implements_) Tryd.func159 (by kernel_rfl) (by kernel_rfl) (by kernel_rfl) (by kernel_rfl)
  have h10 := @run_callFunc_extern Tryd.prog 111 _ ReflectliteType.typeOf Tryd.func111 (by kernel_rfl) (by kernel_rfl) (by kernel_rfl) (by kernel_rfl)
  have h35 := @run_callFunc_extern Tryd.prog 156 _ (ReflectliteType.relation "AssignableTo" ReflectliteType.assignableTo) Tryd.func156 (by kernel_rfl) (by kernel_rfl) (by kernel_rfl) (by kernel_rfl)
  have h11 := @run_callFunc_extern Tryd.prog 112 _ (ReflectliteValue.method (ReflectliteValue.valueError "reflectlite.Value.Elem" 0) ReflectliteValue.elem) Tryd.func112 (by kernel_rfl) (by kernel_rfl) (by kernel_rfl) (by kernel_rfl)
  have h12 := @run_callFunc_extern Tryd.prog 113 _ ReflectliteValue.set Tryd.func113 (by kernel_rfl) (by kernel_rfl) (by kernel_rfl) (by kernel_rfl)
  have mA := rl_methodAssignableTo
  have aE := rl_assignableE
  have vE := rl_valueOfE
  have tE := rl_typeOfE
  have f6 := rl_valueOfP
  have f7 := rl_typeP
  have mK := rl_methodKind
  have mE := rl_methodElem
  have mI := rl_methodImplements
  have kP := rl_kindP
  have kE := rl_kindE
  have eP := rl_elemP
  have iE := rl_implementsE
  have n8 := rl_isNilP ⟨w.heap.size, 0, none⟩ t ((w.alloc (.cells #[.pointer (some t)] 158)).alloc (.cells #[.pointer (some ⟨6, 158, none⟩), .pointer (some ⟨w.heap.size, 0, none⟩), .int .u64 150] 174)) (by simp)
  have hlt : 2 < w.heap.size := by
    rcases Nat.lt_or_ge 2 w.heap.size with h | h
    · exact h
    · simp [World.cell?, Array.getElem?_eq_none h] at hg
  have hg2 : ((w.alloc (.cells #[.pointer (some t)] 158)).alloc (.cells #[.pointer (some ⟨6, 158, none⟩), .pointer (some ⟨w.heap.size, 0, none⟩), .int .u64 150] 174)).cell? ⟨2, 0, none⟩ = some (.iface 188 (.agg #[.pointer (some ⟨6, 26, none⟩)])) := by
    rw [World.cell?_alloc_lt _ _ ⟨2, 0, none⟩ (by simp; omega), World.cell?_alloc_lt _ _ ⟨2, 0, none⟩ hlt]; exact hg
  have htl : t.block < w.heap.size := by
    rcases Nat.lt_or_ge t.block w.heap.size with h | h
    · exact h
    · simp [World.cell?, Array.getElem?_eq_none h] at ht0
  have el := rl_elemVP ⟨w.heap.size, 0, none⟩ t (((w.alloc (.cells #[.pointer (some t)] 158)).alloc (.cells #[.pointer (some ⟨6, 158, none⟩), .pointer (some ⟨w.heap.size, 0, none⟩), .int .u64 150] 174)).alloc (.cells #[.pointer (some ⟨6, 158, none⟩), .pointer (some ⟨w.heap.size, 0, none⟩), .int .u64 150] 174)) (by rw [World.cell?_alloc_lt _ _ ⟨w.heap.size, 0, none⟩ (by simp; omega)]; simp)
  have st := rl_setE t ⟨w.heap.size + 1 + 1 + 1, 0, none⟩ n old ((((w.alloc (.cells #[.pointer (some t)] 158)).alloc (.cells #[.pointer (some ⟨6, 158, none⟩), .pointer (some ⟨w.heap.size, 0, none⟩), .int .u64 150] 174)).alloc (.cells #[.pointer (some ⟨6, 158, none⟩), .pointer (some ⟨w.heap.size, 0, none⟩), .int .u64 150] 174)).alloc (.cells #[.int .i64 n] 60))
    (by rw [World.cell?_alloc_at _ _ _ _ (by simp)]; rfl)
    (by rw [World.cell?_alloc_lt _ _ t (by simp; omega), World.cell?_alloc_lt _ _ t (by simp; omega), World.cell?_alloc_lt _ _ t (by simp; omega), World.cell?_alloc_lt _ _ t htl]; exact ht0)
    (by rw [World.frozen?_alloc_old _ _ t (by simp; omega), World.frozen?_alloc_old _ _ t (by simp; omega), World.frozen?_alloc_old _ _ t (by simp; omega), World.frozen?_alloc_old _ _ t (Nat.ne_of_lt htl)]; exact hf0)
  go_enter Tryd.func90, Tryd.ntmps90
  go_wp2
  refine wp_loop_rounds 1 ?_
  rw [rounds_succ]
  go_wp2
  go_ret
  exact ⟨rfl, rfl⟩

theorem unwrap_at (a : Addr) (n : Int) (w : World) (ha : w.cell? a = some (.int .i64 n)) : Calls Tryd.prog 150 #[.pointer (some a)] w fun e w' => e = .returned (.iface 60 (.int .i64 n)) ∧ w' = w := by
  go_enter Tryd.func150, Tryd.ntmps150
  go_wp2
  go_ret
  exact ⟨rfl, rfl⟩
theorem rl_methodUnwrap (h : Value) (w : World) : (Go.method 335 125 h "Unwrap").run Tryd.prog w = .ok (150, h) w := by kernel_rfl
theorem rl_noAs (v : Value) (xT : TypeId) (w : World) : (Instr.typeAssert (.iface 125 v) xT 193 true).run Tryd.prog w = .ok (.tuple #[.nilIface, .bool false]) w := run_typeAssert_lacksB Tryd.underlying193 (by kernel_rfl) (by kernel_rfl) v xT w
theorem rl_unwraps (v : Value) (xT : TypeId) (w : World) : (Instr.typeAssert (.iface 125 v) xT 149 true).run Tryd.prog w = .ok (.tuple #[.iface 125 v, .bool true]) w := run_typeAssert_hasB Tryd.underlying149 (by kernel_rfl) v xT w

#print axioms as_errno
#print axioms unwrap_at
end Go.Proofs.YtblafkekblaibaaDoor

/-
  errors.As at an error with a place; what api.Tell and plain.Place tell.
-/
namespace Go.Proofs.YtblafkekblaibaaDoor
set_option linter.unusedSimpArgs false
set_option linter.unusedVariables false
open Go.RowKit Go.Extern.Stop Go.Stop Go.Extern
set_option linter.unusedSimpArgs false
set_option linter.unusedVariables false

set_option maxHeartbeats 8000000 in
theorem as_at (n : Int) (a t : Addr) (old : Value) (w : World) (hg : w.cell? ⟨2, 0, none⟩ = some (.iface 188 (.agg #[.pointer (some ⟨6, 26, none⟩)]))) (ha : w.cell? a = some (.int .i64 n)) (ht0 : w.cell? t = some old) (hf0 : w.frozen? t = false) :
    Calls Tryd.prog 90 #[.iface 125 (.pointer (some a)), .iface 158 (.pointer (some t))] w fun ev w' => ev = .returned (.bool true) ∧ w' = asWorld t n w := by
  have h6 := @run_callFunc_extern Tryd.prog 102 _ (fun args => ReflectliteValue.unpack (args.getD 0 (.tuple #[]))) Tryd.func102 (by kernel_rfl) (by kernel_rfl) (by kernel_rfl) (by kernel_rfl)
  have h7 := @run_callFunc_extern Tryd.prog 103 _ (ReflectliteValue.methodAny (ReflectliteValue.valueError "reflectlite.Value.Type" 0) (fun t _ _ _ => ReflectliteType.toType t)) Tryd.func103 (by kernel_rfl) (by kernel_rfl) (by kernel_rfl) (by kernel_rfl)
  have h8 := @run_callFunc_extern Tryd.prog 104 _ (ReflectliteValue.method (ReflectliteValue.valueError "reflectlite.Value.IsNil" 0) ReflectliteValue.isNil) Tryd.func104 (by kernel_rfl) (by kernel_rfl) (by kernel_rfl) (by kernel_rfl)
  have h27 := @run_callFunc_extern Tryd.prog 135 _ (ReflectliteType.abiMethod fun t => do pure (.int .u8 (← Rtype.kind t))) Tryd.func135 (by kernel_rfl) (by kernel_rfl) (by kernel_rfl) (by kernel_rfl)
  have h37 := @run_callFunc_extern Tryd.prog 158 _ (ReflectliteType.method ReflectliteType.elem) Tryd.func158 (by kernel_rfl) (by kernel_rfl) (by kernel_rfl) (by kernel_rfl)
  have h38 := @run_callFunc_extern Tryd.prog 159 _ (ReflectliteType.relation "Implements" ReflectliteType.implements_) Tryd.func159 (by kernel_rfl) (by kernel_rfl) (by kernel_rfl) (by kernel_rfl)
  have h10 := @run_callFunc_extern Tryd.prog 111 _ ReflectliteType.typeOf Tryd.func111 (by kernel_rfl) (by kernel_rfl) (by kernel_rfl) (by kernel_rfl)
  have h35 := @run_callFunc_extern Tryd.prog 156 _ (ReflectliteType.relation "AssignableTo" ReflectliteType.assignableTo) Tryd.func156 (by kernel_rfl) (by kernel_rfl) (by kernel_rfl) (by kernel_rfl)
  have h11 := @run_callFunc_extern Tryd.prog 112 _ (ReflectliteValue.method (ReflectliteValue.valueError "reflectlite.Value.Elem" 0) ReflectliteValue.elem) Tryd.func112 (by kernel_rfl) (by kernel_rfl) (by kernel_rfl) (by kernel_rfl)
  have h12 := @run_callFunc_extern Tryd.prog 113 _ ReflectliteValue.set Tryd.func113 (by kernel_rfl) (by kernel_rfl) (by kernel_rfl) (by kernel_rfl)
  have mA := rl_methodAssignableTo
  have aE := rl_assignableE
  have vE := rl_valueOfE
  have tE := rl_typeOfE
  have f6 := rl_valueOfP
  have f7 := rl_typeP
  have mK := rl_methodKind
  have mE := rl_methodElem
  have mI := rl_methodImplements
  have kP := rl_kindP
  have kE := rl_kindE
  have eP := rl_elemP
  have iE := rl_implementsE
  have n8 := rl_isNilP ⟨w.heap.size, 0, none⟩ t ((w.alloc (.cells #[.pointer (some t)] 158)).alloc (.cells #[.pointer (some ⟨6, 158, none⟩), .pointer (some ⟨w.heap.size, 0, none⟩), .int .u64 150] 174)) (by simp)
  have hlt : 2 < w.heap.size := by
    rcases Nat.lt_or_ge 2 w.heap.size with h | h
    · exact h
    · simp [World.cell?, Array.getElem?_eq_none h] at hg
  have hg2 : ((w.alloc (.cells #[.pointer (some t)] 158)).alloc (.cells #[.pointer (some ⟨6, 158, none⟩), .pointer (some ⟨w.heap.size, 0, none⟩), .int .u64 150] 174)).cell? ⟨2, 0, none⟩ = some (.iface 188 (.agg #[.pointer (some ⟨6, 26, none⟩)])) := by
    rw [World.cell?_alloc_lt _ _ ⟨2, 0, none⟩ (by simp; omega), World.cell?_alloc_lt _ _ ⟨2, 0, none⟩ hlt]; exact hg
  have htl : t.block < w.heap.size := by
    rcases Nat.lt_or_ge t.block w.heap.size with h | h
    · exact h
    · simp [World.cell?, Array.getElem?_eq_none h] at ht0
  have el := rl_elemVP ⟨w.heap.size, 0, none⟩ t (((w.alloc (.cells #[.pointer (some t)] 158)).alloc (.cells #[.pointer (some ⟨6, 158, none⟩), .pointer (some ⟨w.heap.size, 0, none⟩), .int .u64 150] 174)).alloc (.cells #[.pointer (some ⟨6, 158, none⟩), .pointer (some ⟨w.heap.size, 0, none⟩), .int .u64 150] 174)) (by rw [World.cell?_alloc_lt _ _ ⟨w.heap.size, 0, none⟩ (by simp; omega)]; simp)
  have st := rl_setE t ⟨w.heap.size + 1 + 1 + 1, 0, none⟩ n old ((((w.alloc (.cells #[.pointer (some t)] 158)).alloc (.cells #[.pointer (some ⟨6, 158, none⟩), .pointer (some ⟨w.heap.size, 0, none⟩), .int .u64 150] 174)).alloc (.cells #[.pointer (some ⟨6, 158, none⟩), .pointer (some ⟨w.heap.size, 0, none⟩), .int .u64 150] 174)).alloc (.cells #[.int .i64 n] 60))
    (by rw [World.cell?_alloc_at _ _ _ _ (by simp)]; rfl)
    (by rw [World.cell?_alloc_lt _ _ t (by simp; omega), World.cell?_alloc_lt _ _ t (by simp; omega), World.cell?_alloc_lt _ _ t (by simp; omega), World.cell?_alloc_lt _ _ t htl]; exact ht0)
    (by rw [World.frozen?_alloc_old _ _ t (by simp; omega), World.frozen?_alloc_old _ _ t (by simp; omega), World.frozen?_alloc_old _ _ t (by simp; omega), World.frozen?_alloc_old _ _ t (Nat.ne_of_lt htl)]; exact hf0)
  have tA := rl_typeOfA
  have aA := rl_assignableA
  have nA := rl_noAs
  have uA := rl_unwraps
  have mU := rl_methodUnwrap
  have hal : a.block < w.heap.size := by
    rcases Nat.lt_or_ge a.block w.heap.size with h | h
    · exact h
    · simp [World.cell?, Array.getElem?_eq_none h] at ha
  have ha3 : (((w.alloc (.cells #[.pointer (some t)] 158)).alloc (.cells #[.pointer (some ⟨6, 158, none⟩), .pointer (some ⟨w.heap.size, 0, none⟩), .int .u64 150] 174)).alloc (.cells #[.pointer (some ⟨6, 158, none⟩), .pointer (some ⟨w.heap.size, 0, none⟩), .int .u64 150] 174)).cell? a = some (.int .i64 n) := by
    rw [World.cell?_alloc_lt _ _ a (by simp; omega), World.cell?_alloc_lt _ _ a (by simp; omega), World.cell?_alloc_lt _ _ a hal]; exact ha
  go_enter Tryd.func90, Tryd.ntmps90
  go_wp2
  refine wp_loop_rounds 2 ?_
  rw [rounds_succ]
  go_wp2_with (go_at_call 150; refine (unwrap_at a n _ ha3).mono ?_; rintro e w' ⟨rfl, rfl⟩)
  rw [rounds_succ]
  go_wp2
  go_ret
  exact ⟨rfl, rfl⟩

#print axioms as_at
end Go.Proofs.YtblafkekblaibaaDoor

/-
  The closures; slices that are copied; lists that are numbered as they come.
-/
namespace Go.Proofs.YtblafkekblaibaaDoor
set_option linter.unusedSimpArgs false
set_option linter.unusedVariables false
open Go.Av

def dNum (n : Int) : D := .v (.int .i64 n)
def dRow (r : List Int) : D := dInts none r
def dRows (l : List (List Int)) : D := .sl none (l.map fun r => [dRow r])

end Go.Proofs.YtblafkekblaibaaDoor

/-
  Lists are numbered as they come.
-/
namespace Go.Proofs.YtblafkekblaibaaDoor
set_option linter.unusedSimpArgs false
set_option linter.unusedVariables false
open Go.Av

def numStep (st : List (List Int) × List Int) (l : List Int) : List (List Int) × List Int :=
  if idx (fun x => x == l) st.1 < 0 then (st.1 ++ [l], st.2 ++ [(st.1.length : Int)]) else (st.1, st.2 ++ [idx (fun x => x == l) st.1])
def numSt (L : List (List Int)) (n : Nat) : List (List Int) × List Int := (L.take n).foldl numStep ([], [])
def numberF (L : List (List Int)) : List Int := (numSt L L.length).2

theorem numSt_succ {L : List (List Int)} {n : Nat} (hn : n < L.length) : numSt L (n + 1) = numStep (numSt L n) L[n] := by
  unfold numSt
  rw [List.take_succ_eq_append_getElem hn, List.foldl_append]
  rfl
theorem numStep_len (st : List (List Int) × List Int) (l : List Int) : (numStep st l).1.length ≤ st.1.length + 1 ∧ (numStep st l).2.length = st.2.length + 1 := by
  unfold numStep
  split <;> simp
theorem numSt_len {L : List (List Int)} : ∀ {n : Nat}, n ≤ L.length → (numSt L n).1.length ≤ n ∧ (numSt L n).2.length = n
  | 0, _ => by simp [numSt]
  | n + 1, h => by
    have ih := numSt_len (L := L) (n := n) (by omega)
    have := numStep_len (numSt L n) L[n]
    rw [numSt_succ (by omega)]
    omega
theorem numStep_mem {st : List (List Int) × List Int} {l : List Int} {P : List Int → Prop} (h : ∀ r ∈ st.1, P r) (hl : P l) : ∀ r ∈ (numStep st l).1, P r := by
  intro r hr
  unfold numStep at hr
  split at hr
  · simp at hr
    rcases hr with hr | rfl
    · exact h r hr
    · exact hl
  · exact h r hr
theorem numSt_mem {L : List (List Int)} {P : List Int → Prop} (h : ∀ r ∈ L, P r) : ∀ {n : Nat}, n ≤ L.length → ∀ r ∈ (numSt L n).1, P r
  | 0, _ => by simp [numSt]
  | n + 1, hn => by
    rw [numSt_succ (by omega)]
    exact numStep_mem (numSt_mem h (by omega)) (h _ (by simp))

end Go.Proofs.YtblafkekblaibaaDoor

/-
  Tables: few states; which tables may be.
-/
namespace Go.Proofs.YtblafkekblaibaaDoor
set_option linter.unusedSimpArgs false
set_option linter.unusedVariables false
open Go.Av

structure Tab where
  next : List (List Int)
  tells : List (List Int)

def dTab (t : Tab) : D := .agg [dRows t.next, dRows t.tells]

def fewF (t : Tab) (most : Int) : Bool := decide ((t.next.length : Int) ≤ most) && (decide ((t.tells.length : Int) ≤ 500) && (decide (t.next.length = 0) || decide (((t.next.getD 0 []).length : Int) ≤ 16)))

end Go.Proofs.YtblafkekblaibaaDoor

/-
  Which tables may be.
-/
namespace Go.Proofs.YtblafkekblaibaaDoor
set_option linter.unusedSimpArgs false
set_option linter.unusedVariables false
open Go.Av

/-- Whether an error is told, which one, and where. -/
def dErr : Option (Int × Option Nat) → D
  | none => .v .nilIface
  | some (c, none) => .ifc 60 (.v (.int .i64 c))
  | some (c, some s) => .ifc 125 (.ip [.v (.int .i64 c), .v (.int .i64 s)])

def rowF (t : Tab) (s : Nat) : Option Int :=
  if (t.next.getD s []).length ≠ (t.next.getD 0 []).length ∨ (t.tells.getD s []).length ≠ (t.next.getD 0 []).length then some 3
  else if (t.next.getD s []).any fun x => decide (x < 0) || decide ((t.next.length : Int) ≤ x) then some 2 else none
def rowsF (t : Tab) : Nat → Nat → Option (Int × Option Nat)
  | _, 0 => none
  | s, n + 1 => match rowF t s with
    | some c => some (c, some s)
    | none => rowsF t (s + 1) n
def checkF (t : Tab) : Option (Int × Option Nat) :=
  if t.next.length < 1 ∨ 500 < t.next.length ∨ 64 < (t.next.getD 0 []).length then some (4, none)
  else if t.tells.length ≠ t.next.length then some (3, none)
  else rowsF t 0 t.next.length

end Go.Proofs.YtblafkekblaibaaDoor

/-
  What api.Tell and plain.Place tell of an error.
-/
namespace Go.Proofs.YtblafkekblaibaaDoor
set_option linter.unusedSimpArgs false
set_option linter.unusedVariables false
open Go.RowKit Go.Extern.Stop Go.Stop Go.Extern
open Go.Av

def errType : Value := .iface 188 (.agg #[.pointer (some ⟨6, 26, none⟩)])

theorem asWorld_grew (n : Int) (w : World) : Grew w (asWorld ⟨w.heap.size, 0, none⟩ n (w.alloc (.cells #[.int .i64 0] 60))) := by
  unfold asWorld
  refine ⟨by simp <;> omega, rfl, rfl, rfl, fun b hb => ?_⟩
  rw [Below.heap_setCell _ _ _ _ (by simp; omega)]
  repeat rw [Below.heap_alloc _ _ _ (by simp; omega)]
  exact Below.heap_alloc _ _ _ hb
theorem asWorld_cell (n : Int) (w : World) : (asWorld ⟨w.heap.size, 0, none⟩ n (w.alloc (.cells #[.int .i64 0] 60))).cell? ⟨w.heap.size, 0, none⟩ = some (.int .i64 n) := by
  unfold asWorld
  have hm : ((((w.alloc (.cells #[.int .i64 0] 60)).alloc (.cells #[.pointer (some ⟨w.heap.size, 0, none⟩)] 158)).alloc (.cells #[.pointer (some ⟨6, 158, none⟩), .pointer (some ⟨(w.alloc (.cells #[.int .i64 0] 60)).heap.size, 0, none⟩), .int .u64 150] 174)).alloc (.cells #[.pointer (some ⟨6, 158, none⟩), .pointer (some ⟨(w.alloc (.cells #[.int .i64 0] 60)).heap.size, 0, none⟩), .int .u64 150] 174) |>.alloc (.cells #[.int .i64 n] 60)).cell? ⟨w.heap.size, 0, none⟩ = some (.int .i64 0) := by
    rw [World.cell?_alloc_lt _ _ _ (by simp; omega), World.cell?_alloc_lt _ _ _ (by simp; omega), World.cell?_alloc_lt _ _ _ (by simp; omega), World.cell?_alloc_lt _ _ _ (by simp)]
    simp
  exact World.cell?_setCell_same _ _ _ hm

theorem tell_nil (w : World) : Calls Tryd.prog 81 #[.nilIface] w fun e w' => e = .returned (.int .i64 0) ∧ w' = w := by
  go_enter Tryd.func81, Tryd.ntmps81
  go_wp2
  go_ret
  exact ⟨rfl, rfl⟩

set_option maxHeartbeats 1000000 in
theorem tell_errno (n : Int) (w : World) (hg : w.cell? ⟨2, 0, none⟩ = some errType) : Calls Tryd.prog 81 #[.iface 60 (.int .i64 n)] w fun e w' => e = .returned (.int .i64 n) ∧ Grew w w' := by
  have hlt : 2 < w.heap.size := by
    rcases Nat.lt_or_ge 2 w.heap.size with h | h
    · exact h
    · simp [World.cell?, Array.getElem?_eq_none h] at hg
  have hgA : (w.alloc (.cells #[.int .i64 0] 60)).cell? ⟨2, 0, none⟩ = some errType := by rw [World.cell?_alloc_lt _ _ ⟨2, 0, none⟩ hlt]; exact hg
  have htA : (w.alloc (.cells #[.int .i64 0] 60)).cell? ⟨w.heap.size, 0, none⟩ = some (.int .i64 0) := by simp
  have hfA : (w.alloc (.cells #[.int .i64 0] 60)).frozen? ⟨w.heap.size, 0, none⟩ = false := by simp
  have hc := asWorld_cell n w
  have hgr := asWorld_grew n w
  go_enter Tryd.func81, Tryd.ntmps81
  go_wp2_with (go_at_call 90; refine (as_errno n _ (.int .i64 0) _ hgA htA hfA).mono ?_; rintro e w' ⟨rfl, rfl⟩)
  go_ret
  exact ⟨rfl, hgr⟩

set_option maxHeartbeats 1000000 in
theorem tell_at (n : Int) (a : Addr) (w : World) (hg : w.cell? ⟨2, 0, none⟩ = some errType) (ha : w.cell? a = some (.int .i64 n)) : Calls Tryd.prog 81 #[.iface 125 (.pointer (some a))] w fun e w' => e = .returned (.int .i64 n) ∧ Grew w w' := by
  have hlt : 2 < w.heap.size := by
    rcases Nat.lt_or_ge 2 w.heap.size with h | h
    · exact h
    · simp [World.cell?, Array.getElem?_eq_none h] at hg
  have hal : a.block < w.heap.size := cell_lt ha
  have hgA : (w.alloc (.cells #[.int .i64 0] 60)).cell? ⟨2, 0, none⟩ = some errType := by rw [World.cell?_alloc_lt _ _ ⟨2, 0, none⟩ hlt]; exact hg
  have haA : (w.alloc (.cells #[.int .i64 0] 60)).cell? a = some (.int .i64 n) := by rw [World.cell?_alloc_lt _ _ a hal]; exact ha
  have htA : (w.alloc (.cells #[.int .i64 0] 60)).cell? ⟨w.heap.size, 0, none⟩ = some (.int .i64 0) := by simp
  have hfA : (w.alloc (.cells #[.int .i64 0] 60)).frozen? ⟨w.heap.size, 0, none⟩ = false := by simp
  have hc := asWorld_cell n w
  have hgr := asWorld_grew n w
  go_enter Tryd.func81, Tryd.ntmps81
  go_wp2_with (go_at_call 90; refine (as_at n a _ (.int .i64 0) _ hgA haA htA hfA).mono ?_; rintro e w' ⟨rfl, rfl⟩)
  go_ret
  exact ⟨rfl, hgr⟩

/-- The code in an error, its place. -/
def codeF : Option (Int × Option Nat) → Int
  | none => 0
  | some (c, _) => c
def placeF : Option (Int × Option Nat) → Int
  | some (_, some s) => s
  | _ => -1

def HasErr (G : Glob) : Prop := G 2 = some (.ip [.v errType])
theorem HasErr.cell {G : Glob} (h : HasErr G) {w : World} {X : Nat → Prop} (hg : ∀ g x, G g = some x → RD w X (.pointer (some ⟨g, 0, none⟩)) x) : w.cell? ⟨2, 0, none⟩ = some errType := by
  have := hg _ _ h
  obtain ⟨b, off, f, hb, _, _, hc, hr⟩ := this.ip_inv
  simp only [Value.pointer.injEq, Option.some.injEq, Addr.mk.injEq, and_true] at hb
  obtain ⟨rfl, rfl⟩ := hb
  have h1 := hc 0 (by simp)
  have h2 := (hr 0 _ rfl).scalar
  rw [h2] at h1
  exact h1

theorem tell_spec (G : Glob) (hG : HasErr G) (e : Option (Int × Option Nat)) : PureC Tryd.prog G 81 [dErr e] (.v (.int .i64 (codeF e))) := by
  refine PureC.of_calls (Fun.of Tryd.func81 rfl rfl) fun X w vs hsz hrd hgl => ?_
  have hg := hG.cell hgl
  obtain ⟨v, rfl⟩ : ∃ v, vs = #[v] := Array.size_eq_one_iff.1 hsz
  have hv := hrd 0 v _ rfl rfl
  match e, hv with
  | none, hv =>
    have := hv.scalar
    subst this
    exact (tell_nil w).mono fun e w' ⟨he, hw⟩ => ⟨_, he, by rw [hw]; exact Grew.refl w, .v _⟩
  | some (c, none), hv =>
    obtain ⟨u, rfl, hu⟩ := hv.ifc_inv
    have := hu.scalar
    subst this
    exact (tell_errno c w hg).mono fun e w' ⟨he, hw⟩ => ⟨_, he, hw, .v _⟩
  | some (c, some s), hv =>
    obtain ⟨u, rfl, hu⟩ := hv.ifc_inv
    obtain ⟨b, off, f, rfl, _, _, hc, hr⟩ := hu.ip_inv
    have h1 := hc 0 (by simp)
    have h2 := (hr 0 _ rfl).scalar
    rw [h2] at h1
    exact (tell_at c ⟨b, off, none⟩ w hg h1).mono fun e w' ⟨he, hw⟩ => ⟨_, he, hw, .v _⟩
#print axioms tell_spec
end Go.Proofs.YtblafkekblaibaaDoor

/-
  What plain.Place tells of an error.
-/
namespace Go.Proofs.YtblafkekblaibaaDoor
set_option linter.unusedSimpArgs false
set_option linter.unusedVariables false
open Go.RowKit Go.Extern.Stop Go.Stop Go.Extern
open Go.Av

theorem ta_E (v : Value) (xT : TypeId) (w : World) : (Instr.typeAssert (.iface 60 v) xT 125 true).run Tryd.prog w = .ok (.tuple #[.pointer none, .bool false]) w := by kernel_rfl
theorem ta_A (v : Value) (xT : TypeId) (w : World) : (Instr.typeAssert (.iface 125 v) xT 125 true).run Tryd.prog w = .ok (.tuple #[v, .bool true]) w := by kernel_rfl
theorem ta_noUnwrap (v : Value) (xT : TypeId) (w : World) : (Instr.typeAssert (.iface 60 v) xT 149 true).run Tryd.prog w = .ok (.tuple #[.nilIface, .bool false]) w := run_typeAssert_lacksB Tryd.underlying149 (by kernel_rfl) (by kernel_rfl) v xT w

set_option maxHeartbeats 1000000 in
theorem place_nil (w : World) : Calls Tryd.prog 59 #[.nilIface] w fun e w' => e = .returned (.tuple #[.int .i64 0, .int .i64 (-1)]) ∧ Grew w w' := by
  go_enter Tryd.func59, Tryd.ntmps59
  go_wp2_with (go_at_call 81; refine (tell_nil _).mono ?_; rintro e w' ⟨rfl, rfl⟩)
  refine wp_loop_rounds 1 ?_
  rw [rounds_succ]
  go_wp2
  go_ret2
  exact ⟨rfl, Grew.refl _⟩

set_option maxHeartbeats 1000000 in
theorem place_errno (n : Int) (w : World) (hg : w.cell? ⟨2, 0, none⟩ = some errType) : Calls Tryd.prog 59 #[.iface 60 (.int .i64 n)] w fun e w' => e = .returned (.tuple #[.int .i64 n, .int .i64 (-1)]) ∧ Grew w w' := by
  have t1 := ta_E
  have t2 := ta_noUnwrap
  go_enter Tryd.func59, Tryd.ntmps59
  go_wp2_with (go_at_call 81; refine (tell_errno n _ hg).mono ?_; rintro e w' ⟨rfl, hgr⟩)
  refine wp_loop_rounds 1 ?_
  rw [rounds_succ]
  go_wp2
  go_ret2
  exact ⟨rfl, hgr⟩

set_option maxHeartbeats 1000000 in
theorem place_at (n s : Int) (b o : Nat) (w : World) (hg : w.cell? ⟨2, 0, none⟩ = some errType) (ha : w.cell? ⟨b, o, none⟩ = some (.int .i64 n)) (hs : w.cell? ⟨b, o + 1, none⟩ = some (.int .i64 s)) :
    Calls Tryd.prog 59 #[.iface 125 (.pointer (some ⟨b, o, none⟩))] w fun e w' => e = .returned (.tuple #[.int .i64 n, .int .i64 s]) ∧ Grew w w' := by
  have t1 := ta_A
  go_enter Tryd.func59, Tryd.ntmps59
  go_wp2_with (go_at_call 81; refine (tell_at n _ _ hg ha).mono ?_; rintro e w' ⟨rfl, hgr⟩)
  have hs' : w'.cell? ⟨b, o + 1, none⟩ = some (.int .i64 s) := by rw [World.cell?_of_block (w := w) (hgr.same b (cell_lt hs))]; exact hs
  refine wp_loop_rounds 1 ?_
  rw [rounds_succ]
  go_wp2
  go_region
  all_goals (go_wp2; go_ret2; exact ⟨rfl, hgr.size, hgr.os, hgr.tape, hgr.output, hgr.same⟩)

theorem place_spec (G : Glob) (hG : HasErr G) (e : Option (Int × Option Nat)) : PureC Tryd.prog G 59 [dErr e] (.tup [.v (.int .i64 (codeF e)), .v (.int .i64 (placeF e))]) := by
  refine PureC.of_calls (Fun.of Tryd.func59 rfl rfl) fun X w vs hsz hrd hgl => ?_
  have hg := hG.cell hgl
  obtain ⟨v, rfl⟩ : ∃ v, vs = #[v] := Array.size_eq_one_iff.1 hsz
  have hv := hrd 0 v _ rfl rfl
  have two : ∀ (w' : World) (a b : Int), RD w' X (.tuple #[.int .i64 a, .int .i64 b]) (.tup [.v (.int .i64 a), .v (.int .i64 b)]) := fun w' a b => .tup rfl fun j u c hu hc => by
    match j, hu, hc with
    | 0, hu, hc => simp at hu hc; subst hu hc; exact .v _
    | 1, hu, hc => simp at hu hc; subst hu hc; exact .v _
    | j + 2, hu, hc => simp at hu
  match e, hv with
  | none, hv =>
    have := hv.scalar
    subst this
    exact (place_nil w).mono fun e w' ⟨he, hw⟩ => ⟨_, he, hw, two _ _ _⟩
  | some (c, none), hv =>
    obtain ⟨u, rfl, hu⟩ := hv.ifc_inv
    have := hu.scalar
    subst this
    exact (place_errno c w hg).mono fun e w' ⟨he, hw⟩ => ⟨_, he, hw, two _ _ _⟩
  | some (c, some s), hv =>
    obtain ⟨u, rfl, hu⟩ := hv.ifc_inv
    obtain ⟨b, off, f, rfl, _, _, hc, hr⟩ := hu.ip_inv
    have h1 := hc 0 (by simp)
    have h2 := (hr 0 _ rfl).scalar
    rw [h2] at h1
    have h3 := hc 1 (by simp)
    have h4 := (hr 1 _ rfl).scalar
    rw [h4] at h3
    exact (place_at c s b off w hg h1 h3).mono fun e w' ⟨he, hw⟩ => ⟨_, he, hw, two _ _ _⟩
#print axioms place_spec
end Go.Proofs.YtblafkekblaibaaDoor

/-
  What the statements hold answers with: like lists, errors and their places.
-/
namespace Go.Proofs.YtblafkekblaibaaDoor
set_option linter.unusedSimpArgs false
set_option linter.unusedVariables false
open Go.Av

def dFault (e : Option (Int × Option Nat)) : D := .agg [dNum (codeF e), dNum (placeF e)]
def HasFine (G : Glob) : Prop := G 0 = some (.ip [dNum 0, dNum (-1)])

theorem bare0_spec (G : Glob) (c : Int) : PureC Tryd.prog G 53 [dNum c] (.agg [dNum c, dNum (-1)]) := by
  refine PureC.of_body (tyOf_good _) Tryd.func53 rfl rfl (rs := [.cell 2 66]) Tryd.results53 (by simp [Tryd.ntmps53]) fun X => ?_
  simp only [Tryd.ntmps53, List.map]
  refine AW_rg (tyOf_good _) [0, 2] [2] (fun _ _ => trivial) fun K' hK' => ?_
  repeat (refine sxf_next fun K2 hK2 => ?_; simp [dNum]; (repeat (refine ⟨by omega, ?_⟩)); refine hK2 _ ?_; clear hK2 K2)
  refine sxf_nil (hK' _ ?_)
  refine AW.st (by simp [dNum]; rfl) ?_
  clear hK' K'
  refine AW_rg (tyOf_good _) [2] [2] (fun _ _ => trivial) fun K' hK' => ?_
  repeat (refine sxf_next fun K2 hK2 => ?_; simp [dNum]; (repeat (refine ⟨by omega, ?_⟩)); refine hK2 _ ?_; clear hK2 K2)
  refine sxf_nil (hK' _ ?_)
  refine AW.st (by simp [dNum]; rfl) ?_
  clear hK' K'
  refine AW_ret ?_
  simp [D.le, D.le.go, takeMap, dNum]

theorem at_spec (G : Glob) (hG : HasErr G) (e e' : Option (Int × Option Nat)) : PureC Tryd.prog G 32 [dErr e, dFault e'] (.v (.bool (decide (codeF e = codeF e') && decide (placeF e = placeF e')))) := by
  have hp := place_spec G hG e
  refine PureC.of_body (tyOf_good _) Tryd.func32 rfl rfl (rs := [.tmp 4]) Tryd.results32 (by simp [Tryd.ntmps32]) fun X => ?_
  simp only [Tryd.ntmps32, List.map]
  refine AW_rg (tyOf_good _) [0, 3] [3] (fun _ _ => trivial) fun K' hK' => ?_
  repeat (refine sxf_next fun K2 hK2 => ?_; simp [dFault]; (repeat (refine ⟨by omega, ?_⟩)); refine hK2 _ ?_; clear hK2 K2)
  refine sxf_nil (hK' _ ?_)
  refine AW.st (by simp [dFault]; rfl) ?_
  clear hK' K'
  refine AW_rg (tyOf_good _) [3, 5, 6] [3] (fun _ _ => trivial) fun K' hK' => ?_
  repeat (refine sxf_next fun K2 hK2 => ?_; simp; (repeat (refine ⟨by omega, ?_⟩)); refine hK2 _ ?_; clear hK2 K2)
  refine sxf_next fun K2 hK2 => ?_
  simp
  refine callK.data (hp) (by simp; rfl) (by first | exact D.leGo_refl _ | simp [takeMap, List.map_map, Function.comp_def, D.le, D.le.go, D.le_refl, D.leGo_refl]) ?_
  refine hK2 _ ?_
  clear hK2 K2
  simp only [putd, upd_lst]
  repeat (refine sxf_next fun K2 hK2 => ?_; simp; (repeat (refine ⟨by omega, ?_⟩)); refine hK2 _ ?_; clear hK2 K2)
  refine sxf_nil (hK' _ ?_)
  refine AW.st (by simp; rfl) ?_
  clear hK' K'
  by_cases h1 : codeF e = codeF e'
  · refine AW_rg (tyOf_good _) [4] [3] (fun _ _ => trivial) fun K' hK' => ?_
    repeat (refine sxf_next fun K2 hK2 => ?_; simp [dNum, h1]; (repeat (refine ⟨by omega, ?_⟩)); refine hK2 _ ?_; clear hK2 K2)
    refine sxf_nil (hK' _ ?_)
    refine AW.st (by simp [dNum, h1]; rfl) ?_
    clear hK' K'
    refine AW_ret ?_
    simp [D.le, D.le.go, takeMap, h1]
    try exact fun _ => h1
  · refine AW_rg (tyOf_good _) [4] [3] (fun _ _ => trivial) fun K' hK' => ?_
    repeat (refine sxf_next fun K2 hK2 => ?_; simp [dNum, h1]; (repeat (refine ⟨by omega, ?_⟩)); refine hK2 _ ?_; clear hK2 K2)
    refine sxf_nil (hK' _ ?_)
    refine AW.st (by simp [dNum, h1]; rfl) ?_
    clear hK' K'
    refine AW_ret ?_
    simp [D.le, D.le.go, takeMap, h1]
    try exact fun h => absurd h h1
theorem at_same (G : Glob) (hG : HasErr G) (e : Option (Int × Option Nat)) : PureC Tryd.prog G 32 [dErr e, dFault e] (.v (.bool true)) := by
  have := at_spec G hG e e
  simpa using this
/-- An error without a place. -/
def errOf (c : Int) : Option (Int × Option Nat) := if c = 0 then none else some (c, none)
theorem errOf_code (c : Int) : codeF (errOf c) = c := by unfold errOf; split <;> simp_all [codeF]
theorem errOf_place (c : Int) : placeF (errOf c) = -1 := by unfold errOf; split <;> simp [placeF]
theorem bare_spec (G : Glob) (hG : HasErr G) (c : Int) : PureC Tryd.prog G 28 [dErr (errOf c), dNum c] (.v (.bool true)) := by
  have h := at_same G hG (errOf c)
  rw [show dFault (errOf c) = .agg [dNum c, dNum (-1)] by rw [dFault, errOf_code, errOf_place]] at h
  refine PureC.of_body (tyOf_good _) Tryd.func28 rfl rfl (rs := [.tmp 4]) Tryd.results28 (by simp [Tryd.ntmps28]) fun X => ?_
  simp only [Tryd.ntmps28, List.map]
  refine AW_rg (tyOf_good _) [0, 1] [] (fun _ _ => trivial) fun K' hK' => ?_
  repeat (refine sxf_next fun K2 hK2 => ?_; simp; (repeat (refine ⟨by omega, ?_⟩)); refine hK2 _ ?_; clear hK2 K2)
  refine sxf_nil (hK' _ ?_)
  refine AW.st (by simp; rfl) ?_
  clear hK' K'
  refine AW_rg (tyOf_good _) [4] [] (fun _ _ => trivial) fun K' hK' => ?_
  repeat (refine sxf_next fun K2 hK2 => ?_; simp [dNum]; (repeat (refine ⟨by omega, ?_⟩)); refine hK2 _ ?_; clear hK2 K2)
  refine sxf_next fun K2 hK2 => ?_
  simp [dNum]
  refine callK.data (bare0_spec G c) (by simp; rfl) (by first | exact D.leGo_refl _ | simp [takeMap, List.map_map, Function.comp_def, D.le, D.le.go, D.le_refl, D.leGo_refl, dNum]) ?_
  refine hK2 _ ?_
  clear hK2 K2
  simp only [putd, upd_lst]
  repeat (refine sxf_next fun K2 hK2 => ?_; simp [dNum]; (repeat (refine ⟨by omega, ?_⟩)); refine hK2 _ ?_; clear hK2 K2)
  refine sxf_next fun K2 hK2 => ?_
  simp [dNum]
  refine callK.data (h) (by simp; rfl) (by first | exact D.leGo_refl _ | simp [takeMap, List.map_map, Function.comp_def, D.le, D.le.go, D.le_refl, D.leGo_refl, dNum]) ?_
  refine hK2 _ ?_
  clear hK2 K2
  simp only [putd, upd_lst]
  repeat (refine sxf_next fun K2 hK2 => ?_; simp [dNum]; (repeat (refine ⟨by omega, ?_⟩)); refine hK2 _ ?_; clear hK2 K2)
  refine sxf_nil (hK' _ ?_)
  refine AW.st (by simp [dNum]; rfl) ?_
  clear hK' K'
  refine AW_ret ?_
  simp [D.le, D.le.go, takeMap]

#print axioms bare_spec
end Go.Proofs.YtblafkekblaibaaDoor

/-
  Formulas: which may be.
-/
namespace Go.Proofs.YtblafkekblaibaaDoor
set_option linter.unusedSimpArgs false
set_option linter.unusedVariables false
open Go.Av

/-- A formula, as the program's pointers make it; nil: none. -/
inductive Fm where
  | nil
  | mk (kind : Int) (name : List UInt8) (of : List Fm)

def ofK {α : Type} (l : List α) : Option Bool := match l with
  | [] => some false
  | _ => none

mutual
def dF : Fm → D
  | .nil => .v (.pointer none)
  | .mk k s l => .ip [dNum k, dS s, .sl (ofK l) (dFs l)]
def dFs : List Fm → List (List D)
  | [] => []
  | f :: l => [dF f] :: dFs l
end
theorem dFs_map : ∀ l : List Fm, dFs l = l.map fun f => [dF f]
  | [] => rfl
  | f :: l => by rw [dFs, dFs_map l]; rfl
theorem dFs_len (l : List Fm) : (dFs l).length = l.length := by rw [dFs_map, List.length_map]
theorem dFs_get {l : List Fm} {i : Nat} (h : i < l.length) : (dFs l)[i]'(by rw [dFs_len]; exact h) = [dF l[i]] := by simp [dFs_map]

def arityL : List Int := [-1, 0, 0, 1, 2, 2, 1, 2, 2, 1, 1]
def arityF (k : Int) : Int := arityL.getD k.toNat 0
def HasArity (G : Glob) : Prop := G 1 = some (.ip (arityL.map dNum))
theorem arity_drop {k : Int} (h1 : 1 ≤ k) (h2 : k ≤ 10) : ∃ rest, (arityL.map dNum).drop k.toNat = dNum (arityF k) :: rest := by
  have hk : k.toNat < (arityL.map dNum).length := by simp [arityL]; omega
  refine ⟨(arityL.map dNum).drop (k.toNat + 1), ?_⟩
  rw [List.drop_eq_getElem_cons hk]
  congr 1
  have hk' : k.toNat < arityL.length := by simpa using hk
  simp [arityF, List.getD_eq_getElem?_getD, hk']
theorem arity_two {k : Int} (h1 : 1 ≤ k) (h2 : k ≤ 10) : 0 ≤ arityF k ∧ arityF k ≤ 2 := by
  have : k = 1 ∨ k = 2 ∨ k = 3 ∨ k = 4 ∨ k = 5 ∨ k = 6 ∨ k = 7 ∨ k = 8 ∨ k = 9 ∨ k = 10 := by omega
  rcases this with rfl | rfl | rfl | rfl | rfl | rfl | rfl | rfl | rfl | rfl <;> decide

/-- What is wrong with the formula's own kind, name, and how many parts it has. -/
def badF (k : Int) (s : List UInt8) (n : Nat) : Int := if k < 1 ∨ 10 < k ∨ (n : Int) ≠ arityF k ∨ (k ≠ 1 ∧ s ≠ []) then 1 else if k = 1 ∧ nameF s = false then 5 else 0
mutual
/-- How many parts, and what is wrong: at most so deep. -/
def rightF : Nat → Fm → Int × Int
  | _, .nil => (0, 7)
  | 0, .mk _ _ _ => (0, 4)
  | d + 1, .mk k s l => if badF k s l.length ≠ 0 then (0, badF k s l.length) else rightL d l 1
def rightL : Nat → List Fm → Int → Int × Int
  | _, [], n => (n, 0)
  | d, f :: l, n => if (rightF d f).2 ≠ 0 then (0, (rightF d f).2) else rightL d l (n + (rightF d f).1)
end

mutual
def namesOk : Fm → Prop
  | .nil => True
  | .mk _ s l => s.length < 2^60 ∧ namesOkL l
def namesOkL : List Fm → Prop
  | [] => True
  | f :: l => namesOk f ∧ namesOkL l
end
theorem namesOkL_mem : ∀ {l : List Fm}, namesOkL l → ∀ f ∈ l, namesOk f
  | [], _, f, hf => by simp at hf
  | g :: l, h, f, hf => by
    simp only [namesOkL] at h
    rcases List.mem_cons.1 hf with rfl | hf
    · exact h.1
    · exact namesOkL_mem h.2 f hf

/-- There are not too many parts. -/
theorem right_small : ∀ d f, 0 ≤ (rightF d f).1 ∧ (rightF d f).1 + 1 ≤ 2^(d + 1)
  | d, .nil => by
    have : rightF d .nil = (0, 7) := by cases d <;> rfl
    have hpn : 1 ≤ (2 : Nat)^(d + 1) := Nat.one_le_two_pow
    have hpc : ((2^(d + 1) : Nat) : Int) = (2 : Int)^(d + 1) := by simp
    rw [this]
    exact ⟨by decide, by simp only; omega⟩
  | 0, .mk _ _ _ => by simp [rightF]
  | d + 1, .mk k s l => by
    have ih := right_small d
    have hp : (0 : Int) ≤ 2^(d + 1) := Int.pow_nonneg (by decide)
    have hpn : 1 ≤ (2 : Nat)^(d + 1) := Nat.one_le_two_pow
    have hpc : ((2^(d + 1) : Nat) : Int) = (2 : Int)^(d + 1) := by simp
    have hpp : (1 : Int) ≤ 2^(d + 1) := by omega
    have hp2 : (2 : Int)^(d + 1 + 1) = 2^(d + 1) * 2 := Int.pow_succ _ _
    have key : ∀ (l : List Fm) (n : Int), 0 ≤ n → 0 ≤ (rightL d l n).1 ∧ (rightL d l n).1 ≤ n + l.length * (2^(d + 1) - 1) := by
      intro l
      induction l with
      | nil => intro n hn; simp [rightL]; exact hn
      | cons f l ihl =>
        intro n hn
        rw [rightL]
        have h1 := ih f
        have hl0 : (0 : Int) ≤ l.length * (2^(d + 1) - 1) := Int.mul_nonneg (by omega) (by omega)
        split
        · simp only [List.length_cons, Int.natCast_add, Int.cast_ofNat_Int, Int.add_mul]; omega
        · have h2 := ihl (n + (rightF d f).1) (by omega)
          simp only [List.length_cons, Int.natCast_add, Int.cast_ofNat_Int, Int.add_mul]
          omega
    rw [rightF]
    split
    · exact ⟨by simp, by simp only; omega⟩
    · rename_i hb
      have hb : badF k s l.length = 0 := Classical.not_not.1 hb
      unfold badF at hb
      split at hb
      · cases hb
      · rename_i hk
        have hk1 : 1 ≤ k := by omega
        have hk2 : k ≤ 10 := by omega
        have hl : (l.length : Int) = arityF k := by omega
        have ha := arity_two hk1 hk2
        have h1 := key l 1 (by omega)
        refine ⟨h1.1, Int.le_trans (Int.add_le_add_right h1.2 1) ?_⟩
        have : l.length = 0 ∨ l.length = 1 ∨ l.length = 2 := by omega
        rcases this with h | h | h <;> rw [h] <;> simp only [Int.cast_ofNat_Int] <;> omega
theorem right_bound (d : Nat) (hd : d ≤ 20) (f : Fm) : 0 ≤ (rightF d f).1 ∧ (rightF d f).1 ≤ 2097152 := by
  have h := right_small d f
  have h2 : (2 : Nat)^(d + 1) ≤ 2^21 := Nat.pow_le_pow_right (by decide) (by omega)
  have h3 : ((2^(d + 1) : Nat) : Int) = (2 : Int)^(d + 1) := by simp
  omega

set_option maxHeartbeats 4000000 in
theorem right_spec (G : Glob) (hA : HasArity G) : ∀ (d : Nat), d ≤ 20 → ∀ f : Fm, namesOk f → PureC Tryd.prog G 45 [dF f, dNum d] (.tup [dNum (rightF d f).1, dNum (rightF d f).2]) := by
  intro d
  induction d with
  | zero =>
    intro _ f hf
    cases f with
    | nil =>
      refine PureC.of_body (tyOf_good _) Tryd.func45 rfl rfl (rs := [.tmp 4, .tmp 5]) Tryd.results45 (by simp [Tryd.ntmps45]) fun X => ?_
      simp only [Tryd.ntmps45, List.map]
      refine AW_rg (tyOf_good _) [0, 1] [] (fun _ _ => trivial) fun K' hK' => ?_
      repeat (refine sxf_next fun K2 hK2 => ?_; simp [dNum, dF]; (repeat (refine ⟨by omega, ?_⟩)); refine hK2 _ ?_; clear hK2 K2)
      refine sxf_nil (hK' _ ?_)
      refine AW.st (by simp [dNum, dF]; rfl) ?_
      clear hK' K'
      refine AW_then fun K1 hK1 => ?_
      refine AW_block ?_
      refine AW_rg (tyOf_good _) [0, 1, 11] [] (fun _ _ => trivial) fun K' hK' => ?_
      repeat (refine sxf_next fun K2 hK2 => ?_; simp [dNum, dF]; (repeat (refine ⟨by omega, ?_⟩)); refine hK2 _ ?_; clear hK2 K2)
      refine sxf_nil (hK' _ ?_)
      refine AW.st (by simp [dNum, dF]; rfl) ?_
      clear hK' K'
      refine AW_cond true rfl (fun _ => ?_) (fun h => by cases h)
      refine AW_rg (tyOf_good _) [4, 5] [] (fun _ _ => trivial) fun K' hK' => ?_
      repeat (refine sxf_next fun K2 hK2 => ?_; simp [dNum, dF]; (repeat (refine ⟨by omega, ?_⟩)); refine hK2 _ ?_; clear hK2 K2)
      refine sxf_nil (hK' _ ?_)
      refine AW.st (by simp [dNum, dF]; rfl) ?_
      clear hK' K'
      refine AW_ret ?_
      simp [D.le, D.le.go, takeMap, dNum, dF, rightF]
    | mk k s l =>
      refine PureC.of_body (tyOf_good _) Tryd.func45 rfl rfl (rs := [.tmp 4, .tmp 5]) Tryd.results45 (by simp [Tryd.ntmps45]) fun X => ?_
      simp only [Tryd.ntmps45, List.map]
      refine AW_rg (tyOf_good _) [0, 1] [] (fun _ _ => trivial) fun K' hK' => ?_
      repeat (refine sxf_next fun K2 hK2 => ?_; simp [dNum, dF]; (repeat (refine ⟨by omega, ?_⟩)); refine hK2 _ ?_; clear hK2 K2)
      refine sxf_nil (hK' _ ?_)
      refine AW.st (by simp [dNum, dF]; rfl) ?_
      clear hK' K'
      refine AW_then fun K1 hK1 => ?_
      refine AW_block ?_
      refine AW_rg (tyOf_good _) [0, 1, 11] [] (fun _ _ => trivial) fun K' hK' => ?_
      repeat (refine sxf_next fun K2 hK2 => ?_; simp [dNum, dF]; (repeat (refine ⟨by omega, ?_⟩)); refine hK2 _ ?_; clear hK2 K2)
      refine sxf_nil (hK' _ ?_)
      refine AW.st (by simp [dNum, dF]; rfl) ?_
      clear hK' K'
      refine AW_cond false rfl (fun h => by cases h) (fun _ => ?_)
      refine AW_rg (tyOf_good _) [0, 1, 14] [] (fun _ _ => trivial) fun K' hK' => ?_
      repeat (refine sxf_next fun K2 hK2 => ?_; simp [dNum, dF]; (repeat (refine ⟨by omega, ?_⟩)); refine hK2 _ ?_; clear hK2 K2)
      refine sxf_nil (hK' _ ?_)
      refine AW.st (by simp [dNum, dF]; rfl) ?_
      clear hK' K'
      refine AW_cond true rfl (fun _ => ?_) (fun h => by cases h)
      refine AW_rg (tyOf_good _) [4, 5] [] (fun _ _ => trivial) fun K' hK' => ?_
      repeat (refine sxf_next fun K2 hK2 => ?_; simp [dNum, dF]; (repeat (refine ⟨by omega, ?_⟩)); refine hK2 _ ?_; clear hK2 K2)
      refine sxf_nil (hK' _ ?_)
      refine AW.st (by simp [dNum, dF]; rfl) ?_
      clear hK' K'
      refine AW_ret ?_
      simp [D.le, D.le.go, takeMap, dNum, dF, rightF]
  | succ d ih =>
    intro hd f hf
    have hdne : ¬ (d : Int) + 1 = 0 := by omega
    cases f with
    | nil =>
      refine PureC.of_body (tyOf_good _) Tryd.func45 rfl rfl (rs := [.tmp 4, .tmp 5]) Tryd.results45 (by simp [Tryd.ntmps45]) fun X => ?_
      simp only [Tryd.ntmps45, List.map]
      refine AW_rg (tyOf_good _) [0, 1] [] (fun _ _ => trivial) fun K' hK' => ?_
      repeat (refine sxf_next fun K2 hK2 => ?_; simp [dNum, dF]; (repeat (refine ⟨by omega, ?_⟩)); refine hK2 _ ?_; clear hK2 K2)
      refine sxf_nil (hK' _ ?_)
      refine AW.st (by simp [dNum, dF]; rfl) ?_
      clear hK' K'
      refine AW_then fun K1 hK1 => ?_
      refine AW_block ?_
      refine AW_rg (tyOf_good _) [0, 1, 11] [] (fun _ _ => trivial) fun K' hK' => ?_
      repeat (refine sxf_next fun K2 hK2 => ?_; simp [dNum, dF]; (repeat (refine ⟨by omega, ?_⟩)); refine hK2 _ ?_; clear hK2 K2)
      refine sxf_nil (hK' _ ?_)
      refine AW.st (by simp [dNum, dF]; rfl) ?_
      clear hK' K'
      refine AW_cond true rfl (fun _ => ?_) (fun h => by cases h)
      refine AW_rg (tyOf_good _) [4, 5] [] (fun _ _ => trivial) fun K' hK' => ?_
      repeat (refine sxf_next fun K2 hK2 => ?_; simp [dNum, dF]; (repeat (refine ⟨by omega, ?_⟩)); refine hK2 _ ?_; clear hK2 K2)
      refine sxf_nil (hK' _ ?_)
      refine AW.st (by simp [dNum, dF]; rfl) ?_
      clear hK' K'
      refine AW_ret ?_
      simp [D.le, D.le.go, takeMap, dNum, dF, rightF]
    | mk k s l =>
      have hlen := dFs_len l
      have hs40 : s.length < 2^60 := hf.1
      have hname := name_spec G s hs40
      unfold HasArity at hA
      refine PureC.of_body (tyOf_good _) Tryd.func45 rfl rfl (rs := [.tmp 4, .tmp 5]) Tryd.results45 (by simp [Tryd.ntmps45]) fun X => ?_
      simp only [Tryd.ntmps45, List.map]
      refine AW_rg (tyOf_good _) [0, 1] [] (fun _ _ => trivial) fun K' hK' => ?_
      repeat (refine sxf_next fun K2 hK2 => ?_; simp [dNum, dF, dFs_map]; (repeat (refine ⟨by omega, ?_⟩)); refine hK2 _ ?_; clear hK2 K2)
      refine sxf_nil (hK' _ ?_)
      refine AW.st (by simp [dNum, dF, dFs_map]; rfl) ?_
      clear hK' K'
      refine AW_then fun K1 hK1 => ?_
      refine (fun hcont => ?_) (fun (hb : badF k s l.length = 0) (σ : St) himp => hK1 σ (AW.imp (τ := ⟨lst [(0, .d (dF (.mk k s l))), (1, int (d + 1))], hlst []⟩) himp ?_))
      · refine AW_block ?_
        refine AW_rg (tyOf_good _) [0, 1, 11] [] (fun _ _ => trivial) fun K' hK' => ?_
        repeat (refine sxf_next fun K2 hK2 => ?_; simp [dNum, dF, dFs_map]; (repeat (refine ⟨by omega, ?_⟩)); refine hK2 _ ?_; clear hK2 K2)
        refine sxf_nil (hK' _ ?_)
        refine AW.st (by simp [dNum, dF, dFs_map]; rfl) ?_
        clear hK' K'
        refine AW_cond false rfl (fun h => by cases h) (fun _ => ?_)
        refine AW_rg (tyOf_good _) [0, 1, 14] [] (fun _ _ => trivial) fun K' hK' => ?_
        repeat (refine sxf_next fun K2 hK2 => ?_; simp [dNum, dF, dFs_map, hdne]; (repeat (refine ⟨by omega, ?_⟩)); refine hK2 _ ?_; clear hK2 K2)
        refine sxf_nil (hK' _ ?_)
        refine AW.st (by simp [dNum, dF, dFs_map, hdne]; rfl) ?_
        clear hK' K'
        refine AW_cond false rfl (fun h => by cases h) (fun _ => ?_)
        by_cases hk1 : k < 1
        · have hb : badF k s l.length = 1 := by unfold badF; rw [if_pos (.inl hk1)]
          refine AW_rd (tyOf_good _) (by kernel_rfl) [0, 1, 17] [] (fun _ _ => trivial) (by kernel_rfl) fun K' hK' => ?_
          repeat (refine sxd_next fun K2 hK2 => ?_; simp [dNum, dF, dFs_map, hk1]; (repeat (refine ⟨by omega, ?_⟩)); refine hK2 _ ?_; clear hK2 K2)
          refine sxd_nil (hK' _ ?_)
          refine AW.st (by simp [dNum, dF, dFs_map, hk1]; rfl) ?_
          clear hK' K'
          refine AW_cond true rfl (fun _ => ?_) (fun h => by cases h)
          refine AW_rg (tyOf_good _) [4, 5] [] (fun _ _ => trivial) fun K' hK' => ?_
          repeat (refine sxf_next fun K2 hK2 => ?_; simp [dNum, dF, dFs_map]; (repeat (refine ⟨by omega, ?_⟩)); refine hK2 _ ?_; clear hK2 K2)
          refine sxf_nil (hK' _ ?_)
          refine AW.st (by simp [dNum, dF, dFs_map]; rfl) ?_
          clear hK' K'
          refine AW_ret ?_
          simp [D.le, D.le.go, takeMap, dNum, dF, dFs_map, rightF, hb]
        by_cases hk2 : 10 < k
        · have hb : badF k s l.length = 1 := by unfold badF; rw [if_pos (.inr (.inl hk2))]
          refine AW_rd (tyOf_good _) (by kernel_rfl) [0, 1, 17] [] (fun _ _ => trivial) (by kernel_rfl) fun K' hK' => ?_
          repeat (refine sxd_next fun K2 hK2 => ?_; simp [dNum, dF, dFs_map, hk1, hk2]; (repeat (refine ⟨by omega, ?_⟩)); refine hK2 _ ?_; clear hK2 K2)
          refine sxd_nil (hK' _ ?_)
          refine AW.st (by simp [dNum, dF, dFs_map, hk1, hk2]; rfl) ?_
          clear hK' K'
          refine AW_cond true rfl (fun _ => ?_) (fun h => by cases h)
          refine AW_rg (tyOf_good _) [4, 5] [] (fun _ _ => trivial) fun K' hK' => ?_
          repeat (refine sxf_next fun K2 hK2 => ?_; simp [dNum, dF, dFs_map]; (repeat (refine ⟨by omega, ?_⟩)); refine hK2 _ ?_; clear hK2 K2)
          refine sxf_nil (hK' _ ?_)
          refine AW.st (by simp [dNum, dF, dFs_map]; rfl) ?_
          clear hK' K'
          refine AW_ret ?_
          simp [D.le, D.le.go, takeMap, dNum, dF, dFs_map, rightF, hb]
        have hk0 : 0 ≤ k := by omega
        have hk11 : k < 11 := by omega
        obtain ⟨rest, hdrop⟩ := arity_drop (show 1 ≤ k by omega) (show k ≤ 10 by omega)
        have h2 := arity_two (show 1 ≤ k by omega) (show k ≤ 10 by omega)
        generalize har : arityL.map dNum = ar at hdrop hA
        by_cases hk3 : (l.length : Int) = arityF k
        · by_cases hk4 : k = 1
          · have hb0 : badF k s l.length = if nameF s = false then 5 else 0 := by
              unfold badF
              rw [if_neg (by rintro (h | h | h | h) <;> first | omega | exact h hk3 | exact h.1 hk4)]
              by_cases hn : nameF s = false
              · rw [if_pos ⟨hk4, hn⟩, if_pos hn]
              · rw [if_neg (fun h => hn h.2), if_neg hn]
            subst hk4
            have hdrop : List.drop 1 ar = _ := hdrop
            refine AW_rd (tyOf_good _) (by kernel_rfl) [0, 1, 17] [] (fun _ _ => trivial) (by kernel_rfl) fun K' hK' => ?_
            repeat (refine sxd_next fun K2 hK2 => ?_; simp [dNum, dF, dFs_map, hk3, hA, hdrop]; (repeat (refine ⟨by omega, ?_⟩)); refine hK2 _ ?_; clear hK2 K2)
            refine sxd_nil (hK' _ ?_)
            refine AW.st (by simp [dNum, dF, dFs_map, hk3, hA, hdrop]; rfl) ?_
            clear hK' K'
            refine AW_cond false rfl (fun h => by cases h) (fun _ => ?_)
            cases hn : nameF s with
            | false =>
              rw [hn, if_pos rfl] at hb0
              rw [hn] at hname
              refine AW_rg (tyOf_good _) [0, 1, 58] [] (fun _ _ => trivial) fun K' hK' => ?_
              repeat (refine sxf_next fun K2 hK2 => ?_; simp [dNum, dF, dFs_map]; (repeat (refine ⟨by omega, ?_⟩)); refine hK2 _ ?_; clear hK2 K2)
              refine sxf_next fun K2 hK2 => ?_
              simp [dNum, dF, dFs_map]
              refine callK.data (hname) (by simp; rfl) (by first | exact D.leGo_refl _ | simp [takeMap, List.map_map, Function.comp_def, D.le, D.le.go, D.le_refl, D.leGo_refl, dNum, dF, dFs_map]) ?_
              refine hK2 _ ?_
              clear hK2 K2
              simp only [putd, upd_lst]
              repeat (refine sxf_next fun K2 hK2 => ?_; simp [dNum, dF, dFs_map]; (repeat (refine ⟨by omega, ?_⟩)); refine hK2 _ ?_; clear hK2 K2)
              refine sxf_nil (hK' _ ?_)
              refine AW.st (by simp [dNum, dF, dFs_map]; rfl) ?_
              clear hK' K'
              refine AW_cond true rfl (fun _ => ?_) (fun h => by cases h)
              refine AW_rg (tyOf_good _) [4, 5] [] (fun _ _ => trivial) fun K' hK' => ?_
              repeat (refine sxf_next fun K2 hK2 => ?_; simp [dNum, dF, dFs_map]; (repeat (refine ⟨by omega, ?_⟩)); refine hK2 _ ?_; clear hK2 K2)
              refine sxf_nil (hK' _ ?_)
              refine AW.st (by simp [dNum, dF, dFs_map]; rfl) ?_
              clear hK' K'
              refine AW_ret ?_
              simp [D.le, D.le.go, takeMap, dNum, dF, dFs_map, rightF, hb0]
            | true =>
              rw [hn, if_neg (by decide)] at hb0
              rw [hn] at hname
              refine AW_rg (tyOf_good _) [0, 1, 58] [] (fun _ _ => trivial) fun K' hK' => ?_
              repeat (refine sxf_next fun K2 hK2 => ?_; simp [dNum, dF, dFs_map]; (repeat (refine ⟨by omega, ?_⟩)); refine hK2 _ ?_; clear hK2 K2)
              refine sxf_next fun K2 hK2 => ?_
              simp [dNum, dF, dFs_map]
              refine callK.data (hname) (by simp; rfl) (by first | exact D.leGo_refl _ | simp [takeMap, List.map_map, Function.comp_def, D.le, D.le.go, D.le_refl, D.leGo_refl, dNum, dF, dFs_map]) ?_
              refine hK2 _ ?_
              clear hK2 K2
              simp only [putd, upd_lst]
              repeat (refine sxf_next fun K2 hK2 => ?_; simp [dNum, dF, dFs_map]; (repeat (refine ⟨by omega, ?_⟩)); refine hK2 _ ?_; clear hK2 K2)
              refine sxf_nil (hK' _ ?_)
              refine AW.st (by simp [dNum, dF, dFs_map]; rfl) ?_
              clear hK' K'
              refine AW_cond false rfl (fun h => by cases h) (fun _ => ?_)
              refine AW_skip (hcont hb0 _ ?_)
              refine Imp.to' (fun _ _ => trivial) (by simp [dNum, dF, dFs_map]) (by simp [dNum, dF, dFs_map])
          · by_cases hs0 : s = []
            · have hb0 : badF k s l.length = 0 := by
                unfold badF
                rw [if_neg (by rintro (h | h | h | h) <;> first | omega | exact h hk3 | exact h.2 hs0), if_neg (fun h => hk4 h.1)]
              subst hs0
              refine AW_rd (tyOf_good _) (by kernel_rfl) [0, 1, 17] [] (fun _ _ => trivial) (by kernel_rfl) fun K' hK' => ?_
              repeat (refine sxd_next fun K2 hK2 => ?_; simp [dNum, dF, dFs_map, hk1, hk2, hk3, hk4, hk0, hk11, hA, hdrop, dS, bs_nil, binS]; (repeat (refine ⟨by omega, ?_⟩)); refine hK2 _ ?_; clear hK2 K2)
              refine sxd_nil (hK' _ ?_)
              refine AW.st (by simp [dNum, dF, dFs_map, hk1, hk2, hk3, hk4, hk0, hk11, hA, hdrop, dS, bs_nil, binS]; rfl) ?_
              clear hK' K'
              refine AW_cond false rfl (fun h => by cases h) (fun _ => ?_)
              refine AW_rg (tyOf_good _) [0, 1, 58] [] (fun _ _ => trivial) fun K' hK' => ?_
              repeat (refine sxf_next fun K2 hK2 => ?_; simp [dNum, dF, dFs_map, hk4]; (repeat (refine ⟨by omega, ?_⟩)); refine hK2 _ ?_; clear hK2 K2)
              refine sxf_nil (hK' _ ?_)
              refine AW.st (by simp [dNum, dF, dFs_map, hk4]; rfl) ?_
              clear hK' K'
              refine AW_cond false rfl (fun h => by cases h) (fun _ => ?_)
              refine AW_skip (hcont hb0 _ ?_)
              refine Imp.to' (fun _ _ => trivial) (by simp [dNum, dF, dFs_map, dS]) (by simp [dNum, dF, dFs_map, dS])
            · have hb : badF k s l.length = 1 := by unfold badF; rw [if_pos (.inr (.inr (.inr ⟨hk4, hs0⟩)))]
              have hs1 : s.isEmpty = false := by rw [List.isEmpty_eq_false_iff]; exact hs0
              refine AW_rd (tyOf_good _) (by kernel_rfl) [0, 1, 17] [] (fun _ _ => trivial) (by kernel_rfl) fun K' hK' => ?_
              repeat (refine sxd_next fun K2 hK2 => ?_; simp [dNum, dF, dFs_map, hk1, hk2, hk3, hk4, hk0, hk11, hA, hdrop, dS, bs_nil, bs_list, binS, hs0, hs1]; (repeat (refine ⟨by omega, ?_⟩)); refine hK2 _ ?_; clear hK2 K2)
              refine sxd_nil (hK' _ ?_)
              refine AW.st (by simp [dNum, dF, dFs_map, hk1, hk2, hk3, hk4, hk0, hk11, hA, hdrop, dS, bs_nil, bs_list, binS, hs0, hs1]; rfl) ?_
              clear hK' K'
              refine AW_cond true rfl (fun _ => ?_) (fun h => by cases h)
              refine AW_rg (tyOf_good _) [4, 5] [] (fun _ _ => trivial) fun K' hK' => ?_
              repeat (refine sxf_next fun K2 hK2 => ?_; simp [dNum, dF, dFs_map]; (repeat (refine ⟨by omega, ?_⟩)); refine hK2 _ ?_; clear hK2 K2)
              refine sxf_nil (hK' _ ?_)
              refine AW.st (by simp [dNum, dF, dFs_map]; rfl) ?_
              clear hK' K'
              refine AW_ret ?_
              simp [D.le, D.le.go, takeMap, dNum, dF, dFs_map, rightF, hb]
        · have hb : badF k s l.length = 1 := by unfold badF; rw [if_pos (.inr (.inr (.inl hk3)))]
          refine AW_rd (tyOf_good _) (by kernel_rfl) [0, 1, 17] [] (fun _ _ => trivial) (by kernel_rfl) fun K' hK' => ?_
          repeat (refine sxd_next fun K2 hK2 => ?_; simp [dNum, dF, dFs_map, hk1, hk2, hk3, hk0, hk11, hA, hdrop]; (repeat (refine ⟨by omega, ?_⟩)); refine hK2 _ ?_; clear hK2 K2)
          refine sxd_nil (hK' _ ?_)
          refine AW.st (by simp [dNum, dF, dFs_map, hk1, hk2, hk3, hk0, hk11, hA, hdrop]; rfl) ?_
          clear hK' K'
          refine AW_cond true rfl (fun _ => ?_) (fun h => by cases h)
          refine AW_rg (tyOf_good _) [4, 5] [] (fun _ _ => trivial) fun K' hK' => ?_
          repeat (refine sxf_next fun K2 hK2 => ?_; simp [dNum, dF, dFs_map]; (repeat (refine ⟨by omega, ?_⟩)); refine hK2 _ ?_; clear hK2 K2)
          refine sxf_nil (hK' _ ?_)
          refine AW.st (by simp [dNum, dF, dFs_map]; rfl) ?_
          clear hK' K'
          refine AW_ret ?_
          simp [D.le, D.le.go, takeMap, dNum, dF, dFs_map, rightF, hb]
      · have hbd : rightF (d + 1) (.mk k s l) = rightL d l 1 := by rw [rightF, if_neg (by rw [hb]; decide)]
        refine AW_rg (tyOf_good _) [0, 1, 6] [] (fun _ _ => trivial) fun K' hK' => ?_
        repeat (refine sxf_next fun K2 hK2 => ?_; simp [dNum, dF, dFs_map]; (repeat (refine ⟨by omega, ?_⟩)); refine hK2 _ ?_; clear hK2 K2)
        refine sxf_nil (hK' _ ?_)
        refine AW.st (by simp [dNum, dF, dFs_map]; rfl) ?_
        clear hK' K'
        refine AW_then fun K2 hK2 => ?_
        refine AW_rg (tyOf_good _) [1, 6, 75, 76, 77] [] (fun _ _ => trivial) fun K' hK' => ?_
        repeat (refine sxf_next fun K2 hK2 => ?_; simp [dNum, dF, dFs_map]; (repeat (refine ⟨by omega, ?_⟩)); refine hK2 _ ?_; clear hK2 K2)
        refine sxf_nil (hK' _ ?_)
        refine AW.st (by simp [dNum, dF, dFs_map]; rfl) ?_
        clear hK' K'
        refine AW_for (S := Nat × Int) (fun s => s.1 ≤ l.length ∧ rightL d (l.drop s.1) s.2 = rightL d l 1 ∧ 0 ≤ s.2 ∧ s.2 ≤ 1 + s.1 * 2097152) (fun s => ⟨lst [(1, int (d + 1)), (6, int s.2), (75, .d (.sl (ofK l) (dFs l))), (76, int l.length), (77, int s.1)], hlst []⟩) (fun s => l.length - s.1) (0, 1) ?_ (by simp) ?_
        · refine Imp.to' (fun _ _ => trivial) (by simp [dNum, dF, dFs_map]) (by simp [dNum, dF, dFs_map])
        · rintro ⟨i, n⟩ ⟨hi, hr, hn0, hn1⟩
          dsimp only at hi hr hn0 hn1 ⊢
          have hl2 : l.length ≤ 2 := by
            unfold badF at hb
            split at hb
            · cases hb
            · rename_i hk
              have := arity_two (show 1 ≤ k by omega) (show k ≤ 10 by omega)
              omega
          refine AW_rg (tyOf_good _) [1, 6, 75, 76, 77, 78] [] (fun _ _ => trivial) fun K' hK' => ?_
          repeat (refine sxf_next fun K2 hK2 => ?_; simp [dNum, dF, dFs_map]; (repeat (refine ⟨by omega, ?_⟩)); refine hK2 _ ?_; clear hK2 K2)
          refine sxf_nil (hK' _ ?_)
          refine AW.st (by simp [dNum, dF, dFs_map]; rfl) ?_
          clear hK' K'
          refine AW_then fun K3 hK3 => ?_
          refine AW_cond' (b := i < l.length) (by simp [D.le, D.le.go, takeMap, dNum, dF, dFs_map]) (fun hc => ?_) (fun hc => ?_)
          · have hil : i < l.length := hc
            have hb1 := right_bound d (by omega) l[i]
            have hstep : rightL d (l.drop i) n = if (rightF d l[i]).2 ≠ 0 then (0, (rightF d l[i]).2) else rightL d (l.drop (i + 1)) (n + (rightF d l[i]).1) := by
              rw [List.drop_eq_getElem_cons hil, rightL]
            have hcall := ih (by omega) l[i] (namesOkL_mem hf.2 _ (List.getElem_mem hil))
            rw [hstep] at hr
            generalize rightF d l[i] = r at hb1 hr hcall
            refine AW_skip (hK3 _ ?_)
            refine AW_then fun K4 hK4 => ?_
            refine AW_block ?_
            refine AW_rg (tyOf_good _) [1, 6, 8, 75, 76, 77] [] (fun _ _ => trivial) fun K' hK' => ?_
            repeat (refine sxf_next fun K2 hK2 => ?_; simp [dNum, dF, dFs_map, hil]; (repeat (refine ⟨by omega, ?_⟩)); refine hK2 _ ?_; clear hK2 K2)
            refine sxf_nil (hK' _ ?_)
            refine AW.st (by simp [dNum, dF, dFs_map, hil]; rfl) ?_
            clear hK' K'
            refine AW_rg (tyOf_good _) [1, 6, 9, 10, 75, 76, 77] [] (fun _ _ => trivial) fun K' hK' => ?_
            repeat (refine sxf_next fun K2 hK2 => ?_; simp [dNum, dF, dFs_map]; (repeat (refine ⟨by omega, ?_⟩)); refine hK2 _ ?_; clear hK2 K2)
            refine sxf_next fun K2 hK2 => ?_
            simp [dNum, dF, dFs_map]
            refine callK.data (hcall) (by simp; rfl) (by first | exact D.leGo_refl _ | simp [takeMap, List.map_map, Function.comp_def, D.le, D.le.go, D.le_refl, D.leGo_refl, dNum, dF, dFs_map]) ?_
            refine hK2 _ ?_
            clear hK2 K2
            simp only [putd, upd_lst]
            repeat (refine sxf_next fun K2 hK2 => ?_; simp [dNum, dF, dFs_map]; (repeat (refine ⟨by omega, ?_⟩)); refine hK2 _ ?_; clear hK2 K2)
            refine sxf_nil (hK' _ ?_)
            refine AW.st (by simp [dNum, dF, dFs_map]; rfl) ?_
            clear hK' K'
            refine AW_then fun K5 hK5 => ?_
            by_cases he : r.2 = 0
            · rw [if_neg (by simp [he])] at hr
              refine AW_rg (tyOf_good _) [1, 6, 9, 10, 75, 76, 77, 89] [] (fun _ _ => trivial) fun K' hK' => ?_
              repeat (refine sxf_next fun K2 hK2 => ?_; simp [dNum, dF, dFs_map, he]; (repeat (refine ⟨by omega, ?_⟩)); refine hK2 _ ?_; clear hK2 K2)
              refine sxf_nil (hK' _ ?_)
              refine AW.st (by simp [dNum, dF, dFs_map, he]; rfl) ?_
              clear hK' K'
              refine AW_cond false rfl (fun h => by cases h) (fun _ => ?_)
              refine AW_skip (hK5 _ ?_)
              refine AW_re (tyOf_good _) fun K' hK' => ?_
              repeat (refine sxf_next fun K2 hK2 => ?_; simp [dNum, dF, dFs_map]; (repeat (refine ⟨by omega, ?_⟩)); refine hK2 _ ?_; clear hK2 K2)
              refine sxf_nil (hK' _ ?_)
              clear hK' K'
              refine hK4 _ (AW.norm [1, 6, 75, 76, 77] [] (fun _ _ => trivial) (AW.st (by simp [dNum, dF, dFs_map]; rfl) ?_))
              refine AW_re (tyOf_good _) fun K' hK' => ?_
              repeat (refine sxf_next fun K2 hK2 => ?_; simp [dNum, dF, dFs_map]; (repeat (refine ⟨by omega, ?_⟩)); refine hK2 _ ?_; clear hK2 K2)
              refine sxf_nil (hK' _ ?_)
              clear hK' K'
              try simp only [thn, inb]
              refine Again.mk (i + 1, n + r.1) ⟨by omega, hr, by omega, by simp only [Int.natCast_add, Int.cast_ofNat_Int]; omega⟩ (by dsimp only; omega) ?_
              refine Imp.to' (fun _ _ => trivial) (by simp [dNum, dF, dFs_map]) (by simp [dNum, dF, dFs_map])
            · rw [if_pos he] at hr
              refine AW_rg (tyOf_good _) [1, 6, 9, 10, 75, 76, 77, 89] [] (fun _ _ => trivial) fun K' hK' => ?_
              repeat (refine sxf_next fun K2 hK2 => ?_; simp [dNum, dF, dFs_map, he]; (repeat (refine ⟨by omega, ?_⟩)); refine hK2 _ ?_; clear hK2 K2)
              refine sxf_nil (hK' _ ?_)
              refine AW.st (by simp [dNum, dF, dFs_map, he]; rfl) ?_
              clear hK' K'
              refine AW_cond true rfl (fun _ => ?_) (fun h => by cases h)
              refine AW_rg (tyOf_good _) [4, 5] [] (fun _ _ => trivial) fun K' hK' => ?_
              repeat (refine sxf_next fun K2 hK2 => ?_; simp [dNum, dF, dFs_map]; (repeat (refine ⟨by omega, ?_⟩)); refine hK2 _ ?_; clear hK2 K2)
              refine sxf_nil (hK' _ ?_)
              refine AW.st (by simp [dNum, dF, dFs_map]; rfl) ?_
              clear hK' K'
              rw [hbd, ← hr]
              refine AW_ret ?_
              simp [D.le, D.le.go, takeMap, dNum, dF, dFs_map]
          · obtain rfl : i = l.length := by omega
            rw [List.drop_length, rightL] at hr
            refine AW_exit (hK2 _ ?_)
            refine AW_rg (tyOf_good _) [4, 5] [] (fun _ _ => trivial) fun K' hK' => ?_
            repeat (refine sxf_next fun K2 hK2 => ?_; simp [dNum, dF, dFs_map]; (repeat (refine ⟨by omega, ?_⟩)); refine hK2 _ ?_; clear hK2 K2)
            refine sxf_nil (hK' _ ?_)
            refine AW.st (by simp [dNum, dF, dFs_map]; rfl) ?_
            clear hK' K'
            rw [hbd, ← hr]
            refine AW_ret ?_
            simp [D.le, D.le.go, takeMap, dNum, dF, dFs_map]

/-- What Right tells. -/
def rightE (f : Fm) : Int := if (rightF 20 f).2 ≠ 0 then (rightF 20 f).2 else if 100 < (rightF 20 f).1 then 4 else 0
theorem Right_spec (G : Glob) (hA : HasArity G) (f : Fm) (hf : namesOk f) : PureC Tryd.prog G 18 [dF f] (dErr (errOf (rightE f))) := by
  have h := right_spec G hA 20 (by decide) f hf
  unfold rightE errOf
  generalize rightF 20 f = r at h
  refine PureC.of_body (tyOf_good _) Tryd.func18 rfl rfl (rs := [.tmp 2]) Tryd.results18 (by simp [Tryd.ntmps18]) fun X => ?_
  simp only [Tryd.ntmps18, List.map]
  refine AW_rg (tyOf_good _) [0] [] (fun _ _ => trivial) fun K' hK' => ?_
  repeat (refine sxf_next fun K2 hK2 => ?_; simp [dNum]; (repeat (refine ⟨by omega, ?_⟩)); refine hK2 _ ?_; clear hK2 K2)
  refine sxf_nil (hK' _ ?_)
  refine AW.st (by simp [dNum]; rfl) ?_
  clear hK' K'
  refine AW_rg (tyOf_good _) [3, 4] [] (fun _ _ => trivial) fun K' hK' => ?_
  repeat (refine sxf_next fun K2 hK2 => ?_; simp [dNum]; (repeat (refine ⟨by omega, ?_⟩)); refine hK2 _ ?_; clear hK2 K2)
  refine sxf_next fun K2 hK2 => ?_
  simp [dNum]
  refine callK.data (h) (by simp; rfl) (by first | exact D.leGo_refl _ | simp [takeMap, List.map_map, Function.comp_def, D.le, D.le.go, D.le_refl, D.leGo_refl, dNum]) ?_
  refine hK2 _ ?_
  clear hK2 K2
  simp only [putd, upd_lst]
  repeat (refine sxf_next fun K2 hK2 => ?_; simp [dNum]; (repeat (refine ⟨by omega, ?_⟩)); refine hK2 _ ?_; clear hK2 K2)
  refine sxf_nil (hK' _ ?_)
  refine AW.st (by simp [dNum]; rfl) ?_
  clear hK' K'
  refine AW_then fun K1 hK1 => ?_
  refine AW_block ?_
  by_cases he : r.2 = 0
  · refine AW_rg (tyOf_good _) [3, 4, 10] [] (fun _ _ => trivial) fun K' hK' => ?_
    repeat (refine sxf_next fun K2 hK2 => ?_; simp [dNum, he]; (repeat (refine ⟨by omega, ?_⟩)); refine hK2 _ ?_; clear hK2 K2)
    refine sxf_nil (hK' _ ?_)
    refine AW.st (by simp [dNum, he]; rfl) ?_
    clear hK' K'
    refine AW_cond false rfl (fun h => by cases h) (fun _ => ?_)
    by_cases hn : 100 < r.1
    · refine AW_rg (tyOf_good _) [15] [] (fun _ _ => trivial) fun K' hK' => ?_
      repeat (refine sxf_next fun K2 hK2 => ?_; simp [dNum, hn]; (repeat (refine ⟨by omega, ?_⟩)); refine hK2 _ ?_; clear hK2 K2)
      refine sxf_nil (hK' _ ?_)
      refine AW.st (by simp [dNum, hn]; rfl) ?_
      clear hK' K'
      refine AW_cond true rfl (fun _ => ?_) (fun h => by cases h)
      refine AW_rg (tyOf_good _) [2] [] (fun _ _ => trivial) fun K' hK' => ?_
      repeat (refine sxf_next fun K2 hK2 => ?_; simp [dNum]; (repeat (refine ⟨by omega, ?_⟩)); refine hK2 _ ?_; clear hK2 K2)
      refine sxf_nil (hK' _ ?_)
      refine AW.st (by simp [dNum]; rfl) ?_
      clear hK' K'
      refine AW_ret ?_
      simp [D.le, D.le.go, takeMap, dNum, he, hn, dErr]
    · refine AW_rg (tyOf_good _) [15] [] (fun _ _ => trivial) fun K' hK' => ?_
      repeat (refine sxf_next fun K2 hK2 => ?_; simp [dNum, hn]; (repeat (refine ⟨by omega, ?_⟩)); refine hK2 _ ?_; clear hK2 K2)
      refine sxf_nil (hK' _ ?_)
      refine AW.st (by simp [dNum, hn]; rfl) ?_
      clear hK' K'
      refine AW_cond false rfl (fun h => by cases h) (fun _ => ?_)
      refine AW_skip (hK1 _ ?_)
      refine AW_rg (tyOf_good _) [2] [] (fun _ _ => trivial) fun K' hK' => ?_
      repeat (refine sxf_next fun K2 hK2 => ?_; simp [dNum]; (repeat (refine ⟨by omega, ?_⟩)); refine hK2 _ ?_; clear hK2 K2)
      refine sxf_nil (hK' _ ?_)
      refine AW.st (by simp [dNum]; rfl) ?_
      clear hK' K'
      refine AW_ret ?_
      simp [D.le, D.le.go, takeMap, dNum, he, hn, dErr]
  · refine AW_rg (tyOf_good _) [3, 4, 10] [] (fun _ _ => trivial) fun K' hK' => ?_
    repeat (refine sxf_next fun K2 hK2 => ?_; simp [dNum, he]; (repeat (refine ⟨by omega, ?_⟩)); refine hK2 _ ?_; clear hK2 K2)
    refine sxf_nil (hK' _ ?_)
    refine AW.st (by simp [dNum, he]; rfl) ?_
    clear hK' K'
    refine AW_cond true rfl (fun _ => ?_) (fun h => by cases h)
    refine AW_rg (tyOf_good _) [2] [] (fun _ _ => trivial) fun K' hK' => ?_
    repeat (refine sxf_next fun K2 hK2 => ?_; simp [dNum]; (repeat (refine ⟨by omega, ?_⟩)); refine hK2 _ ?_; clear hK2 K2)
    refine sxf_nil (hK' _ ?_)
    refine AW.st (by simp [dNum]; rfl) ?_
    clear hK' K'
    refine AW_ret ?_
    simp [D.le, D.le.go, takeMap, dNum, he, dErr]
#print axioms Right_spec
#print axioms right_spec
end Go.Proofs.YtblafkekblaibaaDoor

/-
  The rounds of blocks.
-/
namespace Go.Proofs.YtblafkekblaibaaDoor
set_option linter.unusedSimpArgs false
set_option linter.unusedVariables false
open Go.Av

def Tab.n (t : Tab) : Nat := t.next.length
/-- What part of a state's sign is there after i inputs. -/
def sigN (t : Tab) (now : List Int) (s i : Nat) : List Int := now.getD s 0 :: (List.range i).flatMap fun i => [(t.tells.getD s []).getD i 0, now.getD ((t.next.getD s []).getD i 0).toNat 0]
def sig (t : Tab) (now : List Int) (s : Nat) : List Int := sigN t now s (t.next.getD s []).length
def nextF (t : Tab) (now : List Int) : List Int := numberF ((List.range t.n).map (sig t now))
def iter (t : Tab) : Nat → List Int
  | 0 => List.replicate t.n 0
  | k + 1 => nextF t (iter t k)

theorem numberF_len (L : List (List Int)) : (numberF L).length = L.length := (numSt_len (Nat.le_refl _)).2
theorem iter_len (t : Tab) : ∀ k, (iter t k).length = t.n
  | 0 => by simp [iter]
  | k + 1 => by simp [iter, nextF, numberF_len]
theorem sigN_succ (t : Tab) (now : List Int) (s i : Nat) : sigN t now s (i + 1) = sigN t now s i ++ [(t.tells.getD s []).getD i 0, now.getD ((t.next.getD s []).getD i 0).toNat 0] := by
  simp [sigN, List.range_succ]
theorem sigN_len (t : Tab) (now : List Int) (s i : Nat) : (sigN t now s i).length = 1 + 2 * i := by
  induction i with
  | zero => simp [sigN]
  | succ i ih => rw [sigN_succ]; simp [ih]; omega

/-- What Check sees to. -/
structure Ok (t : Tab) : Prop where
  pos : 1 ≤ t.n
  most : t.n ≤ 500
  ins : (t.next.getD 0 []).length ≤ 64
  tells : t.tells.length = t.n
  nextLen : ∀ s, s < t.n → (t.next.getD s []).length = (t.next.getD 0 []).length
  tellsLen : ∀ s, s < t.n → (t.tells.getD s []).length = (t.next.getD 0 []).length
  there : ∀ s, s < t.n → ∀ x ∈ t.next.getD s [], 0 ≤ x ∧ x < t.n

theorem takeR {α : Type} (f : Nat → α) (n : Nat) : List.take n (List.map f (List.range n)) = List.map f (List.range n) := List.take_of_length_le (by simp)

def rowI (l : List Int) : Row := .sl 3 1 (l.map fun x => [dNum x])
def rowR (l : List (List Int)) : Row := .sl 109 1 (l.map fun r => [dRow r])
/-- The rounds are these, up to one that is its own next one. -/
def Stops (t : Tab) (k : Nat) : Prop := nextF t (iter t k) = iter t k ∧ ∀ j, j < k → nextF t (iter t j) ≠ iter t j

end Go.Proofs.YtblafkekblaibaaDoor

/-
  Plain facts of tables: numbers of lists, rounds, the table of blocks.
-/
namespace Go.Proofs.YtblafkekblaibaaDoor
set_option linter.unusedSimpArgs false
set_option linter.unusedVariables false

theorem idx_neg {α : Type} {p : α → Bool} {l : List α} (h : idx p l < 0) : ∀ x ∈ l, p x = false := by
  unfold idx at h
  split at h
  · omega
  · rename_i hn
    rw [List.findIdx?_eq_none_iff] at hn
    intro x hx
    simpa using hn x hx
theorem idx_pos {α : Type} {p : α → Bool} {l : List α} (h : ¬ idx p l < 0) : ∃ k, ∃ hk : k < l.length, idx p l = (k : Int) ∧ p l[k] = true := by
  unfold idx at h ⊢
  split
  · rename_i i hi
    rw [List.findIdx?_eq_some_iff_getElem] at hi
    obtain ⟨h1, h2, _⟩ := hi
    exact ⟨i, h1, rfl, h2⟩
  · rename_i hn
    simp [hn] at h

theorem getD_snoc {α : Type} (l : List α) (x d : α) (i : Nat) : (l ++ [x]).getD i d = if i < l.length then l.getD i d else if i = l.length then x else d := by
  simp only [List.getD_eq_getElem?_getD, List.getElem?_append]
  split
  · rfl
  · split
    · subst_vars; simp
    · rename_i h1 h2
      have : i - l.length = (i - l.length - 1) + 1 := by omega
      rw [this]; rfl

structure NumInv (L : List (List Int)) (n : Nat) (st : List (List Int) × List Int) : Prop where
  inj : ∀ k k', k < st.1.length → k' < st.1.length → st.1.getD k [] = st.1.getD k' [] → k = k'
  len : st.2.length = n
  hit : ∀ i, i < n → ∃ k, k < st.1.length ∧ st.2.getD i 0 = (k : Int) ∧ st.1.getD k [] = L.getD i []
  src : ∀ k, k < st.1.length → ∃ i, i < n ∧ st.1.getD k [] = L.getD i []

theorem num_inv {L : List (List Int)} : ∀ {n : Nat}, n ≤ L.length → NumInv L n (numSt L n)
  | 0, _ => ⟨by simp [numSt], by simp [numSt], fun i hi => by omega, by simp [numSt]⟩
  | n + 1, h => by
    have ih := num_inv (L := L) (n := n) (by omega)
    rw [numSt_succ (by omega)]
    generalize numSt L n = st at ih
    obtain ⟨seen, out⟩ := st
    obtain ⟨inj, len, hit, src⟩ := ih
    dsimp only at inj len hit src
    have hn : L.getD n [] = L[n] := by simp [List.getD_eq_getElem?_getD, show n < L.length by omega]
    unfold numStep
    dsimp only
    split
    · rename_i hneg
      have hnew : ∀ k, k < seen.length → seen.getD k [] ≠ L[n] := by
        intro k hk
        have := idx_neg hneg seen[k] (by simp)
        rw [List.getD_eq_getElem?_getD]
        simpa [hk] using this
      refine ⟨?_, by simp [len], ?_, ?_⟩
      · intro k k' hk hk' he
        simp only [List.length_append, List.length_cons, List.length_nil] at hk hk'
        simp only [getD_snoc] at he
        split at he <;> split at he <;> first | omega | skip
        · exact inj k k' (by assumption) (by assumption) he
        · split at he
          · exact absurd he (hnew k (by assumption))
          · omega
        · split at he
          · exact absurd he.symm (hnew k' (by assumption))
          · omega
      · intro i hi
        rcases Nat.lt_or_ge i n with h' | h'
        · obtain ⟨k, hk, h1, h2⟩ := hit i h'
          refine ⟨k, by simp; omega, ?_, ?_⟩
          · rw [getD_snoc, if_pos (by omega)]; exact h1
          · rw [getD_snoc, if_pos hk]; exact h2
        · have : i = n := by omega
          subst this
          refine ⟨seen.length, by simp, ?_, ?_⟩
          · rw [getD_snoc, if_neg (by omega), if_pos (by omega)]
          · rw [getD_snoc, if_neg (by omega), if_pos rfl, hn]
      · intro k hk
        simp only [List.length_append, List.length_cons, List.length_nil] at hk
        rcases Nat.lt_or_ge k seen.length with h' | h'
        · obtain ⟨i, hi, he⟩ := src k h'
          exact ⟨i, by omega, by rw [getD_snoc, if_pos h']; exact he⟩
        · exact ⟨n, by omega, by rw [getD_snoc, if_neg (by omega), if_pos (by omega), hn]⟩
    · rename_i hneg
      obtain ⟨q, hq, hqi, hqe⟩ := idx_pos hneg
      have hqe : seen[q] = L[n] := by simpa using hqe
      refine ⟨inj, by simp [len], ?_, ?_⟩
      · intro i hi
        rcases Nat.lt_or_ge i n with h' | h'
        · obtain ⟨k, hk, h1, h2⟩ := hit i h'
          exact ⟨k, hk, by dsimp only; rw [getD_snoc, if_pos (by omega)]; exact h1, h2⟩
        · have : i = n := by omega
          subst this
          refine ⟨q, hq, ?_, ?_⟩
          · dsimp only
            rw [getD_snoc, if_neg (by omega), if_pos (by omega)]; exact hqi
          · dsimp only
            rw [hn, ← hqe, List.getD_eq_getElem?_getD]; simp [hq]
      · intro k hk
        obtain ⟨i, hi, he⟩ := src k hk
        exact ⟨i, by omega, he⟩

/-- How many lists there are among the first ones. -/
def dn (L : List (List Int)) (n : Nat) : Nat := (numSt L n).1.length

theorem num_stay {L : List (List Int)} {n : Nat} : ∀ (d : Nat), n + d ≤ L.length → ∀ i, i < n → (numSt L (n + d)).2.getD i 0 = (numSt L n).2.getD i 0
  | 0, _, _, _ => rfl
  | d + 1, h, i, hi => by
    rw [← num_stay d (by omega) i hi, ← Nat.add_assoc, numSt_succ (by omega)]
    have hl := (num_inv (L := L) (n := n + d) (by omega)).len
    unfold numStep
    split <;> (dsimp only; rw [getD_snoc, if_pos (by omega)])
theorem numberF_at {L : List (List Int)} {n i : Nat} (h : n ≤ L.length) (hi : i < n) : (numberF L).getD i 0 = (numSt L n).2.getD i 0 := by
  have := num_stay (L := L) (n := n) (L.length - n) (by omega) i hi
  rw [show n + (L.length - n) = L.length by omega] at this
  exact this

theorem number_same {L : List (List Int)} {i j : Nat} (hi : i < L.length) (hj : j < L.length) : (numberF L).getD i 0 = (numberF L).getD j 0 ↔ L.getD i [] = L.getD j [] := by
  have h := num_inv (L := L) (n := L.length) (Nat.le_refl _)
  obtain ⟨k, hk, h1, h2⟩ := h.hit i hi
  obtain ⟨k', hk', h1', h2'⟩ := h.hit j hj
  unfold numberF
  rw [h1, h1', ← h2, ← h2']
  constructor
  · intro e
    have : k = k' := by omega
    rw [this]
  · intro e
    rw [h.inj k k' hk hk' e]

theorem number_new {L : List (List Int)} {n : Nat} (h : n < L.length) (hnew : ∀ i, i < n → L.getD i [] ≠ L.getD n []) : dn L (n + 1) = dn L n + 1 ∧ (numberF L).getD n 0 = (dn L n : Int) := by
  have hs := numSt_succ h
  have inv := num_inv (L := L) (n := n) (by omega)
  have hn : L.getD n [] = L[n] := by simp [List.getD_eq_getElem?_getD, h]
  have hidx : idx (fun x => x == L[n]) (numSt L n).1 < 0 := by
    apply Classical.byContradiction
    intro hc
    obtain ⟨q, hq, _, hqe⟩ := idx_pos hc
    obtain ⟨i, hi, he⟩ := inv.src q hq
    apply hnew i hi
    rw [hn, ← he, List.getD_eq_getElem?_getD]
    simpa [hq] using hqe
  have hl := inv.len
  unfold numStep at hs
  rw [if_pos hidx] at hs
  constructor
  · simp [dn, hs]
  · rw [numberF_at (n := n + 1) (by omega) (by omega), hs]
    dsimp only
    rw [getD_snoc, if_neg (by omega), if_pos (by omega)]
    rfl
theorem number_old {L : List (List Int)} {n i : Nat} (h : n < L.length) (hi : i < n) (he : L.getD i [] = L.getD n []) : dn L (n + 1) = dn L n ∧ ∃ k : Nat, (numberF L).getD n 0 = (k : Int) ∧ k < dn L n := by
  have hs := numSt_succ h
  have inv := num_inv (L := L) (n := n) (by omega)
  obtain ⟨k, hk, h1, h2⟩ := inv.hit i hi
  have hn : L.getD n [] = L[n] := by simp [List.getD_eq_getElem?_getD, h]
  have hidx : ¬ idx (fun x => x == L[n]) (numSt L n).1 < 0 := by
    intro hc
    have := idx_neg hc ((numSt L n).1[k]) (by simp)
    rw [he, hn, List.getD_eq_getElem?_getD] at h2
    simp [hk] at h2
    simp [h2] at this
  refine ⟨?_, k, ?_, hk⟩
  · unfold numStep at hs
    rw [if_neg hidx] at hs
    simp [dn, hs]
  · rw [← (number_same (L := L) (i := i) (j := n) (by omega) h).2 he, numberF_at (n := n) (by omega) hi, h1]

theorem number_le {L : List (List Int)} {n i : Nat} (hn : n ≤ L.length) (hi : i < n) : ∃ k : Nat, (numberF L).getD i 0 = (k : Int) ∧ k < dn L n := by
  obtain ⟨k, hk, h1, _⟩ := (num_inv hn).hit i hi
  exact ⟨k, by rw [numberF_at hn hi, h1], hk⟩
theorem dn_le {L : List (List Int)} {n : Nat} (hn : n ≤ L.length) : dn L n ≤ n := (numSt_len hn).1

theorem number_congr {L M : List (List Int)} (hl : L.length = M.length) (h : ∀ i j, i < L.length → j < L.length → (L.getD i [] = L.getD j [] ↔ M.getD i [] = M.getD j [])) : numberF L = numberF M := by
  have key : ∀ n, n ≤ L.length → dn L n = dn M n ∧ ∀ i, i < n → (numberF L).getD i 0 = (numberF M).getD i 0 := by
    intro n
    induction n with
    | zero => intro _; exact ⟨rfl, fun i hi => by omega⟩
    | succ n ih =>
      intro hn
      obtain ⟨h1, h2⟩ := ih (by omega)
      by_cases hnew : ∀ i, i < n → L.getD i [] ≠ L.getD n []
      · have hnew' : ∀ i, i < n → M.getD i [] ≠ M.getD n [] := fun i hi e => hnew i hi ((h i n (by omega) (by omega)).2 e)
        obtain ⟨a1, a2⟩ := number_new (by omega) hnew
        obtain ⟨b1, b2⟩ := number_new (by omega) hnew'
        refine ⟨by omega, fun i hi => ?_⟩
        rcases Nat.lt_or_ge i n with h' | h'
        · exact h2 i h'
        · have : i = n := by omega
          subst this
          rw [a2, b2, h1]
      · have ⟨i, hi⟩ := Classical.not_forall.1 hnew
        have ⟨hi, he⟩ := Classical.not_imp.1 hi
        have he := Classical.not_not.1 he
        have he' := (h i n (by omega) (by omega)).1 he
        have a1 := (number_old (by omega) hi he).1
        have b1 := (number_old (L := M) (by omega) hi he').1
        refine ⟨by omega, fun j hj => ?_⟩
        rcases Nat.lt_or_ge j n with h' | h'
        · exact h2 j h'
        · have : j = n := by omega
          subst this
          rw [← (number_same (L := L) (i := i) (j := j) (by omega) (by omega)).2 he, ← (number_same (L := M) (i := i) (j := j) (by omega) (by omega)).2 he']
          exact h2 i hi
  apply List.ext_getElem
  · rw [numberF_len, numberF_len, hl]
  · intro i h1 h2
    have := (key L.length (Nat.le_refl _)).2 i (by rw [numberF_len] at h1; exact h1)
    simpa [List.getD_eq_getElem?_getD, h1, h2] using this

/-- Lists that are all unlike are numbered 0, 1, 2, .. -/
theorem number_id {L : List (List Int)} (h : ∀ i j, i < L.length → j < L.length → L.getD i [] = L.getD j [] → i = j) : ∀ i, i < L.length → (numberF L).getD i 0 = (i : Int) := by
  have key : ∀ n, n ≤ L.length → dn L n = n := by
    intro n
    induction n with
    | zero => intro _; rfl
    | succ n ih =>
      intro hn
      rw [(number_new (L := L) (n := n) (by omega) (fun i hi e => by have := h i n (by omega) (by omega) e; omega)).1, ih (by omega)]
  intro i hi
  rw [(number_new (L := L) (n := i) hi (fun j hj e => by have := h j i (by omega) (by omega) e; omega)).2, key i (by omega)]
end Go.Proofs.YtblafkekblaibaaDoor

/-
  Plain facts of tables: the rounds come to an end; which states are alike.
-/
namespace Go.Proofs.YtblafkekblaibaaDoor
set_option linter.unusedSimpArgs false
set_option linter.unusedVariables false

def nx (t : Tab) (s c : Nat) : Nat := ((t.next.getD s []).getD c 0).toNat
def te (t : Tab) (s c : Nat) : Int := (t.tells.getD s []).getD c 0
def wd (t : Tab) : Nat := (t.next.getD 0 []).length
/-- After so many rounds two states have the same number. -/
def Al (t : Tab) (k i j : Nat) : Prop := (iter t k).getD i 0 = (iter t k).getD j 0

theorem Ok.nx_lt {t : Tab} (ok : Ok t) {s c : Nat} (hs : s < t.n) (hc : c < wd t) : nx t s c < t.n := by
  have hl := ok.nextLen s hs
  have hc : c < (t.next.getD 0 []).length := hc
  rw [← hl] at hc
  have hth := ok.there s hs
  unfold nx
  generalize t.next.getD s [] = r at hc hth
  have hm : r.getD c 0 ∈ r := by
    rw [List.getD_eq_getElem?_getD, List.getElem?_eq_getElem hc]
    exact List.getElem_mem hc
  have := hth _ hm
  omega

theorem sigN_same (t : Tab) (now : List Int) (s s' : Nat) : ∀ i, sigN t now s i = sigN t now s' i ↔ now.getD s 0 = now.getD s' 0 ∧ ∀ c, c < i → te t s c = te t s' c ∧ now.getD (nx t s c) 0 = now.getD (nx t s' c) 0
  | 0 => by simp [sigN]
  | i + 1 => by
    rw [sigN_succ, sigN_succ]
    constructor
    · intro h
      obtain ⟨h1, h2⟩ := List.append_inj' h rfl
      obtain ⟨h3, h4⟩ := (sigN_same t now s s' i).1 h1
      refine ⟨h3, fun c hc => ?_⟩
      rcases Nat.lt_or_ge c i with h' | h'
      · exact h4 c h'
      · have : c = i := by omega
        subst this
        simp only [List.cons.injEq, and_true] at h2
        exact h2
    · rintro ⟨h3, h4⟩
      rw [(sigN_same t now s s' i).2 ⟨h3, fun c hc => h4 c (by omega)⟩]
      obtain ⟨h5, h6⟩ := h4 i (by omega)
      unfold te at h5
      unfold nx at h6
      rw [h5, h6]

theorem sig_same {t : Tab} (ok : Ok t) (now : List Int) {s s' : Nat} (hs : s < t.n) (hs' : s' < t.n) :
    sig t now s = sig t now s' ↔ now.getD s 0 = now.getD s' 0 ∧ ∀ c, c < wd t → te t s c = te t s' c ∧ now.getD (nx t s c) 0 = now.getD (nx t s' c) 0 := by
  unfold sig
  rw [ok.nextLen s hs, ok.nextLen s' hs']
  exact sigN_same t now s s' _

theorem getD_sigs (t : Tab) (now : List Int) {s : Nat} (hs : s < t.n) : ((List.range t.n).map (sig t now)).getD s [] = sig t now s := by
  rw [List.getD_eq_getElem?_getD]
  simp [hs]

theorem al_succ {t : Tab} (ok : Ok t) {k i j : Nat} (hi : i < t.n) (hj : j < t.n) : Al t (k + 1) i j ↔ Al t k i j ∧ ∀ c, c < wd t → te t i c = te t j c ∧ Al t k (nx t i c) (nx t j c) := by
  unfold Al
  rw [iter, nextF, number_same (by simpa using hi) (by simpa using hj), getD_sigs t _ hi, getD_sigs t _ hj, sig_same ok _ hi hj]
theorem al_zero {t : Tab} {i j : Nat} (hi : i < t.n) (hj : j < t.n) : Al t 0 i j := by
  simp [Al, iter, List.getD_eq_getElem?_getD, hi, hj]
theorem al_down {t : Tab} (ok : Ok t) {i j : Nat} (hi : i < t.n) (hj : j < t.n) {k : Nat} : ∀ d, Al t (k + d) i j → Al t k i j
  | 0, h => h
  | d + 1, h => al_down ok hi hj d ((al_succ ok hi hj).1 h).1

/-- Rounds that part no more stay. -/
theorem iter_stay {t : Tab} {k : Nat} (h : nextF t (iter t k) = iter t k) : ∀ d, iter t (k + d) = iter t k
  | 0 => rfl
  | d + 1 => by rw [← Nat.add_assoc, iter, iter_stay h d, h]

theorem stable {t : Tab} (ok : Ok t) {k : Nat} (h : ∀ i j, i < t.n → j < t.n → Al t k i j → Al t (k + 1) i j) : nextF t (iter t k) = iter t k := by
  have hiff : ∀ i j, i < t.n → j < t.n → (Al t (k + 1) i j ↔ Al t k i j) := fun i j hi hj => ⟨al_down ok hi hj 1, h i j hi hj⟩
  have hs : ∀ m i j, i < t.n → j < t.n → (((List.range t.n).map (sig t (iter t m))).getD i [] = ((List.range t.n).map (sig t (iter t m))).getD j [] ↔ Al t (m + 1) i j) := by
    intro m i j hi hj
    unfold Al
    rw [iter, nextF, number_same (by simpa using hi) (by simpa using hj)]
  cases k with
  | zero =>
    apply List.ext_getElem
    · simp [nextF, numberF_len, iter]
    · intro i h1 h2
      have hi : i < t.n := by simpa [iter] using h2
      have h0 : 0 < t.n := by omega
      have e : Al t 1 i 0 := (hiff i 0 hi h0).2 (al_zero hi h0)
      have e0 : (iter t 1).getD 0 0 = 0 := by
        have := (number_new (L := (List.range t.n).map (sig t (iter t 0))) (n := 0) (by simpa using h0) (fun i hi => by omega)).2
        simpa [iter, nextF, dn, numSt] using this
      have h1' : i < (iter t 1).length := h1
      unfold Al at e
      rw [e0, List.getD_eq_getElem?_getD] at e
      have e' : (iter t 1)[i] = 0 := by simpa [h1'] using e
      have e2 : (iter t 0)[i] = 0 := by simp [iter]
      rw [e2, ← e']
      rfl
  | succ k =>
    show numberF _ = numberF _
    refine number_congr (by simp) fun i j hi hj => ?_
    have hi : i < t.n := by simpa using hi
    have hj : j < t.n := by simpa using hj
    rw [hs _ i j hi hj, hs _ i j hi hj]
    exact hiff i j hi hj

theorem countP_eq {α : Type} {p q : α → Bool} : ∀ {l : List α}, (∀ x ∈ l, p x = true → q x = true) → l.countP q ≤ l.countP p → ∀ x ∈ l, q x = true → p x = true
  | [], _, _, x, hx, _ => by simp at hx
  | y :: l, h, hc, x, hx, hq => by
    have hm : l.countP p ≤ l.countP q := List.countP_mono_left fun x hx => h x (by simp [hx])
    have hy := h y (by simp)
    simp only [List.countP_cons] at hc
    have h2 : l.countP q ≤ l.countP p ∧ (q y = true → p y = true) := by
      cases hpy : p y <;> cases hqy : q y <;> simp_all <;> omega
    rcases List.mem_cons.1 hx with rfl | hx
    · exact h2.2 hq
    · exact countP_eq (fun x hx => h x (by simp [hx])) h2.1 x hx hq

def pairs (n : Nat) : List (Nat × Nat) := (List.range n).flatMap fun i => (List.range n).map fun j => (i, j)
theorem mem_pairs {n : Nat} {p : Nat × Nat} : p ∈ pairs n ↔ p.1 < n ∧ p.2 < n := by
  unfold pairs
  simp only [List.mem_flatMap, List.mem_range, List.mem_map]
  constructor
  · rintro ⟨i, hi, j, hj, rfl⟩; exact ⟨hi, hj⟩
  · rintro ⟨h1, h2⟩; exact ⟨p.1, h1, p.2, h2, rfl⟩
theorem flat_len {α β : Type} (f : α → List β) (n : Nat) : ∀ (l : List α), (∀ x ∈ l, (f x).length = n) → (l.flatMap f).length = l.length * n
  | [], _ => by simp
  | x :: l, h => by
    rw [List.flatMap_cons, List.length_append, h x (by simp), flat_len f n l (fun y hy => h y (by simp [hy])), List.length_cons, Nat.add_mul, Nat.one_mul, Nat.add_comm]
theorem pairs_len (n : Nat) : (pairs n).length = n * n := by
  unfold pairs
  rw [flat_len _ n _ (by simp)]
  simp

open Classical in
noncomputable def cnt (t : Tab) (k : Nat) : Nat := (pairs t.n).countP fun p => decide (Al t k p.1 p.2)

theorem cnt_lt {t : Tab} (ok : Ok t) {k : Nat} (h : nextF t (iter t k) ≠ iter t k) : cnt t (k + 1) < cnt t k := by
  classical
  apply Classical.byContradiction
  intro hc
  apply h
  refine stable ok fun i j hi hj ha => ?_
  unfold cnt at hc
  have := countP_eq (p := fun p => decide (Al t (k + 1) p.1 p.2)) (q := fun p => decide (Al t k p.1 p.2)) (l := pairs t.n) (fun p hp hx => by
    have hp := mem_pairs.1 hp
    simp only [decide_eq_true_eq] at hx ⊢
    exact al_down ok hp.1 hp.2 1 hx) (by omega) (i, j) (mem_pairs.2 ⟨hi, hj⟩) (by simpa using ha)
  simpa using this

theorem first_such (P : Nat → Prop) : ∀ N, (∃ k, k ≤ N ∧ P k) → ∃ k, k ≤ N ∧ P k ∧ ∀ j, j < k → ¬ P j
  | 0, ⟨k, hk, h⟩ => ⟨0, by omega, by rwa [show k = 0 by omega] at h, fun j hj => by omega⟩
  | N + 1, ⟨k, hk, h⟩ => by
    by_cases hx : ∃ k, k ≤ N ∧ P k
    · obtain ⟨k, hk, r⟩ := first_such P N hx
      exact ⟨k, by omega, r⟩
    · exact ⟨k, hk, h, fun j hj hp => hx ⟨j, by omega, hp⟩⟩

theorem stops_ex {t : Tab} (ok : Ok t) : ∃ k, k ≤ t.n * t.n ∧ Stops t k := by
  refine first_such (fun k => nextF t (iter t k) = iter t k) _ ?_
  apply Classical.byContradiction
  intro hc
  have hall : ∀ k, k ≤ t.n * t.n → nextF t (iter t k) ≠ iter t k := fun k hk e => hc ⟨k, hk, e⟩
  have key : ∀ k, k ≤ t.n * t.n + 1 → cnt t k + k ≤ t.n * t.n := by
    intro k
    induction k with
    | zero =>
      intro _
      have h1 : cnt t 0 ≤ (pairs t.n).length := List.countP_le_length
      rw [pairs_len] at h1
      omega
    | succ k ih =>
      intro hk
      have h1 := ih (by omega)
      have h2 := cnt_lt ok (hall k (by omega))
      omega
  have := key (t.n * t.n + 1) (Nat.le_refl _)
  omega
theorem stops_small {t : Tab} (ok : Ok t) : ∃ k, k < 2^20 ∧ Stops t k := by
  obtain ⟨k, hk, h⟩ := stops_ex ok
  refine ⟨k, ?_, h⟩
  have h1 := ok.most
  have : t.n * t.n ≤ 500 * 500 := Nat.mul_le_mul h1 h1
  omega
theorem stops_one {t : Tab} {k k' : Nat} (h : Stops t k) (h' : Stops t k') : k = k' := by
  rcases Nat.lt_trichotomy k k' with hlt | rfl | hlt
  · exact absurd h.1 (h'.2 k hlt)
  · rfl
  · exact absurd h'.1 (h.2 k' hlt)

/-- What the rounds come to: alike now, then they go on so. -/
theorem al_fix {t : Tab} (ok : Ok t) {k : Nat} (h : nextF t (iter t k) = iter t k) {i j : Nat} (hi : i < t.n) (hj : j < t.n) (ha : Al t k i j) : ∀ c, c < wd t → te t i c = te t j c ∧ Al t k (nx t i c) (nx t j c) := by
  have : Al t (k + 1) i j := by unfold Al; rw [iter, h]; exact ha
  exact ((al_succ ok hi hj).1 this).2
theorem al_all {t : Tab} (ok : Ok t) {k : Nat} (h : nextF t (iter t k) = iter t k) {i j : Nat} (hi : i < t.n) (hj : j < t.n) (ha : Al t k i j) (m : Nat) : Al t m i j := by
  rcases Nat.le_total m k with hm | hm
  · exact al_down ok hi hj (k - m) (by rwa [show m + (k - m) = k by omega])
  · unfold Al
    rw [show m = k + (m - k) by omega, iter_stay h]
    exact ha
end Go.Proofs.YtblafkekblaibaaDoor

/-
  Plain facts of tables: which tables may be; the table of blocks; its own blocks are its states.
-/
namespace Go.Proofs.YtblafkekblaibaaDoor
set_option linter.unusedSimpArgs false
set_option linter.unusedVariables false

theorem rowsF_none {t : Tab} : ∀ {n s : Nat}, rowsF t s n = none ↔ ∀ i, s ≤ i → i < s + n → rowF t i = none
  | 0, s => by simp only [rowsF, true_iff]; intro i h1 h2; omega
  | n + 1, s => by
    unfold rowsF
    constructor
    · intro h i h1 h2
      split at h
      · cases h
      · rename_i hn
        rcases Nat.lt_or_ge s i with h' | h'
        · exact rowsF_none.1 h i (by omega) (by omega)
        · rw [show i = s by omega]; exact hn
    · intro h
      rw [h s (by omega) (by omega)]
      exact rowsF_none.2 fun i h1 h2 => h i (by omega) (by omega)
theorem rowF_none {t : Tab} {s : Nat} : rowF t s = none ↔ (t.next.getD s []).length = (t.next.getD 0 []).length ∧ (t.tells.getD s []).length = (t.next.getD 0 []).length ∧ ∀ x ∈ t.next.getD s [], 0 ≤ x ∧ x < (t.n : Int) := by
  unfold rowF Tab.n
  split
  · rename_i h
    simp only [reduceCtorEq, false_iff]
    rintro ⟨h1, h2, _⟩
    rcases h with h | h
    · exact h h1
    · exact h h2
  · rename_i h
    have h1 : (t.next.getD s []).length = (t.next.getD 0 []).length := by
      apply Classical.byContradiction; intro e; exact h (.inl e)
    have h2 : (t.tells.getD s []).length = (t.next.getD 0 []).length := by
      apply Classical.byContradiction; intro e; exact h (.inr e)
    split
    · rename_i ha
      simp only [reduceCtorEq, false_iff]
      rintro ⟨_, _, h3⟩
      obtain ⟨x, hx, hb⟩ := List.any_eq_true.1 ha
      have := h3 x hx
      simp at hb
      omega
    · rename_i ha
      simp only [true_iff]
      refine ⟨h1, h2, fun x hx => ?_⟩
      have : ¬ ((decide (x < 0) || decide ((t.next.length : Int) ≤ x)) = true) := fun e => ha (List.any_eq_true.2 ⟨x, hx, e⟩)
      simp at this
      omega
theorem ok_iff {t : Tab} : checkF t = none ↔ Ok t := by
  unfold checkF
  constructor
  · intro h
    split at h
    · cases h
    · split at h
      · cases h
      · have hr := fun (i : Nat) (hi : i < t.n) => rowF_none.1 (rowsF_none.1 h i (by omega) (by unfold Tab.n at hi; omega))
        exact ⟨by unfold Tab.n; omega, by unfold Tab.n; omega, by omega, by unfold Tab.n; omega, fun s hs => (hr s hs).1, fun s hs => (hr s hs).2.1, fun s hs => (hr s hs).2.2⟩
  · intro ok
    have h1 := ok.pos
    have h2 := ok.most
    have h3 := ok.ins
    have h4 := ok.tells
    unfold Tab.n at h1 h2 h4
    rw [if_neg (by omega), if_neg (by omega)]
    exact rowsF_none.2 fun i h1 h2 => rowF_none.2 ⟨ok.nextLen i (by unfold Tab.n; omega), ok.tellsLen i (by unfold Tab.n; omega), ok.there i (by unfold Tab.n; omega)⟩

def leastStep (t : Tab) (l : List Int) (st : List (List Int) × List (List Int)) (s : Nat) : List (List Int) × List (List Int) :=
  if l.getD s 0 < (st.1.length : Int) then st else (st.1 ++ [(t.next.getD s []).map fun x => l.getD x.toNat 0], st.2 ++ [t.tells.getD s []])
def leastSt (t : Tab) (l : List Int) (n : Nat) : List (List Int) × List (List Int) := (List.range n).foldl (leastStep t l) ([], [])
def leastF (t : Tab) (l : List Int) : Tab := ⟨(leastSt t l t.n).1, (leastSt t l t.n).2⟩

theorem leastSt_succ (t : Tab) (l : List Int) (n : Nat) : leastSt t l (n + 1) = leastStep t l (leastSt t l n) n := by
  simp [leastSt, List.range_succ]

structure LeastInv (t : Tab) (l : List Int) (S : List (List Int)) (n : Nat) (st : List (List Int) × List (List Int)) : Prop where
  len : st.2.length = st.1.length
  cnt : st.1.length = dn S n
  row : ∀ q, q < st.1.length → ∃ s, s < n ∧ l.getD s 0 = (q : Int) ∧ st.1.getD q [] = (t.next.getD s []).map (fun x => l.getD x.toNat 0) ∧ st.2.getD q [] = t.tells.getD s []

theorem least_inv {t : Tab} {l : List Int} {S : List (List Int)} (hS : S.length = t.n) (hl : l = numberF S) : ∀ {n : Nat}, n ≤ t.n → LeastInv t l S n (leastSt t l n)
  | 0, _ => ⟨rfl, rfl, fun q hq => by simp [leastSt] at hq⟩
  | n + 1, h => by
    have ih := least_inv hS hl (n := n) (by omega)
    rw [leastSt_succ]
    generalize leastSt t l n = st at ih
    obtain ⟨N, T⟩ := st
    obtain ⟨len, cnt, row⟩ := ih
    dsimp only at len cnt row
    unfold leastStep
    dsimp only
    by_cases hnew : ∀ i, i < n → S.getD i [] ≠ S.getD n []
    · obtain ⟨a1, a2⟩ := number_new (by omega) hnew
      rw [← hl] at a2
      rw [if_neg (by omega)]
      refine ⟨by simp [len], by simp [cnt, a1], fun q hq => ?_⟩
      simp only [List.length_append, List.length_cons, List.length_nil] at hq
      by_cases hq' : q < N.length
      · obtain ⟨s, hs, r1, r2, r3⟩ := row q hq'
        refine ⟨s, by omega, r1, ?_, ?_⟩
        · rw [getD_snoc, if_pos hq']; exact r2
        · rw [getD_snoc, if_pos (by omega)]; exact r3
      · refine ⟨n, by omega, by omega, ?_, ?_⟩
        · rw [getD_snoc, if_neg hq', if_pos (by omega)]
        · rw [getD_snoc, if_neg (by omega), if_pos (by omega)]
    · have ⟨i, hi⟩ := Classical.not_forall.1 hnew
      have ⟨hi, he⟩ := Classical.not_imp.1 hi
      have he := Classical.not_not.1 he
      obtain ⟨a1, k, a2, a3⟩ := number_old (by omega) hi he
      rw [← hl] at a2
      rw [if_pos (by omega)]
      exact ⟨len, by rw [cnt, a1], fun q hq => by obtain ⟨s, hs, r⟩ := row q hq; exact ⟨s, by omega, r⟩⟩

/-- The table of blocks, of numbers that go on so. -/
structure LeastIs (t : Tab) (l : List Int) (u : Tab) : Prop where
  ok : Ok u
  le : u.n ≤ t.n
  wide : wd u = wd t
  rep : ∀ q, q < u.n → ∃ s, s < t.n ∧ l.getD s 0 = (q : Int) ∧ ∀ c, c < wd t → te u q c = te t s c ∧ ((nx u q c : Nat) : Int) = l.getD (nx t s c) 0
  blk : ∀ s, s < t.n → ∃ q, q < u.n ∧ l.getD s 0 = (q : Int)

theorem least_is {t : Tab} (ok : Ok t) {l : List Int} (h : nextF t l = l) : LeastIs t l (leastF t l) := by
  have hS : ((List.range t.n).map (sig t l)).length = t.n := by simp
  have hl : l = numberF ((List.range t.n).map (sig t l)) := h.symm
  have inv := least_inv hS hl (Nat.le_refl t.n)
  obtain ⟨len, cnt, row⟩ := inv
  generalize hSS : (List.range t.n).map (sig t l) = S at hS hl cnt
  have hu1 : (leastF t l).next = (leastSt t l t.n).1 := rfl
  have hu2 : (leastF t l).tells = (leastSt t l t.n).2 := rfl
  rw [← hu1, ← hu2] at len row
  rw [← hu1] at cnt
  have hn : (leastF t l).n = dn S t.n := cnt
  have blk : ∀ s, s < t.n → ∃ q, q < (leastF t l).n ∧ l.getD s 0 = (q : Int) := by
    intro s hs
    obtain ⟨k, h1, h2⟩ := number_le (L := S) (n := t.n) (i := s) (by omega) hs
    exact ⟨k, by omega, by rw [hl, h1]⟩
  have hpos := ok.pos
  have hpos' : 0 < (leastF t l).n := by obtain ⟨q, hq, _⟩ := blk 0 (by omega); omega
  have hlen : ∀ q, q < (leastF t l).n → ((leastF t l).next.getD q []).length = wd t ∧ ((leastF t l).tells.getD q []).length = wd t := by
    intro q hq
    obtain ⟨s, hs, _, h2, h3⟩ := row q hq
    rw [h2, h3]
    exact ⟨by rw [List.length_map]; exact ok.nextLen s hs, ok.tellsLen s hs⟩
  have hw : wd (leastF t l) = wd t := (hlen 0 hpos').1
  have hle : (leastF t l).n ≤ t.n := by rw [hn]; exact dn_le (by omega)
  have hmost := ok.most
  refine ⟨⟨hpos', by omega, by have := ok.ins; unfold wd at hw; omega, len, fun s hs => by rw [(hlen s hs).1]; exact hw.symm, fun s hs => by rw [(hlen s hs).2]; exact hw.symm, ?_⟩, hle, hw, ?_, blk⟩
  · intro q hq x hx
    obtain ⟨s, hs, _, h2, _⟩ := row q hq
    rw [h2] at hx
    obtain ⟨y, hy, rfl⟩ := List.mem_map.1 hx
    have := ok.there s hs y hy
    obtain ⟨q', h1, h2⟩ := blk y.toNat (by omega)
    omega
  · intro q hq
    obtain ⟨s, hs, h1, h2, h3⟩ := row q hq
    refine ⟨s, hs, h1, fun c hc => ⟨by unfold te; rw [h3], ?_⟩⟩
    have hcl : c < (t.next.getD s []).length := by rw [ok.nextLen s hs]; exact hc
    have hnx := ok.nx_lt hs hc
    obtain ⟨q', h4, h5⟩ := blk _ hnx
    have e : ((leastF t l).next.getD q []).getD c 0 = l.getD (nx t s c) 0 := by
      rw [h2]
      unfold nx
      generalize t.next.getD s [] = r at hcl
      rw [List.getD_eq_getElem?_getD, List.getElem?_map, List.getD_eq_getElem?_getD (l := r), List.getElem?_eq_getElem hcl]
      rfl
    unfold nx at e ⊢
    rw [e]
    unfold nx at h5
    omega

theorem least_apart {t u : Tab} (ok : Ok t) {k k' : Nat} (h : nextF t (iter t k) = iter t k) (hu : LeastIs t (iter t k) u) (h' : nextF u (iter u k') = iter u k') :
    ∀ (r s s' q q' : Nat), s < t.n → s' < t.n → (iter t k).getD s 0 = (q : Int) → (iter t k).getD s' 0 = (q' : Int) → q < u.n → q' < u.n → Al u k' q q' → Al t r s s'
  | 0, s, s', _, _, hs, hs', _, _, _, _, _ => al_zero hs hs'
  | r + 1, s, s', q, q', hs, hs', hq, hq', hqn, hqn', ha => by
    obtain ⟨s1, hs1, e1, f1⟩ := hu.rep q hqn
    obtain ⟨s2, hs2, e2, f2⟩ := hu.rep q' hqn'
    have a1 : Al t (r + 1) s s1 := al_all ok h hs hs1 (by unfold Al; rw [hq, e1]) (r + 1)
    have a2 : Al t (r + 1) s' s2 := al_all ok h hs' hs2 (by unfold Al; rw [hq', e2]) (r + 1)
    have a3 : Al t (r + 1) s1 s2 := by
      refine (al_succ ok hs1 hs2).2 ⟨least_apart ok h hu h' r s1 s2 q q' hs1 hs2 e1 e2 hqn hqn' ha, fun c hc => ?_⟩
      have hc' : c < wd u := by rw [hu.wide]; exact hc
      obtain ⟨g1, g2⟩ := al_fix hu.ok h' hqn hqn' ha c hc'
      refine ⟨by rw [← (f1 c hc).1, ← (f2 c hc).1, g1], ?_⟩
      exact least_apart ok h hu h' r _ _ _ _ (ok.nx_lt hs1 hc) (ok.nx_lt hs2 hc) (f1 c hc).2.symm (f2 c hc).2.symm (hu.ok.nx_lt hqn hc') (hu.ok.nx_lt hqn' hc') g2
    unfold Al at a1 a2 a3 ⊢
    rw [a1, a2, a3]

/-- The table of blocks has its own states as its blocks. -/
theorem least_id {t u : Tab} (ok : Ok t) {k k' : Nat} (h : nextF t (iter t k) = iter t k) (hu : LeastIs t (iter t k) u) (h' : nextF u (iter u k') = iter u k') : ∀ i, i < u.n → (iter u k').getD i 0 = (i : Int) := by
  have inj : ∀ i j, i < u.n → j < u.n → Al u k' i j → i = j := by
    intro i j hi hj ha
    obtain ⟨s, hs, e, _⟩ := hu.rep i hi
    obtain ⟨s', hs', e', _⟩ := hu.rep j hj
    have := least_apart ok h hu h' k s s' i j hs hs' e e' hi hj ha
    unfold Al at this
    rw [e, e'] at this
    omega
  intro i hi
  rw [← h']
  unfold nextF
  refine number_id (fun i j hi hj he => ?_) i (by simpa using hi)
  have hi' : i < u.n := by simpa using hi
  have hj' : j < u.n := by simpa using hj
  refine inj i j hi' hj' ?_
  unfold Al
  rw [← h']
  exact (number_same hi hj).2 he
end Go.Proofs.YtblafkekblaibaaDoor

/-
  The blocks of a table.
-/
namespace Go.Proofs.YtblafkekblaibaaDoor
set_option linter.unusedSimpArgs false
set_option linter.unusedVariables false
open Go.Av

end Go.Proofs.YtblafkekblaibaaDoor

/-
  The table of blocks.
-/
namespace Go.Proofs.YtblafkekblaibaaDoor
set_option linter.unusedSimpArgs false
set_option linter.unusedVariables false
open Go.Av

theorem leastSt_len (t : Tab) (l : List Int) : ∀ n, (leastSt t l n).1.length ≤ n ∧ (leastSt t l n).2.length = (leastSt t l n).1.length
  | 0 => by simp [leastSt]
  | n + 1 => by
    have ih := leastSt_len t l n
    rw [leastSt_succ]
    unfold leastStep
    split
    · omega
    · simp; omega

def pre (l row : List Int) (i : Nat) : List Int := (row.take i).map fun x => l.getD x.toNat 0
theorem pre_zero (l row : List Int) : pre l row 0 = [] := by simp [pre]
theorem pre_succ (l : List Int) {row : List Int} {i : Nat} (h : i < row.length) : pre l row (i + 1) = pre l row i ++ [l.getD row[i].toNat 0] := by
  unfold pre
  rw [List.take_succ_eq_append_getElem h, List.map_append]
  rfl
theorem pre_all (l row : List Int) : pre l row row.length = row.map fun x => l.getD x.toNat 0 := by simp [pre]
theorem pre_len (l : List Int) {row : List Int} {i : Nat} (h : i ≤ row.length) : (pre l row i).length = i := by simp [pre]; omega

end Go.Proofs.YtblafkekblaibaaDoor

/-
  The least inputs by which two states are told apart.
-/
namespace Go.Proofs.YtblafkekblaibaaDoor
set_option linter.unusedSimpArgs false
set_option linter.unusedVariables false
open Go.Av

/-- By input i two states are told apart, where k inputs are wanted. -/
def hitF (t : Tab) (k a b i : Nat) : Bool := if k = 1 then te t a i != te t b i else (iter t (k - 1)).getD (nx t a i) 0 != (iter t (k - 1)).getD (nx t b i) 0
def partF (t : Tab) : Nat → Nat → Nat → List Int
  | 0, _, _ => []
  | k + 1, a, b => match (List.range (wd t)).find? (hitF t (k + 1) a b) with
    | some i => (i : Int) :: partF t k (nx t a i) (nx t b i)
    | none => partF t k a b

/-- Two states have unlike numbers. -/
def apartF (a b : Nat) (l : List Int) : Bool := l.getD a 0 != l.getD b 0
def rndF (t : Tab) (k : Nat) : List (List Int) := (List.range (k + 1)).map (iter t)
theorem rndF_len (t : Tab) (k : Nat) : (rndF t k).length = k + 1 := by simp [rndF]
theorem rndF_get (t : Tab) (k q : Nat) (h : q < (rndF t k).length) : (rndF t k)[q] = iter t q := by simp [rndF]
theorem rndF_mem {t : Tab} {k : Nat} {x : List Int} (h : x ∈ rndF t k) : x.length = t.n := by
  obtain ⟨m, _, rfl⟩ := List.mem_map.1 h
  exact iter_len t m

theorem find_hit {p : Nat → Bool} {n i : Nat} (hi : i < n) (h : p i = true) (hb : ∀ j, j < i → p j = false) : (List.range n).find? p = some i := by
  rw [List.find?_range_eq_some]
  exact ⟨h, List.mem_range.2 hi, fun j hj => by simp [hb j hj]⟩
theorem find_miss {p : Nat → Bool} {n : Nat} (hb : ∀ j, j < n → p j = false) : (List.range n).find? p = none := by
  rw [List.find?_eq_none]
  intro x hx
  simp [hb x (List.mem_range.1 hx)]

theorem partF_hit {t : Tab} {k a b i : Nat} (hi : i < wd t) (h : hitF t (k + 1) a b i = true) (hb : ∀ j, j < i → hitF t (k + 1) a b j = false) : partF t (k + 1) a b = (i : Int) :: partF t k (nx t a i) (nx t b i) := by
  conv => lhs; unfold partF
  rw [find_hit hi h hb]
theorem partF_miss {t : Tab} {k a b : Nat} (hb : ∀ j, j < wd t → hitF t (k + 1) a b j = false) : partF t (k + 1) a b = partF t k a b := by
  conv => lhs; unfold partF
  rw [find_miss hb]

end Go.Proofs.YtblafkekblaibaaDoor

/-
  The least inputs by which two states are told apart: the walk.
-/
namespace Go.Proofs.YtblafkekblaibaaDoor
set_option linter.unusedSimpArgs false
set_option linter.unusedVariables false
open Go.Av

end Go.Proofs.YtblafkekblaibaaDoor

/-
  Plain facts of tables: what is told of inputs; the inputs that part two states.
-/
namespace Go.Proofs.YtblafkekblaibaaDoor
set_option linter.unusedSimpArgs false
set_option linter.unusedVariables false

/-- What is told of inputs. -/
def tellF (t : Tab) : Nat → List Nat → List Int
  | _, [] => []
  | s, i :: l => te t s i :: tellF t (nx t s i) l
/-- Where they lead. -/
def goF (t : Tab) : Nat → List Nat → Nat
  | s, [] => s
  | s, i :: l => goF t (nx t s i) l

theorem tellF_len (t : Tab) : ∀ (l : List Nat) (s : Nat), (tellF t s l).length = l.length
  | [], _ => rfl
  | i :: l, s => by simp [tellF, tellF_len t l]
theorem tellF_snoc (t : Tab) (i : Nat) : ∀ (l : List Nat) (s : Nat), tellF t s (l ++ [i]) = tellF t s l ++ [te t (goF t s l) i]
  | [], s => rfl
  | j :: l, s => by simp [tellF, goF, tellF_snoc t i l]
theorem goF_snoc (t : Tab) (i : Nat) : ∀ (l : List Nat) (s : Nat), goF t s (l ++ [i]) = nx t (goF t s l) i
  | [], s => rfl
  | j :: l, s => by simp [goF, goF_snoc t i l]
theorem goF_lt {t : Tab} (ok : Ok t) : ∀ (l : List Nat) (s : Nat), s < t.n → (∀ c ∈ l, c < wd t) → goF t s l < t.n
  | [], s, hs, _ => hs
  | i :: l, s, hs, h => goF_lt ok l _ (ok.nx_lt hs (h i (by simp))) fun c hc => h c (by simp [hc])

/-- States that are alike tell the same. -/
theorem tell_alike {t : Tab} (ok : Ok t) {k : Nat} (h : nextF t (iter t k) = iter t k) : ∀ (l : List Nat) (a b : Nat), a < t.n → b < t.n → Al t k a b → (∀ c ∈ l, c < wd t) → tellF t a l = tellF t b l
  | [], _, _, _, _, _, _ => rfl
  | i :: l, a, b, ha, hb, hab, hl => by
    have hi := hl i (by simp)
    obtain ⟨h1, h2⟩ := al_fix ok h ha hb hab i hi
    simp only [tellF, h1]
    rw [tell_alike ok h l _ _ (ok.nx_lt ha hi) (ok.nx_lt hb hi) h2 fun c hc => hl c (by simp [hc])]
/-- The table of blocks tells what its states do. -/
theorem tell_least {t u : Tab} (ok : Ok t) {k : Nat} (h : nextF t (iter t k) = iter t k) (hu : LeastIs t (iter t k) u) : ∀ (l : List Nat) (a q : Nat), a < t.n → q < u.n → (iter t k).getD a 0 = (q : Int) → (∀ c ∈ l, c < wd t) → tellF t a l = tellF u q l
  | [], _, _, _, _, _, _ => rfl
  | i :: l, a, q, ha, hq, he, hl => by
    have hi := hl i (by simp)
    obtain ⟨s, hs, e1, f⟩ := hu.rep q hq
    obtain ⟨h1, h2⟩ := al_fix ok h ha hs (by unfold Al; rw [he, e1]) i hi
    simp only [tellF, h1, (f i hi).1]
    have h3 := (f i hi).2
    unfold Al at h2
    rw [tell_least ok h hu l (nx t a i) (nx u q i) (ok.nx_lt ha hi) (hu.ok.nx_lt hq (by rw [hu.wide]; exact hi)) (by rw [h2, h3]) fun c hc => hl c (by simp [hc])]

theorem not_al {t : Tab} (ok : Ok t) {d a b : Nat} (ha : a < t.n) (hb : b < t.n) (h1 : Al t d a b) (h2 : ¬ Al t (d + 1) a b) : ∃ c, c < wd t ∧ hitF t (d + 1) a b c = true := by
  apply Classical.byContradiction
  intro hc
  apply h2
  refine (al_succ ok ha hb).2 ⟨h1, fun c hcw => ?_⟩
  have hno : ¬ hitF t (d + 1) a b c = true := fun e => hc ⟨c, hcw, e⟩
  unfold hitF at hno
  cases d with
  | zero =>
    simp at hno
    exact ⟨hno, al_zero (ok.nx_lt ha hcw) (ok.nx_lt hb hcw)⟩
  | succ d =>
    rw [if_neg (by omega)] at hno
    simp only [Nat.add_sub_cancel, bne_iff_ne, ne_eq, Classical.not_not] at hno
    exact ⟨(((al_succ ok ha hb).1 h1).2 c hcw).1, hno⟩

/-- The first one that fits. -/
theorem first_below {p : Nat → Bool} : ∀ {n : Nat}, (∃ c, c < n ∧ p c = true) → ∃ i, i < n ∧ p i = true ∧ ∀ j, j < i → p j = false
  | 0, ⟨c, hc, _⟩ => by omega
  | n + 1, h => by
    by_cases hx : ∃ c, c < n ∧ p c = true
    · obtain ⟨i, hi, r⟩ := first_below hx
      exact ⟨i, by omega, r⟩
    · obtain ⟨c, hc, hp⟩ := h
      have hcn : c = n := by
        apply Classical.byContradiction
        intro hne
        exact hx ⟨c, by omega, hp⟩
      subst hcn
      exact ⟨c, by omega, hp, fun j hj => by
        cases hpj : p j with
        | false => rfl
        | true => exact absurd ⟨j, hj, hpj⟩ hx⟩

/-- The inputs that are told part two states, at the last one alone. -/
theorem part_tells {t : Tab} (ok : Ok t) : ∀ (d a b : Nat), a < t.n → b < t.n → Al t d a b → ¬ Al t (d + 1) a b →
    ∃ L : List Nat, partF t (d + 1) a b = L.map (fun (c : Nat) => (c : Int)) ∧ L.length = d + 1 ∧ (∀ c ∈ L, c < wd t) ∧ ∃ pre x y, tellF t a L = pre ++ [x] ∧ tellF t b L = pre ++ [y] ∧ x ≠ y ∧ pre.length = d
  | 0, a, b, ha, hb, h1, h2 => by
    obtain ⟨i, hi, hp, hn⟩ := first_below (not_al ok ha hb h1 h2)
    refine ⟨[i], by rw [partF_hit hi hp hn]; rfl, rfl, by simpa using hi, [], te t a i, te t b i, rfl, rfl, ?_, rfl⟩
    simpa [hitF] using hp
  | d + 1, a, b, ha, hb, h1, h2 => by
    obtain ⟨i, hi, hp, hn⟩ := first_below (not_al ok ha hb h1 h2)
    have hh := ((al_succ ok ha hb).1 h1).2 i hi
    have hna : ¬ Al t (d + 1) (nx t a i) (nx t b i) := by
      unfold hitF at hp
      rw [if_neg (by omega)] at hp
      simp only [Nat.add_sub_cancel, bne_iff_ne, ne_eq] at hp
      exact hp
    obtain ⟨L, e1, e2, e3, pre, x, y, e4, e5, e6, e7⟩ := part_tells ok d _ _ (ok.nx_lt ha hi) (ok.nx_lt hb hi) hh.2 hna
    refine ⟨i :: L, by rw [partF_hit hi hp hn, e1]; rfl, by simp [e2], ?_, te t a i :: pre, x, y, by simp [tellF, e4], by simp [tellF, e5, hh.1], e6, by simp [e7]⟩
    intro c hc
    rcases List.mem_cons.1 hc with rfl | hc
    · exact hi
    · exact e3 c hc

theorem apart_iff {t : Tab} {a b m : Nat} : apartF a b (iter t m) = true ↔ ¬ Al t m a b := by simp [apartF, Al]

theorem idx_same {t : Tab} (ok : Ok t) {k a b : Nat} (ha : a < t.n) (hb : b < t.n) (h : Al t k a b) : idx (apartF a b) (rndF t k) < 0 := by
  rw [idx_miss]
  · omega
  · intro i hi
    rw [rndF_get]
    rw [rndF_len] at hi
    cases he : apartF a b (iter t i) with
    | false => rfl
    | true => exact absurd (al_down ok ha hb (k - i) (by rwa [show i + (k - i) = k by omega])) (apart_iff.1 he)
theorem idx_apart {t : Tab} {k a b : Nat} (ok : Ok t) (ha : a < t.n) (hb : b < t.n) (h : ¬ Al t k a b) : ∃ d, d + 1 ≤ k ∧ idx (apartF a b) (rndF t k) = ((d + 1 : Nat) : Int) ∧ Al t d a b ∧ ¬ Al t (d + 1) a b := by
  obtain ⟨d, hd, h1, h2⟩ := first_such (fun m => ¬ Al t m a b) k ⟨k, Nat.le_refl _, h⟩
  cases d with
  | zero => exact absurd (al_zero ha hb) h1
  | succ d =>
    refine ⟨d, hd, ?_, Classical.not_not.1 (h2 d (by omega)), h1⟩
    have hlen := rndF_len t k
    refine idx_hit (by omega) ?_ ?_
    · rw [rndF_get]
      exact apart_iff.2 h1
    · intro i hi
      rw [rndF_get]
      cases he : apartF a b (iter t i) with
      | false => rfl
      | true => exact absurd (apart_iff.1 he) (h2 i hi)
end Go.Proofs.YtblafkekblaibaaDoor

/-
  What a table tells of inputs; a number below another one.
-/
namespace Go.Proofs.YtblafkekblaibaaDoor
set_option linter.unusedSimpArgs false
set_option linter.unusedVariables false
open Go.Av

def natsI (l : List Nat) : List Int := l.map fun (c : Nat) => (c : Int)
theorem natsI_len (l : List Nat) : (natsI l).length = l.length := by simp [natsI]
theorem natsI_get (l : List Nat) (i : Nat) (h : i < (natsI l).length) : (natsI l)[i] = ((l[i]'(by rw [natsI_len] at h; exact h) : Nat) : Int) := by simp [natsI]
def dNats (l : List Nat) : D := dRow (natsI l)

end Go.Proofs.YtblafkekblaibaaDoor

/-
  A number below another one.
-/
namespace Go.Proofs.YtblafkekblaibaaDoor
set_option linter.unusedSimpArgs false
set_option linter.unusedVariables false
open Go.Av

theorem wrap_u64 (n : Int) : IntKind.u64.wrap n = n % 18446744073709551616 := by
  simp [IntKind.wrap, IntKind.signed, IntKind.bits]

end Go.Proofs.YtblafkekblaibaaDoor
