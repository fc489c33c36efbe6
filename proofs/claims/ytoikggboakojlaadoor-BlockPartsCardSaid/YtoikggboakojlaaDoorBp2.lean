/-
  Texts that belong together, in one file: Av12, Av13, Av14, Av15, Av16, Av17, Av18, Av19, Av23, Av25, Av24, Ty, F1, F2, F3.
-/
import Derived.Test.YtoikggboakojlaaDoorBp1
import Derived.Test.YtoikggboakojlaaDoorProg
/-
  The rule for regions that draw their order; the table of types.
-/
namespace Go.Av
set_option linter.unusedSimpArgs false
set_option linter.unusedVariables false
set_option linter.unusedSectionVars false

section
variable {P : Program} {T : Ty} {Mv X : Nat → Prop} {G : Glob} {N : Nat} {ops : Array Oper}

/-- One operation, its guard considered. -/
def Sx (P : Program) (T : Ty) (Mv : Nat → Prop) (G : Glob) (N : Nat) (ops : Array Oper) (o : Oper) (e : Env) (H : Heap) (x : AV) (H' : Heap) : Prop :=
  okDst N o ∧ ((wantedS ops e o = some true ∧ Ex P T Mv G o e H x H') ∨ (wantedS ops e o = some false ∧ x = und ∧ H' = H))

theorem looks_of_op {o : Oper} {t : Tmp} (h : Operand.tmp t ∈ o.op.operands) : t ∈ o.looksAt ops :=
  List.mem_append_left _ (List.mem_filterMap.2 ⟨.tmp t, by simpa using h, rfl⟩)

theorem wantedS_congr {o : Oper} {e e' : Env} (h : ∀ t ∈ o.looksAt ops, e t = e' t) : wantedS ops e o = wantedS ops e' o := by
  unfold wantedS
  split
  · rfl
  · rename_i j want hg
    unfold gval
    split
    · rename_i d hd
      rw [h d (List.mem_append_right _ (by simp [hg, hd]))]
    · rfl

theorem agree_put {x y : Oper} (h : x.apart ops y = true) {e : Env} {v : AV} : (∀ t ∈ y.looksAt ops, putd e x.dst v t = e t) ∧ (∀ t ∈ x.looksAt ops, putd e y.dst v t = e t) ∧ (∀ d, x.dst = some d → y.dst ≠ some d) := by
  obtain ⟨h1, h2, h3⟩ := Oper.apart_spec h
  exact ⟨fun t ht => putd_get fun e => h1 t e ht, fun t ht => putd_get fun e => h3 t e ht, h2⟩

theorem kinds (o : Op) : kindOf o = 0 ∨ kindOf o = 1 ∨ kindOf o = 2 ∨ kindOf o = 3 ∨ kindOf o = 8 ∨ kindOf o = 9 := by unfold kindOf; split <;> simp

theorem commute {q p : Oper} (hc : compat ops q p = true) {e : Env} {H H1 H2 : Heap} {x y : AV} (hq : Sx P T Mv G N ops q e H x H1) (hp : Sx P T Mv G N ops p (putd e q.dst x) H1 y H2) (hk9 : kindOf q.op ≠ 9) (hk9' : kindOf p.op ≠ 9) :
    ∃ H3, Sx P T Mv G N ops p e H y H3 ∧ Sx P T Mv G N ops q (putd e p.dst y) H3 x H2 := by
  simp only [compat, Bool.and_eq_true] at hc
  obtain ⟨hap, hpass⟩ := hc
  obtain ⟨a1, _, hne⟩ := agree_put hap (e := e) (v := x)
  obtain ⟨_, a2, _⟩ := agree_put hap (e := e) (v := y)
  have wp := wantedS_congr (o := p) (e := putd e q.dst x) (e' := e) a1
  have wq := wantedS_congr (o := q) (e := putd e p.dst y) (e' := e) a2
  have agp : Agree p.op (putd e q.dst x) e := fun t ht => a1 t (looks_of_op ht)
  have agq : Agree q.op e (putd e p.dst y) := fun t ht => (a2 t (looks_of_op ht)).symm
  obtain ⟨dq, hq⟩ := hq
  obtain ⟨dp, hp⟩ := hp
  rw [wp] at hp
  rcases hq with ⟨wq1, eq⟩ | ⟨wq1, rfl, rfl⟩
  · rcases hp with ⟨wp1, ep⟩ | ⟨wp1, rfl, rfl⟩
    · have ep' := ep.congr hk9' agp
      have eq' := eq.congr hk9 agq
      have fin : ∀ H3, Ex P T Mv G p e H y H3 → Ex P T Mv G q (putd e p.dst y) H3 x H2 → ∃ H3, Sx P T Mv G N ops p e H y H3 ∧ Sx P T Mv G N ops q (putd e p.dst y) H3 x H2 := fun H3 h1 h2 =>
        ⟨H3, ⟨dp, .inl ⟨wp1, h1⟩⟩, ⟨dq, .inl ⟨by rw [wq]; exact wq1, h2⟩⟩⟩
      by_cases kp0 : kindOf p.op = 0
      · obtain rfl := ep'.keeps (by omega)
        exact fin H (ep'.free kp0 H) eq'
      · by_cases kq0 : kindOf q.op = 0
        · obtain rfl := eq.keeps (by omega)
          exact fin H2 ep' (eq'.free kq0 H2)
        · by_cases kk : kindOf q.op ≤ 2 ∧ kindOf p.op ≤ 2
          · obtain rfl := eq.keeps kk.1
            obtain rfl := ep'.keeps kk.2
            exact fin _ ep' eq'
          · by_cases k3 : kindOf q.op = 3 ∧ kindOf p.op = 3
            · obtain ⟨d, row, hd, hn, rfl, hall⟩ := eq'.makes k3.1
              obtain ⟨d', row', hd', hn', rfl, hall'⟩ := ep'.makes k3.2
              have hdd : d ≠ d' := fun e => hne d hd (by rw [hd', e])
              have hn2 : H d' = none := by simpa [hup, Ne.symm hdd] using hn'
              have : hup (hup H d row) d' row' = hup (hup H d' row') d row := by
                funext i
                by_cases h1 : i = d <;> by_cases h2 : i = d' <;> simp [hup, h1, h2, hdd, Ne.symm hdd]
              exact fin _ (hall' H hn2) (by rw [this]; exact hall _ (by simpa [hup, hdd] using hn))
            · by_cases k13 : kindOf q.op = 1 ∧ kindOf p.op = 3
              · obtain rfl := eq.keeps (by omega)
                obtain ⟨d, row, hd, hn, rfl, hall⟩ := ep'.makes k13.2
                exact fin _ ep' (eq'.grow k13.1 hn row)
              exfalso
              revert hpass
              have c1 : kindOf q.op = 1 ∨ kindOf q.op = 2 ∨ kindOf q.op = 3 ∨ kindOf q.op = 8 := by have := kinds q.op; omega
              have c2 : kindOf p.op = 1 ∨ kindOf p.op = 2 ∨ kindOf p.op = 3 ∨ kindOf p.op = 8 := by have := kinds p.op; omega
              rcases c1 with c1 | c1 | c1 | c1 <;> rcases c2 with c2 | c2 | c2 | c2 <;> rw [c1, c2] <;> first | (simp [mayPass]; done) | (exfalso; apply kk; omega) | (exfalso; exact k3 ⟨c1, c2⟩) | (exfalso; exact k13 ⟨c1, c2⟩)
    · exact ⟨H, ⟨dp, .inr ⟨wp1, rfl, rfl⟩⟩, ⟨dq, .inl ⟨by rw [wq]; exact wq1, eq.congr hk9 agq⟩⟩⟩
  · rcases hp with ⟨wp1, ep⟩ | ⟨wp1, rfl, rfl⟩
    · exact ⟨H2, ⟨dp, .inl ⟨wp1, ep.congr hk9' agp⟩⟩, ⟨dq, .inr ⟨by rw [wq]; exact wq1, rfl, rfl⟩⟩⟩
    · exact ⟨_, ⟨dp, .inr ⟨wp1, rfl, rfl⟩⟩, ⟨dq, .inr ⟨by rw [wq]; exact wq1, rfl, rfl⟩⟩⟩

/-- The run over places, in some order. -/
def run (P : Program) (T : Ty) (Mv : Nat → Prop) (G : Glob) (N : Nat) (ops : Array Oper) : List Nat → St → St → Prop
  | [], σ, σ' => σ = σ'
  | i :: l, σ, σ' => ∃ o, ops[i]? = some o ∧ ∃ σ1, stepTo P T Mv G N ops o σ σ1 ∧ run P T Mv G N ops l σ1 σ'

theorem stepTo_Sx {o : Oper} (hk : kindOf o.op ≠ 9) {σ σ' : St} : stepTo P T Mv G N ops o σ σ' ↔ ∃ x H', Sx P T Mv G N ops o σ.env σ.H x H' ∧ σ' = ⟨putd σ.env o.dst x, H'⟩ := by
  constructor
  · rintro ⟨hd, ⟨hw, h⟩ | ⟨hw, rfl⟩⟩
    · obtain ⟨x, H', h1, h2⟩ := Ex.of hk h
      exact ⟨x, H', ⟨hd, .inl ⟨hw, h1⟩⟩, h2⟩
    · exact ⟨und, σ.H, ⟨hd, .inr ⟨hw, rfl, rfl⟩⟩, rfl⟩
  · rintro ⟨x, H', ⟨hd, ⟨hw, h⟩ | ⟨hw, rfl, rfl⟩⟩, rfl⟩
    · exact ⟨hd, .inl ⟨hw, h.to⟩⟩
    · exact ⟨hd, .inr ⟨hw, rfl⟩⟩

theorem run_swap {i j : Nat} {l : List Nat} {σ σ' : St} {oi oj : Oper} (hi : ops[i]? = some oi) (hj : ops[j]? = some oj) (hc : compat ops oi oj = true) (h : run P T Mv G N ops (i :: j :: l) σ σ') : run P T Mv G N ops (j :: i :: l) σ σ' := by
  obtain ⟨o1, h1, σ1, s1, o2, h2, σ2, s2, rest⟩ := h
  rw [hi] at h1
  rw [hj] at h2
  obtain rfl := Option.some.inj h1
  obtain rfl := Option.some.inj h2
  have hk : kindOf oi.op ≠ 9 := by
    intro e
    simp only [compat, Bool.and_eq_true, e] at hc
    have := hc.2
    revert this
    have b2 : kindOf oj.op = 0 ∨ kindOf oj.op = 1 ∨ kindOf oj.op = 2 ∨ kindOf oj.op = 3 ∨ kindOf oj.op = 8 ∨ kindOf oj.op = 9 := by unfold kindOf; split <;> simp
    rcases b2 with b | b | b | b | b | b <;> rw [b] <;> simp [mayPass]
  have hk' : kindOf oj.op ≠ 9 := by
    intro e
    simp only [compat, Bool.and_eq_true, e] at hc
    have := hc.2
    revert this
    have b2 : kindOf oi.op = 0 ∨ kindOf oi.op = 1 ∨ kindOf oi.op = 2 ∨ kindOf oi.op = 3 ∨ kindOf oi.op = 8 ∨ kindOf oi.op = 9 := by unfold kindOf; split <;> simp
    rcases b2 with b | b | b | b | b | b <;> rw [b] <;> simp [mayPass]
  obtain ⟨x, H1, e1, rfl⟩ := (stepTo_Sx hk).1 s1
  obtain ⟨y, H2, e2, rfl⟩ := (stepTo_Sx hk').1 s2
  obtain ⟨H3, f1, f2⟩ := commute hc e1 e2 hk hk'
  refine ⟨oj, hj, _, (stepTo_Sx hk').2 ⟨y, H3, f1, rfl⟩, oi, hi, _, (stepTo_Sx hk).2 ⟨x, H2, f2, rfl⟩, ?_⟩
  have hcomm : putd (putd σ.env oi.dst x) oj.dst y = putd (putd σ.env oj.dst y) oi.dst x := by
    simp only [compat, Bool.and_eq_true] at hc
    exact putd_comm (agree_put hc.1 (e := σ.env) (v := x)).2.2
  dsimp only at rest ⊢
  rw [hcomm] at rest
  exact rest

theorem run_front {p : Nat} {op : Oper} (hp : ops[p]? = some op) : ∀ (l1 : List Nat) {l2 : List Nat} {σ σ' : St}, (∀ q ∈ l1, ∀ oq, ops[q]? = some oq → compat ops oq op = true) → run P T Mv G N ops (l1 ++ p :: l2) σ σ' → run P T Mv G N ops (p :: (l1 ++ l2)) σ σ' := by
  intro l1
  induction l1 with
  | nil => intro l2 σ σ' _ h; exact h
  | cons q l1 ih =>
    intro l2 σ σ' hall h
    obtain ⟨oq, hq, σ1, s1, rest⟩ := h
    have := ih (fun q' hq' => hall q' (by simp [hq'])) rest
    have h2 : run P T Mv G N ops (q :: p :: (l1 ++ l2)) σ σ' := ⟨oq, hq, σ1, s1, this⟩
    exact run_swap hq hp (hall q (by simp) oq hq) h2

/-! ### What stands behind what -/

theorem tbGo_len : ∀ (l : List Oper) (acc : List Nat), (tbGo l acc).length = acc.length + l.length
  | [], acc => by simp [tbGo]
  | o :: l, acc => by simp [tbGo, tbGo_len l]; omega
theorem tbGo_pre : ∀ (l : List Oper) (acc : List Nat) (k : Nat), k < acc.length → (tbGo l acc).getD k 0 = acc.getD k 0
  | [], _, _, _ => rfl
  | o :: l, acc, k, hk => by
    rw [tbGo, tbGo_pre l _ k (by simp; omega)]
    simp [List.getD_eq_getElem?_getD, List.getElem?_append_left hk]

theorem bits_mem {acc : List Nat} {o : Oper} {q : Nat} (h : (bitsOf acc o).testBit q = true) : ∃ e ∈ o.after, Region.binds .any e = true ∧ (q = e.on ∨ (acc.getD e.on 0).testBit q = true) := by
  unfold bitsOf at h
  have key : ∀ (l : List Edge), (l.foldr (fun e s => if Region.binds .any e then (2 ^ e.on ||| acc.getD e.on 0) ||| s else s) 0).testBit q = true → ∃ e ∈ l, Region.binds .any e = true ∧ (q = e.on ∨ (acc.getD e.on 0).testBit q = true) := by
    intro l
    induction l with
    | nil => intro h; simp at h
    | cons e l ih =>
      intro h
      rw [List.foldr_cons] at h
      split at h
      · rename_i hb
        rw [Nat.testBit_or, Nat.testBit_or, Bool.or_eq_true, Bool.or_eq_true] at h
        rcases h with (h | h) | h
        · rw [Nat.testBit_two_pow] at h
          have h' : e.on = q := by simpa using h
          exact ⟨e, by simp, hb, .inl h'.symm⟩
        · exact ⟨e, by simp, hb, .inr h⟩
        · obtain ⟨e', he', r⟩ := ih h
          exact ⟨e', by simp [he'], r⟩
      · obtain ⟨e', he', r⟩ := ih h
        exact ⟨e', by simp [he'], r⟩
  obtain ⟨e, he, r⟩ := key _ h
  exact ⟨e, by simpa using he, r⟩

theorem tb_bits : ∀ (l : List Oper) (acc : List Nat) (j : Nat) (o : Oper) (q : Nat), l[j]? = some o → ((tbGo l acc).getD (acc.length + j) 0).testBit q = true → ∃ e ∈ o.after, Region.binds .any e = true ∧ (q = e.on ∨ (e.on < acc.length + j ∧ ((tbGo l acc).getD e.on 0).testBit q = true))
  | [], _, _, _, _, h, _ => by simp at h
  | o' :: l, acc, 0, o, q, h, hb => by
    simp at h
    subst h
    rw [tbGo, tbGo_pre l _ _ (by simp)] at hb
    simp [List.getD_eq_getElem?_getD] at hb
    obtain ⟨e, he, hbd, r⟩ := bits_mem hb
    refine ⟨e, he, hbd, r.imp id fun r => ?_⟩
    have hlt : e.on < acc.length := by
      rcases Nat.lt_or_ge e.on acc.length with h | h
      · exact h
      · simp [List.getD_eq_getElem?_getD, List.getElem?_eq_none h] at r
    refine ⟨by omega, ?_⟩
    rw [tbGo, tbGo_pre l _ _ (by simp; omega)]
    simpa [List.getD_eq_getElem?_getD, List.getElem?_append_left hlt] using r
  | o' :: l, acc, j + 1, o, q, h, hb => by
    have := tb_bits l (acc ++ [bitsOf acc o']) j o q (by simpa using h) (by rw [tbGo] at hb; simpa [Nat.add_assoc, Nat.add_comm 1 j] using hb)
    obtain ⟨e, he, hbd, r⟩ := this
    refine ⟨e, he, hbd, r.imp id fun r => ?_⟩
    rw [tbGo]
    exact ⟨by have := r.1; simp at this; omega, r.2⟩

theorem okDraw_spec (h : okDraw ops = true) {j : Nat} {oj : Oper} (hj : ops[j]? = some oj) : (∀ e ∈ oj.after, Region.binds .any e = true → e.on < j) ∧
    ∀ i oi, i < j → ops[i]? = some oi → ((tb ops).getD j 0).testBit i = true ∨ (compat ops oi oj = true ∧ compat ops oj oi = true) := by
  unfold okDraw at h
  have h1 := List.all_eq_true.1 h j (List.mem_range.2 (Array.getElem?_eq_some_iff.1 hj).1)
  simp only [hj, Bool.and_eq_true] at h1
  refine ⟨fun e he hb => ?_, fun i oi hi hoi => ?_⟩
  · have := Array.all_eq_true_iff_forall_mem.1 h1.1 e he
    simpa [hb] using this
  · have := List.all_eq_true.1 h1.2 i (List.mem_range.2 hi)
    simpa [hoi] using this

/-- Whoever may come up now stands behind nothing that is not listed. -/
theorem behind_listed (hok : okDraw ops = true) {listed : Array Bool} (hdown : ∀ j oj, ops[j]? = some oj → listed.getD j false = true → ∀ e ∈ oj.after, Region.binds .any e = true → listed.getD e.on false = true) :
    ∀ (n j : Nat) (oj : Oper), j ≤ n → ops[j]? = some oj → (∀ e ∈ oj.after, Region.binds .any e = true → listed.getD e.on false = true) → ∀ q, ((tb ops).getD j 0).testBit q = true → listed.getD q false = true := by
  intro n
  induction n with
  | zero =>
    intro j oj hj hoj hall q hq
    have hj0 : j = 0 := by omega
    subst hj0
    obtain ⟨e, he, hb, _⟩ := tb_bits ops.toList [] 0 oj q (by simpa using hoj) (by simpa [tb] using hq)
    have := (okDraw_spec hok hoj).1 e he hb
    omega
  | succ n ih =>
    intro j oj hj hoj hall q hq
    obtain ⟨e, he, hb, r⟩ := tb_bits ops.toList [] j oj q (by simpa using hoj) (by simpa [tb] using hq)
    rcases r with rfl | ⟨_, r⟩
    · exact hall e he hb
    · have hlt := (okDraw_spec hok hoj).1 e he hb
      have hlt2 : e.on < ops.size := by have := (Array.getElem?_eq_some_iff.1 hoj).1; omega
      exact ih e.on ops[e.on] (by omega) (by simp [hlt2]) (fun e' he' hb' => hdown e.on _ (by simp [hlt2]) (hall e he hb) e' he' hb') q (by simpa [tb] using r)

theorem any_ok (hg : Good P T) (hok : okDraw ops = true) {Q : Exit → St → Prop} {w0 : World} {μ0 : Mu} {σn : St} (hQ : Q .normal σn) : ∀ (n : Nat) (R : List Nat) (listed : Array Bool) (w : World) (μ : Mu) (a : Act) (σ : St), R.length = n → R.Nodup →
    (∀ j, j ∈ R ↔ j < ops.size ∧ listed.getD j true = false) → listed.size = ops.size → (R.Pairwise (· < ·)) →
    (∀ j oj, ops[j]? = some oj → listed.getD j false = true → ∀ e ∈ oj.after, Region.binds .any e = true → listed.getD e.on false = true) → run P T Mv G N ops R σ σn → In w X G μ N a σ → Ev Mv w0 μ0 w μ →
    wpAny P .any ops (After Mv X G N w0 μ0 Q) n listed a w := by
  intro n
  induction n with
  | zero =>
    intro R listed w μ a σ hl _ hR hsz _ _ hrun hi hev
    have : R = [] := List.eq_nil_of_length_eq_zero hl
    subst this
    have hr : Region.ready .any ops listed = [] := by
      apply List.eq_nil_iff_forall_not_mem.2
      intro j hj
      obtain ⟨h1, o, ho, _⟩ := mem_ready.1 hj
      exact absurd ((hR j).2 ⟨(Array.getElem?_eq_some_iff.1 ho).1, h1⟩) (by simp)
    have : σ = σn := hrun
    subst this
    exact ⟨hr, μ, σ, hQ, hi, hev⟩
  | succ n ih =>
    intro R listed w μ a σ hl hnd hR hsz hpw hdown hrun hi hev
    refine ⟨fun hr => ?_, fun i hir => ?_⟩
    · -- the first of the rest may come up
      cases R with
      | nil => simp at hl
      | cons j R =>
        obtain ⟨hj1, hj2⟩ := (hR j).1 (by simp)
        have hjr : j ∈ Region.ready .any ops listed := by
          refine mem_ready.2 ⟨hj2, ops[j], by simp [hj1], fun e he hb => ?_⟩
          have hlt := (okDraw_spec hok (j := j) (oj := ops[j]) (by simp [hj1])).1 e he hb
          have hne : e.on ∉ (j :: R) := by
            intro hm
            rcases List.mem_cons.1 hm with h | h
            · omega
            · have := (List.pairwise_cons.1 hpw).1 _ h
              omega
          have := mt (hR e.on).2 hne
          have hlt2 : e.on < ops.size := by omega
          have hls : e.on < listed.size := by omega
          simp only [hlt2, true_and, Array.getD_eq_getD_getElem?] at this ⊢
          simp [hls] at this ⊢
          exact this
        rw [hr] at hjr
        cases hjr
    · obtain ⟨hi1, oi, hoi, hall⟩ := mem_ready.1 hir
      have hiR : i ∈ R := (hR i).2 ⟨(Array.getElem?_eq_some_iff.1 hoi).1, hi1⟩
      obtain ⟨R1, R2, rfl⟩ := List.append_of_mem hiR
      have hfront := run_front (P := P) (T := T) (Mv := Mv) (G := G) (N := N) hoi R1 (fun q hq oq hoq => by
        have hqlt : q < i := by
          have := (List.pairwise_append.1 hpw).2.2 q hq i (by simp)
          exact this
        rcases (okDraw_spec hok hoi).2 q oq hqlt hoq with h | h
        · exfalso
          have hlq := behind_listed hok hdown i i oi (Nat.le_refl _) hoi hall q h
          have hq2 := ((hR q).1 (by simp [hq])).2
          have hqs : q < listed.size := by have := (Array.getElem?_eq_some_iff.1 hoq).1; omega
          simp [Array.getD_eq_getD_getElem?, hqs] at hlq hq2
          rw [hlq] at hq2; cases hq2
        · exact h.1) hrun
      obtain ⟨o', ho', σ1, hstep, hrest⟩ := hfront
      rw [hoi] at ho'
      obtain rfl := Option.some.inj ho'
      refine stepTo_ok hg hstep hi hoi fun w' μ' a' hin hev' => ?_
      have hnd' : (R1 ++ R2).Nodup := by
        have := hnd
        rw [List.nodup_append] at this ⊢
        obtain ⟨g1, g2, g3⟩ := this
        exact ⟨g1, (List.nodup_cons.1 g2).2, fun x hx y hy => g3 x hx y (by simp [hy])⟩
      have hi_not : i ∉ R1 ++ R2 := by
        have := hnd
        rw [List.nodup_append] at this
        obtain ⟨g1, g2, g3⟩ := this
        intro hm
        rcases List.mem_append.1 hm with h | h
        · exact g3 i h i (by simp) rfl
        · exact (List.nodup_cons.1 g2).1 h
      refine ih (R1 ++ R2) _ w' μ' a' σ1 (by simp at hl ⊢; omega) hnd' (fun j => ?_) (by simpa using hsz) ?_ ?_ hrest hin (hev.trans hev')
      · by_cases hji : j = i
        · subst hji
          have hls : j < listed.size := by rw [hsz]; exact (Array.getElem?_eq_some_iff.1 hoi).1
          simp [hls]
          simpa using hi_not
        · rw [getD_set_ne true (Ne.symm hji)]
          rw [← hR j]
          simp [hji]
      · rw [List.pairwise_append] at hpw ⊢
        obtain ⟨g1, g2, g3⟩ := hpw
        exact ⟨g1, (List.pairwise_cons.1 g2).2, fun x hx y hy => g3 x hx y (by simp [hy])⟩
      · intro j oj hoj hlj e he hb
        by_cases hji : j = i
        · subst hji
          rw [hoi] at hoj
          obtain rfl := Option.some.inj hoj
          exact getD_set_true (hall e he hb)
        · rw [getD_set_ne false (Ne.symm hji)] at hlj
          exact getD_set_true (hdown j oj hoj hlj e he hb)

/-- The run in the order of the text, as one computes it. -/
def sxq (P : Program) (T : Ty) (Mv : Nat → Prop) (G : Glob) (N : Nat) (ops : Array Oper) (K : St → Prop) : List Oper → St → Prop
  | [], σ => K σ
  | o :: rest, σ => okDst N o ∧ match wantedS ops σ.env o with
    | some b => if b = true then (match isCall o.op with
        | some c => ∃ y, callTo P G σ c y ∧ sxq P T Mv G N ops K rest ⟨putd σ.env o.dst (.d y), σ.H⟩
        | none => plainS T G Mv o σ (sxq P T Mv G N ops K rest)) else sxq P T Mv G N ops K rest ⟨putd σ.env o.dst und, σ.H⟩
    | none => False

theorem sxq_chain {K : St → Prop} : ∀ (l : List Oper) (k : Nat) (σ : St), (∀ j, l[j]? = ops[k + j]?) → sxq P T Mv G N ops K l σ → ∃ σn, K σn ∧ run P T Mv G N ops (List.range' k l.length) σ σn := by
  intro l
  induction l with
  | nil => intro k σ _ h; exact ⟨σ, h, rfl⟩
  | cons o l ih =>
    intro k σ hl h
    have h0 : ops[k]? = some o := by simpa using (hl 0).symm
    have hl' : ∀ j, l[j]? = ops[k + 1 + j]? := fun j => by have := hl (j + 1); simpa [Nat.add_assoc, Nat.add_comm 1 j] using this
    obtain ⟨hd, h⟩ := h
    rw [List.length_cons, List.range'_succ]
    have fin : ∀ σ1, stepTo P T Mv G N ops o σ σ1 → sxq P T Mv G N ops K l σ1 → ∃ σn, K σn ∧ run P T Mv G N ops (k :: List.range' (k + 1) l.length) σ σn := by
      intro σ1 hs hq
      obtain ⟨σn, hk, hr⟩ := ih (k + 1) σ1 hl' hq
      exact ⟨σn, hk, o, h0, σ1, hs, hr⟩
    split at h
    · rename_i b hb
      split at h
      · rename_i hbt
        subst hbt
        split at h
        · rename_i c hc
          obtain ⟨y, hy, h⟩ := h
          refine fin _ ⟨hd, .inl ⟨hb, ?_⟩⟩ h
          unfold exTo
          simp only [hc]
          exact ⟨y, hy, rfl⟩
        · rename_i hc
          unfold plainS at h
          split at h
          · rename_i hw
            split at h
            · rename_i c x σ1 h1
              refine fin _ ⟨hd, .inl ⟨hb, ?_⟩⟩ h.2
              unfold exTo
              simp only [hc]
              rw [if_pos hw]
              exact ⟨c, x, σ1, h1, h.1, rfl⟩
            · exact h.elim
          · rename_i hw
            split at h
            · rename_i c x h1
              refine fin _ ⟨hd, .inl ⟨hb, ?_⟩⟩ h.2
              unfold exTo
              simp only [hc]
              rw [if_neg hw]
              exact ⟨c, x, h1, h.1, rfl⟩
            · exact h.elim
      · rename_i hbf
        have : b = false := by simpa using hbf
        subst this
        exact fin _ ⟨hd, .inr ⟨hb, rfl⟩⟩ h
    · exact h.elim

/-- A REGION THAT DRAWS ITS ORDER: one run in the order of the text. -/
theorem AW_region_draw (hg : Good P T) (hm : P.follows .mixedOrders = true) {id : Nat} (hok : okDraw ops = true) {Q : Exit → St → Prop} {σ : St} (h : sxq P T Mv G N ops (fun σ' => Q .normal σ') ops.toList σ) : AW P Mv X G N (.region id ops true) Q σ := fun w μ a hi => by
  obtain ⟨σn, hQ, hrun⟩ := sxq_chain ops.toList 0 σ (by simp) h
  refine wp_region_any hm ?_
  obtain ⟨hin, hev⟩ := hi.grew (Mv := Mv) (Grew.drew w)
  refine any_ok hg hok hQ ops.size (List.range' 0 ops.toList.length) _ w.drew μ a σ (by simp) (by simpa using List.nodup_range') (fun j => ?_) (by simp) (by simpa using List.pairwise_lt_range') ?_ hrun hin hev
  · simp [List.mem_range'_1]
    intro h
    simp [Array.getD_eq_getD_getElem?, h]
  · intro j oj hoj hlj
    have hj := (Array.getElem?_eq_some_iff.1 hoj).1
    simp [Array.getD_eq_getD_getElem?, hj] at hlj
end

/-! ### The table of types -/

def tyOf (P : Program) : Ty := fun t => match P.underlying t, P.info? t with
  | some d, some i => i.zero.map fun z => ⟨d, i.size, i.bytes, z⟩
  | _, _ => none

theorem tyOf_good (P : Program) : Good P (tyOf P) := by
  intro t ti h
  unfold tyOf at h
  split at h
  · rename_i d i hd hi
    obtain ⟨z, hz, rfl⟩ := Option.map_eq_some_iff.1 h
    exact ⟨hd, i, hi, rfl, rfl, hz⟩
  · cases h

end Go.Av

/-
  Rules in the forms that proofs use: what follows stands behind a name; slots that are not wanted any more are forgotten.
-/
namespace Go.Av
set_option linter.unusedSimpArgs false
set_option linter.unusedVariables false
set_option linter.unusedSectionVars false

/-- The slots that are still wanted, written out. -/
def liveL : List Nat → Env → List (Nat × AV)
  | [], _ => []
  | i :: l, e => match e i with
    | some x => (i, x) :: liveL l e
    | none => liveL l e

section
variable {P : Program} {T : Ty} {Mv X : Nat → Prop} {G : Glob} {N : Nat} {σ : St}

theorem Imp.env {e e' : Env} {H : Heap} (h : ∀ i x, e' i = some x → e i = some x) : Imp Mv X G N ⟨e, H⟩ ⟨e', H⟩ := fun w μ _ hi =>
  ⟨μ, ⟨hi.sim, ⟨hi.env.defers, hi.env.size, fun i x hx => hi.env.slot i x (h i x hx)⟩, hi.glob⟩, .refl _ w μ⟩

theorem lst_live {e : Env} : ∀ {l : List Nat} {i : Nat} {x : AV}, lst (liveL l e) i = some x → e i = some x
  | [], _, _, h => by simp [lst, liveL] at h
  | j :: l, i, x, h => by
    simp only [liveL] at h
    split at h
    · rename_i y hy
      simp only [lst, List.lookup] at h
      split at h
      · rename_i hij
        have : i = j := by simpa using hij
        subst this
        obtain rfl := Option.some.inj h
        exact hy
      · exact lst_live (l := l) h
    · exact lst_live (l := l) h

theorem AW.live (l : List Nat) {c : Code} {Q : Exit → St → Prop} {e : Env} {H : Heap} (h : AW P Mv X G N c Q ⟨lst (liveL l e), H⟩) : AW P Mv X G N c Q ⟨e, H⟩ := AW.imp (Imp.env fun _ _ => lst_live) h

/-- A region, then what follows. -/
theorem AW_reg (hg : Good P T) (l : List Nat) {id : Nat} {ops : Array Oper} {y : Code} {Q : Exit → St → Prop} (h : ∀ K : St → Prop, (∀ e H, AW P Mv X G N y Q ⟨lst (liveL l e), H⟩ → K ⟨e, H⟩) → sxs P T Mv X G N ops K ops.toList σ) : AW P Mv X G N (.seq (.region id ops false) y) Q σ :=
  AW_seq (AW_region hg (h _ fun _ _ h => h.live l))

theorem AW_reg_draw (hg : Good P T) (hm : P.follows .mixedOrders = true) (l : List Nat) {id : Nat} {ops : Array Oper} (hok : okDraw ops = true) {y : Code} {Q : Exit → St → Prop} (h : ∀ K : St → Prop, (∀ e H, AW P Mv X G N y Q ⟨lst (liveL l e), H⟩ → K ⟨e, H⟩) → sxq P T Mv G N ops K ops.toList σ) : AW P Mv X G N (.seq (.region id ops true) y) Q σ :=
  AW_seq (AW_region_draw hg hm hok (h _ fun _ _ h => h.live l))

/-- A region at the end. -/
theorem AW_reg_end (hg : Good P T) (l : List Nat) {id : Nat} {ops : Array Oper} {Q : Exit → St → Prop} (h : ∀ K : St → Prop, (∀ e H, (∀ e', (∀ i x, e' i = some x → e i = some x) → e' = e → Q .normal ⟨e', H⟩) → K ⟨e, H⟩) → sxs P T Mv X G N ops K ops.toList σ) : AW P Mv X G N (.region id ops false) Q σ :=
  AW_region hg (h _ fun e _ h => h e (fun _ _ h => h) rfl)

/-- Two codes, the second one behind a name. -/
theorem AW_then {x y : Code} {Q : Exit → St → Prop} (h : ∀ K : St → Prop, (∀ σ', AW P Mv X G N y Q σ' → K σ') → AW P Mv X G N x (thn K Q) σ) : AW P Mv X G N (.seq x y) Q σ := AW_seq (h _ fun _ h => h)

theorem lst_mem : ∀ {l : List (Nat × AV)} {i : Nat} {x : AV}, lst l i = some x → (i, x) ∈ l
  | [], _, _, h => by simp [lst] at h
  | (j, y) :: l, i, x, h => by
    simp only [lst, List.lookup] at h
    split at h
    · rename_i hij
      have : i = j := by simpa using hij
      subst this
      obtain rfl := Option.some.inj h
      simp
    · exact List.mem_cons_of_mem _ (lst_mem (l := l) h)

theorem Imp.lst {e : Env} {H : Heap} {l : List (Nat × AV)} (h : ∀ p ∈ l, e p.1 = some p.2) : Imp Mv X G N ⟨e, H⟩ ⟨lst l, H⟩ := Imp.env fun i x hx => h (i, x) (lst_mem hx)

/-- The next round's state: some s, less than before. -/
def Again (Mv X : Nat → Prop) (G : Glob) (N : Nat) {S : Type} (I : S → Prop) (inv : S → St) (meas : S → Nat) (s : S) (σ : St) : Prop := ∃ s', I s' ∧ meas s' < meas s ∧ Imp Mv X G N σ (inv s')

theorem Again.mk {S : Type} {I : S → Prop} {inv : S → St} {meas : S → Nat} {s : S} (s' : S) (hI : I s') (hm : meas s' < meas s) (h : Imp Mv X G N σ (inv s')) : Again Mv X G N I inv meas s σ := ⟨s', hI, hm, h⟩

/-- A loop inside its block, and what follows. -/
theorem AW_for {S : Type} {id : Nat} {c : Code} {Q : Exit → St → Prop} (I : S → Prop) (inv : S → St) (meas : S → Nat) (s0 : S) (h0 : Imp Mv X G N σ (inv s0)) (hI : I s0)
    (round : ∀ s, I s → AW P Mv X G N c (thn (Again Mv X G N I inv meas s) (inb id Q)) (inv s)) : AW P Mv X G N (.block id (.loop c)) Q σ :=
  AW_block (AW_loop (S := {s // I s}) (fun s => inv s.1) (fun s => meas s.1) ⟨s0, hI⟩ h0 fun s => (round s.1 s.2).mono fun e τ q => by
    cases e with
    | normal => obtain ⟨s', h1, h2, h3⟩ := q; exact ⟨⟨s', h1⟩, h2, h3⟩
    | _ => exact q)

theorem AW_cond' {c : Operand} {x y : Code} {Q : Exit → St → Prop} {b : Prop} [Decidable b] (hc : aeval G σ.env c = some (.d (.v (.bool (decide b))))) (ht : b → AW P Mv X G N x Q σ) (hf : ¬ b → AW P Mv X G N y Q σ) : AW P Mv X G N (.cond c x y) Q σ :=
  AW_cond (decide b) hc (fun h => ht (of_decide_eq_true h)) (fun h => hf (of_decide_eq_false h))
end
end Go.Av

/-
  Steps of ghosts: what is owned becomes data, is forgotten, or is taken up.
-/
namespace Go.Av
set_option linter.unusedSimpArgs false
set_option linter.unusedVariables false
set_option linter.unusedSectionVars false

def mkTup (l : List AV) : AV := match allD l with
  | some ds => .d (.tup ds)
  | none => .tup l

/-- Handles are put anew. -/
def AV.tr (o f : Nat → Nat → Nat → AV) : AV → AV
  | .d x => .d x
  | .own q off n => o q off n
  | .ref q e j => f q e j
  | .agg cells => mkAgg (go o f cells)
  | .tup vs => mkTup (go o f vs)
  | .ifc t x => mkIfc t (x.tr o f)
  | .fn g caps => mkFn g (go o f caps)
  | .dead => .dead
where
  go (o f : Nat → Nat → Nat → AV) : List AV → List AV
  | [] => []
  | x :: l => x.tr o f :: go o f l

theorem AV.trGo_eq (o f : Nat → Nat → Nat → AV) (l : List AV) : AV.tr.go o f l = l.map (AV.tr o f) := by
  induction l with
  | nil => rfl
  | cons x l ih => simp [AV.tr.go, ih]

def Row.tr (o f : Nat → Nat → Nat → AV) : Row → Row
  | .sl ty sz els => .sl ty sz els
  | .box ty cells => .box ty (cells.map (AV.tr o f))

def trE (o f : Nat → Nat → Nat → AV) (e : Env) : Env := fun i => (e i).map (AV.tr o f)
def trH (keep : Nat → Bool) (o f : Nat → Nat → Nat → AV) (H : Heap) : Heap := fun r => if keep r then (H r).map (Row.tr o f) else none
def mfilt (keep : Nat → Bool) (μ : Mu) : Mu := fun r => if keep r then μ r else none

section
variable {P : Program} {T : Ty} {Mv X : Nat → Prop} {G : Glob} {N : Nat} {w : World} {μ : Mu} {a : Act} {σ : St}

theorem mkTup_ok {u : Value} {l : List AV} (h : RV w X μ u (.tup l)) : RV w X μ u (mkTup l) := by
  unfold mkTup
  split
  · rename_i ds hd
    rw [allD_eq hd] at h
    obtain ⟨arr, rfl, hn, hr⟩ := h.tup_inv
    refine .d (.tup (by simpa using hn) fun j u c hu hc => ?_)
    exact (hr j u (.d c) hu (by rw [List.getElem?_map, hc]; rfl)).data
  · exact h

theorem mfilt_some {keep : Nat → Bool} {r : Nat} {m : MRow} (h : mfilt keep μ r = some m) : keep r = true ∧ μ r = some m := by
  unfold mfilt at h
  split at h
  · rename_i hk; exact ⟨hk, h⟩
  · cases h

theorem XX_mfilt {keep : Nat → Bool} {b : Nat} (h : XX X (mfilt keep μ) b) : XX X μ b := h.elim .inl fun ⟨r, m, hr, hb⟩ => .inr ⟨r, m, (mfilt_some hr).2, hb⟩

theorem RV.tr {μ' : Mu} {o f : Nat → Nat → Nat → AV} (hX : ∀ b, XX X μ' b → XX X μ b) (ho : ∀ u r off n, RV w X μ u (.own r off n) → RV w X μ' u (o r off n)) (hf : ∀ u r e j, RV w X μ u (.ref r e j) → RV w X μ' u (f r e j)) :
    ∀ {v : Value} {x : AV}, RV w X μ v x → RV w X μ' v (x.tr o f) := by
  intro v x hr
  induction hr with
  | d h' => exact .d (h'.mono (Nat.le_refl _) fun b _ hb => ⟨rfl, fun e => hb (hX b e)⟩)
  | own hm h' => exact ho _ _ _ _ (.own hm h')
  | ref hm hb => exact hf _ _ _ _ (.ref hm hb)
  | agg hn _ ih =>
    rw [AV.tr, AV.trGo_eq]
    refine mkAgg_ok (.agg (by simpa using hn) fun j u c hu hc => ?_)
    rw [List.getElem?_map] at hc
    obtain ⟨c', hc', rfl⟩ := Option.map_eq_some_iff.1 hc
    exact ih j u c' hu hc'
  | tup hn _ ih =>
    rw [AV.tr, AV.trGo_eq]
    refine mkTup_ok (.tup (by simpa using hn) fun j u c hu hc => ?_)
    rw [List.getElem?_map] at hc
    obtain ⟨c', hc', rfl⟩ := Option.map_eq_some_iff.1 hc
    exact ih j u c' hu hc'
  | ifc _ ih => exact mkIfc_ok ih
  | fn hn _ ih =>
    rw [AV.tr, AV.trGo_eq]
    refine mkFn_ok (by simpa using hn) fun j u c hu hc => ?_
    rw [List.getElem?_map] at hc
    obtain ⟨c', hc', rfl⟩ := Option.map_eq_some_iff.1 hc
    exact ih j u c' hu hc'
  | dead u => exact .dead u

theorem ev_mfilt {keep : Nat → Bool} (hk : ∀ r m, μ r = some m → keep r = false → Mv r) : Ev Mv w μ w (mfilt keep μ) := by
  refine ⟨Nat.le_refl _, rfl, rfl, rfl, fun b hb hr => ⟨rfl, ?_⟩, fun q mq hq hn => ?_⟩
  · rintro ⟨q, mq, hq, hbq⟩
    exact hr ⟨q, mq, (mfilt_some hq).2, hbq⟩
  · unfold mfilt
    cases h : keep q with
    | true => simpa using hq
    | false => exact absurd (hk q mq hq h) hn

theorem In.tr {keep : Nat → Bool} {o f : Nat → Nat → Nat → AV} (hi : In w X G μ N a σ) (ho : ∀ u r off n, RV w X μ u (.own r off n) → RV w X (mfilt keep μ) u (o r off n)) (hf : ∀ u r e j, RV w X μ u (.ref r e j) → RV w X (mfilt keep μ) u (f r e j)) :
    In w X G (mfilt keep μ) N a ⟨trE o f σ.env, trH keep o f σ.H⟩ := by
  have hX : ∀ b, XX X (mfilt keep μ) b → XX X μ b := fun b => XX_mfilt
  have hRD : ∀ {u : Value} {x : D}, RD w (XX X μ) u x → RD w (XX X (mfilt keep μ)) u x := fun h => h.mono (Nat.le_refl _) fun b _ hb => ⟨rfl, fun e => hb (hX b e)⟩
  have hRV : ∀ {u : Value} {x : AV}, RV w X μ u x → RV w X (mfilt keep μ) u (x.tr o f) := fun h => RV.tr hX ho hf h
  refine ⟨⟨fun r row hr => ?_, fun r m hr => ?_, fun q q' m1 m2 b h1 h2 hb1 hb2 => hi.sim.inj q q' m1 m2 b (mfilt_some h1).2 (mfilt_some h2).2 hb1 hb2, fun q mq b hq hb => hi.sim.frame q mq b (mfilt_some hq).2 hb, hi.sim.fits⟩,
    ⟨hi.env.defers, hi.env.size, fun i x hx => ?_⟩, fun g x hx => hRD (hi.glob g x hx)⟩
  · replace hr : trH keep o f σ.H r = some row := hr
    unfold trH at hr
    split at hr
    · rename_i hk
      obtain ⟨row0, h0, rfl⟩ := Option.map_eq_some_iff.1 hr
      obtain ⟨m, hm, ok⟩ := hi.sim.rows r row0 h0
      refine ⟨m, by simp [mfilt, hk, hm], ?_⟩
      cases ok with
      | nil h1 h2 => exact .nil h1 h2
      | sl h1 h2 h3 h4 h5 h6 h7 h8 h9 => exact .sl h1 h2 h3 h4 h5 h6 h7 h8 fun i j el c he hc => let ⟨u, hu, hr⟩ := h9 i j el c he hc; ⟨u, hu, hRD hr⟩
      | box h1 h2 h3 h4 h5 h6 =>
        refine .box h1 rfl h3 h4 (by simpa using h5) fun j u c hu hc => ?_
        rw [List.getElem?_map] at hc
        obtain ⟨c', hc', rfl⟩ := Option.map_eq_some_iff.1 hc
        exact hRV (h6 j u c' hu hc')
    · cases hr
  · obtain ⟨hk, hm⟩ := mfilt_some hr
    obtain ⟨row, hrow⟩ := hi.sim.dom r m hm
    exact ⟨row.tr o f, by simp [trH, hk, hrow]⟩
  · replace hx : trE o f σ.env i = some x := hx
    unfold trE at hx
    obtain ⟨x0, h0, rfl⟩ := Option.map_eq_some_iff.1 hx
    obtain ⟨u, hu, hr⟩ := hi.env.slot i x0 h0
    exact ⟨u, hu, hRV hr⟩

theorem RV.own_mfilt {keep : Nat → Bool} {u : Value} {r off n : Nat} (hk : keep r = true) (h : RV w X μ u (.own r off n)) : RV w X (mfilt keep μ) u (.own r off n) := by
  obtain ⟨m, hm, hh⟩ := h.own_inv
  exact .own (by simp [mfilt, hk, hm]) hh
theorem RV.ref_mfilt {keep : Nat → Bool} {u : Value} {r e j : Nat} (hk : keep r = true) (h : RV w X μ u (.ref r e j)) : RV w X (mfilt keep μ) u (.ref r e j) := by
  obtain ⟨m, b, hm, hb, rfl⟩ := h.ref_inv
  exact .ref (by simp [mfilt, hk, hm]) hb

/-! ### What is not wanted is forgotten -/

def onlyO (ns : List Nat) (q off n : Nat) : AV := if ns.contains q then .own q off n else .dead
def onlyF (ns : List Nat) (q e j : Nat) : AV := if ns.contains q then .ref q e j else .dead
def liveR : List Nat → Heap → List (Nat × Row)
  | [], _ => []
  | r :: l, H => match H r with
    | some row => (r, row) :: liveR l H
    | none => liveR l H

theorem Imp.only (ns : List Nat) (hm : ∀ r, Mv r) : Imp Mv X G N σ ⟨trE (onlyO ns) (onlyF ns) σ.env, trH ns.contains (onlyO ns) (onlyF ns) σ.H⟩ := fun w μ a hi => by
  refine ⟨mfilt ns.contains μ, hi.tr (fun u r off n h => ?_) (fun u r e j h => ?_), ev_mfilt fun r _ _ _ => hm r⟩
  · unfold onlyO
    split
    · rename_i hk; exact h.own_mfilt hk
    · exact .dead u
  · unfold onlyF
    split
    · rename_i hk; exact h.ref_mfilt hk
    · exact .dead u

theorem hlst_live {H : Heap} : ∀ {l : List Nat} {r : Nat}, hlst (liveR l H) r = if l.contains r then H r else none
  | [], r => by simp [hlst, liveR]
  | q :: l, r => by
    have ih := hlst_live (H := H) (l := l) (r := r)
    simp only [liveR]
    split
    · rename_i row hrow
      simp only [hlst, List.lookup, List.contains_cons]
      split
      · rename_i hrq
        have : r = q := by simpa using hrq
        subst this
        simp [hrow]
      · rename_i hrq
        rw [hrq, Bool.false_or]
        exact ih
    · rename_i hrow
      rw [ih, List.contains_cons]
      by_cases hrq : r = q
      · subst hrq
        simp [hrow]
      · simp [hrq]

/-- A state with what is wanted, written out. -/
def St.norm (l ns : List Nat) (σ : St) : St := ⟨lst (liveL l (trE (onlyO ns) (onlyF ns) σ.env)), hlst (liveR ns (trH ns.contains (onlyO ns) (onlyF ns) σ.H))⟩

theorem hlst_trH {ns : List Nat} {o f : Nat → Nat → Nat → AV} {H : Heap} : hlst (liveR ns (trH ns.contains o f H)) = trH ns.contains o f H := by
  funext r
  rw [hlst_live]
  unfold trH
  split <;> simp_all

theorem Imp.norm (l ns : List Nat) (hm : ∀ r, Mv r) : Imp Mv X G N σ (σ.norm l ns) := by
  refine (Imp.only ns hm).trans ?_
  unfold St.norm
  rw [hlst_trH]
  exact Imp.env fun _ _ => lst_live

/-- The state that is wanted is the one that is there, and what is too much is forgotten. -/
theorem Imp.to {e : Env} {H : Heap} {l : List (Nat × AV)} {rows : List (Nat × Row)} (hm : ∀ r, Mv r) (he : ∀ p ∈ l, (e p.1).map (AV.tr (onlyO (rows.map (·.1))) (onlyF (rows.map (·.1)))) = some p.2)
    (hH : ∀ r, hlst rows r = trH (rows.map (·.1)).contains (onlyO (rows.map (·.1))) (onlyF (rows.map (·.1))) H r) : Imp Mv X G N ⟨e, H⟩ ⟨Go.Av.lst l, hlst rows⟩ := by
  refine (Imp.only (rows.map (·.1)) hm).trans ?_
  have : hlst rows = trH (rows.map (·.1)).contains (onlyO (rows.map (·.1))) (onlyF (rows.map (·.1))) H := funext hH
  rw [this]
  exact Imp.env fun i x hx => he (i, x) (lst_mem hx)

theorem rowsEq {rows : List (Nat × Row)} {H : Heap} {o f : Nat → Nat → Nat → AV} (h : ∀ p ∈ rows, (H p.1).map (Row.tr o f) = hlst rows p.1) : ∀ r, hlst rows r = trH (rows.map (·.1)).contains o f H r := by
  intro r
  unfold trH
  split
  · rename_i hk
    obtain ⟨p, hp, rfl⟩ := List.mem_map.1 (List.contains_iff_mem.1 hk)
    exact (h p hp).symm
  · rename_i hk
    have : ∀ l : List (Nat × Row), ¬ (l.map (·.1)).contains r = true → hlst l r = none := by
      intro l
      induction l with
      | nil => intro _; rfl
      | cons q l ih =>
        intro hc
        simp only [List.map_cons, List.contains_cons, Bool.or_eq_true, not_or] at hc
        simp only [hlst, List.lookup]
        split
        · rename_i h1; exact absurd h1 hc.1
        · exact ih hc.2
    exact this rows hk

theorem Imp.to' {e : Env} {H : Heap} {l : List (Nat × AV)} {rows : List (Nat × Row)} (hm : ∀ r, Mv r) (he : ∀ p ∈ l, (e p.1).map (AV.tr (onlyO (rows.map (·.1))) (onlyF (rows.map (·.1)))) = some p.2)
    (hH : ∀ p ∈ rows, (H p.1).map (Row.tr (onlyO (rows.map (·.1))) (onlyF (rows.map (·.1)))) = hlst rows p.1) : Imp Mv X G N ⟨e, H⟩ ⟨Go.Av.lst l, hlst rows⟩ := Imp.to hm he (rowsEq hH)

/-! ### What is owned becomes data -/

def frzO (r : Nat) (els : List (List D)) (q off n : Nat) : AV := if q = r then (if off = 0 ∧ n = els.length then .d (.sl none els) else if off + n ≤ els.length then .d (.sl none ((els.drop off).take n)) else .dead) else .own q off n
def frzF (r : Nat) (q e j : Nat) : AV := if q = r then .dead else .ref q e j
def not1 (r : Nat) (q : Nat) : Bool := !(q == r)

/-- Row r becomes data. -/
def St.freeze (r : Nat) (σ : St) : St := match σ.H r with
  | some (.sl _ _ els) => ⟨trE (frzO r els) (frzF r) σ.env, trH (not1 r) (frzO r els) (frzF r) σ.H⟩
  | _ => σ

theorem Imp.freeze (r : Nat) (hm : ∀ r, Mv r) : Imp Mv X G N σ (σ.freeze r) := fun w μ a hi => by
  unfold St.freeze
  split
  · rename_i ty sz els hr
    have hmu : (fun q => if q = r then none else μ q) = mfilt (not1 r) μ := by
      funext q
      unfold mfilt not1
      by_cases h : q = r <;> simp [h]
    refine ⟨mfilt (not1 r) μ, hi.tr (fun u q off n h => ?_) (fun u q e j h => ?_), ev_mfilt fun r _ _ _ => hm r⟩
    · unfold frzO
      split
      · rename_i hq
        subst hq
        have hd : ∀ {off n : Nat}, RV w X μ u (.own q off n) → off + n ≤ els.length → RV w X (mfilt (not1 q) μ) u (.d (.sl none ((els.drop off).take n))) := fun h hle => by
          obtain ⟨k, hk, _⟩ := own_reads hi.sim hr hle h
          rw [hmu] at hk
          exact .d hk.weak
        split
        · rename_i h2
          obtain ⟨rfl, rfl⟩ := h2
          have := hd h (by omega)
          simpa using this
        · split
          · rename_i hle; exact hd h hle
          · exact .dead u
      · rename_i hq; exact h.own_mfilt (by simp [not1, hq])
    · unfold frzF
      split
      · exact .dead u
      · rename_i hq; exact h.ref_mfilt (by simp [not1, hq])
  · exact ⟨μ, hi, .refl _ w μ⟩

/-! ### What is nil is owned -/

/-- A nil slice in slot i becomes a row of its own. -/
theorem Imp.adopt (i r ty sz : Nat) {e : Env} {H : Heap} (hr : H r = none) (he : e i = some (.d (.sl (some false) []))) : Imp Mv X G N ⟨e, H⟩ ⟨upd e i (.own r 0 0), hup H r (.sl ty sz [])⟩ := fun w μ a hi => by
  obtain ⟨hin, ev⟩ := hi.alloc (Mv := Mv) (w' := w) (m := ⟨none, sz, 0⟩) hr (Grew.refl w) (by simp) (row := .sl ty sz []) fun _ => .nil rfl rfl
  refine ⟨mup μ r ⟨none, sz, 0⟩, ⟨hin.sim, ⟨hin.env.defers, hin.env.size, fun j x hx => ?_⟩, hin.glob⟩, ev⟩
  simp only [upd] at hx
  split at hx
  · rename_i hj
    subst hj
    obtain rfl := Option.some.inj hx
    obtain ⟨u, hu, hrv⟩ := hi.env.slot j _ he
    refine ⟨u, hu, .own (m := ⟨none, sz, 0⟩) (by simp [mup]) (.inl ⟨rfl, ?_, rfl, rfl⟩)⟩
    rcases hrv.data.sl_inv with ⟨rfl, _⟩ | ⟨_, _, _, hk, _⟩
    · rfl
    · exact absurd rfl hk
  · exact hin.env.slot j x hx
end
end Go.Av

/-
  The forms that proofs use: regions whose states are written out anew, calls that simp leaves alone, bodies that yield data.
-/
namespace Go.Av
set_option linter.unusedSimpArgs false
set_option linter.unusedVariables false
set_option linter.unusedSectionVars false

theorem bneD (a b : Int) : (a != b) = decide (¬ a = b) := by by_cases h : a = b <;> simp [h]
theorem beqD (a b : Int) : (a == b) = decide (a = b) := by by_cases h : a = b <;> simp [h]

theorem takeMap {α β : Type} (f : α → β) (l : List α) : List.take l.length (List.map f l) = List.map f l := List.take_of_length_le (by simp)

/-- The rows that a value is a handle on, as a slice. -/
def AV.rows : AV → List Nat
  | .own r _ _ => [r]
  | .agg cells => go cells
  | _ => []
where
  go : List AV → List Nat
  | [] => []
  | x :: l => x.rows ++ go l

def freezeL : List Nat → St → St
  | [], σ => σ
  | r :: l, σ => freezeL l (σ.freeze r)

/-- What is put into a slice that is written out becomes data. -/
def preF (G : Glob) (o : Oper) (σ : St) : St := match o.op with
  | .buildSlice _ _ parts => match evalP G σ.env parts.toList with
    | some ps => freezeL (AV.rows.go (ps.map (·.2))) σ
    | none => σ
  | _ => σ

/-- A call, and what follows it. -/
def callK (P : Program) (Mv X : Nat → Prop) (G : Glob) (N : Nat) (g : FuncId) (xs : List AV) (σ : St) (dst : Option Tmp) (next : St → Prop) : Prop :=
  callS P Mv X G N g xs σ fun x σ' => next ⟨putd σ'.env dst x, σ'.H⟩
def callQ (P : Program) (G : Glob) (c : Call) (σ : St) (dst : Option Tmp) (next : St → Prop) : Prop := ∃ y, callTo P G σ c y ∧ next ⟨putd σ.env dst (.d y), σ.H⟩

def exK (P : Program) (T : Ty) (Mv X : Nat → Prop) (G : Glob) (N : Nat) (o : Oper) (σ : St) (next : St → Prop) : Prop := match isCall o.op with
  | some c => match tgt G σ.env c with
    | some (g, xs) => callK P Mv X G N g xs σ o.dst next
    | none => False
  | none => plainS T G Mv o (preF G o σ) next

def sxf (P : Program) (T : Ty) (Mv X : Nat → Prop) (G : Glob) (N : Nat) (ops : Array Oper) (K : St → Prop) : List Oper → St → Prop
  | [], σ => K σ
  | o :: rest, σ => okDst N o ∧ match wantedS ops σ.env o with
    | some b => if b = true then exK P T Mv X G N o σ (sxf P T Mv X G N ops K rest) else sxf P T Mv X G N ops K rest ⟨putd σ.env o.dst und, σ.H⟩
    | none => False

def sxd (P : Program) (T : Ty) (Mv : Nat → Prop) (G : Glob) (N : Nat) (ops : Array Oper) (K : St → Prop) : List Oper → St → Prop
  | [], σ => K σ
  | o :: rest, σ => okDst N o ∧ match wantedS ops σ.env o with
    | some b => if b = true then (match isCall o.op with
        | some c => callQ P G c σ o.dst (sxd P T Mv G N ops K rest)
        | none => plainS T G Mv o σ (sxd P T Mv G N ops K rest)) else sxd P T Mv G N ops K rest ⟨putd σ.env o.dst und, σ.H⟩
    | none => False

section
variable {P : Program} {T : Ty} {Mv X : Nat → Prop} {G : Glob} {N : Nat} {w : World} {μ : Mu} {a : Act} {σ : St}

theorem sxd_eq {ops : Array Oper} {K : St → Prop} : ∀ (l : List Oper), sxd P T Mv G N ops K l = sxq P T Mv G N ops K l
  | [] => rfl
  | o :: l => by
    funext σ
    simp only [sxd, sxq, callQ, sxd_eq l]
    all_goals rfl

theorem Imp.freezeL (hm : ∀ r, Mv r) : ∀ (l : List Nat) {σ : St}, Imp Mv X G N σ (Go.Av.freezeL l σ)
  | [], σ => .refl σ
  | r :: l, _ => (Imp.freeze r hm).trans (Imp.freezeL hm l)

theorem Imp.preF (hm : ∀ r, Mv r) (o : Oper) : Imp Mv X G N σ (Go.Av.preF G o σ) := by
  unfold Go.Av.preF
  split
  · split
    · exact .freezeL hm _
    · exact .refl σ
  · exact .refl σ

theorem freezeL_env (r : Nat) (t : Nat) (v : Value) (h : σ.env t = some (.d (.v v))) : (σ.freeze r).env t = some (.d (.v v)) := by
  unfold St.freeze
  split
  · simp [trE, h, AV.tr]
  · exact h

/-- One operation, what it freezes first. -/
theorem exK_ok (hg : Good P T) (hM : ∀ r, Mv r) (hi : In w X G μ N a σ) {o : Oper} {K : St → Prop} (hd : ∀ d, o.dst = some d → d < N) (h : exK P T Mv X G N o σ K) {Q : Exit → Act → World → Prop} {next : Act → World → Prop}
    (hk : ∀ w' μ' a' σ', K σ' → In w' X G μ' N a' σ' → Ev Mv w μ w' μ' → next a' w') : o.wp P a w next Q := by
  unfold exK at h
  split at h
  · rename_i c hc
    refine ex1_ok (Mv := Mv) hg hi hd ?_ hk
    unfold ex1
    rw [hc]
    dsimp only
    split at h
    · rename_i ht
      rw [ht]
      exact h
    · exact h.elim
  · rename_i hc
    obtain ⟨μ1, hi1, ev1⟩ := Imp.preF (Mv := Mv) (X := X) hM o w μ a hi
    refine ex1_ok (Mv := Mv) hg hi1 (K := K) hd ?_ fun w' μ' a' σ' k hin hev => hk w' μ' a' σ' k hin (ev1.trans hev)
    unfold ex1
    rw [hc]
    exact h

theorem sxf_ok (hg : Good P T) (hM : ∀ r, Mv r) {ops : Array Oper} {Q : Exit → St → Prop} {w0 : World} {μ0 : Mu} : ∀ (l : List Oper) (k : Nat) (w : World) (μ : Mu) (a : Act) (σ : St), (∀ j, l[j]? = ops[k + j]?) → sxf P T Mv X G N ops (fun σ' => Q .normal σ') l σ → In w X G μ N a σ → Ev Mv w0 μ0 w μ →
    wpOps P ops (After Mv X G N w0 μ0 Q) (List.range' k l.length) a w := by
  intro l
  induction l with
  | nil => intro k w μ a σ _ h hi hev; exact ⟨μ, σ, h, hi, hev⟩
  | cons o l ih =>
    intro k w μ a σ hl h hi hev
    have h0 : ops[k]? = some o := by simpa using (hl 0).symm
    have hl' : ∀ j, l[j]? = ops[k + 1 + j]? := fun j => by have := hl (j + 1); simpa [Nat.add_assoc, Nat.add_comm 1 j] using this
    obtain ⟨hd, h⟩ := h
    have hd' : ∀ d, o.dst = some d → d < N := fun d e => by unfold okDst at hd; rw [e] at hd; exact hd
    rw [List.length_cons, List.range'_succ]
    simp only [wpOps, h0]
    split at h
    · rename_i b hb
      rw [wantedS_ok hi hb]
      split at h
      · rename_i hbt
        subst hbt
        rw [if_pos rfl]
        exact .inl (exK_ok hg hM hi hd' h fun w' μ' a' σ' k' hin hev' => ih (k + 1) w' μ' a' σ' hl' k' hin (hev.trans hev'))
      · rename_i hbf
        rw [if_neg (by simpa using hbf)]
        exact ih (k + 1) w μ _ _ hl' h (hi.put (.d (.v _)) hd') hev
    · exact h.elim

theorem AW_regionF (hg : Good P T) (hM : ∀ r, Mv r) {id : Nat} {ops : Array Oper} {Q : Exit → St → Prop} (h : sxf P T Mv X G N ops (fun σ' => Q .normal σ') ops.toList σ) : AW P Mv X G N (.region id ops false) Q σ := fun w μ a hi => by
  refine wp_region ?_
  have := sxf_ok hg hM ops.toList 0 w μ a σ (by simp) h hi (.refl _ w μ)
  rwa [← List.range_eq_range', Array.length_toList] at this

theorem AW_regionD (hg : Good P T) (hm : P.follows .mixedOrders = true) {id : Nat} {ops : Array Oper} (hok : okDraw ops = true) {Q : Exit → St → Prop} (h : sxd P T Mv G N ops (fun σ' => Q .normal σ') ops.toList σ) : AW P Mv X G N (.region id ops true) Q σ := by
  rw [sxd_eq] at h
  exact AW_region_draw hg hm hok h

theorem AW.norm (hM : ∀ r, Mv r) (l ns : List Nat) {c : Code} {Q : Exit → St → Prop} (h : AW P Mv X G N c Q (σ.norm l ns)) : AW P Mv X G N c Q σ := AW.imp (Imp.norm l ns hM) h

theorem AW.st {τ : St} {c : Code} {Q : Exit → St → Prop} (h : σ = τ) (h' : AW P Mv X G N c Q τ) : AW P Mv X G N c Q σ := h ▸ h'

/-- Nil, or not nil. -/
theorem AW.nilCase (i : Nat) {e : Env} {H : Heap} {els : List (List D)} {c : Code} {Q : Exit → St → Prop} (he : e i = some (.d (.sl none els))) (h1 : AW P Mv X G N c Q ⟨upd e i (.d (.sl (some true) els)), H⟩)
    (h2 : els = [] → AW P Mv X G N c Q ⟨upd e i (.d (.sl (some false) [])), H⟩) : AW P Mv X G N c Q ⟨e, H⟩ := fun w μ a hi => by
  obtain ⟨u, hu, hr⟩ := hi.env.slot i _ he
  have put : ∀ {y : D}, RD w (XX X μ) u y → In w X G μ N a ⟨upd e i (.d y), H⟩ := fun hy => ⟨hi.sim, ⟨hi.env.defers, hi.env.size, fun j x hx => by
    simp only [upd] at hx
    split at hx
    · rename_i hj; subst hj; obtain rfl := Option.some.inj hx; exact ⟨u, hu, .d hy⟩
    · exact hi.env.slot j x hx⟩, hi.glob⟩
  have hd := hr.data
  generalize hy : D.sl none els = y at hd
  cases hd with
  | nil hk => cases hy; exact h2 rfl w μ a (put (.nil (by simp)))
  | empty hk hm => cases hy; exact h1 w μ a (put (.empty (by simp) hm))
  | sl a1 a2 a3 a4 a5 a6 a7 a8 a9 a10 => cases hy; exact h1 w μ a (put (.sl (by simp) a2 a3 a4 a5 a6 a7 a8 a9 a10))
  | _ => cases hy

/-- A region, then what follows: the state written out anew, with these slots and these rows. -/
theorem AW_rg (hg : Good P T) (hM : ∀ r, Mv r) (l ns : List Nat) {id : Nat} {ops : Array Oper} {y : Code} {Q : Exit → St → Prop} (h : ∀ K : St → Prop, (∀ τ : St, AW P Mv X G N y Q (τ.norm l ns) → K τ) → sxf P T Mv X G N ops K ops.toList σ) : AW P Mv X G N (.seq (.region id ops false) y) Q σ :=
  AW_seq (AW_regionF hg hM (h _ fun _ h => h.norm hM))
theorem AW_rd (hg : Good P T) (hM : ∀ r, Mv r) (hm : P.follows .mixedOrders = true) (l ns : List Nat) {id : Nat} {ops : Array Oper} (hok : okDraw ops = true) {y : Code} {Q : Exit → St → Prop} (h : ∀ K : St → Prop, (∀ τ : St, AW P Mv X G N y Q (τ.norm l ns) → K τ) → sxd P T Mv G N ops K ops.toList σ) : AW P Mv X G N (.seq (.region id ops true) y) Q σ :=
  AW_seq (AW_regionD hg hm hok (h _ fun _ h => h.norm hM))

/-- A region at the end. -/
theorem AW_re (hg : Good P T) (hM : ∀ r, Mv r) {id : Nat} {ops : Array Oper} {Q : Exit → St → Prop} (h : ∀ K : St → Prop, (∀ τ : St, Q .normal τ → K τ) → sxf P T Mv X G N ops K ops.toList σ) : AW P Mv X G N (.region id ops false) Q σ :=
  AW_regionF hg hM (h _ fun _ h => h)
theorem AW_rde (hg : Good P T) (hm : P.follows .mixedOrders = true) {id : Nat} {ops : Array Oper} (hok : okDraw ops = true) {Q : Exit → St → Prop} (h : ∀ K : St → Prop, (∀ τ : St, Q .normal τ → K τ) → sxd P T Mv G N ops K ops.toList σ) : AW P Mv X G N (.region id ops true) Q σ :=
  AW_regionD hg hm hok (h _ fun _ h => h)

/-! ### Bodies -/

def resOne (T : Ty) (σ : St) : ResultVar → Ans
  | .tmp t => (σ.env t).map fun x => (True, x)
  | .cell a t => (σ.env a).bind (loadA T σ.H t)
def resAll (T : Ty) (σ : St) : List ResultVar → Option (Prop × List AV)
  | [] => some (True, [])
  | r :: l => match resOne T σ r, resAll T σ l with
    | some (c, x), some (c', xs) => some (c ∧ c', x :: xs)
    | _, _ => none
def oneOf : List AV → AV
  | [x] => x
  | l => mkTup l

/-- One is the other, or says more of what is nil. -/
def D.le : D → D → Prop
  | .sl k els, .sl k' els' => (k' = none ∨ k = k') ∧ els = els'
  | .tup l, .tup l' => go l l'
  | .agg l, .agg l' => go l l'
  | .ip l, .ip l' => go l l'
  | .ifc t x, .ifc t' x' => t = t' ∧ x.le x'
  | .fn f l, .fn f' l' => f = f' ∧ go l l'
  | x, y => x = y
where
  go : List D → List D → Prop
  | [], [] => True
  | x :: l, y :: l' => x.le y ∧ go l l'
  | _, _ => False

def endD (T : Ty) (rs : List ResultVar) (y : D) (σ : St) : Prop := match resAll T σ rs with
  | some (c, xs) => c ∧ match asD σ.H 6 (oneOf xs) with
    | some y' => y'.le y
    | none => False
  | none => False

def atEndD (T : Ty) (rs : List ResultVar) (y : D) : Exit → St → Prop
  | .normal, σ | .ret, σ => endD T rs y σ
  | _, _ => False

theorem D.le_go : ∀ {l l' : List D}, D.le.go l l' → l.length = l'.length ∧ ∀ (j : Nat) (x y : D), l[j]? = some x → l'[j]? = some y → x.le y
  | [], [], _ => ⟨rfl, by simp⟩
  | x :: l, y :: l', h => by
    simp only [D.le.go] at h
    obtain ⟨h1, h2⟩ := D.le_go h.2
    refine ⟨by simp [h1], fun j a b ha hb => ?_⟩
    cases j with
    | zero => simp at ha hb; subst ha hb; exact h.1
    | succ j => simp at ha hb; exact h2 j a b ha hb
  | [], _ :: _, h => by simp only [D.le.go] at h
  | _ :: _, [], h => by simp only [D.le.go] at h

theorem D.le_at {l l' : List D} (hg : D.le.go l l') {j : Nat} {c : D} (hc : l'[j]? = some c) : ∃ x, l[j]? = some x ∧ x.le c := by
  obtain ⟨hl, hh⟩ := D.le_go hg
  have hj := (List.getElem?_eq_some_iff.1 hc).1
  have hj' : j < l.length := by omega
  exact ⟨l[j], by simp [hj'], hh j _ c (by simp [hj']) hc⟩

theorem RD.le {w : World} {X : Nat → Prop} {u : Value} {x : D} (hr : RD w X u x) : ∀ {y : D}, x.le y → RD w X u y := by
  induction hr with
  | v x => intro y h; cases y <;> simp only [D.le, reduceCtorEq] at h; exact h ▸ .v x
  | nil hk =>
    intro y h
    cases y <;> simp only [D.le, reduceCtorEq] at h
    obtain ⟨h1 | h1, rfl⟩ := h
    · exact .nil (by simp [h1])
    · exact .nil (h1 ▸ hk)
  | empty hk hm =>
    intro y h
    cases y <;> simp only [D.le, reduceCtorEq] at h
    obtain ⟨h1 | h1, rfl⟩ := h
    · exact .empty (by simp [h1]) hm
    · exact .empty (h1 ▸ hk) hm
  | sl h1 h2 h3 h4 h5 h6 h7 h8 h9 h10 =>
    intro y h
    cases y <;> simp only [D.le, reduceCtorEq] at h
    obtain ⟨e1 | e1, rfl⟩ := h
    · exact .sl (by simp [e1]) h2 h3 h4 h5 h6 h7 h8 h9 h10
    · exact .sl (e1 ▸ h1) h2 h3 h4 h5 h6 h7 h8 h9 h10
  | ip hX hb hcell hr ih =>
    intro y h
    cases y <;> simp only [D.le, reduceCtorEq] at h
    obtain ⟨hl, _⟩ := D.le_go h
    refine .ip hX hb (fun j hj => hcell j (by omega)) fun j c hc => ?_
    obtain ⟨x, hx, hle⟩ := D.le_at h hc
    exact ih j x hx hle
  | agg hn hr ih =>
    intro y h
    cases y <;> simp only [D.le, reduceCtorEq] at h
    obtain ⟨hl, _⟩ := D.le_go h
    refine .agg (by omega) fun j u c hu hc => ?_
    obtain ⟨x, hx, hle⟩ := D.le_at h hc
    exact ih j u x hu hx hle
  | tup hn hr ih =>
    intro y h
    cases y <;> simp only [D.le, reduceCtorEq] at h
    obtain ⟨hl, _⟩ := D.le_go h
    refine .tup (by omega) fun j u c hu hc => ?_
    obtain ⟨x, hx, hle⟩ := D.le_at h hc
    exact ih j u x hu hx hle
  | ifc hr ih =>
    intro y h
    cases y <;> simp only [D.le, reduceCtorEq] at h
    obtain ⟨rfl, h⟩ := h
    exact .ifc (ih h)
  | fn hn hr ih =>
    intro y h
    cases y <;> simp only [D.le, reduceCtorEq] at h
    obtain ⟨rfl, h⟩ := h
    obtain ⟨hl, _⟩ := D.le_go h
    refine .fn (by omega) fun j u c hu hc => ?_
    obtain ⟨x, hx, hle⟩ := D.le_at h hc
    exact ih j u x hu hx hle

theorem PureC.weak {g : FuncId} {ds ds' : List D} {y : D} (hc : PureC P G g ds y) (h : D.le.go ds' ds) : PureC P G g ds' y := by
  refine ⟨hc.1, fun X w μ vs hs hgl hn hv => hc.2 X w μ vs hs hgl (by simpa [(D.le_go h).1] using hn) fun i u x hu hx => ?_⟩
  rw [List.getElem?_map] at hx
  obtain ⟨d, hd, rfl⟩ := Option.map_eq_some_iff.1 hx
  obtain ⟨x, hx, hle⟩ := D.le_at h hd
  exact .d ((hv i u (.d x) hu (by rw [List.getElem?_map, hx]; rfl)).data.le hle)

/-- Data in, data out. -/
theorem callK.data {g : FuncId} {xs : List AV} {ds ds' : List D} {y : D} {dst : Option Tmp} {next : St → Prop} (hc : PureC P G g ds y) (hx : allD xs = some ds') (hle : D.le.go ds' ds) (h : next ⟨putd σ.env dst (.d y), σ.H⟩) : callK P Mv X G N g xs σ dst next := by
  unfold callK
  rw [allD_eq hx]
  exact callS.pure (hc.weak hle) h
/-- What is owned is lent where the answer is a number, a bool, .. -/
theorem callK.lend {g : FuncId} {xs : List AV} {ds ds' : List D} {y : D} {dst : Option Tmp} {next : St → Prop} (hc : PureC P G g ds y) (hx : asDs (asD σ.H 4) xs = some ds') (hle : D.le.go ds' ds) (hy : y.scalar = true) (h : next ⟨putd σ.env dst (.d y), σ.H⟩) : callK P Mv X G N g xs σ dst next :=
  callS.lend hx (hc.weak hle) hy h
theorem callQ.data {c : Call} {g : FuncId} {xs : List AV} {ds ds' : List D} {y : D} {dst : Option Tmp} {next : St → Prop} (hc : PureC P G g ds y) (ht : tgt G σ.env c = some (g, xs)) (hx : allD xs = some ds') (hle : D.le.go ds' ds) (h : next ⟨putd σ.env dst (.d y), σ.H⟩) : callQ P G c σ dst next :=
  ⟨y, ⟨g, xs, ht, .inl ⟨ds', allD_eq hx, hc.weak hle⟩⟩, h⟩
theorem callQ.lend {c : Call} {g : FuncId} {xs : List AV} {ds ds' : List D} {y : D} {dst : Option Tmp} {next : St → Prop} (hc : PureC P G g ds y) (ht : tgt G σ.env c = some (g, xs)) (hx : asDs (asD σ.H 4) xs = some ds') (hle : D.le.go ds' ds) (hy : y.scalar = true) (h : next ⟨putd σ.env dst (.d y), σ.H⟩) : callQ P G c σ dst next :=
  ⟨y, ⟨g, xs, ht, .inr ⟨ds', hx, hy, hc.weak hle⟩⟩, h⟩

theorem asDs_map (H : Heap) (k : Nat) : ∀ (ds : List D), asDs (asD H k) (ds.map .d) = some ds
  | [] => rfl
  | d :: ds => by simp [asDs, asDs_map H k ds]; cases k <;> simp [asD]
theorem D.le_refl (x : D) : x.le x := by
  have key : ∀ n, ∀ x : D, SizeOf.sizeOf x < n → x.le x := by
    intro n
    induction n with
    | zero => intro x h; omega
    | succ n ih =>
      intro x h
      have go : ∀ l : List D, SizeOf.sizeOf l < n → D.le.go l l := by
        intro l
        induction l with
        | nil => intro _; simp [D.le.go]
        | cons y l ihl =>
          intro hl
          simp only [List.cons.sizeOf_spec] at hl
          exact ⟨ih y (by omega), ihl (by omega)⟩
      cases x <;> simp only [D.le] <;> simp at h ⊢
      · exact go _ (by omega)
      · exact go _ (by omega)
      · exact go _ (by omega)
      · exact ih _ (by omega)
      · exact go _ (by omega)
  exact key _ x (Nat.lt_succ_self _)
theorem D.leGo_refl : ∀ l : List D, D.le.go l l
  | [] => trivial
  | x :: l => ⟨D.le_refl x, D.leGo_refl l⟩

theorem resOne_ok (hg : Good P T) (hi : In w X G μ N a σ) {r : ResultVar} {c : Prop} {x : AV} (h : resOne T σ r = some (c, x)) (hc : c) :
    ∃ v, (match r with | .tmp t => (pure (a.tmps.getD t undef) : Sem Value) | .cell b t => do loadVar t (← asAddr (a.tmps.getD b undef))).run P w = .ok v w ∧ RV w X μ v x := by
  cases r with
  | tmp t =>
    simp only [resOne, Option.map_eq_some_iff, Prod.mk.injEq] at h
    obtain ⟨y, hy, _, rfl⟩ := h
    obtain ⟨u, hu, hr⟩ := hi.env.slot t y hy
    exact ⟨u, by simp [Array.getD_eq_getD_getElem?, hu], hr⟩
  | cell b t =>
    obtain ⟨y, hy, hl⟩ := Option.bind_eq_some_iff.1 h
    obtain ⟨u, hu, hr⟩ := hi.env.slot b y hy
    obtain ⟨v, hv, hrv⟩ := loadA_ok (P := P) hg hi.sim hl hc hr
    refine ⟨v, ?_, hrv⟩
    have e : a.tmps.getD b undef = u := by simp [Array.getD_eq_getD_getElem?, hu]
    dsimp only
    rw [e]
    unfold loadA at hl
    split at hl
    · obtain ⟨b, off, f, rfl, _⟩ := hr.data.ip_inv
      simpa [Instr.loadAt, Instr.sureAddr, asAddr] using hv
    · obtain ⟨m, b, hm, hb, rfl⟩ := hr.ref_inv
      simpa [Instr.loadAt, Instr.sureAddr, asAddr] using hv
    · cases hl

theorem resAll_ok (hg : Good P T) (hi : In w X G μ N a σ) : ∀ {rs : List ResultVar} {c : Prop} {xs : List AV}, resAll T σ rs = some (c, xs) → c →
    ∃ vs : List Value, (rs.mapM (m := Sem) fun | .tmp t => pure (a.tmps.getD t undef) | .cell b t => do loadVar t (← asAddr (a.tmps.getD b undef))).run P w = .ok vs w ∧ vs.length = xs.length ∧ ∀ (j : Nat) (u : Value) (x : AV), vs[j]? = some u → xs[j]? = some x → RV w X μ u x := by
  intro rs
  induction rs with
  | nil =>
    intro c xs h hc
    simp only [resAll, Option.some.injEq, Prod.mk.injEq] at h
    obtain ⟨_, rfl⟩ := h
    exact ⟨[], by simp, rfl, by simp⟩
  | cons r rs ih =>
    intro c xs h hc
    simp only [resAll] at h
    split at h
    · rename_i c1 x c2 xs' h1 h2
      simp only [Option.some.injEq, Prod.mk.injEq] at h
      obtain ⟨rfl, rfl⟩ := h
      obtain ⟨v, hv, hr⟩ := resOne_ok (P := P) hg hi h1 hc.1
      obtain ⟨vs, hvs, hl, hrs⟩ := ih h2 hc.2
      refine ⟨v :: vs, ?_, by simp [hl], fun j u x hu hx => ?_⟩
      · rw [List.mapM_cons, Sem.run_bind, hv, Result.andThen_ok, Sem.run_bind, hvs, Result.andThen_ok, Sem.run_pure]
      · cases j with
        | zero => simp at hu hx; subst hu hx; exact hr
        | succ j => simp at hu hx; exact hrs j u x hu hx
    · cases h

theorem results_ok (hg : Good P T) (hi : In w X G μ N a σ) {fn : Func} {rs : List ResultVar} (hrs : fn.results = rs.toArray) {c : Prop} {xs : List AV} (h : resAll T σ rs = some (c, xs)) (hc : c) :
    ∃ v, (results fn a.tmps).run P w = .ok v w ∧ RV w X μ v (oneOf xs) := by
  obtain ⟨vs, hvs, hl, hr⟩ := resAll_ok (P := P) hg hi h hc
  refine ⟨if h : vs.toArray.size = 1 then vs.toArray[0] else .tuple vs.toArray, ?_, ?_⟩
  · unfold results
    rw [hrs, Array.mapM_eq_mapM_toList, Sem.run_bind]
    simp only [map_eq_pure_bind, Sem.run_bind]
    erw [hvs]
    rfl
  · match xs, vs, hl, hr with
    | [], [], _, hr => exact mkTup_ok (l := []) (.tup (arr := #[]) (cells := []) rfl (by simp))
    | [x], [v], _, hr => exact hr 0 v x rfl rfl
    | x :: y :: xs, v :: u :: vs, hl, hr =>
      have : ¬ (v :: u :: vs).toArray.size = 1 := by simp
      rw [dif_neg this]
      exact mkTup_ok (.tup (by simpa using hl) fun j u c hu hc => hr j u c (by simpa using hu) hc)

/-- A body that yields data. -/
theorem PureC.of_body (hg : Good P T) {g : FuncId} {fn : Func} {c : Code} {rs : List ResultVar} {ds : List D} {y : D} (hf : P.funcs[g]? = some fn) (hb : fn.body = some c) (hn : (fn.name == "runtime.NumGoroutine") = false) (hrs : fn.results = rs.toArray)
    (hN : ds.length ≤ fn.ntmps) (h : ∀ X, AW P (fun _ => True) X G fn.ntmps c (atEndD T rs y) ⟨args (ds.map .d), hno⟩) : PureC P G g ds y := by
  refine ⟨Fun.of hf hb hn, fun X w μ vs hs hgl hsz hv => ?_⟩
  have fin : ∀ (w' : World) (μ' : Mu) (a' : Act) (σ' : St), endD T rs y σ' → In w' X G μ' fn.ntmps a' σ' → Ev (fun _ => True) w μ w' μ' → ∃ v, (results fn a'.tmps).run P w' = .ok v w' ∧ ∃ v_1 x H' μ', Ending.returned v = Ending.returned v_1 ∧ (x = .d y ∧ H' = hno) ∧ RV w' X μ' v_1 x ∧ Sim w' X μ' H' ∧ Ev (fun _ => True) w μ w' μ' := by
    intro w' μ' a' σ' he hi hev
    unfold endD at he
    split at he
    · rename_i c xs hx
      obtain ⟨hc, he⟩ := he
      split at he
      · rename_i y' hy
        obtain ⟨v, hv, hr⟩ := results_ok (P := P) hg hi hrs hx hc
        have hrd := (asD_ok hi.sim 6 hy hr).le he
        refine ⟨v, hv, v, .d y, hno, fun _ => none, rfl, ⟨rfl, rfl⟩, .d (hrd.sub fun b => XX_none.1), Sim.none hi.sim.fits, hev.size, hev.os, hev.tape, hev.output, fun b hb hr => ⟨(hev.same b hb hr).1, fun ⟨_, _, h, _⟩ => by cases h⟩, fun r m _ hn => absurd trivial hn⟩
      · exact he.elim
    · exact he.elim
  refine calls_of_wp hf hb (wp_mono (h X w μ _ ⟨hs, ⟨rfl, by simp; simp at hsz; omega, fun i x hx => ?_⟩, hgl⟩) fun e a' w' ⟨μ', σ', q, i, ev⟩ => ?_)
  · simp only [args] at hx
    have hi : i < (ds.map AV.d).length := (List.getElem?_eq_some_iff.1 hx).1
    have hvi : vs[i]? = some vs[i] := by rw [Array.getElem?_eq_getElem]
    exact ⟨vs[i], by rw [Array.getElem?_append_left (by omega), hvi], hv i _ x hvi hx⟩
  · cases e with
    | normal =>
      obtain ⟨v, hv, rest⟩ := fin w' μ' a' σ' q i ev
      exact ⟨i.env.defers, v, hv, rest⟩
    | ret =>
      obtain ⟨v, hv, rest⟩ := fin w' μ' a' σ' q i ev
      exact ⟨i.env.defers, v, hv, rest⟩
    | _ => exact q.elim
end
end Go.Av

/-
  Regions that draw their order and append to several rows: labels say which row an append moves, and which one it takes from.
-/
namespace Go.Av
set_option linter.unusedSimpArgs false
set_option linter.unusedVariables false
set_option linter.unusedSectionVars false

section
variable {P : Program} {T : Ty} {Mv X : Nat → Prop} {G : Glob} {N : Nat} {ops : Array Oper}

/-! ### An append, as one knows it -/

def appOps (o : Oper) : Option (Operand × Operand) := match o.op with
  | .call { callee := .builtin .append, args, argTypes } => match args.toList, argTypes.toList with
    | [x, y], [_, _] => some (x, y)
    | _, _ => none
  | _ => none

def appV (T : Ty) (Mv : Nat → Prop) (o : Oper) (r off n ty sz : Nat) (els news : List (List D)) : Option (Prop × Nat × Row) := match o.op, o.dst with
  | .call { callee := .builtin .append, args, argTypes }, some _ => match args.toList, argTypes.toList with
    | [_, _], [t, t'] => if t = t' then match T t with
      | some tt => match tt.desc with
        | .slice e => match T e with
          | some te => some (off = 0 ∧ Mv r ∧ ty = e ∧ sz = te.size ∧ n ≤ els.length ∧ (∀ el ∈ news, el.length = te.size) ∧ (∀ el ∈ news, ∀ c ∈ el, D.one c = true) ∧ 0 < te.size ∧ (zeroD te.zero).length = te.size ∧ n + news.length ≤ 9223372036854775807 ∧ (n + news.length) * te.bytes ≤ 140737488355328,
              n + news.length, .sl e te.size (els.take n ++ news))
          | none => none
        | _ => none
      | none => none
    else none
    | _, _ => none
  | _, _ => none

/-- The row that is taken from is s, if any. -/
def fromRow (s : Nat) : AV → Prop
  | .own q _ _ => q = s
  | _ => True

def AppS (T : Ty) (G : Glob) (Mv : Nat → Prop) (o : Oper) (e : Env) (H : Heap) (r s m : Nat) (row : Row) : Prop :=
  ∃ x y off n v ty sz els news c, appOps o = some (x, y) ∧ aeval G e x = some (.own r off n) ∧ aeval G e y = some v ∧ fromRow s v ∧ H r = some (.sl ty sz els) ∧ newsOf H r v = some news ∧ appV T Mv o r off n ty sz els news = some (c, m, row) ∧ c

theorem appOps_op {o : Oper} {x y : Operand} (h : appOps o = some (x, y)) : ∃ t t', o.op = .call { callee := .builtin .append, args := #[x, y], argTypes := #[t, t'] } := by
  unfold appOps at h
  split at h
  · rename_i args argTypes hop
    split at h
    · rename_i x' y' t t' ha ht
      simp only [Option.some.injEq, Prod.mk.injEq] at h
      obtain ⟨rfl, rfl⟩ := h
      have e1 : args = #[x', y'] := Array.toList_inj.1 ha
      have e2 : argTypes = #[t, t'] := Array.toList_inj.1 ht
      exact ⟨t, t', by rw [hop, e1, e2]⟩
    · cases h
  · cases h

theorem AppS.row {o : Oper} {e : Env} {H : Heap} {r s m : Nat} {row : Row} (h : AppS T G Mv o e H r s m row) : (∃ ty sz els, row = .sl ty sz els) ∧ (∃ ty sz els, H r = some (.sl ty sz els)) ∧ (∃ d, o.dst = some d) := by
  obtain ⟨x, y, off, n, v, ty, sz, els, news, c, h1, h2, h3, h4, h5, h6, h7, h8⟩ := h
  unfold appV at h7
  repeat' split at h7
  all_goals first
    | cases h7; done
    | (simp only [Option.some.injEq, Prod.mk.injEq] at h7
       obtain ⟨_, _, rfl⟩ := h7
       exact ⟨⟨_, _, _, rfl⟩, ⟨_, _, _, h5⟩, ⟨_, by assumption⟩⟩)

theorem AppS.to {o : Oper} {e : Env} {H : Heap} {r s m : Nat} {row : Row} (h : AppS T G Mv o e H r s m row) : exTo P T Mv G o ⟨e, H⟩ ⟨putd (killE r e) o.dst (.own r 0 m), hup (killH r H) r row⟩ := by
  obtain ⟨x, y, off, n, v, ty, sz, els, news, c, h1, h2, h3, h4, h5, h6, h7, h8⟩ := h
  obtain ⟨t, t', hop⟩ := appOps_op h1
  obtain ⟨dst, op, type, pos, after, guard⟩ := o
  dsimp only at hop
  subst hop
  unfold exTo
  simp only [isCall, isWr, if_true]
  unfold appV at h7
  dsimp only at h7
  cases dst with
  | none => cases h7
  | some d =>
    simp only [List.toList_toArray] at h7
    refine ⟨c, .own r 0 m, ⟨killE r e, hup (killH r H) r row⟩, ?_, h8, rfl⟩
    unfold wr
    dsimp only
    split at h7
    · rename_i htt
      subst htt
      split at h7
      · rename_i tt hT
        split at h7
        · rename_i ety hd
          split at h7
          · rename_i te hte
            simp only [Option.some.injEq, Prod.mk.injEq] at h7
            obtain ⟨rfl, rfl, rfl⟩ := h7
            simp [hT, hd, hte, h2, h3, h5, h6]
          · cases h7
        · cases h7
      · cases h7
    · cases h7

theorem AppS.of {o : Oper} {e : Env} {H : Heap} {r s off n : Nat} {x y : Operand} {v : AV} {c : Prop} {z : AV} {σ1 : St} (ho : appOps o = some (x, y)) (hx : aeval G e x = some (.own r off n)) (hy : aeval G e y = some v) (hs : fromRow s v) (h : wr T G Mv ⟨e, H⟩ o = some (c, z, σ1)) (hc : c) :
    ∃ m row, AppS T G Mv o e H r s m row ∧ z = .own r 0 m ∧ σ1 = ⟨killE r e, hup (killH r H) r row⟩ := by
  obtain ⟨t, t', hop⟩ := appOps_op ho
  obtain ⟨dst, op, type, pos, after, guard⟩ := o
  dsimp only at hop
  subst hop
  unfold wr at h
  dsimp only at h
  cases dst with
  | none => cases h
  | some d =>
    dsimp only at h
    split at h
    · rename_i htt
      subst htt
      cases hT : T t with
      | none => simp [hT] at h
      | some tt =>
        simp only [hT] at h
        split at h
        · rename_i ety hd
          cases hte : T ety with
          | none => simp [hte] at h
          | some te =>
            simp only [hte, hx, hy] at h
            split at h
            · rename_i ty sz els news h1 h2
              simp only [Option.some.injEq, Prod.mk.injEq] at h
              obtain ⟨rfl, rfl, rfl⟩ := h
              exact ⟨_, _, ⟨x, y, off, n, v, ty, sz, els, news, _, ho, hx, hy, hs, h1, h2, by simp [appV, hT, hd, hte], hc⟩, rfl, rfl⟩
            · cases h
        · cases h
    · cases h

theorem newsOf_congr {H H2 : Heap} {r s : Nat} {v : AV} (hs : fromRow s v) (hH : H2 s = H s) : newsOf H2 r v = newsOf H r v := by
  cases v with
  | own q off n =>
    simp only [fromRow] at hs
    subst hs
    simp only [newsOf, hH]
  | d x => cases x <;> rfl
  | _ => rfl

theorem AppS.congr {o : Oper} {e e2 : Env} {H H2 : Heap} {r s m : Nat} {row : Row} (h : AppS T G Mv o e H r s m row) (ha : Agree o.op e e2) (hr : H2 r = H r) (hs : H2 s = H s) : AppS T G Mv o e2 H2 r s m row := by
  obtain ⟨x, y, off, n, v, ty, sz, els, news, c, h1, h2, h3, h4, h5, h6, h7, h8⟩ := h
  obtain ⟨t, t', hop⟩ := appOps_op h1
  have hx : ∀ t, x = .tmp t → e t = e2 t := fun t ht => ha t (by rw [hop]; simp [Op.operands, Call.operands, ht])
  have hy : ∀ t, y = .tmp t → e t = e2 t := fun t ht => ha t (by rw [hop]; simp [Op.operands, Call.operands, ht])
  exact ⟨x, y, off, n, v, ty, sz, els, news, c, h1, by rw [← aeval_congr hx]; exact h2, by rw [← aeval_congr hy]; exact h3, h4, by rw [hr]; exact h5, by rw [newsOf_congr h4 hs]; exact h6, h7, h8⟩

/-! ### What an append's forgetting does to others -/

theorem AV.kill_kill (r r' : Nat) (x : AV) : (x.kill r).kill r' = (x.kill r').kill r := by
  have key : ∀ n, ∀ x : AV, SizeOf.sizeOf x < n → (x.kill r).kill r' = (x.kill r').kill r := by
    intro n
    induction n with
    | zero => intro x h; omega
    | succ n ih =>
      intro x h
      have go : ∀ l : List AV, SizeOf.sizeOf l < n → (l.map (AV.kill r)).map (AV.kill r') = (l.map (AV.kill r')).map (AV.kill r) := by
        intro l
        induction l with
        | nil => intro _; rfl
        | cons y l ihl =>
          intro hl
          simp only [List.cons.sizeOf_spec] at hl
          simp only [List.map_cons, List.cons.injEq]
          exact ⟨ih y (by omega), ihl (by omega)⟩
      cases x with
      | d x => simp [AV.kill]
      | own q off n => by_cases h1 : q = r <;> by_cases h2 : q = r' <;> simp [AV.kill, h1, h2] <;> (try (by_cases h3 : r = r' <;> simp [AV.kill, h3])) <;> (try simp_all [AV.kill])
      | ref q e j => by_cases h1 : q = r <;> by_cases h2 : q = r' <;> simp [AV.kill, h1, h2] <;> (try (by_cases h3 : r = r' <;> simp [AV.kill, h3])) <;> (try simp_all [AV.kill])
      | agg cells => simp at h; simp only [AV.kill, AV.go_eq]; rw [go cells (by omega)]
      | tup cells => simp at h; simp only [AV.kill, AV.go_eq]; rw [go cells (by omega)]
      | ifc t x => simp at h; simp only [AV.kill]; rw [ih x (by omega)]
      | fn f cells => simp at h; simp only [AV.kill, AV.go_eq]; rw [go cells (by omega)]
      | dead => simp [AV.kill]
  exact key _ x (Nat.lt_succ_self _)

theorem killE_killE (r r' : Nat) (e : Env) : killE r' (killE r e) = killE r (killE r' e) := by
  funext i
  simp only [killE, Option.map_map]
  congr 1
  funext x
  exact AV.kill_kill r r' x
theorem Row.kill_kill (r r' : Nat) (x : Row) : (x.kill r).kill r' = (x.kill r').kill r := by
  cases x with
  | sl ty sz els => rfl
  | box ty cells =>
    simp only [Row.kill, List.map_map]
    congr 1
    apply List.map_congr_left
    intro x _
    exact AV.kill_kill r r' x
theorem killH_killH (r r' : Nat) (H : Heap) : killH r' (killH r H) = killH r (killH r' H) := by
  funext i
  simp only [killH, Option.map_map]
  congr 1
  funext x
  exact Row.kill_kill r r' x
theorem killE_putd (r : Nat) (e : Env) (d : Option Tmp) (x : AV) : killE r (putd e d x) = putd (killE r e) d (x.kill r) := by
  cases d with
  | none => rfl
  | some d => funext i; simp only [killE, putd, upd]; split <;> rfl

/-- What an operation names has no handle on row r, nor what it yields. -/
def Off (r : Nat) (o : Oper) (e : Env) (x : AV) : Prop := Agree o.op e (killE r e) ∧ x.kill r = x

theorem wantedS_free {o : Oper} {e : Env} (h : o.guard = none) : wantedS ops e o = some true := by simp [wantedS, h]

theorem mkAgg_kill {r : Nat} {l : List AV} (h : (mkAgg l).kill r = mkAgg l) : mkAgg (l.map (AV.kill r)) = mkAgg l := by
  unfold mkAgg at h ⊢
  split at h
  · rename_i ds hd
    rw [allD_eq hd]
    have : (ds.map AV.d).map (AV.kill r) = ds.map AV.d := by simp [List.map_map, Function.comp_def, AV.kill]
    rw [this, allD_map]
  · rename_i hd
    simp only [AV.kill, AV.go_eq, AV.agg.injEq] at h
    rw [h, hd]

theorem asVal_kill {r : Nat} {t : TypeId} {cells : List AV} {c : Prop} {x : AV} {j : Nat} (h : asVal T t (cells.drop j) = some (c, x)) (hx : x.kill r = x) : ∃ c', asVal T t ((cells.map (AV.kill r)).drop j) = some (c', x) ∧ (c → c') := by
  unfold asVal at h ⊢
  split at h
  · cases h
  · rename_i ti ht
    split at h
    · rename_i ha
      rw [if_pos ha]
      simp only [Option.some.injEq, Prod.mk.injEq] at h
      obtain ⟨rfl, rfl⟩ := h
      refine ⟨_, ?_, id⟩
      rw [← List.map_drop, ← List.map_take, List.length_map, mkAgg_kill hx]
    · rename_i ha
      rw [if_neg ha]
      simp only [Option.some.injEq, Prod.mk.injEq] at h
      obtain ⟨rfl, rfl⟩ := h
      rw [← List.map_drop]
      generalize hl : cells.drop j = l at hx
      cases l with
      | nil => exact ⟨_, rfl, fun h => absurd rfl h⟩
      | cons y l =>
        simp only [List.headD_cons] at hx
        refine ⟨_, by simp only [List.map_cons, List.headD_cons, hx]; rfl, fun _ => by simp⟩

/-- An operation that reads, behind an append to a row that it does not name. -/
theorem rd_kill {o : Oper} {e : Env} {H : Heap} {r : Nat} {row : Row} {c : Prop} {x : AV} (hrow : ∃ ty sz els, row = .sl ty sz els) (h : rd T G ⟨e, H⟩ o.op = some (c, x)) (hoff : Off r o e x) :
    ∃ c', rd T G ⟨e, hup (killH r H) r row⟩ o.op = some (c', x) ∧ (c → c') := by
  have hag := hoff.1
  have hx := hoff.2
  clear hoff
  have free : ∀ t v, Operand.tmp t ∈ o.op.operands → e t = some v → v.kill r = v := by
    intro t v ht hv
    have := hag t ht
    rw [hv] at this
    simp only [killE, hv, Option.map_some, Option.some.injEq] at this
    exact this.symm
  have ne : ∀ (p : Operand) (v : AV), aeval G e p = some v → p ∈ o.op.operands → v.kill r = v := by
    intro p v hv hp
    cases p with
    | tmp t => exact free t v hp hv
    | const k => simp only [aeval, Option.some.injEq] at hv; subst hv; unfold cst; split <;> rfl
    | global g => simp only [aeval, Option.map_eq_some_iff] at hv; obtain ⟨d, _, rfl⟩ := hv; rfl
    | func f => simp only [aeval, Option.some.injEq] at hv; subst hv; rfl
  have hne : ∀ q, q ≠ r → (hup (killH r H) r row) q = (H q).map (Row.kill r) := fun q hq => by simp [hup, hq, killH]
  obtain ⟨dst, op, type, pos, after, guard⟩ := o
  dsimp only at h free ne ⊢
  by_cases hk : kindOf op = 0
  · rw [rd_noH hk _ H]; exact ⟨c, h, id⟩
  cases op <;> first | exact absurd rfl hk | skip
  case load t p =>
    simp only [rd] at h ⊢
    obtain ⟨v, hv, hl⟩ := Option.bind_eq_some_iff.1 h
    rw [hv, Option.bind_some]
    have hf := ne p v hv (by simp [Op.operands])
    cases v with
    | d x => cases x <;> first | exact ⟨c, hl, id⟩ | cases hl
    | own q off n => cases hl
    | agg _ => cases hl
    | tup _ => cases hl
    | ifc _ _ => cases hl
    | fn _ _ => cases hl
    | dead => cases hl
    | ref q ee j =>
      simp only [loadA] at hl ⊢
      have hq : q ≠ r := fun e => by simp [AV.kill, e] at hf
      rw [hne q hq]
      cases hH : H q with
      | none => simp [hH] at hl
      | some rw0 =>
        cases rw0 with
        | sl ty sz els => simp only [hH] at hl; simp only [Option.map_some, Row.kill]; exact ⟨c, hl, id⟩
        | box ty cells =>
          simp only [hH] at hl
          simp only [Option.map_some, Row.kill]
          split at hl
          · rename_i he; rw [if_pos he]; exact asVal_kill hl hx
          · cases hl
  case indexAddr t p i =>
    simp only [rd] at h ⊢
    split at h
    · rename_i a b ha hb
      have hf := ne p a ha (by simp [Op.operands])
      have bb : ∃ k n, b = .d (.v (.int k n)) := by
        unfold indexA at h
        split at h
        · exact ⟨_, _, rfl⟩
        · exact ⟨_, _, rfl⟩
        · exact ⟨_, _, rfl⟩
        · exact ⟨_, _, rfl⟩
        · cases h
      obtain ⟨k, nn, rfl⟩ := bb
      cases a with
      | d x => cases x <;> first | exact ⟨c, h, id⟩ | (cases h; done)
      | ref _ _ _ => exact ⟨c, h, id⟩
      | agg _ => cases h
      | tup _ => cases h
      | ifc _ _ => cases h
      | fn _ _ => cases h
      | dead => cases h
      | own q off n =>
      unfold indexA at h ⊢
      have hq : q ≠ r := fun e => by simp [AV.kill, e] at hf
      simp only [hne q hq]
      cases hH : H q with
      | none => simp [hH] at h
      | some rw0 =>
        cases rw0 with
        | sl ty sz els => simp only [hH] at h; exact ⟨c, h, id⟩
        | box ty cells =>
          simp only [hH] at h
          cases he : elemSz T t with
          | none => simp [he] at h
          | some s => rw [he] at h; exact ⟨c, h, id⟩
    · cases h
  case slice t p lo hi mx =>
    simp only [rd] at h ⊢
    split at h
    · rename_i hm
      rw [if_pos hm]
      split at h
      · rename_i v l hh h1 h2 h3
        have hf := ne p v h1 (by simp [Op.operands])
        cases v with
        | d x => cases x with
          | v x => cases x <;> first | exact ⟨c, h, id⟩ | (cases h; done)
          | sl k els => exact ⟨c, h, id⟩
          | _ => cases h
        | ref _ _ _ => cases h
        | agg _ => cases h
        | tup _ => cases h
        | ifc _ _ => cases h
        | fn _ _ => cases h
        | dead => cases h
        | own q off n =>
        unfold sliceA at h ⊢
        dsimp only at h ⊢
        have hq : q ≠ r := fun e => by simp [AV.kill, e] at hf
        rw [hne q hq]
        cases hH : H q with
        | none => simp [hH] at h
        | some rw0 =>
          cases rw0 with
          | sl ty sz els => simp only [hH] at h; exact ⟨c, h, id⟩
          | box ty cells => simp [hH] at h
      · cases h
    · cases h
  case call cc =>
    obtain ⟨callee, args, argTypes⟩ := cc
    cases callee with
    | builtin b => cases b <;> first | exact absurd rfl hk | (simp [rd] at h; done)
    | _ => simp [rd] at h
  all_goals first | (simp [rd] at h; done) | skip
end
end Go.Av

/-
  The rule for regions that draw their order and append to several rows.
-/
namespace Go.Av
set_option linter.unusedSimpArgs false
set_option linter.unusedVariables false
set_option linter.unusedSectionVars false

def avOf (av : List (Nat × List Nat)) (i : Nat) : List Nat := (av.lookup i).getD []

def okKind (o : Op) : Bool := match o with
  | .buildSlice _ _ _ => true
  | .makeSlice _ _ _ => true
  | o => decide (kindOf o ≤ 2)

def compatL (la : List (Nat × Nat × Nat)) (av : List (Nat × List Nat)) (ops : Array Oper) (i j : Nat) (oi oj : Oper) : Bool := match la.lookup i, la.lookup j with
  | none, none => compat ops oi oj
  | none, some (r, s) => oi.apart ops oj && okKind oi.op && !(oi.dst == some s) && !(oi.dst == some r) && (avOf av i).contains r
  | some (r, s), some (r', s') => oi.apart ops oj && !(r == r') && !(s == r') && !(s' == r)
  | some _, none => false

section
variable {P : Program} {T : Ty} {Mv X : Nat → Prop} {G : Glob} {N : Nat} {ops : Array Oper} {la : List (Nat × Nat × Nat)} {av : List (Nat × List Nat)}

def LStep (P : Program) (T : Ty) (Mv : Nat → Prop) (G : Glob) (N : Nat) (la : List (Nat × Nat × Nat)) (av : List (Nat × List Nat)) (i : Nat) (o : Oper) (σ σ' : St) : Prop :=
  okDst N o ∧ o.guard = none ∧ match la.lookup i with
    | some (r, s) => ∃ m row, AppS T G Mv o σ.env σ.H r s m row ∧ σ' = ⟨putd (killE r σ.env) o.dst (.own r 0 m), hup (killH r σ.H) r row⟩
    | none => kindOf o.op ≠ 9 ∧ ∃ x H', Ex P T Mv G o σ.env σ.H x H' ∧ σ' = ⟨putd σ.env o.dst x, H'⟩ ∧ (∀ r ∈ avOf av i, Off r o σ.env x) ∧ (avOf av i ≠ [] → ∀ c, isCall o.op = some c → ∃ y g ds, tgt G σ.env c = some (g, ds.map .d) ∧ PureC P G g ds y ∧ x = .d y)

theorem LStep.step {i : Nat} {o : Oper} {σ σ' : St} (h : LStep P T Mv G N la av i o σ σ') : stepTo P T Mv G N ops o σ σ' := by
  obtain ⟨hd, hg, h⟩ := h
  refine ⟨hd, .inl ⟨wantedS_free hg, ?_⟩⟩
  split at h
  · obtain ⟨m, row, h1, rfl⟩ := h
    exact h1.to
  · obtain ⟨_, x, H', h1, rfl, _⟩ := h
    exact h1.to

theorem Ex.sliceRow {o : Oper} (hk : ¬ kindOf o.op ≤ 2) (ho : okKind o.op = true) {e : Env} {H H' : Heap} {x : AV} (h : Ex P T Mv G o e H x H') : ∃ d ty sz els, o.dst = some d ∧ H d = none ∧ H' = hup H d (.sl ty sz els) ∧ ∀ H2, H2 d = none → Ex P T Mv G o e H2 x (hup H2 d (.sl ty sz els)) := by
  obtain ⟨dst, op, type, pos, after, guard⟩ := o
  dsimp only at hk ho
  unfold Ex at h
  unfold Ex
  cases op <;> simp only [okKind, decide_eq_true_eq] at ho <;> first | exact absurd ho hk | skip
  case makeSlice t y z =>
    simp only [isCall, isWr, if_true] at h ⊢
    obtain ⟨c, h1, h2⟩ := h
    cases dst with
    | none => cases h1
    | some d =>
      simp only [wr] at h1 ⊢
      split at h1
      · split at h1
        · split at h1
          · simp only [Option.some.injEq, Prod.mk.injEq, St.mk.injEq, true_and] at h1
            obtain ⟨rfl, rfl, rfl⟩ := h1
            exact ⟨d, _, _, _, rfl, h2.1, rfl, fun H2 h => ⟨_, rfl, h, h2.2⟩⟩
          · cases h1
        · cases h1
      · cases h1
  case buildSlice t n ps =>
    simp only [isCall, isWr, if_true] at h ⊢
    obtain ⟨c, h1, h2⟩ := h
    cases dst with
    | none => cases h1
    | some d =>
      simp only [wr] at h1 ⊢
      split at h1
      · split at h1
        · split at h1
          · split at h1
            · simp only [Option.some.injEq, Prod.mk.injEq, St.mk.injEq, true_and] at h1
              obtain ⟨rfl, rfl, rfl⟩ := h1
              exact ⟨d, _, _, _, rfl, h2.1, rfl, fun H2 h => ⟨_, rfl, h, h2.2⟩⟩
            · cases h1
          · cases h1
        · cases h1
      · cases h1

theorem kill_own {r q off n : Nat} {z : AV} (h : z.kill r = .own q off n) : z = .own q off n := by
  cases z <;> simp only [AV.kill, reduceCtorEq] at h
  · split at h
    · cases h
    · exact h
  · split at h <;> cases h
theorem kill_d {r : Nat} {x : D} {z : AV} (h : z.kill r = .d x) : z = .d x := by
  cases z <;> simp only [AV.kill, reduceCtorEq] at h
  · exact h
  · split at h <;> cases h
  · split at h <;> cases h

theorem news_shape {H : Heap} {r : Nat} {v : AV} {l : List (List D)} (h : newsOf H r v = some l) : (∃ x, v = .d x) ∨ ∃ q off n, v = .own q off n := by
  unfold newsOf at h
  split at h
  · exact .inl ⟨_, rfl⟩
  · exact .inr ⟨_, _, _, rfl⟩
  · cases h

theorem aeval_kill {r : Nat} {e : Env} {p : Operand} : aeval G (killE r e) p = (aeval G e p).map (AV.kill r) := by
  cases p with
  | tmp t => rfl
  | const k => simp only [aeval, Option.map_some]; unfold cst; split <;> rfl
  | global g => simp only [aeval, Option.map_map]; rfl
  | func f => rfl

theorem aeval_putd {e : Env} {d : Option Tmp} {x : AV} {p : Operand} (h : ∀ t, p = .tmp t → d ≠ some t) : aeval G (putd e d x) p = aeval G e p := by
  cases p with
  | tmp t => exact putd_get (h t rfl)
  | _ => rfl

/-- An append, seen from a state in which another row's handles are not yet, or already, forgotten. -/
theorem AppS.unkill {o : Oper} {e : Env} {H H2 : Heap} {r s m q : Nat} {row : Row} (h : AppS T G Mv o (killE q e) H r s m row) (hr : H2 r = H r) (hs : H2 s = H s) : AppS T G Mv o e H2 r s m row := by
  obtain ⟨x, y, off, n, v, ty, sz, els, news, c, h1, h2, h3, h4, h5, h6, h7, h8⟩ := h
  rw [aeval_kill] at h2 h3
  obtain ⟨z1, hz1, e1⟩ := Option.map_eq_some_iff.1 h2
  obtain ⟨z2, hz2, e2⟩ := Option.map_eq_some_iff.1 h3
  have := kill_own e1
  subst this
  have hz : z2 = v := by
    rcases news_shape h6 with ⟨x, rfl⟩ | ⟨_, _, _, rfl⟩
    · exact kill_d e2
    · exact kill_own e2
  subst hz
  exact ⟨x, y, off, n, z2, ty, sz, els, news, c, h1, hz1, hz2, h4, by rw [hr]; exact h5, by rw [newsOf_congr h4 hs]; exact h6, h7, h8⟩

theorem AppS.rekill {o : Oper} {e : Env} {H H2 : Heap} {r s m q : Nat} {row : Row} (h : AppS T G Mv o e H r s m row) (hq : r ≠ q) (hq' : s ≠ q) (hr : H2 r = H r) (hs : ∀ ty sz els, H s = some (.sl ty sz els) → H2 s = H s) : AppS T G Mv o (killE q e) H2 r s m row := by
  obtain ⟨x, y, off, n, v, ty, sz, els, news, c, h1, h2, h3, h4, h5, h6, h7, h8⟩ := h
  refine ⟨x, y, off, n, v, ty, sz, els, news, c, h1, by rw [aeval_kill, h2]; simp [AV.kill, hq], ?_, h4, by rw [hr]; exact h5, ?_, h7, h8⟩
  · rw [aeval_kill, h3]
    rcases news_shape h6 with ⟨x, rfl⟩ | ⟨q', _, _, rfl⟩
    · rfl
    · simp only [fromRow] at h4
      subst h4
      simp [AV.kill, hq']
  · rcases news_shape h6 with ⟨x, rfl⟩ | ⟨q', off', n', rfl⟩
    · cases x <;> first | exact h6 | cases h6
    · simp only [fromRow] at h4
      subst h4
      simp only [newsOf] at h6 ⊢
      split at h6
      · cases h6
      · rename_i hne
        rw [if_neg hne]
        split at h6
        · rename_i ty' sz' els' hH
          rw [hs _ _ _ hH, hH]
          exact h6
        · cases h6

theorem hup_comm {H : Heap} {r d : Nat} {a b : Row} (h : d ≠ r) : hup (hup H r a) d b = hup (hup H d b) r a := by
  funext i
  by_cases h1 : i = d <;> by_cases h2 : i = r <;> simp [hup, h1, h2, h, Ne.symm h]
theorem killH_hup {H : Heap} {r d : Nat} {b : Row} (hb : b.kill r = b) : killH r (hup H d b) = hup (killH r H) d b := by
  funext i
  by_cases h1 : i = d <;> simp [hup, killH, h1, hb]

theorem agree_off {o : Oper} {e e' : Env} {r : Nat} (h : ∀ t, Operand.tmp t ∈ o.op.operands → e' t = e t) (ha : Agree o.op e (killE r e)) : Agree o.op e' (killE r e') := fun t ht => by
  have h1 := ha t ht
  simp only [killE] at h1 ⊢
  rw [h t ht]
  exact h1

theorem lswap {i j : Nat} {oi oj : Oper} (hc : compatL la av ops i j oi oj = true) {σ σ1 σ2 : St} (h1 : LStep P T Mv G N la av i oi σ σ1) (h2 : LStep P T Mv G N la av j oj σ1 σ2) :
    ∃ σ3, LStep P T Mv G N la av j oj σ σ3 ∧ LStep P T Mv G N la av i oi σ3 σ2 := by
  obtain ⟨di, gi, h1⟩ := h1
  obtain ⟨dj, gj, h2⟩ := h2
  obtain ⟨e, H⟩ := σ
  cases hli : la.lookup i with
  | none =>
    simp only [hli] at h1
    obtain ⟨ki, x, H1, ex1, rfl, off1, cd1⟩ := h1
    cases hlj : la.lookup j with
    | none =>
      simp only [hlj] at h2
      obtain ⟨kj, y, H2, ex2, rfl, off2, cd2⟩ := h2
      simp only [compatL, hli, hlj] at hc
      obtain ⟨H3, f1, f2⟩ := commute hc (x := x) (y := y) (e := e) (H := H) ⟨di, .inl ⟨wantedS_free gi, ex1⟩⟩ ⟨dj, .inl ⟨wantedS_free gj, ex2⟩⟩ ki kj
      have ej : Ex P T Mv G oj e H y H3 := by
        rcases f1.2 with ⟨_, h⟩ | ⟨h, _⟩
        · exact h
        · rw [wantedS_free gj] at h; cases h
      have ei : Ex P T Mv G oi (putd e oj.dst y) H3 x H2 := by
        rcases f2.2 with ⟨_, h⟩ | ⟨h, _⟩
        · exact h
        · rw [wantedS_free gi] at h; cases h
      simp only [compat, Bool.and_eq_true] at hc
      obtain ⟨a1, _, hne⟩ := agree_put hc.1 (e := e) (v := x)
      obtain ⟨_, a2, _⟩ := agree_put hc.1 (e := e) (v := y)
      refine ⟨⟨putd e oj.dst y, H3⟩, ⟨dj, gj, ?_⟩, ⟨di, gi, ?_⟩⟩
      · simp only [hlj]
        refine ⟨kj, y, H3, ej, rfl, fun r hr => ⟨agree_off (e := putd e oi.dst x) (fun t ht => (a1 t (looks_of_op ht)).symm) (off2 r hr).1, (off2 r hr).2⟩, fun ha c hcc => ?_⟩
        obtain ⟨y', g, ds, ht, hp⟩ := cd2 ha c hcc
        exact ⟨y', g, ds, by rw [← ht]; exact tgt_congr fun t ht => (a1 t (looks_of_op (by rw [(isCall_op hcc).1]; exact ht))).symm, hp⟩
      · simp only [hli]
        refine ⟨ki, x, H2, ei, by rw [putd_comm hne], fun r hr => ⟨agree_off (e := e) (fun t ht => a2 t (looks_of_op ht)) (off1 r hr).1, (off1 r hr).2⟩, fun ha c hcc => ?_⟩
        obtain ⟨y', g, ds, ht, hp⟩ := cd1 ha c hcc
        exact ⟨y', g, ds, by rw [← ht]; exact tgt_congr fun t ht => a2 t (looks_of_op (by rw [(isCall_op hcc).1]; exact ht)), hp⟩
    | some rs =>
      obtain ⟨r, s⟩ := rs
      simp only [hlj] at h2
      obtain ⟨m, row, app, rfl⟩ := h2
      simp only [compatL, hli, hlj, Bool.and_eq_true, Bool.not_eq_true', beq_eq_false_iff_ne, List.contains_iff_mem] at hc
      obtain ⟨⟨⟨⟨hap, hok⟩, hs⟩, hr⟩, hav⟩ := hc
      obtain ⟨hag, hx⟩ := off1 r hav
      obtain ⟨a1, _, hne⟩ := agree_put hap (e := e) (v := x)
      obtain ⟨_, a2, _⟩ := agree_put hap (e := killE r e) (v := .own r 0 m)
      obtain ⟨hrow, hHr, _⟩ := app.row
      have agj : Agree oj.op (putd e oi.dst x) e := fun t ht => a1 t (looks_of_op ht)
      have e3 : ∀ t, Operand.tmp t ∈ oi.op.operands → (putd (killE r e) oj.dst (.own r 0 m)) t = e t := fun t ht => (a2 t (looks_of_op ht)).trans (hag t ht).symm
      -- the heap behind it all
      have main : AppS T G Mv oj e H r s m row ∧ ∃ H2, Ex P T Mv G oi e (hup (killH r H) r row) x H2 ∧ H2 = hup (killH r H1) r row := by
        by_cases hk2 : kindOf oi.op ≤ 2
        · have := ex1.keeps hk2
          subst this
          refine ⟨app.congr agj rfl rfl, _, ?_, rfl⟩
          cases hcall : isCall oi.op with
          | some c =>
            obtain ⟨y, g, ds, ht, hp, rfl⟩ := cd1 (List.ne_nil_of_mem hav) c hcall
            unfold Ex
            simp only [hcall]
            exact ⟨y, ⟨g, _, ht, .inl ⟨ds, rfl, hp⟩⟩, rfl, trivial⟩
          | none =>
            unfold Ex at ex1 ⊢
            simp only [hcall] at ex1 ⊢
            have hw : ¬ isWr oi.op = true := fun hw => by rcases isWr_kind hw with h | h | h <;> omega
            rw [if_neg hw] at ex1 ⊢
            obtain ⟨c, hrd, hcc, _⟩ := ex1
            obtain ⟨c', h', hi'⟩ := rd_kill hrow hrd ⟨hag, hx⟩
            exact ⟨c', h', hi' hcc, trivial⟩
        · obtain ⟨d, ty, sz, els, hd, hn, rfl, hall⟩ := ex1.sliceRow hk2 hok
          have hdr : d ≠ r := fun e => hr (by rw [hd, e])
          have hds : d ≠ s := fun e => hs (by rw [hd, e])
          refine ⟨app.congr agj (by simp [hup, Ne.symm hdr]) (by simp [hup, Ne.symm hds]), _, hall _ (by simp [hup, hdr, killH, hn]), ?_⟩
          rw [killH_hup rfl, hup_comm hdr]
      obtain ⟨app', H2, ex', rfl⟩ := main
      refine ⟨⟨putd (killE r e) oj.dst (.own r 0 m), hup (killH r H) r row⟩, ⟨dj, gj, ?_⟩, ⟨di, gi, ?_⟩⟩
      · simp only [hlj]
        exact ⟨m, row, app', rfl⟩
      · simp only [hli]
        refine ⟨ki, x, _, ex'.congr ki fun t ht => (e3 t ht).symm, ?_, fun q hq => ⟨agree_off e3 (off1 q hq).1, (off1 q hq).2⟩, fun ha c hcc => ?_⟩
        · rw [killE_putd, hx, putd_comm hne]
        · obtain ⟨y', g, ds, ht, hp⟩ := cd1 ha c hcc
          exact ⟨y', g, ds, by rw [← ht]; exact tgt_congr fun t ht => e3 t (by rw [(isCall_op hcc).1]; exact ht), hp⟩
  | some rs =>
    obtain ⟨r, s⟩ := rs
    simp only [hli] at h1
    obtain ⟨m, row, app, rfl⟩ := h1
    cases hlj : la.lookup j with
    | none => simp [compatL, hli, hlj] at hc
    | some rs' =>
      obtain ⟨r', s'⟩ := rs'
      simp only [hlj] at h2
      obtain ⟨m', row', app', rfl⟩ := h2
      simp only [compatL, hli, hlj, Bool.and_eq_true, Bool.not_eq_true', beq_eq_false_iff_ne] at hc
      obtain ⟨⟨⟨hap, hrr⟩, hs⟩, hs'⟩ := hc
      obtain ⟨a1, _, hne⟩ := agree_put hap (e := killE r e) (v := .own r 0 m)
      obtain ⟨_, a2, _⟩ := agree_put hap (e := killE r' e) (v := .own r' 0 m')
      obtain ⟨⟨ty1, sz1, els1, rfl⟩, ⟨t1, z1, l1, hHr⟩, _⟩ := app.row
      obtain ⟨⟨ty2, sz2, els2, rfl⟩, ⟨t2, z2, l2, hHr'⟩, _⟩ := app'.row
      have hkeep : ∀ q, q ≠ r → ∀ ty sz els, (killH r H) q = some (.sl ty sz els) → H q = some (.sl ty sz els) := by
        intro q _ ty sz els hq
        obtain ⟨row0, h0, he⟩ := Option.map_eq_some_iff.1 hq
        cases row0 with
        | sl _ _ _ => rw [h0]; exact congrArg some he
        | box _ _ => cases he
      have hH' : H r' = some (.sl t2 z2 l2) := hkeep r' (Ne.symm hrr) _ _ _ (by simpa [hup, Ne.symm hrr] using hHr')
      -- the second one first
      have p1 : AppS T G Mv oj (killE r e) (hup (killH r H) r (.sl ty1 sz1 els1)) r' s' m' (.sl ty2 sz2 els2) := app'.congr (fun t ht => a1 t (looks_of_op ht)) rfl rfl
      have p2 : AppS T G Mv oj e H r' s' m' (.sl ty2 sz2 els2) := by
        obtain ⟨x, y, off, n, v, ty, sz, els, news, c, g1, g2, g3, g4, g5, g6, g7, g8⟩ := p1
        have hnews : newsOf H r' v = some news := by
          rcases news_shape g6 with ⟨x, rfl⟩ | ⟨q', off', n', rfl⟩
          · cases x <;> first | exact g6 | cases g6
          · simp only [fromRow] at g4
            subst g4
            simp only [newsOf] at g6 ⊢
            split at g6
            · cases g6
            · rename_i hq
              rw [if_neg hq]
              split at g6
              · rename_i ty' sz' els' hq2
                have : H q' = some (.sl ty' sz' els') := hkeep q' hs' _ _ _ (by simpa [hup, hs'] using hq2)
                rw [this]
                exact g6
              · cases g6
        have : AppS T G Mv oj (killE r e) H r' s' m' (.sl ty2 sz2 els2) := ⟨x, y, off, n, v, ty, sz, els, news, c, g1, g2, g3, g4, by rw [hH']; simpa [hup, Ne.symm hrr, killH, hH', Row.kill] using g5, hnews, g7, g8⟩
        exact this.unkill rfl rfl
      have q1 : AppS T G Mv oi (killE r' e) (hup (killH r' H) r' (.sl ty2 sz2 els2)) r s m (.sl ty1 sz1 els1) := by
        refine app.rekill hrr hs ?_ fun ty sz els hh => ?_
        · simp [hup, hrr, killH, hHr, Row.kill]
        · simp [hup, hs, killH, hh, Row.kill]
      have q2 : AppS T G Mv oi (putd (killE r' e) oj.dst (.own r' 0 m')) (hup (killH r' H) r' (.sl ty2 sz2 els2)) r s m (.sl ty1 sz1 els1) := q1.congr (fun t ht => (a2 t (looks_of_op ht)).symm) rfl rfl
      refine ⟨⟨putd (killE r' e) oj.dst (.own r' 0 m'), hup (killH r' H) r' (.sl ty2 sz2 els2)⟩, ⟨dj, gj, ?_⟩, ⟨di, gi, ?_⟩⟩
      · simp only [hlj]
        exact ⟨m', _, p2, rfl⟩
      · simp only [hli]
        refine ⟨m, _, q2, ?_⟩
        have k1 : AV.kill r' (.own r 0 m) = .own r 0 m := by simp [AV.kill, hrr]
        have k2 : AV.kill r (.own r' 0 m') = .own r' 0 m' := by simp [AV.kill, Ne.symm hrr]
        rw [killE_putd, killE_putd, k1, k2, killE_killE r' r, putd_comm hne, killH_hup rfl, killH_hup rfl, killH_killH r' r, hup_comm hrr]

/-! ### The region -/

def runL (P : Program) (T : Ty) (Mv : Nat → Prop) (G : Glob) (N : Nat) (la : List (Nat × Nat × Nat)) (av : List (Nat × List Nat)) (ops : Array Oper) : List Nat → St → St → Prop
  | [], σ, σ' => σ = σ'
  | i :: l, σ, σ' => ∃ o, ops[i]? = some o ∧ ∃ σ1, LStep P T Mv G N la av i o σ σ1 ∧ runL P T Mv G N la av ops l σ1 σ'

theorem runL_front {p : Nat} {op : Oper} (hp : ops[p]? = some op) : ∀ (l1 : List Nat) {l2 : List Nat} {σ σ' : St}, (∀ q ∈ l1, ∀ oq, ops[q]? = some oq → compatL la av ops q p oq op = true) → runL P T Mv G N la av ops (l1 ++ p :: l2) σ σ' → runL P T Mv G N la av ops (p :: (l1 ++ l2)) σ σ' := by
  intro l1
  induction l1 with
  | nil => intro l2 σ σ' _ h; exact h
  | cons q l1 ih =>
    intro l2 σ σ' hall h
    obtain ⟨oq, hq, σ1, s1, rest⟩ := h
    obtain ⟨o', ho', σ2, s2, rest2⟩ := ih (fun q' hq' => hall q' (by simp [hq'])) rest
    rw [hp] at ho'
    obtain rfl := Option.some.inj ho'
    obtain ⟨σ3, f1, f2⟩ := lswap (hall q (by simp) oq hq) s1 s2
    exact ⟨op, hp, σ3, f1, oq, hq, σ2, f2, rest2⟩

/-- One order in which the operations may come up, written out: what is not ordered may pass. -/
def okDrawL (la : List (Nat × Nat × Nat)) (av : List (Nat × List Nat)) (ord : List Nat) (ops : Array Oper) : Bool :=
  let t := tb ops
  ord.length == ops.size && (ord.all fun i => decide (i < ops.size)) && ((List.range ops.size).all fun i => ord.contains i) && decide ord.Nodup &&
  ((List.range ops.size).all fun j => match ops[j]? with
    | some oj => oj.after.all fun e => !Region.binds .any e || e.on < j
    | none => true) &&
  go t ord
where
  go (t : List Nat) : List Nat → Bool
  | [] => true
  | a :: l => (l.all fun b => match ops[a]?, ops[b]? with
    | some oa, some ob => (oa.after.all fun e => !Region.binds .any e || !(e.on == b)) && ((t.getD b 0).testBit a || compatL la av ops a b oa ob)
    | _, _ => true) && go t l

def PairL (la : List (Nat × Nat × Nat)) (av : List (Nat × List Nat)) (ops : Array Oper) (a b : Nat) : Prop := ∀ oa ob, ops[a]? = some oa → ops[b]? = some ob →
  (∀ e ∈ oa.after, Region.binds .any e = true → e.on ≠ b) ∧ (((tb ops).getD b 0).testBit a = true ∨ compatL la av ops a b oa ob = true)

theorem pairs_of : ∀ {l : List Nat}, okDrawL.go la av ops (tb ops) l = true → l.Pairwise (PairL la av ops)
  | [], _ => .nil
  | a :: l, h => by
    simp only [okDrawL.go, Bool.and_eq_true] at h
    refine .cons (fun b hb oa ob hoa hob => ?_) (pairs_of h.2)
    have := List.all_eq_true.1 h.1 b hb
    simp only [hoa, hob, Bool.and_eq_true, Bool.or_eq_true] at this
    refine ⟨fun e he hbi heq => ?_, this.2⟩
    have h1 := Array.all_eq_true_iff_forall_mem.1 this.1 e he
    simp [hbi, heq] at h1

/-- Whoever may come up now stands behind nothing that is not listed. -/
theorem behindL (hlt : ∀ j oj, ops[j]? = some oj → ∀ e ∈ oj.after, Region.binds .any e = true → e.on < j) {listed : Array Bool} (hdown : ∀ j oj, ops[j]? = some oj → listed.getD j false = true → ∀ e ∈ oj.after, Region.binds .any e = true → listed.getD e.on false = true) :
    ∀ (n j : Nat) (oj : Oper), j ≤ n → ops[j]? = some oj → (∀ e ∈ oj.after, Region.binds .any e = true → listed.getD e.on false = true) → ∀ q, ((tb ops).getD j 0).testBit q = true → listed.getD q false = true := by
  intro n
  induction n with
  | zero =>
    intro j oj hj hoj hall q hq
    have hj0 : j = 0 := by omega
    subst hj0
    obtain ⟨e, he, hb, _⟩ := tb_bits ops.toList [] 0 oj q (by simpa using hoj) (by simpa [tb] using hq)
    have := hlt 0 oj hoj e he hb
    omega
  | succ n ih =>
    intro j oj hj hoj hall q hq
    obtain ⟨e, he, hb, r⟩ := tb_bits ops.toList [] j oj q (by simpa using hoj) (by simpa [tb] using hq)
    rcases r with rfl | ⟨_, r⟩
    · exact hall e he hb
    · have hlt1 := hlt j oj hoj e he hb
      have hlt2 : e.on < ops.size := by have := (Array.getElem?_eq_some_iff.1 hoj).1; omega
      exact ih e.on ops[e.on] (by omega) (by simp [hlt2]) (fun e' he' hb' => hdown e.on _ (by simp [hlt2]) (hall e he hb) e' he' hb') q (by simpa [tb] using r)

theorem anyL_ok (hg : Good P T) (hlt : ∀ j oj, ops[j]? = some oj → ∀ e ∈ oj.after, Region.binds .any e = true → e.on < j) {Q : Exit → St → Prop} {w0 : World} {μ0 : Mu} {σn : St} (hQ : Q .normal σn) : ∀ (n : Nat) (R : List Nat) (listed : Array Bool) (w : World) (μ : Mu) (a : Act) (σ : St), R.length = n → R.Nodup →
    (∀ j, j ∈ R ↔ j < ops.size ∧ listed.getD j true = false) → listed.size = ops.size → R.Pairwise (PairL la av ops) →
    (∀ j oj, ops[j]? = some oj → listed.getD j false = true → ∀ e ∈ oj.after, Region.binds .any e = true → listed.getD e.on false = true) → runL P T Mv G N la av ops R σ σn → In w X G μ N a σ → Ev Mv w0 μ0 w μ →
    wpAny P .any ops (After Mv X G N w0 μ0 Q) n listed a w := by
  intro n
  induction n with
  | zero =>
    intro R listed w μ a σ hl _ hR hsz _ _ hrun hi hev
    have : R = [] := List.eq_nil_of_length_eq_zero hl
    subst this
    have hr : Region.ready .any ops listed = [] := by
      apply List.eq_nil_iff_forall_not_mem.2
      intro j hj
      obtain ⟨h1, o, ho, _⟩ := mem_ready.1 hj
      exact absurd ((hR j).2 ⟨(Array.getElem?_eq_some_iff.1 ho).1, h1⟩) (by simp)
    have : σ = σn := hrun
    subst this
    exact ⟨hr, μ, σ, hQ, hi, hev⟩
  | succ n ih =>
    intro R listed w μ a σ hl hnd hR hsz hpw hdown hrun hi hev
    refine ⟨fun hr => ?_, fun i hir => ?_⟩
    · cases R with
      | nil => simp at hl
      | cons j R =>
        obtain ⟨hj1, hj2⟩ := (hR j).1 (by simp)
        have hoj : ops[j]? = some ops[j] := by simp [hj1]
        have hjr : j ∈ Region.ready .any ops listed := by
          refine mem_ready.2 ⟨hj2, ops[j], hoj, fun e he hb => ?_⟩
          have hlt' := hlt j ops[j] hoj e he hb
          have hlt2 : e.on < ops.size := by omega
          have hne : e.on ∉ (j :: R) := by
            intro hm
            rcases List.mem_cons.1 hm with h | h
            · omega
            · exact ((List.pairwise_cons.1 hpw).1 _ h ops[j] ops[e.on] hoj (by simp [hlt2])).1 e he hb rfl
          have := mt (hR e.on).2 hne
          have hls : e.on < listed.size := by omega
          simp only [hlt2, true_and, Array.getD_eq_getD_getElem?] at this ⊢
          simp [hls] at this ⊢
          exact this
        rw [hr] at hjr
        cases hjr
    · obtain ⟨hi1, oi, hoi, hall⟩ := mem_ready.1 hir
      have hiR : i ∈ R := (hR i).2 ⟨(Array.getElem?_eq_some_iff.1 hoi).1, hi1⟩
      obtain ⟨R1, R2, rfl⟩ := List.append_of_mem hiR
      have hfront := runL_front (P := P) (T := T) (Mv := Mv) (G := G) (N := N) (la := la) (av := av) hoi R1 (fun q hq oq hoq => by
        have hpq : PairL la av ops q i := (List.pairwise_append.1 hpw).2.2 q hq i (by simp)
        rcases (hpq oq oi hoq hoi).2 with h | h
        · exfalso
          have hlq := behindL hlt hdown i i oi (Nat.le_refl _) hoi hall q h
          have hq2 := ((hR q).1 (by simp [hq])).2
          have hqs : q < listed.size := by have := (Array.getElem?_eq_some_iff.1 hoq).1; omega
          simp [Array.getD_eq_getD_getElem?, hqs] at hlq hq2
          rw [hlq] at hq2; cases hq2
        · exact h) hrun
      obtain ⟨o', ho', σ1, hstep, hrest⟩ := hfront
      rw [hoi] at ho'
      obtain rfl := Option.some.inj ho'
      refine stepTo_ok hg hstep.step hi hoi fun w' μ' a' hin hev' => ?_
      have hnd' : (R1 ++ R2).Nodup := by
        have := hnd
        rw [List.nodup_append] at this ⊢
        obtain ⟨g1, g2, g3⟩ := this
        exact ⟨g1, (List.nodup_cons.1 g2).2, fun x hx y hy => g3 x hx y (by simp [hy])⟩
      have hi_not : i ∉ R1 ++ R2 := by
        have := hnd
        rw [List.nodup_append] at this
        obtain ⟨g1, g2, g3⟩ := this
        intro hm
        rcases List.mem_append.1 hm with h | h
        · exact g3 i h i (by simp) rfl
        · exact (List.nodup_cons.1 g2).1 h
      refine ih (R1 ++ R2) _ w' μ' a' σ1 (by simp at hl ⊢; omega) hnd' (fun j => ?_) (by simpa using hsz) ?_ ?_ hrest hin (hev.trans hev')
      · by_cases hji : j = i
        · subst hji
          have hls : j < listed.size := by rw [hsz]; exact (Array.getElem?_eq_some_iff.1 hoi).1
          simp [hls]
          simpa using hi_not
        · rw [getD_set_ne true (Ne.symm hji)]
          rw [← hR j]
          simp [hji]
      · rw [List.pairwise_append] at hpw ⊢
        obtain ⟨g1, g2, g3⟩ := hpw
        exact ⟨g1, (List.pairwise_cons.1 g2).2, fun x hx y hy => g3 x hx y (by simp [hy])⟩
      · intro j oj hoj hlj e he hb
        by_cases hji : j = i
        · subst hji
          rw [hoi] at hoj
          obtain rfl := Option.some.inj hoj
          exact getD_set_true (hall e he hb)
        · rw [getD_set_ne false (Ne.symm hji)] at hlj
          exact getD_set_true (hdown j oj hoj hlj e he hb)

/-! ### As one computes it -/

def offOps (r : Nat) (e : Env) : List Operand → Prop
  | [] => True
  | .tmp t :: l => (e t).map (AV.kill r) = e t ∧ offOps r e l
  | _ :: l => offOps r e l
theorem offOps_ok {r : Nat} {e : Env} : ∀ {l : List Operand}, offOps r e l → ∀ t, Operand.tmp t ∈ l → e t = killE r e t
  | [], _, t, ht => by cases ht
  | p :: l, h, t, ht => by
    cases p with
    | tmp u =>
      simp only [offOps] at h
      rcases List.mem_cons.1 ht with h1 | h1
      · cases h1; exact h.1.symm
      · exact offOps_ok h.2 t h1
    | _ =>
      simp only [offOps] at h
      rcases List.mem_cons.1 ht with h1 | h1
      · cases h1
      · exact offOps_ok h t h1

def offAll (rs : List Nat) (ps : List Operand) (e : Env) (x : AV) : Prop := match rs with
  | [] => True
  | r :: rs => (offOps r e ps ∧ x.kill r = x) ∧ offAll rs ps e x
theorem offAll_ok {o : Oper} {e : Env} {x : AV} : ∀ {rs : List Nat}, offAll rs o.op.operands.toList e x → ∀ r ∈ rs, Off r o e x
  | [], _, r, hr => by cases hr
  | q :: rs, h, r, hr => by
    simp only [offAll] at h
    rcases List.mem_cons.1 hr with rfl | hr
    · exact ⟨fun t ht => offOps_ok h.1.1 t (by simpa using ht), h.1.2⟩
    · exact offAll_ok h.2 r hr

/-- A call with data, and what follows. -/
def callD (P : Program) (G : Glob) (c : Call) (e : Env) (dst : Option Tmp) (H : Heap) (rs : List Nat) (ps : List Operand) (next : St → Prop) : Prop := ∃ y g ds, tgt G e c = some (g, ds.map .d) ∧ PureC P G g ds y ∧ offAll rs ps e (.d y) ∧ next ⟨putd e dst (.d y), H⟩

theorem callD.mk {c : Call} {e : Env} {dst : Option Tmp} {H : Heap} {rs : List Nat} {ps : List Operand} {next : St → Prop} {g : FuncId} {xs : List AV} {ds ds' : List D} {y : D} (hc : PureC P G g ds y) (ht : tgt G e c = some (g, xs)) (hx : allD xs = some ds') (hle : D.le.go ds' ds)
    (ho : offAll rs ps e (.d y)) (h : next ⟨putd e dst (.d y), H⟩) : callD P G c e dst H rs ps next := ⟨y, g, ds', by rw [ht, allD_eq hx], hc.weak hle, ho, h⟩

def appK (T : Ty) (Mv : Nat → Prop) (G : Glob) (o : Oper) (σ : St) (r s : Nat) (next : St → Prop) : Prop := match appOps o with
  | some (x, y) => match aeval G σ.env x, aeval G σ.env y with
    | some (.own q _ _), some v => q = r ∧ fromRow s v ∧ match wr T G Mv σ o with
      | some (c, z, σ1) => c ∧ next ⟨putd σ1.env o.dst z, σ1.H⟩
      | none => False
    | _, _ => False
  | none => False

def plainL (T : Ty) (G : Glob) (Mv : Nat → Prop) (o : Oper) (σ : St) (rs : List Nat) (next : St → Prop) : Prop :=
  if isWr o.op then match wr T G Mv σ o with
    | some (c, x, σ') => c ∧ offAll rs o.op.operands.toList σ.env x ∧ next ⟨putd σ'.env o.dst x, σ'.H⟩
    | none => False
  else match rd T G σ o.op with
    | some (c, x) => c ∧ offAll rs o.op.operands.toList σ.env x ∧ next ⟨putd σ.env o.dst x, σ.H⟩
    | none => False

def sxl (P : Program) (T : Ty) (Mv : Nat → Prop) (G : Glob) (N : Nat) (la : List (Nat × Nat × Nat)) (av : List (Nat × List Nat)) (K : St → Prop) : List (Nat × Oper) → St → Prop
  | [], σ => K σ
  | (i, o) :: rest, σ => okDst N o ∧ o.guard = none ∧ match la.lookup i with
    | some (r, s) => appK T Mv G o σ r s (sxl P T Mv G N la av K rest)
    | none => kindOf o.op ≠ 9 ∧ match isCall o.op with
      | some c => callD P G c σ.env o.dst σ.H (avOf av i) o.op.operands.toList (sxl P T Mv G N la av K rest)
      | none => plainL T G Mv o σ (avOf av i) (sxl P T Mv G N la av K rest)

/-- The operations in that order. -/
def inOrder (ops : Array Oper) : List Nat → List (Nat × Oper)
  | [] => []
  | i :: l => match ops[i]? with
    | some o => (i, o) :: inOrder ops l
    | none => inOrder ops l

theorem sxl_run {K : St → Prop} : ∀ (l : List Nat) (σ : St), (∀ i ∈ l, i < ops.size) → sxl P T Mv G N la av K (inOrder ops l) σ → ∃ σn, K σn ∧ runL P T Mv G N la av ops l σ σn := by
  intro l
  induction l with
  | nil => intro σ _ h; exact ⟨σ, h, rfl⟩
  | cons i l ih =>
    intro σ hl h
    have hi := hl i (by simp)
    have ho : ops[i]? = some ops[i] := by simp [hi]
    simp only [inOrder, ho] at h
    generalize ops[i] = o at ho h
    simp only [sxl] at h
    obtain ⟨hd, hgu, h⟩ := h
    have fin : ∀ σ1, LStep P T Mv G N la av i o σ σ1 → sxl P T Mv G N la av K (inOrder ops l) σ1 → ∃ σn, K σn ∧ runL P T Mv G N la av ops (i :: l) σ σn := fun σ1 hs h1 => by
      obtain ⟨σn, hk, hr⟩ := ih σ1 (fun j hj => hl j (by simp [hj])) h1
      exact ⟨σn, hk, o, ho, σ1, hs, hr⟩
    cases hla : la.lookup i with
    | some rs =>
      obtain ⟨r, s⟩ := rs
      simp only [hla] at h
      unfold appK at h
      split at h
      · rename_i x y hops
        split at h
        · rename_i q off n v hx hy
          obtain ⟨rfl, hs, h⟩ := h
          split at h
          · rename_i c z σ1 hw
            obtain ⟨hc, h⟩ := h
            obtain ⟨e, H⟩ := σ
            obtain ⟨m, row, happ, rfl, rfl⟩ := AppS.of hops hx hy hs hw hc
            refine fin _ ⟨hd, hgu, ?_⟩ h
            simp only [hla]
            exact ⟨m, row, happ, rfl⟩
          · exact h.elim
        · exact h.elim
      · exact h.elim
    | none =>
      simp only [hla] at h
      obtain ⟨hk, h⟩ := h
      split at h
      · rename_i c hc
        obtain ⟨y, g, ds, ht, hp, hoff, h⟩ := h
        refine fin _ ⟨hd, hgu, ?_⟩ h
        simp only [hla]
        refine ⟨hk, .d y, σ.H, ?_, rfl, offAll_ok hoff, fun _ c' hc' => ?_⟩
        · unfold Ex
          simp only [hc]
          exact ⟨y, ⟨g, _, ht, .inl ⟨ds, rfl, hp⟩⟩, rfl, trivial⟩
        · rw [hc] at hc'
          obtain rfl := Option.some.inj hc'
          exact ⟨y, g, ds, ht, hp, rfl⟩
      · rename_i hc
        unfold plainL at h
        split at h
        · rename_i hw
          split at h
          · rename_i c x σ1 h1
            obtain ⟨hcc, hoff, h⟩ := h
            have he := wr_env hk h1
            obtain ⟨e, H⟩ := σ
            obtain ⟨e1, H1⟩ := σ1
            dsimp only at he
            subst he
            refine fin _ ⟨hd, hgu, ?_⟩ h
            simp only [hla]
            refine ⟨hk, x, H1, ?_, rfl, offAll_ok hoff, fun _ c' hc' => ?_⟩
            · unfold Ex
              simp only [hc]
              rw [if_pos hw]
              exact ⟨c, h1, hcc⟩
            · rw [hc] at hc'; cases hc'
          · exact h.elim
        · rename_i hw
          split at h
          · rename_i c x h1
            obtain ⟨hcc, hoff, h⟩ := h
            refine fin _ ⟨hd, hgu, ?_⟩ h
            simp only [hla]
            refine ⟨hk, x, σ.H, ?_, rfl, offAll_ok hoff, fun _ c' hc' => ?_⟩
            · unfold Ex
              simp only [hc]
              rw [if_neg hw]
              exact ⟨c, h1, hcc, trivial⟩
            · rw [hc] at hc'; cases hc'
          · exact h.elim

/-- A REGION THAT DRAWS ITS ORDER, and appends to several rows: one run, in one order. -/
theorem AW_regionL (hg : Good P T) (hm : P.follows .mixedOrders = true) (la : List (Nat × Nat × Nat)) (av : List (Nat × List Nat)) (ord : List Nat) {id : Nat} (hok : okDrawL la av ord ops = true) {Q : Exit → St → Prop} {σ : St} (h : sxl P T Mv G N la av (fun σ' => Q .normal σ') (inOrder ops ord) σ) : AW P Mv X G N (.region id ops true) Q σ := fun w μ a hi => by
  unfold okDrawL at hok
  simp only [Bool.and_eq_true] at hok
  obtain ⟨⟨⟨⟨⟨h1, h2⟩, h3⟩, h4⟩, h5⟩, h6⟩ := hok
  have hlen : ord.length = ops.size := by simpa using h1
  have hlt : ∀ i ∈ ord, i < ops.size := fun i hi => by simpa using List.all_eq_true.1 h2 i hi
  have hall : ∀ i, i < ops.size → i ∈ ord := fun i hi => by simpa using List.all_eq_true.1 h3 i (List.mem_range.2 hi)
  have hnd : ord.Nodup := by simpa using h4
  have hedge : ∀ j oj, ops[j]? = some oj → ∀ e ∈ oj.after, Region.binds .any e = true → e.on < j := fun j oj hoj e he hb => by
    have := List.all_eq_true.1 h5 j (List.mem_range.2 (Array.getElem?_eq_some_iff.1 hoj).1)
    simp only [hoj] at this
    have := Array.all_eq_true_iff_forall_mem.1 this e he
    simpa [hb] using this
  obtain ⟨σn, hQ, hrun⟩ := sxl_run ord σ hlt h
  refine wp_region_any hm ?_
  obtain ⟨hin, hev⟩ := hi.grew (Mv := Mv) (Grew.drew w)
  refine anyL_ok hg hedge hQ ops.size ord _ w.drew μ a σ hlen hnd (fun j => ?_) (by simp) (pairs_of h6) ?_ hrun hin hev
  · constructor
    · intro hj
      have := hlt j hj
      simp [Array.getD_eq_getD_getElem?, this]
    · intro hj
      exact hall j hj.1
  · intro j oj hoj hlj
    have hj := (Array.getElem?_eq_some_iff.1 hoj).1
    simp [Array.getD_eq_getD_getElem?, hj] at hlj

theorem AW_rl (hg : Good P T) (hM : ∀ r, Mv r) (hm : P.follows .mixedOrders = true) (la : List (Nat × Nat × Nat)) (av : List (Nat × List Nat)) (ord : List Nat) (l ns : List Nat) {id : Nat} (hok : okDrawL la av ord ops = true) {y : Code} {Q : Exit → St → Prop} {σ : St}
    (h : ∀ K : St → Prop, (∀ τ : St, AW P Mv X G N y Q (τ.norm l ns) → K τ) → sxl P T Mv G N la av K (inOrder ops ord) σ) : AW P Mv X G N (.seq (.region id ops true) y) Q σ :=
  AW_seq (AW_regionL hg hm la av ord hok (h _ fun _ h => h.norm hM))
theorem AW_rle (hg : Good P T) (hm : P.follows .mixedOrders = true) (la : List (Nat × Nat × Nat)) (av : List (Nat × List Nat)) (ord : List Nat) {id : Nat} (hok : okDrawL la av ord ops = true) {Q : Exit → St → Prop} {σ : St}
    (h : ∀ K : St → Prop, (∀ τ : St, Q .normal τ → K τ) → sxl P T Mv G N la av K (inOrder ops ord) σ) : AW P Mv X G N (.region id ops true) Q σ := AW_regionL hg hm la av ord hok (h _ fun _ h => h)
end
end Go.Av

/-
  Regions, one operation at a time; states stay written out.
-/
namespace Go.Av
set_option linter.unusedSimpArgs false
set_option linter.unusedVariables false
set_option linter.unusedSectionVars false

section
variable {P : Program} {T : Ty} {Mv X : Nat → Prop} {G : Glob} {N : Nat} {σ : St}

theorem upd_lst (l : List (Nat × AV)) (i : Nat) (x : AV) : upd (lst l) i x = lst ((i, x) :: l) := by
  funext j
  simp only [upd, lst, List.lookup]
  by_cases h : j = i
  · subst h; simp
  · have : (j == i) = false := by simpa using h
    simp [h, this]
theorem hup_hlst (l : List (Nat × Row)) (i : Nat) (x : Row) : hup (hlst l) i x = hlst ((i, x) :: l) := by
  funext j
  simp only [hup, hlst, List.lookup]
  by_cases h : j = i
  · subst h; simp
  · have : (j == i) = false := by simpa using h
    simp [h, this]
theorem lookup_map {α β : Type} (f : α → β) (l : List (Nat × α)) (i : Nat) : (l.map fun p => (p.1, f p.2)).lookup i = (l.lookup i).map f := by
  induction l with
  | nil => rfl
  | cons p l ih =>
    simp only [List.map_cons, List.lookup]
    cases h : (i == p.1) <;> simp [ih]
theorem killE_lst (r : Nat) (l : List (Nat × AV)) : killE r (lst l) = lst (l.map fun p => (p.1, p.2.kill r)) := by
  funext j; simp only [killE, lst, lookup_map]
theorem killH_hlst (r : Nat) (l : List (Nat × Row)) : killH r (hlst l) = hlst (l.map fun p => (p.1, p.2.kill r)) := by
  funext j; simp only [killH, hlst, lookup_map]
theorem trE_lst (o f : Nat → Nat → Nat → AV) (l : List (Nat × AV)) : trE o f (lst l) = lst (l.map fun p => (p.1, p.2.tr o f)) := by
  funext j; simp only [trE, lst, lookup_map]
theorem hno_hlst : hno = hlst [] := rfl
theorem args_lst0 : args [] = lst [] := by funext i; simp [args, lst]

def stepF (P : Program) (T : Ty) (Mv X : Nat → Prop) (G : Glob) (N : Nat) (ops : Array Oper) (o : Oper) (σ : St) (K : St → Prop) : Prop := okDst N o ∧ match wantedS ops σ.env o with
  | some b => if b = true then exK P T Mv X G N o σ K else K ⟨putd σ.env o.dst und, σ.H⟩
  | none => False
def stepD (P : Program) (T : Ty) (Mv : Nat → Prop) (G : Glob) (N : Nat) (ops : Array Oper) (o : Oper) (σ : St) (K : St → Prop) : Prop := okDst N o ∧ match wantedS ops σ.env o with
  | some b => if b = true then (match isCall o.op with
    | some c => callQ P G c σ o.dst K
    | none => plainS T G Mv o σ K) else K ⟨putd σ.env o.dst und, σ.H⟩
  | none => False
def stepL (P : Program) (T : Ty) (Mv : Nat → Prop) (G : Glob) (N : Nat) (la : List (Nat × Nat × Nat)) (av : List (Nat × List Nat)) (i : Nat) (o : Oper) (σ : St) (K : St → Prop) : Prop := okDst N o ∧ o.guard = none ∧ match la.lookup i with
  | some (r, s) => appK T Mv G o σ r s K
  | none => kindOf o.op ≠ 9 ∧ match isCall o.op with
    | some c => callD P G c σ.env o.dst σ.H (avOf av i) o.op.operands.toList K
    | none => plainL T G Mv o σ (avOf av i) K

theorem sxf_next {ops : Array Oper} {K : St → Prop} {o : Oper} {rest : List Oper} (h : ∀ K' : St → Prop, (∀ τ, sxf P T Mv X G N ops K rest τ → K' τ) → stepF P T Mv X G N ops o σ K') : sxf P T Mv X G N ops K (o :: rest) σ := h _ fun _ h => h
theorem sxd_next {ops : Array Oper} {K : St → Prop} {o : Oper} {rest : List Oper} (h : ∀ K' : St → Prop, (∀ τ, sxd P T Mv G N ops K rest τ → K' τ) → stepD P T Mv G N ops o σ K') : sxd P T Mv G N ops K (o :: rest) σ := h _ fun _ h => h
theorem sxl_next {la : List (Nat × Nat × Nat)} {av : List (Nat × List Nat)} {K : St → Prop} {i : Nat} {o : Oper} {rest : List (Nat × Oper)} (h : ∀ K' : St → Prop, (∀ τ, sxl P T Mv G N la av K rest τ → K' τ) → stepL P T Mv G N la av i o σ K') : sxl P T Mv G N la av K ((i, o) :: rest) σ := h _ fun _ h => h
theorem sxf_nil {ops : Array Oper} {K : St → Prop} (h : K σ) : sxf P T Mv X G N ops K [] σ := h
theorem sxd_nil {ops : Array Oper} {K : St → Prop} (h : K σ) : sxd P T Mv G N ops K [] σ := h
theorem sxl_nil {la : List (Nat × Nat × Nat)} {av : List (Nat × List Nat)} {K : St → Prop} (h : K σ) : sxl P T Mv G N la av K [] σ := h
end
end Go.Av

/-
  A nil slice in a box becomes a row of its own; drawn regions in an order of one's own, operation by operation.
-/
namespace Go.Av
set_option linter.unusedSimpArgs false
set_option linter.unusedVariables false
set_option linter.unusedSectionVars false
theorem trH_hlst (k : Nat → Bool) (o f : Nat → Nat → Nat → AV) (l : List (Nat × Row)) : trH k o f (hlst l) = hlst (l.filterMap fun p => if k p.1 = true then some (p.1, p.2.tr o f) else none) := by
  funext i
  unfold trH hlst
  induction l with
  | nil => simp
  | cons p l ih =>
    obtain ⟨j, r⟩ := p
    simp only [List.lookup_cons, List.filterMap_cons]
    by_cases hij : i = j
    · subst hij
      cases hk : k i
      · simp [hk] at ih ⊢
        exact ih
      · simp
    · have hb : (i == j) = false := by simpa using hij
      rw [hb]
      cases hk : k j
      · simpa using ih
      · simp only [if_true, List.lookup_cons, hb]
        exact ih

section
variable {P : Program} {Mv X : Nat → Prop} {G : Glob} {N : Nat} {w w' : World} {μ : Mu} {a : Act} {σ : St}

theorem sxl_nextO {T : Ty} {ops : Array Oper} {la : List (Nat × Nat × Nat)} {av : List (Nat × List Nat)} {K : St → Prop} {i : Nat} {l : List Nat} {o : Oper} (ho : ops[i]? = some o) (h : ∀ K' : St → Prop, (∀ τ, sxl P T Mv G N la av K (inOrder ops l) τ → K' τ) → stepL P T Mv G N la av i o σ K') : sxl P T Mv G N la av K (inOrder ops (i :: l)) σ := by
  have : inOrder ops (i :: l) = (i, o) :: inOrder ops l := by simp [inOrder, ho]
  rw [this]
  exact h _ fun _ h => h
theorem sxl_nilO {T : Ty} {ops : Array Oper} {la : List (Nat × Nat × Nat)} {av : List (Nat × List Nat)} {K : St → Prop} (h : K σ) : sxl P T Mv G N la av K (inOrder ops []) σ := h

theorem Imp.adoptCell (b j r ty sz : Nat) {e : Env} {H : Heap} {tb : TypeId} {cells : List AV} (hb : H b = some (.box tb cells)) (hr : H r = none) (hc : cells[j]? = some (.d (.sl (some false) []))) :
    Imp Mv X G N ⟨e, H⟩ ⟨e, hup (hup H r (.sl ty sz [])) b (.box tb (cells.set j (.own r 0 0)))⟩ := fun w μ a hi => by
  obtain ⟨hin, ev⟩ := hi.alloc (Mv := Mv) (w' := w) (m := ⟨none, sz, 0⟩) hr (Grew.refl w) (by simp) (row := .sl ty sz []) fun _ => .nil rfl rfl
  have hrb : b ≠ r := fun h => by subst h; rw [hr] at hb; cases hb
  refine ⟨mup μ r ⟨none, sz, 0⟩, ⟨⟨fun q row hq => ?_, fun q m hm => ?_, hin.sim.inj, hin.sim.frame, hin.sim.fits⟩, hin.env, hin.glob⟩, ev⟩
  · by_cases hqb : q = b
    · subst hqb
      simp only [hup, if_true, Option.some.injEq] at hq
      subst hq
      obtain ⟨m, hm, ok⟩ := hin.sim.rows q (.box tb cells) (by simp [hup, hrb, hb])
      refine ⟨m, hm, ?_⟩
      cases ok with
      | box hb' hs hcap hh hn hrv =>
        refine .box hb' rfl hcap hh (by simpa using hn) fun i u c hu hci => ?_
        rw [List.getElem?_set] at hci
        split at hci
        · rename_i hij
          subst hij
          split at hci
          · obtain rfl := Option.some.inj hci
            have h1 := hrv j u _ hu hc
            refine .own (m := ⟨none, sz, 0⟩) (by simp [mup]) (.inl ⟨rfl, ?_, rfl, rfl⟩)
            rcases h1.data.sl_inv with ⟨rfl, _⟩ | ⟨_, _, _, hk, _⟩
            · rfl
            · exact absurd rfl hk
          · cases hci
        · exact hrv i u c hu hci
    · exact hin.sim.rows q row (by simpa [hup, hqb] using hq)
  · by_cases hqb : q = b
    · exact ⟨.box tb (cells.set j (.own r 0 0)), by subst hqb; simp [hup]⟩
    · obtain ⟨row, hrow⟩ := hin.sim.dom q m hm
      exact ⟨row, by simpa [hup, hqb] using hrow⟩
end
end Go.Av

/-
  A slice of slices that are owned: rows by the names 1000, 1001, ..; the outer slice is a box of handles.
-/
namespace Go.Av
set_option linter.unusedSimpArgs false
set_option linter.unusedVariables false
set_option linter.unusedSectionVars false

def hmat (ty k : Nat) (M : Nat → List (List D)) (h : Heap) : Heap := fun r => if 1000 ≤ r ∧ r < 1000 + k then some (.sl ty 1 (M (r - 1000))) else h r

theorem hmat_lo {ty k : Nat} {M : Nat → List (List D)} {h : Heap} {r : Nat} (hr : r < 1000) : hmat ty k M h r = h r := by
  unfold hmat; rw [if_neg (by omega)]
theorem hmat_hi {ty k : Nat} {M : Nat → List (List D)} {h : Heap} {x : Nat} (hx : x < k) : hmat ty k M h (x + 1000) = some (.sl ty 1 (M x)) := by
  unfold hmat; rw [if_pos (by omega)]; simp
theorem hup_hmat_lo {ty k : Nat} {M : Nat → List (List D)} {h : Heap} {r : Nat} {row : Row} (hr : r < 1000) : hup (hmat ty k M h) r row = hmat ty k M (hup h r row) := by
  funext q
  unfold hup hmat
  by_cases hq : q = r
  · subst hq; rw [if_pos rfl, if_neg (by omega)]; exact (if_pos rfl).symm
  · simp [hq]
theorem hup_hmat_hi {ty k : Nat} {M : Nat → List (List D)} {h : Heap} {x : Nat} {els : List (List D)} (hx : x < k) : hup (hmat ty k M h) (x + 1000) (.sl ty 1 els) = hmat ty k (fun i => if i = x then els else M i) h := by
  funext q
  unfold hup hmat
  by_cases hq : q = x + 1000
  · subst hq; rw [if_pos rfl, if_pos (by omega)]; simp
  · rw [if_neg hq]
    by_cases hr : 1000 ≤ q ∧ q < 1000 + k
    · rw [if_pos hr, if_pos hr]; dsimp only; rw [if_neg (by omega)]
    · rw [if_neg hr, if_neg hr]
theorem killH_hmat {ty k : Nat} {M : Nat → List (List D)} {h : Heap} {r : Nat} : killH r (hmat ty k M h) = hmat ty k M (killH r h) := by
  funext q
  unfold killH hmat
  by_cases hr : 1000 ≤ q ∧ q < 1000 + k
  · rw [if_pos hr, if_pos hr]; rfl
  · rw [if_neg hr, if_neg hr]
theorem hmat_zero {ty : Nat} {M : Nat → List (List D)} {h : Heap} : h = hmat ty 0 M h := by
  funext q
  unfold hmat
  rw [if_neg (by omega)]

section
variable {P : Program} {T : Ty} {Mv X : Nat → Prop} {G : Glob} {N : Nat} {σ : St}

/-! ### Regions and loops that leave the heap's form alone -/
def St.normE (l : List Nat) (σ : St) : St := ⟨lst (liveL l σ.env), σ.H⟩
theorem Imp.normE (l : List Nat) : Imp Mv X G N σ (σ.normE l) := Imp.env fun _ _ => lst_live
theorem AW.normE (l : List Nat) {c : Code} {Q : Exit → St → Prop} (h : AW P Mv X G N c Q (σ.normE l)) : AW P Mv X G N c Q σ := AW.imp (Imp.normE l) h
theorem AW_rgE (hg : Good P T) (hM : ∀ r, Mv r) (l : List Nat) {id : Nat} {ops : Array Oper} {y : Code} {Q : Exit → St → Prop} (h : ∀ K : St → Prop, (∀ τ : St, AW P Mv X G N y Q (τ.normE l) → K τ) → sxf P T Mv X G N ops K ops.toList σ) : AW P Mv X G N (.seq (.region id ops false) y) Q σ :=
  AW_seq (AW_regionF hg hM (h _ fun _ h => h.normE))
theorem AW_rdE (hg : Good P T) (hm : P.follows .mixedOrders = true) (l : List Nat) {id : Nat} {ops : Array Oper} (hok : okDraw ops = true) {y : Code} {Q : Exit → St → Prop} (h : ∀ K : St → Prop, (∀ τ : St, AW P Mv X G N y Q (τ.normE l) → K τ) → sxd P T Mv G N ops K ops.toList σ) : AW P Mv X G N (.seq (.region id ops true) y) Q σ :=
  AW_seq (AW_regionD hg hm hok (h _ fun _ h => h.normE))
theorem Imp.toE {e : Env} {H H' : Heap} {l : List (Nat × AV)} (he : ∀ p ∈ l, e p.1 = some p.2) (hH : H = H') : Imp Mv X G N ⟨e, H⟩ ⟨Go.Av.lst l, H'⟩ := by
  subst hH
  exact Imp.env fun i x hx => he (i, x) (lst_mem hx)

/-! ### A row's name -/
def ren (r r' q : Nat) : Nat := if q = r then r' else q
def renO (r r' q off n : Nat) : AV := .own (ren r r' q) off n
def renF (r r' q e j : Nat) : AV := .ref (ren r r' q) e j
def renU (r r' : Nat) (μ : Mu) : Mu := fun q => if q = r' then μ r else if q = r then none else μ q
def renH (r r' : Nat) (H : Heap) : Heap := fun q => (if q = r' then H r else if q = r then none else H q).map (Row.tr (renO r r') (renF r r'))

theorem renU_some {r r' q : Nat} {m : MRow} {μ : Mu} (h : renU r r' μ q = some m) : ∃ p, μ p = some m ∧ q = ren r r' p := by
  unfold renU at h
  split at h
  · rename_i e; exact ⟨r, h, by simp [ren, e]⟩
  · split at h
    · cases h
    · rename_i e1 e2; exact ⟨q, h, by simp [ren, e2]⟩
theorem renU_of {r r' p : Nat} {m : MRow} {μ : Mu} (h0 : μ r' = none) (h : μ p = some m) : renU r r' μ (ren r r' p) = some m := by
  unfold renU ren
  by_cases e : p = r
  · subst e; simp [h]
  · have e2 : p ≠ r' := fun e2 => by rw [e2, h0] at h; cases h
    simp [e, e2, h]

theorem In.ren {w : World} {μ : Mu} {a : Act} {r r' : Nat} (hi : In w X G μ N a σ) (hH : σ.H r' = none) : In w X G (renU r r' μ) N a ⟨trE (renO r r') (renF r r') σ.env, renH r r' σ.H⟩ := by
  have h0 : μ r' = none := hi.sim.none_of hH
  have hX : ∀ b, XX X (renU r r' μ) b → XX X μ b := fun b hb => hb.elim .inl fun ⟨q, m, hq, hbq⟩ => let ⟨p, hp, _⟩ := renU_some hq; .inr ⟨p, m, hp, hbq⟩
  have hRD : ∀ {u : Value} {x : D}, RD w (XX X μ) u x → RD w (XX X (renU r r' μ)) u x := fun h => h.mono (Nat.le_refl _) fun b _ hb => ⟨rfl, fun e => hb (hX b e)⟩
  have hRV : ∀ {u : Value} {x : AV}, RV w X μ u x → RV w X (renU r r' μ) u (x.tr (renO r r') (renF r r')) := fun h => RV.tr hX (fun u q off n h => by
    obtain ⟨m, hm, hh⟩ := h.own_inv
    exact .own (renU_of h0 hm) hh) (fun u q e j h => by
    obtain ⟨m, b, hm, hb, rfl⟩ := h.ref_inv
    exact .ref (renU_of h0 hm) hb) h
  refine ⟨⟨fun q row hr => ?_, fun q m hr => ?_, fun q q' m1 m2 b h1 h2 hb1 hb2 => ?_, fun q mq b hq hb => ?_, hi.sim.fits⟩,
    ⟨hi.env.defers, hi.env.size, fun i x hx => ?_⟩, fun g x hx => hRD (hi.glob g x hx)⟩
  · obtain ⟨row0, hrow0, rfl⟩ := Option.map_eq_some_iff.1 hr
    have : ∃ p, σ.H p = some row0 ∧ q = Go.Av.ren r r' p := by
      split at hrow0
      · rename_i e; exact ⟨r, hrow0, by simp [Go.Av.ren, e]⟩
      · split at hrow0
        · cases hrow0
        · rename_i e1 e2; exact ⟨q, hrow0, by simp [Go.Av.ren, e2]⟩
    obtain ⟨p, hp, rfl⟩ := this
    obtain ⟨m, hm, ok⟩ := hi.sim.rows p row0 hp
    refine ⟨m, renU_of h0 hm, ?_⟩
    cases ok with
    | nil h1 h2 => exact .nil h1 h2
    | sl h1 h2 h3 h4 h5 h6 h7 h8 h9 => exact .sl h1 h2 h3 h4 h5 h6 h7 h8 fun i j el c he hc => let ⟨u, hu, hr⟩ := h9 i j el c he hc; ⟨u, hu, hRD hr⟩
    | box h1 h2 h3 h4 h5 h6 =>
      refine .box h1 rfl h3 h4 (by simpa using h5) fun j u c hu hc => ?_
      rw [List.getElem?_map] at hc
      obtain ⟨c', hc', rfl⟩ := Option.map_eq_some_iff.1 hc
      exact hRV (h6 j u c' hu hc')
  · obtain ⟨p, hp, rfl⟩ := renU_some hr
    obtain ⟨row, hrow⟩ := hi.sim.dom p m hp
    refine ⟨row.tr (renO r r') (renF r r'), ?_⟩
    have hne : p ≠ r' := fun e => by rw [e, h0] at hp; cases hp
    show renH r r' σ.H _ = _
    unfold renH Go.Av.ren
    by_cases e : p = r
    · subst e; simp [hrow]
    · simp [e, hne, hrow]
  · obtain ⟨p1, hp1, rfl⟩ := renU_some h1
    obtain ⟨p2, hp2, rfl⟩ := renU_some h2
    rw [hi.sim.inj p1 p2 m1 m2 b hp1 hp2 hb1 hb2]
  · obtain ⟨p, hp, rfl⟩ := renU_some hq
    exact hi.sim.frame p mq b hp hb
  · replace hx : trE (renO r r') (renF r r') σ.env i = some x := hx
    unfold trE at hx
    obtain ⟨x0, h0', rfl⟩ := Option.map_eq_some_iff.1 hx
    obtain ⟨u, hu, hr⟩ := hi.env.slot i x0 h0'
    exact ⟨u, hu, hRV hr⟩

theorem Imp.ren (hm : ∀ r, Mv r) {r r' : Nat} (hH : σ.H r' = none) : Imp Mv X G N σ ⟨trE (renO r r') (renF r r') σ.env, renH r r' σ.H⟩ := fun w μ a hi =>
  ⟨renU r r' μ, hi.ren hH, ⟨Nat.le_refl _, rfl, rfl, rfl, fun b hb hr => ⟨rfl, fun ⟨q, m, hq, hbq⟩ => let ⟨p, hp, _⟩ := renU_some hq; hr ⟨p, m, hp, hbq⟩⟩, fun q _ _ hn => absurd (hm q) hn⟩⟩

/-- A new row joins the matrix. -/
theorem ren_hmat {ty k r : Nat} {M M' : Nat → List (List D)} {h h' : Heap} (hr : r < 1000) (hM : ∀ i, i < k → M' i = M i) (hk : h r = some (.sl ty 1 (M' k)))
    (hh : ∀ q, q ≠ r → q ≠ k + 1000 → (h q).map (Row.tr (renO r (k + 1000)) (renF r (k + 1000))) = h' q) (hr' : h' r = none) : renH r (k + 1000) (hmat ty k M h) = hmat ty (k + 1) M' h' := by
  funext q
  unfold renH
  by_cases h1 : q = k + 1000
  · subst h1
    rw [if_pos rfl, hmat_lo hr, hk, hmat_hi (by omega)]
    rfl
  · rw [if_neg h1]
    by_cases h2 : q = r
    · subst h2; rw [if_pos rfl, hmat_lo hr, hr']; rfl
    · rw [if_neg h2]
      unfold hmat
      by_cases h3 : 1000 ≤ q ∧ q < 1000 + k
      · rw [if_pos h3, if_pos (by omega), hM _ (by omega)]; rfl
      · rw [if_neg h3, if_neg (by omega)]; exact hh q h2 h1

/-! ### A row of nil slices becomes a box of them -/
theorem Imp.toBox (r : Nat) {e : Env} {H : Heap} {ty : Nat} {els : List (List D)} (hH : H r = some (.sl ty 1 els)) (hne : els ≠ []) : Imp Mv X G N ⟨e, H⟩ ⟨e, hup H r (.box ty (els.map fun el => .d (el.headD (.v .nilFunc))))⟩ := fun w μ a hi => by
  refine ⟨μ, ⟨⟨fun q row hq => ?_, fun q m hq => ?_, hi.sim.inj, hi.sim.frame, hi.sim.fits⟩, ⟨hi.env.defers, hi.env.size, hi.env.slot⟩, hi.glob⟩, .refl _ w μ⟩
  · replace hq : hup H r _ q = some row := hq
    unfold hup at hq
    split at hq
    · rename_i e
      subst e
      obtain rfl := Option.some.inj hq
      obtain ⟨m, hm, ok⟩ := hi.sim.rows q _ hH
      refine ⟨m, hm, ?_⟩
      cases ok with
      | nil h1 h2 => exact absurd rfl hne
      | sl h1 h2 h3 h4 h5 h6 h7 h8 h9 =>
        refine .box h1 rfl h6 h3 (by simp; omega) fun j u c hu hc => ?_
        rw [List.getElem?_map] at hc
        obtain ⟨el, hel, rfl⟩ := Option.map_eq_some_iff.1 hc
        have hl := h7 el (List.mem_of_getElem? hel)
        match el, hl with
        | [c], _ =>
          obtain ⟨u', hu', hrd⟩ := h9 j 0 [c] c hel rfl
          simp only [Nat.mul_one, Nat.add_zero] at hu'
          rw [hu] at hu'
          obtain rfl := Option.some.inj hu'
          exact .d hrd
    · exact hi.sim.rows q row hq
  · obtain ⟨row, hrow⟩ := hi.sim.dom q m hq
    by_cases e : q = r
    · exact ⟨_, if_pos e⟩
    · exact ⟨row, (if_neg e).trans hrow⟩

/-! ### The matrix becomes data -/
set_option maxRecDepth 4000 in
theorem Imp.freezeM (hm : ∀ r, Mv r) (i : Nat) {ob : Nat} {e : Env} {ty tyO n : Nat} {M : Nat → List (List D)} {h : Heap} (hi : e i = some (.own ob 0 n)) (hlo : ob < 1000)
    (hb : h ob = some (.box tyO ((List.range n).map fun a => .own (a + 1000) 0 n))) (hM : ∀ a, a < n → (M a).length = n) :
    Imp Mv X G N ⟨e, hmat ty n M h⟩ ⟨Go.Av.lst [(i, .d (.sl none ((List.range n).map fun a => [.sl none (M a)])))], hno⟩ := fun w μ a hin => by
  have hX : ∀ b, XX X (fun _ => none) b → XX X μ b := fun b hb => hb.elim .inl fun ⟨_, _, h, _⟩ => by cases h
  refine ⟨fun _ => none, ⟨Sim.none hin.sim.fits, ⟨hin.env.defers, hin.env.size, fun j x hx => ?_⟩, fun g x hx => (hin.glob g x hx).sub hX⟩, ⟨Nat.le_refl _, rfl, rfl, rfl, fun b hb hr => ⟨rfl, fun ⟨_, _, h, _⟩ => by cases h⟩, fun r _ _ hn => absurd (hm r) hn⟩⟩
  replace hx : Go.Av.lst [(i, _)] j = some x := hx
  simp only [Go.Av.lst, List.lookup] at hx
  split at hx
  · rename_i hj
    have hj' : j = i := by simpa using hj
    subst hj'
    obtain rfl := Option.some.inj hx
    obtain ⟨u, hu, hrv⟩ := hin.env.slot j _ hi
    refine ⟨u, hu, .d ?_⟩
    obtain ⟨m, hmu, hh⟩ := hrv.own_inv
    rcases hh with ⟨_, rfl, _, rfl⟩ | ⟨b, hbb, rfl, hcap⟩
    · exact .nil (by simp)
    · have hb' : (hmat ty n M h) ob = some _ := (hmat_lo hlo).trans hb
      obtain ⟨m', hm', ok⟩ := hin.sim.rows ob _ hb'
      rw [hmu] at hm'
      obtain rfl := Option.some.inj hm'
      cases ok with
      | box h1 h2 h3 h4 h5 h6 =>
        rename_i b' cur
        rw [hbb] at h1
        obtain rfl := Option.some.inj h1
        simp only [List.length_map, List.length_range] at h5
        by_cases hn0 : n = 0
        · subst hn0
          simp only [List.range_zero, List.map_nil]
          exact .empty (by simp) (by unfold maxLen at *; omega)
        · refine .sl (sz := 1) (f := fun i _ => cur.getD i undef) (by simp) (by simp) (by omega) (by unfold maxLen at *; omega) (fun hx => hx.elim (hin.sim.frame ob m b hmu hbb) fun ⟨_, _, h, _⟩ => by cases h) (by simp) (by omega) (by omega) (fun i j hi hj => ?_) fun i j el c hel hc => ?_
          · have : j = 0 := by omega
            subst this
            rw [cell_of_row w b _ cur tyO (0, 0) (by simpa using h4)]
            simp [Array.getD_eq_getD_getElem?, show i < cur.size by omega]
          · rw [List.getElem?_map] at hel
            obtain ⟨a', ha', rfl⟩ := Option.map_eq_some_iff.1 hel
            obtain ⟨hlt, rfl⟩ := List.getElem?_eq_some_iff.1 ha'
            simp only [List.length_range] at hlt
            simp only [List.getElem_range] at hc ⊢
            cases j with
            | succ j => simp at hc
            | zero =>
              simp only [List.getElem?_cons_zero, Option.some.injEq] at hc
              subst hc
              have hcur : cur[i]? = some (cur.getD i undef) := by simp [Array.getD_eq_getD_getElem?, show i < cur.size by omega]
              have hrv' := h6 i _ (.own (i + 1000) 0 n) hcur (by simp [hlt])
              obtain ⟨k, hrd, _⟩ := own_reads hin.sim (hmat_hi hlt) (by rw [hM i hlt]; omega) hrv'
              rw [List.drop_zero, List.take_of_length_le (by rw [hM i hlt]; omega)] at hrd
              exact hrd.weak.sub fun b hb => hb.elim .inl fun ⟨_, _, h, _⟩ => by cases h
  · cases hx
end
end Go.Av

/-
  Regions that draw their order, where a load of one box and a store to another one may pass.
-/
namespace Go.Av
set_option linter.unusedSimpArgs false
set_option linter.unusedVariables false
set_option linter.unusedSectionVars false

def isLS : Op → Bool
  | .load _ _ => true
  | .indexAddr _ _ _ => true
  | .slice _ _ _ _ _ => true
  | .store _ _ _ => true
  | _ => false
/-- Data, or a handle on row r. -/
def handleOn (r : Nat) : AV → Prop
  | .ref q _ _ => q = r
  | .own q _ _ => q = r
  | .d _ => True
  | _ => False
/-- The address is one in row r. -/
def onRow (G : Glob) (e : Env) (o : Op) (r : Nat) : Prop := match o with
  | .load _ p => match aeval G e p with
    | some v => handleOn r v
    | none => False
  | .indexAddr _ p _ => match aeval G e p with
    | some v => handleOn r v
    | none => False
  | .slice _ p _ _ _ => match aeval G e p with
    | some v => handleOn r v
    | none => False
  | .store _ p _ => match aeval G e p with
    | some (.ref q _ _) => q = r
    | _ => False
  | _ => False
def touchC (G : Glob) (fp : List (Nat × Nat)) (e : Env) (i : Nat) (o : Op) : Prop := match fp.lookup i with
  | some r => onRow G e o r
  | none => True
def compatG (fp : List (Nat × Nat)) (ops : Array Oper) (i j : Nat) (oi oj : Oper) : Bool := compat ops oi oj || (oi.apart ops oj && isLS oi.op && isLS oj.op && match fp.lookup i, fp.lookup j with
  | some r, some r' => !(r == r')
  | _, _ => false)

section
variable {P : Program} {T : Ty} {Mv X : Nat → Prop} {G : Glob} {N : Nat} {ops : Array Oper} {fp : List (Nat × Nat)}

/-- A row is put, or nothing is. -/
def pset (H : Heap) (r : Nat) : Option Row → Heap
  | none => H
  | some row => hup H r row
theorem pset_ne {H : Heap} {r q : Nat} {u : Option Row} (h : q ≠ r) : pset H r u q = H q := by
  cases u with
  | none => rfl
  | some row => simp [pset, hup, h]
theorem pset_comm {H : Heap} {r q : Nat} {u v : Option Row} (h : r ≠ q) : pset (pset H r u) q v = pset (pset H q v) r u := by
  cases u <;> cases v <;> try rfl
  funext i
  by_cases h1 : i = r <;> by_cases h2 : i = q <;> simp [pset, hup, h1, h2, h, Ne.symm h]

theorem loadA_local {H H2 : Heap} {t : TypeId} {v : AV} {r : Nat} (hv : handleOn r v) (h : H2 r = H r) : loadA T H2 t v = loadA T H t v := by
  cases v with
  | d x => cases x <;> rfl
  | ref q ee j => simp only [handleOn] at hv; subst hv; simp only [loadA, h]
  | own q off n => rfl
  | _ => exact hv.elim
theorem indexA_local {H H2 : Heap} {t : TypeId} {v y : AV} {r : Nat} (hv : handleOn r v) (h : H2 r = H r) : indexA T H2 t v y = indexA T H t v y := by
  cases v with
  | d x => cases x <;> (cases y <;> first | rfl | (rename_i z; cases z <;> first | rfl | (rename_i z; cases z <;> rfl)))
  | ref q ee j => cases y <;> first | rfl | (rename_i z; cases z <;> first | rfl | (rename_i z; cases z <;> rfl))
  | own q off n =>
    simp only [handleOn] at hv; subst hv
    cases y with
    | d z => cases z with
      | v z => cases z <;> first | rfl | simp only [indexA, h]
      | _ => rfl
    | _ => rfl
  | _ => exact hv.elim
theorem sliceA_local {H H2 : Heap} {t : TypeId} {v : AV} {lo hi : Option Int} {r : Nat} (hv : handleOn r v) (h : H2 r = H r) : sliceA T H2 t v lo hi = sliceA T H t v lo hi := by
  cases v with
  | d x => cases x <;> first | rfl | (rename_i z; cases z <;> rfl)
  | ref q ee j => rfl
  | own q off n => simp only [handleOn] at hv; subst hv; simp only [sliceA, h]
  | _ => exact hv.elim

theorem Ex.touch {o : Oper} {e : Env} {H H' : Heap} {x : AV} {r : Nat} (ht : onRow G e o.op r) (h : Ex P T Mv G o e H x H') :
    ∃ u, H' = pset H r u ∧ ∀ H2, H2 r = H r → Ex P T Mv G o e H2 x (pset H2 r u) := by
  obtain ⟨dst, op, type, pos, after, guard⟩ := o
  dsimp only at ht
  cases op <;> simp only [onRow] at ht
  case load t p =>
    split at ht
    · rename_i v hp
      refine ⟨none, ?_, fun H2 h2 => ?_⟩
      · unfold Ex at h
        simp only [isCall, isWr, Bool.false_eq_true, if_false] at h
        obtain ⟨c, _, _, rfl⟩ := h
        rfl
      · unfold Ex at h ⊢
        simp only [isCall, isWr, Bool.false_eq_true, if_false] at h ⊢
        obtain ⟨c, h1, h3, rfl⟩ := h
        refine ⟨c, ?_, h3, rfl⟩
        simp only [rd, hp, Option.bind_some] at h1 ⊢
        rw [loadA_local ht h2]
        exact h1
    · exact ht.elim
  case indexAddr t p y =>
    split at ht
    · rename_i v hp
      refine ⟨none, ?_, fun H2 h2 => ?_⟩
      · unfold Ex at h
        simp only [isCall, isWr, Bool.false_eq_true, if_false] at h
        obtain ⟨c, _, _, rfl⟩ := h
        rfl
      · unfold Ex at h ⊢
        simp only [isCall, isWr, Bool.false_eq_true, if_false] at h ⊢
        obtain ⟨c, h1, h3, rfl⟩ := h
        refine ⟨c, ?_, h3, rfl⟩
        simp only [rd, hp] at h1 ⊢
        cases hy : aeval G e y with
        | none => simp [hy] at h1
        | some b => simp only [hy] at h1 ⊢; rw [indexA_local ht h2]; exact h1
    · exact ht.elim
  case slice t p lo hi mx =>
    split at ht
    · rename_i v hp
      refine ⟨none, ?_, fun H2 h2 => ?_⟩
      · unfold Ex at h
        simp only [isCall, isWr, Bool.false_eq_true, if_false] at h
        obtain ⟨c, _, _, rfl⟩ := h
        rfl
      · unfold Ex at h ⊢
        simp only [isCall, isWr, Bool.false_eq_true, if_false] at h ⊢
        obtain ⟨c, h1, h3, rfl⟩ := h
        refine ⟨c, ?_, h3, rfl⟩
        simp only [rd, hp] at h1 ⊢
        by_cases hmx : mx.isNone = true
        · rw [if_pos hmx] at h1 ⊢
          cases hlo : bound G e lo with
          | none => simp [hlo] at h1
          | some l =>
            cases hhi : bound G e hi with
            | none => simp [hlo, hhi] at h1
            | some l2 => simp only [hlo, hhi] at h1 ⊢; rw [sliceA_local ht h2]; exact h1
        · rw [if_neg hmx] at h1; cases h1
    · exact ht.elim
  case store t p y =>
    split at ht
    · rename_i q ee j hp
      subst ht
      unfold Ex at h
      simp only [isCall, isWr, if_true] at h
      obtain ⟨c, h1, h3⟩ := h
      cases dst with
      | some d => simp [wr] at h1
      | none =>
        simp only [wr, hp] at h1
        cases hy : aeval G e y with
        | none => simp [hy] at h1
        | some v =>
          simp only [hy] at h1
          split at h1
          · rename_i ty cells hr
            split at h1
            · rename_i he
              split at h1
              · rename_i c' cells' hs
                simp only [Option.some.injEq, Prod.mk.injEq, St.mk.injEq, true_and] at h1
                obtain ⟨rfl, rfl, rfl⟩ := h1
                refine ⟨some (.box ty cells'), rfl, fun H2 h2 => ?_⟩
                unfold Ex
                simp only [isCall, isWr, if_true]
                exact ⟨_, by simp [wr, hp, hy, h2, hr, he, hs, pset], h3⟩
              · cases h1
            · cases h1
          · rename_i ty sz els hr
            split at h1
            · rename_i c' els' hs
              simp only [Option.some.injEq, Prod.mk.injEq, St.mk.injEq, true_and] at h1
              obtain ⟨rfl, rfl, rfl⟩ := h1
              refine ⟨some (.sl ty sz els'), rfl, fun H2 h2 => ?_⟩
              unfold Ex
              simp only [isCall, isWr, if_true]
              exact ⟨_, by simp [wr, hp, hy, h2, hr, hs, pset], h3⟩
            · cases h1
          · cases h1
    · exact ht.elim

theorem onRow_congr {o : Op} {e e' : Env} {r : Nat} (ha : Agree o e e') (h : onRow G e o r) : onRow G e' o r := by
  cases o <;> simp only [onRow] at h ⊢ <;> try exact h
  case load t p =>
    have : aeval G e p = aeval G e' p := aeval_congr fun t ht => ha t (by simp [Op.operands, ht])
    rw [← this]; exact h
  case indexAddr t p y =>
    have : aeval G e p = aeval G e' p := aeval_congr fun t ht => ha t (by simp [Op.operands, ht])
    rw [← this]; exact h
  case slice t p lo hi mx =>
    have : aeval G e p = aeval G e' p := aeval_congr fun t ht => ha t (by simp [Op.operands, ht])
    rw [← this]; exact h
  case store t p y =>
    have : aeval G e p = aeval G e' p := aeval_congr fun t ht => ha t (by simp [Op.operands, ht])
    rw [← this]; exact h
theorem touchC_congr {o : Op} {e e' : Env} {i : Nat} (ha : Agree o e e') (h : touchC G fp e i o) : touchC G fp e' i o := by
  unfold touchC at h ⊢
  split
  · rename_i r hr
    simp only [hr] at h
    exact onRow_congr ha h
  · trivial

def GStep (P : Program) (T : Ty) (Mv : Nat → Prop) (G : Glob) (N : Nat) (ops : Array Oper) (fp : List (Nat × Nat)) (i : Nat) (o : Oper) (σ σ' : St) : Prop := stepTo P T Mv G N ops o σ σ' ∧ (wantedS ops σ.env o = some true → touchC G fp σ.env i o.op)

theorem compat_kinds {x y : Oper} (h : compat ops x y = true) : kindOf x.op ≠ 9 ∧ kindOf y.op ≠ 9 := by
  simp only [compat, Bool.and_eq_true] at h
  obtain ⟨_, h⟩ := h
  refine ⟨fun e => by rw [e] at h; simp [mayPass] at h, fun e => ?_⟩
  rw [e] at h
  revert h
  rcases kinds x.op with k | k | k | k | k | k <;> rw [k] <;> simp [mayPass]

theorem isLS_kind {o : Op} (h : isLS o = true) : kindOf o ≠ 9 := by
  unfold isLS at h
  split at h
  · have := loadKind_le ‹_›; simp only [kindOf]; omega
  · simp [kindOf]
  · simp [kindOf]
  · simp [kindOf]
  · cases h

theorem gswap {i j : Nat} {oi oj : Oper} (hc : compatG fp ops i j oi oj = true) {σ σ1 σ2 : St} (h1 : GStep P T Mv G N ops fp i oi σ σ1) (h2 : GStep P T Mv G N ops fp j oj σ1 σ2) :
    ∃ σ3, GStep P T Mv G N ops fp j oj σ σ3 ∧ GStep P T Mv G N ops fp i oi σ3 σ2 := by
  have hk : kindOf oi.op ≠ 9 ∧ kindOf oj.op ≠ 9 := by
    simp only [compatG, Bool.or_eq_true, Bool.and_eq_true] at hc
    rcases hc with hc | ⟨⟨⟨_, h3⟩, h4⟩, _⟩
    · exact compat_kinds hc
    · exact ⟨isLS_kind h3, isLS_kind h4⟩
  obtain ⟨hki, hkj⟩ := hk
  obtain ⟨s1, t1⟩ := h1
  obtain ⟨s2, t2⟩ := h2
  obtain ⟨x, H1, sx1, rfl⟩ := (stepTo_Sx hki).1 s1
  obtain ⟨y, H2, sx2, rfl⟩ := (stepTo_Sx hkj).1 s2
  obtain ⟨e, H⟩ := σ
  dsimp only at s1 s2 sx1 sx2 t1 t2 ⊢
  have hap : oi.apart ops oj = true := by
    simp only [compatG, compat, Bool.or_eq_true, Bool.and_eq_true] at hc
    rcases hc with hc | hc
    · exact hc.1
    · exact hc.1.1.1
  obtain ⟨a1, _, hne⟩ := agree_put hap (e := e) (v := x)
  obtain ⟨_, a2, _⟩ := agree_put hap (e := e) (v := y)
  have wj := wantedS_congr (o := oj) (e := putd e oi.dst x) (e' := e) a1
  have wi := wantedS_congr (o := oi) (e := putd e oj.dst y) (e' := e) a2
  have agj : Agree oj.op (putd e oi.dst x) e := fun t ht => a1 t (looks_of_op ht)
  have agi : Agree oi.op e (putd e oj.dst y) := fun t ht => (a2 t (looks_of_op ht)).symm
  have main : ∃ H3, Sx P T Mv G N ops oj e H y H3 ∧ Sx P T Mv G N ops oi (putd e oj.dst y) H3 x H2 := by
    simp only [compatG, Bool.or_eq_true, Bool.and_eq_true] at hc
    rcases hc with hc | ⟨_, hfp⟩
    · exact commute hc sx1 sx2 hki hkj
    · cases hfi : fp.lookup i with
      | none => simp [hfi] at hfp
      | some r =>
        cases hfj : fp.lookup j with
        | none => simp [hfi, hfj] at hfp
        | some r' =>
          have hr : r ≠ r' := by simpa [hfi, hfj] using hfp
          obtain ⟨di, sx1⟩ := sx1
          obtain ⟨dj, sx2⟩ := sx2
          rw [wj] at sx2
          rcases sx1 with ⟨w1, e1⟩ | ⟨w1, rfl, rfl⟩
          · have t1 := t1 w1
            simp only [touchC, hfi] at t1
            obtain ⟨u, rfl, loc1⟩ := e1.touch t1
            rcases sx2 with ⟨w2, e2⟩ | ⟨w2, rfl, rfl⟩
            · have t2 := t2 (by rw [wj]; exact w2)
              simp only [touchC, hfj] at t2
              have e2 := e2.congr hkj agj
              obtain ⟨u', rfl, loc2⟩ := e2.touch (onRow_congr agj t2)
              refine ⟨pset H r' u', ⟨dj, .inl ⟨w2, loc2 H (pset_ne (Ne.symm hr)).symm⟩⟩, ⟨di, .inl ⟨by rw [wi]; exact w1, ?_⟩⟩⟩
              rw [pset_comm hr]
              exact (loc1 _ (pset_ne hr)).congr hki agi
            · exact ⟨H, ⟨dj, .inr ⟨w2, rfl, rfl⟩⟩, ⟨di, .inl ⟨by rw [wi]; exact w1, e1.congr hki agi⟩⟩⟩
          · rcases sx2 with ⟨w2, e2⟩ | ⟨w2, rfl, rfl⟩
            · exact ⟨H2, ⟨dj, .inl ⟨w2, e2.congr hkj agj⟩⟩, ⟨di, .inr ⟨by rw [wi]; exact w1, rfl, rfl⟩⟩⟩
            · exact ⟨_, ⟨dj, .inr ⟨w2, rfl, rfl⟩⟩, ⟨di, .inr ⟨by rw [wi]; exact w1, rfl, rfl⟩⟩⟩
  obtain ⟨H3, f1, f2⟩ := main
  refine ⟨⟨putd e oj.dst y, H3⟩, ⟨(stepTo_Sx hkj).2 ⟨y, H3, f1, rfl⟩, fun hw => ?_⟩, ⟨(stepTo_Sx hki).2 ⟨x, H2, f2, by rw [putd_comm hne]⟩, fun hw => ?_⟩⟩
  · exact touchC_congr agj (t2 (by rw [wj]; exact hw))
  · exact touchC_congr agi (t1 (by rw [← wi]; exact hw))

/-! ### The region -/

def runG (P : Program) (T : Ty) (Mv : Nat → Prop) (G : Glob) (N : Nat) (ops : Array Oper) (fp : List (Nat × Nat)) : List Nat → St → St → Prop
  | [], σ, σ' => σ = σ'
  | i :: l, σ, σ' => ∃ o, ops[i]? = some o ∧ ∃ σ1, GStep P T Mv G N ops fp i o σ σ1 ∧ runG P T Mv G N ops fp l σ1 σ'

theorem runG_front {p : Nat} {op : Oper} (hp : ops[p]? = some op) : ∀ (l1 : List Nat) {l2 : List Nat} {σ σ' : St}, (∀ q ∈ l1, ∀ oq, ops[q]? = some oq → compatG fp ops q p oq op = true) → runG P T Mv G N ops fp (l1 ++ p :: l2) σ σ' → runG P T Mv G N ops fp (p :: (l1 ++ l2)) σ σ' := by
  intro l1
  induction l1 with
  | nil => intro l2 σ σ' _ h; exact h
  | cons q l1 ih =>
    intro l2 σ σ' hall h
    obtain ⟨oq, hq, σ1, s1, rest⟩ := h
    obtain ⟨o', ho', σ2, s2, rest2⟩ := ih (fun q' hq' => hall q' (by simp [hq'])) rest
    rw [hp] at ho'
    obtain rfl := Option.some.inj ho'
    obtain ⟨σ3, f1, f2⟩ := gswap (hall q (by simp) oq hq) s1 s2
    exact ⟨op, hp, σ3, f1, oq, hq, σ2, f2, rest2⟩

def okDrawG (fp : List (Nat × Nat)) (ops : Array Oper) : Bool :=
  let t := tb ops
  ((List.range ops.size).all fun j => match ops[j]? with
    | some oj => oj.after.all fun e => !Region.binds .any e || e.on < j
    | none => true) &&
  go t (List.range ops.size)
where
  go (t : List Nat) : List Nat → Bool
  | [] => true
  | a :: l => (l.all fun b => match ops[a]?, ops[b]? with
    | some oa, some ob => (oa.after.all fun e => !Region.binds .any e || !(e.on == b)) && ((t.getD b 0).testBit a || compatG fp ops a b oa ob)
    | _, _ => true) && go t l

def PairG (fp : List (Nat × Nat)) (ops : Array Oper) (a b : Nat) : Prop := ∀ oa ob, ops[a]? = some oa → ops[b]? = some ob →
  (∀ e ∈ oa.after, Region.binds .any e = true → e.on ≠ b) ∧ (((tb ops).getD b 0).testBit a = true ∨ compatG fp ops a b oa ob = true)

theorem pairsG_of : ∀ {l : List Nat}, okDrawG.go fp ops (tb ops) l = true → l.Pairwise (PairG fp ops)
  | [], _ => .nil
  | a :: l, h => by
    simp only [okDrawG.go, Bool.and_eq_true] at h
    refine .cons (fun b hb oa ob hoa hob => ?_) (pairsG_of h.2)
    have := List.all_eq_true.1 h.1 b hb
    simp only [hoa, hob, Bool.and_eq_true, Bool.or_eq_true] at this
    refine ⟨fun e he hbi heq => ?_, this.2⟩
    have h1 := Array.all_eq_true_iff_forall_mem.1 this.1 e he
    simp [hbi, heq] at h1

theorem anyG_ok (hg : Good P T) (hlt : ∀ j oj, ops[j]? = some oj → ∀ e ∈ oj.after, Region.binds .any e = true → e.on < j) {Q : Exit → St → Prop} {w0 : World} {μ0 : Mu} {σn : St} (hQ : Q .normal σn) : ∀ (n : Nat) (R : List Nat) (listed : Array Bool) (w : World) (μ : Mu) (a : Act) (σ : St), R.length = n → R.Nodup →
    (∀ j, j ∈ R ↔ j < ops.size ∧ listed.getD j true = false) → listed.size = ops.size → R.Pairwise (PairG fp ops) →
    (∀ j oj, ops[j]? = some oj → listed.getD j false = true → ∀ e ∈ oj.after, Region.binds .any e = true → listed.getD e.on false = true) → runG P T Mv G N ops fp R σ σn → In w X G μ N a σ → Ev Mv w0 μ0 w μ →
    wpAny P .any ops (After Mv X G N w0 μ0 Q) n listed a w := by
  intro n
  induction n with
  | zero =>
    intro R listed w μ a σ hl _ hR hsz _ _ hrun hi hev
    have : R = [] := List.eq_nil_of_length_eq_zero hl
    subst this
    have hr : Region.ready .any ops listed = [] := by
      apply List.eq_nil_iff_forall_not_mem.2
      intro j hj
      obtain ⟨h1, o, ho, _⟩ := mem_ready.1 hj
      exact absurd ((hR j).2 ⟨(Array.getElem?_eq_some_iff.1 ho).1, h1⟩) (by simp)
    have : σ = σn := hrun
    subst this
    exact ⟨hr, μ, σ, hQ, hi, hev⟩
  | succ n ih =>
    intro R listed w μ a σ hl hnd hR hsz hpw hdown hrun hi hev
    refine ⟨fun hr => ?_, fun i hir => ?_⟩
    · cases R with
      | nil => simp at hl
      | cons j R =>
        obtain ⟨hj1, hj2⟩ := (hR j).1 (by simp)
        have hoj : ops[j]? = some ops[j] := by simp [hj1]
        have hjr : j ∈ Region.ready .any ops listed := by
          refine mem_ready.2 ⟨hj2, ops[j], hoj, fun e he hb => ?_⟩
          have hlt' := hlt j ops[j] hoj e he hb
          have hlt2 : e.on < ops.size := by omega
          have hne : e.on ∉ (j :: R) := by
            intro hm
            rcases List.mem_cons.1 hm with h | h
            · omega
            · exact ((List.pairwise_cons.1 hpw).1 _ h ops[j] ops[e.on] hoj (by simp [hlt2])).1 e he hb rfl
          have := mt (hR e.on).2 hne
          have hls : e.on < listed.size := by omega
          simp only [hlt2, true_and, Array.getD_eq_getD_getElem?] at this ⊢
          simp [hls] at this ⊢
          exact this
        rw [hr] at hjr
        cases hjr
    · obtain ⟨hi1, oi, hoi, hall⟩ := mem_ready.1 hir
      have hiR : i ∈ R := (hR i).2 ⟨(Array.getElem?_eq_some_iff.1 hoi).1, hi1⟩
      obtain ⟨R1, R2, rfl⟩ := List.append_of_mem hiR
      have hfront := runG_front (P := P) (T := T) (Mv := Mv) (G := G) (N := N) (fp := fp) hoi R1 (fun q hq oq hoq => by
        have hpq : PairG fp ops q i := (List.pairwise_append.1 hpw).2.2 q hq i (by simp)
        rcases (hpq oq oi hoq hoi).2 with h | h
        · exfalso
          have hlq := behindL hlt hdown i i oi (Nat.le_refl _) hoi hall q h
          have hq2 := ((hR q).1 (by simp [hq])).2
          have hqs : q < listed.size := by have := (Array.getElem?_eq_some_iff.1 hoq).1; omega
          simp [Array.getD_eq_getD_getElem?, hqs] at hlq hq2
          rw [hlq] at hq2; cases hq2
        · exact h) hrun
      obtain ⟨o', ho', σ1, hstep, hrest⟩ := hfront
      rw [hoi] at ho'
      obtain rfl := Option.some.inj ho'
      refine stepTo_ok hg hstep.1 hi hoi fun w' μ' a' hin hev' => ?_
      have hnd' : (R1 ++ R2).Nodup := by
        have := hnd
        rw [List.nodup_append] at this ⊢
        obtain ⟨g1, g2, g3⟩ := this
        exact ⟨g1, (List.nodup_cons.1 g2).2, fun x hx y hy => g3 x hx y (by simp [hy])⟩
      have hi_not : i ∉ R1 ++ R2 := by
        have := hnd
        rw [List.nodup_append] at this
        obtain ⟨g1, g2, g3⟩ := this
        intro hm
        rcases List.mem_append.1 hm with h | h
        · exact g3 i h i (by simp) rfl
        · exact (List.nodup_cons.1 g2).1 h
      refine ih (R1 ++ R2) _ w' μ' a' σ1 (by simp at hl ⊢; omega) hnd' (fun j => ?_) (by simpa using hsz) ?_ ?_ hrest hin (hev.trans hev')
      · by_cases hji : j = i
        · subst hji
          have hls : j < listed.size := by rw [hsz]; exact (Array.getElem?_eq_some_iff.1 hoi).1
          simp [hls]
          simpa using hi_not
        · rw [getD_set_ne true (Ne.symm hji)]
          rw [← hR j]
          simp [hji]
      · rw [List.pairwise_append] at hpw ⊢
        obtain ⟨g1, g2, g3⟩ := hpw
        exact ⟨g1, (List.pairwise_cons.1 g2).2, fun x hx y hy => g3 x hx y (by simp [hy])⟩
      · intro j oj hoj hlj e he hb
        by_cases hji : j = i
        · subst hji
          rw [hoi] at hoj
          obtain rfl := Option.some.inj hoj
          exact getD_set_true (hall e he hb)
        · rw [getD_set_ne false (Ne.symm hji)] at hlj
          exact getD_set_true (hdown j oj hoj hlj e he hb)

/-! ### As one computes it -/

def stepG (P : Program) (T : Ty) (Mv : Nat → Prop) (G : Glob) (N : Nat) (ops : Array Oper) (fp : List (Nat × Nat)) (i : Nat) (o : Oper) (σ : St) (K : St → Prop) : Prop := okDst N o ∧ match wantedS ops σ.env o with
  | some b => if b = true then touchC G fp σ.env i o.op ∧ (match isCall o.op with
    | some c => callQ P G c σ o.dst K
    | none => plainS T G Mv o σ K) else K ⟨putd σ.env o.dst und, σ.H⟩
  | none => False
def sxg (P : Program) (T : Ty) (Mv : Nat → Prop) (G : Glob) (N : Nat) (ops : Array Oper) (fp : List (Nat × Nat)) (K : St → Prop) : Nat → List Oper → St → Prop
  | _, [], σ => K σ
  | i, o :: rest, σ => stepG P T Mv G N ops fp i o σ (sxg P T Mv G N ops fp K (i + 1) rest)

theorem sxg_next {K : St → Prop} {i : Nat} {o : Oper} {rest : List Oper} {σ : St} (h : ∀ K' : St → Prop, (∀ τ, sxg P T Mv G N ops fp K (i + 1) rest τ → K' τ) → stepG P T Mv G N ops fp i o σ K') : sxg P T Mv G N ops fp K i (o :: rest) σ := h _ fun _ h => h
theorem sxg_nil {K : St → Prop} {i : Nat} {σ : St} (h : K σ) : sxg P T Mv G N ops fp K i [] σ := h

theorem sxg_run {K : St → Prop} : ∀ (l : List Oper) (k : Nat) (σ : St), (∀ j, l[j]? = ops[k + j]?) → sxg P T Mv G N ops fp K k l σ → ∃ σn, K σn ∧ runG P T Mv G N ops fp (List.range' k l.length) σ σn := by
  intro l
  induction l with
  | nil => intro k σ _ h; exact ⟨σ, h, rfl⟩
  | cons o l ih =>
    intro k σ hl h
    have h0 : ops[k]? = some o := by simpa using (hl 0).symm
    have hl' : ∀ j, l[j]? = ops[k + 1 + j]? := fun j => by have := hl (j + 1); simpa [Nat.add_assoc, Nat.add_comm 1 j] using this
    unfold sxg stepG at h
    obtain ⟨hd, h⟩ := h
    rw [List.length_cons, List.range'_succ]
    have fin : ∀ σ1, GStep P T Mv G N ops fp k o σ σ1 → sxg P T Mv G N ops fp K (k + 1) l σ1 → ∃ σn, K σn ∧ runG P T Mv G N ops fp (k :: List.range' (k + 1) l.length) σ σn := by
      intro σ1 hs hq
      obtain ⟨σn, hk, hr⟩ := ih (k + 1) σ1 hl' hq
      exact ⟨σn, hk, o, h0, σ1, hs, hr⟩
    split at h
    · rename_i b hb
      split at h
      · rename_i hbt
        subst hbt
        obtain ⟨ht, h⟩ := h
        split at h
        · rename_i c hc
          obtain ⟨y, hy, h⟩ := h
          refine fin _ ⟨⟨hd, .inl ⟨hb, ?_⟩⟩, fun _ => ht⟩ h
          unfold exTo
          simp only [hc]
          exact ⟨y, hy, rfl⟩
        · rename_i hc
          unfold plainS at h
          split at h
          · rename_i hw
            split at h
            · rename_i c x σ1 h1
              obtain ⟨hcc, h⟩ := h
              refine fin _ ⟨⟨hd, .inl ⟨hb, ?_⟩⟩, fun _ => ht⟩ h
              unfold exTo
              simp only [hc]
              rw [if_pos hw]
              exact ⟨c, x, σ1, h1, hcc, rfl⟩
            · exact h.elim
          · rename_i hw
            split at h
            · rename_i c x h1
              obtain ⟨hcc, h⟩ := h
              refine fin _ ⟨⟨hd, .inl ⟨hb, ?_⟩⟩, fun _ => ht⟩ h
              unfold exTo
              simp only [hc]
              rw [if_neg hw]
              exact ⟨c, x, h1, hcc, rfl⟩
            · exact h.elim
      · rename_i hbt
        have : b = false := by simpa using hbt
        subst this
        refine fin _ ⟨⟨hd, .inr ⟨hb, rfl⟩⟩, fun hw => by rw [hb] at hw; cases hw⟩ h
    · exact h.elim

/-- A REGION THAT DRAWS ITS ORDER; loads and stores of unlike boxes may pass. -/
theorem AW_regionG (hg : Good P T) (hm : P.follows .mixedOrders = true) (fp : List (Nat × Nat)) {id : Nat} (hok : okDrawG fp ops = true) {Q : Exit → St → Prop} {σ : St} (h : sxg P T Mv G N ops fp (fun σ' => Q .normal σ') 0 ops.toList σ) : AW P Mv X G N (.region id ops true) Q σ := fun w μ a hi => by
  unfold okDrawG at hok
  simp only [Bool.and_eq_true] at hok
  obtain ⟨h5, h6⟩ := hok
  have hedge : ∀ j oj, ops[j]? = some oj → ∀ e ∈ oj.after, Region.binds .any e = true → e.on < j := fun j oj hoj e he hb => by
    have := List.all_eq_true.1 h5 j (List.mem_range.2 (Array.getElem?_eq_some_iff.1 hoj).1)
    simp only [hoj] at this
    have := Array.all_eq_true_iff_forall_mem.1 this e he
    simpa [hb] using this
  obtain ⟨σn, hQ, hrun⟩ := sxg_run ops.toList 0 σ (by simp) h
  rw [← List.range_eq_range', Array.length_toList] at hrun
  refine wp_region_any hm ?_
  obtain ⟨hin, hev⟩ := hi.grew (Mv := Mv) (Grew.drew w)
  refine anyG_ok hg hedge hQ ops.size (List.range ops.size) _ w.drew μ a σ (by simp) List.nodup_range (fun j => ?_) (by simp) (pairsG_of h6) ?_ hrun hin hev
  · simp only [List.mem_range]
    constructor
    · intro hj
      simp [Array.getD_eq_getD_getElem?, hj]
    · exact fun hj => hj.1
  · intro j oj hoj hlj
    have hj := (Array.getElem?_eq_some_iff.1 hoj).1
    simp [Array.getD_eq_getD_getElem?, hj] at hlj

theorem AW_rdg (hg : Good P T) (hM : ∀ r, Mv r) (hm : P.follows .mixedOrders = true) (fp : List (Nat × Nat)) (l ns : List Nat) {id : Nat} (hok : okDrawG fp ops = true) {y : Code} {Q : Exit → St → Prop} {σ : St}
    (h : ∀ K : St → Prop, (∀ τ : St, AW P Mv X G N y Q (τ.norm l ns) → K τ) → sxg P T Mv G N ops fp K 0 ops.toList σ) : AW P Mv X G N (.seq (.region id ops true) y) Q σ :=
  AW_seq (AW_regionG hg hm fp hok (h _ fun _ h => h.norm hM))
theorem AW_rdge (hg : Good P T) (hm : P.follows .mixedOrders = true) (fp : List (Nat × Nat)) {id : Nat} (hok : okDrawG fp ops = true) {Q : Exit → St → Prop} {σ : St}
    (h : ∀ K : St → Prop, (∀ τ : St, Q .normal τ → K τ) → sxg P T Mv G N ops fp K 0 ops.toList σ) : AW P Mv X G N (.region id ops true) Q σ := AW_regionG hg hm fp hok (h _ fun _ h => h)
end
end Go.Av

/-
  The lists of the steps' lemmas, as attributes.
-/
namespace Go.Av
set_option linter.unusedSimpArgs false
set_option linter.unusedVariables false
attribute [simp] Int.ofNat_inj List.lookup
attribute [simp] avOf offAll offOps kindOf Op.operands Call.operands okDst wantedS gval isCall isWr lenA descIs TypeDesc.isSlice TypeDesc.isStr binA
attribute [simp] isSh binI fit64 indexA elemSz asValD asVal TypeDesc.isAgg fieldAddrA fieldOf fieldA valCells AV.one D.one zeroD catD newsOf unA eqv
attribute [simp] nilBin constOf nilFits nilA extractA makeIfaceA indexStrA sliceA bound storeBox storeSl TypeDesc.isBool TypeDesc.isIface nilCheckA
attribute [simp] convA Value.oneCell' buildA placesA fillA makeEls exK preF freezeL AV.rows AV.rows.go plainS plainL appK appOps fromRow stepF stepD
attribute [simp] stepL rd wr evalL evalP putd mkFn mkIfc und undef upd_lst hup_hlst killE_lst killH_hlst trE_lst hno_hlst St.freeze aeval cst cstD upd
attribute [simp] lst hlst int Av.bool loadA mkAgg mkTup allD hup hno tgt args killE killH AV.kill AV.kill.go Row.kill trE trH AV.tr AV.tr.go Row.tr
attribute [simp] frzO frzF not1 bneD beqD St.norm liveL liveR onlyO onlyF allD_map asDs_map asDs asD D.scalar thn inb atEnd atEndD endD resAll resOne
attribute [simp] oneOf trH_hlst stepG touchC onRow handleOn
end Go.Av

/-
  What the types of this seat's translation are: closed facts, by program (wip/tools/gen_ty.py).
-/
namespace Go.Proofs.YtoikggboakojlaaDoor
open Go.Av
@[simp] theorem ty0 : tyOf Tryd.prog 0 = some ⟨.tuple #[], 1, 0, .tuple #[]⟩ := by kernel_rfl
@[simp] theorem ty1 : tyOf Tryd.prog 1 = some ⟨.func #[] #[] false, 1, 8, .nilFunc⟩ := by kernel_rfl
@[simp] theorem ty2 : tyOf Tryd.prog 2 = some ⟨.int .i64, 1, 8, .int .i64 0⟩ := by kernel_rfl
@[simp] theorem ty3 : tyOf Tryd.prog 3 = some ⟨.int .i64, 1, 8, .int .i64 0⟩ := by kernel_rfl
@[simp] theorem ty4 : tyOf Tryd.prog 4 = some ⟨.bool, 1, 1, .bool false⟩ := by kernel_rfl
@[simp] theorem ty5 : tyOf Tryd.prog 5 = some ⟨.int .u8, 1, 1, .int .u8 0⟩ := by kernel_rfl
@[simp] theorem ty7 : tyOf Tryd.prog 7 = some ⟨.struct #[{ name := "x", type := 2, offset := 0, embedded := false, tag := "", pkgPath := "runtime", byteOffset := 0 }, { name := "y", type := 3, offset := 1, embedded := false, tag := "", pkgPath := "runtime", byteOffset := 8 }, { name := "signed", type := 4, offset := 2, embedded := false, tag := "", pkgPath := "runtime", byteOffset := 16 }, { name := "code", type := 6, offset := 3, embedded := false, tag := "", pkgPath := "runtime", byteOffset := 17 }], 4, 24, .agg #[.int .i64 0, .int .i64 0, .bool false, .int .u8 0]⟩ := by kernel_rfl
@[simp] theorem ty9 : tyOf Tryd.prog 9 = some ⟨.string, 1, 16, .string ⟨#[]⟩⟩ := by kernel_rfl
@[simp] theorem ty12 : tyOf Tryd.prog 12 = some ⟨.int .u64, 1, 8, .int .u64 0⟩ := by kernel_rfl
@[simp] theorem ty13 : tyOf Tryd.prog 13 = some ⟨.struct #[{ name := "msg", type := 9, offset := 0, embedded := false, tag := "", pkgPath := "runtime", byteOffset := 0 }, { name := "addr", type := 12, offset := 1, embedded := false, tag := "", pkgPath := "runtime", byteOffset := 16 }], 2, 24, .agg #[.string ⟨#[]⟩, .int .u64 0]⟩ := by kernel_rfl
@[simp] theorem ty15 : tyOf Tryd.prog 15 = some ⟨.pointer 206, 1, 8, .pointer none⟩ := by kernel_rfl
@[simp] theorem ty16 : tyOf Tryd.prog 16 = some ⟨.pointer 209, 1, 8, .pointer none⟩ := by kernel_rfl
@[simp] theorem ty17 : tyOf Tryd.prog 17 = some ⟨.pointer 218, 1, 8, .pointer none⟩ := by kernel_rfl
@[simp] theorem ty18 : tyOf Tryd.prog 18 = some ⟨.struct #[{ name := "typ", type := 17, offset := 0, embedded := false, tag := "", pkgPath := "internal/runtime/maps", byteOffset := 0 }], 1, 8, .agg #[.pointer none]⟩ := by kernel_rfl
@[simp] theorem ty20 : tyOf Tryd.prog 20 = some ⟨.interface #[], 1, 16, .nilIface⟩ := by kernel_rfl
@[simp] theorem ty21 : tyOf Tryd.prog 21 = some ⟨.int .i32, 1, 4, .int .i32 0⟩ := by kernel_rfl
@[simp] theorem ty22 : tyOf Tryd.prog 22 = some ⟨.func #[9] #[4] false, 1, 8, .nilFunc⟩ := by kernel_rfl
@[simp] theorem ty23 : tyOf Tryd.prog 23 = some ⟨.slice 32, 1, 24, .slice none 0 0⟩ := by kernel_rfl
@[simp] theorem ty24 : tyOf Tryd.prog 24 = some ⟨.struct #[{ name := "Next", type := 23, offset := 0, embedded := false, tag := "", pkgPath := "", byteOffset := 0 }, { name := "Tells", type := 23, offset := 1, embedded := false, tag := "", pkgPath := "", byteOffset := 24 }], 2, 48, .agg #[.slice none 0 0, .slice none 0 0]⟩ := by kernel_rfl
@[simp] theorem ty25 : tyOf Tryd.prog 25 = some ⟨.struct #[{ name := "Next", type := 23, offset := 0, embedded := false, tag := "", pkgPath := "", byteOffset := 0 }, { name := "Tells", type := 23, offset := 1, embedded := false, tag := "", pkgPath := "", byteOffset := 24 }], 2, 48, .agg #[.slice none 0 0, .slice none 0 0]⟩ := by kernel_rfl
@[simp] theorem ty26 : tyOf Tryd.prog 26 = some ⟨.struct #[{ name := "Next", type := 23, offset := 0, embedded := false, tag := "", pkgPath := "", byteOffset := 0 }, { name := "Tells", type := 23, offset := 1, embedded := false, tag := "", pkgPath := "", byteOffset := 24 }], 2, 48, .agg #[.slice none 0 0, .slice none 0 0]⟩ := by kernel_rfl
@[simp] theorem ty27 : tyOf Tryd.prog 27 = some ⟨.int .i64, 1, 8, .int .i64 0⟩ := by kernel_rfl
@[simp] theorem ty28 : tyOf Tryd.prog 28 = some ⟨.struct #[{ name := "Err", type := 27, offset := 0, embedded := false, tag := "", pkgPath := "", byteOffset := 0 }, { name := "Place", type := 3, offset := 1, embedded := false, tag := "", pkgPath := "", byteOffset := 8 }], 2, 16, .agg #[.int .i64 0, .int .i64 0]⟩ := by kernel_rfl
@[simp] theorem ty29 : tyOf Tryd.prog 29 = some ⟨.struct #[{ name := "Err", type := 27, offset := 0, embedded := false, tag := "", pkgPath := "", byteOffset := 0 }, { name := "Place", type := 3, offset := 1, embedded := false, tag := "", pkgPath := "", byteOffset := 8 }], 2, 16, .agg #[.int .i64 0, .int .i64 0]⟩ := by kernel_rfl
@[simp] theorem ty30 : tyOf Tryd.prog 30 = some ⟨.tuple #[26, 29, 4], 1, 0, .tuple #[.agg #[.slice none 0 0, .slice none 0 0], .agg #[.int .i64 0, .int .i64 0], .bool false]⟩ := by kernel_rfl
@[simp] theorem ty31 : tyOf Tryd.prog 31 = some ⟨.func #[25] #[26, 29, 4] false, 1, 8, .nilFunc⟩ := by kernel_rfl
@[simp] theorem ty32 : tyOf Tryd.prog 32 = some ⟨.slice 3, 1, 24, .slice none 0 0⟩ := by kernel_rfl
@[simp] theorem ty33 : tyOf Tryd.prog 33 = some ⟨.interface #[("Error", 100)], 1, 16, .nilIface⟩ := by kernel_rfl
@[simp] theorem ty34 : tyOf Tryd.prog 34 = some ⟨.interface #[("Error", 100)], 1, 16, .nilIface⟩ := by kernel_rfl
@[simp] theorem ty35 : tyOf Tryd.prog 35 = some ⟨.tuple #[32, 34], 1, 0, .tuple #[.slice none 0 0, .nilIface]⟩ := by kernel_rfl
@[simp] theorem ty36 : tyOf Tryd.prog 36 = some ⟨.func #[25] #[32, 34] false, 1, 8, .nilFunc⟩ := by kernel_rfl
@[simp] theorem ty37 : tyOf Tryd.prog 37 = some ⟨.tuple #[25, 34], 1, 0, .tuple #[.agg #[.slice none 0 0, .slice none 0 0], .nilIface]⟩ := by kernel_rfl
@[simp] theorem ty38 : tyOf Tryd.prog 38 = some ⟨.func #[25] #[25, 34] false, 1, 8, .nilFunc⟩ := by kernel_rfl
@[simp] theorem ty39 : tyOf Tryd.prog 39 = some ⟨.func #[34, 29] #[4] false, 1, 8, .nilFunc⟩ := by kernel_rfl
@[simp] theorem ty40 : tyOf Tryd.prog 40 = some ⟨.func #[25] #[34] false, 1, 8, .nilFunc⟩ := by kernel_rfl
@[simp] theorem ty41 : tyOf Tryd.prog 41 = some ⟨.func #[] #[26] false, 1, 8, .nilFunc⟩ := by kernel_rfl
@[simp] theorem ty42 : tyOf Tryd.prog 42 = some ⟨.func #[32, 32] #[4] false, 1, 8, .nilFunc⟩ := by kernel_rfl
@[simp] theorem ty43 : tyOf Tryd.prog 43 = some ⟨.func #[] #[32] false, 1, 8, .nilFunc⟩ := by kernel_rfl
@[simp] theorem ty44 : tyOf Tryd.prog 44 = some ⟨.func #[23, 23] #[4] false, 1, 8, .nilFunc⟩ := by kernel_rfl
@[simp] theorem ty45 : tyOf Tryd.prog 45 = some ⟨.func #[25] #[4] false, 1, 8, .nilFunc⟩ := by kernel_rfl
@[simp] theorem ty46 : tyOf Tryd.prog 46 = some ⟨.func #[25, 3, 3] #[32, 34] false, 1, 8, .nilFunc⟩ := by kernel_rfl
@[simp] theorem ty47 : tyOf Tryd.prog 47 = some ⟨.func #[25, 3, 32] #[32, 34] false, 1, 8, .nilFunc⟩ := by kernel_rfl
@[simp] theorem ty48 : tyOf Tryd.prog 48 = some ⟨.tuple #[32, 4], 1, 0, .tuple #[.slice none 0 0, .bool false]⟩ := by kernel_rfl
@[simp] theorem ty49 : tyOf Tryd.prog 49 = some ⟨.func #[3, 3] #[32, 4] false, 1, 8, .nilFunc⟩ := by kernel_rfl
@[simp] theorem ty50 : tyOf Tryd.prog 50 = some ⟨.func #[34, 27] #[4] false, 1, 8, .nilFunc⟩ := by kernel_rfl
@[simp] theorem ty51 : tyOf Tryd.prog 51 = some ⟨.func #[25, 3, 3, 32] #[4] false, 1, 8, .nilFunc⟩ := by kernel_rfl
@[simp] theorem ty52 : tyOf Tryd.prog 52 = some ⟨.func #[54] #[29] false, 1, 8, .nilFunc⟩ := by kernel_rfl
@[simp] theorem ty53 : tyOf Tryd.prog 53 = some ⟨.struct #[{ name := "Vars", type := 3, offset := 0, embedded := false, tag := "", pkgPath := "", byteOffset := 0 }, { name := "All", type := 23, offset := 1, embedded := false, tag := "", pkgPath := "", byteOffset := 8 }], 2, 32, .agg #[.int .i64 0, .slice none 0 0]⟩ := by kernel_rfl
@[simp] theorem ty54 : tyOf Tryd.prog 54 = some ⟨.struct #[{ name := "Vars", type := 3, offset := 0, embedded := false, tag := "", pkgPath := "", byteOffset := 0 }, { name := "All", type := 23, offset := 1, embedded := false, tag := "", pkgPath := "", byteOffset := 8 }], 2, 32, .agg #[.int .i64 0, .slice none 0 0]⟩ := by kernel_rfl
@[simp] theorem ty55 : tyOf Tryd.prog 55 = some ⟨.struct #[{ name := "Vars", type := 3, offset := 0, embedded := false, tag := "", pkgPath := "", byteOffset := 0 }, { name := "All", type := 23, offset := 1, embedded := false, tag := "", pkgPath := "", byteOffset := 8 }], 2, 32, .agg #[.int .i64 0, .slice none 0 0]⟩ := by kernel_rfl
@[simp] theorem ty56 : tyOf Tryd.prog 56 = some ⟨.slice 4, 1, 24, .slice none 0 0⟩ := by kernel_rfl
@[simp] theorem ty57 : tyOf Tryd.prog 57 = some ⟨.tuple #[56, 34], 1, 0, .tuple #[.slice none 0 0, .nilIface]⟩ := by kernel_rfl
@[simp] theorem ty58 : tyOf Tryd.prog 58 = some ⟨.func #[55] #[56, 34] false, 1, 8, .nilFunc⟩ := by kernel_rfl
@[simp] theorem ty59 : tyOf Tryd.prog 59 = some ⟨.func #[55] #[34] false, 1, 8, .nilFunc⟩ := by kernel_rfl
@[simp] theorem ty60 : tyOf Tryd.prog 60 = some ⟨.tuple #[56, 4], 1, 0, .tuple #[.slice none 0 0, .bool false]⟩ := by kernel_rfl
@[simp] theorem ty61 : tyOf Tryd.prog 61 = some ⟨.func #[54] #[56, 4] false, 1, 8, .nilFunc⟩ := by kernel_rfl
@[simp] theorem ty62 : tyOf Tryd.prog 62 = some ⟨.func #[56, 56] #[4] false, 1, 8, .nilFunc⟩ := by kernel_rfl
@[simp] theorem ty63 : tyOf Tryd.prog 63 = some ⟨.func #[3, 23] #[4] false, 1, 8, .nilFunc⟩ := by kernel_rfl
@[simp] theorem ty64 : tyOf Tryd.prog 64 = some ⟨.func #[25, 3] #[4] false, 1, 8, .nilFunc⟩ := by kernel_rfl
@[simp] theorem ty65 : tyOf Tryd.prog 65 = some ⟨.func #[] #[4] false, 1, 8, .nilFunc⟩ := by kernel_rfl
@[simp] theorem ty66 : tyOf Tryd.prog 66 = some ⟨.func #[3, 3] #[3] false, 1, 8, .nilFunc⟩ := by kernel_rfl
@[simp] theorem ty67 : tyOf Tryd.prog 67 = some ⟨.func #[34] #[27] false, 1, 8, .nilFunc⟩ := by kernel_rfl
@[simp] theorem ty68 : tyOf Tryd.prog 68 = some ⟨.slice 75, 1, 24, .slice none 0 0⟩ := by kernel_rfl
@[simp] theorem ty69 : tyOf Tryd.prog 69 = some ⟨.struct #[{ name := "Ahead", type := 68, offset := 0, embedded := false, tag := "", pkgPath := "", byteOffset := 0 }, { name := "Round", type := 68, offset := 1, embedded := false, tag := "", pkgPath := "", byteOffset := 24 }], 2, 48, .agg #[.slice none 0 0, .slice none 0 0]⟩ := by kernel_rfl
@[simp] theorem ty70 : tyOf Tryd.prog 70 = some ⟨.struct #[{ name := "Ahead", type := 68, offset := 0, embedded := false, tag := "", pkgPath := "", byteOffset := 0 }, { name := "Round", type := 68, offset := 1, embedded := false, tag := "", pkgPath := "", byteOffset := 24 }], 2, 48, .agg #[.slice none 0 0, .slice none 0 0]⟩ := by kernel_rfl
@[simp] theorem ty71 : tyOf Tryd.prog 71 = some ⟨.slice 126, 1, 24, .slice none 0 0⟩ := by kernel_rfl
@[simp] theorem ty72 : tyOf Tryd.prog 72 = some ⟨.pointer 79, 1, 8, .pointer none⟩ := by kernel_rfl
@[simp] theorem ty73 : tyOf Tryd.prog 73 = some ⟨.func #[71] #[72] false, 1, 8, .nilFunc⟩ := by kernel_rfl
@[simp] theorem ty74 : tyOf Tryd.prog 74 = some ⟨.func #[70, 72] #[56, 34] false, 1, 8, .nilFunc⟩ := by kernel_rfl
@[simp] theorem ty75 : tyOf Tryd.prog 75 = some ⟨.slice 9, 1, 24, .slice none 0 0⟩ := by kernel_rfl
@[simp] theorem ty76 : tyOf Tryd.prog 76 = some ⟨.func #[70, 71] #[4] false, 1, 8, .nilFunc⟩ := by kernel_rfl
@[simp] theorem ty77 : tyOf Tryd.prog 77 = some ⟨.slice 72, 1, 24, .slice none 0 0⟩ := by kernel_rfl
@[simp] theorem ty78 : tyOf Tryd.prog 78 = some ⟨.struct #[{ name := "Kind", type := 3, offset := 0, embedded := false, tag := "", pkgPath := "", byteOffset := 0 }, { name := "Name", type := 9, offset := 1, embedded := false, tag := "", pkgPath := "", byteOffset := 8 }, { name := "Of", type := 77, offset := 2, embedded := false, tag := "", pkgPath := "", byteOffset := 24 }], 3, 48, .agg #[.int .i64 0, .string ⟨#[]⟩, .slice none 0 0]⟩ := by kernel_rfl
@[simp] theorem ty79 : tyOf Tryd.prog 79 = some ⟨.struct #[{ name := "Kind", type := 3, offset := 0, embedded := false, tag := "", pkgPath := "", byteOffset := 0 }, { name := "Name", type := 9, offset := 1, embedded := false, tag := "", pkgPath := "", byteOffset := 8 }, { name := "Of", type := 77, offset := 2, embedded := false, tag := "", pkgPath := "", byteOffset := 24 }], 3, 48, .agg #[.int .i64 0, .string ⟨#[]⟩, .slice none 0 0]⟩ := by kernel_rfl
@[simp] theorem ty80 : tyOf Tryd.prog 80 = some ⟨.func #[3, 77] #[72] true, 1, 8, .nilFunc⟩ := by kernel_rfl
@[simp] theorem ty81 : tyOf Tryd.prog 81 = some ⟨.func #[72, 72] #[4] false, 1, 8, .nilFunc⟩ := by kernel_rfl
@[simp] theorem ty82 : tyOf Tryd.prog 82 = some ⟨.func #[72] #[34] false, 1, 8, .nilFunc⟩ := by kernel_rfl
@[simp] theorem ty83 : tyOf Tryd.prog 83 = some ⟨.func #[70] #[34] false, 1, 8, .nilFunc⟩ := by kernel_rfl
@[simp] theorem ty84 : tyOf Tryd.prog 84 = some ⟨.func #[70, 71, 71] #[4] false, 1, 8, .nilFunc⟩ := by kernel_rfl
@[simp] theorem ty85 : tyOf Tryd.prog 85 = some ⟨.int .u64, 1, 8, .int .u64 0⟩ := by kernel_rfl
@[simp] theorem ty86 : tyOf Tryd.prog 86 = some ⟨.map 3 3, 1, 8, .map none⟩ := by kernel_rfl
@[simp] theorem ty87 : tyOf Tryd.prog 87 = some ⟨.tuple #[3, 4], 1, 0, .tuple #[.int .i64 0, .bool false]⟩ := by kernel_rfl
@[simp] theorem ty88 : tyOf Tryd.prog 88 = some ⟨.func #[3, 9, 3, 3] #[4] false, 1, 8, .nilFunc⟩ := by kernel_rfl
@[simp] theorem ty89 : tyOf Tryd.prog 89 = some ⟨.tuple #[72, 34], 1, 0, .tuple #[.pointer none, .nilIface]⟩ := by kernel_rfl
@[simp] theorem ty90 : tyOf Tryd.prog 90 = some ⟨.func #[72] #[72, 34] false, 1, 8, .nilFunc⟩ := by kernel_rfl
@[simp] theorem ty91 : tyOf Tryd.prog 91 = some ⟨.func #[72] #[9] false, 1, 8, .nilFunc⟩ := by kernel_rfl
@[simp] theorem ty92 : tyOf Tryd.prog 92 = some ⟨.pointer 134, 1, 8, .pointer none⟩ := by kernel_rfl
@[simp] theorem ty93 : tyOf Tryd.prog 93 = some ⟨.tuple #[92, 3, 4], 1, 0, .tuple #[.pointer none, .int .i64 0, .bool false]⟩ := by kernel_rfl
@[simp] theorem ty94 : tyOf Tryd.prog 94 = some ⟨.func #[71] #[92, 3, 4] false, 1, 8, .nilFunc⟩ := by kernel_rfl
@[simp] theorem ty95 : tyOf Tryd.prog 95 = some ⟨.struct #[{ name := "Ahead", type := 68, offset := 0, embedded := false, tag := "", pkgPath := "", byteOffset := 0 }, { name := "Round", type := 68, offset := 1, embedded := false, tag := "", pkgPath := "", byteOffset := 24 }], 2, 48, .agg #[.slice none 0 0, .slice none 0 0]⟩ := by kernel_rfl
@[simp] theorem ty96 : tyOf Tryd.prog 96 = some ⟨.func #[95] #[27] false, 1, 8, .nilFunc⟩ := by kernel_rfl
@[simp] theorem ty97 : tyOf Tryd.prog 97 = some ⟨.func #[92] #[4] false, 1, 8, .nilFunc⟩ := by kernel_rfl
@[simp] theorem ty98 : tyOf Tryd.prog 98 = some ⟨.func #[95, 3] #[4] false, 1, 8, .nilFunc⟩ := by kernel_rfl
@[simp] theorem ty99 : tyOf Tryd.prog 99 = some ⟨.func #[4] #[92] false, 1, 8, .nilFunc⟩ := by kernel_rfl
@[simp] theorem ty100 : tyOf Tryd.prog 100 = some ⟨.func #[] #[9] false, 1, 8, .nilFunc⟩ := by kernel_rfl
@[simp] theorem ty101 : tyOf Tryd.prog 101 = some ⟨.func #[71] #[4] false, 1, 8, .nilFunc⟩ := by kernel_rfl
@[simp] theorem ty102 : tyOf Tryd.prog 102 = some ⟨.func #[9, 9] #[9] false, 1, 8, .nilFunc⟩ := by kernel_rfl
@[simp] theorem ty103 : tyOf Tryd.prog 103 = some ⟨.func #[75, 9] #[4] false, 1, 8, .nilFunc⟩ := by kernel_rfl
@[simp] theorem ty104 : tyOf Tryd.prog 104 = some ⟨.func #[26] #[29] false, 1, 8, .nilFunc⟩ := by kernel_rfl
@[simp] theorem ty105 : tyOf Tryd.prog 105 = some ⟨.func #[25] #[23] false, 1, 8, .nilFunc⟩ := by kernel_rfl
@[simp] theorem ty106 : tyOf Tryd.prog 106 = some ⟨.func #[32] #[32] false, 1, 8, .nilFunc⟩ := by kernel_rfl
@[simp] theorem ty107 : tyOf Tryd.prog 107 = some ⟨.tuple #[27, 3], 1, 0, .tuple #[.int .i64 0, .int .i64 0]⟩ := by kernel_rfl
@[simp] theorem ty108 : tyOf Tryd.prog 108 = some ⟨.func #[34] #[27, 3] false, 1, 8, .nilFunc⟩ := by kernel_rfl
@[simp] theorem ty109 : tyOf Tryd.prog 109 = some ⟨.pointer 110, 1, 8, .pointer none⟩ := by kernel_rfl
@[simp] theorem ty110 : tyOf Tryd.prog 110 = some ⟨.struct #[{ name := "Err", type := 27, offset := 0, embedded := false, tag := "", pkgPath := "", byteOffset := 0 }, { name := "Place", type := 3, offset := 1, embedded := false, tag := "", pkgPath := "", byteOffset := 8 }], 2, 16, .agg #[.int .i64 0, .int .i64 0]⟩ := by kernel_rfl
@[simp] theorem ty111 : tyOf Tryd.prog 111 = some ⟨.func #[32, 112] #[4] false, 1, 8, .nilFunc⟩ := by kernel_rfl
@[simp] theorem ty112 : tyOf Tryd.prog 112 = some ⟨.func #[3] #[4] false, 1, 8, .nilFunc⟩ := by kernel_rfl
@[simp] theorem ty113 : tyOf Tryd.prog 113 = some ⟨.func #[] #[23] false, 1, 8, .nilFunc⟩ := by kernel_rfl
@[simp] theorem ty114 : tyOf Tryd.prog 114 = some ⟨.func #[23, 115] #[3] false, 1, 8, .nilFunc⟩ := by kernel_rfl
@[simp] theorem ty115 : tyOf Tryd.prog 115 = some ⟨.func #[32] #[4] false, 1, 8, .nilFunc⟩ := by kernel_rfl
@[simp] theorem ty116 : tyOf Tryd.prog 116 = some ⟨.func #[27] #[29] false, 1, 8, .nilFunc⟩ := by kernel_rfl
@[simp] theorem ty117 : tyOf Tryd.prog 117 = some ⟨.func #[3, 3, 3] #[4] false, 1, 8, .nilFunc⟩ := by kernel_rfl
@[simp] theorem ty118 : tyOf Tryd.prog 118 = some ⟨.pointer 120, 1, 8, .pointer none⟩ := by kernel_rfl
@[simp] theorem ty119 : tyOf Tryd.prog 119 = some ⟨.struct #[{ name := "Clauses", type := 55, offset := 0, embedded := true, tag := "", pkgPath := "", byteOffset := 0 }, { name := "of", type := 32, offset := 2, embedded := false, tag := "", pkgPath := "signalcabin/gate", byteOffset := 32 }, { name := "trail", type := 32, offset := 3, embedded := false, tag := "", pkgPath := "signalcabin/gate", byteOffset := 56 }, { name := "steps", type := 3, offset := 4, embedded := false, tag := "", pkgPath := "signalcabin/gate", byteOffset := 80 }], 5, 88, .agg #[.int .i64 0, .slice none 0 0, .slice none 0 0, .slice none 0 0, .int .i64 0]⟩ := by kernel_rfl
@[simp] theorem ty120 : tyOf Tryd.prog 120 = some ⟨.struct #[{ name := "Clauses", type := 55, offset := 0, embedded := true, tag := "", pkgPath := "", byteOffset := 0 }, { name := "of", type := 32, offset := 2, embedded := false, tag := "", pkgPath := "signalcabin/gate", byteOffset := 32 }, { name := "trail", type := 32, offset := 3, embedded := false, tag := "", pkgPath := "signalcabin/gate", byteOffset := 56 }, { name := "steps", type := 3, offset := 4, embedded := false, tag := "", pkgPath := "signalcabin/gate", byteOffset := 80 }], 5, 88, .agg #[.int .i64 0, .slice none 0 0, .slice none 0 0, .slice none 0 0, .int .i64 0]⟩ := by kernel_rfl
@[simp] theorem ty121 : tyOf Tryd.prog 121 = some ⟨.tuple #[4, 34], 1, 0, .tuple #[.bool false, .nilIface]⟩ := by kernel_rfl
@[simp] theorem ty122 : tyOf Tryd.prog 122 = some ⟨.func #[] #[4, 34] false, 1, 8, .nilFunc⟩ := by kernel_rfl
@[simp] theorem ty123 : tyOf Tryd.prog 123 = some ⟨.func #[34, 20] #[4] false, 1, 8, .nilFunc⟩ := by kernel_rfl
@[simp] theorem ty124 : tyOf Tryd.prog 124 = some ⟨.pointer 27, 1, 8, .pointer none⟩ := by kernel_rfl
@[simp] theorem ty125 : tyOf Tryd.prog 125 = some ⟨.struct #[{ name := "Kind", type := 3, offset := 0, embedded := false, tag := "", pkgPath := "", byteOffset := 0 }, { name := "A", type := 3, offset := 1, embedded := false, tag := "", pkgPath := "", byteOffset := 8 }, { name := "B", type := 3, offset := 2, embedded := false, tag := "", pkgPath := "", byteOffset := 16 }, { name := "Name", type := 9, offset := 3, embedded := false, tag := "", pkgPath := "", byteOffset := 24 }], 4, 40, .agg #[.int .i64 0, .int .i64 0, .int .i64 0, .string ⟨#[]⟩]⟩ := by kernel_rfl
@[simp] theorem ty126 : tyOf Tryd.prog 126 = some ⟨.struct #[{ name := "Kind", type := 3, offset := 0, embedded := false, tag := "", pkgPath := "", byteOffset := 0 }, { name := "A", type := 3, offset := 1, embedded := false, tag := "", pkgPath := "", byteOffset := 8 }, { name := "B", type := 3, offset := 2, embedded := false, tag := "", pkgPath := "", byteOffset := 16 }, { name := "Name", type := 9, offset := 3, embedded := false, tag := "", pkgPath := "", byteOffset := 24 }], 4, 40, .agg #[.int .i64 0, .int .i64 0, .int .i64 0, .string ⟨#[]⟩]⟩ := by kernel_rfl
@[simp] theorem ty127 : tyOf Tryd.prog 127 = some ⟨.func #[70, 72] #[56] false, 1, 8, .nilFunc⟩ := by kernel_rfl
@[simp] theorem ty128 : tyOf Tryd.prog 128 = some ⟨.tuple #[3, 27], 1, 0, .tuple #[.int .i64 0, .int .i64 0]⟩ := by kernel_rfl
@[simp] theorem ty129 : tyOf Tryd.prog 129 = some ⟨.func #[72, 3] #[3, 27] false, 1, 8, .nilFunc⟩ := by kernel_rfl
@[simp] theorem ty130 : tyOf Tryd.prog 130 = some ⟨.slice 68, 1, 24, .slice none 0 0⟩ := by kernel_rfl
@[simp] theorem ty131 : tyOf Tryd.prog 131 = some ⟨.func #[72, 4] #[72] false, 1, 8, .nilFunc⟩ := by kernel_rfl
@[simp] theorem ty132 : tyOf Tryd.prog 132 = some ⟨.slice 92, 1, 24, .slice none 0 0⟩ := by kernel_rfl
@[simp] theorem ty133 : tyOf Tryd.prog 133 = some ⟨.struct #[{ name := "Kind", type := 3, offset := 0, embedded := false, tag := "", pkgPath := "", byteOffset := 0 }, { name := "Name", type := 9, offset := 1, embedded := false, tag := "", pkgPath := "", byteOffset := 8 }, { name := "Of", type := 132, offset := 2, embedded := false, tag := "", pkgPath := "", byteOffset := 24 }], 3, 48, .agg #[.int .i64 0, .string ⟨#[]⟩, .slice none 0 0]⟩ := by kernel_rfl
@[simp] theorem ty134 : tyOf Tryd.prog 134 = some ⟨.struct #[{ name := "Kind", type := 3, offset := 0, embedded := false, tag := "", pkgPath := "", byteOffset := 0 }, { name := "Name", type := 9, offset := 1, embedded := false, tag := "", pkgPath := "", byteOffset := 8 }, { name := "Of", type := 132, offset := 2, embedded := false, tag := "", pkgPath := "", byteOffset := 24 }], 3, 48, .agg #[.int .i64 0, .string ⟨#[]⟩, .slice none 0 0]⟩ := by kernel_rfl
@[simp] theorem ty135 : tyOf Tryd.prog 135 = some ⟨.func #[3] #[3] false, 1, 8, .nilFunc⟩ := by kernel_rfl
@[simp] theorem ty136 : tyOf Tryd.prog 136 = some ⟨.func #[75, 9] #[3] false, 1, 8, .nilFunc⟩ := by kernel_rfl
@[simp] theorem ty137 : tyOf Tryd.prog 137 = some ⟨.func #[92] #[92] false, 1, 8, .nilFunc⟩ := by kernel_rfl
@[simp] theorem ty138 : tyOf Tryd.prog 138 = some ⟨.func #[3, 132] #[92] true, 1, 8, .nilFunc⟩ := by kernel_rfl
@[simp] theorem ty139 : tyOf Tryd.prog 139 = some ⟨.map 3 9, 1, 8, .map none⟩ := by kernel_rfl
@[simp] theorem ty140 : tyOf Tryd.prog 140 = some ⟨.func #[9, 5] #[9] false, 1, 8, .nilFunc⟩ := by kernel_rfl
@[simp] theorem ty143 : tyOf Tryd.prog 143 = some ⟨.tuple #[142, 4], 1, 0, .tuple #[.agg #[.bool false, .bool false, .bool false, .bool false, .bool false, .bool false, .bool false, .bool false, .bool false, .bool false, .bool false, .bool false, .bool false, .bool false, .bool false, .bool false, .bool false, .bool false, .bool false, .bool false, .bool false, .bool false, .bool false, .bool false, .bool false, .bool false, .bool false, .bool false, .bool false, .bool false, .bool false, .bool false, .bool false, .bool false, .bool false, .bool false, .bool false, .bool false, .bool false, .bool false, .bool false, .bool false, .bool false, .bool false, .bool false, .bool false, .bool false, .bool false, .bool false, .bool false, .bool false, .bool false, .bool false, .bool false, .bool false, .bool false, .bool false, .bool false, .bool false, .bool false, .bool false, .bool false, .bool false, .bool false, .bool false, .bool false, .bool false, .bool false, .bool false, .bool false, .bool false, .bool false, .bool false, .bool false, .bool false, .bool false, .bool false, .bool false, .bool false, .bool false, .bool false, .bool false, .bool false, .bool false, .bool false, .bool false, .bool false, .bool false, .bool false, .bool false, .bool false, .bool false, .bool false, .bool false, .bool false, .bool false, .bool false, .bool false, .bool false, .bool false, .bool false, .bool false, .bool false, .bool false, .bool false, .bool false, .bool false, .bool false, .bool false, .bool false, .bool false, .bool false, .bool false, .bool false, .bool false, .bool false, .bool false, .bool false, .bool false, .bool false, .bool false, .bool false, .bool false, .bool false, .bool false, .bool false, .bool false, .bool false, .bool false, .bool false, .bool false, .bool false, .bool false, .bool false, .bool false, .bool false, .bool false, .bool false, .bool false, .bool false, .bool false, .bool false, .bool false, .bool false, .bool false, .bool false, .bool false, .bool false, .bool false, .bool false, .bool false, .bool false, .bool false, .bool false, .bool false, .bool false, .bool false, .bool false, .bool false, .bool false, .bool false, .bool false, .bool false, .bool false, .bool false, .bool false, .bool false, .bool false, .bool false, .bool false, .bool false, .bool false, .bool false, .bool false, .bool false, .bool false, .bool false, .bool false, .bool false, .bool false, .bool false, .bool false, .bool false, .bool false, .bool false, .bool false, .bool false, .bool false, .bool false, .bool false, .bool false, .bool false, .bool false, .bool false, .bool false, .bool false, .bool false, .bool false, .bool false, .bool false, .bool false, .bool false, .bool false, .bool false, .bool false, .bool false, .bool false, .bool false, .bool false, .bool false, .bool false, .bool false, .bool false, .bool false, .bool false, .bool false, .bool false, .bool false, .bool false, .bool false, .bool false, .bool false, .bool false, .bool false, .bool false, .bool false, .bool false, .bool false, .bool false, .bool false, .bool false, .bool false, .bool false, .bool false, .bool false, .bool false, .bool false, .bool false, .bool false, .bool false, .bool false, .bool false, .bool false, .bool false, .bool false, .bool false, .bool false, .bool false, .bool false, .bool false, .bool false, .bool false, .bool false, .bool false, .bool false, .bool false], .bool false]⟩ := by kernel_rfl
@[simp] theorem ty144 : tyOf Tryd.prog 144 = some ⟨.func #[9] #[142, 4] false, 1, 8, .nilFunc⟩ := by kernel_rfl
@[simp] theorem ty145 : tyOf Tryd.prog 145 = some ⟨.func #[9, 146] #[9] false, 1, 8, .nilFunc⟩ := by kernel_rfl
@[simp] theorem ty146 : tyOf Tryd.prog 146 = some ⟨.pointer 142, 1, 8, .pointer none⟩ := by kernel_rfl
@[simp] theorem ty147 : tyOf Tryd.prog 147 = some ⟨.func #[23] #[32] false, 1, 8, .nilFunc⟩ := by kernel_rfl
@[simp] theorem ty148 : tyOf Tryd.prog 148 = some ⟨.tuple #[109, 4], 1, 0, .tuple #[.pointer none, .bool false]⟩ := by kernel_rfl
@[simp] theorem ty149 : tyOf Tryd.prog 149 = some ⟨.interface #[("Unwrap", 151)], 1, 16, .nilIface⟩ := by kernel_rfl
@[simp] theorem ty150 : tyOf Tryd.prog 150 = some ⟨.tuple #[149, 4], 1, 0, .tuple #[.nilIface, .bool false]⟩ := by kernel_rfl
@[simp] theorem ty151 : tyOf Tryd.prog 151 = some ⟨.func #[] #[34] false, 1, 8, .nilFunc⟩ := by kernel_rfl
@[simp] theorem ty152 : tyOf Tryd.prog 152 = some ⟨.func #[32, 112] #[3] false, 1, 8, .nilFunc⟩ := by kernel_rfl
@[simp] theorem ty153 : tyOf Tryd.prog 153 = some ⟨.func #[3] #[] false, 1, 8, .nilFunc⟩ := by kernel_rfl
@[simp] theorem ty154 : tyOf Tryd.prog 154 = some ⟨.func #[32, 3] #[3] false, 1, 8, .nilFunc⟩ := by kernel_rfl
@[simp] theorem ty157 : tyOf Tryd.prog 157 = some ⟨.struct #[{ name := "typ_", type := 17, offset := 0, embedded := false, tag := "", pkgPath := "internal/reflectlite", byteOffset := 0 }, { name := "ptr", type := 155, offset := 1, embedded := false, tag := "", pkgPath := "internal/reflectlite", byteOffset := 8 }, { name := "flag", type := 156, offset := 2, embedded := true, tag := "", pkgPath := "internal/reflectlite", byteOffset := 16 }], 3, 24, .agg #[.pointer none, .pointer none, .int .u64 0]⟩ := by kernel_rfl
@[simp] theorem ty159 : tyOf Tryd.prog 159 = some ⟨.func #[20] #[158] false, 1, 8, .nilFunc⟩ := by kernel_rfl
@[simp] theorem ty160 : tyOf Tryd.prog 160 = some ⟨.interface #[("AssignableTo", 165), ("Comparable", 65), ("Elem", 162), ("Implements", 165), ("Kind", 164), ("Name", 100), ("PkgPath", 100), ("Size", 219), ("String", 100), ("internal/reflectlite.common", 211), ("internal/reflectlite.uncommon", 220)], 1, 16, .nilIface⟩ := by kernel_rfl
@[simp] theorem ty162 : tyOf Tryd.prog 162 = some ⟨.func #[] #[161] false, 1, 8, .nilFunc⟩ := by kernel_rfl
@[simp] theorem ty164 : tyOf Tryd.prog 164 = some ⟨.func #[] #[163] false, 1, 8, .nilFunc⟩ := by kernel_rfl
@[simp] theorem ty165 : tyOf Tryd.prog 165 = some ⟨.func #[161] #[4] false, 1, 8, .nilFunc⟩ := by kernel_rfl
@[simp] theorem ty166 : tyOf Tryd.prog 166 = some ⟨.func #[34, 20, 158, 161] #[4] false, 1, 8, .nilFunc⟩ := by kernel_rfl
@[simp] theorem ty167 : tyOf Tryd.prog 167 = some ⟨.slice 56, 1, 24, .slice none 0 0⟩ := by kernel_rfl
@[simp] theorem ty168 : tyOf Tryd.prog 168 = some ⟨.func #[3, 4] #[4] false, 1, 8, .nilFunc⟩ := by kernel_rfl
@[simp] theorem ty169 : tyOf Tryd.prog 169 = some ⟨.func #[4, 168] #[] false, 1, 8, .nilFunc⟩ := by kernel_rfl
@[simp] theorem ty170 : tyOf Tryd.prog 170 = some ⟨.array 11 3, 11, 88, .agg #[.int .i64 0, .int .i64 0, .int .i64 0, .int .i64 0, .int .i64 0, .int .i64 0, .int .i64 0, .int .i64 0, .int .i64 0, .int .i64 0, .int .i64 0]⟩ := by kernel_rfl
@[simp] theorem ty171 : tyOf Tryd.prog 171 = some ⟨.func #[75, 9] #[9] false, 1, 8, .nilFunc⟩ := by kernel_rfl
@[simp] theorem ty172 : tyOf Tryd.prog 172 = some ⟨.func #[5] #[4] false, 1, 8, .nilFunc⟩ := by kernel_rfl
@[simp] theorem ty173 : tyOf Tryd.prog 173 = some ⟨.tuple #[21, 3], 1, 0, .tuple #[.int .i32 0, .int .i64 0]⟩ := by kernel_rfl
@[simp] theorem ty174 : tyOf Tryd.prog 174 = some ⟨.func #[9] #[21, 3] false, 1, 8, .nilFunc⟩ := by kernel_rfl
@[simp] theorem ty175 : tyOf Tryd.prog 175 = some ⟨.func #[9, 21] #[4] false, 1, 8, .nilFunc⟩ := by kernel_rfl
@[simp] theorem ty176 : tyOf Tryd.prog 176 = some ⟨.struct #[{ name := "Type", type := 17, offset := 0, embedded := true, tag := "", pkgPath := "", byteOffset := 0 }], 1, 8, .agg #[.pointer none]⟩ := by kernel_rfl
@[simp] theorem ty178 : tyOf Tryd.prog 178 = some ⟨.pointer 222, 1, 8, .pointer none⟩ := by kernel_rfl
@[simp] theorem ty179 : tyOf Tryd.prog 179 = some ⟨.func #[20] #[161] false, 1, 8, .nilFunc⟩ := by kernel_rfl
@[simp] theorem ty180 : tyOf Tryd.prog 180 = some ⟨.func #[] #[158] false, 1, 8, .nilFunc⟩ := by kernel_rfl
@[simp] theorem ty181 : tyOf Tryd.prog 181 = some ⟨.func #[158] #[] false, 1, 8, .nilFunc⟩ := by kernel_rfl
@[simp] theorem ty182 : tyOf Tryd.prog 182 = some ⟨.interface #[("As", 184)], 1, 16, .nilIface⟩ := by kernel_rfl
@[simp] theorem ty183 : tyOf Tryd.prog 183 = some ⟨.tuple #[182, 4], 1, 0, .tuple #[.nilIface, .bool false]⟩ := by kernel_rfl
@[simp] theorem ty184 : tyOf Tryd.prog 184 = some ⟨.func #[20] #[4] false, 1, 8, .nilFunc⟩ := by kernel_rfl
@[simp] theorem ty185 : tyOf Tryd.prog 185 = some ⟨.interface #[("Unwrap", 187)], 1, 16, .nilIface⟩ := by kernel_rfl
@[simp] theorem ty186 : tyOf Tryd.prog 186 = some ⟨.slice 34, 1, 24, .slice none 0 0⟩ := by kernel_rfl
@[simp] theorem ty187 : tyOf Tryd.prog 187 = some ⟨.func #[] #[186] false, 1, 8, .nilFunc⟩ := by kernel_rfl
@[simp] theorem ty188 : tyOf Tryd.prog 188 = some ⟨.pointer 191, 1, 8, .pointer none⟩ := by kernel_rfl
@[simp] theorem ty189 : tyOf Tryd.prog 189 = some ⟨.slice 5, 1, 24, .slice none 0 0⟩ := by kernel_rfl
@[simp] theorem ty190 : tyOf Tryd.prog 190 = some ⟨.struct #[{ name := "addr", type := 188, offset := 0, embedded := false, tag := "", pkgPath := "strings", byteOffset := 0 }, { name := "buf", type := 189, offset := 1, embedded := false, tag := "", pkgPath := "strings", byteOffset := 8 }], 2, 32, .agg #[.pointer none, .slice none 0 0]⟩ := by kernel_rfl
@[simp] theorem ty191 : tyOf Tryd.prog 191 = some ⟨.struct #[{ name := "addr", type := 188, offset := 0, embedded := false, tag := "", pkgPath := "strings", byteOffset := 0 }, { name := "buf", type := 189, offset := 1, embedded := false, tag := "", pkgPath := "strings", byteOffset := 8 }], 2, 32, .agg #[.pointer none, .slice none 0 0]⟩ := by kernel_rfl
@[simp] theorem ty192 : tyOf Tryd.prog 192 = some ⟨.tuple #[3, 34], 1, 0, .tuple #[.int .i64 0, .nilIface]⟩ := by kernel_rfl
@[simp] theorem ty193 : tyOf Tryd.prog 193 = some ⟨.func #[9] #[3, 34] false, 1, 8, .nilFunc⟩ := by kernel_rfl
@[simp] theorem ty194 : tyOf Tryd.prog 194 = some ⟨.func #[9, 21] #[3] false, 1, 8, .nilFunc⟩ := by kernel_rfl
@[simp] theorem ty195 : tyOf Tryd.prog 195 = some ⟨.pointer 5, 1, 8, .pointer none⟩ := by kernel_rfl
@[simp] theorem ty197 : tyOf Tryd.prog 197 = some ⟨.struct #[{ name := "lo", type := 5, offset := 0, embedded := false, tag := "", pkgPath := "unicode/utf8", byteOffset := 0 }, { name := "hi", type := 5, offset := 1, embedded := false, tag := "", pkgPath := "unicode/utf8", byteOffset := 1 }], 2, 2, .agg #[.int .u8 0, .int .u8 0]⟩ := by kernel_rfl
@[simp] theorem ty198 : tyOf Tryd.prog 198 = some ⟨.struct #[{ name := "lo", type := 5, offset := 0, embedded := false, tag := "", pkgPath := "unicode/utf8", byteOffset := 0 }, { name := "hi", type := 5, offset := 1, embedded := false, tag := "", pkgPath := "unicode/utf8", byteOffset := 1 }], 2, 2, .agg #[.int .u8 0, .int .u8 0]⟩ := by kernel_rfl
@[simp] theorem ty199 : tyOf Tryd.prog 199 = some ⟨.array 16 198, 32, 32, .agg #[.int .u8 0, .int .u8 0, .int .u8 0, .int .u8 0, .int .u8 0, .int .u8 0, .int .u8 0, .int .u8 0, .int .u8 0, .int .u8 0, .int .u8 0, .int .u8 0, .int .u8 0, .int .u8 0, .int .u8 0, .int .u8 0, .int .u8 0, .int .u8 0, .int .u8 0, .int .u8 0, .int .u8 0, .int .u8 0, .int .u8 0, .int .u8 0, .int .u8 0, .int .u8 0, .int .u8 0, .int .u8 0, .int .u8 0, .int .u8 0, .int .u8 0, .int .u8 0]⟩ := by kernel_rfl
@[simp] theorem ty200 : tyOf Tryd.prog 200 = some ⟨.func #[9, 5] #[3] false, 1, 8, .nilFunc⟩ := by kernel_rfl
@[simp] theorem ty201 : tyOf Tryd.prog 201 = some ⟨.func #[21] #[4] false, 1, 8, .nilFunc⟩ := by kernel_rfl
@[simp] theorem ty202 : tyOf Tryd.prog 202 = some ⟨.func #[9, 9] #[3] false, 1, 8, .nilFunc⟩ := by kernel_rfl
@[simp] theorem ty203 : tyOf Tryd.prog 203 = some ⟨.func #[155] #[155] false, 1, 8, .nilFunc⟩ := by kernel_rfl
@[simp] theorem ty204 : tyOf Tryd.prog 204 = some ⟨.func #[3] #[189] false, 1, 8, .nilFunc⟩ := by kernel_rfl
@[simp] theorem ty205 : tyOf Tryd.prog 205 = some ⟨.struct #[{ name := "_interface", type := 17, offset := 0, embedded := false, tag := "", pkgPath := "runtime", byteOffset := 0 }, { name := "concrete", type := 17, offset := 1, embedded := false, tag := "", pkgPath := "runtime", byteOffset := 8 }, { name := "asserted", type := 17, offset := 2, embedded := false, tag := "", pkgPath := "runtime", byteOffset := 16 }, { name := "missingMethod", type := 9, offset := 3, embedded := false, tag := "", pkgPath := "runtime", byteOffset := 24 }], 4, 40, .agg #[.pointer none, .pointer none, .pointer none, .string ⟨#[]⟩]⟩ := by kernel_rfl
@[simp] theorem ty207 : tyOf Tryd.prog 207 = some ⟨.array 0 16, 0, 0, .agg #[]⟩ := by kernel_rfl
@[simp] theorem ty208 : tyOf Tryd.prog 208 = some ⟨.struct #[{ name := "_", type := 207, offset := 0, embedded := false, tag := "", pkgPath := "runtime", byteOffset := 0 }], 0, 0, .agg #[]⟩ := by kernel_rfl
@[simp] theorem ty210 : tyOf Tryd.prog 210 = some ⟨.func #[] #[3] false, 1, 8, .nilFunc⟩ := by kernel_rfl
@[simp] theorem ty211 : tyOf Tryd.prog 211 = some ⟨.func #[] #[17] false, 1, 8, .nilFunc⟩ := by kernel_rfl
@[simp] theorem ty212 : tyOf Tryd.prog 212 = some ⟨.int .u32, 1, 4, .int .u32 0⟩ := by kernel_rfl
@[simp] theorem ty214 : tyOf Tryd.prog 214 = some ⟨.func #[155, 155] #[4] false, 1, 8, .nilFunc⟩ := by kernel_rfl
@[simp] theorem ty217 : tyOf Tryd.prog 217 = some ⟨.struct #[{ name := "Size_", type := 12, offset := 0, embedded := false, tag := "", pkgPath := "", byteOffset := 0 }, { name := "PtrBytes", type := 12, offset := 1, embedded := false, tag := "", pkgPath := "", byteOffset := 8 }, { name := "Hash", type := 212, offset := 2, embedded := false, tag := "", pkgPath := "", byteOffset := 16 }, { name := "TFlag", type := 213, offset := 3, embedded := false, tag := "", pkgPath := "", byteOffset := 20 }, { name := "Align_", type := 5, offset := 4, embedded := false, tag := "", pkgPath := "", byteOffset := 21 }, { name := "FieldAlign_", type := 5, offset := 5, embedded := false, tag := "", pkgPath := "", byteOffset := 22 }, { name := "Kind_", type := 163, offset := 6, embedded := false, tag := "", pkgPath := "", byteOffset := 23 }, { name := "Equal", type := 214, offset := 7, embedded := false, tag := "", pkgPath := "", byteOffset := 24 }, { name := "GCData", type := 195, offset := 8, embedded := false, tag := "", pkgPath := "", byteOffset := 32 }, { name := "Str", type := 215, offset := 9, embedded := false, tag := "", pkgPath := "", byteOffset := 40 }, { name := "PtrToThis", type := 216, offset := 10, embedded := false, tag := "", pkgPath := "", byteOffset := 44 }], 11, 48, .agg #[.int .u64 0, .int .u64 0, .int .u32 0, .int .u8 0, .int .u8 0, .int .u8 0, .int .u8 0, .nilFunc, .pointer none, .int .i32 0, .int .i32 0]⟩ := by kernel_rfl
@[simp] theorem ty219 : tyOf Tryd.prog 219 = some ⟨.func #[] #[12] false, 1, 8, .nilFunc⟩ := by kernel_rfl
@[simp] theorem ty220 : tyOf Tryd.prog 220 = some ⟨.func #[] #[223] false, 1, 8, .nilFunc⟩ := by kernel_rfl
@[simp] theorem ty221 : tyOf Tryd.prog 221 = some ⟨.struct #[{ name := "Method", type := 9, offset := 0, embedded := false, tag := "", pkgPath := "", byteOffset := 0 }, { name := "Kind", type := 163, offset := 1, embedded := false, tag := "", pkgPath := "", byteOffset := 16 }], 2, 24, .agg #[.string ⟨#[]⟩, .int .u8 0]⟩ := by kernel_rfl
@[simp] theorem ty223 : tyOf Tryd.prog 223 = some ⟨.pointer 227, 1, 8, .pointer none⟩ := by kernel_rfl
@[simp] theorem ty224 : tyOf Tryd.prog 224 = some ⟨.func #[] #[228] false, 1, 8, .nilFunc⟩ := by kernel_rfl
@[simp] theorem ty225 : tyOf Tryd.prog 225 = some ⟨.int .u16, 1, 2, .int .u16 0⟩ := by kernel_rfl
@[simp] theorem ty226 : tyOf Tryd.prog 226 = some ⟨.struct #[{ name := "PkgPath", type := 215, offset := 0, embedded := false, tag := "", pkgPath := "", byteOffset := 0 }, { name := "Mcount", type := 225, offset := 1, embedded := false, tag := "", pkgPath := "", byteOffset := 4 }, { name := "Xcount", type := 225, offset := 2, embedded := false, tag := "", pkgPath := "", byteOffset := 6 }, { name := "Moff", type := 212, offset := 3, embedded := false, tag := "", pkgPath := "", byteOffset := 8 }, { name := "_", type := 212, offset := 4, embedded := false, tag := "", pkgPath := "internal/abi", byteOffset := 12 }], 5, 16, .agg #[.int .i32 0, .int .u16 0, .int .u16 0, .int .u32 0, .int .u32 0]⟩ := by kernel_rfl
@[simp] theorem ty228 : tyOf Tryd.prog 228 = some ⟨.slice 231, 1, 24, .slice none 0 0⟩ := by kernel_rfl
@[simp] theorem ty230 : tyOf Tryd.prog 230 = some ⟨.struct #[{ name := "Name", type := 215, offset := 0, embedded := false, tag := "", pkgPath := "", byteOffset := 0 }, { name := "Mtyp", type := 216, offset := 1, embedded := false, tag := "", pkgPath := "", byteOffset := 4 }, { name := "Ifn", type := 229, offset := 2, embedded := false, tag := "", pkgPath := "", byteOffset := 8 }, { name := "Tfn", type := 229, offset := 3, embedded := false, tag := "", pkgPath := "", byteOffset := 12 }], 4, 16, .agg #[.int .i32 0, .int .i32 0, .int .i32 0, .int .i32 0]⟩ := by kernel_rfl
@[simp] theorem ty232 : tyOf Tryd.prog 232 = some ⟨.pointer 34, 1, 8, .pointer none⟩ := by kernel_rfl
end Go.Proofs.YtoikggboakojlaaDoor

/-
  Lists of numbers that are told apart.
-/
namespace Go.Proofs.YtoikggboakojlaaDoor
open Go.Av
set_option linter.unusedSimpArgs false
set_option linter.unusedVariables false

def dInts (k : Option Bool) (l : List Int) : D := .sl k (l.map fun n => [.v (.int .i64 n)])

theorem take_eq_all {l l' : List Int} (hl : l.length = l'.length) (h : l.take l.length = l'.take l.length) : l = l' := by
  rw [List.take_length, hl, List.take_length] at h; exact h
theorem take_step {l l' : List Int} {k : Nat} (h : l.take k = l'.take k) (hk : k < l.length) (hk' : k < l'.length) (he : l[k] = l'[k]) : l.take (k + 1) = l'.take (k + 1) := by
  rw [List.take_succ_eq_append_getElem hk, List.take_succ_eq_append_getElem hk', h, he]

set_option maxHeartbeats 1000000 in
theorem equal_spec (G : Glob) (k k' : Option Bool) (l l' : List Int) (h : l.length < 2^63) : PureC Tryd.prog G 91 [dInts k l, dInts k' l'] (.v (.bool (l == l'))) := by
  refine PureC.of_body (tyOf_good _) Tryd.func91 rfl rfl (rs := [.tmp 4]) Tryd.results91 (by simp [Tryd.ntmps91]) fun X => ?_
  simp only [Tryd.ntmps91, List.map]
  refine AW_rg (tyOf_good _) (fun _ => trivial) [0, 1] [] fun K' hK' => ?_
  repeat (refine sxf_next fun K2 hK2 => ?_; simp; (repeat (refine ⟨by omega, ?_⟩)); refine hK2 _ ?_; clear hK2 K2)
  first | refine sxf_nil (hK' _ ?_) | (refine sxf_next fun K2 hK2 => ?_; clear hK2 hK'; simp; fail "STUCK")
  refine AW.st (by simp; rfl) ?_
  clear hK' K'
  refine AW_then fun K1 hK1 => ?_
  refine AW_rg (tyOf_good _) (fun _ => trivial) [0, 1, 10] [] fun K' hK' => ?_
  repeat (refine sxf_next fun K2 hK2 => ?_; simp [dInts]; (repeat (refine ⟨by omega, ?_⟩)); refine hK2 _ ?_; clear hK2 K2)
  first | refine sxf_nil (hK' _ ?_) | (refine sxf_next fun K2 hK2 => ?_; clear hK2 hK'; simp [dInts]; fail "STUCK")
  refine AW.st (by simp [dInts]; rfl) ?_
  clear hK' K'
  refine AW_cond' (b := l.length ≠ l'.length) (by simp [D.le, D.le.go, takeMap]) (fun hc => ?_) (fun hc => ?_)
  · refine AW_rg (tyOf_good _) (fun _ => trivial) [4] [] fun K' hK' => ?_
    repeat (refine sxf_next fun K2 hK2 => ?_; simp; (repeat (refine ⟨by omega, ?_⟩)); refine hK2 _ ?_; clear hK2 K2)
    first | refine sxf_nil (hK' _ ?_) | (refine sxf_next fun K2 hK2 => ?_; clear hK2 hK'; simp; fail "STUCK")
    refine AW.st (by simp; rfl) ?_
    clear hK' K'
    refine AW_ret ?_
    simp [D.le, D.le.go, takeMap]
    intro e; subst e; simp at hc
  · refine AW_skip (hK1 _ ?_)
    have hl : l.length = l'.length := by simpa using hc
    refine AW_then fun K2 hK2 => ?_
    refine AW_rg (tyOf_good _) (fun _ => trivial) [0, 1, 12, 13] [] fun K' hK' => ?_
    repeat (refine sxf_next fun K2 hK2 => ?_; simp [dInts]; (repeat (refine ⟨by omega, ?_⟩)); refine hK2 _ ?_; clear hK2 K2)
    first | refine sxf_nil (hK' _ ?_) | (refine sxf_next fun K2 hK2 => ?_; clear hK2 hK'; simp [dInts]; fail "STUCK")
    refine AW.st (by simp [dInts]; rfl) ?_
    clear hK' K'
    refine AW_for (S := Nat) (fun n => n ≤ l.length ∧ l.take n = l'.take n) (fun n => ⟨lst [(0, .d (dInts k l)), (1, .d (dInts k' l')), (12, int l.length), (13, int n)], hlst []⟩) (fun n => l.length - n) 0 ?_ (by simp) ?_
    · refine Imp.to' (fun _ => trivial) (by simp [dInts]) (by simp [dInts])
    · rintro n ⟨hn, ht⟩
      refine AW_rg (tyOf_good _) (fun _ => trivial) [0, 1, 12, 13, 14] [] fun K' hK' => ?_
      repeat (refine sxf_next fun K2 hK2 => ?_; simp; (repeat (refine ⟨by omega, ?_⟩)); refine hK2 _ ?_; clear hK2 K2)
      first | refine sxf_nil (hK' _ ?_) | (refine sxf_next fun K2 hK2 => ?_; clear hK2 hK'; simp; fail "STUCK")
      refine AW.st (by simp; rfl) ?_
      clear hK' K'
      refine AW_then fun K3 hK3 => ?_
      refine AW_cond' (b := n < l.length) (by simp [D.le, D.le.go, takeMap]) (fun hc => ?_) (fun hc => ?_)
      · refine AW_skip (hK3 _ ?_)
        refine AW_then fun K4 hK4 => ?_
        refine AW_block ?_
        refine AW_rg (tyOf_good _) (fun _ => trivial) [0, 1, 5, 12, 13] [] fun K' hK' => ?_
        repeat (refine sxf_next fun K2 hK2 => ?_; simp; (repeat (refine ⟨by omega, ?_⟩)); refine hK2 _ ?_; clear hK2 K2)
        first | refine sxf_nil (hK' _ ?_) | (refine sxf_next fun K2 hK2 => ?_; clear hK2 hK'; simp; fail "STUCK")
        refine AW.st (by simp; rfl) ?_
        clear hK' K'
        have hn' : n < l'.length := by omega
        refine AW_rd (tyOf_good _) (fun _ => trivial) (by kernel_rfl) [0, 1, 12, 13, 24] [] (by kernel_rfl) fun K' hK' => ?_
        repeat (refine sxd_next fun K2 hK2 => ?_; simp [dInts, hc, hn']; (repeat (refine ⟨by omega, ?_⟩)); refine hK2 _ ?_; clear hK2 K2)
        first | refine sxd_nil (hK' _ ?_) | (refine sxd_next fun K2 hK2 => ?_; clear hK2 hK'; simp [dInts, hc, hn']; fail "STUCK")
        refine AW.st (by simp [dInts, hc, hn']; rfl) ?_
        clear hK' K'
        refine AW_cond' (b := ¬ l[n] = l'[n]) (by simp [D.le, D.le.go, takeMap]) (fun hc => ?_) (fun hc => ?_)
        · refine AW_rg (tyOf_good _) (fun _ => trivial) [4] [] fun K' hK' => ?_
          repeat (refine sxf_next fun K2 hK2 => ?_; simp; (repeat (refine ⟨by omega, ?_⟩)); refine hK2 _ ?_; clear hK2 K2)
          first | refine sxf_nil (hK' _ ?_) | (refine sxf_next fun K2 hK2 => ?_; clear hK2 hK'; simp; fail "STUCK")
          refine AW.st (by simp; rfl) ?_
          clear hK' K'
          refine AW_ret ?_
          simp [D.le, D.le.go, takeMap]
          intro e; subst e; simp at hc
        · refine AW_skip (hK4 _ ?_)
          refine AW_re (tyOf_good _) (fun _ => trivial) fun K' hK' => ?_
          repeat (refine sxf_next fun K2 hK2 => ?_; simp; (repeat (refine ⟨by omega, ?_⟩)); refine hK2 _ ?_; clear hK2 K2)
          first | refine sxf_nil (hK' _ ?_) | (refine sxf_next fun K2 hK2 => ?_; clear hK2 hK'; simp; fail "STUCK")
          clear hK' K'
          try simp only [thn, inb]
          have he : l[n] = l'[n] := by simpa using hc
          refine Again.mk (n + 1) ⟨by omega, take_step ht (by omega) hn' he⟩ (by omega) ?_
          refine Imp.to' (fun _ => trivial) (by simp [dInts]) (by simp [dInts])
      · refine AW_exit (hK2 _ ?_)
        refine AW_rg (tyOf_good _) (fun _ => trivial) [4] [] fun K' hK' => ?_
        repeat (refine sxf_next fun K2 hK2 => ?_; simp; (repeat (refine ⟨by omega, ?_⟩)); refine hK2 _ ?_; clear hK2 K2)
        first | refine sxf_nil (hK' _ ?_) | (refine sxf_next fun K2 hK2 => ?_; clear hK2 hK'; simp; fail "STUCK")
        refine AW.st (by simp; rfl) ?_
        clear hK' K'
        refine AW_ret ?_
        simp [D.le, D.le.go, takeMap]
        have hnn : n = l.length := by omega
        subst hnn
        exact take_eq_all hl ht

set_option maxHeartbeats 1000000 in
theorem sameInts_spec (G : Glob) (k k' : Option Bool) (l l' : List Int) (h : l.length < 2^63) : PureC Tryd.prog G 37 [dInts k l, dInts k' l'] (.v (.bool (l == l'))) := by
  refine PureC.of_body (tyOf_good _) Tryd.func37 rfl rfl (rs := [.tmp 4]) Tryd.results37 (by simp [Tryd.ntmps37]) fun X => ?_
  simp only [Tryd.ntmps37, List.map]
  refine AW_rg (tyOf_good _) (fun _ => trivial) [0, 1] [] fun K' hK' => ?_
  repeat (refine sxf_next fun K2 hK2 => ?_; simp; (repeat (refine ⟨by omega, ?_⟩)); refine hK2 _ ?_; clear hK2 K2)
  first | refine sxf_nil (hK' _ ?_) | (refine sxf_next fun K2 hK2 => ?_; clear hK2 hK'; simp; fail "STUCK")
  refine AW.st (by simp; rfl) ?_
  clear hK' K'
  refine AW_then fun K1 hK1 => ?_
  refine AW_rg (tyOf_good _) (fun _ => trivial) [0, 1, 10] [] fun K' hK' => ?_
  repeat (refine sxf_next fun K2 hK2 => ?_; simp [dInts]; (repeat (refine ⟨by omega, ?_⟩)); refine hK2 _ ?_; clear hK2 K2)
  first | refine sxf_nil (hK' _ ?_) | (refine sxf_next fun K2 hK2 => ?_; clear hK2 hK'; simp [dInts]; fail "STUCK")
  refine AW.st (by simp [dInts]; rfl) ?_
  clear hK' K'
  refine AW_cond' (b := l.length ≠ l'.length) (by simp [D.le, D.le.go, takeMap]) (fun hc => ?_) (fun hc => ?_)
  · refine AW_rg (tyOf_good _) (fun _ => trivial) [4] [] fun K' hK' => ?_
    repeat (refine sxf_next fun K2 hK2 => ?_; simp; (repeat (refine ⟨by omega, ?_⟩)); refine hK2 _ ?_; clear hK2 K2)
    first | refine sxf_nil (hK' _ ?_) | (refine sxf_next fun K2 hK2 => ?_; clear hK2 hK'; simp; fail "STUCK")
    refine AW.st (by simp; rfl) ?_
    clear hK' K'
    refine AW_ret ?_
    simp [D.le, D.le.go, takeMap]
    intro e; subst e; simp at hc
  · refine AW_skip (hK1 _ ?_)
    have hl : l.length = l'.length := by simpa using hc
    refine AW_then fun K2 hK2 => ?_
    refine AW_rg (tyOf_good _) (fun _ => trivial) [0, 1, 5] [] fun K' hK' => ?_
    repeat (refine sxf_next fun K2 hK2 => ?_; simp [dInts]; (repeat (refine ⟨by omega, ?_⟩)); refine hK2 _ ?_; clear hK2 K2)
    first | refine sxf_nil (hK' _ ?_) | (refine sxf_next fun K2 hK2 => ?_; clear hK2 hK'; simp [dInts]; fail "STUCK")
    refine AW.st (by simp [dInts]; rfl) ?_
    clear hK' K'
    refine AW_for (S := Nat) (fun n => n ≤ l.length ∧ l.take n = l'.take n) (fun n => ⟨lst [(0, .d (dInts k l)), (1, .d (dInts k' l')), (5, int n)], hlst []⟩) (fun n => l.length - n) 0 ?_ (by simp) ?_
    · refine Imp.to' (fun _ => trivial) (by simp [dInts]) (by simp [dInts])
    · rintro n ⟨hn, ht⟩
      refine AW_then fun K3 hK3 => ?_
      refine AW_rg (tyOf_good _) (fun _ => trivial) [0, 1, 5, 14] [] fun K' hK' => ?_
      repeat (refine sxf_next fun K2 hK2 => ?_; simp [dInts]; (repeat (refine ⟨by omega, ?_⟩)); refine hK2 _ ?_; clear hK2 K2)
      first | refine sxf_nil (hK' _ ?_) | (refine sxf_next fun K2 hK2 => ?_; clear hK2 hK'; simp [dInts]; fail "STUCK")
      refine AW.st (by simp [dInts]; rfl) ?_
      clear hK' K'
      refine AW_cond' (b := n < l.length) (by simp [D.le, D.le.go, takeMap]) (fun hc => ?_) (fun hc => ?_)
      · refine AW_skip (hK3 _ ?_)
        refine AW_then fun K4 hK4 => ?_
        refine AW_block ?_
        have hn' : n < l'.length := by omega
        refine AW_rd (tyOf_good _) (fun _ => trivial) (by kernel_rfl) [0, 1, 5, 25] [] (by kernel_rfl) fun K' hK' => ?_
        repeat (refine sxd_next fun K2 hK2 => ?_; simp [dInts, hc, hn']; (repeat (refine ⟨by omega, ?_⟩)); refine hK2 _ ?_; clear hK2 K2)
        first | refine sxd_nil (hK' _ ?_) | (refine sxd_next fun K2 hK2 => ?_; clear hK2 hK'; simp [dInts, hc, hn']; fail "STUCK")
        refine AW.st (by simp [dInts, hc, hn']; rfl) ?_
        clear hK' K'
        refine AW_cond' (b := ¬ l[n] = l'[n]) (by simp [D.le, D.le.go, takeMap]) (fun hc => ?_) (fun hc => ?_)
        · refine AW_rg (tyOf_good _) (fun _ => trivial) [4] [] fun K' hK' => ?_
          repeat (refine sxf_next fun K2 hK2 => ?_; simp; (repeat (refine ⟨by omega, ?_⟩)); refine hK2 _ ?_; clear hK2 K2)
          first | refine sxf_nil (hK' _ ?_) | (refine sxf_next fun K2 hK2 => ?_; clear hK2 hK'; simp; fail "STUCK")
          refine AW.st (by simp; rfl) ?_
          clear hK' K'
          refine AW_ret ?_
          simp [D.le, D.le.go, takeMap]
          intro e; subst e; simp at hc
        · refine AW_skip (hK4 _ ?_)
          refine AW_re (tyOf_good _) (fun _ => trivial) fun K' hK' => ?_
          repeat (refine sxf_next fun K2 hK2 => ?_; simp; (repeat (refine ⟨by omega, ?_⟩)); refine hK2 _ ?_; clear hK2 K2)
          first | refine sxf_nil (hK' _ ?_) | (refine sxf_next fun K2 hK2 => ?_; clear hK2 hK'; simp; fail "STUCK")
          clear hK' K'
          try simp only [thn, inb]
          have he : l[n] = l'[n] := by simpa using hc
          refine Again.mk (n + 1) ⟨by omega, take_step ht (by omega) hn' he⟩ (by omega) ?_
          refine Imp.to' (fun _ => trivial) (by simp [dInts]) (by simp [dInts])
      · refine AW_exit (hK2 _ ?_)
        refine AW_rg (tyOf_good _) (fun _ => trivial) [4] [] fun K' hK' => ?_
        repeat (refine sxf_next fun K2 hK2 => ?_; simp; (repeat (refine ⟨by omega, ?_⟩)); refine hK2 _ ?_; clear hK2 K2)
        first | refine sxf_nil (hK' _ ?_) | (refine sxf_next fun K2 hK2 => ?_; clear hK2 hK'; simp; fail "STUCK")
        refine AW.st (by simp; rfl) ?_
        clear hK' K'
        refine AW_ret ?_
        simp [D.le, D.le.go, takeMap]
        have hnn : n = l.length := by omega
        subst hnn
        exact take_eq_all hl ht
#print axioms equal_spec
#print axioms sameInts_spec
end Go.Proofs.YtoikggboakojlaaDoor

/-
  Searching by a function.
-/
namespace Go.Proofs.YtoikggboakojlaaDoor
open Go.Av
set_option linter.unusedSimpArgs false
set_option linter.unusedVariables false

/-- Where the first one is that fits, or -1. -/
def idx {α : Type} (p : α → Bool) (l : List α) : Int := match l.findIdx? p with
  | some i => i
  | none => -1

theorem idx_hit {α : Type} {p : α → Bool} {l : List α} {n : Nat} (hn : n < l.length) (h : p l[n] = true) (hb : ∀ i (hi : i < n), p (l[i]'(by omega)) = false) : idx p l = n := by
  unfold idx
  have : l.findIdx? p = some n := by
    rw [List.findIdx?_eq_some_iff_getElem]
    exact ⟨hn, h, fun j hj => by simpa using hb j hj⟩
  rw [this]
theorem idx_miss {α : Type} {p : α → Bool} {l : List α} (hb : ∀ i (hi : i < l.length), p l[i] = false) : idx p l = -1 := by
  unfold idx
  have : l.findIdx? p = none := by
    rw [List.findIdx?_eq_none_iff]
    intro x hx
    obtain ⟨i, hi, rfl⟩ := List.mem_iff_getElem.1 hx
    exact hb i hi
  rw [this]

/-- A function that answers as p does, of some data. -/
def Answers {α : Type} (G : Glob) (g : FuncId) (caps : List D) (enc : α → D) (p : α → Bool) (xs : List α) : Prop := ∀ x ∈ xs, PureC Tryd.prog G g (enc x :: caps) (.v (.bool (p x)))

set_option maxHeartbeats 1000000 in
theorem indexInt_spec {α : Type} (G : Glob) (k : Option Bool) (enc : α → D) (xs : List α) (g : FuncId) (caps : List D) (p : α → Bool) (hl : xs.length < 2^63) (ha : Answers G g caps enc p xs) :
    PureC Tryd.prog G 92 [.sl k (xs.map fun x => [enc x]), .fn (.func g) caps] (.v (.int .i64 (idx p xs))) := by
  refine PureC.of_body (tyOf_good _) Tryd.func92 rfl rfl (rs := [.tmp 4]) Tryd.results92 (by simp [Tryd.ntmps92]) fun X => ?_
  simp only [Tryd.ntmps92, List.map]
  refine AW_rg (tyOf_good _) (fun _ => trivial) [0, 1] [] fun K' hK' => ?_
  repeat (refine sxf_next fun K2 hK2 => ?_; simp; (repeat (refine ⟨by omega, ?_⟩)); refine hK2 _ ?_; clear hK2 K2)
  first | refine sxf_nil (hK' _ ?_) | (refine sxf_next fun K2 hK2 => ?_; clear hK2 hK'; simp; fail "STUCK")
  refine AW.st (by simp; rfl) ?_
  clear hK' K'
  refine AW_then fun K1 hK1 => ?_
  refine AW_rg (tyOf_good _) (fun _ => trivial) [0, 1, 7, 8] [] fun K' hK' => ?_
  repeat (refine sxf_next fun K2 hK2 => ?_; simp; (repeat (refine ⟨by omega, ?_⟩)); refine hK2 _ ?_; clear hK2 K2)
  first | refine sxf_nil (hK' _ ?_) | (refine sxf_next fun K2 hK2 => ?_; clear hK2 hK'; simp; fail "STUCK")
  refine AW.st (by simp; rfl) ?_
  clear hK' K'
  refine AW_for (S := Nat) (fun n => n ≤ xs.length ∧ ∀ i (hi : i < xs.length), i < n → p xs[i] = false) (fun n => ⟨lst [(0, .d (.sl k (xs.map fun x => [enc x]))), (1, .d (.fn (.func g) caps)), (7, int xs.length), (8, int n)], hlst []⟩) (fun n => xs.length - n) 0 ?_ (by simp) ?_
  · refine Imp.to' (fun _ => trivial) (by simp) (by simp)
  · rintro n ⟨hn, hp⟩
    refine AW_rg (tyOf_good _) (fun _ => trivial) [0, 1, 7, 8, 9] [] fun K' hK' => ?_
    repeat (refine sxf_next fun K2 hK2 => ?_; simp; (repeat (refine ⟨by omega, ?_⟩)); refine hK2 _ ?_; clear hK2 K2)
    first | refine sxf_nil (hK' _ ?_) | (refine sxf_next fun K2 hK2 => ?_; clear hK2 hK'; simp; fail "STUCK")
    refine AW.st (by simp; rfl) ?_
    clear hK' K'
    refine AW_then fun K2 hK2 => ?_
    refine AW_cond' (b := n < xs.length) (by simp [D.le, D.le.go, takeMap]) (fun hc => ?_) (fun hc => ?_)
    · refine AW_skip (hK2 _ ?_)
      refine AW_then fun K3 hK3 => ?_
      refine AW_block ?_
      refine AW_rg (tyOf_good _) (fun _ => trivial) [0, 1, 5, 7, 8] [] fun K' hK' => ?_
      repeat (refine sxf_next fun K2 hK2 => ?_; simp; (repeat (refine ⟨by omega, ?_⟩)); refine hK2 _ ?_; clear hK2 K2)
      first | refine sxf_nil (hK' _ ?_) | (refine sxf_next fun K2 hK2 => ?_; clear hK2 hK'; simp; fail "STUCK")
      refine AW.st (by simp; rfl) ?_
      clear hK' K'
      refine AW_rg (tyOf_good _) (fun _ => trivial) [0, 1, 5, 7, 8, 16] [] fun K' hK' => ?_
      repeat (refine sxf_next fun K2 hK2 => ?_; simp [hc]; (repeat (refine ⟨by omega, ?_⟩)); refine hK2 _ ?_; clear hK2 K2)
      refine sxf_next fun K2 hK2 => ?_
      simp [hc]
      refine callK.data (ha xs[n] (by simp)) (by simp; rfl) (by first | exact D.leGo_refl _ | simp [takeMap, List.map_map, Function.comp_def, D.le, D.le.go, D.le_refl, D.leGo_refl, hc]) ?_
      refine hK2 _ ?_
      clear hK2 K2
      simp only [putd, upd_lst]
      repeat (refine sxf_next fun K2 hK2 => ?_; simp [hc]; (repeat (refine ⟨by omega, ?_⟩)); refine hK2 _ ?_; clear hK2 K2)
      first | refine sxf_nil (hK' _ ?_) | (refine sxf_next fun K2 hK2 => ?_; clear hK2 hK'; simp [hc]; fail "STUCK")
      refine AW.st (by simp [hc]; rfl) ?_
      clear hK' K'
      refine AW_cond _ rfl (fun hp2 => ?_) (fun hp2 => ?_)
      · refine AW_rg (tyOf_good _) (fun _ => trivial) [4] [] fun K' hK' => ?_
        repeat (refine sxf_next fun K2 hK2 => ?_; simp; (repeat (refine ⟨by omega, ?_⟩)); refine hK2 _ ?_; clear hK2 K2)
        first | refine sxf_nil (hK' _ ?_) | (refine sxf_next fun K2 hK2 => ?_; clear hK2 hK'; simp; fail "STUCK")
        refine AW.st (by simp; rfl) ?_
        clear hK' K'
        refine AW_ret ?_
        simp [D.le, D.le.go, takeMap]
        exact (idx_hit hc hp2 fun i hi => hp i (by omega) hi).symm
      · refine AW_skip (hK3 _ ?_)
        refine AW_re (tyOf_good _) (fun _ => trivial) fun K' hK' => ?_
        repeat (refine sxf_next fun K2 hK2 => ?_; simp; (repeat (refine ⟨by omega, ?_⟩)); refine hK2 _ ?_; clear hK2 K2)
        first | refine sxf_nil (hK' _ ?_) | (refine sxf_next fun K2 hK2 => ?_; clear hK2 hK'; simp; fail "STUCK")
        clear hK' K'
        try simp only [thn, inb]
        refine Again.mk (n + 1) ⟨by omega, fun i hi hin => ?_⟩ (by omega) ?_
        · by_cases h : i = n
          · subst h; exact hp2
          · exact hp i hi (by omega)
        refine Imp.to' (fun _ => trivial) (by simp) (by simp)
    · refine AW_exit (hK1 _ ?_)
      refine AW_rg (tyOf_good _) (fun _ => trivial) [4] [] fun K' hK' => ?_
      repeat (refine sxf_next fun K2 hK2 => ?_; simp; (repeat (refine ⟨by omega, ?_⟩)); refine hK2 _ ?_; clear hK2 K2)
      first | refine sxf_nil (hK' _ ?_) | (refine sxf_next fun K2 hK2 => ?_; clear hK2 hK'; simp; fail "STUCK")
      refine AW.st (by simp; rfl) ?_
      clear hK' K'
      refine AW_ret ?_
      simp [D.le, D.le.go, takeMap]
      exact (idx_miss fun i hi => hp i hi (by omega)).symm

set_option maxHeartbeats 1000000 in
theorem indexInts_spec {α : Type} (G : Glob) (k : Option Bool) (enc : α → D) (xs : List α) (g : FuncId) (caps : List D) (p : α → Bool) (hl : xs.length < 2^63) (ha : Answers G g caps enc p xs) :
    PureC Tryd.prog G 64 [.sl k (xs.map fun x => [enc x]), .fn (.func g) caps] (.v (.int .i64 (idx p xs))) := by
  refine PureC.of_body (tyOf_good _) Tryd.func64 rfl rfl (rs := [.tmp 4]) Tryd.results64 (by simp [Tryd.ntmps64]) fun X => ?_
  simp only [Tryd.ntmps64, List.map]
  refine AW_rg (tyOf_good _) (fun _ => trivial) [0, 1] [] fun K' hK' => ?_
  repeat (refine sxf_next fun K2 hK2 => ?_; simp; (repeat (refine ⟨by omega, ?_⟩)); refine hK2 _ ?_; clear hK2 K2)
  first | refine sxf_nil (hK' _ ?_) | (refine sxf_next fun K2 hK2 => ?_; clear hK2 hK'; simp; fail "STUCK")
  refine AW.st (by simp; rfl) ?_
  clear hK' K'
  refine AW_then fun K1 hK1 => ?_
  refine AW_rg (tyOf_good _) (fun _ => trivial) [0, 1, 7, 8] [] fun K' hK' => ?_
  repeat (refine sxf_next fun K2 hK2 => ?_; simp; (repeat (refine ⟨by omega, ?_⟩)); refine hK2 _ ?_; clear hK2 K2)
  first | refine sxf_nil (hK' _ ?_) | (refine sxf_next fun K2 hK2 => ?_; clear hK2 hK'; simp; fail "STUCK")
  refine AW.st (by simp; rfl) ?_
  clear hK' K'
  refine AW_for (S := Nat) (fun n => n ≤ xs.length ∧ ∀ i (hi : i < xs.length), i < n → p xs[i] = false) (fun n => ⟨lst [(0, .d (.sl k (xs.map fun x => [enc x]))), (1, .d (.fn (.func g) caps)), (7, int xs.length), (8, int n)], hlst []⟩) (fun n => xs.length - n) 0 ?_ (by simp) ?_
  · refine Imp.to' (fun _ => trivial) (by simp) (by simp)
  · rintro n ⟨hn, hp⟩
    refine AW_rg (tyOf_good _) (fun _ => trivial) [0, 1, 7, 8, 9] [] fun K' hK' => ?_
    repeat (refine sxf_next fun K2 hK2 => ?_; simp; (repeat (refine ⟨by omega, ?_⟩)); refine hK2 _ ?_; clear hK2 K2)
    first | refine sxf_nil (hK' _ ?_) | (refine sxf_next fun K2 hK2 => ?_; clear hK2 hK'; simp; fail "STUCK")
    refine AW.st (by simp; rfl) ?_
    clear hK' K'
    refine AW_then fun K2 hK2 => ?_
    refine AW_cond' (b := n < xs.length) (by simp [D.le, D.le.go, takeMap]) (fun hc => ?_) (fun hc => ?_)
    · refine AW_skip (hK2 _ ?_)
      refine AW_then fun K3 hK3 => ?_
      refine AW_block ?_
      refine AW_rg (tyOf_good _) (fun _ => trivial) [0, 1, 5, 7, 8] [] fun K' hK' => ?_
      repeat (refine sxf_next fun K2 hK2 => ?_; simp; (repeat (refine ⟨by omega, ?_⟩)); refine hK2 _ ?_; clear hK2 K2)
      first | refine sxf_nil (hK' _ ?_) | (refine sxf_next fun K2 hK2 => ?_; clear hK2 hK'; simp; fail "STUCK")
      refine AW.st (by simp; rfl) ?_
      clear hK' K'
      refine AW_rg (tyOf_good _) (fun _ => trivial) [0, 1, 5, 7, 8, 16] [] fun K' hK' => ?_
      repeat (refine sxf_next fun K2 hK2 => ?_; simp [hc]; (repeat (refine ⟨by omega, ?_⟩)); refine hK2 _ ?_; clear hK2 K2)
      refine sxf_next fun K2 hK2 => ?_
      simp [hc]
      refine callK.data (ha xs[n] (by simp)) (by simp; rfl) (by first | exact D.leGo_refl _ | simp [takeMap, List.map_map, Function.comp_def, D.le, D.le.go, D.le_refl, D.leGo_refl, hc]) ?_
      refine hK2 _ ?_
      clear hK2 K2
      simp only [putd, upd_lst]
      repeat (refine sxf_next fun K2 hK2 => ?_; simp [hc]; (repeat (refine ⟨by omega, ?_⟩)); refine hK2 _ ?_; clear hK2 K2)
      first | refine sxf_nil (hK' _ ?_) | (refine sxf_next fun K2 hK2 => ?_; clear hK2 hK'; simp [hc]; fail "STUCK")
      refine AW.st (by simp [hc]; rfl) ?_
      clear hK' K'
      refine AW_cond _ rfl (fun hp2 => ?_) (fun hp2 => ?_)
      · refine AW_rg (tyOf_good _) (fun _ => trivial) [4] [] fun K' hK' => ?_
        repeat (refine sxf_next fun K2 hK2 => ?_; simp; (repeat (refine ⟨by omega, ?_⟩)); refine hK2 _ ?_; clear hK2 K2)
        first | refine sxf_nil (hK' _ ?_) | (refine sxf_next fun K2 hK2 => ?_; clear hK2 hK'; simp; fail "STUCK")
        refine AW.st (by simp; rfl) ?_
        clear hK' K'
        refine AW_ret ?_
        simp [D.le, D.le.go, takeMap]
        exact (idx_hit hc hp2 fun i hi => hp i (by omega) hi).symm
      · refine AW_skip (hK3 _ ?_)
        refine AW_re (tyOf_good _) (fun _ => trivial) fun K' hK' => ?_
        repeat (refine sxf_next fun K2 hK2 => ?_; simp; (repeat (refine ⟨by omega, ?_⟩)); refine hK2 _ ?_; clear hK2 K2)
        first | refine sxf_nil (hK' _ ?_) | (refine sxf_next fun K2 hK2 => ?_; clear hK2 hK'; simp; fail "STUCK")
        clear hK' K'
        try simp only [thn, inb]
        refine Again.mk (n + 1) ⟨by omega, fun i hi hin => ?_⟩ (by omega) ?_
        · by_cases h : i = n
          · subst h; exact hp2
          · exact hp i hi (by omega)
        refine Imp.to' (fun _ => trivial) (by simp) (by simp)
    · refine AW_exit (hK1 _ ?_)
      refine AW_rg (tyOf_good _) (fun _ => trivial) [4] [] fun K' hK' => ?_
      repeat (refine sxf_next fun K2 hK2 => ?_; simp; (repeat (refine ⟨by omega, ?_⟩)); refine hK2 _ ?_; clear hK2 K2)
      first | refine sxf_nil (hK' _ ?_) | (refine sxf_next fun K2 hK2 => ?_; clear hK2 hK'; simp; fail "STUCK")
      refine AW.st (by simp; rfl) ?_
      clear hK' K'
      refine AW_ret ?_
      simp [D.le, D.le.go, takeMap]
      exact (idx_miss fun i hi => hp i hi (by omega)).symm

theorem idx_any {α : Type} (p : α → Bool) (l : List α) : decide (0 ≤ idx p l) = l.any p := by
  unfold idx
  split
  · rename_i i hi
    rw [List.findIdx?_eq_some_iff_getElem] at hi
    obtain ⟨h1, h2, _⟩ := hi
    have : l.any p = true := List.any_eq_true.2 ⟨_, List.getElem_mem h1, h2⟩
    rw [this]; simp
  · rename_i h
    rw [List.findIdx?_eq_none_iff] at h
    have : l.any p = false := by
      rw [List.any_eq_false]
      intro x hx
      simpa using h x hx
    rw [this]; simp

set_option maxHeartbeats 1000000 in
theorem containsInt_spec {α : Type} (G : Glob) (k : Option Bool) (enc : α → D) (xs : List α) (g : FuncId) (caps : List D) (p : α → Bool) (hl : xs.length < 2^63) (ha : Answers G g caps enc p xs) :
    PureC Tryd.prog G 61 [.sl k (xs.map fun x => [enc x]), .fn (.func g) caps] (.v (.bool (xs.any p))) := by
  refine PureC.of_body (tyOf_good _) Tryd.func61 rfl rfl (rs := [.tmp 4]) Tryd.results61 (by simp [Tryd.ntmps61]) fun X => ?_
  simp only [Tryd.ntmps61, List.map]
  refine AW_rg (tyOf_good _) (fun _ => trivial) [0, 1] [] fun K' hK' => ?_
  repeat (refine sxf_next fun K2 hK2 => ?_; simp; (repeat (refine ⟨by omega, ?_⟩)); refine hK2 _ ?_; clear hK2 K2)
  first | refine sxf_nil (hK' _ ?_) | (refine sxf_next fun K2 hK2 => ?_; clear hK2 hK'; simp; fail "STUCK")
  refine AW.st (by simp; rfl) ?_
  clear hK' K'
  refine AW_rg (tyOf_good _) (fun _ => trivial) [4] [] fun K' hK' => ?_
  repeat (refine sxf_next fun K2 hK2 => ?_; simp; (repeat (refine ⟨by omega, ?_⟩)); refine hK2 _ ?_; clear hK2 K2)
  refine sxf_next fun K2 hK2 => ?_
  simp
  refine callK.data (indexInt_spec G k enc xs g caps p hl ha) (by simp; rfl) (by first | exact D.leGo_refl _ | simp [takeMap, List.map_map, Function.comp_def, D.le, D.le.go, D.le_refl, D.leGo_refl]) ?_
  refine hK2 _ ?_
  clear hK2 K2
  simp only [putd, upd_lst]
  repeat (refine sxf_next fun K2 hK2 => ?_; simp; (repeat (refine ⟨by omega, ?_⟩)); refine hK2 _ ?_; clear hK2 K2)
  first | refine sxf_nil (hK' _ ?_) | (refine sxf_next fun K2 hK2 => ?_; clear hK2 hK'; simp; fail "STUCK")
  refine AW.st (by simp; rfl) ?_
  clear hK' K'
  refine AW_ret ?_
  simp [D.le, D.le.go, takeMap]
  exact idx_any p xs
#print axioms indexInt_spec
#print axioms indexInts_spec
#print axioms containsInt_spec
end Go.Proofs.YtoikggboakojlaaDoor

/-
  The closures; slices that are copied; lists that are numbered as they come.
-/
namespace Go.Proofs.YtoikggboakojlaaDoor
open Go.Av
set_option linter.unusedSimpArgs false
set_option linter.unusedVariables false

def dNum (n : Int) : D := .v (.int .i64 n)
def dRow (r : List Int) : D := dInts none r
def dRows (l : List (List Int)) : D := .sl none (l.map fun r => [dRow r])

theorem check1_spec (G : Glob) (x n : Int) : PureC Tryd.prog G 62 [dNum x, .ip [dNum n]] (.v (.bool (x < 0 || n ≤ x))) := by
  refine PureC.of_body (tyOf_good _) Tryd.func62 rfl rfl (rs := [.tmp 3]) Tryd.results62 (by simp [Tryd.ntmps62]) fun X => ?_
  simp only [Tryd.ntmps62, List.map]
  refine AW_rg (tyOf_good _) (fun _ => trivial) [0, 1] [] fun K' hK' => ?_
  repeat (refine sxf_next fun K2 hK2 => ?_; simp [dNum]; (repeat (refine ⟨by omega, ?_⟩)); refine hK2 _ ?_; clear hK2 K2)
  first | refine sxf_nil (hK' _ ?_) | (refine sxf_next fun K2 hK2 => ?_; clear hK2 hK'; simp [dNum]; fail "STUCK")
  refine AW.st (by simp [dNum]; rfl) ?_
  clear hK' K'
  by_cases h : x < 0
  · refine AW_rg (tyOf_good _) (fun _ => trivial) [3] [] fun K' hK' => ?_
    repeat (refine sxf_next fun K2 hK2 => ?_; simp [dNum, h]; (repeat (refine ⟨by omega, ?_⟩)); refine hK2 _ ?_; clear hK2 K2)
    first | refine sxf_nil (hK' _ ?_) | (refine sxf_next fun K2 hK2 => ?_; clear hK2 hK'; simp [dNum, h]; fail "STUCK")
    refine AW.st (by simp [dNum, h]; rfl) ?_
    clear hK' K'
    refine AW_ret ?_
    simp [D.le, D.le.go, takeMap]
    simp [h]
  · refine AW_rg (tyOf_good _) (fun _ => trivial) [3] [] fun K' hK' => ?_
    repeat (refine sxf_next fun K2 hK2 => ?_; simp [dNum, h]; (repeat (refine ⟨by omega, ?_⟩)); refine hK2 _ ?_; clear hK2 K2)
    first | refine sxf_nil (hK' _ ?_) | (refine sxf_next fun K2 hK2 => ?_; clear hK2 hK'; simp [dNum, h]; fail "STUCK")
    refine AW.st (by simp [dNum, h]; rfl) ?_
    clear hK' K'
    refine AW_ret ?_
    simp [D.le, D.le.go, takeMap]
    simp [h]

theorem number1_spec (G : Glob) (l l' : List Int) (h : l.length < 2^63) : PureC Tryd.prog G 112 [dRow l, .ip [dRow l']] (.v (.bool (l == l'))) := by
  refine PureC.of_body (tyOf_good _) Tryd.func112 rfl rfl (rs := [.tmp 3]) Tryd.results112 (by simp [Tryd.ntmps112]) fun X => ?_
  simp only [Tryd.ntmps112, List.map]
  refine AW_rg (tyOf_good _) (fun _ => trivial) [0, 1] [] fun K' hK' => ?_
  repeat (refine sxf_next fun K2 hK2 => ?_; simp; (repeat (refine ⟨by omega, ?_⟩)); refine hK2 _ ?_; clear hK2 K2)
  first | refine sxf_nil (hK' _ ?_) | (refine sxf_next fun K2 hK2 => ?_; clear hK2 hK'; simp; fail "STUCK")
  refine AW.st (by simp; rfl) ?_
  clear hK' K'
  refine AW_rg (tyOf_good _) (fun _ => trivial) [3] [] fun K' hK' => ?_
  repeat (refine sxf_next fun K2 hK2 => ?_; simp; (repeat (refine ⟨by omega, ?_⟩)); refine hK2 _ ?_; clear hK2 K2)
  refine sxf_next fun K2 hK2 => ?_
  simp
  refine callK.data (equal_spec G none none l l' h) (by simp; rfl) (by first | exact D.leGo_refl _ | simp [takeMap, List.map_map, Function.comp_def, D.le, D.le.go, D.le_refl, D.leGo_refl]) ?_
  refine hK2 _ ?_
  clear hK2 K2
  simp only [putd, upd_lst]
  repeat (refine sxf_next fun K2 hK2 => ?_; simp; (repeat (refine ⟨by omega, ?_⟩)); refine hK2 _ ?_; clear hK2 K2)
  first | refine sxf_nil (hK' _ ?_) | (refine sxf_next fun K2 hK2 => ?_; clear hK2 hK'; simp; fail "STUCK")
  refine AW.st (by simp; rfl) ?_
  clear hK' K'
  refine AW_ret ?_
  simp [D.le, D.le.go, takeMap]

theorem part1_spec (G : Glob) (l : List Int) (a b : Nat) (ha : a < l.length) (hb : b < l.length) : PureC Tryd.prog G 65 [dRow l, .ip [dNum a], .ip [dNum b]] (.v (.bool (l[a] != l[b]))) := by
  refine PureC.of_body (tyOf_good _) Tryd.func65 rfl rfl (rs := [.tmp 4]) Tryd.results65 (by simp [Tryd.ntmps65]) fun X => ?_
  simp only [Tryd.ntmps65, List.map]
  refine AW_rg (tyOf_good _) (fun _ => trivial) [0, 1, 2] [] fun K' hK' => ?_
  repeat (refine sxf_next fun K2 hK2 => ?_; simp; (repeat (refine ⟨by omega, ?_⟩)); refine hK2 _ ?_; clear hK2 K2)
  first | refine sxf_nil (hK' _ ?_) | (refine sxf_next fun K2 hK2 => ?_; clear hK2 hK'; simp; fail "STUCK")
  refine AW.st (by simp; rfl) ?_
  clear hK' K'
  refine AW_rd (tyOf_good _) (fun _ => trivial) (by kernel_rfl) [4] [] (by kernel_rfl) fun K' hK' => ?_
  repeat (refine sxd_next fun K2 hK2 => ?_; simp [dNum, dRow, dInts, ha, hb]; (repeat (refine ⟨by omega, ?_⟩)); refine hK2 _ ?_; clear hK2 K2)
  first | refine sxd_nil (hK' _ ?_) | (refine sxd_next fun K2 hK2 => ?_; clear hK2 hK'; simp [dNum, dRow, dInts, ha, hb]; fail "STUCK")
  refine AW.st (by simp [dNum, dRow, dInts, ha, hb]; rfl) ?_
  clear hK' K'
  refine AW_ret ?_
  simp [D.le, D.le.go, takeMap]

theorem clone_spec (G : Glob) (l : List Int) (h : l.length < 2^40) : PureC Tryd.prog G 59 [dRow l] (dRow l) := by
  refine PureC.of_body (tyOf_good _) Tryd.func59 rfl rfl (rs := [.tmp 2]) Tryd.results59 (by simp [Tryd.ntmps59]) fun X => ?_
  simp only [Tryd.ntmps59, List.map]
  refine AW.nilCase 0 rfl ?_ fun hl => ?_
  · refine AW_rg (tyOf_good _) (fun _ => trivial) [0] [] fun K' hK' => ?_
    repeat (refine sxf_next fun K2 hK2 => ?_; simp; (repeat (refine ⟨by omega, ?_⟩)); refine hK2 _ ?_; clear hK2 K2)
    first | refine sxf_nil (hK' _ ?_) | (refine sxf_next fun K2 hK2 => ?_; clear hK2 hK'; simp; fail "STUCK")
    refine AW.st (by simp; rfl) ?_
    clear hK' K'
    refine AW_then fun K1 hK1 => ?_
    refine AW_rg (tyOf_good _) (fun _ => trivial) [0, 4] [] fun K' hK' => ?_
    repeat (refine sxf_next fun K2 hK2 => ?_; simp [dRow, dInts]; (repeat (refine ⟨by omega, ?_⟩)); refine hK2 _ ?_; clear hK2 K2)
    first | refine sxf_nil (hK' _ ?_) | (refine sxf_next fun K2 hK2 => ?_; clear hK2 hK'; simp [dRow, dInts]; fail "STUCK")
    refine AW.st (by simp [dRow, dInts]; rfl) ?_
    clear hK' K'
    refine AW_cond false rfl (fun hc => ?_) (fun hc => ?_)
    · cases hc
    refine AW_skip (hK1 _ ?_)
    refine AW_rg (tyOf_good _) (fun _ => trivial) [2] [5, 7] fun K' hK' => ?_
    repeat (refine sxf_next fun K2 hK2 => ?_; simp [dRow, dInts]; (repeat (refine ⟨by omega, ?_⟩)); refine hK2 _ ?_; clear hK2 K2)
    first | refine sxf_nil (hK' _ ?_) | (refine sxf_next fun K2 hK2 => ?_; clear hK2 hK'; simp [dRow, dInts]; fail "STUCK")
    refine AW.st (by simp [dRow, dInts]; rfl) ?_
    clear hK' K'
    refine AW_ret ?_
    simp [D.le, D.le.go, takeMap, dRow, dInts]
  · refine AW_rg (tyOf_good _) (fun _ => trivial) [0] [] fun K' hK' => ?_
    repeat (refine sxf_next fun K2 hK2 => ?_; simp; (repeat (refine ⟨by omega, ?_⟩)); refine hK2 _ ?_; clear hK2 K2)
    first | refine sxf_nil (hK' _ ?_) | (refine sxf_next fun K2 hK2 => ?_; clear hK2 hK'; simp; fail "STUCK")
    refine AW.st (by simp; rfl) ?_
    clear hK' K'
    refine AW_then fun K1 hK1 => ?_
    refine AW_rg (tyOf_good _) (fun _ => trivial) [0, 4] [] fun K' hK' => ?_
    repeat (refine sxf_next fun K2 hK2 => ?_; simp [dRow, dInts]; (repeat (refine ⟨by omega, ?_⟩)); refine hK2 _ ?_; clear hK2 K2)
    first | refine sxf_nil (hK' _ ?_) | (refine sxf_next fun K2 hK2 => ?_; clear hK2 hK'; simp [dRow, dInts]; fail "STUCK")
    refine AW.st (by simp [dRow, dInts]; rfl) ?_
    clear hK' K'
    refine AW_cond true rfl (fun hc => ?_) (fun hc => ?_)
    · refine AW_rg (tyOf_good _) (fun _ => trivial) [2] [] fun K' hK' => ?_
      repeat (refine sxf_next fun K2 hK2 => ?_; simp; (repeat (refine ⟨by omega, ?_⟩)); refine hK2 _ ?_; clear hK2 K2)
      first | refine sxf_nil (hK' _ ?_) | (refine sxf_next fun K2 hK2 => ?_; clear hK2 hK'; simp; fail "STUCK")
      refine AW.st (by simp; rfl) ?_
      clear hK' K'
      refine AW_ret ?_
      simp [D.le, D.le.go, takeMap, dRow, dInts]
      simpa using hl
    · cases hc
#print axioms check1_spec
#print axioms number1_spec
#print axioms part1_spec
#print axioms clone_spec
end Go.Proofs.YtoikggboakojlaaDoor
