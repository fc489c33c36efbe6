/-
  The rule for regions that draw their order; the table of types.
-/
import Derived.Test.YtoikggboakojlaaDoorAv11
namespace Go.Av

section
variable {P : Program} {T : Ty} {Mv X : Nat → Prop} {G : Glob} {N : Nat} {ops : Array Oper}

/-- One operation, its guard considered. -/
def Sx (P : Program) (T : Ty) (Mv : Nat → Prop) (G : Glob) (N : Nat) (ops : Array Oper) (o : Oper) (e : Env) (H : Heap) (x : AV) (H' : Heap) : Prop :=
  okDst N o ∧ ((wantedS ops e o = some true ∧ Ex P T Mv G o e H x H') ∨ (wantedS ops e o = some false ∧ x = und ∧ H' = H))

theorem looks_of_op {o : Oper} {t : Tmp} (h : Operand.tmp t ∈ o.op.operands) : t ∈ o.looksAt ops :=
  List.mem_append_left _ (List.mem_filterMap.2 ⟨.tmp t, by simpa using h, rfl⟩)

theorem wantedS_congr {o : Oper} {e e' : Env} (h : ∀ t ∈ o.looksAt ops, e t = e' t) : wantedS ops e o = wantedS ops e' o := by
  unfold wantedS
  split
  · rfl
  · rename_i j want hg
    unfold gval
    split
    · rename_i d hd
      rw [h d (List.mem_append_right _ (by simp [hg, hd]))]
    · rfl

theorem agree_put {x y : Oper} (h : x.apart ops y = true) {e : Env} {v : AV} : (∀ t ∈ y.looksAt ops, putd e x.dst v t = e t) ∧ (∀ t ∈ x.looksAt ops, putd e y.dst v t = e t) ∧ (∀ d, x.dst = some d → y.dst ≠ some d) := by
  obtain ⟨h1, h2, h3⟩ := Oper.apart_spec h
  exact ⟨fun t ht => putd_get fun e => h1 t e ht, fun t ht => putd_get fun e => h3 t e ht, h2⟩

theorem kinds (o : Op) : kindOf o = 0 ∨ kindOf o = 1 ∨ kindOf o = 2 ∨ kindOf o = 3 ∨ kindOf o = 8 ∨ kindOf o = 9 := by unfold kindOf; split <;> simp

theorem commute {q p : Oper} (hc : compat ops q p = true) {e : Env} {H H1 H2 : Heap} {x y : AV} (hq : Sx P T Mv G N ops q e H x H1) (hp : Sx P T Mv G N ops p (putd e q.dst x) H1 y H2) (hk9 : kindOf q.op ≠ 9) (hk9' : kindOf p.op ≠ 9) :
    ∃ H3, Sx P T Mv G N ops p e H y H3 ∧ Sx P T Mv G N ops q (putd e p.dst y) H3 x H2 := by
  simp only [compat, Bool.and_eq_true] at hc
  obtain ⟨hap, hpass⟩ := hc
  obtain ⟨a1, _, hne⟩ := agree_put hap (e := e) (v := x)
  obtain ⟨_, a2, _⟩ := agree_put hap (e := e) (v := y)
  have wp := wantedS_congr (o := p) (e := putd e q.dst x) (e' := e) a1
  have wq := wantedS_congr (o := q) (e := putd e p.dst y) (e' := e) a2
  have agp : Agree p.op (putd e q.dst x) e := fun t ht => a1 t (looks_of_op ht)
  have agq : Agree q.op e (putd e p.dst y) := fun t ht => (a2 t (looks_of_op ht)).symm
  obtain ⟨dq, hq⟩ := hq
  obtain ⟨dp, hp⟩ := hp
  rw [wp] at hp
  rcases hq with ⟨wq1, eq⟩ | ⟨wq1, rfl, rfl⟩
  · rcases hp with ⟨wp1, ep⟩ | ⟨wp1, rfl, rfl⟩
    · have ep' := ep.congr hk9' agp
      have eq' := eq.congr hk9 agq
      have fin : ∀ H3, Ex P T Mv G p e H y H3 → Ex P T Mv G q (putd e p.dst y) H3 x H2 → ∃ H3, Sx P T Mv G N ops p e H y H3 ∧ Sx P T Mv G N ops q (putd e p.dst y) H3 x H2 := fun H3 h1 h2 =>
        ⟨H3, ⟨dp, .inl ⟨wp1, h1⟩⟩, ⟨dq, .inl ⟨by rw [wq]; exact wq1, h2⟩⟩⟩
      by_cases kp0 : kindOf p.op = 0
      · obtain rfl := ep'.keeps (by omega)
        exact fin H (ep'.free kp0 H) eq'
      · by_cases kq0 : kindOf q.op = 0
        · obtain rfl := eq.keeps (by omega)
          exact fin H2 ep' (eq'.free kq0 H2)
        · by_cases kk : kindOf q.op ≤ 2 ∧ kindOf p.op ≤ 2
          · obtain rfl := eq.keeps kk.1
            obtain rfl := ep'.keeps kk.2
            exact fin _ ep' eq'
          · by_cases k3 : kindOf q.op = 3 ∧ kindOf p.op = 3
            · obtain ⟨d, row, hd, hn, rfl, hall⟩ := eq'.makes k3.1
              obtain ⟨d', row', hd', hn', rfl, hall'⟩ := ep'.makes k3.2
              have hdd : d ≠ d' := fun e => hne d hd (by rw [hd', e])
              have hn2 : H d' = none := by simpa [hup, Ne.symm hdd] using hn'
              have : hup (hup H d row) d' row' = hup (hup H d' row') d row := by
                funext i
                by_cases h1 : i = d <;> by_cases h2 : i = d' <;> simp [hup, h1, h2, hdd, Ne.symm hdd]
              exact fin _ (hall' H hn2) (by rw [this]; exact hall _ (by simpa [hup, hdd] using hn))
            · by_cases k13 : kindOf q.op = 1 ∧ kindOf p.op = 3
              · obtain rfl := eq.keeps (by omega)
                obtain ⟨d, row, hd, hn, rfl, hall⟩ := ep'.makes k13.2
                exact fin _ ep' (eq'.grow k13.1 hn row)
              exfalso
              revert hpass
              have c1 : kindOf q.op = 1 ∨ kindOf q.op = 2 ∨ kindOf q.op = 3 ∨ kindOf q.op = 8 := by have := kinds q.op; omega
              have c2 : kindOf p.op = 1 ∨ kindOf p.op = 2 ∨ kindOf p.op = 3 ∨ kindOf p.op = 8 := by have := kinds p.op; omega
              rcases c1 with c1 | c1 | c1 | c1 <;> rcases c2 with c2 | c2 | c2 | c2 <;> rw [c1, c2] <;> first | (simp [mayPass]; done) | (exfalso; apply kk; omega) | (exfalso; exact k3 ⟨c1, c2⟩) | (exfalso; exact k13 ⟨c1, c2⟩)
    · exact ⟨H, ⟨dp, .inr ⟨wp1, rfl, rfl⟩⟩, ⟨dq, .inl ⟨by rw [wq]; exact wq1, eq.congr hk9 agq⟩⟩⟩
  · rcases hp with ⟨wp1, ep⟩ | ⟨wp1, rfl, rfl⟩
    · exact ⟨H2, ⟨dp, .inl ⟨wp1, ep.congr hk9' agp⟩⟩, ⟨dq, .inr ⟨by rw [wq]; exact wq1, rfl, rfl⟩⟩⟩
    · exact ⟨_, ⟨dp, .inr ⟨wp1, rfl, rfl⟩⟩, ⟨dq, .inr ⟨by rw [wq]; exact wq1, rfl, rfl⟩⟩⟩

/-- The run over places, in some order. -/
def run (P : Program) (T : Ty) (Mv : Nat → Prop) (G : Glob) (N : Nat) (ops : Array Oper) : List Nat → St → St → Prop
  | [], σ, σ' => σ = σ'
  | i :: l, σ, σ' => ∃ o, ops[i]? = some o ∧ ∃ σ1, stepTo P T Mv G N ops o σ σ1 ∧ run P T Mv G N ops l σ1 σ'

theorem stepTo_Sx {o : Oper} (hk : kindOf o.op ≠ 9) {σ σ' : St} : stepTo P T Mv G N ops o σ σ' ↔ ∃ x H', Sx P T Mv G N ops o σ.env σ.H x H' ∧ σ' = ⟨putd σ.env o.dst x, H'⟩ := by
  constructor
  · rintro ⟨hd, ⟨hw, h⟩ | ⟨hw, rfl⟩⟩
    · obtain ⟨x, H', h1, h2⟩ := Ex.of hk h
      exact ⟨x, H', ⟨hd, .inl ⟨hw, h1⟩⟩, h2⟩
    · exact ⟨und, σ.H, ⟨hd, .inr ⟨hw, rfl, rfl⟩⟩, rfl⟩
  · rintro ⟨x, H', ⟨hd, ⟨hw, h⟩ | ⟨hw, rfl, rfl⟩⟩, rfl⟩
    · exact ⟨hd, .inl ⟨hw, h.to⟩⟩
    · exact ⟨hd, .inr ⟨hw, rfl⟩⟩

theorem run_swap {i j : Nat} {l : List Nat} {σ σ' : St} {oi oj : Oper} (hi : ops[i]? = some oi) (hj : ops[j]? = some oj) (hc : compat ops oi oj = true) (h : run P T Mv G N ops (i :: j :: l) σ σ') : run P T Mv G N ops (j :: i :: l) σ σ' := by
  obtain ⟨o1, h1, σ1, s1, o2, h2, σ2, s2, rest⟩ := h
  rw [hi] at h1
  rw [hj] at h2
  obtain rfl := Option.some.inj h1
  obtain rfl := Option.some.inj h2
  have hk : kindOf oi.op ≠ 9 := by
    intro e
    simp only [compat, Bool.and_eq_true, e] at hc
    have := hc.2
    revert this
    have b2 : kindOf oj.op = 0 ∨ kindOf oj.op = 1 ∨ kindOf oj.op = 2 ∨ kindOf oj.op = 3 ∨ kindOf oj.op = 8 ∨ kindOf oj.op = 9 := by unfold kindOf; split <;> simp
    rcases b2 with b | b | b | b | b | b <;> rw [b] <;> simp [mayPass]
  have hk' : kindOf oj.op ≠ 9 := by
    intro e
    simp only [compat, Bool.and_eq_true, e] at hc
    have := hc.2
    revert this
    have b2 : kindOf oi.op = 0 ∨ kindOf oi.op = 1 ∨ kindOf oi.op = 2 ∨ kindOf oi.op = 3 ∨ kindOf oi.op = 8 ∨ kindOf oi.op = 9 := by unfold kindOf; split <;> simp
    rcases b2 with b | b | b | b | b | b <;> rw [b] <;> simp [mayPass]
  obtain ⟨x, H1, e1, rfl⟩ := (stepTo_Sx hk).1 s1
  obtain ⟨y, H2, e2, rfl⟩ := (stepTo_Sx hk').1 s2
  obtain ⟨H3, f1, f2⟩ := commute hc e1 e2 hk hk'
  refine ⟨oj, hj, _, (stepTo_Sx hk').2 ⟨y, H3, f1, rfl⟩, oi, hi, _, (stepTo_Sx hk).2 ⟨x, H2, f2, rfl⟩, ?_⟩
  have hcomm : putd (putd σ.env oi.dst x) oj.dst y = putd (putd σ.env oj.dst y) oi.dst x := by
    simp only [compat, Bool.and_eq_true] at hc
    exact putd_comm (agree_put hc.1 (e := σ.env) (v := x)).2.2
  dsimp only at rest ⊢
  rw [hcomm] at rest
  exact rest

theorem run_front {p : Nat} {op : Oper} (hp : ops[p]? = some op) : ∀ (l1 : List Nat) {l2 : List Nat} {σ σ' : St}, (∀ q ∈ l1, ∀ oq, ops[q]? = some oq → compat ops oq op = true) → run P T Mv G N ops (l1 ++ p :: l2) σ σ' → run P T Mv G N ops (p :: (l1 ++ l2)) σ σ' := by
  intro l1
  induction l1 with
  | nil => intro l2 σ σ' _ h; exact h
  | cons q l1 ih =>
    intro l2 σ σ' hall h
    obtain ⟨oq, hq, σ1, s1, rest⟩ := h
    have := ih (fun q' hq' => hall q' (by simp [hq'])) rest
    have h2 : run P T Mv G N ops (q :: p :: (l1 ++ l2)) σ σ' := ⟨oq, hq, σ1, s1, this⟩
    exact run_swap hq hp (hall q (by simp) oq hq) h2

/-! ### What stands behind what -/

theorem tbGo_len : ∀ (l : List Oper) (acc : List Nat), (tbGo l acc).length = acc.length + l.length
  | [], acc => by simp [tbGo]
  | o :: l, acc => by simp [tbGo, tbGo_len l]; omega
theorem tbGo_pre : ∀ (l : List Oper) (acc : List Nat) (k : Nat), k < acc.length → (tbGo l acc).getD k 0 = acc.getD k 0
  | [], _, _, _ => rfl
  | o :: l, acc, k, hk => by
    rw [tbGo, tbGo_pre l _ k (by simp; omega)]
    simp [List.getD_eq_getElem?_getD, List.getElem?_append_left hk]

theorem bits_mem {acc : List Nat} {o : Oper} {q : Nat} (h : (bitsOf acc o).testBit q = true) : ∃ e ∈ o.after, Region.binds .any e = true ∧ (q = e.on ∨ (acc.getD e.on 0).testBit q = true) := by
  unfold bitsOf at h
  have key : ∀ (l : List Edge), (l.foldr (fun e s => if Region.binds .any e then (2 ^ e.on ||| acc.getD e.on 0) ||| s else s) 0).testBit q = true → ∃ e ∈ l, Region.binds .any e = true ∧ (q = e.on ∨ (acc.getD e.on 0).testBit q = true) := by
    intro l
    induction l with
    | nil => intro h; simp at h
    | cons e l ih =>
      intro h
      rw [List.foldr_cons] at h
      split at h
      · rename_i hb
        rw [Nat.testBit_or, Nat.testBit_or, Bool.or_eq_true, Bool.or_eq_true] at h
        rcases h with (h | h) | h
        · rw [Nat.testBit_two_pow] at h
          have h' : e.on = q := by simpa using h
          exact ⟨e, by simp, hb, .inl h'.symm⟩
        · exact ⟨e, by simp, hb, .inr h⟩
        · obtain ⟨e', he', r⟩ := ih h
          exact ⟨e', by simp [he'], r⟩
      · obtain ⟨e', he', r⟩ := ih h
        exact ⟨e', by simp [he'], r⟩
  obtain ⟨e, he, r⟩ := key _ h
  exact ⟨e, by simpa using he, r⟩

theorem tb_bits : ∀ (l : List Oper) (acc : List Nat) (j : Nat) (o : Oper) (q : Nat), l[j]? = some o → ((tbGo l acc).getD (acc.length + j) 0).testBit q = true → ∃ e ∈ o.after, Region.binds .any e = true ∧ (q = e.on ∨ (e.on < acc.length + j ∧ ((tbGo l acc).getD e.on 0).testBit q = true))
  | [], _, _, _, _, h, _ => by simp at h
  | o' :: l, acc, 0, o, q, h, hb => by
    simp at h
    subst h
    rw [tbGo, tbGo_pre l _ _ (by simp)] at hb
    simp [List.getD_eq_getElem?_getD] at hb
    obtain ⟨e, he, hbd, r⟩ := bits_mem hb
    refine ⟨e, he, hbd, r.imp id fun r => ?_⟩
    have hlt : e.on < acc.length := by
      rcases Nat.lt_or_ge e.on acc.length with h | h
      · exact h
      · simp [List.getD_eq_getElem?_getD, List.getElem?_eq_none h] at r
    refine ⟨by omega, ?_⟩
    rw [tbGo, tbGo_pre l _ _ (by simp; omega)]
    simpa [List.getD_eq_getElem?_getD, List.getElem?_append_left hlt] using r
  | o' :: l, acc, j + 1, o, q, h, hb => by
    have := tb_bits l (acc ++ [bitsOf acc o']) j o q (by simpa using h) (by rw [tbGo] at hb; simpa [Nat.add_assoc, Nat.add_comm 1 j] using hb)
    obtain ⟨e, he, hbd, r⟩ := this
    refine ⟨e, he, hbd, r.imp id fun r => ?_⟩
    rw [tbGo]
    exact ⟨by have := r.1; simp at this; omega, r.2⟩

theorem okDraw_spec (h : okDraw ops = true) {j : Nat} {oj : Oper} (hj : ops[j]? = some oj) : (∀ e ∈ oj.after, Region.binds .any e = true → e.on < j) ∧
    ∀ i oi, i < j → ops[i]? = some oi → ((tb ops).getD j 0).testBit i = true ∨ (compat ops oi oj = true ∧ compat ops oj oi = true) := by
  unfold okDraw at h
  have h1 := List.all_eq_true.1 h j (List.mem_range.2 (Array.getElem?_eq_some_iff.1 hj).1)
  simp only [hj, Bool.and_eq_true] at h1
  refine ⟨fun e he hb => ?_, fun i oi hi hoi => ?_⟩
  · have := Array.all_eq_true_iff_forall_mem.1 h1.1 e he
    simpa [hb] using this
  · have := List.all_eq_true.1 h1.2 i (List.mem_range.2 hi)
    simpa [hoi] using this

/-- Whoever may come up now stands behind nothing that is not listed. -/
theorem behind_listed (hok : okDraw ops = true) {listed : Array Bool} (hdown : ∀ j oj, ops[j]? = some oj → listed.getD j false = true → ∀ e ∈ oj.after, Region.binds .any e = true → listed.getD e.on false = true) :
    ∀ (n j : Nat) (oj : Oper), j ≤ n → ops[j]? = some oj → (∀ e ∈ oj.after, Region.binds .any e = true → listed.getD e.on false = true) → ∀ q, ((tb ops).getD j 0).testBit q = true → listed.getD q false = true := by
  intro n
  induction n with
  | zero =>
    intro j oj hj hoj hall q hq
    have hj0 : j = 0 := by omega
    subst hj0
    obtain ⟨e, he, hb, _⟩ := tb_bits ops.toList [] 0 oj q (by simpa using hoj) (by simpa [tb] using hq)
    have := (okDraw_spec hok hoj).1 e he hb
    omega
  | succ n ih =>
    intro j oj hj hoj hall q hq
    obtain ⟨e, he, hb, r⟩ := tb_bits ops.toList [] j oj q (by simpa using hoj) (by simpa [tb] using hq)
    rcases r with rfl | ⟨_, r⟩
    · exact hall e he hb
    · have hlt := (okDraw_spec hok hoj).1 e he hb
      have hlt2 : e.on < ops.size := by have := (Array.getElem?_eq_some_iff.1 hoj).1; omega
      exact ih e.on ops[e.on] (by omega) (by simp [hlt2]) (fun e' he' hb' => hdown e.on _ (by simp [hlt2]) (hall e he hb) e' he' hb') q (by simpa [tb] using r)

theorem any_ok (hg : Good P T) (hok : okDraw ops = true) {Q : Exit → St → Prop} {w0 : World} {μ0 : Mu} {σn : St} (hQ : Q .normal σn) : ∀ (n : Nat) (R : List Nat) (listed : Array Bool) (w : World) (μ : Mu) (a : Act) (σ : St), R.length = n → R.Nodup →
    (∀ j, j ∈ R ↔ j < ops.size ∧ listed.getD j true = false) → listed.size = ops.size → (R.Pairwise (· < ·)) →
    (∀ j oj, ops[j]? = some oj → listed.getD j false = true → ∀ e ∈ oj.after, Region.binds .any e = true → listed.getD e.on false = true) → run P T Mv G N ops R σ σn → In w X G μ N a σ → Ev Mv w0 μ0 w μ →
    wpAny P .any ops (After Mv X G N w0 μ0 Q) n listed a w := by
  intro n
  induction n with
  | zero =>
    intro R listed w μ a σ hl _ hR hsz _ _ hrun hi hev
    have : R = [] := List.eq_nil_of_length_eq_zero hl
    subst this
    have hr : Region.ready .any ops listed = [] := by
      apply List.eq_nil_iff_forall_not_mem.2
      intro j hj
      obtain ⟨h1, o, ho, _⟩ := mem_ready.1 hj
      exact absurd ((hR j).2 ⟨(Array.getElem?_eq_some_iff.1 ho).1, h1⟩) (by simp)
    have : σ = σn := hrun
    subst this
    exact ⟨hr, μ, σ, hQ, hi, hev⟩
  | succ n ih =>
    intro R listed w μ a σ hl hnd hR hsz hpw hdown hrun hi hev
    refine ⟨fun hr => ?_, fun i hir => ?_⟩
    · -- the first of the rest may come up
      cases R with
      | nil => simp at hl
      | cons j R =>
        obtain ⟨hj1, hj2⟩ := (hR j).1 (by simp)
        have hjr : j ∈ Region.ready .any ops listed := by
          refine mem_ready.2 ⟨hj2, ops[j], by simp [hj1], fun e he hb => ?_⟩
          have hlt := (okDraw_spec hok (j := j) (oj := ops[j]) (by simp [hj1])).1 e he hb
          have hne : e.on ∉ (j :: R) := by
            intro hm
            rcases List.mem_cons.1 hm with h | h
            · omega
            · have := (List.pairwise_cons.1 hpw).1 _ h
              omega
          have := mt (hR e.on).2 hne
          have hlt2 : e.on < ops.size := by omega
          have hls : e.on < listed.size := by omega
          simp only [hlt2, true_and, Array.getD_eq_getD_getElem?] at this ⊢
          simp [hls] at this ⊢
          exact this
        rw [hr] at hjr
        cases hjr
    · obtain ⟨hi1, oi, hoi, hall⟩ := mem_ready.1 hir
      have hiR : i ∈ R := (hR i).2 ⟨(Array.getElem?_eq_some_iff.1 hoi).1, hi1⟩
      obtain ⟨R1, R2, rfl⟩ := List.append_of_mem hiR
      have hfront := run_front (P := P) (T := T) (Mv := Mv) (G := G) (N := N) hoi R1 (fun q hq oq hoq => by
        have hqlt : q < i := by
          have := (List.pairwise_append.1 hpw).2.2 q hq i (by simp)
          exact this
        rcases (okDraw_spec hok hoi).2 q oq hqlt hoq with h | h
        · exfalso
          have hlq := behind_listed hok hdown i i oi (Nat.le_refl _) hoi hall q h
          have hq2 := ((hR q).1 (by simp [hq])).2
          have hqs : q < listed.size := by have := (Array.getElem?_eq_some_iff.1 hoq).1; omega
          simp [Array.getD_eq_getD_getElem?, hqs] at hlq hq2
          rw [hlq] at hq2; cases hq2
        · exact h.1) hrun
      obtain ⟨o', ho', σ1, hstep, hrest⟩ := hfront
      rw [hoi] at ho'
      obtain rfl := Option.some.inj ho'
      refine stepTo_ok hg hstep hi hoi fun w' μ' a' hin hev' => ?_
      have hnd' : (R1 ++ R2).Nodup := by
        have := hnd
        rw [List.nodup_append] at this ⊢
        obtain ⟨g1, g2, g3⟩ := this
        exact ⟨g1, (List.nodup_cons.1 g2).2, fun x hx y hy => g3 x hx y (by simp [hy])⟩
      have hi_not : i ∉ R1 ++ R2 := by
        have := hnd
        rw [List.nodup_append] at this
        obtain ⟨g1, g2, g3⟩ := this
        intro hm
        rcases List.mem_append.1 hm with h | h
        · exact g3 i h i (by simp) rfl
        · exact (List.nodup_cons.1 g2).1 h
      refine ih (R1 ++ R2) _ w' μ' a' σ1 (by simp at hl ⊢; omega) hnd' (fun j => ?_) (by simpa using hsz) ?_ ?_ hrest hin (hev.trans hev')
      · by_cases hji : j = i
        · subst hji
          have hls : j < listed.size := by rw [hsz]; exact (Array.getElem?_eq_some_iff.1 hoi).1
          simp [hls]
          simpa using hi_not
        · rw [getD_set_ne true (Ne.symm hji)]
          rw [← hR j]
          simp [hji]
      · rw [List.pairwise_append] at hpw ⊢
        obtain ⟨g1, g2, g3⟩ := hpw
        exact ⟨g1, (List.pairwise_cons.1 g2).2, fun x hx y hy => g3 x hx y (by simp [hy])⟩
      · intro j oj hoj hlj e he hb
        by_cases hji : j = i
        · subst hji
          rw [hoi] at hoj
          obtain rfl := Option.some.inj hoj
          exact getD_set_true (hall e he hb)
        · rw [getD_set_ne false (Ne.symm hji)] at hlj
          exact getD_set_true (hdown j oj hoj hlj e he hb)

/-- The run in the order of the text, as one computes it. -/
def sxq (P : Program) (T : Ty) (Mv : Nat → Prop) (G : Glob) (N : Nat) (ops : Array Oper) (K : St → Prop) : List Oper → St → Prop
  | [], σ => K σ
  | o :: rest, σ => okDst N o ∧ match wantedS ops σ.env o with
    | some b => if b = true then (match isCall o.op with
        | some c => ∃ y, callTo P G σ c y ∧ sxq P T Mv G N ops K rest ⟨putd σ.env o.dst (.d y), σ.H⟩
        | none => plainS T G Mv o σ (sxq P T Mv G N ops K rest)) else sxq P T Mv G N ops K rest ⟨putd σ.env o.dst und, σ.H⟩
    | none => False

theorem sxq_chain {K : St → Prop} : ∀ (l : List Oper) (k : Nat) (σ : St), (∀ j, l[j]? = ops[k + j]?) → sxq P T Mv G N ops K l σ → ∃ σn, K σn ∧ run P T Mv G N ops (List.range' k l.length) σ σn := by
  intro l
  induction l with
  | nil => intro k σ _ h; exact ⟨σ, h, rfl⟩
  | cons o l ih =>
    intro k σ hl h
    have h0 : ops[k]? = some o := by simpa using (hl 0).symm
    have hl' : ∀ j, l[j]? = ops[k + 1 + j]? := fun j => by have := hl (j + 1); simpa [Nat.add_assoc, Nat.add_comm 1 j] using this
    obtain ⟨hd, h⟩ := h
    rw [List.length_cons, List.range'_succ]
    have fin : ∀ σ1, stepTo P T Mv G N ops o σ σ1 → sxq P T Mv G N ops K l σ1 → ∃ σn, K σn ∧ run P T Mv G N ops (k :: List.range' (k + 1) l.length) σ σn := by
      intro σ1 hs hq
      obtain ⟨σn, hk, hr⟩ := ih (k + 1) σ1 hl' hq
      exact ⟨σn, hk, o, h0, σ1, hs, hr⟩
    split at h
    · rename_i b hb
      split at h
      · rename_i hbt
        subst hbt
        split at h
        · rename_i c hc
          obtain ⟨y, hy, h⟩ := h
          refine fin _ ⟨hd, .inl ⟨hb, ?_⟩⟩ h
          unfold exTo
          simp only [hc]
          exact ⟨y, hy, rfl⟩
        · rename_i hc
          unfold plainS at h
          split at h
          · rename_i hw
            split at h
            · rename_i c x σ1 h1
              refine fin _ ⟨hd, .inl ⟨hb, ?_⟩⟩ h.2
              unfold exTo
              simp only [hc]
              rw [if_pos hw]
              exact ⟨c, x, σ1, h1, h.1, rfl⟩
            · exact h.elim
          · rename_i hw
            split at h
            · rename_i c x h1
              refine fin _ ⟨hd, .inl ⟨hb, ?_⟩⟩ h.2
              unfold exTo
              simp only [hc]
              rw [if_neg hw]
              exact ⟨c, x, h1, h.1, rfl⟩
            · exact h.elim
      · rename_i hbf
        have : b = false := by simpa using hbf
        subst this
        exact fin _ ⟨hd, .inr ⟨hb, rfl⟩⟩ h
    · exact h.elim

/-- A REGION THAT DRAWS ITS ORDER: one run in the order of the text. -/
theorem AW_region_draw (hg : Good P T) (hm : P.follows .mixedOrders = true) {id : Nat} (hok : okDraw ops = true) {Q : Exit → St → Prop} {σ : St} (h : sxq P T Mv G N ops (fun σ' => Q .normal σ') ops.toList σ) : AW P Mv X G N (.region id ops true) Q σ := fun w μ a hi => by
  obtain ⟨σn, hQ, hrun⟩ := sxq_chain ops.toList 0 σ (by simp) h
  refine wp_region_any hm ?_
  obtain ⟨hin, hev⟩ := hi.grew (Mv := Mv) (Grew.drew w)
  refine any_ok hg hok hQ ops.size (List.range' 0 ops.toList.length) _ w.drew μ a σ (by simp) (by simpa using List.nodup_range') (fun j => ?_) (by simp) (by simpa using List.pairwise_lt_range') ?_ hrun hin hev
  · simp [List.mem_range'_1]
    intro h
    simp [Array.getD_eq_getD_getElem?, h]
  · intro j oj hoj hlj
    have hj := (Array.getElem?_eq_some_iff.1 hoj).1
    simp [Array.getD_eq_getD_getElem?, hj] at hlj
end

/-! ### The table of types -/

def tyOf (P : Program) : Ty := fun t => match P.underlying t, P.info? t with
  | some d, some i => i.zero.map fun z => ⟨d, i.size, i.bytes, z⟩
  | _, _ => none

theorem tyOf_good (P : Program) : Good P (tyOf P) := by
  intro t ti h
  unfold tyOf at h
  split at h
  · rename_i d i hd hi
    obtain ⟨z, hz, rfl⟩ := Option.map_eq_some_iff.1 h
    exact ⟨hd, i, hi, rfl, rfl, hz⟩
  · cases h

end Go.Av
