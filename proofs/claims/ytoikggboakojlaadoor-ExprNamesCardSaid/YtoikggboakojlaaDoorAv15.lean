/-
  The forms that proofs use: regions whose states are written out anew, calls that simp leaves alone, bodies that yield data.
-/
import Derived.Test.YtoikggboakojlaaDoorAv14
namespace Go.Av

theorem bneD (a b : Int) : (a != b) = decide (¬ a = b) := by by_cases h : a = b <;> simp [h]
theorem beqD (a b : Int) : (a == b) = decide (a = b) := by by_cases h : a = b <;> simp [h]

theorem takeMap {α β : Type} (f : α → β) (l : List α) : List.take l.length (List.map f l) = List.map f l := List.take_of_length_le (by simp)

/-- The rows that a value is a handle on, as a slice. -/
def AV.rows : AV → List Nat
  | .own r _ _ => [r]
  | .agg cells => go cells
  | _ => []
where
  go : List AV → List Nat
  | [] => []
  | x :: l => x.rows ++ go l

def freezeL : List Nat → St → St
  | [], σ => σ
  | r :: l, σ => freezeL l (σ.freeze r)

/-- What is put into a slice that is written out becomes data. -/
def preF (G : Glob) (o : Oper) (σ : St) : St := match o.op with
  | .buildSlice _ _ parts => match evalP G σ.env parts.toList with
    | some ps => freezeL (AV.rows.go (ps.map (·.2))) σ
    | none => σ
  | _ => σ

/-- A call, and what follows it. -/
def callK (P : Program) (Mv X : Nat → Prop) (G : Glob) (N : Nat) (g : FuncId) (xs : List AV) (σ : St) (dst : Option Tmp) (next : St → Prop) : Prop :=
  callS P Mv X G N g xs σ fun x σ' => next ⟨putd σ'.env dst x, σ'.H⟩
def callQ (P : Program) (G : Glob) (c : Call) (σ : St) (dst : Option Tmp) (next : St → Prop) : Prop := ∃ y, callTo P G σ c y ∧ next ⟨putd σ.env dst (.d y), σ.H⟩

def exK (P : Program) (T : Ty) (Mv X : Nat → Prop) (G : Glob) (N : Nat) (o : Oper) (σ : St) (next : St → Prop) : Prop := match isCall o.op with
  | some c => match tgt G σ.env c with
    | some (g, xs) => callK P Mv X G N g xs σ o.dst next
    | none => False
  | none => plainS T G Mv o (preF G o σ) next

def sxf (P : Program) (T : Ty) (Mv X : Nat → Prop) (G : Glob) (N : Nat) (ops : Array Oper) (K : St → Prop) : List Oper → St → Prop
  | [], σ => K σ
  | o :: rest, σ => okDst N o ∧ match wantedS ops σ.env o with
    | some b => if b = true then exK P T Mv X G N o σ (sxf P T Mv X G N ops K rest) else sxf P T Mv X G N ops K rest ⟨putd σ.env o.dst und, σ.H⟩
    | none => False

def sxd (P : Program) (T : Ty) (Mv : Nat → Prop) (G : Glob) (N : Nat) (ops : Array Oper) (K : St → Prop) : List Oper → St → Prop
  | [], σ => K σ
  | o :: rest, σ => okDst N o ∧ match wantedS ops σ.env o with
    | some b => if b = true then (match isCall o.op with
        | some c => callQ P G c σ o.dst (sxd P T Mv G N ops K rest)
        | none => plainS T G Mv o σ (sxd P T Mv G N ops K rest)) else sxd P T Mv G N ops K rest ⟨putd σ.env o.dst und, σ.H⟩
    | none => False

section
variable {P : Program} {T : Ty} {Mv X : Nat → Prop} {G : Glob} {N : Nat} {w : World} {μ : Mu} {a : Act} {σ : St}

theorem sxd_eq {ops : Array Oper} {K : St → Prop} : ∀ (l : List Oper), sxd P T Mv G N ops K l = sxq P T Mv G N ops K l
  | [] => rfl
  | o :: l => by
    funext σ
    simp only [sxd, sxq, callQ, sxd_eq l]
    rfl

theorem Imp.freezeL (hm : ∀ r, Mv r) : ∀ (l : List Nat) {σ : St}, Imp Mv X G N σ (Go.Av.freezeL l σ)
  | [], σ => .refl σ
  | r :: l, _ => (Imp.freeze r hm).trans (Imp.freezeL hm l)

theorem Imp.preF (hm : ∀ r, Mv r) (o : Oper) : Imp Mv X G N σ (Go.Av.preF G o σ) := by
  unfold Go.Av.preF
  split
  · split
    · exact .freezeL hm _
    · exact .refl σ
  · exact .refl σ

theorem freezeL_env (r : Nat) (t : Nat) (v : Value) (h : σ.env t = some (.d (.v v))) : (σ.freeze r).env t = some (.d (.v v)) := by
  unfold St.freeze
  split
  · simp [trE, h, AV.tr]
  · exact h

/-- One operation, what it freezes first. -/
theorem exK_ok (hg : Good P T) (hM : ∀ r, Mv r) (hi : In w X G μ N a σ) {o : Oper} {K : St → Prop} (hd : ∀ d, o.dst = some d → d < N) (h : exK P T Mv X G N o σ K) {Q : Exit → Act → World → Prop} {next : Act → World → Prop}
    (hk : ∀ w' μ' a' σ', K σ' → In w' X G μ' N a' σ' → Ev Mv w μ w' μ' → next a' w') : o.wp P a w next Q := by
  unfold exK at h
  split at h
  · rename_i c hc
    refine ex1_ok (Mv := Mv) hg hi hd ?_ hk
    unfold ex1
    rw [hc]
    dsimp only
    split at h
    · rename_i ht
      rw [ht]
      exact h
    · exact h.elim
  · rename_i hc
    obtain ⟨μ1, hi1, ev1⟩ := Imp.preF (Mv := Mv) (X := X) hM o w μ a hi
    refine ex1_ok (Mv := Mv) hg hi1 (K := K) hd ?_ fun w' μ' a' σ' k hin hev => hk w' μ' a' σ' k hin (ev1.trans hev)
    unfold ex1
    rw [hc]
    exact h

theorem sxf_ok (hg : Good P T) (hM : ∀ r, Mv r) {ops : Array Oper} {Q : Exit → St → Prop} {w0 : World} {μ0 : Mu} : ∀ (l : List Oper) (k : Nat) (w : World) (μ : Mu) (a : Act) (σ : St), (∀ j, l[j]? = ops[k + j]?) → sxf P T Mv X G N ops (fun σ' => Q .normal σ') l σ → In w X G μ N a σ → Ev Mv w0 μ0 w μ →
    wpOps P ops (After Mv X G N w0 μ0 Q) (List.range' k l.length) a w := by
  intro l
  induction l with
  | nil => intro k w μ a σ _ h hi hev; exact ⟨μ, σ, h, hi, hev⟩
  | cons o l ih =>
    intro k w μ a σ hl h hi hev
    have h0 : ops[k]? = some o := by simpa using (hl 0).symm
    have hl' : ∀ j, l[j]? = ops[k + 1 + j]? := fun j => by have := hl (j + 1); simpa [Nat.add_assoc, Nat.add_comm 1 j] using this
    obtain ⟨hd, h⟩ := h
    have hd' : ∀ d, o.dst = some d → d < N := fun d e => by unfold okDst at hd; rw [e] at hd; exact hd
    rw [List.length_cons, List.range'_succ]
    simp only [wpOps, h0]
    split at h
    · rename_i b hb
      rw [wantedS_ok hi hb]
      split at h
      · rename_i hbt
        subst hbt
        rw [if_pos rfl]
        exact .inl (exK_ok hg hM hi hd' h fun w' μ' a' σ' k' hin hev' => ih (k + 1) w' μ' a' σ' hl' k' hin (hev.trans hev'))
      · rename_i hbf
        rw [if_neg (by simpa using hbf)]
        exact ih (k + 1) w μ _ _ hl' h (hi.put (.d (.v _)) hd') hev
    · exact h.elim

theorem AW_regionF (hg : Good P T) (hM : ∀ r, Mv r) {id : Nat} {ops : Array Oper} {Q : Exit → St → Prop} (h : sxf P T Mv X G N ops (fun σ' => Q .normal σ') ops.toList σ) : AW P Mv X G N (.region id ops false) Q σ := fun w μ a hi => by
  refine wp_region ?_
  have := sxf_ok hg hM ops.toList 0 w μ a σ (by simp) h hi (.refl _ w μ)
  rwa [← List.range_eq_range', Array.length_toList] at this

theorem AW_regionD (hg : Good P T) (hm : P.follows .mixedOrders = true) {id : Nat} {ops : Array Oper} (hok : okDraw ops = true) {Q : Exit → St → Prop} (h : sxd P T Mv G N ops (fun σ' => Q .normal σ') ops.toList σ) : AW P Mv X G N (.region id ops true) Q σ := by
  rw [sxd_eq] at h
  exact AW_region_draw hg hm hok h

theorem AW.norm (hM : ∀ r, Mv r) (l ns : List Nat) {c : Code} {Q : Exit → St → Prop} (h : AW P Mv X G N c Q (σ.norm l ns)) : AW P Mv X G N c Q σ := AW.imp (Imp.norm l ns hM) h

theorem AW.st {τ : St} {c : Code} {Q : Exit → St → Prop} (h : σ = τ) (h' : AW P Mv X G N c Q τ) : AW P Mv X G N c Q σ := h ▸ h'

/-- Nil, or not nil. -/
theorem AW.nilCase (i : Nat) {e : Env} {H : Heap} {els : List (List D)} {c : Code} {Q : Exit → St → Prop} (he : e i = some (.d (.sl none els))) (h1 : AW P Mv X G N c Q ⟨upd e i (.d (.sl (some true) els)), H⟩)
    (h2 : els = [] → AW P Mv X G N c Q ⟨upd e i (.d (.sl (some false) [])), H⟩) : AW P Mv X G N c Q ⟨e, H⟩ := fun w μ a hi => by
  obtain ⟨u, hu, hr⟩ := hi.env.slot i _ he
  have put : ∀ {y : D}, RD w (XX X μ) u y → In w X G μ N a ⟨upd e i (.d y), H⟩ := fun hy => ⟨hi.sim, ⟨hi.env.defers, hi.env.size, fun j x hx => by
    simp only [upd] at hx
    split at hx
    · rename_i hj; subst hj; obtain rfl := Option.some.inj hx; exact ⟨u, hu, .d hy⟩
    · exact hi.env.slot j x hx⟩, hi.glob⟩
  have hd := hr.data
  generalize hy : D.sl none els = y at hd
  cases hd with
  | nil hk => cases hy; exact h2 rfl w μ a (put (.nil (by simp)))
  | empty hk hm => cases hy; exact h1 w μ a (put (.empty (by simp) hm))
  | sl a1 a2 a3 a4 a5 a6 a7 a8 a9 a10 => cases hy; exact h1 w μ a (put (.sl (by simp) a2 a3 a4 a5 a6 a7 a8 a9 a10))
  | _ => cases hy

/-- A region, then what follows: the state written out anew, with these slots and these rows. -/
theorem AW_rg (hg : Good P T) (hM : ∀ r, Mv r) (l ns : List Nat) {id : Nat} {ops : Array Oper} {y : Code} {Q : Exit → St → Prop} (h : ∀ K : St → Prop, (∀ τ : St, AW P Mv X G N y Q (τ.norm l ns) → K τ) → sxf P T Mv X G N ops K ops.toList σ) : AW P Mv X G N (.seq (.region id ops false) y) Q σ :=
  AW_seq (AW_regionF hg hM (h _ fun _ h => h.norm hM))
theorem AW_rd (hg : Good P T) (hM : ∀ r, Mv r) (hm : P.follows .mixedOrders = true) (l ns : List Nat) {id : Nat} {ops : Array Oper} (hok : okDraw ops = true) {y : Code} {Q : Exit → St → Prop} (h : ∀ K : St → Prop, (∀ τ : St, AW P Mv X G N y Q (τ.norm l ns) → K τ) → sxd P T Mv G N ops K ops.toList σ) : AW P Mv X G N (.seq (.region id ops true) y) Q σ :=
  AW_seq (AW_regionD hg hm hok (h _ fun _ h => h.norm hM))

/-- A region at the end. -/
theorem AW_re (hg : Good P T) (hM : ∀ r, Mv r) {id : Nat} {ops : Array Oper} {Q : Exit → St → Prop} (h : ∀ K : St → Prop, (∀ τ : St, Q .normal τ → K τ) → sxf P T Mv X G N ops K ops.toList σ) : AW P Mv X G N (.region id ops false) Q σ :=
  AW_regionF hg hM (h _ fun _ h => h)
theorem AW_rde (hg : Good P T) (hm : P.follows .mixedOrders = true) {id : Nat} {ops : Array Oper} (hok : okDraw ops = true) {Q : Exit → St → Prop} (h : ∀ K : St → Prop, (∀ τ : St, Q .normal τ → K τ) → sxd P T Mv G N ops K ops.toList σ) : AW P Mv X G N (.region id ops true) Q σ :=
  AW_regionD hg hm hok (h _ fun _ h => h)

/-! ### Bodies -/

def resOne (T : Ty) (σ : St) : ResultVar → Ans
  | .tmp t => (σ.env t).map fun x => (True, x)
  | .cell a t => (σ.env a).bind (loadA T σ.H t)
def resAll (T : Ty) (σ : St) : List ResultVar → Option (Prop × List AV)
  | [] => some (True, [])
  | r :: l => match resOne T σ r, resAll T σ l with
    | some (c, x), some (c', xs) => some (c ∧ c', x :: xs)
    | _, _ => none
def oneOf : List AV → AV
  | [x] => x
  | l => mkTup l

/-- One is the other, or says more of what is nil. -/
def D.le : D → D → Prop
  | .sl k els, .sl k' els' => (k' = none ∨ k = k') ∧ els = els'
  | .tup l, .tup l' => go l l'
  | .agg l, .agg l' => go l l'
  | .ip l, .ip l' => go l l'
  | .ifc t x, .ifc t' x' => t = t' ∧ x.le x'
  | .fn f l, .fn f' l' => f = f' ∧ go l l'
  | x, y => x = y
where
  go : List D → List D → Prop
  | [], [] => True
  | x :: l, y :: l' => x.le y ∧ go l l'
  | _, _ => False

def endD (T : Ty) (rs : List ResultVar) (y : D) (σ : St) : Prop := match resAll T σ rs with
  | some (c, xs) => c ∧ match asD σ.H 6 (oneOf xs) with
    | some y' => y'.le y
    | none => False
  | none => False

def atEndD (T : Ty) (rs : List ResultVar) (y : D) : Exit → St → Prop
  | .normal, σ | .ret, σ => endD T rs y σ
  | _, _ => False

theorem D.le_go : ∀ {l l' : List D}, D.le.go l l' → l.length = l'.length ∧ ∀ (j : Nat) (x y : D), l[j]? = some x → l'[j]? = some y → x.le y
  | [], [], _ => ⟨rfl, by simp⟩
  | x :: l, y :: l', h => by
    simp only [D.le.go] at h
    obtain ⟨h1, h2⟩ := D.le_go h.2
    refine ⟨by simp [h1], fun j a b ha hb => ?_⟩
    cases j with
    | zero => simp at ha hb; subst ha hb; exact h.1
    | succ j => simp at ha hb; exact h2 j a b ha hb
  | [], _ :: _, h => by simp only [D.le.go] at h
  | _ :: _, [], h => by simp only [D.le.go] at h

theorem D.le_at {l l' : List D} (hg : D.le.go l l') {j : Nat} {c : D} (hc : l'[j]? = some c) : ∃ x, l[j]? = some x ∧ x.le c := by
  obtain ⟨hl, hh⟩ := D.le_go hg
  have hj := (List.getElem?_eq_some_iff.1 hc).1
  have hj' : j < l.length := by omega
  exact ⟨l[j], by simp [hj'], hh j _ c (by simp [hj']) hc⟩

theorem RD.le {w : World} {X : Nat → Prop} {u : Value} {x : D} (hr : RD w X u x) : ∀ {y : D}, x.le y → RD w X u y := by
  induction hr with
  | v x => intro y h; cases y <;> simp only [D.le, reduceCtorEq] at h; exact h ▸ .v x
  | nil hk =>
    intro y h
    cases y <;> simp only [D.le, reduceCtorEq] at h
    obtain ⟨h1 | h1, rfl⟩ := h
    · exact .nil (by simp [h1])
    · exact .nil (h1 ▸ hk)
  | empty hk hm =>
    intro y h
    cases y <;> simp only [D.le, reduceCtorEq] at h
    obtain ⟨h1 | h1, rfl⟩ := h
    · exact .empty (by simp [h1]) hm
    · exact .empty (h1 ▸ hk) hm
  | sl h1 h2 h3 h4 h5 h6 h7 h8 h9 h10 =>
    intro y h
    cases y <;> simp only [D.le, reduceCtorEq] at h
    obtain ⟨e1 | e1, rfl⟩ := h
    · exact .sl (by simp [e1]) h2 h3 h4 h5 h6 h7 h8 h9 h10
    · exact .sl (e1 ▸ h1) h2 h3 h4 h5 h6 h7 h8 h9 h10
  | ip hX hb hcell hr ih =>
    intro y h
    cases y <;> simp only [D.le, reduceCtorEq] at h
    obtain ⟨hl, _⟩ := D.le_go h
    refine .ip hX hb (fun j hj => hcell j (by omega)) fun j c hc => ?_
    obtain ⟨x, hx, hle⟩ := D.le_at h hc
    exact ih j x hx hle
  | agg hn hr ih =>
    intro y h
    cases y <;> simp only [D.le, reduceCtorEq] at h
    obtain ⟨hl, _⟩ := D.le_go h
    refine .agg (by omega) fun j u c hu hc => ?_
    obtain ⟨x, hx, hle⟩ := D.le_at h hc
    exact ih j u x hu hx hle
  | tup hn hr ih =>
    intro y h
    cases y <;> simp only [D.le, reduceCtorEq] at h
    obtain ⟨hl, _⟩ := D.le_go h
    refine .tup (by omega) fun j u c hu hc => ?_
    obtain ⟨x, hx, hle⟩ := D.le_at h hc
    exact ih j u x hu hx hle
  | ifc hr ih =>
    intro y h
    cases y <;> simp only [D.le, reduceCtorEq] at h
    obtain ⟨rfl, h⟩ := h
    exact .ifc (ih h)
  | fn hn hr ih =>
    intro y h
    cases y <;> simp only [D.le, reduceCtorEq] at h
    obtain ⟨rfl, h⟩ := h
    obtain ⟨hl, _⟩ := D.le_go h
    refine .fn (by omega) fun j u c hu hc => ?_
    obtain ⟨x, hx, hle⟩ := D.le_at h hc
    exact ih j u x hu hx hle

theorem PureC.weak {g : FuncId} {ds ds' : List D} {y : D} (hc : PureC P G g ds y) (h : D.le.go ds' ds) : PureC P G g ds' y := by
  refine ⟨hc.1, fun X w μ vs hs hgl hn hv => hc.2 X w μ vs hs hgl (by simpa [(D.le_go h).1] using hn) fun i u x hu hx => ?_⟩
  rw [List.getElem?_map] at hx
  obtain ⟨d, hd, rfl⟩ := Option.map_eq_some_iff.1 hx
  obtain ⟨x, hx, hle⟩ := D.le_at h hd
  exact .d ((hv i u (.d x) hu (by rw [List.getElem?_map, hx]; rfl)).data.le hle)

/-- Data in, data out. -/
theorem callK.data {g : FuncId} {xs : List AV} {ds ds' : List D} {y : D} {dst : Option Tmp} {next : St → Prop} (hc : PureC P G g ds y) (hx : allD xs = some ds') (hle : D.le.go ds' ds) (h : next ⟨putd σ.env dst (.d y), σ.H⟩) : callK P Mv X G N g xs σ dst next := by
  unfold callK
  rw [allD_eq hx]
  exact callS.pure (hc.weak hle) h
/-- What is owned is lent where the answer is a number, a bool, .. -/
theorem callK.lend {g : FuncId} {xs : List AV} {ds ds' : List D} {y : D} {dst : Option Tmp} {next : St → Prop} (hc : PureC P G g ds y) (hx : asDs (asD σ.H 4) xs = some ds') (hle : D.le.go ds' ds) (hy : y.scalar = true) (h : next ⟨putd σ.env dst (.d y), σ.H⟩) : callK P Mv X G N g xs σ dst next :=
  callS.lend hx (hc.weak hle) hy h
theorem callQ.data {c : Call} {g : FuncId} {xs : List AV} {ds ds' : List D} {y : D} {dst : Option Tmp} {next : St → Prop} (hc : PureC P G g ds y) (ht : tgt G σ.env c = some (g, xs)) (hx : allD xs = some ds') (hle : D.le.go ds' ds) (h : next ⟨putd σ.env dst (.d y), σ.H⟩) : callQ P G c σ dst next :=
  ⟨y, ⟨g, xs, ht, .inl ⟨ds', allD_eq hx, hc.weak hle⟩⟩, h⟩
theorem callQ.lend {c : Call} {g : FuncId} {xs : List AV} {ds ds' : List D} {y : D} {dst : Option Tmp} {next : St → Prop} (hc : PureC P G g ds y) (ht : tgt G σ.env c = some (g, xs)) (hx : asDs (asD σ.H 4) xs = some ds') (hle : D.le.go ds' ds) (hy : y.scalar = true) (h : next ⟨putd σ.env dst (.d y), σ.H⟩) : callQ P G c σ dst next :=
  ⟨y, ⟨g, xs, ht, .inr ⟨ds', hx, hy, hc.weak hle⟩⟩, h⟩

theorem asDs_map (H : Heap) (k : Nat) : ∀ (ds : List D), asDs (asD H k) (ds.map .d) = some ds
  | [] => rfl
  | d :: ds => by simp [asDs, asDs_map H k ds]; cases k <;> simp [asD]
theorem D.le_refl (x : D) : x.le x := by
  have key : ∀ n, ∀ x : D, SizeOf.sizeOf x < n → x.le x := by
    intro n
    induction n with
    | zero => intro x h; omega
    | succ n ih =>
      intro x h
      have go : ∀ l : List D, SizeOf.sizeOf l < n → D.le.go l l := by
        intro l
        induction l with
        | nil => intro _; simp [D.le.go]
        | cons y l ihl =>
          intro hl
          simp only [List.cons.sizeOf_spec] at hl
          exact ⟨ih y (by omega), ihl (by omega)⟩
      cases x <;> simp only [D.le] <;> simp at h ⊢
      · exact go _ (by omega)
      · exact go _ (by omega)
      · exact go _ (by omega)
      · exact ih _ (by omega)
      · exact go _ (by omega)
  exact key _ x (Nat.lt_succ_self _)
theorem D.leGo_refl : ∀ l : List D, D.le.go l l
  | [] => trivial
  | x :: l => ⟨D.le_refl x, D.leGo_refl l⟩

theorem resOne_ok (hg : Good P T) (hi : In w X G μ N a σ) {r : ResultVar} {c : Prop} {x : AV} (h : resOne T σ r = some (c, x)) (hc : c) :
    ∃ v, (match r with | .tmp t => (pure (a.tmps.getD t undef) : Sem Value) | .cell b t => do loadVar t (← asAddr (a.tmps.getD b undef))).run P w = .ok v w ∧ RV w X μ v x := by
  cases r with
  | tmp t =>
    simp only [resOne, Option.map_eq_some_iff, Prod.mk.injEq] at h
    obtain ⟨y, hy, _, rfl⟩ := h
    obtain ⟨u, hu, hr⟩ := hi.env.slot t y hy
    exact ⟨u, by simp [Array.getD_eq_getD_getElem?, hu], hr⟩
  | cell b t =>
    obtain ⟨y, hy, hl⟩ := Option.bind_eq_some_iff.1 h
    obtain ⟨u, hu, hr⟩ := hi.env.slot b y hy
    obtain ⟨v, hv, hrv⟩ := loadA_ok (P := P) hg hi.sim hl hc hr
    refine ⟨v, ?_, hrv⟩
    have e : a.tmps.getD b undef = u := by simp [Array.getD_eq_getD_getElem?, hu]
    dsimp only
    rw [e]
    unfold loadA at hl
    split at hl
    · obtain ⟨b, off, f, rfl, _⟩ := hr.data.ip_inv
      simpa [Instr.loadAt, Instr.sureAddr, asAddr] using hv
    · obtain ⟨m, b, hm, hb, rfl⟩ := hr.ref_inv
      simpa [Instr.loadAt, Instr.sureAddr, asAddr] using hv
    · cases hl

theorem resAll_ok (hg : Good P T) (hi : In w X G μ N a σ) : ∀ {rs : List ResultVar} {c : Prop} {xs : List AV}, resAll T σ rs = some (c, xs) → c →
    ∃ vs : List Value, (rs.mapM (m := Sem) fun | .tmp t => pure (a.tmps.getD t undef) | .cell b t => do loadVar t (← asAddr (a.tmps.getD b undef))).run P w = .ok vs w ∧ vs.length = xs.length ∧ ∀ (j : Nat) (u : Value) (x : AV), vs[j]? = some u → xs[j]? = some x → RV w X μ u x := by
  intro rs
  induction rs with
  | nil =>
    intro c xs h hc
    simp only [resAll, Option.some.injEq, Prod.mk.injEq] at h
    obtain ⟨_, rfl⟩ := h
    exact ⟨[], by simp, rfl, by simp⟩
  | cons r rs ih =>
    intro c xs h hc
    simp only [resAll] at h
    split at h
    · rename_i c1 x c2 xs' h1 h2
      simp only [Option.some.injEq, Prod.mk.injEq] at h
      obtain ⟨rfl, rfl⟩ := h
      obtain ⟨v, hv, hr⟩ := resOne_ok (P := P) hg hi h1 hc.1
      obtain ⟨vs, hvs, hl, hrs⟩ := ih h2 hc.2
      refine ⟨v :: vs, ?_, by simp [hl], fun j u x hu hx => ?_⟩
      · rw [List.mapM_cons, Sem.run_bind, hv, Result.andThen_ok, Sem.run_bind, hvs, Result.andThen_ok, Sem.run_pure]
      · cases j with
        | zero => simp at hu hx; subst hu hx; exact hr
        | succ j => simp at hu hx; exact hrs j u x hu hx
    · cases h

theorem results_ok (hg : Good P T) (hi : In w X G μ N a σ) {fn : Func} {rs : List ResultVar} (hrs : fn.results = rs.toArray) {c : Prop} {xs : List AV} (h : resAll T σ rs = some (c, xs)) (hc : c) :
    ∃ v, (results fn a.tmps).run P w = .ok v w ∧ RV w X μ v (oneOf xs) := by
  obtain ⟨vs, hvs, hl, hr⟩ := resAll_ok (P := P) hg hi h hc
  refine ⟨if h : vs.toArray.size = 1 then vs.toArray[0] else .tuple vs.toArray, ?_, ?_⟩
  · unfold results
    rw [hrs, Array.mapM_eq_mapM_toList, Sem.run_bind]
    simp only [map_eq_pure_bind, Sem.run_bind]
    erw [hvs]
    rfl
  · match xs, vs, hl, hr with
    | [], [], _, hr => exact mkTup_ok (l := []) (.tup (arr := #[]) (cells := []) rfl (by simp))
    | [x], [v], _, hr => exact hr 0 v x rfl rfl
    | x :: y :: xs, v :: u :: vs, hl, hr =>
      have : ¬ (v :: u :: vs).toArray.size = 1 := by simp
      rw [dif_neg this]
      exact mkTup_ok (.tup (by simpa using hl) fun j u c hu hc => hr j u c (by simpa using hu) hc)

/-- A body that yields data. -/
theorem PureC.of_body (hg : Good P T) {g : FuncId} {fn : Func} {c : Code} {rs : List ResultVar} {ds : List D} {y : D} (hf : P.funcs[g]? = some fn) (hb : fn.body = some c) (hn : (fn.name == "runtime.NumGoroutine") = false) (hrs : fn.results = rs.toArray)
    (hN : ds.length ≤ fn.ntmps) (h : ∀ X, AW P (fun _ => True) X G fn.ntmps c (atEndD T rs y) ⟨args (ds.map .d), hno⟩) : PureC P G g ds y := by
  refine ⟨Fun.of hf hb hn, fun X w μ vs hs hgl hsz hv => ?_⟩
  have fin : ∀ (w' : World) (μ' : Mu) (a' : Act) (σ' : St), endD T rs y σ' → In w' X G μ' fn.ntmps a' σ' → Ev (fun _ => True) w μ w' μ' → ∃ v, (results fn a'.tmps).run P w' = .ok v w' ∧ ∃ v_1 x H' μ', Ending.returned v = Ending.returned v_1 ∧ (x = .d y ∧ H' = hno) ∧ RV w' X μ' v_1 x ∧ Sim w' X μ' H' ∧ Ev (fun _ => True) w μ w' μ' := by
    intro w' μ' a' σ' he hi hev
    unfold endD at he
    split at he
    · rename_i c xs hx
      obtain ⟨hc, he⟩ := he
      split at he
      · rename_i y' hy
        obtain ⟨v, hv, hr⟩ := results_ok (P := P) hg hi hrs hx hc
        have hrd := (asD_ok hi.sim 6 hy hr).le he
        refine ⟨v, hv, v, .d y, hno, fun _ => none, rfl, ⟨rfl, rfl⟩, .d (hrd.sub fun b => XX_none.1), Sim.none hi.sim.fits, hev.size, hev.os, hev.tape, hev.output, fun b hb hr => ⟨(hev.same b hb hr).1, fun ⟨_, _, h, _⟩ => by cases h⟩, fun r m _ hn => absurd trivial hn⟩
      · exact he.elim
    · exact he.elim
  refine calls_of_wp hf hb (wp_mono (h X w μ _ ⟨hs, ⟨rfl, by simp; simp at hsz; omega, fun i x hx => ?_⟩, hgl⟩) fun e a' w' ⟨μ', σ', q, i, ev⟩ => ?_)
  · simp only [args] at hx
    have hi : i < (ds.map AV.d).length := (List.getElem?_eq_some_iff.1 hx).1
    have hvi : vs[i]? = some vs[i] := by rw [Array.getElem?_eq_getElem]
    exact ⟨vs[i], by rw [Array.getElem?_append_left (by omega), hvi], hv i _ x hvi hx⟩
  · cases e with
    | normal =>
      obtain ⟨v, hv, rest⟩ := fin w' μ' a' σ' q i ev
      exact ⟨i.env.defers, v, hv, rest⟩
    | ret =>
      obtain ⟨v, hv, rest⟩ := fin w' μ' a' σ' q i ev
      exact ⟨i.env.defers, v, hv, rest⟩
    | _ => exact q.elim
end
end Go.Av
