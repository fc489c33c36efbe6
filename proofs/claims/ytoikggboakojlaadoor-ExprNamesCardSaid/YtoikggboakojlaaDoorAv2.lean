/-
  The logic: what a piece of code does to abstract states. Each rule is a theorem over the model's own 'wp'.
-/
import Derived.Test.YtoikggboakojlaaDoorAv1
import Derived.LoopN
namespace Go.Av

abbrev Env := Nat → Option AV
structure St where
  env : Env
  H : Heap

def upd (e : Env) (i : Nat) (x : AV) : Env := fun j => if j = i then some x else e j
def hup (H : Heap) (r : Nat) (row : Row) : Heap := fun q => if q = r then some row else H q
def hno : Heap := fun _ => none
/-- An environment that is written out. -/
def lst (l : List (Nat × AV)) : Env := fun i => l.lookup i
def hlst (l : List (Nat × Row)) : Heap := fun i => l.lookup i

/-- What is known of the package-level variables: as what the pointer to each reads. -/
abbrev Glob := Nat → Option D

structure EnvOk (w : World) (X : Nat → Prop) (μ : Mu) (N : Nat) (a : Act) (env : Env) : Prop where
  defers : a.defers = []
  size : a.tmps.size = N
  slot : ∀ i x, env i = some x → ∃ u, a.tmps[i]? = some u ∧ RV w X μ u x

structure In (w : World) (X : Nat → Prop) (G : Glob) (μ : Mu) (N : Nat) (a : Act) (σ : St) : Prop where
  sim : Sim w X μ σ.H
  env : EnvOk w X μ N a σ.env
  glob : ∀ g x, G g = some x → RD w (XX X μ) (.pointer (some ⟨g, 0, none⟩)) x

/-- A step of ghosts: whatever is in σ is in τ. -/
def Imp (Mv X : Nat → Prop) (G : Glob) (N : Nat) (σ τ : St) : Prop := ∀ w μ a, In w X G μ N a σ → ∃ μ', In w X G μ' N a τ ∧ Ev Mv w μ w μ'

theorem Imp.refl {Mv X : Nat → Prop} {G : Glob} {N : Nat} (σ : St) : Imp Mv X G N σ σ := fun w μ _ h => ⟨μ, h, .refl _ w μ⟩
theorem Imp.trans {Mv X : Nat → Prop} {G : Glob} {N : Nat} {σ τ υ : St} (h : Imp Mv X G N σ τ) (h' : Imp Mv X G N τ υ) : Imp Mv X G N σ υ := fun w μ a hi =>
  let ⟨_, hi1, e1⟩ := h w μ a hi
  let ⟨μ2, hi2, e2⟩ := h' _ _ _ hi1
  ⟨μ2, hi2, e1.trans e2⟩

section
variable {P : Program} {Mv X : Nat → Prop} {G : Glob} {N : Nat}

def After (Mv X : Nat → Prop) (G : Glob) (N : Nat) (w : World) (μ : Mu) (Q : Exit → St → Prop) (e : Exit) (a' : Act) (w' : World) : Prop :=
  ∃ μ' σ', Q e σ' ∧ In w' X G μ' N a' σ' ∧ Ev Mv w μ w' μ'

def AW (P : Program) (Mv X : Nat → Prop) (G : Glob) (N : Nat) (c : Code) (Q : Exit → St → Prop) (σ : St) : Prop :=
  ∀ w μ a, In w X G μ N a σ → c.wp P (After Mv X G N w μ Q) a w

theorem After.mono {w : World} {μ : Mu} {Q Q' : Exit → St → Prop} (h : ∀ e σ, Q e σ → Q' e σ) {e : Exit} {a' : Act} {w' : World} (ha : After Mv X G N w μ Q e a' w') : After Mv X G N w μ Q' e a' w' :=
  let ⟨μ', σ', q, i, ev⟩ := ha
  ⟨μ', σ', h _ _ q, i, ev⟩

theorem AW.mono {c : Code} {Q Q' : Exit → St → Prop} {σ : St} (h : AW P Mv X G N c Q σ) (hq : ∀ e σ, Q e σ → Q' e σ) : AW P Mv X G N c Q' σ :=
  fun w μ a hi => wp_mono (h w μ a hi) fun _ _ _ ha => ha.mono hq

theorem AW.imp {c : Code} {Q : Exit → St → Prop} {σ τ : St} (hi : Imp Mv X G N σ τ) (h : AW P Mv X G N c Q τ) : AW P Mv X G N c Q σ := fun w μ a hin => by
  obtain ⟨μ1, h1, e1⟩ := hi w μ a hin
  exact wp_mono (h w μ1 a h1) fun e a' w' ⟨μ', σ', q, i, ev⟩ => ⟨μ', σ', q, i, e1.trans ev⟩

/-- What follows, else what else. -/
def thn (next : St → Prop) (Q : Exit → St → Prop) : Exit → St → Prop
  | .normal, σ => next σ
  | e, σ => Q e σ
def inb (id : Nat) (Q : Exit → St → Prop) : Exit → St → Prop
  | .exit id', σ => if id' = id then Q .normal σ else Q (.exit id') σ
  | e, σ => Q e σ

theorem AW_skip {Q : Exit → St → Prop} {σ : St} (h : Q .normal σ) : AW P Mv X G N .skip Q σ := fun w μ _ hi => wp_skip ⟨μ, σ, h, hi, .refl _ w μ⟩
theorem AW_ret {Q : Exit → St → Prop} {σ : St} (h : Q .ret σ) : AW P Mv X G N .ret Q σ := fun w μ _ hi => wp_ret ⟨μ, σ, h, hi, .refl _ w μ⟩
theorem AW_exit {Q : Exit → St → Prop} {σ : St} {id : Nat} (h : Q (.exit id) σ) : AW P Mv X G N (.exit id) Q σ := fun w μ _ hi => wp_exit ⟨μ, σ, h, hi, .refl _ w μ⟩
theorem AW_seq {x y : Code} {Q : Exit → St → Prop} {σ : St} (h : AW P Mv X G N x (thn (AW P Mv X G N y Q) Q) σ) : AW P Mv X G N (.seq x y) Q σ := fun w μ a hi =>
  wp_seq (wp_mono (h w μ a hi) fun e a' w' ⟨μ', σ', q, i, ev⟩ => by
    cases e with
    | normal => exact wp_mono (q w' μ' a' i) fun e2 a2 w2 ⟨μ2, σ2, q2, i2, ev2⟩ => ⟨μ2, σ2, q2, i2, ev.trans ev2⟩
    | _ => exact ⟨μ', σ', q, i, ev⟩)
theorem AW_block {id : Nat} {c : Code} {Q : Exit → St → Prop} {σ : St} (h : AW P Mv X G N c (inb id Q) σ) : AW P Mv X G N (.block id c) Q σ := fun w μ a hi =>
  wp_block (wp_mono (h w μ a hi) fun e a' w' ⟨μ', σ', q, i, ev⟩ => by
    cases e with
    | exit id' =>
      simp only [inb] at q
      simp only [Exit.inBlock]
      split
      · rename_i he; rw [if_pos he] at q; exact ⟨μ', σ', q, i, ev⟩
      · rename_i he; rw [if_neg he] at q; exact ⟨μ', σ', q, i, ev⟩
    | _ => exact ⟨μ', σ', q, i, ev⟩)

def cstD : Value → D
  | .slice none 0 0 => .sl (some false) []
  | v => .v v
def cst : Value → AV
  | .agg arr => .d (.agg (arr.toList.map cstD))
  | v => .d (cstD v)

def aeval (G : Glob) (e : Env) : Operand → Option AV
  | .tmp t => e t
  | .const v => some (cst v)
  | .global g => (G g).map .d
  | .func f => some (.d (.fn (.func f) []))

theorem cstD_ok {w : World} {X : Nat → Prop} (v : Value) : RD w X v (cstD v) := by
  unfold cstD; split
  · exact .nil (by simp)
  · exact .v _
theorem cst_ok {w : World} {μ : Mu} (v : Value) : RV w X μ v (cst v) := by
  unfold cst; split
  · refine .d (.agg (by simp) fun j u c hu hc => ?_)
    rw [List.getElem?_map] at hc
    obtain ⟨c', hc', rfl⟩ := Option.map_eq_some_iff.1 hc
    rw [Array.getElem?_toList] at hc'
    rw [hu] at hc'
    obtain rfl := Option.some.inj hc'
    exact cstD_ok _
  · exact .d (cstD_ok _)

theorem In.eval {w : World} {μ : Mu} {a : Act} {σ : St} (hi : In w X G μ N a σ) {o : Operand} {x : AV} (h : aeval G σ.env o = some x) : RV w X μ (a.eval o) x := by
  cases o with
  | tmp t =>
    obtain ⟨u, hu, hr⟩ := hi.env.slot t x h
    simpa [Act.eval, Array.getD_eq_getD_getElem?, hu] using hr
  | const v => simp only [aeval, Option.some.injEq] at h; subst h; exact cst_ok v
  | global g =>
    simp only [aeval, Option.map_eq_some_iff] at h
    obtain ⟨d, hd, rfl⟩ := h
    exact .d (hi.glob g d hd)
  | func f => simp only [aeval, Option.some.injEq] at h; subst h; exact .d (.fn (by simp) (by simp))

theorem AW_cond {c : Operand} {x y : Code} {Q : Exit → St → Prop} {σ : St} (b : Bool) (hc : aeval G σ.env c = some (.d (.v (.bool b)))) (ht : b = true → AW P Mv X G N x Q σ) (hf : b = false → AW P Mv X G N y Q σ) :
    AW P Mv X G N (.cond c x y) Q σ := fun w μ a hi => by
  have h := hi.eval hc
  have h' : a.eval c = .bool b := h.scalar
  exact wp_cond_split h' (fun e => ht e w μ a hi) (fun e => hf e w μ a hi)

/-- A loop: a family of states, one for each s; a round leads to a lesser s, or out. -/
theorem AW_loop {S : Type} {c : Code} {Q : Exit → St → Prop} {σ : St} (inv : S → St) (meas : S → Nat) (s0 : S) (h0 : Imp Mv X G N σ (inv s0))
    (round : ∀ s, AW P Mv X G N c (thn (fun σ' => ∃ s', meas s' < meas s ∧ Imp Mv X G N σ' (inv s')) Q) (inv s)) : AW P Mv X G N (.loop c) Q σ := fun w μ a hi => by
  obtain ⟨μ0, hi0, ev0⟩ := h0 w μ a hi
  have key : ∀ n s w1 μ1 a1, meas s < n → In w1 X G μ1 N a1 (inv s) → Ev Mv w μ w1 μ1 → Code.rounds P c (After Mv X G N w μ Q) n a1 w1 := by
    intro n
    induction n with
    | zero => intro s w1 μ1 a1 h; omega
    | succ n ih =>
      intro s w1 μ1 a1 hlt hin hev
      rw [rounds_succ]
      refine wp_mono (round s w1 μ1 a1 hin) fun e a' w' ⟨μ', σ', q, i, ev⟩ => ?_
      cases e with
      | normal =>
        obtain ⟨s', hs', himp⟩ := q
        obtain ⟨μ2, hi2, ev2⟩ := himp w' μ' a' i
        exact ih s' w' μ2 a' (by omega) hi2 (hev.trans (ev.trans ev2))
      | _ => exact ⟨μ', σ', q, i, hev.trans ev⟩
  exact wp_loop_rounds (meas s0 + 1) (key _ s0 w μ0 a (by omega) hi0 ev0)

/-- A call, seen from the caller: arguments, owned memory, what comes of it. -/
def ACalls (P : Program) (Mv X : Nat → Prop) (G : Glob) (f : FuncId) (xs : List AV) (H : Heap) (R : AV → Heap → Prop) : Prop :=
  ∀ w μ (vs : Array Value), Sim w X μ H → (∀ g x, G g = some x → RD w (XX X μ) (.pointer (some ⟨g, 0, none⟩)) x) → vs.size = xs.length → (∀ (i : Nat) (u : Value) (x : AV), vs[i]? = some u → xs[i]? = some x → RV w X μ u x) →
    Calls P f vs w fun e w' => ∃ v x H' μ', e = .returned v ∧ R x H' ∧ RV w' X μ' v x ∧ Sim w' X μ' H' ∧ Ev Mv w μ w' μ'

theorem ACalls.mono {f : FuncId} {xs : List AV} {H : Heap} {R R' : AV → Heap → Prop} (h : ACalls P Mv X G f xs H R) (hr : ∀ x H', R x H' → R' x H') : ACalls P Mv X G f xs H R' :=
  fun w μ vs hs hg hn hv => (h w μ vs hs hg hn hv).mono fun _ _ ⟨v, x, H', μ', he, r, rest⟩ => ⟨v, x, H', μ', he, hr _ _ r, rest⟩

/-- Slots 0, 1, .. hold these. -/
def args (xs : List AV) : Env := fun i => xs[i]?

/-- What the results are, of a state at the end. -/
def resVal (rs : List ResultVar) (e : Env) : Option AV :=
  match rs with
  | [] => some (.d (.v (.tuple #[])))
  | [.tmp t] => e t
  | [.tmp t, .tmp u] => match e t, e u with | some x, some y => some (.tup [x, y]) | _, _ => none
  | [.tmp t, .tmp u, .tmp v] => match e t, e u, e v with | some x, some y, some z => some (.tup [x, y, z]) | _, _, _ => none
  | _ => none

theorem resVal_ok {fn : Func} {rs : List ResultVar} (hrs : fn.results = rs.toArray) {w : World} {μ : Mu} {a : Act} {σ : St} (hi : In w X G μ N a σ) {x : AV} (h : resVal rs σ.env = some x) :
    ∃ v, (results fn a.tmps).run P w = .ok v w ∧ RV w X μ v x := by
  unfold resVal at h
  split at h
  · obtain rfl := Option.some.inj h
    exact ⟨_, results_none hrs _ _ _, .d (.v _)⟩
  · rename_i t
    obtain ⟨u, hu, hr⟩ := hi.env.slot t x h
    exact ⟨_, results_tmp hrs _ _ _, by simpa [Array.getD_eq_getD_getElem?, hu] using hr⟩
  · rename_i t t2
    split at h
    · rename_i x1 x2 h1 h2
      obtain rfl := Option.some.inj h
      obtain ⟨u, hu, hr⟩ := hi.env.slot _ _ h1
      obtain ⟨u2, hu2, hr2⟩ := hi.env.slot _ _ h2
      refine ⟨_, results_tmp2 hrs _ _ _, .tup (by simp) fun j u3 c hj hc => ?_⟩
      simp only [Array.getD_eq_getD_getElem?, hu, hu2, Option.getD_some] at hj
      match j, hj, hc with
      | 0, hj, hc => simp at hj hc; subst hj; subst hc; exact hr
      | 1, hj, hc => simp at hj hc; subst hj; subst hc; exact hr2
      | j + 2, hj, hc => simp at hc
    · cases h
  · rename_i t t2 t3
    split at h
    · rename_i x1 x2 x3 h1 h2 h3
      obtain rfl := Option.some.inj h
      obtain ⟨u, hu, hr⟩ := hi.env.slot _ _ h1
      obtain ⟨u2, hu2, hr2⟩ := hi.env.slot _ _ h2
      obtain ⟨u3, hu3, hr3⟩ := hi.env.slot _ _ h3
      refine ⟨_, results_tmp3 hrs _ _ _, .tup (by simp) fun j u4 c hj hc => ?_⟩
      simp only [Array.getD_eq_getD_getElem?, hu, hu2, hu3, Option.getD_some] at hj
      match j, hj, hc with
      | 0, hj, hc => simp at hj hc; subst hj; subst hc; exact hr
      | 1, hj, hc => simp at hj hc; subst hj; subst hc; exact hr2
      | 2, hj, hc => simp at hj hc; subst hj; subst hc; exact hr3
      | j + 3, hj, hc => simp at hc
    · cases h
  · cases h

/-- The end of a body: the result is read off the slots. -/
def atEnd (rs : List ResultVar) (R : AV → Heap → Prop) : Exit → St → Prop
  | .normal, σ | .ret, σ => ∃ x, resVal rs σ.env = some x ∧ R x σ.H
  | _, _ => False

theorem ACalls.of_body {f : FuncId} {fn : Func} {c : Code} {rs : List ResultVar} {xs : List AV} {H : Heap} {R : AV → Heap → Prop} (hf : P.funcs[f]? = some fn) (hb : fn.body = some c) (hrs : fn.results = rs.toArray)
    (hN : xs.length ≤ fn.ntmps) (h : AW P Mv X G fn.ntmps c (atEnd rs R) ⟨args xs, H⟩) : ACalls P Mv X G f xs H R := by
  intro w μ vs hs hg hn hv
  refine calls_of_wp hf hb (wp_mono (h w μ _ ⟨hs, ⟨rfl, by simp; omega, fun i x hx => ?_⟩, hg⟩) fun e a' w' ⟨μ', σ', q, i, ev⟩ => ?_)
  · simp only [args] at hx
    have hi : i < xs.length := (List.getElem?_eq_some_iff.1 hx).1
    have hvi : vs[i]? = some vs[i] := by rw [Array.getElem?_eq_getElem]
    exact ⟨vs[i], by rw [Array.getElem?_append_left (by omega), hvi], hv i _ x hvi hx⟩
  · cases e with
    | normal =>
      obtain ⟨x, hx, r⟩ := q
      obtain ⟨v, hv, hr⟩ := resVal_ok (P := P) hrs i hx
      exact ⟨i.env.defers, v, hv, v, x, σ'.H, μ', rfl, r, hr, i.sim, ev⟩
    | ret =>
      obtain ⟨x, hx, r⟩ := q
      obtain ⟨v, hv, hr⟩ := resVal_ok (P := P) hrs i hx
      exact ⟨i.env.defers, v, hv, v, x, σ'.H, μ', rfl, r, hr, i.sim, ev⟩
    | _ => exact q.elim

end
end Go.Av
