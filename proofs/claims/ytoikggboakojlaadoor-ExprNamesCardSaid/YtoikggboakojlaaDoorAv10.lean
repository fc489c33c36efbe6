/-
  Regions, in the order of the text; calls by their contracts.
-/
import Derived.Test.YtoikggboakojlaaDoorAv9
namespace Go.Av

/-- An ordinary function: a call of it enters it. -/
def Fun (P : Program) (g : FuncId) : Prop := ∀ (args : Array Value) (w : World), (callFunc g args).run P w = .ok (.enter g args) w

theorem Fun.of {P : Program} {g : FuncId} {fn : Func} {c : Code} (h : P.funcs[g]? = some fn) (hb : fn.body = some c) (hn : (fn.name == "runtime.NumGoroutine") = false) : Fun P g := by
  intro args w
  simp only [callFunc, Sem.run_bind, run_program, Result.andThen_ok, h, hn, Bool.false_eq_true, if_false]
  simp [hb]

/-- What an operation that has not been done leaves in its slot. -/
def und : AV := .d (.v undef)

def gval (ops : Array Oper) (e : Env) (j : Nat) : Option (Option Bool) := match (ops[j]?).bind (·.dst) with
  | some d => match e d with
    | some (.d (.v (.bool b))) => some (some b)
    | some (.d (.v (.tuple _))) => some none
    | _ => none
  | none => none

def wantedS (ops : Array Oper) (e : Env) (o : Oper) : Option Bool := match o.guard with
  | none => some true
  | some (j, want) => (gval ops e j).map (· == some want)

/-- Whom a call calls, with what. -/
def tgt (G : Glob) (e : Env) (c : Call) : Option (FuncId × List AV) := match c.callee with
  | .value f => match aeval G e f, evalL G e c.args.toList with
    | some (.d (.fn (.func g) caps)), some xs => some (g, xs ++ caps.map .d)
    | some (.fn (.func g) caps), some xs => some (g, xs ++ caps)
    | _, _ => none
  | _ => none

def callS (P : Program) (Mv X : Nat → Prop) (G : Glob) (N : Nat) (g : FuncId) (xs : List AV) (σ : St) (K : AV → St → Prop) : Prop :=
  Fun P g ∧ ∀ w μ a (vs : Array Value), In w X G μ N a σ → vs.size = xs.length → (∀ (i : Nat) (u : Value) (x : AV), vs[i]? = some u → xs[i]? = some x → RV w X μ u x) →
    Calls P g vs w fun e w' => ∃ v x σ' μ', e = .returned v ∧ K x σ' ∧ In w' X G μ' N a σ' ∧ RV w' X μ' v x ∧ Ev Mv w μ w' μ'

theorem callS.mono {P : Program} {Mv X : Nat → Prop} {G : Glob} {N : Nat} {g : FuncId} {xs : List AV} {σ : St} {K K' : AV → St → Prop} (h : callS P Mv X G N g xs σ K) (hk : ∀ x σ', K x σ' → K' x σ') : callS P Mv X G N g xs σ K' :=
  ⟨h.1, fun w μ a vs hi hn hv => (h.2 w μ a vs hi hn hv).mono fun _ _ ⟨v, x, σ', μ', he, k, rest⟩ => ⟨v, x, σ', μ', he, hk _ _ k, rest⟩⟩

def isWr : Op → Bool
  | .alloc _ => true
  | .box _ _ => true
  | .store _ _ _ => true
  | .makeSlice _ _ _ => true
  | .buildSlice _ _ _ => true
  | .call { callee := .builtin .append, .. } => true
  | _ => false

def isCall : Op → Option Call
  | .call { callee := .value f, args, argTypes } => some { callee := .value f, args, argTypes }
  | _ => none

def plainS (T : Ty) (G : Glob) (Mv : Nat → Prop) (o : Oper) (σ : St) (K : St → Prop) : Prop :=
  if isWr o.op then match wr T G Mv σ o with
    | some (c, x, σ') => c ∧ K ⟨putd σ'.env o.dst x, σ'.H⟩
    | none => False
  else match rd T G σ o.op with
    | some (c, x) => c ∧ K ⟨putd σ.env o.dst x, σ.H⟩
    | none => False

def ex1 (P : Program) (T : Ty) (Mv X : Nat → Prop) (G : Glob) (N : Nat) (o : Oper) (σ : St) (K : St → Prop) : Prop := match isCall o.op with
  | some c => match tgt G σ.env c with
    | some (g, xs) => callS P Mv X G N g xs σ fun x σ' => K ⟨putd σ'.env o.dst x, σ'.H⟩
    | none => False
  | none => plainS T G Mv o σ K

def okDst (N : Nat) (o : Oper) : Prop := match o.dst with
  | some d => d < N
  | none => True

def sxs (P : Program) (T : Ty) (Mv X : Nat → Prop) (G : Glob) (N : Nat) (ops : Array Oper) (K : St → Prop) : List Oper → St → Prop
  | [], σ => K σ
  | o :: rest, σ => okDst N o ∧ match wantedS ops σ.env o with
    | some b => if b = true then ex1 P T Mv X G N o σ (sxs P T Mv X G N ops K rest) else sxs P T Mv X G N ops K rest ⟨putd σ.env o.dst und, σ.H⟩
    | none => False

section
variable {P : Program} {T : Ty} {Mv X : Nat → Prop} {G : Glob} {N : Nat} {w : World} {μ : Mu} {a : Act} {σ : St}

theorem wantedS_ok (hi : In w X G μ N a σ) {ops : Array Oper} {o : Oper} {b : Bool} (h : wantedS ops σ.env o = some b) : Region.wanted o (yielded ops a.tmps) = b := by
  unfold wantedS at h
  unfold Region.wanted
  split at h
  · rename_i hg
    obtain rfl := Option.some.inj h
    simp [hg]
  · rename_i j want hg
    obtain ⟨b', hb, rfl⟩ := Option.map_eq_some_iff.1 h
    simp only [hg]
    unfold gval at hb
    split at hb
    · rename_i d hd
      split at hb
      · rename_i b2 he
        obtain rfl := Option.some.inj hb
        obtain ⟨u, hu, hr⟩ := hi.env.slot d _ he
        obtain rfl := hr.scalar
        simp [yielded, hd, hu]
      · rename_i he
        obtain rfl := Option.some.inj hb
        obtain ⟨u, hu, hr⟩ := hi.env.slot d _ he
        obtain rfl := hr.scalar
        simp [yielded, hd, hu]
      · cases hb
    · cases hb

theorem tgt_ok (hi : In w X G μ N a σ) {o : Oper} {c : Call} {g : FuncId} {xs : List AV} (ho : o.op = .call c) (h : tgt G σ.env c = some (g, xs)) :
    ∃ vs : Array Value, (execOp a.eval o).run P w = (callFunc g vs).run P w ∧ vs.size = xs.length ∧ ∀ (i : Nat) (u : Value) (x : AV), vs[i]? = some u → xs[i]? = some x → RV w X μ u x := by
  unfold tgt at h
  split at h
  · rename_i f hf
    have key : ∀ (caps : List AV) (arr : Array Value) (ys : List AV), a.eval f = .func (.func g) #[] arr → arr.size = caps.length → (∀ (j : Nat) (u : Value) (c : AV), arr[j]? = some u → caps[j]? = some c → RV w X μ u c) → evalL G σ.env c.args.toList = some ys → xs = ys ++ caps →
        ∃ vs : Array Value, (execOp a.eval o).run P w = (callFunc g vs).run P w ∧ vs.size = xs.length ∧ ∀ (i : Nat) (u : Value) (x : AV), vs[i]? = some u → xs[i]? = some x → RV w X μ u x := by
      intro caps arr ys hfe hn hr hy hx
      obtain ⟨hl, hv⟩ := hi.evalL hy
      refine ⟨c.args.map a.eval ++ arr, ?_, ?_, fun i u x hu hxi => ?_⟩
      · simp [execOp, ho, resolve, hf, hfe, Deferred.ofValue, invoke]
      · simp only [List.length_map, Array.length_toList] at hl
        subst hx; simp [hl, hn]
      · subst hx
        have hl' : (c.args.map a.eval).size = ys.length := by simpa using hl
        rw [Array.getElem?_append] at hu
        rw [List.getElem?_append] at hxi
        split at hu
        · rename_i h1
          rw [if_pos (by omega)] at hxi
          exact hv i u x (by rw [← Array.toList_map, Array.getElem?_toList]; exact hu) hxi
        · rename_i h1
          rw [if_neg (by omega)] at hxi
          rw [hl'] at hu
          exact hr _ u x hu hxi
    split at h
    · rename_i g' caps ys he hy
      simp only [Option.some.injEq, Prod.mk.injEq] at h
      obtain ⟨rfl, rfl⟩ := h
      obtain ⟨arr, hfe, hn, hr⟩ := (hi.eval he).data.fn_inv
      exact key (caps.map .d) arr ys hfe (by simpa using hn) (RV.of_data hr) hy rfl
    · rename_i g' caps ys he hy
      simp only [Option.some.injEq, Prod.mk.injEq] at h
      obtain ⟨rfl, rfl⟩ := h
      obtain ⟨arr, hfe, hn, hr⟩ := (hi.eval he).fn_inv
      exact key caps arr ys hfe hn hr hy rfl
    · cases h
  · cases h

/-- One operation. -/
theorem ex1_ok (hg : Good P T) (hi : In w X G μ N a σ) {o : Oper} {K : St → Prop} (hd : ∀ d, o.dst = some d → d < N) (h : ex1 P T Mv X G N o σ K) {Q : Exit → Act → World → Prop} {next : Act → World → Prop}
    (hk : ∀ w' μ' a' σ', K σ' → In w' X G μ' N a' σ' → Ev Mv w μ w' μ' → next a' w') : o.wp P a w next Q := by
  unfold ex1 at h
  split at h
  · rename_i c hc
    have ho : o.op = .call c := by
      unfold isCall at hc
      split at hc
      · rename_i hop; rw [hop]; obtain rfl := Option.some.inj hc; rfl
      · cases hc
    split at h
    · rename_i g xs ht
      obtain ⟨vs, hr, hn, hv⟩ := tgt_ok (P := P) hi ho ht
      obtain ⟨hfun, hcall⟩ := h
      unfold Oper.wp
      rw [hr, hfun vs w]
      refine (hcall w μ a vs hi hn hv).mono fun e w' ⟨v, x, σ', μ', he, k, hin, hrv, hev⟩ => ?_
      subst he
      exact hk _ μ' _ _ k (hin.put hrv hd) hev
    · exact h.elim
  · unfold plainS at h
    split at h
    · split at h
      · rename_i c x σ' hw
        obtain ⟨hc, k⟩ := h
        obtain ⟨n, v, w', μ', hr, hn, hin, hrv, hev⟩ := wr_ok (Mv := Mv) hg hi hw hc hd
        unfold Oper.wp
        rw [hr]
        rcases hn with rfl | ⟨rfl, rfl⟩
        · exact hk _ μ' _ _ k (hin.put hrv hd) hev
        · exact hk _ μ' _ _ k (hin.put hrv hd) hev
      · exact h.elim
    · split at h
      · rename_i c x hw
        obtain ⟨hc, k⟩ := h
        obtain ⟨v, hr, hrv⟩ := rd_ok hg hi hw hc
        unfold Oper.wp
        rw [hr]
        exact hk _ μ _ _ k (hi.put hrv hd) (.refl _ w μ)
      · exact h.elim

theorem sxs_ok (hg : Good P T) {ops : Array Oper} {Q : Exit → St → Prop} {w0 : World} {μ0 : Mu} : ∀ (l : List Oper) (k : Nat) (w : World) (μ : Mu) (a : Act) (σ : St), (∀ j, l[j]? = ops[k + j]?) → sxs P T Mv X G N ops (fun σ' => Q .normal σ') l σ → In w X G μ N a σ → Ev Mv w0 μ0 w μ →
    wpOps P ops (After Mv X G N w0 μ0 Q) (List.range' k l.length) a w := by
  intro l
  induction l with
  | nil => intro k w μ a σ _ h hi hev; exact ⟨μ, σ, h, hi, hev⟩
  | cons o l ih =>
    intro k w μ a σ hl h hi hev
    have h0 : ops[k]? = some o := by simpa using (hl 0).symm
    have hl' : ∀ j, l[j]? = ops[k + 1 + j]? := fun j => by have := hl (j + 1); simpa [Nat.add_assoc, Nat.add_comm 1 j] using this
    obtain ⟨hd, h⟩ := h
    have hd' : ∀ d, o.dst = some d → d < N := fun d e => by unfold okDst at hd; rw [e] at hd; exact hd
    rw [List.length_cons, List.range'_succ]
    simp only [wpOps, h0]
    split at h
    · rename_i b hb
      rw [wantedS_ok hi hb]
      split at h
      · rename_i hbt
        subst hbt
        rw [if_pos rfl]
        exact .inl (ex1_ok hg hi hd' h fun w' μ' a' σ' k' hin hev' => ih (k + 1) w' μ' a' σ' hl' k' hin (hev.trans hev'))
      · rename_i hbf
        rw [if_neg (by simpa using hbf)]
        exact ih (k + 1) w μ _ _ hl' h (hi.put (.d (.v _)) hd') hev
    · exact h.elim

theorem AW_region (hg : Good P T) {id : Nat} {ops : Array Oper} {Q : Exit → St → Prop} (h : sxs P T Mv X G N ops (fun σ' => Q .normal σ') ops.toList σ) : AW P Mv X G N (.region id ops false) Q σ := fun w μ a hi => by
  refine wp_region ?_
  have := sxs_ok hg ops.toList 0 w μ a σ (by simp) h hi (.refl _ w μ)
  rwa [← List.range_eq_range', Array.length_toList] at this

/-! ### Calls by their contracts -/

/-- A function that only computes: data in, data out; nothing owned, nothing turned. -/
def PureC (P : Program) (G : Glob) (g : FuncId) (ds : List D) (y : D) : Prop :=
  Fun P g ∧ ∀ X, ACalls P (fun _ => True) X G g (ds.map .d) hno fun x H' => x = .d y ∧ H' = hno

/-- The same, and what it hands back is the caller's own: a slice. -/
def PureO (P : Program) (G : Glob) (g : FuncId) (ds : List D) (ty sz n : Nat) (els : List (List D)) : Prop :=
  Fun P g ∧ ∀ X, ACalls P (fun _ => True) X G g (ds.map .d) hno fun x H' => ∃ s, x = .own s 0 n ∧ H' = hup hno s (.sl ty sz els)

theorem Sim.none {X' : Nat → Prop} (h : ∀ b, X' b → b < w.heap.size) : Sim w X' (fun _ => .none) hno :=
  ⟨by simp [hno], by simp, by simp, by simp, h⟩

theorem RD.sub {X X' : Nat → Prop} (h : ∀ b, X' b → X b) {u : Value} {x : D} (hr : RD w X u x) : RD w X' u x := hr.mono (Nat.le_refl _) fun b _ hb => ⟨rfl, fun e => hb (h b e)⟩

theorem XX_none {X : Nat → Prop} {b : Nat} : XX X (fun _ => none) b ↔ X b := ⟨fun h => h.elim id (fun ⟨_, _, h, _⟩ => (by cases h)), .inl⟩

theorem Ev.grew {Mv : Nat → Prop} {w w' : World} {μ' : Mu} (h : Ev Mv w (fun _ => none) w' μ') : Grew w w' := ⟨h.size, h.os, h.tape, h.output, fun b hb => (h.same b hb fun ⟨_, _, h, _⟩ => by cases h).1⟩

theorem callS.pure {g : FuncId} {ds : List D} {y : D} (hc : PureC P G g ds y) {K : AV → St → Prop} (h : K (.d y) σ) : callS P Mv X G N g (ds.map .d) σ K := by
  refine ⟨hc.1, fun w μ a vs hi hn hv => ?_⟩
  refine (hc.2 (XX X μ) w (fun _ => none) vs (Sim.none fun b hb => hb.elim (hi.sim.fits b) hi.sim.blk_lt) (fun g x hx => (hi.glob g x hx).sub fun b => XX_none.1) hn fun i u x hu hx => ?_).mono ?_
  · rw [List.getElem?_map] at hx
    obtain ⟨d, hd, rfl⟩ := Option.map_eq_some_iff.1 hx
    exact .d ((hv i u (.d d) hu (by rw [List.getElem?_map, hd]; rfl)).data.sub fun b => XX_none.1)
  · rintro e w' ⟨v, x, H', μ', rfl, ⟨rfl, rfl⟩, hr, hs, hev⟩
    have hg := hev.grew
    obtain ⟨hin, hev2⟩ := hi.grew (Mv := Mv) hg
    refine ⟨v, .d y, σ, μ, rfl, h, hin, .d (hr.data.sub fun b hb => .inl hb), hev2⟩

theorem callS.pureO {g : FuncId} {ds : List D} {ty sz n : Nat} {els : List (List D)} (hc : PureO P G g ds ty sz n els) {d : Nat} (hd : σ.H d = none) {K : AV → St → Prop} (h : K (.own d 0 n) ⟨σ.env, hup σ.H d (.sl ty sz els)⟩) :
    callS P Mv X G N g (ds.map .d) σ K := by
  refine ⟨hc.1, fun w μ a vs hi hn hv => ?_⟩
  refine (hc.2 (XX X μ) w (fun _ => none) vs (Sim.none fun b hb => hb.elim (hi.sim.fits b) hi.sim.blk_lt) (fun g x hx => (hi.glob g x hx).sub fun b => XX_none.1) hn fun i u x hu hx => ?_).mono ?_
  · rw [List.getElem?_map] at hx
    obtain ⟨d, hd, rfl⟩ := Option.map_eq_some_iff.1 hx
    exact .d ((hv i u (.d d) hu (by rw [List.getElem?_map, hd]; rfl)).data.sub fun b => XX_none.1)
  · rintro e w' ⟨v, x, H', μ', rfl, ⟨s, rfl, rfl⟩, hr, hs, hev⟩
    have hgr := hev.grew
    obtain ⟨m, hm, hh⟩ := hr.own_inv
    obtain ⟨m', hm', ok⟩ := hs.rows s (.sl ty sz els) (by simp [hup])
    rw [hm] at hm'
    obtain rfl := Option.some.inj hm'
    have hnew : ∀ b, m.blk = some b → w.heap.size ≤ b := by
      intro b hb
      rcases Nat.lt_or_ge b w.heap.size with hlt | hge
      · exact absurd ⟨s, m, hm, hb⟩ (hev.same b hlt fun ⟨_, _, h, _⟩ => by cases h).2
      · exact hge
    obtain ⟨hin, hev2⟩ := hi.alloc (Mv := Mv) hd hgr (m := m) hnew (row := .sl ty sz els) fun ev => by
      have xsub : ∀ b, XX X (mup μ d m) b → XX (XX X μ) μ' b := by
        rintro b (h1 | ⟨q, mq, hq, hb⟩)
        · exact .inl (.inl h1)
        · unfold mup at hq
          split at hq
          · obtain rfl := Option.some.inj hq
            exact .inr ⟨s, _, hm, hb⟩
          · exact .inl (.inr ⟨q, mq, hq, hb⟩)
      cases ok with
      | nil h1 h2 => exact .nil h1 h2
      | sl h1 h2 h3 h4 h5 h6 h7 h8 h9 => exact .sl h1 h2 h3 h4 h5 h6 h7 h8 fun i j el c he hc => let ⟨u, hu, hr⟩ := h9 i j el c he hc; ⟨u, hu, hr.sub xsub⟩
    exact ⟨v, .own d 0 n, _, _, rfl, h, hin, .own (m := m) (by simp [mup]) hh, hev2⟩

/-! ### What is owned, lent to be read -/

def asDs (f : AV → Option D) : List AV → Option (List D)
  | [] => some []
  | x :: l => match f x, asDs f l with
    | some y, some ys => some (y :: ys)
    | _, _ => none

def asD (H : Heap) : Nat → AV → Option D
  | _, .d x => some x
  | 0, _ => none
  | _ + 1, .own r off n => match H r with
    | some (.sl _ _ els) => if off + n ≤ els.length then some (.sl none ((els.drop off).take n)) else none
    | _ => none
  | k + 1, .ref r e j => match H r with
    | some (.box _ cells) => if e = 0 then (asDs (asD H k) (cells.drop j)).map .ip else none
    | _ => none
  | k + 1, .agg cells => (asDs (asD H k) cells).map .agg
  | k + 1, .fn f caps => (asDs (asD H k) caps).map (.fn f)
  | k + 1, .tup cells => (asDs (asD H k) cells).map .tup
  | k + 1, .ifc t x => (asD H k x).map (.ifc t)
  | _, _ => none

theorem RD.weak {u : Value} {k : Option Bool} {els : List (List D)} (h : RD w X u (.sl k els)) : RD w X u (.sl none els) := by
  rcases h.sl_inv with ⟨rfl, rfl, _⟩ | ⟨a, cap, rfl, _, hc, hm, hr⟩
  · exact .nil (by simp)
  · rcases hr with rfl | ⟨b, off, sz, f, rfl, hX, hz, hs, hcell, hrr⟩
    · exact .empty (by simp) hm
    · by_cases h0 : els = []
      · subst h0; exact .empty (by simp) hm
      · exact .sl (by simp) rfl hc hm hX hs hz (List.length_pos_iff.2 h0) hcell hrr

theorem asDs_ok {f : AV → Option D} : ∀ {l : List AV} {ds : List D}, asDs f l = some ds → l.length = ds.length ∧ ∀ (j : Nat) (x : AV) (d : D), l[j]? = some x → ds[j]? = some d → f x = some d := by
  intro l
  induction l with
  | nil => intro ds h; simp only [asDs, Option.some.injEq] at h; subst h; exact ⟨rfl, by simp⟩
  | cons x l ih =>
    intro ds h
    simp only [asDs] at h
    split at h
    · rename_i y ys h1 h2
      obtain rfl := Option.some.inj h
      obtain ⟨hl, hr⟩ := ih h2
      refine ⟨by simp [hl], fun j x' d hx hd => ?_⟩
      cases j with
      | zero => simp at hx hd; subst hx hd; exact h1
      | succ j => simp at hx hd; exact hr j x' d hx hd
    · cases h

theorem asD_ok {H : Heap} (hs : Sim w X μ H) : ∀ (k : Nat) {x : AV} {d : D} {u : Value}, asD H k x = some d → RV w X μ u x → RD w X u d := by
  intro k
  induction k with
  | zero =>
    intro x d u h hu
    cases x <;> simp only [asD, Option.some.injEq, reduceCtorEq] at h
    subst h
    exact hu.data.sub fun b hb => .inl hb
  | succ k ih =>
    intro x d u h hu
    have many : ∀ {l : List AV} {ds : List D} {arr : Array Value}, asDs (asD H k) l = some ds → arr.size = l.length → (∀ (j : Nat) (u : Value) (c : AV), arr[j]? = some u → l[j]? = some c → RV w X μ u c) →
        arr.size = ds.length ∧ ∀ (j : Nat) (u : Value) (c : D), arr[j]? = some u → ds[j]? = some c → RD w X u c := by
      intro l ds arr hd hn hr
      obtain ⟨hl, hf⟩ := asDs_ok hd
      refine ⟨by omega, fun j u c hu hc => ?_⟩
      have hj := (List.getElem?_eq_some_iff.1 hc).1
      have hj' : j < l.length := by omega
      exact ih (hf j l[j] c (by simp [hj']) hc) (hr j u _ hu (by simp [hj']))
    cases x with
    | d x =>
      simp only [asD, Option.some.injEq] at h
      subst h
      exact hu.data.sub fun b hb => .inl hb
    | own r off n =>
      simp only [asD] at h
      split at h
      · rename_i ty sz els hr
        split at h
        · rename_i hle
          obtain rfl := Option.some.inj h
          obtain ⟨kk, hrd, _⟩ := own_reads (σ := ⟨fun _ => none, H⟩) hs hr hle hu
          exact (hrd.sub fun b hb => .inl hb).weak
        · cases h
      · cases h
    | ref r e j =>
      simp only [asD] at h
      split at h
      · rename_i ty cells hr
        split at h
        · rename_i he
          subst he
          obtain ⟨ds, hd, rfl⟩ := Option.map_eq_some_iff.1 h
          obtain ⟨m, b, hm, hb, rfl⟩ := hu.ref_inv
          obtain ⟨m', hm', ok⟩ := hs.rows r _ hr
          rw [hm] at hm'
          obtain rfl := Option.some.inj hm'
          cases ok with
          | box hb' hsz hcap hh hn hrr =>
            rename_i b' cur
            rw [hb] at hb'
            obtain rfl := Option.some.inj hb'
            obtain ⟨hl, hf⟩ := asDs_ok hd
            simp only [List.length_drop] at hl
            simp only [Nat.zero_mul, Nat.zero_add]
            refine .ip (f := fun i => cur.getD (j + i) undef) (hs.frame r m b hm hb) (Array.getElem?_eq_some_iff.1 hh).1 (fun i hi => ?_) fun i d hd' => ?_
            · rw [cell_of_row w b (j + i) cur ty (0, 0) hh]
              simp [Array.getD_eq_getD_getElem?, show j + i < cur.size by omega]
            · have hi := (List.getElem?_eq_some_iff.1 hd').1
              have hi' : j + i < cells.length := by omega
              have hi2 : j + i < cur.size := by omega
              refine ih (hf i cells[j + i] d (by rw [List.getElem?_drop]; simp [hi']) hd') (hrr (j + i) _ _ ?_ (by simp [hi']))
              simp [Array.getD_eq_getD_getElem?, hi2]
        · cases h
      · cases h
    | agg cells =>
      simp only [asD] at h
      obtain ⟨ds, hd, rfl⟩ := Option.map_eq_some_iff.1 h
      obtain ⟨arr, rfl, hn, hr⟩ := hu.agg_inv
      obtain ⟨h1, h2⟩ := many hd hn hr
      exact .agg h1 h2
    | fn f caps =>
      simp only [asD] at h
      obtain ⟨ds, hd, rfl⟩ := Option.map_eq_some_iff.1 h
      obtain ⟨arr, rfl, hn, hr⟩ := hu.fn_inv
      obtain ⟨h1, h2⟩ := many hd hn hr
      exact .fn h1 h2
    | tup cells =>
      simp only [asD] at h
      obtain ⟨ds, hd, rfl⟩ := Option.map_eq_some_iff.1 h
      obtain ⟨arr, rfl, hn, hr⟩ := hu.tup_inv
      obtain ⟨h1, h2⟩ := many hd hn hr
      exact .tup h1 h2
    | ifc t x =>
      simp only [asD] at h
      obtain ⟨d', hd, rfl⟩ := Option.map_eq_some_iff.1 h
      obtain ⟨v, rfl, hr⟩ := hu.ifc_inv
      exact .ifc (ih hd hr)
    | _ => simp [asD] at h

def D.scalar : D → Bool
  | .v _ => true
  | .tup l => l.all fun | .v _ => true | _ => false
  | _ => false

theorem RD.scal {X X' : Nat → Prop} {w w' : World} {u : Value} {x : D} (h : RD w X u x) (hs : x.scalar = true) : RD w' X' u x := by
  cases x with
  | v x => obtain rfl := h.scalar; exact .v _
  | tup l =>
    obtain ⟨arr, rfl, hn, hr⟩ := h.tup_inv
    refine .tup hn fun j u c hu hc => ?_
    have := List.all_eq_true.1 hs c (List.mem_of_getElem? hc)
    cases c with
    | v x => obtain rfl := (hr j u _ hu hc).scalar; exact .v _
    | _ => cases this
  | _ => cases hs

/-- Arguments that are owned are lent: the answer is a number, a bool, ... -/
theorem callS.lend {g : FuncId} {xs : List AV} {ds : List D} {y : D} (hd : asDs (asD σ.H 4) xs = some ds) (hc : PureC P G g ds y) (hy : y.scalar = true) {K : AV → St → Prop} (h : K (.d y) σ) : callS P Mv X G N g xs σ K := by
  refine ⟨hc.1, fun w μ a vs hi hn hv => ?_⟩
  obtain ⟨hl, hf⟩ := asDs_ok hd
  refine (hc.2 X w (fun _ => none) vs (Sim.none hi.sim.fits) (fun g x hx => (hi.glob g x hx).sub fun b hb => .inl (XX_none.1 hb)) (by rw [List.length_map]; omega) fun i u x hu hx => ?_).mono ?_
  · rw [List.getElem?_map] at hx
    obtain ⟨d, hd', rfl⟩ := Option.map_eq_some_iff.1 hx
    have hj := (List.getElem?_eq_some_iff.1 hd').1
    have hj' : i < xs.length := by omega
    exact .d ((asD_ok hi.sim 4 (hf i xs[i] d (by simp [hj']) hd') (hv i u _ hu (by simp [hj']))).sub fun b => XX_none.1)
  · rintro e w' ⟨v, x, H', μ', rfl, ⟨rfl, rfl⟩, hr, hs, hev⟩
    obtain ⟨hin, hev2⟩ := hi.grew (Mv := Mv) hev.grew
    exact ⟨v, .d y, σ, μ, rfl, h, hin, .d (hr.data.scal hy), hev2⟩
end
end Go.Av
