/-
  A region's operations, one behind the other, on abstract states; calls by their contracts.
-/
import Derived.Test.YtoikggboakojlaaDoorAv8
namespace Go.Av

def evalL (G : Glob) (e : Env) : List Operand → Option (List AV)
  | [] => some []
  | o :: l => match aeval G e o, evalL G e l with
    | some x, some xs => some (x :: xs)
    | _, _ => none

def evalP (G : Glob) (e : Env) : List (Nat × Operand) → Option (List (Nat × AV))
  | [] => some []
  | (i, o) :: l => match aeval G e o, evalP G e l with
    | some x, some xs => some ((i, x) :: xs)
    | _, _ => none

/-- Operations that only yield a value. -/
def rd (T : Ty) (G : Glob) (σ : St) : Op → Ans
  | .move x => (aeval G σ.env x).map fun v => (True, v)
  | .assign x => (aeval G σ.env x).map fun v => (True, v)
  | .binOp op t x y _ => match aeval G σ.env x, aeval G σ.env y with
    | some a, some b => binA T op t y a b
    | _, _ => none
  | .unOp op _ x => (aeval G σ.env x).bind (unA op)
  | .load t x => (aeval G σ.env x).bind (loadA T σ.H t)
  | .fieldAddr t x f => (aeval G σ.env x).bind (fieldAddrA T t f)
  | .field t x f => (aeval G σ.env x).bind (fieldA T t f)
  | .indexAddr t x i => match aeval G σ.env x, aeval G σ.env i with
    | some a, some b => indexA T σ.H t a b
    | _, _ => none
  | .index t x i => match aeval G σ.env x, aeval G σ.env i with
    | some a, some b => indexStrA T t a b
    | _, _ => none
  | .extract x i => (aeval G σ.env x).bind (extractA i)
  | .makeInterface t x => (aeval G σ.env x).bind (makeIfaceA T t)
  | .makeFunc f first caps => if first.isEmpty then (evalL G σ.env caps.toList).map fun cs => (True, mkFn f cs) else none
  | .pick c x y => match aeval G σ.env c, aeval G σ.env x, aeval G σ.env y with
    | some (.d (.v (.bool b))), some a1, some a2 => some (True, if b then a1 else a2)
    | _, _, _ => none
  | .nilCheck x => (aeval G σ.env x).bind nilCheckA
  | .build t parts => (evalP G σ.env parts.toList).bind (buildA T t)
  | .convert src dst x => if (T src).isSome then (aeval G σ.env x).bind (convA T dst) else none
  | .slice t x lo hi mx => if mx.isNone then match aeval G σ.env x, bound G σ.env lo, bound G σ.env hi with
      | some v, some l, some h => sliceA T σ.H t v l h
      | _, _, _ => none
    else none
  | .call { callee := .builtin .len, args, argTypes } => match args.toList, argTypes.toList with
    | [x], [t] => (aeval G σ.env x).bind (lenA T t)
    | _, _ => none
  | _ => none

/-- Operations that make or write memory: the condition, what is yielded, the state (ahead of the slot's writing). -/
def wr (T : Ty) (G : Glob) (Mv : Nat → Prop) (σ : St) (o : Oper) : Option (Prop × AV × St) := match o.op, o.dst with
  | .alloc t, some d => match T t with
    | some ti => some (σ.H d = none, .ref d 0 0, ⟨σ.env, hup σ.H d (.box t ((zeroD ti.zero).map .d))⟩)
    | none => none
  | .box t x, some d => match (aeval G σ.env x).bind valCells with
    | some cs => some (σ.H d = none, .ref d 0 0, ⟨σ.env, hup σ.H d (.box t cs)⟩)
    | none => none
  | .store t x y, none => match aeval G σ.env x, aeval G σ.env y with
    | some (.ref r e j), some v => match σ.H r with
      | some (.box ty cells) => if e = 0 then match storeBox T t cells j v with
          | some (c, cells') => some (c, .dead, ⟨σ.env, hup σ.H r (.box ty cells')⟩)
          | none => none
        else none
      | some (.sl ty sz els) => match storeSl T t sz els e j v with
        | some (c, els') => some (c, .dead, ⟨σ.env, hup σ.H r (.sl ty sz els')⟩)
        | none => none
      | none => none
    | _, _ => none
  | .makeSlice t l c, some d => match T t with
    | some tt => match tt.desc with
      | .slice e => match T e, aeval G σ.env l, aeval G σ.env c with
        | some te, some (.d (.v (.int _ n))), some (.d (.v (.int _ m))) => some (σ.H d = none ∧ 0 ≤ n ∧ n ≤ m ∧ te.bytes * m ≤ 281474976710656 ∧ m ≤ 9223372036854775807 ∧ 0 < te.size ∧ (zeroD te.zero).length = te.size, .own d 0 n.toNat, ⟨σ.env, hup σ.H d (.sl e te.size (makeEls te n.toNat))⟩)
        | _, _, _ => none
      | _ => none
    | none => none
  | .buildSlice t len parts, some d => match T t with
    | some tt => match tt.desc with
      | .slice e => match T e, evalP G σ.env parts.toList with
        | some te, some ps => match catD te.size 0 ps with
          | some els => some (σ.H d = none ∧ ps.length = len ∧ 0 < te.size ∧ len * te.size ≤ 16777216, .own d 0 len, ⟨σ.env, hup σ.H d (.sl e te.size els)⟩)
          | none => none
        | _, _ => none
      | _ => none
    | none => none
  | .call { callee := .builtin .append, args, argTypes }, some d => match args.toList, argTypes.toList with
    | [x, y], [t, t'] => if t = t' then match T t with
      | some tt => match tt.desc with
        | .slice e => match T e, aeval G σ.env x, aeval G σ.env y with
          | some te, some (.own r off n), some v => match σ.H r, newsOf σ.H r v with
            | some (.sl ty sz els), some news => some (off = 0 ∧ Mv r ∧ ty = e ∧ sz = te.size ∧ n ≤ els.length ∧ (∀ el ∈ news, el.length = te.size) ∧ (∀ el ∈ news, ∀ c ∈ el, D.one c = true) ∧ 0 < te.size ∧ (zeroD te.zero).length = te.size ∧ n + news.length ≤ 9223372036854775807 ∧ (n + news.length) * te.bytes ≤ 140737488355328,
                .own r 0 (n + news.length), ⟨killE r σ.env, hup (killH r σ.H) r (.sl e te.size (els.take n ++ news))⟩)
            | _, _ => none
          | some te, some (.d (.sl (some false) [])), some v => match newsOf σ.H d v with
            | some news => some (σ.H d = none ∧ Mv d ∧ (∀ el ∈ news, el.length = te.size) ∧ (∀ el ∈ news, ∀ c ∈ el, D.one c = true) ∧ 0 < te.size ∧ (zeroD te.zero).length = te.size ∧ news.length ≤ 9223372036854775807 ∧ news.length * te.bytes ≤ 140737488355328,
                .own d 0 news.length, ⟨σ.env, hup σ.H d (.sl e te.size news)⟩)
            | none => none
          | _, _, _ => none
        | _ => none
      | none => none
    else none
    | _, _ => none
  | _, _ => none

def putd (e : Env) (dst : Option Tmp) (x : AV) : Env := match dst with
  | some d => upd e d x
  | none => e

section
variable {P : Program} {T : Ty} {Mv X : Nat → Prop} {G : Glob} {N : Nat} {w : World} {μ : Mu} {a : Act} {σ : St}

theorem In.put (hi : In w X G μ N a σ) {u : Value} {x : AV} (hx : RV w X μ u x) {dst : Option Tmp} (hd : ∀ d, dst = some d → d < N) : In w X G μ N (a.put dst u) ⟨putd σ.env dst x, σ.H⟩ := by
  cases dst with
  | none => exact hi
  | some d =>
    have hlt : d < a.tmps.size := by rw [hi.env.size]; exact hd d rfl
    refine ⟨hi.sim, ⟨hi.env.defers, by simp [Act.put, hi.env.size], fun i y hy => ?_⟩, hi.glob⟩
    simp only [putd, upd] at hy
    split at hy
    · rename_i e
      subst e
      obtain rfl := Option.some.inj hy
      exact ⟨u, by simp [Act.put, hlt], hx⟩
    · rename_i e
      obtain ⟨v, hv, hr⟩ := hi.env.slot i y hy
      exact ⟨v, by simp only [Act.put]; rw [Array.getElem?_setIfInBounds_ne (Ne.symm e)]; exact hv, hr⟩

theorem In.evalL (hi : In w X G μ N a σ) : ∀ {l : List Operand} {xs : List AV}, evalL G σ.env l = some xs → (l.map a.eval).length = xs.length ∧ ∀ (i : Nat) (u : Value) (x : AV), (l.map a.eval)[i]? = some u → xs[i]? = some x → RV w X μ u x := by
  intro l
  induction l with
  | nil => intro xs h; simp only [Go.Av.evalL, Option.some.injEq] at h; subst h; exact ⟨rfl, by simp⟩
  | cons o l ih =>
    intro xs h
    simp only [Go.Av.evalL] at h
    split at h
    · rename_i x xs' h1 h2
      obtain rfl := Option.some.inj h
      obtain ⟨hl, hr⟩ := ih h2
      refine ⟨by simpa using hl, fun i u y hu hy => ?_⟩
      cases i with
      | zero => simp at hu hy; subst hu hy; exact hi.eval h1
      | succ i => simp at hu hy; exact hr i u y (by simpa using hu) hy
    · cases h

theorem In.evalP (hi : In w X G μ N a σ) : ∀ {l : List (Nat × Operand)} {xs : List (Nat × AV)}, evalP G σ.env l = some xs → (l.map fun p => (p.1, a.eval p.2)).map (·.1) = xs.map (·.1) ∧
    ∀ (i : Nat) (p : Nat × AV) (v : Nat × Value), xs[i]? = some p → (l.map fun p => (p.1, a.eval p.2))[i]? = some v → RV w X μ v.2 p.2 := by
  intro l
  induction l with
  | nil => intro xs h; simp only [Go.Av.evalP, Option.some.injEq] at h; subst h; exact ⟨rfl, by simp⟩
  | cons o l ih =>
    intro xs h
    obtain ⟨k, o⟩ := o
    simp only [Go.Av.evalP] at h
    split at h
    · rename_i x xs' h1 h2
      obtain rfl := Option.some.inj h
      obtain ⟨hl, hr⟩ := ih h2
      refine ⟨by simpa using hl, fun i p v hp hv => ?_⟩
      cases i with
      | zero => simp at hp hv; subst hp hv; exact hi.eval h1
      | succ i => simp at hp hv; exact hr i p v hp (by simpa using hv)
    · cases h

theorem In.bound (hi : In w X G μ N a σ) {o : Option Operand} {l : Option Int} (h : bound G σ.env o = some l) : (o.map a.eval = none ∧ l = none) ∨ ∃ k n, o.map a.eval = some (.int k n) ∧ l = some n := by
  unfold Go.Av.bound at h
  split at h
  · obtain rfl := Option.some.inj h; exact .inl ⟨rfl, rfl⟩
  · split at h
    · rename_i k n he
      obtain rfl := Option.some.inj h
      exact .inr ⟨k, n, by simp [(hi.eval he).scalar], rfl⟩
    · cases h

theorem rd_ok (hg : Good P T) (hi : In w X G μ N a σ) {o : Oper} {c : Prop} {x : AV} (h : rd T G σ o.op = some (c, x)) (hc : c) : ∃ v, (execOp a.eval o).run P w = .ok (.value v) w ∧ RV w X μ v x := by
  have lift : ∀ {s : Sem Value} , (∃ v, s.run P w = .ok v w ∧ RV w X μ v x) → ∃ v, (do pure (.value (← s)) : Sem Next).run P w = .ok (.value v) w ∧ RV w X μ v x := by
    rintro s ⟨v, hv, hr⟩
    exact ⟨v, by simp [hv], hr⟩
  obtain ⟨dst, op, type, pos, after, guard⟩ := o
  dsimp only at h
  unfold rd at h
  split at h
  · obtain ⟨y, hy, he⟩ := Option.map_eq_some_iff.1 h
    simp only [Prod.mk.injEq] at he
    obtain ⟨rfl, rfl⟩ := he
    exact ⟨_, rfl, hi.eval hy⟩
  · obtain ⟨y, hy, he⟩ := Option.map_eq_some_iff.1 h
    simp only [Prod.mk.injEq] at he
    obtain ⟨rfl, rfl⟩ := he
    exact ⟨_, rfl, hi.eval hy⟩
  · split at h
    · rename_i h1 h2
      exact lift (binA_ok hg hi h1 h2 h hc)
    · cases h
  · obtain ⟨y, hy, he⟩ := Option.bind_eq_some_iff.1 h
    exact lift (unA_ok he hc (hi.eval hy))
  · obtain ⟨y, hy, he⟩ := Option.bind_eq_some_iff.1 h
    exact lift (loadA_ok hg hi.sim he hc (hi.eval hy))
  · obtain ⟨y, hy, he⟩ := Option.bind_eq_some_iff.1 h
    exact lift (fieldAddrA_ok hg he hc (hi.eval hy))
  · obtain ⟨y, hy, he⟩ := Option.bind_eq_some_iff.1 h
    exact lift (fieldA_ok hg he hc (hi.eval hy))
  · split at h
    · rename_i h1 h2
      exact lift (indexA_ok hg hi.sim h hc (hi.eval h1) (hi.eval h2))
    · cases h
  · split at h
    · rename_i h1 h2
      exact lift (indexStrA_ok hg h hc (hi.eval h1) (hi.eval h2))
    · cases h
  · obtain ⟨y, hy, he⟩ := Option.bind_eq_some_iff.1 h
    exact lift (extractA_ok he (hi.eval hy))
  · obtain ⟨y, hy, he⟩ := Option.bind_eq_some_iff.1 h
    exact lift (makeIfaceA_ok hg he (hi.eval hy))
  · split at h
    · rename_i f first caps hf
      obtain ⟨y, hy, he⟩ := Option.map_eq_some_iff.1 h
      simp only [Prod.mk.injEq] at he
      obtain ⟨rfl, rfl⟩ := he
      obtain ⟨hl, hr⟩ := hi.evalL hy
      have hf' : first = #[] := by simpa using hf
      subst hf'
      refine ⟨.func f #[] (caps.map a.eval), by simp [execOp, Instr.makeFunc], mkFn_ok (by simpa using hl) fun j u c hu hc => hr j u c (by simpa using hu) hc⟩
    · cases h
  · split at h
    · rename_i b a1 a2 h0 h1 h2
      simp only [Option.some.injEq, Prod.mk.injEq] at h
      obtain ⟨rfl, rfl⟩ := h
      have hb := (hi.eval h0).scalar
      refine ⟨if b then a.eval _ else a.eval _, by simp [execOp, hb, asBool]; cases b <;> rfl, ?_⟩
      cases b
      · exact hi.eval h2
      · exact hi.eval h1
    · cases h
  · obtain ⟨y, hy, he⟩ := Option.bind_eq_some_iff.1 h
    obtain ⟨⟨ad, had⟩, hr⟩ := nilCheckA_ok he (hi.eval hy)
    exact ⟨.pointer (some ad), by simp [execOp, had], by rw [← had]; exact hr⟩
  · rename_i t parts
    obtain ⟨ps, hps, he⟩ := Option.bind_eq_some_iff.1 h
    obtain ⟨h1, h2⟩ := hi.evalP hps
    refine lift (buildA_ok (vs := parts.map fun p => (p.1, a.eval p.2)) hg he (by simpa using h1) fun i p v hp hv => h2 i p v hp ?_)
    rw [← Array.getElem?_toList] at hv
    simpa using hv
  · split at h
    · rename_i hs
      obtain ⟨y, hy, he⟩ := Option.bind_eq_some_iff.1 h
      exact lift (convA_ok hg hs he hc (hi.eval hy))
    · cases h
  · split at h
    · rename_i mx hmx
      split at h
      · rename_i v l hh h1 h2 h3
        cases mx with
        | some _ => simp at hmx
        | none => exact lift (sliceA_ok hg hi.sim h hc (hi.eval h1) (hi.bound h2) (hi.bound h3))
      · cases h
    · cases h
  · split at h
    · rename_i args argTypes _ _ x0 t ha ht
      obtain ⟨y, hy, he⟩ := Option.bind_eq_some_iff.1 h
      obtain ⟨r, hr, hrv⟩ := lenA_ok (ty := type) hg he (hi.eval hy)
      have e1 : args = #[x0] := Array.toList_inj.1 ha
      have e2 : argTypes = #[t] := Array.toList_inj.1 ht
      subst e1 e2
      exact ⟨r, by simp [execOp, resolve, invoke, builtin, hr], hrv⟩
    · cases h
  · cases h

/-- Handles on a row that is not there are not there. -/
theorem RV.nokill {u : Value} {x : AV} {r : Nat} (h : RV w X μ u x) (hr : μ r = none) : x.kill r = x := by
  have lst : ∀ (l : List AV), (∀ c ∈ l, c.kill r = c) → l.map (AV.kill r) = l := by
    intro l hl
    induction l with
    | nil => rfl
    | cons c l ih => simp only [List.map_cons]; rw [hl c (by simp), ih fun c hc => hl c (by simp [hc])]
  have arr : ∀ (arr : Array Value) (cells : List AV), arr.size = cells.length → (∀ (j : Nat) (u : Value) (c : AV), arr[j]? = some u → cells[j]? = some c → c.kill r = c) → cells.map (AV.kill r) = cells := by
    intro arr cells hn hh
    refine lst cells fun c hc => ?_
    obtain ⟨j, hj, rfl⟩ := List.mem_iff_getElem.1 hc
    exact hh j arr[j] _ (by simp [hn, hj]) (by simp [hj])
  induction h with
  | d h => rfl
  | own hm _ =>
    rename_i u q off n m
    unfold AV.kill
    rw [if_neg]
    intro e; subst e; rw [hr] at hm; cases hm
  | ref hm _ =>
    rename_i q e j b m
    unfold AV.kill
    rw [if_neg]
    intro e; subst e; rw [hr] at hm; cases hm
  | agg hn _ ih => rw [AV.kill, AV.go_eq, arr _ _ hn ih]
  | tup hn _ ih => rw [AV.kill, AV.go_eq, arr _ _ hn ih]
  | ifc _ ih => rw [AV.kill, ih]
  | fn hn _ ih => rw [AV.kill, AV.go_eq, arr _ _ hn ih]
  | dead u => rfl

theorem In.nokill (hi : In w X G μ N a σ) {r : Nat} (hr : σ.H r = none) : killE r σ.env = σ.env ∧ killH r σ.H = σ.H := by
  have hn := hi.sim.none_of hr
  constructor
  · funext i
    unfold killE
    cases he : σ.env i with
    | none => rfl
    | some x =>
      obtain ⟨u, _, hx⟩ := hi.env.slot i x he
      simp [hx.nokill hn]
  · funext q
    unfold killH
    cases hq : σ.H q with
    | none => rfl
    | some row =>
      obtain ⟨m, hm, ok⟩ := hi.sim.rows q row hq
      cases ok with
      | nil => rfl
      | sl => rfl
      | box hb hsz hc hh hn' hrr =>
        rename_i ty b cells cur
        have : cells.map (AV.kill r) = cells := by
          have := (RV.agg (w := w) (X := X) (μ := μ) hn' hrr).nokill hn
          rw [AV.kill, AV.go_eq] at this
          exact AV.agg.inj this
        simp [Row.kill, this]

theorem wr_ok (hg : Good P T) (hi : In w X G μ N a σ) {o : Oper} {c : Prop} {x : AV} {σ1 : St} (h : wr T G Mv σ o = some (c, x, σ1)) (hc : c) (hd : ∀ d, o.dst = some d → d < N) :
    ∃ n v w' μ', (execOp a.eval o).run P w = .ok n w' ∧ (n = .value v ∨ (n = .skip ∧ v = undef)) ∧ In w' X G μ' N a σ1 ∧ RV w' X μ' v x ∧ Ev Mv w μ w' μ' := by
  have lift : ∀ {s : Sem Value} {x : AV} {σ1 : St}, Does Mv X G N w μ a (s.run P w) x σ1 → ∃ n v w' μ', (do pure (.value (← s)) : Sem Next).run P w = .ok n w' ∧ (n = .value v ∨ (n = .skip ∧ v = undef)) ∧ In w' X G μ' N a σ1 ∧ RV w' X μ' v x ∧ Ev Mv w μ w' μ' := by
    rintro s x σ1 ⟨v, w', μ', hr, rest⟩
    exact ⟨.value v, v, w', μ', by simp [hr], .inl rfl, rest⟩
  obtain ⟨dst, op, type, pos, after, guard⟩ := o
  dsimp only at h hd
  unfold wr at h
  dsimp only at h
  split at h
  · split at h
    · rename_i ti ht
      simp only [Option.some.injEq, Prod.mk.injEq] at h
      obtain ⟨rfl, rfl, rfl⟩ := h
      exact lift (allocA_ok hg hi hc ht)
    · cases h
  · split at h
    · rename_i cs hcs
      obtain ⟨y, hy, he⟩ := Option.bind_eq_some_iff.1 hcs
      simp only [Option.some.injEq, Prod.mk.injEq] at h
      obtain ⟨rfl, rfl, rfl⟩ := h
      exact lift (boxA_ok hi hc (hi.eval hy) he)
    · cases h
  · split at h
    · rename_i r e j v h1 h2
      split at h
      · rename_i ty cells hH
        split at h
        · rename_i he
          subst he
          split at h
          · rename_i c' cells' hs
            simp only [Option.some.injEq, Prod.mk.injEq] at h
            obtain ⟨rfl, rfl, rfl⟩ := h
            obtain ⟨w', hr, hin, hev⟩ := storeBox_ok (Mv := Mv) hg hi hH hs hc (hi.eval h1) (hi.eval h2)
            exact ⟨.skip, undef, w', μ, by simp [execOp, hr], .inr ⟨rfl, rfl⟩, hin, .dead _, hev⟩
          · cases h
        · cases h
      · rename_i ty sz els hH
        split at h
        · rename_i c' els' hs
          simp only [Option.some.injEq, Prod.mk.injEq] at h
          obtain ⟨rfl, rfl, rfl⟩ := h
          obtain ⟨w', hr, hin, hev⟩ := storeSl_ok (Mv := Mv) hg hi hH hs hc (hi.eval h1) (hi.eval h2)
          exact ⟨.skip, undef, w', μ, by simp [execOp, hr], .inr ⟨rfl, rfl⟩, hin, .dead _, hev⟩
        · cases h
      · cases h
    · cases h
  · split at h
    · rename_i tt htt
      split at h
      · rename_i e hdd
        split at h
        · rename_i te kn n km m hte h1 h2
          simp only [Option.some.injEq, Prod.mk.injEq] at h
          obtain ⟨rfl, rfl, rfl⟩ := h
          obtain ⟨g1, g2, g3, g4, g5, g6, g7⟩ := hc
          have := makeA_ok (Mv := Mv) hg hi g1 htt hdd hte (k1 := kn) (k2 := km) g2 g3 g4 g5 g6 g7
          rw [← (hi.eval h1).scalar, ← (hi.eval h2).scalar] at this
          exact lift this
        · cases h
      · cases h
    · cases h
  · split at h
    · rename_i tt htt
      split at h
      · rename_i e hdd
        split at h
        · rename_i te ps hte hps
          split at h
          · rename_i els hels
            simp only [Option.some.injEq, Prod.mk.injEq] at h
            obtain ⟨rfl, rfl, rfl⟩ := h
            obtain ⟨g1, g2, g3, g4⟩ := hc
            obtain ⟨hv, hr⟩ := hi.evalP hps
            exact lift (buildSliceA_ok (Mv := Mv) hg hi g1 htt hdd hte hels g2 (by simpa using hv) (fun i p v h1 h2 => hr i p v h1 (by simpa using h2)) g3 g4)
          · cases h
        · cases h
      · cases h
    · cases h
  · split at h
    · rename_i args argTypes d _ _ x0 y0 t t' ha ht
      have e1 : args = #[x0, y0] := Array.toList_inj.1 ha
      have e2 : argTypes = #[t, t'] := Array.toList_inj.1 ht
      subst e1 e2
      split at h
      · rename_i htt'
        subst htt'
        have run_eq : ∀ {x : AV} {σ1 : St}, Does Mv X G N w μ a ((Builtin.append_ #[t, t] type #[a.eval x0, a.eval y0]).run P w) x σ1 → ∃ n v w' μ', (execOp a.eval { dst := some d, op := .call { callee := .builtin .append, args := ⟨[x0, y0]⟩, argTypes := ⟨[t, t]⟩ }, type := type, pos := pos, after := after, guard := guard }).run P w = .ok n w' ∧ (n = .value v ∨ (n = .skip ∧ v = undef)) ∧ In w' X G μ' N a σ1 ∧ RV w' X μ' v x ∧ Ev Mv w μ w' μ' := by
          rintro x σ1 ⟨v, w', μ', hr, rest⟩
          exact ⟨.value v, v, w', μ', by simp [execOp, resolve, invoke, builtin, hr], .inl rfl, rest⟩
        split at h
        · rename_i tt htt
          split at h
          · rename_i e hdd
            split at h
            · rename_i te r off n v hte h1 h2
              split at h
              · rename_i ty sz els news hH hn
                simp only [Option.some.injEq, Prod.mk.injEq] at h
                obtain ⟨rfl, rfl, rfl⟩ := h
                obtain ⟨rfl, g1, rfl, rfl, g2, g3, g4, g5, g6, g7, g8⟩ := hc
                exact run_eq (appendA_ok (Mv := Mv) hg hi g1 htt hdd hte hH g2 (hi.eval h1) (newsOf_ok hi.sim (hi.eval h2) hn g3 g5 g4) g5 g6 (by unfold maxLen; omega) g8)
              · cases h
            · rename_i te v hte h1 h2
              split at h
              · rename_i news hn
                simp only [Option.some.injEq, Prod.mk.injEq] at h
                obtain ⟨rfl, rfl, rfl⟩ := h
                obtain ⟨g0, g1, g3, g4, g5, g6, g7, g8⟩ := hc
                -- the nil slice becomes a row of its own
                obtain ⟨hin, hev⟩ := hi.alloc (Mv := Mv) g0 (Grew.refl w) (m := ⟨none, te.size, 0⟩) (by simp) (row := .sl e te.size []) fun _ => .nil rfl rfl
                have hu : RV w X (mup μ d ⟨none, te.size, 0⟩) (a.eval x0) (.own d 0 0) := by
                  have := (hi.eval h1).data.sl_inv
                  rcases this with ⟨hh, _⟩ | ⟨ad, cap, hh, hk, _⟩
                  · rw [hh]; exact .own (m := ⟨none, te.size, 0⟩) (by simp [mup]) (.inl ⟨rfl, rfl, rfl, rfl⟩)
                  · exact absurd rfl hk
                have hn' : newsOf (hup σ.H d (.sl e te.size [])) d v = some news := by
                  unfold newsOf at hn ⊢
                  split at hn <;> first | exact hn | skip
                  rename_i q off n
                  split at hn
                  · cases hn
                  · rename_i hq
                    rw [if_neg hq]
                    simpa [hup, hq] using hn
                have hv2 : RV w X (mup μ d ⟨none, te.size, 0⟩) (a.eval y0) v := by
                  refine (hi.eval h2).same hev fun q m hq => ?_
                  unfold mup
                  split
                  · rename_i e'; subst e'; rw [hi.sim.none_of g0] at hq; cases hq
                  · exact hq
                have happ := appendA_ok (Mv := Mv) (ty := type) hg hin g1 htt hdd hte (r := d) (n := 0) (els := []) (news := news) (by simp [hup]) (by simp) hu (newsOf_ok hin.sim hv2 hn' g3 g5 g4) g5 g6 (by unfold maxLen; omega) (by simpa using g8)
                obtain ⟨v', w', μ', hr, hin', hrv, hev'⟩ := happ
                refine run_eq ⟨v', w', μ', hr, ?_, by simpa using hrv, hev.trans hev'⟩
                obtain ⟨k1, k2⟩ := hi.nokill g0
                have e1 : killH d (hup σ.H d (.sl e te.size [])) = hup σ.H d (.sl e te.size []) := by
                  funext q
                  by_cases hq : q = d
                  · simp [killH, hup, hq, Row.kill]
                  · have := congrFun k2 q
                    simpa [killH, hup, hq] using this
                have e2 : hup (hup σ.H d (.sl e te.size [])) d (.sl e te.size ([].take 0 ++ news)) = hup σ.H d (.sl e te.size news) := by
                  funext q
                  by_cases hq : q = d <;> simp [hup, hq]
                dsimp only at hin'
                rw [k1, e1, e2] at hin'
                exact hin'
              · cases h
            · cases h
          · cases h
        · cases h
      · cases h
    · cases h
  · cases h
end
end Go.Av
