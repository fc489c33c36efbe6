/-
  Regions that draw their order and append to several rows: labels say which row an append moves, and which one it takes from.
-/
import Derived.Test.YtoikggboakojlaaDoorAv15
namespace Go.Av

section
variable {P : Program} {T : Ty} {Mv X : Nat → Prop} {G : Glob} {N : Nat} {ops : Array Oper}

/-! ### An append, as one knows it -/

def appOps (o : Oper) : Option (Operand × Operand) := match o.op with
  | .call { callee := .builtin .append, args, argTypes } => match args.toList, argTypes.toList with
    | [x, y], [_, _] => some (x, y)
    | _, _ => none
  | _ => none

def appV (T : Ty) (Mv : Nat → Prop) (o : Oper) (r off n ty sz : Nat) (els news : List (List D)) : Option (Prop × Nat × Row) := match o.op, o.dst with
  | .call { callee := .builtin .append, args, argTypes }, some _ => match args.toList, argTypes.toList with
    | [_, _], [t, t'] => if t = t' then match T t with
      | some tt => match tt.desc with
        | .slice e => match T e with
          | some te => some (off = 0 ∧ Mv r ∧ ty = e ∧ sz = te.size ∧ n ≤ els.length ∧ (∀ el ∈ news, el.length = te.size) ∧ (∀ el ∈ news, ∀ c ∈ el, D.one c = true) ∧ 0 < te.size ∧ (zeroD te.zero).length = te.size ∧ n + news.length ≤ 9223372036854775807 ∧ (n + news.length) * te.bytes ≤ 140737488355328,
              n + news.length, .sl e te.size (els.take n ++ news))
          | none => none
        | _ => none
      | none => none
    else none
    | _, _ => none
  | _, _ => none

/-- The row that is taken from is s, if any. -/
def fromRow (s : Nat) : AV → Prop
  | .own q _ _ => q = s
  | _ => True

def AppS (T : Ty) (G : Glob) (Mv : Nat → Prop) (o : Oper) (e : Env) (H : Heap) (r s m : Nat) (row : Row) : Prop :=
  ∃ x y off n v ty sz els news c, appOps o = some (x, y) ∧ aeval G e x = some (.own r off n) ∧ aeval G e y = some v ∧ fromRow s v ∧ H r = some (.sl ty sz els) ∧ newsOf H r v = some news ∧ appV T Mv o r off n ty sz els news = some (c, m, row) ∧ c

theorem appOps_op {o : Oper} {x y : Operand} (h : appOps o = some (x, y)) : ∃ t t', o.op = .call { callee := .builtin .append, args := #[x, y], argTypes := #[t, t'] } := by
  unfold appOps at h
  split at h
  · rename_i args argTypes hop
    split at h
    · rename_i x' y' t t' ha ht
      simp only [Option.some.injEq, Prod.mk.injEq] at h
      obtain ⟨rfl, rfl⟩ := h
      have e1 : args = #[x', y'] := Array.toList_inj.1 ha
      have e2 : argTypes = #[t, t'] := Array.toList_inj.1 ht
      exact ⟨t, t', by rw [hop, e1, e2]⟩
    · cases h
  · cases h

theorem AppS.row {o : Oper} {e : Env} {H : Heap} {r s m : Nat} {row : Row} (h : AppS T G Mv o e H r s m row) : (∃ ty sz els, row = .sl ty sz els) ∧ (∃ ty sz els, H r = some (.sl ty sz els)) ∧ (∃ d, o.dst = some d) := by
  obtain ⟨x, y, off, n, v, ty, sz, els, news, c, h1, h2, h3, h4, h5, h6, h7, h8⟩ := h
  unfold appV at h7
  repeat' split at h7
  all_goals first
    | cases h7; done
    | (simp only [Option.some.injEq, Prod.mk.injEq] at h7
       obtain ⟨_, _, rfl⟩ := h7
       exact ⟨⟨_, _, _, rfl⟩, ⟨_, _, _, h5⟩, ⟨_, by assumption⟩⟩)

theorem AppS.to {o : Oper} {e : Env} {H : Heap} {r s m : Nat} {row : Row} (h : AppS T G Mv o e H r s m row) : exTo P T Mv G o ⟨e, H⟩ ⟨putd (killE r e) o.dst (.own r 0 m), hup (killH r H) r row⟩ := by
  obtain ⟨x, y, off, n, v, ty, sz, els, news, c, h1, h2, h3, h4, h5, h6, h7, h8⟩ := h
  obtain ⟨t, t', hop⟩ := appOps_op h1
  obtain ⟨dst, op, type, pos, after, guard⟩ := o
  dsimp only at hop
  subst hop
  unfold exTo
  simp only [isCall, isWr, if_true]
  unfold appV at h7
  dsimp only at h7
  cases dst with
  | none => cases h7
  | some d =>
    simp only [List.toList_toArray] at h7
    refine ⟨c, .own r 0 m, ⟨killE r e, hup (killH r H) r row⟩, ?_, h8, rfl⟩
    unfold wr
    dsimp only
    split at h7
    · rename_i htt
      subst htt
      split at h7
      · rename_i tt hT
        split at h7
        · rename_i ety hd
          split at h7
          · rename_i te hte
            simp only [Option.some.injEq, Prod.mk.injEq] at h7
            obtain ⟨rfl, rfl, rfl⟩ := h7
            simp [hT, hd, hte, h2, h3, h5, h6]
          · cases h7
        · cases h7
      · cases h7
    · cases h7

theorem AppS.of {o : Oper} {e : Env} {H : Heap} {r s off n : Nat} {x y : Operand} {v : AV} {c : Prop} {z : AV} {σ1 : St} (ho : appOps o = some (x, y)) (hx : aeval G e x = some (.own r off n)) (hy : aeval G e y = some v) (hs : fromRow s v) (h : wr T G Mv ⟨e, H⟩ o = some (c, z, σ1)) (hc : c) :
    ∃ m row, AppS T G Mv o e H r s m row ∧ z = .own r 0 m ∧ σ1 = ⟨killE r e, hup (killH r H) r row⟩ := by
  obtain ⟨t, t', hop⟩ := appOps_op ho
  obtain ⟨dst, op, type, pos, after, guard⟩ := o
  dsimp only at hop
  subst hop
  unfold wr at h
  dsimp only at h
  cases dst with
  | none => cases h
  | some d =>
    dsimp only at h
    split at h
    · rename_i htt
      subst htt
      cases hT : T t with
      | none => simp [hT] at h
      | some tt =>
        simp only [hT] at h
        split at h
        · rename_i ety hd
          cases hte : T ety with
          | none => simp [hte] at h
          | some te =>
            simp only [hte, hx, hy] at h
            split at h
            · rename_i ty sz els news h1 h2
              simp only [Option.some.injEq, Prod.mk.injEq] at h
              obtain ⟨rfl, rfl, rfl⟩ := h
              exact ⟨_, _, ⟨x, y, off, n, v, ty, sz, els, news, _, ho, hx, hy, hs, h1, h2, by simp [appV, hT, hd, hte], hc⟩, rfl, rfl⟩
            · cases h
        · cases h
    · cases h

theorem newsOf_congr {H H2 : Heap} {r s : Nat} {v : AV} (hs : fromRow s v) (hH : H2 s = H s) : newsOf H2 r v = newsOf H r v := by
  cases v with
  | own q off n =>
    simp only [fromRow] at hs
    subst hs
    simp only [newsOf, hH]
  | d x => cases x <;> rfl
  | _ => rfl

theorem AppS.congr {o : Oper} {e e2 : Env} {H H2 : Heap} {r s m : Nat} {row : Row} (h : AppS T G Mv o e H r s m row) (ha : Agree o.op e e2) (hr : H2 r = H r) (hs : H2 s = H s) : AppS T G Mv o e2 H2 r s m row := by
  obtain ⟨x, y, off, n, v, ty, sz, els, news, c, h1, h2, h3, h4, h5, h6, h7, h8⟩ := h
  obtain ⟨t, t', hop⟩ := appOps_op h1
  have hx : ∀ t, x = .tmp t → e t = e2 t := fun t ht => ha t (by rw [hop]; simp [Op.operands, Call.operands, ht])
  have hy : ∀ t, y = .tmp t → e t = e2 t := fun t ht => ha t (by rw [hop]; simp [Op.operands, Call.operands, ht])
  exact ⟨x, y, off, n, v, ty, sz, els, news, c, h1, by rw [← aeval_congr hx]; exact h2, by rw [← aeval_congr hy]; exact h3, h4, by rw [hr]; exact h5, by rw [newsOf_congr h4 hs]; exact h6, h7, h8⟩

/-! ### What an append's forgetting does to others -/

theorem AV.kill_kill (r r' : Nat) (x : AV) : (x.kill r).kill r' = (x.kill r').kill r := by
  have key : ∀ n, ∀ x : AV, SizeOf.sizeOf x < n → (x.kill r).kill r' = (x.kill r').kill r := by
    intro n
    induction n with
    | zero => intro x h; omega
    | succ n ih =>
      intro x h
      have go : ∀ l : List AV, SizeOf.sizeOf l < n → (l.map (AV.kill r)).map (AV.kill r') = (l.map (AV.kill r')).map (AV.kill r) := by
        intro l
        induction l with
        | nil => intro _; rfl
        | cons y l ihl =>
          intro hl
          simp only [List.cons.sizeOf_spec] at hl
          simp only [List.map_cons, List.cons.injEq]
          exact ⟨ih y (by omega), ihl (by omega)⟩
      cases x with
      | d x => simp [AV.kill]
      | own q off n => by_cases h1 : q = r <;> by_cases h2 : q = r' <;> simp [AV.kill, h1, h2] <;> (try (by_cases h3 : r = r' <;> simp [AV.kill, h3])) <;> (try simp_all [AV.kill])
      | ref q e j => by_cases h1 : q = r <;> by_cases h2 : q = r' <;> simp [AV.kill, h1, h2] <;> (try (by_cases h3 : r = r' <;> simp [AV.kill, h3])) <;> (try simp_all [AV.kill])
      | agg cells => simp at h; simp only [AV.kill, AV.go_eq]; rw [go cells (by omega)]
      | tup cells => simp at h; simp only [AV.kill, AV.go_eq]; rw [go cells (by omega)]
      | ifc t x => simp at h; simp only [AV.kill]; rw [ih x (by omega)]
      | fn f cells => simp at h; simp only [AV.kill, AV.go_eq]; rw [go cells (by omega)]
      | dead => simp [AV.kill]
  exact key _ x (Nat.lt_succ_self _)

theorem killE_killE (r r' : Nat) (e : Env) : killE r' (killE r e) = killE r (killE r' e) := by
  funext i
  simp only [killE, Option.map_map]
  congr 1
  funext x
  exact AV.kill_kill r r' x
theorem Row.kill_kill (r r' : Nat) (x : Row) : (x.kill r).kill r' = (x.kill r').kill r := by
  cases x with
  | sl ty sz els => rfl
  | box ty cells =>
    simp only [Row.kill, List.map_map]
    congr 1
    apply List.map_congr_left
    intro x _
    exact AV.kill_kill r r' x
theorem killH_killH (r r' : Nat) (H : Heap) : killH r' (killH r H) = killH r (killH r' H) := by
  funext i
  simp only [killH, Option.map_map]
  congr 1
  funext x
  exact Row.kill_kill r r' x
theorem killE_putd (r : Nat) (e : Env) (d : Option Tmp) (x : AV) : killE r (putd e d x) = putd (killE r e) d (x.kill r) := by
  cases d with
  | none => rfl
  | some d => funext i; simp only [killE, putd, upd]; split <;> rfl

/-- What an operation names has no handle on row r, nor what it yields. -/
def Off (r : Nat) (o : Oper) (e : Env) (x : AV) : Prop := Agree o.op e (killE r e) ∧ x.kill r = x

theorem wantedS_free {o : Oper} {e : Env} (h : o.guard = none) : wantedS ops e o = some true := by simp [wantedS, h]

theorem mkAgg_kill {r : Nat} {l : List AV} (h : (mkAgg l).kill r = mkAgg l) : mkAgg (l.map (AV.kill r)) = mkAgg l := by
  unfold mkAgg at h ⊢
  split at h
  · rename_i ds hd
    rw [allD_eq hd]
    have : (ds.map AV.d).map (AV.kill r) = ds.map AV.d := by simp [List.map_map, Function.comp_def, AV.kill]
    rw [this, allD_map]
  · rename_i hd
    simp only [AV.kill, AV.go_eq, AV.agg.injEq] at h
    rw [h, hd]

theorem asVal_kill {r : Nat} {t : TypeId} {cells : List AV} {c : Prop} {x : AV} {j : Nat} (h : asVal T t (cells.drop j) = some (c, x)) (hx : x.kill r = x) : ∃ c', asVal T t ((cells.map (AV.kill r)).drop j) = some (c', x) ∧ (c → c') := by
  unfold asVal at h ⊢
  split at h
  · cases h
  · rename_i ti ht
    split at h
    · rename_i ha
      rw [if_pos ha]
      simp only [Option.some.injEq, Prod.mk.injEq] at h
      obtain ⟨rfl, rfl⟩ := h
      refine ⟨_, ?_, id⟩
      rw [← List.map_drop, ← List.map_take, List.length_map, mkAgg_kill hx]
    · rename_i ha
      rw [if_neg ha]
      simp only [Option.some.injEq, Prod.mk.injEq] at h
      obtain ⟨rfl, rfl⟩ := h
      rw [← List.map_drop]
      generalize hl : cells.drop j = l at hx
      cases l with
      | nil => exact ⟨_, rfl, fun h => absurd rfl h⟩
      | cons y l =>
        simp only [List.headD_cons] at hx
        refine ⟨_, by simp only [List.map_cons, List.headD_cons, hx]; rfl, fun _ => by simp⟩

/-- An operation that reads, behind an append to a row that it does not name. -/
theorem rd_kill {o : Oper} {e : Env} {H : Heap} {r : Nat} {row : Row} {c : Prop} {x : AV} (hrow : ∃ ty sz els, row = .sl ty sz els) (h : rd T G ⟨e, H⟩ o.op = some (c, x)) (hoff : Off r o e x) :
    ∃ c', rd T G ⟨e, hup (killH r H) r row⟩ o.op = some (c', x) ∧ (c → c') := by
  have hag := hoff.1
  have hx := hoff.2
  clear hoff
  have free : ∀ t v, Operand.tmp t ∈ o.op.operands → e t = some v → v.kill r = v := by
    intro t v ht hv
    have := hag t ht
    rw [hv] at this
    simp only [killE, hv, Option.map_some, Option.some.injEq] at this
    exact this.symm
  have ne : ∀ (p : Operand) (v : AV), aeval G e p = some v → p ∈ o.op.operands → v.kill r = v := by
    intro p v hv hp
    cases p with
    | tmp t => exact free t v hp hv
    | const k => simp only [aeval, Option.some.injEq] at hv; subst hv; unfold cst; split <;> rfl
    | global g => simp only [aeval, Option.map_eq_some_iff] at hv; obtain ⟨d, _, rfl⟩ := hv; rfl
    | func f => simp only [aeval, Option.some.injEq] at hv; subst hv; rfl
  have hne : ∀ q, q ≠ r → (hup (killH r H) r row) q = (H q).map (Row.kill r) := fun q hq => by simp [hup, hq, killH]
  obtain ⟨dst, op, type, pos, after, guard⟩ := o
  dsimp only at h free ne ⊢
  by_cases hk : kindOf op = 0
  · rw [rd_noH hk _ H]; exact ⟨c, h, id⟩
  cases op <;> first | exact absurd rfl hk | skip
  case load t p =>
    simp only [rd] at h ⊢
    obtain ⟨v, hv, hl⟩ := Option.bind_eq_some_iff.1 h
    rw [hv, Option.bind_some]
    have hf := ne p v hv (by simp [Op.operands])
    cases v with
    | d x => cases x <;> first | exact ⟨c, hl, id⟩ | cases hl
    | own q off n => cases hl
    | agg _ => cases hl
    | tup _ => cases hl
    | ifc _ _ => cases hl
    | fn _ _ => cases hl
    | dead => cases hl
    | ref q ee j =>
      simp only [loadA] at hl ⊢
      have hq : q ≠ r := fun e => by simp [AV.kill, e] at hf
      rw [hne q hq]
      cases hH : H q with
      | none => simp [hH] at hl
      | some rw0 =>
        cases rw0 with
        | sl ty sz els => simp only [hH] at hl; simp only [Option.map_some, Row.kill]; exact ⟨c, hl, id⟩
        | box ty cells =>
          simp only [hH] at hl
          simp only [Option.map_some, Row.kill]
          split at hl
          · rename_i he; rw [if_pos he]; exact asVal_kill hl hx
          · cases hl
  case indexAddr t p i =>
    simp only [rd] at h ⊢
    split at h
    · rename_i a b ha hb
      have hf := ne p a ha (by simp [Op.operands])
      have bb : ∃ k n, b = .d (.v (.int k n)) := by
        unfold indexA at h
        split at h
        · exact ⟨_, _, rfl⟩
        · exact ⟨_, _, rfl⟩
        · cases h
      obtain ⟨k, nn, rfl⟩ := bb
      cases a with
      | d x => cases x <;> first | exact ⟨c, h, id⟩ | (cases h; done)
      | ref _ _ _ => cases h
      | agg _ => cases h
      | tup _ => cases h
      | ifc _ _ => cases h
      | fn _ _ => cases h
      | dead => cases h
      | own q off n =>
      unfold indexA at h ⊢
      have hq : q ≠ r := fun e => by simp [AV.kill, e] at hf
      simp only [hne q hq]
      cases hH : H q with
      | none => simp [hH] at h
      | some rw0 =>
        cases rw0 with
        | sl ty sz els => simp only [hH] at h; exact ⟨c, h, id⟩
        | box ty cells => simp [hH] at h
    · cases h
  case slice t p lo hi mx =>
    simp only [rd] at h ⊢
    split at h
    · rename_i hm
      rw [if_pos hm]
      split at h
      · rename_i v l hh h1 h2 h3
        have hf := ne p v h1 (by simp [Op.operands])
        cases v with
        | d x => cases x with
          | v x => cases x <;> first | exact ⟨c, h, id⟩ | (cases h; done)
          | sl k els => exact ⟨c, h, id⟩
          | _ => cases h
        | ref _ _ _ => cases h
        | agg _ => cases h
        | tup _ => cases h
        | ifc _ _ => cases h
        | fn _ _ => cases h
        | dead => cases h
        | own q off n =>
        unfold sliceA at h ⊢
        dsimp only at h ⊢
        have hq : q ≠ r := fun e => by simp [AV.kill, e] at hf
        rw [hne q hq]
        cases hH : H q with
        | none => simp [hH] at h
        | some rw0 =>
          cases rw0 with
          | sl ty sz els => simp only [hH] at h; exact ⟨c, h, id⟩
          | box ty cells => simp [hH] at h
      · cases h
    · cases h
  case call cc =>
    obtain ⟨callee, args, argTypes⟩ := cc
    cases callee with
    | builtin b => cases b <;> first | exact absurd rfl hk | (simp [rd] at h; done)
    | _ => simp [rd] at h
  all_goals first | (simp [rd] at h; done) | skip
end
end Go.Av
