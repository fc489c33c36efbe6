/-
  The rule for regions that draw their order and append to several rows.
-/
import Derived.Test.YtoikggboakojlaaDoorAv16
namespace Go.Av

def avOf (av : List (Nat × List Nat)) (i : Nat) : List Nat := (av.lookup i).getD []

def okKind (o : Op) : Bool := match o with
  | .buildSlice _ _ _ => true
  | .makeSlice _ _ _ => true
  | o => decide (kindOf o ≤ 2)

def compatL (la : List (Nat × Nat × Nat)) (av : List (Nat × List Nat)) (ops : Array Oper) (i j : Nat) (oi oj : Oper) : Bool := match la.lookup i, la.lookup j with
  | none, none => compat ops oi oj
  | none, some (r, s) => oi.apart ops oj && okKind oi.op && !(oi.dst == some s) && !(oi.dst == some r) && (avOf av i).contains r
  | some (r, s), some (r', s') => oi.apart ops oj && !(r == r') && !(s == r') && !(s' == r)
  | some _, none => false

section
variable {P : Program} {T : Ty} {Mv X : Nat → Prop} {G : Glob} {N : Nat} {ops : Array Oper} {la : List (Nat × Nat × Nat)} {av : List (Nat × List Nat)}

def LStep (P : Program) (T : Ty) (Mv : Nat → Prop) (G : Glob) (N : Nat) (la : List (Nat × Nat × Nat)) (av : List (Nat × List Nat)) (i : Nat) (o : Oper) (σ σ' : St) : Prop :=
  okDst N o ∧ o.guard = none ∧ match la.lookup i with
    | some (r, s) => ∃ m row, AppS T G Mv o σ.env σ.H r s m row ∧ σ' = ⟨putd (killE r σ.env) o.dst (.own r 0 m), hup (killH r σ.H) r row⟩
    | none => kindOf o.op ≠ 9 ∧ ∃ x H', Ex P T Mv G o σ.env σ.H x H' ∧ σ' = ⟨putd σ.env o.dst x, H'⟩ ∧ (∀ r ∈ avOf av i, Off r o σ.env x) ∧ (avOf av i ≠ [] → ∀ c, isCall o.op = some c → ∃ y g ds, tgt G σ.env c = some (g, ds.map .d) ∧ PureC P G g ds y ∧ x = .d y)

theorem LStep.step {i : Nat} {o : Oper} {σ σ' : St} (h : LStep P T Mv G N la av i o σ σ') : stepTo P T Mv G N ops o σ σ' := by
  obtain ⟨hd, hg, h⟩ := h
  refine ⟨hd, .inl ⟨wantedS_free hg, ?_⟩⟩
  split at h
  · obtain ⟨m, row, h1, rfl⟩ := h
    exact h1.to
  · obtain ⟨_, x, H', h1, rfl, _⟩ := h
    exact h1.to

theorem Ex.sliceRow {o : Oper} (hk : ¬ kindOf o.op ≤ 2) (ho : okKind o.op = true) {e : Env} {H H' : Heap} {x : AV} (h : Ex P T Mv G o e H x H') : ∃ d ty sz els, o.dst = some d ∧ H d = none ∧ H' = hup H d (.sl ty sz els) ∧ ∀ H2, H2 d = none → Ex P T Mv G o e H2 x (hup H2 d (.sl ty sz els)) := by
  obtain ⟨dst, op, type, pos, after, guard⟩ := o
  dsimp only at hk ho
  unfold Ex at h
  unfold Ex
  cases op <;> simp only [okKind, decide_eq_true_eq] at ho <;> first | exact absurd ho hk | skip
  case makeSlice t y z =>
    simp only [isCall, isWr, if_true] at h ⊢
    obtain ⟨c, h1, h2⟩ := h
    cases dst with
    | none => cases h1
    | some d =>
      simp only [wr] at h1 ⊢
      split at h1
      · split at h1
        · split at h1
          · simp only [Option.some.injEq, Prod.mk.injEq, St.mk.injEq, true_and] at h1
            obtain ⟨rfl, rfl, rfl⟩ := h1
            exact ⟨d, _, _, _, rfl, h2.1, rfl, fun H2 h => ⟨_, rfl, h, h2.2⟩⟩
          · cases h1
        · cases h1
      · cases h1
  case buildSlice t n ps =>
    simp only [isCall, isWr, if_true] at h ⊢
    obtain ⟨c, h1, h2⟩ := h
    cases dst with
    | none => cases h1
    | some d =>
      simp only [wr] at h1 ⊢
      split at h1
      · split at h1
        · split at h1
          · split at h1
            · simp only [Option.some.injEq, Prod.mk.injEq, St.mk.injEq, true_and] at h1
              obtain ⟨rfl, rfl, rfl⟩ := h1
              exact ⟨d, _, _, _, rfl, h2.1, rfl, fun H2 h => ⟨_, rfl, h, h2.2⟩⟩
            · cases h1
          · cases h1
        · cases h1
      · cases h1

theorem kill_own {r q off n : Nat} {z : AV} (h : z.kill r = .own q off n) : z = .own q off n := by
  cases z <;> simp only [AV.kill, reduceCtorEq] at h
  · split at h
    · cases h
    · exact h
  · split at h <;> cases h
theorem kill_d {r : Nat} {x : D} {z : AV} (h : z.kill r = .d x) : z = .d x := by
  cases z <;> simp only [AV.kill, reduceCtorEq] at h
  · exact h
  · split at h <;> cases h
  · split at h <;> cases h

theorem news_shape {H : Heap} {r : Nat} {v : AV} {l : List (List D)} (h : newsOf H r v = some l) : (∃ x, v = .d x) ∨ ∃ q off n, v = .own q off n := by
  unfold newsOf at h
  split at h
  · exact .inl ⟨_, rfl⟩
  · exact .inr ⟨_, _, _, rfl⟩
  · cases h

theorem aeval_kill {r : Nat} {e : Env} {p : Operand} : aeval G (killE r e) p = (aeval G e p).map (AV.kill r) := by
  cases p with
  | tmp t => rfl
  | const k => simp only [aeval, Option.map_some]; unfold cst; split <;> rfl
  | global g => simp only [aeval, Option.map_map]; rfl
  | func f => rfl

theorem aeval_putd {e : Env} {d : Option Tmp} {x : AV} {p : Operand} (h : ∀ t, p = .tmp t → d ≠ some t) : aeval G (putd e d x) p = aeval G e p := by
  cases p with
  | tmp t => exact putd_get (h t rfl)
  | _ => rfl

/-- An append, seen from a state in which another row's handles are not yet, or already, forgotten. -/
theorem AppS.unkill {o : Oper} {e : Env} {H H2 : Heap} {r s m q : Nat} {row : Row} (h : AppS T G Mv o (killE q e) H r s m row) (hr : H2 r = H r) (hs : H2 s = H s) : AppS T G Mv o e H2 r s m row := by
  obtain ⟨x, y, off, n, v, ty, sz, els, news, c, h1, h2, h3, h4, h5, h6, h7, h8⟩ := h
  rw [aeval_kill] at h2 h3
  obtain ⟨z1, hz1, e1⟩ := Option.map_eq_some_iff.1 h2
  obtain ⟨z2, hz2, e2⟩ := Option.map_eq_some_iff.1 h3
  have := kill_own e1
  subst this
  have hz : z2 = v := by
    rcases news_shape h6 with ⟨x, rfl⟩ | ⟨_, _, _, rfl⟩
    · exact kill_d e2
    · exact kill_own e2
  subst hz
  exact ⟨x, y, off, n, z2, ty, sz, els, news, c, h1, hz1, hz2, h4, by rw [hr]; exact h5, by rw [newsOf_congr h4 hs]; exact h6, h7, h8⟩

theorem AppS.rekill {o : Oper} {e : Env} {H H2 : Heap} {r s m q : Nat} {row : Row} (h : AppS T G Mv o e H r s m row) (hq : r ≠ q) (hq' : s ≠ q) (hr : H2 r = H r) (hs : ∀ ty sz els, H s = some (.sl ty sz els) → H2 s = H s) : AppS T G Mv o (killE q e) H2 r s m row := by
  obtain ⟨x, y, off, n, v, ty, sz, els, news, c, h1, h2, h3, h4, h5, h6, h7, h8⟩ := h
  refine ⟨x, y, off, n, v, ty, sz, els, news, c, h1, by rw [aeval_kill, h2]; simp [AV.kill, hq], ?_, h4, by rw [hr]; exact h5, ?_, h7, h8⟩
  · rw [aeval_kill, h3]
    rcases news_shape h6 with ⟨x, rfl⟩ | ⟨q', _, _, rfl⟩
    · rfl
    · simp only [fromRow] at h4
      subst h4
      simp [AV.kill, hq']
  · rcases news_shape h6 with ⟨x, rfl⟩ | ⟨q', off', n', rfl⟩
    · cases x <;> first | exact h6 | cases h6
    · simp only [fromRow] at h4
      subst h4
      simp only [newsOf] at h6 ⊢
      split at h6
      · cases h6
      · rename_i hne
        rw [if_neg hne]
        split at h6
        · rename_i ty' sz' els' hH
          rw [hs _ _ _ hH, hH]
          exact h6
        · cases h6

theorem hup_comm {H : Heap} {r d : Nat} {a b : Row} (h : d ≠ r) : hup (hup H r a) d b = hup (hup H d b) r a := by
  funext i
  by_cases h1 : i = d <;> by_cases h2 : i = r <;> simp [hup, h1, h2, h, Ne.symm h]
theorem killH_hup {H : Heap} {r d : Nat} {b : Row} (hb : b.kill r = b) : killH r (hup H d b) = hup (killH r H) d b := by
  funext i
  by_cases h1 : i = d <;> simp [hup, killH, h1, hb]

theorem agree_off {o : Oper} {e e' : Env} {r : Nat} (h : ∀ t, Operand.tmp t ∈ o.op.operands → e' t = e t) (ha : Agree o.op e (killE r e)) : Agree o.op e' (killE r e') := fun t ht => by
  have h1 := ha t ht
  simp only [killE] at h1 ⊢
  rw [h t ht]
  exact h1

theorem lswap {i j : Nat} {oi oj : Oper} (hc : compatL la av ops i j oi oj = true) {σ σ1 σ2 : St} (h1 : LStep P T Mv G N la av i oi σ σ1) (h2 : LStep P T Mv G N la av j oj σ1 σ2) :
    ∃ σ3, LStep P T Mv G N la av j oj σ σ3 ∧ LStep P T Mv G N la av i oi σ3 σ2 := by
  obtain ⟨di, gi, h1⟩ := h1
  obtain ⟨dj, gj, h2⟩ := h2
  obtain ⟨e, H⟩ := σ
  cases hli : la.lookup i with
  | none =>
    simp only [hli] at h1
    obtain ⟨ki, x, H1, ex1, rfl, off1, cd1⟩ := h1
    cases hlj : la.lookup j with
    | none =>
      simp only [hlj] at h2
      obtain ⟨kj, y, H2, ex2, rfl, off2, cd2⟩ := h2
      simp only [compatL, hli, hlj] at hc
      obtain ⟨H3, f1, f2⟩ := commute hc (x := x) (y := y) (e := e) (H := H) ⟨di, .inl ⟨wantedS_free gi, ex1⟩⟩ ⟨dj, .inl ⟨wantedS_free gj, ex2⟩⟩ ki kj
      have ej : Ex P T Mv G oj e H y H3 := by
        rcases f1.2 with ⟨_, h⟩ | ⟨h, _⟩
        · exact h
        · rw [wantedS_free gj] at h; cases h
      have ei : Ex P T Mv G oi (putd e oj.dst y) H3 x H2 := by
        rcases f2.2 with ⟨_, h⟩ | ⟨h, _⟩
        · exact h
        · rw [wantedS_free gi] at h; cases h
      simp only [compat, Bool.and_eq_true] at hc
      obtain ⟨a1, _, hne⟩ := agree_put hc.1 (e := e) (v := x)
      obtain ⟨_, a2, _⟩ := agree_put hc.1 (e := e) (v := y)
      refine ⟨⟨putd e oj.dst y, H3⟩, ⟨dj, gj, ?_⟩, ⟨di, gi, ?_⟩⟩
      · simp only [hlj]
        refine ⟨kj, y, H3, ej, rfl, fun r hr => ⟨agree_off (e := putd e oi.dst x) (fun t ht => (a1 t (looks_of_op ht)).symm) (off2 r hr).1, (off2 r hr).2⟩, fun ha c hcc => ?_⟩
        obtain ⟨y', g, ds, ht, hp⟩ := cd2 ha c hcc
        exact ⟨y', g, ds, by rw [← ht]; exact tgt_congr fun t ht => (a1 t (looks_of_op (by rw [(isCall_op hcc).1]; exact ht))).symm, hp⟩
      · simp only [hli]
        refine ⟨ki, x, H2, ei, by rw [putd_comm hne], fun r hr => ⟨agree_off (e := e) (fun t ht => a2 t (looks_of_op ht)) (off1 r hr).1, (off1 r hr).2⟩, fun ha c hcc => ?_⟩
        obtain ⟨y', g, ds, ht, hp⟩ := cd1 ha c hcc
        exact ⟨y', g, ds, by rw [← ht]; exact tgt_congr fun t ht => a2 t (looks_of_op (by rw [(isCall_op hcc).1]; exact ht)), hp⟩
    | some rs =>
      obtain ⟨r, s⟩ := rs
      simp only [hlj] at h2
      obtain ⟨m, row, app, rfl⟩ := h2
      simp only [compatL, hli, hlj, Bool.and_eq_true, Bool.not_eq_true', beq_eq_false_iff_ne, List.contains_iff_mem] at hc
      obtain ⟨⟨⟨⟨hap, hok⟩, hs⟩, hr⟩, hav⟩ := hc
      obtain ⟨hag, hx⟩ := off1 r hav
      obtain ⟨a1, _, hne⟩ := agree_put hap (e := e) (v := x)
      obtain ⟨_, a2, _⟩ := agree_put hap (e := killE r e) (v := .own r 0 m)
      obtain ⟨hrow, hHr, _⟩ := app.row
      have agj : Agree oj.op (putd e oi.dst x) e := fun t ht => a1 t (looks_of_op ht)
      have e3 : ∀ t, Operand.tmp t ∈ oi.op.operands → (putd (killE r e) oj.dst (.own r 0 m)) t = e t := fun t ht => (a2 t (looks_of_op ht)).trans (hag t ht).symm
      -- the heap behind it all
      have main : AppS T G Mv oj e H r s m row ∧ ∃ H2, Ex P T Mv G oi e (hup (killH r H) r row) x H2 ∧ H2 = hup (killH r H1) r row := by
        by_cases hk2 : kindOf oi.op ≤ 2
        · have := ex1.keeps hk2
          subst this
          refine ⟨app.congr agj rfl rfl, _, ?_, rfl⟩
          cases hcall : isCall oi.op with
          | some c =>
            obtain ⟨y, g, ds, ht, hp, rfl⟩ := cd1 (List.ne_nil_of_mem hav) c hcall
            unfold Ex
            simp only [hcall]
            exact ⟨y, ⟨g, _, ht, .inl ⟨ds, rfl, hp⟩⟩, rfl, trivial⟩
          | none =>
            unfold Ex at ex1 ⊢
            simp only [hcall] at ex1 ⊢
            have hw : ¬ isWr oi.op = true := fun hw => by rcases isWr_kind hw with h | h | h <;> omega
            rw [if_neg hw] at ex1 ⊢
            obtain ⟨c, hrd, hcc, _⟩ := ex1
            obtain ⟨c', h', hi'⟩ := rd_kill hrow hrd ⟨hag, hx⟩
            exact ⟨c', h', hi' hcc, trivial⟩
        · obtain ⟨d, ty, sz, els, hd, hn, rfl, hall⟩ := ex1.sliceRow hk2 hok
          have hdr : d ≠ r := fun e => hr (by rw [hd, e])
          have hds : d ≠ s := fun e => hs (by rw [hd, e])
          refine ⟨app.congr agj (by simp [hup, Ne.symm hdr]) (by simp [hup, Ne.symm hds]), _, hall _ (by simp [hup, hdr, killH, hn]), ?_⟩
          rw [killH_hup rfl, hup_comm hdr]
      obtain ⟨app', H2, ex', rfl⟩ := main
      refine ⟨⟨putd (killE r e) oj.dst (.own r 0 m), hup (killH r H) r row⟩, ⟨dj, gj, ?_⟩, ⟨di, gi, ?_⟩⟩
      · simp only [hlj]
        exact ⟨m, row, app', rfl⟩
      · simp only [hli]
        refine ⟨ki, x, _, ex'.congr ki fun t ht => (e3 t ht).symm, ?_, fun q hq => ⟨agree_off e3 (off1 q hq).1, (off1 q hq).2⟩, fun ha c hcc => ?_⟩
        · rw [killE_putd, hx, putd_comm hne]
        · obtain ⟨y', g, ds, ht, hp⟩ := cd1 ha c hcc
          exact ⟨y', g, ds, by rw [← ht]; exact tgt_congr fun t ht => e3 t (by rw [(isCall_op hcc).1]; exact ht), hp⟩
  | some rs =>
    obtain ⟨r, s⟩ := rs
    simp only [hli] at h1
    obtain ⟨m, row, app, rfl⟩ := h1
    cases hlj : la.lookup j with
    | none => simp [compatL, hli, hlj] at hc
    | some rs' =>
      obtain ⟨r', s'⟩ := rs'
      simp only [hlj] at h2
      obtain ⟨m', row', app', rfl⟩ := h2
      simp only [compatL, hli, hlj, Bool.and_eq_true, Bool.not_eq_true', beq_eq_false_iff_ne] at hc
      obtain ⟨⟨⟨hap, hrr⟩, hs⟩, hs'⟩ := hc
      obtain ⟨a1, _, hne⟩ := agree_put hap (e := killE r e) (v := .own r 0 m)
      obtain ⟨_, a2, _⟩ := agree_put hap (e := killE r' e) (v := .own r' 0 m')
      obtain ⟨⟨ty1, sz1, els1, rfl⟩, ⟨t1, z1, l1, hHr⟩, _⟩ := app.row
      obtain ⟨⟨ty2, sz2, els2, rfl⟩, ⟨t2, z2, l2, hHr'⟩, _⟩ := app'.row
      have hkeep : ∀ q, q ≠ r → ∀ ty sz els, (killH r H) q = some (.sl ty sz els) → H q = some (.sl ty sz els) := by
        intro q _ ty sz els hq
        obtain ⟨row0, h0, he⟩ := Option.map_eq_some_iff.1 hq
        cases row0 with
        | sl _ _ _ => rw [h0]; exact congrArg some he
        | box _ _ => cases he
      have hH' : H r' = some (.sl t2 z2 l2) := hkeep r' (Ne.symm hrr) _ _ _ (by simpa [hup, Ne.symm hrr] using hHr')
      -- the second one first
      have p1 : AppS T G Mv oj (killE r e) (hup (killH r H) r (.sl ty1 sz1 els1)) r' s' m' (.sl ty2 sz2 els2) := app'.congr (fun t ht => a1 t (looks_of_op ht)) rfl rfl
      have p2 : AppS T G Mv oj e H r' s' m' (.sl ty2 sz2 els2) := by
        obtain ⟨x, y, off, n, v, ty, sz, els, news, c, g1, g2, g3, g4, g5, g6, g7, g8⟩ := p1
        have hnews : newsOf H r' v = some news := by
          rcases news_shape g6 with ⟨x, rfl⟩ | ⟨q', off', n', rfl⟩
          · cases x <;> first | exact g6 | cases g6
          · simp only [fromRow] at g4
            subst g4
            simp only [newsOf] at g6 ⊢
            split at g6
            · cases g6
            · rename_i hq
              rw [if_neg hq]
              split at g6
              · rename_i ty' sz' els' hq2
                have : H q' = some (.sl ty' sz' els') := hkeep q' hs' _ _ _ (by simpa [hup, hs'] using hq2)
                rw [this]
                exact g6
              · cases g6
        have : AppS T G Mv oj (killE r e) H r' s' m' (.sl ty2 sz2 els2) := ⟨x, y, off, n, v, ty, sz, els, news, c, g1, g2, g3, g4, by rw [hH']; simpa [hup, Ne.symm hrr, killH, hH', Row.kill] using g5, hnews, g7, g8⟩
        exact this.unkill rfl rfl
      have q1 : AppS T G Mv oi (killE r' e) (hup (killH r' H) r' (.sl ty2 sz2 els2)) r s m (.sl ty1 sz1 els1) := by
        refine app.rekill hrr hs ?_ fun ty sz els hh => ?_
        · simp [hup, hrr, killH, hHr, Row.kill]
        · simp [hup, hs, killH, hh, Row.kill]
      have q2 : AppS T G Mv oi (putd (killE r' e) oj.dst (.own r' 0 m')) (hup (killH r' H) r' (.sl ty2 sz2 els2)) r s m (.sl ty1 sz1 els1) := q1.congr (fun t ht => (a2 t (looks_of_op ht)).symm) rfl rfl
      refine ⟨⟨putd (killE r' e) oj.dst (.own r' 0 m'), hup (killH r' H) r' (.sl ty2 sz2 els2)⟩, ⟨dj, gj, ?_⟩, ⟨di, gi, ?_⟩⟩
      · simp only [hlj]
        exact ⟨m', _, p2, rfl⟩
      · simp only [hli]
        refine ⟨m, _, q2, ?_⟩
        have k1 : AV.kill r' (.own r 0 m) = .own r 0 m := by simp [AV.kill, hrr]
        have k2 : AV.kill r (.own r' 0 m') = .own r' 0 m' := by simp [AV.kill, Ne.symm hrr]
        rw [killE_putd, killE_putd, k1, k2, killE_killE r' r, putd_comm hne, killH_hup rfl, killH_hup rfl, killH_killH r' r, hup_comm hrr]

/-! ### The region -/

def runL (P : Program) (T : Ty) (Mv : Nat → Prop) (G : Glob) (N : Nat) (la : List (Nat × Nat × Nat)) (av : List (Nat × List Nat)) (ops : Array Oper) : List Nat → St → St → Prop
  | [], σ, σ' => σ = σ'
  | i :: l, σ, σ' => ∃ o, ops[i]? = some o ∧ ∃ σ1, LStep P T Mv G N la av i o σ σ1 ∧ runL P T Mv G N la av ops l σ1 σ'

theorem runL_front {p : Nat} {op : Oper} (hp : ops[p]? = some op) : ∀ (l1 : List Nat) {l2 : List Nat} {σ σ' : St}, (∀ q ∈ l1, ∀ oq, ops[q]? = some oq → compatL la av ops q p oq op = true) → runL P T Mv G N la av ops (l1 ++ p :: l2) σ σ' → runL P T Mv G N la av ops (p :: (l1 ++ l2)) σ σ' := by
  intro l1
  induction l1 with
  | nil => intro l2 σ σ' _ h; exact h
  | cons q l1 ih =>
    intro l2 σ σ' hall h
    obtain ⟨oq, hq, σ1, s1, rest⟩ := h
    obtain ⟨o', ho', σ2, s2, rest2⟩ := ih (fun q' hq' => hall q' (by simp [hq'])) rest
    rw [hp] at ho'
    obtain rfl := Option.some.inj ho'
    obtain ⟨σ3, f1, f2⟩ := lswap (hall q (by simp) oq hq) s1 s2
    exact ⟨op, hp, σ3, f1, oq, hq, σ2, f2, rest2⟩

/-- One order in which the operations may come up, written out: what is not ordered may pass. -/
def okDrawL (la : List (Nat × Nat × Nat)) (av : List (Nat × List Nat)) (ord : List Nat) (ops : Array Oper) : Bool :=
  let t := tb ops
  ord.length == ops.size && (ord.all fun i => decide (i < ops.size)) && ((List.range ops.size).all fun i => ord.contains i) && decide ord.Nodup &&
  ((List.range ops.size).all fun j => match ops[j]? with
    | some oj => oj.after.all fun e => !Region.binds .any e || e.on < j
    | none => true) &&
  go t ord
where
  go (t : List Nat) : List Nat → Bool
  | [] => true
  | a :: l => (l.all fun b => match ops[a]?, ops[b]? with
    | some oa, some ob => (oa.after.all fun e => !Region.binds .any e || !(e.on == b)) && ((t.getD b 0).testBit a || compatL la av ops a b oa ob)
    | _, _ => true) && go t l

def PairL (la : List (Nat × Nat × Nat)) (av : List (Nat × List Nat)) (ops : Array Oper) (a b : Nat) : Prop := ∀ oa ob, ops[a]? = some oa → ops[b]? = some ob →
  (∀ e ∈ oa.after, Region.binds .any e = true → e.on ≠ b) ∧ (((tb ops).getD b 0).testBit a = true ∨ compatL la av ops a b oa ob = true)

theorem pairs_of : ∀ {l : List Nat}, okDrawL.go la av ops (tb ops) l = true → l.Pairwise (PairL la av ops)
  | [], _ => .nil
  | a :: l, h => by
    simp only [okDrawL.go, Bool.and_eq_true] at h
    refine .cons (fun b hb oa ob hoa hob => ?_) (pairs_of h.2)
    have := List.all_eq_true.1 h.1 b hb
    simp only [hoa, hob, Bool.and_eq_true, Bool.or_eq_true] at this
    refine ⟨fun e he hbi heq => ?_, this.2⟩
    have h1 := Array.all_eq_true_iff_forall_mem.1 this.1 e he
    simp [hbi, heq] at h1

/-- Whoever may come up now stands behind nothing that is not listed. -/
theorem behindL (hlt : ∀ j oj, ops[j]? = some oj → ∀ e ∈ oj.after, Region.binds .any e = true → e.on < j) {listed : Array Bool} (hdown : ∀ j oj, ops[j]? = some oj → listed.getD j false = true → ∀ e ∈ oj.after, Region.binds .any e = true → listed.getD e.on false = true) :
    ∀ (n j : Nat) (oj : Oper), j ≤ n → ops[j]? = some oj → (∀ e ∈ oj.after, Region.binds .any e = true → listed.getD e.on false = true) → ∀ q, ((tb ops).getD j 0).testBit q = true → listed.getD q false = true := by
  intro n
  induction n with
  | zero =>
    intro j oj hj hoj hall q hq
    have hj0 : j = 0 := by omega
    subst hj0
    obtain ⟨e, he, hb, _⟩ := tb_bits ops.toList [] 0 oj q (by simpa using hoj) (by simpa [tb] using hq)
    have := hlt 0 oj hoj e he hb
    omega
  | succ n ih =>
    intro j oj hj hoj hall q hq
    obtain ⟨e, he, hb, r⟩ := tb_bits ops.toList [] j oj q (by simpa using hoj) (by simpa [tb] using hq)
    rcases r with rfl | ⟨_, r⟩
    · exact hall e he hb
    · have hlt1 := hlt j oj hoj e he hb
      have hlt2 : e.on < ops.size := by have := (Array.getElem?_eq_some_iff.1 hoj).1; omega
      exact ih e.on ops[e.on] (by omega) (by simp [hlt2]) (fun e' he' hb' => hdown e.on _ (by simp [hlt2]) (hall e he hb) e' he' hb') q (by simpa [tb] using r)

theorem anyL_ok (hg : Good P T) (hlt : ∀ j oj, ops[j]? = some oj → ∀ e ∈ oj.after, Region.binds .any e = true → e.on < j) {Q : Exit → St → Prop} {w0 : World} {μ0 : Mu} {σn : St} (hQ : Q .normal σn) : ∀ (n : Nat) (R : List Nat) (listed : Array Bool) (w : World) (μ : Mu) (a : Act) (σ : St), R.length = n → R.Nodup →
    (∀ j, j ∈ R ↔ j < ops.size ∧ listed.getD j true = false) → listed.size = ops.size → R.Pairwise (PairL la av ops) →
    (∀ j oj, ops[j]? = some oj → listed.getD j false = true → ∀ e ∈ oj.after, Region.binds .any e = true → listed.getD e.on false = true) → runL P T Mv G N la av ops R σ σn → In w X G μ N a σ → Ev Mv w0 μ0 w μ →
    wpAny P .any ops (After Mv X G N w0 μ0 Q) n listed a w := by
  intro n
  induction n with
  | zero =>
    intro R listed w μ a σ hl _ hR hsz _ _ hrun hi hev
    have : R = [] := List.eq_nil_of_length_eq_zero hl
    subst this
    have hr : Region.ready .any ops listed = [] := by
      apply List.eq_nil_iff_forall_not_mem.2
      intro j hj
      obtain ⟨h1, o, ho, _⟩ := mem_ready.1 hj
      exact absurd ((hR j).2 ⟨(Array.getElem?_eq_some_iff.1 ho).1, h1⟩) (by simp)
    have : σ = σn := hrun
    subst this
    exact ⟨hr, μ, σ, hQ, hi, hev⟩
  | succ n ih =>
    intro R listed w μ a σ hl hnd hR hsz hpw hdown hrun hi hev
    refine ⟨fun hr => ?_, fun i hir => ?_⟩
    · cases R with
      | nil => simp at hl
      | cons j R =>
        obtain ⟨hj1, hj2⟩ := (hR j).1 (by simp)
        have hoj : ops[j]? = some ops[j] := by simp [hj1]
        have hjr : j ∈ Region.ready .any ops listed := by
          refine mem_ready.2 ⟨hj2, ops[j], hoj, fun e he hb => ?_⟩
          have hlt' := hlt j ops[j] hoj e he hb
          have hlt2 : e.on < ops.size := by omega
          have hne : e.on ∉ (j :: R) := by
            intro hm
            rcases List.mem_cons.1 hm with h | h
            · omega
            · exact ((List.pairwise_cons.1 hpw).1 _ h ops[j] ops[e.on] hoj (by simp [hlt2])).1 e he hb rfl
          have := mt (hR e.on).2 hne
          have hls : e.on < listed.size := by omega
          simp only [hlt2, true_and, Array.getD_eq_getD_getElem?] at this ⊢
          simp [hls] at this ⊢
          exact this
        rw [hr] at hjr
        cases hjr
    · obtain ⟨hi1, oi, hoi, hall⟩ := mem_ready.1 hir
      have hiR : i ∈ R := (hR i).2 ⟨(Array.getElem?_eq_some_iff.1 hoi).1, hi1⟩
      obtain ⟨R1, R2, rfl⟩ := List.append_of_mem hiR
      have hfront := runL_front (P := P) (T := T) (Mv := Mv) (G := G) (N := N) (la := la) (av := av) hoi R1 (fun q hq oq hoq => by
        have hpq : PairL la av ops q i := (List.pairwise_append.1 hpw).2.2 q hq i (by simp)
        rcases (hpq oq oi hoq hoi).2 with h | h
        · exfalso
          have hlq := behindL hlt hdown i i oi (Nat.le_refl _) hoi hall q h
          have hq2 := ((hR q).1 (by simp [hq])).2
          have hqs : q < listed.size := by have := (Array.getElem?_eq_some_iff.1 hoq).1; omega
          simp [Array.getD_eq_getD_getElem?, hqs] at hlq hq2
          rw [hlq] at hq2; cases hq2
        · exact h) hrun
      obtain ⟨o', ho', σ1, hstep, hrest⟩ := hfront
      rw [hoi] at ho'
      obtain rfl := Option.some.inj ho'
      refine stepTo_ok hg hstep.step hi hoi fun w' μ' a' hin hev' => ?_
      have hnd' : (R1 ++ R2).Nodup := by
        have := hnd
        rw [List.nodup_append] at this ⊢
        obtain ⟨g1, g2, g3⟩ := this
        exact ⟨g1, (List.nodup_cons.1 g2).2, fun x hx y hy => g3 x hx y (by simp [hy])⟩
      have hi_not : i ∉ R1 ++ R2 := by
        have := hnd
        rw [List.nodup_append] at this
        obtain ⟨g1, g2, g3⟩ := this
        intro hm
        rcases List.mem_append.1 hm with h | h
        · exact g3 i h i (by simp) rfl
        · exact (List.nodup_cons.1 g2).1 h
      refine ih (R1 ++ R2) _ w' μ' a' σ1 (by simp at hl ⊢; omega) hnd' (fun j => ?_) (by simpa using hsz) ?_ ?_ hrest hin (hev.trans hev')
      · by_cases hji : j = i
        · subst hji
          have hls : j < listed.size := by rw [hsz]; exact (Array.getElem?_eq_some_iff.1 hoi).1
          simp [hls]
          simpa using hi_not
        · rw [getD_set_ne true (Ne.symm hji)]
          rw [← hR j]
          simp [hji]
      · rw [List.pairwise_append] at hpw ⊢
        obtain ⟨g1, g2, g3⟩ := hpw
        exact ⟨g1, (List.pairwise_cons.1 g2).2, fun x hx y hy => g3 x hx y (by simp [hy])⟩
      · intro j oj hoj hlj e he hb
        by_cases hji : j = i
        · subst hji
          rw [hoi] at hoj
          obtain rfl := Option.some.inj hoj
          exact getD_set_true (hall e he hb)
        · rw [getD_set_ne false (Ne.symm hji)] at hlj
          exact getD_set_true (hdown j oj hoj hlj e he hb)

/-! ### As one computes it -/

def offOps (r : Nat) (e : Env) : List Operand → Prop
  | [] => True
  | .tmp t :: l => (e t).map (AV.kill r) = e t ∧ offOps r e l
  | _ :: l => offOps r e l
theorem offOps_ok {r : Nat} {e : Env} : ∀ {l : List Operand}, offOps r e l → ∀ t, Operand.tmp t ∈ l → e t = killE r e t
  | [], _, t, ht => by cases ht
  | p :: l, h, t, ht => by
    cases p with
    | tmp u =>
      simp only [offOps] at h
      rcases List.mem_cons.1 ht with h1 | h1
      · cases h1; exact h.1.symm
      · exact offOps_ok h.2 t h1
    | _ =>
      simp only [offOps] at h
      rcases List.mem_cons.1 ht with h1 | h1
      · cases h1
      · exact offOps_ok h t h1

def offAll (rs : List Nat) (ps : List Operand) (e : Env) (x : AV) : Prop := match rs with
  | [] => True
  | r :: rs => (offOps r e ps ∧ x.kill r = x) ∧ offAll rs ps e x
theorem offAll_ok {o : Oper} {e : Env} {x : AV} : ∀ {rs : List Nat}, offAll rs o.op.operands.toList e x → ∀ r ∈ rs, Off r o e x
  | [], _, r, hr => by cases hr
  | q :: rs, h, r, hr => by
    simp only [offAll] at h
    rcases List.mem_cons.1 hr with rfl | hr
    · exact ⟨fun t ht => offOps_ok h.1.1 t (by simpa using ht), h.1.2⟩
    · exact offAll_ok h.2 r hr

/-- A call with data, and what follows. -/
def callD (P : Program) (G : Glob) (c : Call) (e : Env) (dst : Option Tmp) (H : Heap) (rs : List Nat) (ps : List Operand) (next : St → Prop) : Prop := ∃ y g ds, tgt G e c = some (g, ds.map .d) ∧ PureC P G g ds y ∧ offAll rs ps e (.d y) ∧ next ⟨putd e dst (.d y), H⟩

theorem callD.mk {c : Call} {e : Env} {dst : Option Tmp} {H : Heap} {rs : List Nat} {ps : List Operand} {next : St → Prop} {g : FuncId} {xs : List AV} {ds ds' : List D} {y : D} (hc : PureC P G g ds y) (ht : tgt G e c = some (g, xs)) (hx : allD xs = some ds') (hle : D.le.go ds' ds)
    (ho : offAll rs ps e (.d y)) (h : next ⟨putd e dst (.d y), H⟩) : callD P G c e dst H rs ps next := ⟨y, g, ds', by rw [ht, allD_eq hx], hc.weak hle, ho, h⟩

def appK (T : Ty) (Mv : Nat → Prop) (G : Glob) (o : Oper) (σ : St) (r s : Nat) (next : St → Prop) : Prop := match appOps o with
  | some (x, y) => match aeval G σ.env x, aeval G σ.env y with
    | some (.own q _ _), some v => q = r ∧ fromRow s v ∧ match wr T G Mv σ o with
      | some (c, z, σ1) => c ∧ next ⟨putd σ1.env o.dst z, σ1.H⟩
      | none => False
    | _, _ => False
  | none => False

def plainL (T : Ty) (G : Glob) (Mv : Nat → Prop) (o : Oper) (σ : St) (rs : List Nat) (next : St → Prop) : Prop :=
  if isWr o.op then match wr T G Mv σ o with
    | some (c, x, σ') => c ∧ offAll rs o.op.operands.toList σ.env x ∧ next ⟨putd σ'.env o.dst x, σ'.H⟩
    | none => False
  else match rd T G σ o.op with
    | some (c, x) => c ∧ offAll rs o.op.operands.toList σ.env x ∧ next ⟨putd σ.env o.dst x, σ.H⟩
    | none => False

def sxl (P : Program) (T : Ty) (Mv : Nat → Prop) (G : Glob) (N : Nat) (la : List (Nat × Nat × Nat)) (av : List (Nat × List Nat)) (K : St → Prop) : List (Nat × Oper) → St → Prop
  | [], σ => K σ
  | (i, o) :: rest, σ => okDst N o ∧ o.guard = none ∧ match la.lookup i with
    | some (r, s) => appK T Mv G o σ r s (sxl P T Mv G N la av K rest)
    | none => kindOf o.op ≠ 9 ∧ match isCall o.op with
      | some c => callD P G c σ.env o.dst σ.H (avOf av i) o.op.operands.toList (sxl P T Mv G N la av K rest)
      | none => plainL T G Mv o σ (avOf av i) (sxl P T Mv G N la av K rest)

/-- The operations in that order. -/
def inOrder (ops : Array Oper) : List Nat → List (Nat × Oper)
  | [] => []
  | i :: l => match ops[i]? with
    | some o => (i, o) :: inOrder ops l
    | none => inOrder ops l

theorem sxl_run {K : St → Prop} : ∀ (l : List Nat) (σ : St), (∀ i ∈ l, i < ops.size) → sxl P T Mv G N la av K (inOrder ops l) σ → ∃ σn, K σn ∧ runL P T Mv G N la av ops l σ σn := by
  intro l
  induction l with
  | nil => intro σ _ h; exact ⟨σ, h, rfl⟩
  | cons i l ih =>
    intro σ hl h
    have hi := hl i (by simp)
    have ho : ops[i]? = some ops[i] := by simp [hi]
    simp only [inOrder, ho] at h
    generalize ops[i] = o at ho h
    simp only [sxl] at h
    obtain ⟨hd, hgu, h⟩ := h
    have fin : ∀ σ1, LStep P T Mv G N la av i o σ σ1 → sxl P T Mv G N la av K (inOrder ops l) σ1 → ∃ σn, K σn ∧ runL P T Mv G N la av ops (i :: l) σ σn := fun σ1 hs h1 => by
      obtain ⟨σn, hk, hr⟩ := ih σ1 (fun j hj => hl j (by simp [hj])) h1
      exact ⟨σn, hk, o, ho, σ1, hs, hr⟩
    cases hla : la.lookup i with
    | some rs =>
      obtain ⟨r, s⟩ := rs
      simp only [hla] at h
      unfold appK at h
      split at h
      · rename_i x y hops
        split at h
        · rename_i q off n v hx hy
          obtain ⟨rfl, hs, h⟩ := h
          split at h
          · rename_i c z σ1 hw
            obtain ⟨hc, h⟩ := h
            obtain ⟨e, H⟩ := σ
            obtain ⟨m, row, happ, rfl, rfl⟩ := AppS.of hops hx hy hs hw hc
            refine fin _ ⟨hd, hgu, ?_⟩ h
            simp only [hla]
            exact ⟨m, row, happ, rfl⟩
          · exact h.elim
        · exact h.elim
      · exact h.elim
    | none =>
      simp only [hla] at h
      obtain ⟨hk, h⟩ := h
      split at h
      · rename_i c hc
        obtain ⟨y, g, ds, ht, hp, hoff, h⟩ := h
        refine fin _ ⟨hd, hgu, ?_⟩ h
        simp only [hla]
        refine ⟨hk, .d y, σ.H, ?_, rfl, offAll_ok hoff, fun _ c' hc' => ?_⟩
        · unfold Ex
          simp only [hc]
          exact ⟨y, ⟨g, _, ht, .inl ⟨ds, rfl, hp⟩⟩, rfl, trivial⟩
        · rw [hc] at hc'
          obtain rfl := Option.some.inj hc'
          exact ⟨y, g, ds, ht, hp, rfl⟩
      · rename_i hc
        unfold plainL at h
        split at h
        · rename_i hw
          split at h
          · rename_i c x σ1 h1
            obtain ⟨hcc, hoff, h⟩ := h
            have he := wr_env hk h1
            obtain ⟨e, H⟩ := σ
            obtain ⟨e1, H1⟩ := σ1
            dsimp only at he
            subst he
            refine fin _ ⟨hd, hgu, ?_⟩ h
            simp only [hla]
            refine ⟨hk, x, H1, ?_, rfl, offAll_ok hoff, fun _ c' hc' => ?_⟩
            · unfold Ex
              simp only [hc]
              rw [if_pos hw]
              exact ⟨c, h1, hcc⟩
            · rw [hc] at hc'; cases hc'
          · exact h.elim
        · rename_i hw
          split at h
          · rename_i c x h1
            obtain ⟨hcc, hoff, h⟩ := h
            refine fin _ ⟨hd, hgu, ?_⟩ h
            simp only [hla]
            refine ⟨hk, x, σ.H, ?_, rfl, offAll_ok hoff, fun _ c' hc' => ?_⟩
            · unfold Ex
              simp only [hc]
              rw [if_neg hw]
              exact ⟨c, h1, hcc, trivial⟩
            · rw [hc] at hc'; cases hc'
          · exact h.elim

/-- A REGION THAT DRAWS ITS ORDER, and appends to several rows: one run, in one order. -/
theorem AW_regionL (hg : Good P T) (hm : P.follows .mixedOrders = true) (la : List (Nat × Nat × Nat)) (av : List (Nat × List Nat)) (ord : List Nat) {id : Nat} (hok : okDrawL la av ord ops = true) {Q : Exit → St → Prop} {σ : St} (h : sxl P T Mv G N la av (fun σ' => Q .normal σ') (inOrder ops ord) σ) : AW P Mv X G N (.region id ops true) Q σ := fun w μ a hi => by
  unfold okDrawL at hok
  simp only [Bool.and_eq_true] at hok
  obtain ⟨⟨⟨⟨⟨h1, h2⟩, h3⟩, h4⟩, h5⟩, h6⟩ := hok
  have hlen : ord.length = ops.size := by simpa using h1
  have hlt : ∀ i ∈ ord, i < ops.size := fun i hi => by simpa using List.all_eq_true.1 h2 i hi
  have hall : ∀ i, i < ops.size → i ∈ ord := fun i hi => by simpa using List.all_eq_true.1 h3 i (List.mem_range.2 hi)
  have hnd : ord.Nodup := by simpa using h4
  have hedge : ∀ j oj, ops[j]? = some oj → ∀ e ∈ oj.after, Region.binds .any e = true → e.on < j := fun j oj hoj e he hb => by
    have := List.all_eq_true.1 h5 j (List.mem_range.2 (Array.getElem?_eq_some_iff.1 hoj).1)
    simp only [hoj] at this
    have := Array.all_eq_true_iff_forall_mem.1 this e he
    simpa [hb] using this
  obtain ⟨σn, hQ, hrun⟩ := sxl_run ord σ hlt h
  refine wp_region_any hm ?_
  obtain ⟨hin, hev⟩ := hi.grew (Mv := Mv) (Grew.drew w)
  refine anyL_ok hg hedge hQ ops.size ord _ w.drew μ a σ hlen hnd (fun j => ?_) (by simp) (pairs_of h6) ?_ hrun hin hev
  · constructor
    · intro hj
      have := hlt j hj
      simp [Array.getD_eq_getD_getElem?, this]
    · intro hj
      exact hall j hj.1
  · intro j oj hoj hlj
    have hj := (Array.getElem?_eq_some_iff.1 hoj).1
    simp [Array.getD_eq_getD_getElem?, hj] at hlj

theorem AW_rl (hg : Good P T) (hM : ∀ r, Mv r) (hm : P.follows .mixedOrders = true) (la : List (Nat × Nat × Nat)) (av : List (Nat × List Nat)) (ord : List Nat) (l ns : List Nat) {id : Nat} (hok : okDrawL la av ord ops = true) {y : Code} {Q : Exit → St → Prop} {σ : St}
    (h : ∀ K : St → Prop, (∀ τ : St, AW P Mv X G N y Q (τ.norm l ns) → K τ) → sxl P T Mv G N la av K (inOrder ops ord) σ) : AW P Mv X G N (.seq (.region id ops true) y) Q σ :=
  AW_seq (AW_regionL hg hm la av ord hok (h _ fun _ h => h.norm hM))
theorem AW_rle (hg : Good P T) (hm : P.follows .mixedOrders = true) (la : List (Nat × Nat × Nat)) (av : List (Nat × List Nat)) (ord : List Nat) {id : Nat} (hok : okDrawL la av ord ops = true) {Q : Exit → St → Prop} {σ : St}
    (h : ∀ K : St → Prop, (∀ τ : St, Q .normal τ → K τ) → sxl P T Mv G N la av K (inOrder ops ord) σ) : AW P Mv X G N (.region id ops true) Q σ := AW_regionL hg hm la av ord hok (h _ fun _ h => h)
end
end Go.Av
