/-
  Regions that draw their order: one run in the order of the text serves every order, where what is not ordered commutes.
-/
import Derived.Test.YtoikggboakojlaaDoorAv10
import Derived.Orders
namespace Go.Av

/-! ### Which operations commute -/

/-- 0: reads slots alone; 1: reads owned memory, too; 2: a call; 3: makes memory; 8: writes memory; 9: moves it. -/
def kindOf : Op → Nat
  | .load _ _ => 1
  | .indexAddr _ _ _ => 1
  | .slice _ _ _ _ _ => 1
  | .call { callee := .value _, .. } => 2
  | .call { callee := .builtin .append, .. } => 9
  | .alloc _ => 3
  | .box _ _ => 3
  | .buildSlice _ _ _ => 3
  | .makeSlice _ _ _ => 3
  | .store _ _ _ => 8
  | .select _ _ => 9
  | _ => 0

def mayPass (x y : Nat) : Bool := match x, y with
  | 0, 9 | 9, _ | 1, 8 | 1, 9 | 2, 3 | 2, 8 | 2, 9 | 3, 1 | 3, 2 | 3, 8 | 3, 9 | 8, 1 | 8, 2 | 8, 3 | 8, 8 | 8, 9 => false
  | _, _ => true

def compat (ops : Array Oper) (x y : Oper) : Bool := x.apart ops y && mayPass (kindOf x.op) (kindOf y.op)

/-- The operations behind which one stands, as bits. -/
def bitsOf (acc : List Nat) (o : Oper) : Nat := o.after.toList.foldr (fun e s => if Region.binds .any e then (2 ^ e.on ||| acc.getD e.on 0) ||| s else s) 0
def tbGo : List Oper → List Nat → List Nat
  | [], acc => acc
  | o :: l, acc => tbGo l (acc ++ [bitsOf acc o])
def tb (ops : Array Oper) : List Nat := tbGo ops.toList []

def okDraw (ops : Array Oper) : Bool :=
  let t := tb ops
  (List.range ops.size).all fun j => match ops[j]? with
    | some oj => (oj.after.all fun e => !Region.binds .any e || e.on < j) && (List.range j).all fun i => (t.getD j 0).testBit i || match ops[i]? with
        | some oi => compat ops oi oj && compat ops oj oi
        | none => true
    | none => true

section
variable {P : Program} {T : Ty} {Mv X : Nat → Prop} {G : Glob} {N : Nat}

/-- A call whose answer is data, that turns nothing. -/
def callTo (P : Program) (G : Glob) (σ : St) (c : Call) (y : D) : Prop := ∃ g xs, tgt G σ.env c = some (g, xs) ∧
  ((∃ ds, xs = ds.map .d ∧ PureC P G g ds y) ∨ (∃ ds, asDs (asD σ.H 4) xs = some ds ∧ y.scalar = true ∧ PureC P G g ds y))

/-- What one operation leads to. -/
def exTo (P : Program) (T : Ty) (Mv : Nat → Prop) (G : Glob) (o : Oper) (σ σ' : St) : Prop := match isCall o.op with
  | some c => ∃ y, callTo P G σ c y ∧ σ' = ⟨putd σ.env o.dst (.d y), σ.H⟩
  | none => if isWr o.op then ∃ c x σ1, wr T G Mv σ o = some (c, x, σ1) ∧ c ∧ σ' = ⟨putd σ1.env o.dst x, σ1.H⟩
    else ∃ c x, rd T G σ o.op = some (c, x) ∧ c ∧ σ' = ⟨putd σ.env o.dst x, σ.H⟩

def stepTo (P : Program) (T : Ty) (Mv : Nat → Prop) (G : Glob) (N : Nat) (ops : Array Oper) (o : Oper) (σ σ' : St) : Prop :=
  okDst N o ∧ ((wantedS ops σ.env o = some true ∧ exTo P T Mv G o σ σ') ∨ (wantedS ops σ.env o = some false ∧ σ' = ⟨putd σ.env o.dst und, σ.H⟩))

/-- The run in the order of the text. -/
def chain (P : Program) (T : Ty) (Mv : Nat → Prop) (G : Glob) (N : Nat) (ops : Array Oper) : List Oper → St → St → Prop
  | [], σ, σ' => σ = σ'
  | o :: l, σ, σ' => ∃ σ1, stepTo P T Mv G N ops o σ σ1 ∧ chain P T Mv G N ops l σ1 σ'

theorem stepTo_ok (hg : Good P T) {ops : Array Oper} {o : Oper} {σ σ' : St} (h : stepTo P T Mv G N ops o σ σ') {w : World} {μ : Mu} {a : Act} (hi : In w X G μ N a σ) {i : Nat} (ho : ops[i]? = some o) {Q : Exit → Act → World → Prop} {K : Act → World → Prop}
    (hk : ∀ w' μ' a', In w' X G μ' N a' σ' → Ev Mv w μ w' μ' → K a' w') : wpOp P ops Q i K a w := by
  obtain ⟨hd, h⟩ := h
  have hd' : ∀ d, o.dst = some d → d < N := fun d e => by unfold okDst at hd; rw [e] at hd; exact hd
  unfold wpOp
  simp only [ho]
  rcases h with ⟨hw, h⟩ | ⟨hw, rfl⟩
  · rw [wantedS_ok hi hw, if_pos rfl]
    refine .inl (ex1_ok (Mv := Mv) (K := fun σ1 => σ1 = σ') hg hi hd' ?_ fun w' μ' a' σ1 e hin hev => hk w' μ' a' (e ▸ hin) hev)
    unfold exTo at h
    unfold ex1
    split at h
    · rename_i c hc
      obtain ⟨y, ⟨g, xs, ht, hcall⟩, rfl⟩ := h
      simp only [hc, ht]
      rcases hcall with ⟨ds, rfl, hp⟩ | ⟨ds, hds, hs, hp⟩
      · exact callS.pure hp rfl
      · exact callS.lend hds hp hs rfl
    · rename_i hc
      simp only [hc, plainS]
      split at h
      · rename_i hwr
        rw [if_pos hwr]
        obtain ⟨c, x, σ1, hw1, hcc, rfl⟩ := h
        simp only [hw1]
        exact ⟨hcc, trivial⟩
      · rename_i hwr
        rw [if_neg hwr]
        obtain ⟨c, x, hr, hcc, rfl⟩ := h
        simp only [hr]
        exact ⟨hcc, trivial⟩
  · rw [wantedS_ok hi hw, if_neg (by simp)]
    exact hk w μ _ (hi.put (.d (.v _)) hd') (.refl _ w μ)

/-! ### Congruence -/

theorem putd_get {e : Env} {dst : Option Tmp} {x : AV} {t : Nat} (h : dst ≠ some t) : putd e dst x t = e t := by
  cases dst with
  | none => rfl
  | some d => have : t ≠ d := fun e => h (by rw [e]); simp [putd, upd, this]
theorem putd_comm {e : Env} {d d' : Option Tmp} {x y : AV} (h : ∀ t, d = some t → d' ≠ some t) : putd (putd e d x) d' y = putd (putd e d' y) d x := by
  cases d with
  | none => rfl
  | some t =>
    cases d' with
    | none => rfl
    | some t' =>
      have hne : t ≠ t' := fun e => h t rfl (by rw [e])
      funext i
      by_cases h1 : i = t <;> by_cases h2 : i = t' <;> simp [putd, upd, h1, h2, hne, Ne.symm hne]
      all_goals (subst h1; simp [hne])

/-- The slots at which an operation looks hold the same. -/
def Agree (o : Op) (e e' : Env) : Prop := ∀ t, Operand.tmp t ∈ o.operands → e t = e' t

theorem aeval_congr {e e' : Env} {x : Operand} (h : ∀ t, x = .tmp t → e t = e' t) : aeval G e x = aeval G e' x := by
  cases x with
  | tmp t => exact h t rfl
  | _ => rfl
theorem evalL_congr {e e' : Env} : ∀ {l : List Operand}, (∀ t, Operand.tmp t ∈ l → e t = e' t) → evalL G e l = evalL G e' l
  | [], _ => rfl
  | x :: l, h => by
    simp only [evalL]
    rw [aeval_congr (x := x) fun t ht => h t (by simp [ht]), evalL_congr (l := l) fun t ht => h t (by simp [ht])]
theorem evalP_congr {e e' : Env} : ∀ {l : List (Nat × Operand)}, (∀ t, Operand.tmp t ∈ l.map (·.2) → e t = e' t) → evalP G e l = evalP G e' l
  | [], _ => rfl
  | (i, x) :: l, h => by
    simp only [evalP]
    rw [aeval_congr (x := x) fun t ht => h t (by simp [ht]), evalP_congr (l := l) fun t ht => h t (by simp at ht ⊢; exact .inr ht)]
theorem bound_congr {e e' : Env} {o : Option Operand} (h : ∀ t, o = some (.tmp t) → e t = e' t) : bound G e o = bound G e' o := by
  cases o with
  | none => rfl
  | some x => simp only [bound]; rw [aeval_congr (x := x) fun t ht => h t (by rw [ht])]

theorem rd_congr {o : Op} {e e' : Env} {H : Heap} (h : Agree o e e') : rd T G ⟨e, H⟩ o = rd T G ⟨e', H⟩ o := by
  unfold Agree at h
  cases o
  case makeFunc f first caps =>
    simp only [rd]
    rw [evalL_congr (l := caps.toList) fun t ht => h t (by simp [Op.operands]; right; simpa using ht)]
  case build t parts =>
    simp only [rd]
    rw [evalP_congr (l := parts.toList) fun t ht => h t (by simpa [Op.operands] using ht)]
  case slice t x lo hi mx =>
    simp only [rd]
    rw [aeval_congr (x := x) fun t ht => h t (by simp [Op.operands, ht]), bound_congr (o := lo) fun t ht => h t (by simp [Op.operands, ht]), bound_congr (o := hi) fun t ht => h t (by simp [Op.operands, ht])]
  case call c =>
    obtain ⟨callee, args, argTypes⟩ := c
    cases callee with
    | builtin b =>
      cases b <;> try rfl
      simp only [rd]
      split
      · rename_i x t ha ht
        rw [aeval_congr (x := x) fun t ht => h t (by simp [Op.operands, Call.operands]; rw [← Array.mem_toList_iff, ha]; simp [ht])]
      · rfl
    | _ => rfl
  all_goals
    simp only [Op.operands, List.mem_toArray, List.mem_cons, List.not_mem_nil, or_false] at h
  all_goals
    first
      | rfl
      | (rename_i x; simp only [rd]; rw [aeval_congr (x := x) fun t ht => h t (by simp [ht])]; done)
      | (rename_i x _; simp only [rd]; rw [aeval_congr (x := x) fun t ht => h t (by simp [ht])]; done)
      | (rename_i x y; simp only [rd]; rw [aeval_congr (x := x) fun t ht => h t (by simp [ht]), aeval_congr (x := y) fun t ht => h t (by simp [ht])]; done)
      | (rename_i x y _; simp only [rd]; rw [aeval_congr (x := x) fun t ht => h t (by simp [ht]), aeval_congr (x := y) fun t ht => h t (by simp [ht])]; done)
      | (rename_i x y z; simp only [rd]; rw [aeval_congr (x := x) fun t ht => h t (by simp [ht]), aeval_congr (x := y) fun t ht => h t (by simp [ht]), aeval_congr (x := z) fun t ht => h t (by simp [ht])]; done)


/-- One operation's outcome: what it yields, the memory behind it. -/
def Ex (P : Program) (T : Ty) (Mv : Nat → Prop) (G : Glob) (o : Oper) (e : Env) (H : Heap) (x : AV) (H' : Heap) : Prop := match isCall o.op with
  | some c => ∃ y, callTo P G ⟨e, H⟩ c y ∧ x = .d y ∧ H' = H
  | none => if isWr o.op then ∃ c, wr T G Mv ⟨e, H⟩ o = some (c, x, ⟨e, H'⟩) ∧ c
    else ∃ c, rd T G ⟨e, H⟩ o.op = some (c, x) ∧ c ∧ H' = H

theorem wr_env {o : Oper} (hk : kindOf o.op ≠ 9) {σ σ1 : St} {c : Prop} {x : AV} (h : wr T G Mv σ o = some (c, x, σ1)) : σ1.env = σ.env := by
  obtain ⟨dst, op, type, pos, after, guard⟩ := o
  dsimp only at hk
  unfold wr at h
  dsimp only at h
  repeat' split at h
  all_goals first
    | (exact absurd rfl hk)
    | (simp only [Option.some.injEq, Prod.mk.injEq] at h; obtain ⟨_, _, rfl⟩ := h; rfl)
    | cases h

theorem Ex.of {o : Oper} (hk : kindOf o.op ≠ 9) {σ σ' : St} (h : exTo P T Mv G o σ σ') : ∃ x H', Ex P T Mv G o σ.env σ.H x H' ∧ σ' = ⟨putd σ.env o.dst x, H'⟩ := by
  unfold exTo at h
  unfold Ex
  split at h
  · rename_i c hc
    obtain ⟨y, hcall, rfl⟩ := h
    try simp only [hc]
    exact ⟨_, _, ⟨y, hcall, rfl, rfl⟩, rfl⟩
  · rename_i hc
    try simp only [hc]
    split at h
    · rename_i hw
      obtain ⟨c, x, σ1, h1, h2, rfl⟩ := h
      have he := wr_env hk h1
      refine ⟨x, σ1.H, ?_, by rw [he]⟩
      rw [if_pos hw]
      refine ⟨c, ?_, h2⟩
      obtain ⟨e, H⟩ := σ
      obtain ⟨e1, H1⟩ := σ1
      dsimp only at he
      subst he
      exact h1
    · rename_i hw
      obtain ⟨c, x, h1, h2, rfl⟩ := h
      refine ⟨x, σ.H, ?_, rfl⟩
      rw [if_neg hw]
      exact ⟨c, h1, h2, rfl⟩

theorem Ex.to {o : Oper} {e : Env} {H H' : Heap} {x : AV} (h : Ex P T Mv G o e H x H') : exTo P T Mv G o ⟨e, H⟩ ⟨putd e o.dst x, H'⟩ := by
  unfold Ex at h
  unfold exTo
  split at h
  · rename_i c hc
    obtain ⟨y, hcall, rfl, rfl⟩ := h
    try simp only [hc]
    exact ⟨y, hcall, rfl⟩
  · rename_i hc
    try simp only [hc]
    split at h
    · rename_i hw
      obtain ⟨c, h1, h2⟩ := h
      rw [if_pos hw]
      exact ⟨c, x, _, h1, h2, rfl⟩
    · rename_i hw
      obtain ⟨c, h1, h2, rfl⟩ := h
      rw [if_neg hw]
      exact ⟨c, x, h1, h2, rfl⟩

theorem isCall_op {o : Op} {c : Call} (h : isCall o = some c) : o = .call c ∧ kindOf o = 2 := by
  unfold isCall at h
  split at h
  · obtain rfl := Option.some.inj h; exact ⟨rfl, rfl⟩
  · cases h

theorem tgt_congr {e e' : Env} {c : Call} (h : ∀ t, Operand.tmp t ∈ c.operands → e t = e' t) : tgt G e c = tgt G e' c := by
  unfold tgt
  split
  · rename_i f hf
    rw [aeval_congr (x := f) fun t ht => h t (by simp [Call.operands, hf, ht]), evalL_congr (l := c.args.toList) fun t ht => h t (by simp [Call.operands, hf]; right; simpa using ht)]
  · rfl

theorem wr_congr {o : Oper} (hk : kindOf o.op ≠ 9) {e e' : Env} {H H' : Heap} {c : Prop} {x : AV} (ha : Agree o.op e e') (h : wr T G Mv ⟨e, H⟩ o = some (c, x, ⟨e, H'⟩)) : wr T G Mv ⟨e', H⟩ o = some (c, x, ⟨e', H'⟩) := by
  obtain ⟨dst, op, type, pos, after, guard⟩ := o
  dsimp only at hk ha
  unfold Agree at ha
  cases op
  case alloc t =>
    cases dst with
    | none => cases h
    | some d =>
      simp only [wr] at h ⊢
      split at h
      · rename_i ti ht
        simp only [Option.some.injEq, Prod.mk.injEq, St.mk.injEq, true_and] at h
        obtain ⟨rfl, rfl, rfl⟩ := h
        simp
      · cases h
  case box t y =>
    cases dst with
    | none => cases h
    | some d =>
      simp only [wr] at h ⊢
      rw [← aeval_congr (e := e) (x := y) fun t ht => ha t (by simp [Op.operands, ht])]
      split at h
      · simp only [Option.some.injEq, Prod.mk.injEq, St.mk.injEq, true_and] at h
        obtain ⟨rfl, rfl, rfl⟩ := h
        rename_i hcs
        simp [hcs]
      · cases h
  case store t y z =>
    cases dst with
    | some d => cases h
    | none =>
      simp only [wr] at h ⊢
      rw [← aeval_congr (e := e) (x := y) fun t ht => ha t (by simp [Op.operands, ht]), ← aeval_congr (e := e) (x := z) fun t ht => ha t (by simp [Op.operands, ht])]
      split at h
      · rename_i r e0 j v h1 h2
        try simp only [h1, h2]
        split at h
        · rename_i ty cells hH
          try simp only [hH]
          split at h
          · rename_i he
            try simp only [he, if_true]
            split at h
            · rename_i c' cells' hs
              try simp only [hs]
              simp only [Option.some.injEq, Prod.mk.injEq, St.mk.injEq, true_and] at h ⊢
              exact h
            · cases h
          · cases h
        · rename_i ty sz els hH
          try simp only [hH]
          split at h
          · rename_i c' els' hs
            try simp only [hs]
            simp only [Option.some.injEq, Prod.mk.injEq, St.mk.injEq, true_and] at h ⊢
            exact h
          · cases h
        · cases h
      · cases h
  case makeSlice t y z =>
    cases dst with
    | none => cases h
    | some d =>
      simp only [wr] at h ⊢
      rw [← aeval_congr (e := e) (x := y) fun t ht => ha t (by simp [Op.operands, ht]), ← aeval_congr (e := e) (x := z) fun t ht => ha t (by simp [Op.operands, ht])]
      split at h
      · rename_i tt htt
        try simp only [htt]
        split at h
        · rename_i e0 hd
          try simp only [hd]
          split at h
          · rename_i te kn n km m h0 h1 h2
            try simp only [h0, h1, h2]
            simp only [Option.some.injEq, Prod.mk.injEq, St.mk.injEq, true_and] at h ⊢
            exact h
          · cases h
        · cases h
      · cases h
  case buildSlice t n ps =>
    cases dst with
    | none => cases h
    | some d =>
      simp only [wr] at h ⊢
      rw [← evalP_congr (e := e) (l := ps.toList) fun t ht => ha t (by simpa [Op.operands] using ht)]
      split at h
      · rename_i tt htt
        try simp only [htt]
        split at h
        · rename_i e0 hd
          try simp only [hd]
          split at h
          · rename_i te pp h0 h1
            try simp only [h0, h1]
            split at h
            · rename_i els hels
              try simp only [hels]
              simp only [Option.some.injEq, Prod.mk.injEq, St.mk.injEq, true_and] at h ⊢
              exact h
            · cases h
          · cases h
        · cases h
      · cases h
  case call cc =>
    obtain ⟨callee, args, argTypes⟩ := cc
    cases callee with
    | builtin b =>
      cases b <;> first | (exact absurd rfl hk) | (cases dst <;> cases h)
    | _ => cases dst <;> cases h
  all_goals (cases dst <;> cases h)

theorem Ex.congr {o : Oper} (hk : kindOf o.op ≠ 9) {e e' : Env} {H H' : Heap} {x : AV} (ha : Agree o.op e e') (h : Ex P T Mv G o e H x H') : Ex P T Mv G o e' H x H' := by
  unfold Ex at h ⊢
  split at h
  · rename_i c hc
    try simp only [hc]
    obtain ⟨y, ⟨g, xs, ht, hcall⟩, h2, h3⟩ := h
    refine ⟨y, ⟨g, xs, ?_, hcall⟩, h2, h3⟩
    have ho := (isCall_op hc).1
    rw [← tgt_congr (e := e) fun t ht => ha t (by rw [ho]; exact ht)]
    exact ht
  · rename_i hc
    try simp only [hc]
    split at h
    · rename_i hw
      rw [if_pos hw]
      obtain ⟨c, h1, h2⟩ := h
      exact ⟨c, wr_congr hk ha h1, h2⟩
    · rename_i hw
      rw [if_neg hw]
      obtain ⟨c, h1, h2, h3⟩ := h
      exact ⟨c, by rw [← rd_congr ha]; exact h1, h2, h3⟩

theorem isWr_kind {o : Op} (h : isWr o = true) : kindOf o = 3 ∨ kindOf o = 8 ∨ kindOf o = 9 := by
  unfold isWr at h
  split at h <;> first | (exact .inl rfl) | (exact .inr (.inl rfl)) | (exact .inr (.inr rfl)) | cases h

/-- Memory is kept. -/
theorem Ex.keeps {o : Oper} (hk : kindOf o.op ≤ 2) {e : Env} {H H' : Heap} {x : AV} (h : Ex P T Mv G o e H x H') : H' = H := by
  unfold Ex at h
  split at h
  · obtain ⟨_, _, _, rfl⟩ := h; rfl
  · split at h
    · rename_i hw
      rcases isWr_kind hw with h' | h' | h' <;> omega
    · obtain ⟨_, _, _, rfl⟩ := h; rfl

theorem rd_noH {o : Op} (hk : kindOf o = 0) {e : Env} (H H2 : Heap) : rd T G ⟨e, H⟩ o = rd T G ⟨e, H2⟩ o := by
  cases o
  case call c =>
    obtain ⟨callee, args, argTypes⟩ := c
    cases callee with
    | builtin b => cases b <;> rfl
    | _ => rfl
  all_goals first | rfl | (simp [kindOf] at hk)

/-- Looking at memory goes on as it did where a row is new. -/
theorem rd_grow {o : Op} (hk : kindOf o = 1) {e : Env} {H : Heap} {d : Nat} (hd : H d = none) (row : Row) {c : Prop} {x : AV} (h : rd T G ⟨e, H⟩ o = some (c, x)) : rd T G ⟨e, hup H d row⟩ o = some (c, x) := by
  have key : ∀ r y, H r = some y → hup H d row r = some y := fun r y hr => by
    unfold hup
    split
    · rename_i hh; subst hh; rw [hd] at hr; cases hr
    · exact hr
  have kl : ∀ t v, loadA T H t v = some (c, x) → loadA T (hup H d row) t v = some (c, x) := fun t v h => by
    unfold loadA at h ⊢
    split at h
    · exact h
    · split at h
      · rename_i hr; simp only [key _ _ hr]; exact h
      · rename_i hr; simp only [key _ _ hr]; exact h
      · cases h
    · cases h
  have ki : ∀ t v u, indexA T H t v u = some (c, x) → indexA T (hup H d row) t v u = some (c, x) := fun t v u h => by
    unfold indexA at h ⊢
    split at h
    · exact h
    · split at h
      · rename_i h1 hr; simp only [h1, key _ _ hr]; exact h
      · cases h
    · cases h
  have ks : ∀ t v l u, sliceA T H t v l u = some (c, x) → sliceA T (hup H d row) t v l u = some (c, x) := fun t v l u h => by
    unfold sliceA at h ⊢
    dsimp only at h ⊢
    split at h
    · exact h
    · exact h
    · split at h
      · rename_i h1 hr; simp only [h1, key _ _ hr]; exact h
      · cases h
    · cases h
  cases o
  case load t y =>
    simp only [rd, Option.bind_eq_some_iff] at h ⊢
    obtain ⟨v, h1, h2⟩ := h
    exact ⟨v, h1, kl t v h2⟩
  case indexAddr t y z =>
    simp only [rd] at h ⊢
    split at h
    · exact ki _ _ _ h
    · cases h
  case slice t y lo hi mx =>
    simp only [rd] at h ⊢
    split at h
    · rename_i hmx
      rw [if_pos hmx]
      split at h
      · exact ks _ _ _ _ h
      · cases h
    · cases h
  case call cc =>
    obtain ⟨callee, args, argTypes⟩ := cc
    cases callee with
    | builtin b => cases b <;> simp [kindOf] at hk
    | _ => simp [kindOf] at hk
  all_goals (simp [kindOf] at hk)
theorem Ex.grow {o : Oper} (hk : kindOf o.op = 1) {e : Env} {H H' : Heap} {x : AV} (h : Ex P T Mv G o e H x H') {d : Nat} (hd : H d = none) (row : Row) : Ex P T Mv G o e (hup H d row) x (hup H d row) := by
  unfold Ex at h ⊢
  split at h
  · rename_i c hc
    have := (isCall_op hc).2
    omega
  · rename_i hc
    try simp only [hc]
    split at h
    · rename_i hw
      rcases isWr_kind hw with h' | h' | h' <;> omega
    · rename_i hw
      rw [if_neg hw]
      obtain ⟨c, h1, h2, _⟩ := h
      exact ⟨c, rd_grow hk hd row h1, h2, by trivial⟩

/-- Memory is not looked at. -/
theorem Ex.free {o : Oper} (hk : kindOf o.op = 0) {e : Env} {H H' : Heap} {x : AV} (h : Ex P T Mv G o e H x H') (H2 : Heap) : Ex P T Mv G o e H2 x H2 := by
  unfold Ex at h ⊢
  split at h
  · rename_i c hc
    have := (isCall_op hc).2
    omega
  · rename_i hc
    try simp only [hc]
    split at h
    · rename_i hw
      rcases isWr_kind hw with h' | h' | h' <;> omega
    · rename_i hw
      rw [if_neg hw]
      obtain ⟨c, h1, h2, _⟩ := h
      exact ⟨c, by rw [rd_noH hk H2 H]; exact h1, h2, by trivial⟩

/-- Memory is made. -/
theorem Ex.makes {o : Oper} (hk : kindOf o.op = 3) {e : Env} {H H' : Heap} {x : AV} (h : Ex P T Mv G o e H x H') : ∃ d row, o.dst = some d ∧ H d = none ∧ H' = hup H d row ∧ ∀ H2, H2 d = none → Ex P T Mv G o e H2 x (hup H2 d row) := by
  obtain ⟨dst, op, type, pos, after, guard⟩ := o
  dsimp only at hk
  unfold Ex at h
  unfold Ex
  have hc : isCall op = none := by
    cases hcc : isCall op with
    | none => rfl
    | some c => have := (isCall_op hcc).2; omega
  simp only [hc] at h ⊢
  cases op <;> simp only [kindOf] at hk <;> first | omega | skip
  case alloc t =>
    simp only [isWr, if_true] at h ⊢
    obtain ⟨c, h1, h2⟩ := h
    cases dst with
    | none => cases h1
    | some d =>
      simp only [wr] at h1 ⊢
      split at h1
      · simp only [Option.some.injEq, Prod.mk.injEq, St.mk.injEq, true_and] at h1
        obtain ⟨rfl, rfl, rfl⟩ := h1
        exact ⟨d, _, rfl, h2, rfl, fun H2 h => ⟨_, rfl, h⟩⟩
      · cases h1
  case box t y =>
    simp only [isWr, if_true] at h ⊢
    obtain ⟨c, h1, h2⟩ := h
    cases dst with
    | none => cases h1
    | some d =>
      simp only [wr] at h1 ⊢
      split at h1
      · simp only [Option.some.injEq, Prod.mk.injEq, St.mk.injEq, true_and] at h1
        obtain ⟨rfl, rfl, rfl⟩ := h1
        exact ⟨d, _, rfl, h2, rfl, fun H2 h => ⟨_, rfl, h⟩⟩
      · cases h1
  case makeSlice t y z =>
    simp only [isWr, if_true] at h ⊢
    obtain ⟨c, h1, h2⟩ := h
    cases dst with
    | none => cases h1
    | some d =>
      simp only [wr] at h1 ⊢
      split at h1
      · split at h1
        · split at h1
          · simp only [Option.some.injEq, Prod.mk.injEq, St.mk.injEq, true_and] at h1
            obtain ⟨rfl, rfl, rfl⟩ := h1
            exact ⟨d, _, rfl, h2.1, rfl, fun H2 h => ⟨_, rfl, h, h2.2⟩⟩
          · cases h1
        · cases h1
      · cases h1
  case buildSlice t n ps =>
    simp only [isWr, if_true] at h ⊢
    obtain ⟨c, h1, h2⟩ := h
    cases dst with
    | none => cases h1
    | some d =>
      simp only [wr] at h1 ⊢
      split at h1
      · split at h1
        · split at h1
          · split at h1
            · simp only [Option.some.injEq, Prod.mk.injEq, St.mk.injEq, true_and] at h1
              obtain ⟨rfl, rfl, rfl⟩ := h1
              exact ⟨d, _, rfl, h2.1, rfl, fun H2 h => ⟨_, rfl, h, h2.2⟩⟩
            · cases h1
          · cases h1
        · cases h1
      · cases h1
  case call cc =>
    obtain ⟨callee, args, argTypes⟩ := cc
    cases callee with
    | builtin b => cases b <;> simp at hk
    | _ => simp at hk
end
end Go.Av
