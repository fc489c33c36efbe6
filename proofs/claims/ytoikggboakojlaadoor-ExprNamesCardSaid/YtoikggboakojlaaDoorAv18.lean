/-
  Regions, one operation at a time; states stay written out.
-/
import Derived.Test.YtoikggboakojlaaDoorAv17
namespace Go.Av

section
variable {P : Program} {T : Ty} {Mv X : Nat → Prop} {G : Glob} {N : Nat} {σ : St}

theorem upd_lst (l : List (Nat × AV)) (i : Nat) (x : AV) : upd (lst l) i x = lst ((i, x) :: l) := by
  funext j
  simp only [upd, lst, List.lookup]
  by_cases h : j = i
  · subst h; simp
  · have : (j == i) = false := by simpa using h
    simp [h, this]
theorem hup_hlst (l : List (Nat × Row)) (i : Nat) (x : Row) : hup (hlst l) i x = hlst ((i, x) :: l) := by
  funext j
  simp only [hup, hlst, List.lookup]
  by_cases h : j = i
  · subst h; simp
  · have : (j == i) = false := by simpa using h
    simp [h, this]
theorem lookup_map {α β : Type} (f : α → β) (l : List (Nat × α)) (i : Nat) : (l.map fun p => (p.1, f p.2)).lookup i = (l.lookup i).map f := by
  induction l with
  | nil => rfl
  | cons p l ih =>
    simp only [List.map_cons, List.lookup]
    cases h : (i == p.1) <;> simp [ih]
theorem killE_lst (r : Nat) (l : List (Nat × AV)) : killE r (lst l) = lst (l.map fun p => (p.1, p.2.kill r)) := by
  funext j; simp only [killE, lst, lookup_map]
theorem killH_hlst (r : Nat) (l : List (Nat × Row)) : killH r (hlst l) = hlst (l.map fun p => (p.1, p.2.kill r)) := by
  funext j; simp only [killH, hlst, lookup_map]
theorem trE_lst (o f : Nat → Nat → Nat → AV) (l : List (Nat × AV)) : trE o f (lst l) = lst (l.map fun p => (p.1, p.2.tr o f)) := by
  funext j; simp only [trE, lst, lookup_map]
theorem hno_hlst : hno = hlst [] := rfl
theorem args_lst0 : args [] = lst [] := by funext i; simp [args, lst]

def stepF (P : Program) (T : Ty) (Mv X : Nat → Prop) (G : Glob) (N : Nat) (ops : Array Oper) (o : Oper) (σ : St) (K : St → Prop) : Prop := okDst N o ∧ match wantedS ops σ.env o with
  | some b => if b = true then exK P T Mv X G N o σ K else K ⟨putd σ.env o.dst und, σ.H⟩
  | none => False
def stepD (P : Program) (T : Ty) (Mv : Nat → Prop) (G : Glob) (N : Nat) (ops : Array Oper) (o : Oper) (σ : St) (K : St → Prop) : Prop := okDst N o ∧ match wantedS ops σ.env o with
  | some b => if b = true then (match isCall o.op with
    | some c => callQ P G c σ o.dst K
    | none => plainS T G Mv o σ K) else K ⟨putd σ.env o.dst und, σ.H⟩
  | none => False
def stepL (P : Program) (T : Ty) (Mv : Nat → Prop) (G : Glob) (N : Nat) (la : List (Nat × Nat × Nat)) (av : List (Nat × List Nat)) (i : Nat) (o : Oper) (σ : St) (K : St → Prop) : Prop := okDst N o ∧ o.guard = none ∧ match la.lookup i with
  | some (r, s) => appK T Mv G o σ r s K
  | none => kindOf o.op ≠ 9 ∧ match isCall o.op with
    | some c => callD P G c σ.env o.dst σ.H (avOf av i) o.op.operands.toList K
    | none => plainL T G Mv o σ (avOf av i) K

theorem sxf_next {ops : Array Oper} {K : St → Prop} {o : Oper} {rest : List Oper} (h : ∀ K' : St → Prop, (∀ τ, sxf P T Mv X G N ops K rest τ → K' τ) → stepF P T Mv X G N ops o σ K') : sxf P T Mv X G N ops K (o :: rest) σ := h _ fun _ h => h
theorem sxd_next {ops : Array Oper} {K : St → Prop} {o : Oper} {rest : List Oper} (h : ∀ K' : St → Prop, (∀ τ, sxd P T Mv G N ops K rest τ → K' τ) → stepD P T Mv G N ops o σ K') : sxd P T Mv G N ops K (o :: rest) σ := h _ fun _ h => h
theorem sxl_next {la : List (Nat × Nat × Nat)} {av : List (Nat × List Nat)} {K : St → Prop} {i : Nat} {o : Oper} {rest : List (Nat × Oper)} (h : ∀ K' : St → Prop, (∀ τ, sxl P T Mv G N la av K rest τ → K' τ) → stepL P T Mv G N la av i o σ K') : sxl P T Mv G N la av K ((i, o) :: rest) σ := h _ fun _ h => h
theorem sxf_nil {ops : Array Oper} {K : St → Prop} (h : K σ) : sxf P T Mv X G N ops K [] σ := h
theorem sxd_nil {ops : Array Oper} {K : St → Prop} (h : K σ) : sxd P T Mv G N ops K [] σ := h
theorem sxl_nil {la : List (Nat × Nat × Nat)} {av : List (Nat × List Nat)} {K : St → Prop} (h : K σ) : sxl P T Mv G N la av K [] σ := h
end
end Go.Av
