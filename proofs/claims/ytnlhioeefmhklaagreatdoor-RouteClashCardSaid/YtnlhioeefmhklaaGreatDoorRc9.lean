/-
  Texts that belong together, in one file: Av31, Av32, RP1.
-/
import Derived.Test.YtnlhioeefmhklaaGreatDoorRc8
import Derived.Scope
/-
  Scopes that are left without a jump.
-/
namespace Go.Av

def noG (Q : Exit → St → Prop) : Exit → St → Prop
  | .goto _, _ => False
  | e, σ => Q e σ
section
variable {P : Program} {Mv X : Nat → Prop} {G : Glob} {N : Fr} {σ : St}
end
attribute [simp] noG
end Go.Av

/-
  Regions that draw their order, in which calls work on memory that they are lent: one behind the other; loads that are named may pass them.
-/
namespace Go.Av
set_option linter.unusedSimpArgs false
set_option linter.unusedVariables false
set_option linter.unusedSectionVars false

section
variable {P : Program} {T : Ty} {Mv X : Nat → Prop} {G : Glob} {N : Fr} {w : World} {μ : Mu} {a : Act} {σ : St}

/-- Slots that name none of the rows. -/
def OffE (mvd : List Nat) (e : Env) : Prop := ∀ r ∈ mvd, killE r e = e
def OffV (mvd : List Nat) (x : AV) : Prop := ∀ r ∈ mvd, x.kill r = x
theorem OffE.put {mvd : List Nat} {e : Env} (h : OffE mvd e) {x : AV} (hx : OffV mvd x) (d : Option Tmp) : OffE mvd (putd e d x) := fun r hr => by rw [killE_putd, h r hr, hx r hr]
theorem OffV.d (mvd : List Nat) (y : D) : OffV mvd (.d y) := fun _ _ => rfl
theorem RV.off {w' : World} {μ' : Mu} {mvd : List Nat} (hev : Ev (fun r => r ∈ mvd) w μ w' μ') : ∀ {v : Value} {x : AV}, RV w X μ v x → OffV mvd x → RV w' X μ' v x := by
  intro v x hr
  have ne : ∀ {q : Nat}, (∀ r ∈ mvd, ¬ q = r) → ∀ m, μ q = some m → μ' q = some m := fun h m hm => hev.kept _ m hm fun hmem => h _ hmem rfl
  have sub : ∀ {l : List AV}, (∀ r ∈ mvd, AV.kill.go r l = l) → ∀ (j : Nat) (c : AV), l[j]? = some c → OffV mvd c := fun {l} h j c hc r hr => by
    have := h r hr
    rw [AV.go_eq] at this
    have h2 := congrArg (fun l : List AV => l[j]?) this
    simp only [List.getElem?_map, hc, Option.map_some, Option.some.injEq] at h2
    exact h2
  induction hr with
  | d h' => intro _; exact .d (h'.ev hev)
  | own hm h' =>
    intro ho
    refine .own (ne (fun r hr e => ?_) _ hm) h'
    have := ho r hr
    simp [AV.kill, e] at this
  | ref hm hb =>
    intro ho
    refine .ref (ne (fun r hr e => ?_) _ hm) hb
    have := ho r hr
    simp [AV.kill, e] at this
  | agg hn _ ih =>
    intro ho
    exact .agg hn fun j u c hu hc => ih j u c hu hc (sub (fun r hr => by have := ho r hr; simpa [AV.kill] using this) j c hc)
  | tup hn _ ih =>
    intro ho
    exact .tup hn fun j u c hu hc => ih j u c hu hc (sub (fun r hr => by have := ho r hr; simpa [AV.kill] using this) j c hc)
  | ifc _ ih => intro ho; exact .ifc (ih fun r hr => by have := ho r hr; simpa [AV.kill] using this)
  | bm _ ih => intro ho; exact .bm (ih fun r hr => by have := ho r hr; simpa [AV.kill] using this)
  | fn hn _ ih =>
    intro ho
    exact .fn hn fun j u c hu hc => ih j u c hu hc (sub (fun r hr => by have := ho r hr; simpa [AV.kill] using this) j c hc)
  | mp hm hb =>
    intro ho
    refine .mp (ne (fun r hr e => ?_) _ hm) hb
    have := ho r hr
    simp [AV.kill, e] at this
  | dead u => intro _; exact .dead u

/-- A call that leaves the rows where they lie, but those of mvd; and all slots as they are that name none of these. -/
def HC (P : Program) (G : Glob) (mvd : List Nat) (g : FuncId) (xs : List AV) (H : Heap) (y : AV) (H2 : Heap) : Prop := ∀ (Mv X : Nat → Prop) (N : Fr) (e : Env), (∀ r ∈ mvd, Mv r) → OffE mvd e → callS P Mv X G N g xs ⟨e, H⟩ fun x σ' => x = y ∧ σ' = ⟨e, H2⟩

theorem HC.of {mvd : List Nat} {g : FuncId} {xs : List AV} {H H2 : Heap} {y : AV} (h : ∀ (X : Nat → Prop) (N : Fr) (e : Env), callS P (fun r => r ∈ mvd) X G N g xs ⟨e, H⟩ fun x σ' => x = y ∧ σ'.H = H2) : HC P G mvd g xs H y H2 := fun Mv X N e hmv hoff => by
  refine ⟨(h X N e).1, fun w μ a vs hi hn hv => ((h X N e).2 w μ a vs hi hn hv).mono fun e' w' ⟨v, x, σ', μ', he, ⟨hxy, hH⟩, hin, hr, hev⟩ => ?_⟩
  subst hH
  refine ⟨v, x, ⟨e, σ'.H⟩, μ', he, ⟨hxy, rfl⟩, ⟨hin.sim, ⟨hi.env.defers, hi.env.size, fun i z hz => ?_⟩, hin.glob⟩, hr, hev.weaken fun r _ _ h => hmv r h⟩
  obtain ⟨u, hu, hru⟩ := hi.env.slot i z hz
  refine ⟨u, hu, RV.off hev hru fun r hr => ?_⟩
  have h1 := congrFun (hoff r hr) i
  replace hz : e i = some z := hz
  simpa [killE, hz] using h1

theorem HC.mc {mvd : List Nat} {fx : List Nat} {g : FuncId} {xs0 xs : List AV} {H : Heap} {rows1 rows2 : List (Nat × Row)} {y : AV} (hc : MC P G fx g xs (hlst rows1) y (hlst rows2)) (hx : xs0.map (AV.tr (onlyO (rows1.map (·.1))) (onlyF (rows1.map (·.1)))) = xs)
    (hH : ∀ p ∈ rows1, (H p.1).map (Row.tr (onlyO (rows1.map (·.1))) (onlyF (rows1.map (·.1)))) = hlst rows1 p.1) (hd : ∀ p ∈ rows2, (rows1.map (·.1)).contains p.1 = true ∨ H p.1 = none) (hm : ∀ r ∈ rows1.map (·.1), fx.contains r = false → r ∈ mvd) :
    HC P G mvd g xs0 H y (hjoin (hlst rows2) (trH (offL (rows1.map (·.1))) (stayO (rows1.map (·.1)) fx) (stayF (rows1.map (·.1)) fx) H)) := .of fun X N e => by
  refine callS.lentM hc hx (funext (rowsEq hH)).symm (fun q hq => ?_) (fun r hr => hm r (List.contains_iff_mem.1 hr)) ⟨rfl, rfl⟩
  have hmem : ∀ l : List (Nat × Row), (hlst l q).isSome = true → ∃ p ∈ l, p.1 = q := by
    intro l
    induction l with
    | nil => intro h; simp [hlst] at h
    | cons p l ih =>
      intro h
      simp only [hlst, List.lookup] at h
      cases hqp : (q == p.1) with
      | true => exact ⟨p, by simp, by simpa using (beq_iff_eq.1 hqp).symm⟩
      | false =>
        rw [hqp] at h
        obtain ⟨p', h1, h2⟩ := ih h
        exact ⟨p', by simp [h1], h2⟩
  obtain ⟨p, hp, rfl⟩ := hmem rows2 hq
  exact hd p hp

/-! ### Any steps that swap -/

variable {ops : Array Oper} {Step : Nat → Oper → St → St → Prop} {cp : Nat → Nat → Oper → Oper → Bool}

/-! ### Lent calls -/

/-- What is read at p is the same in both heaps. -/
def LdSame (T : Ty) (ops : Array Oper) (H H2 : Heap) (p : Nat × AV) : Prop := match ops[p.1]? with
  | some o => match o.op with
    | .load t _ => loadA T H t p.2 = loadA T H2 t p.2
    | _ => False
  | none => False
def ldAt (G : Glob) (ex : List (Nat × AV)) (i : Nat) (o : Oper) (e : Env) : Prop := match ex.lookup i with
  | some pv => match o.op with
    | .load _ x => aeval G e x = some pv
    | _ => False
  | none => True

/-! ### As one computes it -/

def hcK (P : Program) (T : Ty) (Mv : Nat → Prop) (G : Glob) (mvd : List Nat) (ops : Array Oper) (ex : List (Nat × AV)) (g : FuncId) (xs : List AV) (σ : St) (dst : Option Tmp) (K : St → Prop) : Prop := ∃ y H2, (∀ r ∈ mvd, Mv r) ∧ HC P G mvd g xs σ.H y H2 ∧ (∀ p ∈ ex, LdSame T ops σ.H H2 p) ∧ OffV mvd y ∧ K ⟨putd σ.env dst y, H2⟩
theorem hcK.mc {mvd : List Nat} {ex : List (Nat × AV)} {dst : Option Tmp} {K : St → Prop} {fx : List Nat} {g : FuncId} {xs0 xs : List AV} {rows1 rows2 : List (Nat × Row)} {y : AV} (hc : MC P G fx g xs (hlst rows1) y (hlst rows2)) (hx : xs0.map (AV.tr (onlyO (rows1.map (·.1))) (onlyF (rows1.map (·.1)))) = xs)
    (hH : ∀ p ∈ rows1, (σ.H p.1).map (Row.tr (onlyO (rows1.map (·.1))) (onlyF (rows1.map (·.1)))) = hlst rows1 p.1) (hd : ∀ p ∈ rows2, (rows1.map (·.1)).contains p.1 = true ∨ σ.H p.1 = none) (hm : ∀ r ∈ rows1.map (·.1), fx.contains r = false → r ∈ mvd) (hmv : ∀ r ∈ mvd, Mv r) (ho : ∀ r ∈ mvd, y.kill r = y)
    (hl : ∀ p ∈ ex, LdSame T ops σ.H (hjoin (hlst rows2) (trH (offL (rows1.map (·.1))) (stayO (rows1.map (·.1)) fx) (stayF (rows1.map (·.1)) fx) σ.H)) p)
    (h : K ⟨putd σ.env dst y, hjoin (hlst rows2) (trH (offL (rows1.map (·.1))) (stayO (rows1.map (·.1)) fx) (stayF (rows1.map (·.1)) fx) σ.H)⟩) : hcK P T Mv G mvd ops ex g xs0 σ dst K := ⟨y, _, hmv, .mc hc hx hH hd hm, hl, ho, h⟩

def plainM (T : Ty) (G : Glob) (Mv : Nat → Prop) (mvd : List Nat) (o : Oper) (σ : St) (next : St → Prop) : Prop :=
  if isWr o.op then match wr T G Mv σ o with
    | some (c, x, σ') => c ∧ (∀ r ∈ mvd, x.kill r = x) ∧ next ⟨putd σ'.env o.dst x, σ'.H⟩
    | none => False
  else match rd T G σ o.op with
    | some (c, x) => c ∧ (∀ r ∈ mvd, x.kill r = x) ∧ next ⟨putd σ.env o.dst x, σ.H⟩
    | none => False

def stepM (P : Program) (T : Ty) (Mv : Nat → Prop) (G : Glob) (N : Fr) (mvd db hv : List Nat) (ex : List (Nat × AV)) (ops : Array Oper) (i : Nat) (o : Oper) (σ : St) (K : St → Prop) : Prop := okDst N o ∧ o.guard = none ∧
  if db.contains i = true then (match dataW T G σ.env o with
    | some (c, y) => c ∧ K ⟨putd σ.env o.dst (.d y), σ.H⟩
    | none => False)
  else if hv.contains i = true then (match isCall o.op with
    | some c => match tgt G σ.env c with
      | some (g, xs) => hcK P T Mv G mvd ops ex g xs σ o.dst K
      | none => False
    | none => False)
  else kindOf o.op ≠ 9 ∧ ldAt G ex i o σ.env ∧ match isCall o.op with
    | some c => callD P G c σ.env o.dst σ.H [] [] K
    | none => plainM T G Mv mvd o σ K

end
attribute [simp] stepM ldAt plainM
end Go.Av

/-
  Plain: tables of routes; the checks and the clash of both sides.
-/
namespace Go.Proofs.YtnlhioeefmhklaaGreatDoor
set_option linter.unusedSimpArgs false
set_option linter.unusedVariables false

/-- A route: its sections, its points (number, over). -/
abbrev Rt := List Int × List (Int × Bool)
def clashF (a b : Rt) : Bool := (a.1.any fun s => b.1.contains s) || a.2.any fun p => b.2.contains (p.1, !p.2)
theorem clashF_iff (a b : Rt) : clashF a b = true ↔ (∃ s, s ∈ a.1 ∧ s ∈ b.1) ∨ ∃ p ∈ a.2, (p.1, !p.2) ∈ b.2 := by
  unfold clashF
  rw [Bool.or_eq_true, List.any_eq_true, List.any_eq_true]
  simp only [List.contains_iff_mem]
theorem clashF_comm (a b : Rt) : clashF a b = clashF b a := by
  have one : ∀ a b : Rt, clashF a b = true → clashF b a = true := fun a b h => by
    rw [clashF_iff] at h ⊢
    rcases h with ⟨s, h1, h2⟩ | ⟨p, h1, h2⟩
    · exact .inl ⟨s, h2, h1⟩
    · exact .inr ⟨_, h2, by simpa using h1⟩
  cases h1 : clashF a b <;> cases h2 : clashF b a <;> first | rfl | skip
  · have := one b a h2; rw [h1] at this; cases this
  · have := one a b h1; rw [h2] at this; cases this
theorem clashF_sec {a b : Rt} {i k : Nat} (hi : i < a.1.length) (hk : k < b.1.length) (h : a.1[i] = b.1[k]) : clashF a b = true :=
  (clashF_iff a b).2 (.inl ⟨_, List.getElem_mem hi, h ▸ List.getElem_mem hk⟩)

/-! ### The document's points: a number from 1 on, less than nought where it lies back -/
/-! ### The checks -/
/-- Does a list hold one like an earlier one? -/
def twiceL {α : Type} (same : α → α → Bool) : List α → List α → Bool
  | _, [] => false
  | seen, x :: l => seen.any (same x) || twiceL same (seen ++ [x]) l
def twiceF (r : Rt) : Bool := twiceL (fun a b => a == b) [] r.1 || twiceL (fun a b => a.1 == b.1) [] r.2
/-- What is wrong of a route: 0, or the error's number (none, range, twice, as given). -/
def badR (eN eR eT : Int) (S P : Int) (r : Rt) : Int :=
  if r.1 = [] then eN else if (r.1.any fun s => decide (s < 0) || decide (s ≥ S)) || (r.2.any fun p => decide (p.1 < 0) || decide (p.1 ≥ P)) then eR else if twiceF r then eT else 0
end Go.Proofs.YtnlhioeefmhklaaGreatDoor
