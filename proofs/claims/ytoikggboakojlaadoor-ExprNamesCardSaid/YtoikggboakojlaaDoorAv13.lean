/-
  Rules in the forms that proofs use: what follows stands behind a name; slots that are not wanted any more are forgotten.
-/
import Derived.Test.YtoikggboakojlaaDoorAv12
namespace Go.Av

/-- The slots that are still wanted, written out. -/
def liveL : List Nat → Env → List (Nat × AV)
  | [], _ => []
  | i :: l, e => match e i with
    | some x => (i, x) :: liveL l e
    | none => liveL l e

section
variable {P : Program} {T : Ty} {Mv X : Nat → Prop} {G : Glob} {N : Nat} {σ : St}

theorem Imp.env {e e' : Env} {H : Heap} (h : ∀ i x, e' i = some x → e i = some x) : Imp Mv X G N ⟨e, H⟩ ⟨e', H⟩ := fun w μ _ hi =>
  ⟨μ, ⟨hi.sim, ⟨hi.env.defers, hi.env.size, fun i x hx => hi.env.slot i x (h i x hx)⟩, hi.glob⟩, .refl _ w μ⟩

theorem lst_live {e : Env} : ∀ {l : List Nat} {i : Nat} {x : AV}, lst (liveL l e) i = some x → e i = some x
  | [], _, _, h => by simp [lst, liveL] at h
  | j :: l, i, x, h => by
    simp only [liveL] at h
    split at h
    · rename_i y hy
      simp only [lst, List.lookup] at h
      split at h
      · rename_i hij
        have : i = j := by simpa using hij
        subst this
        obtain rfl := Option.some.inj h
        exact hy
      · exact lst_live (l := l) h
    · exact lst_live (l := l) h

theorem AW.live (l : List Nat) {c : Code} {Q : Exit → St → Prop} {e : Env} {H : Heap} (h : AW P Mv X G N c Q ⟨lst (liveL l e), H⟩) : AW P Mv X G N c Q ⟨e, H⟩ := AW.imp (Imp.env fun _ _ => lst_live) h

/-- A region, then what follows. -/
theorem AW_reg (hg : Good P T) (l : List Nat) {id : Nat} {ops : Array Oper} {y : Code} {Q : Exit → St → Prop} (h : ∀ K : St → Prop, (∀ e H, AW P Mv X G N y Q ⟨lst (liveL l e), H⟩ → K ⟨e, H⟩) → sxs P T Mv X G N ops K ops.toList σ) : AW P Mv X G N (.seq (.region id ops false) y) Q σ :=
  AW_seq (AW_region hg (h _ fun _ _ h => h.live l))

theorem AW_reg_draw (hg : Good P T) (hm : P.follows .mixedOrders = true) (l : List Nat) {id : Nat} {ops : Array Oper} (hok : okDraw ops = true) {y : Code} {Q : Exit → St → Prop} (h : ∀ K : St → Prop, (∀ e H, AW P Mv X G N y Q ⟨lst (liveL l e), H⟩ → K ⟨e, H⟩) → sxq P T Mv G N ops K ops.toList σ) : AW P Mv X G N (.seq (.region id ops true) y) Q σ :=
  AW_seq (AW_region_draw hg hm hok (h _ fun _ _ h => h.live l))

/-- A region at the end. -/
theorem AW_reg_end (hg : Good P T) (l : List Nat) {id : Nat} {ops : Array Oper} {Q : Exit → St → Prop} (h : ∀ K : St → Prop, (∀ e H, (∀ e', (∀ i x, e' i = some x → e i = some x) → e' = e → Q .normal ⟨e', H⟩) → K ⟨e, H⟩) → sxs P T Mv X G N ops K ops.toList σ) : AW P Mv X G N (.region id ops false) Q σ :=
  AW_region hg (h _ fun e _ h => h e (fun _ _ h => h) rfl)

/-- Two codes, the second one behind a name. -/
theorem AW_then {x y : Code} {Q : Exit → St → Prop} (h : ∀ K : St → Prop, (∀ σ', AW P Mv X G N y Q σ' → K σ') → AW P Mv X G N x (thn K Q) σ) : AW P Mv X G N (.seq x y) Q σ := AW_seq (h _ fun _ h => h)

theorem lst_mem : ∀ {l : List (Nat × AV)} {i : Nat} {x : AV}, lst l i = some x → (i, x) ∈ l
  | [], _, _, h => by simp [lst] at h
  | (j, y) :: l, i, x, h => by
    simp only [lst, List.lookup] at h
    split at h
    · rename_i hij
      have : i = j := by simpa using hij
      subst this
      obtain rfl := Option.some.inj h
      simp
    · exact List.mem_cons_of_mem _ (lst_mem (l := l) h)

theorem Imp.lst {e : Env} {H : Heap} {l : List (Nat × AV)} (h : ∀ p ∈ l, e p.1 = some p.2) : Imp Mv X G N ⟨e, H⟩ ⟨lst l, H⟩ := Imp.env fun i x hx => h (i, x) (lst_mem hx)

/-- The next round's state: some s, less than before. -/
def Again (Mv X : Nat → Prop) (G : Glob) (N : Nat) {S : Type} (I : S → Prop) (inv : S → St) (meas : S → Nat) (s : S) (σ : St) : Prop := ∃ s', I s' ∧ meas s' < meas s ∧ Imp Mv X G N σ (inv s')

theorem Again.mk {S : Type} {I : S → Prop} {inv : S → St} {meas : S → Nat} {s : S} (s' : S) (hI : I s') (hm : meas s' < meas s) (h : Imp Mv X G N σ (inv s')) : Again Mv X G N I inv meas s σ := ⟨s', hI, hm, h⟩

/-- A loop inside its block, and what follows. -/
theorem AW_for {S : Type} {id : Nat} {c : Code} {Q : Exit → St → Prop} (I : S → Prop) (inv : S → St) (meas : S → Nat) (s0 : S) (h0 : Imp Mv X G N σ (inv s0)) (hI : I s0)
    (round : ∀ s, I s → AW P Mv X G N c (thn (Again Mv X G N I inv meas s) (inb id Q)) (inv s)) : AW P Mv X G N (.block id (.loop c)) Q σ :=
  AW_block (AW_loop (S := {s // I s}) (fun s => inv s.1) (fun s => meas s.1) ⟨s0, hI⟩ h0 fun s => (round s.1 s.2).mono fun e τ q => by
    cases e with
    | normal => obtain ⟨s', h1, h2, h3⟩ := q; exact ⟨⟨s', h1⟩, h2, h3⟩
    | _ => exact q)

theorem AW_cond' {c : Operand} {x y : Code} {Q : Exit → St → Prop} {b : Prop} [Decidable b] (hc : aeval G σ.env c = some (.d (.v (.bool (decide b))))) (ht : b → AW P Mv X G N x Q σ) (hf : ¬ b → AW P Mv X G N y Q σ) : AW P Mv X G N (.cond c x y) Q σ :=
  AW_cond (decide b) hc (fun h => ht (of_decide_eq_true h)) (fun h => hf (of_decide_eq_false h))
end
end Go.Av
