/-
  Texts that belong together, in one file: R2, RR3, RR5, P7.
-/
import Derived.Test.YthnjfeielmbfkaaGreatDoorRv23
import Derived.SizedLaws
set_option linter.unusedSimpArgs false
set_option linter.unusedVariables false
namespace Go.Proofs.YthnjfeielmbfkaaGreatDoor
open Go.Av Go.ChangeShapes Go.WideShapes Go.ChangeAt Go.RowKit
section
variable {P : Program} {H : Type} {enc : TypeId × Value → H} {w : World} {base : Nat} {spare : Nat → Bool} {held : Bool} {X : Nat → Prop}
theorem weightsAll_in {e : TypeId} : ∀ {l : List (DataW H)} {d : DataW H}, d ∈ l → ∀ n ∈ d.weights P e, n ∈ DataW.weightsAll P e l
 | [], _, h, _, _ => by cases h
 | d :: l, d', h, n, hn => by
  simp only [DataW.weightsAll, List.mem_append]
  rcases List.mem_cons.1 h with rfl | h
  ·exact .inl hn
  ·exact .inr (weightsAll_in h n hn)
def ReadsW (enc : TypeId × Value → H) (P : Program) (w : World) (base : Nat) (spare : Nat → Bool) (held : Bool) (X : Nat → Prop) (t : TypeId) {α : Type} (p : α → Prop) (f : α → List D) : Prop :=
 ∀ fuel cs x, DataW.trod enc P w base spare held fuel t cs = some x → (∀ n ∈ x.1.weights P t, n ≤ reachBytes) → ∃ a, p a ∧ CellsRD w X cs (f a)
theorem ReadsAs.weighed {t : TypeId} {α : Type} {p : α → Prop} {f : α → List D} (h : ReadsAs enc P w base spare held X t p f) : ReadsW enc P w base spare held X t p f := fun fuel cs x hx _ => h fuel cs x hx
theorem readsW_slice {t e : TypeId} {α : Type} {p : α → Prop} {f : α → List D} {sz : Nat} (ht : P.underlying t = some (.slice e)) (hc : P.cellsOf e = sz) (hz : 0 < sz) (hby : 0 < P.bytesOf e) (hX : ∀ b, ¬ X b) (he : ReadsW enc P w base spare held X e p f) :
  ReadsW enc P w base spare held X t (fun l : List α => (∀ a ∈ l, p a) ∧ l.length ≤ reachBytes) (fun l => [.sl none (l.map f)]) := by
 intro fuel cs x h hwt
 rcases Deep.open_slice ht h with ⟨rfl, _⟩ | ⟨a, len, cap, m, n, DD, PP, rfl, hb, hl, hm, hmm, rfl, hx⟩
 ·exact ⟨[], ⟨by simp, by simp⟩, .one (.nil (by simp))⟩
 ·have hle : len ≤ m := by rw [hmm]; split <;> omega
  simp only [DataW.weights, ht, List.mem_cons, List.mem_append, List.length_map, List.length_range] at hwt
  have hlr : len ≤ reachBytes := by
   have h1 := hwt _ (.inl rfl)
   have h2 : len * 1 ≤ (len + (m - len)) * P.bytesOf e := Nat.mul_le_mul (by omega) hby
   omega
  have hdw : ∀ i, i < len → ∀ n ∈ (DD i).weights P e, n ≤ reachBytes := fun i hi n hn => hwt n (.inr (.inl (weightsAll_in (List.mem_map.2 ⟨i, List.mem_range.2 hi, rfl⟩) n hn)))
  rcases Nat.eq_zero_or_pos len with rfl | hpos
  ·exact ⟨[], ⟨by simp, by simp⟩, .one (.empty (by simp) hm)⟩
  ·have hel : ∀ i, i < len → ∃ x, p x ∧ ∃ cs', w.cells? base (a.add (i * P.cellsOf e)) (P.cellsOf e) = some cs' ∧ CellsRD w X cs' (f x) := fun i hi => by
    obtain ⟨cs', h1, h2⟩ := hx i (by omega)
    obtain ⟨x, hp, hr⟩ := he _ _ _ h2 (hdw i hi)
    exact ⟨x, hp, cs', h1, hr⟩
   have : Inhabited α := ⟨(hel 0 hpos).choose⟩
   obtain ⟨g, hg⟩ := Deep.choose_lt hel
   refine ⟨(List.range len).map g, ⟨fun y hy => ?_, by simp; omega⟩, .one ?_⟩
   ·obtain ⟨i, hi, rfl⟩ := List.mem_map.1 hy
    exact (hg i (List.mem_range.1 hi)).1
   rw [hc] at hg
   have hcell : ∀ i j, i < len → j < sz → ∃ u, w.cell? ((a.add (i * sz)).add j) = some u ∧ (∀ c, (f (g i))[j]? = some c → RD w X u c) ∧ (f (g i)).length = sz := fun i j hi hj => by
    obtain ⟨_, cs', h1, h2, h3⟩ := hg i hi
    obtain ⟨_, hlen, hcs⟩ := World.cells?_some h1
    refine ⟨cs'[j], by rw [hcs j hj]; simp [hlen, hj], fun c hcc => h3 j _ c (by simp [hlen, hj]) hcc, by omega⟩
   have hspot : a.spot = none := by
    obtain ⟨u, hu, _⟩ := hcell 0 0 hpos hz
    simp only [Nat.zero_mul, Addr.add, if_true] at hu; exact World.cell?_spot hu
   obtain ⟨b, off, spot⟩ := a
   dsimp only at hspot
   subst hspot
   have hcell : ∀ i j, i < len → j < sz → ∃ u, w.cell? ⟨b, off + (i * sz + j), none⟩ = some u ∧ (∀ c, (f (g i))[j]? = some c → RD w X u c) ∧ (f (g i)).length = sz := fun i j hi hj => by
    have := hcell i j hi hj
    rwa [addr_add, addr_add, Nat.add_assoc] at this
   refine .sl (f := fun i j => (w.cell? ⟨b, off + (i * sz + j), none⟩).getD undef) (by simp) (by simp) hl hm (hX b) (fun el hel => ?_) hz hpos (fun i j hi hj => ?_) (fun i j el c h1 h2 => ?_)
   ·obtain ⟨y, hy, rfl⟩ := List.mem_map.1 hel
    obtain ⟨i, hi, rfl⟩ := List.mem_map.1 hy
    exact (hcell i 0 (List.mem_range.1 hi) hz).choose_spec.2.2
   ·obtain ⟨u, hu, _⟩ := hcell i j hi hj
    rw [hu]; rfl
   ·rw [List.getElem?_map, List.getElem?_map] at h1
    obtain ⟨y, hy, rfl⟩ := Option.map_eq_some_iff.1 h1
    obtain ⟨i', hi', rfl⟩ := Option.map_eq_some_iff.1 hy
    obtain ⟨hlt, rfl⟩ := List.getElem?_eq_some_iff.1 hi'
    rw [List.getElem_range] at h2; simp only [List.length_range] at hlt
    have hj : j < sz := by
     obtain ⟨_, _, _, h3⟩ := hcell i 0 hlt hz
     rw [← h3]; exact (List.getElem?_eq_some_iff.1 h2).1
    obtain ⟨u, hu, hr, _⟩ := hcell i j hlt hj
    rw [hu]; exact hr c h2
theorem readsW_struct2 {t : TypeId} {f0 f1 : Field} {α β : Type} {p : α → Prop} {q : β → Prop} {f : α → List D} {g : β → List D} (ht : P.underlying t = some (.struct #[f0, f1])) (hn : P.cellsOf t = P.cellsOf f0.type + P.cellsOf f1.type) (h0 : f0.offset = 0) (h1 : f1.offset = P.cellsOf f0.type)
  (hf : ReadsW enc P w base spare held X f0.type p f) (hg : ReadsW enc P w base spare held X f1.type q g) : ReadsW enc P w base spare held X t (fun s : α × β => p s.1 ∧ q s.2) (fun s => f s.1 ++ g s.2) := by
 intro fuel cs x h hwt
 obtain ⟨y0, y1, n, hx, hl, t0, t1⟩ := trod_struct2 ht h
 subst hx; simp only [DataW.weights, ht, DataW.weightsEach, List.map_cons, List.map_nil, List.mem_append, List.append_nil] at hwt
 obtain ⟨a, pa, ca⟩ := hf _ _ _ t0 fun n hn => hwt n (.inl hn)
 obtain ⟨b, pb, cb⟩ := hg _ _ _ t1 fun n hn => hwt n (.inr hn)
 refine ⟨(a, b), ⟨pa, pb⟩, ?_⟩
 have e0 : cs = (cs.drop f0.offset).take (P.cellsOf f0.type) ++ (cs.drop f1.offset).take (P.cellsOf f1.type) := by
  rw [h0, h1, List.drop_zero, List.take_of_length_le (l := List.drop _ _) (by simp; omega), List.take_append_drop]
 rw [e0]
 obtain ⟨la, ra⟩ := ca
 obtain ⟨lb, rb⟩ := cb
 refine ⟨by rw [List.length_append, List.length_append, la, lb], fun j u c hu hc => ?_⟩
 rcases Nat.lt_or_ge j (f a).length with hj | hj
 ·rw [List.getElem?_append_left (by omega)] at hu hc; exact ra j u c hu hc
 ·rw [List.getElem?_append_right (by omega)] at hu hc; rw [la] at hu; exact rb _ u c hu hc
end
end Go.Proofs.YthnjfeielmbfkaaGreatDoor
namespace Go.Proofs.YthnjfeielmbfkaaGreatDoor
open Go.Av Go.ChangeShapes Go.WideShapes Go.ChangeAt Go.RowKit
theorem byR_int : 0 < Tryz.prog.bytesOf 3 := by decide +kernel
theorem byR_pt : 0 < Tryz.prog.bytesOf 118 := by decide +kernel
section
variable {H : Type} {enc : TypeId × Value → H} {w : World} {base : Nat} {spare : Nat → Bool} {held : Bool} {X : Nat → Prop}
theorem readsWR_ints (hX : ∀ b, ¬ X b) : ReadsW enc Tryz.prog w base spare held X 25 (fun l : List Int => l.length ≤ reachBytes) (fun l => [dRow l]) := fun fuel cs x h hwt => by
 obtain ⟨l, ⟨_, h2⟩, hr⟩ := readsW_slice Tryz.underlying25 cellsR_int (by omega) byR_int hX (ReadsAs.weighed readsR_int) fuel cs x h hwt
 exact ⟨l, h2, hr⟩
theorem readsWR_pts (hX : ∀ b, ¬ X b) : ReadsW enc Tryz.prog w base spare held X 104 (fun l : List (Int × Bool) => l.length ≤ reachBytes) (fun l => [dPts l]) := fun fuel cs x h hwt => by
 obtain ⟨l, ⟨_, h2⟩, hr⟩ := readsW_slice Tryz.underlying104 cellsR_pt (by omega) byR_pt hX (ReadsAs.weighed readsR_pt) fuel cs x h hwt
 exact ⟨l, h2, hr⟩
theorem readsWR_rt (hX : ∀ b, ¬ X b) : ReadsW enc Tryz.prog w base spare held X 106 (fun s : Rt => s.1.length ≤ reachBytes ∧ s.2.length ≤ reachBytes) cRt := fun fuel cs x h hwt => by
 obtain ⟨s, hp, hr⟩ := readsW_struct2 Tryz.underlying106 (by rw [cellsR_rt]; simp only [cellsR_ints, cellsR_pts]) rfl (by simp only [cellsR_ints]) (readsWR_ints hX) (readsWR_pts hX) fuel cs x h hwt
 exact ⟨s, hp, hr⟩
end
end Go.Proofs.YthnjfeielmbfkaaGreatDoor
namespace Go.Proofs.YthnjfeielmbfkaaGreatDoor
open Go.Av Go.ChangeShapes Go.WideShapes Go.ChangeAt Go.RowKit
theorem byR_rt : 0 < Tryz.prog.bytesOf 106 := by decide +kernel
section
variable {H : Type} {enc : TypeId × Value → H} {w : World} {base : Nat} {spare : Nat → Bool} {held : Bool} {X : Nat → Prop}
theorem readsWR_rts (hX : ∀ b, ¬ X b) : ReadsW enc Tryz.prog w base spare held X 22 (fun l : List Rt => (∀ r ∈ l, r.1.length ≤ reachBytes ∧ r.2.length ≤ reachBytes) ∧ l.length ≤ reachBytes) (fun l => [dRts l]) := fun fuel cs x h hwt => by
 obtain ⟨l, hp, hr⟩ := readsW_slice Tryz.underlying22 cellsR_rt (by omega) byR_rt hX (readsWR_rt hX) fuel cs x h hwt
 exact ⟨l, hp, hr⟩
theorem readsWR_tb (hX : ∀ b, ¬ X b) : ReadsW enc Tryz.prog w base spare held X 24 (fun t : Tb => (∀ r ∈ t.rts, r.1.length ≤ reachBytes ∧ r.2.length ≤ reachBytes) ∧ t.rts.length ≤ reachBytes) cTb := fun fuel cs x h hwt => by
 obtain ⟨xs, n, hxe, rfl, hl, hlen, hf⟩ := DataW.trod_struct Tryz.underlying24 h
 obtain ⟨y0, y1, y2, rfl⟩ := list3 hlen
 rw [cellsR_tb] at hl
 obtain ⟨c0, c1, c2, rfl⟩ := list3 hl
 have t0 : DataW.trod enc Tryz.prog w base spare held n 3 (([c0, c1, c2].drop 0).take (Tryz.prog.cellsOf 3)) = some y0 := hf 0 _ rfl
 have t1 : DataW.trod enc Tryz.prog w base spare held n 3 (([c0, c1, c2].drop 1).take (Tryz.prog.cellsOf 3)) = some y1 := hf 1 _ rfl
 have t2 : DataW.trod enc Tryz.prog w base spare held n 22 (([c0, c1, c2].drop 2).take (Tryz.prog.cellsOf 22)) = some y2 := hf 2 _ rfl
 rw [cellsR_int] at t0 t1; rw [cellsR_rts] at t2
 have hw2 : ∀ m ∈ y2.1.weights Tryz.prog 22, m ≤ reachBytes := fun m hm => hwt m (by
  simp [DataW.weights, Tryz.underlying24, DataW.weightsEach, hm])
 obtain ⟨a0, _, r0⟩ := readsR_int (enc := enc) (w := w) (base := base) (spare := spare) (held := held) (X := X) _ _ _ (show DataW.trod enc Tryz.prog w base spare held n 3 [c0] = _ from t0)
 obtain ⟨a1, _, r1⟩ := readsR_int (enc := enc) (w := w) (base := base) (spare := spare) (held := held) (X := X) _ _ _ (show DataW.trod enc Tryz.prog w base spare held n 3 [c1] = _ from t1)
 obtain ⟨a2, hp, r2⟩ := readsWR_rts hX _ _ _ (show DataW.trod enc Tryz.prog w base spare held n 22 [c2] = _ from t2) hw2
 refine ⟨⟨a0, a1, a2⟩, hp, rfl, fun j u c hu hc => ?_⟩
 match j, hu, hc with
 | 0, hu, hc => exact r0.2 0 u c (by simpa using hu) (by simpa [cTb] using hc)
 | 1, hu, hc => exact r1.2 0 u c (by simpa using hu) (by simpa [cTb] using hc)
 | 2, hu, hc => exact r2.2 0 u c (by simpa using hu) (by simpa [cTb] using hc)
 | j + 3, hu, hc => simp at hu
end
end Go.Proofs.YthnjfeielmbfkaaGreatDoor
namespace Go.Proofs.YthnjfeielmbfkaaGreatDoor
def sg (t : Tab) (k : Nat) : List (List Int) := (List.range t.n).map (sig t (iter t k))
def bn (t : Tab) (k s : Nat) : Nat := dn (sg t k) s
end Go.Proofs.YthnjfeielmbfkaaGreatDoor
