/-
  Texts that belong together, in one file: LB1, A7, V6, V8, LP1, LC1, LC2.
-/
import Derived.Test.YthnjfeielmbfkaaGreatDoorSb24
import Derived.Shelf.Strings.Trim
import Derived.Shelf.Strings.Split
import Derived.Shelf.Strings.Cut
import Derived.Shelf.Strings.Search3
import Derived.Shelf.Strings.Search1
set_option linter.unusedSimpArgs false
set_option linter.unusedVariables false
namespace Go.Proofs.YthnjfeielmbfkaaGreatDoor
open Go.Av Go.Shelf Go.RowKit
theorem drewN_grew (w : World) : ∀ n, Grew w (w.drewN n)
 | 0 => Grew.refl _
 | n + 1 => by
  have h := drewN_grew w n
  have h2 := Grew.drew (w.drewN n)
  exact ⟨Nat.le_trans h.size h2.size, h2.os.trans h.os, h2.tape.trans h.tape, h2.output.trans h.output, fun b hb => (h2.same b (Nat.lt_of_lt_of_le hb h.size)).trans (h.same b hb)⟩
theorem trim1_spec (G : Glob) (l : Tx) (hl : l.length < 2^60) : PureC Tryz.prog G 91 [dS l, dS [32]] (dS (Lib.trimB l 32)) := by
 refine PureC.of_calls (Fun.of Tryz.func91 rfl rfl) fun X w vs hsz hrd hgl => ?_
 obtain ⟨a, b, rfl⟩ : ∃ a b, vs = #[a, b] := by
  match vs, hsz with
  | ⟨[a, b]⟩, _ => exact ⟨a, b, rfl⟩
 have ha := (hrd 0 a _ rfl rfl).scalar
 have hb := (hrd 1 b _ rfl rfl).scalar
 subst ha hb
 have hL : Lays.n160 Tryz.prog Tryz.lays160_ren := { Tryz.lays160 with }
 have hcon := Any.strings_Trim_one hL (bs l) 32 (by decide) w (by rw [bs_size]; omega)
 refine hcon.mono fun e w' ⟨he, hw⟩ => ⟨_, he, ?_, .v _⟩
 rcases hw with rfl | rfl
 ·exact Grew.refl _
 ·exact Grew.drew _
theorem max_cell {G : Glob} {m : Int} {w : World} {X : Nat → Prop} (hm : G 5 = some (.ip [dNum m])) (hgl : ∀ g x, G g = some x → RD w X (.pointer (some ⟨g, 0, none⟩)) x) : w.cell? ⟨5, 0, none⟩ = some (.int .i64 m) := by
 obtain ⟨b', off, f, hp, _, _, hcell, hr⟩ := (hgl _ _ hm).ip_inv
 have h0 := hcell 0 (by simp)
 have h1 := (hr 0 _ rfl).scalar
 rw [h1] at h0
 injection hp with hp
 injection hp with hp
 injection hp with hp1 hp2 _
 subst hp1 hp2; exact h0
theorem scut_spec (G : Glob) (hM : HasMax G) (t : Tx) (c : UInt8) (ht : t.length < 2^30) : PureC Tryz.prog G 148 [dS t, dS [c]] (.tup [dS (if c ∈ t then (cutAt c t).1 else t), dS (if c ∈ t then (cutAt c t).2 else []), .v (.bool (decide (c ∈ t)))]) := by
 obtain ⟨m, hm⟩ := hM
 refine PureC.of_calls (Fun.of Tryz.func148 rfl rfl) fun X w vs hsz hrd hgl => ?_
 obtain ⟨u, v, rfl⟩ : ∃ u v, vs = #[u, v] := by
  match vs, hsz with
  | ⟨[u, v]⟩, _ => exact ⟨u, v, rfl⟩
 have hu := (hrd 0 u _ rfl rfl).scalar
 have hv := (hrd 1 v _ rfl rfl).scalar
 subst hu hv
 have hL : Lays.n145 Tryz.prog Tryz.lays145_ren := { Tryz.lays145 with }
 have hcon := Any.strings_Cut hL (bs t) (bs [c]) m w (by rw [bs_size]; omega) (max_cell hm hgl)
 refine hcon.mono fun e w' ⟨he, n, hw⟩ => ⟨_, he, by rw [hw]; exact drewN_grew w n, ?_⟩; rw [bs_data, bs_data, cut_lib]; refine .tup (by rfl) fun j u x hu hx => ?_
 by_cases hc : c ∈ t
 ·simp only [hc, if_true, decide_true] at hu hx
  match j, hu, hx with
  | 0, hu, hx => simp at hu hx; subst hu hx; exact .v _
  | 1, hu, hx => simp at hu hx; subst hu hx; exact .v _
  | 2, hu, hx => simp at hu hx; subst hu hx; exact .v _
  | j + 3, hu, hx => simp at hx
 ·simp only [hc, if_false, decide_false] at hu hx
  match j, hu, hx with
  | 0, hu, hx => simp at hu hx; subst hu hx; exact .v _
  | 1, hu, hx => simp at hu hx; subst hu hx; exact .v _
  | 2, hu, hx => simp at hu hx; subst hu hx; exact .v _
  | j + 3, hu, hx => simp at hx
theorem rd_strs {w : World} {X : Nat → Prop} {b : Nat} {ss : List ByteArray} {cap : Nat} (hX : ¬ X b) (hc : ss.length ≤ cap) (hm : cap ≤ maxLen) (h : ∀ (i : Nat) (hi : i < ss.length), w.cell? ⟨b, i, none⟩ = some (.string ss[i])) :
  RD w X (.slice (some ⟨b, 0, none⟩) ss.length cap) (.sl (some true) (ss.map fun s => [dS s.data.toList])) := by
 by_cases h0 : ss.length = 0
 ·obtain rfl := List.length_eq_zero_iff.1 h0
  exact .empty (by simp) hm
 ·refine .sl (sz := 1) (f := fun i _ => (w.cell? ⟨b, 0 + (i * 1 + 0), none⟩).getD undef) (by simp) (by simp) hc hm hX (fun el hel => ?_) (by omega) (by omega) (fun i j hi hj => ?_) (fun i j el c h1 h2 => ?_)
  ·obtain ⟨s, _, rfl⟩ := List.mem_map.1 hel; rfl
  ·obtain rfl : j = 0 := by omega
   have := h i hi
   simp only [Nat.mul_one, Nat.add_zero, Nat.zero_add]; rw [this]; rfl
  ·rw [List.getElem?_map] at h1
   obtain ⟨s, hs, rfl⟩ := Option.map_eq_some_iff.1 h1
   obtain ⟨hi, rfl⟩ := List.getElem?_eq_some_iff.1 hs
   obtain rfl : j = 0 := by
    have := (List.getElem?_eq_some_iff.1 h2).1
    simpa using this
   have := h i hi
   simp at h2; subst h2; simp only [Nat.mul_one, Nat.add_zero, Nat.zero_add]; rw [this]
   have e : bs ss[i].data.toList = ss[i] := by simp [bs]
   unfold dS; rw [e]; exact .v _
theorem of_callsX {G : Glob} {g : FuncId} {ds : List D} {y : D} (hf : Fun Tryz.prog g)
  (h : ∀ (X : Nat → Prop) (w : World) (vs : Array Value), (∀ b, X b → b < w.heap.size) → vs.size = ds.length → (∀ (i : Nat) (u : Value) (x : D), vs[i]? = some u → ds[i]? = some x → RD w X u x) → (∀ g x, G g = some x → RD w X (.pointer (some ⟨g, 0, none⟩)) x) →
   Calls Tryz.prog g vs w fun e w' => ∃ v, e = .returned v ∧ Grew w w' ∧ RD w' X v y) : PureC Tryz.prog G g ds y := by
 refine ⟨hf, fun X w μ vs hs hgl hsz hv => ?_⟩
 have hμ : μ = fun _ => none := by
  funext r
  cases hr : μ r with
  | none => rfl
  | some m => obtain ⟨row, hrow⟩ := hs.dom r m hr; cases hrow
 subst hμ; refine (h X w vs hs.fits (by simpa using hsz) (fun i u x hu hx => ?_) (fun g x hx => (hgl g x hx).sub fun b hb => XX_none.2 hb)).mono fun e w' ⟨v, he, hg, hr⟩ => ?_
 ·exact (hv i u (.d x) hu (by rw [List.getElem?_map, hx]; rfl)).data.sub fun b hb => XX_none.2 hb
 ·refine ⟨v, .d y, hno, fun _ => none, he, ⟨rfl, rfl⟩, .d (hr.sub fun b hb => XX_none.1 hb), Sim.none fun b hb => Nat.lt_of_lt_of_le (hs.fits b hb) hg.size, hg.size, hg.os, hg.tape, hg.output, fun b hb _ => ⟨hg.same b hb, fun ⟨_, _, hh, _⟩ => by cases hh⟩, fun r m hr => by cases hr⟩
end Go.Proofs.YthnjfeielmbfkaaGreatDoor
namespace Go.Proofs.YthnjfeielmbfkaaGreatDoor
open Go.Av
theorem parse_some {t : List UInt8} (h : (parseM t).2 = none) : ∃ x, (parseM t).1 = some x := by
 unfold parseM at h ⊢
 split at h
 ·cases h
 ·rw [if_neg ‹_›]
  split at h
  ·cases h
  ·split at h
   ·cases h
   ·rw [if_neg ‹_›]; exact ⟨_, rfl⟩
end Go.Proofs.YthnjfeielmbfkaaGreatDoor
namespace Go.Proofs.YthnjfeielmbfkaaGreatDoor
open Go.Av
theorem idx_some {α : Type} (p : α → Bool) (l : List α) : decide (0 ≤ idx p l) = l.any p := by
 unfold idx
 cases h : l.findIdx? p with
 | none =>
  rw [List.findIdx?_eq_none_iff] at h
  have : l.any p = false := by rw [List.any_eq_false]; intro x hx; simp [h x hx]
  rw [this]; simp
 | some i =>
  rw [List.findIdx?_eq_some_iff_getElem] at h
  obtain ⟨hi, hp, _⟩ := h
  have : l.any p = true := List.any_eq_true.2 ⟨_, List.getElem_mem hi, hp⟩
  rw [this]; simp
theorem evA_any (is was : List UInt8 → Bool) : ∀ l : List Ex, evA is was l = !(l.any fun e => !evE is was e)
 | [] => rfl
 | e :: l => by rw [evA, evA_any is was l]; simp
theorem evO_any (is was : List UInt8 → Bool) : ∀ l : List Ex, evO is was l = l.any fun e => evE is was e
 | [] => rfl
 | e :: l => by rw [evO, evO_any is was l]; simp
set_option maxHeartbeats 1000000 in
theorem indexAnd_spec (G : Glob) (k : Option Bool) (xs : List Ex) (g : FuncId) (caps : List D) (p : Ex → Bool) (hl : xs.length < 2^63) (ha : ∀ x ∈ xs, PureC Tryz.prog G g (dE x :: caps) (.v (.bool (p x)))) :
  PureC Tryz.prog G 217 [.sl k (xs.map fun x => [dE x]), .fn (.func g) caps] (.v (.int .i64 (idx p xs))) := by
 refine PureC.of_body (tyOf_good _) Tryz.func217 rfl rfl (rs := [.tmp 4]) Tryz.results217 (by simp [Tryz.ntmps217]) fun X => ?_; simp only [Tryz.ntmps217, List.map]; refine rg0 [0,1] [] ?_; refine AW_then fun K1 hK1 => ?_; refine rg0 [0,1,7,8] [] ?_; refine AW_for (S := Nat) (fun n => n ≤ xs.length ∧ ∀ i (hi : i < xs.length), i < n → p xs[i] = false) (fun n => ⟨lst [(0, .d (.sl k (xs.map fun x => [dE x]))), (1, .d (.fn (.func g) caps)), (7, int xs.length), (8, int n)], hlst []⟩) (fun n => xs.length - n) 0 ?_ (by simp) ?_
 ·refine Imp.to' (fun _ _ => trivial) (by simp) (by simp)
 ·rintro n ⟨hn, hp⟩
  refine rg0 [0,1,7,8,9] [] ?_; refine AW_then fun K2 hK2 => ?_; refine AW_cond' (b := n < xs.length) (by simp [D.le, D.le.go, takeMap]) (fun hc => ?_) (fun hc => ?_)
  ·have hax := ha xs[n] (by simp)
   refine AW_skip (hK2 _ ?_); refine AW_then fun K3 hK3 => ?_; refine AW_block ?_; refine rg0 [0,1,5,7,8] [] ?_
   have qf := @hc
   refine rgcv hax [0,1,5,7,8,16] [] ?_; refine AW_cond _ rfl (fun hp2 => ?_) (fun hp2 => ?_)
   ·refine rg0 [4] [] ?_; refine AW_ret ?_; simp [D.le, D.le.go, takeMap]; exact (idx_hit hc hp2 fun i hi => hp i (by omega) hi).symm
   ·refine AW_skip (hK3 _ ?_); refine AW_re (tyOf_good _) fun K' hK' => ?_; (repeat (refine sxn fun K2 hK2 => ?_; simp; (repeat (refine ⟨by omega, ?_⟩)); refine hK2 _ ?_; clear hK2 K2)); refine sxz (hK' _ ?_); clear hK' K'; (try simp only [thn, inb]); refine Again.mk (n + 1) ⟨by omega, fun i hi hin => ?_⟩ (by omega) ?_
    ·by_cases h : i = n
     ·subst h; exact hp2
     ·exact hp i hi (by omega)
    refine Imp.to' (fun _ _ => trivial) (by simp) (by simp)
  ·refine AW_exit (hK1 _ ?_); refine rg0 [4] [] ?_; refine AW_ret ?_; simp [D.le, D.le.go, takeMap]; exact (idx_miss fun i hi => hp i hi (by omega)).symm
theorem containsAnd_spec (G : Glob) (k : Option Bool) (xs : List Ex) (g : FuncId) (caps : List D) (p : Ex → Bool) (hl : xs.length < 2^63) (ha : ∀ x ∈ xs, PureC Tryz.prog G g (dE x :: caps) (.v (.bool (p x)))) :
  PureC Tryz.prog G 165 [.sl k (xs.map fun x => [dE x]), .fn (.func g) caps] (.v (.bool (xs.any p))) := by
 have hi := indexAnd_spec G k xs g caps p hl ha
 have hd := idx_some p xs
 generalize idx p xs = r at hi hd; rw [← hd]; refine PureC.of_body (tyOf_good _) Tryz.func165 rfl rfl (rs := [.tmp 4]) Tryz.results165 (by simp [Tryz.ntmps165]) fun X => ?_; simp only [Tryz.ntmps165, List.map]; refine rg0 [0,1] [] ?_; refine rgc trivial hi [4] [] ?_; refine AW_ret ?_; simp [D.le, D.le.go, takeMap]
set_option maxHeartbeats 1000000 in
theorem indexOr_spec (G : Glob) (k : Option Bool) (xs : List Ex) (g : FuncId) (caps : List D) (p : Ex → Bool) (hl : xs.length < 2^63) (ha : ∀ x ∈ xs, PureC Tryz.prog G g (dE x :: caps) (.v (.bool (p x)))) :
  PureC Tryz.prog G 218 [.sl k (xs.map fun x => [dE x]), .fn (.func g) caps] (.v (.int .i64 (idx p xs))) := by
 refine PureC.of_body (tyOf_good _) Tryz.func218 rfl rfl (rs := [.tmp 4]) Tryz.results218 (by simp [Tryz.ntmps218]) fun X => ?_; simp only [Tryz.ntmps218, List.map]; refine rg0 [0,1] [] ?_; refine AW_then fun K1 hK1 => ?_; refine rg0 [0,1,7,8] [] ?_; refine AW_for (S := Nat) (fun n => n ≤ xs.length ∧ ∀ i (hi : i < xs.length), i < n → p xs[i] = false) (fun n => ⟨lst [(0, .d (.sl k (xs.map fun x => [dE x]))), (1, .d (.fn (.func g) caps)), (7, int xs.length), (8, int n)], hlst []⟩) (fun n => xs.length - n) 0 ?_ (by simp) ?_
 ·refine Imp.to' (fun _ _ => trivial) (by simp) (by simp)
 ·rintro n ⟨hn, hp⟩
  refine rg0 [0,1,7,8,9] [] ?_; refine AW_then fun K2 hK2 => ?_; refine AW_cond' (b := n < xs.length) (by simp [D.le, D.le.go, takeMap]) (fun hc => ?_) (fun hc => ?_)
  ·have hax := ha xs[n] (by simp)
   refine AW_skip (hK2 _ ?_); refine AW_then fun K3 hK3 => ?_; refine AW_block ?_; refine rg0 [0,1,5,7,8] [] ?_
   have qf := @hc
   refine rgcv hax [0,1,5,7,8,16] [] ?_; refine AW_cond _ rfl (fun hp2 => ?_) (fun hp2 => ?_)
   ·refine rg0 [4] [] ?_; refine AW_ret ?_; simp [D.le, D.le.go, takeMap]; exact (idx_hit hc hp2 fun i hi => hp i (by omega) hi).symm
   ·refine AW_skip (hK3 _ ?_); refine AW_re (tyOf_good _) fun K' hK' => ?_; (repeat (refine sxn fun K2 hK2 => ?_; simp; (repeat (refine ⟨by omega, ?_⟩)); refine hK2 _ ?_; clear hK2 K2)); refine sxz (hK' _ ?_); clear hK' K'; (try simp only [thn, inb]); refine Again.mk (n + 1) ⟨by omega, fun i hi hin => ?_⟩ (by omega) ?_
    ·by_cases h : i = n
     ·subst h; exact hp2
     ·exact hp i hi (by omega)
    refine Imp.to' (fun _ _ => trivial) (by simp) (by simp)
  ·refine AW_exit (hK1 _ ?_); refine rg0 [4] [] ?_; refine AW_ret ?_; simp [D.le, D.le.go, takeMap]; exact (idx_miss fun i hi => hp i hi (by omega)).symm
theorem containsOr_spec (G : Glob) (k : Option Bool) (xs : List Ex) (g : FuncId) (caps : List D) (p : Ex → Bool) (hl : xs.length < 2^63) (ha : ∀ x ∈ xs, PureC Tryz.prog G g (dE x :: caps) (.v (.bool (p x)))) :
  PureC Tryz.prog G 167 [.sl k (xs.map fun x => [dE x]), .fn (.func g) caps] (.v (.bool (xs.any p))) := by
 have hi := indexOr_spec G k xs g caps p hl ha
 have hd := idx_some p xs
 generalize idx p xs = r at hi hd; rw [← hd]; refine PureC.of_body (tyOf_good _) Tryz.func167 rfl rfl (rs := [.tmp 4]) Tryz.results167 (by simp [Tryz.ntmps167]) fun X => ?_; simp only [Tryz.ntmps167, List.map]; refine rg0 [0,1] [] ?_; refine rgc trivial hi [4] [] ?_; refine AW_ret ?_; simp [D.le, D.le.go, takeMap]
mutual
def AskE (S1 S2 : List UInt8 → Prop) : Ex → Prop
 | .cst _ => True
 | .bit s => S1 s
 | .rise s => S1 s ∧ S2 s
 | .fall s => S1 s ∧ S2 s
 | .not e => AskE S1 S2 e
 | .and l => AskL S1 S2 l
 | .or l => AskL S1 S2 l
def AskL (S1 S2 : List UInt8 → Prop) : List Ex → Prop
 | [] => True
 | e :: l => AskE S1 S2 e ∧ AskL S1 S2 l
end
theorem AskL_iff {S1 S2 : List UInt8 → Prop} : ∀ {l : List Ex}, AskL S1 S2 l ↔ ∀ x ∈ l, AskE S1 S2 x
 | [] => by simp [AskL]
 | e :: l => by rw [AskL, AskL_iff]; simp
def TellsOn (S : List UInt8 → Prop) (G : Glob) (g : FuncId) (caps : List D) (p : List UInt8 → Bool) : Prop := ∀ s, S s → PureC Tryz.prog G g (dS s :: caps) (.v (.bool (p s)))
set_option maxHeartbeats 32000000 in
theorem eval_at (G : Glob) (g1 g2 : FuncId) (c1 c2 : List D) (is was : List UInt8 → Bool) (S1 S2 : List UInt8 → Prop) (h1 : TellsOn S1 G g1 c1 is) (h2 : TellsOn S2 G g2 c2 was) : ∀ (n : Nat) (e : Ex), SizeOf.sizeOf e ≤ n → AskE S1 S2 e → bE e ≤ 2^28 → PureC Tryz.prog G 114 [dE e, .fn (.func g1) c1, .fn (.func g2) c2] (.v (.bool (evE is was e))) := by
 intro n
 induction n with
 | zero => intro e hsz; cases e <;> simp at hsz
 | succ n ih =>
  intro e hsz hask hb
  have fw := (Aq @dNum.eq_1 (Aq @dS.eq_1 (Aq @pairA.eq_1 (Aq @pairA.eq_2 @assertA.eq_1))))
  cases e with
  | cst b =>
   rw [dE]; refine PureC.of_body (tyOf_good _) Tryz.func114 rfl rfl (rs := [.tmp 6]) Tryz.results114 (by simp [Tryz.ntmps114]) fun X => ?_; simp only [Tryz.ntmps114, List.map]; refine rgq fw [0,4,5] [4,5] ?_; refine AW.imp (Imp.freezeB 4 trivial) ?_; refine AW.st (by simp [dNum, dS, pairA, assertA]; rfl) ?_; refine AW.imp (Imp.freezeB 5 trivial) ?_; refine AW.st (by simp [dNum, dS, pairA, assertA]; rfl) ?_; refine AW_then fun K1 hK1 => ?_; refine rgq fw [4,5,14] [] ?_; refine AW_block ?_; refine rgq fw [4,5,14,16,17] [] ?_; refine AW_tt rfl ?_; refine rgq fw [7] [] ?_; refine rgq fw [6] [] ?_; refine AW_ret ?_; simp [D.le, D.le.go, takeMap, dNum, dS, pairA, assertA, evE]
  | bit s =>
   rw [AskE] at hask
   have hi := h1 s hask
   rw [dE, evE]; refine PureC.of_body (tyOf_good _) Tryz.func114 rfl rfl (rs := [.tmp 6]) Tryz.results114 (by simp [Tryz.ntmps114]) fun X => ?_; simp only [Tryz.ntmps114, List.map]; refine rgq fw [0,4,5] [4,5] ?_; refine AW.imp (Imp.freezeB 4 trivial) ?_; refine AW.st (by simp [dNum, dS, pairA, assertA]; rfl) ?_; refine AW.imp (Imp.freezeB 5 trivial) ?_; refine AW.st (by simp [dNum, dS, pairA, assertA]; rfl) ?_; refine AW_then fun K1 hK1 => ?_; refine rgq fw [4,5,14] [] ?_; refine AW_block ?_; refine rgq fw [4,5,14,16,17] [] ?_; refine AW_ff rfl ?_; refine rgq fw [4,5,14,20,21] [] ?_; refine AW_tt rfl ?_; refine rgq fw [4,8] [] ?_; refine rgc fw hi [6] [] ?_; refine AW_ret ?_; simp [D.le, D.le.go, takeMap, dNum, dS, pairA, assertA]
  | rise s =>
   rw [AskE] at hask
   have hi := h1 s hask.1
   have hw := h2 s hask.2
   rw [dE, evE]
   cases hs : is s with
   | false =>
    rw [hs] at hi; refine PureC.of_body (tyOf_good _) Tryz.func114 rfl rfl (rs := [.tmp 6]) Tryz.results114 (by simp [Tryz.ntmps114]) fun X => ?_; simp only [Tryz.ntmps114, List.map]; refine rgq fw [0,4,5] [4,5] ?_; refine AW.imp (Imp.freezeB 4 trivial) ?_; refine AW.st (by simp [dNum, dS, pairA, assertA]; rfl) ?_; refine AW.imp (Imp.freezeB 5 trivial) ?_; refine AW.st (by simp [dNum, dS, pairA, assertA]; rfl) ?_; refine AW_then fun K1 hK1 => ?_; refine rgq fw [4,5,14] [] ?_; refine AW_block ?_; refine rgq fw [4,5,14,16,17] [] ?_; refine AW_ff rfl ?_; refine rgq fw [4,5,14,20,21] [] ?_; refine AW_ff rfl ?_; refine rgq fw [4,5,14,26,27] [] ?_; refine AW_tt rfl ?_; refine rgq fw [4,5,9] [] ?_; refine rgc fw hi [6] [] ?_; refine AW_ret ?_; simp [D.le, D.le.go, takeMap, dNum, dS, pairA, assertA]
   | true =>
    rw [hs] at hi; refine PureC.of_body (tyOf_good _) Tryz.func114 rfl rfl (rs := [.tmp 6]) Tryz.results114 (by simp [Tryz.ntmps114]) fun X => ?_; simp only [Tryz.ntmps114, List.map]; refine rgq fw [0,4,5] [4,5] ?_; refine AW.imp (Imp.freezeB 4 trivial) ?_; refine AW.st (by simp [dNum, dS, pairA, assertA]; rfl) ?_; refine AW.imp (Imp.freezeB 5 trivial) ?_; refine AW.st (by simp [dNum, dS, pairA, assertA]; rfl) ?_; refine AW_then fun K1 hK1 => ?_; refine rgq fw [4,5,14] [] ?_; refine AW_block ?_; refine rgq fw [4,5,14,16,17] [] ?_; refine AW_ff rfl ?_; refine rgq fw [4,5,14,20,21] [] ?_; refine AW_ff rfl ?_; refine rgq fw [4,5,14,26,27] [] ?_; refine AW_tt rfl ?_; refine rgq fw [4,5,9] [] ?_; refine rg [6] [] (fun _ _ => trivial) fun K' hK' => ?_; (repeat (refine sxn fun K2 hK2 => ?_; simp [dNum, dS, pairA, assertA]; (repeat (refine ⟨by omega, ?_⟩)); refine hK2 _ ?_; clear hK2 K2)); refine sxn fun K2 hK2 => ?_; simp [dNum, dS, pairA, assertA]; refine callK.data (hi) (by simp; rfl) (by first | exact D.leGo_refl _ | simp [takeMap, List.map_map, Function.comp_def, D.le, D.le.go, D.le_refl, D.leGo_refl, dNum, dS, pairA, assertA]) ?_; refine hK2 _ ?_; clear hK2 K2; simp only [putd, upd_lst]; (repeat (refine sxn fun K2 hK2 => ?_; simp [dNum, dS, pairA, assertA]; (repeat (refine ⟨by omega, ?_⟩)); refine hK2 _ ?_; clear hK2 K2)); refine sxn fun K2 hK2 => ?_; simp [dNum, dS, pairA, assertA]; refine callK.data (hw) (by simp; rfl) (by first | exact D.leGo_refl _ | simp [takeMap, List.map_map, Function.comp_def, D.le, D.le.go, D.le_refl, D.leGo_refl, dNum, dS, pairA, assertA]) ?_; refine hK2 _ ?_; clear hK2 K2; simp only [putd, upd_lst]; (repeat (refine sxn fun K2 hK2 => ?_; simp [dNum, dS, pairA, assertA]; (repeat (refine ⟨by omega, ?_⟩)); refine hK2 _ ?_; clear hK2 K2)); refine sxz (hK' _ (AW.st (by simp [dNum, dS, pairA, assertA]; rfl) ?_)); clear hK' K'; refine AW_ret ?_; simp [D.le, D.le.go, takeMap, dNum, dS, pairA, assertA]
  | fall s =>
   rw [AskE] at hask
   have hi := h1 s hask.1
   have hw := h2 s hask.2
   rw [dE, evE]
   cases hs : is s with
   | true =>
    rw [hs] at hi; refine PureC.of_body (tyOf_good _) Tryz.func114 rfl rfl (rs := [.tmp 6]) Tryz.results114 (by simp [Tryz.ntmps114]) fun X => ?_; simp only [Tryz.ntmps114, List.map]; refine rgq fw [0,4,5] [4,5] ?_; refine AW.imp (Imp.freezeB 4 trivial) ?_; refine AW.st (by simp [dNum, dS, pairA, assertA]; rfl) ?_; refine AW.imp (Imp.freezeB 5 trivial) ?_; refine AW.st (by simp [dNum, dS, pairA, assertA]; rfl) ?_; refine AW_then fun K1 hK1 => ?_; refine rgq fw [4,5,14] [] ?_; refine AW_block ?_; refine rgq fw [4,5,14,16,17] [] ?_; refine AW_ff rfl ?_; refine rgq fw [4,5,14,20,21] [] ?_; refine AW_ff rfl ?_; refine rgq fw [4,5,14,26,27] [] ?_; refine AW_ff rfl ?_; refine rgq fw [4,5,14,38,39] [] ?_; refine AW_tt rfl ?_; refine rgq fw [4,5,10] [] ?_; refine rgc fw hi [6] [] ?_; refine AW_ret ?_; simp [D.le, D.le.go, takeMap, dNum, dS, pairA, assertA]
   | false =>
    rw [hs] at hi; refine PureC.of_body (tyOf_good _) Tryz.func114 rfl rfl (rs := [.tmp 6]) Tryz.results114 (by simp [Tryz.ntmps114]) fun X => ?_; simp only [Tryz.ntmps114, List.map]; refine rgq fw [0,4,5] [4,5] ?_; refine AW.imp (Imp.freezeB 4 trivial) ?_; refine AW.st (by simp [dNum, dS, pairA, assertA]; rfl) ?_; refine AW.imp (Imp.freezeB 5 trivial) ?_; refine AW.st (by simp [dNum, dS, pairA, assertA]; rfl) ?_; refine AW_then fun K1 hK1 => ?_; refine rgq fw [4,5,14] [] ?_; refine AW_block ?_; refine rgq fw [4,5,14,16,17] [] ?_; refine AW_ff rfl ?_; refine rgq fw [4,5,14,20,21] [] ?_; refine AW_ff rfl ?_; refine rgq fw [4,5,14,26,27] [] ?_; refine AW_ff rfl ?_; refine rgq fw [4,5,14,38,39] [] ?_; refine AW_tt rfl ?_; refine rgq fw [4,5,10] [] ?_; refine rg [6] [] (fun _ _ => trivial) fun K' hK' => ?_; (repeat (refine sxn fun K2 hK2 => ?_; simp [dNum, dS, pairA, assertA]; (repeat (refine ⟨by omega, ?_⟩)); refine hK2 _ ?_; clear hK2 K2)); refine sxn fun K2 hK2 => ?_; simp [dNum, dS, pairA, assertA]; refine callK.data (hi) (by simp; rfl) (by first | exact D.leGo_refl _ | simp [takeMap, List.map_map, Function.comp_def, D.le, D.le.go, D.le_refl, D.leGo_refl, dNum, dS, pairA, assertA]) ?_; refine hK2 _ ?_; clear hK2 K2; simp only [putd, upd_lst]; (repeat (refine sxn fun K2 hK2 => ?_; simp [dNum, dS, pairA, assertA]; (repeat (refine ⟨by omega, ?_⟩)); refine hK2 _ ?_; clear hK2 K2)); refine sxn fun K2 hK2 => ?_; simp [dNum, dS, pairA, assertA]; refine callK.data (hw) (by simp; rfl) (by first | exact D.leGo_refl _ | simp [takeMap, List.map_map, Function.comp_def, D.le, D.le.go, D.le_refl, D.leGo_refl, dNum, dS, pairA, assertA]) ?_; refine hK2 _ ?_; clear hK2 K2; simp only [putd, upd_lst]; (repeat (refine sxn fun K2 hK2 => ?_; simp [dNum, dS, pairA, assertA]; (repeat (refine ⟨by omega, ?_⟩)); refine hK2 _ ?_; clear hK2 K2)); refine sxz (hK' _ (AW.st (by simp [dNum, dS, pairA, assertA]; rfl) ?_)); clear hK' K'; refine AW_ret ?_; simp [D.le, D.le.go, takeMap, dNum, dS, pairA, assertA]
  | not x =>
   have hc := ih x (by simp at hsz; omega) (by rwa [AskE] at hask) (by simp only [bE] at hb; omega)
   obtain ⟨tx, cx, hx⟩ := dE_ifc x
   rw [dE, evE, hx]; rw [hx] at hc; generalize evE is was x = r at hc ⊢; refine PureC.of_body (tyOf_good _) Tryz.func114 rfl rfl (rs := [.tmp 6]) Tryz.results114 (by simp [Tryz.ntmps114]) fun X => ?_; simp only [Tryz.ntmps114, List.map]; refine rgq fw [0,4,5] [4,5] ?_; refine AW.imp (Imp.freezeB 4 trivial) ?_; refine AW.st (by simp [dNum, dS, pairA, assertA]; rfl) ?_; refine AW.imp (Imp.freezeB 5 trivial) ?_; refine AW.st (by simp [dNum, dS, pairA, assertA]; rfl) ?_; refine AW_then fun K1 hK1 => ?_; refine rgq fw [4,5,14] [] ?_; refine AW_block ?_; refine rgq fw [4,5,14,16,17] [] ?_; refine AW_ff rfl ?_; refine rgq fw [4,5,14,20,21] [] ?_; refine AW_ff rfl ?_; refine rgq fw [4,5,14,26,27] [] ?_; refine AW_ff rfl ?_; refine rgq fw [4,5,14,38,39] [] ?_; refine AW_ff rfl ?_; refine rgq fw [4,5,14,50,51] [] ?_; refine AW_tt rfl ?_; refine rgq fw [4,5,11] [11] ?_; refine rgc fw hc [6] [11] ?_; refine AW_ret ?_; simp [D.le, D.le.go, takeMap, dNum, dS, pairA, assertA]
  | and l =>
   have hch : ∀ x ∈ l, PureC Tryz.prog G 166 [dE x, .ip [.fn (.func g1) c1], .ip [.fn (.func g2) c2]] (.v (.bool (!evE is was x))) := fun x hx => by
    have hc := ih x (by have := List.sizeOf_lt_of_mem hx; simp only [Ex.and.sizeOf_spec] at hsz; omega) (by rw [AskE, AskL_iff] at hask; exact hask x hx) (by have := bEs_mem hx; simp only [bE] at hb; omega)
    obtain ⟨tx, cx, hxx⟩ := dE_ifc x
    rw [hxx] at hc ⊢; generalize evE is was x = r at hc ⊢; refine PureC.of_body (tyOf_good _) Tryz.func166 rfl rfl (rs := [.tmp 4]) Tryz.results166 (by simp [Tryz.ntmps166]) fun X => ?_; simp only [Tryz.ntmps166, List.map]; refine rgq fw [0,1,2] [] ?_; refine rgc fw hc [4] [] ?_; refine AW_ret ?_; simp [D.le, D.le.go, takeMap, dNum, dS, pairA, assertA]
   have hln := bEs_len l
   have hcf := containsAnd_spec G none l 166 [.ip [.fn (.func g1) c1], .ip [.fn (.func g2) c2]] (fun x => !evE is was x) (by simp only [bE] at hb; omega) hch
   rw [dE, dEs_map, evE, evA_any]; generalize l.any (fun x => !evE is was x) = r at hcf ⊢; refine PureC.of_body (tyOf_good _) Tryz.func114 rfl rfl (rs := [.tmp 6]) Tryz.results114 (by simp [Tryz.ntmps114]) fun X => ?_; simp only [Tryz.ntmps114, List.map]; refine rgq fw [0,4,5] [4,5] ?_; refine AW.imp (Imp.freezeB 4 trivial) ?_; refine AW.st (by simp [dNum, dS, pairA, assertA]; rfl) ?_; refine AW.imp (Imp.freezeB 5 trivial) ?_; refine AW.st (by simp [dNum, dS, pairA, assertA]; rfl) ?_; refine AW_then fun K1 hK1 => ?_; refine rgq fw [4,5,14] [] ?_; refine AW_block ?_; refine rgq fw [4,5,14,16,17] [] ?_; refine AW_ff rfl ?_; refine rgq fw [4,5,14,20,21] [] ?_; refine AW_ff rfl ?_; refine rgq fw [4,5,14,26,27] [] ?_; refine AW_ff rfl ?_; refine rgq fw [4,5,14,38,39] [] ?_; refine AW_ff rfl ?_; refine rgq fw [4,5,14,50,51] [] ?_; refine AW_ff rfl ?_; refine rgq fw [4,5,14,59,60] [] ?_; refine AW_tt rfl ?_; refine rgq fw [4,5,12] [] ?_; refine rgc fw hcf [6] [] ?_; refine AW_ret ?_; simp [D.le, D.le.go, takeMap, dNum, dS, pairA, assertA]
  | or l =>
   have hch : ∀ x ∈ l, PureC Tryz.prog G 168 [dE x, .ip [.fn (.func g1) c1], .ip [.fn (.func g2) c2]] (.v (.bool (evE is was x))) := fun x hx => by
    have hc := ih x (by have := List.sizeOf_lt_of_mem hx; simp only [Ex.or.sizeOf_spec] at hsz; omega) (by rw [AskE, AskL_iff] at hask; exact hask x hx) (by have := bEs_mem hx; simp only [bE] at hb; omega)
    obtain ⟨tx, cx, hxx⟩ := dE_ifc x
    rw [hxx] at hc ⊢; generalize evE is was x = r at hc ⊢; refine PureC.of_body (tyOf_good _) Tryz.func168 rfl rfl (rs := [.tmp 4]) Tryz.results168 (by simp [Tryz.ntmps168]) fun X => ?_; simp only [Tryz.ntmps168, List.map]; refine rgq fw [0,1,2] [] ?_; refine rgc fw hc [4] [] ?_; refine AW_ret ?_; simp [D.le, D.le.go, takeMap, dNum, dS, pairA, assertA]
   have hln := bEs_len l
   have hcf := containsOr_spec G none l 168 [.ip [.fn (.func g1) c1], .ip [.fn (.func g2) c2]] (fun x => evE is was x) (by simp only [bE] at hb; omega) hch
   rw [dE, dEs_map, evE, evO_any]; generalize l.any (fun x => evE is was x) = r at hcf ⊢; refine PureC.of_body (tyOf_good _) Tryz.func114 rfl rfl (rs := [.tmp 6]) Tryz.results114 (by simp [Tryz.ntmps114]) fun X => ?_; simp only [Tryz.ntmps114, List.map]; refine rgq fw [0,4,5] [4,5] ?_; refine AW.imp (Imp.freezeB 4 trivial) ?_; refine AW.st (by simp [dNum, dS, pairA, assertA]; rfl) ?_; refine AW.imp (Imp.freezeB 5 trivial) ?_; refine AW.st (by simp [dNum, dS, pairA, assertA]; rfl) ?_; refine AW_then fun K1 hK1 => ?_; refine rgq fw [4,5,14] [] ?_; refine AW_block ?_; refine rgq fw [4,5,14,16,17] [] ?_; refine AW_ff rfl ?_; refine rgq fw [4,5,14,20,21] [] ?_; refine AW_ff rfl ?_; refine rgq fw [4,5,14,26,27] [] ?_; refine AW_ff rfl ?_; refine rgq fw [4,5,14,38,39] [] ?_; refine AW_ff rfl ?_; refine rgq fw [4,5,14,50,51] [] ?_; refine AW_ff rfl ?_; refine rgq fw [4,5,14,59,60] [] ?_; refine AW_ff rfl ?_; refine rgq fw [4,5,66,67] [] ?_; refine AW_tt rfl ?_; refine rgq fw [4,5,13] [] ?_; refine rgc fw hcf [6] [] ?_; refine AW_ret ?_; simp [D.le, D.le.go, takeMap, dNum, dS, pairA, assertA]
theorem eval_on (G : Glob) (g1 g2 : FuncId) (c1 c2 : List D) (is was : List UInt8 → Bool) (S1 S2 : List UInt8 → Prop) (h1 : TellsOn S1 G g1 c1 is) (h2 : TellsOn S2 G g2 c2 was) (e : Ex) (ha : AskE S1 S2 e) (hb : bE e ≤ 2^28) : PureC Tryz.prog G 114 [dE e, .fn (.func g1) c1, .fn (.func g2) c2] (.v (.bool (evE is was e))) :=
 eval_at G g1 g2 c1 c2 is was S1 S2 h1 h2 _ e (Nat.le_refl _) ha hb
end Go.Proofs.YthnjfeielmbfkaaGreatDoor
namespace Go.Proofs.YthnjfeielmbfkaaGreatDoor
open Go.Av
theorem la : (⟨#[97]⟩ : ByteArray) = bs [97] := rfl
theorem lb : (⟨#[98]⟩ : ByteArray) = bs [98] := rfl
end Go.Proofs.YthnjfeielmbfkaaGreatDoor
namespace Go.Proofs.YthnjfeielmbfkaaGreatDoor
open Go.Av
structure NmP where
 name : Tx
 kind : Int
 count : Int
structure RgP where
 kind : Int
 name : Tx
 cond : Option Ex
structure PgP where
 names : List NmP
 rungs : List RgP
def numP (p : PgP) (s : Tx) : Int := idx (fun n : NmP => n.name == s) p.names
theorem numP_le (p : PgP) {i : Nat} (hi : i < p.names.length) : 0 ≤ numP p p.names[i].name ∧ numP p p.names[i].name ≤ i := by
 have hne : ¬ numP p p.names[i].name < 0 := fun h => by
  have := idx_neg h _ (List.getElem_mem hi)
  simp at this
 obtain ⟨k, hk, he, _⟩ := idx_pos hne
 refine ⟨by omega, ?_⟩
 apply Classical.byContradiction
 intro hlt
 have hik : i < k := by unfold numP at hlt; omega
 unfold idx at he
 cases hf : p.names.findIdx? (fun n : NmP => n.name == p.names[i].name) with
 | none => rw [hf] at he; simp at he
 | some k' =>
  rw [hf] at he; simp only [Int.ofNat.injEq, Int.natCast_inj] at he
  have hkk : k' = k := by simpa using he
  subst hkk
  have := (List.findIdx?_eq_some_iff_getElem.1 hf).2.2 i hik
  simp at this
def firstBad {α : Type} (f : Nat → α → Int) : List α → Nat → Option (Int × Nat)
 | [], _ => none
 | x :: l, i => if f i x = 0 then firstBad f l (i + 1) else some (f i x, i)
theorem firstBad_lt {α : Type} {f : Nat → α → Int} : ∀ {l : List α} {i : Nat} {e : Int} {k : Nat}, firstBad f l i = some (e, k) → i ≤ k ∧ k < i + l.length ∧ e ≠ 0
 | x :: l, i, e, k, h => by
  rw [firstBad] at h
  split at h
  ·have := firstBad_lt h
   simp only [List.length_cons]
   omega
  ·rename_i hne
   simp only [Option.some.injEq, Prod.mk.injEq] at h
   obtain ⟨h1, h2⟩ := h
   rw [h1] at hne; simp only [List.length_cons]; exact ⟨by omega, by omega, hne⟩
theorem firstBad_none {α : Type} {f : Nat → α → Int} : ∀ {l : List α} {i : Nat}, firstBad f l i = none → ∀ k (hk : k < l.length), f (i + k) l[k] = 0
 | x :: l, i, h, k, hk => by
  rw [firstBad] at h
  split at h
  ·rename_i h0
   cases k with
   | zero => simpa using h0
   | succ k =>
    have := firstBad_none h k (by simpa using hk)
    simpa [Nat.add_assoc, Nat.add_comm 1 k] using this
  ·cases h
def countsP (n : NmP) : Bool := decide (n.kind = 3) || decide (n.kind = 4)
def badN (p : PgP) (i : Nat) (n : NmP) : Int :=
 if !nameF n.name then 5 else if decide (n.kind < 1) || decide (n.kind > 4) then 1 else if (countsP n && (decide (n.count < 1) || decide (n.count > 7))) || (!countsP n && decide (n.count ≠ 0)) then 2 else if numP p n.name < i then 9 else 0
def wantP (k : Int) : Int := if k ≤ 3 then 2 else if k = 4 then 3 else 4
def badG (p : PgP) (r : RgP) : Int := match r.cond with
 | none => 1
 | some e => if decide (r.kind < 1) || decide (r.kind > 6) then 1 else if numP p r.name < 0 then 7
  else if wantP r.kind ≠ (p.names.getD (numP p r.name).toNat ⟨[], 0, 0⟩).kind then 1 else if (namesE true e).any fun s => decide (numP p s < 0) then 7 else 0
def checkP (p : PgP) : Option (Int × Option Nat) :=
 if p.names.length > 12 ∨ p.rungs.length > 40 then some (4, none) else match firstBad (badN p) p.names 0 with
  | some (e, i) => some (e, some i)
  | none => match firstBad (fun _ r => badG p r) p.rungs 0 with
   | some (e, i) => some (e, some (p.names.length + i))
   | none => none
structure GoodP (p : PgP) : Prop where
 names : p.names.length ≤ 12
 rungs : p.rungs.length ≤ 40
 name : ∀ n ∈ p.names, nameF n.name = true ∧ 1 ≤ n.kind ∧ n.kind ≤ 4
 count : ∀ n ∈ p.names, (n.kind < 3 ∧ n.count = 0) ∨ (3 ≤ n.kind ∧ 1 ≤ n.count ∧ n.count ≤ 7)
 num : ∀ i (hi : i < p.names.length), numP p p.names[i].name = i
theorem checkP_good {p : PgP} (h : checkP p = none) : GoodP p := by
 unfold checkP at h
 split at h
 ·cases h
 ·rename_i hl
  split at h
  ·cases h
  ·rename_i hN
   have hall := fun i hi => firstBad_none hN i hi
   have one : ∀ i (hi : i < p.names.length), nameF p.names[i].name = true ∧ 1 ≤ p.names[i].kind ∧ p.names[i].kind ≤ 4 ∧ ((p.names[i].kind < 3 ∧ p.names[i].count = 0) ∨ (3 ≤ p.names[i].kind ∧ 1 ≤ p.names[i].count ∧ p.names[i].count ≤ 7)) ∧ numP p p.names[i].name = i := fun i hi => by
    have hb := hall i hi
    have hle := numP_le p hi
    rw [Nat.zero_add] at hb; generalize p.names[i] = n at hb hle ⊢; unfold badN countsP at hb
    split at hb
    ·omega
    ·rename_i h1
     split at hb
     ·omega
     ·rename_i h2
      split at hb
      ·omega
      ·rename_i h3
       split at hb
       ·omega
       ·rename_i h4
        simp at h1 h2 h3; refine ⟨h1, by omega, by omega, ?_, by omega⟩
        by_cases hk : n.kind = 3 ∨ n.kind = 4
        ·exact .inr ⟨by omega, by have := h3.1 hk; omega, by have := h3.1 hk; omega⟩
        ·have := h3.2 (by omega) (by omega)
         exact .inl ⟨by omega, by omega⟩
   refine ⟨by omega, by omega, fun n hn => ?_, fun n hn => ?_, fun i hi => (one i hi).2.2.2.2⟩
   ·obtain ⟨i, hi, rfl⟩ := List.mem_iff_getElem.1 hn
    exact ⟨(one i hi).1, (one i hi).2.1, (one i hi).2.2.1⟩
   ·obtain ⟨i, hi, rfl⟩ := List.mem_iff_getElem.1 hn
    exact (one i hi).2.2.2.1
end Go.Proofs.YthnjfeielmbfkaaGreatDoor
namespace Go.Proofs.YthnjfeielmbfkaaGreatDoor
open Go.Av
def cNm (n : NmP) : List D := [dS n.name, .v (.int .i64 n.kind), .v (.int .i64 n.count)]
def dNm (n : NmP) : D := .agg (cNm n)
def dNms (l : List NmP) : D := .sl none (l.map cNm)
def dC (c : Option Ex) : D := match c with
 | none => .v .nilIface
 | some e => dE e
def cRg (r : RgP) : List D := [.v (.int .i64 r.kind), dS r.name, dC r.cond]
def dRg (r : RgP) : D := .agg (cRg r)
def dRgs (l : List RgP) : D := .sl none (l.map cRg)
def cPg (p : PgP) : List D := [dNms p.names, dRgs p.rungs]
def dPg (p : PgP) : D := .agg (cPg p)
set_option maxHeartbeats 1000000 in
theorem indexNm_spec (G : Glob) (k : Option Bool) (xs : List NmP) (g : FuncId) (caps : List D) (p : NmP → Bool) (hl : xs.length < 2^62) (ha : Answers G g caps dNm p xs) :
  PureC Tryz.prog G 51 [.sl k (xs.map cNm), .fn (.func g) caps] (.v (.int .i64 (idx p xs))) := by
 refine PureC.of_body (tyOf_good _) Tryz.func51 rfl rfl (rs := [.tmp 4]) Tryz.results51 (by simp [Tryz.ntmps51]) fun X => ?_; simp only [Tryz.ntmps51, List.map]; refine rg0 [0,1] [] ?_; refine AW_then fun K1 hK1 => ?_; refine rg0 [0,1,7,8] [] ?_; refine AW_for (S := Nat) (fun n => n ≤ xs.length ∧ ∀ i (hi : i < xs.length), i < n → p xs[i] = false) (fun n => ⟨lst [(0, .d (.sl k (xs.map cNm))), (1, .d (.fn (.func g) caps)), (7, int xs.length), (8, int n)], hlst []⟩) (fun n => xs.length - n) 0 ?_ (by simp) ?_
 ·refine Imp.to' (fun _ _ => trivial) (by simp) (by simp)
 ·rintro n ⟨hn, hp⟩
  refine rg0 [0,1,7,8,9] [] ?_; refine AW_then fun K2 hK2 => ?_; refine AW_cond' (b := n < xs.length) (by simp [D.le, D.le.go, takeMap]) (fun hc => ?_) (fun hc => ?_)
  ·refine AW_skip (hK2 _ ?_); refine AW_then fun K3 hK3 => ?_; refine AW_block ?_; refine rg0 [0,1,5,7,8] [] ?_
   have hax := ha xs[n] (by simp)
   simp only [dNm, cNm] at hax
   have qf := (Aq @hc @cNm.eq_1)
   refine rgcv hax [0,1,5,7,8,16] [] ?_; refine AW_cond _ rfl (fun hp2 => ?_) (fun hp2 => ?_)
   ·refine rg0 [4] [] ?_; refine AW_ret ?_; simp [D.le, D.le.go, takeMap]; exact (idx_hit hc hp2 fun i hi => hp i (by omega) hi).symm
   ·refine AW_skip (hK3 _ ?_); refine AW_re (tyOf_good _) fun K' hK' => ?_; (repeat (refine sxn fun K2 hK2 => ?_; simp; (repeat (refine ⟨by omega, ?_⟩)); refine hK2 _ ?_; clear hK2 K2)); refine sxz (hK' _ ?_); clear hK' K'; (try simp only [thn, inb]); refine Again.mk (n + 1) ⟨by omega, fun i hi hin => ?_⟩ (by omega) ?_
    ·by_cases h : i = n
     ·subst h; exact hp2
     ·exact hp i hi (by omega)
    refine Imp.to' (fun _ _ => trivial) (by simp) (by simp)
  ·refine AW_exit (hK1 _ ?_); refine rg0 [4] [] ?_; refine AW_ret ?_; simp [D.le, D.le.go, takeMap]; exact (idx_miss fun i hi => hp i hi (by omega)).symm
set_option maxHeartbeats 1000000 in
theorem indexTx_spec (G : Glob) (k : Option Bool) (xs : List (List UInt8)) (g : FuncId) (caps : List D) (p : (List UInt8) → Bool) (hl : xs.length < 2^62) (ha : Answers G g caps dS p xs) :
  PureC Tryz.prog G 169 [.sl k (xs.map (fun s => [dS s])), .fn (.func g) caps] (.v (.int .i64 (idx p xs))) := by
 refine PureC.of_body (tyOf_good _) Tryz.func169 rfl rfl (rs := [.tmp 4]) Tryz.results169 (by simp [Tryz.ntmps169]) fun X => ?_; simp only [Tryz.ntmps169, List.map]; refine rg0 [0,1] [] ?_; refine AW_then fun K1 hK1 => ?_; refine rg0 [0,1,7,8] [] ?_; refine AW_for (S := Nat) (fun n => n ≤ xs.length ∧ ∀ i (hi : i < xs.length), i < n → p xs[i] = false) (fun n => ⟨lst [(0, .d (.sl k (xs.map (fun s => [dS s])))), (1, .d (.fn (.func g) caps)), (7, int xs.length), (8, int n)], hlst []⟩) (fun n => xs.length - n) 0 ?_ (by simp) ?_
 ·refine Imp.to' (fun _ _ => trivial) (by simp [dS]) (by simp [dS])
 ·rintro n ⟨hn, hp⟩
  refine rg0 [0,1,7,8,9] [] ?_; refine AW_then fun K2 hK2 => ?_; refine AW_cond' (b := n < xs.length) (by simp [D.le, D.le.go, takeMap]) (fun hc => ?_) (fun hc => ?_)
  ·refine AW_skip (hK2 _ ?_); refine AW_then fun K3 hK3 => ?_; refine AW_block ?_; refine rg0 [0,1,5,7,8] [] ?_
   have hax := ha xs[n] (by simp)
   simp only [dS] at hax
   have qf := (Aq @hc @dS.eq_1)
   refine rgcv hax [0,1,5,7,8,16] [] ?_; refine AW_cond _ rfl (fun hp2 => ?_) (fun hp2 => ?_)
   ·refine rg0 [4] [] ?_; refine AW_ret ?_; simp [D.le, D.le.go, takeMap]; exact (idx_hit hc hp2 fun i hi => hp i (by omega) hi).symm
   ·refine AW_skip (hK3 _ ?_); refine AW_re (tyOf_good _) fun K' hK' => ?_; (repeat (refine sxn fun K2 hK2 => ?_; simp; (repeat (refine ⟨by omega, ?_⟩)); refine hK2 _ ?_; clear hK2 K2)); refine sxz (hK' _ ?_); clear hK' K'; (try simp only [thn, inb]); refine Again.mk (n + 1) ⟨by omega, fun i hi hin => ?_⟩ (by omega) ?_
    ·by_cases h : i = n
     ·subst h; exact hp2
     ·exact hp i hi (by omega)
    refine Imp.to' (fun _ _ => trivial) (by simp [dS]) (by simp [dS])
  ·refine AW_exit (hK1 _ ?_); refine rg0 [4] [] ?_; refine AW_ret ?_; simp [D.le, D.le.go, takeMap]; exact (idx_miss fun i hi => hp i hi (by omega)).symm
set_option maxHeartbeats 1000000 in
theorem containsTx_spec (G : Glob) (k : Option Bool) (xs : List (List UInt8)) (g : FuncId) (caps : List D) (p : List UInt8 → Bool) (hl : xs.length < 2^62) (ha : Answers G g caps dS p xs) :
  PureC Tryz.prog G 116 [.sl k (xs.map fun s => [dS s]), .fn (.func g) caps] (.v (.bool (xs.any p))) := by
 refine PureC.of_body (tyOf_good _) Tryz.func116 rfl rfl (rs := [.tmp 4]) Tryz.results116 (by simp [Tryz.ntmps116]) fun X => ?_; simp only [Tryz.ntmps116, List.map]; refine rg0 [0,1] [] ?_; refine rgc trivial (indexTx_spec G k xs g caps p hl ha) [4] [] ?_; refine AW_ret ?_; simp [D.le, D.le.go, takeMap]; exact idx_any p xs
set_option maxHeartbeats 1000000 in
theorem lc_num1 (G : Glob) (n : NmP) (s : List UInt8) : PureC Tryz.prog G 52 [dNm n, .ip [dS s]] (.v (.bool (n.name == s))) := by
 simp only [dNm, cNm, dS]; refine PureC.of_body (tyOf_good _) Tryz.func52 rfl rfl (rs := [.tmp 3]) Tryz.results52 (by simp [Tryz.ntmps52]) fun X => ?_; simp only [Tryz.ntmps52, List.map]; refine rg0 [1,2] [2] ?_; refine rg [3] [2] (fun _ _ => trivial) fun K' hK' => ?_; (repeat (refine sxn fun K2 hK2 => ?_; simp [binS, bs_list]; (repeat (refine ⟨by omega, ?_⟩)); refine hK2 _ ?_; clear hK2 K2)); refine sxz (hK' _ (AW.st (by simp [binS, bs_list]; rfl) ?_)); clear hK' K'; refine AW_ret ?_; simp [D.le, D.le.go, takeMap]
set_option maxHeartbeats 1000000 in
theorem lc_num (G : Glob) (p : PgP) (hp : p.names.length < 2^62) (s : List UInt8) : PureC Tryz.prog G 15 [dPg p, dS s] (.v (.int .i64 (numP p s))) := by
 have hi := indexNm_spec G none p.names 52 [.ip [dS s]] (fun n => n.name == s) hp fun n _ => lc_num1 G n s
 unfold numP; simp only [dPg, cPg, dNms, dS] at hi ⊢; generalize dRgs p.rungs = R at *; generalize idx (fun n : NmP => n.name == s) p.names = z at hi ⊢; refine PureC.of_body (tyOf_good _) Tryz.func15 rfl rfl (rs := [.tmp 4]) Tryz.results15 (by simp [Tryz.ntmps15]) fun X => ?_; simp only [Tryz.ntmps15, List.map]; refine rgq @dRgs.eq_1 [2,3] [2,3] ?_; refine AW.imp (Imp.freezeB 3 trivial) ?_; refine AW.st (by simp; rfl) ?_; refine rgc trivial hi [4] [2] ?_; refine AW_ret ?_; simp [D.le, D.le.go, takeMap]
set_option maxHeartbeats 1000000 in
theorem lc_chk1 (G : Glob) (p : PgP) (hp : p.names.length < 2^62) (s : List UInt8) : PureC Tryz.prog G 159 [dS s, .ip (cPg p)] (.v (.bool (decide (numP p s < 0)))) := by
 have hi := lc_num G p hp s
 simp only [dPg, cPg, dNms, dRgs, dS] at hi ⊢; refine PureC.of_body (tyOf_good _) Tryz.func159 rfl rfl (rs := [.tmp 3]) Tryz.results159 (by simp [Tryz.ntmps159]) fun X => ?_; simp only [Tryz.ntmps159, List.map]; refine rg0 [0,1] [] ?_; refine rgc trivial hi [3] [] ?_; refine AW_ret ?_; simp [D.le, D.le.go, takeMap]
structure LaterG (T : Prop) : Prop where
 out : T
theorem lateG {T U : Prop} (h : LaterG T → U) (t : T) : U := h ⟨t⟩
theorem numP_pos {p : PgP} {s : List UInt8} (h : ¬ numP p s < 0) : ∃ k : Nat, ∃ hk : k < p.names.length, numP p s = k := by
 obtain ⟨k, hk, he, _⟩ := idx_pos h
 exact ⟨k, hk, he⟩
set_option maxHeartbeats 8000000 in
theorem lc_chk (G : Glob) (p : PgP) (hp : p.names.length < 2^62) (r : RgP) (hb : ∀ e, r.cond = some e → bE e ≤ 2^28 ∧ (namesE true e).length < 2^62) : PureC Tryz.prog G 105 [dPg p, dRg r] (.v (.int .i64 (badG p r))) := by
 obtain ⟨kind, name, cond⟩ := r
 dsimp only at hb
 have hnum := lc_num G p hp name
 have hck := fun s => lc_chk1 G p hp s
 simp only [dPg, cPg, dNms, dRgs, dRg, cRg, dS] at hnum hck ⊢
 cases cond with
 | none =>
  have hres0 : badG p ⟨kind, name, none⟩ = 1 := rfl
  generalize badG p ⟨kind, name, none⟩ = res at hres0; refine PureC.of_body (tyOf_good _) Tryz.func105 rfl rfl (rs := [.tmp 4]) Tryz.results105 (by simp [Tryz.ntmps105]) fun X => ?_; simp only [Tryz.ntmps105, List.map]
  have fw := (Aq @dC.eq_1 @dC.eq_2)
  refine rgq fw [2,3] [2,3] ?_; refine AW_then fun K1 hK1 => ?_
  by_cases h1 : kind < 1
  ·have qf := (Aq fw @h1)
   refine rgqv [2,3,19] [2,3] ?_; refine AW_tt rfl ?_; refine rgq fw [4] [] ?_; refine AW_ret ?_; simp [D.le, D.le.go, takeMap, dC, hres0]
  ·by_cases h2 : kind > 6
   ·have qf := (Aq fw (Aq @h1 @h2))
    refine rgqv [2,3,19] [2,3] ?_; refine AW_tt rfl ?_; refine rgq fw [4] [] ?_; refine AW_ret ?_; simp [D.le, D.le.go, takeMap, dC, hres0]
   ·have qf := (Aq fw (Aq @h1 @h2))
    refine rgqv [2,3,19] [2,3] ?_; refine AW_tt rfl ?_; refine rgq fw [4] [] ?_; refine AW_ret ?_; simp [D.le, D.le.go, takeMap, dC, hres0]
 | some e =>
  have hres0 : badG p ⟨kind, name, some e⟩ = if decide (kind < 1) || decide (kind > 6) then 1 else if numP p name < 0 then 7
   else if wantP kind ≠ (p.names.getD (numP p name).toNat ⟨[], 0, 0⟩).kind then 1 else if (namesE true e).any fun s => decide (numP p s < 0) then 7 else 0 := rfl
  generalize badG p ⟨kind, name, some e⟩ = res at hres0
  obtain ⟨hbe, hnl⟩ := hb e rfl
  have hns := namesE_spec G e hbe
  have hany := containsTx_spec G none (namesE true e) 159 [.ip (cPg p)] (fun s => decide (numP p s < 0)) hnl fun s _ => lc_chk1 G p hp s
  have hdc : dC (some e) = dE e := rfl
  rw [hdc]
  obtain ⟨tx, cx, hx⟩ := dE_ifc e
  rw [hx] at hns ⊢; simp only [cPg, dNms, dRgs, dS] at hns hany; generalize ((namesE true e).any fun s => decide (numP p s < 0)) = an at hres0 hany; generalize namesE true e = nm at hns hany; refine PureC.of_body (tyOf_good _) Tryz.func105 rfl rfl (rs := [.tmp 4]) Tryz.results105 (by simp [Tryz.ntmps105]) fun X => ?_; simp only [Tryz.ntmps105, List.map]
  have fw := (Aq @dC.eq_1 @dC.eq_2)
  refine rgq fw [2,3] [2,3] ?_; refine AW.imp (Imp.freezeB 2 trivial) ?_; refine AW.st (by simp [dC]; rfl) ?_; refine AW.imp (Imp.freezeB 3 trivial) ?_; refine AW.st (by simp [dC]; rfl) ?_; refine AW_then fun K1 hK1 => ?_
  by_cases h1 : kind < 1
  ·rw [if_pos (by simp [h1])] at hres0
   have qf := (Aq fw @h1)
   refine rgqv [2,3,19] [] ?_; refine AW_tt rfl ?_; refine rgq fw [4] [] ?_; refine AW_ret ?_; simp [D.le, D.le.go, takeMap, dC, hres0]
  by_cases h2 : kind > 6
  ·rw [if_pos (by simp [h2])] at hres0
   have qf := (Aq fw (Aq @h1 @h2))
   refine rgqv [2,3,19] [] ?_; refine AW_tt rfl ?_; refine rgq fw [4] [] ?_; refine AW_ret ?_; simp [D.le, D.le.go, takeMap, dC, hres0]
  rw [if_neg (by simp [h1, h2])] at hres0
  have qf := (Aq fw (Aq @h1 @h2))
  refine rgqv [2,3,19] [] ?_; refine AW_ff rfl ?_; refine AW_skip (hK1 _ ?_); refine rgc fw hnum [2,3,5] [] ?_; refine AW_then fun K2 hK2 => ?_; refine rgq fw [2,3,5,25] [] ?_
  by_cases h3 : numP p name < 0
  ·rw [if_pos h3] at hres0; refine AW_cond true (by simp [h3]) (fun _ => ?_) (fun h => by cases h); refine rgq fw [4] [] ?_; refine AW_ret ?_; simp [D.le, D.le.go, takeMap, dC, hres0]
  rw [if_neg h3] at hres0
  obtain ⟨k, hk, hke⟩ := numP_pos h3
  have hgd : p.names.getD (numP p name).toNat ⟨[], 0, 0⟩ = p.names[k] := by
   rw [hke, Int.toNat_natCast, List.getD_eq_getElem?_getD, List.getElem?_eq_getElem hk]; rfl
  rw [hgd] at hres0; refine AW_cond false (by simp [h3]) (fun h => by cases h) (fun _ => ?_); refine AW_skip (hK2 _ ?_); refine AW_then fun K3 hK3 => ?_
  have hcells : cNm p.names[k] = [dS p.names[k].name, .v (.int .i64 p.names[k].kind), .v (.int .i64 p.names[k].count)] := rfl
  generalize hkk : p.names[k].kind = kk at hres0 hcells; refine' lateG (fun hrest => ?_) ?_
  rotate_left
  ·have hk0 := h1
   by_cases hk1 : kind = 1
   ·have qf := (Aq fw @hk1)
    refine rgqv [2,3,5,6] [] ?_; refine AW.st (show _ = (⟨lst [(2, .d (.ip [.sl none (p.names.map cNm), .sl none (p.rungs.map cRg)])), (3, .d (.ip [.v (.int .i64 kind), .v (.string (bs name)), .ifc tx cx])), (5, int (numP p name)), (6, int (wantP kind))], hlst []⟩ : St) by rw [hk1] <;> rfl) ?_; exact hrest.out
   by_cases hk1 : kind = 2
   ·have qf := (Aq fw @hk1)
    refine rgqv [2,3,5,6] [] ?_; refine AW.st (show _ = (⟨lst [(2, .d (.ip [.sl none (p.names.map cNm), .sl none (p.rungs.map cRg)])), (3, .d (.ip [.v (.int .i64 kind), .v (.string (bs name)), .ifc tx cx])), (5, int (numP p name)), (6, int (wantP kind))], hlst []⟩ : St) by rw [hk1] <;> rfl) ?_; exact hrest.out
   by_cases hk1 : kind = 3
   ·have qf := (Aq fw @hk1)
    refine rgqv [2,3,5,6] [] ?_; refine AW.st (show _ = (⟨lst [(2, .d (.ip [.sl none (p.names.map cNm), .sl none (p.rungs.map cRg)])), (3, .d (.ip [.v (.int .i64 kind), .v (.string (bs name)), .ifc tx cx])), (5, int (numP p name)), (6, int (wantP kind))], hlst []⟩ : St) by rw [hk1] <;> rfl) ?_; exact hrest.out
   by_cases hk1 : kind = 4
   ·have qf := (Aq fw @hk1)
    refine rgqv [2,3,5,6] [] ?_; refine AW.st (show _ = (⟨lst [(2, .d (.ip [.sl none (p.names.map cNm), .sl none (p.rungs.map cRg)])), (3, .d (.ip [.v (.int .i64 kind), .v (.string (bs name)), .ifc tx cx])), (5, int (numP p name)), (6, int (wantP kind))], hlst []⟩ : St) by rw [hk1] <;> rfl) ?_; exact hrest.out
   by_cases hk1 : kind = 5
   ·have qf := (Aq fw @hk1)
    refine rgqv [2,3,5,6] [] ?_; refine AW.st (show _ = (⟨lst [(2, .d (.ip [.sl none (p.names.map cNm), .sl none (p.rungs.map cRg)])), (3, .d (.ip [.v (.int .i64 kind), .v (.string (bs name)), .ifc tx cx])), (5, int (numP p name)), (6, int (wantP kind))], hlst []⟩ : St) by rw [hk1] <;> rfl) ?_; exact hrest.out
   have hk1 : kind = 6 := by omega
   have qf := (Aq fw @hk1)
   refine rgqv [2,3,5,6] [] ?_; refine AW.st (show _ = (⟨lst [(2, .d (.ip [.sl none (p.names.map cNm), .sl none (p.rungs.map cRg)])), (3, .d (.ip [.v (.int .i64 kind), .v (.string (bs name)), .ifc tx cx])), (5, int (numP p name)), (6, int (wantP kind))], hlst []⟩ : St) by rw [hk1] <;> rfl) ?_; exact hrest.out
  ·rw [hke]
   have qf := (Aq fw (Aq @hk @hcells))
   refine rgqv [2,3,37] [] ?_
   by_cases h4 : kk = wantP kind
   ·rw [if_neg (by simp [h4])] at hres0; refine AW_cond false (by simp [h4]) (fun h => by cases h) (fun _ => ?_); refine AW_skip (hK3 _ ?_); refine AW_then fun K4 hK4 => ?_; refine rg [42] [] (fun _ _ => trivial) fun K' hK' => ?_; (repeat (refine sxn fun K2 hK2 => ?_; simp [dC]; (repeat (refine ⟨by omega, ?_⟩)); refine hK2 _ ?_; clear hK2 K2)); refine sxn fun K2 hK2 => ?_; simp [dC]; refine callK.data (hns) (by simp; rfl) (by first | exact D.leGo_refl _ | simp [takeMap, List.map_map, Function.comp_def, D.le, D.le.go, D.le_refl, D.leGo_refl, dC]) ?_; refine hK2 _ ?_; clear hK2 K2; simp only [putd, upd_lst]; (repeat (refine sxn fun K2 hK2 => ?_; simp [dC]; (repeat (refine ⟨by omega, ?_⟩)); refine hK2 _ ?_; clear hK2 K2)); refine sxn fun K2 hK2 => ?_; simp [dC]; refine callK.data (hany) (by simp; rfl) (by first | exact D.leGo_refl _ | simp [takeMap, List.map_map, Function.comp_def, D.le, D.le.go, D.le_refl, D.leGo_refl, dC]) ?_; refine hK2 _ ?_; clear hK2 K2; simp only [putd, upd_lst]; (repeat (refine sxn fun K2 hK2 => ?_; simp [dC]; (repeat (refine ⟨by omega, ?_⟩)); refine hK2 _ ?_; clear hK2 K2)); refine sxz (hK' _ (AW.st (by simp [dC]; rfl) ?_)); clear hK' K'
    cases an with
    | true =>
     rw [if_pos rfl] at hres0; refine AW_tt rfl ?_; refine rgq fw [4] [] ?_; refine AW_ret ?_; simp [D.le, D.le.go, takeMap, dC, hres0]
    | false =>
     rw [if_neg (by decide)] at hres0; refine AW_ff rfl ?_; refine AW_skip (hK4 _ ?_); refine rgq fw [4] [] ?_; refine AW_ret ?_; simp [D.le, D.le.go, takeMap, dC, hres0]
   ·rw [if_pos (fun h => h4 h.symm)] at hres0; refine AW_cond true (by simp [h4]) (fun _ => ?_) (fun h => by cases h); refine rgq fw [4] [] ?_; refine AW_ret ?_; simp [D.le, D.le.go, takeMap, dC, hres0]
end Go.Proofs.YthnjfeielmbfkaaGreatDoor
namespace Go.Proofs.YthnjfeielmbfkaaGreatDoor
open Go.Av
theorem firstBad_at {α : Type} {f : Nat → α → Int} : ∀ {l : List α} {i n : Nat} (hn : n < l.length), (∀ k (hk : k < l.length), k < n → f (i + k) l[k] = 0) → f (i + n) l[n] ≠ 0 → firstBad f l i = some (f (i + n) l[n], i + n)
 | x :: l, i, 0, _, _, hne => by rw [firstBad, if_neg (show ¬ f i x = 0 from hne)]; rfl
 | x :: l, i, n + 1, hn, hb, hne => by
  have h0 : f i x = 0 := hb 0 (by simp) (by omega)
  have e : ∀ k, i + 1 + k = i + (k + 1) := fun k => by omega
  rw [firstBad, if_pos h0, firstBad_at (l := l) (i := i + 1) (n := n) (by simpa using hn) (fun k hk hkn => by rw [e]; exact hb (k + 1) (by simpa using hk) (by omega)) (by rw [e]; exact hne), e]
  rfl
theorem firstBad_ok {α : Type} {f : Nat → α → Int} : ∀ {l : List α} {i : Nat}, (∀ k (hk : k < l.length), f (i + k) l[k] = 0) → firstBad f l i = none
 | [], _, _ => rfl
 | x :: l, i, hb => by
  have e : ∀ k, i + 1 + k = i + (k + 1) := fun k => by omega
  rw [firstBad, if_pos (show f i x = 0 from hb 0 (by simp)), firstBad_ok fun k hk => by rw [e]; exact hb (k + 1) (by simpa using hk)]
structure SmallP (p : PgP) : Prop where
 nl : p.names.length < 2^62
 rl : p.rungs.length < 2^62
 nn : ∀ n ∈ p.names, n.name.length < 2^60
 cb : ∀ r ∈ p.rungs, ∀ e, r.cond = some e → bE e ≤ 2^28 ∧ (namesE true e).length < 2^62
set_option maxHeartbeats 16000000 in
theorem ladderCheck_spec (G : Glob) (p : PgP) (hp : SmallP p) : PureC Tryz.prog G 50 [dPg p] (dErr (checkP p)) := by
 obtain ⟨hnl, hrl, hnn, hcb⟩ := hp
 have hr2 : checkP p = if p.names.length > 12 ∨ p.rungs.length > 40 then some (4, none) else match firstBad (badN p) p.names 0 with
  | some (e, i) => some (e, some i)
  | none => match firstBad (fun _ r => badG p r) p.rungs 0 with
   | some (e, i) => some (e, some (p.names.length + i))
   | none => none := rfl
 generalize hres : checkP p = res; rw [hr2] at hres
 have hnum := fun s => lc_num G p hnl s
 have hchk := fun r h => lc_chk G p hnl r h
 simp only [dPg, cPg, dNms, dRgs, dS] at hnum hchk ⊢; refine PureC.of_body (tyOf_good _) Tryz.func50 rfl rfl (rs := [.tmp 2]) Tryz.results50 (by simp [Tryz.ntmps50]) fun X => ?_; simp only [Tryz.ntmps50, List.map]; refine rg0 [1] [1] ?_; refine AW.imp (Imp.freezeB 1 trivial) ?_; refine AW.st (by simp; rfl) ?_; refine AW_then fun K1 hK1 => ?_
 by_cases g0 : (p.names.length : Int) > 12
 ·rw [if_pos (.inl (by omega))] at hres
  have qf := @g0
  refine rgqv [1,19] [] ?_; refine AW_tt rfl ?_; refine rg0 [2] [] ?_; refine AW_ret ?_; simp [D.le, D.le.go, takeMap]; simp [← hres, dErr, D.le]
 by_cases g1 : (p.rungs.length : Int) > 40
 ·rw [if_pos (.inr (by omega))] at hres
  have qf := (Aq @g0 @g1)
  refine rgqv [1,19] [] ?_; refine AW_tt rfl ?_; refine rg0 [2] [] ?_; refine AW_ret ?_; simp [D.le, D.le.go, takeMap]; simp [← hres, dErr, D.le]
 rw [if_neg (by omega)] at hres
 have qf := (Aq @g0 @g1)
 refine rgqv [1,19] [] ?_; refine AW_ff rfl ?_; refine AW_skip (hK1 _ ?_); refine AW_then fun K2 hK2 => ?_; refine rg0 [1,22,23,24] [] ?_; refine AW_for (S := Nat) (fun n => n ≤ p.names.length ∧ ∀ k (hk : k < p.names.length), k < n → badN p k p.names[k] = 0) (fun n => ⟨lst [(1, .d (.ip [.sl none (p.names.map cNm), .sl none (p.rungs.map cRg)])), (22, .d (.sl none (p.names.map cNm))), (23, int p.names.length), (24, int n)], hlst []⟩) (fun n => p.names.length - n) 0 ?_ (by simp) ?_
 ·refine Imp.to' (fun _ _ => trivial) (by simp) (by simp)
 ·rintro n ⟨hn, hb⟩
  refine rg0 [1,22,23,24,25] [] ?_; refine AW_then fun K3 hK3 => ?_; refine AW_cond' (b := n < p.names.length) (by simp [D.le, D.le.go, takeMap]) (fun hc => ?_) (fun hc => ?_)
  ·have hlt := hc
   have hgo : badN p n p.names[n] ≠ 0 → res = some (badN p n p.names[n], some n) := fun hne => by
    rw [← hres, firstBad_at (i := 0) hlt (fun k hk hkn => by rw [Nat.zero_add]; exact hb k hk hkn) (by rw [Nat.zero_add]; exact hne)]; simp
   have hnm := hnn _ (List.getElem_mem hlt)
   have hcells : cNm p.names[n] = [dS p.names[n].name, .v (.int .i64 p.names[n].kind), .v (.int .i64 p.names[n].count)] := rfl
   have hbad : badN p n p.names[n] = if !nameF p.names[n].name then 5 else if decide (p.names[n].kind < 1) || decide (p.names[n].kind > 4) then 1 else if ((decide (p.names[n].kind = 3) || decide (p.names[n].kind = 4)) && (decide (p.names[n].count < 1) || decide (p.names[n].count > 7))) || (!(decide (p.names[n].kind = 3) || decide (p.names[n].kind = 4)) && decide (p.names[n].count ≠ 0)) then 2 else if numP p p.names[n].name < n then 9 else 0 := rfl
   generalize hv : badN p n p.names[n] = v at hbad hgo; generalize p.names[n].name = nm at hnm hcells hbad; generalize p.names[n].kind = kd at hcells hbad; generalize p.names[n].count = ct at hcells hbad
   have hname := name_spec G nm hnm
   have hnu := hnum nm
   simp only [dS] at hcells hname; generalize nameF nm = nf at hname hbad; refine AW_skip (hK3 _ ?_); refine AW_then fun K4 hK4 => ?_; refine AW_block ?_
   have qf := (Aq @hlt @hcells)
   refine rgqv [1,3,4,22,23,24] [4] ?_; refine AW.imp (Imp.freezeB 4 trivial) ?_; refine AW.st (by simp; rfl) ?_; refine' lateG (fun hst => ?_) ?_
   rotate_left
   ·by_cases k3 : kd = 3
    ·have qf := @k3
     refine rgqv [1,3,4,5,22,23,24] [] ?_; refine AW.st (show _ = (⟨lst [(1, .d (.ip [.sl none (p.names.map cNm), .sl none (p.rungs.map cRg)])), (3, int n), (4, .d (.ip [.v (.string (bs nm)), .v (.int .i64 kd), .v (.int .i64 ct)])), (5, .d (.v (.bool (decide (kd = 3) || decide (kd = 4))))), (22, .d (.sl none (p.names.map cNm))), (23, int p.names.length), (24, int n)], hlst []⟩ : St) by rw [k3] <;> rfl) ?_; exact hst.out
    ·by_cases k4 : kd = 4
     ·have qf := (Aq @k3 @k4)
      refine rgqv [1,3,4,5,22,23,24] [] ?_; refine AW.st (show _ = (⟨lst [(1, .d (.ip [.sl none (p.names.map cNm), .sl none (p.rungs.map cRg)])), (3, int n), (4, .d (.ip [.v (.string (bs nm)), .v (.int .i64 kd), .v (.int .i64 ct)])), (5, .d (.v (.bool (decide (kd = 3) || decide (kd = 4))))), (22, .d (.sl none (p.names.map cNm))), (23, int p.names.length), (24, int n)], hlst []⟩ : St) by rw [k4] <;> rfl) ?_; exact hst.out
     ·have e : (decide (kd = 3) || decide (kd = 4)) = false := by simp [k3, k4]
      have qf := (Aq @k3 @k4)
      refine rgqv [1,3,4,5,22,23,24] [] ?_; refine AW.st (show _ = (⟨lst [(1, .d (.ip [.sl none (p.names.map cNm), .sl none (p.rungs.map cRg)])), (3, int n), (4, .d (.ip [.v (.string (bs nm)), .v (.int .i64 kd), .v (.int .i64 ct)])), (5, .d (.v (.bool (decide (kd = 3) || decide (kd = 4))))), (22, .d (.sl none (p.names.map cNm))), (23, int p.names.length), (24, int n)], hlst []⟩ : St) by rw [e] <;> rfl) ?_; exact hst.out
   ·generalize (decide (kd = 3) || decide (kd = 4)) = cB at hbad; refine rg0 [1,3,4,5,6,22,23,24] [] ?_; refine AW_then fun K5 hK5 => ?_; refine' lateG (fun hrest => ?_) ?_
    rotate_left
    ·refine AW_block ?_; refine rgc trivial hname [1,3,4,5,6,22,23,24,37] [] ?_
     by_cases hnf : nf = true
     rotate_left
     ·have hnf2 : nf = false := by simpa using hnf
      rw [if_pos (by simp [hnf2])] at hbad; rw [hnf2]; refine AW_tt rfl ?_; refine reK trivial hK5 [1,3,6,22,23,24] [] ?_; refine AW.st (show _ = (⟨lst [(1, .d (.ip [.sl none (p.names.map cNm), .sl none (p.rungs.map cRg)])), (3, int n), (6, int v), (22, .d (.sl none (p.names.map cNm))), (23, int p.names.length), (24, int n)], hlst []⟩ : St) by rw [hbad] <;> rfl) ?_; exact hrest.out
     ·rw [if_neg (by simp [hnf])] at hbad; rw [hnf]; refine AW_ff rfl ?_
      by_cases k1 : kd < 1
      ·rw [if_pos (by simp [k1])] at hbad
       have qf := @k1
       refine rgqv [1,3,4,5,6,22,23,24,42] [] ?_; refine AW_tt rfl ?_; refine reK trivial hK5 [1,3,6,22,23,24] [] ?_; refine AW.st (show _ = (⟨lst [(1, .d (.ip [.sl none (p.names.map cNm), .sl none (p.rungs.map cRg)])), (3, int n), (6, int v), (22, .d (.sl none (p.names.map cNm))), (23, int p.names.length), (24, int n)], hlst []⟩ : St) by rw [hbad] <;> rfl) ?_; exact hrest.out
      by_cases k2 : kd > 4
      ·rw [if_pos (by simp [k2])] at hbad
       have qf := (Aq @k1 @k2)
       refine rgqv [1,3,4,5,6,22,23,24,42] [] ?_; refine AW_tt rfl ?_; refine reK trivial hK5 [1,3,6,22,23,24] [] ?_; refine AW.st (show _ = (⟨lst [(1, .d (.ip [.sl none (p.names.map cNm), .sl none (p.rungs.map cRg)])), (3, int n), (6, int v), (22, .d (.sl none (p.names.map cNm))), (23, int p.names.length), (24, int n)], hlst []⟩ : St) by rw [hbad] <;> rfl) ?_; exact hrest.out
      rw [if_neg (by simp [k1, k2])] at hbad
      have qf := (Aq @k1 @k2)
      refine rgqv [1,3,4,5,6,22,23,24,42] [] ?_; refine AW_ff rfl ?_
      by_cases hcB : cB = true
      ·rw [hcB] at hbad ⊢
       by_cases c1 : ct < 1
       ·rw [if_pos (by simp [c1])] at hbad
        have qf := @c1
        refine rgqv [1,3,4,6,22,23,24,51] [] ?_; refine AW_tt rfl ?_; refine reK trivial hK5 [1,3,6,22,23,24] [] ?_; refine AW.st (show _ = (⟨lst [(1, .d (.ip [.sl none (p.names.map cNm), .sl none (p.rungs.map cRg)])), (3, int n), (6, int v), (22, .d (.sl none (p.names.map cNm))), (23, int p.names.length), (24, int n)], hlst []⟩ : St) by rw [hbad] <;> rfl) ?_; exact hrest.out
       by_cases c2 : ct > 7
       ·rw [if_pos (by simp [c2])] at hbad
        have qf := (Aq @c1 @c2)
        refine rgqv [1,3,4,6,22,23,24,51] [] ?_; refine AW_tt rfl ?_; refine reK trivial hK5 [1,3,6,22,23,24] [] ?_; refine AW.st (show _ = (⟨lst [(1, .d (.ip [.sl none (p.names.map cNm), .sl none (p.rungs.map cRg)])), (3, int n), (6, int v), (22, .d (.sl none (p.names.map cNm))), (23, int p.names.length), (24, int n)], hlst []⟩ : St) by rw [hbad] <;> rfl) ?_; exact hrest.out
       rw [if_neg (by simp [c1, c2])] at hbad
       have qf := (Aq @c1 @c2)
       refine rgqv [1,3,4,6,22,23,24,51] [] ?_; refine AW_ff rfl ?_; refine rgc trivial hnu [1,3,6,22,23,24,72] [] ?_
       by_cases c9 : numP p nm < n
       ·rw [if_pos c9] at hbad; refine AW_cond true (by simp [c9]) (fun _ => ?_) (fun h => by cases h); refine reK trivial hK5 [1,3,6,22,23,24] [] ?_; refine AW.st (show _ = (⟨lst [(1, .d (.ip [.sl none (p.names.map cNm), .sl none (p.rungs.map cRg)])), (3, int n), (6, int v), (22, .d (.sl none (p.names.map cNm))), (23, int p.names.length), (24, int n)], hlst []⟩ : St) by rw [hbad] <;> rfl) ?_; exact hrest.out
       ·rw [if_neg c9] at hbad; refine AW_cond false (by simp [c9]) (fun h => by cases h) (fun _ => ?_); refine AW_skip ?_; refine hK5 _ (AW.norm [1, 3, 6, 22, 23, 24] [] (fun _ _ => trivial) (AW.st (by simp; rfl) ?_)); refine AW.st (show _ = (⟨lst [(1, .d (.ip [.sl none (p.names.map cNm), .sl none (p.rungs.map cRg)])), (3, int n), (6, int v), (22, .d (.sl none (p.names.map cNm))), (23, int p.names.length), (24, int n)], hlst []⟩ : St) by rw [hbad] <;> rfl) ?_; exact hrest.out
      ·have hcB2 : cB = false := by simpa using hcB
       rw [hcB2] at hbad ⊢
       by_cases c0 : ct = 0
       ·rw [if_neg (by simp [c0])] at hbad
        have qf := @c0
        refine rgqv [1,3,4,6,22,23,24,51] [] ?_; refine AW_ff rfl ?_; refine rgc trivial hnu [1,3,6,22,23,24,72] [] ?_
        by_cases c9 : numP p nm < n
        ·rw [if_pos c9] at hbad; refine AW_cond true (by simp [c9]) (fun _ => ?_) (fun h => by cases h); refine reK trivial hK5 [1,3,6,22,23,24] [] ?_; refine AW.st (show _ = (⟨lst [(1, .d (.ip [.sl none (p.names.map cNm), .sl none (p.rungs.map cRg)])), (3, int n), (6, int v), (22, .d (.sl none (p.names.map cNm))), (23, int p.names.length), (24, int n)], hlst []⟩ : St) by rw [hbad] <;> rfl) ?_; exact hrest.out
        ·rw [if_neg c9] at hbad; refine AW_cond false (by simp [c9]) (fun h => by cases h) (fun _ => ?_); refine AW_skip ?_; refine hK5 _ (AW.norm [1, 3, 6, 22, 23, 24] [] (fun _ _ => trivial) (AW.st (by simp; rfl) ?_)); refine AW.st (show _ = (⟨lst [(1, .d (.ip [.sl none (p.names.map cNm), .sl none (p.rungs.map cRg)])), (3, int n), (6, int v), (22, .d (.sl none (p.names.map cNm))), (23, int p.names.length), (24, int n)], hlst []⟩ : St) by rw [hbad] <;> rfl) ?_; exact hrest.out
       ·rw [if_pos (by simp [c0])] at hbad
        have qf := @c0
        refine rgqv [1,3,4,6,22,23,24,51] [] ?_; refine AW_tt rfl ?_; refine reK trivial hK5 [1,3,6,22,23,24] [] ?_; refine AW.st (show _ = (⟨lst [(1, .d (.ip [.sl none (p.names.map cNm), .sl none (p.rungs.map cRg)])), (3, int n), (6, int v), (22, .d (.sl none (p.names.map cNm))), (23, int p.names.length), (24, int n)], hlst []⟩ : St) by rw [hbad] <;> rfl) ?_; exact hrest.out
    ·by_cases hv0 : v = 0
     ·have qf := @hv0
      refine rgqv [1,3,6,22,23,24,80] [] ?_; refine AW_ff rfl ?_; refine AW_skip ?_; refine hK4 _ ?_; refine AW_re (tyOf_good _) fun K' hK' => ?_; (repeat (refine sxn fun K2 hK2 => ?_; simp; (repeat (refine ⟨by omega, ?_⟩)); refine hK2 _ ?_; clear hK2 K2)); refine sxz (hK' _ ?_); clear hK' K'; (try simp only [thn, inb]); refine Again.mk (n + 1) ⟨by omega, fun k hk hkn => ?_⟩ (by omega) ?_
      ·by_cases h : k = n
       ·subst h; rw [hv, hv0]
       ·exact hb k hk (by omega)
      refine Imp.to' (fun _ _ => trivial) (by simp) (by simp)
     ·have qf := @hv0
      refine rgqv [1,3,6,22,23,24,80] [] ?_; refine AW_tt rfl ?_; refine rg0 [2] [84] ?_; refine AW_ret ?_; simp [D.le, D.le.go, takeMap]; simp [hgo hv0, dErr, D.le, D.le.go]
  ·rw [firstBad_ok fun k hk => by rw [Nat.zero_add]; exact hb k hk (by omega)] at hres
   dsimp only at hres
   refine AW_exit (hK2 _ ?_); refine AW_then fun K6 hK6 => ?_; refine rg0 [1,88,89,90] [] ?_; refine AW_for (S := Nat) (fun n => n ≤ p.rungs.length ∧ ∀ k (hk : k < p.rungs.length), k < n → badG p p.rungs[k] = 0) (fun n => ⟨lst [(1, .d (.ip [.sl none (p.names.map cNm), .sl none (p.rungs.map cRg)])), (88, .d (.sl none (p.rungs.map cRg))), (89, int p.rungs.length), (90, int n)], hlst []⟩) (fun n => p.rungs.length - n) 0 ?_ (by simp) ?_
   ·refine Imp.to' (fun _ _ => trivial) (by simp) (by simp)
   ·rintro n ⟨hn, hb⟩
    refine rg0 [1,88,89,90,91] [] ?_; refine AW_then fun K7 hK7 => ?_; refine AW_cond' (b := n < p.rungs.length) (by simp [D.le, D.le.go, takeMap]) (fun hc => ?_) (fun hc => ?_)
    ·have hlt := hc
     have hgo : badG p p.rungs[n] ≠ 0 → res = some (badG p p.rungs[n], some (p.names.length + n)) := fun hne => by
      rw [← hres, firstBad_at (i := 0) hlt (fun k hk hkn => hb k hk hkn) hne]; simp
     have hcells : cRg p.rungs[n] = [.v (.int .i64 p.rungs[n].kind), dS p.rungs[n].name, dC p.rungs[n].cond] := rfl
     have hck := hchk p.rungs[n] (hcb _ (List.getElem_mem hlt))
     simp only [dRg, hcells] at hck; generalize hv : badG p p.rungs[n] = v at hck hgo
     obtain ⟨tc, hdc, hsc⟩ : ∃ tc, dC p.rungs[n].cond = tc ∧ ((∃ a b, tc = .ifc a b) ∨ tc = .v .nilIface) := by
      cases p.rungs[n].cond with
      | none => exact ⟨_, rfl, .inr rfl⟩
      | some e => obtain ⟨a, b, h⟩ := dE_ifc e; exact ⟨_, rfl, .inl ⟨a, b, h⟩⟩
     rw [hdc] at hcells hck; generalize p.rungs[n].kind = kd at hcells hck; generalize p.rungs[n].name = nm at hcells hck; simp only [dS] at hcells hck
     have hlt' : (p.names.length : Int) + (n : Int) ≤ 2^62 := by omega
     refine AW_skip (hK7 _ ?_); refine AW_then fun K8 hK8 => ?_; refine AW_block ?_
     rcases hsc with ⟨ta, tb2, rfl⟩ | rfl
     all_goals
      ·have qf := (Aq @hlt @hcells)
       refine rgqv [1,7,8,88,89,90] [8] ?_; refine AW.imp (Imp.freezeB 8 trivial) ?_; refine AW.st (by simp; rfl) ?_; refine rgc trivial hck [1,7,9,88,89,90] [] ?_
       by_cases hv0 : v = 0
       ·have qf := @hv0
        refine rgqv [1,7,9,88,89,90,99] [] ?_; refine AW_ff rfl ?_; refine AW_skip (hK8 _ ?_); refine AW_re (tyOf_good _) fun K' hK' => ?_; (repeat (refine sxn fun K2 hK2 => ?_; simp; (repeat (refine ⟨by omega, ?_⟩)); refine hK2 _ ?_; clear hK2 K2)); refine sxz (hK' _ ?_); clear hK' K'; (try simp only [thn, inb]); refine Again.mk (n + 1) ⟨by omega, fun k hk hkn => ?_⟩ (by omega) ?_
        ·by_cases h : k = n
         ·subst h; rw [hv, hv0]
         ·exact hb k hk (by omega)
        refine Imp.to' (fun _ _ => trivial) (by simp) (by simp)
       ·have qf := @hv0
        refine rgqv [1,7,9,88,89,90,99] [] ?_; refine AW_tt rfl ?_; refine rg0 [2] [107] ?_; refine AW_ret ?_; simp [D.le, D.le.go, takeMap]; simp [hgo hv0, dErr, D.le, D.le.go]
    ·rw [firstBad_ok fun k hk => hb k hk (by omega)] at hres; refine AW_exit (hK6 _ ?_); refine rg0 [2] [] ?_; refine AW_ret ?_; simp [D.le, D.le.go, takeMap]; simp [← hres, dErr]
end Go.Proofs.YthnjfeielmbfkaaGreatDoor
