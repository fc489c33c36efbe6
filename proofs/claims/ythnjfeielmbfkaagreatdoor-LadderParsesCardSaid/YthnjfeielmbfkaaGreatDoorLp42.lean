/-
  Texts that belong together, in one file: Sh19, SG, JP, LT1, LT2, LD, JR, KB, LPA, R1.
-/
import Derived.Test.YthnjfeielmbfkaaGreatDoorLp41
import Derived.Test.YthnjfeielmbfkaaGreatDoorProg
import Derived.Ground.Names8Prog
import Derived.Shelf.Spec.SlicesGrow
set_option linter.unusedSimpArgs false
set_option linter.unusedVariables false
namespace Go.Proofs
open Go.Shelf
def Tryz.growI_ren : Go.Shelf.Ren := ⟨fun | 4 => 154 | n => n, fun | 22 => 25 | 25 => 3 | 3 => 3 | 4 => 4 | 9 => 9 | 20 => 20 | 0 => 0 | n => n, fun | n => n⟩
theorem Tryz.growI : Go.Proofs.Lays8.n4 Tryz.prog Tryz.growI_ren := {
 mixed := by kernel_rfl
 f4 := ⟨Tryz.f154.name, by decide, Tryz.func154.trans (congrArg some (by kernel_rfl))⟩
 t0 := Tryz.underlying0
 a0 := Tryz.isAgg0
 z0 := Tryz.sizeOf0
 v0 := Tryz.zeroValue0
 t3 := Tryz.underlying3
 a3 := Tryz.isAgg3
 z3 := Tryz.sizeOf3
 v3 := Tryz.zeroValue3
 t4 := Tryz.underlying4
 a4 := Tryz.isAgg4
 z4 := Tryz.sizeOf4
 v4 := Tryz.zeroValue4
 t9 := Tryz.underlying9
 a9 := Tryz.isAgg9
 z9 := Tryz.sizeOf9
 v9 := Tryz.zeroValue9
 t20 := Tryz.underlying20
 a20 := Tryz.isAgg20
 z20 := Tryz.sizeOf20
 v20 := Tryz.zeroValue20
 t22 := Tryz.underlying25
 a22 := Tryz.isAgg25
 z22 := Tryz.sizeOf25
 v22 := Tryz.zeroValue25 }
end Go.Proofs
namespace Go.Proofs.YthnjfeielmbfkaaGreatDoor
open Go.Av Go.Shelf Go.RowKit
theorem size_grown (n G : Nat) (h : n ≤ G) : (([] : List Value).toArray ++ Builtin.zeroCells (Value.int .i64 0).cells (0 + n - 0) ++ Builtin.zeroCells (Value.int .i64 0).cells (G - (0 + n))).size = G := by
 simp [size_zeroCells, Value.cells]; omega
theorem grow_mc (G : Glob) (n : Nat) (hn : n ≤ 2^40) : MC Tryz.prog G [] 154 [.d (.sl (some false) []), .d (dNum n)] (hlst []) (.own 900 0 0) (hlst [(900, .sl 3 1 [])]) := by
 refine ⟨Fun.of Tryz.func154 rfl rfl, fun X w μ vs hs hgl hsz hv => ?_⟩
 obtain ⟨a, b, rfl⟩ : ∃ a b, vs = #[a, b] := by
  match vs, hsz with
  | ⟨[a, b]⟩, _ => exact ⟨a, b, rfl⟩
 obtain rfl : a = .slice none 0 0 := by
  rcases (hv 0 a _ rfl rfl).data.sl_inv with ⟨rfl, _⟩ | ⟨_, _, _, hk, _⟩
  ·rfl
  ·exact absurd rfl hk
 obtain rfl : b = .int .i64 n := (hv 1 b _ rfl rfl).scalar
 have hL := Tryz.growI
 have hin : In w X G μ ⟨0, [], none⟩ { tmps := #[], defers := [] } ⟨fun _ => none, hlst []⟩ := ⟨hs, ⟨rfl, rfl, fun i x h => by cases h⟩, hgl⟩
 have hH : ∀ row, hup (hlst []) 900 row = hlst [(900, row)] := fun row => by
  funext q
  by_cases h : q = 900
  ·subst h; rfl
  ·have hq : (q == 900) = false := by simpa using h
   simp only [hup, if_neg h, hlst, List.lookup, hq]
 by_cases h0 : n = 0
 ·subst h0; refine (Any8.slices_Grow_room hL none 0 0 0 w (by omega) (by omega) (by omega) (by omega)).mono fun e w' ⟨he, hw⟩ => ?_; subst hw
  obtain ⟨h1, ev⟩ := hin.alloc (Mv := notIn []) (w' := w') (m := ⟨none, 1, 0⟩) (d := 900) rfl (Grew.refl _) (by simp) (row := .sl 3 1 []) fun _ => .nil rfl rfl
  have h2 := h1.sim
  dsimp only at h2
  rw [hH] at h2; exact ⟨_, _, _, _, he, ⟨rfl, rfl⟩, .own (m := ⟨none, 1, 0⟩) (by simp [mup]) (.inl ⟨rfl, rfl, rfl, rfl⟩), h2, ev⟩
 ·obtain ⟨i0, hi, hz0, hz1, hz2⟩ := info_parts (P := Tryz.prog) (e := 3) (z := .int .i64 0) (size := 1) (bytes := 8) (by kernel_rfl)
  refine (Any8.slices_Grow_grow hL i0 (.int .i64 0) hi hz0 (by omega) none 0 0 n [] w (by omega) (by omega) (by rw [hz2]; omega) (by omega) (by simp) (fun _ => rfl) (fun a e => by cases e)).mono fun e w' ⟨he, hw⟩ => ?_
  have hge : n ≤ grownCap w (0 + n) 0 3 := by have := grownCap_ge w (0 + n) 0 3; omega
  have hle : grownCap w (0 + n) 0 3 ≤ maxLen := grownCap_le_maxLen w (0 + n) 0 3 (by unfold maxLen; omega)
  have he : e = .returned (.slice (some ⟨w.heap.size, 0, none⟩) 0 (grownCap w (0 + n) 0 3)) := he
  have hw : w' = w.drew.alloc (.cells (([] : List Value).toArray ++ Builtin.zeroCells (Value.int .i64 0).cells (0 + n - 0) ++ Builtin.zeroCells (Value.int .i64 0).cells (grownCap w (0 + n) 0 3 - (0 + n))) 3) := hw
  have hsz := size_grown n (grownCap w (0 + n) 0 3) hge
  generalize grownCap w (0 + n) 0 3 = C at he hw hge hle hsz; generalize (([] : List Value).toArray ++ Builtin.zeroCells (Value.int .i64 0).cells (0 + n - 0) ++ Builtin.zeroCells (Value.int .i64 0).cells (C - (0 + n))) = Z at hw hsz; subst hw
  have g1 := Grew.drew w
  have g2 := Grew.alloc w.drew (.cells Z 3)
  have hg : Grew w (w.drew.alloc (.cells Z 3)) := ⟨Nat.le_trans g1.size g2.size, g2.os.trans g1.os, g2.tape.trans g1.tape, g2.output.trans g1.output, fun b hb => (g2.same b (Nat.lt_of_lt_of_le hb g1.size)).trans (g1.same b hb)⟩
  have hnew : (w.drew.alloc (.cells Z 3)).heap[w.heap.size]? = some (.cells Z 3 (0, 0)) := heap_alloc_new w.drew _
  obtain ⟨h1, ev⟩ := hin.alloc (Mv := notIn []) (w' := w.drew.alloc (.cells Z 3)) (m := ⟨some w.heap.size, 1, C⟩) (d := 900) rfl hg (by rintro b h; injection h with h; omega) (row := .sl 3 1 []) fun _ =>
   .sl (b := w.heap.size) rfl rfl hnew (by simpa using hsz) (by simp) hle (by simp) (by omega) (by simp)
  have h2 := h1.sim
  dsimp only at h2
  rw [hH] at h2; exact ⟨_, _, _, _, he, ⟨rfl, rfl⟩, .own (m := ⟨some w.heap.size, 1, C⟩) (by simp [mup]) (.inr ⟨_, rfl, by simp, by simp⟩), h2, ev⟩
def dPls (l : List Nat) : List (List D) := l.map fun (n : Nat) => [dNum (n : Int)]
theorem dPls_app (a b : List Nat) : dPls (a ++ b) = dPls a ++ dPls b := by unfold dPls; rw [List.map_append]
def ct3 {α : Type} (a b c : α) : Nat → α
 | 0 => a
 | 1 => b
 | _ => c
set_option maxHeartbeats 4000000 in
theorem concat_spec (G : Glob) (a b : List Nat) (ha : a.length ≤ 2^30) (hb : b.length ≤ 2^30) : PureC Tryz.prog G 93 [.sl none [[.sl none (dPls a)], [.sl none (dPls b)]]] (.sl none (dPls (a ++ b))) := by
 rw [dPls_app]
 have hA1 : (∀ el ∈ dPls a, el.length = 1) = True := eq_true (by simp [dPls])
 have hB1 : (∀ el ∈ dPls b, el.length = 1) = True := eq_true (by simp [dPls])
 have hA2 : (∀ el ∈ dPls a, ∀ c ∈ el, c.one = true) = True := eq_true (by simp [dPls, dNum, D.one])
 have hB2 : (∀ el ∈ dPls b, ∀ c ∈ el, c.one = true) = True := eq_true (by simp [dPls, dNum, D.one])
 have hAl : (dPls a).length ≤ 2^30 := by simpa [dPls] using ha
 have hBl : (dPls b).length ≤ 2^30 := by simpa [dPls] using hb
 generalize dPls a = A at *; generalize dPls b = B at *
 have hgr := grow_mc G (A.length + B.length) (by omega)
 simp only [dNum] at hgr; refine PureC.of_body (tyOf_good _) Tryz.func93 rfl rfl (rs := [.tmp 2]) Tryz.results93 (by simp [Tryz.ntmps93]) fun X => ?_; simp only [Tryz.ntmps93, List.map]
 have fw := @dNum.eq_1
 refine rgq fw [0] [] ?_; refine rgq fw [0,3] [] ?_; refine AW_then fun K1 hK1 => ?_; refine rgq fw [0,3,9,10,11] [] ?_; refine AW_for (S := Nat) (fun n => n ≤ 2) (fun n => ⟨lst [(0, .d (.sl none [[.sl none A], [.sl none B]])), (3, int (ct3 0 (A.length : Int) ((A.length : Int) + B.length) n)), (9, .d (.sl none [[.sl none A], [.sl none B]])), (10, int 2), (11, int n)], hlst []⟩) (fun n => 2 - n) 0 ?_ (by omega) ?_
 ·refine Imp.to' (fun _ _ => trivial) (by simp [dNum, ct3]) (by simp [dNum, ct3])
 ·intro n hn
  rcases (by omega : n = 0 ∨ n = 1 ∨ n = 2) with rfl | rfl | rfl
  ·simp only [ct3]; refine rgq fw [0,3,9,10,11,12] [] ?_; refine AW_then fun K2 hK2 => ?_; refine AW_tt rfl ?_; refine AW_skip (hK2 _ ?_); refine AW_then fun K3 hK3 => ?_; refine AW_block ?_; refine rgq fw [0,3,5,9,10,11] [] ?_; refine rgq fw [0,3,9,10,11] [] ?_; refine rgq fw [0,3,9,10,11,20] [] ?_; refine AW_ff rfl ?_; refine AW_skip (hK3 _ ?_); refine AW_re (tyOf_good _) fun K' hK' => ?_; (repeat (refine sxn fun K2 hK2 => ?_; simp [dNum]; (repeat (refine ⟨by omega, ?_⟩)); refine hK2 _ ?_; clear hK2 K2)); refine sxz (hK' _ ?_); clear hK' K'; (try simp only [thn, inb]); refine Again.mk 1 (by omega) (by omega) ?_; refine Imp.to' (fun _ _ => trivial) (by simp [dNum, ct3]) (by simp [dNum, ct3])
  ·simp only [ct3]; refine rgq fw [0,3,9,10,11,12] [] ?_; refine AW_then fun K2 hK2 => ?_; refine AW_tt rfl ?_; refine AW_skip (hK2 _ ?_); refine AW_then fun K3 hK3 => ?_; refine AW_block ?_; refine rgq fw [0,3,5,9,10,11] [] ?_; refine rgq fw [0,3,9,10,11] [] ?_; refine rgq fw [0,3,9,10,11,20] [] ?_; refine AW_ff rfl ?_; refine AW_skip (hK3 _ ?_); refine AW_re (tyOf_good _) fun K' hK' => ?_; (repeat (refine sxn fun K2 hK2 => ?_; simp [dNum]; (repeat (refine ⟨by omega, ?_⟩)); refine hK2 _ ?_; clear hK2 K2)); refine sxz (hK' _ ?_); clear hK' K'; (try simp only [thn, inb]); refine Again.mk 2 (by omega) (by omega) ?_; refine Imp.to' (fun _ _ => trivial) (by simp [dNum, ct3]) (by simp [dNum, ct3])
  ·simp only [ct3]; refine rgq fw [0,3,9,10,11,12] [] ?_; refine AW_then fun K2 hK2 => ?_; refine AW_ff rfl ?_; refine AW_exit (hK1 _ ?_); refine rgm fw hgr [0,6] [900] ?_; refine AW_then fun K4 hK4 => ?_; refine rgq fw [6,25,26,27] [900] ?_; refine AW_for (S := Nat) (fun n => n ≤ 2) (fun n => ⟨lst [(6, .own 900 0 (ct3 0 A.length (A.length + B.length) n)), (25, .d (.sl none [[.sl none A], [.sl none B]])), (26, int 2), (27, int n)], hlst [(900, .sl 3 1 (ct3 [] A (A ++ B) n))]⟩) (fun n => 2 - n) 0 ?_ (by omega) ?_
   ·refine Imp.to' (fun _ _ => trivial) (by simp [dNum, ct3]) (by simp [dNum, ct3])
   ·intro n hn
    rcases (by omega : n = 0 ∨ n = 1 ∨ n = 2) with rfl | rfl | rfl
    ·simp only [ct3]; refine rgq fw [6,25,26,27,28] [900] ?_; refine AW_then fun K5 hK5 => ?_; refine AW_tt rfl ?_; refine AW_skip (hK5 _ ?_); refine AW_then fun K6 hK6 => ?_; refine AW_block ?_; refine rgq fw [6,8,25,26,27] [900] ?_
     have qf := (Aq fw (Aq @hA1 @hA2))
     refine reKv hK6 [6,25,26,27] [900] ?_; refine AW_re (tyOf_good _) fun K' hK' => ?_; (repeat (refine sxn fun K2 hK2 => ?_; simp [dNum]; (repeat (refine ⟨by omega, ?_⟩)); refine hK2 _ ?_; clear hK2 K2)); refine sxz (hK' _ ?_); clear hK' K'; (try simp only [thn, inb]); refine Again.mk 1 (by omega) (by omega) ?_; refine Imp.to' (fun _ _ => trivial) (by simp [dNum, ct3]) (by simp [dNum, ct3])
    ·simp only [ct3]; refine rgq fw [6,25,26,27,28] [900] ?_; refine AW_then fun K5 hK5 => ?_; refine AW_tt rfl ?_; refine AW_skip (hK5 _ ?_); refine AW_then fun K6 hK6 => ?_; refine AW_block ?_; refine rgq fw [6,8,25,26,27] [900] ?_; refine AW_re (tyOf_good _) fun K' hK' => ?_; (repeat (refine sxn fun K2 hK2 => ?_; simp [dNum, hB1, hB2, List.take_of_length_le]; (repeat (refine ⟨by omega, ?_⟩)); refine hK2 _ ?_; clear hK2 K2)); refine sxz (hK' _ ?_); clear hK' K'; refine hK6 _ (AW.norm [6, 25, 26, 27] [900] (fun _ _ => trivial) (AW.st (by simp [dNum, hB1, hB2, List.take_of_length_le]; rfl) ?_)); refine AW_re (tyOf_good _) fun K' hK' => ?_; (repeat (refine sxn fun K2 hK2 => ?_; simp [dNum]; (repeat (refine ⟨by omega, ?_⟩)); refine hK2 _ ?_; clear hK2 K2)); refine sxz (hK' _ ?_); clear hK' K'; (try simp only [thn, inb]); refine Again.mk 2 (by omega) (by omega) ?_; refine Imp.to' (fun _ _ => trivial) (by simp [dNum, ct3]) (by simp [dNum, ct3])
    ·simp only [ct3]; refine rgq fw [6,25,26,27,28] [900] ?_; refine AW_then fun K5 hK5 => ?_; refine AW_ff rfl ?_; refine AW_exit (hK4 _ ?_); refine AW.imp (Imp.freeze 900 trivial) ?_; refine AW.st (by simp [dNum]; rfl) ?_; refine rgq fw [2] [] ?_; refine AW_ret ?_; simp [D.le, D.le.go, takeMap, dNum, D.le_refl, D.leGo_refl]
end Go.Proofs.YthnjfeielmbfkaaGreatDoor
namespace Go.Proofs.YthnjfeielmbfkaaGreatDoor
open Go.Av
theorem AW0_then {P : Program} {Mv X : Nat → Prop} {G : Glob} {n s : Nat} {x y : Code} {Q : Exit → St → Prop} {σ : St} (h : ∀ K : St → Prop, (∀ σ', AW0 P Mv X G n s y Q σ' → K σ') → ∀ X' ds, AW P Mv X' G ⟨n, ds, none⟩ x (thn K Q) σ) : AW0 P Mv X G n s (.seq x y) Q σ :=
 AW0_seq (AW0_of (h _ fun _ h => h))
theorem AW0_thn {P : Program} {Mv X : Nat → Prop} {G : Glob} {n s : Nat} {x y : Code} {Q : Exit → St → Prop} {σ : St} (h : ∀ K : St → Prop, (∀ σ', AW0 P Mv X G n s y Q σ' → K σ') → AW0 P Mv X G n s x (thn K Q) σ) : AW0 P Mv X G n s (.seq x y) Q σ :=
 AW0_seq (h _ fun _ h => h)
theorem round_assign {P : Program} {Mv X : Nat → Prop} {G : Glob} {N : Fr} {x y : Code} {Q : Exit → St → Prop} {σ : St} (h : ∀ K : St → Prop, (∀ σ', AW P Mv X G N y Q σ' → K σ') → AW P Mv X G N x (thn K (fun _ _ => False)) σ) : AW P Mv X G N x (thn (AW P Mv X G N y Q) (fun _ _ => False)) σ :=
 h _ fun _ h => h
section
variable {P : Program} {X : Nat → Prop} {G : Glob} {n s : Nat} {σ τ τ' : St} {p : Prop}
theorem AW0.norm (l ns : List Nat) {c : Code} {Q : Exit → St → Prop} (h : AW0 P (fun _ => True) X G n s c Q (σ.norm l ns)) : AW0 P (fun _ => True) X G n s c Q σ := AW0.imp (fun X' ds => Imp.norm l ns fun _ _ => trivial) h
theorem AW0.st {c : Code} {Q : Exit → St → Prop} (h : σ = τ) (h' : AW0 P (fun _ => True) X G n s c Q τ) : AW0 P (fun _ => True) X G n s c Q σ := h ▸ h'
theorem rz0 (q : p) (l ns : List Nat) {id : Nat} {ops : Array Oper} {y : Code} {Q : Exit → St → Prop} (k : AW0 P (fun _ => True) X G n s y Q τ')
  (h : p → ∀ (X' : Nat → Prop) (ds : List Deferred) (K' : St → Prop), K' τ → sxf P (tyOf P) (fun _ => True) X' G ⟨n, ds, none⟩ ops K' ops.toList σ := by
   intro q X' ds K' hK'
   repeat (refine sxn fun K2 hK2 => ?_; simp [q]; (repeat (refine ⟨by omega, ?_⟩)); refine hK2 _ ?_; clear hK2 K2)
   exact sxz hK')
  (hn : p → τ.norm l ns = τ' := by intro q; simp [q]; rfl) : AW0 P (fun _ => True) X G n s (.seq (.region id ops false) y) Q σ :=
 AW0_seq (AW0_of fun X' ds => AW_re (tyOf_good _) fun K hK => h q X' ds K (hK _ (AW0.norm l ns (hn q ▸ k))))
theorem rz0m (q : p) {fx : List Nat} {g : FuncId} {xs : List AV} {rows1 rows2 : List (Nat × Row)} {yv : AV} (hc : MC P G fx g xs (hlst rows1) yv (hlst rows2)) (l ns : List Nat) {id : Nat} {ops : Array Oper} {y : Code} {Q : Exit → St → Prop} (k : AW0 P (fun _ => True) X G n s y Q τ')
  (h : p → MC P G fx g xs (hlst rows1) yv (hlst rows2) → ∀ (X' : Nat → Prop) (ds : List Deferred) (K' : St → Prop), K' τ → sxf P (tyOf P) (fun _ => True) X' G ⟨n, ds, none⟩ ops K' ops.toList σ := by
   intro q hc X' ds K' hK'
   (repeat (refine sxn fun K2 hK2 => ?_; simp [q]; (repeat (refine ⟨by omega, ?_⟩)); refine hK2 _ ?_; clear hK2 K2)); refine sxn fun K2 hK2 => ?_; simp [q]; refine callK.mc hc (by simp [q]) (by simp [q]) (by simp [q]) (by simp [q]) ?_; simp [q]; refine hK2 _ ?_; clear hK2 K2; repeat (refine sxn fun K2 hK2 => ?_; simp [q]; (repeat (refine ⟨by omega, ?_⟩)); refine hK2 _ ?_; clear hK2 K2)
   exact sxz hK')
  (hn : p → τ.norm l ns = τ' := by intro q; simp [q]; rfl) : AW0 P (fun _ => True) X G n s (.seq (.region id ops false) y) Q σ :=
 AW0_seq (AW0_of fun X' ds => AW_re (tyOf_good _) fun K hK => h q hc X' ds K (hK _ (AW0.norm l ns (hn q ▸ k))))
end
def nil2 : D := .sl (some false) []
def pHp (NN RR NA RA : List (List D)) (pl : Int) : Heap := hlst [(2, .box 29 [.d nil2, .d nil2]), (3, .box 31 [.d (.v .nilIface)]), (4, .box 29 [.own 801 0 NN.length, .own 802 0 RR.length]), (5, .box 25 [.own 803 0 NA.length]), (6, .box 25 [.own 804 0 RA.length]), (7, .box 3 [int pl]), (801, .sl 73 3 NN), (802, .sl 114 3 RR), (803, .sl 3 1 NA), (804, .sl 3 1 RA)]
theorem dC_one (c : Option Ex) : (dC c).one = true := by
 cases c with
 | none => rfl
 | some e => obtain ⟨a, b, h⟩ := dE_ifc e; rw [dC, h]; rfl
theorem getD_nat (l : List Nat) (i : Nat) (h : i < l.length) : (dPls l)[i]? = some [dNum ((l.getD i 0 : Nat) : Int)] := by
 rw [List.getD_eq_getElem?_getD]; unfold dPls; simp [h]
theorem check_lt {p : PgP} {c : Int} {i : Nat} (h : checkP p = some (c, some i)) : i < p.names.length + p.rungs.length := by
 unfold checkP at h
 split at h
 ·cases h
 ·split at h
  ·rename_i e k hf
   have := firstBad_lt hf
   simp only [Option.some.injEq, Prod.mk.injEq] at h
   omega
  ·split at h
   ·rename_i e k hf
    have := firstBad_lt hf
    simp only [Option.some.injEq, Prod.mk.injEq] at h
    omega
   ·cases h
theorem rungP_bad {k : Int} {nm hd rest : Tx} {c : Int} {off : Nat} (h : rungP k nm hd rest = .bad c off) : off ≤ hd.length + 1 + rest.length := by
 unfold rungP at h
 split at h
 ·rename_i c' o hp
  simp only [LnR.bad.injEq] at h
  cases o with
  | none => simp at h; omega
  | some o =>
   have := parse_at hp
   simp at h; omega
 ·cases h
theorem line_bad {s : Tx} {c : Int} {off : Nat} (h : lineP s = .bad c off) : off ≤ 2 * s.length + 1 := by
 have hle := cutAt_le 61 s
 have nb : ∀ l, nameL l ≠ .bad c off := fun l => by
  match l with
  | [] => simp [nameL]
  | [a] => simp [nameL, nameP]
  | [a, b] => simp only [nameL, nameP]; split <;> simp
  | [a, b, c] => simp only [nameL, nameP]; split <;> (try split) <;> simp
  | a :: b :: c :: d :: l => simp [nameL, nameP]
 unfold lineP at h
 split at h
 ·have h2 : off ≤ (cutAt 61 s).1.length + 1 + (cutAt 61 s).2.length := by
   match hw : wordsT (cutAt 61 s).1, h with
   | [a], h => exact rungP_bad h
   | [a, b], h =>
    simp only [rungL] at h
    split at h
    ·cases h
    ·exact rungP_bad h
  omega
 ·exact absurd h (nb _)
theorem lxq : (⟨#[]⟩ : ByteArray) = bs [] := rfl
theorem lxq32 : (⟨#[32]⟩ : ByteArray) = bs [32] := rfl
set_option maxRecDepth 100000 in
set_option maxHeartbeats 32000000 in
theorem lparse_spec (G : Glob) (hM : HasMax G) (hP : HasP10 G) (hG : HasErr G) {es er : Value} (hE : HasNE G es er) (t : Tx) : PureC Tryz.prog G 40 [dS t] (.tup [dPg (parseP t).2, dErr (parseP t).1]) := by
 refine PureC.of_body0 (tyOf_good _) Tryz.func40 rfl rfl (rs := [.cell 2 29, .cell 3 31]) Tryz.results40 (by simp [Tryz.ntmps40]) fun X s0 => ?_; simp only [Tryz.ntmps40, List.map]
 have fw := (Aq @dNum.eq_1 @dS.eq_1)
 refine rz0 fw [0, 2, 3] [2, 3] ?_; refine AW0_then fun K1 hK1 X' ds => ?_
 by_cases ht : 20000 < t.length
 ·have ht1 : (t.length : Int) > 20000 := by omega
  have hp : parseP t = (some (4, none), ⟨[], []⟩) := by unfold parseP; rw [if_pos ht]
  have qf := (Aq fw (Aq @bs_size @ht1))
  refine rgqv [0,2,3,19] [2,3] ?_; refine AW_cond true (by simp [ht1]) (fun _ => ?_) (fun h => by cases h); refine rgq fw [2,3] [2,3] ?_; refine AW_ret ?_; simp [D.le, D.le.go, takeMap, dNum, dS, hp, dPg, cPg, dNms, dRgs, dErr]
 have ht1 : ¬ (t.length : Int) > 20000 := by omega
 have hseq := splitSeq_mc2 G t
 have qf := (Aq fw (Aq @bs_size @ht1))
 refine rgqv [0,2,3,19] [2,3] ?_; refine AW_cond false (by simp [ht1]) (fun h => by cases h) (fun _ => ?_); refine AW_skip (hK1 _ ?_); refine rz0 fw [0, 2, 3, 4] [2, 3, 4] ?_; refine rz0 fw [0, 2, 3, 4, 5, 6] [2, 3, 4, 5, 6] ?_; refine rz0 fw [0, 2, 3, 4, 5, 6, 7] [2, 3, 4, 5, 6, 7] ?_; refine AW0_thn fun K5 hK5 => ?_; refine AW0.imp (fun X' ds => Imp.adoptCell 4 0 801 73 3 rfl rfl rfl) ?_; refine AW0.st (by simp; rfl) ?_; refine AW0.imp (fun X' ds => Imp.adoptCell 4 1 802 114 3 rfl rfl rfl) ?_; refine AW0.st (by simp; rfl) ?_; refine AW0.imp (fun X' ds => Imp.adoptCell 5 0 803 3 1 rfl rfl rfl) ?_; refine AW0.st (by simp; rfl) ?_; refine AW0.imp (fun X' ds => Imp.adoptCell 6 0 804 3 1 rfl rfl rfl) ?_; refine AW0.st (by simp; rfl) ?_; simp only [seqRows, seqFn, dS, dNum] at hseq; refine rz0m (Aq @lxs10 fw) hseq [2, 3, 4, 5, 6, 7, 23] [2, 3, 4, 5, 6, 7, 511, 512, 513, 801, 802, 803, 804] ?_; refine AW0_block ?_
 obtain ⟨l, hl⟩ : ∃ l, l = cutT 10 t := ⟨_, rfl⟩
 have hllen := cutT_len 10 t
 rw [← hl] at hllen
 obtain ⟨inv, hinvD⟩ : ∃ f : Nat → Heap, f = fun k => match prK l k with
  | .inl _ => hno
  | .inr s => pHp (s.names.map cNm) (s.rungs.map cRg) (dPls s.nAt) (dPls s.rAt) (placeK l k) := ⟨_, rfl⟩
 have hinv : ∀ k s, prK l k = .inr s → inv k = pHp (s.names.map cNm) (s.rungs.map cRg) (dPls s.nAt) (dPls s.rAt) (placeK l k) := fun k s h => by rw [hinvD]; dsimp only; rw [h]
 refine AW0_rangeFunc (l.map fun s => .string (bs s)) [511, 512, 513] [2, 3, 4, 5, 6, 7] (lst [(2, .ref 2 0 0), (3, .ref 3 0 0), (4, .ref 4 0 0), (5, .ref 5 0 0), (6, .ref 6 0 0), (7, .ref 7 0 0)]) inv (fun k => ∃ s, prK l k = .inr s) ⟨prS0, rfl⟩ (gf := 188) (caps := [.ref 512 0 0, .ref 511 0 0, .ref 513 0 0]) (by simp) (Fun.of Tryz.func188 rfl rfl) (by decide) ?hIt ?he1 ?hH (fun _ _ => trivial) ?hfx ?round ?done
 case hIt =>
  intro w X μ lb hs hgl hsz hlr
  rw [hl]; refine seq_iter G hM t (by omega) w X μ lb ?_ hgl hsz ?_
  ·simpa [seqRows, dS, dNum] using hs
  ·intro i u x hu hx
   have h := hlr i u x hu hx
   match i, hx with
   | 0, hx => obtain rfl := Option.some.inj hx; exact h
   | 1, hx => obtain rfl := Option.some.inj hx; exact h
   | 2, hx => obtain rfl := Option.some.inj hx; exact h
 case he1 =>
  intro i x hx
  have h := lst_mem hx
  simp only [List.mem_cons, List.not_mem_nil, or_false, Prod.mk.injEq] at h
  rcases h with ⟨rfl, rfl⟩ | ⟨rfl, rfl⟩ | ⟨rfl, rfl⟩ | ⟨rfl, rfl⟩ | ⟨rfl, rfl⟩ | ⟨rfl, rfl⟩ <;> exact ⟨rfl, _, rfl, rfl⟩
 case hH =>
  rw [hinv 0 prS0 rfl]; simp [pHp, prS0, dPls, placeK_zero, nil2]
  try rfl
 case hfx =>
  intro q h
  simp at h ⊢
  omega
 case done =>
  rintro ⟨s, hs⟩
  rw [List.length_map] at hs ⊢
  have hpe := parseP_end (s := s) (by omega) (hl ▸ hs)
  have hok := prOk_k (t := t) (by omega) (Nat.le_refl _) (hl ▸ hs)
  have hsm := prOk_small hok (by rw [← hl]; omega)
  have hchk := ladderCheck_spec G ⟨s.names, s.rungs⟩ hsm
  rw [hinv _ _ hs]; refine hK5 _ (AW0_of fun X' ds => ?_)
  obtain ⟨hnl, hrl, hnm, _, _⟩ := hok
  rw [← hl] at hnm
  have hplace : ∀ c i, checkP ⟨s.names, s.rungs⟩ = some (c, some i) → i < (s.nAt ++ s.rAt).length := fun c i h => by have := check_lt h; simp at this ⊢; omega
  unfold pHp; refine AW.imp (Imp.freeze 801 trivial) ?_; refine AW.st (by simp [dNum, dS]; rfl) ?_; refine AW.imp (Imp.freeze 802 trivial) ?_; refine AW.st (by simp [dNum, dS]; rfl) ?_; refine AW.imp (Imp.freeze 803 trivial) ?_; refine AW.st (by simp [dNum, dS]; rfl) ?_; refine AW.imp (Imp.freeze 804 trivial) ?_; refine AW.st (by simp [dNum, dS]; rfl) ?_
  have hcc := concat_spec G s.nAt s.rAt (by omega) (by omega)
  have hgd := fun i h => getD_nat (s.nAt ++ s.rAt) i h
  simp only [dPg, cPg, dNms, dRgs] at hchk; generalize hNN : s.names.map cNm = NN at hchk ⊢; generalize hRR : s.rungs.map cRg = RR at hchk ⊢; generalize dPls s.nAt = NA at hcc ⊢; generalize dPls s.rAt = RA at hcc ⊢; generalize dPls (s.nAt ++ s.rAt) = CC at hcc hgd
  cases hck : checkP ⟨s.names, s.rungs⟩ with
  | none =>
   rw [hck] at hchk hpe; simp only [dErr] at hchk; refine rgc fw hchk [2,3,4,5,6,14] [2,3,4,5,6,7] ?_; refine AW_then fun K7 hK7 => ?_; refine rgq (Aq fw (Aq @pairA.eq_1 (Aq @pairA.eq_2 @assertA.eq_1))) [2,3,4,5,6,14,15,16] [2,3,4,5,6,7] ?_; refine rgq fw [2,3,4,5,6,14,15,108] [2,3,4,5,6,7] ?_; refine AW_ff rfl ?_; refine AW_skip (hK7 _ ?_); refine AW_then fun K8 hK8 => ?_; refine rgq fw [2,3,4,14,127] [2,3,4,5,6,7] ?_; refine AW_ff rfl ?_; refine AW_skip (hK8 _ ?_); refine rgq fw [2,3] [2,3,4,5,6,7] ?_; refine AW_ret ?_; simp [D.le, D.le.go, takeMap, dNum, dS, hpe, dPg, cPg, dNms, dRgs, dErr, hNN, hRR, D.le_refl, D.leGo_refl]
  | some ci =>
   obtain ⟨c, i⟩ := ci
   rw [hck] at hchk hpe
   cases i with
   | none =>
    simp only [dErr] at hchk; refine rgc fw hchk [2,3,4,5,6,14] [2,3,4,5,6,7] ?_; refine AW_then fun K7 hK7 => ?_; refine rgq (Aq fw (Aq @pairA.eq_1 (Aq @pairA.eq_2 @assertA.eq_1))) [2,3,4,5,6,14,15,16] [2,3,4,5,6,7] ?_; refine rgq fw [2,3,4,5,6,14,15,108] [2,3,4,5,6,7] ?_; refine AW_ff rfl ?_; refine AW_skip (hK7 _ ?_); refine AW_then fun K8 hK8 => ?_; refine rgq fw [2,3,4,14,127] [2,3,4,5,6,7] ?_; refine AW_tt rfl ?_; refine rgq fw [2,3] [2,3,4,5,6,7] ?_; refine AW_ret ?_; simp [D.le, D.le.go, takeMap, dNum, dS, hpe, dPg, cPg, dNms, dRgs, dErr]
   | some i =>
    have hi := hplace c i hck
    have hgi := hgd i hi
    dsimp only at hpe
    obtain ⟨hil, hgv⟩ := List.getElem?_eq_some_iff.1 hgi
    simp only [dErr] at hchk; simp only [dNum] at hgv; clear hgi; generalize (s.nAt ++ s.rAt).getD i 0 = pl at hgv hpe; refine rgc fw hchk [2,3,4,5,6,14] [2,3,4,5,6,7] ?_; refine AW_then fun K7 hK7 => ?_; refine rgq (Aq fw (Aq @pairA.eq_1 (Aq @pairA.eq_2 @assertA.eq_1))) [2,3,4,5,6,14,15,16] [2,3,4,5,6,7] ?_; refine rgq fw [2,3,4,5,6,14,15,108] [2,3,4,5,6,7] ?_; refine AW_tt rfl ?_; refine AW_rbe (tyOf_good _) (by kernel_rfl) ([6, 15]) (List.range 18) (by kernel_rfl) fun K' hK' => ?_; (repeat (refine sxb_nextO rfl fun K2 hK2 => ?_; simp [dNum, dS, hil, hgv]; (repeat (refine ⟨by omega, ?_⟩)); refine hK2 _ ?_; clear hK2 K2)); refine sxb_nextO rfl fun K2 hK2 => ?_; simp [dNum, dS, hil, hgv]; refine callD.mk (hcc) (by simp; rfl) (by simp; rfl) (by first | exact D.leGo_refl _ | simp [takeMap, List.map_map, Function.comp_def, D.le, D.le.go, D.le_refl, D.leGo_refl, dNum, dS, hil, hgv]) (by simp) ?_; refine hK2 _ ?_; clear hK2 K2; simp only [putd, upd_lst]; (repeat (refine sxb_nextO rfl fun K2 hK2 => ?_; simp [dNum, dS, hil, hgv]; (repeat (refine ⟨by omega, ?_⟩)); refine hK2 _ ?_; clear hK2 K2)); refine sxb_nilO (hK' _ ?_); clear hK' K'; refine hK7 _ (AW.norm [2, 3, 4, 14] [2, 3, 4, 5, 6, 7] (fun _ _ => trivial) (AW.st (by simp [dNum, dS, hil, hgv]; rfl) ?_)); refine AW_then fun K8 hK8 => ?_; refine rgq fw [2,3,4,14,127] [2,3,4,5,6,7] ?_; refine AW_tt rfl ?_; refine rgq fw [2,3] [2,3,4,5,6,7] ?_; refine AW_ret ?_; simp [D.le, D.le.go, takeMap, dNum, dS, hpe, dPg, cPg, dNms, dRgs, dErr]
 case round =>
  rintro X' L k hk ⟨s, hs⟩
  have hk' : k < l.length := by simpa using hk
  obtain ⟨ln, hln⟩ : ∃ ln, ln = l[k] := ⟨_, rfl⟩
  rw [hinv k s hs, show (l.map fun s => Value.string (bs s))[k] = .string (bs ln) by simp [hln]]
  have hpb : placeK l k + ln.length ≤ t.length := by rw [hln]; subst hl; exact piece_le hk'
  have hpl : (placeK l (k + 1) : Int) = (placeK l k : Int) + ((ln.length : Int) + 1) := by rw [placeK_succ hk', ← hln]; omega
  have hok := prOk_k (t := t) (by omega) (Nat.le_of_lt (hl ▸ hk')) (hl ▸ hs)
  have hnx : ∀ s', stepS s (placeK l k) ln = .inr s' → prK l (k + 1) = .inr s' := fun s' h => prK_next hk' hs (hln ▸ h)
  have herr : ∀ c i, stepS s (placeK l k) ln = .inl (c, i) → parseP t = (some (c, some i), ⟨[], []⟩) := fun c i h => parseP_bad (by omega) (hl ▸ prK_err hk' hs (hln ▸ h))
  obtain ⟨hnl, hrl, hnm, _, _⟩ := hok
  have htr := trim1_spec G ln (by omega)
  have htw := trim_words ln
  have hline := fun h => line_spec G hM hP hG hE ln (by omega) h
  generalize hpk : placeK l k = pk at *
  have hN2 : (s.names.map cNm).length = s.names.length := by simp
  have hR2 : (s.rungs.map cRg).length = s.rungs.length := by simp
  have hNA2 : (dPls s.nAt).length = s.names.length := by simp [dPls, hnl]
  have hRA2 : (dPls s.rAt).length = s.rungs.length := by simp [dPls, hrl]
  generalize hNN : s.names.map cNm = NN at *; generalize hRR : s.rungs.map cRg = RR at *; generalize hNA : dPls s.nAt = NA at *; generalize hRA : dPls s.rAt = RA at *; unfold pHp; refine AW.st (by simp; rfl) ?_; refine round_assign fun K7 hK7 => ?_; refine reK fw hK7 [2,3,4,5,6,7,8] [2,3,4,5,6,7,801,802,803,804] ?_; refine AW_block ?_; refine AW_then fun K8 hK8 => ?_; simp only [dS] at htr
  by_cases h0 : wordsT ln = []
  ·have hz := htw.2 h0
   rw [hz] at htr
   have hst : stepS s pk ln = .inr s := by unfold stepS; rw [if_pos h0]
   have hn := hnx _ hst
   refine rg [2, 3, 4, 5, 6, 7, 8, 27] [2, 3, 4, 5, 6, 7, 801, 802, 803, 804] (notIn_ok rfl) fun K' hK' => ?_; (repeat (refine sxn fun K2 hK2 => ?_; simp [dNum, dS, lxq, lxq32, binS, bs_list]; (repeat (refine ⟨by omega, ?_⟩)); refine hK2 _ ?_; clear hK2 K2)); refine sxn fun K2 hK2 => ?_; simp [dNum, dS, lxq, lxq32, binS, bs_list]; refine callK.data (htr) (by simp; rfl) (by first | exact D.leGo_refl _ | simp [takeMap, List.map_map, Function.comp_def, D.le, D.le.go, D.le_refl, D.leGo_refl, dNum, dS, lxq, lxq32, binS, bs_list]) ?_; refine hK2 _ ?_; clear hK2 K2; simp only [putd, upd_lst]; (repeat (refine sxn fun K2 hK2 => ?_; simp [dNum, dS, lxq, lxq32, binS, bs_list]; (repeat (refine ⟨by omega, ?_⟩)); refine hK2 _ ?_; clear hK2 K2)); refine sxz (hK' _ (AW.st (by simp [dNum, dS, lxq, lxq32, binS, bs_list]; rfl) ?_)); clear hK' K'; refine AW_ff rfl ?_; refine AW_skip (hK8 _ ?_); refine AW_re (tyOf_good _) fun K' hK' => ?_; (repeat (refine sxn fun K2 hK2 => ?_; simp [dNum, dS, bs_size]; (repeat (refine ⟨by omega, ?_⟩)); refine hK2 _ ?_; clear hK2 K2)); refine sxz (hK' _ ?_); clear hK' K'; (try simp only [thn, inb]); refine And.intro ⟨s, hn⟩ ?_; rw [hinv _ _ hn, hpl, hNN, hRR, hNA, hRA]; unfold pHp; refine (show Imp _ _ _ _ _ ⟨lst [], hlst _⟩ from ?_); refine Imp.to' (notIn_ok rfl) (by simp [dNum, dS, hpl]) (by simp [dNum, dS, hpl])
  have hz : Lib.trimB ln 32 ≠ [] := fun h => h0 (htw.1 h)
  have hst0 : stepS s pk ln = match lineP ln with
   | .form => .inl (3, pk)
   | .bad c off => .inl (c, pk + off)
   | .name n => if s.rungs = [] then .inr ⟨s.names ++ [n], s.nAt ++ [pk], s.rungs, s.rAt⟩ else .inl (3, pk)
   | .rung r => .inr ⟨s.names, s.nAt, s.rungs ++ [r], s.rAt ++ [pk]⟩ := by unfold stepS; rw [if_neg h0]; cases lineP ln <;> rfl
  have hlp := hline h0
  simp only [dS] at hlp; generalize Lib.trimB ln 32 = tz at htr hz; refine rg [2, 3, 4, 5, 6, 7, 8, 27] [2, 3, 4, 5, 6, 7, 801, 802, 803, 804] (notIn_ok rfl) fun K' hK' => ?_; (repeat (refine sxn fun K2 hK2 => ?_; simp [dNum, dS, lxq, lxq32, binS, bs_list, hz]; (repeat (refine ⟨by omega, ?_⟩)); refine hK2 _ ?_; clear hK2 K2)); refine sxn fun K2 hK2 => ?_; simp [dNum, dS, lxq, lxq32, binS, bs_list, hz]; refine callK.data (htr) (by simp; rfl) (by first | exact D.leGo_refl _ | simp [takeMap, List.map_map, Function.comp_def, D.le, D.le.go, D.le_refl, D.leGo_refl, dNum, dS, lxq, lxq32, binS, bs_list, hz]) ?_; refine hK2 _ ?_; clear hK2 K2; simp only [putd, upd_lst]; (repeat (refine sxn fun K2 hK2 => ?_; simp [dNum, dS, lxq, lxq32, binS, bs_list, hz]; (repeat (refine ⟨by omega, ?_⟩)); refine hK2 _ ?_; clear hK2 K2)); refine sxz (hK' _ (AW.st (by simp [dNum, dS, lxq, lxq32, binS, bs_list, hz]; rfl) ?_)); clear hK' K'; refine AW_cond true (by simp [hz]) (fun _ => ?_) (fun h => by cases h)
  have hlb := fun c off => line_bad (s := ln) (c := c) (off := off)
  cases hlk : lineP ln with
  | form =>
   rw [hlk] at hlp hst0
   dsimp only at hst0
   simp only [dLine] at hlp
   have hp := herr _ _ hst0
   refine rgc fw hlp [2,3,4,5,6,7,8,9,10,11] [2,3,4,5,6,7,801,802,803,804] ?_; refine AW_then fun K9 hK9 => ?_; refine rgq (Aq fw (Aq @pairA.eq_1 (Aq @pairA.eq_2 @assertA.eq_1))) [2,3,4,5,6,7,8,9,10,11,12,13] [2,3,4,5,6,7,801,802,803,804] ?_; refine rgq fw [2,3,4,5,6,7,8,9,10,11,12,39] [2,3,4,5,6,7,801,802,803,804] ?_; refine AW_ff rfl ?_; refine AW_skip (hK9 _ ?_); refine AW_block ?_; refine AW_then fun K10 hK10 => ?_; refine rgq fw [2,3,4,5,6,7,8,9,10,66] [2,3,4,5,6,7,801,802,803,804] ?_; refine AW_tt rfl ?_; refine AW_skip (hK10 _ ?_); refine AW_tt rfl ?_; refine AW_rQ (tyOf_good _) (by kernel_rfl) ([3]) ([(1, 7), (5, 2), (6, 3)]) (List.range 7) [2, 3] [2, 3, 4, 5, 6, 7, 801, 802, 803, 804] (notIn_ok rfl) (by kernel_rfl) fun K' hK' => ?_; (repeat (refine sxQ_nextO rfl fun K2 hK2 => ?_; simp [dNum, dS]; (repeat (refine ⟨by omega, ?_⟩)); refine hK2 _ ?_; clear hK2 K2)); refine sxQ_nilO (hK' _ ?_); refine AW.st (by simp [dNum, dS]; rfl) ?_; clear hK' K'; refine AW_ret (Exists.intro _ (And.intro (Imp.env (by intro i x h; cases h)) ?_)); simp [D.le, D.le.go, takeMap, hp, dPg, cPg, dNms, dRgs, dErr, nil2, dNum]
  | bad c off =>
   rw [hlk] at hlp hst0
   dsimp only at hst0
   simp only [dLine] at hlp
   have hp := herr _ _ hst0
   have ho := hlb c off hlk
   have hcs : ((pk + off : Nat) : Int) = (pk : Int) + (off : Int) := by omega
   refine rgc fw hlp [2,3,4,5,6,7,8,9,10,11] [2,3,4,5,6,7,801,802,803,804] ?_; refine AW_then fun K9 hK9 => ?_; refine rgq (Aq fw (Aq @pairA.eq_1 (Aq @pairA.eq_2 @assertA.eq_1))) [2,3,4,5,6,7,8,9,10,11,12,13] [2,3,4,5,6,7,801,802,803,804] ?_; refine rgq fw [2,3,4,5,6,7,8,9,10,11,12,39] [2,3,4,5,6,7,801,802,803,804] ?_; refine AW_tt rfl ?_; refine AW_rQ (tyOf_good _) (by kernel_rfl) ([12]) ([(4, 999), (5, 7), (9, 999), (14, 2), (15, 3)]) (List.range 16) [2, 3] [2, 3, 4, 5, 6, 7, 801, 802, 803, 804] (notIn_ok rfl) (by kernel_rfl) fun K' hK' => ?_; (repeat (refine sxQ_nextO rfl fun K2 hK2 => ?_; simp [dNum, dS]; (repeat (refine ⟨by omega, ?_⟩)); refine hK2 _ ?_; clear hK2 K2)); refine sxQ_nilO (hK' _ ?_); refine AW.st (by simp [dNum, dS]; rfl) ?_; clear hK' K'; refine AW_ret (Exists.intro _ (And.intro (Imp.env (by intro i x h; cases h)) ?_)); simp [D.le, D.le.go, takeMap, hp, dPg, cPg, dNms, dRgs, dErr, nil2, dNum, hcs]
  | name n =>
   rw [hlk] at hlp hst0
   dsimp only at hst0
   simp only [dLine] at hlp
   have hcn : cNm n = [.v (.string (bs n.name)), .v (.int .i64 n.kind), .v (.int .i64 n.count)] := rfl
   have hNs : (s.names ++ [n]).map cNm = NN ++ [cNm n] := by rw [List.map_append, hNN]; rfl
   have hAs : dPls (s.nAt ++ [pk]) = NA ++ [[.v (.int .i64 pk)]] := by rw [← hNA]; unfold dPls; rw [List.map_append]; rfl
   generalize bs n.name = nm at hcn; generalize n.kind = kd at hcn; generalize n.count = ct at hcn; rw [hcn] at hlp hNs; refine rgc fw hlp [2,3,4,5,6,7,8,9,10,11] [2,3,4,5,6,7,801,802,803,804] ?_; refine AW_then fun K9 hK9 => ?_; refine rgq (Aq fw (Aq @pairA.eq_1 (Aq @pairA.eq_2 @assertA.eq_1))) [2,3,4,5,6,7,8,9,10,11,12,13] [2,3,4,5,6,7,801,802,803,804] ?_; refine rgq fw [2,3,4,5,6,7,8,9,10,11,12,39] [2,3,4,5,6,7,801,802,803,804] ?_; refine AW_ff rfl ?_; refine AW_skip (hK9 _ ?_); refine AW_block ?_; refine AW_then fun K10 hK10 => ?_; refine rgq fw [2,3,4,5,6,7,8,9,10,66] [2,3,4,5,6,7,801,802,803,804] ?_; refine AW_ff rfl ?_
   by_cases hr0 : s.rungs = []
   ·rw [if_pos hr0] at hst0
    have hn := hnx _ hst0
    have hra0 : RA = [] := List.length_eq_zero_iff.1 (by rw [hRA2, hr0]; rfl)
    subst hra0; refine reK fw hK10 [2,3,4,5,6,7,8,9,10,66] [2,3,4,5,6,7,801,802,803,804] ?_; refine AW_ff rfl ?_; refine rgq fw [2,3,4,5,6,7,8,9,10,81] [2,3,4,5,6,7,801,802,803,804] ?_; refine AW_ff rfl ?_; refine AW_rle (tyOf_good _) (by kernel_rfl) ([(6, (801, 59)), (10, (803, 63))]) ([(7, [801]), (8, [801]), (9, [801]), (11, [803])]) ([0, 1, 2, 3, 4, 7, 8, 5, 9, 6, 11, 10, 12, 13]) (by kernel_rfl) fun K' hK' => ?_; (repeat (refine sxl_nextO rfl fun K2 hK2 => ?_; simp [dNum, dS, List.take_of_length_le]; (repeat (refine ⟨by omega, ?_⟩)); refine hK2 _ ?_; clear hK2 K2)); refine sxl_nilO (hK' _ ?_); clear hK' K'; refine hK8 _ (AW.norm [2, 3, 4, 5, 6, 7, 8] [2, 3, 4, 5, 6, 7, 801, 802, 803, 804] (notIn_ok rfl) (AW.st (by simp [dNum, dS, List.take_of_length_le]; rfl) ?_)); refine AW_re (tyOf_good _) fun K' hK' => ?_; (repeat (refine sxn fun K2 hK2 => ?_; simp [dNum, dS, bs_size]; (repeat (refine ⟨by omega, ?_⟩)); refine hK2 _ ?_; clear hK2 K2)); refine sxz (hK' _ ?_); clear hK' K'; (try simp only [thn, inb]); refine And.intro ⟨_, hn⟩ ?_; rw [hinv _ _ hn, hpl]
    dsimp only
    rw [hNs, hAs, hRR, hRA]; unfold pHp; refine (show Imp _ _ _ _ _ ⟨lst [], hlst _⟩ from ?_); refine Imp.to' (notIn_ok rfl) (by simp [dNum, dS, hpl]) (by simp [dNum, dS, hpl])
   ·rw [if_neg hr0] at hst0
    have hp := herr _ _ hst0
    have hra0 : 0 < RA.length := by rw [hRA2]; exact List.length_pos_iff.2 hr0
    have qf := (Aq fw @hra0)
    refine reKv hK10 [2,3,4,5,6,7,8,9,10,66] [2,3,4,5,6,7,801,802,803,804] ?_; refine AW_cond true (by simp [hra0]) (fun _ => ?_) (fun h => by cases h); refine AW_rQ (tyOf_good _) (by kernel_rfl) ([3]) ([(1, 7), (5, 2), (6, 3)]) (List.range 7) [2, 3] [2, 3, 4, 5, 6, 7, 801, 802, 803, 804] (notIn_ok rfl) (by kernel_rfl) fun K' hK' => ?_; (repeat (refine sxQ_nextO rfl fun K2 hK2 => ?_; simp [dNum, dS]; (repeat (refine ⟨by omega, ?_⟩)); refine hK2 _ ?_; clear hK2 K2)); refine sxQ_nilO (hK' _ ?_); refine AW.st (by simp [dNum, dS]; rfl) ?_; clear hK' K'; refine AW_ret (Exists.intro _ (And.intro (Imp.env (by intro i x h; cases h)) ?_)); simp [D.le, D.le.go, takeMap, hp, dPg, cPg, dNms, dRgs, dErr, nil2, dNum]
  | rung r =>
   rw [hlk] at hlp hst0
   dsimp only at hst0
   simp only [dLine] at hlp
   have hn := hnx _ hst0
   have ho1 := dC_one r.cond
   have hcr : cRg r = [.v (.int .i64 r.kind), .v (.string (bs r.name)), dC r.cond] := rfl
   have hRs : (s.rungs ++ [r]).map cRg = RR ++ [cRg r] := by rw [List.map_append, hRR]; rfl
   have hAs : dPls (s.rAt ++ [pk]) = RA ++ [[.v (.int .i64 pk)]] := by rw [← hRA]; unfold dPls; rw [List.map_append]; rfl
   generalize bs r.name = nm at hcr; generalize r.kind = kd at hcr; generalize dC r.cond = dc at hcr ho1; rw [hcr] at hlp hRs; refine rgc fw hlp [2,3,4,5,6,7,8,9,10,11] [2,3,4,5,6,7,801,802,803,804] ?_; refine AW_then fun K9 hK9 => ?_; refine rgq (Aq fw (Aq @pairA.eq_1 (Aq @pairA.eq_2 @assertA.eq_1))) [2,3,4,5,6,7,8,9,10,11,12,13] [2,3,4,5,6,7,801,802,803,804] ?_; refine rgq fw [2,3,4,5,6,7,8,9,10,11,12,39] [2,3,4,5,6,7,801,802,803,804] ?_; refine AW_ff rfl ?_; refine AW_skip (hK9 _ ?_); refine AW_block ?_; refine AW_then fun K10 hK10 => ?_; refine rgq fw [2,3,4,5,6,7,8,9,10,66] [2,3,4,5,6,7,801,802,803,804] ?_; refine AW_ff rfl ?_; refine reK fw hK10 [2,3,4,5,6,7,8,9,10,66] [2,3,4,5,6,7,801,802,803,804] ?_; refine AW_ff rfl ?_; refine rgq fw [2,3,4,5,6,7,8,9,10,81] [2,3,4,5,6,7,801,802,803,804] ?_; refine AW_tt rfl ?_; refine AW_rle (tyOf_good _) (by kernel_rfl) ([(6, (802, 89)), (10, (804, 93))]) ([(7, [802]), (8, [802]), (9, [802]), (11, [804])]) ([0, 1, 2, 3, 4, 7, 8, 5, 9, 6, 11, 10, 12, 13]) (by kernel_rfl) fun K' hK' => ?_; (repeat (refine sxl_nextO rfl fun K2 hK2 => ?_; simp [dNum, dS, List.take_of_length_le, ho1]; (repeat (refine ⟨by omega, ?_⟩)); refine hK2 _ ?_; clear hK2 K2)); refine sxl_nilO (hK' _ ?_); clear hK' K'; refine hK8 _ (AW.norm [2, 3, 4, 5, 6, 7, 8] [2, 3, 4, 5, 6, 7, 801, 802, 803, 804] (notIn_ok rfl) (AW.st (by simp [dNum, dS, List.take_of_length_le, ho1]; rfl) ?_)); refine AW_re (tyOf_good _) fun K' hK' => ?_; (repeat (refine sxn fun K2 hK2 => ?_; simp [dNum, dS, bs_size]; (repeat (refine ⟨by omega, ?_⟩)); refine hK2 _ ?_; clear hK2 K2)); refine sxz (hK' _ ?_); clear hK' K'; (try simp only [thn, inb]); refine And.intro ⟨_, hn⟩ ?_; rw [hinv _ _ hn, hpl]
   dsimp only
   rw [hRs, hAs, hNN, hNA]; unfold pHp; refine (show Imp _ _ _ _ _ ⟨lst [], hlst _⟩ from ?_); refine Imp.to' (notIn_ok rfl) (by simp [dNum, dS, hpl]) (by simp [dNum, dS, hpl])
end Go.Proofs.YthnjfeielmbfkaaGreatDoor
namespace Go.Proofs.YthnjfeielmbfkaaGreatDoor
open Go.Av
theorem lxn1 : (⟨#[105, 110, 112, 117, 116, 32]⟩ : ByteArray) = bs [105, 110, 112, 117, 116, 32] := rfl
theorem lxn2 : (⟨#[99, 111, 105, 108, 32]⟩ : ByteArray) = bs [99, 111, 105, 108, 32] := rfl
theorem lxn3 : (⟨#[116, 105, 109, 101, 114, 32]⟩ : ByteArray) = bs [116, 105, 109, 101, 114, 32] := rfl
theorem lxn4 : (⟨#[99, 111, 117, 110, 116, 101, 114, 32]⟩ : ByteArray) = bs [99, 111, 117, 110, 116, 101, 114, 32] := rfl
theorem lxeq : (⟨#[32, 61, 32]⟩ : ByteArray) = bs [32, 61, 32] := rfl
theorem lxe : (⟨#[]⟩ : ByteArray) = bs [] := rfl
set_option maxHeartbeats 16000000 in
theorem ladderText_spec (G : Glob) (hH : HasHeads G) (p : PgP) (hp : TxP p) : PureC Tryz.prog G 22 [dPg p] (.v (.string (bs (progT p)))) := by
 unfold HasHeads at hH
 have hT : progT p = namesTx p.names ++ rungsTx p.rungs := rfl
 have ⟨hnm, hrg, hnl, hrl, _⟩ := hp
 have hN := namesTx_len hp
 have hR := rungsTx_len hp
 have hne := names_ne hp
 simp only [dPg, cPg, dNms, dRgs]; refine PureC.of_body (tyOf_good _) Tryz.func22 rfl rfl (rs := [.tmp 2]) Tryz.results22 (by simp [Tryz.ntmps22]) fun X => ?_; simp only [Tryz.ntmps22, List.map]; refine rg0 [1] [1] ?_; refine AW.imp (Imp.freezeB 1 trivial) ?_; refine AW.st (by simp; rfl) ?_; refine rg0 [1,3] [3] ?_; refine AW.imp (Imp.ren (r := 3) (r' := 500) trivial (by simp)) ?_; refine AW.st (by simp [renO, renF, Go.Av.ren, renH_one]; rfl) ?_; refine AW.imp (Imp.adoptCell 500 1 501 5 1 rfl rfl rfl) ?_; refine AW.st (by simp; rfl) ?_; refine AW_then fun K1 hK1 => ?_; refine rg0 [1,3,9,10,11] [500,501] ?_; refine AW_for (S := Nat) (fun i => i ≤ p.names.length) (fun i => ⟨lst [(1, .d (.ip [.sl none (p.names.map cNm), .sl none (p.rungs.map cRg)])), (3, .ref 500 0 0), (9, .d (.sl none (p.names.map cNm))), (10, int p.names.length), (11, int i)], hlst [(500, .box 158 [adB (namesTx (p.names.take i)), .own 501 0 (namesTx (p.names.take i)).length]), (501, .sl 5 1 (txB (namesTx (p.names.take i))))]⟩) (fun i => p.names.length - i) 0 ?_ (by simp) ?_
 ·refine Imp.to' (fun _ _ => trivial) (by simp [namesTx_zero, adB_nil, txB_nil]) (by simp [namesTx_zero, adB_nil, txB_nil])
 ·intro i hi
  have hlc := hN i
  generalize hcur : namesTx (p.names.take i) = cur at hlc ⊢
  have qf := @adB_tr
  refine rgqv [1,3,9,10,11,12] [500,501] ?_; refine AW_then fun K2 hK2 => ?_; refine AW_cond' (b := i < p.names.length) (by simp [D.le, D.le.go, takeMap]) (fun hc => ?_) (fun hc => ?_)
  ·have hil := hc
   obtain ⟨hkd, hct, hnml⟩ := hnm _ (List.getElem_mem hil)
   have hsuc : namesTx (p.names.take (i + 1)) = cur ++ nameT p.names[i] := by rw [namesTx, flatT_succ hil, ← hcur]; rfl
   have hnt : nameT p.names[i] = headN p.names[i].kind ++ p.names[i].name ++ (if 3 ≤ p.names[i].kind then 32 :: dig p.names[i].count.toNat else []) ++ [10] := rfl
   have hcn : cNm p.names[i] = [.v (.string (bs p.names[i].name)), .v (.int .i64 p.names[i].kind), .v (.int .i64 p.names[i].count)] := rfl
   have tj := itoaI_spec G p.names[i].count hct
   have hlj := dig_len (n := p.names[i].count.toNat) (by omega)
   generalize nameT p.names[i] = nt at hsuc hnt; generalize dig p.names[i].count.toNat = dj at tj hlj hnt; generalize p.names[i].name = nm at hnml hnt hcn; generalize p.names[i].kind = kd at hkd hnt hcn; generalize p.names[i].count = ct at hct hcn tj; refine AW_skip (hK2 _ ?_); refine AW_then fun K3 hK3 => ?_; refine AW_block ?_
   have qf := (Aq @hil (Aq @hcn @adB_tr))
   refine rgqv [1,3,5,9,10,11] [500,501,5] ?_; refine AW.imp (Imp.freezeB 5 trivial) ?_; refine AW.st (by simp; rfl) ?_
   obtain ⟨c1, hc1⟩ : ∃ c, c = cur ++ (headN kd ++ nm) := ⟨_, rfl⟩
   have hhl := headN_len kd
   have hlc1 : c1.length ≤ 2^20 + 2^10 + 8 := by rw [hc1, List.length_append, List.length_append]; omega
   refine' lateG (fun hst => ?_) ?_
   rotate_left
   ·by_cases hce : cur = []
    ·skip
     by_cases k1 : kd = 1
     ·refine AW_rm (tyOf_good _) (by kernel_rfl) ([501]) ([]) ([9]) ([]) (List.range 10) [1, 3, 5, 9, 10, 11] [500, 501] (fun _ _ => trivial) (by kernel_rfl) (by simp [OffE]) fun K' hK' => ?_; (repeat (refine sxm_nextO rfl fun K2 hK2 => ?_; simp [k1, hce, adB_nil, txB_nil, lxn1, lxn2, lxn3, lxn4, lxe, binS_add]; (repeat (refine ⟨by omega, ?_⟩)); refine hK2 _ ?_; clear hK2 K2)); refine sxm_nextO rfl fun K2 hK2 => ?_; simp [k1, hce, adB_nil, txB_nil, lxn1, lxn2, lxn3, lxn4, lxe, binS_add]; refine hcK.mc (wS0 G (105 :: 110 :: 112 :: 117 :: 116 :: 32 :: nm) (by simp; omega)) (by simp [k1, hce, adB_nil, txB_nil, lxn1, lxn2, lxn3, lxn4, lxe, binS_add]) (by simp [k1, hce, adB_nil, txB_nil, lxn1, lxn2, lxn3, lxn4, lxe, binS_add]) (by simp [k1, hce, adB_nil, txB_nil, lxn1, lxn2, lxn3, lxn4, lxe, binS_add]) (by simp [k1, hce, adB_nil, txB_nil, lxn1, lxn2, lxn3, lxn4, lxe, binS_add]) (by simp [k1, hce, adB_nil, txB_nil, lxn1, lxn2, lxn3, lxn4, lxe, binS_add]) (by simp [k1, hce, adB_nil, txB_nil, lxn1, lxn2, lxn3, lxn4, lxe, binS_add]) (by simp [LdSame, k1, hce, adB_nil, txB_nil, lxn1, lxn2, lxn3, lxn4, lxe, binS_add]) ?_; simp [k1, hce, adB_nil, txB_nil, lxn1, lxn2, lxn3, lxn4, lxe, binS_add]; refine hK2 _ ?_; clear hK2 K2; (repeat (refine sxm_nextO rfl fun K2 hK2 => ?_; simp [k1, hce, adB_nil, txB_nil, lxn1, lxn2, lxn3, lxn4, lxe, binS_add]; (repeat (refine ⟨by omega, ?_⟩)); refine hK2 _ ?_; clear hK2 K2)); refine sxm_nilO (hK' _ ?_); refine AW.st (by simp [k1, hce, adB_nil, txB_nil, lxn1, lxn2, lxn3, lxn4, lxe, binS_add]; rfl) ?_; clear hK' K'; refine AW.st (show _ = (⟨lst [(1, .d (.ip [.sl none (p.names.map cNm), .sl none (p.rungs.map cRg)])), (3, .ref 500 0 0), (5, .d (.ip [.v (.string (bs nm)), .v (.int .i64 kd), .v (.int .i64 ct)])), (9, .d (.sl none (p.names.map cNm))), (10, int p.names.length), (11, int i)], hlst [(500, .box 158 [.ref 500 0 0, .own 501 0 (c1).length]), (501, .sl 5 1 (txB (c1)))]⟩ : St) by rw [hc1, hce, k1] <;> rfl) ?_; exact hst.out
     by_cases k2 : kd = 2
     ·refine AW_rm (tyOf_good _) (by kernel_rfl) ([501]) ([]) ([9]) ([]) (List.range 10) [1, 3, 5, 9, 10, 11] [500, 501] (fun _ _ => trivial) (by kernel_rfl) (by simp [OffE]) fun K' hK' => ?_; (repeat (refine sxm_nextO rfl fun K2 hK2 => ?_; simp [k2, hce, adB_nil, txB_nil, lxn1, lxn2, lxn3, lxn4, lxe, binS_add]; (repeat (refine ⟨by omega, ?_⟩)); refine hK2 _ ?_; clear hK2 K2)); refine sxm_nextO rfl fun K2 hK2 => ?_; simp [k2, hce, adB_nil, txB_nil, lxn1, lxn2, lxn3, lxn4, lxe, binS_add]; refine hcK.mc (wS0 G (99 :: 111 :: 105 :: 108 :: 32 :: nm) (by simp; omega)) (by simp [k2, hce, adB_nil, txB_nil, lxn1, lxn2, lxn3, lxn4, lxe, binS_add]) (by simp [k2, hce, adB_nil, txB_nil, lxn1, lxn2, lxn3, lxn4, lxe, binS_add]) (by simp [k2, hce, adB_nil, txB_nil, lxn1, lxn2, lxn3, lxn4, lxe, binS_add]) (by simp [k2, hce, adB_nil, txB_nil, lxn1, lxn2, lxn3, lxn4, lxe, binS_add]) (by simp [k2, hce, adB_nil, txB_nil, lxn1, lxn2, lxn3, lxn4, lxe, binS_add]) (by simp [k2, hce, adB_nil, txB_nil, lxn1, lxn2, lxn3, lxn4, lxe, binS_add]) (by simp [LdSame, k2, hce, adB_nil, txB_nil, lxn1, lxn2, lxn3, lxn4, lxe, binS_add]) ?_; simp [k2, hce, adB_nil, txB_nil, lxn1, lxn2, lxn3, lxn4, lxe, binS_add]; refine hK2 _ ?_; clear hK2 K2; (repeat (refine sxm_nextO rfl fun K2 hK2 => ?_; simp [k2, hce, adB_nil, txB_nil, lxn1, lxn2, lxn3, lxn4, lxe, binS_add]; (repeat (refine ⟨by omega, ?_⟩)); refine hK2 _ ?_; clear hK2 K2)); refine sxm_nilO (hK' _ ?_); refine AW.st (by simp [k2, hce, adB_nil, txB_nil, lxn1, lxn2, lxn3, lxn4, lxe, binS_add]; rfl) ?_; clear hK' K'; refine AW.st (show _ = (⟨lst [(1, .d (.ip [.sl none (p.names.map cNm), .sl none (p.rungs.map cRg)])), (3, .ref 500 0 0), (5, .d (.ip [.v (.string (bs nm)), .v (.int .i64 kd), .v (.int .i64 ct)])), (9, .d (.sl none (p.names.map cNm))), (10, int p.names.length), (11, int i)], hlst [(500, .box 158 [.ref 500 0 0, .own 501 0 (c1).length]), (501, .sl 5 1 (txB (c1)))]⟩ : St) by rw [hc1, hce, k2] <;> rfl) ?_; exact hst.out
     by_cases k3 : kd = 3
     ·refine AW_rm (tyOf_good _) (by kernel_rfl) ([501]) ([]) ([9]) ([]) (List.range 10) [1, 3, 5, 9, 10, 11] [500, 501] (fun _ _ => trivial) (by kernel_rfl) (by simp [OffE]) fun K' hK' => ?_; (repeat (refine sxm_nextO rfl fun K2 hK2 => ?_; simp [k3, hce, adB_nil, txB_nil, lxn1, lxn2, lxn3, lxn4, lxe, binS_add]; (repeat (refine ⟨by omega, ?_⟩)); refine hK2 _ ?_; clear hK2 K2)); refine sxm_nextO rfl fun K2 hK2 => ?_; simp [k3, hce, adB_nil, txB_nil, lxn1, lxn2, lxn3, lxn4, lxe, binS_add]; refine hcK.mc (wS0 G (116 :: 105 :: 109 :: 101 :: 114 :: 32 :: nm) (by simp; omega)) (by simp [k3, hce, adB_nil, txB_nil, lxn1, lxn2, lxn3, lxn4, lxe, binS_add]) (by simp [k3, hce, adB_nil, txB_nil, lxn1, lxn2, lxn3, lxn4, lxe, binS_add]) (by simp [k3, hce, adB_nil, txB_nil, lxn1, lxn2, lxn3, lxn4, lxe, binS_add]) (by simp [k3, hce, adB_nil, txB_nil, lxn1, lxn2, lxn3, lxn4, lxe, binS_add]) (by simp [k3, hce, adB_nil, txB_nil, lxn1, lxn2, lxn3, lxn4, lxe, binS_add]) (by simp [k3, hce, adB_nil, txB_nil, lxn1, lxn2, lxn3, lxn4, lxe, binS_add]) (by simp [LdSame, k3, hce, adB_nil, txB_nil, lxn1, lxn2, lxn3, lxn4, lxe, binS_add]) ?_; simp [k3, hce, adB_nil, txB_nil, lxn1, lxn2, lxn3, lxn4, lxe, binS_add]; refine hK2 _ ?_; clear hK2 K2; (repeat (refine sxm_nextO rfl fun K2 hK2 => ?_; simp [k3, hce, adB_nil, txB_nil, lxn1, lxn2, lxn3, lxn4, lxe, binS_add]; (repeat (refine ⟨by omega, ?_⟩)); refine hK2 _ ?_; clear hK2 K2)); refine sxm_nilO (hK' _ ?_); refine AW.st (by simp [k3, hce, adB_nil, txB_nil, lxn1, lxn2, lxn3, lxn4, lxe, binS_add]; rfl) ?_; clear hK' K'; refine AW.st (show _ = (⟨lst [(1, .d (.ip [.sl none (p.names.map cNm), .sl none (p.rungs.map cRg)])), (3, .ref 500 0 0), (5, .d (.ip [.v (.string (bs nm)), .v (.int .i64 kd), .v (.int .i64 ct)])), (9, .d (.sl none (p.names.map cNm))), (10, int p.names.length), (11, int i)], hlst [(500, .box 158 [.ref 500 0 0, .own 501 0 (c1).length]), (501, .sl 5 1 (txB (c1)))]⟩ : St) by rw [hc1, hce, k3] <;> rfl) ?_; exact hst.out
     have k4 : kd = 4 := by omega
     refine AW_rm (tyOf_good _) (by kernel_rfl) ([501]) ([]) ([9]) ([]) (List.range 10) [1, 3, 5, 9, 10, 11] [500, 501] (fun _ _ => trivial) (by kernel_rfl) (by simp [OffE]) fun K' hK' => ?_; (repeat (refine sxm_nextO rfl fun K2 hK2 => ?_; simp [k4, hce, adB_nil, txB_nil, lxn1, lxn2, lxn3, lxn4, lxe, binS_add]; (repeat (refine ⟨by omega, ?_⟩)); refine hK2 _ ?_; clear hK2 K2)); refine sxm_nextO rfl fun K2 hK2 => ?_; simp [k4, hce, adB_nil, txB_nil, lxn1, lxn2, lxn3, lxn4, lxe, binS_add]; refine hcK.mc (wS0 G (99 :: 111 :: 117 :: 110 :: 116 :: 101 :: 114 :: 32 :: nm) (by simp; omega)) (by simp [k4, hce, adB_nil, txB_nil, lxn1, lxn2, lxn3, lxn4, lxe, binS_add]) (by simp [k4, hce, adB_nil, txB_nil, lxn1, lxn2, lxn3, lxn4, lxe, binS_add]) (by simp [k4, hce, adB_nil, txB_nil, lxn1, lxn2, lxn3, lxn4, lxe, binS_add]) (by simp [k4, hce, adB_nil, txB_nil, lxn1, lxn2, lxn3, lxn4, lxe, binS_add]) (by simp [k4, hce, adB_nil, txB_nil, lxn1, lxn2, lxn3, lxn4, lxe, binS_add]) (by simp [k4, hce, adB_nil, txB_nil, lxn1, lxn2, lxn3, lxn4, lxe, binS_add]) (by simp [LdSame, k4, hce, adB_nil, txB_nil, lxn1, lxn2, lxn3, lxn4, lxe, binS_add]) ?_; simp [k4, hce, adB_nil, txB_nil, lxn1, lxn2, lxn3, lxn4, lxe, binS_add]; refine hK2 _ ?_; clear hK2 K2; (repeat (refine sxm_nextO rfl fun K2 hK2 => ?_; simp [k4, hce, adB_nil, txB_nil, lxn1, lxn2, lxn3, lxn4, lxe, binS_add]; (repeat (refine ⟨by omega, ?_⟩)); refine hK2 _ ?_; clear hK2 K2)); refine sxm_nilO (hK' _ ?_); refine AW.st (by simp [k4, hce, adB_nil, txB_nil, lxn1, lxn2, lxn3, lxn4, lxe, binS_add]; rfl) ?_; clear hK' K'; refine AW.st (show _ = (⟨lst [(1, .d (.ip [.sl none (p.names.map cNm), .sl none (p.rungs.map cRg)])), (3, .ref 500 0 0), (5, .d (.ip [.v (.string (bs nm)), .v (.int .i64 kd), .v (.int .i64 ct)])), (9, .d (.sl none (p.names.map cNm))), (10, int p.names.length), (11, int i)], hlst [(500, .box 158 [.ref 500 0 0, .own 501 0 (c1).length]), (501, .sl 5 1 (txB (c1)))]⟩ : St) by rw [hc1, hce, k4] <;> rfl) ?_; exact hst.out
    ·skip
     by_cases k1 : kd = 1
     ·have e : c1 = cur ++ (105 :: 110 :: 112 :: 117 :: 116 :: 32 :: nm) := by rw [hc1, k1]; rfl
      refine AW_rm (tyOf_good _) (by kernel_rfl) ([501]) ([]) ([9]) ([]) (List.range 10) [1, 3, 5, 9, 10, 11] [500, 501] (fun _ _ => trivial) (by kernel_rfl) (by simp [OffE]) fun K' hK' => ?_; (repeat (refine sxm_nextO rfl fun K2 hK2 => ?_; simp [k1, adB_ne hce, lxn1, lxn2, lxn3, lxn4, lxe, binS_add]; (repeat (refine ⟨by omega, ?_⟩)); refine hK2 _ ?_; clear hK2 K2)); refine sxm_nextO rfl fun K2 hK2 => ?_; simp [k1, adB_ne hce, lxn1, lxn2, lxn3, lxn4, lxe, binS_add]; refine hcK.mc (wS G cur (105 :: 110 :: 112 :: 117 :: 116 :: 32 :: nm) c1 e (by simp; omega)) (by simp [k1, adB_ne hce, lxn1, lxn2, lxn3, lxn4, lxe, binS_add]) (by simp [k1, adB_ne hce, lxn1, lxn2, lxn3, lxn4, lxe, binS_add]) (by simp [k1, adB_ne hce, lxn1, lxn2, lxn3, lxn4, lxe, binS_add]) (by simp [k1, adB_ne hce, lxn1, lxn2, lxn3, lxn4, lxe, binS_add]) (by simp [k1, adB_ne hce, lxn1, lxn2, lxn3, lxn4, lxe, binS_add]) (by simp [k1, adB_ne hce, lxn1, lxn2, lxn3, lxn4, lxe, binS_add]) (by simp [LdSame, k1, adB_ne hce, lxn1, lxn2, lxn3, lxn4, lxe, binS_add]) ?_; simp [k1, adB_ne hce, lxn1, lxn2, lxn3, lxn4, lxe, binS_add]; refine hK2 _ ?_; clear hK2 K2; (repeat (refine sxm_nextO rfl fun K2 hK2 => ?_; simp [k1, adB_ne hce, lxn1, lxn2, lxn3, lxn4, lxe, binS_add]; (repeat (refine ⟨by omega, ?_⟩)); refine hK2 _ ?_; clear hK2 K2)); refine sxm_nilO (hK' _ ?_); refine AW.st (by simp [k1, adB_ne hce, lxn1, lxn2, lxn3, lxn4, lxe, binS_add]; rfl) ?_; clear hK' K'; refine AW.st (show _ = (⟨lst [(1, .d (.ip [.sl none (p.names.map cNm), .sl none (p.rungs.map cRg)])), (3, .ref 500 0 0), (5, .d (.ip [.v (.string (bs nm)), .v (.int .i64 kd), .v (.int .i64 ct)])), (9, .d (.sl none (p.names.map cNm))), (10, int p.names.length), (11, int i)], hlst [(500, .box 158 [.ref 500 0 0, .own 501 0 (c1).length]), (501, .sl 5 1 (txB (c1)))]⟩ : St) by rw [k1] <;> rfl) ?_; exact hst.out
     by_cases k2 : kd = 2
     ·have e : c1 = cur ++ (99 :: 111 :: 105 :: 108 :: 32 :: nm) := by rw [hc1, k2]; rfl
      refine AW_rm (tyOf_good _) (by kernel_rfl) ([501]) ([]) ([9]) ([]) (List.range 10) [1, 3, 5, 9, 10, 11] [500, 501] (fun _ _ => trivial) (by kernel_rfl) (by simp [OffE]) fun K' hK' => ?_; (repeat (refine sxm_nextO rfl fun K2 hK2 => ?_; simp [k2, adB_ne hce, lxn1, lxn2, lxn3, lxn4, lxe, binS_add]; (repeat (refine ⟨by omega, ?_⟩)); refine hK2 _ ?_; clear hK2 K2)); refine sxm_nextO rfl fun K2 hK2 => ?_; simp [k2, adB_ne hce, lxn1, lxn2, lxn3, lxn4, lxe, binS_add]; refine hcK.mc (wS G cur (99 :: 111 :: 105 :: 108 :: 32 :: nm) c1 e (by simp; omega)) (by simp [k2, adB_ne hce, lxn1, lxn2, lxn3, lxn4, lxe, binS_add]) (by simp [k2, adB_ne hce, lxn1, lxn2, lxn3, lxn4, lxe, binS_add]) (by simp [k2, adB_ne hce, lxn1, lxn2, lxn3, lxn4, lxe, binS_add]) (by simp [k2, adB_ne hce, lxn1, lxn2, lxn3, lxn4, lxe, binS_add]) (by simp [k2, adB_ne hce, lxn1, lxn2, lxn3, lxn4, lxe, binS_add]) (by simp [k2, adB_ne hce, lxn1, lxn2, lxn3, lxn4, lxe, binS_add]) (by simp [LdSame, k2, adB_ne hce, lxn1, lxn2, lxn3, lxn4, lxe, binS_add]) ?_; simp [k2, adB_ne hce, lxn1, lxn2, lxn3, lxn4, lxe, binS_add]; refine hK2 _ ?_; clear hK2 K2; (repeat (refine sxm_nextO rfl fun K2 hK2 => ?_; simp [k2, adB_ne hce, lxn1, lxn2, lxn3, lxn4, lxe, binS_add]; (repeat (refine ⟨by omega, ?_⟩)); refine hK2 _ ?_; clear hK2 K2)); refine sxm_nilO (hK' _ ?_); refine AW.st (by simp [k2, adB_ne hce, lxn1, lxn2, lxn3, lxn4, lxe, binS_add]; rfl) ?_; clear hK' K'; refine AW.st (show _ = (⟨lst [(1, .d (.ip [.sl none (p.names.map cNm), .sl none (p.rungs.map cRg)])), (3, .ref 500 0 0), (5, .d (.ip [.v (.string (bs nm)), .v (.int .i64 kd), .v (.int .i64 ct)])), (9, .d (.sl none (p.names.map cNm))), (10, int p.names.length), (11, int i)], hlst [(500, .box 158 [.ref 500 0 0, .own 501 0 (c1).length]), (501, .sl 5 1 (txB (c1)))]⟩ : St) by rw [k2] <;> rfl) ?_; exact hst.out
     by_cases k3 : kd = 3
     ·have e : c1 = cur ++ (116 :: 105 :: 109 :: 101 :: 114 :: 32 :: nm) := by rw [hc1, k3]; rfl
      refine AW_rm (tyOf_good _) (by kernel_rfl) ([501]) ([]) ([9]) ([]) (List.range 10) [1, 3, 5, 9, 10, 11] [500, 501] (fun _ _ => trivial) (by kernel_rfl) (by simp [OffE]) fun K' hK' => ?_; (repeat (refine sxm_nextO rfl fun K2 hK2 => ?_; simp [k3, adB_ne hce, lxn1, lxn2, lxn3, lxn4, lxe, binS_add]; (repeat (refine ⟨by omega, ?_⟩)); refine hK2 _ ?_; clear hK2 K2)); refine sxm_nextO rfl fun K2 hK2 => ?_; simp [k3, adB_ne hce, lxn1, lxn2, lxn3, lxn4, lxe, binS_add]; refine hcK.mc (wS G cur (116 :: 105 :: 109 :: 101 :: 114 :: 32 :: nm) c1 e (by simp; omega)) (by simp [k3, adB_ne hce, lxn1, lxn2, lxn3, lxn4, lxe, binS_add]) (by simp [k3, adB_ne hce, lxn1, lxn2, lxn3, lxn4, lxe, binS_add]) (by simp [k3, adB_ne hce, lxn1, lxn2, lxn3, lxn4, lxe, binS_add]) (by simp [k3, adB_ne hce, lxn1, lxn2, lxn3, lxn4, lxe, binS_add]) (by simp [k3, adB_ne hce, lxn1, lxn2, lxn3, lxn4, lxe, binS_add]) (by simp [k3, adB_ne hce, lxn1, lxn2, lxn3, lxn4, lxe, binS_add]) (by simp [LdSame, k3, adB_ne hce, lxn1, lxn2, lxn3, lxn4, lxe, binS_add]) ?_; simp [k3, adB_ne hce, lxn1, lxn2, lxn3, lxn4, lxe, binS_add]; refine hK2 _ ?_; clear hK2 K2; (repeat (refine sxm_nextO rfl fun K2 hK2 => ?_; simp [k3, adB_ne hce, lxn1, lxn2, lxn3, lxn4, lxe, binS_add]; (repeat (refine ⟨by omega, ?_⟩)); refine hK2 _ ?_; clear hK2 K2)); refine sxm_nilO (hK' _ ?_); refine AW.st (by simp [k3, adB_ne hce, lxn1, lxn2, lxn3, lxn4, lxe, binS_add]; rfl) ?_; clear hK' K'; refine AW.st (show _ = (⟨lst [(1, .d (.ip [.sl none (p.names.map cNm), .sl none (p.rungs.map cRg)])), (3, .ref 500 0 0), (5, .d (.ip [.v (.string (bs nm)), .v (.int .i64 kd), .v (.int .i64 ct)])), (9, .d (.sl none (p.names.map cNm))), (10, int p.names.length), (11, int i)], hlst [(500, .box 158 [.ref 500 0 0, .own 501 0 (c1).length]), (501, .sl 5 1 (txB (c1)))]⟩ : St) by rw [k3] <;> rfl) ?_; exact hst.out
     have k4 : kd = 4 := by omega
     have e : c1 = cur ++ (99 :: 111 :: 117 :: 110 :: 116 :: 101 :: 114 :: 32 :: nm) := by rw [hc1, k4]; rfl
     refine AW_rm (tyOf_good _) (by kernel_rfl) ([501]) ([]) ([9]) ([]) (List.range 10) [1, 3, 5, 9, 10, 11] [500, 501] (fun _ _ => trivial) (by kernel_rfl) (by simp [OffE]) fun K' hK' => ?_; (repeat (refine sxm_nextO rfl fun K2 hK2 => ?_; simp [k4, adB_ne hce, lxn1, lxn2, lxn3, lxn4, lxe, binS_add]; (repeat (refine ⟨by omega, ?_⟩)); refine hK2 _ ?_; clear hK2 K2)); refine sxm_nextO rfl fun K2 hK2 => ?_; simp [k4, adB_ne hce, lxn1, lxn2, lxn3, lxn4, lxe, binS_add]; refine hcK.mc (wS G cur (99 :: 111 :: 117 :: 110 :: 116 :: 101 :: 114 :: 32 :: nm) c1 e (by simp; omega)) (by simp [k4, adB_ne hce, lxn1, lxn2, lxn3, lxn4, lxe, binS_add]) (by simp [k4, adB_ne hce, lxn1, lxn2, lxn3, lxn4, lxe, binS_add]) (by simp [k4, adB_ne hce, lxn1, lxn2, lxn3, lxn4, lxe, binS_add]) (by simp [k4, adB_ne hce, lxn1, lxn2, lxn3, lxn4, lxe, binS_add]) (by simp [k4, adB_ne hce, lxn1, lxn2, lxn3, lxn4, lxe, binS_add]) (by simp [k4, adB_ne hce, lxn1, lxn2, lxn3, lxn4, lxe, binS_add]) (by simp [LdSame, k4, adB_ne hce, lxn1, lxn2, lxn3, lxn4, lxe, binS_add]) ?_; simp [k4, adB_ne hce, lxn1, lxn2, lxn3, lxn4, lxe, binS_add]; refine hK2 _ ?_; clear hK2 K2; (repeat (refine sxm_nextO rfl fun K2 hK2 => ?_; simp [k4, adB_ne hce, lxn1, lxn2, lxn3, lxn4, lxe, binS_add]; (repeat (refine ⟨by omega, ?_⟩)); refine hK2 _ ?_; clear hK2 K2)); refine sxm_nilO (hK' _ ?_); refine AW.st (by simp [k4, adB_ne hce, lxn1, lxn2, lxn3, lxn4, lxe, binS_add]; rfl) ?_; clear hK' K'; refine AW.st (show _ = (⟨lst [(1, .d (.ip [.sl none (p.names.map cNm), .sl none (p.rungs.map cRg)])), (3, .ref 500 0 0), (5, .d (.ip [.v (.string (bs nm)), .v (.int .i64 kd), .v (.int .i64 ct)])), (9, .d (.sl none (p.names.map cNm))), (10, int p.names.length), (11, int i)], hlst [(500, .box 158 [.ref 500 0 0, .own 501 0 (c1).length]), (501, .sl 5 1 (txB (c1)))]⟩ : St) by rw [k4] <;> rfl) ?_; exact hst.out
   ·refine AW_then fun K4 hK4 => ?_; refine rg0 [1,3,5,9,10,11,27] [500,501] ?_
    by_cases k3 : 3 ≤ kd
    ·obtain ⟨c2, hc2⟩ : ∃ c, c = c1 ++ 32 :: dj := ⟨_, rfl⟩
     have hlc2 : c2.length ≤ 2^20 + 2^10 + 12 := by rw [hc2, List.length_append, List.length_cons]; omega
     have hfin : namesTx (p.names.take (i + 1)) = c2 ++ [10] := by rw [hsuc, hnt, if_pos k3, hc2, hc1]; simp
     have hcne : namesTx (p.names.take (i + 1)) ≠ [] := by rw [hfin]; simp
     refine AW_cond true (by simp [k3]) (fun _ => ?_) (fun h => by cases h); refine AW_re (tyOf_good _) fun K' hK' => ?_; (repeat (refine sxn fun K2 hK2 => ?_; simp [lx32, binS_add]; (repeat (refine ⟨by omega, ?_⟩)); refine hK2 _ ?_; clear hK2 K2)); refine sxn fun K2 hK2 => ?_; simp [lx32, binS_add]; refine callK.data (tj) (by simp; rfl) (by first | exact D.leGo_refl _ | simp [takeMap, List.map_map, Function.comp_def, D.le, D.le.go, D.le_refl, D.leGo_refl, lx32, binS_add]) ?_; refine hK2 _ ?_; clear hK2 K2; simp only [putd, upd_lst]; (repeat (refine sxn fun K2 hK2 => ?_; simp [lx32, binS_add]; (repeat (refine ⟨by omega, ?_⟩)); refine hK2 _ ?_; clear hK2 K2)); refine sxn fun K2 hK2 => ?_; simp [lx32, binS_add]; refine callK.mc (wS G c1 (32 :: dj) c2 hc2 (by simp; omega)) ?_ ?_ ?_ ?_ ?_ <;> simp [lx32, binS_add]; refine hK2 _ ?_; clear hK2 K2; (repeat (refine sxn fun K2 hK2 => ?_; simp [lx32, binS_add]; (repeat (refine ⟨by omega, ?_⟩)); refine hK2 _ ?_; clear hK2 K2)); refine sxz (hK' _ ?_); clear hK' K'; refine hK4 _ (AW.norm [1, 3, 9, 10, 11] [500, 501] (fun _ _ => trivial) (AW.st (by simp [lx32, binS_add]; rfl) ?_)); refine AW_re (tyOf_good _) fun K' hK' => ?_; (repeat (refine sxn fun K2 hK2 => ?_; simp [ub10]; (repeat (refine ⟨by omega, ?_⟩)); refine hK2 _ ?_; clear hK2 K2)); refine sxn fun K2 hK2 => ?_; simp [ub10]; refine callK.mc (wB G c2 10 _ hfin (by omega)) ?_ ?_ ?_ ?_ ?_ <;> simp [ub10]; refine hK2 _ ?_; clear hK2 K2; (repeat (refine sxn fun K2 hK2 => ?_; simp [ub10]; (repeat (refine ⟨by omega, ?_⟩)); refine hK2 _ ?_; clear hK2 K2)); refine sxz (hK' _ ?_); clear hK' K'; refine hK3 _ (AW.norm [1, 3, 9, 10, 11] [500, 501] (fun _ _ => trivial) (AW.st (by simp [ub10]; rfl) ?_)); refine AW_re (tyOf_good _) fun K' hK' => ?_; (repeat (refine sxn fun K2 hK2 => ?_; simp; (repeat (refine ⟨by omega, ?_⟩)); refine hK2 _ ?_; clear hK2 K2)); refine sxz (hK' _ ?_); clear hK' K'; (try simp only [thn, inb]); refine Again.mk (i + 1) (by omega) (by omega) ?_; refine Imp.to' (fun _ _ => trivial) (by simp [adB_ne hcne]) (by simp [adB_ne hcne])
    ·have hfin : namesTx (p.names.take (i + 1)) = c1 ++ [10] := by rw [hsuc, hnt, if_neg k3, hc1]; simp
     have hcne : namesTx (p.names.take (i + 1)) ≠ [] := by rw [hfin]; simp
     refine AW_cond false (by simp; omega) (fun h => by cases h) (fun _ => ?_); refine AW_skip ?_; refine hK4 _ (AW.norm [1, 3, 9, 10, 11] [500, 501] (fun _ _ => trivial) (AW.st (by simp; rfl) ?_)); refine AW_re (tyOf_good _) fun K' hK' => ?_; (repeat (refine sxn fun K2 hK2 => ?_; simp [ub10]; (repeat (refine ⟨by omega, ?_⟩)); refine hK2 _ ?_; clear hK2 K2)); refine sxn fun K2 hK2 => ?_; simp [ub10]; refine callK.mc (wB G c1 10 _ hfin (by omega)) ?_ ?_ ?_ ?_ ?_ <;> simp [ub10]; refine hK2 _ ?_; clear hK2 K2; (repeat (refine sxn fun K2 hK2 => ?_; simp [ub10]; (repeat (refine ⟨by omega, ?_⟩)); refine hK2 _ ?_; clear hK2 K2)); refine sxz (hK' _ ?_); clear hK' K'; refine hK3 _ (AW.norm [1, 3, 9, 10, 11] [500, 501] (fun _ _ => trivial) (AW.st (by simp [ub10]; rfl) ?_)); refine AW_re (tyOf_good _) fun K' hK' => ?_; (repeat (refine sxn fun K2 hK2 => ?_; simp; (repeat (refine ⟨by omega, ?_⟩)); refine hK2 _ ?_; clear hK2 K2)); refine sxz (hK' _ ?_); clear hK' K'; (try simp only [thn, inb]); refine Again.mk (i + 1) (by omega) (by omega) ?_; refine Imp.to' (fun _ _ => trivial) (by simp [adB_ne hcne]) (by simp [adB_ne hcne])
  ·obtain rfl : i = p.names.length := by omega
   rw [List.take_length] at hcur; refine AW_exit (hK1 _ ?_); refine AW_then fun K5 hK5 => ?_
   have qf := @adB_tr
   refine rgqv [3,36,37,38] [500,501] ?_; refine AW_for (S := Nat) (fun j => j ≤ p.rungs.length) (fun j => ⟨lst [(3, .ref 500 0 0), (36, .d (.sl none (p.rungs.map cRg))), (37, int p.rungs.length), (38, int j)], hlst [(500, .box 158 [adB (cur ++ rungsTx (p.rungs.take j)), .own 501 0 (cur ++ rungsTx (p.rungs.take j)).length]), (501, .sl 5 1 (txB (cur ++ rungsTx (p.rungs.take j))))]⟩) (fun j => p.rungs.length - j) 0 ?_ (by simp) ?_
   ·refine Imp.to' (fun _ _ => trivial) (by simp [rungsTx_zero, List.append_nil, adB_tr]) (by simp [rungsTx_zero, List.append_nil, adB_tr])
   ·intro j hj
    have hlr := hR j
    have hld : (cur ++ rungsTx (p.rungs.take j)).length ≤ 2^20 + 2^36 := by rw [List.length_append]; omega
    generalize hd1 : cur ++ rungsTx (p.rungs.take j) = d1 at hld ⊢
    have qf := @adB_tr
    refine rgqv [3,36,37,38,39] [500,501] ?_; refine AW_then fun K6 hK6 => ?_; refine AW_cond' (b := j < p.rungs.length) (by simp [D.le, D.le.go, takeMap]) (fun hc => ?_) (fun hc => ?_)
    ·have hjl := hc
     have hce : cur ≠ [] := by rw [← hcur]; exact hne (by intro h; rw [h] at hjl; simp at hjl)
     have hde : d1 ≠ [] := by rw [← hd1]; simp [hce]
     obtain ⟨hkd, hrn, e, hce2, hbe, _⟩ := hrg _ (List.getElem_mem hjl)
     have hsuc : cur ++ rungsTx (p.rungs.take (j + 1)) = d1 ++ rungT p.rungs[j] := by rw [rungsTx, flatT_succ hjl, ← hd1, List.append_assoc]; rfl
     have hrt : rungT p.rungs[j] = headG p.rungs[j].kind ++ p.rungs[j].name ++ [32, 61, 32] ++ condT p.rungs[j].cond ++ [10] := rfl
     have hcr : cRg p.rungs[j] = [.v (.int .i64 p.rungs[j].kind), .v (.string (bs p.rungs[j].name)), dC p.rungs[j].cond] := rfl
     rw [hce2] at hrt hcr
     have htx := etext_spec G e (Nat.le_trans (wr_len e) (by omega))
     have hwl := wr0_bd e
     simp only [dS] at htx; simp only [condT, dC] at hrt hcr
     obtain ⟨ta, ca, hta⟩ := dE_ifc e
     rw [hta] at hcr htx; generalize wrE e 0 = tx at hrt htx hwl; generalize rungT p.rungs[j] = rt at hsuc hrt; generalize p.rungs[j].name = nm at hrn hrt hcr; generalize p.rungs[j].kind = kd at hkd hrt hcr; refine AW_skip (hK6 _ ?_); refine AW_then fun K7 hK7 => ?_; refine AW_block ?_
     have qf := (Aq @hjl (Aq @hcr (adB_ne hde)))
     refine rgqv [3,7,36,37,38] [500,501,7] ?_; refine AW.imp (Imp.freezeB 7 trivial) ?_; refine AW.st (by simp; rfl) ?_
     have hcne : cur ++ rungsTx (p.rungs.take (j + 1)) ≠ [] := by simp [hce]
     by_cases k1 : kd = 1
     ·have e2 : cur ++ rungsTx (p.rungs.take (j + 1)) = d1 ++ ((nm ++ 32 :: 61 :: 32 :: (tx ++ [10]))) := by rw [hsuc, hrt, k1]; simp [headG]
      refine AW_rme (tyOf_good _) (by kernel_rfl) ([501]) ([]) ([15]) ([]) (List.range 16) (by kernel_rfl) (by simp [OffE]) fun K' hK' => ?_; (repeat (refine sxm_nextO rfl fun K2 hK2 => ?_; simp [k1, hH, heads7, lxeq, lx10, binS_add]; (repeat (refine ⟨by omega, ?_⟩)); refine hK2 _ ?_; clear hK2 K2)); refine sxm_nextO rfl fun K2 hK2 => ?_; simp [k1, hH, heads7, lxeq, lx10, binS_add]; refine callD.mk (htx) (by simp; rfl) (by simp; rfl) (by first | exact D.leGo_refl _ | simp [takeMap, List.map_map, Function.comp_def, D.le, D.le.go, D.le_refl, D.leGo_refl, k1, hH, heads7, lxeq, lx10, binS_add]) (by simp) ?_; refine hK2 _ ?_; clear hK2 K2; simp only [putd, upd_lst]; (repeat (refine sxm_nextO rfl fun K2 hK2 => ?_; simp [k1, hH, heads7, lxeq, lx10, binS_add]; (repeat (refine ⟨by omega, ?_⟩)); refine hK2 _ ?_; clear hK2 K2)); refine sxm_nextO rfl fun K2 hK2 => ?_; simp [k1, hH, heads7, lxeq, lx10, binS_add]; refine hcK.mc (wS G d1 ((nm ++ 32 :: 61 :: 32 :: (tx ++ [10]))) _ e2 (by simp; omega)) (by simp [k1, hH, heads7, lxeq, lx10, binS_add]) (by simp [k1, hH, heads7, lxeq, lx10, binS_add]) (by simp [k1, hH, heads7, lxeq, lx10, binS_add]) (by simp [k1, hH, heads7, lxeq, lx10, binS_add]) (by simp [k1, hH, heads7, lxeq, lx10, binS_add]) (by simp [k1, hH, heads7, lxeq, lx10, binS_add]) (by simp [LdSame, k1, hH, heads7, lxeq, lx10, binS_add]) ?_; simp [k1, hH, heads7, lxeq, lx10, binS_add]; refine hK2 _ ?_; clear hK2 K2; (repeat (refine sxm_nextO rfl fun K2 hK2 => ?_; simp [k1, hH, heads7, lxeq, lx10, binS_add]; (repeat (refine ⟨by omega, ?_⟩)); refine hK2 _ ?_; clear hK2 K2)); refine sxm_nilO (hK' _ ?_); clear hK' K'; refine hK7 _ (AW.norm [3, 36, 37, 38] [500, 501] (fun _ _ => trivial) (AW.st (by simp [k1, hH, heads7, lxeq, lx10, binS_add]; rfl) ?_)); refine AW_re (tyOf_good _) fun K' hK' => ?_; (repeat (refine sxn fun K2 hK2 => ?_; simp; (repeat (refine ⟨by omega, ?_⟩)); refine hK2 _ ?_; clear hK2 K2)); refine sxz (hK' _ ?_); clear hK' K'; (try simp only [thn, inb]); refine Again.mk (j + 1) (by omega) (by omega) ?_; refine Imp.to' (fun _ _ => trivial) (by simp [adB_ne hcne]) (by simp [adB_ne hcne])
     by_cases k2 : kd = 2
     ·have e2 : cur ++ rungsTx (p.rungs.take (j + 1)) = d1 ++ (115 :: 101 :: 116 :: 32 :: (nm ++ 32 :: 61 :: 32 :: (tx ++ [10]))) := by rw [hsuc, hrt, k2]; simp [headG]
      refine AW_rme (tyOf_good _) (by kernel_rfl) ([501]) ([]) ([15]) ([]) (List.range 16) (by kernel_rfl) (by simp [OffE]) fun K' hK' => ?_; (repeat (refine sxm_nextO rfl fun K2 hK2 => ?_; simp [k2, hH, heads7, lxeq, lx10, binS_add]; (repeat (refine ⟨by omega, ?_⟩)); refine hK2 _ ?_; clear hK2 K2)); refine sxm_nextO rfl fun K2 hK2 => ?_; simp [k2, hH, heads7, lxeq, lx10, binS_add]; refine callD.mk (htx) (by simp; rfl) (by simp; rfl) (by first | exact D.leGo_refl _ | simp [takeMap, List.map_map, Function.comp_def, D.le, D.le.go, D.le_refl, D.leGo_refl, k2, hH, heads7, lxeq, lx10, binS_add]) (by simp) ?_; refine hK2 _ ?_; clear hK2 K2; simp only [putd, upd_lst]; (repeat (refine sxm_nextO rfl fun K2 hK2 => ?_; simp [k2, hH, heads7, lxeq, lx10, binS_add]; (repeat (refine ⟨by omega, ?_⟩)); refine hK2 _ ?_; clear hK2 K2)); refine sxm_nextO rfl fun K2 hK2 => ?_; simp [k2, hH, heads7, lxeq, lx10, binS_add]; refine hcK.mc (wS G d1 (115 :: 101 :: 116 :: 32 :: (nm ++ 32 :: 61 :: 32 :: (tx ++ [10]))) _ e2 (by simp; omega)) (by simp [k2, hH, heads7, lxeq, lx10, binS_add]) (by simp [k2, hH, heads7, lxeq, lx10, binS_add]) (by simp [k2, hH, heads7, lxeq, lx10, binS_add]) (by simp [k2, hH, heads7, lxeq, lx10, binS_add]) (by simp [k2, hH, heads7, lxeq, lx10, binS_add]) (by simp [k2, hH, heads7, lxeq, lx10, binS_add]) (by simp [LdSame, k2, hH, heads7, lxeq, lx10, binS_add]) ?_; simp [k2, hH, heads7, lxeq, lx10, binS_add]; refine hK2 _ ?_; clear hK2 K2; (repeat (refine sxm_nextO rfl fun K2 hK2 => ?_; simp [k2, hH, heads7, lxeq, lx10, binS_add]; (repeat (refine ⟨by omega, ?_⟩)); refine hK2 _ ?_; clear hK2 K2)); refine sxm_nilO (hK' _ ?_); clear hK' K'; refine hK7 _ (AW.norm [3, 36, 37, 38] [500, 501] (fun _ _ => trivial) (AW.st (by simp [k2, hH, heads7, lxeq, lx10, binS_add]; rfl) ?_)); refine AW_re (tyOf_good _) fun K' hK' => ?_; (repeat (refine sxn fun K2 hK2 => ?_; simp; (repeat (refine ⟨by omega, ?_⟩)); refine hK2 _ ?_; clear hK2 K2)); refine sxz (hK' _ ?_); clear hK' K'; (try simp only [thn, inb]); refine Again.mk (j + 1) (by omega) (by omega) ?_; refine Imp.to' (fun _ _ => trivial) (by simp [adB_ne hcne]) (by simp [adB_ne hcne])
     by_cases k3 : kd = 3
     ·have e2 : cur ++ rungsTx (p.rungs.take (j + 1)) = d1 ++ (114 :: 101 :: 115 :: 101 :: 116 :: 32 :: (nm ++ 32 :: 61 :: 32 :: (tx ++ [10]))) := by rw [hsuc, hrt, k3]; simp [headG]
      refine AW_rme (tyOf_good _) (by kernel_rfl) ([501]) ([]) ([15]) ([]) (List.range 16) (by kernel_rfl) (by simp [OffE]) fun K' hK' => ?_; (repeat (refine sxm_nextO rfl fun K2 hK2 => ?_; simp [k3, hH, heads7, lxeq, lx10, binS_add]; (repeat (refine ⟨by omega, ?_⟩)); refine hK2 _ ?_; clear hK2 K2)); refine sxm_nextO rfl fun K2 hK2 => ?_; simp [k3, hH, heads7, lxeq, lx10, binS_add]; refine callD.mk (htx) (by simp; rfl) (by simp; rfl) (by first | exact D.leGo_refl _ | simp [takeMap, List.map_map, Function.comp_def, D.le, D.le.go, D.le_refl, D.leGo_refl, k3, hH, heads7, lxeq, lx10, binS_add]) (by simp) ?_; refine hK2 _ ?_; clear hK2 K2; simp only [putd, upd_lst]; (repeat (refine sxm_nextO rfl fun K2 hK2 => ?_; simp [k3, hH, heads7, lxeq, lx10, binS_add]; (repeat (refine ⟨by omega, ?_⟩)); refine hK2 _ ?_; clear hK2 K2)); refine sxm_nextO rfl fun K2 hK2 => ?_; simp [k3, hH, heads7, lxeq, lx10, binS_add]; refine hcK.mc (wS G d1 (114 :: 101 :: 115 :: 101 :: 116 :: 32 :: (nm ++ 32 :: 61 :: 32 :: (tx ++ [10]))) _ e2 (by simp; omega)) (by simp [k3, hH, heads7, lxeq, lx10, binS_add]) (by simp [k3, hH, heads7, lxeq, lx10, binS_add]) (by simp [k3, hH, heads7, lxeq, lx10, binS_add]) (by simp [k3, hH, heads7, lxeq, lx10, binS_add]) (by simp [k3, hH, heads7, lxeq, lx10, binS_add]) (by simp [k3, hH, heads7, lxeq, lx10, binS_add]) (by simp [LdSame, k3, hH, heads7, lxeq, lx10, binS_add]) ?_; simp [k3, hH, heads7, lxeq, lx10, binS_add]; refine hK2 _ ?_; clear hK2 K2; (repeat (refine sxm_nextO rfl fun K2 hK2 => ?_; simp [k3, hH, heads7, lxeq, lx10, binS_add]; (repeat (refine ⟨by omega, ?_⟩)); refine hK2 _ ?_; clear hK2 K2)); refine sxm_nilO (hK' _ ?_); clear hK' K'; refine hK7 _ (AW.norm [3, 36, 37, 38] [500, 501] (fun _ _ => trivial) (AW.st (by simp [k3, hH, heads7, lxeq, lx10, binS_add]; rfl) ?_)); refine AW_re (tyOf_good _) fun K' hK' => ?_; (repeat (refine sxn fun K2 hK2 => ?_; simp; (repeat (refine ⟨by omega, ?_⟩)); refine hK2 _ ?_; clear hK2 K2)); refine sxz (hK' _ ?_); clear hK' K'; (try simp only [thn, inb]); refine Again.mk (j + 1) (by omega) (by omega) ?_; refine Imp.to' (fun _ _ => trivial) (by simp [adB_ne hcne]) (by simp [adB_ne hcne])
     by_cases k4 : kd = 4
     ·have e2 : cur ++ rungsTx (p.rungs.take (j + 1)) = d1 ++ (114 :: 117 :: 110 :: 32 :: (nm ++ 32 :: 61 :: 32 :: (tx ++ [10]))) := by rw [hsuc, hrt, k4]; simp [headG]
      refine AW_rme (tyOf_good _) (by kernel_rfl) ([501]) ([]) ([15]) ([]) (List.range 16) (by kernel_rfl) (by simp [OffE]) fun K' hK' => ?_; (repeat (refine sxm_nextO rfl fun K2 hK2 => ?_; simp [k4, hH, heads7, lxeq, lx10, binS_add]; (repeat (refine ⟨by omega, ?_⟩)); refine hK2 _ ?_; clear hK2 K2)); refine sxm_nextO rfl fun K2 hK2 => ?_; simp [k4, hH, heads7, lxeq, lx10, binS_add]; refine callD.mk (htx) (by simp; rfl) (by simp; rfl) (by first | exact D.leGo_refl _ | simp [takeMap, List.map_map, Function.comp_def, D.le, D.le.go, D.le_refl, D.leGo_refl, k4, hH, heads7, lxeq, lx10, binS_add]) (by simp) ?_; refine hK2 _ ?_; clear hK2 K2; simp only [putd, upd_lst]; (repeat (refine sxm_nextO rfl fun K2 hK2 => ?_; simp [k4, hH, heads7, lxeq, lx10, binS_add]; (repeat (refine ⟨by omega, ?_⟩)); refine hK2 _ ?_; clear hK2 K2)); refine sxm_nextO rfl fun K2 hK2 => ?_; simp [k4, hH, heads7, lxeq, lx10, binS_add]; refine hcK.mc (wS G d1 (114 :: 117 :: 110 :: 32 :: (nm ++ 32 :: 61 :: 32 :: (tx ++ [10]))) _ e2 (by simp; omega)) (by simp [k4, hH, heads7, lxeq, lx10, binS_add]) (by simp [k4, hH, heads7, lxeq, lx10, binS_add]) (by simp [k4, hH, heads7, lxeq, lx10, binS_add]) (by simp [k4, hH, heads7, lxeq, lx10, binS_add]) (by simp [k4, hH, heads7, lxeq, lx10, binS_add]) (by simp [k4, hH, heads7, lxeq, lx10, binS_add]) (by simp [LdSame, k4, hH, heads7, lxeq, lx10, binS_add]) ?_; simp [k4, hH, heads7, lxeq, lx10, binS_add]; refine hK2 _ ?_; clear hK2 K2; (repeat (refine sxm_nextO rfl fun K2 hK2 => ?_; simp [k4, hH, heads7, lxeq, lx10, binS_add]; (repeat (refine ⟨by omega, ?_⟩)); refine hK2 _ ?_; clear hK2 K2)); refine sxm_nilO (hK' _ ?_); clear hK' K'; refine hK7 _ (AW.norm [3, 36, 37, 38] [500, 501] (fun _ _ => trivial) (AW.st (by simp [k4, hH, heads7, lxeq, lx10, binS_add]; rfl) ?_)); refine AW_re (tyOf_good _) fun K' hK' => ?_; (repeat (refine sxn fun K2 hK2 => ?_; simp; (repeat (refine ⟨by omega, ?_⟩)); refine hK2 _ ?_; clear hK2 K2)); refine sxz (hK' _ ?_); clear hK' K'; (try simp only [thn, inb]); refine Again.mk (j + 1) (by omega) (by omega) ?_; refine Imp.to' (fun _ _ => trivial) (by simp [adB_ne hcne]) (by simp [adB_ne hcne])
     by_cases k5 : kd = 5
     ·have e2 : cur ++ rungsTx (p.rungs.take (j + 1)) = d1 ++ (99 :: 111 :: 117 :: 110 :: 116 :: 32 :: (nm ++ 32 :: 61 :: 32 :: (tx ++ [10]))) := by rw [hsuc, hrt, k5]; simp [headG]
      refine AW_rme (tyOf_good _) (by kernel_rfl) ([501]) ([]) ([15]) ([]) (List.range 16) (by kernel_rfl) (by simp [OffE]) fun K' hK' => ?_; (repeat (refine sxm_nextO rfl fun K2 hK2 => ?_; simp [k5, hH, heads7, lxeq, lx10, binS_add]; (repeat (refine ⟨by omega, ?_⟩)); refine hK2 _ ?_; clear hK2 K2)); refine sxm_nextO rfl fun K2 hK2 => ?_; simp [k5, hH, heads7, lxeq, lx10, binS_add]; refine callD.mk (htx) (by simp; rfl) (by simp; rfl) (by first | exact D.leGo_refl _ | simp [takeMap, List.map_map, Function.comp_def, D.le, D.le.go, D.le_refl, D.leGo_refl, k5, hH, heads7, lxeq, lx10, binS_add]) (by simp) ?_; refine hK2 _ ?_; clear hK2 K2; simp only [putd, upd_lst]; (repeat (refine sxm_nextO rfl fun K2 hK2 => ?_; simp [k5, hH, heads7, lxeq, lx10, binS_add]; (repeat (refine ⟨by omega, ?_⟩)); refine hK2 _ ?_; clear hK2 K2)); refine sxm_nextO rfl fun K2 hK2 => ?_; simp [k5, hH, heads7, lxeq, lx10, binS_add]; refine hcK.mc (wS G d1 (99 :: 111 :: 117 :: 110 :: 116 :: 32 :: (nm ++ 32 :: 61 :: 32 :: (tx ++ [10]))) _ e2 (by simp; omega)) (by simp [k5, hH, heads7, lxeq, lx10, binS_add]) (by simp [k5, hH, heads7, lxeq, lx10, binS_add]) (by simp [k5, hH, heads7, lxeq, lx10, binS_add]) (by simp [k5, hH, heads7, lxeq, lx10, binS_add]) (by simp [k5, hH, heads7, lxeq, lx10, binS_add]) (by simp [k5, hH, heads7, lxeq, lx10, binS_add]) (by simp [LdSame, k5, hH, heads7, lxeq, lx10, binS_add]) ?_; simp [k5, hH, heads7, lxeq, lx10, binS_add]; refine hK2 _ ?_; clear hK2 K2; (repeat (refine sxm_nextO rfl fun K2 hK2 => ?_; simp [k5, hH, heads7, lxeq, lx10, binS_add]; (repeat (refine ⟨by omega, ?_⟩)); refine hK2 _ ?_; clear hK2 K2)); refine sxm_nilO (hK' _ ?_); clear hK' K'; refine hK7 _ (AW.norm [3, 36, 37, 38] [500, 501] (fun _ _ => trivial) (AW.st (by simp [k5, hH, heads7, lxeq, lx10, binS_add]; rfl) ?_)); refine AW_re (tyOf_good _) fun K' hK' => ?_; (repeat (refine sxn fun K2 hK2 => ?_; simp; (repeat (refine ⟨by omega, ?_⟩)); refine hK2 _ ?_; clear hK2 K2)); refine sxz (hK' _ ?_); clear hK' K'; (try simp only [thn, inb]); refine Again.mk (j + 1) (by omega) (by omega) ?_; refine Imp.to' (fun _ _ => trivial) (by simp [adB_ne hcne]) (by simp [adB_ne hcne])
     have k6 : kd = 6 := by omega
     have e2 : cur ++ rungsTx (p.rungs.take (j + 1)) = d1 ++ (122 :: 101 :: 114 :: 111 :: 32 :: (nm ++ 32 :: 61 :: 32 :: (tx ++ [10]))) := by rw [hsuc, hrt, k6]; simp [headG]
     refine AW_rme (tyOf_good _) (by kernel_rfl) ([501]) ([]) ([15]) ([]) (List.range 16) (by kernel_rfl) (by simp [OffE]) fun K' hK' => ?_; (repeat (refine sxm_nextO rfl fun K2 hK2 => ?_; simp [k6, hH, heads7, lxeq, lx10, binS_add]; (repeat (refine ⟨by omega, ?_⟩)); refine hK2 _ ?_; clear hK2 K2)); refine sxm_nextO rfl fun K2 hK2 => ?_; simp [k6, hH, heads7, lxeq, lx10, binS_add]; refine callD.mk (htx) (by simp; rfl) (by simp; rfl) (by first | exact D.leGo_refl _ | simp [takeMap, List.map_map, Function.comp_def, D.le, D.le.go, D.le_refl, D.leGo_refl, k6, hH, heads7, lxeq, lx10, binS_add]) (by simp) ?_; refine hK2 _ ?_; clear hK2 K2; simp only [putd, upd_lst]; (repeat (refine sxm_nextO rfl fun K2 hK2 => ?_; simp [k6, hH, heads7, lxeq, lx10, binS_add]; (repeat (refine ⟨by omega, ?_⟩)); refine hK2 _ ?_; clear hK2 K2)); refine sxm_nextO rfl fun K2 hK2 => ?_; simp [k6, hH, heads7, lxeq, lx10, binS_add]; refine hcK.mc (wS G d1 (122 :: 101 :: 114 :: 111 :: 32 :: (nm ++ 32 :: 61 :: 32 :: (tx ++ [10]))) _ e2 (by simp; omega)) (by simp [k6, hH, heads7, lxeq, lx10, binS_add]) (by simp [k6, hH, heads7, lxeq, lx10, binS_add]) (by simp [k6, hH, heads7, lxeq, lx10, binS_add]) (by simp [k6, hH, heads7, lxeq, lx10, binS_add]) (by simp [k6, hH, heads7, lxeq, lx10, binS_add]) (by simp [k6, hH, heads7, lxeq, lx10, binS_add]) (by simp [LdSame, k6, hH, heads7, lxeq, lx10, binS_add]) ?_; simp [k6, hH, heads7, lxeq, lx10, binS_add]; refine hK2 _ ?_; clear hK2 K2; (repeat (refine sxm_nextO rfl fun K2 hK2 => ?_; simp [k6, hH, heads7, lxeq, lx10, binS_add]; (repeat (refine ⟨by omega, ?_⟩)); refine hK2 _ ?_; clear hK2 K2)); refine sxm_nilO (hK' _ ?_); clear hK' K'; refine hK7 _ (AW.norm [3, 36, 37, 38] [500, 501] (fun _ _ => trivial) (AW.st (by simp [k6, hH, heads7, lxeq, lx10, binS_add]; rfl) ?_)); refine AW_re (tyOf_good _) fun K' hK' => ?_; (repeat (refine sxn fun K2 hK2 => ?_; simp; (repeat (refine ⟨by omega, ?_⟩)); refine hK2 _ ?_; clear hK2 K2)); refine sxz (hK' _ ?_); clear hK' K'; (try simp only [thn, inb]); refine Again.mk (j + 1) (by omega) (by omega) ?_; refine Imp.to' (fun _ _ => trivial) (by simp [adB_ne hcne]) (by simp [adB_ne hcne])
    ·obtain rfl : j = p.rungs.length := by omega
     rw [List.take_length] at hd1; refine AW_exit (hK5 _ ?_)
     have qf := @adB_tr
     refine rgmv (aS G d1) [2] [] ?_; refine AW_ret ?_; simp [D.le, D.le.go, takeMap]; rw [hT, hcur, hd1]
end Go.Proofs.YthnjfeielmbfkaaGreatDoor
namespace Go.Proofs.YthnjfeielmbfkaaGreatDoor
open Go.Av
def HasNW (G : Glob) : Prop := G 3 = some (.ip [.sl none [[.v (.string (bs []))], [.v (.string (bs [105, 110, 112, 117, 116]))], [.v (.string (bs [99, 111, 105, 108]))], [.v (.string (bs [116, 105, 109, 101, 114]))], [.v (.string (bs [99, 111, 117, 110, 116, 101, 114]))]]])
def HasRW (G : Glob) : Prop := G 2 = some (.ip [.sl none [[.v (.string (bs []))], [.v (.string (bs []))], [.v (.string (bs [115, 101, 116]))], [.v (.string (bs [114, 101, 115, 101, 116]))], [.v (.string (bs [114, 117, 110]))], [.v (.string (bs [99, 111, 117, 110, 116]))], [.v (.string (bs [122, 101, 114, 111]))]]])
set_option maxHeartbeats 16000000 in
theorem programText_spec (G : Glob) (hNW : HasNW G) (hRW : HasRW G) (p : PgP) (hp : TxP p) : PureC Tryz.prog G 41 [dPw p] (.v (.string (bs (progT p)))) := by
 unfold HasNW at hNW; unfold HasRW at hRW
 have hT : progT p = namesTx p.names ++ rungsTx p.rungs := rfl
 have ⟨hnm, hrg, hnl, hrl, _⟩ := hp
 have hN := namesTx_len hp
 have hR := rungsTx_len hp
 simp only [dPw, cPw, dNms]; refine PureC.of_body (tyOf_good _) Tryz.func41 rfl rfl (rs := [.tmp 2]) Tryz.results41 (by simp [Tryz.ntmps41]) fun X => ?_; simp only [Tryz.ntmps41, List.map]; refine rg0 [1] [1] ?_; refine AW.imp (Imp.freezeB 1 trivial) ?_; refine AW.st (by simp; rfl) ?_
 have qf := @lxe
 refine rgqv [1,3] [] ?_; refine AW_then fun K1 hK1 => ?_; refine rg0 [1,3,9,10,11] [] ?_; refine AW_for (S := Nat) (fun i => i ≤ p.names.length) (fun i => ⟨lst [(1, .d (.ip [.sl none (p.names.map cNm), .sl none (p.rungs.map cRw')])), (3, .d (.v (.string (bs (namesTx (p.names.take i)))))), (9, .d (.sl none (p.names.map cNm))), (10, int p.names.length), (11, int i)], hlst []⟩) (fun i => p.names.length - i) 0 ?_ (by simp) ?_
 ·refine Imp.to' (fun _ _ => trivial) (by simp [namesTx_zero]) (by simp [namesTx_zero])
 ·intro i hi
  have hlc := hN i
  generalize hcur : namesTx (p.names.take i) = cur at hlc ⊢; refine rg0 [1,3,9,10,11,12] [] ?_; refine AW_then fun K2 hK2 => ?_; refine AW_cond' (b := i < p.names.length) (by simp [D.le, D.le.go, takeMap]) (fun hc => ?_) (fun hc => ?_)
  ·have hil := hc
   obtain ⟨hkd, hct, hnml⟩ := hnm _ (List.getElem_mem hil)
   have hsuc : namesTx (p.names.take (i + 1)) = cur ++ nameT p.names[i] := by rw [namesTx, flatT_succ hil, ← hcur]; rfl
   have hnt : nameT p.names[i] = headN p.names[i].kind ++ p.names[i].name ++ (if 3 ≤ p.names[i].kind then 32 :: dig p.names[i].count.toNat else []) ++ [10] := rfl
   have hcn : cNm p.names[i] = [.v (.string (bs p.names[i].name)), .v (.int .i64 p.names[i].kind), .v (.int .i64 p.names[i].count)] := rfl
   have tj := told_spec G p.names[i].count hct
   have hlj := dig_len (n := p.names[i].count.toNat) (by omega)
   generalize nameT p.names[i] = nt at hsuc hnt; generalize dig p.names[i].count.toNat = dj at tj hlj hnt; generalize p.names[i].name = nm at hnml hnt hcn; generalize p.names[i].kind = kd at hkd hnt hcn; generalize p.names[i].count = ct at hct hcn tj; refine AW_skip (hK2 _ ?_); refine AW_then fun K3 hK3 => ?_; refine AW_block ?_
   have qf := (Aq @hil @hcn)
   refine rgqv [1,3,5,9,10,11] [5] ?_; refine AW.imp (Imp.freezeB 5 trivial) ?_; refine AW.st (by simp; rfl) ?_
   obtain ⟨c1, hc1⟩ : ∃ c, c = cur ++ (headN kd ++ nm) := ⟨_, rfl⟩
   have hhl := headN_len kd
   have hlc1 : c1.length ≤ 2^20 + 2^10 + 8 := by rw [hc1, List.length_append, List.length_append]; omega
   refine' lateG (fun hst => ?_) ?_
   rotate_left
   ·by_cases k1 : kd = 1
    ·have qf := (Aq @k1 (Aq @hNW (Aq @lx32 @binS_add)))
     refine rdqv [1,3,5,9,10,11] [] ?_; refine AW.st (show _ = (⟨lst [(1, .d (.ip [.sl none (p.names.map cNm), .sl none (p.rungs.map cRw')])), (3, .d (.v (.string (bs c1)))), (5, .d (.ip [.v (.string (bs nm)), .v (.int .i64 kd), .v (.int .i64 ct)])), (9, .d (.sl none (p.names.map cNm))), (10, int p.names.length), (11, int i)], hlst []⟩ : St) by rw [hc1, k1] <;> rfl) ?_; exact hst.out
    by_cases k2 : kd = 2
    ·have qf := (Aq @k2 (Aq @hNW (Aq @lx32 @binS_add)))
     refine rdqv [1,3,5,9,10,11] [] ?_; refine AW.st (show _ = (⟨lst [(1, .d (.ip [.sl none (p.names.map cNm), .sl none (p.rungs.map cRw')])), (3, .d (.v (.string (bs c1)))), (5, .d (.ip [.v (.string (bs nm)), .v (.int .i64 kd), .v (.int .i64 ct)])), (9, .d (.sl none (p.names.map cNm))), (10, int p.names.length), (11, int i)], hlst []⟩ : St) by rw [hc1, k2] <;> rfl) ?_; exact hst.out
    by_cases k3 : kd = 3
    ·have qf := (Aq @k3 (Aq @hNW (Aq @lx32 @binS_add)))
     refine rdqv [1,3,5,9,10,11] [] ?_; refine AW.st (show _ = (⟨lst [(1, .d (.ip [.sl none (p.names.map cNm), .sl none (p.rungs.map cRw')])), (3, .d (.v (.string (bs c1)))), (5, .d (.ip [.v (.string (bs nm)), .v (.int .i64 kd), .v (.int .i64 ct)])), (9, .d (.sl none (p.names.map cNm))), (10, int p.names.length), (11, int i)], hlst []⟩ : St) by rw [hc1, k3] <;> rfl) ?_; exact hst.out
    have k4 : kd = 4 := by omega
    have qf := (Aq @k4 (Aq @hNW (Aq @lx32 @binS_add)))
    refine rdqv [1,3,5,9,10,11] [] ?_; refine AW.st (show _ = (⟨lst [(1, .d (.ip [.sl none (p.names.map cNm), .sl none (p.rungs.map cRw')])), (3, .d (.v (.string (bs c1)))), (5, .d (.ip [.v (.string (bs nm)), .v (.int .i64 kd), .v (.int .i64 ct)])), (9, .d (.sl none (p.names.map cNm))), (10, int p.names.length), (11, int i)], hlst []⟩ : St) by rw [hc1, k4] <;> rfl) ?_; exact hst.out
   ·refine AW_then fun K4 hK4 => ?_; refine rg0 [1,3,5,9,10,11,28] [] ?_
    by_cases k3 : 3 ≤ kd
    ·have hfin : namesTx (p.names.take (i + 1)) = c1 ++ 32 :: (dj ++ [10]) := by rw [hsuc, hnt, if_pos k3, hc1]; simp
     refine AW_cond true (by simp [k3]) (fun _ => ?_) (fun h => by cases h); refine AW_re (tyOf_good _) fun K' hK' => ?_; (repeat (refine sxn fun K2 hK2 => ?_; simp [lx32, binS_add]; (repeat (refine ⟨by omega, ?_⟩)); refine hK2 _ ?_; clear hK2 K2)); refine sxn fun K2 hK2 => ?_; simp [lx32, binS_add]; refine callK.lend (tj) (by simp; rfl) (by first | exact D.leGo_refl _ | simp [takeMap, List.map_map, Function.comp_def, D.le, D.le.go, D.le_refl, D.leGo_refl, lx32, binS_add]) (by simp [D.scalar]) ?_; refine hK2 _ ?_; clear hK2 K2; simp only [putd, upd_lst]; (repeat (refine sxn fun K2 hK2 => ?_; simp [lx32, binS_add]; (repeat (refine ⟨by omega, ?_⟩)); refine hK2 _ ?_; clear hK2 K2)); refine sxz (hK' _ ?_); clear hK' K'; refine hK4 _ (AW.norm [1, 3, 9, 10, 11] [] (fun _ _ => trivial) (AW.st (by simp [lx32, binS_add]; rfl) ?_))
     have qf := (Aq @lx10 @binS_add)
     refine reKv hK3 [1,3,9,10,11] [] ?_; refine AW_re (tyOf_good _) fun K' hK' => ?_; (repeat (refine sxn fun K2 hK2 => ?_; simp; (repeat (refine ⟨by omega, ?_⟩)); refine hK2 _ ?_; clear hK2 K2)); refine sxz (hK' _ ?_); clear hK' K'; (try simp only [thn, inb]); refine Again.mk (i + 1) (by omega) (by omega) ?_; refine Imp.to' (fun _ _ => trivial) (by simp [hfin]) (by simp [hfin])
    ·have hfin : namesTx (p.names.take (i + 1)) = c1 ++ [10] := by rw [hsuc, hnt, if_neg k3, hc1]; simp
     refine AW_cond false (by simp; omega) (fun h => by cases h) (fun _ => ?_); refine AW_skip ?_; refine hK4 _ (AW.norm [1, 3, 9, 10, 11] [] (fun _ _ => trivial) (AW.st (by simp; rfl) ?_))
     have qf := (Aq @lx10 @binS_add)
     refine reKv hK3 [1,3,9,10,11] [] ?_; refine AW_re (tyOf_good _) fun K' hK' => ?_; (repeat (refine sxn fun K2 hK2 => ?_; simp; (repeat (refine ⟨by omega, ?_⟩)); refine hK2 _ ?_; clear hK2 K2)); refine sxz (hK' _ ?_); clear hK' K'; (try simp only [thn, inb]); refine Again.mk (i + 1) (by omega) (by omega) ?_; refine Imp.to' (fun _ _ => trivial) (by simp [hfin]) (by simp [hfin])
  ·obtain rfl : i = p.names.length := by omega
   rw [List.take_length] at hcur; refine AW_exit (hK1 _ ?_); refine AW_then fun K5 hK5 => ?_; refine rg0 [3,40,41,42] [] ?_; refine AW_for (S := Nat) (fun j => j ≤ p.rungs.length) (fun j => ⟨lst [(3, .d (.v (.string (bs (cur ++ rungsTx (p.rungs.take j)))))), (40, .d (.sl none (p.rungs.map cRw'))), (41, int p.rungs.length), (42, int j)], hlst []⟩) (fun j => p.rungs.length - j) 0 ?_ (by simp) ?_
   ·refine Imp.to' (fun _ _ => trivial) (by simp [rungsTx_zero, List.append_nil]) (by simp [rungsTx_zero, List.append_nil])
   ·intro j hj
    have hlr := hR j
    have hld : (cur ++ rungsTx (p.rungs.take j)).length ≤ 2^20 + 2^36 := by rw [List.length_append]; omega
    generalize hd1 : cur ++ rungsTx (p.rungs.take j) = d1 at hld ⊢; refine rg0 [3,40,41,42,43] [] ?_; refine AW_then fun K6 hK6 => ?_; refine AW_cond' (b := j < p.rungs.length) (by simp [D.le, D.le.go, takeMap]) (fun hc => ?_) (fun hc => ?_)
    ·have hjl := hc
     obtain ⟨hkd, hrn, e, hce2, hbe, _⟩ := hrg _ (List.getElem_mem hjl)
     have hsuc : cur ++ rungsTx (p.rungs.take (j + 1)) = d1 ++ rungT p.rungs[j] := by rw [rungsTx, flatT_succ hjl, ← hd1, List.append_assoc]; rfl
     have hrt : rungT p.rungs[j] = headG p.rungs[j].kind ++ p.rungs[j].name ++ [32, 61, 32] ++ condT p.rungs[j].cond ++ [10] := rfl
     have hcr : cRw' p.rungs[j] = [.v (.int .i64 p.rungs[j].kind), .v (.string (bs p.rungs[j].name)), dOR p.rungs[j].cond] := rfl
     rw [hce2] at hrt hcr
     have htx := rtxt_spec G e (Nat.le_trans (wr_len e) (by omega))
     have hwl := wr0_bd e
     simp only [dS] at htx; simp only [condT, dOR] at hrt hcr
     obtain ⟨ec, hec⟩ : ∃ c, dR e = .ip c := ⟨_, dR_form e⟩
     rw [hec] at hcr htx; generalize wrE e 0 = tx at hrt htx hwl; generalize rungT p.rungs[j] = rt at hsuc hrt; generalize p.rungs[j].name = nm at hrn hrt hcr; generalize p.rungs[j].kind = kd at hkd hrt hcr; refine AW_skip (hK6 _ ?_); refine AW_then fun K7 hK7 => ?_; refine AW_block ?_
     have qf := (Aq @hjl @hcr)
     refine rgqv [3,7,40,41,42] [7] ?_; refine AW.imp (Imp.freezeB 7 trivial) ?_; refine AW.st (by simp; rfl) ?_; refine AW_then fun K8 hK8 => ?_
     have hgl := headG_len kd
     refine' lateG (fun hst => ?_) ?_
     rotate_left
     ·by_cases k1 : kd = 1
      ·have qf := @k1
       refine rgqv [3,7,40,41,42,48] [] ?_; refine AW_ff rfl ?_; refine AW_skip ?_; refine hK8 _ (AW.norm [3, 7, 40, 41, 42] [] (fun _ _ => trivial) (AW.st (by simp; rfl) ?_)); refine AW.st (show _ = (⟨lst [(3, .d (.v (.string (bs (d1 ++ headG kd))))), (7, .d (.ip [.v (.int .i64 kd), .v (.string (bs nm)), .ip ec])), (40, .d (.sl none (p.rungs.map cRw'))), (41, int p.rungs.length), (42, int j)], hlst []⟩ : St) by rw [k1, show headG 1 = [] from rfl, List.append_nil] <;> rfl) ?_; exact hst.out
      by_cases k2 : kd = 2
      ·have qf := @k2
       refine rgqv [3,7,40,41,42,48] [] ?_; refine AW_tt rfl ?_
       have qf := (Aq @hRW (Aq @lx32 @binS_add))
       refine reKv hK8 [3,7,40,41,42] [] ?_; refine AW.st (show _ = (⟨lst [(3, .d (.v (.string (bs (d1 ++ headG kd))))), (7, .d (.ip [.v (.int .i64 kd), .v (.string (bs nm)), .ip ec])), (40, .d (.sl none (p.rungs.map cRw'))), (41, int p.rungs.length), (42, int j)], hlst []⟩ : St) by rw [k2] <;> rfl) ?_; exact hst.out
      by_cases k3 : kd = 3
      ·have qf := @k3
       refine rgqv [3,7,40,41,42,48] [] ?_; refine AW_tt rfl ?_
       have qf := (Aq @hRW (Aq @lx32 @binS_add))
       refine reKv hK8 [3,7,40,41,42] [] ?_; refine AW.st (show _ = (⟨lst [(3, .d (.v (.string (bs (d1 ++ headG kd))))), (7, .d (.ip [.v (.int .i64 kd), .v (.string (bs nm)), .ip ec])), (40, .d (.sl none (p.rungs.map cRw'))), (41, int p.rungs.length), (42, int j)], hlst []⟩ : St) by rw [k3] <;> rfl) ?_; exact hst.out
      by_cases k4 : kd = 4
      ·have qf := @k4
       refine rgqv [3,7,40,41,42,48] [] ?_; refine AW_tt rfl ?_
       have qf := (Aq @hRW (Aq @lx32 @binS_add))
       refine reKv hK8 [3,7,40,41,42] [] ?_; refine AW.st (show _ = (⟨lst [(3, .d (.v (.string (bs (d1 ++ headG kd))))), (7, .d (.ip [.v (.int .i64 kd), .v (.string (bs nm)), .ip ec])), (40, .d (.sl none (p.rungs.map cRw'))), (41, int p.rungs.length), (42, int j)], hlst []⟩ : St) by rw [k4] <;> rfl) ?_; exact hst.out
      by_cases k5 : kd = 5
      ·have qf := @k5
       refine rgqv [3,7,40,41,42,48] [] ?_; refine AW_tt rfl ?_
       have qf := (Aq @hRW (Aq @lx32 @binS_add))
       refine reKv hK8 [3,7,40,41,42] [] ?_; refine AW.st (show _ = (⟨lst [(3, .d (.v (.string (bs (d1 ++ headG kd))))), (7, .d (.ip [.v (.int .i64 kd), .v (.string (bs nm)), .ip ec])), (40, .d (.sl none (p.rungs.map cRw'))), (41, int p.rungs.length), (42, int j)], hlst []⟩ : St) by rw [k5] <;> rfl) ?_; exact hst.out
      have k6 : kd = 6 := by omega
      have qf := @k6
      refine rgqv [3,7,40,41,42,48] [] ?_; refine AW_tt rfl ?_
      have qf := (Aq @hRW (Aq @lx32 @binS_add))
      refine reKv hK8 [3,7,40,41,42] [] ?_; refine AW.st (show _ = (⟨lst [(3, .d (.v (.string (bs (d1 ++ headG kd))))), (7, .d (.ip [.v (.int .i64 kd), .v (.string (bs nm)), .ip ec])), (40, .d (.sl none (p.rungs.map cRw'))), (41, int p.rungs.length), (42, int j)], hlst []⟩ : St) by rw [k6] <;> rfl) ?_; exact hst.out
     ·have hfin : cur ++ rungsTx (p.rungs.take (j + 1)) = (d1 ++ headG kd) ++ (nm ++ 32 :: 61 :: 32 :: (tx ++ [10])) := by rw [hsuc, hrt]; simp
      generalize hd2 : d1 ++ headG kd = d2 at hfin ⊢
      have hld2 : d2.length ≤ 2^20 + 2^36 + 6 := by rw [← hd2, List.length_append]; omega
      refine AW_rde (tyOf_good _) (by kernel_rfl) (by kernel_rfl) fun K' hK' => ?_; (repeat (refine sxd_next fun K2 hK2 => ?_; simp [lxeq, lx10, binS_add]; (repeat (refine ⟨by omega, ?_⟩)); refine hK2 _ ?_; clear hK2 K2)); refine sxd_next fun K2 hK2 => ?_; simp [lxeq, lx10, binS_add]; refine callQ.data (htx) (by simp; rfl) (by simp; rfl) (by first | exact D.leGo_refl _ | simp [takeMap, List.map_map, Function.comp_def, D.le, D.le.go, D.le_refl, D.leGo_refl, lxeq, lx10, binS_add]) ?_; refine hK2 _ ?_; clear hK2 K2; simp only [putd, upd_lst]; (repeat (refine sxd_next fun K2 hK2 => ?_; simp [lxeq, lx10, binS_add]; (repeat (refine ⟨by omega, ?_⟩)); refine hK2 _ ?_; clear hK2 K2)); refine sxd_nil (hK' _ ?_); clear hK' K'; refine hK7 _ (AW.norm [3, 40, 41, 42] [] (fun _ _ => trivial) (AW.st (by simp [lxeq, lx10, binS_add]; rfl) ?_)); refine AW_re (tyOf_good _) fun K' hK' => ?_; (repeat (refine sxn fun K2 hK2 => ?_; simp; (repeat (refine ⟨by omega, ?_⟩)); refine hK2 _ ?_; clear hK2 K2)); refine sxz (hK' _ ?_); clear hK' K'; (try simp only [thn, inb]); refine Again.mk (j + 1) (by omega) (by omega) ?_; refine Imp.to' (fun _ _ => trivial) (by simp [hfin]) (by simp [hfin])
    ·obtain rfl : j = p.rungs.length := by omega
     rw [List.take_length] at hd1; refine AW_exit (hK5 _ ?_); refine rg0 [2] [] ?_; refine AW_ret ?_; simp [D.le, D.le.go, takeMap]; rw [hT, hcur, hd1]
end Go.Proofs.YthnjfeielmbfkaaGreatDoor
namespace Go.Proofs.YthnjfeielmbfkaaGreatDoor
open Go.Av
theorem checkP_code {p : PgP} {c : Int} {o : Option Nat} (h : checkP p = some (c, o)) : c ≠ 0 := by
 unfold checkP at h
 split at h
 ·simp only [Option.some.injEq, Prod.mk.injEq] at h; omega
 split at h
 ·rename_i hf
  simp only [Option.some.injEq, Prod.mk.injEq] at h
  have := (firstBad_lt hf).2.2
  rw [← h.1]; exact this
 split at h
 ·rename_i hf
  simp only [Option.some.injEq, Prod.mk.injEq] at h
  have := (firstBad_lt hf).2.2
  rw [← h.1]; exact this
 ·cases h
theorem nameF_len {s : Tx} (h : nameF s = true) : s ≠ [] ∧ s.length ≤ 8 := by
 unfold nameF at h; simp only [Bool.and_eq_true, decide_eq_true_eq] at h; exact ⟨h.1, h.2.1⟩
end Go.Proofs.YthnjfeielmbfkaaGreatDoor
namespace Go.Proofs.YthnjfeielmbfkaaGreatDoor
open Go.Av
def getS (l : List Tx) (n : Nat) : PrS := match prK l n with
 | .inr s => s
 | .inl _ => prS0
theorem getS_of {l : List Tx} {n : Nat} {s : PrS} (h : prK l n = .inr s) : getS l n = s := by unfold getS; rw [h]
theorem wordsT_ne {t : Tx} : ∀ w ∈ wordsT t, w ≠ [] := by
 intro w h
 unfold wordsT at h; rw [← wordsGo_cut] at h
 have := (List.mem_filter.1 h).2
 simpa using this
theorem ixW_w {l : List Tx} {s : Tx} {k : Nat} (hk : k < l.length) (h0 : l[k] ≠ s) : ixW l s ≠ k := by
 intro e
 have h1 : ¬ ixW l s < 0 := by omega
 unfold ixW at e h1
 obtain ⟨j, hj, he, hs⟩ := idx_pos h1
 rw [he] at e
 have : j = k := by omega
 subst this; exact h0 (by simpa using hs)
theorem cut_parts61 {t : Tx} (h : (61 : UInt8) ∈ t) : (cutAt 61 t).1.length + 1 + (cutAt 61 t).2.length = t.length ∧ (bs t).extract 0 (cutAt 61 t).1.length = bs (cutAt 61 t).1 ∧ (bs t).extract ((cutAt 61 t).1.length + 1) t.length = bs (cutAt 61 t).2 := by
 obtain ⟨a, b, rfl, ha⟩ := List.eq_append_cons_of_mem h
 rw [cutAt_some ha]; refine ⟨by simp; omega, ?_, ?_⟩
 ·rw [Lib.extract_eq]; simp [bs]
 ·rw [Lib.extract_eq]
  have : (a ++ 61 :: b).drop (a.length + 1) = b := by
   rw [show a.length + 1 = (a ++ [(61 : UInt8)]).length by simp, show a ++ (61 : UInt8) :: b = (a ++ [61]) ++ b by simp, List.drop_left]
  simp only [bs]; rw [this, List.take_of_length_le (by simp; omega)]
theorem lx61b : (61 : UInt8).toNat = 61 := rfl
set_option maxRecDepth 100000 in
set_option maxHeartbeats 64000000 in
theorem rpparse_spec (G : Glob) (hF : HasFine G) (hM : HasMax G) (hP : HasP10 G) {es er : Value} (hE : HasNE G es er) (hNW : HasNW G) (hRW : HasRW G) (t : Tx) : PureC Tryz.prog G 39 [dS t] (.tup [dPw (parseP t).2, dFault (parseP t).1]) := by
 have hbare := bare0_spec G 4
 simp only [dNum] at hbare
 have hF0 : G 0 = some (.ip [.v (.int .i64 0), .v (.int .i64 (-1))]) := hF
 unfold HasNW at hNW; unfold HasRW at hRW; refine PureC.of_body (tyOf_good _) Tryz.func39 rfl rfl (rs := [.cell 2 78, .cell 3 64]) Tryz.results39 (by simp [Tryz.ntmps39]) fun X => ?_; simp only [Tryz.ntmps39, List.map]
 have fw := (Aq @dNum.eq_1 @dS.eq_1)
 refine rgq fw [0,2,3] [2,3] ?_; refine AW_then fun K1 hK1 => ?_
 by_cases ht : 20000 < t.length
 ·have ht1 : (t.length : Int) > 20000 := by omega
  have hp : parseP t = (some (4, none), ⟨[], []⟩) := by unfold parseP; rw [if_pos ht]
  have qf := (Aq fw (Aq @bs_size @ht1))
  refine rgqv [0,2,3,23] [2,3] ?_; refine AW_cond true (by simp [ht1]) (fun _ => ?_) (fun h => by cases h); refine rgc fw hbare [2,3] [2,3] ?_; refine AW_ret ?_; simp [D.le, D.le.go, takeMap, dNum, dS, hp, dPw, cPw, dNms, dFault, codeF, placeF]
 have ht1 : ¬ (t.length : Int) > 20000 := by omega
 have qf := (Aq fw (Aq @bs_size @ht1))
 refine rgqv [0,2,3,23] [2,3] ?_; refine AW_cond false (by simp [ht1]) (fun h => by cases h) (fun _ => ?_); refine AW_skip (hK1 _ ?_); refine rgq fw [0,2,3,4] [2,3,4] ?_; refine rgq fw [0,2,3,4,5,6] [2,3,4] ?_; refine rgq fw [0,2,3,4,5,6,7] [2,3,4] ?_; refine AW_then fun K2 hK2 => ?_
 have hsp := split1_spec G hM t 10 (by omega)
 obtain ⟨l, hl⟩ : ∃ l, l = cutT 10 t := ⟨_, rfl⟩
 have hllen := cutT_len 10 t
 rw [← hl] at hsp hllen; simp only [dS] at hsp
 have qf := (Aq fw @lxs10)
 refine rgcv hsp [2,3,4,5,6,7,27,28,29] [2,3,4] ?_; refine AW.imp (Imp.adopt 5 803 3 1 rfl rfl) ?_; refine AW.st (by simp; rfl) ?_; refine AW.imp (Imp.adopt 6 804 3 1 rfl rfl) ?_; refine AW.st (by simp; rfl) ?_; refine AW.imp (Imp.adoptCell 4 0 801 172 3 rfl rfl rfl) ?_; refine AW.st (by simp; rfl) ?_; refine AW.imp (Imp.adoptCell 4 1 802 175 3 rfl rfl rfl) ?_; refine AW.st (by simp; rfl) ?_
 obtain ⟨NN, hNN⟩ : ∃ f : Nat → List (List D), f = fun n => (getS l n).names.map cNm := ⟨_, rfl⟩
 obtain ⟨RR, hRR⟩ : ∃ f : Nat → List (List D), f = fun n => (getS l n).rungs.map cRw' := ⟨_, rfl⟩
 obtain ⟨NA, hNA⟩ : ∃ f : Nat → List (List D), f = fun n => dPls (getS l n).nAt := ⟨_, rfl⟩
 obtain ⟨RA, hRA⟩ : ∃ f : Nat → List (List D), f = fun n => dPls (getS l n).rAt := ⟨_, rfl⟩
 obtain ⟨PL, hPL⟩ : ∃ f : Nat → Int, f = fun n => (placeK l n : Int) := ⟨_, rfl⟩
 have hNNe : ∀ n s, prK l n = .inr s → NN n = s.names.map cNm := fun n s h => by rw [hNN]; dsimp only; rw [getS_of h]
 have hRRe : ∀ n s, prK l n = .inr s → RR n = s.rungs.map cRw' := fun n s h => by rw [hRR]; dsimp only; rw [getS_of h]
 have hNAe : ∀ n s, prK l n = .inr s → NA n = dPls s.nAt := fun n s h => by rw [hNA]; dsimp only; rw [getS_of h]
 have hRAe : ∀ n s, prK l n = .inr s → RA n = dPls s.rAt := fun n s h => by rw [hRA]; dsimp only; rw [getS_of h]
 have hPLe : ∀ n, PL n = (placeK l n : Int) := fun n => by rw [hPL]
 have z1 : NN 0 = [] := hNNe 0 prS0 rfl
 have z2 : RR 0 = [] := hRRe 0 prS0 rfl
 have z3 : NA 0 = [] := hNAe 0 prS0 rfl
 have z4 : RA 0 = [] := hRAe 0 prS0 rfl
 have z5 : PL 0 = 0 := hPLe 0
 clear hNN hRR hNA hRA hPL; refine AW_for (S := Nat) (fun n => n ≤ l.length ∧ ∃ s, prK l n = .inr s) (fun n => ⟨lst [(2, .ref 2 0 0), (3, .ref 3 0 0), (4, .ref 4 0 0), (5, .own 803 0 (NA n).length), (6, .own 804 0 (RA n).length), (7, int (PL n)), (27, .d (.sl (some true) (l.map fun s => [.v (.string (bs s))]))), (28, int l.length), (29, int n)], hlst [(2, .box 78 [.d nil2, .d nil2]), (3, .box 64 [.d (.v (.int .i64 0)), .d (.v (.int .i64 0))]), (4, .box 78 [.own 801 0 (NN n).length, .own 802 0 (RR n).length]), (801, .sl 172 3 (NN n)), (802, .sl 175 3 (RR n)), (803, .sl 3 1 (NA n)), (804, .sl 3 1 (RA n))]⟩) (fun n => l.length - n) 0 ?_ ⟨by omega, prS0, rfl⟩ ?_
 ·refine Imp.to' (fun _ _ => trivial) (by simp [dNum, dS, z1, z2, z3, z4, z5, nil2]) (by simp [dNum, dS, z1, z2, z3, z4, z5, nil2])
 ·rintro n ⟨hn0, s, hs⟩
  refine rgq fw [2,3,4,5,6,7,27,28,29,30] [2,3,4,801,802,803,804] ?_; refine AW_then fun K3 hK3 => ?_
  by_cases hlt : n < l.length
  ·refine AW_cond true (by simp [hlt]) (fun _ => ?_) (fun h => by cases h); refine AW_skip (hK3 _ ?_); refine AW_then fun K4 hK4 => ?_; refine AW_block ?_
   have hpb : placeK l n + l[n].length ≤ t.length := by subst hl; exact piece_le hlt
   have hpl : PL (n + 1) = (placeK l n : Int) + ((l[n].length : Int) + 1) := by rw [hPLe, placeK_succ hlt]; omega
   have hok := prOk_k (t := t) (by omega) (Nat.le_of_lt (hl ▸ hlt)) (hl ▸ hs)
   have hnx : ∀ s', stepS s (placeK l n) l[n] = .inr s' → prK l (n + 1) = .inr s' := fun s' h => prK_next hlt hs h
   have herr : ∀ c i, stepS s (placeK l n) l[n] = .inl (c, i) → parseP t = (some (c, some i), ⟨[], []⟩) := fun c i h => parseP_bad (by omega) (hl ▸ prK_err hlt hs h)
   obtain ⟨hnl, hrl, hnm, _, _⟩ := hok
   have hN2 : (NN n).length = s.names.length := by rw [hNNe n s hs]; simp
   have hR2 : (RR n).length = s.rungs.length := by rw [hRRe n s hs]; simp
   have hNA2 : (NA n).length = s.names.length := by rw [hNAe n s hs]; simp [dPls, hnl]
   have hRA2 : (RA n).length = s.rungs.length := by rw [hRAe n s hs]; simp [dPls, hrl]
   have hNN1 := fun s' h => hNNe (n + 1) s' h
   have hRR1 := fun s' h => hRRe (n + 1) s' h
   have hNA1 := fun s' h => hNAe (n + 1) s' h
   have hRA1 := fun s' h => hRAe (n + 1) s' h
   have b1 := (hNNe n s hs).symm
   have b2 := (hRRe n s hs).symm
   have b3 := (hNAe n s hs).symm
   have b4 := (hRAe n s hs).symm
   rw [hPLe n]
   have hwd := words_spec G hM l[n] (by omega)
   have hcw := fun c => sibyte_spec G l[n] c
   have hln : ∀ x, x = l[n] → x.length ≤ 20000 := fun x h => by rw [h]; omega
   have qf := (Aq fw @hlt)
   refine rgqv [2,3,4,5,6,7,9,27,28,29] [2,3,4,801,802,803,804] ?_; generalize hlx : l[n] = ln at *; generalize hpk : placeK l n = pk at *; generalize NN n = N1 at *; generalize RR n = R1 at *; generalize NA n = A1 at *; generalize RA n = A2 at *; refine rgq fw [2,3,4,5,6,7,9,10,27,28,29] [2,3,4,801,802,803,804] ?_
   have qf := (Aq fw @bs_size)
   refine rgqv [2,3,4,5,6,7,9,10,27,28,29] [2,3,4,801,802,803,804] ?_; refine AW_then fun K5 hK5 => ?_
   have hwn := fun w h => wordsT_mem (t := ln) (w := w) h
   have hwl := wordsT_len ln
   by_cases h0 : wordsT ln = []
   ·have hst : stepS s pk ln = .inr s := by unfold stepS; rw [if_pos h0]
    have hn := hnx _ hst
    rw [h0] at hwd; simp only [dS] at hwd; refine rgc fw hwd [2,3,4,5,6,7,9,10,27,28,29,42] [2,3,4,801,802,803,804] ?_; refine AW_tt rfl ?_; refine AW_exit (hK4 _ ?_); refine AW_re (tyOf_good _) fun K' hK' => ?_; (repeat (refine sxn fun K2 hK2 => ?_; simp [dNum, dS]; (repeat (refine ⟨by omega, ?_⟩)); refine hK2 _ ?_; clear hK2 K2)); refine sxz (hK' _ ?_); clear hK' K'; (try simp only [thn, inb]); refine Again.mk (n + 1) ⟨by omega, s, hn⟩ (by omega) ?_
    have e1 := hNN1 _ hn
    have e2 := hRR1 _ hn
    have e3 := hNA1 _ hn
    have e4 := hRA1 _ hn
    rw [b1] at e1; rw [b2] at e2; rw [b3] at e3; rw [b4] at e4; refine Imp.to' (fun _ _ => trivial) (by simp [dNum, dS, e1, e2, e3, e4, hpl]) (by simp [dNum, dS, e1, e2, e3, e4, hpl])
   have hst0 : stepS s pk ln = match lineP ln with
    | .form => .inl (3, pk)
    | .bad c off => .inl (c, pk + off)
    | .name n => if s.rungs = [] then .inr ⟨s.names ++ [n], s.nAt ++ [pk], s.rungs, s.rAt⟩ else .inl (3, pk)
    | .rung r => .inr ⟨s.names, s.nAt, s.rungs ++ [r], s.rAt ++ [pk]⟩ := by unfold stepS; rw [if_neg h0]; cases lineP ln <;> rfl
   have hlpd : lineP ln = if (61 : UInt8) ∈ ln then rungL (cutAt 61 ln).1 (cutAt 61 ln).2 (wordsT (cutAt 61 ln).1) else nameL (wordsT ln) := rfl
   have hwp : 0 < (wordsT ln).length := List.length_pos_iff.2 h0
   have hci := hcw 61
   simp only [lx61b, dS, dNum] at hci; generalize hws : wordsT ln = ws at *
   have hwlm : (ws.map fun s => [dS s]).length = ws.length := by simp
   have hw0 : ¬ (ws.length : Int) = 0 := by omega
   simp only [dS] at hwd
   have qf := (Aq fw (Aq @hw0 @h0))
   refine rgcv hwd [2,3,4,5,6,7,9,10,27,28,29,42] [2,3,4,801,802,803,804] ?_; refine AW_cond false (by simp [hw0, h0]) (fun h => by cases h) (fun _ => ?_); refine AW_skip (hK5 _ ?_)
   by_cases h61 : (61 : UInt8) ∈ ln
   ·rw [if_pos h61] at hlpd hci
    have hle := cutAt_le 61 ln
    have hcp := cut_parts61 h61
    have hwh := words_spec G hM (cutAt 61 ln).1 (by omega)
    have hpr := rparse_spec G hF (cutAt 61 ln).2 (by omega)
    have hwhn := wordsT_ne (t := (cutAt 61 ln).1)
    generalize (cutAt 61 ln).1 = hd at *; generalize (cutAt 61 ln).2 = rest at *
    obtain ⟨hcl, hx1, hx2⟩ := hcp
    have hmx0 : ¬ (-1 : Int) > 0 := by omega
    simp only [dS] at hwh hpr; refine rgc fw hci [2,3,4,5,6,7,9,10,11,27,28,29] [2,3,4,801,802,803,804] ?_; refine AW_then fun K6 hK6 => ?_; refine rgq fw [2,3,4,5,6,7,9,10,11,27,28,29,46] [2,3,4,801,802,803,804] ?_; refine AW_cond true (by simp) (fun _ => ?_) (fun h => by cases h)
    have qf := (Aq fw (Aq @bs_size @hx1))
    refine rgcv hwh [2,3,4,5,6,7,9,10,11,12,27,28,29] [2,3,4,801,802,803,804] ?_; refine rgq fw [2,3,4,5,6,7,9,10,11,12,13,27,28,29] [2,3,4,13,801,802,803,804] ?_
    match hwx : wordsT hd, hwhn with
    | [], _ =>
     rw [hwx] at hlpd; simp only [hwx, List.map_nil]; refine AW_then fun K7 hK7 => ?_; refine rgq fw [2,3,4,5,6,7,9,10,11,12,13,27,28,29,53] [2,3,4,13,801,802,803,804] ?_; refine AW_block ?_; refine rgq fw [2,3,4,5,6,7,9,10,11,12,13,27,28,29,53,54] [2,3,4,13,801,802,803,804] ?_; refine AW_ff rfl ?_; refine rgq fw [2,3,4,5,6,7,9,10,11,12,13,27,28,29,60] [2,3,4,13,801,802,803,804] ?_; refine AW_ff rfl ?_; refine AW_skip (hK7 _ ?_)
     have hp := herr 3 pk (by rw [hst0, hlpd]; try rfl)
     refine AW_then fun K8 hK8 => ?_
     have qf := (Aq fw @hcl)
     refine rgqv [2,3,4,5,6,7,9,10,11,13,27,28,29,84] [2,3,4,13,801,802,803,804] ?_; refine AW_cond true (by simp [hcl]) (fun _ => ?_) (fun h => by cases h); refine rgq fw [2,3] [2,3] ?_; refine AW_ret ?_; simp [D.le, D.le.go, takeMap, dNum, dS, hp, dPw, cPw, dNms, dFault, codeF, placeF]
    | [a], _ =>
     rw [hwx] at hlpd
     have hk1 : True := trivial
     simp only [hwx, List.map_nil, List.map_cons]; refine AW_then fun K7 hK7 => ?_; refine rgq fw [2,3,4,5,6,7,9,10,11,12,13,27,28,29,53] [2,3,4,13,801,802,803,804] ?_; refine AW_block ?_; refine rgq fw [2,3,4,5,6,7,9,10,11,12,13,27,28,29,53,54] [2,3,4,13,801,802,803,804] ?_; refine AW_tt rfl ?_; refine reK fw hK7 [2,3,4,5,6,7,9,10,11,12,13,27,28,29] [2,3,4,13,801,802,803,804] ?_; refine AW_then fun K8 hK8 => ?_
     have qf := (Aq fw @hk1)
     refine rgqv [2,3,4,5,6,7,9,10,11,13,27,28,29,84] [2,3,4,13,801,802,803,804] ?_; refine AW_cond false (by simp [hk1]) (fun h => by cases h) (fun _ => ?_); refine AW_skip (hK8 _ ?_)
     have hrl : lineP ln = rungP 1 a hd rest := hlpd
     unfold rungP at hrl
     cases hpe : (parseM rest).2 with
     | some ci =>
      obtain ⟨c, o⟩ := ci
      have hc0 := parse_pos hpe
      have hc1 : ¬ c = 0 := by omega
      rw [hpe] at hpr hrl
      dsimp only at hrl
      have hp := herr c (pk + (hd.length + 1 + o.getD 0)) (by rw [hst0, hrl])
      cases o with
      | none =>
       simp only [dFault, codeF, placeF, dNum] at hpr
       have hcs : ((pk + (hd.length + 1 + (none : Option Nat).getD 0) : Nat) : Int) = (pk : Int) + (hd.length : Int) + 1 := by simp; omega
       rw [show (some (pk + (hd.length + 1 + (none : Option Nat).getD 0))) = some (pk + (hd.length + 1 + (none : Option Nat).getD 0)) from rfl] at hp
       have qf := (Aq fw (Aq @bs_size @hx2))
       refine rgcv hpr [2,3,4,5,6,7,10,11,13,14,15,27,28,29] [2,3,4,13,15,801,802,803,804] ?_; refine AW_then fun K9 hK9 => ?_
       have qf := (Aq fw @hc1)
       refine rgqv [2,3,4,5,6,7,10,11,13,14,15,27,28,29,98] [2,3,4,13,15,801,802,803,804] ?_; refine AW_cond true (by simp [hc1]) (fun _ => ?_) (fun h => by cases h); refine AW_rdg (tyOf_good _) (by kernel_rfl) [(2, 15), (8, 15), (12, 2), (13, 3)] [2, 3] [2, 3, 13, 15] (fun _ _ => trivial) (by kernel_rfl) fun K' hK' => ?_; (repeat (refine sxg_next fun K2 hK2 => ?_; simp [dNum, dS, hmx0]; (repeat (refine ⟨by omega, ?_⟩)); refine hK2 _ ?_; clear hK2 K2)); refine sxg_nil (hK' _ ?_); refine AW.st (by simp [dNum, dS, hmx0]; rfl) ?_; clear hK' K'; refine AW_ret ?_; simp [D.le, D.le.go, takeMap, dNum, dS, hp, dPw, cPw, dNms, dFault, codeF, placeF, hcs]
       omega
      | some o =>
       have hob := parse_at hpe
       simp only [dFault, codeF, placeF, dNum] at hpr
       have hcs : ((pk + (hd.length + 1 + (some o).getD 0) : Nat) : Int) = (pk : Int) + (hd.length : Int) + 1 + (o : Int) := by simp; omega
       have hmx1 : ¬ (o : Int) < 0 := by omega
       have qf := (Aq fw (Aq @bs_size @hx2))
       refine rgcv hpr [2,3,4,5,6,7,10,11,13,14,15,27,28,29] [2,3,4,13,15,801,802,803,804] ?_; refine AW_then fun K9 hK9 => ?_
       have qf := (Aq fw @hc1)
       refine rgqv [2,3,4,5,6,7,10,11,13,14,15,27,28,29,98] [2,3,4,13,15,801,802,803,804] ?_; refine AW_cond true (by simp [hc1]) (fun _ => ?_) (fun h => by cases h); refine AW_rdg (tyOf_good _) (by kernel_rfl) [(2, 15), (8, 15), (12, 2), (13, 3)] [2, 3] [2, 3, 13, 15] (fun _ _ => trivial) (by kernel_rfl) fun K' hK' => ?_; (repeat (refine sxg_next fun K2 hK2 => ?_; simp [dNum, dS, hmx1]; (repeat (refine ⟨by omega, ?_⟩)); refine hK2 _ ?_; clear hK2 K2)); refine sxg_nil (hK' _ ?_); refine AW.st (by simp [dNum, dS, hmx1]; rfl) ?_; clear hK' K'; refine AW_ret ?_; simp [D.le, D.le.go, takeMap, dNum, dS, hp, dPw, cPw, dNms, dFault, codeF, placeF, hcs]
       split <;> omega
     | none =>
      rw [hpe] at hpr hrl
      dsimp only at hrl
      obtain ⟨e, hpe1⟩ := parse_some hpe
      rw [hpe1] at hpr hrl
      have hn := hnx _ (by rw [hst0, hrl])
      have hrs : (s.rungs ++ [(⟨1, a, some e⟩ : RgP)]).map cRw' = R1 ++ [[.v (.int .i64 1), .v (.string (bs a)), dR e]] := by rw [List.map_append, b2]; rfl
      have hps : dPls (s.rAt ++ [pk]) = A2 ++ [[.v (.int .i64 pk)]] := by rw [dPls_app, b4]; rfl
      obtain ⟨cs, hde⟩ := dR_ip e
      simp only [dFault, codeF, placeF, dNum, dOR] at hpr; rw [hde] at hpr hrs
      have qf := (Aq fw (Aq @bs_size @hx2))
      refine rgcv hpr [2,3,4,5,6,7,10,11,13,14,15,27,28,29] [2,3,4,13,15,801,802,803,804] ?_; refine AW_then fun K9 hK9 => ?_; refine rgq fw [2,3,4,5,6,7,10,11,13,14,15,27,28,29,98] [2,3,4,13,15,801,802,803,804] ?_; refine AW_ff rfl ?_; refine AW_skip (hK9 _ ?_); refine rgq fw [2,3,4,5,6,7,10,13,27,28,29] [2,3,4,13,801,802,803,804] ?_; refine rg [2, 3, 4, 5, 6, 7, 27, 28, 29] [2, 3, 4, 801, 802, 803, 804] (fun _ _ => trivial) fun K' hK' => ?_; (repeat (refine sxn fun K2 hK2 => ?_; simp [dNum, dS, List.take_of_length_le]; (repeat (refine ⟨by omega, ?_⟩)); refine hK2 _ ?_; clear hK2 K2)); refine sxz (hK' _ (AW.st (by simp [dNum, dS, List.take_of_length_le]; rfl) ?_)); clear hK' K'; refine AW_exit (hK4 _ ?_); refine AW_re (tyOf_good _) fun K' hK' => ?_; (repeat (refine sxn fun K2 hK2 => ?_; simp [dNum, dS]; (repeat (refine ⟨by omega, ?_⟩)); refine hK2 _ ?_; clear hK2 K2)); refine sxz (hK' _ ?_); clear hK' K'; (try simp only [thn, inb]); refine Again.mk (n + 1) ⟨by omega, _, hn⟩ (by omega) ?_
      have e1 := hNN1 _ hn
      have e2 := hRR1 _ hn
      have e3 := hNA1 _ hn
      have e4 := hRA1 _ hn
      try dsimp only at e1 e2 e3 e4
      rw [b1] at e1; rw [hrs] at e2; rw [b3] at e3; rw [hps] at e4; refine Imp.to' (fun _ _ => trivial) (by simp [dNum, dS, e1, e2, e3, e4, hpl]) (by simp [dNum, dS, e1, e2, e3, e4, hpl])
    | [a, b], hab =>
     rw [hwx] at hlpd; simp only [hwx, List.map_nil, List.map_cons]
     have ha := hab a (by simp)
     have hix : PureC Tryz.prog G 86 [.sl none [[.v (.string (bs []))], [.v (.string (bs []))], [.v (.string (bs [115, 101, 116]))], [.v (.string (bs [114, 101, 115, 101, 116]))], [.v (.string (bs [114, 117, 110]))], [.v (.string (bs [99, 111, 117, 110, 116]))], [.v (.string (bs [122, 101, 114, 111]))]], .v (.string (bs a))] (.v (.int .i64 (ixW kwR a))) := ldw_ix G none kwR a ha (by decide)
     have hn0' : ixW kwR a ≠ 0 := ixW_w (l := kwR) (k := 0) (by decide) (fun h => ha h.symm)
     have hn1' : ixW kwR a ≠ 1 := ixW_w (l := kwR) (k := 1) (by decide) (fun h => ha h.symm)
     have hbd := ixW_bd kwR a
     refine AW_then fun K7 hK7 => ?_; refine rgq fw [2,3,4,5,6,7,9,10,11,12,13,27,28,29,53] [2,3,4,13,801,802,803,804] ?_; refine AW_block ?_; refine rgq fw [2,3,4,5,6,7,9,10,11,12,13,27,28,29,53,54] [2,3,4,13,801,802,803,804] ?_; refine AW_ff rfl ?_; refine rgq fw [2,3,4,5,6,7,9,10,11,12,13,27,28,29,60] [2,3,4,13,801,802,803,804] ?_; refine AW_tt rfl ?_; refine AW_rdge (tyOf_good _) (by kernel_rfl) [(2, 999), (3, 999), (6, 999), (7, 999), (9, 13), (11, 13)] (by kernel_rfl) fun K' hK' => ?_; (repeat (refine sxg_next fun K2 hK2 => ?_; simp [dNum, dS, hRW]; (repeat (refine ⟨by omega, ?_⟩)); refine hK2 _ ?_; clear hK2 K2)); refine sxg_next fun K2 hK2 => ?_; simp [dNum, dS, hRW]; refine callQ.data (hix) (by simp; rfl) (by simp; rfl) (by first | exact D.leGo_refl _ | simp [takeMap, List.map_map, Function.comp_def, D.le, D.le.go, D.le_refl, D.leGo_refl, dNum, dS, hRW]) ?_; refine hK2 _ ?_; clear hK2 K2; simp only [putd, upd_lst]; (repeat (refine sxg_next fun K2 hK2 => ?_; simp [dNum, dS, hRW]; (repeat (refine ⟨by omega, ?_⟩)); refine hK2 _ ?_; clear hK2 K2)); refine sxg_nil (hK' _ ?_); clear hK' K'; refine hK7 _ (AW.norm [2, 3, 4, 5, 6, 7, 9, 10, 11, 12, 13, 27, 28, 29] [2, 3, 4, 13, 801, 802, 803, 804] (fun _ _ => trivial) (AW.st (by simp [dNum, dS, hRW]; rfl) ?_)); simp only [rungL] at hlpd; generalize ixW kwR a = kk at *
     by_cases hk2 : kk < 2
     ·rw [if_pos hk2] at hlpd
      have hk1 : kk < 1 := by omega
      have hp := herr 3 pk (by rw [hst0, hlpd]; try rfl)
      refine AW_then fun K8 hK8 => ?_
      have qf := (Aq fw @hk1)
      refine rgqv [2,3,4,5,6,7,9,10,11,13,27,28,29,84] [2,3,4,13,801,802,803,804] ?_; refine AW_cond true (by simp [hk1]) (fun _ => ?_) (fun h => by cases h); refine rgq fw [2,3] [2,3] ?_; refine AW_ret ?_; simp [D.le, D.le.go, takeMap, dNum, dS, hp, dPw, cPw, dNms, dFault, codeF, placeF]
     ·rw [if_neg hk2] at hlpd
      have hk1 : ¬ kk < 1 := by omega
      refine AW_then fun K8 hK8 => ?_
      have qf := (Aq fw @hk1)
      refine rgqv [2,3,4,5,6,7,9,10,11,13,27,28,29,84] [2,3,4,13,801,802,803,804] ?_; refine AW_cond false (by simp [hk1]) (fun h => by cases h) (fun _ => ?_); refine AW_skip (hK8 _ ?_)
      have hrl : lineP ln = rungP kk b hd rest := hlpd
      unfold rungP at hrl
      cases hpe : (parseM rest).2 with
      | some ci =>
       obtain ⟨c, o⟩ := ci
       have hc0 := parse_pos hpe
       have hc1 : ¬ c = 0 := by omega
       rw [hpe] at hpr hrl
       dsimp only at hrl
       have hp := herr c (pk + (hd.length + 1 + o.getD 0)) (by rw [hst0, hrl])
       cases o with
       | none =>
        simp only [dFault, codeF, placeF, dNum] at hpr
        have hcs : ((pk + (hd.length + 1 + (none : Option Nat).getD 0) : Nat) : Int) = (pk : Int) + (hd.length : Int) + 1 := by simp; omega
        rw [show (some (pk + (hd.length + 1 + (none : Option Nat).getD 0))) = some (pk + (hd.length + 1 + (none : Option Nat).getD 0)) from rfl] at hp
        have qf := (Aq fw (Aq @bs_size @hx2))
        refine rgcv hpr [2,3,4,5,6,7,10,11,13,14,15,27,28,29] [2,3,4,13,15,801,802,803,804] ?_; refine AW_then fun K9 hK9 => ?_
        have qf := (Aq fw @hc1)
        refine rgqv [2,3,4,5,6,7,10,11,13,14,15,27,28,29,98] [2,3,4,13,15,801,802,803,804] ?_; refine AW_cond true (by simp [hc1]) (fun _ => ?_) (fun h => by cases h); refine AW_rdg (tyOf_good _) (by kernel_rfl) [(2, 15), (8, 15), (12, 2), (13, 3)] [2, 3] [2, 3, 13, 15] (fun _ _ => trivial) (by kernel_rfl) fun K' hK' => ?_; (repeat (refine sxg_next fun K2 hK2 => ?_; simp [dNum, dS, hmx0]; (repeat (refine ⟨by omega, ?_⟩)); refine hK2 _ ?_; clear hK2 K2)); refine sxg_nil (hK' _ ?_); refine AW.st (by simp [dNum, dS, hmx0]; rfl) ?_; clear hK' K'; refine AW_ret ?_; simp [D.le, D.le.go, takeMap, dNum, dS, hp, dPw, cPw, dNms, dFault, codeF, placeF, hcs]
        omega
       | some o =>
        have hob := parse_at hpe
        simp only [dFault, codeF, placeF, dNum] at hpr
        have hcs : ((pk + (hd.length + 1 + (some o).getD 0) : Nat) : Int) = (pk : Int) + (hd.length : Int) + 1 + (o : Int) := by simp; omega
        have hmx1 : ¬ (o : Int) < 0 := by omega
        have qf := (Aq fw (Aq @bs_size @hx2))
        refine rgcv hpr [2,3,4,5,6,7,10,11,13,14,15,27,28,29] [2,3,4,13,15,801,802,803,804] ?_; refine AW_then fun K9 hK9 => ?_
        have qf := (Aq fw @hc1)
        refine rgqv [2,3,4,5,6,7,10,11,13,14,15,27,28,29,98] [2,3,4,13,15,801,802,803,804] ?_; refine AW_cond true (by simp [hc1]) (fun _ => ?_) (fun h => by cases h); refine AW_rdg (tyOf_good _) (by kernel_rfl) [(2, 15), (8, 15), (12, 2), (13, 3)] [2, 3] [2, 3, 13, 15] (fun _ _ => trivial) (by kernel_rfl) fun K' hK' => ?_; (repeat (refine sxg_next fun K2 hK2 => ?_; simp [dNum, dS, hmx1]; (repeat (refine ⟨by omega, ?_⟩)); refine hK2 _ ?_; clear hK2 K2)); refine sxg_nil (hK' _ ?_); refine AW.st (by simp [dNum, dS, hmx1]; rfl) ?_; clear hK' K'; refine AW_ret ?_; simp [D.le, D.le.go, takeMap, dNum, dS, hp, dPw, cPw, dNms, dFault, codeF, placeF, hcs]
        split <;> omega
      | none =>
       rw [hpe] at hpr hrl
       dsimp only at hrl
       obtain ⟨e, hpe1⟩ := parse_some hpe
       rw [hpe1] at hpr hrl
       have hn := hnx _ (by rw [hst0, hrl])
       have hrs : (s.rungs ++ [(⟨kk, b, some e⟩ : RgP)]).map cRw' = R1 ++ [[.v (.int .i64 kk), .v (.string (bs b)), dR e]] := by rw [List.map_append, b2]; rfl
       have hps : dPls (s.rAt ++ [pk]) = A2 ++ [[.v (.int .i64 pk)]] := by rw [dPls_app, b4]; rfl
       obtain ⟨cs, hde⟩ := dR_ip e
       simp only [dFault, codeF, placeF, dNum, dOR] at hpr; rw [hde] at hpr hrs
       have qf := (Aq fw (Aq @bs_size @hx2))
       refine rgcv hpr [2,3,4,5,6,7,10,11,13,14,15,27,28,29] [2,3,4,13,15,801,802,803,804] ?_; refine AW_then fun K9 hK9 => ?_; refine rgq fw [2,3,4,5,6,7,10,11,13,14,15,27,28,29,98] [2,3,4,13,15,801,802,803,804] ?_; refine AW_ff rfl ?_; refine AW_skip (hK9 _ ?_); refine rgq fw [2,3,4,5,6,7,10,13,27,28,29] [2,3,4,13,801,802,803,804] ?_; refine rg [2, 3, 4, 5, 6, 7, 27, 28, 29] [2, 3, 4, 801, 802, 803, 804] (fun _ _ => trivial) fun K' hK' => ?_; (repeat (refine sxn fun K2 hK2 => ?_; simp [dNum, dS, List.take_of_length_le]; (repeat (refine ⟨by omega, ?_⟩)); refine hK2 _ ?_; clear hK2 K2)); refine sxz (hK' _ (AW.st (by simp [dNum, dS, List.take_of_length_le]; rfl) ?_)); clear hK' K'; refine AW_exit (hK4 _ ?_); refine AW_re (tyOf_good _) fun K' hK' => ?_; (repeat (refine sxn fun K2 hK2 => ?_; simp [dNum, dS]; (repeat (refine ⟨by omega, ?_⟩)); refine hK2 _ ?_; clear hK2 K2)); refine sxz (hK' _ ?_); clear hK' K'; (try simp only [thn, inb]); refine Again.mk (n + 1) ⟨by omega, _, hn⟩ (by omega) ?_
       have e1 := hNN1 _ hn
       have e2 := hRR1 _ hn
       have e3 := hNA1 _ hn
       have e4 := hRA1 _ hn
       try dsimp only at e1 e2 e3 e4
       rw [b1] at e1; rw [hrs] at e2; rw [b3] at e3; rw [hps] at e4; refine Imp.to' (fun _ _ => trivial) (by simp [dNum, dS, e1, e2, e3, e4, hpl]) (by simp [dNum, dS, e1, e2, e3, e4, hpl])
    | a :: b :: c :: r, _ =>
     rw [hwx] at hlpd; simp only [hwx, List.map_cons]
     have hq1 : ¬ ((r.length : Int) + 1 + 1 + 1 = 1) := by omega
     have hq2 : ¬ ((r.length : Int) + 1 + 1 + 1 = 2) := by omega
     have hq3 : ¬ ((r.length : Int) + 1 + 1 + 1 < 1) := by omega
     have hq4 : (r.length : Int) + 1 + 1 + 1 > 2 := by omega
     refine AW_then fun K7 hK7 => ?_; refine rgq fw [2,3,4,5,6,7,9,10,11,12,13,27,28,29,53] [2,3,4,13,801,802,803,804] ?_; refine AW_block ?_
     have qf := (Aq fw @hq1)
     refine rgqv [2,3,4,5,6,7,9,10,11,12,13,27,28,29,53,54] [2,3,4,13,801,802,803,804] ?_; refine AW_cond false (by simp [hq1]) (fun h => by cases h) (fun _ => ?_)
     have qf := (Aq fw @hq2)
     refine rgqv [2,3,4,5,6,7,9,10,11,12,13,27,28,29,60] [2,3,4,13,801,802,803,804] ?_; refine AW_cond false (by simp [hq2]) (fun h => by cases h) (fun _ => ?_); refine AW_skip (hK7 _ ?_)
     have hp := herr 3 pk (by rw [hst0, hlpd]; try rfl)
     refine AW_then fun K8 hK8 => ?_
     have qf := (Aq fw (Aq @hq3 @hq4))
     refine rgqv [2,3,4,5,6,7,9,10,11,13,27,28,29,84] [2,3,4,13,801,802,803,804] ?_; refine AW_cond true (by simp [hq3, hq4]) (fun _ => ?_) (fun h => by cases h); refine rgq fw [2,3] [2,3] ?_; refine AW_ret ?_; simp [D.le, D.le.go, takeMap, dNum, dS, hp, dPw, cPw, dNms, dFault, codeF, placeF]
   ·rw [if_neg h61] at hlpd hci; refine rgc fw hci [2,3,4,5,6,7,9,10,11,27,28,29] [2,3,4,801,802,803,804] ?_; refine AW_then fun K6 hK6 => ?_; refine rgq fw [2,3,4,5,6,7,9,10,11,27,28,29,46] [2,3,4,801,802,803,804] ?_; refine AW_ff rfl ?_; refine AW_skip (hK6 _ ?_); refine rgc fw hwd [2,3,4,5,6,7,10,16,27,28,29] [2,3,4,801,802,803,804] ?_
    obtain ⟨a, r, rfl⟩ : ∃ a r, ws = a :: r := by
     cases ws with
     | nil => exact absurd rfl h0
     | cons a r => exact ⟨a, r, rfl⟩
    have ha := (hwn a (by simp)).1
    have hix : PureC Tryz.prog G 86 [.sl none [[.v (.string (bs []))], [.v (.string (bs [105, 110, 112, 117, 116]))], [.v (.string (bs [99, 111, 105, 108]))], [.v (.string (bs [116, 105, 109, 101, 114]))], [.v (.string (bs [99, 111, 117, 110, 116, 101, 114]))]], .v (.string (bs a))] (.v (.int .i64 (ixW kwN a))) := ldw_ix G none kwN a ha (by decide)
    have hbd := ixW_bd kwN a
    simp only [nameL] at hlpd; generalize ixW kwN a = kk at *; simp only [List.map_cons]; refine AW_rdg (tyOf_good _) (by kernel_rfl) [(2, 999), (3, 999), (7, 17)] [2, 3, 4, 5, 6, 7, 10, 16, 17, 27, 28, 29] [2, 3, 4, 17, 801, 802, 803, 804] (fun _ _ => trivial) (by kernel_rfl) fun K' hK' => ?_; (repeat (refine sxg_next fun K2 hK2 => ?_; simp [dNum, dS, hNW]; (repeat (refine ⟨by omega, ?_⟩)); refine hK2 _ ?_; clear hK2 K2)); refine sxg_next fun K2 hK2 => ?_; simp [dNum, dS, hNW]; refine callQ.data (hix) (by simp; rfl) (by simp; rfl) (by first | exact D.leGo_refl _ | simp [takeMap, List.map_map, Function.comp_def, D.le, D.le.go, D.le_refl, D.leGo_refl, dNum, dS, hNW]) ?_; refine hK2 _ ?_; clear hK2 K2; simp only [putd, upd_lst]; (repeat (refine sxg_next fun K2 hK2 => ?_; simp [dNum, dS, hNW]; (repeat (refine ⟨by omega, ?_⟩)); refine hK2 _ ?_; clear hK2 K2)); refine sxg_nil (hK' _ ?_); refine AW.st (by simp [dNum, dS, hNW]; rfl) ?_; clear hK' K'
    have hrl : ((r.map fun s => [D.v (.string (bs s))]).length : Int) = (r.length : Int) := by simp
    by_cases k1 : kk < 1
    ·have hlpd' : lineP ln = .form := by
      rw [hlpd]
      match r with
      | [] => rfl
      | [b] => rw [nameP, if_neg (by omega)]
      | [b, c] => rw [nameP, if_neg (by omega)]
      | b :: c :: d :: r => rfl
     have hp := herr 3 pk (by rw [hst0, hlpd'])
     refine AW_then fun K10 hK10 => ?_
     have qf := (Aq fw @k1)
     refine rgqv [2,3,4,5,6,7,10,16,17,27,28,29,153] [2,3,4,17,801,802,803,804] ?_; refine AW_cond true (by simp [k1]) (fun _ => ?_) (fun h => by cases h); refine rgq fw [2,3] [2,3] ?_; refine AW_ret ?_; simp [D.le, D.le.go, takeMap, dNum, dS, hp, dPw, cPw, dNms, dFault, codeF, placeF]
    by_cases k3 : kk < 3
    ·have k3' : ¬ kk ≥ 3 := by omega
     match r, hlpd with
     | [b], hlpd =>
      have hlpd' : lineP ln = .name ⟨b, kk, 0⟩ := by rw [hlpd, nameP, if_pos (by omega)]
      simp only [List.map_cons, List.map_nil]; refine AW_then fun K10 hK10 => ?_
      have qf := (Aq fw (Aq @k1 (Aq @k3 @k3')))
      refine rgqv [2,3,4,5,6,7,10,16,17,27,28,29,153] [2,3,4,17,801,802,803,804] ?_; refine AW_cond false (by simp [k1, k3, k3']) (fun h => by cases h) (fun _ => ?_); refine AW_skip (hK10 _ ?_); refine rgq fw [2,3,4,5,6,7,10,16,17,27,28,29] [2,3,4,17,801,802,803,804] ?_; refine AW_then fun K11 hK11 => ?_
      have qf := (Aq fw (Aq @k1 (Aq @k3 @k3')))
      refine rgqv [2,3,4,5,6,7,10,16,17,27,28,29,163] [2,3,4,17,801,802,803,804] ?_; refine AW_cond false (by simp [k3']) (fun h => by cases h) (fun _ => ?_); refine AW_skip (hK11 _ ?_); refine AW_then fun K13 hK13 => ?_
      by_cases hr0 : s.rungs = []
      ·have hn := hnx _ (by rw [hst0, hlpd']; exact if_pos hr0)
       have hra0 : A2 = [] := List.length_eq_zero_iff.1 (by rw [hRA2, hr0]; rfl)
       have hrs : (s.names ++ [(⟨b, kk, 0⟩ : NmP)]).map cNm = N1 ++ [[.v (.string (bs b)), .v (.int .i64 kk), .v (.int .i64 0)]] := by rw [List.map_append, b1]; rfl
       have hps : dPls (s.nAt ++ [pk]) = A1 ++ [[.v (.int .i64 pk)]] := by rw [dPls_app, b3]; rfl
       subst hra0; refine rgq fw [2,3,4,5,6,7,10,17,27,28,29,180] [2,3,4,17,801,802,803,804] ?_; refine AW_ff rfl ?_; refine AW_skip (hK13 _ ?_); refine AW_re (tyOf_good _) fun K' hK' => ?_; (repeat (refine sxn fun K2 hK2 => ?_; simp [dNum, dS, List.take_of_length_le]; (repeat (refine ⟨by omega, ?_⟩)); refine hK2 _ ?_; clear hK2 K2)); refine sxz (hK' _ ?_); clear hK' K'; refine hK4 _ (AW.norm [2, 3, 4, 5, 6, 7, 27, 28, 29] [2, 3, 4, 801, 802, 803, 804] (fun _ _ => trivial) (AW.st (by simp [dNum, dS, List.take_of_length_le]; rfl) ?_)); refine AW_re (tyOf_good _) fun K' hK' => ?_; (repeat (refine sxn fun K2 hK2 => ?_; simp [dNum, dS]; (repeat (refine ⟨by omega, ?_⟩)); refine hK2 _ ?_; clear hK2 K2)); refine sxz (hK' _ ?_); clear hK' K'; (try simp only [thn, inb]); refine Again.mk (n + 1) ⟨by omega, _, hn⟩ (by omega) ?_
       have e1 := hNN1 _ hn
       have e2 := hRR1 _ hn
       have e3 := hNA1 _ hn
       have e4 := hRA1 _ hn
       try dsimp only at e1 e2 e3 e4
       rw [hrs] at e1; rw [b2] at e2; rw [hps] at e3; rw [b4] at e4; refine Imp.to' (fun _ _ => trivial) (by simp [dNum, dS, e1, e2, e3, e4, hpl]) (by simp [dNum, dS, e1, e2, e3, e4, hpl])
      ·have hp := herr 3 pk (by rw [hst0, hlpd']; exact if_neg hr0)
       have hra0 : 0 < A2.length := by rw [hRA2]; exact List.length_pos_iff.2 hr0
       have qf := (Aq fw @hra0)
       refine rgqv [2,3,4,5,6,7,10,17,27,28,29,180] [2,3,4,17,801,802,803,804] ?_; refine AW_cond true (by simp [hra0]) (fun _ => ?_) (fun h => by cases h); refine rgq fw [2,3] [2,3] ?_; refine AW_ret ?_; simp [D.le, D.le.go, takeMap, dNum, dS, hp, dPw, cPw, dNms, dFault, codeF, placeF]
     | [], hlpd =>
      have hlpd' : lineP ln = .form := hlpd
      simp only [List.map_nil]
      have hp := herr 3 pk (by rw [hst0, hlpd'])
      refine AW_then fun K10 hK10 => ?_
      have qf := (Aq fw (Aq @k1 @k3))
      refine rgqv [2,3,4,5,6,7,10,16,17,27,28,29,153] [2,3,4,17,801,802,803,804] ?_; refine AW_cond true (by simp [k1, k3]) (fun _ => ?_) (fun h => by cases h); refine rgq fw [2,3] [2,3] ?_; refine AW_ret ?_; simp [D.le, D.le.go, takeMap, dNum, dS, hp, dPw, cPw, dNms, dFault, codeF, placeF]
     | b :: c :: r, hlpd =>
      have hlpd' : lineP ln = .form := by
       rw [hlpd]
       match r with
       | [] => rw [nameP, if_neg (by omega)]
       | d :: r => rfl
      have hq : ¬ ((r.length : Int) + 1 + 1 + 1 = 2) := by omega
      simp only [List.map_cons]
      have hp := herr 3 pk (by rw [hst0, hlpd'])
      refine AW_then fun K10 hK10 => ?_
      have qf := (Aq fw (Aq @k1 (Aq @k3 @hq)))
      refine rgqv [2,3,4,5,6,7,10,16,17,27,28,29,153] [2,3,4,17,801,802,803,804] ?_; refine AW_cond true (by simp [k1, k3, hq]) (fun _ => ?_) (fun h => by cases h); refine rgq fw [2,3] [2,3] ?_; refine AW_ret ?_; simp [D.le, D.le.go, takeMap, dNum, dS, hp, dPw, cPw, dNms, dFault, codeF, placeF]
    have k3' : kk ≥ 3 := by omega
    match r, hlpd with
    | [b, c], hlpd =>
     have hcl : c.length ≤ 20000 := by have := (hwn c (by simp)).2; omega
     have hnb := rnumber_spec G hP hE c (by omega)
     simp only [dS] at hnb; simp only [nameP, if_pos k3'] at hlpd; simp only [List.map_cons, List.map_nil]; refine AW_then fun K10 hK10 => ?_
     have qf := (Aq fw (Aq @k1 (Aq @k3 @k3')))
     refine rgqv [2,3,4,5,6,7,10,16,17,27,28,29,153] [2,3,4,17,801,802,803,804] ?_; refine AW_cond false (by simp [k1, k3, k3']) (fun h => by cases h) (fun _ => ?_); refine AW_skip (hK10 _ ?_); refine rgq fw [2,3,4,5,6,7,10,16,17,27,28,29] [2,3,4,17,801,802,803,804] ?_; refine AW_then fun K11 hK11 => ?_
     have qf := (Aq fw (Aq @k1 (Aq @k3 @k3')))
     refine rgqv [2,3,4,5,6,7,10,16,17,27,28,29,163] [2,3,4,17,801,802,803,804] ?_; refine AW_cond true (by simp [k3']) (fun _ => ?_) (fun h => by cases h)
     cases hnf : numF c with
     | none =>
      rw [hnf] at hnb hlpd; simp only [dNr] at hnb
      have hlpd' : lineP ln = .form := hlpd
      have hp := herr 3 pk (by rw [hst0, hlpd'])
      refine rgc fw hnb [2,3,4,5,6,7,10,17,18,19,27,28,29] [2,3,4,17,801,802,803,804] ?_; refine AW_then fun K12 hK12 => ?_; refine rgq fw [2,3,4,5,6,7,10,17,18,27,28,29,172] [2,3,4,17,801,802,803,804] ?_; refine AW_tt rfl ?_; refine rgq fw [2,3] [2,3] ?_; refine AW_ret ?_; simp [D.le, D.le.go, takeMap, dNum, dS, hp, dPw, cPw, dNms, dFault, codeF, placeF]
     | some v =>
      rw [hnf] at hnb hlpd; simp only [dNr] at hnb
      have hlpd' : lineP ln = .name ⟨b, kk, v⟩ := hlpd
      refine rgc fw hnb [2,3,4,5,6,7,10,17,18,19,27,28,29] [2,3,4,17,801,802,803,804] ?_; refine AW_then fun K12 hK12 => ?_; refine rgq fw [2,3,4,5,6,7,10,17,18,27,28,29,172] [2,3,4,17,801,802,803,804] ?_; refine AW_ff rfl ?_; refine AW_skip (hK12 _ ?_); refine reK fw hK11 [2,3,4,5,6,7,10,17,27,28,29] [2,3,4,17,801,802,803,804] ?_; refine AW_then fun K13 hK13 => ?_
      by_cases hr0 : s.rungs = []
      ·have hn := hnx _ (by rw [hst0, hlpd']; exact if_pos hr0)
       have hra0 : A2 = [] := List.length_eq_zero_iff.1 (by rw [hRA2, hr0]; rfl)
       have hrs : (s.names ++ [(⟨b, kk, v⟩ : NmP)]).map cNm = N1 ++ [[.v (.string (bs b)), .v (.int .i64 kk), .v (.int .i64 v)]] := by rw [List.map_append, b1]; rfl
       have hps : dPls (s.nAt ++ [pk]) = A1 ++ [[.v (.int .i64 pk)]] := by rw [dPls_app, b3]; rfl
       subst hra0; refine rgq fw [2,3,4,5,6,7,10,17,27,28,29,180] [2,3,4,17,801,802,803,804] ?_; refine AW_ff rfl ?_; refine AW_skip (hK13 _ ?_); refine AW_re (tyOf_good _) fun K' hK' => ?_; (repeat (refine sxn fun K2 hK2 => ?_; simp [dNum, dS, List.take_of_length_le]; (repeat (refine ⟨by omega, ?_⟩)); refine hK2 _ ?_; clear hK2 K2)); refine sxz (hK' _ ?_); clear hK' K'; refine hK4 _ (AW.norm [2, 3, 4, 5, 6, 7, 27, 28, 29] [2, 3, 4, 801, 802, 803, 804] (fun _ _ => trivial) (AW.st (by simp [dNum, dS, List.take_of_length_le]; rfl) ?_)); refine AW_re (tyOf_good _) fun K' hK' => ?_; (repeat (refine sxn fun K2 hK2 => ?_; simp [dNum, dS]; (repeat (refine ⟨by omega, ?_⟩)); refine hK2 _ ?_; clear hK2 K2)); refine sxz (hK' _ ?_); clear hK' K'; (try simp only [thn, inb]); refine Again.mk (n + 1) ⟨by omega, _, hn⟩ (by omega) ?_
       have e1 := hNN1 _ hn
       have e2 := hRR1 _ hn
       have e3 := hNA1 _ hn
       have e4 := hRA1 _ hn
       try dsimp only at e1 e2 e3 e4
       rw [hrs] at e1; rw [b2] at e2; rw [hps] at e3; rw [b4] at e4; refine Imp.to' (fun _ _ => trivial) (by simp [dNum, dS, e1, e2, e3, e4, hpl]) (by simp [dNum, dS, e1, e2, e3, e4, hpl])
      ·have hp := herr 3 pk (by rw [hst0, hlpd']; exact if_neg hr0)
       have hra0 : 0 < A2.length := by rw [hRA2]; exact List.length_pos_iff.2 hr0
       have qf := (Aq fw @hra0)
       refine rgqv [2,3,4,5,6,7,10,17,27,28,29,180] [2,3,4,17,801,802,803,804] ?_; refine AW_cond true (by simp [hra0]) (fun _ => ?_) (fun h => by cases h); refine rgq fw [2,3] [2,3] ?_; refine AW_ret ?_; simp [D.le, D.le.go, takeMap, dNum, dS, hp, dPw, cPw, dNms, dFault, codeF, placeF]
    | [], hlpd =>
     have hlpd' : lineP ln = .form := hlpd
     simp only [List.map_nil]
     have hp := herr 3 pk (by rw [hst0, hlpd'])
     refine AW_then fun K10 hK10 => ?_
     have qf := (Aq fw (Aq @k1 (Aq @k3 @k3')))
     refine rgqv [2,3,4,5,6,7,10,16,17,27,28,29,153] [2,3,4,17,801,802,803,804] ?_; refine AW_cond true (by simp [k1, k3, k3']) (fun _ => ?_) (fun h => by cases h); refine rgq fw [2,3] [2,3] ?_; refine AW_ret ?_; simp [D.le, D.le.go, takeMap, dNum, dS, hp, dPw, cPw, dNms, dFault, codeF, placeF]
    | [b], hlpd =>
     have hlpd' : lineP ln = .form := by rw [hlpd, nameP, if_neg (by omega)]
     simp only [List.map_cons, List.map_nil]
     have hp := herr 3 pk (by rw [hst0, hlpd'])
     refine AW_then fun K10 hK10 => ?_
     have qf := (Aq fw (Aq @k1 (Aq @k3 @k3')))
     refine rgqv [2,3,4,5,6,7,10,16,17,27,28,29,153] [2,3,4,17,801,802,803,804] ?_; refine AW_cond true (by simp [k1, k3, k3']) (fun _ => ?_) (fun h => by cases h); refine rgq fw [2,3] [2,3] ?_; refine AW_ret ?_; simp [D.le, D.le.go, takeMap, dNum, dS, hp, dPw, cPw, dNms, dFault, codeF, placeF]
    | b :: c :: d :: r, hlpd =>
     have hlpd' : lineP ln = .form := hlpd
     have hq : ¬ ((r.length : Int) + 1 + 1 + 1 + 1 = 3) := by omega
     simp only [List.map_cons]
     have hp := herr 3 pk (by rw [hst0, hlpd'])
     refine AW_then fun K10 hK10 => ?_
     have qf := (Aq fw (Aq @k1 (Aq @k3 (Aq @k3' @hq))))
     refine rgqv [2,3,4,5,6,7,10,16,17,27,28,29,153] [2,3,4,17,801,802,803,804] ?_; refine AW_cond true (by simp [k1, k3, k3', hq]) (fun _ => ?_) (fun h => by cases h); refine rgq fw [2,3] [2,3] ?_; refine AW_ret ?_; simp [D.le, D.le.go, takeMap, dNum, dS, hp, dPw, cPw, dNms, dFault, codeF, placeF]
  ·obtain rfl : n = l.length := by omega
   refine AW_cond false (by simp) (fun h => by cases h) (fun _ => ?_)
   have hpe := parseP_end (s := s) (by omega) (hl ▸ hs)
   have hok := prOk_k (t := t) (by omega) (Nat.le_refl _) (hl ▸ hs)
   have hsm := prOk_small hok (by rw [← hl]; omega)
   have hchk := ldw_check G hF hM ⟨s.names, s.rungs⟩ hsm
   obtain ⟨hnl, hrl, hnm, _, _⟩ := hok
   rw [← hl] at hnm
   have b1 := hNNe _ s hs
   have b2 := hRRe _ s hs
   have b3 := hNAe _ s hs
   have b4 := hRAe _ s hs
   simp only [dPw, cPw, dNms] at hchk; rw [← b1, ← b2] at hchk
   have hA1l : (NA l.length).length = s.names.length := by rw [b3]; simp [dPls, hnl]
   have hA2l : (RA l.length).length = s.rungs.length := by rw [b4]; simp [dPls, hrl]
   have hgd := fun i h => getD_nat (s.nAt ++ s.rAt) i h
   rw [dPls_app, ← b3, ← b4] at hgd
   have q1 : (∀ el ∈ RA l.length, el.length = 1) = True := eq_true (by rw [b4]; simp [dPls])
   have q2 : (∀ el ∈ RA l.length, ∀ c ∈ el, c.one = true) = True := eq_true (by rw [b4]; simp [dPls, dNum, D.one])
   have hpp : dPw ⟨s.names, s.rungs⟩ = .agg [.sl none (NN l.length), .sl none (RR l.length)] := by rw [b1, b2]; rfl
   have hcode := fun c o => checkP_code (p := ⟨s.names, s.rungs⟩) (c := c) (o := o)
   have hplace : ∀ c i, checkP ⟨s.names, s.rungs⟩ = some (c, some i) → i < (s.nAt ++ s.rAt).length := fun c i h => by have := check_lt h; simp at this ⊢; omega
   refine AW_exit (hK2 _ ?_); generalize NN l.length = N1 at *; generalize RR l.length = R1 at *; generalize NA l.length = A1 at *; generalize RA l.length = A2 at *; refine AW.imp (Imp.freeze 801 trivial) ?_; refine AW.st (by simp [dNum, dS]; rfl) ?_; refine AW.imp (Imp.freeze 802 trivial) ?_; refine AW.st (by simp [dNum, dS]; rfl) ?_; refine AW.imp (Imp.freeze 804 trivial) ?_; refine AW.st (by simp [dNum, dS]; rfl) ?_
   cases hck : checkP ⟨s.names, s.rungs⟩ with
   | none =>
    rw [hck] at hchk hpe
    dsimp only at hpe
    simp only [dFault, codeF, placeF, dNum] at hchk; refine rgc fw hchk [2,3,4,5,6,20] [2,3,4,20,803] ?_; refine AW_then fun K14 hK14 => ?_; refine rgq fw [2,3,4,5,6,20,199] [2,3,4,20,803] ?_; refine AW_ff rfl ?_; refine AW_skip (hK14 _ ?_); refine AW_rdg (tyOf_good _) (by kernel_rfl) [(0, 4), (2, 2), (3, 3)] [2, 3] [2, 3] (fun _ _ => trivial) (by kernel_rfl) fun K' hK' => ?_; (repeat (refine sxg_next fun K2 hK2 => ?_; simp [dNum, dS, hF0]; (repeat (refine ⟨by omega, ?_⟩)); refine hK2 _ ?_; clear hK2 K2)); refine sxg_nil (hK' _ ?_); refine AW.st (by simp [dNum, dS, hF0]; rfl) ?_; clear hK' K'; refine AW_ret ?_; simp [D.le, D.le.go, takeMap, dNum, dS, hpe, hpp, dFault, codeF, placeF, D.le_refl, D.leGo_refl]
   | some ci =>
    obtain ⟨c, o⟩ := ci
    have hc0 := hcode c o hck
    rw [hck] at hchk hpe
    cases o with
    | none =>
     dsimp only at hpe
     simp only [dFault, codeF, placeF, dNum] at hchk; refine rgc fw hchk [2,3,4,5,6,20] [2,3,4,20,803] ?_; refine AW_then fun K14 hK14 => ?_
     have qf := (Aq fw @hc0)
     refine rgqv [2,3,4,5,6,20,199] [2,3,4,20,803] ?_; refine AW_cond true (by simp [hc0]) (fun _ => ?_) (fun h => by cases h); refine AW_then fun K15 hK15 => ?_; refine rgq fw [2,3,5,6,20,202] [2,3,4,20,803] ?_; refine AW_ff rfl ?_; refine AW_skip (hK15 _ ?_); refine AW_rdg (tyOf_good _) (by kernel_rfl) [(1, 20), (2, 2), (3, 3)] [2, 3] [2, 3] (fun _ _ => trivial) (by kernel_rfl) fun K' hK' => ?_; (repeat (refine sxg_next fun K2 hK2 => ?_; simp [dNum, dS]; (repeat (refine ⟨by omega, ?_⟩)); refine hK2 _ ?_; clear hK2 K2)); refine sxg_nil (hK' _ ?_); refine AW.st (by simp [dNum, dS]; rfl) ?_; clear hK' K'; refine AW_ret ?_; simp [D.le, D.le.go, takeMap, dNum, dS, hpe, dPw, cPw, dNms, dFault, codeF, placeF]
    | some i =>
     dsimp only at hpe
     have hi := hplace c i hck
     obtain ⟨hil, hgv⟩ := List.getElem?_eq_some_iff.1 (hgd i hi)
     clear hgd
     have hil2 : i < A1.length + A2.length := by simpa using hil
     have hil3 : (i : Int) < (A1.length : Int) + (A2.length : Int) := by omega
     simp only [dFault, codeF, placeF, dNum] at hchk hgv; generalize (s.nAt ++ s.rAt).getD i 0 = pl at hgv hpe; refine rgc fw hchk [2,3,4,5,6,20] [2,3,4,20,803] ?_; refine AW_then fun K14 hK14 => ?_
     have qf := (Aq fw @hc0)
     refine rgqv [2,3,4,5,6,20,199] [2,3,4,20,803] ?_; refine AW_cond true (by simp [hc0]) (fun _ => ?_) (fun h => by cases h); refine AW_then fun K15 hK15 => ?_; refine rgq fw [2,3,5,6,20,202] [2,3,4,20,803] ?_; refine AW_cond true (by simp) (fun _ => ?_) (fun h => by cases h); refine AW_rle (tyOf_good _) (by kernel_rfl) ([(2, (803, 803))]) ([(3, [803]), (4, [803]), (7, [803])]) ([0, 1, 3, 4, 2, 5, 6, 7, 8]) (by kernel_rfl) fun K' hK' => ?_; (repeat (refine sxl_nextO rfl fun K2 hK2 => ?_; simp [dNum, dS, finK, q1, q2, hil, hil2, hil3, hgv, List.take_of_length_le]; (repeat (refine ⟨by omega, ?_⟩)); refine hK2 _ ?_; clear hK2 K2)); refine sxl_nilO (hK' _ ?_); clear hK' K'; refine hK15 _ (AW.norm [2, 3, 20] [2, 3, 4, 20] (fun _ _ => trivial) (AW.st (by simp [dNum, dS, finK, q1, q2, hil, hil2, hil3, hgv, List.take_of_length_le]; rfl) ?_)); refine AW_rdg (tyOf_good _) (by kernel_rfl) [(1, 20), (2, 2), (3, 3)] [2, 3] [2, 3] (fun _ _ => trivial) (by kernel_rfl) fun K' hK' => ?_; (repeat (refine sxg_next fun K2 hK2 => ?_; simp [dNum, dS]; (repeat (refine ⟨by omega, ?_⟩)); refine hK2 _ ?_; clear hK2 K2)); refine sxg_nil (hK' _ ?_); refine AW.st (by simp [dNum, dS]; rfl) ?_; clear hK' K'; refine AW_ret ?_; simp [D.le, D.le.go, takeMap, dNum, dS, hpe, dPw, cPw, dNms, dFault, codeF, placeF]
end Go.Proofs.YthnjfeielmbfkaaGreatDoor
namespace Go.Proofs.YthnjfeielmbfkaaGreatDoor
open Go.Av
theorem lineP_dp {s : Tx} {r : RgP} (h : lineP s = .rung r) : ∃ e, r.cond = some e ∧ WfE e ∧ dpI e ≤ 20 ∧ bE e ≤ 10000 := by
 unfold lineP at h
 split at h
 ·obtain ⟨k, nm, hm, hr⟩ := rungL_ok h
  obtain ⟨e, he, hp, _, hn, _⟩ := rungP_ok hr
  exact ⟨e, he, (parse_wf hp).1, (parse_wf hp).2, parse_b hp⟩
 ·exact absurd h nameL_rung
def CondOk (r : RgP) : Prop := ∃ e, r.cond = some e ∧ WfE e ∧ dpI e ≤ 20 ∧ bE e ≤ 10000
theorem prK_cond {l : List Tx} : ∀ {k : Nat} {s : PrS}, prK l k = .inr s → ∀ r ∈ s.rungs, CondOk r
 | 0, s, h => by
  simp only [prK, Sum.inr.injEq] at h; subst h; simp [prS0]
 | k + 1, s, h => by
  rw [prK] at h
  cases hk : prK l k with
  | inl e => rw [hk] at h; cases h
  | inr s0 =>
   rw [hk] at h
   dsimp only at h
   have ih := prK_cond hk
   unfold stepS at h
   split at h
   ·simp only [Sum.inr.injEq] at h; subst h; exact ih
   ·split at h
    ·cases h
    ·cases h
    ·split at h
     ·simp only [Sum.inr.injEq] at h; subst h; exact ih
     ·cases h
    ·rename_i r hr
     simp only [Sum.inr.injEq] at h; subst h
     intro r' hr'
     rcases List.mem_append.1 hr' with h1 | h1
     ·exact ih r' h1
     ·obtain rfl := List.mem_singleton.1 h1
      exact lineP_dp hr
theorem parse_ok {t : Tx} {p : PgP} (h : parseP t = (none, p)) : checkP p = none ∧ ∀ r ∈ p.rungs, CondOk r := by
 unfold parseP at h
 split at h
 ·cases h
 ·split at h
  ·cases h
  ·rename_i s hs
   split at h
   ·rename_i hc
    simp only [Prod.mk.injEq, true_and] at h; subst h; exact ⟨hc, prK_cond hs⟩
   ·cases h
   ·cases h
theorem parse_err {t : Tx} {e : Int × Option Nat} (h : (parseP t).1 = some e) : (parseP t).2 = ⟨[], []⟩ := by
 by_cases h1 : 20000 < t.length
 ·unfold parseP; rw [if_pos h1]
 ·cases hs : prK (cutT 10 t) (cutT 10 t).length with
  | inl ci => obtain ⟨c, i⟩ := ci; rw [parseP_bad (by omega) hs]
  | inr s =>
   rw [parseP_end (by omega) hs] at h ⊢
   cases hc : checkP ⟨s.names, s.rungs⟩ with
   | none => rw [hc] at h; cases h
   | some co =>
    obtain ⟨c, o⟩ := co
    cases o <;> rfl
theorem tx_of {p : PgP} (hc : checkP p = none) (hk : ∀ r ∈ p.rungs, CondOk r) : TxP p := by
 have hg := checkP_good hc
 have hr := checkP_rung hc
 refine ⟨fun n hn => ?_, fun r hr1 => ?_, ?_, ?_, fun he => ?_⟩
 ·obtain ⟨h1, h2, h3⟩ := hg.name n hn
  have h4 := nameF_len h1
  rcases hg.count n hn with h5 | h5 <;> exact ⟨⟨h2, h3⟩, by omega, by omega⟩
 ·obtain ⟨h1, h2, _⟩ := hr r hr1
  obtain ⟨e, he, hw, _, hb⟩ := hk r hr1
  obtain ⟨k, hk, hke, hks⟩ := idx_pos h2
  have hks' : p.names[k].name = r.name := by simpa using hks
  have h4 := nameF_len (hg.name _ (List.getElem_mem hk)).1
  rw [hks'] at h4; exact ⟨h1, by omega, e, he, by omega, hw⟩
 ·have := hg.names; omega
 ·have := hg.rungs; omega
 ·cases hrs : p.rungs with
  | nil => rfl
  | cons r l =>
   obtain ⟨_, h2, _⟩ := hr r (by rw [hrs]; simp)
   obtain ⟨k, hk, _⟩ := idx_pos h2
   rw [he] at hk; simp at hk
end Go.Proofs.YthnjfeielmbfkaaGreatDoor
namespace Go.Proofs.YthnjfeielmbfkaaGreatDoor
open Go.Av
theorem rungP_nz {k : Int} {nm hd rest : Tx} {c : Int} {o : Nat} (h : rungP k nm hd rest = .bad c o) : c ≠ 0 := by
 unfold rungP at h
 split at h
 ·rename_i c' o' he
  simp only [LnR.bad.injEq] at h
  have := parse_pos he
  omega
 ·cases h
theorem rungL_nz {hd rest : Tx} {l : List Tx} {c : Int} {o : Nat} (h : rungL hd rest l = .bad c o) : c ≠ 0 := by
 unfold rungL at h
 split at h
 ·exact rungP_nz h
 ·split at h
  ·cases h
  ·exact rungP_nz h
 ·cases h
theorem nameL_nz {l : List Tx} {c : Int} {o : Nat} (h : nameL l = .bad c o) : c ≠ 0 := by
 unfold nameL at h
 split at h
 ·unfold nameP at h
  split at h
  ·split at h <;> cases h
  ·split at h
   ·split at h <;> cases h
   ·cases h
  ·cases h
 ·cases h
theorem lineP_nz {s : Tx} {c : Int} {o : Nat} (h : lineP s = .bad c o) : c ≠ 0 := by
 unfold lineP at h
 split at h
 ·exact rungL_nz h
 ·exact nameL_nz h
theorem prK_code {l : List Tx} : ∀ {k : Nat} {c : Int} {i : Nat}, prK l k = .inl (c, i) → c ≠ 0
 | 0, c, i, h => by cases h
 | k + 1, c, i, h => by
  rw [prK] at h
  cases hk : prK l k with
  | inl e =>
   rw [hk] at h
   obtain ⟨c', i'⟩ := e
   simp only [Sum.inl.injEq, Prod.mk.injEq] at h
   have := prK_code hk
   omega
  | inr s0 =>
   rw [hk] at h
   dsimp only at h
   unfold stepS at h
   split at h
   ·cases h
   ·split at h
    ·simp only [Sum.inl.injEq, Prod.mk.injEq] at h; omega
    ·rename_i hb
     simp only [Sum.inl.injEq, Prod.mk.injEq] at h
     have := lineP_nz hb
     omega
    ·split at h
     ·cases h
     ·simp only [Sum.inl.injEq, Prod.mk.injEq] at h; omega
    ·cases h
theorem parseP_code {t : Tx} {c : Int} {o : Option Nat} (h : (parseP t).1 = some (c, o)) : c ≠ 0 := by
 unfold parseP at h
 split at h
 ·simp only [Option.some.injEq, Prod.mk.injEq] at h; omega
 ·split at h
  ·rename_i c' i' hp
   simp only [Option.some.injEq, Prod.mk.injEq] at h
   have := prK_code hp
   omega
  ·split at h
   ·cases h
   ·rename_i c' hc
    simp only [Option.some.injEq, Prod.mk.injEq] at h
    have := checkP_code hc
    omega
   ·rename_i c' i' hc
    simp only [Option.some.injEq, Prod.mk.injEq] at h
    have := checkP_code hc
    omega
set_option maxRecDepth 100000 in
set_option maxHeartbeats 8000000 in
theorem lparses_law (G : Glob) (hF : HasFine G) (hM : HasMax G) (hP : HasP10 G) (hG : HasErr G) (hH : HasHeads G) {es er : Value} (hE : HasNE G es er) (hNW : HasNW G) (hRW : HasRW G) (t : Tx) : PureC Tryz.prog G 8 [dS t] (.v (.bool true)) := by
 have hp := lparse_spec G hM hP hG hE t
 have hw := rpparse_spec G hF hM hP hE hNW hRW t
 refine PureC.of_body (tyOf_good _) Tryz.func8 rfl rfl (rs := [.tmp 2]) Tryz.results8 (by simp [Tryz.ntmps8]) fun X => ?_; simp only [Tryz.ntmps8, List.map]
 have fw := (Aq @dNum.eq_1 @dS.eq_1)
 refine rgq fw [0] [] ?_; refine AW_then fun K1 hK1 => ?_; refine' late (fun hrest => ?_) ?_
 rotate_left
 ·by_cases h1 : (t.length : Int) > 3000
  ·by_cases h2 : (t.length : Int) ≤ 20000
   ·have qf := (Aq fw (Aq @bs_size (Aq @h1 @h2)))
    refine rgqv [0,19] [] ?_; refine AW_cond true (by simp [h1, h2]) (fun _ => ?_) (fun h => by cases h); refine rgq fw [2] [] ?_; refine AW_ret ?_; simp [D.le, D.le.go, takeMap, dNum, dS]
   ·by_cases h3 : (t.length : Int) > 30000
    ·have qf := (Aq fw (Aq @bs_size (Aq @h1 (Aq @h2 @h3))))
     refine rgqv [0,19] [] ?_; refine AW_cond true (by simp [h1, h2, h3]) (fun _ => ?_) (fun h => by cases h); refine rgq fw [2] [] ?_; refine AW_ret ?_; simp [D.le, D.le.go, takeMap, dNum, dS]
    ·have qf := (Aq fw (Aq @bs_size (Aq @h1 (Aq @h2 @h3))))
     refine rgqv [0,19] [] ?_; refine AW_cond false (by simp [h1, h2, h3]) (fun h => by cases h) (fun _ => ?_); refine AW_skip (hK1 _ ?_); exact hrest.out
  ·have h3 : ¬ (t.length : Int) > 30000 := by omega
   have qf := (Aq fw (Aq @bs_size (Aq @h1 @h3)))
   refine rgqv [0,19] [] ?_; refine AW_cond false (by simp [h1, h3]) (fun h => by cases h) (fun _ => ?_); refine AW_skip (hK1 _ ?_); exact hrest.out
 simp only [dS] at hp hw
 cases hpe : (parseP t).1 with
 | some e =>
  have h2 := parse_err hpe
  rw [hpe, h2] at hp hw
  obtain ⟨c, o⟩ := e
  have hc := parseP_code hpe
  have hat := at_same G hG (some (c, o))
  have hpg : dPg ⟨[], []⟩ = .agg [.sl none [], .sl none []] := rfl
  have hpw : dPw ⟨[], []⟩ = .agg [.sl none [], .sl none []] := rfl
  rw [hpg] at hp; rw [hpw] at hw
  cases o with
  | none =>
   simp only [dErr, dFault, codeF, placeF, dNum] at hp hw hat
   refine rgc fw hw [0,3,4] [3,4] ?_; refine rgc fw hp [3,4,5,6] [3,4,5] ?_; refine AW_then fun K2 hK2 => ?_; refine rgq fw [3,4,5,6,32] [3,4,5] ?_; refine AW_cond true (by simp [hc]) (fun _ => ?_) (fun h => by cases h); refine rgc fw hat [2] [3,4,5] ?_; refine AW_ret ?_; simp [D.le, D.le.go, takeMap, dNum, dS]
  | some o =>
   simp only [dErr, dFault, codeF, placeF, dNum] at hp hw hat
   refine rgc fw hw [0,3,4] [3,4] ?_; refine rgc fw hp [3,4,5,6] [3,4,5] ?_; refine AW_then fun K2 hK2 => ?_; refine rgq fw [3,4,5,6,32] [3,4,5] ?_; refine AW_cond true (by simp [hc]) (fun _ => ?_) (fun h => by cases h); refine rgc fw hat [2] [3,4,5] ?_; refine AW_ret ?_; simp [D.le, D.le.go, takeMap, dNum, dS]
 | none =>
  obtain ⟨p, hpp⟩ : ∃ p, p = (parseP t).2 := ⟨_, rfl⟩
  have hpt : parseP t = (none, p) := by rw [hpp, ← hpe]
  obtain ⟨hc, hk⟩ := parse_ok hpt
  have htx := ladderText_spec G hH p (tx_of hc hk)
  have hwx := programText_spec G hNW hRW p (tx_of hc hk)
  rw [hpt] at hp hw; simp only [dErr, dS, dPg, cPg, dPw, cPw, dNms, dRgs, dFault, codeF, placeF, dNum] at hp hw htx hwx; generalize progT p = pt at *; generalize p.names.map cNm = NN at *; generalize p.rungs.map cRg = RR at *; generalize p.rungs.map cRw' = RW at *; refine rgc fw hw [0,3,4] [3,4] ?_; refine rgc fw hp [3,4,5,6] [3,4,5] ?_; refine AW_then fun K2 hK2 => ?_; refine rgq fw [3,4,5,6,32] [3,4,5] ?_; refine AW_ff rfl ?_; refine AW_skip (hK2 _ ?_); refine AW_rd (tyOf_good _) (by kernel_rfl) [2] [3, 4, 5] (fun _ _ => trivial) (by kernel_rfl) fun K' hK' => ?_; (repeat (refine sxd_next fun K2 hK2 => ?_; simp [dNum, dS, binS]; (repeat (refine ⟨by omega, ?_⟩)); refine hK2 _ ?_; clear hK2 K2)); refine sxd_next fun K2 hK2 => ?_; simp [dNum, dS, binS]; refine callQ.data (htx) (by simp; rfl) (by simp; rfl) (by first | exact D.leGo_refl _ | simp [takeMap, List.map_map, Function.comp_def, D.le, D.le.go, D.le_refl, D.leGo_refl, dNum, dS, binS]) ?_; refine hK2 _ ?_; clear hK2 K2; simp only [putd, upd_lst]; (repeat (refine sxd_next fun K2 hK2 => ?_; simp [dNum, dS, binS]; (repeat (refine ⟨by omega, ?_⟩)); refine hK2 _ ?_; clear hK2 K2)); refine sxd_next fun K2 hK2 => ?_; simp [dNum, dS, binS]; refine callQ.data (hwx) (by simp; rfl) (by simp; rfl) (by first | exact D.leGo_refl _ | simp [takeMap, List.map_map, Function.comp_def, D.le, D.le.go, D.le_refl, D.leGo_refl, dNum, dS, binS]) ?_; refine hK2 _ ?_; clear hK2 K2; simp only [putd, upd_lst]; (repeat (refine sxd_next fun K2 hK2 => ?_; simp [dNum, dS, binS]; (repeat (refine ⟨by omega, ?_⟩)); refine hK2 _ ?_; clear hK2 K2)); refine sxd_nil (hK' _ ?_); refine AW.st (by simp [dNum, dS, binS]; rfl) ?_; clear hK' K'; refine AW_ret ?_; simp [D.le, D.le.go, takeMap, dNum, dS]
end Go.Proofs.YthnjfeielmbfkaaGreatDoor
namespace Go.Proofs.YthnjfeielmbfkaaGreatDoor
open Go.Av Go.ChangeShapes Go.WideShapes Go.ChangeAt Go.RowKit
theorem law_own : ownKnob Tryz.prog.godebug = none := by kernel_rfl
theorem law_laidOut : laidOutB Tryz.prog = true := by kernel_rfl
theorem cells_int : Tryz.prog.cellsOf 3 = 1 := by kernel_rfl
section
variable {H : Type} {enc : TypeId × Value → H} {w : World} {base : Nat} {spare : Nat → Bool} {held : Bool} {X : Nat → Prop}
end
end Go.Proofs.YthnjfeielmbfkaaGreatDoor
