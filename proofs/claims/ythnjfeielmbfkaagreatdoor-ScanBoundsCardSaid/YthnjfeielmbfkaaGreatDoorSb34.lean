/-
  Texts that belong together, in one file: Sh19, SG, JP, LD, PM2, KB, Av37, SC1, SC2, SP1, C2, SC3, SC4, IP, SC5, P7, R1.
-/
import Derived.Test.YthnjfeielmbfkaaGreatDoorSb33
import Derived.Test.YthnjfeielmbfkaaGreatDoorProg
import Derived.Ground.Names8Prog
import Derived.Shelf.Spec.SlicesGrow
set_option linter.unusedSectionVars false
set_option linter.unusedSimpArgs false
set_option linter.unusedVariables false
namespace Go.Proofs
open Go.Shelf
def Tryz.growI_ren : Go.Shelf.Ren := ⟨fun | 4 => 154 | n => n, fun | 22 => 25 | 25 => 3 | 3 => 3 | 4 => 4 | 9 => 9 | 20 => 20 | 0 => 0 | n => n, fun | n => n⟩
theorem Tryz.growI : Go.Proofs.Lays8.n4 Tryz.prog Tryz.growI_ren := {
 mixed := by kernel_rfl
 f4 := ⟨Tryz.f154.name, by decide, Tryz.func154.trans (congrArg some (by kernel_rfl))⟩
 t0 := Tryz.underlying0
 a0 := Tryz.isAgg0
 z0 := Tryz.sizeOf0
 v0 := Tryz.zeroValue0
 t3 := Tryz.underlying3
 a3 := Tryz.isAgg3
 z3 := Tryz.sizeOf3
 v3 := Tryz.zeroValue3
 t4 := Tryz.underlying4
 a4 := Tryz.isAgg4
 z4 := Tryz.sizeOf4
 v4 := Tryz.zeroValue4
 t9 := Tryz.underlying9
 a9 := Tryz.isAgg9
 z9 := Tryz.sizeOf9
 v9 := Tryz.zeroValue9
 t20 := Tryz.underlying20
 a20 := Tryz.isAgg20
 z20 := Tryz.sizeOf20
 v20 := Tryz.zeroValue20
 t22 := Tryz.underlying25
 a22 := Tryz.isAgg25
 z22 := Tryz.sizeOf25
 v22 := Tryz.zeroValue25 }
end Go.Proofs
namespace Go.Proofs.YthnjfeielmbfkaaGreatDoor
open Go.Av Go.Shelf Go.RowKit
theorem size_grown (n G : Nat) (h : n ≤ G) : (([] : List Value).toArray ++ Builtin.zeroCells (Value.int .i64 0).cells (0 + n - 0) ++ Builtin.zeroCells (Value.int .i64 0).cells (G - (0 + n))).size = G := by
 simp [size_zeroCells, Value.cells]; omega
theorem grow_mc (G : Glob) (n : Nat) (hn : n ≤ 2^40) : MC Tryz.prog G [] 154 [.d (.sl (some false) []), .d (dNum n)] (hlst []) (.own 900 0 0) (hlst [(900, .sl 3 1 [])]) := by
 refine ⟨Fun.of Tryz.func154 rfl rfl, fun X w μ vs hs hgl hsz hv => ?_⟩
 obtain ⟨a, b, rfl⟩ : ∃ a b, vs = #[a, b] := by
  match vs, hsz with
  | ⟨[a, b]⟩, _ => exact ⟨a, b, rfl⟩
 obtain rfl : a = .slice none 0 0 := by
  rcases (hv 0 a _ rfl rfl).data.sl_inv with ⟨rfl, _⟩ | ⟨_, _, _, hk, _⟩
  ·rfl
  ·exact absurd rfl hk
 obtain rfl : b = .int .i64 n := (hv 1 b _ rfl rfl).scalar
 have hL := Tryz.growI
 have hin : In w X G μ ⟨0, [], none⟩ { tmps := #[], defers := [] } ⟨fun _ => none, hlst []⟩ := ⟨hs, ⟨rfl, rfl, fun i x h => by cases h⟩, hgl⟩
 have hH : ∀ row, hup (hlst []) 900 row = hlst [(900, row)] := fun row => by
  funext q
  by_cases h : q = 900
  ·subst h; rfl
  ·have hq : (q == 900) = false := by simpa using h
   simp only [hup, if_neg h, hlst, List.lookup, hq]
 by_cases h0 : n = 0
 ·subst h0; refine (Any8.slices_Grow_room hL none 0 0 0 w (by omega) (by omega) (by omega) (by omega)).mono fun e w' ⟨he, hw⟩ => ?_; subst hw
  obtain ⟨h1, ev⟩ := hin.alloc (Mv := notIn []) (w' := w') (m := ⟨none, 1, 0⟩) (d := 900) rfl (Grew.refl _) (by simp) (row := .sl 3 1 []) fun _ => .nil rfl rfl
  have h2 := h1.sim
  dsimp only at h2
  rw [hH] at h2; exact ⟨_, _, _, _, he, ⟨rfl, rfl⟩, .own (m := ⟨none, 1, 0⟩) (by simp [mup]) (.inl ⟨rfl, rfl, rfl, rfl⟩), h2, ev⟩
 ·obtain ⟨i0, hi, hz0, hz1, hz2⟩ := info_parts (P := Tryz.prog) (e := 3) (z := .int .i64 0) (size := 1) (bytes := 8) (by kernel_rfl)
  refine (Any8.slices_Grow_grow hL i0 (.int .i64 0) hi hz0 (by omega) none 0 0 n [] w (by omega) (by omega) (by rw [hz2]; omega) (by omega) (by simp) (fun _ => rfl) (fun a e => by cases e)).mono fun e w' ⟨he, hw⟩ => ?_
  have hge : n ≤ grownCap w (0 + n) 0 3 := by have := grownCap_ge w (0 + n) 0 3; omega
  have hle : grownCap w (0 + n) 0 3 ≤ maxLen := grownCap_le_maxLen w (0 + n) 0 3 (by unfold maxLen; omega)
  have he : e = .returned (.slice (some ⟨w.heap.size, 0, none⟩) 0 (grownCap w (0 + n) 0 3)) := he
  have hw : w' = w.drew.alloc (.cells (([] : List Value).toArray ++ Builtin.zeroCells (Value.int .i64 0).cells (0 + n - 0) ++ Builtin.zeroCells (Value.int .i64 0).cells (grownCap w (0 + n) 0 3 - (0 + n))) 3) := hw
  have hsz := size_grown n (grownCap w (0 + n) 0 3) hge
  generalize grownCap w (0 + n) 0 3 = C at he hw hge hle hsz; generalize (([] : List Value).toArray ++ Builtin.zeroCells (Value.int .i64 0).cells (0 + n - 0) ++ Builtin.zeroCells (Value.int .i64 0).cells (C - (0 + n))) = Z at hw hsz; subst hw
  have g1 := Grew.drew w
  have g2 := Grew.alloc w.drew (.cells Z 3)
  have hg : Grew w (w.drew.alloc (.cells Z 3)) := ⟨Nat.le_trans g1.size g2.size, g2.os.trans g1.os, g2.tape.trans g1.tape, g2.output.trans g1.output, fun b hb => (g2.same b (Nat.lt_of_lt_of_le hb g1.size)).trans (g1.same b hb)⟩
  have hnew : (w.drew.alloc (.cells Z 3)).heap[w.heap.size]? = some (.cells Z 3 (0, 0)) := heap_alloc_new w.drew _
  obtain ⟨h1, ev⟩ := hin.alloc (Mv := notIn []) (w' := w.drew.alloc (.cells Z 3)) (m := ⟨some w.heap.size, 1, C⟩) (d := 900) rfl hg (by rintro b h; injection h with h; omega) (row := .sl 3 1 []) fun _ =>
   .sl (b := w.heap.size) rfl rfl hnew (by simpa using hsz) (by simp) hle (by simp) (by omega) (by simp)
  have h2 := h1.sim
  dsimp only at h2
  rw [hH] at h2; exact ⟨_, _, _, _, he, ⟨rfl, rfl⟩, .own (m := ⟨some w.heap.size, 1, C⟩) (by simp [mup]) (.inr ⟨_, rfl, by simp, by simp⟩), h2, ev⟩
def dPls (l : List Nat) : List (List D) := l.map fun (n : Nat) => [dNum (n : Int)]
theorem dPls_app (a b : List Nat) : dPls (a ++ b) = dPls a ++ dPls b := by unfold dPls; rw [List.map_append]
def ct3 {α : Type} (a b c : α) : Nat → α
 | 0 => a
 | 1 => b
 | _ => c
set_option maxHeartbeats 4000000 in
theorem concat_spec (G : Glob) (a b : List Nat) (ha : a.length ≤ 2^30) (hb : b.length ≤ 2^30) : PureC Tryz.prog G 93 [.sl none [[.sl none (dPls a)], [.sl none (dPls b)]]] (.sl none (dPls (a ++ b))) := by
 rw [dPls_app]
 have hA1 : (∀ el ∈ dPls a, el.length = 1) = True := eq_true (by simp [dPls])
 have hB1 : (∀ el ∈ dPls b, el.length = 1) = True := eq_true (by simp [dPls])
 have hA2 : (∀ el ∈ dPls a, ∀ c ∈ el, c.one = true) = True := eq_true (by simp [dPls, dNum, D.one])
 have hB2 : (∀ el ∈ dPls b, ∀ c ∈ el, c.one = true) = True := eq_true (by simp [dPls, dNum, D.one])
 have hAl : (dPls a).length ≤ 2^30 := by simpa [dPls] using ha
 have hBl : (dPls b).length ≤ 2^30 := by simpa [dPls] using hb
 generalize dPls a = A at *; generalize dPls b = B at *
 have hgr := grow_mc G (A.length + B.length) (by omega)
 simp only [dNum] at hgr; refine PureC.of_body (tyOf_good _) Tryz.func93 rfl rfl (rs := [.tmp 2]) Tryz.results93 (by simp [Tryz.ntmps93]) fun X => ?_; simp only [Tryz.ntmps93, List.map]
 have fw := @dNum.eq_1
 refine rgq fw [0] [] ?_; refine rgq fw [0,3] [] ?_; refine AW_then fun K1 hK1 => ?_; refine rgq fw [0,3,9,10,11] [] ?_; refine AW_for (S := Nat) (fun n => n ≤ 2) (fun n => ⟨lst [(0, .d (.sl none [[.sl none A], [.sl none B]])), (3, int (ct3 0 (A.length : Int) ((A.length : Int) + B.length) n)), (9, .d (.sl none [[.sl none A], [.sl none B]])), (10, int 2), (11, int n)], hlst []⟩) (fun n => 2 - n) 0 ?_ (by omega) ?_
 ·refine Imp.to' (fun _ _ => trivial) (by simp [dNum, ct3]) (by simp [dNum, ct3])
 ·intro n hn
  rcases (by omega : n = 0 ∨ n = 1 ∨ n = 2) with rfl | rfl | rfl
  ·simp only [ct3]; refine rgq fw [0,3,9,10,11,12] [] ?_; refine AW_then fun K2 hK2 => ?_; refine AW_tt rfl ?_; refine AW_skip (hK2 _ ?_); refine AW_then fun K3 hK3 => ?_; refine AW_block ?_; refine rgq fw [0,3,5,9,10,11] [] ?_; refine rgq fw [0,3,9,10,11] [] ?_; refine rgq fw [0,3,9,10,11,20] [] ?_; refine AW_ff rfl ?_; refine AW_skip (hK3 _ ?_); refine AW_re (tyOf_good _) fun K' hK' => ?_; (repeat (refine sxn fun K2 hK2 => ?_; simp [dNum]; (repeat (refine ⟨by omega, ?_⟩)); refine hK2 _ ?_; clear hK2 K2)); refine sxz (hK' _ ?_); clear hK' K'; (try simp only [thn, inb]); refine Again.mk 1 (by omega) (by omega) ?_; refine Imp.to' (fun _ _ => trivial) (by simp [dNum, ct3]) (by simp [dNum, ct3])
  ·simp only [ct3]; refine rgq fw [0,3,9,10,11,12] [] ?_; refine AW_then fun K2 hK2 => ?_; refine AW_tt rfl ?_; refine AW_skip (hK2 _ ?_); refine AW_then fun K3 hK3 => ?_; refine AW_block ?_; refine rgq fw [0,3,5,9,10,11] [] ?_; refine rgq fw [0,3,9,10,11] [] ?_; refine rgq fw [0,3,9,10,11,20] [] ?_; refine AW_ff rfl ?_; refine AW_skip (hK3 _ ?_); refine AW_re (tyOf_good _) fun K' hK' => ?_; (repeat (refine sxn fun K2 hK2 => ?_; simp [dNum]; (repeat (refine ⟨by omega, ?_⟩)); refine hK2 _ ?_; clear hK2 K2)); refine sxz (hK' _ ?_); clear hK' K'; (try simp only [thn, inb]); refine Again.mk 2 (by omega) (by omega) ?_; refine Imp.to' (fun _ _ => trivial) (by simp [dNum, ct3]) (by simp [dNum, ct3])
  ·simp only [ct3]; refine rgq fw [0,3,9,10,11,12] [] ?_; refine AW_then fun K2 hK2 => ?_; refine AW_ff rfl ?_; refine AW_exit (hK1 _ ?_); refine rgm fw hgr [0,6] [900] ?_; refine AW_then fun K4 hK4 => ?_; refine rgq fw [6,25,26,27] [900] ?_; refine AW_for (S := Nat) (fun n => n ≤ 2) (fun n => ⟨lst [(6, .own 900 0 (ct3 0 A.length (A.length + B.length) n)), (25, .d (.sl none [[.sl none A], [.sl none B]])), (26, int 2), (27, int n)], hlst [(900, .sl 3 1 (ct3 [] A (A ++ B) n))]⟩) (fun n => 2 - n) 0 ?_ (by omega) ?_
   ·refine Imp.to' (fun _ _ => trivial) (by simp [dNum, ct3]) (by simp [dNum, ct3])
   ·intro n hn
    rcases (by omega : n = 0 ∨ n = 1 ∨ n = 2) with rfl | rfl | rfl
    ·simp only [ct3]; refine rgq fw [6,25,26,27,28] [900] ?_; refine AW_then fun K5 hK5 => ?_; refine AW_tt rfl ?_; refine AW_skip (hK5 _ ?_); refine AW_then fun K6 hK6 => ?_; refine AW_block ?_; refine rgq fw [6,8,25,26,27] [900] ?_
     have qf := (Aq fw (Aq @hA1 @hA2))
     refine reKv hK6 [6,25,26,27] [900] ?_; refine AW_re (tyOf_good _) fun K' hK' => ?_; (repeat (refine sxn fun K2 hK2 => ?_; simp [dNum]; (repeat (refine ⟨by omega, ?_⟩)); refine hK2 _ ?_; clear hK2 K2)); refine sxz (hK' _ ?_); clear hK' K'; (try simp only [thn, inb]); refine Again.mk 1 (by omega) (by omega) ?_; refine Imp.to' (fun _ _ => trivial) (by simp [dNum, ct3]) (by simp [dNum, ct3])
    ·simp only [ct3]; refine rgq fw [6,25,26,27,28] [900] ?_; refine AW_then fun K5 hK5 => ?_; refine AW_tt rfl ?_; refine AW_skip (hK5 _ ?_); refine AW_then fun K6 hK6 => ?_; refine AW_block ?_; refine rgq fw [6,8,25,26,27] [900] ?_; refine AW_re (tyOf_good _) fun K' hK' => ?_; (repeat (refine sxn fun K2 hK2 => ?_; simp [dNum, hB1, hB2, List.take_of_length_le]; (repeat (refine ⟨by omega, ?_⟩)); refine hK2 _ ?_; clear hK2 K2)); refine sxz (hK' _ ?_); clear hK' K'; refine hK6 _ (AW.norm [6, 25, 26, 27] [900] (fun _ _ => trivial) (AW.st (by simp [dNum, hB1, hB2, List.take_of_length_le]; rfl) ?_)); refine AW_re (tyOf_good _) fun K' hK' => ?_; (repeat (refine sxn fun K2 hK2 => ?_; simp [dNum]; (repeat (refine ⟨by omega, ?_⟩)); refine hK2 _ ?_; clear hK2 K2)); refine sxz (hK' _ ?_); clear hK' K'; (try simp only [thn, inb]); refine Again.mk 2 (by omega) (by omega) ?_; refine Imp.to' (fun _ _ => trivial) (by simp [dNum, ct3]) (by simp [dNum, ct3])
    ·simp only [ct3]; refine rgq fw [6,25,26,27,28] [900] ?_; refine AW_then fun K5 hK5 => ?_; refine AW_ff rfl ?_; refine AW_exit (hK4 _ ?_); refine AW.imp (Imp.freeze 900 trivial) ?_; refine AW.st (by simp [dNum]; rfl) ?_; refine rgq fw [2] [] ?_; refine AW_ret ?_; simp [D.le, D.le.go, takeMap, dNum, D.le_refl, D.leGo_refl]
end Go.Proofs.YthnjfeielmbfkaaGreatDoor
namespace Go.Proofs.YthnjfeielmbfkaaGreatDoor
open Go.Av
theorem AW0_then {P : Program} {Mv X : Nat → Prop} {G : Glob} {n s : Nat} {x y : Code} {Q : Exit → St → Prop} {σ : St} (h : ∀ K : St → Prop, (∀ σ', AW0 P Mv X G n s y Q σ' → K σ') → ∀ X' ds, AW P Mv X' G ⟨n, ds, none⟩ x (thn K Q) σ) : AW0 P Mv X G n s (.seq x y) Q σ :=
 AW0_seq (AW0_of (h _ fun _ h => h))
theorem AW0_thn {P : Program} {Mv X : Nat → Prop} {G : Glob} {n s : Nat} {x y : Code} {Q : Exit → St → Prop} {σ : St} (h : ∀ K : St → Prop, (∀ σ', AW0 P Mv X G n s y Q σ' → K σ') → AW0 P Mv X G n s x (thn K Q) σ) : AW0 P Mv X G n s (.seq x y) Q σ :=
 AW0_seq (h _ fun _ h => h)
theorem round_assign {P : Program} {Mv X : Nat → Prop} {G : Glob} {N : Fr} {x y : Code} {Q : Exit → St → Prop} {σ : St} (h : ∀ K : St → Prop, (∀ σ', AW P Mv X G N y Q σ' → K σ') → AW P Mv X G N x (thn K (fun _ _ => False)) σ) : AW P Mv X G N x (thn (AW P Mv X G N y Q) (fun _ _ => False)) σ :=
 h _ fun _ h => h
section
variable {P : Program} {X : Nat → Prop} {G : Glob} {n s : Nat} {σ τ τ' : St} {p : Prop}
theorem AW0.norm (l ns : List Nat) {c : Code} {Q : Exit → St → Prop} (h : AW0 P (fun _ => True) X G n s c Q (σ.norm l ns)) : AW0 P (fun _ => True) X G n s c Q σ := AW0.imp (fun X' ds => Imp.norm l ns fun _ _ => trivial) h
theorem AW0.st {c : Code} {Q : Exit → St → Prop} (h : σ = τ) (h' : AW0 P (fun _ => True) X G n s c Q τ) : AW0 P (fun _ => True) X G n s c Q σ := h ▸ h'
theorem rz0 (q : p) (l ns : List Nat) {id : Nat} {ops : Array Oper} {y : Code} {Q : Exit → St → Prop} (k : AW0 P (fun _ => True) X G n s y Q τ')
  (h : p → ∀ (X' : Nat → Prop) (ds : List Deferred) (K' : St → Prop), K' τ → sxf P (tyOf P) (fun _ => True) X' G ⟨n, ds, none⟩ ops K' ops.toList σ := by
   intro q X' ds K' hK'
   repeat (refine sxn fun K2 hK2 => ?_; simp [q]; (repeat (refine ⟨by omega, ?_⟩)); refine hK2 _ ?_; clear hK2 K2)
   exact sxz hK')
  (hn : p → τ.norm l ns = τ' := by intro q; simp [q]; rfl) : AW0 P (fun _ => True) X G n s (.seq (.region id ops false) y) Q σ :=
 AW0_seq (AW0_of fun X' ds => AW_re (tyOf_good _) fun K hK => h q X' ds K (hK _ (AW0.norm l ns (hn q ▸ k))))
theorem rz0m (q : p) {fx : List Nat} {g : FuncId} {xs : List AV} {rows1 rows2 : List (Nat × Row)} {yv : AV} (hc : MC P G fx g xs (hlst rows1) yv (hlst rows2)) (l ns : List Nat) {id : Nat} {ops : Array Oper} {y : Code} {Q : Exit → St → Prop} (k : AW0 P (fun _ => True) X G n s y Q τ')
  (h : p → MC P G fx g xs (hlst rows1) yv (hlst rows2) → ∀ (X' : Nat → Prop) (ds : List Deferred) (K' : St → Prop), K' τ → sxf P (tyOf P) (fun _ => True) X' G ⟨n, ds, none⟩ ops K' ops.toList σ := by
   intro q hc X' ds K' hK'
   (repeat (refine sxn fun K2 hK2 => ?_; simp [q]; (repeat (refine ⟨by omega, ?_⟩)); refine hK2 _ ?_; clear hK2 K2)); refine sxn fun K2 hK2 => ?_; simp [q]; refine callK.mc hc (by simp [q]) (by simp [q]) (by simp [q]) (by simp [q]) ?_; simp [q]; refine hK2 _ ?_; clear hK2 K2; repeat (refine sxn fun K2 hK2 => ?_; simp [q]; (repeat (refine ⟨by omega, ?_⟩)); refine hK2 _ ?_; clear hK2 K2)
   exact sxz hK')
  (hn : p → τ.norm l ns = τ' := by intro q; simp [q]; rfl) : AW0 P (fun _ => True) X G n s (.seq (.region id ops false) y) Q σ :=
 AW0_seq (AW0_of fun X' ds => AW_re (tyOf_good _) fun K hK => h q hc X' ds K (hK _ (AW0.norm l ns (hn q ▸ k))))
end
def nil2 : D := .sl (some false) []
def pHp (NN RR NA RA : List (List D)) (pl : Int) : Heap := hlst [(2, .box 29 [.d nil2, .d nil2]), (3, .box 31 [.d (.v .nilIface)]), (4, .box 29 [.own 801 0 NN.length, .own 802 0 RR.length]), (5, .box 25 [.own 803 0 NA.length]), (6, .box 25 [.own 804 0 RA.length]), (7, .box 3 [int pl]), (801, .sl 73 3 NN), (802, .sl 114 3 RR), (803, .sl 3 1 NA), (804, .sl 3 1 RA)]
theorem dC_one (c : Option Ex) : (dC c).one = true := by
 cases c with
 | none => rfl
 | some e => obtain ⟨a, b, h⟩ := dE_ifc e; rw [dC, h]; rfl
theorem getD_nat (l : List Nat) (i : Nat) (h : i < l.length) : (dPls l)[i]? = some [dNum ((l.getD i 0 : Nat) : Int)] := by
 rw [List.getD_eq_getElem?_getD]; unfold dPls; simp [h]
theorem check_lt {p : PgP} {c : Int} {i : Nat} (h : checkP p = some (c, some i)) : i < p.names.length + p.rungs.length := by
 unfold checkP at h
 split at h
 ·cases h
 ·split at h
  ·rename_i e k hf
   have := firstBad_lt hf
   simp only [Option.some.injEq, Prod.mk.injEq] at h
   omega
  ·split at h
   ·rename_i e k hf
    have := firstBad_lt hf
    simp only [Option.some.injEq, Prod.mk.injEq] at h
    omega
   ·cases h
theorem rungP_bad {k : Int} {nm hd rest : Tx} {c : Int} {off : Nat} (h : rungP k nm hd rest = .bad c off) : off ≤ hd.length + 1 + rest.length := by
 unfold rungP at h
 split at h
 ·rename_i c' o hp
  simp only [LnR.bad.injEq] at h
  cases o with
  | none => simp at h; omega
  | some o =>
   have := parse_at hp
   simp at h; omega
 ·cases h
theorem line_bad {s : Tx} {c : Int} {off : Nat} (h : lineP s = .bad c off) : off ≤ 2 * s.length + 1 := by
 have hle := cutAt_le 61 s
 have nb : ∀ l, nameL l ≠ .bad c off := fun l => by
  match l with
  | [] => simp [nameL]
  | [a] => simp [nameL, nameP]
  | [a, b] => simp only [nameL, nameP]; split <;> simp
  | [a, b, c] => simp only [nameL, nameP]; split <;> (try split) <;> simp
  | a :: b :: c :: d :: l => simp [nameL, nameP]
 unfold lineP at h
 split at h
 ·have h2 : off ≤ (cutAt 61 s).1.length + 1 + (cutAt 61 s).2.length := by
   match hw : wordsT (cutAt 61 s).1, h with
   | [a], h => exact rungP_bad h
   | [a, b], h =>
    simp only [rungL] at h
    split at h
    ·cases h
    ·exact rungP_bad h
  omega
 ·exact absurd h (nb _)
theorem lxq : (⟨#[]⟩ : ByteArray) = bs [] := rfl
theorem lxq32 : (⟨#[32]⟩ : ByteArray) = bs [32] := rfl
set_option maxRecDepth 100000 in
set_option maxHeartbeats 32000000 in
theorem lparse_spec (G : Glob) (hM : HasMax G) (hP : HasP10 G) (hG : HasErr G) {es er : Value} (hE : HasNE G es er) (t : Tx) : PureC Tryz.prog G 40 [dS t] (.tup [dPg (parseP t).2, dErr (parseP t).1]) := by
 refine PureC.of_body0 (tyOf_good _) Tryz.func40 rfl rfl (rs := [.cell 2 29, .cell 3 31]) Tryz.results40 (by simp [Tryz.ntmps40]) fun X s0 => ?_; simp only [Tryz.ntmps40, List.map]
 have fw := (Aq @dNum.eq_1 @dS.eq_1)
 refine rz0 fw [0, 2, 3] [2, 3] ?_; refine AW0_then fun K1 hK1 X' ds => ?_
 by_cases ht : 20000 < t.length
 ·have ht1 : (t.length : Int) > 20000 := by omega
  have hp : parseP t = (some (4, none), ⟨[], []⟩) := by unfold parseP; rw [if_pos ht]
  have qf := (Aq fw (Aq @bs_size @ht1))
  refine rgqv [0,2,3,19] [2,3] ?_; refine AW_cond true (by simp [ht1]) (fun _ => ?_) (fun h => by cases h); refine rgq fw [2,3] [2,3] ?_; refine AW_ret ?_; simp [D.le, D.le.go, takeMap, dNum, dS, hp, dPg, cPg, dNms, dRgs, dErr]
 have ht1 : ¬ (t.length : Int) > 20000 := by omega
 have hseq := splitSeq_mc2 G t
 have qf := (Aq fw (Aq @bs_size @ht1))
 refine rgqv [0,2,3,19] [2,3] ?_; refine AW_cond false (by simp [ht1]) (fun h => by cases h) (fun _ => ?_); refine AW_skip (hK1 _ ?_); refine rz0 fw [0, 2, 3, 4] [2, 3, 4] ?_; refine rz0 fw [0, 2, 3, 4, 5, 6] [2, 3, 4, 5, 6] ?_; refine rz0 fw [0, 2, 3, 4, 5, 6, 7] [2, 3, 4, 5, 6, 7] ?_; refine AW0_thn fun K5 hK5 => ?_; refine AW0.imp (fun X' ds => Imp.adoptCell 4 0 801 73 3 rfl rfl rfl) ?_; refine AW0.st (by simp; rfl) ?_; refine AW0.imp (fun X' ds => Imp.adoptCell 4 1 802 114 3 rfl rfl rfl) ?_; refine AW0.st (by simp; rfl) ?_; refine AW0.imp (fun X' ds => Imp.adoptCell 5 0 803 3 1 rfl rfl rfl) ?_; refine AW0.st (by simp; rfl) ?_; refine AW0.imp (fun X' ds => Imp.adoptCell 6 0 804 3 1 rfl rfl rfl) ?_; refine AW0.st (by simp; rfl) ?_; simp only [seqRows, seqFn, dS, dNum] at hseq; refine rz0m (Aq @lxs10 fw) hseq [2, 3, 4, 5, 6, 7, 23] [2, 3, 4, 5, 6, 7, 511, 512, 513, 801, 802, 803, 804] ?_; refine AW0_block ?_
 obtain ⟨l, hl⟩ : ∃ l, l = cutT 10 t := ⟨_, rfl⟩
 have hllen := cutT_len 10 t
 rw [← hl] at hllen
 obtain ⟨inv, hinvD⟩ : ∃ f : Nat → Heap, f = fun k => match prK l k with
  | .inl _ => hno
  | .inr s => pHp (s.names.map cNm) (s.rungs.map cRg) (dPls s.nAt) (dPls s.rAt) (placeK l k) := ⟨_, rfl⟩
 have hinv : ∀ k s, prK l k = .inr s → inv k = pHp (s.names.map cNm) (s.rungs.map cRg) (dPls s.nAt) (dPls s.rAt) (placeK l k) := fun k s h => by rw [hinvD]; dsimp only; rw [h]
 refine AW0_rangeFunc (l.map fun s => .string (bs s)) [511, 512, 513] [2, 3, 4, 5, 6, 7] (lst [(2, .ref 2 0 0), (3, .ref 3 0 0), (4, .ref 4 0 0), (5, .ref 5 0 0), (6, .ref 6 0 0), (7, .ref 7 0 0)]) inv (fun k => ∃ s, prK l k = .inr s) ⟨prS0, rfl⟩ (gf := 188) (caps := [.ref 512 0 0, .ref 511 0 0, .ref 513 0 0]) (by simp) (Fun.of Tryz.func188 rfl rfl) (by decide) ?hIt ?he1 ?hH (fun _ _ => trivial) ?hfx ?round ?done
 case hIt =>
  intro w X μ lb hs hgl hsz hlr
  rw [hl]; refine seq_iter G hM t (by omega) w X μ lb ?_ hgl hsz ?_
  ·simpa [seqRows, dS, dNum] using hs
  ·intro i u x hu hx
   have h := hlr i u x hu hx
   match i, hx with
   | 0, hx => obtain rfl := Option.some.inj hx; exact h
   | 1, hx => obtain rfl := Option.some.inj hx; exact h
   | 2, hx => obtain rfl := Option.some.inj hx; exact h
 case he1 =>
  intro i x hx
  have h := lst_mem hx
  simp only [List.mem_cons, List.not_mem_nil, or_false, Prod.mk.injEq] at h
  rcases h with ⟨rfl, rfl⟩ | ⟨rfl, rfl⟩ | ⟨rfl, rfl⟩ | ⟨rfl, rfl⟩ | ⟨rfl, rfl⟩ | ⟨rfl, rfl⟩ <;> exact ⟨rfl, _, rfl, rfl⟩
 case hH =>
  rw [hinv 0 prS0 rfl]; simp [pHp, prS0, dPls, placeK_zero, nil2]
  try rfl
 case hfx =>
  intro q h
  simp at h ⊢
  omega
 case done =>
  rintro ⟨s, hs⟩
  rw [List.length_map] at hs ⊢
  have hpe := parseP_end (s := s) (by omega) (hl ▸ hs)
  have hok := prOk_k (t := t) (by omega) (Nat.le_refl _) (hl ▸ hs)
  have hsm := prOk_small hok (by rw [← hl]; omega)
  have hchk := ladderCheck_spec G ⟨s.names, s.rungs⟩ hsm
  rw [hinv _ _ hs]; refine hK5 _ (AW0_of fun X' ds => ?_)
  obtain ⟨hnl, hrl, hnm, _, _⟩ := hok
  rw [← hl] at hnm
  have hplace : ∀ c i, checkP ⟨s.names, s.rungs⟩ = some (c, some i) → i < (s.nAt ++ s.rAt).length := fun c i h => by have := check_lt h; simp at this ⊢; omega
  unfold pHp; refine AW.imp (Imp.freeze 801 trivial) ?_; refine AW.st (by simp [dNum, dS]; rfl) ?_; refine AW.imp (Imp.freeze 802 trivial) ?_; refine AW.st (by simp [dNum, dS]; rfl) ?_; refine AW.imp (Imp.freeze 803 trivial) ?_; refine AW.st (by simp [dNum, dS]; rfl) ?_; refine AW.imp (Imp.freeze 804 trivial) ?_; refine AW.st (by simp [dNum, dS]; rfl) ?_
  have hcc := concat_spec G s.nAt s.rAt (by omega) (by omega)
  have hgd := fun i h => getD_nat (s.nAt ++ s.rAt) i h
  simp only [dPg, cPg, dNms, dRgs] at hchk; generalize hNN : s.names.map cNm = NN at hchk ⊢; generalize hRR : s.rungs.map cRg = RR at hchk ⊢; generalize dPls s.nAt = NA at hcc ⊢; generalize dPls s.rAt = RA at hcc ⊢; generalize dPls (s.nAt ++ s.rAt) = CC at hcc hgd
  cases hck : checkP ⟨s.names, s.rungs⟩ with
  | none =>
   rw [hck] at hchk hpe; simp only [dErr] at hchk; refine rgc fw hchk [2,3,4,5,6,14] [2,3,4,5,6,7] ?_; refine AW_then fun K7 hK7 => ?_; refine rgq (Aq fw (Aq @pairA.eq_1 (Aq @pairA.eq_2 @assertA.eq_1))) [2,3,4,5,6,14,15,16] [2,3,4,5,6,7] ?_; refine rgq fw [2,3,4,5,6,14,15,108] [2,3,4,5,6,7] ?_; refine AW_ff rfl ?_; refine AW_skip (hK7 _ ?_); refine AW_then fun K8 hK8 => ?_; refine rgq fw [2,3,4,14,127] [2,3,4,5,6,7] ?_; refine AW_ff rfl ?_; refine AW_skip (hK8 _ ?_); refine rgq fw [2,3] [2,3,4,5,6,7] ?_; refine AW_ret ?_; simp [D.le, D.le.go, takeMap, dNum, dS, hpe, dPg, cPg, dNms, dRgs, dErr, hNN, hRR, D.le_refl, D.leGo_refl]
  | some ci =>
   obtain ⟨c, i⟩ := ci
   rw [hck] at hchk hpe
   cases i with
   | none =>
    simp only [dErr] at hchk; refine rgc fw hchk [2,3,4,5,6,14] [2,3,4,5,6,7] ?_; refine AW_then fun K7 hK7 => ?_; refine rgq (Aq fw (Aq @pairA.eq_1 (Aq @pairA.eq_2 @assertA.eq_1))) [2,3,4,5,6,14,15,16] [2,3,4,5,6,7] ?_; refine rgq fw [2,3,4,5,6,14,15,108] [2,3,4,5,6,7] ?_; refine AW_ff rfl ?_; refine AW_skip (hK7 _ ?_); refine AW_then fun K8 hK8 => ?_; refine rgq fw [2,3,4,14,127] [2,3,4,5,6,7] ?_; refine AW_tt rfl ?_; refine rgq fw [2,3] [2,3,4,5,6,7] ?_; refine AW_ret ?_; simp [D.le, D.le.go, takeMap, dNum, dS, hpe, dPg, cPg, dNms, dRgs, dErr]
   | some i =>
    have hi := hplace c i hck
    have hgi := hgd i hi
    dsimp only at hpe
    obtain ⟨hil, hgv⟩ := List.getElem?_eq_some_iff.1 hgi
    simp only [dErr] at hchk; simp only [dNum] at hgv; clear hgi; generalize (s.nAt ++ s.rAt).getD i 0 = pl at hgv hpe; refine rgc fw hchk [2,3,4,5,6,14] [2,3,4,5,6,7] ?_; refine AW_then fun K7 hK7 => ?_; refine rgq (Aq fw (Aq @pairA.eq_1 (Aq @pairA.eq_2 @assertA.eq_1))) [2,3,4,5,6,14,15,16] [2,3,4,5,6,7] ?_; refine rgq fw [2,3,4,5,6,14,15,108] [2,3,4,5,6,7] ?_; refine AW_tt rfl ?_; refine AW_rbe (tyOf_good _) (by kernel_rfl) ([6, 15]) (List.range 18) (by kernel_rfl) fun K' hK' => ?_; (repeat (refine sxb_nextO rfl fun K2 hK2 => ?_; simp [dNum, dS, hil, hgv]; (repeat (refine ⟨by omega, ?_⟩)); refine hK2 _ ?_; clear hK2 K2)); refine sxb_nextO rfl fun K2 hK2 => ?_; simp [dNum, dS, hil, hgv]; refine callD.mk (hcc) (by simp; rfl) (by simp; rfl) (by first | exact D.leGo_refl _ | simp [takeMap, List.map_map, Function.comp_def, D.le, D.le.go, D.le_refl, D.leGo_refl, dNum, dS, hil, hgv]) (by simp) ?_; refine hK2 _ ?_; clear hK2 K2; simp only [putd, upd_lst]; (repeat (refine sxb_nextO rfl fun K2 hK2 => ?_; simp [dNum, dS, hil, hgv]; (repeat (refine ⟨by omega, ?_⟩)); refine hK2 _ ?_; clear hK2 K2)); refine sxb_nilO (hK' _ ?_); clear hK' K'; refine hK7 _ (AW.norm [2, 3, 4, 14] [2, 3, 4, 5, 6, 7] (fun _ _ => trivial) (AW.st (by simp [dNum, dS, hil, hgv]; rfl) ?_)); refine AW_then fun K8 hK8 => ?_; refine rgq fw [2,3,4,14,127] [2,3,4,5,6,7] ?_; refine AW_tt rfl ?_; refine rgq fw [2,3] [2,3,4,5,6,7] ?_; refine AW_ret ?_; simp [D.le, D.le.go, takeMap, dNum, dS, hpe, dPg, cPg, dNms, dRgs, dErr]
 case round =>
  rintro X' L k hk ⟨s, hs⟩
  have hk' : k < l.length := by simpa using hk
  obtain ⟨ln, hln⟩ : ∃ ln, ln = l[k] := ⟨_, rfl⟩
  rw [hinv k s hs, show (l.map fun s => Value.string (bs s))[k] = .string (bs ln) by simp [hln]]
  have hpb : placeK l k + ln.length ≤ t.length := by rw [hln]; subst hl; exact piece_le hk'
  have hpl : (placeK l (k + 1) : Int) = (placeK l k : Int) + ((ln.length : Int) + 1) := by rw [placeK_succ hk', ← hln]; omega
  have hok := prOk_k (t := t) (by omega) (Nat.le_of_lt (hl ▸ hk')) (hl ▸ hs)
  have hnx : ∀ s', stepS s (placeK l k) ln = .inr s' → prK l (k + 1) = .inr s' := fun s' h => prK_next hk' hs (hln ▸ h)
  have herr : ∀ c i, stepS s (placeK l k) ln = .inl (c, i) → parseP t = (some (c, some i), ⟨[], []⟩) := fun c i h => parseP_bad (by omega) (hl ▸ prK_err hk' hs (hln ▸ h))
  obtain ⟨hnl, hrl, hnm, _, _⟩ := hok
  have htr := trim1_spec G ln (by omega)
  have htw := trim_words ln
  have hline := fun h => line_spec G hM hP hG hE ln (by omega) h
  generalize hpk : placeK l k = pk at *
  have hN2 : (s.names.map cNm).length = s.names.length := by simp
  have hR2 : (s.rungs.map cRg).length = s.rungs.length := by simp
  have hNA2 : (dPls s.nAt).length = s.names.length := by simp [dPls, hnl]
  have hRA2 : (dPls s.rAt).length = s.rungs.length := by simp [dPls, hrl]
  generalize hNN : s.names.map cNm = NN at *; generalize hRR : s.rungs.map cRg = RR at *; generalize hNA : dPls s.nAt = NA at *; generalize hRA : dPls s.rAt = RA at *; unfold pHp; refine AW.st (by simp; rfl) ?_; refine round_assign fun K7 hK7 => ?_; refine reK fw hK7 [2,3,4,5,6,7,8] [2,3,4,5,6,7,801,802,803,804] ?_; refine AW_block ?_; refine AW_then fun K8 hK8 => ?_; simp only [dS] at htr
  by_cases h0 : wordsT ln = []
  ·have hz := htw.2 h0
   rw [hz] at htr
   have hst : stepS s pk ln = .inr s := by unfold stepS; rw [if_pos h0]
   have hn := hnx _ hst
   refine rg [2, 3, 4, 5, 6, 7, 8, 27] [2, 3, 4, 5, 6, 7, 801, 802, 803, 804] (notIn_ok rfl) fun K' hK' => ?_; (repeat (refine sxn fun K2 hK2 => ?_; simp [dNum, dS, lxq, lxq32, binS, bs_list]; (repeat (refine ⟨by omega, ?_⟩)); refine hK2 _ ?_; clear hK2 K2)); refine sxn fun K2 hK2 => ?_; simp [dNum, dS, lxq, lxq32, binS, bs_list]; refine callK.data (htr) (by simp; rfl) (by first | exact D.leGo_refl _ | simp [takeMap, List.map_map, Function.comp_def, D.le, D.le.go, D.le_refl, D.leGo_refl, dNum, dS, lxq, lxq32, binS, bs_list]) ?_; refine hK2 _ ?_; clear hK2 K2; simp only [putd, upd_lst]; (repeat (refine sxn fun K2 hK2 => ?_; simp [dNum, dS, lxq, lxq32, binS, bs_list]; (repeat (refine ⟨by omega, ?_⟩)); refine hK2 _ ?_; clear hK2 K2)); refine sxz (hK' _ (AW.st (by simp [dNum, dS, lxq, lxq32, binS, bs_list]; rfl) ?_)); clear hK' K'; refine AW_ff rfl ?_; refine AW_skip (hK8 _ ?_); refine AW_re (tyOf_good _) fun K' hK' => ?_; (repeat (refine sxn fun K2 hK2 => ?_; simp [dNum, dS, bs_size]; (repeat (refine ⟨by omega, ?_⟩)); refine hK2 _ ?_; clear hK2 K2)); refine sxz (hK' _ ?_); clear hK' K'; (try simp only [thn, inb]); refine And.intro ⟨s, hn⟩ ?_; rw [hinv _ _ hn, hpl, hNN, hRR, hNA, hRA]; unfold pHp; refine (show Imp _ _ _ _ _ ⟨lst [], hlst _⟩ from ?_); refine Imp.to' (notIn_ok rfl) (by simp [dNum, dS, hpl]) (by simp [dNum, dS, hpl])
  have hz : Lib.trimB ln 32 ≠ [] := fun h => h0 (htw.1 h)
  have hst0 : stepS s pk ln = match lineP ln with
   | .form => .inl (3, pk)
   | .bad c off => .inl (c, pk + off)
   | .name n => if s.rungs = [] then .inr ⟨s.names ++ [n], s.nAt ++ [pk], s.rungs, s.rAt⟩ else .inl (3, pk)
   | .rung r => .inr ⟨s.names, s.nAt, s.rungs ++ [r], s.rAt ++ [pk]⟩ := by unfold stepS; rw [if_neg h0]; cases lineP ln <;> rfl
  have hlp := hline h0
  simp only [dS] at hlp; generalize Lib.trimB ln 32 = tz at htr hz; refine rg [2, 3, 4, 5, 6, 7, 8, 27] [2, 3, 4, 5, 6, 7, 801, 802, 803, 804] (notIn_ok rfl) fun K' hK' => ?_; (repeat (refine sxn fun K2 hK2 => ?_; simp [dNum, dS, lxq, lxq32, binS, bs_list, hz]; (repeat (refine ⟨by omega, ?_⟩)); refine hK2 _ ?_; clear hK2 K2)); refine sxn fun K2 hK2 => ?_; simp [dNum, dS, lxq, lxq32, binS, bs_list, hz]; refine callK.data (htr) (by simp; rfl) (by first | exact D.leGo_refl _ | simp [takeMap, List.map_map, Function.comp_def, D.le, D.le.go, D.le_refl, D.leGo_refl, dNum, dS, lxq, lxq32, binS, bs_list, hz]) ?_; refine hK2 _ ?_; clear hK2 K2; simp only [putd, upd_lst]; (repeat (refine sxn fun K2 hK2 => ?_; simp [dNum, dS, lxq, lxq32, binS, bs_list, hz]; (repeat (refine ⟨by omega, ?_⟩)); refine hK2 _ ?_; clear hK2 K2)); refine sxz (hK' _ (AW.st (by simp [dNum, dS, lxq, lxq32, binS, bs_list, hz]; rfl) ?_)); clear hK' K'; refine AW_cond true (by simp [hz]) (fun _ => ?_) (fun h => by cases h)
  have hlb := fun c off => line_bad (s := ln) (c := c) (off := off)
  cases hlk : lineP ln with
  | form =>
   rw [hlk] at hlp hst0
   dsimp only at hst0
   simp only [dLine] at hlp
   have hp := herr _ _ hst0
   refine rgc fw hlp [2,3,4,5,6,7,8,9,10,11] [2,3,4,5,6,7,801,802,803,804] ?_; refine AW_then fun K9 hK9 => ?_; refine rgq (Aq fw (Aq @pairA.eq_1 (Aq @pairA.eq_2 @assertA.eq_1))) [2,3,4,5,6,7,8,9,10,11,12,13] [2,3,4,5,6,7,801,802,803,804] ?_; refine rgq fw [2,3,4,5,6,7,8,9,10,11,12,39] [2,3,4,5,6,7,801,802,803,804] ?_; refine AW_ff rfl ?_; refine AW_skip (hK9 _ ?_); refine AW_block ?_; refine AW_then fun K10 hK10 => ?_; refine rgq fw [2,3,4,5,6,7,8,9,10,66] [2,3,4,5,6,7,801,802,803,804] ?_; refine AW_tt rfl ?_; refine AW_skip (hK10 _ ?_); refine AW_tt rfl ?_; refine AW_rQ (tyOf_good _) (by kernel_rfl) ([3]) ([(1, 7), (5, 2), (6, 3)]) (List.range 7) [2, 3] [2, 3, 4, 5, 6, 7, 801, 802, 803, 804] (notIn_ok rfl) (by kernel_rfl) fun K' hK' => ?_; (repeat (refine sxQ_nextO rfl fun K2 hK2 => ?_; simp [dNum, dS]; (repeat (refine ⟨by omega, ?_⟩)); refine hK2 _ ?_; clear hK2 K2)); refine sxQ_nilO (hK' _ ?_); refine AW.st (by simp [dNum, dS]; rfl) ?_; clear hK' K'; refine AW_ret (Exists.intro _ (And.intro (Imp.env (by intro i x h; cases h)) ?_)); simp [D.le, D.le.go, takeMap, hp, dPg, cPg, dNms, dRgs, dErr, nil2, dNum]
  | bad c off =>
   rw [hlk] at hlp hst0
   dsimp only at hst0
   simp only [dLine] at hlp
   have hp := herr _ _ hst0
   have ho := hlb c off hlk
   have hcs : ((pk + off : Nat) : Int) = (pk : Int) + (off : Int) := by omega
   refine rgc fw hlp [2,3,4,5,6,7,8,9,10,11] [2,3,4,5,6,7,801,802,803,804] ?_; refine AW_then fun K9 hK9 => ?_; refine rgq (Aq fw (Aq @pairA.eq_1 (Aq @pairA.eq_2 @assertA.eq_1))) [2,3,4,5,6,7,8,9,10,11,12,13] [2,3,4,5,6,7,801,802,803,804] ?_; refine rgq fw [2,3,4,5,6,7,8,9,10,11,12,39] [2,3,4,5,6,7,801,802,803,804] ?_; refine AW_tt rfl ?_; refine AW_rQ (tyOf_good _) (by kernel_rfl) ([12]) ([(4, 999), (5, 7), (9, 999), (14, 2), (15, 3)]) (List.range 16) [2, 3] [2, 3, 4, 5, 6, 7, 801, 802, 803, 804] (notIn_ok rfl) (by kernel_rfl) fun K' hK' => ?_; (repeat (refine sxQ_nextO rfl fun K2 hK2 => ?_; simp [dNum, dS]; (repeat (refine ⟨by omega, ?_⟩)); refine hK2 _ ?_; clear hK2 K2)); refine sxQ_nilO (hK' _ ?_); refine AW.st (by simp [dNum, dS]; rfl) ?_; clear hK' K'; refine AW_ret (Exists.intro _ (And.intro (Imp.env (by intro i x h; cases h)) ?_)); simp [D.le, D.le.go, takeMap, hp, dPg, cPg, dNms, dRgs, dErr, nil2, dNum, hcs]
  | name n =>
   rw [hlk] at hlp hst0
   dsimp only at hst0
   simp only [dLine] at hlp
   have hcn : cNm n = [.v (.string (bs n.name)), .v (.int .i64 n.kind), .v (.int .i64 n.count)] := rfl
   have hNs : (s.names ++ [n]).map cNm = NN ++ [cNm n] := by rw [List.map_append, hNN]; rfl
   have hAs : dPls (s.nAt ++ [pk]) = NA ++ [[.v (.int .i64 pk)]] := by rw [← hNA]; unfold dPls; rw [List.map_append]; rfl
   generalize bs n.name = nm at hcn; generalize n.kind = kd at hcn; generalize n.count = ct at hcn; rw [hcn] at hlp hNs; refine rgc fw hlp [2,3,4,5,6,7,8,9,10,11] [2,3,4,5,6,7,801,802,803,804] ?_; refine AW_then fun K9 hK9 => ?_; refine rgq (Aq fw (Aq @pairA.eq_1 (Aq @pairA.eq_2 @assertA.eq_1))) [2,3,4,5,6,7,8,9,10,11,12,13] [2,3,4,5,6,7,801,802,803,804] ?_; refine rgq fw [2,3,4,5,6,7,8,9,10,11,12,39] [2,3,4,5,6,7,801,802,803,804] ?_; refine AW_ff rfl ?_; refine AW_skip (hK9 _ ?_); refine AW_block ?_; refine AW_then fun K10 hK10 => ?_; refine rgq fw [2,3,4,5,6,7,8,9,10,66] [2,3,4,5,6,7,801,802,803,804] ?_; refine AW_ff rfl ?_
   by_cases hr0 : s.rungs = []
   ·rw [if_pos hr0] at hst0
    have hn := hnx _ hst0
    have hra0 : RA = [] := List.length_eq_zero_iff.1 (by rw [hRA2, hr0]; rfl)
    subst hra0; refine reK fw hK10 [2,3,4,5,6,7,8,9,10,66] [2,3,4,5,6,7,801,802,803,804] ?_; refine AW_ff rfl ?_; refine rgq fw [2,3,4,5,6,7,8,9,10,81] [2,3,4,5,6,7,801,802,803,804] ?_; refine AW_ff rfl ?_; refine AW_rle (tyOf_good _) (by kernel_rfl) ([(6, (801, 59)), (10, (803, 63))]) ([(7, [801]), (8, [801]), (9, [801]), (11, [803])]) ([0, 1, 2, 3, 4, 7, 8, 5, 9, 6, 11, 10, 12, 13]) (by kernel_rfl) fun K' hK' => ?_; (repeat (refine sxl_nextO rfl fun K2 hK2 => ?_; simp [dNum, dS, List.take_of_length_le]; (repeat (refine ⟨by omega, ?_⟩)); refine hK2 _ ?_; clear hK2 K2)); refine sxl_nilO (hK' _ ?_); clear hK' K'; refine hK8 _ (AW.norm [2, 3, 4, 5, 6, 7, 8] [2, 3, 4, 5, 6, 7, 801, 802, 803, 804] (notIn_ok rfl) (AW.st (by simp [dNum, dS, List.take_of_length_le]; rfl) ?_)); refine AW_re (tyOf_good _) fun K' hK' => ?_; (repeat (refine sxn fun K2 hK2 => ?_; simp [dNum, dS, bs_size]; (repeat (refine ⟨by omega, ?_⟩)); refine hK2 _ ?_; clear hK2 K2)); refine sxz (hK' _ ?_); clear hK' K'; (try simp only [thn, inb]); refine And.intro ⟨_, hn⟩ ?_; rw [hinv _ _ hn, hpl]
    dsimp only
    rw [hNs, hAs, hRR, hRA]; unfold pHp; refine (show Imp _ _ _ _ _ ⟨lst [], hlst _⟩ from ?_); refine Imp.to' (notIn_ok rfl) (by simp [dNum, dS, hpl]) (by simp [dNum, dS, hpl])
   ·rw [if_neg hr0] at hst0
    have hp := herr _ _ hst0
    have hra0 : 0 < RA.length := by rw [hRA2]; exact List.length_pos_iff.2 hr0
    have qf := (Aq fw @hra0)
    refine reKv hK10 [2,3,4,5,6,7,8,9,10,66] [2,3,4,5,6,7,801,802,803,804] ?_; refine AW_cond true (by simp [hra0]) (fun _ => ?_) (fun h => by cases h); refine AW_rQ (tyOf_good _) (by kernel_rfl) ([3]) ([(1, 7), (5, 2), (6, 3)]) (List.range 7) [2, 3] [2, 3, 4, 5, 6, 7, 801, 802, 803, 804] (notIn_ok rfl) (by kernel_rfl) fun K' hK' => ?_; (repeat (refine sxQ_nextO rfl fun K2 hK2 => ?_; simp [dNum, dS]; (repeat (refine ⟨by omega, ?_⟩)); refine hK2 _ ?_; clear hK2 K2)); refine sxQ_nilO (hK' _ ?_); refine AW.st (by simp [dNum, dS]; rfl) ?_; clear hK' K'; refine AW_ret (Exists.intro _ (And.intro (Imp.env (by intro i x h; cases h)) ?_)); simp [D.le, D.le.go, takeMap, hp, dPg, cPg, dNms, dRgs, dErr, nil2, dNum]
  | rung r =>
   rw [hlk] at hlp hst0
   dsimp only at hst0
   simp only [dLine] at hlp
   have hn := hnx _ hst0
   have ho1 := dC_one r.cond
   have hcr : cRg r = [.v (.int .i64 r.kind), .v (.string (bs r.name)), dC r.cond] := rfl
   have hRs : (s.rungs ++ [r]).map cRg = RR ++ [cRg r] := by rw [List.map_append, hRR]; rfl
   have hAs : dPls (s.rAt ++ [pk]) = RA ++ [[.v (.int .i64 pk)]] := by rw [← hRA]; unfold dPls; rw [List.map_append]; rfl
   generalize bs r.name = nm at hcr; generalize r.kind = kd at hcr; generalize dC r.cond = dc at hcr ho1; rw [hcr] at hlp hRs; refine rgc fw hlp [2,3,4,5,6,7,8,9,10,11] [2,3,4,5,6,7,801,802,803,804] ?_; refine AW_then fun K9 hK9 => ?_; refine rgq (Aq fw (Aq @pairA.eq_1 (Aq @pairA.eq_2 @assertA.eq_1))) [2,3,4,5,6,7,8,9,10,11,12,13] [2,3,4,5,6,7,801,802,803,804] ?_; refine rgq fw [2,3,4,5,6,7,8,9,10,11,12,39] [2,3,4,5,6,7,801,802,803,804] ?_; refine AW_ff rfl ?_; refine AW_skip (hK9 _ ?_); refine AW_block ?_; refine AW_then fun K10 hK10 => ?_; refine rgq fw [2,3,4,5,6,7,8,9,10,66] [2,3,4,5,6,7,801,802,803,804] ?_; refine AW_ff rfl ?_; refine reK fw hK10 [2,3,4,5,6,7,8,9,10,66] [2,3,4,5,6,7,801,802,803,804] ?_; refine AW_ff rfl ?_; refine rgq fw [2,3,4,5,6,7,8,9,10,81] [2,3,4,5,6,7,801,802,803,804] ?_; refine AW_tt rfl ?_; refine AW_rle (tyOf_good _) (by kernel_rfl) ([(6, (802, 89)), (10, (804, 93))]) ([(7, [802]), (8, [802]), (9, [802]), (11, [804])]) ([0, 1, 2, 3, 4, 7, 8, 5, 9, 6, 11, 10, 12, 13]) (by kernel_rfl) fun K' hK' => ?_; (repeat (refine sxl_nextO rfl fun K2 hK2 => ?_; simp [dNum, dS, List.take_of_length_le, ho1]; (repeat (refine ⟨by omega, ?_⟩)); refine hK2 _ ?_; clear hK2 K2)); refine sxl_nilO (hK' _ ?_); clear hK' K'; refine hK8 _ (AW.norm [2, 3, 4, 5, 6, 7, 8] [2, 3, 4, 5, 6, 7, 801, 802, 803, 804] (notIn_ok rfl) (AW.st (by simp [dNum, dS, List.take_of_length_le, ho1]; rfl) ?_)); refine AW_re (tyOf_good _) fun K' hK' => ?_; (repeat (refine sxn fun K2 hK2 => ?_; simp [dNum, dS, bs_size]; (repeat (refine ⟨by omega, ?_⟩)); refine hK2 _ ?_; clear hK2 K2)); refine sxz (hK' _ ?_); clear hK' K'; (try simp only [thn, inb]); refine And.intro ⟨_, hn⟩ ?_; rw [hinv _ _ hn, hpl]
   dsimp only
   rw [hRs, hAs, hNN, hNA]; unfold pHp; refine (show Imp _ _ _ _ _ ⟨lst [], hlst _⟩ from ?_); refine Imp.to' (notIn_ok rfl) (by simp [dNum, dS, hpl]) (by simp [dNum, dS, hpl])
end Go.Proofs.YthnjfeielmbfkaaGreatDoor
namespace Go.Proofs.YthnjfeielmbfkaaGreatDoor
open Go.Av
theorem nameF_len {s : Tx} (h : nameF s = true) : s ≠ [] ∧ s.length ≤ 8 := by
 unfold nameF at h; simp only [Bool.and_eq_true, decide_eq_true_eq] at h; exact ⟨h.1, h.2.1⟩
end Go.Proofs.YthnjfeielmbfkaaGreatDoor
namespace Go.Proofs.YthnjfeielmbfkaaGreatDoor
open Go.Av
theorem name_chars {s : Tx} (h : nameF s = true) : ∀ c ∈ s, c ≠ 10 ∧ c ≠ 32 ∧ c ≠ 61 := by
 unfold nameF at h; simp only [Bool.and_eq_true, decide_eq_true_eq, trim_nil] at h
 obtain ⟨h1, h2, h3, h4, h5, -⟩ := h
 have hs : ∀ c : UInt8, cutL.contains c = true → c ≠ 10 ∧ c ≠ 32 ∧ c ≠ 61 := by
  have h : ∀ n : Fin 256, cutL.contains (UInt8.ofNat n) = true → UInt8.ofNat n ≠ 10 ∧ UInt8.ofNat n ≠ 32 ∧ UInt8.ofNat n ≠ 61 := by decide +kernel
  intro c
  have := h ⟨c.toNat, c.toNat_lt⟩
  simpa using this
 exact fun c hc => hs c (h5 c hc)
theorem joinTail_mem {c : UInt8} {s : Tx} : ∀ {l : List Tx}, c ∈ Lib.joinTail s l → c ∈ s ∨ ∃ x ∈ l, c ∈ x
 | [], h => by simp [Lib.joinTail] at h
 | x :: l, h => by
  simp only [Lib.joinTail, List.map_cons, List.flatten_cons, List.mem_append] at h
  rcases h with (h | h) | h
  ·exact .inl h
  ·exact .inr ⟨x, by simp, h⟩
  ·rcases joinTail_mem (show c ∈ Lib.joinTail s l from h) with h | ⟨y, hy, hc⟩
   ·exact .inl h
   ·exact .inr ⟨y, by simp [hy], hc⟩
theorem join_mem {c : UInt8} : ∀ {l : List Tx} {s : Tx}, c ∈ Lib.join l s → c ∈ s ∨ ∃ x ∈ l, c ∈ x
 | [], s, h => by simp [Lib.join, List.intercalate] at h
 | x :: l, s, h => by
  rw [Lib.join_cons, List.mem_append] at h
  rcases h with h | h
  ·exact .inr ⟨x, by simp, h⟩
  ·rcases joinTail_mem h with h | ⟨y, hy, hc⟩
   ·exact .inl h
   ·exact .inr ⟨y, by simp [hy], hc⟩
theorem wr_line : ∀ (n : Nat) (e : Ex), SizeOf.sizeOf e ≤ n → WfE e → ∀ k, (10 : UInt8) ∉ wrE e k := by
 intro n
 induction n with
 | zero => intro e h; cases e <;> simp at h <;> omega
 | succ n ih =>
  intro e hs hw k hm
  cases e with
  | cst b => cases b <;> simp [wrE] at hm
  | bit s => rw [wrE] at hm; exact (name_chars hw 10 hm).1 rfl
  | rise s =>
   rw [wrE] at hm
   rcases List.mem_cons.1 hm with hm | hm
   ·revert hm; decide
   ·exact (name_chars hw 10 hm).1 rfl
  | fall s =>
   rw [wrE] at hm
   rcases List.mem_cons.1 hm with hm | hm
   ·revert hm; decide
   ·exact (name_chars hw 10 hm).1 rfl
  | not x =>
   rw [wrE] at hm
   rcases List.mem_cons.1 hm with hm | hm
   ·revert hm; decide
   ·exact ih x (by simp at hs; omega) hw 2 hm
  | and l =>
   have hj : ∀ s : Tx, (10 : UInt8) ∉ s → (10 : UInt8) ∉ Lib.join (wrL l 2) s := fun s h1 h => by
    rcases join_mem h with h | ⟨x, hx, hc⟩
    ·exact h1 h
    ·rw [wrL_map] at hx
     obtain ⟨y, hy, rfl⟩ := List.mem_map.1 hx
     have := List.sizeOf_lt_of_mem hy
     exact ih y (by simp at hs; omega) ((WfEs_iff l).1 hw.2 y hy) 2 hc
   rw [wrE] at hm
   have h3 := hj [32, 38, 32] (by decide)
   split at hm
   ·rw [List.mem_append, List.mem_append] at hm
    rcases hm with (hm | hm) | hm
    ·revert hm; decide
    ·exact h3 hm
    ·revert hm; decide
   ·exact h3 hm
  | or l =>
   have hj : ∀ s : Tx, (10 : UInt8) ∉ s → (10 : UInt8) ∉ Lib.join (wrL l 1) s := fun s h1 h => by
    rcases join_mem h with h | ⟨x, hx, hc⟩
    ·exact h1 h
    ·rw [wrL_map] at hx
     obtain ⟨y, hy, rfl⟩ := List.mem_map.1 hx
     have := List.sizeOf_lt_of_mem hy
     exact ih y (by simp at hs; omega) ((WfEs_iff l).1 hw.2 y hy) 1 hc
   rw [wrE] at hm
   have h3 := hj [32, 124, 32] (by decide)
   split at hm
   ·rw [List.mem_append, List.mem_append] at hm
    rcases hm with (hm | hm) | hm
    ·revert hm; decide
    ·exact h3 hm
    ·revert hm; decide
   ·exact h3 hm
theorem parse_blank {e : Ex} (hw : WfE e) (hd : dpI e ≤ 20) (hl : (wrE e 0).length ≤ 1999) : parseM (32 :: wrE e 0) = (some e, none) := by
 generalize ht : (32 : UInt8) :: wrE e 0 = t
 have hlen : t.length = (wrE e 0).length + 1 := by rw [← ht]; rfl
 have hs : Has t 1 (wrE e 0) := fun k hk => by rw [← ht, Nat.add_comm]; rfl
 have k0 : skipB t 0 = 1 := by
  rw [skipB_blank (by rw [← ht]; rfl)]; exact skip_at hs (wr_head e 0 hw)
 have k1 : skipB t (1 + (wrE e 0).length) = t.length := by
  rw [hlen, Nat.add_comm 1]; exact skipB_stop (by rw [List.getElem?_eq_none (by omega)]; simp)
 have hor := or_back (t := t) hw hd 0 (Nat.zero_le _) (by rw [k0]; exact hs) (by rw [k0]; intro c hc; rw [List.getElem?_eq_none (by omega)] at hc; cases hc) (by rw [k0, k1]; simp) (by rw [k0, k1]; simp)
 rw [k0, k1] at hor; unfold parseM; rw [if_neg (by omega), hor]
 dsimp only
 have k2 : skipB t t.length = t.length := skipB_stop (by simp)
 rw [k2, if_neg (by omega)]
theorem words_one {a : Tx} (ha : (32 : UInt8) ∉ a) (h0 : a ≠ []) : wordsT a = [a] := by
 have := wordsGo_skip a [] [] ha
 rw [List.append_nil, List.nil_append] at this; unfold wordsT; rw [this]; simp [wordsGo, h0]
theorem words_cons {a b : Tx} (ha : (32 : UInt8) ∉ a) (h0 : a ≠ []) : wordsT (a ++ 32 :: b) = a :: wordsT b := by
 have := wordsGo_skip a [] (32 :: b) ha
 rw [List.nil_append] at this; unfold wordsT; rw [this]
 conv => lhs; unfold wordsGo
 simp [h0]
theorem words_end {a : Tx} (ha : (32 : UInt8) ∉ a) (h0 : a ≠ []) : wordsT (a ++ [32]) = [a] := by
 rw [words_cons ha h0]; rfl
def kwordN (k : Int) : Tx := if k = 1 then [105, 110, 112, 117, 116] else if k = 2 then [99, 111, 105, 108] else if k = 3 then [116, 105, 109, 101, 114] else [99, 111, 117, 110, 116, 101, 114]
theorem headN_word {k : Int} (h : 1 ≤ k ∧ k ≤ 4) : headN k = kwordN k ++ [32] ∧ (32 : UInt8) ∉ kwordN k ∧ (61 : UInt8) ∉ kwordN k ∧ (10 : UInt8) ∉ kwordN k ∧ kwordN k ≠ [] ∧ ixW kwN (kwordN k) = k := by
 have : k = 1 ∨ k = 2 ∨ k = 3 ∨ k = 4 := by omega
 rcases this with rfl | rfl | rfl | rfl <;> decide +kernel
def kwordR (k : Int) : Tx := if k = 2 then [115, 101, 116] else if k = 3 then [114, 101, 115, 101, 116] else if k = 4 then [114, 117, 110] else if k = 5 then [99, 111, 117, 110, 116] else [122, 101, 114, 111]
theorem headG_word {k : Int} (h : 2 ≤ k ∧ k ≤ 6) : headG k = kwordR k ++ [32] ∧ (32 : UInt8) ∉ kwordR k ∧ (61 : UInt8) ∉ kwordR k ∧ (10 : UInt8) ∉ kwordR k ∧ kwordR k ≠ [] ∧ ixW kwR (kwordR k) = k := by
 have : k = 2 ∨ k = 3 ∨ k = 4 ∨ k = 5 ∨ k = 6 := by omega
 rcases this with rfl | rfl | rfl | rfl | rfl <;> decide +kernel
theorem dig_small {n : Int} (h : 1 ≤ n ∧ n ≤ 7) : numF (dig n.toNat) = some n ∧ (32 : UInt8) ∉ dig n.toNat ∧ (61 : UInt8) ∉ dig n.toNat ∧ (10 : UInt8) ∉ dig n.toNat ∧ dig n.toNat ≠ [] := by
 have : n = 1 ∨ n = 2 ∨ n = 3 ∨ n = 4 ∨ n = 5 ∨ n = 6 ∨ n = 7 := by omega
 rcases this with rfl | rfl | rfl | rfl | rfl | rfl | rfl <;> decide +kernel
def nameB (n : NmP) : Tx := headN n.kind ++ n.name ++ cntT n
def rungB (r : RgP) : Tx := headG r.kind ++ r.name ++ [32, 61, 32] ++ condT r.cond
structure NmOk (n : NmP) : Prop where
 name : nameF n.name = true
 kind : 1 ≤ n.kind ∧ n.kind ≤ 4
 count : (n.kind < 3 ∧ n.count = 0) ∨ (3 ≤ n.kind ∧ 1 ≤ n.count ∧ n.count ≤ 7)
structure RgOk (r : RgP) : Prop where
 name : nameF r.name = true
 kind : 1 ≤ r.kind ∧ r.kind ≤ 6
 cond : ∃ e, r.cond = some e ∧ WfE e ∧ dpI e ≤ 20 ∧ (wrE e 0).length ≤ 1990
theorem nameB_line {n : NmP} (h : NmOk n) : (10 : UInt8) ∉ nameB n ∧ wordsT (nameB n) ≠ [] ∧ lineP (nameB n) = .name n := by
 obtain ⟨hn, hk, hc⟩ := h
 obtain ⟨e1, w1, w2, w3, w4, w5⟩ := headN_word hk
 have hch := name_chars hn
 have hnn := (name_facts hn).1
 have c10 : (10 : UInt8) ∉ n.name := fun hm => (hch 10 hm).1 rfl
 have c32 : (32 : UInt8) ∉ n.name := fun hm => (hch 32 hm).2.1 rfl
 have c61 : (61 : UInt8) ∉ n.name := fun hm => (hch 61 hm).2.2 rfl
 obtain ⟨nm, kd, ct⟩ := n
 dsimp only at *
 have hB : nameB ⟨nm, kd, ct⟩ = kwordN kd ++ 32 :: (nm ++ cntT ⟨nm, kd, ct⟩) := by simp [nameB, e1]
 have h10 : (10 : UInt8) ∉ cntT ⟨nm, kd, ct⟩ ∧ (61 : UInt8) ∉ cntT ⟨nm, kd, ct⟩ := by
  unfold cntT
  rcases hc with ⟨h1, h2⟩ | ⟨h1, h2⟩
  ·rw [if_neg (by dsimp only; omega)]; simp
  ·rw [if_pos (by dsimp only; omega)]
   obtain ⟨_, d2, d3, d4, _⟩ := dig_small h2
   simp [d3, d4]
 have hw : wordsT (nameB ⟨nm, kd, ct⟩) = kwordN kd :: wordsT (nm ++ cntT ⟨nm, kd, ct⟩) := by rw [hB, words_cons w1 w4]
 refine ⟨?_, ?_, ?_⟩
 ·rw [hB]; simp [w3, c10, h10.1]
 ·rw [hw]; simp
 ·unfold lineP; rw [if_neg (by rw [hB]; simp [w2, c61, h10.2]), hw]
  show nameP (ixW kwN (kwordN kd)) _ = _
  rw [w5]
  rcases hc with ⟨h1, rfl⟩ | ⟨h1, h2⟩
  ·have e : cntT ⟨nm, kd, 0⟩ = [] := by unfold cntT; rw [if_neg (by dsimp only; omega)]
   rw [e, List.append_nil, words_one c32 hnn]; rw [nameP, if_pos (by omega)]
  ·have e : cntT ⟨nm, kd, ct⟩ = 32 :: dig ct.toNat := by unfold cntT; rw [if_pos (by dsimp only; omega)]
   obtain ⟨d1, d2, d3, d4, d5⟩ := dig_small h2
   rw [e, words_cons c32 hnn, words_one d2 d5]; rw [nameP, if_pos (by omega), d1]
theorem rungB_line {r : RgP} (h : RgOk r) : (10 : UInt8) ∉ rungB r ∧ wordsT (rungB r) ≠ [] ∧ lineP (rungB r) = .rung r := by
 obtain ⟨hn, hk, e, he, hw, hd, hl⟩ := h
 have hch := name_chars hn
 have hnn := (name_facts hn).1
 have c10 : (10 : UInt8) ∉ r.name := fun hm => (hch 10 hm).1 rfl
 have c32 : (32 : UInt8) ∉ r.name := fun hm => (hch 32 hm).2.1 rfl
 have c61 : (61 : UInt8) ∉ r.name := fun hm => (hch 61 hm).2.2 rfl
 obtain ⟨kd, nm, cd⟩ := r
 dsimp only at *
 subst he
 have hwl := wr_line _ e (Nat.le_refl _) hw 0
 have hpb := parse_blank hw hd (by omega)
 obtain ⟨hd', hhd⟩ : ∃ hd', headG kd ++ nm ++ [32] = hd' := ⟨_, rfl⟩
 have hB : rungB ⟨kd, nm, some e⟩ = hd' ++ 61 :: (32 :: wrE e 0) := by rw [← hhd]; simp [rungB, condT]
 have hG : (10 : UInt8) ∉ headG kd ∧ (61 : UInt8) ∉ headG kd := by
  by_cases h1 : kd = 1
  ·subst h1; decide
  ·obtain ⟨g1, g2, g3, g4, _⟩ := headG_word (k := kd) (by omega)
   rw [g1]; simp [g3, g4]
 have h61 : (61 : UInt8) ∉ hd' := by rw [← hhd]; simp [hG.2, c61]
 have hwd : wordsT hd' ≠ [] ∧ ∀ rest, parseM rest = (some e, none) → rungL hd' rest (wordsT hd') = .rung ⟨kd, nm, some e⟩ := by
  by_cases h1 : kd = 1
  ·subst h1
   have : hd' = nm ++ [32] := by rw [← hhd]; rfl
   rw [this, words_end c32 hnn]; refine ⟨by simp, fun rest hr => ?_⟩; rw [rungL, rungP, hr]
  ·obtain ⟨g1, g2, g3, g4, g5, g6⟩ := headG_word (k := kd) (by omega)
   have : hd' = kwordR kd ++ 32 :: (nm ++ [32]) := by rw [← hhd, g1]; simp
   rw [this, words_cons g2 g5, words_end c32 hnn]; refine ⟨by simp, fun rest hr => ?_⟩; rw [rungL, g6, if_neg (by omega), rungP, hr]
 refine ⟨?_, ?_, ?_⟩
 ·rw [hB, ← hhd]; simp [hG.1, c10, hwl]
 ·intro h0
  rw [wordsT_nil] at h0
  have := h0 61 (by rw [hB]; simp)
  revert this; decide
 ·unfold lineP; rw [if_pos (by rw [hB]; simp), hB, cutAt_some h61]; exact hwd.2 _ hpb
theorem cut_lines : ∀ (l : List Tx), (∀ s ∈ l, (10 : UInt8) ∉ s) → cutT 10 (l.flatMap fun s => s ++ [10]) = l ++ [[]]
 | [], _ => rfl
 | s :: l, h => by
  rw [List.flatMap_cons, List.append_assoc]
  show cutT 10 (s ++ 10 :: (l.flatMap fun s => s ++ [10])) = _
  rw [cutT_some (h s (by simp)), cut_lines l fun x hx => h x (by simp [hx])]
  rfl
def progL (p : PgP) : List Tx := p.names.map nameB ++ p.rungs.map rungB
theorem progT_L (p : PgP) : progT p = (progL p).flatMap fun s => s ++ [10] := by
 unfold progT namesTx rungsTx progL; rw [List.flatMap_append, List.flatMap_map, List.flatMap_map]
 rfl
theorem read_names {l : List Tx} {ns : List NmP} (hn : ∀ n ∈ ns, NmOk n) (hl : ∀ i (h : i < ns.length), l[i]? = some (nameB ns[i])) : ∀ k, k ≤ ns.length → ∃ s, prK l k = .inr s ∧ s.names = ns.take k ∧ s.rungs = []
 | 0, _ => ⟨prS0, rfl, by simp [prS0], rfl⟩
 | k + 1, hk => by
  obtain ⟨s, h1, h2, h3⟩ := read_names hn hl k (by omega)
  obtain ⟨_, b2, b3⟩ := nameB_line (hn ns[k] (List.getElem_mem (by omega)))
  have hg : l.getD k [] = nameB ns[k] := by rw [List.getD_eq_getElem?_getD, hl k (by omega)]; rfl
  rw [prK, h1]
  dsimp only
  rw [hg]; unfold stepS; rw [if_neg b2, b3]
  dsimp only
  rw [if_pos h3]; exact ⟨_, rfl, by rw [h2, List.take_succ_eq_append_getElem (by omega)], h3⟩
theorem read_rungs {l : List Tx} {p : PgP} (hn : ∀ n ∈ p.names, NmOk n) (hr : ∀ r ∈ p.rungs, RgOk r) (hl : ∀ i (h : i < p.names.length), l[i]? = some (nameB p.names[i])) (hl2 : ∀ i (h : i < p.rungs.length), l[p.names.length + i]? = some (rungB p.rungs[i])) :
  ∀ k, k ≤ p.rungs.length → ∃ s, prK l (p.names.length + k) = .inr s ∧ s.names = p.names ∧ s.rungs = p.rungs.take k
 | 0, _ => by
  obtain ⟨s, h1, h2, h3⟩ := read_names hn hl p.names.length (Nat.le_refl _)
  exact ⟨s, h1, by rw [h2, List.take_length], by rw [h3]; simp⟩
 | k + 1, hk => by
  obtain ⟨s, h1, h2, h3⟩ := read_rungs hn hr hl hl2 k (by omega)
  obtain ⟨_, b2, b3⟩ := rungB_line (hr p.rungs[k] (List.getElem_mem (by omega)))
  have hg : l.getD (p.names.length + k) [] = rungB p.rungs[k] := by rw [List.getD_eq_getElem?_getD, hl2 k (by omega)]; rfl
  rw [← Nat.add_assoc, prK, h1]
  dsimp only
  rw [hg]; unfold stepS; rw [if_neg b2, b3]; exact ⟨_, rfl, h2, by dsimp only; rw [h3, List.take_succ_eq_append_getElem (by omega)]⟩
theorem back_law {p : PgP} (hc : checkP p = none) (hn : ∀ n ∈ p.names, NmOk n) (hr : ∀ r ∈ p.rungs, RgOk r) (hl : (progT p).length ≤ 20000) : parseP (progT p) = (none, p) := by
 have hcut : cutT 10 (progT p) = progL p ++ [[]] := by
  rw [progT_L]; refine cut_lines _ fun s hs => ?_
  rcases List.mem_append.1 hs with hs | hs
  ·obtain ⟨n, hn', rfl⟩ := List.mem_map.1 hs
   exact (nameB_line (hn n hn')).1
  ·obtain ⟨r, hr', rfl⟩ := List.mem_map.1 hs
   exact (rungB_line (hr r hr')).1
 have hlen : (progL p).length = p.names.length + p.rungs.length := by simp [progL]
 obtain ⟨s, h1, h2, h3⟩ := read_rungs (l := progL p ++ [[]]) hn hr (fun i h => by
   rw [List.getElem?_append_left (by omega)]; unfold progL; rw [List.getElem?_append_left (by simpa using h)]
   simp [h]) (fun i h => by
   rw [List.getElem?_append_left (by omega)]; unfold progL; rw [List.getElem?_append_right (by simp)]
   simp [h]) p.rungs.length (Nat.le_refl _)
 rw [List.take_length] at h3
 have hend : prK (progL p ++ [[]]) (progL p ++ [[]]).length = .inr s := by
  rw [List.length_append, hlen]
  show prK _ (p.names.length + p.rungs.length + 1) = _
  rw [prK, h1]
  dsimp only
  have : (progL p ++ [[]]).getD (p.names.length + p.rungs.length) [] = [] := by
   rw [List.getD_eq_getElem?_getD, List.getElem?_append_right (by omega), hlen]; simp
  rw [this]; unfold stepS; rw [if_pos (show wordsT [] = [] from rfl)]
 rw [parseP_end hl (by rw [hcut]; exact hend), h2, h3]
 show (match checkP p with | none => _ | some (c, none) => _ | some (c, some i) => _) = _
 rw [hc]
end Go.Proofs.YthnjfeielmbfkaaGreatDoor
namespace Go.Proofs.YthnjfeielmbfkaaGreatDoor
open Go.Av
theorem lineP_dp {s : Tx} {r : RgP} (h : lineP s = .rung r) : ∃ e, r.cond = some e ∧ WfE e ∧ dpI e ≤ 20 ∧ bE e ≤ 10000 := by
 unfold lineP at h
 split at h
 ·obtain ⟨k, nm, hm, hr⟩ := rungL_ok h
  obtain ⟨e, he, hp, _, hn, _⟩ := rungP_ok hr
  exact ⟨e, he, (parse_wf hp).1, (parse_wf hp).2, parse_b hp⟩
 ·exact absurd h nameL_rung
def CondOk (r : RgP) : Prop := ∃ e, r.cond = some e ∧ WfE e ∧ dpI e ≤ 20 ∧ bE e ≤ 10000
theorem prK_cond {l : List Tx} : ∀ {k : Nat} {s : PrS}, prK l k = .inr s → ∀ r ∈ s.rungs, CondOk r
 | 0, s, h => by
  simp only [prK, Sum.inr.injEq] at h; subst h; simp [prS0]
 | k + 1, s, h => by
  rw [prK] at h
  cases hk : prK l k with
  | inl e => rw [hk] at h; cases h
  | inr s0 =>
   rw [hk] at h
   dsimp only at h
   have ih := prK_cond hk
   unfold stepS at h
   split at h
   ·simp only [Sum.inr.injEq] at h; subst h; exact ih
   ·split at h
    ·cases h
    ·cases h
    ·split at h
     ·simp only [Sum.inr.injEq] at h; subst h; exact ih
     ·cases h
    ·rename_i r hr
     simp only [Sum.inr.injEq] at h; subst h
     intro r' hr'
     rcases List.mem_append.1 hr' with h1 | h1
     ·exact ih r' h1
     ·obtain rfl := List.mem_singleton.1 h1
      exact lineP_dp hr
theorem parse_ok {t : Tx} {p : PgP} (h : parseP t = (none, p)) : checkP p = none ∧ ∀ r ∈ p.rungs, CondOk r := by
 unfold parseP at h
 split at h
 ·cases h
 ·split at h
  ·cases h
  ·rename_i s hs
   split at h
   ·rename_i hc
    simp only [Prod.mk.injEq, true_and] at h; subst h; exact ⟨hc, prK_cond hs⟩
   ·cases h
   ·cases h
theorem parse_err {t : Tx} {e : Int × Option Nat} (h : (parseP t).1 = some e) : (parseP t).2 = ⟨[], []⟩ := by
 by_cases h1 : 20000 < t.length
 ·unfold parseP; rw [if_pos h1]
 ·cases hs : prK (cutT 10 t) (cutT 10 t).length with
  | inl ci => obtain ⟨c, i⟩ := ci; rw [parseP_bad (by omega) hs]
  | inr s =>
   rw [parseP_end (by omega) hs] at h ⊢
   cases hc : checkP ⟨s.names, s.rungs⟩ with
   | none => rw [hc] at h; cases h
   | some co =>
    obtain ⟨c, o⟩ := co
    cases o <;> rfl
theorem back_of {p : PgP} (hc : checkP p = none) (hk : ∀ r ∈ p.rungs, CondOk r) (hw : ∀ r ∈ p.rungs, ∀ e, r.cond = some e → (wrE e 0).length ≤ 1990) (hl : (progT p).length ≤ 20000) : parseP (progT p) = (none, p) := by
 have hg := checkP_good hc
 have hr := checkP_rung hc
 refine back_law hc (fun n hn => ⟨(hg.name n hn).1, (hg.name n hn).2, hg.count n hn⟩) (fun r hr1 => ?_) hl
 obtain ⟨h1, h2, _⟩ := hr r hr1
 obtain ⟨e, he, hwf, hd, _⟩ := hk r hr1
 obtain ⟨k, hk, hke, hks⟩ := idx_pos h2
 have hks' : p.names[k].name = r.name := by simpa using hks
 have h4 := (hg.name _ (List.getElem_mem hk)).1
 rw [hks'] at h4; exact ⟨h4, h1, e, he, hwf, hd, hw r hr1 e he⟩
end Go.Proofs.YthnjfeielmbfkaaGreatDoor
namespace Go.Av
section
variable {P : Program} {T : Ty} {Mv X : Nat → Prop} {G : Glob} {N : Fr} {w : World} {μ : Mu} {a : Act} {σ : St} {ops : Array Oper}
def patch (R : List Nat) (H0 H2 : Heap) : Heap := fun q => if R.contains q then H0 q else H2 q
def ClosedR (R : List Nat) (H : Heap) : Prop := ∀ q, R.contains q = true → H q = none ∨ ∃ (t : TypeId) (cs : List D), H q = some (.box t (cs.map AV.d))
def OutR (R : List Nat) (H0 H : Heap) : Prop := ∀ q, R.contains q = false → H0 q = H q
def offR (R : List Nat) : AV → Bool
 | .ref r _ _ => !R.contains r
 | _ => true
def HCA (P : Program) (G : Glob) (mvd R : List Nat) (g : FuncId) (xs : List AV) (H : Heap) (y : AV) (H2 : Heap) : Prop :=
 ClosedR R H ∧ (∀ q, R.contains q = true → H2 q = H q) ∧ ∀ H0, ClosedR R H0 → OutR R H0 H → HC P G mvd g xs H0 y (patch R H0 H2)
theorem patch_self {R : List Nat} {H H2 : Heap} (h : ∀ q, R.contains q = true → H2 q = H q) : patch R H H2 = H2 := by
 funext q
 unfold patch
 split
 ·rename_i hq; exact (h q hq).symm
 ·rfl
theorem HCA.hc {mvd R : List Nat} {g : FuncId} {xs : List AV} {H H2 : Heap} {y : AV} (h : HCA P G mvd R g xs H y H2) : HC P G mvd g xs H y H2 := by
 have := h.2.2 H h.1 fun _ _ => rfl
 rwa [patch_self h.2.1] at this
theorem HCA.swap {mvd R : List Nat} {g : FuncId} {xs : List AV} {H H2 H' : Heap} {y : AV} (h : HCA P G mvd R g xs H y H2) (hc : ClosedR R H') (ho : OutR R H' H) : HCA P G mvd R g xs H' y (patch R H' H2) := by
 refine ⟨hc, fun q hq => by unfold patch; rw [if_pos hq], fun H0 h0 ho0 => ?_⟩
 have e : patch R H0 (patch R H' H2) = patch R H0 H2 := by
  funext q
  unfold patch
  split
  ·rfl
  ·rfl
 rw [e]; exact h.2.2 H0 h0 fun q hq => (ho0 q hq).trans (ho q hq)
theorem LdSame.swap {R : List Nat} {H H2 H' : Heap} {p : Nat × AV} (h : LdSame T ops H H2 p) (hp : offR R p.2 = true) (ho : OutR R H' H) : LdSame T ops H' (patch R H' H2) p := by
 obtain ⟨k, v⟩ := p
 unfold LdSame at h ⊢
 dsimp only at h hp ⊢
 cases he : ops[k]? with
 | none => rw [he] at h; exact h.elim
 | some o =>
  rw [he] at h
  dsimp only at h ⊢
  split at h <;> try exact h.elim
  cases v with
  | ref r e j =>
   simp only [offR, Bool.not_eq_true'] at hp
   have e1 := ho r hp
   have e2 : patch R H' H2 r = H2 r := by unfold patch; rw [if_neg (by rw [hp]; decide)]
   unfold loadA at h ⊢
   dsimp only at h ⊢
   rw [e1, e2]; exact h
  | d x => cases x <;> rfl
  | _ => rfl
theorem closed_hup {R : List Nat} {H : Heap} {d : Nat} {t : TypeId} {cs : List D} (h : ClosedR R H) : ClosedR R (hup H d (.box t (cs.map AV.d))) := fun q hq => by
 unfold hup
 split
 ·exact .inr ⟨t, cs, rfl⟩
 ·exact h q hq
theorem closed_of {R : List Nat} {H : Heap} {d : Nat} {b : Row} (h : ClosedR R (hup H d b)) (hd : H d = none) : ClosedR R H := fun q hq => by
 by_cases e : q = d
 ·subst e; exact .inl hd
 ·have := h q hq
  unfold hup at this; rwa [if_neg e] at this
theorem out_hup {R : List Nat} {H : Heap} {d : Nat} {b : Row} (hd : R.contains d = true) : OutR R (hup H d b) H := fun q hq => by
 unfold hup; rw [if_neg (fun e => by subst e; rw [hd] at hq; cases hq)]
theorem OutR.symm {R : List Nat} {H H' : Heap} (h : OutR R H H') : OutR R H' H := fun q hq => (h q hq).symm
theorem patch_hup {R : List Nat} {H H2 : Heap} {d : Nat} {b : Row} (hd : R.contains d = true) : hup (patch R H H2) d b = patch R (hup H d b) H2 := by
 funext q
 unfold hup patch
 by_cases e : q = d
 ·subst e; simp only [if_true, hd]
 ·simp only [if_neg e]
theorem patch_hup2 {R : List Nat} {H H2 : Heap} {d : Nat} {b : Row} (hd : R.contains d = true) (h : ∀ q, R.contains q = true → H2 q = H q) : patch R (hup H d b) H2 = hup H2 d b := by
 rw [← patch_hup hd, patch_self h]
def isAl (R : List Nat) (o : Oper) : Bool := match o.op, o.dst with
 | .alloc _, some d => R.contains d
 | _, _ => false
theorem al_ex {R : List Nat} {o : Oper} (h : isAl R o = true) : ∃ t d, o.op = .alloc t ∧ o.dst = some d ∧ R.contains d = true := by
 unfold isAl at h
 split at h
 ·rename_i t d h1 h2; exact ⟨t, d, h1, h2, h⟩
 ·cases h
theorem al_run {R : List Nat} {o : Oper} (h : isAl R o = true) {e : Env} {H H' : Heap} {x : AV} (hx : Ex P T Mv G o e H x H') : ∃ (d : Nat) (t : TypeId) (cs : List D), R.contains d = true ∧ H d = none ∧ H' = hup H d (.box t (cs.map AV.d)) ∧ ∀ e2 H2, H2 d = none → Ex P T Mv G o e2 H2 x (hup H2 d (.box t (cs.map AV.d))) := by
 obtain ⟨t, d, h1, h2, h3⟩ := al_ex h
 obtain ⟨dst, op, type, pos, after, guard⟩ := o
 dsimp only at h1 h2
 subst h1 h2; unfold Ex at hx ⊢; simp only [isCall, isWr, if_true] at hx ⊢
 obtain ⟨c, hw, hc⟩ := hx
 unfold wr at hw ⊢
 dsimp only at hw ⊢
 cases hT : T t with
 | none => rw [hT] at hw; cases hw
 | some ti =>
  rw [hT] at hw
  dsimp only at hw
  simp only [Option.some.injEq, Prod.mk.injEq, St.mk.injEq] at hw
  obtain ⟨rfl, rfl, _, rfl⟩ := hw
  exact ⟨d, t, zeroD ti.zero, h3, hc, rfl, fun e2 H2 hn => ⟨_, rfl, hn⟩⟩
def AHStep (P : Program) (T : Ty) (Mv : Nat → Prop) (G : Glob) (mvd R : List Nat) (ops : Array Oper) (ex : List (Nat × AV)) (o : Oper) (σ σ' : St) : Prop := ∃ c g xs y H2, isCall o.op = some c ∧ tgt G σ.env c = some (g, xs) ∧ (∀ r ∈ mvd, Mv r) ∧ HCA P G mvd R g xs σ.H y H2 ∧ (∀ p ∈ ex, LdSame T ops σ.H H2 p ∧ offR R p.2 = true) ∧ OffV mvd y ∧ σ' = ⟨putd σ.env o.dst y, H2⟩
def AStep (P : Program) (T : Ty) (Mv : Nat → Prop) (G : Glob) (N : Fr) (mvd R db hv : List Nat) (ex : List (Nat × AV)) (ops : Array Oper) (i : Nat) (o : Oper) (σ σ' : St) : Prop :=
 okDst N o ∧ o.guard = none ∧ OffE mvd σ.env ∧ ((db.contains i = true ∧ ∃ c y, dataW T G σ.env o = some (c, y) ∧ c ∧ σ' = ⟨putd σ.env o.dst (.d y), σ.H⟩) ∨
  (db.contains i = false ∧ hv.contains i = true ∧ AHStep P T Mv G mvd R ops ex o σ σ') ∨
  (db.contains i = false ∧ hv.contains i = false ∧ kindOf o.op ≠ 9 ∧ ldAt G ex i o σ.env ∧ ∃ x H', Ex P T Mv G o σ.env σ.H x H' ∧ OffV mvd x ∧ σ' = ⟨putd σ.env o.dst x, H'⟩))
theorem astep_m {mvd R db hv : List Nat} {ex : List (Nat × AV)} {i : Nat} {o : Oper} {σ σ' : St} (h : AStep P T Mv G N mvd R db hv ex ops i o σ σ') : MStep P T Mv G N mvd db hv ex ops i o σ σ' := by
 obtain ⟨h1, h2, h3, h⟩ := h
 refine ⟨h1, h2, h3, ?_⟩
 rcases h with h | ⟨b, v, c, g, xs, y, H2, hc, ht, hm, hh, hl, ho, e⟩ | h
 ·exact .inl h
 ·exact .inr (.inl ⟨b, v, c, g, xs, y, H2, hc, ht, hm, hh.hc, fun p hp => (hl p hp).1, ho, e⟩)
 ·exact .inr (.inr h)
theorem astep_sound (hg : Good P T) (mvd R db hv : List Nat) (ex : List (Nat × AV)) : Sound P X G N Mv (AStep P T Mv G N mvd R db hv ex ops) ops := fun i o ho σ σ' h => mstep_sound hg mvd db hv ex i o ho σ σ' (astep_m h)
def compatA (R db hv : List Nat) (ex : List (Nat × AV)) (ops : Array Oper) (i j : Nat) (oi oj : Oper) : Bool := oi.apart ops oj && (db.contains i || db.contains j ||
 (if hv.contains i then !hv.contains j && (kindOf oj.op == 0 || (ex.lookup j).isSome || isAl R oj) else if hv.contains j then kindOf oi.op == 0 || (ex.lookup i).isSome || isAl R oi else mayPass (kindOf oi.op) (kindOf oj.op)))
theorem astep_swaps (mvd R db hv : List Nat) (ex : List (Nat × AV)) : Swaps (AStep P T Mv G N mvd R db hv ex ops) (compatA R db hv ex ops) ops := fun i j oi oj hoi hoj hc σ σ1 σ2 h1 h2 => by
 simp only [compatA, Bool.and_eq_true] at hc
 obtain ⟨hap, hpass⟩ := hc
 obtain ⟨di, gi, oE, h1⟩ := h1
 obtain ⟨dj, gj, _, h2⟩ := h2
 have agj : ∀ v, Agree oj.op (putd σ.env oi.dst v) σ.env := fun v t ht => (agree_put hap (e := σ.env) (v := v)).1 t (looks_of_op ht)
 have agi : ∀ v, Agree oi.op σ.env (putd σ.env oj.dst v) := fun v t ht => ((agree_put hap (e := σ.env) (v := v)).2.1 t (looks_of_op ht)).symm
 have hne := (agree_put hap (e := σ.env) (v := und)).2.2
 have tg : ∀ {o : Oper} {c : Call} {e e' : Env}, isCall o.op = some c → Agree o.op e e' → tgt G e c = tgt G e' c := fun {o c e e'} hc ha => tgt_congr fun t ht => ha t (by rw [(isCall_op hc).1]; exact ht)
 have lda : ∀ {k : Nat} {o : Oper} {e e' : Env}, Agree o.op e e' → ldAt G ex k o e → ldAt G ex k o e' := fun {k o e e'} ha h => by
  unfold ldAt at h ⊢
  split
  ·rename_i pv hl
   simp only [hl] at h
   split
   ·rename_i t x hop
    simp only [hop] at h; rw [← aeval_congr (x := x) fun t' ht' => ha t' (by rw [hop, ht']; simp [Op.operands])]; exact h
   ·rename_i hno
    split at h
    ·rename_i t x hop
     exact absurd hop (hno t x)
    ·exact h
  ·trivial
 rcases h1 with ⟨bi, c, y, e1, c1, rfl⟩ | ⟨bi, vi, c, g, xs, y, H2, hci, ti, hmv, hcl, hld, oy, rfl⟩ | ⟨bi, vi, k1, l1, x, H', e1, ox, rfl⟩
 ·-- data first
  rcases h2 with ⟨bj, c', z, e2, c2, rfl⟩ | ⟨bj, vj, c', g, xs, z, H2, hcj, tj, hmv, hcl, hld, oz, rfl⟩ | ⟨bj, vj, k2, l2, z, H2, e2, oz, rfl⟩
  ·rw [dataW_congr (agj _)] at e2; refine ⟨⟨putd σ.env oj.dst (.d z), σ.H⟩, ⟨dj, gj, oE, .inl ⟨bj, c', z, e2, c2, rfl⟩⟩, di, gi, oE.put (OffV.d _ _) _, .inl ⟨bi, c, y, ?_, c1, ?_⟩⟩
   ·rw [← dataW_congr (agi _)]; exact e1
   ·rw [putd_comm hne]
  ·rw [tg hcj (agj _)] at tj; refine ⟨⟨putd σ.env oj.dst z, H2⟩, ⟨dj, gj, oE, .inr (.inl ⟨bj, vj, c', g, xs, z, H2, hcj, tj, hmv, hcl, hld, oz, rfl⟩)⟩, di, gi, oE.put oz _, .inl ⟨bi, c, y, ?_, c1, ?_⟩⟩
   ·rw [← dataW_congr (agi _)]; exact e1
   ·rw [putd_comm hne]
  ·refine ⟨⟨putd σ.env oj.dst z, H2⟩, ⟨dj, gj, oE, .inr (.inr ⟨bj, vj, k2, lda (agj _) l2, z, H2, e2.congr k2 (agj _), oz, rfl⟩)⟩, di, gi, oE.put oz _, .inl ⟨bi, c, y, ?_, c1, ?_⟩⟩
   ·rw [← dataW_congr (agi _)]; exact e1
   ·rw [putd_comm hne]
 ·-- a call first
  rcases h2 with ⟨bj, c', z, e2, c2, rfl⟩ | ⟨bj, vj, _⟩ | ⟨bj, vj, k2, l2, z, H3, e2, oz, rfl⟩
  ·rw [dataW_congr (agj _)] at e2; refine ⟨⟨putd σ.env oj.dst (.d z), σ.H⟩, ⟨dj, gj, oE, .inl ⟨bj, c', z, e2, c2, rfl⟩⟩, di, gi, oE.put (OffV.d _ _) _, .inr (.inl ⟨bi, vi, c, g, xs, y, H2, hci, ?_, hmv, hcl, hld, oy, ?_⟩)⟩
   ·rw [← tg hci (agi _)]; exact ti
   ·rw [putd_comm hne]
  ·rw [bi, bj, vi] at hpass; simp [vj] at hpass; simp_all
  ·rw [bi, bj] at hpass
   have e2' := e2.congr k2 (agj _)
   have l2' := lda (agj _) l2
   have hp : (kindOf oj.op = 0 ∨ (ex.lookup j).isSome = true) ∨ isAl R oj = true := by
    simp only [Bool.false_or, vi, vj, if_true, Bool.not_false, Bool.true_and] at hpass; simpa [or_assoc] using hpass
   rcases hp with hp | hp
   ·have hq : H3 = H2 ∧ Ex P T Mv G oj σ.env σ.H z σ.H := by
     rcases hp with hp | hp
     ·exact ⟨e2'.keeps (by omega), e2'.free hp σ.H⟩
     ·obtain ⟨pv, hpv⟩ := Option.isSome_iff_exists.1 hp
      have hs := (hld _ (lookup_mem hpv)).1
      refine ld_moves hoj hpv l2' ?_ e2'; unfold LdSame at hs ⊢; simp only [hoj] at hs ⊢
      split <;> simp_all
    obtain ⟨rfl, e3⟩ := hq
    refine ⟨⟨putd σ.env oj.dst z, σ.H⟩, ⟨dj, gj, oE, .inr (.inr ⟨bj, vj, k2, l2', z, σ.H, e3, oz, rfl⟩)⟩, di, gi, oE.put oz _, .inr (.inl ⟨bi, vi, c, g, xs, y, H3, hci, ?_, hmv, hcl, hld, oy, ?_⟩)⟩
    ·rw [← tg hci (agi _)]; exact ti
    ·rw [putd_comm hne]
   ·obtain ⟨d, t, cs, hd, hn, rfl, hre⟩ := al_run hp e2'
    have hn1 : σ.H d = none := by rw [← hcl.2.1 d hd]; exact hn
    refine ⟨⟨putd σ.env oj.dst z, hup σ.H d (.box t (cs.map AV.d))⟩, ⟨dj, gj, oE, .inr (.inr ⟨bj, vj, k2, l2', z, _, hre _ _ hn1, oz, rfl⟩)⟩, di, gi, oE.put oz _, .inr (.inl ⟨bi, vi, c, g, xs, y, patch R (hup σ.H d (.box t (cs.map AV.d))) H2, hci, ?_, hmv, hcl.swap (closed_hup hcl.1) (out_hup hd), fun p hp => ⟨(hld p hp).1.swap (hld p hp).2 (out_hup hd), (hld p hp).2⟩, oy, ?_⟩)⟩
    ·rw [← tg hci (agi _)]; exact ti
    ·rw [putd_comm hne, patch_hup2 hd hcl.2.1]
 ·rcases h2 with ⟨bj, c', z, e2, c2, rfl⟩ | ⟨bj, vj, c', g, xs, z, H2, hcj, tj, hmv, hcl, hld, oz, rfl⟩ | ⟨bj, vj, k2, l2, z, H2, e2, oz, rfl⟩
  ·rw [dataW_congr (agj _)] at e2; refine ⟨⟨putd σ.env oj.dst (.d z), σ.H⟩, ⟨dj, gj, oE, .inl ⟨bj, c', z, e2, c2, rfl⟩⟩, di, gi, oE.put (OffV.d _ _) _, .inr (.inr ⟨bi, vi, k1, lda (agi _) l1, x, H', e1.congr k1 (agi _), ox, ?_⟩)⟩; rw [putd_comm hne]
  ·rw [tg hcj (agj _)] at tj; rw [bi, bj] at hpass
   have hp : (kindOf oi.op = 0 ∨ (ex.lookup i).isSome = true) ∨ isAl R oi = true := by
    simp only [Bool.false_or, vi, vj, if_true, Bool.false_eq_true, if_false] at hpass; simpa [or_assoc] using hpass
   have e1' := e1.congr k1 (agi z)
   have l1' := lda (agi z) l1
   rcases hp with (hp | hp) | hp
   ·obtain rfl := e1.keeps (by omega)
    refine ⟨⟨putd σ.env oj.dst z, H2⟩, ⟨dj, gj, oE, .inr (.inl ⟨bj, vj, c', g, xs, z, H2, hcj, tj, hmv, hcl, hld, oz, rfl⟩)⟩, di, gi, oE.put oz _, .inr (.inr ⟨bi, vi, k1, l1', x, H2, e1'.free hp H2, ox, ?_⟩)⟩; rw [putd_comm hne]
   ·obtain ⟨pv, hpv⟩ := Option.isSome_iff_exists.1 hp
    have hs := (hld _ (lookup_mem hpv)).1
    have hH : H' = σ.H := (ld_moves (H2 := σ.H) hoi hpv l1 (by unfold LdSame; simp only [hoi]; unfold LdSame at hs; simp only [hoi] at hs; split <;> simp_all) e1).1
    subst hH
    obtain ⟨_, e3⟩ := ld_moves hoi hpv l1' hs e1'
    refine ⟨⟨putd σ.env oj.dst z, H2⟩, ⟨dj, gj, oE, .inr (.inl ⟨bj, vj, c', g, xs, z, H2, hcj, tj, hmv, hcl, hld, oz, rfl⟩)⟩, di, gi, oE.put oz _, .inr (.inr ⟨bi, vi, k1, l1', x, H2, e3, ox, ?_⟩)⟩; rw [putd_comm hne]
   ·obtain ⟨d, t, cs, hd, hn, rfl, hre⟩ := al_run hp e1'
    have hO := out_hup (H := σ.H) (b := .box t (cs.map AV.d)) hd
    have hcl2 := hcl.swap (closed_of hcl.1 hn) hO.symm
    have hn2 : patch R σ.H H2 d = none := by unfold patch; rw [if_pos hd]; exact hn
    refine ⟨⟨putd σ.env oj.dst z, patch R σ.H H2⟩, ⟨dj, gj, oE, .inr (.inl ⟨bj, vj, c', g, xs, z, patch R σ.H H2, hcj, tj, hmv, hcl2, fun p hp => ⟨(hld p hp).1.swap (hld p hp).2 hO.symm, (hld p hp).2⟩, oz, rfl⟩)⟩, di, gi, oE.put oz _, .inr (.inr ⟨bi, vi, k1, l1', x, _, hre _ _ hn2, ox, ?_⟩)⟩; rw [putd_comm hne, patch_hup hd, patch_self hcl.2.1]
  ·rw [bi, bj] at hpass
   have hcc : compat ops oi oj = true := by simp only [compat, Bool.and_eq_true]; simp only [Bool.false_or, vi, vj, Bool.false_eq_true, if_false] at hpass; exact ⟨hap, hpass⟩
   obtain ⟨H3, f1, f2⟩ := commute (N := N) hcc ⟨di, .inl ⟨wantedS_free gi, e1⟩⟩ ⟨dj, .inl ⟨wantedS_free gj, e2⟩⟩ k1 k2
   have un : ∀ {o : Oper} {e : Env} {H H' : Heap} {x : AV}, o.guard = none → Sx P T Mv G N ops o e H x H' → Ex P T Mv G o e H x H' := fun hgu h => by
    rcases h.2 with ⟨_, h⟩ | ⟨hw, _⟩
    ·exact h
    ·rw [wantedS_free hgu] at hw; cases hw
   refine ⟨⟨putd σ.env oj.dst z, H3⟩, ⟨dj, gj, oE, .inr (.inr ⟨bj, vj, k2, lda (agj _) l2, z, H3, un gj f1, oz, rfl⟩)⟩, di, gi, oE.put oz _, .inr (.inr ⟨bi, vi, k1, lda (agi _) l1, x, H2, un gi f2, ox, ?_⟩)⟩; rw [putd_comm hne]
def haK (P : Program) (T : Ty) (Mv : Nat → Prop) (G : Glob) (mvd R : List Nat) (ops : Array Oper) (ex : List (Nat × AV)) (g : FuncId) (xs : List AV) (σ : St) (dst : Option Tmp) (K : St → Prop) : Prop := ∃ y H2, (∀ r ∈ mvd, Mv r) ∧ HCA P G mvd R g xs σ.H y H2 ∧ (∀ p ∈ ex, LdSame T ops σ.H H2 p ∧ offR R p.2 = true) ∧ OffV mvd y ∧ K ⟨putd σ.env dst y, H2⟩
theorem tr_data (o f : Nat → Nat → Nat → AV) (t : TypeId) (cs : List D) : Row.tr o f (.box t (cs.map AV.d)) = .box t (cs.map AV.d) := by
 simp [Row.tr, AV.tr, Function.comp_def]
theorem hlst_some {l : List (Nat × Row)} {q : Nat} (h : (hlst l q).isSome = true) : ∃ p ∈ l, p.1 = q := by
 induction l with
 | nil => simp [hlst] at h
 | cons p l ih =>
  simp only [hlst, List.lookup] at h
  cases hqp : (q == p.1) with
  | true => exact ⟨p, by simp, by simpa using (beq_iff_eq.1 hqp).symm⟩
  | false =>
   rw [hqp] at h
   obtain ⟨p', h1, h2⟩ := ih h
   exact ⟨p', by simp [h1], h2⟩
theorem haK.mc {mvd R : List Nat} {ex : List (Nat × AV)} {dst : Option Tmp} {K : St → Prop} {fx : List Nat} {g : FuncId} {xs0 xs : List AV} {rows1 rows2 : List (Nat × Row)} {y : AV} (hc : MC P G fx g xs (hlst rows1) y (hlst rows2)) (hx : xs0.map (AV.tr (onlyO (rows1.map (·.1))) (onlyF (rows1.map (·.1)))) = xs)
  (hR : ∀ r ∈ R, (rows1.map (·.1)).contains r = false ∧ (rows2.map (·.1)).contains r = false ∧ (σ.H r = none ∨ ∃ (t : TypeId) (cs : List D), σ.H r = some (.box t (cs.map AV.d))))
  (hH : ∀ p ∈ rows1, (σ.H p.1).map (Row.tr (onlyO (rows1.map (·.1))) (onlyF (rows1.map (·.1)))) = hlst rows1 p.1) (hd : ∀ p ∈ rows2, (rows1.map (·.1)).contains p.1 = true ∨ σ.H p.1 = none) (hm : ∀ r ∈ rows1.map (·.1), fx.contains r = false → r ∈ mvd) (hmv : ∀ r ∈ mvd, Mv r) (ho : ∀ r ∈ mvd, y.kill r = y)
  (hl : ∀ p ∈ ex, LdSame T ops σ.H (hjoin (hlst rows2) (trH (offL (rows1.map (·.1))) (stayO (rows1.map (·.1)) fx) (stayF (rows1.map (·.1)) fx) σ.H)) p ∧ offR R p.2 = true)
  (h : K ⟨putd σ.env dst y, hjoin (hlst rows2) (trH (offL (rows1.map (·.1))) (stayO (rows1.map (·.1)) fx) (stayF (rows1.map (·.1)) fx) σ.H)⟩) : haK P T Mv G mvd R ops ex g xs0 σ dst K := by
 have hin : ∀ q, R.contains q = true → q ∈ R := fun q hq => List.contains_iff_mem.1 hq
 have hcl : ClosedR R σ.H := fun q hq => (hR q (hin q hq)).2.2
 have hst : ∀ (H0 : Heap), ClosedR R H0 → ∀ q, R.contains q = true → hjoin (hlst rows2) (trH (offL (rows1.map (·.1))) (stayO (rows1.map (·.1)) fx) (stayF (rows1.map (·.1)) fx) H0) q = H0 q := fun H0 hc0 q hq => by
  obtain ⟨a1, a2, _⟩ := hR q (hin q hq)
  have e1 : hlst rows2 q = none := by
   cases he : hlst rows2 q with
   | none => rfl
   | some r =>
    obtain ⟨p, hp, rfl⟩ := hlst_some (l := rows2) (q := q) (by rw [he]; rfl)
    have : (rows2.map (·.1)).contains p.1 = true := List.contains_iff_mem.2 (List.mem_map.2 ⟨p, hp, rfl⟩)
    rw [this] at a2; cases a2
  unfold hjoin; rw [e1]
  dsimp only
  unfold trH offL; rw [a1]; simp only [Bool.not_false, if_true]
  rcases hc0 q hq with h0 | ⟨t, cs, h0⟩
  ·rw [h0]; rfl
  ·rw [h0, Option.map_some, tr_data]
 refine ⟨y, _, hmv, ⟨hcl, hst σ.H hcl, fun H0 hc0 ho0 => ?_⟩, hl, ho, h⟩
 have off1 : ∀ p ∈ rows1, R.contains p.1 = false := fun p hp => by
  cases he : R.contains p.1 with
  | false => rfl
  | true =>
   have h1 := (hR p.1 (hin _ he)).1
   have : (rows1.map (·.1)).contains p.1 = true := List.contains_iff_mem.2 (List.mem_map.2 ⟨p, hp, rfl⟩)
   rw [this] at h1; cases h1
 have off2 : ∀ p ∈ rows2, R.contains p.1 = false := fun p hp => by
  cases he : R.contains p.1 with
  | false => rfl
  | true =>
   have h1 := (hR p.1 (hin _ he)).2.1
   have : (rows2.map (·.1)).contains p.1 = true := List.contains_iff_mem.2 (List.mem_map.2 ⟨p, hp, rfl⟩)
   rw [this] at h1; cases h1
 have key := HC.mc (mvd := mvd) (H := H0) hc hx (fun p hp => by rw [ho0 p.1 (off1 p hp)]; exact hH p hp) (fun p hp => by rw [ho0 p.1 (off2 p hp)]; exact hd p hp) hm
 have e : patch R H0 (hjoin (hlst rows2) (trH (offL (rows1.map (·.1))) (stayO (rows1.map (·.1)) fx) (stayF (rows1.map (·.1)) fx) σ.H)) = hjoin (hlst rows2) (trH (offL (rows1.map (·.1))) (stayO (rows1.map (·.1)) fx) (stayF (rows1.map (·.1)) fx) H0) := by
  funext q
  unfold patch
  split
  ·rename_i hq; exact (hst H0 hc0 q hq).symm
  ·rename_i hq
   have hq' : R.contains q = false := by simpa using hq
   unfold hjoin trH; rw [ho0 q hq']
 rw [e]; exact key
def stepA (P : Program) (T : Ty) (Mv : Nat → Prop) (G : Glob) (N : Fr) (mvd R db hv : List Nat) (ex : List (Nat × AV)) (ops : Array Oper) (i : Nat) (o : Oper) (σ : St) (K : St → Prop) : Prop := okDst N o ∧ o.guard = none ∧
 if db.contains i = true then (match dataW T G σ.env o with
  | some (c, y) => c ∧ K ⟨putd σ.env o.dst (.d y), σ.H⟩
  | none => False)
 else if hv.contains i = true then (match isCall o.op with
  | some c => match tgt G σ.env c with
   | some (g, xs) => haK P T Mv G mvd R ops ex g xs σ o.dst K
   | none => False
  | none => False)
 else kindOf o.op ≠ 9 ∧ ldAt G ex i o σ.env ∧ match isCall o.op with
  | some c => callD P G c σ.env o.dst σ.H [] [] K
  | none => plainM T G Mv mvd o σ K
def sxa (P : Program) (T : Ty) (Mv : Nat → Prop) (G : Glob) (N : Fr) (mvd R db hv : List Nat) (ex : List (Nat × AV)) (ops : Array Oper) (K : St → Prop) : List (Nat × Oper) → St → Prop
 | [], σ => K σ
 | (i, o) :: rest, σ => stepA P T Mv G N mvd R db hv ex ops i o σ (sxa P T Mv G N mvd R db hv ex ops K rest)
theorem sxa_run {mvd R db hv : List Nat} {ex : List (Nat × AV)} {K : St → Prop} : ∀ (l : List Nat) (σ : St), (∀ i ∈ l, i < ops.size) → OffE mvd σ.env → sxa P T Mv G N mvd R db hv ex ops K (inOrder ops l) σ → ∃ σn, K σn ∧ Go.Av.runS (AStep P T Mv G N mvd R db hv ex ops) ops l σ σn := by
 intro l
 induction l with
 | nil => intro σ _ _ h; exact ⟨σ, h, rfl⟩
 | cons i l ih =>
  intro σ hl hoE h
  have hi := hl i (by simp)
  have ho : ops[i]? = some ops[i] := by simp [hi]
  simp only [inOrder, ho] at h; generalize ops[i] = o at ho h; simp only [sxa, stepA] at h
  obtain ⟨hd, hgu, h⟩ := h
  have fin : ∀ σ1, AStep P T Mv G N mvd R db hv ex ops i o σ σ1 → OffE mvd σ1.env → sxa P T Mv G N mvd R db hv ex ops K (inOrder ops l) σ1 → ∃ σn, K σn ∧ Go.Av.runS (AStep P T Mv G N mvd R db hv ex ops) ops (i :: l) σ σn := fun σ1 hs hE h1 => by
   obtain ⟨σn, hk, hr⟩ := ih σ1 (fun j hj => hl j (by simp [hj])) hE h1
   exact ⟨σn, hk, o, ho, σ1, hs, hr⟩
  split at h
  ·rename_i hb
   split at h
   ·rename_i c y hw
    obtain ⟨hc, h⟩ := h
    exact fin _ ⟨hd, hgu, hoE, .inl ⟨hb, c, y, hw, hc, rfl⟩⟩ (hoE.put (OffV.d _ _) _) h
   ·exact h.elim
  ·rename_i hb
   have hb : db.contains i = false := by simpa using hb
   split at h
   ·rename_i hv1
    split at h
    ·rename_i c hc
     split at h
     ·rename_i g xs ht
      obtain ⟨y, H2, h0, h1, h2, h3, h⟩ := h
      exact fin _ ⟨hd, hgu, hoE, .inr (.inl ⟨hb, hv1, c, g, xs, y, H2, hc, ht, h0, h1, h2, h3, rfl⟩)⟩ (hoE.put h3 _) h
     ·exact h.elim
    ·exact h.elim
   ·rename_i hv1
    have hv1 : hv.contains i = false := by simpa using hv1
    obtain ⟨hk, hla, h⟩ := h
    split at h
    ·rename_i c hc
     obtain ⟨y, g, ds, ht, hp, hoff, h⟩ := h
     refine fin _ ⟨hd, hgu, hoE, .inr (.inr ⟨hb, hv1, hk, hla, .d y, σ.H, ?_, OffV.d _ _, rfl⟩)⟩ (hoE.put (OffV.d _ _) _) h; unfold Ex; simp only [hc]; exact ⟨y, ⟨g, _, ht, .inl ⟨ds, rfl, hp⟩⟩, rfl, trivial⟩
    ·rename_i hc
     unfold plainM at h
     split at h
     ·rename_i hw
      split at h
      ·rename_i c x σ1 h1
       obtain ⟨hcc, hoff, h⟩ := h
       have he := wr_env hk h1
       obtain ⟨e, H⟩ := σ
       obtain ⟨e1, H1⟩ := σ1
       dsimp only at he
       subst he; refine fin _ ⟨hd, hgu, hoE, .inr (.inr ⟨hb, hv1, hk, hla, x, H1, ?_, hoff, rfl⟩)⟩ (hoE.put hoff _) h; unfold Ex; simp only [hc]; rw [if_pos hw]; exact ⟨c, h1, hcc⟩
      ·exact h.elim
     ·rename_i hw
      split at h
      ·rename_i c x h1
       obtain ⟨hcc, hoff, h⟩ := h
       refine fin _ ⟨hd, hgu, hoE, .inr (.inr ⟨hb, hv1, hk, hla, x, σ.H, ?_, hoff, rfl⟩)⟩ (hoE.put hoff _) h; unfold Ex; simp only [hc]; rw [if_neg hw]; exact ⟨c, h1, hcc, trivial⟩
      ·exact h.elim
theorem AW_regionA (hg : Good P T) (hm : P.follows .mixedOrders = true) (mvd R db hv : List Nat) (ex : List (Nat × AV)) (ord : List Nat) {id : Nat} (hok : okDrawS (compatA R db hv ex ops) ord ops = true) (hoE : OffE mvd σ.env) {Q : Exit → St → Prop} (h : sxa P T Mv G N mvd R db hv ex ops (fun σ' => Q .normal σ') (inOrder ops ord) σ) : AW P Mv X G N (.region id ops true) Q σ :=
 AW_regionS hm (astep_sound hg mvd R db hv ex) (astep_swaps mvd R db hv ex) ord hok fun hlt => sxa_run ord σ hlt hoE h
theorem AW_ra (hg : Good P T) (hm : P.follows .mixedOrders = true) (mvd R db hv : List Nat) (ex : List (Nat × AV)) (ord : List Nat) (l ns : List Nat) (hM : ∀ r, ns.contains r = false → Mv r) {id : Nat} (hok : okDrawS (compatA R db hv ex ops) ord ops = true) (hoE : OffE mvd σ.env) {y : Code} {Q : Exit → St → Prop}
  (h : ∀ K : St → Prop, (∀ τ : St, AW P Mv X G N y Q (τ.norm l ns) → K τ) → sxa P T Mv G N mvd R db hv ex ops K (inOrder ops ord) σ) : AW P Mv X G N (.seq (.region id ops true) y) Q σ :=
 AW_seq (AW_regionA hg hm mvd R db hv ex ord hok hoE (h _ fun _ h => h.norm l ns hM))
theorem sxa_nextO {mvd R db hv : List Nat} {ex : List (Nat × AV)} {K : St → Prop} {i : Nat} {l : List Nat} {o : Oper} (ho : ops[i]? = some o) (h : ∀ K' : St → Prop, (∀ τ, sxa P T Mv G N mvd R db hv ex ops K (inOrder ops l) τ → K' τ) → stepA P T Mv G N mvd R db hv ex ops i o σ K') : sxa P T Mv G N mvd R db hv ex ops K (inOrder ops (i :: l)) σ := by
 have : inOrder ops (i :: l) = (i, o) :: inOrder ops l := by simp [inOrder, ho]
 rw [this]; exact h _ fun _ h => h
theorem sxa_nilO {mvd R db hv : List Nat} {ex : List (Nat × AV)} {K : St → Prop} (h : K σ) : sxa P T Mv G N mvd R db hv ex ops K (inOrder ops []) σ := h
end
attribute [simp] stepA
attribute [simp] offR
end Go.Av
namespace Go.Proofs.YthnjfeielmbfkaaGreatDoor
open Go.Av
structure StP where
 is : List Bool
 ct : List Int
def startP (p : PgP) : StP := ⟨List.replicate p.names.length false, List.replicate p.names.length 0⟩
def bitF (p : PgP) (l : List Bool) (s : Tx) : Bool := l.getD (numP p s).toNat false
def evC (is was : Tx → Bool) : Option Ex → Bool
 | some e => evE is was e
 | none => false
def runS (s : StP) (i : Nat) (m : Int) (yes : Bool) : StP :=
 let c := if yes then (if s.ct.getD i 0 + 1 < m then s.ct.getD i 0 + 1 else m) else s.ct.getD i 0
 ⟨s.is.set i (decide (m ≤ c)), s.ct.set i c⟩
def zeroS (s : StP) (i : Nat) : StP := ⟨s.is.set i false, s.ct.set i 0⟩
def rungS (p : PgP) (old t : StP) (r : RgP) : StP :=
 let i := (numP p r.name).toNat
 let yes := evC (bitF p t.is) (bitF p old.is) r.cond
 let m := (p.names.getD i ⟨[], 0, 0⟩).count
 if r.kind = 1 then ⟨t.is.set i yes, t.ct⟩
 else if r.kind = 2 then ⟨t.is.set i (t.is.getD i false || yes), t.ct⟩
 else if r.kind = 3 then ⟨t.is.set i (t.is.getD i false && !yes), t.ct⟩
 else if r.kind = 4 then (if yes then runS t i m yes else zeroS (runS t i m yes) i)
 else if r.kind = 5 then runS t i m yes
 else if r.kind = 6 then (if yes then zeroS t i else t)
 else t
def putIn (at' : List Int) (inn : List Bool) (is : List Bool) : Nat → List Bool
 | 0 => is
 | k + 1 => (putIn at' inn is k).set (at'.getD k 0).toNat (inn.getD k false)
def inputP (p : PgP) : List Int := kindN p.names 1 p.names.length
def doP (p : PgP) (s : StP) (inn : List Bool) : StP := p.rungs.foldl (rungS p s) ⟨putIn (inputP p) inn s.is (inputP p).length, s.ct⟩
def stepP (p : PgP) (s : StP) (inn : List Bool) : (Int × Option Nat) ⊕ StP := match checkP p with
 | some e => .inl e
 | none => if inn.length ≠ (inputP p).length ∨ s.is.length ≠ p.names.length ∨ s.ct.length ≠ p.names.length then .inl (2, none) else .inr (doP p s inn)
def dBl (l : List Bool) : D := .sl none (l.map fun b => [.v (.bool b)])
def dIl (l : List Int) : D := .sl none (l.map fun n => [.v (.int .i64 n)])
def cSt (s : StP) : List D := [dBl s.is, dIl s.ct]
def dSt (s : StP) : D := .agg (cSt s)
theorem getD_of {α : Type} {l : List α} {i : Nat} {d : α} (h : i < l.length) : l.getD i d = l[i] := by
 rw [List.getD_eq_getElem?_getD, List.getElem?_eq_getElem h]; rfl
theorem numP_lt {p : PgP} {s : Tx} (h : ¬ numP p s < 0) : (numP p s).toNat < p.names.length ∧ numP p s = ((numP p s).toNat : Int) := by
 obtain ⟨k, hk, hke, _⟩ := idx_pos h
 have e : numP p s = (k : Int) := hke
 rw [e]; exact ⟨by simpa using hk, by simp⟩
set_option maxHeartbeats 2000000 in
theorem ask1 (G : Glob) (p : PgP) (hp : p.names.length < 2^62) (s : StP) (hl : s.is.length = p.names.length) : TellsOn (fun nm => ¬ numP p nm < 0) G 112 [.ip (cSt s), .ip (cPg p)] (bitF p s.is) := by
 intro nm hn
 have hnum := lc_num G p hp nm
 obtain ⟨h1, h2⟩ := numP_lt hn
 have hi : (numP p nm).toNat < s.is.length := by omega
 have hbv : bitF p s.is nm = s.is[(numP p nm).toNat] := by unfold bitF; exact getD_of hi
 rw [hbv]; rw [h2] at hnum; clear h1 h2 hbv hn; simp only [dPg, cPg, dNms, dRgs, dS] at hnum; simp only [cSt, dBl, dIl, cPg, dNms, dRgs]; generalize hix : (numP p nm).toNat = i at hnum hi ⊢; clear hix hl hp; generalize p.names.map cNm = NN at hnum ⊢; generalize p.rungs.map cRg = RR at hnum ⊢; generalize s.is = L at hi ⊢; generalize s.ct.map (fun n => [D.v (.int .i64 n)]) = CC; refine PureC.of_body (tyOf_good _) Tryz.func112 rfl rfl (rs := [.tmp 4]) Tryz.results112 (by simp [Tryz.ntmps112]) fun X => ?_; simp only [Tryz.ntmps112, List.map]
 have fw := @dS.eq_1
 refine rgq fw [0,1,2] [] ?_
 have qf := (Aq fw @hi)
 refine rdcv hnum [4] [] ?_; refine AW_ret ?_; simp [D.le, D.le.go, takeMap, dS]
set_option maxHeartbeats 2000000 in
theorem ask2 (G : Glob) (p : PgP) (hp : p.names.length < 2^62) (s : StP) (hl : s.is.length = p.names.length) : TellsOn (fun nm => ¬ numP p nm < 0) G 113 [.ip (cSt s), .ip (cPg p)] (bitF p s.is) := by
 intro nm hn
 have hnum := lc_num G p hp nm
 obtain ⟨h1, h2⟩ := numP_lt hn
 have hi : (numP p nm).toNat < s.is.length := by omega
 have hbv : bitF p s.is nm = s.is[(numP p nm).toNat] := by unfold bitF; exact getD_of hi
 rw [hbv]; rw [h2] at hnum; clear h1 h2 hbv hn; simp only [dPg, cPg, dNms, dRgs, dS] at hnum; simp only [cSt, dBl, dIl, cPg, dNms, dRgs]; generalize hix : (numP p nm).toNat = i at hnum hi ⊢; clear hix hl hp; generalize p.names.map cNm = NN at hnum ⊢; generalize p.rungs.map cRg = RR at hnum ⊢; generalize s.is = L at hi ⊢; generalize s.ct.map (fun n => [D.v (.int .i64 n)]) = CC; refine PureC.of_body (tyOf_good _) Tryz.func113 rfl rfl (rs := [.tmp 4]) Tryz.results113 (by simp [Tryz.ntmps113]) fun X => ?_; simp only [Tryz.ntmps113, List.map]
 have fw := @dS.eq_1
 refine rgq fw [0,1,2] [] ?_
 have qf := (Aq fw @hi)
 refine rdcv hnum [4] [] ?_; refine AW_ret ?_; simp [D.le, D.le.go, takeMap, dS]
def stR (s : StP) : List (Nat × Row) := [(7, .box 45 [.own 701 0 s.is.length, .own 702 0 s.ct.length]), (701, .sl 4 1 (s.is.map fun b => [.v (.bool b)])), (702, .sl 3 1 (s.ct.map fun n => [.v (.int .i64 n)]))]
set_option maxHeartbeats 4000000 in
theorem run_mc (G : Glob) (s : StP) (i : Nat) (m : Int) (yes : Bool) (hi : i < s.is.length) (hc : i < s.ct.length) (hb : ∀ x ∈ s.ct, 0 ≤ x ∧ x ≤ 2^40) : MC Tryz.prog G [7] 115 [.ref 7 0 0, .d (dNum i), .d (dNum m), .d (.v (.bool yes))] (hlst (stR s)) (.d (.tup [])) (hlst (stR (runS s i m yes))) := by
 have hci : s.ct.getD i 0 = s.ct[i] := getD_of hc
 have hbd := hb s.ct[i] (List.getElem_mem hc)
 have hgc : (s.ct.map fun n => [D.v (.int .i64 n)])[i]? = some [.v (.int .i64 s.ct[i])] := by simp [hc]
 simp only [stR, runS, hci]
 cases yes with
 | true =>
  simp only [if_true]; refine MC.of_body (tyOf_good _) Tryz.func115 rfl rfl (rs := []) Tryz.results115 (by simp [Tryz.ntmps115]) rfl fun X => ?_; simp only [Tryz.ntmps115]
  have fw := @dNum.eq_1
  refine AW_then fun K1 hK1 => ?_; refine rgq fw [0,1,2,8] [7,701,702] ?_; refine AW_tt rfl ?_; refine AW_rdge (tyOf_good _) (by kernel_rfl) [(3, 7), (9, 7), (11, 702), (12, 702), (15, 702), (16, 702)] (by kernel_rfl) fun K' hK' => ?_; (repeat (refine sxg_next fun K2 hK2 => ?_; simp [dNum, hc]; (repeat (refine ⟨by omega, ?_⟩)); refine hK2 _ ?_; clear hK2 K2)); refine sxg_nil (hK' _ ?_); clear hK' K'; refine hK1 _ (AW.norm [0, 1, 2] [7, 701, 702] (notIn_ok rfl) (AW.st (by simp [dNum, hc]; rfl) ?_)); refine AW_rdge (tyOf_good _) (by kernel_rfl) [(3, 7), (8, 7), (10, 702), (11, 702), (14, 701), (15, 701)] (by kernel_rfl) fun K' hK' => ?_; (repeat (refine sxg_next fun K2 hK2 => ?_; simp [dNum, hc, hi]; (repeat (refine ⟨by omega, ?_⟩)); refine hK2 _ ?_; clear hK2 K2)); refine sxg_nil (hK' _ ?_); clear hK' K'; (try simp only [thn, inb]); simp [D.le, D.le.go, List.map_set]
 | false =>
  simp only [Bool.false_eq_true, if_false]; refine MC.of_body (tyOf_good _) Tryz.func115 rfl rfl (rs := []) Tryz.results115 (by simp [Tryz.ntmps115]) rfl fun X => ?_; simp only [Tryz.ntmps115]
  have fw := @dNum.eq_1
  refine AW_then fun K1 hK1 => ?_; refine rgq fw [0,1,2,8] [7,701,702] ?_; refine AW_ff rfl ?_; refine AW_skip (hK1 _ ?_); refine AW_rdge (tyOf_good _) (by kernel_rfl) [(3, 7), (8, 7), (10, 702), (11, 702), (14, 701), (15, 701)] (by kernel_rfl) fun K' hK' => ?_; (repeat (refine sxg_next fun K2 hK2 => ?_; simp [dNum, hc, hi]; (repeat (refine ⟨by omega, ?_⟩)); refine hK2 _ ?_; clear hK2 K2)); refine sxg_nil (hK' _ ?_); clear hK' K'; (try simp only [thn, inb]); simp [D.le, D.le.go, List.map_set]
end Go.Proofs.YthnjfeielmbfkaaGreatDoor
namespace Go.Proofs.YthnjfeielmbfkaaGreatDoor
open Go.Av
theorem one_len (l : List Int) : (∀ el ∈ l.map (fun n => [D.v (.int .i64 n)]), el.length = 1) = True := eq_true (by simp)
theorem one_one (l : List Int) : (∀ el ∈ l.map (fun n => [D.v (.int .i64 n)]), ∀ c ∈ el, c.one = true) = True := eq_true (by simp [D.one])
theorem oneB_len (l : List Bool) : (∀ el ∈ l.map (fun n => [D.v (.bool n)]), el.length = 1) = True := eq_true fun el h => by obtain ⟨b, _, rfl⟩ := List.mem_map.1 h; rfl
theorem oneB_one (l : List Bool) : (∀ el ∈ l.map (fun n => [D.v (.bool n)]), ∀ c ∈ el, c.one = true) = True := eq_true fun el h c hc => by
 obtain ⟨b, _, rfl⟩ := List.mem_map.1 h
 obtain rfl := List.mem_singleton.1 hc
 rfl
set_option maxHeartbeats 2000000 in
theorem cloneI_mc (G : Glob) (l : List Int) (h : l.length < 2^40) : MC Tryz.prog G [] 111 [.d (dIl l)] (hlst []) (.own 702 0 l.length) (hlst [(702, .sl 3 1 (l.map fun n => [.v (.int .i64 n)]))]) := by
 have hl2 : (l.map fun n => [D.v (.int .i64 n)]).length = l.length := by simp
 have q1 := one_len l
 have q2 := one_one l
 simp only [dIl]; rw [← hl2]; rw [← hl2] at h; generalize (l.map fun n => [D.v (.int .i64 n)]) = L at *; refine MC.of_body (tyOf_good _) Tryz.func111 rfl rfl (rs := [.tmp 2]) Tryz.results111 (by simp [Tryz.ntmps111]) rfl fun X => ?_; simp only [Tryz.ntmps111]; refine AW.nilCase 0 rfl ?_ fun hl => ?_
 ·refine rg0 [0] [] ?_; refine AW_then fun K1 hK1 => ?_; refine rg0 [0,4] [] ?_; refine AW_cond false rfl (fun hc => by cases hc) (fun hc => ?_); refine AW_skip (hK1 _ ?_)
  have qf := (Aq @q1 @q2)
  refine rgqv [2] [5] ?_; refine AW.imp (Imp.ren (r := 5) (r' := 702) (by decide) (by simp)) ?_; refine AW.st (by simp [renO, renF, Go.Av.ren, renH_hlst]; rfl) ?_; refine AW_ret ?_; simp [D.le, D.le.go, takeMap]
 ·subst hl; refine rg0 [0] [] ?_; refine AW_then fun K1 hK1 => ?_; refine rg0 [0,4] [] ?_; refine AW_cond true rfl (fun hc => ?_) (fun hc => by cases hc); refine rg0 [2] [] ?_; refine AW.imp (Imp.adopt 2 702 3 1 rfl rfl) ?_; refine AW.st (by simp; rfl) ?_; refine AW_ret ?_; simp [D.le, D.le.go, takeMap]
set_option maxHeartbeats 2000000 in
theorem cloneB_mc (G : Glob) (l : List Bool) (h : l.length < 2^40) : MC Tryz.prog G [] 110 [.d (dBl l)] (hlst []) (.own 701 0 l.length) (hlst [(701, .sl 4 1 (l.map fun n => [.v (.bool n)]))]) := by
 have hl2 : (l.map fun n => [D.v (.bool n)]).length = l.length := by simp
 have q1 := oneB_len l
 have q2 := oneB_one l
 simp only [dBl]; rw [← hl2]; rw [← hl2] at h; generalize (l.map fun n => [D.v (.bool n)]) = L at *; refine MC.of_body (tyOf_good _) Tryz.func110 rfl rfl (rs := [.tmp 2]) Tryz.results110 (by simp [Tryz.ntmps110]) rfl fun X => ?_; simp only [Tryz.ntmps110]; refine AW.nilCase 0 rfl ?_ fun hl => ?_
 ·refine rg0 [0] [] ?_; refine AW_then fun K1 hK1 => ?_; refine rg0 [0,4] [] ?_; refine AW_cond false rfl (fun hc => by cases hc) (fun hc => ?_); refine AW_skip (hK1 _ ?_)
  have qf := (Aq @q1 @q2)
  refine rgqv [2] [5] ?_; refine AW.imp (Imp.ren (r := 5) (r' := 701) (by decide) (by simp)) ?_; refine AW.st (by simp [renO, renF, Go.Av.ren, renH_hlst]; rfl) ?_; refine AW_ret ?_; simp [D.le, D.le.go, takeMap]
 ·subst hl; refine rg0 [0] [] ?_; refine AW_then fun K1 hK1 => ?_; refine rg0 [0,4] [] ?_; refine AW_cond true rfl (fun hc => ?_) (fun hc => by cases hc); refine rg0 [2] [] ?_; refine AW.imp (Imp.adopt 2 701 4 1 rfl rfl) ?_; refine AW.st (by simp; rfl) ?_; refine AW_ret ?_; simp [D.le, D.le.go, takeMap]
set_option maxHeartbeats 2000000 in
theorem start_spec (G : Glob) (p : PgP) (hp : p.names.length < 2^40) : PureC Tryz.prog G 37 [dPg p] (dSt (startP p)) := by
 have hl2 : (p.names.map cNm).length = p.names.length := by simp
 simp only [dPg, cPg, dNms, dRgs, dSt, cSt, startP, dBl, dIl, List.map_replicate]; rw [← hl2]; rw [← hl2] at hp; generalize p.names.map cNm = NN at *; generalize p.rungs.map cRg = RR at *; refine PureC.of_body (tyOf_good _) Tryz.func37 rfl rfl (rs := [.cell 2 45]) Tryz.results37 (by simp [Tryz.ntmps37]) fun X => ?_; simp only [Tryz.ntmps37, List.map]; refine rg0 [1,2] [1,2] ?_; refine AW.imp (Imp.freezeB 1 trivial) ?_; refine AW.st (by simp; rfl) ?_; refine AW_rQ (tyOf_good _) (by kernel_rfl) ([3, 7]) ([(1, 999), (5, 999), (9, 2)]) (List.range 10) [2] [2] (fun _ _ => trivial) (by kernel_rfl) fun K' hK' => ?_; (repeat (refine sxQ_nextO rfl fun K2 hK2 => ?_; simp [makeEls, zeroD]; (repeat (refine ⟨by omega, ?_⟩)); refine hK2 _ ?_; clear hK2 K2)); refine sxQ_nilO (hK' _ ?_); refine AW.st (by simp [makeEls, zeroD]; rfl) ?_; clear hK' K'; refine AW_ret ?_; simp [D.le, D.le.go, takeMap, D.le_refl, D.leGo_refl]
end Go.Proofs.YthnjfeielmbfkaaGreatDoor
namespace Go.Proofs.YthnjfeielmbfkaaGreatDoor
open Go.Av
theorem checkP_want {p : PgP} (h : checkP p = none) : ∀ r ∈ p.rungs, (p.names.getD (numP p r.name).toNat ⟨[], 0, 0⟩).kind = wantP r.kind := fun r hr => by
 unfold checkP at h
 split at h
 ·cases h
 split at h
 ·cases h
 split at h
 ·cases h
 rename_i hB
 obtain ⟨k, hk, rfl⟩ := List.mem_iff_getElem.1 hr
 have h0 := firstBad_none hB k hk
 generalize p.rungs[k] = r at h0
 obtain ⟨kd, nm, cd⟩ := r
 cases cd with
 | none => cases (show (1 : Int) = 0 from h0)
 | some e =>
  rw [badGw_some] at h0
  split at h0
  ·cases h0
  split at h0
  ·cases h0
  split at h0
  ·cases h0
  rename_i h3
  simp only [Bool.not_eq_true', decide_eq_false_iff_not, Classical.not_not] at h3; exact h3.symm
structure InvS (p : PgP) (s : StP) : Prop where
 l1 : s.is.length = p.names.length
 l2 : s.ct.length = p.names.length
 lo : ∀ k, 0 ≤ s.ct.getD k 0
 hi : ∀ k (hk : k < p.names.length), s.ct.getD k 0 ≤ p.names[k].count
 at' : ∀ k (hk : k < p.names.length), 3 ≤ p.names[k].kind → s.is.getD k false = decide (s.ct.getD k 0 = p.names[k].count)
theorem getD_rep {α : Type} (n k : Nat) (x : α) : (List.replicate n x).getD k x = x := by
 rw [List.getD_eq_getElem?_getD, List.getElem?_replicate]
 split <;> rfl
theorem getD_set_same {α : Type} {l : List α} {i : Nat} {x d : α} (h : i < l.length) : (l.set i x).getD i d = x := by
 rw [List.getD_eq_getElem?_getD, List.getElem?_set_self h]; rfl
theorem getD_set_other {α : Type} {l : List α} {i k : Nat} {x d : α} (h : i ≠ k) : (l.set i x).getD k d = l.getD k d := by
 rw [List.getD_eq_getElem?_getD, List.getElem?_set_ne h, List.getD_eq_getElem?_getD]
theorem start_inv {p : PgP} (h : GoodP p) : InvS p (startP p) := by
 refine ⟨by simp [startP], by simp [startP], fun k => ?_, fun k hk => ?_, fun k hk h3 => ?_⟩
 ·show 0 ≤ (List.replicate _ (0 : Int)).getD k 0
  rw [getD_rep]; exact Int.le_refl _
 ·show (List.replicate _ (0 : Int)).getD k 0 ≤ _
  rw [getD_rep]
  rcases h.count _ (List.getElem_mem hk) with h1 | h1 <;> omega
 ·show (List.replicate _ false).getD k false = decide ((List.replicate _ (0 : Int)).getD k 0 = _)
  rw [getD_rep, getD_rep]
  rcases h.count _ (List.getElem_mem hk) with h1 | h1
  ·omega
  ·exact (decide_eq_false (by omega)).symm
theorem set_inv {p : PgP} {t : StP} (ht : InvS p t) {i : Nat} (hi : i < p.names.length) (hk : p.names[i].kind < 3) (b : Bool) : InvS p ⟨t.is.set i b, t.ct⟩ := by
 refine ⟨by simp [ht.l1], ht.l2, ht.lo, ht.hi, fun k hk' h3 => ?_⟩
 have hne : i ≠ k := fun e => by subst e; omega
 show (t.is.set i b).getD k false = _
 rw [getD_set_other hne]; exact ht.at' k hk' h3
theorem zero_inv {p : PgP} (hg : GoodP p) {t : StP} (ht : InvS p t) {i : Nat} (hi : i < p.names.length) : InvS p (zeroS t i) := by
 refine ⟨by simp [zeroS, ht.l1], by simp [zeroS, ht.l2], fun k => ?_, fun k hk => ?_, fun k hk h3 => ?_⟩
 ·show 0 ≤ (t.ct.set i 0).getD k 0
  by_cases e : i = k
  ·subst e; rw [getD_set_same (by rw [ht.l2]; exact hi)]; exact Int.le_refl _
  ·rw [getD_set_other e]; exact ht.lo k
 ·show (t.ct.set i 0).getD k 0 ≤ _
  by_cases e : i = k
  ·subst e; rw [getD_set_same (by rw [ht.l2]; exact hi)]
   rcases hg.count _ (List.getElem_mem hk) with h1 | h1 <;> omega
  ·rw [getD_set_other e]; exact ht.hi k hk
 ·show (t.is.set i false).getD k false = decide ((t.ct.set i 0).getD k 0 = _)
  by_cases e : i = k
  ·subst e; rw [getD_set_same (by first | (rw [ht.l1]; exact hi) | (rw [ht.l2]; exact hi)), getD_set_same (by first | (rw [ht.l2]; exact hi) | (rw [ht.l1]; exact hi))]
   rcases hg.count _ (List.getElem_mem hk) with h1 | h1
   ·omega
   ·exact (decide_eq_false (by omega)).symm
  ·rw [getD_set_other e, getD_set_other e]; exact ht.at' k hk h3
theorem run_inv {p : PgP} (hg : GoodP p) {t : StP} (ht : InvS p t) {i : Nat} (hi : i < p.names.length) (yes : Bool) : InvS p (runS t i p.names[i].count yes) := by
 have h0 := ht.lo i
 have h1 := ht.hi i hi
 have hc0 := hg.count _ (List.getElem_mem hi)
 obtain ⟨c, hcd, hc⟩ : ∃ c, c = (if yes then (if t.ct.getD i 0 + 1 < p.names[i].count then t.ct.getD i 0 + 1 else p.names[i].count) else t.ct.getD i 0) ∧ 0 ≤ c ∧ c ≤ p.names[i].count := ⟨_, rfl, by split <;> (try split) <;> omega, by split <;> (try split) <;> omega⟩
 have e : runS t i p.names[i].count yes = ⟨t.is.set i (decide (p.names[i].count ≤ c)), t.ct.set i c⟩ := by
  rw [hcd]; rfl
 rw [e]; refine ⟨by simp [ht.l1], by simp [ht.l2], fun k => ?_, fun k hk => ?_, fun k hk h3 => ?_⟩
 ·show 0 ≤ (t.ct.set i c).getD k 0
  by_cases e : i = k
  ·subst e; rw [getD_set_same (by rw [ht.l2]; exact hi)]; omega
  ·rw [getD_set_other e]; exact ht.lo k
 ·show (t.ct.set i c).getD k 0 ≤ _
  by_cases e : i = k
  ·subst e; rw [getD_set_same (by rw [ht.l2]; exact hi)]; omega
  ·rw [getD_set_other e]; exact ht.hi k hk
 ·show (t.is.set i _).getD k false = decide ((t.ct.set i c).getD k 0 = _)
  by_cases e : i = k
  ·subst e; rw [getD_set_same (by first | (rw [ht.l1]; exact hi) | (rw [ht.l2]; exact hi)), getD_set_same (by first | (rw [ht.l2]; exact hi) | (rw [ht.l1]; exact hi))]
   congr 1
   exact propext ⟨fun h => by omega, fun h => by omega⟩
  ·rw [getD_set_other e, getD_set_other e]; exact ht.at' k hk h3
theorem rung_at {p : PgP} (hc : checkP p = none) {r : RgP} (hr : r ∈ p.rungs) : ∃ i, ∃ hi : i < p.names.length, numP p r.name = (i : Int) ∧ p.names[i].kind = wantP r.kind ∧ p.names.getD i ⟨[], 0, 0⟩ = p.names[i] := by
 obtain ⟨_, h2, _⟩ := checkP_rung hc r hr
 obtain ⟨h3, h4⟩ := numP_lt h2
 have h5 := checkP_want hc r hr
 have h6 : p.names.getD (numP p r.name).toNat ⟨[], 0, 0⟩ = p.names[(numP p r.name).toNat] := getD_of h3
 rw [h6] at h5; exact ⟨_, h3, h4, h5, h6⟩
theorem rung_inv {p : PgP} (hc : checkP p = none) {r : RgP} (hr : r ∈ p.rungs) (old : StP) {t : StP} (ht : InvS p t) : InvS p (rungS p old t r) ∧ ∀ k (hk : k < p.names.length), p.names[k].kind = 1 → (rungS p old t r).is.getD k false = t.is.getD k false := by
 have hg := checkP_good hc
 obtain ⟨i, hi, hn, hw, hd⟩ := rung_at hc hr
 obtain ⟨hk, _⟩ := checkP_rung hc r hr
 unfold rungS; simp only [hn, Int.toNat_natCast, hd]
 have hw1 : p.names[i].kind ≠ 1 := by rw [hw]; unfold wantP; split <;> (try split) <;> omega
 have off : ∀ k (hk : k < p.names.length), p.names[k].kind = 1 → i ≠ k := fun k hk h1 e => by subst e; exact hw1 h1
 have hlow : r.kind ≤ 3 → p.names[i].kind < 3 := fun h => by rw [hw]; unfold wantP; rw [if_pos h]; omega
 split
 ·exact ⟨set_inv ht hi (hlow (by omega)) _, fun k hk h1 => getD_set_other (off k hk h1)⟩
 split
 ·exact ⟨set_inv ht hi (hlow (by omega)) _, fun k hk h1 => getD_set_other (off k hk h1)⟩
 split
 ·exact ⟨set_inv ht hi (hlow (by omega)) _, fun k hk h1 => getD_set_other (off k hk h1)⟩
 split
 ·split
  ·exact ⟨run_inv hg ht hi _, fun k hk h1 => getD_set_other (off k hk h1)⟩
  ·refine ⟨zero_inv hg (run_inv hg ht hi _) hi, fun k hk h1 => ?_⟩
   show ((runS t i _ _).is.set i false).getD k false = _
   rw [getD_set_other (off k hk h1)]; exact getD_set_other (off k hk h1)
 split
 ·exact ⟨run_inv hg ht hi _, fun k hk h1 => getD_set_other (off k hk h1)⟩
 split
 ·split
  ·exact ⟨zero_inv hg ht hi, fun k hk h1 => getD_set_other (off k hk h1)⟩
  ·exact ⟨ht, fun k hk h1 => rfl⟩
 ·exact ⟨ht, fun k hk h1 => rfl⟩
theorem rungs_inv {p : PgP} (hc : checkP p = none) (old : StP) : ∀ (l : List RgP) {t : StP}, (∀ r ∈ l, r ∈ p.rungs) → InvS p t → InvS p (l.foldl (rungS p old) t) ∧ ∀ k (hk : k < p.names.length), p.names[k].kind = 1 → (l.foldl (rungS p old) t).is.getD k false = t.is.getD k false
 | [], t, _, ht => ⟨ht, fun k hk h1 => rfl⟩
 | r :: l, t, hl, ht => by
  obtain ⟨h1, h2⟩ := rung_inv hc (hl r (by simp)) old ht
  obtain ⟨h3, h4⟩ := rungs_inv hc old l (fun r hr => hl r (by simp [hr])) h1
  exact ⟨h3, fun k hk hk1 => (h4 k hk hk1).trans (h2 k hk hk1)⟩
theorem kindN_mem {l : List NmP} {k : Int} {x : Int} : ∀ {n : Nat}, n ≤ l.length → (x ∈ kindN l k n ↔ ∃ i, ∃ hi : i < l.length, i < n ∧ x = (i : Int) ∧ l[i].kind = k)
 | 0, _ => by simp [kindN]
 | n + 1, hn => by
  rw [kindN_succ (by omega), List.mem_append, kindN_mem (by omega)]
  constructor
  ·rintro (⟨i, hi, h1, h2, h3⟩ | h)
   ·exact ⟨i, hi, by omega, h2, h3⟩
   ·split at h
    ·rename_i hk
     exact ⟨n, by omega, by omega, by simpa using h, hk⟩
    ·cases h
  ·rintro ⟨i, hi, h1, h2, h3⟩
   by_cases e : i = n
   ·subst e
    right; rw [if_pos h3]; simp [h2]
   ·exact .inl ⟨i, hi, by omega, h2, h3⟩
theorem kindN_nodup {l : List NmP} {k : Int} : ∀ {n : Nat}, n ≤ l.length → (kindN l k n).Nodup
 | 0, _ => by simp [kindN]
 | n + 1, hn => by
  rw [kindN_succ (by omega), List.nodup_append]; refine ⟨kindN_nodup (by omega), by split <;> simp, fun a ha b hb e => ?_⟩; subst e
  obtain ⟨i, hi, h1, h2, _⟩ := (kindN_mem (by omega)).1 ha
  split at hb
  ·have : a = (n : Int) := by simpa using hb
   omega
  ·cases hb
theorem input_at {p : PgP} {j : Nat} (hj : j < (inputP p).length) : ∃ i, ∃ hi : i < p.names.length, (inputP p)[j] = (i : Int) ∧ p.names[i].kind = 1 := by
 obtain ⟨i, hi, _, h2, h3⟩ := (kindN_mem (Nat.le_refl _)).1 (List.getElem_mem hj)
 exact ⟨i, hi, h2, h3⟩
theorem putIn_succ {at' : List Int} {inn is : List Bool} {k i : Nat} (h : k < at'.length) (hi : at'[k] = (i : Int)) : putIn at' inn is (k + 1) = (putIn at' inn is k).set i (inn.getD k false) := by
 rw [putIn, getD_of h, hi]; rfl
theorem putIn_inv {p : PgP} (inn : List Bool) {s : StP} (hs : InvS p s) : ∀ k, k ≤ (inputP p).length → InvS p ⟨putIn (inputP p) inn s.is k, s.ct⟩ ∧ ∀ j (hj : j < k) (hj2 : j < (inputP p).length), (putIn (inputP p) inn s.is k).getD (inputP p)[j].toNat false = inn.getD j false
 | 0, _ => ⟨hs, fun j hj => absurd hj (by omega)⟩
 | k + 1, hk => by
  obtain ⟨h1, h2⟩ := putIn_inv inn hs k (by omega)
  obtain ⟨i, hi, he, h3⟩ := input_at (p := p) (j := k) (by omega)
  rw [putIn_succ (by omega) he]; refine ⟨set_inv h1 hi (by omega) _, fun j hj hj2 => ?_⟩
  by_cases e : j = k
  ·subst e; rw [he, Int.toNat_natCast, getD_set_same (by rw [h1.l1]; exact hi)]
  ·have hne : i ≠ (inputP p)[j].toNat := fun e2 => by
    obtain ⟨i2, hi2, he2, _⟩ := input_at (p := p) hj2
    rw [he2, Int.toNat_natCast] at e2
    have : (inputP p)[j] = (inputP p)[k] := by rw [he, he2, e2]
    exact e ((List.getElem_inj (kindN_nodup (Nat.le_refl _))).1 this)
   rw [getD_set_other hne]; exact h2 j (by omega) hj2
theorem do_inv {p : PgP} (hc : checkP p = none) {s : StP} (hs : InvS p s) (inn : List Bool) : InvS p (doP p s inn) ∧ ∀ j (hj : j < (inputP p).length), (doP p s inn).is.getD (inputP p)[j].toNat false = inn.getD j false := by
 obtain ⟨h1, h2⟩ := putIn_inv inn hs (inputP p).length (Nat.le_refl _)
 obtain ⟨h3, h4⟩ := rungs_inv hc s p.rungs (fun r hr => hr) h1
 refine ⟨h3, fun j hj => ?_⟩
 obtain ⟨i, hi, he, hk⟩ := input_at hj
 have := h2 j hj hj
 rw [he, Int.toNat_natCast] at this ⊢; exact (h4 i hi hk).trans this
def playP (p : PgP) (s : StP) : List (List Bool) → List StP
 | [] => []
 | x :: l => doP p s x :: playP p (doP p s x) l
theorem playP_len (p : PgP) : ∀ (s : StP) (l : List (List Bool)), (playP p s l).length = l.length
 | _, [] => rfl
 | s, x :: l => by rw [playP, List.length_cons, List.length_cons, playP_len]
def behindP (p : PgP) (s : StP) (l : List (List Bool)) (k : Nat) : StP := (l.take k).foldl (doP p) s
theorem behind_succ (p : PgP) (s : StP) {l : List (List Bool)} {k : Nat} (hk : k < l.length) : behindP p s l (k + 1) = doP p (behindP p s l k) l[k] := by
 unfold behindP; rw [List.take_succ_eq_append_getElem hk, List.foldl_append]; rfl
theorem playP_get (p : PgP) : ∀ (s : StP) (l : List (List Bool)) (k : Nat) (hk : k < (playP p s l).length), (playP p s l)[k] = behindP p s l (k + 1)
 | s, x :: l, 0, _ => rfl
 | s, x :: l, k + 1, hk => by
  have := playP_get p (doP p s x) l k (by simpa [playP] using hk)
  simp only [playP, List.getElem_cons_succ]; rw [this]
  rfl
theorem playP_take (p : PgP) (s : StP) {l : List (List Bool)} {k : Nat} (hk : k < l.length) : (playP p s l).take (k + 1) = (playP p s l).take k ++ [behindP p s l (k + 1)] := by
 have hk' : k < (playP p s l).length := by rw [playP_len]; exact hk
 rw [List.take_succ_eq_append_getElem hk', playP_get]
theorem behind_inv {p : PgP} (hc : checkP p = none) (l : List (List Bool)) : ∀ k, k ≤ l.length → InvS p (behindP p (startP p) l k)
 | 0, _ => start_inv (checkP_good hc)
 | k + 1, hk => by
  rw [behind_succ _ _ (by omega)]; exact (do_inv hc (behind_inv hc l k (by omega)) _).1
theorem inv_small {p : PgP} (hc : checkP p = none) {s : StP} (hs : InvS p s) : ∀ x ∈ s.ct, 0 ≤ x ∧ x ≤ 2^20 := fun x hx => by
 obtain ⟨k, hk, rfl⟩ := List.mem_iff_getElem.1 hx
 have hk2 : k < p.names.length := by rw [← hs.l2]; exact hk
 have h1 := hs.lo k
 have h2 := hs.hi k hk2
 rw [getD_of hk] at h1 h2
 rcases (checkP_good hc).count _ (List.getElem_mem hk2) with h3 | h3 <;> omega
end Go.Proofs.YthnjfeielmbfkaaGreatDoor
namespace Go.Proofs.YthnjfeielmbfkaaGreatDoor
open Go.Av
theorem nameF_nn {s : Tx} (h : nameF s = true) : s ≠ [] := (name_facts h).1
theorem ask_names {S1 S2 : Tx → Prop} : ∀ (n : Nat) (e : Ex), SizeOf.sizeOf e ≤ n → WfE e → (∀ s ∈ nmsE true e, S1 s) → (∀ s ∈ nmsE false e, S2 s) → AskE S1 S2 e
 | 0, e, hn, _, _, _ => by cases e <;> simp at hn
 | n + 1, e, hn, hw, h1, h2 => by
  have many : ∀ l : List Ex, (∀ x ∈ l, SizeOf.sizeOf x ≤ n) → (∀ s ∈ nmsL true l, S1 s) → (∀ s ∈ nmsL false l, S2 s) → (∀ x ∈ l, WfE x) → AskL S1 S2 l := by
   intro l
   induction l with
   | nil => intro _ _ _ _; rw [AskL]; trivial
   | cons x l ih =>
    intro hs h1 h2 h3
    simp only [nmsL, List.mem_append] at h1 h2; rw [AskL]; exact ⟨ask_names n x (hs x (by simp)) (h3 x (by simp)) (fun s h => h1 s (.inl h)) (fun s h => h2 s (.inl h)), ih (fun y hy => hs y (by simp [hy])) (fun s h => h1 s (.inr h)) (fun s h => h2 s (.inr h)) (fun y hy => h3 y (by simp [hy]))⟩
  cases e with
  | cst b => rw [AskE]; trivial
  | bit s =>
   rw [AskE]; rw [WfE] at hw; exact h1 s (by simp [nmsE, nmE, one1, nameF_nn hw])
  | rise s =>
   rw [AskE]; rw [WfE] at hw; exact ⟨h1 s (by simp [nmsE, nmE, one1, nameF_nn hw]), h2 s (by simp [nmsE, nmE, one1, nameF_nn hw])⟩
  | fall s =>
   rw [AskE]; rw [WfE] at hw; exact ⟨h1 s (by simp [nmsE, nmE, one1, nameF_nn hw]), h2 s (by simp [nmsE, nmE, one1, nameF_nn hw])⟩
  | not x =>
   rw [AskE]; rw [WfE] at hw; exact ask_names n x (by simp at hn; omega) hw (fun s h => h1 s (by rw [nmsE]; exact h)) (fun s h => h2 s (by rw [nmsE]; exact h))
  | and l =>
   rw [AskE]; rw [WfE] at hw; exact many l (fun x hx => by have := List.sizeOf_lt_of_mem hx; simp only [Ex.and.sizeOf_spec] at hn; omega) (fun s h => h1 s (by rw [nmsE]; exact h)) (fun s h => h2 s (by rw [nmsE]; exact h)) ((WfEs_iff l).1 hw.2)
  | or l =>
   rw [AskE]; rw [WfE] at hw; exact many l (fun x hx => by have := List.sizeOf_lt_of_mem hx; simp only [Ex.or.sizeOf_spec] at hn; omega) (fun s h => h1 s (by rw [nmsE]; exact h)) (fun s h => h2 s (by rw [nmsE]; exact h)) ((WfEs_iff l).1 hw.2)
theorem ask_in {S1 S2 : Tx → Prop} {e : Ex} (hw : WfE e) (h1 : ∀ s ∈ nmsE true e, S1 s) (h2 : ∀ s ∈ nmsE false e, S2 s) : AskE S1 S2 e := ask_names _ e (Nat.le_refl _) hw h1 h2
end Go.Proofs.YthnjfeielmbfkaaGreatDoor
namespace Go.Proofs.YthnjfeielmbfkaaGreatDoor
open Go.Av
theorem rungs_take (p : PgP) (s t0 : StP) {n : Nat} (h : n < p.rungs.length) : (p.rungs.take (n + 1)).foldl (rungS p s) t0 = rungS p s ((p.rungs.take n).foldl (rungS p s) t0) p.rungs[n] := by
 rw [List.take_succ_eq_append_getElem h, List.foldl_append]; rfl
theorem rung_ask {p : PgP} (hc : checkP p = none) (hk : ∀ r ∈ p.rungs, CondOk r) {r : RgP} (hr : r ∈ p.rungs) : ∃ e, r.cond = some e ∧ AskE (fun nm => ¬ numP p nm < 0) (fun nm => ¬ numP p nm < 0) e ∧ bE e ≤ 2^28 := by
 obtain ⟨e, he, hw, _, hb⟩ := hk r hr
 obtain ⟨_, _, e', he', hin⟩ := checkP_rung hc r hr
 rw [he] at he'
 obtain rfl := Option.some.inj he'
 refine ⟨e, he, ask_in hw (fun s hs => hin s (namesE_mem.2 hs)) (fun s hs => hin s (names_sub (namesE_mem.2 hs))), by omega⟩
set_option maxRecDepth 100000 in
set_option maxHeartbeats 32000000 in
theorem do_spec (G : Glob) (p : PgP) (hck : checkP p = none) (hk : ∀ r ∈ p.rungs, CondOk r) (s : StP) (hs : InvS p s) (inn : List Bool) (hin : inn.length = (inputP p).length) : PureC Tryz.prog G 56 [dPg p, dSt s, dBl inn] (dSt (doP p s inn)) := by
 have hg := checkP_good hck
 have hnm := hg.names
 have hrn := hg.rungs
 have hs1 := hs.l1
 have hs2 := hs.l2
 have hkd := lkind_spec G p (by omega) 1
 have hcb := cloneB_mc G s.is (by omega)
 have hci := cloneI_mc G s.ct (by omega)
 have hnum := fun x => lc_num G p (by omega) x
 have hiL := kindN_len p.names 1 p.names.length
 obtain ⟨t0, ht0, hI0⟩ : ∃ t0, t0 = (⟨putIn (inputP p) inn s.is (inputP p).length, s.ct⟩ : StP) ∧ InvS p t0 := ⟨_, rfl, (putIn_inv inn hs _ (Nat.le_refl _)).1⟩
 obtain ⟨T, hT⟩ : ∃ T : Nat → StP, ∀ n, T n = (p.rungs.take n).foldl (rungS p s) t0 := ⟨_, fun _ => rfl⟩
 have hT0 : T 0 = t0 := hT 0
 have hTs : ∀ n (h : n < p.rungs.length), T (n + 1) = rungS p s (T n) p.rungs[n] := fun n h => by rw [hT, hT, rungs_take p s t0 h]
 have hTe : T p.rungs.length = doP p s inn := by rw [hT, List.take_length, ht0]; rfl
 have hTi : ∀ n, InvS p (T n) := fun n => by rw [hT]; exact (rungs_inv hck s _ (fun r hr => List.mem_of_mem_take hr) hI0).1
 have hask : ∀ n (h : n < p.rungs.length), ∃ e, p.rungs[n].cond = some e ∧ PureC Tryz.prog G 114 [dE e, .fn (.func 112) [.ip (cSt (T n)), .ip (cPg p)], .fn (.func 113) [.ip (cSt s), .ip (cPg p)]] (.v (.bool (evE (bitF p (T n).is) (bitF p s.is) e))) := fun n h => by
  obtain ⟨e, he, ha, hb⟩ := rung_ask hck hk (List.getElem_mem h)
  exact ⟨e, he, eval_on G _ _ _ _ _ _ _ _ (ask1 G p (by omega) (T n) (hTi n).l1) (ask2 G p (by omega) s hs1) e ha hb⟩
 clear hT; rw [← hTe]
 have hput : ∀ k, k ≤ (inputP p).length → (putIn (inputP p) inn s.is k).length = p.names.length := fun k hk => (putIn_inv inn hs k hk).1.l1
 have hpus : ∀ k (h : k < (inputP p).length) (h2 : k < inn.length), ∃ i, i < p.names.length ∧ (inputP p)[k] = (i : Int) ∧ putIn (inputP p) inn s.is (k + 1) = (putIn (inputP p) inn s.is k).set i inn[k] := fun k h h2 => by
  obtain ⟨i, hi, he, _⟩ := input_at h
  refine ⟨i, hi, he, ?_⟩; rw [putIn_succ h he]
  congr 1
  exact getD_of h2
 have hp0 : putIn (inputP p) inn s.is 0 = s.is := rfl
 have hpe : t0 = ⟨putIn (inputP p) inn s.is (inputP p).length, s.ct⟩ := ht0
 clear ht0; generalize hPI : putIn (inputP p) inn s.is = PI at hput hpus hp0 hpe; clear hPI
 have hkI : kindN p.names 1 p.names.length = inputP p := rfl
 rw [hkI] at hkd hiL; generalize inputP p = KI at *; simp only [dPg, cPg, dNms, dRgs, dBl, dIl, cSt] at hkd hcb hci hnum hask; simp only [dPg, cPg, dNms, dRgs, dSt, cSt, dBl, dIl]
 have hNl : (p.names.map cNm).length = p.names.length := by simp
 have hNg : ∀ i (h : i < p.names.length), (p.names.map cNm)[i]? = some [.v (.string (bs p.names[i].name)), .v (.int .i64 p.names[i].kind), .v (.int .i64 p.names[i].count)] := fun i h => by simp [h, cNm, dS]
 have hRl : (p.rungs.map cRg).length = p.rungs.length := by simp
 have hRg : ∀ i (h : i < p.rungs.length), (p.rungs.map cRg)[i]? = some (cRg p.rungs[i]) := fun i h => by simp [h]
 generalize p.names.map cNm = NN at *; generalize p.rungs.map cRg = RR at *; refine PureC.of_body (tyOf_good _) Tryz.func56 rfl rfl (rs := [.cell 6 45]) Tryz.results56 (by simp [Tryz.ntmps56]) fun X => ?_; simp only [Tryz.ntmps56, List.map]
 have fw := @dNum.eq_1
 refine rgq fw [2,3,4,6] [3,4,6] ?_; refine AW.imp (Imp.freezeB 3 trivial) ?_; refine AW.st (by simp [dNum]; rfl) ?_; refine AW.imp (Imp.freezeB 4 trivial) ?_; refine AW.st (by simp [dNum]; rfl) ?_; refine AW_ra (tyOf_good _) (by kernel_rfl) ([]) ([7]) ([]) ([2, 5]) ([(1, .d (.ip [.sl none (s.is.map fun b => [.v (.bool b)]), .sl none (s.ct.map fun n => [.v (.int .i64 n)])])), (4, .d (.ip [.sl none (s.ct.map fun n => [.v (.int .i64 n)])]))]) (List.range 9) [2, 3, 4, 6, 7] [6, 7, 701, 702] (fun _ _ => trivial) (by kernel_rfl) (by simp [OffE]) fun K' hK' => ?_; (repeat (refine sxa_nextO rfl fun K2 hK2 => ?_; simp [dNum]; (repeat (refine ⟨by omega, ?_⟩)); refine hK2 _ ?_; clear hK2 K2)); refine sxa_nextO rfl fun K2 hK2 => ?_; simp [dNum]; refine haK.mc (hcb) (by simp [dNum]) (by simp [dNum]) (by simp [dNum]) (by simp [dNum]) (by simp [dNum]) (by simp [dNum]) (by simp [dNum]) (by simp [LdSame, dNum]) ?_; simp [dNum]; refine hK2 _ ?_; clear hK2 K2; (repeat (refine sxa_nextO rfl fun K2 hK2 => ?_; simp [dNum]; (repeat (refine ⟨by omega, ?_⟩)); refine hK2 _ ?_; clear hK2 K2)); refine sxa_nextO rfl fun K2 hK2 => ?_; simp [dNum]; refine haK.mc (hci) (by simp [dNum]) (by simp [dNum]) (by simp [dNum]) (by simp [dNum]) (by simp [dNum]) (by simp [dNum]) (by simp [dNum]) (by simp [LdSame, dNum]) ?_; simp [dNum]; refine hK2 _ ?_; clear hK2 K2; (repeat (refine sxa_nextO rfl fun K2 hK2 => ?_; simp [dNum]; (repeat (refine ⟨by omega, ?_⟩)); refine hK2 _ ?_; clear hK2 K2)); refine sxa_nilO (hK' _ ?_); refine AW.st (by simp [dNum]; rfl) ?_; clear hK' K'; refine AW_then fun K1 hK1 => ?_; refine rgc fw hkd [2,3,4,6,7,24,25,26] [6,7,701,702] ?_; refine AW_for (S := Nat) (fun k => k ≤ KI.length) (fun k => ⟨lst [(2, .d (.sl none (inn.map fun b => [.v (.bool b)]))), (3, .d (.ip [.sl none NN, .sl none RR])), (4, .d (.ip [.sl none (s.is.map fun b => [.v (.bool b)]), .sl none (s.ct.map fun n => [.v (.int .i64 n)])])), (6, .ref 6 0 0), (7, .ref 7 0 0), (24, .d (.sl none (KI.map fun x => [.v (.int .i64 x)]))), (25, int KI.length), (26, int k)], hlst [(6, .box 45 [.d (.sl (some false) []), .d (.sl (some false) [])]), (7, .box 45 [.own 701 0 (PI k).length, .own 702 0 s.ct.length]), (701, .sl 4 1 ((PI k).map fun b => [.v (.bool b)])), (702, .sl 3 1 (s.ct.map fun n => [.v (.int .i64 n)]))]⟩) (fun k => KI.length - k) 0 ?_ (by omega) ?_
 ·rw [hp0]; refine Imp.to' (fun _ _ => trivial) (by simp [dNum]) (by simp [dNum])
 ·intro k hkk
  have hPl := hput k hkk
  have hPs := hpus k
  generalize hPk : PI k = P at hPl hPs ⊢; refine rgq fw [2,3,4,6,7,24,25,26,27] [6,7,701,702] ?_; refine AW_then fun K2 hK2 => ?_; refine AW_cond' (b := k < KI.length) (by simp [D.le, D.le.go, takeMap, dNum]) (fun hc => ?_) (fun hc => ?_)
  ·have hlt := hc
   have hk2 : k < inn.length := by omega
   obtain ⟨i, hi, hKi, hPn⟩ := hPs hlt hk2
   have hi2 : i < P.length := by omega
   refine AW_skip (hK2 _ ?_); refine AW_then fun K3 hK3 => ?_; refine AW_block ?_
   have qf := (Aq fw (Aq @hlt @hKi))
   refine rgqv [2,3,4,6,7,8,9,24,25,26] [6,7,701,702] ?_; refine AW_rdge (tyOf_good _) (by kernel_rfl) [(1, 7), (6, 999), (7, 701), (8, 701)] (by kernel_rfl) fun K' hK' => ?_; (repeat (refine sxg_next fun K2 hK2 => ?_; simp [dNum, hi2, hk2]; (repeat (refine ⟨by omega, ?_⟩)); refine hK2 _ ?_; clear hK2 K2)); refine sxg_nil (hK' _ ?_); clear hK' K'; refine hK3 _ (AW.norm [2, 3, 4, 6, 7, 24, 25, 26] [6, 7, 701, 702] (fun _ _ => trivial) (AW.st (by simp [dNum, hi2, hk2]; rfl) ?_)); refine AW_re (tyOf_good _) fun K' hK' => ?_; (repeat (refine sxn fun K2 hK2 => ?_; simp [dNum]; (repeat (refine ⟨by omega, ?_⟩)); refine hK2 _ ?_; clear hK2 K2)); refine sxz (hK' _ ?_); clear hK' K'; (try simp only [thn, inb]); refine Again.mk (k + 1) (by omega) (by omega) ?_; rw [hPn]; refine Imp.to' (fun _ _ => trivial) (by simp [dNum, List.map_set]) (by simp [dNum, List.map_set])
  ·have hke : k = KI.length := by omega
   refine AW_exit (hK1 _ ?_)
   have ht0e : t0 = ⟨P, s.ct⟩ := by rw [hpe, ← hke, hPk]
   refine rgq fw [3,4,6,7,10] [6,7,701,702] ?_; refine rgq fw [3,6,7,10,11] [6,7,701,702] ?_; refine AW_then fun K4 hK4 => ?_; refine rgq fw [3,6,7,10,11,43,44,45] [6,7,701,702] ?_; refine AW_for (S := Nat) (fun n => n ≤ p.rungs.length) (fun n => ⟨lst [(3, .d (.ip [.sl none NN, .sl none RR])), (6, .ref 6 0 0), (7, .ref 7 0 0), (10, .fn (.func 112) [.ref 7 0 0, .d (.ip [.sl none NN, .sl none RR])]), (11, .d (.fn (.func 113) [.ip [.sl none (s.is.map fun b => [.v (.bool b)]), .sl none (s.ct.map fun n => [.v (.int .i64 n)])], .ip [.sl none NN, .sl none RR]])), (43, .d (.sl none RR)), (44, int RR.length), (45, int n)], hlst [(6, .box 45 [.d (.sl (some false) []), .d (.sl (some false) [])]), (7, .box 45 [.own 701 0 (T n).is.length, .own 702 0 (T n).ct.length]), (701, .sl 4 1 ((T n).is.map fun b => [.v (.bool b)])), (702, .sl 3 1 ((T n).ct.map fun n => [.v (.int .i64 n)]))]⟩) (fun n => p.rungs.length - n) 0 ?_ (by omega) ?_
   ·rw [hT0, ht0e]; refine Imp.to' (fun _ _ => trivial) (by simp [dNum]) (by simp [dNum])
   ·intro n hn
    have hTn := hTs n
    have hin2 := hTi n
    have hasn := hask n
    generalize hTn0 : T n = tn at hTn hin2 hasn ⊢
    obtain ⟨I, C⟩ := tn
    have hIl := hin2.l1
    have hCl := hin2.l2
    have hsm := inv_small hck hin2
    dsimp only at hIl hCl hsm hasn ⊢
    refine rgq fw [3,6,7,10,11,43,44,45,46] [6,7,701,702] ?_; refine AW_then fun K5 hK5 => ?_
    by_cases hlt : n < p.rungs.length
    ·have hlt2 : n < RR.length := by omega
     have hlt3 : (n : Int) < (RR.length : Int) := by omega
     refine AW_cond true (by simp [hlt2]) (fun _ => ?_) (fun h => by cases h); refine AW_skip (hK5 _ ?_); refine AW_then fun K6 hK6 => ?_; refine AW_block ?_
     obtain ⟨e, he, hev⟩ := hasn hlt
     obtain ⟨i, hi, hni, _, hcnt⟩ := rung_at hck (List.getElem_mem hlt)
     obtain ⟨hkr, _⟩ := checkP_rung hck _ (List.getElem_mem hlt)
     have hTn2 := hTn hlt
     have hRi := hRg n hlt
     have hnu := hnum p.rungs[n].name
     rw [hni] at hnu; unfold rungS at hTn2; simp only [hni, Int.toNat_natCast, hcnt, he, evC] at hTn2; unfold cRg at hRi; rw [he] at hRi; generalize p.rungs[n] = r at hRi hnu hkr hTn2
     obtain ⟨rk, rn, rc⟩ := r
     dsimp only at hRi hnu hkr hTn2
     generalize evE (bitF p I) (bitF p s.is) e = yes at hev hTn2
     obtain ⟨ety, ev, hee⟩ := dE_ifc e
     rw [show dC (some e) = dE e from rfl, hee] at hRi; rw [hee] at hev; simp only [dS] at hnu hRi
     have hNi := hNg i hi
     have hi1 : i < I.length := by omega
     have hi2 : i < C.length := by omega
     have hi3 : i < NN.length := by omega
     have hNi2 : NN[i] = [.v (.string (bs p.names[i].name)), .v (.int .i64 p.names[i].kind), .v (.int .i64 p.names[i].count)] := by
      rw [List.getElem?_eq_getElem hi3] at hNi; exact Option.some.inj hNi
     have hRi2 : RR[n] = [.v (.int .i64 rk), .v (.string (bs rn)), .ifc ety ev] := by
      rw [List.getElem?_eq_getElem hlt2] at hRi; exact Option.some.inj hRi
     have hrun := run_mc G ⟨I, C⟩ i p.names[i].count yes hi1 hi2 (fun x hx => by have := hsm x hx; omega)
     generalize p.names[i].count = m at hNi2 hTn2 hrun; generalize p.names[i].name = nmi at hNi2; generalize p.names[i].kind = kdi at hNi2
     have qf := (Aq fw (Aq @hlt2 (Aq @hlt3 @hRi2)))
     refine rgqv [3,6,7,10,11,13,43,44,45] [6,7,701,702,13] ?_; refine AW.imp (Imp.freezeB 13 trivial) ?_; refine AW.st (by simp [dNum]; rfl) ?_; refine rgc fw hnu [3,6,7,10,11,13,14,43,44,45] [6,7,701,702] ?_; refine rg [3, 6, 7, 10, 11, 13, 14, 15, 43, 44, 45] [6, 7, 701, 702] (fun _ _ => trivial) fun K' hK' => ?_; (repeat (refine sxn fun K2 hK2 => ?_; simp [dNum]; (repeat (refine ⟨by omega, ?_⟩)); refine hK2 _ ?_; clear hK2 K2)); refine sxn fun K2 hK2 => ?_; simp [dNum]; refine callK.lend (hev) (by simp; rfl) (by first | exact D.leGo_refl _ | simp [takeMap, List.map_map, Function.comp_def, D.le, D.le.go, D.le_refl, D.leGo_refl, dNum]) (by simp [D.scalar]) ?_; refine hK2 _ ?_; clear hK2 K2; simp only [putd, upd_lst]; (repeat (refine sxn fun K2 hK2 => ?_; simp [dNum]; (repeat (refine ⟨by omega, ?_⟩)); refine hK2 _ ?_; clear hK2 K2)); refine sxz (hK' _ (AW.st (by simp [dNum]; rfl) ?_)); clear hK' K'; refine rgq fw [3,6,7,10,11,14,15,43,44,45,59] [6,7,701,702] ?_; refine AW_block ?_
     have hk6 : rk = 1 ∨ rk = 2 ∨ rk = 3 ∨ rk = 4 ∨ rk = 5 ∨ rk = 6 := by omega
     rcases hk6 with rfl | rfl | rfl | rfl | rfl | rfl
     ·have hTn2 := hTn2
      simp at hTn2; refine rgq fw [3,6,7,10,11,14,15,43,44,45,59,60] [6,7,701,702] ?_; refine AW_tt rfl ?_
      have qf := (Aq fw @hi1)
      refine reKv hK6 [3,6,7,10,11,43,44,45] [6,7,701,702] ?_; refine AW_re (tyOf_good _) fun K' hK' => ?_; (repeat (refine sxn fun K2 hK2 => ?_; simp [dNum]; (repeat (refine ⟨by omega, ?_⟩)); refine hK2 _ ?_; clear hK2 K2)); refine sxz (hK' _ ?_); clear hK' K'; (try simp only [thn, inb]); refine Again.mk (n + 1) (by omega) (by omega) ?_; rw [hTn2]; refine Imp.to' (fun _ _ => trivial) (by simp [dNum, List.map_set]) (by simp [dNum, List.map_set])
     ·have hTn2 := hTn2
      rw [getD_of hi1] at hTn2; refine rgq fw [3,6,7,10,11,14,15,43,44,45,59,60] [6,7,701,702] ?_; refine AW_ff rfl ?_; refine rgq fw [3,6,7,10,11,14,15,43,44,45,59,67] [6,7,701,702] ?_; refine AW_tt rfl ?_
      cases hIb : I[i] with
      | true =>
       rw [hIb] at hTn2; simp at hTn2; refine AW_rdge (tyOf_good _) (by kernel_rfl) [(1, 7), (4, 7), (6, 701), (7, 701), (11, 701), (12, 701)] (by kernel_rfl) fun K' hK' => ?_; (repeat (refine sxg_next fun K2 hK2 => ?_; simp [dNum, hi1, hIb]; (repeat (refine ⟨by omega, ?_⟩)); refine hK2 _ ?_; clear hK2 K2)); refine sxg_nil (hK' _ ?_); clear hK' K'; refine hK6 _ (AW.norm [3, 6, 7, 10, 11, 43, 44, 45] [6, 7, 701, 702] (fun _ _ => trivial) (AW.st (by simp [dNum, hi1, hIb]; rfl) ?_)); refine AW_re (tyOf_good _) fun K' hK' => ?_; (repeat (refine sxn fun K2 hK2 => ?_; simp [dNum]; (repeat (refine ⟨by omega, ?_⟩)); refine hK2 _ ?_; clear hK2 K2)); refine sxz (hK' _ ?_); clear hK' K'; (try simp only [thn, inb]); refine Again.mk (n + 1) (by omega) (by omega) ?_; rw [hTn2]; refine Imp.to' (fun _ _ => trivial) (by simp [dNum, List.map_set]) (by simp [dNum, List.map_set])
      | false =>
       rw [hIb] at hTn2; simp at hTn2; refine AW_rdge (tyOf_good _) (by kernel_rfl) [(1, 7), (4, 7), (6, 701), (7, 701), (11, 701), (12, 701)] (by kernel_rfl) fun K' hK' => ?_; (repeat (refine sxg_next fun K2 hK2 => ?_; simp [dNum, hi1, hIb]; (repeat (refine ⟨by omega, ?_⟩)); refine hK2 _ ?_; clear hK2 K2)); refine sxg_nil (hK' _ ?_); clear hK' K'; refine hK6 _ (AW.norm [3, 6, 7, 10, 11, 43, 44, 45] [6, 7, 701, 702] (fun _ _ => trivial) (AW.st (by simp [dNum, hi1, hIb]; rfl) ?_)); refine AW_re (tyOf_good _) fun K' hK' => ?_; (repeat (refine sxn fun K2 hK2 => ?_; simp [dNum]; (repeat (refine ⟨by omega, ?_⟩)); refine hK2 _ ?_; clear hK2 K2)); refine sxz (hK' _ ?_); clear hK' K'; (try simp only [thn, inb]); refine Again.mk (n + 1) (by omega) (by omega) ?_; rw [hTn2]; refine Imp.to' (fun _ _ => trivial) (by simp [dNum, List.map_set]) (by simp [dNum, List.map_set])
     ·have hTn2 := hTn2
      rw [getD_of hi1] at hTn2; refine rgq fw [3,6,7,10,11,14,15,43,44,45,59,60] [6,7,701,702] ?_; refine AW_ff rfl ?_; refine rgq fw [3,6,7,10,11,14,15,43,44,45,59,67] [6,7,701,702] ?_; refine AW_ff rfl ?_; refine rgq fw [3,6,7,10,11,14,15,43,44,45,59,81] [6,7,701,702] ?_; refine AW_tt rfl ?_
      cases hIb : I[i] with
      | true =>
       rw [hIb] at hTn2; simp at hTn2; refine AW_rdge (tyOf_good _) (by kernel_rfl) [(1, 7), (4, 7), (6, 701), (7, 701), (12, 701), (13, 701)] (by kernel_rfl) fun K' hK' => ?_; (repeat (refine sxg_next fun K2 hK2 => ?_; simp [dNum, hi1, hIb]; (repeat (refine ⟨by omega, ?_⟩)); refine hK2 _ ?_; clear hK2 K2)); refine sxg_nil (hK' _ ?_); clear hK' K'; refine hK6 _ (AW.norm [3, 6, 7, 10, 11, 43, 44, 45] [6, 7, 701, 702] (fun _ _ => trivial) (AW.st (by simp [dNum, hi1, hIb]; rfl) ?_)); refine AW_re (tyOf_good _) fun K' hK' => ?_; (repeat (refine sxn fun K2 hK2 => ?_; simp [dNum]; (repeat (refine ⟨by omega, ?_⟩)); refine hK2 _ ?_; clear hK2 K2)); refine sxz (hK' _ ?_); clear hK' K'; (try simp only [thn, inb]); refine Again.mk (n + 1) (by omega) (by omega) ?_; rw [hTn2]; refine Imp.to' (fun _ _ => trivial) (by simp [dNum, List.map_set]) (by simp [dNum, List.map_set])
      | false =>
       rw [hIb] at hTn2; simp at hTn2; refine AW_rdge (tyOf_good _) (by kernel_rfl) [(1, 7), (4, 7), (6, 701), (7, 701), (12, 701), (13, 701)] (by kernel_rfl) fun K' hK' => ?_; (repeat (refine sxg_next fun K2 hK2 => ?_; simp [dNum, hi1, hIb]; (repeat (refine ⟨by omega, ?_⟩)); refine hK2 _ ?_; clear hK2 K2)); refine sxg_nil (hK' _ ?_); clear hK' K'; refine hK6 _ (AW.norm [3, 6, 7, 10, 11, 43, 44, 45] [6, 7, 701, 702] (fun _ _ => trivial) (AW.st (by simp [dNum, hi1, hIb]; rfl) ?_)); refine AW_re (tyOf_good _) fun K' hK' => ?_; (repeat (refine sxn fun K2 hK2 => ?_; simp [dNum]; (repeat (refine ⟨by omega, ?_⟩)); refine hK2 _ ?_; clear hK2 K2)); refine sxz (hK' _ ?_); clear hK' K'; (try simp only [thn, inb]); refine Again.mk (n + 1) (by omega) (by omega) ?_; rw [hTn2]; refine Imp.to' (fun _ _ => trivial) (by simp [dNum, List.map_set]) (by simp [dNum, List.map_set])
     ·have hTn2 := hTn2
      simp at hTn2; refine rgq fw [3,6,7,10,11,14,15,43,44,45,59,60] [6,7,701,702] ?_; refine AW_ff rfl ?_; refine rgq fw [3,6,7,10,11,14,15,43,44,45,59,67] [6,7,701,702] ?_; refine AW_ff rfl ?_; refine rgq fw [3,6,7,10,11,14,15,43,44,45,59,81] [6,7,701,702] ?_; refine AW_ff rfl ?_; refine rgq fw [3,6,7,10,11,14,15,43,44,45,59,96] [6,7,701,702] ?_; refine AW_tt rfl ?_
      obtain ⟨I2, C2, hIC, hI2, hC2⟩ : ∃ I2 C2, runS ⟨I, C⟩ i m yes = ⟨I2, C2⟩ ∧ I2.length = I.length ∧ C2.length = C.length := ⟨_, _, rfl, by simp, by simp⟩
      rw [hIC] at hrun hTn2; simp only [stR, dNum] at hrun
      have hj1 : i < I2.length := by omega
      have hj2 : i < C2.length := by omega
      have qf := (Aq fw (Aq @hi3 @hNi2))
      refine rgmv hrun [3,6,7,10,11,14,15,43,44,45] [6,7,701,702] ?_; refine rgq fw [3,6,7,10,11,14,43,44,45,108] [6,7,701,702] ?_
      cases yes with
      | true =>
       simp only [if_true] at hTn2; refine AW_ff rfl ?_; refine AW_skip ?_; refine hK6 _ (AW.norm [3, 6, 7, 10, 11, 43, 44, 45] [6, 7, 701, 702] (fun _ _ => trivial) (AW.st (by simp [dNum]; rfl) ?_)); refine AW_re (tyOf_good _) fun K' hK' => ?_; (repeat (refine sxn fun K2 hK2 => ?_; simp [dNum]; (repeat (refine ⟨by omega, ?_⟩)); refine hK2 _ ?_; clear hK2 K2)); refine sxz (hK' _ ?_); clear hK' K'; (try simp only [thn, inb]); refine Again.mk (n + 1) (by omega) (by omega) ?_; rw [hTn2]; refine Imp.to' (fun _ _ => trivial) (by simp [dNum, List.map_set]) (by simp [dNum, List.map_set])
      | false =>
       simp only [Bool.false_eq_true, if_false, zeroS] at hTn2; refine AW_tt rfl ?_
       have qf := (Aq fw (Aq @hj1 @hj2))
       refine reKv hK6 [3,6,7,10,11,43,44,45] [6,7,701,702] ?_; refine AW_re (tyOf_good _) fun K' hK' => ?_; (repeat (refine sxn fun K2 hK2 => ?_; simp [dNum]; (repeat (refine ⟨by omega, ?_⟩)); refine hK2 _ ?_; clear hK2 K2)); refine sxz (hK' _ ?_); clear hK' K'; (try simp only [thn, inb]); refine Again.mk (n + 1) (by omega) (by omega) ?_; rw [hTn2]; refine Imp.to' (fun _ _ => trivial) (by simp [dNum, List.map_set]) (by simp [dNum, List.map_set])
     ·have hTn2 := hTn2
      simp at hTn2; refine rgq fw [3,6,7,10,11,14,15,43,44,45,59,60] [6,7,701,702] ?_; refine AW_ff rfl ?_; refine rgq fw [3,6,7,10,11,14,15,43,44,45,59,67] [6,7,701,702] ?_; refine AW_ff rfl ?_; refine rgq fw [3,6,7,10,11,14,15,43,44,45,59,81] [6,7,701,702] ?_; refine AW_ff rfl ?_; refine rgq fw [3,6,7,10,11,14,15,43,44,45,59,96] [6,7,701,702] ?_; refine AW_ff rfl ?_; refine rgq fw [3,6,7,10,11,14,15,43,44,45,59,117] [6,7,701,702] ?_; refine AW_tt rfl ?_
      obtain ⟨I2, C2, hIC, hI2, hC2⟩ : ∃ I2 C2, runS ⟨I, C⟩ i m yes = ⟨I2, C2⟩ ∧ I2.length = I.length ∧ C2.length = C.length := ⟨_, _, rfl, by simp, by simp⟩
      rw [hIC] at hrun hTn2; simp only [stR, dNum] at hrun; refine AW_re (tyOf_good _) fun K' hK' => ?_; (repeat (refine sxn fun K2 hK2 => ?_; simp [dNum, hi3, hNi2]; (repeat (refine ⟨by omega, ?_⟩)); refine hK2 _ ?_; clear hK2 K2)); refine sxn fun K2 hK2 => ?_; simp [dNum, hi3, hNi2]; refine callK.mc (hrun) ?_ ?_ ?_ ?_ ?_ <;> simp [dNum, hi3, hNi2]; refine hK2 _ ?_; clear hK2 K2; (repeat (refine sxn fun K2 hK2 => ?_; simp [dNum, hi3, hNi2]; (repeat (refine ⟨by omega, ?_⟩)); refine hK2 _ ?_; clear hK2 K2)); refine sxz (hK' _ ?_); clear hK' K'; refine hK6 _ (AW.norm [3, 6, 7, 10, 11, 43, 44, 45] [6, 7, 701, 702] (fun _ _ => trivial) (AW.st (by simp [dNum, hi3, hNi2]; rfl) ?_)); refine AW_re (tyOf_good _) fun K' hK' => ?_; (repeat (refine sxn fun K2 hK2 => ?_; simp [dNum]; (repeat (refine ⟨by omega, ?_⟩)); refine hK2 _ ?_; clear hK2 K2)); refine sxz (hK' _ ?_); clear hK' K'; (try simp only [thn, inb]); refine Again.mk (n + 1) (by omega) (by omega) ?_; rw [hTn2]; refine Imp.to' (fun _ _ => trivial) (by simp [dNum, List.map_set]) (by simp [dNum, List.map_set])
     ·have hTn2 := hTn2
      simp at hTn2; refine rgq fw [3,6,7,10,11,14,15,43,44,45,59,60] [6,7,701,702] ?_; refine AW_ff rfl ?_; refine rgq fw [3,6,7,10,11,14,15,43,44,45,59,67] [6,7,701,702] ?_; refine AW_ff rfl ?_; refine rgq fw [3,6,7,10,11,14,15,43,44,45,59,81] [6,7,701,702] ?_; refine AW_ff rfl ?_; refine rgq fw [3,6,7,10,11,14,15,43,44,45,59,96] [6,7,701,702] ?_; refine AW_ff rfl ?_; refine rgq fw [3,6,7,10,11,14,15,43,44,45,59,117] [6,7,701,702] ?_; refine AW_ff rfl ?_; refine rgq fw [3,6,7,10,11,14,15,43,44,45,128] [6,7,701,702] ?_; refine AW_tt rfl ?_; refine rgq fw [3,6,7,10,11,14,43,44,45,130] [6,7,701,702] ?_
      cases yes with
      | true =>
       simp only [if_true, zeroS] at hTn2; refine AW_tt rfl ?_
       have qf := (Aq fw (Aq @hi1 @hi2))
       refine reKv hK6 [3,6,7,10,11,43,44,45] [6,7,701,702] ?_; refine AW_re (tyOf_good _) fun K' hK' => ?_; (repeat (refine sxn fun K2 hK2 => ?_; simp [dNum]; (repeat (refine ⟨by omega, ?_⟩)); refine hK2 _ ?_; clear hK2 K2)); refine sxz (hK' _ ?_); clear hK' K'; (try simp only [thn, inb]); refine Again.mk (n + 1) (by omega) (by omega) ?_; rw [hTn2]; refine Imp.to' (fun _ _ => trivial) (by simp [dNum, List.map_set]) (by simp [dNum, List.map_set])
      | false =>
       simp only [Bool.false_eq_true, if_false] at hTn2; refine AW_ff rfl ?_; refine AW_skip ?_; refine hK6 _ (AW.norm [3, 6, 7, 10, 11, 43, 44, 45] [6, 7, 701, 702] (fun _ _ => trivial) (AW.st (by simp [dNum]; rfl) ?_)); refine AW_re (tyOf_good _) fun K' hK' => ?_; (repeat (refine sxn fun K2 hK2 => ?_; simp [dNum]; (repeat (refine ⟨by omega, ?_⟩)); refine hK2 _ ?_; clear hK2 K2)); refine sxz (hK' _ ?_); clear hK' K'; (try simp only [thn, inb]); refine Again.mk (n + 1) (by omega) (by omega) ?_; rw [hTn2]; refine Imp.to' (fun _ _ => trivial) (by simp [dNum, List.map_set]) (by simp [dNum, List.map_set])
    ·have hlt3 : ¬ (n : Int) < (RR.length : Int) := by omega
     have hne : n = p.rungs.length := by omega
     refine AW_cond false (by simp; omega) (fun h => by cases h) (fun _ => ?_); refine AW_exit (hK4 _ ?_)
     have hTl : T p.rungs.length = ⟨I, C⟩ := by rw [← hne]; exact hTn0
     refine rgq fw [6] [6,7,701,702] ?_; refine AW_ret ?_; simp [D.le, D.le.go, takeMap, dNum, hTl, D.le_refl, D.leGo_refl]
end Go.Proofs.YthnjfeielmbfkaaGreatDoor
namespace Go.Proofs.YthnjfeielmbfkaaGreatDoor
open Go.Av
theorem small_of {p : PgP} (hck : checkP p = none) (hk : ∀ r ∈ p.rungs, CondOk r) : SmallP p := by
 have hg := checkP_good hck
 have hnm := hg.names
 have hrn := hg.rungs
 refine ⟨by omega, by omega, fun n hn => ?_, fun r hr e he => ?_⟩
 ·have := nameF_len (hg.name n hn).1; omega
 ·obtain ⟨e', he', _, _, hb⟩ := hk r hr
  rw [he] at he'
  obtain rfl := Option.some.inj he'
  have h1 := Lib.compact_length_le (sortT (nmsE true e))
  have h2 := sortT_len (nmsE true e)
  have h3 := nms_len true e
  refine ⟨by omega, ?_⟩; unfold namesE; omega
set_option maxRecDepth 100000 in
set_option maxHeartbeats 8000000 in
theorem step_good (G : Glob) (p : PgP) (hck : checkP p = none) (hk : ∀ r ∈ p.rungs, CondOk r) (s : StP) (hs : InvS p s) (inn : List Bool) (hin : inn.length = (inputP p).length) : PureC Tryz.prog G 36 [dPg p, dSt s, dBl inn] (.tup [dSt (doP p s inn), .v .nilIface]) := by
 have hdo := do_spec G p hck hk s hs inn hin
 have hcs := ladderCheck_spec G p (small_of hck hk)
 rw [hck] at hcs
 have hkd := lkind_spec G p (by have := (checkP_good hck).names; omega) 1
 have hkI : kindN p.names 1 p.names.length = inputP p := rfl
 rw [hkI] at hkd
 have hs1 := hs.l1
 have hs2 := hs.l2
 have hNl : (p.names.map cNm).length = p.names.length := by simp
 rw [← hNl] at hs1 hs2; simp only [dPg, cPg, dNms, dRgs, dBl, dIl, cSt, dSt, dErr] at hkd hcs hdo ⊢; generalize doP p s inn = t at *; generalize inputP p = KI at *; generalize p.names.map cNm = NN at *; generalize p.rungs.map cRg = RR at *
 obtain ⟨I, C⟩ := s
 obtain ⟨I2, C2⟩ := t
 dsimp only at hdo hs1 hs2 ⊢
 clear hs; refine PureC.of_body (tyOf_good _) Tryz.func36 rfl rfl (rs := [.cell 6 45, .tmp 7]) Tryz.results36 (by simp [Tryz.ntmps36]) fun X => ?_; simp only [Tryz.ntmps36, List.map]
 have fw := @dNum.eq_1
 refine rgq fw [2,3,4,6] [3,4,6] ?_; refine AW.imp (Imp.freezeB 3 trivial) ?_; refine AW.st (by simp [dNum]; rfl) ?_; refine AW.imp (Imp.freezeB 4 trivial) ?_; refine AW.st (by simp [dNum]; rfl) ?_; refine AW_then fun K1 hK1 => ?_; refine rgc fw hcs [2,3,4,6,8] [6] ?_; refine rgq fw [2,3,4,6,8,12] [6] ?_; refine AW_ff rfl ?_; refine AW_skip (hK1 _ ?_); refine AW_then fun K2 hK2 => ?_
 have qf := (Aq fw (Aq @hin (Aq @hs1 @hs2)))
 refine rgcv hkd [2,3,4,6,38] [6] ?_; refine AW_ff rfl ?_; refine AW_skip (hK2 _ ?_); refine rgc fw hdo [6,7] [6] ?_; refine AW_ret ?_; simp [D.le, D.le.go, takeMap, dNum, D.le_refl, D.leGo_refl]
def dBls (l : List (List Bool)) : D := .sl none (l.map fun x => [dBl x])
def cSts (l : List StP) : List (List D) := l.map cSt
set_option maxRecDepth 100000 in
set_option maxHeartbeats 8000000 in
theorem play_good (G : Glob) (p : PgP) (hck : checkP p = none) (hk : ∀ r ∈ p.rungs, CondOk r) (l : List (List Bool)) (hl : l.length ≤ 1000) (hin : ∀ x ∈ l, x.length = (inputP p).length) : PureC Tryz.prog G 14 [dPg p, dBls l] (.tup [.sl none (cSts (playP p (startP p) l)), .v .nilIface]) := by
 have hnm := (checkP_good hck).names
 have hcs := ladderCheck_spec G p (small_of hck hk)
 rw [hck] at hcs
 have hst := start_spec G p (by omega)
 have hstep : ∀ k (hk2 : k < l.length), PureC Tryz.prog G 36 [dPg p, dSt (behindP p (startP p) l k), dBl l[k]] (.tup [dSt (behindP p (startP p) l (k + 1)), .v .nilIface]) := fun k hk2 => by
  have := step_good G p hck hk _ (behind_inv hck l k (by omega)) l[k] (hin _ (List.getElem_mem hk2))
  rw [← behind_succ _ _ hk2] at this; exact this
 have hb0 : behindP p (startP p) l 0 = startP p := rfl
 have hpl := playP_len p (startP p) l
 have hpt := fun k (hk2 : k < l.length) => playP_take p (startP p) hk2
 generalize playP p (startP p) l = PL at *; generalize hBH : behindP p (startP p) l = BH at hstep hb0 hpt; simp only [dPg, cPg, dNms, dRgs, dBl, dIl, cSt, dSt, dErr, dBls, cSts] at hcs hst hstep ⊢; rw [← hb0] at hst; generalize p.names.map cNm = NN at *; generalize p.rungs.map cRg = RR at *
 have hl2 : ¬ (l.length : Int) > 1000 := by omega
 have hlg : ∀ k (hk2 : k < l.length), (l.map fun x => [D.sl none (x.map fun b => [D.v (.bool b)])])[k]? = some [.sl none (l[k].map fun b => [.v (.bool b)])] := fun k hk2 => by simp [hk2]
 have hll : (l.map fun x => [D.sl none (x.map fun b => [D.v (.bool b)])]).length = l.length := by simp
 generalize (l.map fun x => [D.sl none (x.map fun b => [D.v (.bool b)])]) = LL at *
 have hl3 : ¬ (LL.length : Int) > 1000 := by omega
 refine PureC.of_body (tyOf_good _) Tryz.func14 rfl rfl (rs := [.tmp 4, .tmp 5]) Tryz.results14 (by simp [Tryz.ntmps14]) fun X => ?_; simp only [Tryz.ntmps14, List.map]
 have fw := @dNum.eq_1
 refine rgq fw [1,2] [2] ?_; refine AW.imp (Imp.freezeB 2 trivial) ?_; refine AW.st (by simp [dNum]; rfl) ?_; refine AW_then fun K1 hK1 => ?_
 have qf := (Aq fw @hl3)
 refine rgqv [1,2,14] [] ?_; refine AW_cond false (by simp <;> omega) (fun h => by cases h) (fun _ => ?_); refine AW_skip (hK1 _ ?_); refine AW_then fun K2 hK2 => ?_; refine rgc fw hcs [1,2,6] [] ?_; refine rgq fw [1,2,6,19] [] ?_; refine AW_ff rfl ?_; refine AW_skip (hK2 _ ?_); refine rgc fw hst [1,2,7] [7] ?_; refine rgq fw [1,2,7,8] [7] ?_; refine AW_then fun K3 hK3 => ?_; refine rgq fw [2,7,8,23,24,25] [7] ?_; refine AW_for (S := Nat) (fun n => n ≤ l.length) (fun n => ⟨lst [(2, .d (.ip [.sl none NN, .sl none RR])), (7, .ref 7 0 0), (8, .own 800 0 n), (23, .d (.sl none LL)), (24, int LL.length), (25, int n)], hlst [(7, .box 45 [.d (.sl none ((BH n).is.map fun b => [.v (.bool b)])), .d (.sl none ((BH n).ct.map fun n => [.v (.int .i64 n)]))]), (800, .sl 45 2 ((PL.take n).map cSt))]⟩) (fun n => l.length - n) 0 ?_ (by omega) ?_
 ·refine (Imp.adopt 8 800 45 2 rfl rfl).trans ?_; refine Imp.to' (fun _ _ => trivial) (by simp [dNum]) (by simp [dNum])
 ·intro n hn
  have hstn := hstep n
  have hptn := hpt n
  have hPl : ((PL.take n).map cSt).length = n := by simp; omega
  generalize hPT : PL.take n = P at hptn hPl ⊢
  have hPm : (P.map cSt).length = P.length := by simp
  generalize hbn : BH n = bn at hstn ⊢
  obtain ⟨I, C⟩ := bn
  dsimp only at hstn ⊢
  refine rgq fw [2,7,8,23,24,25,26] [7,800] ?_; refine AW_then fun K4 hK4 => ?_; refine AW_cond' (b := n < LL.length) (by simp [D.le, D.le.go, takeMap, dNum]) (fun hc => ?_) (fun hc => ?_)
  ·have hlt : n < l.length := by omega
   have hLg := hlg n hlt
   have hLn : LL[n] = [.sl none (l[n].map fun b => [.v (.bool b)])] := by
    rw [List.getElem?_eq_getElem hc] at hLg; exact Option.some.inj hLg
   have hst2 := hstn hlt
   have hPn := hptn hlt
   generalize hb2 : BH (n + 1) = b2 at hst2 hPn
   obtain ⟨I2, C2⟩ := b2
   generalize l[n].map (fun b => [D.v (.bool b)]) = X at hLn hst2
   dsimp only at hst2
   refine AW_skip (hK4 _ ?_); refine AW_then fun K5 hK5 => ?_; refine AW_block ?_
   have qf := (Aq fw (Aq @hc @hLn))
   refine rgqv [2,7,8,10,23,24,25] [7,800] ?_; refine rgq fw [2,7,8,10,23,24,25] [7,800] ?_; refine AW_then fun K6 hK6 => ?_; refine rgc fw hst2 [2,7,8,11,23,24,25] [7,800] ?_; refine rgq fw [2,7,8,11,23,24,25,37] [7,800] ?_; refine AW_ff rfl ?_; refine AW_skip (hK6 _ ?_); refine AW_re (tyOf_good _) fun K' hK' => ?_; (repeat (refine sxn fun K2 hK2 => ?_; simp [dNum, hPl, List.take_of_length_le]; (repeat (refine ⟨by omega, ?_⟩)); refine hK2 _ ?_; clear hK2 K2)); refine sxz (hK' _ ?_); clear hK' K'; refine hK5 _ (AW.norm [2, 7, 8, 23, 24, 25] [7, 800] (fun _ _ => trivial) (AW.st (by simp [dNum, hPl, List.take_of_length_le]; rfl) ?_)); refine AW_re (tyOf_good _) fun K' hK' => ?_; (repeat (refine sxn fun K2 hK2 => ?_; simp [dNum]; (repeat (refine ⟨by omega, ?_⟩)); refine hK2 _ ?_; clear hK2 K2)); refine sxz (hK' _ ?_); clear hK' K'; (try simp only [thn, inb]); refine Again.mk (n + 1) (by omega) (by omega) ?_; rw [hb2, hPn]; refine Imp.to' (fun _ _ => trivial) (by simp [dNum, cSt, dBl, dIl]) (by simp [dNum, cSt, dBl, dIl])
  ·have hne : n = l.length := by omega
   have hPe : P = PL := by rw [← hPT]; exact List.take_of_length_le (by omega)
   subst hPe; refine AW_exit (hK3 _ ?_); refine AW.imp (Imp.freeze 800 trivial) ?_; refine AW.st (by simp [dNum, hPl, List.take_of_length_le]; rfl) ?_; refine rgq fw [4,5] [7] ?_; refine AW_ret ?_; simp [D.le, D.le.go, takeMap, dNum, cSt, dBl, dIl, D.le_refl, D.leGo_refl]
end Go.Proofs.YthnjfeielmbfkaaGreatDoor
namespace Go.Proofs.YthnjfeielmbfkaaGreatDoor
open Go.Av
def inB (x : Int) (k : Nat) : Bool := bitsI .and .i64 (x.fdiv (2 ^ (min k IntKind.i64.bits))) 1 == 1
def inBs (x : Int) : Nat → List Bool
 | 0 => []
 | k + 1 => inBs x k ++ [inB x k]
theorem inBs_len (x : Int) : ∀ k, (inBs x k).length = k
 | 0 => rfl
 | k + 1 => by rw [inBs, List.length_append, inBs_len x k]; rfl
def inputsF (l : List Int) (m : Nat) : List (List Bool) := l.map fun x => inBs x m
theorem inputsF_len (l : List Int) (m : Nat) : (inputsF l m).length = l.length := by simp [inputsF]
theorem inputsF_each {l : List Int} {m : Nat} : ∀ x ∈ inputsF l m, x.length = m := fun x hx => by
 obtain ⟨y, _, rfl⟩ := List.mem_map.1 hx
 exact inBs_len y m
theorem inputsF_take {l : List Int} {m n : Nat} (h : n < l.length) : (inputsF l m).take (n + 1) = (inputsF l m).take n ++ [inBs l[n] m] := by
 rw [List.take_succ_eq_append_getElem (by rw [inputsF_len]; exact h)]; simp [inputsF]
set_option maxRecDepth 100000 in
set_option maxHeartbeats 8000000 in
theorem kinputs_spec (G : Glob) (l : List Int) (m : Nat) (hl : l.length < 2^40) (hm : m < 2^40) : PureC Tryz.prog G 13 [dIl l, dNum m] (dBls (inputsF l m)) := by
 have hOl := inputsF_len l m
 have hOt := fun n (h : n < l.length) => inputsF_take (m := m) h
 simp only [dIl, dBls, dNum, dBl]; generalize inputsF l m = OUT at *
 have hLl : (l.map fun n => [D.v (.int .i64 n)]).length = l.length := by simp
 have hLg : ∀ n (h : n < l.length), (l.map fun n => [D.v (.int .i64 n)])[n]? = some [.v (.int .i64 l[n])] := fun n h => by simp [h]
 generalize (l.map fun n => [D.v (.int .i64 n)]) = LL at *; refine PureC.of_body (tyOf_good _) Tryz.func13 rfl rfl (rs := [.tmp 4]) Tryz.results13 (by simp [Tryz.ntmps13]) fun X => ?_; simp only [Tryz.ntmps13, List.map]; refine rg0 [0,1] [] ?_; refine rg0 [0,1,5] [] ?_; refine AW_then fun K1 hK1 => ?_; refine rg0 [0,1,5,6] [] ?_; refine AW_for (S := Nat) (fun n => n ≤ l.length) (fun n => ⟨lst [(0, .d (.sl none LL)), (1, int m), (5, .own 900 0 n), (6, int n)], hlst [(900, .sl 39 1 ((OUT.take n).map fun x => [.sl none (x.map fun b => [.v (.bool b)])]))]⟩) (fun n => l.length - n) 0 ?_ (by omega) ?_
 ·refine (Imp.adopt 5 900 39 1 rfl rfl).trans ?_; refine Imp.to' (fun _ _ => trivial) (by simp) (by simp)
 ·intro n hn
  have hOn := hOt n
  have hPl : ((OUT.take n).map fun x => [D.sl none (x.map fun b => [D.v (.bool b)])]).length = n := by simp; omega
  generalize hPT : OUT.take n = P at hOn hPl ⊢; refine AW_then fun K2 hK2 => ?_
  by_cases hlt : n < l.length
  ·have hlt2 : n < LL.length := by omega
   have hOn2 := hOn hlt
   have hLn : LL[n] = [.v (.int .i64 l[n])] := by
    have := hLg n hlt
    rw [List.getElem?_eq_getElem hlt2] at this; exact Option.some.inj this
   generalize l[n] = x at hLn hOn2
   have qf := @hlt2
   refine rgqv [0,1,5,6,12] [900] ?_; refine AW_cond true (by simp [hlt2]) (fun _ => ?_) (fun h => by cases h); refine AW_skip (hK2 _ ?_); refine AW_then fun K3 hK3 => ?_; refine AW_block ?_; refine rg0 [0,1,5,6,7] [900] ?_; refine AW_then fun K4 hK4 => ?_; refine rg0 [0,1,5,6,7,8] [900] ?_; refine AW_for (S := Nat) (fun k => k ≤ m) (fun k => ⟨lst [(0, .d (.sl none LL)), (1, int m), (5, .own 900 0 n), (6, int n), (7, .own 901 0 k), (8, int k)], hlst [(900, .sl 39 1 (P.map fun x => [.sl none (x.map fun b => [.v (.bool b)])])), (901, .sl 4 1 ((inBs x k).map fun b => [.v (.bool b)]))]⟩) (fun k => m - k) 0 ?_ (by omega) ?_
   ·refine (Imp.adopt 7 901 4 1 rfl rfl).trans ?_; refine Imp.to' (fun _ _ => trivial) (by simp [inBs]) (by simp [inBs])
   ·intro k hkm
    have hBl : ((inBs x k).map fun b => [D.v (.bool b)]).length = k := by simp [inBs_len]
    have hBs : inBs x (k + 1) = inBs x k ++ [inB x k] := rfl
    have hinB : (bitsI .and .i64 (x.fdiv (2 ^ (min k IntKind.i64.bits))) 1 == 1) = inB x k := rfl
    generalize hbk : inBs x k = B at hBl hBs ⊢; refine AW_then fun K5 hK5 => ?_; refine rg0 [0,1,5,6,7,8,17] [900,901] ?_; refine AW_cond' (b := k < m) (by simp [D.le, D.le.go, takeMap]) (fun hc => ?_) (fun hc => ?_)
    ·refine AW_skip (hK5 _ ?_); refine AW_then fun K6 hK6 => ?_; refine AW_block ?_; refine AW_re (tyOf_good _) fun K' hK' => ?_; (repeat (refine sxn fun K2 hK2 => ?_; simp [hlt2, hLn, hBl, List.take_of_length_le, shI, hinB]; (repeat (refine ⟨by omega, ?_⟩)); refine hK2 _ ?_; clear hK2 K2)); refine sxz (hK' _ ?_); clear hK' K'; refine hK6 _ (AW.norm [0, 1, 5, 6, 7, 8] [900, 901] (fun _ _ => trivial) (AW.st (by simp [hlt2, hLn, hBl, List.take_of_length_le, shI, hinB]; rfl) ?_)); refine AW_re (tyOf_good _) fun K' hK' => ?_; (repeat (refine sxn fun K2 hK2 => ?_; simp; (repeat (refine ⟨by omega, ?_⟩)); refine hK2 _ ?_; clear hK2 K2)); refine sxz (hK' _ ?_); clear hK' K'; (try simp only [thn, inb]); refine Again.mk (k + 1) (by omega) (by omega) ?_; rw [hBs]; refine Imp.to' (fun _ _ => trivial) (by simp) (by simp)
    ·obtain rfl : k = m := by omega
     refine AW_exit (hK4 _ ?_); rw [hbk] at hOn2; refine AW.imp (Imp.freeze 901 trivial) ?_; refine AW.st (by simp [hBl, List.take_of_length_le]; rfl) ?_; refine AW_re (tyOf_good _) fun K' hK' => ?_; (repeat (refine sxn fun K2 hK2 => ?_; simp [hPl, List.take_of_length_le]; (repeat (refine ⟨by omega, ?_⟩)); refine hK2 _ ?_; clear hK2 K2)); refine sxz (hK' _ ?_); clear hK' K'; refine hK3 _ (AW.norm [0, 1, 5, 6] [900] (fun _ _ => trivial) (AW.st (by simp [hPl, List.take_of_length_le]; rfl) ?_)); refine AW_re (tyOf_good _) fun K' hK' => ?_; (repeat (refine sxn fun K2 hK2 => ?_; simp; (repeat (refine ⟨by omega, ?_⟩)); refine hK2 _ ?_; clear hK2 K2)); refine sxz (hK' _ ?_); clear hK' K'; (try simp only [thn, inb]); refine Again.mk (n + 1) (by omega) (by omega) ?_; rw [hOn2]; refine Imp.to' (fun _ _ => trivial) (by simp) (by simp)
  ·obtain rfl : n = l.length := by omega
   have hlt3 : ¬ (l.length : Int) < (LL.length : Int) := by omega
   have hPe : P = OUT := by rw [← hPT]; exact List.take_of_length_le (by omega)
   subst hPe
   have qf := @hlt3
   refine rgqv [0,1,5,6,12] [900] ?_; refine AW_cond false (by simp <;> omega) (fun h => by cases h) (fun _ => ?_); refine AW_exit (hK1 _ ?_); refine AW.imp (Imp.freeze 900 trivial) ?_; refine AW.st (by simp [hPl, List.take_of_length_le]; rfl) ?_; refine rg0 [4] [] ?_; refine AW_ret ?_; simp [D.le, D.le.go, takeMap, D.le_refl, D.leGo_refl]
def readP (t : Tx) : Option PgP := if 1500 < t.length then none else match parseP t with
 | (none, p) => some p
 | (some _, _) => none
theorem readP_some {t : Tx} {p : PgP} (h : readP t = some p) : parseP t = (none, p) := by
 unfold readP at h
 split at h
 ·cases h
 ·split at h
  ·rename_i q hq
   obtain rfl := Option.some.inj h
   exact hq
  ·cases h
def dRd : Option PgP → D
 | none => .tup [dPg ⟨[], []⟩, .v (.bool false)]
 | some p => .tup [dPg p, .v (.bool true)]
theorem dPg0 : dPg ⟨[], []⟩ = .agg [.sl none [], .sl none []] := rfl
set_option maxHeartbeats 8000000 in
theorem kread_spec (G : Glob) (hM : HasMax G) (hP : HasP10 G) (hG : HasErr G) {es er : Value} (hE : HasNE G es er) (t : Tx) : PureC Tryz.prog G 26 [dS t] (dRd (readP t)) := by
 have hp := lparse_spec G hM hP hG hE t
 unfold readP; simp only [dS] at hp ⊢
 by_cases hl : 1500 < t.length
 ·have hl' : (1500 : Int) < (t.length : Int) := by omega
  rw [if_pos hl]; simp only [dRd, dPg0]; refine PureC.of_body (tyOf_good _) Tryz.func26 rfl rfl (rs := [.cell 2 29, .tmp 3]) Tryz.results26 (by simp [Tryz.ntmps26]) fun X => ?_; simp only [Tryz.ntmps26, List.map]; refine rg0 [0,2] [2] ?_; refine AW_then fun K1 hK1 => ?_
  have qf := (Aq @bs_size @hl')
  refine rgqv [0,2,8] [2] ?_; refine AW_cond true (by simp [hl']) (fun _ => ?_) (fun h => by cases h); refine rg0 [2,3] [2] ?_; refine AW_ret ?_; simp [D.le, D.le.go, takeMap]
 ·have hl' : ¬ (1500 : Int) < (t.length : Int) := by omega
  rw [if_neg hl]
  have key : ∀ (q : PgP) (ev : D) (b : Bool), (b = true ↔ ev = .v .nilIface) → (b = false → ∃ x y, ev = .ifc x y) → PureC Tryz.prog G 40 [.v (.string (bs t))] (.tup [dPg q, ev]) → PureC Tryz.prog G 26 [.v (.string (bs t))] (.tup [dPg q, .v (.bool b)]) := fun q ev b hb1 hb2 hp => by
   simp only [dPg, cPg, dNms, dRgs] at hp ⊢; generalize q.names.map cNm = NN at *; generalize q.rungs.map cRg = RR at *; refine PureC.of_body (tyOf_good _) Tryz.func26 rfl rfl (rs := [.cell 2 29, .tmp 3]) Tryz.results26 (by simp [Tryz.ntmps26]) fun X => ?_; simp only [Tryz.ntmps26, List.map]; refine rg0 [0,2] [2] ?_; refine AW_then fun K1 hK1 => ?_
   have qf := (Aq @bs_size @hl')
   refine rgqv [0,2,8] [2] ?_; refine AW_cond false (by simp <;> omega) (fun h => by cases h) (fun _ => ?_); refine AW_skip (hK1 _ ?_)
   cases b with
   | true =>
    obtain rfl := hb1.1 rfl
    refine rgc trivial hp [2,4,5] [2,4] ?_; refine AW.imp (Imp.freezeB 4 trivial) ?_; refine AW.st (by simp; rfl) ?_; refine rdq trivial [2,3] [2] ?_; refine AW_ret ?_; simp [D.le, D.le.go, takeMap, D.le_refl, D.leGo_refl]
   | false =>
    obtain ⟨x, y, rfl⟩ := hb2 rfl
    refine rgc trivial hp [2,4,5] [2,4] ?_; refine AW.imp (Imp.freezeB 4 trivial) ?_; refine AW.st (by simp; rfl) ?_; refine rdq trivial [2,3] [2] ?_; refine AW_ret ?_; simp [D.le, D.le.go, takeMap, D.le_refl, D.leGo_refl]
  cases hpe : (parseP t).1 with
  | none =>
   obtain ⟨q, hq⟩ : ∃ q, parseP t = (none, q) := ⟨(parseP t).2, by rw [← hpe]⟩
   rw [hq] at hp ⊢; exact key q _ true (by simp [dErr]) (by simp) hp
  | some e =>
   have h2 := parse_err hpe
   have hq : parseP t = (some e, ⟨[], []⟩) := by rw [← hpe, ← h2]
   rw [hq] at hp ⊢
   obtain ⟨c, o⟩ := e
   cases o with
   | none => exact key ⟨[], []⟩ _ false (by simp [dErr]) (fun _ => ⟨_, _, rfl⟩) hp
   | some o => exact key ⟨[], []⟩ _ false (by simp [dErr]) (fun _ => ⟨_, _, rfl⟩) hp
end Go.Proofs.YthnjfeielmbfkaaGreatDoor
namespace Go.Proofs.YthnjfeielmbfkaaGreatDoor
open Go.Av
def fixP2 : PgP := ⟨[⟨[97], 1, 0⟩, ⟨[116], 3, 2⟩], [⟨4, [116], some (.bit [97])⟩]⟩
def fixT2 : Tx := [105, 110, 112, 117, 116, 32, 97, 10, 116, 105, 109, 101, 114, 32, 116, 32, 50, 10, 114, 117, 110, 32, 116, 32, 61, 32, 97, 10]
theorem fix2_text : progT fixP2 = fixT2 := by kernel_rfl
theorem fix2_check : checkP fixP2 = none := by kernel_rfl
theorem fix2_parse : parseP fixT2 = (none, fixP2) := by
 rw [← fix2_text]; refine back_of fix2_check ?_ ?_ (by rw [fix2_text]; decide)
 ·intro r hr
  simp only [fixP2, List.mem_singleton] at hr; subst hr
  have h : (parseM [97]).1 = some (.bit [97]) := by kernel_rfl
  exact ⟨_, rfl, (parse_wf h).1, (parse_wf h).2, parse_b h⟩
 ·intro r hr e he
  simp only [fixP2, List.mem_singleton] at hr; subst hr
  obtain rfl := Option.some.inj he
  decide
theorem fix2_bs : (⟨#[105, 110, 112, 117, 116, 32, 97, 10, 116, 105, 109, 101, 114, 32, 116, 32, 50, 10, 114, 117, 110, 32, 116, 32, 61, 32, 97, 10]⟩ : ByteArray) = bs fixT2 := rfl
theorem fix2_cond : ∀ r ∈ fixP2.rungs, CondOk r := (parse_ok fix2_parse).2
theorem fix2_play : playP fixP2 (startP fixP2) [[true], [true], [false]] = [⟨[true, false], [0, 1]⟩, ⟨[true, true], [0, 2]⟩, ⟨[false, false], [0, 0]⟩] := by kernel_rfl
theorem fix2_in : (inputP fixP2).length = 1 := by kernel_rfl
set_option maxRecDepth 100000 in
set_option maxHeartbeats 8000000 in
theorem scanned_spec (G : Glob) (hM : HasMax G) (hP : HasP10 G) (hG : HasErr G) {es er : Value} (hE : HasNE G es er) : PureC Tryz.prog G 27 [] (.v (.bool true)) := by
 have hp := lparse_spec G hM hP hG hE fixT2
 rw [fix2_parse] at hp
 have hpl := play_good G fixP2 fix2_check fix2_cond [[true], [true], [false]] (by decide) (fun x hx => by
  rw [fix2_in]; simp only [List.mem_cons, List.not_mem_nil, or_false] at hx
  rcases hx with rfl | rfl | rfl <;> rfl)
 rw [fix2_play] at hpl
 have hpg : dPg fixP2 = .agg [.sl none [[.v (.string (bs [97])), .v (.int .i64 1), .v (.int .i64 0)], [.v (.string (bs [116])), .v (.int .i64 3), .v (.int .i64 2)]], .sl none [[.v (.int .i64 4), .v (.string (bs [116])), dE (.bit [97])]]] := rfl
 rw [hpg] at hp hpl; simp only [dErr, dS, dBls, dBl, cSts, cSt, dIl, List.map] at hp hpl
 obtain ⟨ty, cc, hc⟩ := dE_ifc (.bit [97])
 rw [hc] at hp hpl
 have hfb := fix2_bs
 generalize bs fixT2 = FT at *; refine PureC.of_body (tyOf_good _) Tryz.func27 rfl rfl (rs := [.tmp 0]) Tryz.results27 (by simp [Tryz.ntmps27]) fun X => ?_; simp only [Tryz.ntmps27, List.map]; refine rg0 [] [] ?_
 have qf := @hfb
 refine rgcv hp [1,2] [1] ?_; refine AW_then fun K1 hK1 => ?_; refine rg0 [1,9] [1] ?_; refine AW_ff rfl ?_; refine AW_skip (hK1 _ ?_); refine rg [2, 3] [1] (fun _ _ => trivial) fun K' hK' => ?_; (repeat (refine sxn fun K2 hK2 => ?_; simp; (repeat (refine ⟨by omega, ?_⟩)); refine hK2 _ ?_; clear hK2 K2)); refine sxn fun K2 hK2 => ?_; simp; refine callK.frz 15 (by first | rfl | (simp; rfl)) trivial ?_; simp; refine callK.data (hpl) (by simp; rfl) (by first | exact D.leGo_refl _ | simp [takeMap, List.map_map, Function.comp_def, D.le, D.le.go, D.le_refl, D.leGo_refl]) ?_; refine hK2 _ ?_; clear hK2 K2; simp only [putd, upd_lst]; (repeat (refine sxn fun K2 hK2 => ?_; simp; (repeat (refine ⟨by omega, ?_⟩)); refine hK2 _ ?_; clear hK2 K2)); refine sxz (hK' _ (AW.st (by simp; rfl) ?_)); clear hK' K'; refine rg0 [0] [1] ?_; refine AW_ret ?_; simp [D.le, D.le.go, takeMap]
set_option maxRecDepth 100000 in
set_option maxHeartbeats 32000000 in
theorem sbounds_law (G : Glob) (hM : HasMax G) (hP : HasP10 G) (hG : HasErr G) {es er : Value} (hE : HasNE G es er) (t : Tx) (l : List Int) : PureC Tryz.prog G 6 [dS t, dIl l] (.v (.bool true)) := by
 have hrd := kread_spec G hM hP hG hE t
 have hsc := scanned_spec G hM hP hG hE
 simp only [dS, dIl] at hrd ⊢
 have hLl : (l.map fun n => [D.v (.int .i64 n)]).length = l.length := by simp
 cases hre : readP t with
 | none =>
  rw [hre] at hrd; simp only [dRd, dPg0] at hrd; refine PureC.of_body (tyOf_good _) Tryz.func6 rfl rfl (rs := [.tmp 4]) Tryz.results6 (by simp [Tryz.ntmps6]) fun X => ?_; simp only [Tryz.ntmps6, List.map]; refine rg0 [0,1] [] ?_; refine rgc trivial hrd [1,5,6] [5] ?_; refine AW_then fun K1 hK1 => ?_; refine rg0 [1,5,27] [5] ?_; refine AW_tt rfl ?_; refine rg0 [4] [5] ?_; refine AW_ret ?_; simp [D.le, D.le.go, takeMap]
 | some p =>
  rw [hre] at hrd
  obtain ⟨hck, hk⟩ := parse_ok (readP_some hre)
  have hg := checkP_good hck
  have hnm := hg.names
  simp only [dRd, dPg, cPg, dNms, dRgs] at hrd
  by_cases h60 : (l.length : Int) > 60
  ·generalize p.names.map cNm = NN at *; generalize p.rungs.map cRg = RR at *; generalize (l.map fun n => [D.v (.int .i64 n)]) = LL at *
   have h60' : (LL.length : Int) > 60 := by omega
   refine PureC.of_body (tyOf_good _) Tryz.func6 rfl rfl (rs := [.tmp 4]) Tryz.results6 (by simp [Tryz.ntmps6]) fun X => ?_; simp only [Tryz.ntmps6, List.map]; refine rg0 [0,1] [] ?_; refine rgc trivial hrd [1,5,6] [5] ?_; refine AW_then fun K1 hK1 => ?_
   have qf := @h60'
   refine rgqv [1,5,27] [5] ?_; refine AW_cond true (by simp <;> omega) (fun _ => ?_) (fun h => by cases h); refine rg0 [4] [5] ?_; refine AW_ret ?_; simp [D.le, D.le.go, takeMap]
  have hkd := lkind_spec G p (by omega) 1
  have hkI : kindN p.names 1 p.names.length = inputP p := rfl
  rw [hkI] at hkd
  have hiL := kindN_len p.names 1 p.names.length
  rw [hkI] at hiL
  have hin := kinputs_spec G l (inputP p).length (by omega) (by omega)
  have hpl := play_good G p hck hk (inputsF l (inputP p).length) (by rw [inputsF_len]; omega) inputsF_each
  have hPLl := playP_len p (startP p) (inputsF l (inputP p).length)
  have hINl := inputsF_len l (inputP p).length
  have hfact : ∀ i (hi : i < (playP p (startP p) (inputsF l (inputP p).length)).length), InvS p (playP p (startP p) (inputsF l (inputP p).length))[i] ∧ ∀ (h2 : i < (inputsF l (inputP p).length).length) j (hj : j < (inputP p).length), (playP p (startP p) (inputsF l (inputP p).length))[i].is.getD (inputP p)[j].toNat false = (inputsF l (inputP p).length)[i].getD j false := fun i hi => by
   rw [playP_get]
   have hi2 : i < (inputsF l (inputP p).length).length := by rw [← hPLl]; exact hi
   refine ⟨behind_inv hck _ _ (by omega), fun h2 j hj => ?_⟩; rw [behind_succ _ _ hi2]; exact (do_inv hck (behind_inv hck _ i (by omega)) _).2 j hj
  have hineach := inputsF_each (l := l) (m := (inputP p).length)
  have hat : ∀ j (hj : j < (inputP p).length), ∃ q, q < p.names.length ∧ (inputP p)[j] = (q : Int) := fun j hj => by
   obtain ⟨q, hq, he, _⟩ := input_at hj
   exact ⟨q, hq, he⟩
  generalize playP p (startP p) (inputsF l (inputP p).length) = PL at *; generalize inputsF l (inputP p).length = IN at *; clear hkI; generalize inputP p = KI at *; simp only [dPg, cPg, dNms, dRgs, dIl, dBls, cSts, dBl, dNum] at hkd hin hpl
  have hNl : (p.names.map cNm).length = p.names.length := by simp
  have hNg : ∀ i (h : i < p.names.length), (p.names.map cNm)[i]? = some [.v (.string (bs p.names[i].name)), .v (.int .i64 p.names[i].kind), .v (.int .i64 p.names[i].count)] := fun i h => by simp [h, cNm, dS]
  generalize p.names.map cNm = NN at *; generalize p.rungs.map cRg = RR at *
  have hPl : (PL.map cSt).length = l.length := by simp; omega
  have hPg : ∀ i (h : i < PL.length), (PL.map cSt)[i]? = some (cSt PL[i]) := fun i h => by simp [h]
  have hIl : (IN.map fun x => [D.sl none (x.map fun b => [D.v (.bool b)])]).length = l.length := by simp; omega
  have hIg : ∀ i (h : i < IN.length), (IN.map fun x => [D.sl none (x.map fun b => [D.v (.bool b)])])[i]? = some [.sl none (IN[i].map fun b => [.v (.bool b)])] := fun i h => by simp [h]
  generalize PL.map cSt = PD at *; generalize IN.map (fun x => [D.sl none (x.map fun b => [D.v (.bool b)])]) = ID at *; generalize (l.map fun n => [D.v (.int .i64 n)]) = LL at *
  have h60' : ¬ (LL.length : Int) > 60 := by omega
  have hPI : PD.length = ID.length := by omega
  refine PureC.of_body (tyOf_good _) Tryz.func6 rfl rfl (rs := [.tmp 4]) Tryz.results6 (by simp [Tryz.ntmps6]) fun X => ?_; simp only [Tryz.ntmps6, List.map]; refine rg0 [0,1] [] ?_; refine rgc trivial hrd [1,5,6] [5] ?_; refine AW.imp (Imp.freezeB 5 trivial) ?_; refine AW.st (by simp; rfl) ?_; refine AW_then fun K1 hK1 => ?_
  have qf := @h60'
  refine rgqv [1,5,27] [] ?_; refine AW_cond false (by simp <;> omega) (fun h => by cases h) (fun _ => ?_); refine AW_skip (hK1 _ ?_); refine rg [5, 7] [] (fun _ _ => trivial) fun K' hK' => ?_; (repeat (refine sxn fun K2 hK2 => ?_; simp; (repeat (refine ⟨by omega, ?_⟩)); refine hK2 _ ?_; clear hK2 K2)); refine sxn fun K2 hK2 => ?_; simp; refine callK.data (hkd) (by simp; rfl) (by first | exact D.leGo_refl _ | simp [takeMap, List.map_map, Function.comp_def, D.le, D.le.go, D.le_refl, D.leGo_refl]) ?_; refine hK2 _ ?_; clear hK2 K2; simp only [putd, upd_lst]; (repeat (refine sxn fun K2 hK2 => ?_; simp; (repeat (refine ⟨by omega, ?_⟩)); refine hK2 _ ?_; clear hK2 K2)); refine sxn fun K2 hK2 => ?_; simp; refine callK.data (hin) (by simp; rfl) (by first | exact D.leGo_refl _ | simp [takeMap, List.map_map, Function.comp_def, D.le, D.le.go, D.le_refl, D.leGo_refl]) ?_; refine hK2 _ ?_; clear hK2 K2; simp only [putd, upd_lst]; (repeat (refine sxn fun K2 hK2 => ?_; simp; (repeat (refine ⟨by omega, ?_⟩)); refine hK2 _ ?_; clear hK2 K2)); refine sxz (hK' _ (AW.st (by simp; rfl) ?_)); clear hK' K'; refine rgc trivial hpl [5,7,8,9] [] ?_; refine AW_then fun K2 hK2 => ?_
  have qf := @hPI
  refine rgcv hsc [5,7,8,51] [] ?_; refine AW_ff rfl ?_; refine AW_skip (hK2 _ ?_); refine rgc trivial hkd [5,7,8,10] [] ?_; refine AW_then fun K3 hK3 => ?_; refine rg0 [5,7,8,10,11] [] ?_; refine AW_for (S := Nat) (fun i => i ≤ l.length) (fun i => ⟨lst [(5, .d (.ip [.sl none NN, .sl none RR])), (7, .d (.sl none ID)), (8, .d (.sl none PD)), (10, .d (.sl none (KI.map fun x => [.v (.int .i64 x)]))), (11, int i)], hlst []⟩) (fun i => l.length - i) 0 ?_ (by omega) ?_
  ·refine Imp.to' (fun _ _ => trivial) (by simp) (by simp)
  ·intro i hi
   refine AW_then fun K4 hK4 => ?_
   by_cases hlt : i < PD.length
   ·have qf := @hlt
    refine rgqv [5,7,8,10,11,57] [] ?_; refine AW_cond true (by simp [hlt]) (fun _ => ?_) (fun h => by cases h); refine AW_skip (hK4 _ ?_); refine AW_then fun K5 hK5 => ?_; refine AW_block ?_
    have hi2 : i < PL.length := by omega
    have hi3 : i < IN.length := by omega
    have hi4 : i < ID.length := by omega
    obtain ⟨hinv, hput⟩ := hfact i hi2
    have hput := hput hi3
    have hPd : PD[i] = cSt PL[i] := by
     have := hPg i hi2
     rw [List.getElem?_eq_getElem hlt] at this; exact Option.some.inj this
    have hId : ID[i] = [.sl none (IN[i].map fun b => [.v (.bool b)])] := by
     have := hIg i hi3
     rw [List.getElem?_eq_getElem hi4] at this; exact Option.some.inj this
    have hXl := hineach _ (List.getElem_mem hi3)
    generalize PL[i] = s at hinv hput hPd; generalize IN[i] = X at hput hId hXl
    obtain ⟨I, C⟩ := s
    obtain ⟨hIl1, hCl1, hlo, hhi, hatc⟩ := hinv
    dsimp only at hIl1 hCl1 hlo hhi hatc hput
    simp only [cSt, dBl, dIl] at hPd
    have hIN : I.length = NN.length := by omega
    have hCN : C.length = NN.length := by omega
    have qf := (Aq @hlt @hPd)
    refine rgqv [5,7,8,10,11,12] [12] ?_; refine AW.imp (Imp.freezeB 12 trivial) ?_; refine AW.st (by simp; rfl) ?_; refine AW_then fun K6 hK6 => ?_
    have qf := (Aq @hIN @hCN)
    refine rgqv [5,7,8,10,11,12,79] [] ?_; refine AW_ff rfl ?_; refine AW_skip (hK6 _ ?_); refine AW_then fun K7 hK7 => ?_; refine rg0 [5,7,8,10,11,12,13] [] ?_; refine AW_for (S := Nat) (fun k => k ≤ NN.length) (fun k => ⟨lst [(5, .d (.ip [.sl none NN, .sl none RR])), (7, .d (.sl none ID)), (8, .d (.sl none PD)), (10, .d (.sl none (KI.map fun x => [.v (.int .i64 x)]))), (11, int i), (12, .d (.ip [.sl none (I.map fun b => [.v (.bool b)]), .sl none (C.map fun n => [.v (.int .i64 n)])])), (13, int k)], hlst []⟩) (fun k => NN.length - k) 0 ?_ (by omega) ?_
    ·refine Imp.to' (fun _ _ => trivial) (by simp) (by simp)
    ·intro k hkk
     refine AW_then fun K8 hK8 => ?_
     by_cases hkl : k < NN.length
     ·have qf := @hkl
      refine rgqv [5,7,8,10,11,12,13,84] [] ?_; refine AW_cond true (by simp [hkl]) (fun _ => ?_) (fun h => by cases h); refine AW_skip (hK8 _ ?_); refine AW_then fun K9 hK9 => ?_; refine AW_block ?_
      have hk1 : k < I.length := by omega
      have hk2 : k < C.length := by omega
      have hk3 : k < p.names.length := by omega
      have hNk : NN[k] = [.v (.string (bs p.names[k].name)), .v (.int .i64 p.names[k].kind), .v (.int .i64 p.names[k].count)] := by
       have := hNg k hk3
       rw [List.getElem?_eq_getElem hkl] at this; exact Option.some.inj this
      have h1 := hlo k
      have h2 := hhi k hk3
      have h3 := hatc k hk3
      rw [getD_of hk2] at h1 h2 h3; rw [getD_of hk1] at h3; generalize p.names[k].name = nm at hNk; generalize p.names[k].kind = kd at hNk h3; generalize p.names[k].count = m at hNk h2 h3
      have qf := (Aq @hkl @hNk)
      refine rgqv [5,7,8,10,11,12,13,14] [14] ?_; refine AW.imp (Imp.freezeB 14 trivial) ?_; refine AW.st (by simp; rfl) ?_
      have hck2 : (C.map fun n => [D.v (.int .i64 n)])[k]'(by simpa using hk2) = [.v (.int .i64 C[k])] := by simp
      have hik2 : (I.map fun b => [D.v (.bool b)])[k]'(by simpa using hk1) = [.v (.bool I[k])] := by simp
      generalize hcv : C[k] = c at h1 h2 h3; generalize hbv : I[k] = b at h3
      have g1 : ¬ c < 0 := by omega
      have g2 : ¬ c > m := by omega
      by_cases g3 : kd ≥ 3
      ·have h3 := h3 g3
       by_cases g4 : c = m
       ·rw [decide_eq_true g4] at h3; subst h3; subst g4
        have qf := (Aq @hk1 (Aq @hk2 (Aq @hcv (Aq @hbv (Aq @g1 @g3)))))
        refine rdqv [5,7,8,10,11,12,13,128] [] ?_; refine AW_ff rfl ?_; refine AW_skip (hK9 _ ?_); refine AW_re (tyOf_good _) fun K' hK' => ?_; (repeat (refine sxn fun K2 hK2 => ?_; simp; (repeat (refine ⟨by omega, ?_⟩)); refine hK2 _ ?_; clear hK2 K2)); refine sxz (hK' _ ?_); clear hK' K'; (try simp only [thn, inb]); refine Again.mk (k + 1) (by omega) (by omega) ?_; refine Imp.to' (fun _ _ => trivial) (by simp) (by simp)
       ·rw [decide_eq_false g4] at h3; subst h3
        have qf := (Aq @hk1 (Aq @hk2 (Aq @hcv (Aq @hbv (Aq @g1 (Aq @g2 (Aq @g3 @g4)))))))
        refine rdqv [5,7,8,10,11,12,13,128] [] ?_; refine AW_ff rfl ?_; refine AW_skip (hK9 _ ?_); refine AW_re (tyOf_good _) fun K' hK' => ?_; (repeat (refine sxn fun K2 hK2 => ?_; simp; (repeat (refine ⟨by omega, ?_⟩)); refine hK2 _ ?_; clear hK2 K2)); refine sxz (hK' _ ?_); clear hK' K'; (try simp only [thn, inb]); refine Again.mk (k + 1) (by omega) (by omega) ?_; refine Imp.to' (fun _ _ => trivial) (by simp) (by simp)
      ·have qf := (Aq @hk1 (Aq @hk2 (Aq @hcv (Aq @hbv (Aq @g1 (Aq @g2 @g3))))))
       refine rdqv [5,7,8,10,11,12,13,128] [] ?_; refine AW_ff rfl ?_; refine AW_skip (hK9 _ ?_); refine AW_re (tyOf_good _) fun K' hK' => ?_; (repeat (refine sxn fun K2 hK2 => ?_; simp; (repeat (refine ⟨by omega, ?_⟩)); refine hK2 _ ?_; clear hK2 K2)); refine sxz (hK' _ ?_); clear hK' K'; (try simp only [thn, inb]); refine Again.mk (k + 1) (by omega) (by omega) ?_; refine Imp.to' (fun _ _ => trivial) (by simp) (by simp)
     ·have qf := @hkl
      refine rgqv [5,7,8,10,11,12,13,84] [] ?_; refine AW_cond false (by simp <;> omega) (fun h => by cases h) (fun _ => ?_); refine AW_exit (hK7 _ ?_); refine rg0 [5,7,8,10,11,12,15] [] ?_; refine AW_for (S := Nat) (fun j => j ≤ KI.length) (fun j => ⟨lst [(5, .d (.ip [.sl none NN, .sl none RR])), (7, .d (.sl none ID)), (8, .d (.sl none PD)), (10, .d (.sl none (KI.map fun x => [.v (.int .i64 x)]))), (11, int i), (12, .d (.ip [.sl none (I.map fun b => [.v (.bool b)]), .sl none (C.map fun n => [.v (.int .i64 n)])])), (15, int j)], hlst []⟩) (fun j => KI.length - j) 0 ?_ (by omega) ?_
      ·refine Imp.to' (fun _ _ => trivial) (by simp) (by simp)
      ·intro j hjj
       refine AW_then fun K10 hK10 => ?_
       by_cases hjl : j < KI.length
       ·have qf := @hjl
        refine rgqv [5,7,8,10,11,12,15,132] [] ?_; refine AW_cond true (by simp [hjl]) (fun _ => ?_) (fun h => by cases h); refine AW_skip (hK10 _ ?_); refine AW_then fun K11 hK11 => ?_; refine AW_block ?_
        obtain ⟨q, hq, hqe⟩ := hat j hjl
        have hp1 := hput j hjl
        have hq1 : q < I.length := by omega
        have hj1 : j < X.length := by omega
        rw [hqe, Int.toNat_natCast, getD_of hq1, getD_of hj1] at hp1; generalize hbv : I[q] = b at hp1; subst hp1
        cases hb : X[j] with
        | true =>
         rw [hb] at hbv
         have qf := (Aq @hjl (Aq @hqe (Aq @hq1 (Aq @hbv (Aq @hi4 (Aq @hId (Aq @hj1 @hb)))))))
         refine rdqv [5,7,8,10,11,12,15,150] [] ?_; refine AW_ff rfl ?_; refine AW_skip (hK11 _ ?_); refine AW_re (tyOf_good _) fun K' hK' => ?_; (repeat (refine sxn fun K2 hK2 => ?_; simp; (repeat (refine ⟨by omega, ?_⟩)); refine hK2 _ ?_; clear hK2 K2)); refine sxz (hK' _ ?_); clear hK' K'; (try simp only [thn, inb]); refine Again.mk (j + 1) (by omega) (by omega) ?_; refine Imp.to' (fun _ _ => trivial) (by simp) (by simp)
        | false =>
         rw [hb] at hbv
         have qf := (Aq @hjl (Aq @hqe (Aq @hq1 (Aq @hbv (Aq @hi4 (Aq @hId (Aq @hj1 @hb)))))))
         refine rdqv [5,7,8,10,11,12,15,150] [] ?_; refine AW_ff rfl ?_; refine AW_skip (hK11 _ ?_); refine AW_re (tyOf_good _) fun K' hK' => ?_; (repeat (refine sxn fun K2 hK2 => ?_; simp; (repeat (refine ⟨by omega, ?_⟩)); refine hK2 _ ?_; clear hK2 K2)); refine sxz (hK' _ ?_); clear hK' K'; (try simp only [thn, inb]); refine Again.mk (j + 1) (by omega) (by omega) ?_; refine Imp.to' (fun _ _ => trivial) (by simp) (by simp)
       ·have qf := @hjl
        refine rgqv [5,7,8,10,11,12,15,132] [] ?_; refine AW_cond false (by simp <;> omega) (fun h => by cases h) (fun _ => ?_); refine AW_exit (hK5 _ ?_); refine AW_re (tyOf_good _) fun K' hK' => ?_; (repeat (refine sxn fun K2 hK2 => ?_; simp; (repeat (refine ⟨by omega, ?_⟩)); refine hK2 _ ?_; clear hK2 K2)); refine sxz (hK' _ ?_); clear hK' K'; (try simp only [thn, inb]); refine Again.mk (i + 1) (by omega) (by omega) ?_; refine Imp.to' (fun _ _ => trivial) (by simp) (by simp)
   ·have qf := @hlt
    refine rgqv [5,7,8,10,11,57] [] ?_; refine AW_cond false (by simp <;> omega) (fun h => by cases h) (fun _ => ?_); refine AW_exit (hK3 _ ?_); refine rg0 [4] [] ?_; refine AW_ret ?_; simp [D.le, D.le.go, takeMap]
end Go.Proofs.YthnjfeielmbfkaaGreatDoor
namespace Go.Proofs.YthnjfeielmbfkaaGreatDoor
def sg (t : Tab) (k : Nat) : List (List Int) := (List.range t.n).map (sig t (iter t k))
def bn (t : Tab) (k s : Nat) : Nat := dn (sg t k) s
end Go.Proofs.YthnjfeielmbfkaaGreatDoor
namespace Go.Proofs.YthnjfeielmbfkaaGreatDoor
open Go.Av Go.ChangeShapes Go.WideShapes Go.ChangeAt Go.RowKit
theorem law_own : ownKnob Tryz.prog.godebug = none := by kernel_rfl
theorem law_laidOut : laidOutB Tryz.prog = true := by kernel_rfl
theorem cells_int : Tryz.prog.cellsOf 3 = 1 := by kernel_rfl
section
variable {H : Type} {enc : TypeId × Value → H} {w : World} {base : Nat} {spare : Nat → Bool} {held : Bool} {X : Nat → Prop}
theorem reads_ints (hX : ∀ b, ¬ X b) : ReadsAs enc Tryz.prog w base spare held X 25 (fun _ : List Int => True) (fun l => [dRow l]) := by
 intro fuel cs x h
 obtain ⟨l, _, hr⟩ := reads_slice Tryz.underlying25 cells_int (by omega) hX (reads_int Tryz.underlying3) fuel cs x h
 exact ⟨l, trivial, hr⟩
end
end Go.Proofs.YthnjfeielmbfkaaGreatDoor
