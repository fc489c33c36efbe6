/-
  Texts that belong together, in one file: Sh19, SG, JP, RT3, IT, RT7, SB, SB2, SB3, SB4, RT8, LT0, PM2, LT1, LW, LE0, LD, KB, R1.
-/
import Derived.Test.YtjaodmndkpalkaaGreatDoorLb34
import Derived.Test.YtjaodmndkpalkaaGreatDoorProg
import Derived.Ground.Names8Prog
import Derived.Shelf.Spec.SlicesGrow
import Derived.Shelf.Strconv.Itoa3
import Derived.Shelf.Strings.OnBuilder
set_option linter.unusedSimpArgs false
set_option linter.unusedVariables false
namespace Go.Proofs
open Go.Shelf
def Tryz.growI_ren : Go.Shelf.Ren := ⟨fun | 4 => 161 | n => n, fun | 22 => 25 | 25 => 3 | 3 => 3 | 4 => 4 | 9 => 9 | 20 => 20 | 0 => 0 | n => n, fun | n => n⟩
theorem Tryz.growI : Go.Proofs.Lays8.n4 Tryz.prog Tryz.growI_ren := {
 mixed := by kernel_rfl
 f4 := ⟨Tryz.f161.name, by decide, Tryz.func161.trans (congrArg some (by kernel_rfl))⟩
 t0 := Tryz.underlying0
 a0 := Tryz.isAgg0
 z0 := Tryz.sizeOf0
 v0 := Tryz.zeroValue0
 t3 := Tryz.underlying3
 a3 := Tryz.isAgg3
 z3 := Tryz.sizeOf3
 v3 := Tryz.zeroValue3
 t4 := Tryz.underlying4
 a4 := Tryz.isAgg4
 z4 := Tryz.sizeOf4
 v4 := Tryz.zeroValue4
 t9 := Tryz.underlying9
 a9 := Tryz.isAgg9
 z9 := Tryz.sizeOf9
 v9 := Tryz.zeroValue9
 t20 := Tryz.underlying20
 a20 := Tryz.isAgg20
 z20 := Tryz.sizeOf20
 v20 := Tryz.zeroValue20
 t22 := Tryz.underlying25
 a22 := Tryz.isAgg25
 z22 := Tryz.sizeOf25
 v22 := Tryz.zeroValue25 }
end Go.Proofs
namespace Go.Proofs.YtjaodmndkpalkaaGreatDoor
open Go.Av Go.Shelf Go.RowKit
theorem size_grown (n G : Nat) (h : n ≤ G) : (([] : List Value).toArray ++ Builtin.zeroCells (Value.int .i64 0).cells (0 + n - 0) ++ Builtin.zeroCells (Value.int .i64 0).cells (G - (0 + n))).size = G := by
 simp [size_zeroCells, Value.cells]; omega
theorem grow_mc (G : Glob) (n : Nat) (hn : n ≤ 2^40) : MC Tryz.prog G [] 161 [.d (.sl (some false) []), .d (dNum n)] (hlst []) (.own 900 0 0) (hlst [(900, .sl 3 1 [])]) := by
 refine ⟨Fun.of Tryz.func161 rfl rfl, fun X w μ vs hs hgl hsz hv => ?_⟩
 obtain ⟨a, b, rfl⟩ : ∃ a b, vs = #[a, b] := by
  match vs, hsz with
  | ⟨[a, b]⟩, _ => exact ⟨a, b, rfl⟩
 obtain rfl : a = .slice none 0 0 := by
  rcases (hv 0 a _ rfl rfl).data.sl_inv with ⟨rfl, _⟩ | ⟨_, _, _, hk, _⟩
  ·rfl
  ·exact absurd rfl hk
 obtain rfl : b = .int .i64 n := (hv 1 b _ rfl rfl).scalar
 have hL := Tryz.growI
 have hin : In w X G μ ⟨0, [], none⟩ { tmps := #[], defers := [] } ⟨fun _ => none, hlst []⟩ := ⟨hs, ⟨rfl, rfl, fun i x h => by cases h⟩, hgl⟩
 have hH : ∀ row, hup (hlst []) 900 row = hlst [(900, row)] := fun row => by
  funext q
  by_cases h : q = 900
  ·subst h; rfl
  ·have hq : (q == 900) = false := by simpa using h
   simp only [hup, if_neg h, hlst, List.lookup, hq]
 by_cases h0 : n = 0
 ·subst h0; refine (Any8.slices_Grow_room hL none 0 0 0 w (by omega) (by omega) (by omega) (by omega)).mono fun e w' ⟨he, hw⟩ => ?_; subst hw
  obtain ⟨h1, ev⟩ := hin.alloc (Mv := notIn []) (w' := w') (m := ⟨none, 1, 0⟩) (d := 900) rfl (Grew.refl _) (by simp) (row := .sl 3 1 []) fun _ => .nil rfl rfl
  have h2 := h1.sim
  dsimp only at h2
  rw [hH] at h2; exact ⟨_, _, _, _, he, ⟨rfl, rfl⟩, .own (m := ⟨none, 1, 0⟩) (by simp [mup]) (.inl ⟨rfl, rfl, rfl, rfl⟩), h2, ev⟩
 ·obtain ⟨i0, hi, hz0, hz1, hz2⟩ := info_parts (P := Tryz.prog) (e := 3) (z := .int .i64 0) (size := 1) (bytes := 8) (by kernel_rfl)
  refine (Any8.slices_Grow_grow hL i0 (.int .i64 0) hi hz0 (by omega) none 0 0 n [] w (by omega) (by omega) (by rw [hz2]; omega) (by omega) (by simp) (fun _ => rfl) (fun a e => by cases e)).mono fun e w' ⟨he, hw⟩ => ?_
  have hge : n ≤ grownCap w (0 + n) 0 3 := by have := grownCap_ge w (0 + n) 0 3; omega
  have hle : grownCap w (0 + n) 0 3 ≤ maxLen := grownCap_le_maxLen w (0 + n) 0 3 (by unfold maxLen; omega)
  have he : e = .returned (.slice (some ⟨w.heap.size, 0, none⟩) 0 (grownCap w (0 + n) 0 3)) := he
  have hw : w' = w.drew.alloc (.cells (([] : List Value).toArray ++ Builtin.zeroCells (Value.int .i64 0).cells (0 + n - 0) ++ Builtin.zeroCells (Value.int .i64 0).cells (grownCap w (0 + n) 0 3 - (0 + n))) 3) := hw
  have hsz := size_grown n (grownCap w (0 + n) 0 3) hge
  generalize grownCap w (0 + n) 0 3 = C at he hw hge hle hsz; generalize (([] : List Value).toArray ++ Builtin.zeroCells (Value.int .i64 0).cells (0 + n - 0) ++ Builtin.zeroCells (Value.int .i64 0).cells (C - (0 + n))) = Z at hw hsz; subst hw
  have g1 := Grew.drew w
  have g2 := Grew.alloc w.drew (.cells Z 3)
  have hg : Grew w (w.drew.alloc (.cells Z 3)) := ⟨Nat.le_trans g1.size g2.size, g2.os.trans g1.os, g2.tape.trans g1.tape, g2.output.trans g1.output, fun b hb => (g2.same b (Nat.lt_of_lt_of_le hb g1.size)).trans (g1.same b hb)⟩
  have hnew : (w.drew.alloc (.cells Z 3)).heap[w.heap.size]? = some (.cells Z 3 (0, 0)) := heap_alloc_new w.drew _
  obtain ⟨h1, ev⟩ := hin.alloc (Mv := notIn []) (w' := w.drew.alloc (.cells Z 3)) (m := ⟨some w.heap.size, 1, C⟩) (d := 900) rfl hg (by rintro b h; injection h with h; omega) (row := .sl 3 1 []) fun _ =>
   .sl (b := w.heap.size) rfl rfl hnew (by simpa using hsz) (by simp) hle (by simp) (by omega) (by simp)
  have h2 := h1.sim
  dsimp only at h2
  rw [hH] at h2; exact ⟨_, _, _, _, he, ⟨rfl, rfl⟩, .own (m := ⟨some w.heap.size, 1, C⟩) (by simp [mup]) (.inr ⟨_, rfl, by simp, by simp⟩), h2, ev⟩
def dPls (l : List Nat) : List (List D) := l.map fun (n : Nat) => [dNum (n : Int)]
theorem dPls_app (a b : List Nat) : dPls (a ++ b) = dPls a ++ dPls b := by unfold dPls; rw [List.map_append]
def ct3 {α : Type} (a b c : α) : Nat → α
 | 0 => a
 | 1 => b
 | _ => c
set_option maxHeartbeats 4000000 in
theorem concat_spec (G : Glob) (a b : List Nat) (ha : a.length ≤ 2^30) (hb : b.length ≤ 2^30) : PureC Tryz.prog G 99 [.sl none [[.sl none (dPls a)], [.sl none (dPls b)]]] (.sl none (dPls (a ++ b))) := by
 rw [dPls_app]
 have hA1 : (∀ el ∈ dPls a, el.length = 1) = True := eq_true (by simp [dPls])
 have hB1 : (∀ el ∈ dPls b, el.length = 1) = True := eq_true (by simp [dPls])
 have hA2 : (∀ el ∈ dPls a, ∀ c ∈ el, c.one = true) = True := eq_true (by simp [dPls, dNum, D.one])
 have hB2 : (∀ el ∈ dPls b, ∀ c ∈ el, c.one = true) = True := eq_true (by simp [dPls, dNum, D.one])
 have hAl : (dPls a).length ≤ 2^30 := by simpa [dPls] using ha
 have hBl : (dPls b).length ≤ 2^30 := by simpa [dPls] using hb
 generalize dPls a = A at *; generalize dPls b = B at *
 have hgr := grow_mc G (A.length + B.length) (by omega)
 simp only [dNum] at hgr; refine PureC.of_body (tyOf_good _) Tryz.func99 rfl rfl (rs := [.tmp 2]) Tryz.results99 (by simp [Tryz.ntmps99]) fun X => ?_; simp only [Tryz.ntmps99, List.map]
 have fw := @dNum.eq_1
 refine rgq fw [0] [] ?_; refine rgq fw [0,3] [] ?_; refine AW_then fun K1 hK1 => ?_; refine rgq fw [0,3,9,10,11] [] ?_; refine AW_for (S := Nat) (fun n => n ≤ 2) (fun n => ⟨lst [(0, .d (.sl none [[.sl none A], [.sl none B]])), (3, int (ct3 0 (A.length : Int) ((A.length : Int) + B.length) n)), (9, .d (.sl none [[.sl none A], [.sl none B]])), (10, int 2), (11, int n)], hlst []⟩) (fun n => 2 - n) 0 ?_ (by omega) ?_
 ·refine Imp.to' (fun _ _ => trivial) (by simp [dNum, ct3]) (by simp [dNum, ct3])
 ·intro n hn
  rcases (by omega : n = 0 ∨ n = 1 ∨ n = 2) with rfl | rfl | rfl
  ·simp only [ct3]; refine rgq fw [0,3,9,10,11,12] [] ?_; refine AW_then fun K2 hK2 => ?_; refine AW_tt rfl ?_; refine AW_skip (hK2 _ ?_); refine AW_then fun K3 hK3 => ?_; refine AW_block ?_; refine rgq fw [0,3,5,9,10,11] [] ?_; refine rgq fw [0,3,9,10,11] [] ?_; refine rgq fw [0,3,9,10,11,20] [] ?_; refine AW_ff rfl ?_; refine AW_skip (hK3 _ ?_); refine AW_re (tyOf_good _) fun K' hK' => ?_; (repeat (refine sxn fun K2 hK2 => ?_; simp [dNum]; (repeat (refine ⟨by omega, ?_⟩)); refine hK2 _ ?_; clear hK2 K2)); refine sxz (hK' _ ?_); clear hK' K'; (try simp only [thn, inb]); refine Again.mk 1 (by omega) (by omega) ?_; refine Imp.to' (fun _ _ => trivial) (by simp [dNum, ct3]) (by simp [dNum, ct3])
  ·simp only [ct3]; refine rgq fw [0,3,9,10,11,12] [] ?_; refine AW_then fun K2 hK2 => ?_; refine AW_tt rfl ?_; refine AW_skip (hK2 _ ?_); refine AW_then fun K3 hK3 => ?_; refine AW_block ?_; refine rgq fw [0,3,5,9,10,11] [] ?_; refine rgq fw [0,3,9,10,11] [] ?_; refine rgq fw [0,3,9,10,11,20] [] ?_; refine AW_ff rfl ?_; refine AW_skip (hK3 _ ?_); refine AW_re (tyOf_good _) fun K' hK' => ?_; (repeat (refine sxn fun K2 hK2 => ?_; simp [dNum]; (repeat (refine ⟨by omega, ?_⟩)); refine hK2 _ ?_; clear hK2 K2)); refine sxz (hK' _ ?_); clear hK' K'; (try simp only [thn, inb]); refine Again.mk 2 (by omega) (by omega) ?_; refine Imp.to' (fun _ _ => trivial) (by simp [dNum, ct3]) (by simp [dNum, ct3])
  ·simp only [ct3]; refine rgq fw [0,3,9,10,11,12] [] ?_; refine AW_then fun K2 hK2 => ?_; refine AW_ff rfl ?_; refine AW_exit (hK1 _ ?_); refine rgm fw hgr [0,6] [900] ?_; refine AW_then fun K4 hK4 => ?_; refine rgq fw [6,25,26,27] [900] ?_; refine AW_for (S := Nat) (fun n => n ≤ 2) (fun n => ⟨lst [(6, .own 900 0 (ct3 0 A.length (A.length + B.length) n)), (25, .d (.sl none [[.sl none A], [.sl none B]])), (26, int 2), (27, int n)], hlst [(900, .sl 3 1 (ct3 [] A (A ++ B) n))]⟩) (fun n => 2 - n) 0 ?_ (by omega) ?_
   ·refine Imp.to' (fun _ _ => trivial) (by simp [dNum, ct3]) (by simp [dNum, ct3])
   ·intro n hn
    rcases (by omega : n = 0 ∨ n = 1 ∨ n = 2) with rfl | rfl | rfl
    ·simp only [ct3]; refine rgq fw [6,25,26,27,28] [900] ?_; refine AW_then fun K5 hK5 => ?_; refine AW_tt rfl ?_; refine AW_skip (hK5 _ ?_); refine AW_then fun K6 hK6 => ?_; refine AW_block ?_; refine rgq fw [6,8,25,26,27] [900] ?_
     have qf := (Aq fw (Aq @hA1 @hA2))
     refine reKv hK6 [6,25,26,27] [900] ?_; refine AW_re (tyOf_good _) fun K' hK' => ?_; (repeat (refine sxn fun K2 hK2 => ?_; simp [dNum]; (repeat (refine ⟨by omega, ?_⟩)); refine hK2 _ ?_; clear hK2 K2)); refine sxz (hK' _ ?_); clear hK' K'; (try simp only [thn, inb]); refine Again.mk 1 (by omega) (by omega) ?_; refine Imp.to' (fun _ _ => trivial) (by simp [dNum, ct3]) (by simp [dNum, ct3])
    ·simp only [ct3]; refine rgq fw [6,25,26,27,28] [900] ?_; refine AW_then fun K5 hK5 => ?_; refine AW_tt rfl ?_; refine AW_skip (hK5 _ ?_); refine AW_then fun K6 hK6 => ?_; refine AW_block ?_; refine rgq fw [6,8,25,26,27] [900] ?_; refine AW_re (tyOf_good _) fun K' hK' => ?_; (repeat (refine sxn fun K2 hK2 => ?_; simp [dNum, hB1, hB2, List.take_of_length_le]; (repeat (refine ⟨by omega, ?_⟩)); refine hK2 _ ?_; clear hK2 K2)); refine sxz (hK' _ ?_); clear hK' K'; refine hK6 _ (AW.norm [6, 25, 26, 27] [900] (fun _ _ => trivial) (AW.st (by simp [dNum, hB1, hB2, List.take_of_length_le]; rfl) ?_)); refine AW_re (tyOf_good _) fun K' hK' => ?_; (repeat (refine sxn fun K2 hK2 => ?_; simp [dNum]; (repeat (refine ⟨by omega, ?_⟩)); refine hK2 _ ?_; clear hK2 K2)); refine sxz (hK' _ ?_); clear hK' K'; (try simp only [thn, inb]); refine Again.mk 2 (by omega) (by omega) ?_; refine Imp.to' (fun _ _ => trivial) (by simp [dNum, ct3]) (by simp [dNum, ct3])
    ·simp only [ct3]; refine rgq fw [6,25,26,27,28] [900] ?_; refine AW_then fun K5 hK5 => ?_; refine AW_ff rfl ?_; refine AW_exit (hK4 _ ?_); refine AW.imp (Imp.freeze 900 trivial) ?_; refine AW.st (by simp [dNum]; rfl) ?_; refine rgq fw [2] [] ?_; refine AW_ret ?_; simp [D.le, D.le.go, takeMap, dNum, D.le_refl, D.leGo_refl]
end Go.Proofs.YtjaodmndkpalkaaGreatDoor
namespace Go.Proofs.YtjaodmndkpalkaaGreatDoor
open Go.Av
theorem AW0_then {P : Program} {Mv X : Nat → Prop} {G : Glob} {n s : Nat} {x y : Code} {Q : Exit → St → Prop} {σ : St} (h : ∀ K : St → Prop, (∀ σ', AW0 P Mv X G n s y Q σ' → K σ') → ∀ X' ds, AW P Mv X' G ⟨n, ds, none⟩ x (thn K Q) σ) : AW0 P Mv X G n s (.seq x y) Q σ :=
 AW0_seq (AW0_of (h _ fun _ h => h))
theorem AW0_thn {P : Program} {Mv X : Nat → Prop} {G : Glob} {n s : Nat} {x y : Code} {Q : Exit → St → Prop} {σ : St} (h : ∀ K : St → Prop, (∀ σ', AW0 P Mv X G n s y Q σ' → K σ') → AW0 P Mv X G n s x (thn K Q) σ) : AW0 P Mv X G n s (.seq x y) Q σ :=
 AW0_seq (h _ fun _ h => h)
theorem round_assign {P : Program} {Mv X : Nat → Prop} {G : Glob} {N : Fr} {x y : Code} {Q : Exit → St → Prop} {σ : St} (h : ∀ K : St → Prop, (∀ σ', AW P Mv X G N y Q σ' → K σ') → AW P Mv X G N x (thn K (fun _ _ => False)) σ) : AW P Mv X G N x (thn (AW P Mv X G N y Q) (fun _ _ => False)) σ :=
 h _ fun _ h => h
section
variable {P : Program} {X : Nat → Prop} {G : Glob} {n s : Nat} {σ τ τ' : St} {p : Prop}
theorem AW0.norm (l ns : List Nat) {c : Code} {Q : Exit → St → Prop} (h : AW0 P (fun _ => True) X G n s c Q (σ.norm l ns)) : AW0 P (fun _ => True) X G n s c Q σ := AW0.imp (fun X' ds => Imp.norm l ns fun _ _ => trivial) h
theorem AW0.st {c : Code} {Q : Exit → St → Prop} (h : σ = τ) (h' : AW0 P (fun _ => True) X G n s c Q τ) : AW0 P (fun _ => True) X G n s c Q σ := h ▸ h'
theorem rz0 (q : p) (l ns : List Nat) {id : Nat} {ops : Array Oper} {y : Code} {Q : Exit → St → Prop} (k : AW0 P (fun _ => True) X G n s y Q τ')
  (h : p → ∀ (X' : Nat → Prop) (ds : List Deferred) (K' : St → Prop), K' τ → sxf P (tyOf P) (fun _ => True) X' G ⟨n, ds, none⟩ ops K' ops.toList σ := by
   intro q X' ds K' hK'
   repeat (refine sxn fun K2 hK2 => ?_; simp [q]; (repeat (refine ⟨by omega, ?_⟩)); refine hK2 _ ?_; clear hK2 K2)
   exact sxz hK')
  (hn : p → τ.norm l ns = τ' := by intro q; simp [q]; rfl) : AW0 P (fun _ => True) X G n s (.seq (.region id ops false) y) Q σ :=
 AW0_seq (AW0_of fun X' ds => AW_re (tyOf_good _) fun K hK => h q X' ds K (hK _ (AW0.norm l ns (hn q ▸ k))))
theorem rz0m (q : p) {fx : List Nat} {g : FuncId} {xs : List AV} {rows1 rows2 : List (Nat × Row)} {yv : AV} (hc : MC P G fx g xs (hlst rows1) yv (hlst rows2)) (l ns : List Nat) {id : Nat} {ops : Array Oper} {y : Code} {Q : Exit → St → Prop} (k : AW0 P (fun _ => True) X G n s y Q τ')
  (h : p → MC P G fx g xs (hlst rows1) yv (hlst rows2) → ∀ (X' : Nat → Prop) (ds : List Deferred) (K' : St → Prop), K' τ → sxf P (tyOf P) (fun _ => True) X' G ⟨n, ds, none⟩ ops K' ops.toList σ := by
   intro q hc X' ds K' hK'
   (repeat (refine sxn fun K2 hK2 => ?_; simp [q]; (repeat (refine ⟨by omega, ?_⟩)); refine hK2 _ ?_; clear hK2 K2)); refine sxn fun K2 hK2 => ?_; simp [q]; refine callK.mc hc (by simp [q]) (by simp [q]) (by simp [q]) (by simp [q]) ?_; simp [q]; refine hK2 _ ?_; clear hK2 K2; repeat (refine sxn fun K2 hK2 => ?_; simp [q]; (repeat (refine ⟨by omega, ?_⟩)); refine hK2 _ ?_; clear hK2 K2)
   exact sxz hK')
  (hn : p → τ.norm l ns = τ' := by intro q; simp [q]; rfl) : AW0 P (fun _ => True) X G n s (.seq (.region id ops false) y) Q σ :=
 AW0_seq (AW0_of fun X' ds => AW_re (tyOf_good _) fun K hK => h q hc X' ds K (hK _ (AW0.norm l ns (hn q ▸ k))))
end
def nil2 : D := .sl (some false) []
def pHp (NN RR NA RA : List (List D)) (pl : Int) : Heap := hlst [(2, .box 29 [.d nil2, .d nil2]), (3, .box 31 [.d (.v .nilIface)]), (4, .box 29 [.own 801 0 NN.length, .own 802 0 RR.length]), (5, .box 25 [.own 803 0 NA.length]), (6, .box 25 [.own 804 0 RA.length]), (7, .box 3 [int pl]), (801, .sl 65 3 NN), (802, .sl 73 3 RR), (803, .sl 3 1 NA), (804, .sl 3 1 RA)]
theorem dC_one (c : Option Ex) : (dC c).one = true := by
 cases c with
 | none => rfl
 | some e => obtain ⟨a, b, h⟩ := dE_ifc e; rw [dC, h]; rfl
theorem getD_nat (l : List Nat) (i : Nat) (h : i < l.length) : (dPls l)[i]? = some [dNum ((l.getD i 0 : Nat) : Int)] := by
 rw [List.getD_eq_getElem?_getD]; unfold dPls; simp [h]
theorem check_lt {p : PgP} {c : Int} {i : Nat} (h : checkP p = some (c, some i)) : i < p.names.length + p.rungs.length := by
 unfold checkP at h
 split at h
 ·cases h
 ·split at h
  ·rename_i e k hf
   have := firstBad_lt hf
   simp only [Option.some.injEq, Prod.mk.injEq] at h
   omega
  ·split at h
   ·rename_i e k hf
    have := firstBad_lt hf
    simp only [Option.some.injEq, Prod.mk.injEq] at h
    omega
   ·cases h
theorem rungP_bad {k : Int} {nm hd rest : Tx} {c : Int} {off : Nat} (h : rungP k nm hd rest = .bad c off) : off ≤ hd.length + 1 + rest.length := by
 unfold rungP at h
 split at h
 ·rename_i c' o hp
  simp only [LnR.bad.injEq] at h
  cases o with
  | none => simp at h; omega
  | some o =>
   have := parse_at hp
   simp at h; omega
 ·cases h
theorem line_bad {s : Tx} {c : Int} {off : Nat} (h : lineP s = .bad c off) : off ≤ 2 * s.length + 1 := by
 have hle := cutAt_le 61 s
 have nb : ∀ l, nameL l ≠ .bad c off := fun l => by
  match l with
  | [] => simp [nameL]
  | [a] => simp [nameL, nameP]
  | [a, b] => simp only [nameL, nameP]; split <;> simp
  | [a, b, c] => simp only [nameL, nameP]; split <;> (try split) <;> simp
  | a :: b :: c :: d :: l => simp [nameL, nameP]
 unfold lineP at h
 split at h
 ·have h2 : off ≤ (cutAt 61 s).1.length + 1 + (cutAt 61 s).2.length := by
   match hw : wordsT (cutAt 61 s).1, h with
   | [a], h => exact rungP_bad h
   | [a, b], h =>
    simp only [rungL] at h
    split at h
    ·cases h
    ·exact rungP_bad h
  omega
 ·exact absurd h (nb _)
theorem lxq : (⟨#[]⟩ : ByteArray) = bs [] := rfl
theorem lxq32 : (⟨#[32]⟩ : ByteArray) = bs [32] := rfl
set_option maxRecDepth 100000 in
set_option maxHeartbeats 32000000 in
theorem lparse_spec (G : Glob) (hM : HasMax G) (hP : HasP10 G) (hG : HasErr G) {es er : Value} (hE : HasNE G es er) (t : Tx) : PureC Tryz.prog G 38 [dS t] (.tup [dPg (parseP t).2, dErr (parseP t).1]) := by
 refine PureC.of_body0 (tyOf_good _) Tryz.func38 rfl rfl (rs := [.cell 2 29, .cell 3 31]) Tryz.results38 (by simp [Tryz.ntmps38]) fun X s0 => ?_; simp only [Tryz.ntmps38, List.map]
 have fw := (Aq @dNum.eq_1 @dS.eq_1)
 refine rz0 fw [0, 2, 3] [2, 3] ?_; refine AW0_then fun K1 hK1 X' ds => ?_
 by_cases ht : 20000 < t.length
 ·have ht1 : (t.length : Int) > 20000 := by omega
  have hp : parseP t = (some (4, none), ⟨[], []⟩) := by unfold parseP; rw [if_pos ht]
  have qf := (Aq fw (Aq @bs_size @ht1))
  refine rgqv [0,2,3,19] [2,3] ?_; refine AW_cond true (by simp [ht1]) (fun _ => ?_) (fun h => by cases h); refine rgq fw [2,3] [2,3] ?_; refine AW_ret ?_; simp [D.le, D.le.go, takeMap, dNum, dS, hp, dPg, cPg, dNms, dRgs, dErr]
 have ht1 : ¬ (t.length : Int) > 20000 := by omega
 have hseq := splitSeq_mc2 G t
 have qf := (Aq fw (Aq @bs_size @ht1))
 refine rgqv [0,2,3,19] [2,3] ?_; refine AW_cond false (by simp [ht1]) (fun h => by cases h) (fun _ => ?_); refine AW_skip (hK1 _ ?_); refine rz0 fw [0, 2, 3, 4] [2, 3, 4] ?_; refine rz0 fw [0, 2, 3, 4, 5, 6] [2, 3, 4, 5, 6] ?_; refine rz0 fw [0, 2, 3, 4, 5, 6, 7] [2, 3, 4, 5, 6, 7] ?_; refine AW0_thn fun K5 hK5 => ?_; refine AW0.imp (fun X' ds => Imp.adoptCell 4 0 801 65 3 rfl rfl rfl) ?_; refine AW0.st (by simp; rfl) ?_; refine AW0.imp (fun X' ds => Imp.adoptCell 4 1 802 73 3 rfl rfl rfl) ?_; refine AW0.st (by simp; rfl) ?_; refine AW0.imp (fun X' ds => Imp.adoptCell 5 0 803 3 1 rfl rfl rfl) ?_; refine AW0.st (by simp; rfl) ?_; refine AW0.imp (fun X' ds => Imp.adoptCell 6 0 804 3 1 rfl rfl rfl) ?_; refine AW0.st (by simp; rfl) ?_; simp only [seqRows, seqFn, dS, dNum] at hseq; refine rz0m (Aq @lxs10 fw) hseq [2, 3, 4, 5, 6, 7, 23] [2, 3, 4, 5, 6, 7, 511, 512, 513, 801, 802, 803, 804] ?_; refine AW0_block ?_
 obtain ⟨l, hl⟩ : ∃ l, l = cutT 10 t := ⟨_, rfl⟩
 have hllen := cutT_len 10 t
 rw [← hl] at hllen
 obtain ⟨inv, hinvD⟩ : ∃ f : Nat → Heap, f = fun k => match prK l k with
  | .inl _ => hno
  | .inr s => pHp (s.names.map cNm) (s.rungs.map cRg) (dPls s.nAt) (dPls s.rAt) (placeK l k) := ⟨_, rfl⟩
 have hinv : ∀ k s, prK l k = .inr s → inv k = pHp (s.names.map cNm) (s.rungs.map cRg) (dPls s.nAt) (dPls s.rAt) (placeK l k) := fun k s h => by rw [hinvD]; dsimp only; rw [h]
 refine AW0_rangeFunc (l.map fun s => .string (bs s)) [511, 512, 513] [2, 3, 4, 5, 6, 7] (lst [(2, .ref 2 0 0), (3, .ref 3 0 0), (4, .ref 4 0 0), (5, .ref 5 0 0), (6, .ref 6 0 0), (7, .ref 7 0 0)]) inv (fun k => ∃ s, prK l k = .inr s) ⟨prS0, rfl⟩ (gf := 205) (caps := [.ref 512 0 0, .ref 511 0 0, .ref 513 0 0]) (by simp) (Fun.of Tryz.func205 rfl rfl) (by decide) ?hIt ?he1 ?hH (fun _ _ => trivial) ?hfx ?round ?done
 case hIt =>
  intro w X μ lb hs hgl hsz hlr
  rw [hl]; refine seq_iter G hM t (by omega) w X μ lb ?_ hgl hsz ?_
  ·simpa [seqRows, dS, dNum] using hs
  ·intro i u x hu hx
   have h := hlr i u x hu hx
   match i, hx with
   | 0, hx => obtain rfl := Option.some.inj hx; exact h
   | 1, hx => obtain rfl := Option.some.inj hx; exact h
   | 2, hx => obtain rfl := Option.some.inj hx; exact h
 case he1 =>
  intro i x hx
  have h := lst_mem hx
  simp only [List.mem_cons, List.not_mem_nil, or_false, Prod.mk.injEq] at h
  rcases h with ⟨rfl, rfl⟩ | ⟨rfl, rfl⟩ | ⟨rfl, rfl⟩ | ⟨rfl, rfl⟩ | ⟨rfl, rfl⟩ | ⟨rfl, rfl⟩ <;> exact ⟨rfl, _, rfl, rfl⟩
 case hH =>
  rw [hinv 0 prS0 rfl]; simp [pHp, prS0, dPls, placeK_zero, nil2]
  try rfl
 case hfx =>
  intro q h
  simp at h ⊢
  omega
 case done =>
  rintro ⟨s, hs⟩
  rw [List.length_map] at hs ⊢
  have hpe := parseP_end (s := s) (by omega) (hl ▸ hs)
  have hok := prOk_k (t := t) (by omega) (Nat.le_refl _) (hl ▸ hs)
  have hsm := prOk_small hok (by rw [← hl]; omega)
  have hchk := ladderCheck_spec G ⟨s.names, s.rungs⟩ hsm
  rw [hinv _ _ hs]; refine hK5 _ (AW0_of fun X' ds => ?_)
  obtain ⟨hnl, hrl, hnm, _, _⟩ := hok
  rw [← hl] at hnm
  have hplace : ∀ c i, checkP ⟨s.names, s.rungs⟩ = some (c, some i) → i < (s.nAt ++ s.rAt).length := fun c i h => by have := check_lt h; simp at this ⊢; omega
  unfold pHp; refine AW.imp (Imp.freeze 801 trivial) ?_; refine AW.st (by simp [dNum, dS]; rfl) ?_; refine AW.imp (Imp.freeze 802 trivial) ?_; refine AW.st (by simp [dNum, dS]; rfl) ?_; refine AW.imp (Imp.freeze 803 trivial) ?_; refine AW.st (by simp [dNum, dS]; rfl) ?_; refine AW.imp (Imp.freeze 804 trivial) ?_; refine AW.st (by simp [dNum, dS]; rfl) ?_
  have hcc := concat_spec G s.nAt s.rAt (by omega) (by omega)
  have hgd := fun i h => getD_nat (s.nAt ++ s.rAt) i h
  simp only [dPg, cPg, dNms, dRgs] at hchk; generalize hNN : s.names.map cNm = NN at hchk ⊢; generalize hRR : s.rungs.map cRg = RR at hchk ⊢; generalize dPls s.nAt = NA at hcc ⊢; generalize dPls s.rAt = RA at hcc ⊢; generalize dPls (s.nAt ++ s.rAt) = CC at hcc hgd
  cases hck : checkP ⟨s.names, s.rungs⟩ with
  | none =>
   rw [hck] at hchk hpe; simp only [dErr] at hchk; refine rgc fw hchk [2,3,4,5,6,14] [2,3,4,5,6,7] ?_; refine AW_then fun K7 hK7 => ?_; refine rgq (Aq fw (Aq @pairA.eq_1 (Aq @pairA.eq_2 @assertA.eq_1))) [2,3,4,5,6,14,15,16] [2,3,4,5,6,7] ?_; refine rgq fw [2,3,4,5,6,14,15,108] [2,3,4,5,6,7] ?_; refine AW_ff rfl ?_; refine AW_skip (hK7 _ ?_); refine AW_then fun K8 hK8 => ?_; refine rgq fw [2,3,4,14,127] [2,3,4,5,6,7] ?_; refine AW_ff rfl ?_; refine AW_skip (hK8 _ ?_); refine rgq fw [2,3] [2,3,4,5,6,7] ?_; refine AW_ret ?_; simp [D.le, D.le.go, takeMap, dNum, dS, hpe, dPg, cPg, dNms, dRgs, dErr, hNN, hRR, D.le_refl, D.leGo_refl]
  | some ci =>
   obtain ⟨c, i⟩ := ci
   rw [hck] at hchk hpe
   cases i with
   | none =>
    simp only [dErr] at hchk; refine rgc fw hchk [2,3,4,5,6,14] [2,3,4,5,6,7] ?_; refine AW_then fun K7 hK7 => ?_; refine rgq (Aq fw (Aq @pairA.eq_1 (Aq @pairA.eq_2 @assertA.eq_1))) [2,3,4,5,6,14,15,16] [2,3,4,5,6,7] ?_; refine rgq fw [2,3,4,5,6,14,15,108] [2,3,4,5,6,7] ?_; refine AW_ff rfl ?_; refine AW_skip (hK7 _ ?_); refine AW_then fun K8 hK8 => ?_; refine rgq fw [2,3,4,14,127] [2,3,4,5,6,7] ?_; refine AW_tt rfl ?_; refine rgq fw [2,3] [2,3,4,5,6,7] ?_; refine AW_ret ?_; simp [D.le, D.le.go, takeMap, dNum, dS, hpe, dPg, cPg, dNms, dRgs, dErr]
   | some i =>
    have hi := hplace c i hck
    have hgi := hgd i hi
    dsimp only at hpe
    obtain ⟨hil, hgv⟩ := List.getElem?_eq_some_iff.1 hgi
    simp only [dErr] at hchk; simp only [dNum] at hgv; clear hgi; generalize (s.nAt ++ s.rAt).getD i 0 = pl at hgv hpe; refine rgc fw hchk [2,3,4,5,6,14] [2,3,4,5,6,7] ?_; refine AW_then fun K7 hK7 => ?_; refine rgq (Aq fw (Aq @pairA.eq_1 (Aq @pairA.eq_2 @assertA.eq_1))) [2,3,4,5,6,14,15,16] [2,3,4,5,6,7] ?_; refine rgq fw [2,3,4,5,6,14,15,108] [2,3,4,5,6,7] ?_; refine AW_tt rfl ?_; refine AW_rbe (tyOf_good _) (by kernel_rfl) ([6, 15]) (List.range 18) (by kernel_rfl) fun K' hK' => ?_; (repeat (refine sxb_nextO rfl fun K2 hK2 => ?_; simp [dNum, dS, hil, hgv]; (repeat (refine ⟨by omega, ?_⟩)); refine hK2 _ ?_; clear hK2 K2)); refine sxb_nextO rfl fun K2 hK2 => ?_; simp [dNum, dS, hil, hgv]; refine callD.mk (hcc) (by simp; rfl) (by simp; rfl) (by first | exact D.leGo_refl _ | simp [takeMap, List.map_map, Function.comp_def, D.le, D.le.go, D.le_refl, D.leGo_refl, dNum, dS, hil, hgv]) (by simp) ?_; refine hK2 _ ?_; clear hK2 K2; simp only [putd, upd_lst]; (repeat (refine sxb_nextO rfl fun K2 hK2 => ?_; simp [dNum, dS, hil, hgv]; (repeat (refine ⟨by omega, ?_⟩)); refine hK2 _ ?_; clear hK2 K2)); refine sxb_nilO (hK' _ ?_); clear hK' K'; refine hK7 _ (AW.norm [2, 3, 4, 14] [2, 3, 4, 5, 6, 7] (fun _ _ => trivial) (AW.st (by simp [dNum, dS, hil, hgv]; rfl) ?_)); refine AW_then fun K8 hK8 => ?_; refine rgq fw [2,3,4,14,127] [2,3,4,5,6,7] ?_; refine AW_tt rfl ?_; refine rgq fw [2,3] [2,3,4,5,6,7] ?_; refine AW_ret ?_; simp [D.le, D.le.go, takeMap, dNum, dS, hpe, dPg, cPg, dNms, dRgs, dErr]
 case round =>
  rintro X' L k hk ⟨s, hs⟩
  have hk' : k < l.length := by simpa using hk
  obtain ⟨ln, hln⟩ : ∃ ln, ln = l[k] := ⟨_, rfl⟩
  rw [hinv k s hs, show (l.map fun s => Value.string (bs s))[k] = .string (bs ln) by simp [hln]]
  have hpb : placeK l k + ln.length ≤ t.length := by rw [hln]; subst hl; exact piece_le hk'
  have hpl : (placeK l (k + 1) : Int) = (placeK l k : Int) + ((ln.length : Int) + 1) := by rw [placeK_succ hk', ← hln]; omega
  have hok := prOk_k (t := t) (by omega) (Nat.le_of_lt (hl ▸ hk')) (hl ▸ hs)
  have hnx : ∀ s', stepS s (placeK l k) ln = .inr s' → prK l (k + 1) = .inr s' := fun s' h => prK_next hk' hs (hln ▸ h)
  have herr : ∀ c i, stepS s (placeK l k) ln = .inl (c, i) → parseP t = (some (c, some i), ⟨[], []⟩) := fun c i h => parseP_bad (by omega) (hl ▸ prK_err hk' hs (hln ▸ h))
  obtain ⟨hnl, hrl, hnm, _, _⟩ := hok
  have htr := trim1_spec G ln (by omega)
  have htw := trim_words ln
  have hline := fun h => line_spec G hM hP hG hE ln (by omega) h
  generalize hpk : placeK l k = pk at *
  have hN2 : (s.names.map cNm).length = s.names.length := by simp
  have hR2 : (s.rungs.map cRg).length = s.rungs.length := by simp
  have hNA2 : (dPls s.nAt).length = s.names.length := by simp [dPls, hnl]
  have hRA2 : (dPls s.rAt).length = s.rungs.length := by simp [dPls, hrl]
  generalize hNN : s.names.map cNm = NN at *; generalize hRR : s.rungs.map cRg = RR at *; generalize hNA : dPls s.nAt = NA at *; generalize hRA : dPls s.rAt = RA at *; unfold pHp; refine AW.st (by simp; rfl) ?_; refine round_assign fun K7 hK7 => ?_; refine reK fw hK7 [2,3,4,5,6,7,8] [2,3,4,5,6,7,801,802,803,804] ?_; refine AW_block ?_; refine AW_then fun K8 hK8 => ?_; simp only [dS] at htr
  by_cases h0 : wordsT ln = []
  ·have hz := htw.2 h0
   rw [hz] at htr
   have hst : stepS s pk ln = .inr s := by unfold stepS; rw [if_pos h0]
   have hn := hnx _ hst
   refine rg [2, 3, 4, 5, 6, 7, 8, 27] [2, 3, 4, 5, 6, 7, 801, 802, 803, 804] (notIn_ok rfl) fun K' hK' => ?_; (repeat (refine sxn fun K2 hK2 => ?_; simp [dNum, dS, lxq, lxq32, binS, bs_list]; (repeat (refine ⟨by omega, ?_⟩)); refine hK2 _ ?_; clear hK2 K2)); refine sxn fun K2 hK2 => ?_; simp [dNum, dS, lxq, lxq32, binS, bs_list]; refine callK.data (htr) (by simp; rfl) (by first | exact D.leGo_refl _ | simp [takeMap, List.map_map, Function.comp_def, D.le, D.le.go, D.le_refl, D.leGo_refl, dNum, dS, lxq, lxq32, binS, bs_list]) ?_; refine hK2 _ ?_; clear hK2 K2; simp only [putd, upd_lst]; (repeat (refine sxn fun K2 hK2 => ?_; simp [dNum, dS, lxq, lxq32, binS, bs_list]; (repeat (refine ⟨by omega, ?_⟩)); refine hK2 _ ?_; clear hK2 K2)); refine sxz (hK' _ (AW.st (by simp [dNum, dS, lxq, lxq32, binS, bs_list]; rfl) ?_)); clear hK' K'; refine AW_ff rfl ?_; refine AW_skip (hK8 _ ?_); refine AW_re (tyOf_good _) fun K' hK' => ?_; (repeat (refine sxn fun K2 hK2 => ?_; simp [dNum, dS, bs_size]; (repeat (refine ⟨by omega, ?_⟩)); refine hK2 _ ?_; clear hK2 K2)); refine sxz (hK' _ ?_); clear hK' K'; (try simp only [thn, inb]); refine And.intro ⟨s, hn⟩ ?_; rw [hinv _ _ hn, hpl, hNN, hRR, hNA, hRA]; unfold pHp; refine (show Imp _ _ _ _ _ ⟨lst [], hlst _⟩ from ?_); refine Imp.to' (notIn_ok rfl) (by simp [dNum, dS, hpl]) (by simp [dNum, dS, hpl])
  have hz : Lib.trimB ln 32 ≠ [] := fun h => h0 (htw.1 h)
  have hst0 : stepS s pk ln = match lineP ln with
   | .form => .inl (3, pk)
   | .bad c off => .inl (c, pk + off)
   | .name n => if s.rungs = [] then .inr ⟨s.names ++ [n], s.nAt ++ [pk], s.rungs, s.rAt⟩ else .inl (3, pk)
   | .rung r => .inr ⟨s.names, s.nAt, s.rungs ++ [r], s.rAt ++ [pk]⟩ := by unfold stepS; rw [if_neg h0]; cases lineP ln <;> rfl
  have hlp := hline h0
  simp only [dS] at hlp; generalize Lib.trimB ln 32 = tz at htr hz; refine rg [2, 3, 4, 5, 6, 7, 8, 27] [2, 3, 4, 5, 6, 7, 801, 802, 803, 804] (notIn_ok rfl) fun K' hK' => ?_; (repeat (refine sxn fun K2 hK2 => ?_; simp [dNum, dS, lxq, lxq32, binS, bs_list, hz]; (repeat (refine ⟨by omega, ?_⟩)); refine hK2 _ ?_; clear hK2 K2)); refine sxn fun K2 hK2 => ?_; simp [dNum, dS, lxq, lxq32, binS, bs_list, hz]; refine callK.data (htr) (by simp; rfl) (by first | exact D.leGo_refl _ | simp [takeMap, List.map_map, Function.comp_def, D.le, D.le.go, D.le_refl, D.leGo_refl, dNum, dS, lxq, lxq32, binS, bs_list, hz]) ?_; refine hK2 _ ?_; clear hK2 K2; simp only [putd, upd_lst]; (repeat (refine sxn fun K2 hK2 => ?_; simp [dNum, dS, lxq, lxq32, binS, bs_list, hz]; (repeat (refine ⟨by omega, ?_⟩)); refine hK2 _ ?_; clear hK2 K2)); refine sxz (hK' _ (AW.st (by simp [dNum, dS, lxq, lxq32, binS, bs_list, hz]; rfl) ?_)); clear hK' K'; refine AW_cond true (by simp [hz]) (fun _ => ?_) (fun h => by cases h)
  have hlb := fun c off => line_bad (s := ln) (c := c) (off := off)
  cases hlk : lineP ln with
  | form =>
   rw [hlk] at hlp hst0
   dsimp only at hst0
   simp only [dLine] at hlp
   have hp := herr _ _ hst0
   refine rgc fw hlp [2,3,4,5,6,7,8,9,10,11] [2,3,4,5,6,7,801,802,803,804] ?_; refine AW_then fun K9 hK9 => ?_; refine rgq (Aq fw (Aq @pairA.eq_1 (Aq @pairA.eq_2 @assertA.eq_1))) [2,3,4,5,6,7,8,9,10,11,12,13] [2,3,4,5,6,7,801,802,803,804] ?_; refine rgq fw [2,3,4,5,6,7,8,9,10,11,12,39] [2,3,4,5,6,7,801,802,803,804] ?_; refine AW_ff rfl ?_; refine AW_skip (hK9 _ ?_); refine AW_block ?_; refine AW_then fun K10 hK10 => ?_; refine rgq fw [2,3,4,5,6,7,8,9,10,66] [2,3,4,5,6,7,801,802,803,804] ?_; refine AW_tt rfl ?_; refine AW_skip (hK10 _ ?_); refine AW_tt rfl ?_; refine AW_rQ (tyOf_good _) (by kernel_rfl) ([3]) ([(1, 7), (5, 2), (6, 3)]) (List.range 7) [2, 3] [2, 3, 4, 5, 6, 7, 801, 802, 803, 804] (notIn_ok rfl) (by kernel_rfl) fun K' hK' => ?_; (repeat (refine sxQ_nextO rfl fun K2 hK2 => ?_; simp [dNum, dS]; (repeat (refine ⟨by omega, ?_⟩)); refine hK2 _ ?_; clear hK2 K2)); refine sxQ_nilO (hK' _ ?_); refine AW.st (by simp [dNum, dS]; rfl) ?_; clear hK' K'; refine AW_ret (Exists.intro _ (And.intro (Imp.env (by intro i x h; cases h)) ?_)); simp [D.le, D.le.go, takeMap, hp, dPg, cPg, dNms, dRgs, dErr, nil2, dNum]
  | bad c off =>
   rw [hlk] at hlp hst0
   dsimp only at hst0
   simp only [dLine] at hlp
   have hp := herr _ _ hst0
   have ho := hlb c off hlk
   have hcs : ((pk + off : Nat) : Int) = (pk : Int) + (off : Int) := by omega
   refine rgc fw hlp [2,3,4,5,6,7,8,9,10,11] [2,3,4,5,6,7,801,802,803,804] ?_; refine AW_then fun K9 hK9 => ?_; refine rgq (Aq fw (Aq @pairA.eq_1 (Aq @pairA.eq_2 @assertA.eq_1))) [2,3,4,5,6,7,8,9,10,11,12,13] [2,3,4,5,6,7,801,802,803,804] ?_; refine rgq fw [2,3,4,5,6,7,8,9,10,11,12,39] [2,3,4,5,6,7,801,802,803,804] ?_; refine AW_tt rfl ?_; refine AW_rQ (tyOf_good _) (by kernel_rfl) ([12]) ([(4, 999), (5, 7), (9, 999), (14, 2), (15, 3)]) (List.range 16) [2, 3] [2, 3, 4, 5, 6, 7, 801, 802, 803, 804] (notIn_ok rfl) (by kernel_rfl) fun K' hK' => ?_; (repeat (refine sxQ_nextO rfl fun K2 hK2 => ?_; simp [dNum, dS]; (repeat (refine ⟨by omega, ?_⟩)); refine hK2 _ ?_; clear hK2 K2)); refine sxQ_nilO (hK' _ ?_); refine AW.st (by simp [dNum, dS]; rfl) ?_; clear hK' K'; refine AW_ret (Exists.intro _ (And.intro (Imp.env (by intro i x h; cases h)) ?_)); simp [D.le, D.le.go, takeMap, hp, dPg, cPg, dNms, dRgs, dErr, nil2, dNum, hcs]
  | name n =>
   rw [hlk] at hlp hst0
   dsimp only at hst0
   simp only [dLine] at hlp
   have hcn : cNm n = [.v (.string (bs n.name)), .v (.int .i64 n.kind), .v (.int .i64 n.count)] := rfl
   have hNs : (s.names ++ [n]).map cNm = NN ++ [cNm n] := by rw [List.map_append, hNN]; rfl
   have hAs : dPls (s.nAt ++ [pk]) = NA ++ [[.v (.int .i64 pk)]] := by rw [← hNA]; unfold dPls; rw [List.map_append]; rfl
   generalize bs n.name = nm at hcn; generalize n.kind = kd at hcn; generalize n.count = ct at hcn; rw [hcn] at hlp hNs; refine rgc fw hlp [2,3,4,5,6,7,8,9,10,11] [2,3,4,5,6,7,801,802,803,804] ?_; refine AW_then fun K9 hK9 => ?_; refine rgq (Aq fw (Aq @pairA.eq_1 (Aq @pairA.eq_2 @assertA.eq_1))) [2,3,4,5,6,7,8,9,10,11,12,13] [2,3,4,5,6,7,801,802,803,804] ?_; refine rgq fw [2,3,4,5,6,7,8,9,10,11,12,39] [2,3,4,5,6,7,801,802,803,804] ?_; refine AW_ff rfl ?_; refine AW_skip (hK9 _ ?_); refine AW_block ?_; refine AW_then fun K10 hK10 => ?_; refine rgq fw [2,3,4,5,6,7,8,9,10,66] [2,3,4,5,6,7,801,802,803,804] ?_; refine AW_ff rfl ?_
   by_cases hr0 : s.rungs = []
   ·rw [if_pos hr0] at hst0
    have hn := hnx _ hst0
    have hra0 : RA = [] := List.length_eq_zero_iff.1 (by rw [hRA2, hr0]; rfl)
    subst hra0; refine reK fw hK10 [2,3,4,5,6,7,8,9,10,66] [2,3,4,5,6,7,801,802,803,804] ?_; refine AW_ff rfl ?_; refine rgq fw [2,3,4,5,6,7,8,9,10,81] [2,3,4,5,6,7,801,802,803,804] ?_; refine AW_ff rfl ?_; refine AW_rle (tyOf_good _) (by kernel_rfl) ([(6, (801, 59)), (10, (803, 63))]) ([(7, [801]), (8, [801]), (9, [801]), (11, [803])]) ([0, 1, 2, 3, 4, 7, 8, 5, 9, 6, 11, 10, 12, 13]) (by kernel_rfl) fun K' hK' => ?_; (repeat (refine sxl_nextO rfl fun K2 hK2 => ?_; simp [dNum, dS, List.take_of_length_le]; (repeat (refine ⟨by omega, ?_⟩)); refine hK2 _ ?_; clear hK2 K2)); refine sxl_nilO (hK' _ ?_); clear hK' K'; refine hK8 _ (AW.norm [2, 3, 4, 5, 6, 7, 8] [2, 3, 4, 5, 6, 7, 801, 802, 803, 804] (notIn_ok rfl) (AW.st (by simp [dNum, dS, List.take_of_length_le]; rfl) ?_)); refine AW_re (tyOf_good _) fun K' hK' => ?_; (repeat (refine sxn fun K2 hK2 => ?_; simp [dNum, dS, bs_size]; (repeat (refine ⟨by omega, ?_⟩)); refine hK2 _ ?_; clear hK2 K2)); refine sxz (hK' _ ?_); clear hK' K'; (try simp only [thn, inb]); refine And.intro ⟨_, hn⟩ ?_; rw [hinv _ _ hn, hpl]
    dsimp only
    rw [hNs, hAs, hRR, hRA]; unfold pHp; refine (show Imp _ _ _ _ _ ⟨lst [], hlst _⟩ from ?_); refine Imp.to' (notIn_ok rfl) (by simp [dNum, dS, hpl]) (by simp [dNum, dS, hpl])
   ·rw [if_neg hr0] at hst0
    have hp := herr _ _ hst0
    have hra0 : 0 < RA.length := by rw [hRA2]; exact List.length_pos_iff.2 hr0
    have qf := (Aq fw @hra0)
    refine reKv hK10 [2,3,4,5,6,7,8,9,10,66] [2,3,4,5,6,7,801,802,803,804] ?_; refine AW_cond true (by simp [hra0]) (fun _ => ?_) (fun h => by cases h); refine AW_rQ (tyOf_good _) (by kernel_rfl) ([3]) ([(1, 7), (5, 2), (6, 3)]) (List.range 7) [2, 3] [2, 3, 4, 5, 6, 7, 801, 802, 803, 804] (notIn_ok rfl) (by kernel_rfl) fun K' hK' => ?_; (repeat (refine sxQ_nextO rfl fun K2 hK2 => ?_; simp [dNum, dS]; (repeat (refine ⟨by omega, ?_⟩)); refine hK2 _ ?_; clear hK2 K2)); refine sxQ_nilO (hK' _ ?_); refine AW.st (by simp [dNum, dS]; rfl) ?_; clear hK' K'; refine AW_ret (Exists.intro _ (And.intro (Imp.env (by intro i x h; cases h)) ?_)); simp [D.le, D.le.go, takeMap, hp, dPg, cPg, dNms, dRgs, dErr, nil2, dNum]
  | rung r =>
   rw [hlk] at hlp hst0
   dsimp only at hst0
   simp only [dLine] at hlp
   have hn := hnx _ hst0
   have ho1 := dC_one r.cond
   have hcr : cRg r = [.v (.int .i64 r.kind), .v (.string (bs r.name)), dC r.cond] := rfl
   have hRs : (s.rungs ++ [r]).map cRg = RR ++ [cRg r] := by rw [List.map_append, hRR]; rfl
   have hAs : dPls (s.rAt ++ [pk]) = RA ++ [[.v (.int .i64 pk)]] := by rw [← hRA]; unfold dPls; rw [List.map_append]; rfl
   generalize bs r.name = nm at hcr; generalize r.kind = kd at hcr; generalize dC r.cond = dc at hcr ho1; rw [hcr] at hlp hRs; refine rgc fw hlp [2,3,4,5,6,7,8,9,10,11] [2,3,4,5,6,7,801,802,803,804] ?_; refine AW_then fun K9 hK9 => ?_; refine rgq (Aq fw (Aq @pairA.eq_1 (Aq @pairA.eq_2 @assertA.eq_1))) [2,3,4,5,6,7,8,9,10,11,12,13] [2,3,4,5,6,7,801,802,803,804] ?_; refine rgq fw [2,3,4,5,6,7,8,9,10,11,12,39] [2,3,4,5,6,7,801,802,803,804] ?_; refine AW_ff rfl ?_; refine AW_skip (hK9 _ ?_); refine AW_block ?_; refine AW_then fun K10 hK10 => ?_; refine rgq fw [2,3,4,5,6,7,8,9,10,66] [2,3,4,5,6,7,801,802,803,804] ?_; refine AW_ff rfl ?_; refine reK fw hK10 [2,3,4,5,6,7,8,9,10,66] [2,3,4,5,6,7,801,802,803,804] ?_; refine AW_ff rfl ?_; refine rgq fw [2,3,4,5,6,7,8,9,10,81] [2,3,4,5,6,7,801,802,803,804] ?_; refine AW_tt rfl ?_; refine AW_rle (tyOf_good _) (by kernel_rfl) ([(6, (802, 89)), (10, (804, 93))]) ([(7, [802]), (8, [802]), (9, [802]), (11, [804])]) ([0, 1, 2, 3, 4, 7, 8, 5, 9, 6, 11, 10, 12, 13]) (by kernel_rfl) fun K' hK' => ?_; (repeat (refine sxl_nextO rfl fun K2 hK2 => ?_; simp [dNum, dS, List.take_of_length_le, ho1]; (repeat (refine ⟨by omega, ?_⟩)); refine hK2 _ ?_; clear hK2 K2)); refine sxl_nilO (hK' _ ?_); clear hK' K'; refine hK8 _ (AW.norm [2, 3, 4, 5, 6, 7, 8] [2, 3, 4, 5, 6, 7, 801, 802, 803, 804] (notIn_ok rfl) (AW.st (by simp [dNum, dS, List.take_of_length_le, ho1]; rfl) ?_)); refine AW_re (tyOf_good _) fun K' hK' => ?_; (repeat (refine sxn fun K2 hK2 => ?_; simp [dNum, dS, bs_size]; (repeat (refine ⟨by omega, ?_⟩)); refine hK2 _ ?_; clear hK2 K2)); refine sxz (hK' _ ?_); clear hK' K'; (try simp only [thn, inb]); refine And.intro ⟨_, hn⟩ ?_; rw [hinv _ _ hn, hpl]
   dsimp only
   rw [hRs, hAs, hNN, hNA]; unfold pHp; refine (show Imp _ _ _ _ _ ⟨lst [], hlst _⟩ from ?_); refine Imp.to' (notIn_ok rfl) (by simp [dNum, dS, hpl]) (by simp [dNum, dS, hpl])
end Go.Proofs.YtjaodmndkpalkaaGreatDoor
namespace Go.Proofs.YtjaodmndkpalkaaGreatDoor
open Go.Av
def limT (S P : Int) (n : Nat) : Prop := S < 1 ∨ 3 < S ∨ P < 0 ∨ 2 < P ∨ n < 1 ∨ 3 < n
instance (S P : Int) (n : Nat) : Decidable (limT S P n) := inferInstanceAs (Decidable (_ ∨ _))
end Go.Proofs.YtjaodmndkpalkaaGreatDoor
namespace Go.Proofs.YtjaodmndkpalkaaGreatDoor
open Go.Av Go.Shelf
theorem itoa_small (G : Glob) (i : Nat) (hi : i < 100) : PureC Tryz.prog G 59 [dNum i] (dS (Lib.decDigits i)) := by
 refine PureC.of_calls (Fun.of Tryz.func59 rfl rfl) fun X w vs hsz hrd hgl => ?_
 obtain ⟨u, rfl⟩ : ∃ u, vs = #[u] := by
  match vs, hsz with
  | ⟨[u]⟩, _ => exact ⟨u, rfl⟩
 have hu := (hrd 0 u _ rfl rfl).scalar
 subst hu
 have hL : Lays.n171 Tryz.prog Tryz.lays171_ren := { Tryz.lays171 with }
 refine (Any.strconv_Itoa_small hL i hi w).mono fun e w' ⟨he, hw⟩ => ⟨_, he, by rw [hw]; exact Grew.refl _, ?_⟩; exact .v _
end Go.Proofs.YtjaodmndkpalkaaGreatDoor
namespace Go.Proofs.YtjaodmndkpalkaaGreatDoor
open Go.Av
theorem binS_add (a b : List UInt8) : binS .add (bs a) (bs b) = some (a.length + b.length ≤ 9223372036854775807, .string (bs (a ++ b))) := by
 unfold binS; simp only [bs_size, bs_append]
abbrev dig (n : Nat) : List UInt8 := Lib.decDigits n
theorem dig_len {n : Nat} (h : n < 100) : (dig n).length ≤ 2 := by
 have : ∀ k : Fin 100, (Lib.decDigits k.val).length ≤ 2 := by decide +kernel
 exact this ⟨n, h⟩
theorem lx32 : (⟨#[32]⟩ : ByteArray) = bs [32] := rfl
theorem lx10 : (⟨#[10]⟩ : ByteArray) = bs [10] := rfl
theorem itoaI_spec (G : Glob) (i : Int) (h : 0 ≤ i ∧ i < 100) : PureC Tryz.prog G 59 [.v (.int .i64 i)] (.v (.string (bs (dig i.toNat)))) := by
 have := itoa_small G i.toNat (by omega)
 rwa [dNum, Int.toNat_of_nonneg h.1] at this
end Go.Proofs.YtjaodmndkpalkaaGreatDoor
namespace Go.Proofs.YtjaodmndkpalkaaGreatDoor
open Go.Av
def sbB (a : AV) (l : List UInt8) : List (Nat × Row) := [(500, .box 174 [a, .own 501 0 l.length]), (501, .sl 5 1 (l.map fun b => [.v (.int .u8 b.toNat)]))]
def SbA (a : AV) : Prop := a = .d (.v (.pointer none)) ∨ a = .ref 500 0 0
section
variable {X Mv : Nat → Prop} {w w' : World} {μ : Mu} {H : Heap}
theorem sim_write (hs : Sim w X μ H) {r b : Nat} {m : MRow} (hm : μ r = some m) (hb : m.blk = some b) (hz : w'.heap.size = w.heap.size) (ho : w'.os = w.os) (ht : w'.tape = w.tape) (hout : w'.output = w.output)
  (hsame : ∀ k, k ≠ b → w'.heap[k]? = w.heap[k]?) {row : Row} (ok : Ev Mv w μ w' μ → RowOk w' X μ m row) : Sim w' X μ (hup H r row) ∧ Ev Mv w μ w' μ := by
 have ev : Ev Mv w μ w' μ := ⟨by omega, ho, ht, hout, fun k hk hr => ⟨hsame k fun e => hr ⟨r, m, hm, e ▸ hb⟩, hr⟩, fun _ _ h _ => h⟩
 have ok := ok ev
 refine ⟨⟨fun q row' hq => ?_, fun q m' hq => ?_, hs.inj, hs.frame, fun b hb => by have := hs.fits b hb; omega⟩, ev⟩
 ·dsimp only [hup] at hq
  split at hq
  ·rename_i e
   subst e
   obtain rfl := Option.some.inj hq
   exact ⟨m, hm, ok⟩
  ·rename_i e
   obtain ⟨m', hm', ok'⟩ := hs.rows q row' hq
   exact ⟨m', hm', ok'.same ev (fun _ _ h => h) fun k hk => hsame k fun e' => e (hs.inj q r m' m k hm' hm hk (e' ▸ hb))⟩
 ·by_cases e : q = r
  ·exact ⟨row, by simp [hup, e]⟩
  ·obtain ⟨row', hr'⟩ := hs.dom q m' hq
   exact ⟨row', by simp [hup, e, hr']⟩
end
theorem copyCheck_mc (G : Glob) (a : AV) (ha : SbA a) (l : List UInt8) : MC Tryz.prog G [500, 501] 140 [.ref 500 0 0] (hlst (sbB a l)) (.d (.tup [])) (hlst (sbB (.ref 500 0 0) l)) := by
 refine ⟨Fun.of Tryz.func140 rfl rfl, fun X w μ vs hs hgl hsz hv => ?_⟩
 obtain ⟨v, rfl⟩ : ∃ v, vs = #[v] := by
  match vs, hsz with
  | ⟨[v]⟩, _ => exact ⟨v, rfl⟩
 obtain ⟨m, b, hm, hb, rfl⟩ := (hv 0 v _ rfl rfl).ref_inv
 rw [Nat.zero_mul, Nat.zero_add]
 have hL : Lays.n240 Tryz.prog Tryz.lays156_ren := { Tryz.lays156 with }
 obtain ⟨m', hm', ok⟩ := hs.rows 500 (.box 174 [a, .own 501 0 l.length]) rfl
 rw [hm] at hm'
 obtain rfl := Option.some.inj hm'
 cases ok with
 | box hb' hs9 hcap hh hn hr hx =>
  rename_i b' cur
  rw [hb] at hb'
  obtain rfl := Option.some.inj hb'
  have hcs : cur.size = 2 := (hx rfl).symm
  obtain ⟨x0, x1, rfl⟩ : ∃ x0 x1, cur = #[x0, x1] := by
   match cur, hcs with
   | ⟨[x0, x1]⟩, _ => exact ⟨x0, x1, rfl⟩
  have h0 := hr 0 x0 a rfl rfl
  have hbl : b < w.heap.size := hs.blk_lt ⟨500, m, hm, hb⟩
  rcases ha with rfl | rfl
  ·have hc0 : x0 = .pointer none := h0.scalar
   subst hc0; refine (Any.Builder_copyCheck_fresh hL Tryz.Builder_Extra_156.toX72 b w (by rw [Lib.cell_of_heap hh]; rfl) (by simp [World.shape?, hh]; rfl) (Lib.frozen_of_heap hh 0)).mono fun e w' ⟨he, hw⟩ => ?_; subst hw
   have hh' : (w.setCell ⟨b, 0, none⟩ (.pointer (some ⟨b, 0, none⟩))).heap[b]? = some (.cells #[.pointer (some ⟨b, 0, none⟩), x1] 174 (0, 0)) := by
    simp [World.setCell, Array.getElem?_modify, hh]
   obtain ⟨h1, h2⟩ := sim_write (Mv := notIn [500, 501]) (w' := w.setCell ⟨b, 0, none⟩ (.pointer (some ⟨b, 0, none⟩))) hs hm hb (by simp [World.setCell]) rfl rfl rfl (fun k hk => by simp [World.setCell, Array.getElem?_modify, Ne.symm hk]) (row := .box 174 [.ref 500 0 0, .own 501 0 l.length]) fun ev =>
    .box hb rfl hcap hh' (by simp) (hx := fun _ => rfl) fun j u c hu hc => by
     match j, hu, hc with
     | 0, hu, hc =>
      simp at hu hc; subst hu hc
      have := RV.ref (w := w.setCell ⟨b, 0, none⟩ (.pointer (some ⟨b, 0, none⟩))) (X := X) (e := 0) (j := 0) hm hb
      simpa using this
     | 1, hu, hc => exact (hr 1 u c (by simpa using hu) hc).same ev fun _ _ h => h
     | j + 2, hu, hc => simp at hc
   have hH : hup (hlst (sbB (.d (.v (.pointer none))) l)) 500 (.box 174 [.ref 500 0 0, .own 501 0 l.length]) = hlst (sbB (.ref 500 0 0) l) := by
    funext q
    by_cases h : q = 500
    ·subst h; rfl
    ·have hq : (q == 500) = false := by simpa using h
     simp only [hup, if_neg h, sbB, hlst, List.lookup, hq]
   rw [hH] at h1; exact ⟨_, _, _, μ, he, ⟨rfl, rfl⟩, .d (.tup rfl fun j u c hu hc => by simp at hu), h1, h2⟩
  ·obtain ⟨m2, b2, hm2, hb2, hc0⟩ := h0.ref_inv
   rw [hm] at hm2
   obtain rfl := Option.some.inj hm2
   rw [hb] at hb2
   obtain rfl := Option.some.inj hb2
   rw [Nat.zero_mul, Nat.zero_add] at hc0; subst hc0; refine (Any.Builder_copyCheck_used hL Tryz.Builder_Extra_156.toX72 b w (by rw [Lib.cell_of_heap hh]; rfl)).mono fun e w' ⟨he, hw⟩ => ?_; subst hw; exact ⟨_, _, _, μ, he, ⟨rfl, rfl⟩, .d (.tup rfl fun j u c hu hc => by simp at hu), hs, .refl _ _ _⟩
end Go.Proofs.YtjaodmndkpalkaaGreatDoor
namespace Go.Proofs.YtjaodmndkpalkaaGreatDoor
open Go.Av
theorem byteEls_bs (s : List UInt8) : byteEls (bs s) = s.map fun b => [D.v (.int .u8 b.toNat)] := rfl
set_option maxHeartbeats 4000000 in
theorem wstr_mc (G : Glob) (a : AV) (ha : SbA a) (l s : List UInt8) (hn : l.length + s.length ≤ 2^40) : MC Tryz.prog G [500] 79 [.ref 500 0 0, .d (dS s)] (hlst (sbB a l)) (.d (.tup [dNum s.length, .v .nilIface])) (hlst (sbB (.ref 500 0 0) (l ++ s))) := by
 have hcc := copyCheck_mc G a ha l
 simp only [sbB] at hcc ⊢
 have htk : List.take l.length (l.map fun b => [D.v (.int .u8 b.toNat)]) = l.map fun b => [D.v (.int .u8 b.toNat)] := List.take_of_length_le (by simp)
 rcases ha with rfl | rfl
 ·refine MC.of_body (tyOf_good _) Tryz.func79 rfl rfl (rs := [.tmp 4, .tmp 5]) Tryz.results79 (by simp [Tryz.ntmps79]) rfl fun X => ?_; simp only [Tryz.ntmps79]
  have fw := (Aq @dNum.eq_1 @dS.eq_1)
  refine rgq fw [0,1] [500,501] ?_; refine rgm fw hcc [0,1] [500,501] ?_
  have qf := (Aq fw (Aq @byteEls_bs (Aq @bs_size @htk)))
  refine rgqv [1] [500,501] ?_
  have qf := (Aq fw @bs_size)
  refine rgqv [4,5] [500,501] ?_; refine AW_ret ?_; simp [D.le, D.le.go, takeMap, dNum, dS, dNum, D.le_refl]
 ·refine MC.of_body (tyOf_good _) Tryz.func79 rfl rfl (rs := [.tmp 4, .tmp 5]) Tryz.results79 (by simp [Tryz.ntmps79]) rfl fun X => ?_; simp only [Tryz.ntmps79]
  have fw := (Aq @dNum.eq_1 @dS.eq_1)
  refine rgq fw [0,1] [500,501] ?_; refine rgm fw hcc [0,1] [500,501] ?_
  have qf := (Aq fw (Aq @byteEls_bs (Aq @bs_size @htk)))
  refine rgqv [1] [500,501] ?_
  have qf := (Aq fw @bs_size)
  refine rgqv [4,5] [500,501] ?_; refine AW_ret ?_; simp [D.le, D.le.go, takeMap, dNum, dS, dNum, D.le_refl]
end Go.Proofs.YtjaodmndkpalkaaGreatDoor
namespace Go.Proofs.YtjaodmndkpalkaaGreatDoor
open Go.Av Go.Shelf Go.RowKit
section
variable {P : Program} {ρ : Ren}
set_option maxHeartbeats 2000000 in
set_option maxRecDepth 100000 in
theorem str_some (L : Lays.n169 P ρ) (E : Builder.Extra P ρ) (b g cap : Nat) (p : Value) (cur : Array Value) (l : List UInt8) (h0 : l ≠ []) (w : World)
  (hbk : w.heap[b]? = some (.cells #[p, .slice (some ⟨g, 0, none⟩) l.length cap] (ρ.t 72) (0, 0))) (hg : w.heap[g]? = some (.cells cur (ρ.t 5) (0, 0))) (hn : l.length ≤ cap) (hcm : cap ≤ maxLen) (hcs : cur.size = cap)
  (hcell : ∀ (j : Nat) x, l[j]? = some x → cur[j]? = some (.int .u8 x.toNat)) :
  Calls P (ρ.f 169) #[.pointer (some ⟨b, 0, none⟩)] w fun e w' => e = .returned (.string ⟨l.toArray⟩) ∧ w' = w.drew.freeze ⟨g, 0, none⟩ l.length := by
 have hg' : w.drew.heap[g]? = some (.cells cur (ρ.t 5) (0, 0)) := hg
 have c1 : w.drew.cell? ⟨b, 1, none⟩ = some (.slice (some ⟨g, 0, none⟩) l.length cap) := by
  have : w.drew.heap[b]? = some (.cells #[p, .slice (some ⟨g, 0, none⟩) l.length cap] (ρ.t 72) (0, 0)) := hbk
  rw [Lib.cell_of_heap this]; rfl
 have hlp := List.length_pos_iff.2 h0
 have hSD : (Builtin.unsafeSliceData_ #[(ρ.t 37)] (ρ.t 127) #[.slice (some ⟨g, 0, none⟩) l.length cap]).run P w.drew = .ok (.pointer (some ⟨g, 0, none⟩)) w.drew :=
  Lib.run_unsafeSliceData_row _ _ _ _ _ _ (by omega)
 have hUS : (Builtin.unsafeString_ #[(ρ.t 127), (ρ.t 3)] (ρ.t 9) #[.pointer (some ⟨g, 0, none⟩), .int .i64 l.length]).run P w.drew = .ok (.string ⟨l.toArray⟩) (w.drew.freeze ⟨g, 0, none⟩ l.length) := by
  refine Lib.run_unsafeString_row w.drew (ρ.t 127) (ρ.t 3) (ρ.t 9) (ρ.t 5) L.t127 E.cellsByte g cur.size (by simp [World.shape?, hg']) l h0 (by omega) (by unfold maxLen at hcm; omega) fun j x hx => ?_; rw [addr_add, cell_of_row w.drew g _ cur (ρ.t 5) (0, 0) hg']; simpa using hcell j x hx
 have mixed := L.mixed
 have t72 := L.t72; have a72 := L.a72; have z72 := L.z72; have v72 := L.v72; have u72 := run_underlying L.t72
 have t70 := L.t70; have a70 := L.a70; have z70 := L.z70; have v70 := L.v70; have u70 := run_underlying L.t70
 have t37 := L.t37; have a37 := L.a37; have z37 := L.z37; have v37 := L.v37; have u37 := run_underlying L.t37
 have t127 := L.t127; have a127 := L.a127; have z127 := L.z127; have v127 := L.v127; have u127 := run_underlying L.t127
 have t3 := L.t3; have a3 := L.a3; have z3 := L.z3; have v3 := L.v3; have u3 := run_underlying L.t3
 have t9 := L.t9; have a9 := L.a9; have z9 := L.z9; have v9 := L.v9; have u9 := run_underlying L.t9
 have t5 := E.t5; have a5 := E.a5; have z5 := E.z5; have v5 := E.v5; have u5 := run_underlying E.t5
 go_enter L.f169, Body.n169_ntmps ρ
 go_wp2
 go_region_o
 all_goals (go_wp2; go_ret; exact ⟨rfl, rfl⟩)
end
theorem string_mc (G : Glob) (a : AV) (l : List UInt8) : MC Tryz.prog G [] 81 [.ref 500 0 0] (hlst (sbB a l)) (.d (dS l)) hno := by
 refine ⟨Fun.of Tryz.func81 rfl rfl, fun X w μ vs hs hgl hsz hv => ?_⟩
 obtain ⟨v, rfl⟩ : ∃ v, vs = #[v] := by
  match vs, hsz with
  | ⟨[v]⟩, _ => exact ⟨v, rfl⟩
 obtain ⟨m, b, hm, hb, rfl⟩ := (hv 0 v _ rfl rfl).ref_inv
 rw [Nat.zero_mul, Nat.zero_add]
 have hL : Lays.n169 Tryz.prog Tryz.lays156_ren := { Tryz.lays156 with }
 have fin : ∀ w' : World, w.heap.size ≤ w'.heap.size → w'.os = w.os → w'.tape = w.tape → w'.output = w.output → (∀ k, k < w.heap.size → ¬ ran μ k → w'.heap[k]? = w.heap[k]?) →
   Sim w' X (fun _ => none) hno ∧ Ev (notIn []) w μ w' (fun _ => none) := fun w' h1 ho ht hout hk =>
  ⟨Sim.none fun b hb => Nat.lt_of_lt_of_le (hs.fits b hb) h1, ⟨h1, ho, ht, hout, fun k hk' hr => ⟨hk k hk' hr, fun ⟨_, _, h, _⟩ => by cases h⟩, fun q m _ hn => absurd rfl hn⟩⟩
 obtain ⟨m', hm', ok⟩ := hs.rows 500 (.box 174 [a, .own 501 0 l.length]) rfl
 rw [hm] at hm'
 obtain rfl := Option.some.inj hm'
 cases ok with
 | box hb' hs9 hcap hh hn hr hx =>
  rename_i b' cur
  rw [hb] at hb'
  obtain rfl := Option.some.inj hb'
  have hcs : cur.size = 2 := (hx rfl).symm
  obtain ⟨x0, x1, rfl⟩ : ∃ x0 x1, cur = #[x0, x1] := by
   match cur, hcs with
   | ⟨[x0, x1]⟩, _ => exact ⟨x0, x1, rfl⟩
  obtain ⟨m5, hm5, hown⟩ := (hr 1 x1 (.own 501 0 l.length) rfl rfl).own_inv
  obtain ⟨m6, hm6, ok5⟩ := hs.rows 501 (.sl 5 1 (l.map fun b => [.v (.int .u8 b.toNat)])) rfl
  rw [hm5] at hm6
  obtain rfl := Option.some.inj hm6
  rcases hown with ⟨hbk, rfl, _, hl0⟩ | ⟨g, hbk, rfl, hl1⟩
  ·have hl : l = [] := List.eq_nil_of_length_eq_zero hl0
   subst hl; refine (Any.Builder_String_nil hL Tryz.Builder_Extra_156 w.heap.size b x0 w hh).mono fun e w' ⟨he, hbl⟩ => ?_
   obtain ⟨h1, h2⟩ := fin w' hbl.size hbl.os hbl.tape hbl.output fun k hk _ => hbl.block k hk
   exact ⟨_, _, _, _, he, ⟨rfl, rfl⟩, .d (.v _), h1, h2⟩
  ·generalize hels : (l.map fun b => [D.v (.int .u8 b.toNat)]) = els at ok5
   cases ok5 with
   | nil h _ => rw [h] at hbk; cases hbk
   | sl hb5 hs5 hh5 hc5 hn5 hm5' hl5 hz5 hr5 =>
    rename_i g' cur5
    rw [hbk] at hb5
    obtain rfl := Option.some.inj hb5
    rw [hs5, Nat.zero_mul, Nat.sub_zero] at hh
    by_cases h0 : l = []
    ·subst h0
     by_cases hc0 : m5.cap = 0
     ·rw [hc0] at hh; refine (Any.Builder_String_noroom hL Tryz.Builder_Extra_156 w.heap.size b g x0 cur5 w (Nat.le_refl _) hh hh5).mono fun e w' ⟨he, hbl⟩ => ?_
      obtain ⟨h1, h2⟩ := fin w' hbl.size hbl.os hbl.tape hbl.output fun k hk _ => hbl.block k hk
      exact ⟨_, _, _, _, he, ⟨rfl, rfl⟩, .d (.v _), h1, h2⟩
     ·refine (Any.Builder_String_room hL Tryz.Builder_Extra_156 w.heap.size b g m5.cap x0 w hc0 hh).mono fun e w' ⟨he, hbl⟩ => ?_
      obtain ⟨h1, h2⟩ := fin w' hbl.size hbl.os hbl.tape hbl.output fun k hk _ => hbl.block k hk
      exact ⟨_, _, _, _, he, ⟨rfl, rfl⟩, .d (.v _), h1, h2⟩
    ·refine (str_some hL Tryz.Builder_Extra_156 b g m5.cap x0 cur5 l h0 w hh hh5 (by omega) hm5' (by omega) fun j x hx => ?_).mono fun e w' ⟨he, hw⟩ => ?_
     ·obtain ⟨u, hu, hrd⟩ := hr5 j 0 [.v (.int .u8 x.toNat)] _ (by rw [← hels, List.getElem?_map, hx]; rfl) rfl
      rw [Nat.mul_one, Nat.add_zero] at hu; rw [hu, hrd.scalar]
     ·subst hw
      have hsz9 : (w.drew.freeze ⟨g, 0, none⟩ l.length).heap.size = w.drew.heap.size := by simp [World.freeze, h0]
      have hos9 : (w.drew.freeze ⟨g, 0, none⟩ l.length).os = w.os ∧ (w.drew.freeze ⟨g, 0, none⟩ l.length).tape = w.tape ∧ (w.drew.freeze ⟨g, 0, none⟩ l.length).output = w.output := by
       simp only [World.freeze, List.length_eq_zero_iff, h0, if_false]; exact ⟨rfl, rfl, rfl⟩
      obtain ⟨h1, h2⟩ := fin (w.drew.freeze ⟨g, 0, none⟩ l.length) (Nat.le_of_eq hsz9.symm) hos9.1 hos9.2.1 hos9.2.2 fun k hk hr => by
       have hne : k ≠ g := fun e => hr ⟨501, m5, hm5, e ▸ hbk⟩
       have e : (w.drew.freeze ⟨g, 0, none⟩ l.length).heap[k]? = w.drew.heap[k]? := by simp [World.freeze, h0, Array.getElem?_modify, Ne.symm hne]
       exact e
      exact ⟨_, _, _, _, he, ⟨rfl, rfl⟩, .d (.v _), h1, h2⟩
end Go.Proofs.YtjaodmndkpalkaaGreatDoor
namespace Go.Proofs.YtjaodmndkpalkaaGreatDoor
open Go.Av
set_option maxHeartbeats 4000000 in
theorem wbyte_mc (G : Glob) (a : AV) (ha : SbA a) (l : List UInt8) (c : UInt8) (hn : l.length + 1 ≤ 2^40) : MC Tryz.prog G [500] 80 [.ref 500 0 0, .d (.v (.int .u8 c.toNat))] (hlst (sbB a l)) (.d (.v .nilIface)) (hlst (sbB (.ref 500 0 0) (l ++ [c]))) := by
 have hcc := copyCheck_mc G a ha l
 simp only [sbB] at hcc ⊢
 have htk : List.take l.length (l.map fun b => [D.v (.int .u8 b.toNat)]) = l.map fun b => [D.v (.int .u8 b.toNat)] := List.take_of_length_le (by simp)
 rcases ha with rfl | rfl
 ·refine MC.of_body (tyOf_good _) Tryz.func80 rfl rfl (rs := [.tmp 4]) Tryz.results80 (by simp [Tryz.ntmps80]) rfl fun X => ?_; simp only [Tryz.ntmps80]
  have fw := (Aq @dNum.eq_1 @dS.eq_1)
  refine rgq fw [0,1] [500,501] ?_; refine rgm fw hcc [0,1] [500,501] ?_
  have qf := (Aq fw @htk)
  refine rgqv [] [500,501] ?_; refine rgq fw [4] [500,501] ?_; refine AW_ret ?_; simp [D.le, D.le.go, takeMap, dNum, dS, D.le_refl]
 ·refine MC.of_body (tyOf_good _) Tryz.func80 rfl rfl (rs := [.tmp 4]) Tryz.results80 (by simp [Tryz.ntmps80]) rfl fun X => ?_; simp only [Tryz.ntmps80]
  have fw := (Aq @dNum.eq_1 @dS.eq_1)
  refine rgq fw [0,1] [500,501] ?_; refine rgm fw hcc [0,1] [500,501] ?_
  have qf := (Aq fw @htk)
  refine rgqv [] [500,501] ?_; refine rgq fw [4] [500,501] ?_; refine AW_ret ?_; simp [D.le, D.le.go, takeMap, dNum, dS, D.le_refl]
end Go.Proofs.YtjaodmndkpalkaaGreatDoor
namespace Go.Proofs.YtjaodmndkpalkaaGreatDoor
open Go.Av
def txB (l : List UInt8) : List (List D) := l.map fun b => [.v (.int .u8 b.toNat)]
theorem txB_nil : txB [] = [] := rfl
theorem wS (G : Glob) (c s c' : List UInt8) (h : c' = c ++ s) (hn : c.length + s.length ≤ 2^40) : MC Tryz.prog G [500] 79 [.ref 500 0 0, .d (.v (.string (bs s)))] (hlst [(500, .box 174 [.ref 500 0 0, .own 501 0 (c).length]), (501, .sl 5 1 (txB (c)))]) (.d (.tup [dNum s.length, .v .nilIface])) (hlst [(500, .box 174 [.ref 500 0 0, .own 501 0 (c').length]), (501, .sl 5 1 (txB (c')))]) := by
 subst h; exact wstr_mc G (.ref 500 0 0) (.inr rfl) c s hn
theorem wS0 (G : Glob) (s : List UInt8) (hn : s.length ≤ 2^40) : MC Tryz.prog G [500] 79 [.ref 500 0 0, .d (.v (.string (bs s)))] (hlst [(500, .box 174 [.d (.v (.pointer none)), .own 501 0 0]), (501, .sl 5 1 [])]) (.d (.tup [dNum s.length, .v .nilIface])) (hlst [(500, .box 174 [.ref 500 0 0, .own 501 0 (s).length]), (501, .sl 5 1 (txB (s)))]) :=
 wstr_mc G (.d (.v (.pointer none))) (.inl rfl) [] s (by simpa using hn)
theorem wB (G : Glob) (c : List UInt8) (b : UInt8) (c' : List UInt8) (h : c' = c ++ [b]) (hn : c.length + 1 ≤ 2^40) : MC Tryz.prog G [500] 80 [.ref 500 0 0, .d (.v (.int .u8 b.toNat))] (hlst [(500, .box 174 [.ref 500 0 0, .own 501 0 (c).length]), (501, .sl 5 1 (txB (c)))]) (.d (.v .nilIface)) (hlst [(500, .box 174 [.ref 500 0 0, .own 501 0 (c').length]), (501, .sl 5 1 (txB (c')))]) := by
 subst h; exact wbyte_mc G (.ref 500 0 0) (.inr rfl) c b hn
theorem ub10 : (10 : UInt8).toNat = 10 := rfl
end Go.Proofs.YtjaodmndkpalkaaGreatDoor
namespace Go.Proofs.YtjaodmndkpalkaaGreatDoor
open Go.Av
def headN (k : Int) : List UInt8 := if k = 1 then [105, 110, 112, 117, 116, 32] else if k = 2 then [99, 111, 105, 108, 32] else if k = 3 then [116, 105, 109, 101, 114, 32] else [99, 111, 117, 110, 116, 101, 114, 32]
def cntT (n : NmP) : List UInt8 := if 3 ≤ n.kind then 32 :: dig n.count.toNat else []
def nameT (n : NmP) : List UInt8 := headN n.kind ++ n.name ++ cntT n ++ [10]
def namesTx (l : List NmP) : List UInt8 := l.flatMap nameT
def headG (k : Int) : List UInt8 := if k = 1 then [] else if k = 2 then [115, 101, 116, 32] else if k = 3 then [114, 101, 115, 101, 116, 32] else if k = 4 then [114, 117, 110, 32] else if k = 5 then [99, 111, 117, 110, 116, 32] else [122, 101, 114, 111, 32]
def condT (c : Option Ex) : List UInt8 := match c with
 | none => []
 | some e => wrE e 0
def rungT (r : RgP) : List UInt8 := headG r.kind ++ r.name ++ [32, 61, 32] ++ condT r.cond ++ [10]
def rungsTx (l : List RgP) : List UInt8 := l.flatMap rungT
def progT (p : PgP) : List UInt8 := namesTx p.names ++ rungsTx p.rungs
structure TxP (p : PgP) : Prop where
 nm : ∀ n ∈ p.names, (1 ≤ n.kind ∧ n.kind ≤ 4) ∧ (0 ≤ n.count ∧ n.count < 100) ∧ n.name.length ≤ 2^10
 rg : ∀ r ∈ p.rungs, (1 ≤ r.kind ∧ r.kind ≤ 6) ∧ r.name.length ≤ 2^10 ∧ ∃ e, r.cond = some e ∧ bE e ≤ 2^28 ∧ WfE e
 nl : p.names.length ≤ 100
 rl : p.rungs.length ≤ 100
 ne : p.names = [] → p.rungs = []
theorem headN_len (k : Int) : 1 ≤ (headN k).length ∧ (headN k).length ≤ 8 := by
 unfold headN; repeat' split
 all_goals simp
theorem headG_len (k : Int) : (headG k).length ≤ 6 := by
 unfold headG; repeat' split
 all_goals simp
theorem nameT_len {n : NmP} (h : (0 ≤ n.count ∧ n.count < 100) ∧ n.name.length ≤ 2^10) : 1 ≤ (nameT n).length ∧ (nameT n).length ≤ 2^11 := by
 have h1 := headN_len n.kind
 have h2 := dig_len (n := n.count.toNat) (by omega)
 have h3 : (cntT n).length ≤ 3 := by unfold cntT; split <;> simp; omega
 simp only [nameT, List.length_append, List.length_cons, List.length_nil]
 omega
theorem wr0_bd (e : Ex) : (wrE e 0).length ≤ bE e := Nat.le_trans (wr_two e 0).1 (wr_len e)
theorem rungT_len {r : RgP} (h : r.name.length ≤ 2^10 ∧ ∃ e, r.cond = some e ∧ bE e ≤ 2^28 ∧ WfE e) : (rungT r).length ≤ 2^29 := by
 obtain ⟨h1, e, he, hb, _⟩ := h
 have h2 := headG_len r.kind
 have h3 := wr0_bd e
 simp only [rungT, List.length_append, List.length_cons, List.length_nil, he, condT]
 omega
theorem flatT_len {α : Type} {f : α → List UInt8} {m : Nat} : ∀ {l : List α}, (∀ a ∈ l, (f a).length ≤ m) → (l.flatMap f).length ≤ m * l.length
 | [], _ => by simp
 | a :: l, h => by
  have := flatT_len fun a ha => h a (List.mem_cons_of_mem _ ha)
  have := h a (by simp)
  rw [List.flatMap_cons, List.length_append, List.length_cons, Nat.mul_add]; omega
theorem flatT_succ {α : Type} {f : α → List UInt8} {l : List α} {i : Nat} (h : i < l.length) : (l.take (i + 1)).flatMap f = (l.take i).flatMap f ++ f l[i] := by
 rw [List.take_succ_eq_append_getElem h, List.flatMap_append]; simp
theorem take_in {α : Type} {l : List α} {i : Nat} {a : α} (h : a ∈ l.take i) : a ∈ l := List.mem_of_mem_take h
theorem namesTx_len {p : PgP} (h : TxP p) (i : Nat) : (namesTx (p.names.take i)).length ≤ 2^20 := by
 have := flatT_len (f := nameT) (m := 2^11) (l := p.names.take i) fun a ha => (nameT_len (h.nm a (take_in ha)).2).2
 have h2 := h.nl
 rw [List.length_take] at this
 have h3 : 2^11 * min i p.names.length ≤ 2^11 * 100 := Nat.mul_le_mul_left _ (by omega)
 unfold namesTx; omega
theorem rungsTx_len {p : PgP} (h : TxP p) (i : Nat) : (rungsTx (p.rungs.take i)).length ≤ 2^36 := by
 have := flatT_len (f := rungT) (m := 2^29) (l := p.rungs.take i) fun a ha => rungT_len (h.rg a (take_in ha)).2
 have h2 := h.rl
 rw [List.length_take] at this
 have h3 : 2^29 * min i p.rungs.length ≤ 2^29 * 100 := Nat.mul_le_mul_left _ (by omega)
 unfold rungsTx; omega
def heads7 : List D := [.v (.string (bs [])), .v (.string (bs [])), .v (.string (bs [115, 101, 116, 32])), .v (.string (bs [114, 101, 115, 101, 116, 32])), .v (.string (bs [114, 117, 110, 32])), .v (.string (bs [99, 111, 117, 110, 116, 32])), .v (.string (bs [122, 101, 114, 111, 32]))]
def HasHeads (G : Glob) : Prop := G 1 = some (.ip heads7)
def adB (c : List UInt8) : AV := if c = [] then .d (.v (.pointer none)) else .ref 500 0 0
theorem adB_nil : adB [] = .d (.v (.pointer none)) := rfl
theorem adB_ne {c : List UInt8} (h : c ≠ []) : adB c = .ref 500 0 0 := if_neg h
theorem adB_tr (c : List UInt8) (ns : List Nat) (h : ns.contains 500 = true) : AV.tr (onlyO ns) (onlyF ns) (adB c) = adB c := by
 unfold adB; split <;> simp [AV.tr, onlyO, onlyF]; simpa using h
theorem names_ne {p : PgP} (h : TxP p) (hr : p.rungs ≠ []) : namesTx p.names ≠ [] := fun e => by
 cases hn : p.names with
 | nil => exact hr (h.ne hn)
 | cons n l =>
  have h1 := (nameT_len (h.nm n (by rw [hn]; simp)).2).1
  rw [hn, namesTx, List.flatMap_cons] at e
  have := congrArg List.length e
  simp only [List.length_append, List.length_nil] at this
  omega
theorem namesTx_zero : namesTx [] = [] := rfl
theorem rungsTx_zero : rungsTx [] = [] := rfl
theorem aS (G : Glob) (c : List UInt8) : MC Tryz.prog G [] 81 [.ref 500 0 0] (hlst [(500, .box 174 [adB c, .own 501 0 (c).length]), (501, .sl 5 1 (txB (c)))]) (.d (.v (.string (bs c)))) (hlst []) := string_mc G (adB c) c
end Go.Proofs.YtjaodmndkpalkaaGreatDoor
namespace Go.Proofs.YtjaodmndkpalkaaGreatDoor
open Go.Av
theorem name_chars {s : Tx} (h : nameF s = true) : ∀ c ∈ s, c ≠ 10 ∧ c ≠ 32 ∧ c ≠ 61 := by
 unfold nameF at h; simp only [Bool.and_eq_true, decide_eq_true_eq, trim_nil] at h
 obtain ⟨h1, h2, h3, h4, h5, -⟩ := h
 have hs : ∀ c : UInt8, cutL.contains c = true → c ≠ 10 ∧ c ≠ 32 ∧ c ≠ 61 := by
  have h : ∀ n : Fin 256, cutL.contains (UInt8.ofNat n) = true → UInt8.ofNat n ≠ 10 ∧ UInt8.ofNat n ≠ 32 ∧ UInt8.ofNat n ≠ 61 := by decide +kernel
  intro c
  have := h ⟨c.toNat, c.toNat_lt⟩
  simpa using this
 exact fun c hc => hs c (h5 c hc)
theorem joinTail_mem {c : UInt8} {s : Tx} : ∀ {l : List Tx}, c ∈ Lib.joinTail s l → c ∈ s ∨ ∃ x ∈ l, c ∈ x
 | [], h => by simp [Lib.joinTail] at h
 | x :: l, h => by
  simp only [Lib.joinTail, List.map_cons, List.flatten_cons, List.mem_append] at h
  rcases h with (h | h) | h
  ·exact .inl h
  ·exact .inr ⟨x, by simp, h⟩
  ·rcases joinTail_mem (show c ∈ Lib.joinTail s l from h) with h | ⟨y, hy, hc⟩
   ·exact .inl h
   ·exact .inr ⟨y, by simp [hy], hc⟩
theorem join_mem {c : UInt8} : ∀ {l : List Tx} {s : Tx}, c ∈ Lib.join l s → c ∈ s ∨ ∃ x ∈ l, c ∈ x
 | [], s, h => by simp [Lib.join, List.intercalate] at h
 | x :: l, s, h => by
  rw [Lib.join_cons, List.mem_append] at h
  rcases h with h | h
  ·exact .inr ⟨x, by simp, h⟩
  ·rcases joinTail_mem h with h | ⟨y, hy, hc⟩
   ·exact .inl h
   ·exact .inr ⟨y, by simp [hy], hc⟩
theorem wr_line : ∀ (n : Nat) (e : Ex), SizeOf.sizeOf e ≤ n → WfE e → ∀ k, (10 : UInt8) ∉ wrE e k := by
 intro n
 induction n with
 | zero => intro e h; cases e <;> simp at h <;> omega
 | succ n ih =>
  intro e hs hw k hm
  cases e with
  | cst b => cases b <;> simp [wrE] at hm
  | bit s => rw [wrE] at hm; exact (name_chars hw 10 hm).1 rfl
  | rise s =>
   rw [wrE] at hm
   rcases List.mem_cons.1 hm with hm | hm
   ·revert hm; decide
   ·exact (name_chars hw 10 hm).1 rfl
  | fall s =>
   rw [wrE] at hm
   rcases List.mem_cons.1 hm with hm | hm
   ·revert hm; decide
   ·exact (name_chars hw 10 hm).1 rfl
  | not x =>
   rw [wrE] at hm
   rcases List.mem_cons.1 hm with hm | hm
   ·revert hm; decide
   ·exact ih x (by simp at hs; omega) hw 2 hm
  | and l =>
   have hj : ∀ s : Tx, (10 : UInt8) ∉ s → (10 : UInt8) ∉ Lib.join (wrL l 2) s := fun s h1 h => by
    rcases join_mem h with h | ⟨x, hx, hc⟩
    ·exact h1 h
    ·rw [wrL_map] at hx
     obtain ⟨y, hy, rfl⟩ := List.mem_map.1 hx
     have := List.sizeOf_lt_of_mem hy
     exact ih y (by simp at hs; omega) ((WfEs_iff l).1 hw.2 y hy) 2 hc
   rw [wrE] at hm
   have h3 := hj [32, 38, 32] (by decide)
   split at hm
   ·rw [List.mem_append, List.mem_append] at hm
    rcases hm with (hm | hm) | hm
    ·revert hm; decide
    ·exact h3 hm
    ·revert hm; decide
   ·exact h3 hm
  | or l =>
   have hj : ∀ s : Tx, (10 : UInt8) ∉ s → (10 : UInt8) ∉ Lib.join (wrL l 1) s := fun s h1 h => by
    rcases join_mem h with h | ⟨x, hx, hc⟩
    ·exact h1 h
    ·rw [wrL_map] at hx
     obtain ⟨y, hy, rfl⟩ := List.mem_map.1 hx
     have := List.sizeOf_lt_of_mem hy
     exact ih y (by simp at hs; omega) ((WfEs_iff l).1 hw.2 y hy) 1 hc
   rw [wrE] at hm
   have h3 := hj [32, 124, 32] (by decide)
   split at hm
   ·rw [List.mem_append, List.mem_append] at hm
    rcases hm with (hm | hm) | hm
    ·revert hm; decide
    ·exact h3 hm
    ·revert hm; decide
   ·exact h3 hm
theorem parse_blank {e : Ex} (hw : WfE e) (hd : dpI e ≤ 20) (hl : (wrE e 0).length ≤ 1999) : parseM (32 :: wrE e 0) = (some e, none) := by
 generalize ht : (32 : UInt8) :: wrE e 0 = t
 have hlen : t.length = (wrE e 0).length + 1 := by rw [← ht]; rfl
 have hs : Has t 1 (wrE e 0) := fun k hk => by rw [← ht, Nat.add_comm]; rfl
 have k0 : skipB t 0 = 1 := by
  rw [skipB_blank (by rw [← ht]; rfl)]; exact skip_at hs (wr_head e 0 hw)
 have k1 : skipB t (1 + (wrE e 0).length) = t.length := by
  rw [hlen, Nat.add_comm 1]; exact skipB_stop (by rw [List.getElem?_eq_none (by omega)]; simp)
 have hor := or_back (t := t) hw hd 0 (Nat.zero_le _) (by rw [k0]; exact hs) (by rw [k0]; intro c hc; rw [List.getElem?_eq_none (by omega)] at hc; cases hc) (by rw [k0, k1]; simp) (by rw [k0, k1]; simp)
 rw [k0, k1] at hor; unfold parseM; rw [if_neg (by omega), hor]
 dsimp only
 have k2 : skipB t t.length = t.length := skipB_stop (by simp)
 rw [k2, if_neg (by omega)]
theorem words_one {a : Tx} (ha : (32 : UInt8) ∉ a) (h0 : a ≠ []) : wordsT a = [a] := by
 have := wordsGo_skip a [] [] ha
 rw [List.append_nil, List.nil_append] at this; unfold wordsT; rw [this]; simp [wordsGo, h0]
theorem words_cons {a b : Tx} (ha : (32 : UInt8) ∉ a) (h0 : a ≠ []) : wordsT (a ++ 32 :: b) = a :: wordsT b := by
 have := wordsGo_skip a [] (32 :: b) ha
 rw [List.nil_append] at this; unfold wordsT; rw [this]
 conv => lhs; unfold wordsGo
 simp [h0]
theorem words_end {a : Tx} (ha : (32 : UInt8) ∉ a) (h0 : a ≠ []) : wordsT (a ++ [32]) = [a] := by
 rw [words_cons ha h0]; rfl
def kwordN (k : Int) : Tx := if k = 1 then [105, 110, 112, 117, 116] else if k = 2 then [99, 111, 105, 108] else if k = 3 then [116, 105, 109, 101, 114] else [99, 111, 117, 110, 116, 101, 114]
theorem headN_word {k : Int} (h : 1 ≤ k ∧ k ≤ 4) : headN k = kwordN k ++ [32] ∧ (32 : UInt8) ∉ kwordN k ∧ (61 : UInt8) ∉ kwordN k ∧ (10 : UInt8) ∉ kwordN k ∧ kwordN k ≠ [] ∧ ixW kwN (kwordN k) = k := by
 have : k = 1 ∨ k = 2 ∨ k = 3 ∨ k = 4 := by omega
 rcases this with rfl | rfl | rfl | rfl <;> decide +kernel
def kwordR (k : Int) : Tx := if k = 2 then [115, 101, 116] else if k = 3 then [114, 101, 115, 101, 116] else if k = 4 then [114, 117, 110] else if k = 5 then [99, 111, 117, 110, 116] else [122, 101, 114, 111]
theorem headG_word {k : Int} (h : 2 ≤ k ∧ k ≤ 6) : headG k = kwordR k ++ [32] ∧ (32 : UInt8) ∉ kwordR k ∧ (61 : UInt8) ∉ kwordR k ∧ (10 : UInt8) ∉ kwordR k ∧ kwordR k ≠ [] ∧ ixW kwR (kwordR k) = k := by
 have : k = 2 ∨ k = 3 ∨ k = 4 ∨ k = 5 ∨ k = 6 := by omega
 rcases this with rfl | rfl | rfl | rfl | rfl <;> decide +kernel
theorem dig_small {n : Int} (h : 1 ≤ n ∧ n ≤ 7) : numF (dig n.toNat) = some n ∧ (32 : UInt8) ∉ dig n.toNat ∧ (61 : UInt8) ∉ dig n.toNat ∧ (10 : UInt8) ∉ dig n.toNat ∧ dig n.toNat ≠ [] := by
 have : n = 1 ∨ n = 2 ∨ n = 3 ∨ n = 4 ∨ n = 5 ∨ n = 6 ∨ n = 7 := by omega
 rcases this with rfl | rfl | rfl | rfl | rfl | rfl | rfl <;> decide +kernel
def nameB (n : NmP) : Tx := headN n.kind ++ n.name ++ cntT n
def rungB (r : RgP) : Tx := headG r.kind ++ r.name ++ [32, 61, 32] ++ condT r.cond
structure NmOk (n : NmP) : Prop where
 name : nameF n.name = true
 kind : 1 ≤ n.kind ∧ n.kind ≤ 4
 count : (n.kind < 3 ∧ n.count = 0) ∨ (3 ≤ n.kind ∧ 1 ≤ n.count ∧ n.count ≤ 7)
structure RgOk (r : RgP) : Prop where
 name : nameF r.name = true
 kind : 1 ≤ r.kind ∧ r.kind ≤ 6
 cond : ∃ e, r.cond = some e ∧ WfE e ∧ dpI e ≤ 20 ∧ (wrE e 0).length ≤ 1990
theorem nameB_line {n : NmP} (h : NmOk n) : (10 : UInt8) ∉ nameB n ∧ wordsT (nameB n) ≠ [] ∧ lineP (nameB n) = .name n := by
 obtain ⟨hn, hk, hc⟩ := h
 obtain ⟨e1, w1, w2, w3, w4, w5⟩ := headN_word hk
 have hch := name_chars hn
 have hnn := (name_facts hn).1
 have c10 : (10 : UInt8) ∉ n.name := fun hm => (hch 10 hm).1 rfl
 have c32 : (32 : UInt8) ∉ n.name := fun hm => (hch 32 hm).2.1 rfl
 have c61 : (61 : UInt8) ∉ n.name := fun hm => (hch 61 hm).2.2 rfl
 obtain ⟨nm, kd, ct⟩ := n
 dsimp only at *
 have hB : nameB ⟨nm, kd, ct⟩ = kwordN kd ++ 32 :: (nm ++ cntT ⟨nm, kd, ct⟩) := by simp [nameB, e1]
 have h10 : (10 : UInt8) ∉ cntT ⟨nm, kd, ct⟩ ∧ (61 : UInt8) ∉ cntT ⟨nm, kd, ct⟩ := by
  unfold cntT
  rcases hc with ⟨h1, h2⟩ | ⟨h1, h2⟩
  ·rw [if_neg (by dsimp only; omega)]; simp
  ·rw [if_pos (by dsimp only; omega)]
   obtain ⟨_, d2, d3, d4, _⟩ := dig_small h2
   simp [d3, d4]
 have hw : wordsT (nameB ⟨nm, kd, ct⟩) = kwordN kd :: wordsT (nm ++ cntT ⟨nm, kd, ct⟩) := by rw [hB, words_cons w1 w4]
 refine ⟨?_, ?_, ?_⟩
 ·rw [hB]; simp [w3, c10, h10.1]
 ·rw [hw]; simp
 ·unfold lineP; rw [if_neg (by rw [hB]; simp [w2, c61, h10.2]), hw]
  show nameP (ixW kwN (kwordN kd)) _ = _
  rw [w5]
  rcases hc with ⟨h1, rfl⟩ | ⟨h1, h2⟩
  ·have e : cntT ⟨nm, kd, 0⟩ = [] := by unfold cntT; rw [if_neg (by dsimp only; omega)]
   rw [e, List.append_nil, words_one c32 hnn]; rw [nameP, if_pos (by omega)]
  ·have e : cntT ⟨nm, kd, ct⟩ = 32 :: dig ct.toNat := by unfold cntT; rw [if_pos (by dsimp only; omega)]
   obtain ⟨d1, d2, d3, d4, d5⟩ := dig_small h2
   rw [e, words_cons c32 hnn, words_one d2 d5]; rw [nameP, if_pos (by omega), d1]
theorem rungB_line {r : RgP} (h : RgOk r) : (10 : UInt8) ∉ rungB r ∧ wordsT (rungB r) ≠ [] ∧ lineP (rungB r) = .rung r := by
 obtain ⟨hn, hk, e, he, hw, hd, hl⟩ := h
 have hch := name_chars hn
 have hnn := (name_facts hn).1
 have c10 : (10 : UInt8) ∉ r.name := fun hm => (hch 10 hm).1 rfl
 have c32 : (32 : UInt8) ∉ r.name := fun hm => (hch 32 hm).2.1 rfl
 have c61 : (61 : UInt8) ∉ r.name := fun hm => (hch 61 hm).2.2 rfl
 obtain ⟨kd, nm, cd⟩ := r
 dsimp only at *
 subst he
 have hwl := wr_line _ e (Nat.le_refl _) hw 0
 have hpb := parse_blank hw hd (by omega)
 obtain ⟨hd', hhd⟩ : ∃ hd', headG kd ++ nm ++ [32] = hd' := ⟨_, rfl⟩
 have hB : rungB ⟨kd, nm, some e⟩ = hd' ++ 61 :: (32 :: wrE e 0) := by rw [← hhd]; simp [rungB, condT]
 have hG : (10 : UInt8) ∉ headG kd ∧ (61 : UInt8) ∉ headG kd := by
  by_cases h1 : kd = 1
  ·subst h1; decide
  ·obtain ⟨g1, g2, g3, g4, _⟩ := headG_word (k := kd) (by omega)
   rw [g1]; simp [g3, g4]
 have h61 : (61 : UInt8) ∉ hd' := by rw [← hhd]; simp [hG.2, c61]
 have hwd : wordsT hd' ≠ [] ∧ ∀ rest, parseM rest = (some e, none) → rungL hd' rest (wordsT hd') = .rung ⟨kd, nm, some e⟩ := by
  by_cases h1 : kd = 1
  ·subst h1
   have : hd' = nm ++ [32] := by rw [← hhd]; rfl
   rw [this, words_end c32 hnn]; refine ⟨by simp, fun rest hr => ?_⟩; rw [rungL, rungP, hr]
  ·obtain ⟨g1, g2, g3, g4, g5, g6⟩ := headG_word (k := kd) (by omega)
   have : hd' = kwordR kd ++ 32 :: (nm ++ [32]) := by rw [← hhd, g1]; simp
   rw [this, words_cons g2 g5, words_end c32 hnn]; refine ⟨by simp, fun rest hr => ?_⟩; rw [rungL, g6, if_neg (by omega), rungP, hr]
 refine ⟨?_, ?_, ?_⟩
 ·rw [hB, ← hhd]; simp [hG.1, c10, hwl]
 ·intro h0
  rw [wordsT_nil] at h0
  have := h0 61 (by rw [hB]; simp)
  revert this; decide
 ·unfold lineP; rw [if_pos (by rw [hB]; simp), hB, cutAt_some h61]; exact hwd.2 _ hpb
theorem cut_lines : ∀ (l : List Tx), (∀ s ∈ l, (10 : UInt8) ∉ s) → cutT 10 (l.flatMap fun s => s ++ [10]) = l ++ [[]]
 | [], _ => rfl
 | s :: l, h => by
  rw [List.flatMap_cons, List.append_assoc]
  show cutT 10 (s ++ 10 :: (l.flatMap fun s => s ++ [10])) = _
  rw [cutT_some (h s (by simp)), cut_lines l fun x hx => h x (by simp [hx])]
  rfl
def progL (p : PgP) : List Tx := p.names.map nameB ++ p.rungs.map rungB
theorem progT_L (p : PgP) : progT p = (progL p).flatMap fun s => s ++ [10] := by
 unfold progT namesTx rungsTx progL; rw [List.flatMap_append, List.flatMap_map, List.flatMap_map]
 rfl
theorem read_names {l : List Tx} {ns : List NmP} (hn : ∀ n ∈ ns, NmOk n) (hl : ∀ i (h : i < ns.length), l[i]? = some (nameB ns[i])) : ∀ k, k ≤ ns.length → ∃ s, prK l k = .inr s ∧ s.names = ns.take k ∧ s.rungs = []
 | 0, _ => ⟨prS0, rfl, by simp [prS0], rfl⟩
 | k + 1, hk => by
  obtain ⟨s, h1, h2, h3⟩ := read_names hn hl k (by omega)
  obtain ⟨_, b2, b3⟩ := nameB_line (hn ns[k] (List.getElem_mem (by omega)))
  have hg : l.getD k [] = nameB ns[k] := by rw [List.getD_eq_getElem?_getD, hl k (by omega)]; rfl
  rw [prK, h1]
  dsimp only
  rw [hg]; unfold stepS; rw [if_neg b2, b3]
  dsimp only
  rw [if_pos h3]; exact ⟨_, rfl, by rw [h2, List.take_succ_eq_append_getElem (by omega)], h3⟩
theorem read_rungs {l : List Tx} {p : PgP} (hn : ∀ n ∈ p.names, NmOk n) (hr : ∀ r ∈ p.rungs, RgOk r) (hl : ∀ i (h : i < p.names.length), l[i]? = some (nameB p.names[i])) (hl2 : ∀ i (h : i < p.rungs.length), l[p.names.length + i]? = some (rungB p.rungs[i])) :
  ∀ k, k ≤ p.rungs.length → ∃ s, prK l (p.names.length + k) = .inr s ∧ s.names = p.names ∧ s.rungs = p.rungs.take k
 | 0, _ => by
  obtain ⟨s, h1, h2, h3⟩ := read_names hn hl p.names.length (Nat.le_refl _)
  exact ⟨s, h1, by rw [h2, List.take_length], by rw [h3]; simp⟩
 | k + 1, hk => by
  obtain ⟨s, h1, h2, h3⟩ := read_rungs hn hr hl hl2 k (by omega)
  obtain ⟨_, b2, b3⟩ := rungB_line (hr p.rungs[k] (List.getElem_mem (by omega)))
  have hg : l.getD (p.names.length + k) [] = rungB p.rungs[k] := by rw [List.getD_eq_getElem?_getD, hl2 k (by omega)]; rfl
  rw [← Nat.add_assoc, prK, h1]
  dsimp only
  rw [hg]; unfold stepS; rw [if_neg b2, b3]; exact ⟨_, rfl, h2, by dsimp only; rw [h3, List.take_succ_eq_append_getElem (by omega)]⟩
theorem back_law {p : PgP} (hc : checkP p = none) (hn : ∀ n ∈ p.names, NmOk n) (hr : ∀ r ∈ p.rungs, RgOk r) (hl : (progT p).length ≤ 20000) : parseP (progT p) = (none, p) := by
 have hcut : cutT 10 (progT p) = progL p ++ [[]] := by
  rw [progT_L]; refine cut_lines _ fun s hs => ?_
  rcases List.mem_append.1 hs with hs | hs
  ·obtain ⟨n, hn', rfl⟩ := List.mem_map.1 hs
   exact (nameB_line (hn n hn')).1
  ·obtain ⟨r, hr', rfl⟩ := List.mem_map.1 hs
   exact (rungB_line (hr r hr')).1
 have hlen : (progL p).length = p.names.length + p.rungs.length := by simp [progL]
 obtain ⟨s, h1, h2, h3⟩ := read_rungs (l := progL p ++ [[]]) hn hr (fun i h => by
   rw [List.getElem?_append_left (by omega)]; unfold progL; rw [List.getElem?_append_left (by simpa using h)]
   simp [h]) (fun i h => by
   rw [List.getElem?_append_left (by omega)]; unfold progL; rw [List.getElem?_append_right (by simp)]
   simp [h]) p.rungs.length (Nat.le_refl _)
 rw [List.take_length] at h3
 have hend : prK (progL p ++ [[]]) (progL p ++ [[]]).length = .inr s := by
  rw [List.length_append, hlen]
  show prK _ (p.names.length + p.rungs.length + 1) = _
  rw [prK, h1]
  dsimp only
  have : (progL p ++ [[]]).getD (p.names.length + p.rungs.length) [] = [] := by
   rw [List.getD_eq_getElem?_getD, List.getElem?_append_right (by omega), hlen]; simp
  rw [this]; unfold stepS; rw [if_pos (show wordsT [] = [] from rfl)]
 rw [parseP_end hl (by rw [hcut]; exact hend), h2, h3]
 show (match checkP p with | none => _ | some (c, none) => _ | some (c, some i) => _) = _
 rw [hc]
end Go.Proofs.YtjaodmndkpalkaaGreatDoor
namespace Go.Proofs.YtjaodmndkpalkaaGreatDoor
open Go.Av
theorem lxn1 : (⟨#[105, 110, 112, 117, 116, 32]⟩ : ByteArray) = bs [105, 110, 112, 117, 116, 32] := rfl
theorem lxn2 : (⟨#[99, 111, 105, 108, 32]⟩ : ByteArray) = bs [99, 111, 105, 108, 32] := rfl
theorem lxn3 : (⟨#[116, 105, 109, 101, 114, 32]⟩ : ByteArray) = bs [116, 105, 109, 101, 114, 32] := rfl
theorem lxn4 : (⟨#[99, 111, 117, 110, 116, 101, 114, 32]⟩ : ByteArray) = bs [99, 111, 117, 110, 116, 101, 114, 32] := rfl
theorem lxeq : (⟨#[32, 61, 32]⟩ : ByteArray) = bs [32, 61, 32] := rfl
theorem lxe : (⟨#[]⟩ : ByteArray) = bs [] := rfl
set_option maxHeartbeats 16000000 in
theorem ladderText_spec (G : Glob) (hH : HasHeads G) (p : PgP) (hp : TxP p) : PureC Tryz.prog G 26 [dPg p] (.v (.string (bs (progT p)))) := by
 unfold HasHeads at hH
 have hT : progT p = namesTx p.names ++ rungsTx p.rungs := rfl
 have ⟨hnm, hrg, hnl, hrl, _⟩ := hp
 have hN := namesTx_len hp
 have hR := rungsTx_len hp
 have hne := names_ne hp
 simp only [dPg, cPg, dNms, dRgs]; refine PureC.of_body (tyOf_good _) Tryz.func26 rfl rfl (rs := [.tmp 2]) Tryz.results26 (by simp [Tryz.ntmps26]) fun X => ?_; simp only [Tryz.ntmps26, List.map]; refine rg0 [1] [1] ?_; refine AW.imp (Imp.freezeB 1 trivial) ?_; refine AW.st (by simp; rfl) ?_; refine rg0 [1,3] [3] ?_; refine AW.imp (Imp.ren (r := 3) (r' := 500) trivial (by simp)) ?_; refine AW.st (by simp [renO, renF, Go.Av.ren, renH_one]; rfl) ?_; refine AW.imp (Imp.adoptCell 500 1 501 5 1 rfl rfl rfl) ?_; refine AW.st (by simp; rfl) ?_; refine AW_then fun K1 hK1 => ?_; refine rg0 [1,3,9,10,11] [500,501] ?_; refine AW_for (S := Nat) (fun i => i ≤ p.names.length) (fun i => ⟨lst [(1, .d (.ip [.sl none (p.names.map cNm), .sl none (p.rungs.map cRg)])), (3, .ref 500 0 0), (9, .d (.sl none (p.names.map cNm))), (10, int p.names.length), (11, int i)], hlst [(500, .box 174 [adB (namesTx (p.names.take i)), .own 501 0 (namesTx (p.names.take i)).length]), (501, .sl 5 1 (txB (namesTx (p.names.take i))))]⟩) (fun i => p.names.length - i) 0 ?_ (by simp) ?_
 ·refine Imp.to' (fun _ _ => trivial) (by simp [namesTx_zero, adB_nil, txB_nil]) (by simp [namesTx_zero, adB_nil, txB_nil])
 ·intro i hi
  have hlc := hN i
  generalize hcur : namesTx (p.names.take i) = cur at hlc ⊢
  have qf := @adB_tr
  refine rgqv [1,3,9,10,11,12] [500,501] ?_; refine AW_then fun K2 hK2 => ?_; refine AW_cond' (b := i < p.names.length) (by simp [D.le, D.le.go, takeMap]) (fun hc => ?_) (fun hc => ?_)
  ·have hil := hc
   obtain ⟨hkd, hct, hnml⟩ := hnm _ (List.getElem_mem hil)
   have hsuc : namesTx (p.names.take (i + 1)) = cur ++ nameT p.names[i] := by rw [namesTx, flatT_succ hil, ← hcur]; rfl
   have hnt : nameT p.names[i] = headN p.names[i].kind ++ p.names[i].name ++ (if 3 ≤ p.names[i].kind then 32 :: dig p.names[i].count.toNat else []) ++ [10] := rfl
   have hcn : cNm p.names[i] = [.v (.string (bs p.names[i].name)), .v (.int .i64 p.names[i].kind), .v (.int .i64 p.names[i].count)] := rfl
   have tj := itoaI_spec G p.names[i].count hct
   have hlj := dig_len (n := p.names[i].count.toNat) (by omega)
   generalize nameT p.names[i] = nt at hsuc hnt; generalize dig p.names[i].count.toNat = dj at tj hlj hnt; generalize p.names[i].name = nm at hnml hnt hcn; generalize p.names[i].kind = kd at hkd hnt hcn; generalize p.names[i].count = ct at hct hcn tj; refine AW_skip (hK2 _ ?_); refine AW_then fun K3 hK3 => ?_; refine AW_block ?_
   have qf := (Aq @hil (Aq @hcn @adB_tr))
   refine rgqv [1,3,5,9,10,11] [500,501,5] ?_; refine AW.imp (Imp.freezeB 5 trivial) ?_; refine AW.st (by simp; rfl) ?_
   obtain ⟨c1, hc1⟩ : ∃ c, c = cur ++ (headN kd ++ nm) := ⟨_, rfl⟩
   have hhl := headN_len kd
   have hlc1 : c1.length ≤ 2^20 + 2^10 + 8 := by rw [hc1, List.length_append, List.length_append]; omega
   refine' lateG (fun hst => ?_) ?_
   rotate_left
   ·by_cases hce : cur = []
    ·skip
     by_cases k1 : kd = 1
     ·refine AW_rm (tyOf_good _) (by kernel_rfl) ([501]) ([]) ([9]) ([]) (List.range 10) [1, 3, 5, 9, 10, 11] [500, 501] (fun _ _ => trivial) (by kernel_rfl) (by simp [OffE]) fun K' hK' => ?_; (repeat (refine sxm_nextO rfl fun K2 hK2 => ?_; simp [k1, hce, adB_nil, txB_nil, lxn1, lxn2, lxn3, lxn4, lxe, binS_add]; (repeat (refine ⟨by omega, ?_⟩)); refine hK2 _ ?_; clear hK2 K2)); refine sxm_nextO rfl fun K2 hK2 => ?_; simp [k1, hce, adB_nil, txB_nil, lxn1, lxn2, lxn3, lxn4, lxe, binS_add]; refine hcK.mc (wS0 G (105 :: 110 :: 112 :: 117 :: 116 :: 32 :: nm) (by simp; omega)) (by simp [k1, hce, adB_nil, txB_nil, lxn1, lxn2, lxn3, lxn4, lxe, binS_add]) (by simp [k1, hce, adB_nil, txB_nil, lxn1, lxn2, lxn3, lxn4, lxe, binS_add]) (by simp [k1, hce, adB_nil, txB_nil, lxn1, lxn2, lxn3, lxn4, lxe, binS_add]) (by simp [k1, hce, adB_nil, txB_nil, lxn1, lxn2, lxn3, lxn4, lxe, binS_add]) (by simp [k1, hce, adB_nil, txB_nil, lxn1, lxn2, lxn3, lxn4, lxe, binS_add]) (by simp [k1, hce, adB_nil, txB_nil, lxn1, lxn2, lxn3, lxn4, lxe, binS_add]) (by simp [LdSame, k1, hce, adB_nil, txB_nil, lxn1, lxn2, lxn3, lxn4, lxe, binS_add]) ?_; simp [k1, hce, adB_nil, txB_nil, lxn1, lxn2, lxn3, lxn4, lxe, binS_add]; refine hK2 _ ?_; clear hK2 K2; (repeat (refine sxm_nextO rfl fun K2 hK2 => ?_; simp [k1, hce, adB_nil, txB_nil, lxn1, lxn2, lxn3, lxn4, lxe, binS_add]; (repeat (refine ⟨by omega, ?_⟩)); refine hK2 _ ?_; clear hK2 K2)); refine sxm_nilO (hK' _ ?_); refine AW.st (by simp [k1, hce, adB_nil, txB_nil, lxn1, lxn2, lxn3, lxn4, lxe, binS_add]; rfl) ?_; clear hK' K'; refine AW.st (show _ = (⟨lst [(1, .d (.ip [.sl none (p.names.map cNm), .sl none (p.rungs.map cRg)])), (3, .ref 500 0 0), (5, .d (.ip [.v (.string (bs nm)), .v (.int .i64 kd), .v (.int .i64 ct)])), (9, .d (.sl none (p.names.map cNm))), (10, int p.names.length), (11, int i)], hlst [(500, .box 174 [.ref 500 0 0, .own 501 0 (c1).length]), (501, .sl 5 1 (txB (c1)))]⟩ : St) by rw [hc1, hce, k1] <;> rfl) ?_; exact hst.out
     by_cases k2 : kd = 2
     ·refine AW_rm (tyOf_good _) (by kernel_rfl) ([501]) ([]) ([9]) ([]) (List.range 10) [1, 3, 5, 9, 10, 11] [500, 501] (fun _ _ => trivial) (by kernel_rfl) (by simp [OffE]) fun K' hK' => ?_; (repeat (refine sxm_nextO rfl fun K2 hK2 => ?_; simp [k2, hce, adB_nil, txB_nil, lxn1, lxn2, lxn3, lxn4, lxe, binS_add]; (repeat (refine ⟨by omega, ?_⟩)); refine hK2 _ ?_; clear hK2 K2)); refine sxm_nextO rfl fun K2 hK2 => ?_; simp [k2, hce, adB_nil, txB_nil, lxn1, lxn2, lxn3, lxn4, lxe, binS_add]; refine hcK.mc (wS0 G (99 :: 111 :: 105 :: 108 :: 32 :: nm) (by simp; omega)) (by simp [k2, hce, adB_nil, txB_nil, lxn1, lxn2, lxn3, lxn4, lxe, binS_add]) (by simp [k2, hce, adB_nil, txB_nil, lxn1, lxn2, lxn3, lxn4, lxe, binS_add]) (by simp [k2, hce, adB_nil, txB_nil, lxn1, lxn2, lxn3, lxn4, lxe, binS_add]) (by simp [k2, hce, adB_nil, txB_nil, lxn1, lxn2, lxn3, lxn4, lxe, binS_add]) (by simp [k2, hce, adB_nil, txB_nil, lxn1, lxn2, lxn3, lxn4, lxe, binS_add]) (by simp [k2, hce, adB_nil, txB_nil, lxn1, lxn2, lxn3, lxn4, lxe, binS_add]) (by simp [LdSame, k2, hce, adB_nil, txB_nil, lxn1, lxn2, lxn3, lxn4, lxe, binS_add]) ?_; simp [k2, hce, adB_nil, txB_nil, lxn1, lxn2, lxn3, lxn4, lxe, binS_add]; refine hK2 _ ?_; clear hK2 K2; (repeat (refine sxm_nextO rfl fun K2 hK2 => ?_; simp [k2, hce, adB_nil, txB_nil, lxn1, lxn2, lxn3, lxn4, lxe, binS_add]; (repeat (refine ⟨by omega, ?_⟩)); refine hK2 _ ?_; clear hK2 K2)); refine sxm_nilO (hK' _ ?_); refine AW.st (by simp [k2, hce, adB_nil, txB_nil, lxn1, lxn2, lxn3, lxn4, lxe, binS_add]; rfl) ?_; clear hK' K'; refine AW.st (show _ = (⟨lst [(1, .d (.ip [.sl none (p.names.map cNm), .sl none (p.rungs.map cRg)])), (3, .ref 500 0 0), (5, .d (.ip [.v (.string (bs nm)), .v (.int .i64 kd), .v (.int .i64 ct)])), (9, .d (.sl none (p.names.map cNm))), (10, int p.names.length), (11, int i)], hlst [(500, .box 174 [.ref 500 0 0, .own 501 0 (c1).length]), (501, .sl 5 1 (txB (c1)))]⟩ : St) by rw [hc1, hce, k2] <;> rfl) ?_; exact hst.out
     by_cases k3 : kd = 3
     ·refine AW_rm (tyOf_good _) (by kernel_rfl) ([501]) ([]) ([9]) ([]) (List.range 10) [1, 3, 5, 9, 10, 11] [500, 501] (fun _ _ => trivial) (by kernel_rfl) (by simp [OffE]) fun K' hK' => ?_; (repeat (refine sxm_nextO rfl fun K2 hK2 => ?_; simp [k3, hce, adB_nil, txB_nil, lxn1, lxn2, lxn3, lxn4, lxe, binS_add]; (repeat (refine ⟨by omega, ?_⟩)); refine hK2 _ ?_; clear hK2 K2)); refine sxm_nextO rfl fun K2 hK2 => ?_; simp [k3, hce, adB_nil, txB_nil, lxn1, lxn2, lxn3, lxn4, lxe, binS_add]; refine hcK.mc (wS0 G (116 :: 105 :: 109 :: 101 :: 114 :: 32 :: nm) (by simp; omega)) (by simp [k3, hce, adB_nil, txB_nil, lxn1, lxn2, lxn3, lxn4, lxe, binS_add]) (by simp [k3, hce, adB_nil, txB_nil, lxn1, lxn2, lxn3, lxn4, lxe, binS_add]) (by simp [k3, hce, adB_nil, txB_nil, lxn1, lxn2, lxn3, lxn4, lxe, binS_add]) (by simp [k3, hce, adB_nil, txB_nil, lxn1, lxn2, lxn3, lxn4, lxe, binS_add]) (by simp [k3, hce, adB_nil, txB_nil, lxn1, lxn2, lxn3, lxn4, lxe, binS_add]) (by simp [k3, hce, adB_nil, txB_nil, lxn1, lxn2, lxn3, lxn4, lxe, binS_add]) (by simp [LdSame, k3, hce, adB_nil, txB_nil, lxn1, lxn2, lxn3, lxn4, lxe, binS_add]) ?_; simp [k3, hce, adB_nil, txB_nil, lxn1, lxn2, lxn3, lxn4, lxe, binS_add]; refine hK2 _ ?_; clear hK2 K2; (repeat (refine sxm_nextO rfl fun K2 hK2 => ?_; simp [k3, hce, adB_nil, txB_nil, lxn1, lxn2, lxn3, lxn4, lxe, binS_add]; (repeat (refine ⟨by omega, ?_⟩)); refine hK2 _ ?_; clear hK2 K2)); refine sxm_nilO (hK' _ ?_); refine AW.st (by simp [k3, hce, adB_nil, txB_nil, lxn1, lxn2, lxn3, lxn4, lxe, binS_add]; rfl) ?_; clear hK' K'; refine AW.st (show _ = (⟨lst [(1, .d (.ip [.sl none (p.names.map cNm), .sl none (p.rungs.map cRg)])), (3, .ref 500 0 0), (5, .d (.ip [.v (.string (bs nm)), .v (.int .i64 kd), .v (.int .i64 ct)])), (9, .d (.sl none (p.names.map cNm))), (10, int p.names.length), (11, int i)], hlst [(500, .box 174 [.ref 500 0 0, .own 501 0 (c1).length]), (501, .sl 5 1 (txB (c1)))]⟩ : St) by rw [hc1, hce, k3] <;> rfl) ?_; exact hst.out
     have k4 : kd = 4 := by omega
     refine AW_rm (tyOf_good _) (by kernel_rfl) ([501]) ([]) ([9]) ([]) (List.range 10) [1, 3, 5, 9, 10, 11] [500, 501] (fun _ _ => trivial) (by kernel_rfl) (by simp [OffE]) fun K' hK' => ?_; (repeat (refine sxm_nextO rfl fun K2 hK2 => ?_; simp [k4, hce, adB_nil, txB_nil, lxn1, lxn2, lxn3, lxn4, lxe, binS_add]; (repeat (refine ⟨by omega, ?_⟩)); refine hK2 _ ?_; clear hK2 K2)); refine sxm_nextO rfl fun K2 hK2 => ?_; simp [k4, hce, adB_nil, txB_nil, lxn1, lxn2, lxn3, lxn4, lxe, binS_add]; refine hcK.mc (wS0 G (99 :: 111 :: 117 :: 110 :: 116 :: 101 :: 114 :: 32 :: nm) (by simp; omega)) (by simp [k4, hce, adB_nil, txB_nil, lxn1, lxn2, lxn3, lxn4, lxe, binS_add]) (by simp [k4, hce, adB_nil, txB_nil, lxn1, lxn2, lxn3, lxn4, lxe, binS_add]) (by simp [k4, hce, adB_nil, txB_nil, lxn1, lxn2, lxn3, lxn4, lxe, binS_add]) (by simp [k4, hce, adB_nil, txB_nil, lxn1, lxn2, lxn3, lxn4, lxe, binS_add]) (by simp [k4, hce, adB_nil, txB_nil, lxn1, lxn2, lxn3, lxn4, lxe, binS_add]) (by simp [k4, hce, adB_nil, txB_nil, lxn1, lxn2, lxn3, lxn4, lxe, binS_add]) (by simp [LdSame, k4, hce, adB_nil, txB_nil, lxn1, lxn2, lxn3, lxn4, lxe, binS_add]) ?_; simp [k4, hce, adB_nil, txB_nil, lxn1, lxn2, lxn3, lxn4, lxe, binS_add]; refine hK2 _ ?_; clear hK2 K2; (repeat (refine sxm_nextO rfl fun K2 hK2 => ?_; simp [k4, hce, adB_nil, txB_nil, lxn1, lxn2, lxn3, lxn4, lxe, binS_add]; (repeat (refine ⟨by omega, ?_⟩)); refine hK2 _ ?_; clear hK2 K2)); refine sxm_nilO (hK' _ ?_); refine AW.st (by simp [k4, hce, adB_nil, txB_nil, lxn1, lxn2, lxn3, lxn4, lxe, binS_add]; rfl) ?_; clear hK' K'; refine AW.st (show _ = (⟨lst [(1, .d (.ip [.sl none (p.names.map cNm), .sl none (p.rungs.map cRg)])), (3, .ref 500 0 0), (5, .d (.ip [.v (.string (bs nm)), .v (.int .i64 kd), .v (.int .i64 ct)])), (9, .d (.sl none (p.names.map cNm))), (10, int p.names.length), (11, int i)], hlst [(500, .box 174 [.ref 500 0 0, .own 501 0 (c1).length]), (501, .sl 5 1 (txB (c1)))]⟩ : St) by rw [hc1, hce, k4] <;> rfl) ?_; exact hst.out
    ·skip
     by_cases k1 : kd = 1
     ·have e : c1 = cur ++ (105 :: 110 :: 112 :: 117 :: 116 :: 32 :: nm) := by rw [hc1, k1]; rfl
      refine AW_rm (tyOf_good _) (by kernel_rfl) ([501]) ([]) ([9]) ([]) (List.range 10) [1, 3, 5, 9, 10, 11] [500, 501] (fun _ _ => trivial) (by kernel_rfl) (by simp [OffE]) fun K' hK' => ?_; (repeat (refine sxm_nextO rfl fun K2 hK2 => ?_; simp [k1, adB_ne hce, lxn1, lxn2, lxn3, lxn4, lxe, binS_add]; (repeat (refine ⟨by omega, ?_⟩)); refine hK2 _ ?_; clear hK2 K2)); refine sxm_nextO rfl fun K2 hK2 => ?_; simp [k1, adB_ne hce, lxn1, lxn2, lxn3, lxn4, lxe, binS_add]; refine hcK.mc (wS G cur (105 :: 110 :: 112 :: 117 :: 116 :: 32 :: nm) c1 e (by simp; omega)) (by simp [k1, adB_ne hce, lxn1, lxn2, lxn3, lxn4, lxe, binS_add]) (by simp [k1, adB_ne hce, lxn1, lxn2, lxn3, lxn4, lxe, binS_add]) (by simp [k1, adB_ne hce, lxn1, lxn2, lxn3, lxn4, lxe, binS_add]) (by simp [k1, adB_ne hce, lxn1, lxn2, lxn3, lxn4, lxe, binS_add]) (by simp [k1, adB_ne hce, lxn1, lxn2, lxn3, lxn4, lxe, binS_add]) (by simp [k1, adB_ne hce, lxn1, lxn2, lxn3, lxn4, lxe, binS_add]) (by simp [LdSame, k1, adB_ne hce, lxn1, lxn2, lxn3, lxn4, lxe, binS_add]) ?_; simp [k1, adB_ne hce, lxn1, lxn2, lxn3, lxn4, lxe, binS_add]; refine hK2 _ ?_; clear hK2 K2; (repeat (refine sxm_nextO rfl fun K2 hK2 => ?_; simp [k1, adB_ne hce, lxn1, lxn2, lxn3, lxn4, lxe, binS_add]; (repeat (refine ⟨by omega, ?_⟩)); refine hK2 _ ?_; clear hK2 K2)); refine sxm_nilO (hK' _ ?_); refine AW.st (by simp [k1, adB_ne hce, lxn1, lxn2, lxn3, lxn4, lxe, binS_add]; rfl) ?_; clear hK' K'; refine AW.st (show _ = (⟨lst [(1, .d (.ip [.sl none (p.names.map cNm), .sl none (p.rungs.map cRg)])), (3, .ref 500 0 0), (5, .d (.ip [.v (.string (bs nm)), .v (.int .i64 kd), .v (.int .i64 ct)])), (9, .d (.sl none (p.names.map cNm))), (10, int p.names.length), (11, int i)], hlst [(500, .box 174 [.ref 500 0 0, .own 501 0 (c1).length]), (501, .sl 5 1 (txB (c1)))]⟩ : St) by rw [k1] <;> rfl) ?_; exact hst.out
     by_cases k2 : kd = 2
     ·have e : c1 = cur ++ (99 :: 111 :: 105 :: 108 :: 32 :: nm) := by rw [hc1, k2]; rfl
      refine AW_rm (tyOf_good _) (by kernel_rfl) ([501]) ([]) ([9]) ([]) (List.range 10) [1, 3, 5, 9, 10, 11] [500, 501] (fun _ _ => trivial) (by kernel_rfl) (by simp [OffE]) fun K' hK' => ?_; (repeat (refine sxm_nextO rfl fun K2 hK2 => ?_; simp [k2, adB_ne hce, lxn1, lxn2, lxn3, lxn4, lxe, binS_add]; (repeat (refine ⟨by omega, ?_⟩)); refine hK2 _ ?_; clear hK2 K2)); refine sxm_nextO rfl fun K2 hK2 => ?_; simp [k2, adB_ne hce, lxn1, lxn2, lxn3, lxn4, lxe, binS_add]; refine hcK.mc (wS G cur (99 :: 111 :: 105 :: 108 :: 32 :: nm) c1 e (by simp; omega)) (by simp [k2, adB_ne hce, lxn1, lxn2, lxn3, lxn4, lxe, binS_add]) (by simp [k2, adB_ne hce, lxn1, lxn2, lxn3, lxn4, lxe, binS_add]) (by simp [k2, adB_ne hce, lxn1, lxn2, lxn3, lxn4, lxe, binS_add]) (by simp [k2, adB_ne hce, lxn1, lxn2, lxn3, lxn4, lxe, binS_add]) (by simp [k2, adB_ne hce, lxn1, lxn2, lxn3, lxn4, lxe, binS_add]) (by simp [k2, adB_ne hce, lxn1, lxn2, lxn3, lxn4, lxe, binS_add]) (by simp [LdSame, k2, adB_ne hce, lxn1, lxn2, lxn3, lxn4, lxe, binS_add]) ?_; simp [k2, adB_ne hce, lxn1, lxn2, lxn3, lxn4, lxe, binS_add]; refine hK2 _ ?_; clear hK2 K2; (repeat (refine sxm_nextO rfl fun K2 hK2 => ?_; simp [k2, adB_ne hce, lxn1, lxn2, lxn3, lxn4, lxe, binS_add]; (repeat (refine ⟨by omega, ?_⟩)); refine hK2 _ ?_; clear hK2 K2)); refine sxm_nilO (hK' _ ?_); refine AW.st (by simp [k2, adB_ne hce, lxn1, lxn2, lxn3, lxn4, lxe, binS_add]; rfl) ?_; clear hK' K'; refine AW.st (show _ = (⟨lst [(1, .d (.ip [.sl none (p.names.map cNm), .sl none (p.rungs.map cRg)])), (3, .ref 500 0 0), (5, .d (.ip [.v (.string (bs nm)), .v (.int .i64 kd), .v (.int .i64 ct)])), (9, .d (.sl none (p.names.map cNm))), (10, int p.names.length), (11, int i)], hlst [(500, .box 174 [.ref 500 0 0, .own 501 0 (c1).length]), (501, .sl 5 1 (txB (c1)))]⟩ : St) by rw [k2] <;> rfl) ?_; exact hst.out
     by_cases k3 : kd = 3
     ·have e : c1 = cur ++ (116 :: 105 :: 109 :: 101 :: 114 :: 32 :: nm) := by rw [hc1, k3]; rfl
      refine AW_rm (tyOf_good _) (by kernel_rfl) ([501]) ([]) ([9]) ([]) (List.range 10) [1, 3, 5, 9, 10, 11] [500, 501] (fun _ _ => trivial) (by kernel_rfl) (by simp [OffE]) fun K' hK' => ?_; (repeat (refine sxm_nextO rfl fun K2 hK2 => ?_; simp [k3, adB_ne hce, lxn1, lxn2, lxn3, lxn4, lxe, binS_add]; (repeat (refine ⟨by omega, ?_⟩)); refine hK2 _ ?_; clear hK2 K2)); refine sxm_nextO rfl fun K2 hK2 => ?_; simp [k3, adB_ne hce, lxn1, lxn2, lxn3, lxn4, lxe, binS_add]; refine hcK.mc (wS G cur (116 :: 105 :: 109 :: 101 :: 114 :: 32 :: nm) c1 e (by simp; omega)) (by simp [k3, adB_ne hce, lxn1, lxn2, lxn3, lxn4, lxe, binS_add]) (by simp [k3, adB_ne hce, lxn1, lxn2, lxn3, lxn4, lxe, binS_add]) (by simp [k3, adB_ne hce, lxn1, lxn2, lxn3, lxn4, lxe, binS_add]) (by simp [k3, adB_ne hce, lxn1, lxn2, lxn3, lxn4, lxe, binS_add]) (by simp [k3, adB_ne hce, lxn1, lxn2, lxn3, lxn4, lxe, binS_add]) (by simp [k3, adB_ne hce, lxn1, lxn2, lxn3, lxn4, lxe, binS_add]) (by simp [LdSame, k3, adB_ne hce, lxn1, lxn2, lxn3, lxn4, lxe, binS_add]) ?_; simp [k3, adB_ne hce, lxn1, lxn2, lxn3, lxn4, lxe, binS_add]; refine hK2 _ ?_; clear hK2 K2; (repeat (refine sxm_nextO rfl fun K2 hK2 => ?_; simp [k3, adB_ne hce, lxn1, lxn2, lxn3, lxn4, lxe, binS_add]; (repeat (refine ⟨by omega, ?_⟩)); refine hK2 _ ?_; clear hK2 K2)); refine sxm_nilO (hK' _ ?_); refine AW.st (by simp [k3, adB_ne hce, lxn1, lxn2, lxn3, lxn4, lxe, binS_add]; rfl) ?_; clear hK' K'; refine AW.st (show _ = (⟨lst [(1, .d (.ip [.sl none (p.names.map cNm), .sl none (p.rungs.map cRg)])), (3, .ref 500 0 0), (5, .d (.ip [.v (.string (bs nm)), .v (.int .i64 kd), .v (.int .i64 ct)])), (9, .d (.sl none (p.names.map cNm))), (10, int p.names.length), (11, int i)], hlst [(500, .box 174 [.ref 500 0 0, .own 501 0 (c1).length]), (501, .sl 5 1 (txB (c1)))]⟩ : St) by rw [k3] <;> rfl) ?_; exact hst.out
     have k4 : kd = 4 := by omega
     have e : c1 = cur ++ (99 :: 111 :: 117 :: 110 :: 116 :: 101 :: 114 :: 32 :: nm) := by rw [hc1, k4]; rfl
     refine AW_rm (tyOf_good _) (by kernel_rfl) ([501]) ([]) ([9]) ([]) (List.range 10) [1, 3, 5, 9, 10, 11] [500, 501] (fun _ _ => trivial) (by kernel_rfl) (by simp [OffE]) fun K' hK' => ?_; (repeat (refine sxm_nextO rfl fun K2 hK2 => ?_; simp [k4, adB_ne hce, lxn1, lxn2, lxn3, lxn4, lxe, binS_add]; (repeat (refine ⟨by omega, ?_⟩)); refine hK2 _ ?_; clear hK2 K2)); refine sxm_nextO rfl fun K2 hK2 => ?_; simp [k4, adB_ne hce, lxn1, lxn2, lxn3, lxn4, lxe, binS_add]; refine hcK.mc (wS G cur (99 :: 111 :: 117 :: 110 :: 116 :: 101 :: 114 :: 32 :: nm) c1 e (by simp; omega)) (by simp [k4, adB_ne hce, lxn1, lxn2, lxn3, lxn4, lxe, binS_add]) (by simp [k4, adB_ne hce, lxn1, lxn2, lxn3, lxn4, lxe, binS_add]) (by simp [k4, adB_ne hce, lxn1, lxn2, lxn3, lxn4, lxe, binS_add]) (by simp [k4, adB_ne hce, lxn1, lxn2, lxn3, lxn4, lxe, binS_add]) (by simp [k4, adB_ne hce, lxn1, lxn2, lxn3, lxn4, lxe, binS_add]) (by simp [k4, adB_ne hce, lxn1, lxn2, lxn3, lxn4, lxe, binS_add]) (by simp [LdSame, k4, adB_ne hce, lxn1, lxn2, lxn3, lxn4, lxe, binS_add]) ?_; simp [k4, adB_ne hce, lxn1, lxn2, lxn3, lxn4, lxe, binS_add]; refine hK2 _ ?_; clear hK2 K2; (repeat (refine sxm_nextO rfl fun K2 hK2 => ?_; simp [k4, adB_ne hce, lxn1, lxn2, lxn3, lxn4, lxe, binS_add]; (repeat (refine ⟨by omega, ?_⟩)); refine hK2 _ ?_; clear hK2 K2)); refine sxm_nilO (hK' _ ?_); refine AW.st (by simp [k4, adB_ne hce, lxn1, lxn2, lxn3, lxn4, lxe, binS_add]; rfl) ?_; clear hK' K'; refine AW.st (show _ = (⟨lst [(1, .d (.ip [.sl none (p.names.map cNm), .sl none (p.rungs.map cRg)])), (3, .ref 500 0 0), (5, .d (.ip [.v (.string (bs nm)), .v (.int .i64 kd), .v (.int .i64 ct)])), (9, .d (.sl none (p.names.map cNm))), (10, int p.names.length), (11, int i)], hlst [(500, .box 174 [.ref 500 0 0, .own 501 0 (c1).length]), (501, .sl 5 1 (txB (c1)))]⟩ : St) by rw [k4] <;> rfl) ?_; exact hst.out
   ·refine AW_then fun K4 hK4 => ?_; refine rg0 [1,3,5,9,10,11,27] [500,501] ?_
    by_cases k3 : 3 ≤ kd
    ·obtain ⟨c2, hc2⟩ : ∃ c, c = c1 ++ 32 :: dj := ⟨_, rfl⟩
     have hlc2 : c2.length ≤ 2^20 + 2^10 + 12 := by rw [hc2, List.length_append, List.length_cons]; omega
     have hfin : namesTx (p.names.take (i + 1)) = c2 ++ [10] := by rw [hsuc, hnt, if_pos k3, hc2, hc1]; simp
     have hcne : namesTx (p.names.take (i + 1)) ≠ [] := by rw [hfin]; simp
     refine AW_cond true (by simp [k3]) (fun _ => ?_) (fun h => by cases h); refine AW_re (tyOf_good _) fun K' hK' => ?_; (repeat (refine sxn fun K2 hK2 => ?_; simp [lx32, binS_add]; (repeat (refine ⟨by omega, ?_⟩)); refine hK2 _ ?_; clear hK2 K2)); refine sxn fun K2 hK2 => ?_; simp [lx32, binS_add]; refine callK.data (tj) (by simp; rfl) (by first | exact D.leGo_refl _ | simp [takeMap, List.map_map, Function.comp_def, D.le, D.le.go, D.le_refl, D.leGo_refl, lx32, binS_add]) ?_; refine hK2 _ ?_; clear hK2 K2; simp only [putd, upd_lst]; (repeat (refine sxn fun K2 hK2 => ?_; simp [lx32, binS_add]; (repeat (refine ⟨by omega, ?_⟩)); refine hK2 _ ?_; clear hK2 K2)); refine sxn fun K2 hK2 => ?_; simp [lx32, binS_add]; refine callK.mc (wS G c1 (32 :: dj) c2 hc2 (by simp; omega)) ?_ ?_ ?_ ?_ ?_ <;> simp [lx32, binS_add]; refine hK2 _ ?_; clear hK2 K2; (repeat (refine sxn fun K2 hK2 => ?_; simp [lx32, binS_add]; (repeat (refine ⟨by omega, ?_⟩)); refine hK2 _ ?_; clear hK2 K2)); refine sxz (hK' _ ?_); clear hK' K'; refine hK4 _ (AW.norm [1, 3, 9, 10, 11] [500, 501] (fun _ _ => trivial) (AW.st (by simp [lx32, binS_add]; rfl) ?_)); refine AW_re (tyOf_good _) fun K' hK' => ?_; (repeat (refine sxn fun K2 hK2 => ?_; simp [ub10]; (repeat (refine ⟨by omega, ?_⟩)); refine hK2 _ ?_; clear hK2 K2)); refine sxn fun K2 hK2 => ?_; simp [ub10]; refine callK.mc (wB G c2 10 _ hfin (by omega)) ?_ ?_ ?_ ?_ ?_ <;> simp [ub10]; refine hK2 _ ?_; clear hK2 K2; (repeat (refine sxn fun K2 hK2 => ?_; simp [ub10]; (repeat (refine ⟨by omega, ?_⟩)); refine hK2 _ ?_; clear hK2 K2)); refine sxz (hK' _ ?_); clear hK' K'; refine hK3 _ (AW.norm [1, 3, 9, 10, 11] [500, 501] (fun _ _ => trivial) (AW.st (by simp [ub10]; rfl) ?_)); refine AW_re (tyOf_good _) fun K' hK' => ?_; (repeat (refine sxn fun K2 hK2 => ?_; simp; (repeat (refine ⟨by omega, ?_⟩)); refine hK2 _ ?_; clear hK2 K2)); refine sxz (hK' _ ?_); clear hK' K'; (try simp only [thn, inb]); refine Again.mk (i + 1) (by omega) (by omega) ?_; refine Imp.to' (fun _ _ => trivial) (by simp [adB_ne hcne]) (by simp [adB_ne hcne])
    ·have hfin : namesTx (p.names.take (i + 1)) = c1 ++ [10] := by rw [hsuc, hnt, if_neg k3, hc1]; simp
     have hcne : namesTx (p.names.take (i + 1)) ≠ [] := by rw [hfin]; simp
     refine AW_cond false (by simp; omega) (fun h => by cases h) (fun _ => ?_); refine AW_skip ?_; refine hK4 _ (AW.norm [1, 3, 9, 10, 11] [500, 501] (fun _ _ => trivial) (AW.st (by simp; rfl) ?_)); refine AW_re (tyOf_good _) fun K' hK' => ?_; (repeat (refine sxn fun K2 hK2 => ?_; simp [ub10]; (repeat (refine ⟨by omega, ?_⟩)); refine hK2 _ ?_; clear hK2 K2)); refine sxn fun K2 hK2 => ?_; simp [ub10]; refine callK.mc (wB G c1 10 _ hfin (by omega)) ?_ ?_ ?_ ?_ ?_ <;> simp [ub10]; refine hK2 _ ?_; clear hK2 K2; (repeat (refine sxn fun K2 hK2 => ?_; simp [ub10]; (repeat (refine ⟨by omega, ?_⟩)); refine hK2 _ ?_; clear hK2 K2)); refine sxz (hK' _ ?_); clear hK' K'; refine hK3 _ (AW.norm [1, 3, 9, 10, 11] [500, 501] (fun _ _ => trivial) (AW.st (by simp [ub10]; rfl) ?_)); refine AW_re (tyOf_good _) fun K' hK' => ?_; (repeat (refine sxn fun K2 hK2 => ?_; simp; (repeat (refine ⟨by omega, ?_⟩)); refine hK2 _ ?_; clear hK2 K2)); refine sxz (hK' _ ?_); clear hK' K'; (try simp only [thn, inb]); refine Again.mk (i + 1) (by omega) (by omega) ?_; refine Imp.to' (fun _ _ => trivial) (by simp [adB_ne hcne]) (by simp [adB_ne hcne])
  ·obtain rfl : i = p.names.length := by omega
   rw [List.take_length] at hcur; refine AW_exit (hK1 _ ?_); refine AW_then fun K5 hK5 => ?_
   have qf := @adB_tr
   refine rgqv [3,36,37,38] [500,501] ?_; refine AW_for (S := Nat) (fun j => j ≤ p.rungs.length) (fun j => ⟨lst [(3, .ref 500 0 0), (36, .d (.sl none (p.rungs.map cRg))), (37, int p.rungs.length), (38, int j)], hlst [(500, .box 174 [adB (cur ++ rungsTx (p.rungs.take j)), .own 501 0 (cur ++ rungsTx (p.rungs.take j)).length]), (501, .sl 5 1 (txB (cur ++ rungsTx (p.rungs.take j))))]⟩) (fun j => p.rungs.length - j) 0 ?_ (by simp) ?_
   ·refine Imp.to' (fun _ _ => trivial) (by simp [rungsTx_zero, List.append_nil, adB_tr]) (by simp [rungsTx_zero, List.append_nil, adB_tr])
   ·intro j hj
    have hlr := hR j
    have hld : (cur ++ rungsTx (p.rungs.take j)).length ≤ 2^20 + 2^36 := by rw [List.length_append]; omega
    generalize hd1 : cur ++ rungsTx (p.rungs.take j) = d1 at hld ⊢
    have qf := @adB_tr
    refine rgqv [3,36,37,38,39] [500,501] ?_; refine AW_then fun K6 hK6 => ?_; refine AW_cond' (b := j < p.rungs.length) (by simp [D.le, D.le.go, takeMap]) (fun hc => ?_) (fun hc => ?_)
    ·have hjl := hc
     have hce : cur ≠ [] := by rw [← hcur]; exact hne (by intro h; rw [h] at hjl; simp at hjl)
     have hde : d1 ≠ [] := by rw [← hd1]; simp [hce]
     obtain ⟨hkd, hrn, e, hce2, hbe, _⟩ := hrg _ (List.getElem_mem hjl)
     have hsuc : cur ++ rungsTx (p.rungs.take (j + 1)) = d1 ++ rungT p.rungs[j] := by rw [rungsTx, flatT_succ hjl, ← hd1, List.append_assoc]; rfl
     have hrt : rungT p.rungs[j] = headG p.rungs[j].kind ++ p.rungs[j].name ++ [32, 61, 32] ++ condT p.rungs[j].cond ++ [10] := rfl
     have hcr : cRg p.rungs[j] = [.v (.int .i64 p.rungs[j].kind), .v (.string (bs p.rungs[j].name)), dC p.rungs[j].cond] := rfl
     rw [hce2] at hrt hcr
     have htx := etext_spec G e (Nat.le_trans (wr_len e) (by omega))
     have hwl := wr0_bd e
     simp only [dS] at htx; simp only [condT, dC] at hrt hcr
     obtain ⟨ta, ca, hta⟩ := dE_ifc e
     rw [hta] at hcr htx; generalize wrE e 0 = tx at hrt htx hwl; generalize rungT p.rungs[j] = rt at hsuc hrt; generalize p.rungs[j].name = nm at hrn hrt hcr; generalize p.rungs[j].kind = kd at hkd hrt hcr; refine AW_skip (hK6 _ ?_); refine AW_then fun K7 hK7 => ?_; refine AW_block ?_
     have qf := (Aq @hjl (Aq @hcr (adB_ne hde)))
     refine rgqv [3,7,36,37,38] [500,501,7] ?_; refine AW.imp (Imp.freezeB 7 trivial) ?_; refine AW.st (by simp; rfl) ?_
     have hcne : cur ++ rungsTx (p.rungs.take (j + 1)) ≠ [] := by simp [hce]
     by_cases k1 : kd = 1
     ·have e2 : cur ++ rungsTx (p.rungs.take (j + 1)) = d1 ++ ((nm ++ 32 :: 61 :: 32 :: (tx ++ [10]))) := by rw [hsuc, hrt, k1]; simp [headG]
      refine AW_rme (tyOf_good _) (by kernel_rfl) ([501]) ([]) ([15]) ([]) (List.range 16) (by kernel_rfl) (by simp [OffE]) fun K' hK' => ?_; (repeat (refine sxm_nextO rfl fun K2 hK2 => ?_; simp [k1, hH, heads7, lxeq, lx10, binS_add]; (repeat (refine ⟨by omega, ?_⟩)); refine hK2 _ ?_; clear hK2 K2)); refine sxm_nextO rfl fun K2 hK2 => ?_; simp [k1, hH, heads7, lxeq, lx10, binS_add]; refine callD.mk (htx) (by simp; rfl) (by simp; rfl) (by first | exact D.leGo_refl _ | simp [takeMap, List.map_map, Function.comp_def, D.le, D.le.go, D.le_refl, D.leGo_refl, k1, hH, heads7, lxeq, lx10, binS_add]) (by simp) ?_; refine hK2 _ ?_; clear hK2 K2; simp only [putd, upd_lst]; (repeat (refine sxm_nextO rfl fun K2 hK2 => ?_; simp [k1, hH, heads7, lxeq, lx10, binS_add]; (repeat (refine ⟨by omega, ?_⟩)); refine hK2 _ ?_; clear hK2 K2)); refine sxm_nextO rfl fun K2 hK2 => ?_; simp [k1, hH, heads7, lxeq, lx10, binS_add]; refine hcK.mc (wS G d1 ((nm ++ 32 :: 61 :: 32 :: (tx ++ [10]))) _ e2 (by simp; omega)) (by simp [k1, hH, heads7, lxeq, lx10, binS_add]) (by simp [k1, hH, heads7, lxeq, lx10, binS_add]) (by simp [k1, hH, heads7, lxeq, lx10, binS_add]) (by simp [k1, hH, heads7, lxeq, lx10, binS_add]) (by simp [k1, hH, heads7, lxeq, lx10, binS_add]) (by simp [k1, hH, heads7, lxeq, lx10, binS_add]) (by simp [LdSame, k1, hH, heads7, lxeq, lx10, binS_add]) ?_; simp [k1, hH, heads7, lxeq, lx10, binS_add]; refine hK2 _ ?_; clear hK2 K2; (repeat (refine sxm_nextO rfl fun K2 hK2 => ?_; simp [k1, hH, heads7, lxeq, lx10, binS_add]; (repeat (refine ⟨by omega, ?_⟩)); refine hK2 _ ?_; clear hK2 K2)); refine sxm_nilO (hK' _ ?_); clear hK' K'; refine hK7 _ (AW.norm [3, 36, 37, 38] [500, 501] (fun _ _ => trivial) (AW.st (by simp [k1, hH, heads7, lxeq, lx10, binS_add]; rfl) ?_)); refine AW_re (tyOf_good _) fun K' hK' => ?_; (repeat (refine sxn fun K2 hK2 => ?_; simp; (repeat (refine ⟨by omega, ?_⟩)); refine hK2 _ ?_; clear hK2 K2)); refine sxz (hK' _ ?_); clear hK' K'; (try simp only [thn, inb]); refine Again.mk (j + 1) (by omega) (by omega) ?_; refine Imp.to' (fun _ _ => trivial) (by simp [adB_ne hcne]) (by simp [adB_ne hcne])
     by_cases k2 : kd = 2
     ·have e2 : cur ++ rungsTx (p.rungs.take (j + 1)) = d1 ++ (115 :: 101 :: 116 :: 32 :: (nm ++ 32 :: 61 :: 32 :: (tx ++ [10]))) := by rw [hsuc, hrt, k2]; simp [headG]
      refine AW_rme (tyOf_good _) (by kernel_rfl) ([501]) ([]) ([15]) ([]) (List.range 16) (by kernel_rfl) (by simp [OffE]) fun K' hK' => ?_; (repeat (refine sxm_nextO rfl fun K2 hK2 => ?_; simp [k2, hH, heads7, lxeq, lx10, binS_add]; (repeat (refine ⟨by omega, ?_⟩)); refine hK2 _ ?_; clear hK2 K2)); refine sxm_nextO rfl fun K2 hK2 => ?_; simp [k2, hH, heads7, lxeq, lx10, binS_add]; refine callD.mk (htx) (by simp; rfl) (by simp; rfl) (by first | exact D.leGo_refl _ | simp [takeMap, List.map_map, Function.comp_def, D.le, D.le.go, D.le_refl, D.leGo_refl, k2, hH, heads7, lxeq, lx10, binS_add]) (by simp) ?_; refine hK2 _ ?_; clear hK2 K2; simp only [putd, upd_lst]; (repeat (refine sxm_nextO rfl fun K2 hK2 => ?_; simp [k2, hH, heads7, lxeq, lx10, binS_add]; (repeat (refine ⟨by omega, ?_⟩)); refine hK2 _ ?_; clear hK2 K2)); refine sxm_nextO rfl fun K2 hK2 => ?_; simp [k2, hH, heads7, lxeq, lx10, binS_add]; refine hcK.mc (wS G d1 (115 :: 101 :: 116 :: 32 :: (nm ++ 32 :: 61 :: 32 :: (tx ++ [10]))) _ e2 (by simp; omega)) (by simp [k2, hH, heads7, lxeq, lx10, binS_add]) (by simp [k2, hH, heads7, lxeq, lx10, binS_add]) (by simp [k2, hH, heads7, lxeq, lx10, binS_add]) (by simp [k2, hH, heads7, lxeq, lx10, binS_add]) (by simp [k2, hH, heads7, lxeq, lx10, binS_add]) (by simp [k2, hH, heads7, lxeq, lx10, binS_add]) (by simp [LdSame, k2, hH, heads7, lxeq, lx10, binS_add]) ?_; simp [k2, hH, heads7, lxeq, lx10, binS_add]; refine hK2 _ ?_; clear hK2 K2; (repeat (refine sxm_nextO rfl fun K2 hK2 => ?_; simp [k2, hH, heads7, lxeq, lx10, binS_add]; (repeat (refine ⟨by omega, ?_⟩)); refine hK2 _ ?_; clear hK2 K2)); refine sxm_nilO (hK' _ ?_); clear hK' K'; refine hK7 _ (AW.norm [3, 36, 37, 38] [500, 501] (fun _ _ => trivial) (AW.st (by simp [k2, hH, heads7, lxeq, lx10, binS_add]; rfl) ?_)); refine AW_re (tyOf_good _) fun K' hK' => ?_; (repeat (refine sxn fun K2 hK2 => ?_; simp; (repeat (refine ⟨by omega, ?_⟩)); refine hK2 _ ?_; clear hK2 K2)); refine sxz (hK' _ ?_); clear hK' K'; (try simp only [thn, inb]); refine Again.mk (j + 1) (by omega) (by omega) ?_; refine Imp.to' (fun _ _ => trivial) (by simp [adB_ne hcne]) (by simp [adB_ne hcne])
     by_cases k3 : kd = 3
     ·have e2 : cur ++ rungsTx (p.rungs.take (j + 1)) = d1 ++ (114 :: 101 :: 115 :: 101 :: 116 :: 32 :: (nm ++ 32 :: 61 :: 32 :: (tx ++ [10]))) := by rw [hsuc, hrt, k3]; simp [headG]
      refine AW_rme (tyOf_good _) (by kernel_rfl) ([501]) ([]) ([15]) ([]) (List.range 16) (by kernel_rfl) (by simp [OffE]) fun K' hK' => ?_; (repeat (refine sxm_nextO rfl fun K2 hK2 => ?_; simp [k3, hH, heads7, lxeq, lx10, binS_add]; (repeat (refine ⟨by omega, ?_⟩)); refine hK2 _ ?_; clear hK2 K2)); refine sxm_nextO rfl fun K2 hK2 => ?_; simp [k3, hH, heads7, lxeq, lx10, binS_add]; refine callD.mk (htx) (by simp; rfl) (by simp; rfl) (by first | exact D.leGo_refl _ | simp [takeMap, List.map_map, Function.comp_def, D.le, D.le.go, D.le_refl, D.leGo_refl, k3, hH, heads7, lxeq, lx10, binS_add]) (by simp) ?_; refine hK2 _ ?_; clear hK2 K2; simp only [putd, upd_lst]; (repeat (refine sxm_nextO rfl fun K2 hK2 => ?_; simp [k3, hH, heads7, lxeq, lx10, binS_add]; (repeat (refine ⟨by omega, ?_⟩)); refine hK2 _ ?_; clear hK2 K2)); refine sxm_nextO rfl fun K2 hK2 => ?_; simp [k3, hH, heads7, lxeq, lx10, binS_add]; refine hcK.mc (wS G d1 (114 :: 101 :: 115 :: 101 :: 116 :: 32 :: (nm ++ 32 :: 61 :: 32 :: (tx ++ [10]))) _ e2 (by simp; omega)) (by simp [k3, hH, heads7, lxeq, lx10, binS_add]) (by simp [k3, hH, heads7, lxeq, lx10, binS_add]) (by simp [k3, hH, heads7, lxeq, lx10, binS_add]) (by simp [k3, hH, heads7, lxeq, lx10, binS_add]) (by simp [k3, hH, heads7, lxeq, lx10, binS_add]) (by simp [k3, hH, heads7, lxeq, lx10, binS_add]) (by simp [LdSame, k3, hH, heads7, lxeq, lx10, binS_add]) ?_; simp [k3, hH, heads7, lxeq, lx10, binS_add]; refine hK2 _ ?_; clear hK2 K2; (repeat (refine sxm_nextO rfl fun K2 hK2 => ?_; simp [k3, hH, heads7, lxeq, lx10, binS_add]; (repeat (refine ⟨by omega, ?_⟩)); refine hK2 _ ?_; clear hK2 K2)); refine sxm_nilO (hK' _ ?_); clear hK' K'; refine hK7 _ (AW.norm [3, 36, 37, 38] [500, 501] (fun _ _ => trivial) (AW.st (by simp [k3, hH, heads7, lxeq, lx10, binS_add]; rfl) ?_)); refine AW_re (tyOf_good _) fun K' hK' => ?_; (repeat (refine sxn fun K2 hK2 => ?_; simp; (repeat (refine ⟨by omega, ?_⟩)); refine hK2 _ ?_; clear hK2 K2)); refine sxz (hK' _ ?_); clear hK' K'; (try simp only [thn, inb]); refine Again.mk (j + 1) (by omega) (by omega) ?_; refine Imp.to' (fun _ _ => trivial) (by simp [adB_ne hcne]) (by simp [adB_ne hcne])
     by_cases k4 : kd = 4
     ·have e2 : cur ++ rungsTx (p.rungs.take (j + 1)) = d1 ++ (114 :: 117 :: 110 :: 32 :: (nm ++ 32 :: 61 :: 32 :: (tx ++ [10]))) := by rw [hsuc, hrt, k4]; simp [headG]
      refine AW_rme (tyOf_good _) (by kernel_rfl) ([501]) ([]) ([15]) ([]) (List.range 16) (by kernel_rfl) (by simp [OffE]) fun K' hK' => ?_; (repeat (refine sxm_nextO rfl fun K2 hK2 => ?_; simp [k4, hH, heads7, lxeq, lx10, binS_add]; (repeat (refine ⟨by omega, ?_⟩)); refine hK2 _ ?_; clear hK2 K2)); refine sxm_nextO rfl fun K2 hK2 => ?_; simp [k4, hH, heads7, lxeq, lx10, binS_add]; refine callD.mk (htx) (by simp; rfl) (by simp; rfl) (by first | exact D.leGo_refl _ | simp [takeMap, List.map_map, Function.comp_def, D.le, D.le.go, D.le_refl, D.leGo_refl, k4, hH, heads7, lxeq, lx10, binS_add]) (by simp) ?_; refine hK2 _ ?_; clear hK2 K2; simp only [putd, upd_lst]; (repeat (refine sxm_nextO rfl fun K2 hK2 => ?_; simp [k4, hH, heads7, lxeq, lx10, binS_add]; (repeat (refine ⟨by omega, ?_⟩)); refine hK2 _ ?_; clear hK2 K2)); refine sxm_nextO rfl fun K2 hK2 => ?_; simp [k4, hH, heads7, lxeq, lx10, binS_add]; refine hcK.mc (wS G d1 (114 :: 117 :: 110 :: 32 :: (nm ++ 32 :: 61 :: 32 :: (tx ++ [10]))) _ e2 (by simp; omega)) (by simp [k4, hH, heads7, lxeq, lx10, binS_add]) (by simp [k4, hH, heads7, lxeq, lx10, binS_add]) (by simp [k4, hH, heads7, lxeq, lx10, binS_add]) (by simp [k4, hH, heads7, lxeq, lx10, binS_add]) (by simp [k4, hH, heads7, lxeq, lx10, binS_add]) (by simp [k4, hH, heads7, lxeq, lx10, binS_add]) (by simp [LdSame, k4, hH, heads7, lxeq, lx10, binS_add]) ?_; simp [k4, hH, heads7, lxeq, lx10, binS_add]; refine hK2 _ ?_; clear hK2 K2; (repeat (refine sxm_nextO rfl fun K2 hK2 => ?_; simp [k4, hH, heads7, lxeq, lx10, binS_add]; (repeat (refine ⟨by omega, ?_⟩)); refine hK2 _ ?_; clear hK2 K2)); refine sxm_nilO (hK' _ ?_); clear hK' K'; refine hK7 _ (AW.norm [3, 36, 37, 38] [500, 501] (fun _ _ => trivial) (AW.st (by simp [k4, hH, heads7, lxeq, lx10, binS_add]; rfl) ?_)); refine AW_re (tyOf_good _) fun K' hK' => ?_; (repeat (refine sxn fun K2 hK2 => ?_; simp; (repeat (refine ⟨by omega, ?_⟩)); refine hK2 _ ?_; clear hK2 K2)); refine sxz (hK' _ ?_); clear hK' K'; (try simp only [thn, inb]); refine Again.mk (j + 1) (by omega) (by omega) ?_; refine Imp.to' (fun _ _ => trivial) (by simp [adB_ne hcne]) (by simp [adB_ne hcne])
     by_cases k5 : kd = 5
     ·have e2 : cur ++ rungsTx (p.rungs.take (j + 1)) = d1 ++ (99 :: 111 :: 117 :: 110 :: 116 :: 32 :: (nm ++ 32 :: 61 :: 32 :: (tx ++ [10]))) := by rw [hsuc, hrt, k5]; simp [headG]
      refine AW_rme (tyOf_good _) (by kernel_rfl) ([501]) ([]) ([15]) ([]) (List.range 16) (by kernel_rfl) (by simp [OffE]) fun K' hK' => ?_; (repeat (refine sxm_nextO rfl fun K2 hK2 => ?_; simp [k5, hH, heads7, lxeq, lx10, binS_add]; (repeat (refine ⟨by omega, ?_⟩)); refine hK2 _ ?_; clear hK2 K2)); refine sxm_nextO rfl fun K2 hK2 => ?_; simp [k5, hH, heads7, lxeq, lx10, binS_add]; refine callD.mk (htx) (by simp; rfl) (by simp; rfl) (by first | exact D.leGo_refl _ | simp [takeMap, List.map_map, Function.comp_def, D.le, D.le.go, D.le_refl, D.leGo_refl, k5, hH, heads7, lxeq, lx10, binS_add]) (by simp) ?_; refine hK2 _ ?_; clear hK2 K2; simp only [putd, upd_lst]; (repeat (refine sxm_nextO rfl fun K2 hK2 => ?_; simp [k5, hH, heads7, lxeq, lx10, binS_add]; (repeat (refine ⟨by omega, ?_⟩)); refine hK2 _ ?_; clear hK2 K2)); refine sxm_nextO rfl fun K2 hK2 => ?_; simp [k5, hH, heads7, lxeq, lx10, binS_add]; refine hcK.mc (wS G d1 (99 :: 111 :: 117 :: 110 :: 116 :: 32 :: (nm ++ 32 :: 61 :: 32 :: (tx ++ [10]))) _ e2 (by simp; omega)) (by simp [k5, hH, heads7, lxeq, lx10, binS_add]) (by simp [k5, hH, heads7, lxeq, lx10, binS_add]) (by simp [k5, hH, heads7, lxeq, lx10, binS_add]) (by simp [k5, hH, heads7, lxeq, lx10, binS_add]) (by simp [k5, hH, heads7, lxeq, lx10, binS_add]) (by simp [k5, hH, heads7, lxeq, lx10, binS_add]) (by simp [LdSame, k5, hH, heads7, lxeq, lx10, binS_add]) ?_; simp [k5, hH, heads7, lxeq, lx10, binS_add]; refine hK2 _ ?_; clear hK2 K2; (repeat (refine sxm_nextO rfl fun K2 hK2 => ?_; simp [k5, hH, heads7, lxeq, lx10, binS_add]; (repeat (refine ⟨by omega, ?_⟩)); refine hK2 _ ?_; clear hK2 K2)); refine sxm_nilO (hK' _ ?_); clear hK' K'; refine hK7 _ (AW.norm [3, 36, 37, 38] [500, 501] (fun _ _ => trivial) (AW.st (by simp [k5, hH, heads7, lxeq, lx10, binS_add]; rfl) ?_)); refine AW_re (tyOf_good _) fun K' hK' => ?_; (repeat (refine sxn fun K2 hK2 => ?_; simp; (repeat (refine ⟨by omega, ?_⟩)); refine hK2 _ ?_; clear hK2 K2)); refine sxz (hK' _ ?_); clear hK' K'; (try simp only [thn, inb]); refine Again.mk (j + 1) (by omega) (by omega) ?_; refine Imp.to' (fun _ _ => trivial) (by simp [adB_ne hcne]) (by simp [adB_ne hcne])
     have k6 : kd = 6 := by omega
     have e2 : cur ++ rungsTx (p.rungs.take (j + 1)) = d1 ++ (122 :: 101 :: 114 :: 111 :: 32 :: (nm ++ 32 :: 61 :: 32 :: (tx ++ [10]))) := by rw [hsuc, hrt, k6]; simp [headG]
     refine AW_rme (tyOf_good _) (by kernel_rfl) ([501]) ([]) ([15]) ([]) (List.range 16) (by kernel_rfl) (by simp [OffE]) fun K' hK' => ?_; (repeat (refine sxm_nextO rfl fun K2 hK2 => ?_; simp [k6, hH, heads7, lxeq, lx10, binS_add]; (repeat (refine ⟨by omega, ?_⟩)); refine hK2 _ ?_; clear hK2 K2)); refine sxm_nextO rfl fun K2 hK2 => ?_; simp [k6, hH, heads7, lxeq, lx10, binS_add]; refine callD.mk (htx) (by simp; rfl) (by simp; rfl) (by first | exact D.leGo_refl _ | simp [takeMap, List.map_map, Function.comp_def, D.le, D.le.go, D.le_refl, D.leGo_refl, k6, hH, heads7, lxeq, lx10, binS_add]) (by simp) ?_; refine hK2 _ ?_; clear hK2 K2; simp only [putd, upd_lst]; (repeat (refine sxm_nextO rfl fun K2 hK2 => ?_; simp [k6, hH, heads7, lxeq, lx10, binS_add]; (repeat (refine ⟨by omega, ?_⟩)); refine hK2 _ ?_; clear hK2 K2)); refine sxm_nextO rfl fun K2 hK2 => ?_; simp [k6, hH, heads7, lxeq, lx10, binS_add]; refine hcK.mc (wS G d1 (122 :: 101 :: 114 :: 111 :: 32 :: (nm ++ 32 :: 61 :: 32 :: (tx ++ [10]))) _ e2 (by simp; omega)) (by simp [k6, hH, heads7, lxeq, lx10, binS_add]) (by simp [k6, hH, heads7, lxeq, lx10, binS_add]) (by simp [k6, hH, heads7, lxeq, lx10, binS_add]) (by simp [k6, hH, heads7, lxeq, lx10, binS_add]) (by simp [k6, hH, heads7, lxeq, lx10, binS_add]) (by simp [k6, hH, heads7, lxeq, lx10, binS_add]) (by simp [LdSame, k6, hH, heads7, lxeq, lx10, binS_add]) ?_; simp [k6, hH, heads7, lxeq, lx10, binS_add]; refine hK2 _ ?_; clear hK2 K2; (repeat (refine sxm_nextO rfl fun K2 hK2 => ?_; simp [k6, hH, heads7, lxeq, lx10, binS_add]; (repeat (refine ⟨by omega, ?_⟩)); refine hK2 _ ?_; clear hK2 K2)); refine sxm_nilO (hK' _ ?_); clear hK' K'; refine hK7 _ (AW.norm [3, 36, 37, 38] [500, 501] (fun _ _ => trivial) (AW.st (by simp [k6, hH, heads7, lxeq, lx10, binS_add]; rfl) ?_)); refine AW_re (tyOf_good _) fun K' hK' => ?_; (repeat (refine sxn fun K2 hK2 => ?_; simp; (repeat (refine ⟨by omega, ?_⟩)); refine hK2 _ ?_; clear hK2 K2)); refine sxz (hK' _ ?_); clear hK' K'; (try simp only [thn, inb]); refine Again.mk (j + 1) (by omega) (by omega) ?_; refine Imp.to' (fun _ _ => trivial) (by simp [adB_ne hcne]) (by simp [adB_ne hcne])
    ·obtain rfl : j = p.rungs.length := by omega
     rw [List.take_length] at hd1; refine AW_exit (hK5 _ ?_)
     have qf := @adB_tr
     refine rgmv (aS G d1) [2] [] ?_; refine AW_ret ?_; simp [D.le, D.le.go, takeMap]; rw [hT, hcur, hd1]
end Go.Proofs.YtjaodmndkpalkaaGreatDoor
namespace Go.Proofs.YtjaodmndkpalkaaGreatDoor
open Go.Av
theorem badGw_some (p : PgP) (k : Int) (s : Tx) (e : Ex) : badG p ⟨k, s, some e⟩ = if !(decide (1 ≤ k) && decide (k ≤ 6)) then 1 else if numP p s < 0 then 7 else if !decide (wantP k = (p.names.getD (numP p s).toNat ⟨[], 0, 0⟩).kind) then 1 else if (namesE true e).any fun s => decide (numP p s < 0) then 7 else 0 := by
 have h : (decide (k < 1) || decide (k > 6)) = !(decide (1 ≤ k) && decide (k ≤ 6)) := by
  by_cases h1 : 1 ≤ k <;> by_cases h2 : k ≤ 6 <;> simp [h1, h2] <;> omega
 show (if decide (k < 1) || decide (k > 6) then (1 : Int) else _) = _
 rw [h]; simp only [Bool.not_eq_true', decide_eq_false_iff_not, ne_eq]
end Go.Proofs.YtjaodmndkpalkaaGreatDoor
namespace Go.Proofs.YtjaodmndkpalkaaGreatDoor
open Go.Av
theorem checkP_rung {p : PgP} (h : checkP p = none) : ∀ r ∈ p.rungs, (1 ≤ r.kind ∧ r.kind ≤ 6) ∧ ¬ numP p r.name < 0 ∧ ∃ e, r.cond = some e ∧ ∀ s ∈ namesE true e, ¬ numP p s < 0 := fun r hr => by
 unfold checkP at h
 split at h
 ·cases h
 split at h
 ·cases h
 split at h
 ·cases h
 rename_i hB
 obtain ⟨k, hk, rfl⟩ := List.mem_iff_getElem.1 hr
 have h0 := firstBad_none hB k hk
 generalize p.rungs[k] = r at h0
 obtain ⟨kd, nm, cd⟩ := r
 cases cd with
 | none => cases (show (1 : Int) = 0 from h0)
 | some e =>
  rw [badGw_some] at h0
  split at h0
  ·cases h0
  rename_i h1
  split at h0
  ·cases h0
  rename_i h2
  split at h0
  ·cases h0
  split at h0
  ·cases h0
  rename_i h4
  refine ⟨by simpa using h1, h2, e, rfl, fun s hs hn => h4 ?_⟩; exact List.any_eq_true.2 ⟨s, hs, by simpa using hn⟩
end Go.Proofs.YtjaodmndkpalkaaGreatDoor
namespace Go.Proofs.YtjaodmndkpalkaaGreatDoor
open Go.Av
theorem nameF_len {s : Tx} (h : nameF s = true) : s ≠ [] ∧ s.length ≤ 8 := by
 unfold nameF at h; simp only [Bool.and_eq_true, decide_eq_true_eq] at h; exact ⟨h.1, h.2.1⟩
end Go.Proofs.YtjaodmndkpalkaaGreatDoor
namespace Go.Proofs.YtjaodmndkpalkaaGreatDoor
open Go.Av
theorem lineP_dp {s : Tx} {r : RgP} (h : lineP s = .rung r) : ∃ e, r.cond = some e ∧ WfE e ∧ dpI e ≤ 20 ∧ bE e ≤ 10000 := by
 unfold lineP at h
 split at h
 ·obtain ⟨k, nm, hm, hr⟩ := rungL_ok h
  obtain ⟨e, he, hp, _, hn, _⟩ := rungP_ok hr
  exact ⟨e, he, (parse_wf hp).1, (parse_wf hp).2, parse_b hp⟩
 ·exact absurd h nameL_rung
def CondOk (r : RgP) : Prop := ∃ e, r.cond = some e ∧ WfE e ∧ dpI e ≤ 20 ∧ bE e ≤ 10000
theorem prK_cond {l : List Tx} : ∀ {k : Nat} {s : PrS}, prK l k = .inr s → ∀ r ∈ s.rungs, CondOk r
 | 0, s, h => by
  simp only [prK, Sum.inr.injEq] at h; subst h; simp [prS0]
 | k + 1, s, h => by
  rw [prK] at h
  cases hk : prK l k with
  | inl e => rw [hk] at h; cases h
  | inr s0 =>
   rw [hk] at h
   dsimp only at h
   have ih := prK_cond hk
   unfold stepS at h
   split at h
   ·simp only [Sum.inr.injEq] at h; subst h; exact ih
   ·split at h
    ·cases h
    ·cases h
    ·split at h
     ·simp only [Sum.inr.injEq] at h; subst h; exact ih
     ·cases h
    ·rename_i r hr
     simp only [Sum.inr.injEq] at h; subst h
     intro r' hr'
     rcases List.mem_append.1 hr' with h1 | h1
     ·exact ih r' h1
     ·obtain rfl := List.mem_singleton.1 h1
      exact lineP_dp hr
theorem parse_ok {t : Tx} {p : PgP} (h : parseP t = (none, p)) : checkP p = none ∧ ∀ r ∈ p.rungs, CondOk r := by
 unfold parseP at h
 split at h
 ·cases h
 ·split at h
  ·cases h
  ·rename_i s hs
   split at h
   ·rename_i hc
    simp only [Prod.mk.injEq, true_and] at h; subst h; exact ⟨hc, prK_cond hs⟩
   ·cases h
   ·cases h
theorem parse_err {t : Tx} {e : Int × Option Nat} (h : (parseP t).1 = some e) : (parseP t).2 = ⟨[], []⟩ := by
 by_cases h1 : 20000 < t.length
 ·unfold parseP; rw [if_pos h1]
 ·cases hs : prK (cutT 10 t) (cutT 10 t).length with
  | inl ci => obtain ⟨c, i⟩ := ci; rw [parseP_bad (by omega) hs]
  | inr s =>
   rw [parseP_end (by omega) hs] at h ⊢
   cases hc : checkP ⟨s.names, s.rungs⟩ with
   | none => rw [hc] at h; cases h
   | some co =>
    obtain ⟨c, o⟩ := co
    cases o <;> rfl
theorem tx_of {p : PgP} (hc : checkP p = none) (hk : ∀ r ∈ p.rungs, CondOk r) : TxP p := by
 have hg := checkP_good hc
 have hr := checkP_rung hc
 refine ⟨fun n hn => ?_, fun r hr1 => ?_, ?_, ?_, fun he => ?_⟩
 ·obtain ⟨h1, h2, h3⟩ := hg.name n hn
  have h4 := nameF_len h1
  rcases hg.count n hn with h5 | h5 <;> exact ⟨⟨h2, h3⟩, by omega, by omega⟩
 ·obtain ⟨h1, h2, _⟩ := hr r hr1
  obtain ⟨e, he, hw, _, hb⟩ := hk r hr1
  obtain ⟨k, hk, hke, hks⟩ := idx_pos h2
  have hks' : p.names[k].name = r.name := by simpa using hks
  have h4 := nameF_len (hg.name _ (List.getElem_mem hk)).1
  rw [hks'] at h4; exact ⟨h1, by omega, e, he, by omega, hw⟩
 ·have := hg.names; omega
 ·have := hg.rungs; omega
 ·cases hrs : p.rungs with
  | nil => rfl
  | cons r l =>
   obtain ⟨_, h2, _⟩ := hr r (by rw [hrs]; simp)
   obtain ⟨k, hk, _⟩ := idx_pos h2
   rw [he] at hk; simp at hk
theorem back_of {p : PgP} (hc : checkP p = none) (hk : ∀ r ∈ p.rungs, CondOk r) (hw : ∀ r ∈ p.rungs, ∀ e, r.cond = some e → (wrE e 0).length ≤ 1990) (hl : (progT p).length ≤ 20000) : parseP (progT p) = (none, p) := by
 have hg := checkP_good hc
 have hr := checkP_rung hc
 refine back_law hc (fun n hn => ⟨(hg.name n hn).1, (hg.name n hn).2, hg.count n hn⟩) (fun r hr1 => ?_) hl
 obtain ⟨h1, h2, _⟩ := hr r hr1
 obtain ⟨e, he, hwf, hd, _⟩ := hk r hr1
 obtain ⟨k, hk, hke, hks⟩ := idx_pos h2
 have hks' : p.names[k].name = r.name := by simpa using hks
 have h4 := (hg.name _ (List.getElem_mem hk)).1
 rw [hks'] at h4; exact ⟨h4, h1, e, he, hwf, hd, hw r hr1 e he⟩
def fixP : PgP := ⟨[⟨[97], 1, 0⟩, ⟨[109], 2, 0⟩], [⟨2, [109], some (.bit [97])⟩]⟩
def fixT : Tx := [105, 110, 112, 117, 116, 32, 97, 10, 99, 111, 105, 108, 32, 109, 10, 115, 101, 116, 32, 109, 32, 61, 32, 97, 10]
theorem fix_text : progT fixP = fixT := by decide
theorem fix_check : checkP fixP = none := by kernel_rfl
theorem fix_parse : parseP fixT = (none, fixP) := by
 rw [← fix_text]; refine back_of fix_check ?_ ?_ (by rw [fix_text]; decide)
 ·intro r hr
  simp only [fixP, List.mem_singleton] at hr; subst hr
  have h : (parseM [97]).1 = some (.bit [97]) := by kernel_rfl
  exact ⟨_, rfl, (parse_wf h).1, (parse_wf h).2, parse_b h⟩
 ·intro r hr e he
  simp only [fixP, List.mem_singleton] at hr; subst hr
  obtain rfl := Option.some.inj he
  decide
theorem fix_bs : (⟨#[105, 110, 112, 117, 116, 32, 97, 10, 99, 111, 105, 108, 32, 109, 10, 115, 101, 116, 32, 109, 32, 61, 32, 97, 10]⟩ : ByteArray) = bs fixT := rfl
theorem fix_m : (⟨#[109]⟩ : ByteArray) = bs [109] := rfl
theorem fix_num : numP fixP [109] = 1 := by kernel_rfl
theorem fix_cond : ∀ r ∈ fixP.rungs, CondOk r := (parse_ok fix_parse).2
set_option maxRecDepth 100000 in
set_option maxHeartbeats 4000000 in
theorem laddered_spec (G : Glob) (hM : HasMax G) (hP : HasP10 G) (hG : HasErr G) (hH : HasHeads G) {es er : Value} (hE : HasNE G es er) : PureC Tryz.prog G 39 [] (.v (.bool true)) := by
 have hp := lparse_spec G hM hP hG hE fixT
 rw [fix_parse] at hp
 have ht := ladderText_spec G hH fixP (tx_of fix_check fix_cond)
 rw [fix_text] at ht
 have hn := lc_num G fixP (by decide) [109]
 rw [fix_num] at hn
 have hpg : dPg fixP = .agg [.sl none [[.v (.string (bs [97])), .v (.int .i64 1), .v (.int .i64 0)], [.v (.string (bs [109])), .v (.int .i64 2), .v (.int .i64 0)]], .sl none [[.v (.int .i64 2), .v (.string (bs [109])), dE (.bit [97])]]] := rfl
 rw [hpg] at hp ht hn; simp only [dErr, dS] at hp hn
 have ho : (dE (.bit [97])).one = true := by obtain ⟨a, b, h⟩ := dE_ifc (.bit [97]); rw [h]; rfl
 obtain ⟨ty, cc, hc⟩ := dE_ifc (.bit [97])
 rw [hc] at hp ht hn
 have hfb := fix_bs
 generalize bs fixT = FT at *; refine PureC.of_body (tyOf_good _) Tryz.func39 rfl rfl (rs := [.tmp 0]) Tryz.results39 (by simp [Tryz.ntmps39]) fun X => ?_; simp only [Tryz.ntmps39, List.map]; refine rg0 [] [] ?_
 have qf := @hfb
 refine rgcv hp [1,2] [1] ?_; refine rg [0] [1] (fun _ _ => trivial) fun K' hK' => ?_; (repeat (refine sxn fun K2 hK2 => ?_; simp [hfb, fix_m, binS]; (repeat (refine ⟨by omega, ?_⟩)); refine hK2 _ ?_; clear hK2 K2)); refine sxn fun K2 hK2 => ?_; simp [hfb, fix_m, binS]; refine callK.data (hn) (by simp; rfl) (by first | exact D.leGo_refl _ | simp [takeMap, List.map_map, Function.comp_def, D.le, D.le.go, D.le_refl, D.leGo_refl, hfb, fix_m, binS]) ?_; refine hK2 _ ?_; clear hK2 K2; simp only [putd, upd_lst]; (repeat (refine sxn fun K2 hK2 => ?_; simp [hfb, fix_m, binS]; (repeat (refine ⟨by omega, ?_⟩)); refine hK2 _ ?_; clear hK2 K2)); refine sxn fun K2 hK2 => ?_; simp [hfb, fix_m, binS]; refine callK.data (ht) (by simp; rfl) (by first | exact D.leGo_refl _ | simp [takeMap, List.map_map, Function.comp_def, D.le, D.le.go, D.le_refl, D.leGo_refl, hfb, fix_m, binS]) ?_; refine hK2 _ ?_; clear hK2 K2; simp only [putd, upd_lst]; (repeat (refine sxn fun K2 hK2 => ?_; simp [hfb, fix_m, binS]; (repeat (refine ⟨by omega, ?_⟩)); refine hK2 _ ?_; clear hK2 K2)); refine sxz (hK' _ (AW.st (by simp [hfb, fix_m, binS]; rfl) ?_)); clear hK' K'; refine AW_ret ?_; simp [D.le, D.le.go, takeMap]
set_option maxRecDepth 100000 in
set_option maxHeartbeats 16000000 in
theorem lback_spec (G : Glob) (hM : HasMax G) (hP : HasP10 G) (hG : HasErr G) (hH : HasHeads G) {es er : Value} (hE : HasNE G es er) (t : Tx) : PureC Tryz.prog G 8 [dS t] (.v (.bool true)) := by
 have hlad := laddered_spec G hM hP hG hH hE
 have hp := lparse_spec G hM hP hG hE t
 refine PureC.of_body (tyOf_good _) Tryz.func8 rfl rfl (rs := [.tmp 2]) Tryz.results8 (by simp [Tryz.ntmps8]) fun X => ?_; simp only [Tryz.ntmps8, List.map]
 have fw := (Aq @dNum.eq_1 @dS.eq_1)
 refine rgq fw [0] [] ?_; refine AW_then fun K1 hK1 => ?_
 by_cases ht : (t.length : Int) > 1500
 ·have qf := (Aq fw (Aq @bs_size @ht))
  refine rgqv [0,10] [] ?_; refine AW_cond true (by simp [ht]) (fun _ => ?_) (fun h => by cases h); refine rgq fw [2] [] ?_; refine AW_ret ?_; simp [D.le, D.le.go, takeMap, dNum, dS]
 have qf := (Aq fw (Aq @bs_size @ht))
 refine rgqv [0,10] [] ?_; refine AW_cond false (by simp [ht]) (fun h => by cases h) (fun _ => ?_); refine AW_skip (hK1 _ ?_); simp only [dS] at hp
 cases hpe : (parseP t).1 with
 | some e =>
  have h2 := parse_err hpe
  rw [hpe, h2] at hp
  obtain ⟨c, o⟩ := e
  have hpg : dPg ⟨[], []⟩ = .agg [.sl none [], .sl none []] := rfl
  rw [hpg] at hp
  cases o with
  | none =>
   simp only [dErr] at hp; refine rgc fw hp [3,4] [3] ?_; refine AW_then fun K2 hK2 => ?_; refine rgc fw hlad [3,21] [3] ?_; refine AW_tt rfl ?_; refine rgc fw hlad [2] [3] ?_; refine AW_ret ?_; simp [D.le, D.le.go, takeMap, dNum, dS]
  | some o =>
   simp only [dErr] at hp; refine rgc fw hp [3,4] [3] ?_; refine AW_then fun K2 hK2 => ?_; refine rgc fw hlad [3,21] [3] ?_; refine AW_tt rfl ?_; refine rgc fw hlad [2] [3] ?_; refine AW_ret ?_; simp [D.le, D.le.go, takeMap, dNum, dS]
 | none =>
  obtain ⟨p, hpp⟩ : ∃ p, p = (parseP t).2 := ⟨_, rfl⟩
  have hpt : parseP t = (none, p) := by rw [hpp, ← hpe]
  obtain ⟨hc, hk⟩ := parse_ok hpt
  have htx := ladderText_spec G hH p (tx_of hc hk)
  have hg := checkP_good hc
  rw [hpt] at hp
  have hb := back_of hc hk
  have hp2 := lparse_spec G hM hP hG hE (progT p)
  simp only [dErr, dS, dPg, cPg, dNms, dRgs] at hp hp2 htx
  have hpgb : parseP (progT p) = (none, p) → PureC Tryz.prog G 38 [.v (.string (bs (progT p)))] (.tup [.agg [.sl none (p.names.map cNm), .sl none (p.rungs.map cRg)], .v .nilIface]) := fun h => by
   rw [h] at hp2; exact hp2
  clear hp2; generalize progT p = pt at *
  have hRl : (p.rungs.map cRg).length = p.rungs.length := by simp
  have hNl : (p.names.map cNm).length = p.names.length := by simp
  have hRg : ∀ i (h : i < p.rungs.length), (p.rungs.map cRg)[i]? = some (cRg p.rungs[i]) := fun i h => by simp [h]
  generalize p.names.map cNm = NN at *; generalize p.rungs.map cRg = RR at *; refine rgc fw hp [3,4] [3] ?_; refine AW_then fun K2 hK2 => ?_; refine rgc fw hlad [3,21] [3] ?_; refine AW_ff rfl ?_; refine AW_skip (hK2 _ ?_); refine rgc fw htx [3,5] [3] ?_; refine AW_then fun K3 hK3 => ?_
  by_cases hpl : (pt.length : Int) > 20000
  ·have qf := (Aq fw (Aq @bs_size @hpl))
   refine rgqv [3,5,37] [3] ?_; refine AW_cond true (by simp [hpl]) (fun _ => ?_) (fun h => by cases h); refine rgq fw [2] [3] ?_; refine AW_ret ?_; simp [D.le, D.le.go, takeMap, dNum, dS]
  have qf := (Aq fw (Aq @bs_size @hpl))
  refine rgqv [3,5,37] [3] ?_; refine AW_cond false (by simp [hpl]) (fun h => by cases h) (fun _ => ?_); refine AW_skip (hK3 _ ?_); refine AW_then fun K4 hK4 => ?_; refine rgq fw [3,5,6] [3] ?_; refine AW_for (S := Nat) (fun i => i ≤ p.rungs.length ∧ ∀ k (hk : k < p.rungs.length), k < i → ∀ e, p.rungs[k].cond = some e → (wrE e 0).length ≤ 1990) (fun i => ⟨lst [(3, .ref 3 0 0), (5, .d (.v (.string (bs pt)))), (6, int i)], hlst [(3, .box 29 [.d (.sl none NN), .d (.sl none RR)])]⟩) (fun i => p.rungs.length - i) 0 ?_ ⟨by omega, fun k _ h => absurd h (by omega)⟩ ?_
  ·refine Imp.to' (fun _ _ => trivial) (by simp [dNum, dS]) (by simp [dNum, dS])
  ·rintro i ⟨hi, hw⟩
   have hrn := hg.rungs
   refine AW_then fun K5 hK5 => ?_
   by_cases hlt : i < p.rungs.length
   ·have hlt2 : i < RR.length := by omega
    have hlt3 : (i : Int) < (RR.length : Int) := by omega
    obtain ⟨e, he, hwf, hd, hbe⟩ := hk p.rungs[i] (List.getElem_mem hlt)
    have hgi : RR[i] = [.v (.int .i64 p.rungs[i].kind), .v (.string (bs p.rungs[i].name)), dE e] := by
     have := hRg i hlt
     rw [List.getElem?_eq_getElem hlt2] at this
     have h3 := Option.some.inj this
     rw [h3]; unfold cRg; rw [he]; rfl
    have hte := etext_spec G e (by have := wr_len e; omega)
    simp only [dS] at hte
    obtain ⟨ty, cc, hcc⟩ := dE_ifc e
    rw [hcc] at hgi hte; generalize p.rungs[i].kind = kd at hgi; generalize bs p.rungs[i].name = nm at hgi
    have qf := (Aq fw @hlt3)
    refine rgqv [3,5,6,42] [3] ?_; refine AW_cond true (by simp [hlt3]) (fun _ => ?_) (fun h => by cases h); refine AW_skip (hK5 _ ?_); refine AW_then fun K6 hK6 => ?_; refine AW_block ?_
    by_cases h19 : ((wrE e 0).length : Int) > 1990
    ·have qf := (Aq fw (Aq @hlt2 (Aq @hlt3 (Aq @hgi (Aq @bs_size @h19)))))
     refine rgcv hte [3,5,6,53] [3] ?_; refine AW_cond true (by simp [h19]) (fun _ => ?_) (fun h => by cases h); refine rgq fw [2] [3] ?_; refine AW_ret ?_; simp [D.le, D.le.go, takeMap, dNum, dS]
    ·have qf := (Aq fw (Aq @hlt2 (Aq @hlt3 (Aq @hgi (Aq @bs_size @h19)))))
     refine rgcv hte [3,5,6,53] [3] ?_; refine AW_cond false (by simp [h19]) (fun h => by cases h) (fun _ => ?_); refine AW_skip (hK6 _ ?_); refine AW_re (tyOf_good _) fun K' hK' => ?_; (repeat (refine sxn fun K2 hK2 => ?_; simp [dNum, dS]; (repeat (refine ⟨by omega, ?_⟩)); refine hK2 _ ?_; clear hK2 K2)); refine sxz (hK' _ ?_); clear hK' K'; (try simp only [thn, inb]); refine Again.mk (i + 1) ⟨by omega, fun k hk1 hki e' he' => ?_⟩ (by omega) ?_
     ·by_cases hki' : k = i
      ·subst hki'; rw [he] at he'
       obtain rfl := Option.some.inj he'
       omega
      ·exact hw k hk1 (by omega) e' he'
     ·refine Imp.to' (fun _ _ => trivial) (by simp [dNum, dS]) (by simp [dNum, dS])
   ·have hlt3 : ¬ (i : Int) < (RR.length : Int) := by omega
    have hback := hb (fun r hr e he => by
     obtain ⟨k, hk1, rfl⟩ := List.mem_iff_getElem.1 hr
     exact hw k hk1 (by omega) e he) (by omega)
    have hp3 := hpgb hback
    have qf := (Aq fw @hlt3)
    refine rgqv [3,5,6,42] [3] ?_; refine AW_cond false (by simp [hlt3]) (fun h => by cases h) (fun _ => ?_); refine AW_exit (hK4 _ ?_); refine rgc fw hp3 [3,4,5,7] [3,7] ?_; refine rg [2] [3, 7] (fun _ _ => trivial) fun K' hK' => ?_; (repeat (refine sxn fun K2 hK2 => ?_; simp [dNum, dS, binS]; (repeat (refine ⟨by omega, ?_⟩)); refine hK2 _ ?_; clear hK2 K2)); refine sxn fun K2 hK2 => ?_; simp [dNum, dS, binS]; refine callK.data (htx) (by simp; rfl) (by first | exact D.leGo_refl _ | simp [takeMap, List.map_map, Function.comp_def, D.le, D.le.go, D.le_refl, D.leGo_refl, dNum, dS, binS]) ?_; refine hK2 _ ?_; clear hK2 K2; simp only [putd, upd_lst]; (repeat (refine sxn fun K2 hK2 => ?_; simp [dNum, dS, binS]; (repeat (refine ⟨by omega, ?_⟩)); refine hK2 _ ?_; clear hK2 K2)); refine sxz (hK' _ (AW.st (by simp [dNum, dS, binS]; rfl) ?_)); clear hK' K'; refine AW_ret ?_; simp [D.le, D.le.go, takeMap, dNum, dS]
end Go.Proofs.YtjaodmndkpalkaaGreatDoor
namespace Go.Proofs.YtjaodmndkpalkaaGreatDoor
open Go.Av Go.ChangeShapes Go.WideShapes Go.ChangeAt Go.RowKit
theorem law_own : ownKnob Tryz.prog.godebug = none := by kernel_rfl
theorem law_laidOut : laidOutB Tryz.prog = true := by kernel_rfl
section
variable {H : Type} {enc : TypeId × Value → H} {w : World} {base : Nat} {spare : Nat → Bool} {held : Bool} {X : Nat → Prop}
end
end Go.Proofs.YtjaodmndkpalkaaGreatDoor
