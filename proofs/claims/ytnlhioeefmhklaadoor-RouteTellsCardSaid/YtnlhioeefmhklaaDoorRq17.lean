/-
  Texts that belong together, in one file: Sh1, T1, RT7, SB, SB2, SB3, SB4, RN, RT8, RT9, RR, RR2, R1.
-/
import Derived.Test.YtnlhioeefmhklaaDoorRq16
import Derived.Test.YtnlhioeefmhklaaDoorProg
import Derived.Ground.NamesProg
import Derived.Shelf.Strings.OnBuilder
/-
  DERIVED: THE SHELF's CONTRACTS AT THIS DUMP, IN PLAIN WORDS (tools/lay-plain.mjs out of 'YtnlhioeefmhklaaDoorSh1s.lean', which tools/lay-shelf.mjs wrote): THE SAME DECLARATIONS UNDER THE SAME NAMES: 'import', 'namespace', 'open', 'def', 'theorem' AND NOTHING ELSE: no command of the shelf's: FOR A HAND-IN. Each laying: the table of numbers ('.._ren') and one theorem, a field a fact of the dump's own or the kernel's comparison; each contract: ONE APPLICATION.
-/
namespace Go.Proofs
open Go.Shelf
def Tryd.lays156_ren : Go.Shelf.Ren := ⟨fun | 156 => 38 | 165 => 42 | 166 => 25 | 169 => 28 | 240 => 36 | 241 => 51 | 276 => 40 | 277 => 60 | n => n, fun | 31 => 86 | 9 => 9 | 3 => 3 | 4 => 4 | 0 => 0 | 20 => 20 | 72 => 68 | 76 => 69 | 70 => 65 | 37 => 66 | 75 => 36 | 127 => 85 | 164 => 90 | 5 => 5 | 80 => 74 | n => n, fun | n => n⟩
theorem Tryd.lays156 : Go.Proofs.Lays.n156 Tryd.prog Tryd.lays156_ren := {
  mixed := by kernel_rfl
  f156 := Tryd.func38.trans (congrArg some (by kernel_rfl))
  f165 := Tryd.func42.trans (congrArg some (by kernel_rfl))
  f166 := Tryd.func25.trans (congrArg some (by kernel_rfl))
  f169 := Tryd.func28.trans (congrArg some (by kernel_rfl))
  f240 := Tryd.func36.trans (congrArg some (by kernel_rfl))
  f241 := Tryd.func51.trans (congrArg some (by kernel_rfl))
  f276 := Tryd.func40.trans (congrArg some (by kernel_rfl))
  f277 := Tryd.func60.trans (congrArg some (by kernel_rfl))
  t0 := Tryd.underlying0
  a0 := Tryd.isAgg0
  z0 := Tryd.sizeOf0
  v0 := Tryd.zeroValue0
  t3 := Tryd.underlying3
  a3 := Tryd.isAgg3
  z3 := Tryd.sizeOf3
  v3 := Tryd.zeroValue3
  t4 := Tryd.underlying4
  a4 := Tryd.isAgg4
  z4 := Tryd.sizeOf4
  v4 := Tryd.zeroValue4
  t9 := Tryd.underlying9
  a9 := Tryd.isAgg9
  z9 := Tryd.sizeOf9
  v9 := Tryd.zeroValue9
  t20 := Tryd.underlying20
  a20 := Tryd.isAgg20
  z20 := Tryd.sizeOf20
  v20 := Tryd.zeroValue20
  t31 := Tryd.underlying86
  a31 := Tryd.isAgg86
  z31 := Tryd.sizeOf86
  v31 := Tryd.zeroValue86
  t37 := Tryd.underlying66
  a37 := Tryd.isAgg66
  z37 := Tryd.sizeOf66
  v37 := Tryd.zeroValue66
  t70 := Tryd.underlying65
  a70 := Tryd.isAgg65
  z70 := Tryd.sizeOf65
  v70 := Tryd.zeroValue65
  t72 := Tryd.underlying68
  a72 := Tryd.isAgg68
  z72 := Tryd.sizeOf68
  v72 := Tryd.zeroValue68
  t75 := Tryd.underlying36
  a75 := Tryd.isAgg36
  z75 := Tryd.sizeOf36
  v75 := Tryd.zeroValue36
  t76 := Tryd.underlying69
  a76 := Tryd.isAgg69
  z76 := Tryd.sizeOf69
  v76 := Tryd.zeroValue69
  t127 := Tryd.underlying85
  a127 := Tryd.isAgg85
  z127 := Tryd.sizeOf85
  v127 := Tryd.zeroValue85
  t164 := Tryd.underlying90
  a164 := Tryd.isAgg90
  z164 := Tryd.sizeOf90
  v164 := Tryd.zeroValue90 }
theorem Tryd.Builder_Extra_156 : Builder.Extra Tryd.prog Tryd.lays156_ren := {
  sizeBuilder := by kernel_rfl
  liesBuilder := by kernel_rfl
  t5 := Tryd.underlying5
  a5 := Tryd.isAgg5
  z5 := Tryd.sizeOf5
  v5 := Tryd.zeroValue5
  infoByte := by kernel_rfl
  cellsByte := by kernel_rfl
  sizeByte := by kernel_rfl
  neB5 := by decide }
end Go.Proofs

/-
  Formulas as texts: strings.Join, lasso.text, lasso.Text.
-/
namespace Go.Proofs.YtnlhioeefmhklaaDoor
set_option linter.unusedSimpArgs false
set_option linter.unusedVariables false
open Go.Av
open Go.RowKit Go.Shelf Go.Lib

theorem bs_append (a b : List UInt8) : bs a ++ bs b = bs (a ++ b) := ByteArray.ext (by simp [bs, ByteArray.data_append])
theorem join_spec (G : Glob) (l : List (List UInt8)) (sep : List UInt8) (hl : (Lib.join l sep).length ≤ 2^46) (hn : l.length ≤ 2^46) : PureC Tryd.prog G 38 [.sl none (l.map fun s => [dS s]), dS sep] (dS (Lib.join l sep)) := by
  refine PureC.of_calls (Fun.of Tryd.func38 rfl rfl) fun X w vs hsz hrd hgl => ?_
  obtain ⟨a, b, rfl⟩ : ∃ a b, vs = #[a, b] := by
    match vs, hsz with
    | ⟨[a, b]⟩, _ => exact ⟨a, b, rfl⟩
  have hb := (hrd 1 b _ rfl rfl).scalar
  subst hb
  have ha := hrd 0 a _ rfl rfl
  have none : ∀ (ad : Option Addr) (cap : Nat), l = [] → Calls Tryd.prog 38 #[.slice ad 0 cap, .string (bs sep)] w fun e w' => ∃ v, e = .returned v ∧ Grew w w' ∧ RD w' X v (dS (Lib.join l sep)) := fun ad cap h => by
    subst h
    have hcon := Any.strings_Join_none Tryd.lays156 Tryd.Builder_Extra_156 ad cap (bs sep) w
    exact hcon.mono fun e w' ⟨he, hw⟩ => ⟨_, he, hw ▸ Grew.refl w, .v _⟩
  rcases ha.sl_inv with ⟨rfl, hz, _⟩ | ⟨ad, cap, rfl, _, hc, hm, hr⟩
  · exact none _ _ (List.map_eq_nil_iff.1 hz)
  · rcases hr with hz | ⟨b0, off, sz, f, rfl, hX, hz, hs, hcell, hrr⟩
    · have h0 : l = [] := List.map_eq_nil_iff.1 hz
      have := none (some ad) cap h0
      rw [show (l.map fun s => [dS s]).length = 0 by rw [h0]; rfl]
      exact this
    · by_cases h0 : l = []
      · rw [show (l.map fun s => [dS s]).length = 0 by rw [h0]; rfl]
        exact none _ _ h0
      · have hpos : 0 < l.length := List.length_pos_iff.2 h0
        have hs1 : sz = 1 := (hs [dS l[0]] (List.mem_map.2 ⟨_, List.getElem_mem hpos, rfl⟩)).symm
        subst hs1
        simp only [List.length_map] at hcell hc ⊢
        have hc0 : ∀ (j : Nat) x, (l.map bs)[j]? = some x → w.cell? ⟨b0, off + j, .none⟩ = some (.string x) := fun j x hx => by
          rw [List.getElem?_map] at hx
          obtain ⟨s, hs', rfl⟩ := Option.map_eq_some_iff.1 hx
          have hj := (List.getElem?_eq_some_iff.1 hs').1
          have h1 := hcell j 0 hj (by decide)
          have h2 := (hrr j 0 [dS s] (dS s) (by rw [List.getElem?_map, hs']; rfl) rfl).scalar
          rw [Nat.mul_one, Nat.add_zero] at h1
          rw [h1, h2]
        have hbk : b0 < w.heap.size := cell_lt (hc0 0 (bs l[0]) (by simp [hpos]))
        have hml : (l.map bs).map (fun x => x.data.toList) = l := by
          rw [List.map_map]
          exact (List.map_congr_left fun s _ => rfl).trans (List.map_id _)
        have hlen : (Lib.join ((l.map bs).map (·.data.toList)) (bs sep).data.toList).length ≤ 140737488355328 := by
          rw [hml]
          show (Lib.join l sep).length ≤ _
          omega
        have hcon := Any.strings_Join Tryd.lays156 Tryd.Builder_Extra_156 b0 off cap (l.map bs) (bs sep) w hc0 hbk (by simp; omega) (by simpa using hc) hlen
        rw [hml, List.length_map] at hcon
        exact hcon.mono fun e w' ⟨he, hB⟩ => ⟨_, he, below_grew hB, .v _⟩
end Go.Proofs.YtnlhioeefmhklaaDoor

/-
  Texts of tables: what they are; Told, and the document's text (TrackText).
-/
namespace Go.Proofs.YtnlhioeefmhklaaDoor
set_option linter.unusedSimpArgs false
set_option linter.unusedVariables false
open Go.Av

theorem binS_add (a b : List UInt8) : binS .add (bs a) (bs b) = some (a.length + b.length ≤ 9223372036854775807, .string (bs (a ++ b))) := by
  unfold binS
  simp only [bs_size, bs_append]
abbrev dig (n : Nat) : List UInt8 := Lib.decDigits n
theorem dig_len {n : Nat} (h : n < 100) : (dig n).length ≤ 2 := by
  have : ∀ k : Fin 100, (Lib.decDigits k.val).length ≤ 2 := by decide +kernel
  exact this ⟨n, h⟩
def secT (s : Int) : List UInt8 := 32 :: dig s.toNat
def ptT (p : Int × Bool) : List UInt8 := 32 :: (dig p.1.toNat ++ [if p.2 then 43 else 45])
def secsT (l : List Int) : List UInt8 := l.flatMap secT
def ptsT (l : List (Int × Bool)) : List UInt8 := l.flatMap ptT
def rtT (r : Rt) : List UInt8 := [114, 111, 117, 116, 101] ++ secsT r.1 ++ [32, 58] ++ ptsT r.2 ++ [10]
def rtsT (l : List Rt) : List UInt8 := l.flatMap rtT
def headT (S P : Int) : List UInt8 := [115, 101, 99, 116, 105, 111, 110, 115, 32] ++ dig S.toNat ++ [10, 112, 111, 105, 110, 116, 115, 32] ++ dig P.toNat ++ [10]
def tbT (t : Tb) : List UInt8 := headT t.secs t.pts ++ rtsT t.rts
theorem flatMap_le {α : Type} {f : α → List UInt8} {c : Nat} : ∀ {l : List α}, (∀ x ∈ l, (f x).length ≤ c) → (l.flatMap f).length ≤ c * l.length
  | [], _ => by simp
  | x :: l, h => by
    rw [List.flatMap_cons, List.length_append, List.length_cons, Nat.mul_add]
    have h1 := h x (by simp)
    have h2 := flatMap_le (l := l) (f := f) (c := c) fun y hy => h y (by simp [hy])
    omega
/-- Numbers in range. -/
structure InR (S P : Int) (r : Rt) : Prop where
  s20 : r.1.length ≤ 20
  p20 : r.2.length ≤ 20
  ss : ∀ s ∈ r.1, 0 ≤ s ∧ s < S
  ps : ∀ p ∈ r.2, 0 ≤ p.1 ∧ p.1 < P
structure InT (t : Tb) : Prop where
  s1 : 1 ≤ t.secs
  s3 : t.secs ≤ 3
  p0 : 0 ≤ t.pts
  p2 : t.pts ≤ 2
  n8 : t.rts.length ≤ 8
  rs : ∀ r ∈ t.rts, InR t.secs t.pts r
theorem secT_len {s : Int} (h : 0 ≤ s ∧ s < 100) : (secT s).length ≤ 3 := by
  have := dig_len (n := s.toNat) (by omega)
  simp only [secT, List.length_cons]; omega
theorem ptT_len {p : Int × Bool} (h : 0 ≤ p.1 ∧ p.1 < 100) : (ptT p).length ≤ 4 := by
  have := dig_len (n := p.1.toNat) (by omega)
  simp only [ptT, List.length_cons, List.length_append, List.length_nil]; omega
theorem secsT_len {l : List Int} (h : ∀ s ∈ l, 0 ≤ s ∧ s < 100) (hl : l.length ≤ 20) : (secsT l).length ≤ 60 := by
  have := flatMap_le (f := secT) (c := 3) fun s hs => secT_len (h s hs)
  unfold secsT; omega
theorem ptsT_len {l : List (Int × Bool)} (h : ∀ p ∈ l, 0 ≤ p.1 ∧ p.1 < 100) (hl : l.length ≤ 20) : (ptsT l).length ≤ 80 := by
  have := flatMap_le (f := ptT) (c := 4) fun s hs => ptT_len (h s hs)
  unfold ptsT; omega
theorem rtT_len {S P : Int} (hS : S ≤ 3) (hP : P ≤ 2) {r : Rt} (h : InR S P r) : (rtT r).length ≤ 200 := by
  have h1 := secsT_len (l := r.1) (fun s hs => by have := h.ss s hs; omega) h.s20
  have h2 := ptsT_len (l := r.2) (fun s hs => by have := h.ps s hs; omega) h.p20
  simp only [rtT, List.length_append, List.length_cons, List.length_nil]; omega
theorem rtsT_len {S P : Int} (hS : S ≤ 3) (hP : P ≤ 2) {l : List Rt} (h : ∀ r ∈ l, InR S P r) (hl : l.length ≤ 8) : (rtsT l).length ≤ 1600 := by
  have := flatMap_le (f := rtT) (c := 200) fun r hr => rtT_len hS hP (h r hr)
  unfold rtsT; omega
theorem headT_len {S P : Int} (h1 : 1 ≤ S) (hS : S ≤ 3) (h0 : 0 ≤ P) (hP : P ≤ 2) : (headT S P).length ≤ 22 := by
  have h1 := dig_len (n := S.toNat) (by omega)
  have h2 := dig_len (n := P.toNat) (by omega)
  simp only [headT, List.length_append, List.length_cons, List.length_nil]; omega
theorem secsT_succ {l : List Int} {i : Nat} (h : i < l.length) : secsT (l.take (i + 1)) = secsT (l.take i) ++ secT l[i] := by
  unfold secsT; rw [List.take_succ_eq_append_getElem h, List.flatMap_append]; simp
theorem ptsT_succ {l : List (Int × Bool)} {i : Nat} (h : i < l.length) : ptsT (l.take (i + 1)) = ptsT (l.take i) ++ ptT l[i] := by
  unfold ptsT; rw [List.take_succ_eq_append_getElem h, List.flatMap_append]; simp
theorem rtsT_succ {l : List Rt} {i : Nat} (h : i < l.length) : rtsT (l.take (i + 1)) = rtsT (l.take i) ++ rtT l[i] := by
  unfold rtsT; rw [List.take_succ_eq_append_getElem h, List.flatMap_append]; simp
theorem secsT_zero : secsT [] = [] := rfl
theorem ptsT_zero : ptsT [] = [] := rfl
theorem rtsT_zero : rtsT [] = [] := rfl
theorem mem_take {α : Type} {l : List α} {i : Nat} {x : α} (h : x ∈ l.take i) : x ∈ l := List.mem_of_mem_take h

theorem lx32 : (⟨#[32]⟩ : ByteArray) = bs [32] := rfl
theorem lx10 : (⟨#[10]⟩ : ByteArray) = bs [10] := rfl
theorem lx43 : (⟨#[43]⟩ : ByteArray) = bs [43] := rfl
theorem lx45 : (⟨#[45]⟩ : ByteArray) = bs [45] := rfl
theorem lxrt : (⟨#[114, 111, 117, 116, 101]⟩ : ByteArray) = bs [114, 111, 117, 116, 101] := rfl
theorem lxco : (⟨#[32, 58]⟩ : ByteArray) = bs [32, 58] := rfl
theorem lxse : (⟨#[115, 101, 99, 116, 105, 111, 110, 115, 32]⟩ : ByteArray) = bs [115, 101, 99, 116, 105, 111, 110, 115, 32] := rfl
theorem lxpo : (⟨#[10, 112, 111, 105, 110, 116, 115, 32]⟩ : ByteArray) = bs [10, 112, 111, 105, 110, 116, 115, 32] := rfl
theorem itoaI_spec (G : Glob) (i : Int) (h : 0 ≤ i ∧ i < 100) : PureC Tryd.prog G 26 [.v (.int .i64 i)] (.v (.string (bs (dig i.toNat)))) := by
  have := itoa_small G i.toNat (by omega)
  rwa [dNum, Int.toNat_of_nonneg h.1] at this

set_option maxHeartbeats 2000000 in
theorem told_spec (G : Glob) (n : Int) (h : 0 ≤ n ∧ n < 100) : PureC Tryd.prog G 29 [.sl none [[.v (.int .i64 n)]]] (.v (.string (bs (dig n.toNat)))) := by
  have hI := itoaI_spec G n h
  have hd := dig_len (n := n.toNat) (by omega)
  have hj := join_spec G [dig n.toNat] [32] (by simp [Lib.join_one]; omega) (by simp)
  rw [Lib.join_one] at hj
  simp only [List.map_cons, List.map_nil, dS] at hj
  generalize dig n.toNat = tx at hI hd hj
  refine PureC.of_body (tyOf_good _) Tryd.func29 rfl rfl (rs := [.tmp 2]) Tryd.results29 (by simp [Tryd.ntmps29]) fun X => ?_
  simp only [Tryd.ntmps29, List.map]
  refine AW_rg (tyOf_good _) [0] [] (fun _ _ => trivial) fun K' hK' => ?_
  repeat (refine sxf_next fun K2 hK2 => ?_; simp; (repeat (refine ⟨by omega, ?_⟩)); refine hK2 _ ?_; clear hK2 K2)
  refine sxf_nil (hK' _ ?_)
  refine AW.st (by simp; rfl) ?_
  clear hK' K'
  refine AW_rg (tyOf_good _) [0, 3] [] (fun _ _ => trivial) fun K' hK' => ?_
  repeat (refine sxf_next fun K2 hK2 => ?_; simp; (repeat (refine ⟨by omega, ?_⟩)); refine hK2 _ ?_; clear hK2 K2)
  refine sxf_nil (hK' _ ?_)
  refine AW.st (by simp; rfl) ?_
  clear hK' K'
  refine AW_then fun K1 hK1 => ?_
  refine AW_rg (tyOf_good _) [3, 6, 7, 8] [] (fun _ _ => trivial) fun K' hK' => ?_
  repeat (refine sxf_next fun K2 hK2 => ?_; simp; (repeat (refine ⟨by omega, ?_⟩)); refine hK2 _ ?_; clear hK2 K2)
  refine sxf_nil (hK' _ ?_)
  refine AW.st (by simp; rfl) ?_
  clear hK' K'
  refine AW_for (S := Nat) (fun i => i ≤ 1) (fun i => ⟨lst [(3, .own 300 0 i), (6, .d (.sl none [[.v (.int .i64 n)]])), (7, int 1), (8, int i)], hlst [(300, .sl 9 1 (List.take i [[.v (.string (bs tx))]]))]⟩) (fun i => 1 - i) 0 ?_ (by simp) ?_
  · refine (Imp.adopt 3 300 9 1 rfl rfl).trans ?_
    refine Imp.to' (fun _ _ => trivial) (by simp) (by simp)
  · intro i hi
    refine AW_rg (tyOf_good _) [3, 6, 7, 8, 9] [300] (fun _ _ => trivial) fun K' hK' => ?_
    repeat (refine sxf_next fun K2 hK2 => ?_; simp; (repeat (refine ⟨by omega, ?_⟩)); refine hK2 _ ?_; clear hK2 K2)
    refine sxf_nil (hK' _ ?_)
    refine AW.st (by simp; rfl) ?_
    clear hK' K'
    refine AW_then fun K2 hK2 => ?_
    refine AW_cond' (b := i < 1) (by simp; omega) (fun hc => ?_) (fun hc => ?_)
    · obtain rfl : i = 0 := by omega
      refine AW_skip (hK2 _ ?_)
      refine AW_then fun K3 hK3 => ?_
      refine AW_block ?_
      refine AW_rg (tyOf_good _) [3, 5, 6, 7, 8] [300] (fun _ _ => trivial) fun K' hK' => ?_
      repeat (refine sxf_next fun K2 hK2 => ?_; simp; (repeat (refine ⟨by omega, ?_⟩)); refine hK2 _ ?_; clear hK2 K2)
      refine sxf_nil (hK' _ ?_)
      refine AW.st (by simp; rfl) ?_
      clear hK' K'
      refine AW_re (tyOf_good _) fun K' hK' => ?_
      repeat (refine sxf_next fun K2 hK2 => ?_; simp; (repeat (refine ⟨by omega, ?_⟩)); refine hK2 _ ?_; clear hK2 K2)
      refine sxf_next fun K2 hK2 => ?_
      simp
      refine callK.data (hI) (by simp; rfl) (by first | exact D.leGo_refl _ | simp [takeMap, List.map_map, Function.comp_def, D.le, D.le.go, D.le_refl, D.leGo_refl]) ?_
      refine hK2 _ ?_
      clear hK2 K2
      simp only [putd, upd_lst]
      repeat (refine sxf_next fun K2 hK2 => ?_; simp; (repeat (refine ⟨by omega, ?_⟩)); refine hK2 _ ?_; clear hK2 K2)
      refine sxf_nil (hK' _ ?_)
      clear hK' K'
      refine hK3 _ (AW.norm [3, 6, 7, 8] [300] (fun _ _ => trivial) (AW.st (by simp; rfl) ?_))
      refine AW_re (tyOf_good _) fun K' hK' => ?_
      repeat (refine sxf_next fun K2 hK2 => ?_; simp; (repeat (refine ⟨by omega, ?_⟩)); refine hK2 _ ?_; clear hK2 K2)
      refine sxf_nil (hK' _ ?_)
      clear hK' K'
      try simp only [thn, inb]
      refine Again.mk 1 (by omega) (by omega) ?_
      refine Imp.to' (fun _ _ => trivial) (by simp) (by simp)
    · obtain rfl : i = 1 := by omega
      refine AW_exit (hK1 _ ?_)
      refine AW.imp (Imp.freeze 300 trivial) ?_
      refine AW.st (by simp; rfl) ?_
      refine AW_rg (tyOf_good _) [2] [] (fun _ _ => trivial) fun K' hK' => ?_
      repeat (refine sxf_next fun K2 hK2 => ?_; simp [lx32]; (repeat (refine ⟨by omega, ?_⟩)); refine hK2 _ ?_; clear hK2 K2)
      refine sxf_next fun K2 hK2 => ?_
      simp [lx32]
      refine callK.data (hj) (by simp; rfl) (by first | exact D.leGo_refl _ | simp [takeMap, List.map_map, Function.comp_def, D.le, D.le.go, D.le_refl, D.leGo_refl, lx32]) ?_
      refine hK2 _ ?_
      clear hK2 K2
      simp only [putd, upd_lst]
      repeat (refine sxf_next fun K2 hK2 => ?_; simp [lx32]; (repeat (refine ⟨by omega, ?_⟩)); refine hK2 _ ?_; clear hK2 K2)
      refine sxf_nil (hK' _ ?_)
      refine AW.st (by simp [lx32]; rfl) ?_
      clear hK' K'
      refine AW_ret ?_
      simp [D.le, D.le.go, takeMap]

set_option maxRecDepth 4000 in
set_option maxHeartbeats 16000000 in
theorem wtext_spec (G : Glob) (t : Tb) (ht : InT t) : PureC Tryd.prog G 11 [dTw ⟨t.secs, t.pts, t.rts.map convR⟩] (.v (.string (bs (tbT t)))) := by
  obtain ⟨S, P, rts⟩ := t
  obtain ⟨s1, s3, p0, p2, n8, rs⟩ := ht
  dsimp only at s1 s3 p0 p2 n8 rs
  have hl0 := headT_len s1 s3 p0 p2
  have hhd : headT S P = [115, 101, 99, 116, 105, 111, 110, 115, 32] ++ dig S.toNat ++ [10, 112, 111, 105, 110, 116, 115, 32] ++ dig P.toNat ++ [10] := rfl
  have hlS := dig_len (n := S.toNat) (by omega)
  have hlP := dig_len (n := P.toNat) (by omega)
  have tS := told_spec G S (by omega)
  have tP := told_spec G P (by omega)
  have htb : tbT ⟨S, P, rts⟩ = headT S P ++ rtsT rts := rfl
  rw [htb]
  generalize headT S P = hd at hl0 hhd
  generalize dig S.toNat = dgS at tS hlS hhd
  generalize dig P.toNat = dgP at tP hlP hhd
  refine PureC.of_body (tyOf_good _) Tryd.func11 rfl rfl (rs := [.tmp 2]) Tryd.results11 (by simp [Tryd.ntmps11]) fun X => ?_
  simp only [Tryd.ntmps11, List.map]
  refine AW_rg (tyOf_good _) [1] [1] (fun _ _ => trivial) fun K' hK' => ?_
  repeat (refine sxf_next fun K2 hK2 => ?_; simp [dTw, cTw, dRws]; (repeat (refine ⟨by omega, ?_⟩)); refine hK2 _ ?_; clear hK2 K2)
  refine sxf_nil (hK' _ ?_)
  refine AW.st (by simp [dTw, cTw, dRws]; rfl) ?_
  clear hK' K'
  refine AW.imp (Imp.freezeB 1 trivial) ?_
  refine AW.st (by simp [dTw, cTw, dRws]; rfl) ?_
  refine AW_rb (tyOf_good _) (by kernel_rfl) ([2, 8]) ([0, 1, 2, 3, 4, 5, 6, 7, 8, 9, 10, 11, 12]) [1, 3] [] (fun _ _ => trivial) (by kernel_rfl) fun K' hK' => ?_
  repeat (refine sxb_nextO rfl fun K2 hK2 => ?_; simp [dTw, cTw, dRws, lxse, lxpo, lx10, binS_add]; (repeat (refine ⟨by omega, ?_⟩)); refine hK2 _ ?_; clear hK2 K2)
  refine sxb_nextO rfl fun K2 hK2 => ?_
  simp [dTw, cTw, dRws, lxse, lxpo, lx10, binS_add]
  refine callD.mk (tS) (by simp; rfl) (by simp; rfl) (by first | exact D.leGo_refl _ | simp [takeMap, List.map_map, Function.comp_def, D.le, D.le.go, D.le_refl, D.leGo_refl, dTw, cTw, dRws, lxse, lxpo, lx10, binS_add]) (by simp) ?_
  refine hK2 _ ?_
  clear hK2 K2
  simp only [putd, upd_lst]
  repeat (refine sxb_nextO rfl fun K2 hK2 => ?_; simp [dTw, cTw, dRws, lxse, lxpo, lx10, binS_add]; (repeat (refine ⟨by omega, ?_⟩)); refine hK2 _ ?_; clear hK2 K2)
  refine sxb_nextO rfl fun K2 hK2 => ?_
  simp [dTw, cTw, dRws, lxse, lxpo, lx10, binS_add]
  refine callD.mk (tP) (by simp; rfl) (by simp; rfl) (by first | exact D.leGo_refl _ | simp [takeMap, List.map_map, Function.comp_def, D.le, D.le.go, D.le_refl, D.leGo_refl, dTw, cTw, dRws, lxse, lxpo, lx10, binS_add]) (by simp) ?_
  refine hK2 _ ?_
  clear hK2 K2
  simp only [putd, upd_lst]
  repeat (refine sxb_nextO rfl fun K2 hK2 => ?_; simp [dTw, cTw, dRws, lxse, lxpo, lx10, binS_add]; (repeat (refine ⟨by omega, ?_⟩)); refine hK2 _ ?_; clear hK2 K2)
  refine sxb_nilO (hK' _ ?_)
  refine AW.st (by simp [dTw, cTw, dRws, lxse, lxpo, lx10, binS_add]; rfl) ?_
  clear hK' K'
  refine AW_then fun K1 hK1 => ?_
  refine AW_rg (tyOf_good _) [3, 24, 25, 26] [] (fun _ _ => trivial) fun K' hK' => ?_
  repeat (refine sxf_next fun K2 hK2 => ?_; simp [dTw, cTw, dRws]; (repeat (refine ⟨by omega, ?_⟩)); refine hK2 _ ?_; clear hK2 K2)
  refine sxf_nil (hK' _ ?_)
  refine AW.st (by simp [dTw, cTw, dRws]; rfl) ?_
  clear hK' K'
  refine AW_for (S := Nat) (fun i => i ≤ rts.length) (fun i => ⟨lst [(3, .d (.v (.string (bs (hd ++ rtsT (rts.take i)))))), (24, .d (.sl none ((rts.map convR).map cRw))), (25, int rts.length), (26, int i)], hlst []⟩) (fun i => rts.length - i) 0 ?_ (by simp) ?_
  · refine Imp.to' (fun _ _ => trivial) (by simp [dTw, cTw, dRws, rtsT_zero, hhd]) (by simp [dTw, cTw, dRws, rtsT_zero, hhd])
  · intro i hi
    have hlr := rtsT_len (l := rts.take i) s3 p2 (fun r hr => rs r (mem_take hr)) (by rw [List.length_take]; omega)
    refine AW_rg (tyOf_good _) [3, 24, 25, 26, 27] [] (fun _ _ => trivial) fun K' hK' => ?_
    repeat (refine sxf_next fun K2 hK2 => ?_; simp [dTw, cTw, dRws]; (repeat (refine ⟨by omega, ?_⟩)); refine hK2 _ ?_; clear hK2 K2)
    refine sxf_nil (hK' _ ?_)
    refine AW.st (by simp [dTw, cTw, dRws]; rfl) ?_
    clear hK' K'
    refine AW_then fun K2 hK2 => ?_
    refine AW_cond' (b := i < rts.length) (by simp [D.le, D.le.go, takeMap, dTw, cTw, dRws]) (fun hc => ?_) (fun hc => ?_)
    · have hil := hc
      have hin := rs _ (List.getElem_mem hil)
      have hsuc := rtsT_succ hil
      have hrt : rtT rts[i] = [114, 111, 117, 116, 101] ++ secsT rts[i].1 ++ [32, 58] ++ ptsT rts[i].2 ++ [10] := rfl
      have hcr : convR rts[i] = (rts[i].1, rts[i].2.map convP) := rfl
      generalize rtT rts[i] = rt at hsuc hrt
      obtain ⟨q20, q21, qs, qp⟩ := hin
      generalize rts[i].1 = ss at hrt hcr q20 qs
      generalize rts[i].2 = ps at hrt hcr q21 qp
      generalize rtsT (rts.take i) = pre at hlr hsuc
      refine AW_skip (hK2 _ ?_)
      refine AW_then fun K3 hK3 => ?_
      refine AW_block ?_
      refine AW_rg (tyOf_good _) [3, 5, 24, 25, 26] [5] (fun _ _ => trivial) fun K' hK' => ?_
      repeat (refine sxf_next fun K2 hK2 => ?_; simp [dTw, cTw, dRws, hil, hcr, cRw, dRow_eq]; (repeat (refine ⟨by omega, ?_⟩)); refine hK2 _ ?_; clear hK2 K2)
      refine sxf_nil (hK' _ ?_)
      refine AW.st (by simp [dTw, cTw, dRws, hil, hcr, cRw, dRow_eq]; rfl) ?_
      clear hK' K'
      refine AW.imp (Imp.freezeB 5 trivial) ?_
      refine AW.st (by simp [dTw, cTw, dRws]; rfl) ?_
      refine AW_rg (tyOf_good _) [3, 5, 24, 25, 26] [] (fun _ _ => trivial) fun K' hK' => ?_
      repeat (refine sxf_next fun K2 hK2 => ?_; simp [dTw, cTw, dRws, lxrt, binS_add]; (repeat (refine ⟨by omega, ?_⟩)); refine hK2 _ ?_; clear hK2 K2)
      refine sxf_nil (hK' _ ?_)
      refine AW.st (by simp [dTw, cTw, dRws, lxrt, binS_add]; rfl) ?_
      clear hK' K'
      refine AW_then fun K4 hK4 => ?_
      refine AW_rg (tyOf_good _) [3, 5, 24, 25, 26, 33, 34, 35] [] (fun _ _ => trivial) fun K' hK' => ?_
      repeat (refine sxf_next fun K2 hK2 => ?_; simp [dTw, cTw, dRws]; (repeat (refine ⟨by omega, ?_⟩)); refine hK2 _ ?_; clear hK2 K2)
      refine sxf_nil (hK' _ ?_)
      refine AW.st (by simp [dTw, cTw, dRws]; rfl) ?_
      clear hK' K'
      refine AW_for (S := Nat) (fun j => j ≤ ss.length) (fun j => ⟨lst [(3, .d (.v (.string (bs (hd ++ pre ++ [114, 111, 117, 116, 101] ++ secsT (ss.take j)))))), (5, .d (.ip [.sl none (ss.map (fun x => [D.v (.int .i64 x)])), .sl none ((ps.map convP).map (fun x => [D.v (.int .i64 x)]))])), (24, .d (.sl none ((rts.map convR).map cRw))), (25, int rts.length), (26, int i), (33, .d (.sl none (ss.map (fun x => [D.v (.int .i64 x)])))), (34, int ss.length), (35, int j)], hlst []⟩) (fun j => ss.length - j) 0 ?_ (by simp) ?_
      · refine Imp.to' (fun _ _ => trivial) (by simp [dTw, cTw, dRws, secsT_zero]) (by simp [dTw, cTw, dRws, secsT_zero])
      · intro j hj
        have hls := secsT_len (l := ss.take j) (fun s hs => by have := qs s (mem_take hs); omega) (by rw [List.length_take]; omega)
        refine AW_rg (tyOf_good _) [3, 5, 24, 25, 26, 33, 34, 35, 36] [] (fun _ _ => trivial) fun K' hK' => ?_
        repeat (refine sxf_next fun K2 hK2 => ?_; simp [dTw, cTw, dRws]; (repeat (refine ⟨by omega, ?_⟩)); refine hK2 _ ?_; clear hK2 K2)
        refine sxf_nil (hK' _ ?_)
        refine AW.st (by simp [dTw, cTw, dRws]; rfl) ?_
        clear hK' K'
        refine AW_then fun K5 hK5 => ?_
        refine AW_cond' (b := j < ss.length) (by simp [D.le, D.le.go, takeMap, dTw, cTw, dRws]) (fun hc => ?_) (fun hc => ?_)
        · have hjl := hc
          have hsj := secsT_succ hjl
          have hse : secT ss[j] = 32 :: dig ss[j].toNat := rfl
          have hsr := qs _ (List.getElem_mem hjl)
          have tj := told_spec G ss[j] (by omega)
          have hlj := dig_len (n := ss[j].toNat) (by omega)
          generalize dig ss[j].toNat = dj at tj hse hlj
          rw [hse] at hsj
          generalize secsT (ss.take j) = sj at hls hsj
          refine AW_skip (hK5 _ ?_)
          refine AW_then fun K6 hK6 => ?_
          refine AW_block ?_
          refine AW_rg (tyOf_good _) [3, 5, 7, 24, 25, 26, 33, 34, 35] [] (fun _ _ => trivial) fun K' hK' => ?_
          repeat (refine sxf_next fun K2 hK2 => ?_; simp [dTw, cTw, dRws, hjl]; (repeat (refine ⟨by omega, ?_⟩)); refine hK2 _ ?_; clear hK2 K2)
          refine sxf_nil (hK' _ ?_)
          refine AW.st (by simp [dTw, cTw, dRws, hjl]; rfl) ?_
          clear hK' K'
          refine AW_re (tyOf_good _) fun K' hK' => ?_
          repeat (refine sxf_next fun K2 hK2 => ?_; simp [dTw, cTw, dRws, lx32, binS_add]; (repeat (refine ⟨by omega, ?_⟩)); refine hK2 _ ?_; clear hK2 K2)
          refine sxf_next fun K2 hK2 => ?_
          simp [dTw, cTw, dRws, lx32, binS_add]
          refine callK.lend (tj) (by simp; rfl) (by first | exact D.leGo_refl _ | simp [takeMap, List.map_map, Function.comp_def, D.le, D.le.go, D.le_refl, D.leGo_refl, dTw, cTw, dRws, lx32, binS_add]) (by simp [D.scalar]) ?_
          refine hK2 _ ?_
          clear hK2 K2
          simp only [putd, upd_lst]
          repeat (refine sxf_next fun K2 hK2 => ?_; simp [dTw, cTw, dRws, lx32, binS_add]; (repeat (refine ⟨by omega, ?_⟩)); refine hK2 _ ?_; clear hK2 K2)
          refine sxf_nil (hK' _ ?_)
          clear hK' K'
          refine hK6 _ (AW.norm [3, 5, 24, 25, 26, 33, 34, 35] [] (fun _ _ => trivial) (AW.st (by simp [dTw, cTw, dRws, lx32, binS_add]; rfl) ?_))
          refine AW_re (tyOf_good _) fun K' hK' => ?_
          repeat (refine sxf_next fun K2 hK2 => ?_; simp [dTw, cTw, dRws]; (repeat (refine ⟨by omega, ?_⟩)); refine hK2 _ ?_; clear hK2 K2)
          refine sxf_nil (hK' _ ?_)
          clear hK' K'
          try simp only [thn, inb]
          refine Again.mk (j + 1) (by omega) (by omega) ?_
          refine Imp.to' (fun _ _ => trivial) (by simp [dTw, cTw, dRws, hsj]) (by simp [dTw, cTw, dRws, hsj])
        · obtain rfl : j = ss.length := by omega
          rw [List.take_length] at hls ⊢
          generalize secsT ss = sall at hls hrt
          refine AW_exit (hK4 _ ?_)
          refine AW_rg (tyOf_good _) [3, 5, 24, 25, 26] [] (fun _ _ => trivial) fun K' hK' => ?_
          repeat (refine sxf_next fun K2 hK2 => ?_; simp [dTw, cTw, dRws, lxco, binS_add]; (repeat (refine ⟨by omega, ?_⟩)); refine hK2 _ ?_; clear hK2 K2)
          refine sxf_nil (hK' _ ?_)
          refine AW.st (by simp [dTw, cTw, dRws, lxco, binS_add]; rfl) ?_
          clear hK' K'
          refine AW_then fun K7 hK7 => ?_
          refine AW_rg (tyOf_good _) [3, 24, 25, 26, 49, 50, 51] [] (fun _ _ => trivial) fun K' hK' => ?_
          repeat (refine sxf_next fun K2 hK2 => ?_; simp [dTw, cTw, dRws]; (repeat (refine ⟨by omega, ?_⟩)); refine hK2 _ ?_; clear hK2 K2)
          refine sxf_nil (hK' _ ?_)
          refine AW.st (by simp [dTw, cTw, dRws]; rfl) ?_
          clear hK' K'
          refine AW_for (S := Nat) (fun j => j ≤ ps.length) (fun j => ⟨lst [(3, .d (.v (.string (bs (hd ++ pre ++ [114, 111, 117, 116, 101] ++ sall ++ [32, 58] ++ ptsT (ps.take j)))))), (24, .d (.sl none ((rts.map convR).map cRw))), (25, int rts.length), (26, int i), (49, .d (.sl none ((ps.map convP).map (fun x => [D.v (.int .i64 x)])))), (50, int ps.length), (51, int j)], hlst []⟩) (fun j => ps.length - j) 0 ?_ (by simp) ?_
          · refine Imp.to' (fun _ _ => trivial) (by simp [dTw, cTw, dRws, ptsT_zero]) (by simp [dTw, cTw, dRws, ptsT_zero])
          · intro j hj
            have hlp := ptsT_len (l := ps.take j) (fun s hs => by have := qp s (mem_take hs); omega) (by rw [List.length_take]; omega)
            refine AW_rg (tyOf_good _) [3, 24, 25, 26, 49, 50, 51, 52] [] (fun _ _ => trivial) fun K' hK' => ?_
            repeat (refine sxf_next fun K2 hK2 => ?_; simp [dTw, cTw, dRws]; (repeat (refine ⟨by omega, ?_⟩)); refine hK2 _ ?_; clear hK2 K2)
            refine sxf_nil (hK' _ ?_)
            refine AW.st (by simp [dTw, cTw, dRws]; rfl) ?_
            clear hK' K'
            refine AW_then fun K8 hK8 => ?_
            refine AW_cond' (b := j < ps.length) (by simp [D.le, D.le.go, takeMap, dTw, cTw, dRws]) (fun hc => ?_) (fun hc => ?_)
            · have hjl := hc
              have hsj := ptsT_succ hjl
              have hse : ptT ps[j] = 32 :: (dig ps[j].1.toNat ++ [if ps[j].2 then 43 else 45]) := rfl
              have hsr := qp _ (List.getElem_mem hjl)
              have hneg := convP_nn p2 hsr
              have habs := absI_conv ps[j]
              rw [if_neg (by omega)] at habs
              have hsm : SmallN (convP ps[j]) := by
                have := habs; unfold absI at this; unfold SmallN; split at this <;> omega
              have ha := abs_spec G _ hsm
              rw [habs] at ha
              generalize hcv : convP ps[j] = cv at ha hneg
              have tj := told_spec G ps[j].1 (by omega)
              have hlj := dig_len (n := ps[j].1.toNat) (by omega)
              generalize dig ps[j].1.toNat = dj at tj hse hlj
              generalize ps[j].1 = pn at hsr ha tj
              generalize ps[j].2 = po at hse hneg
              rw [hse] at hsj
              generalize ptsT (ps.take j) = pj at hlp hsj
              refine AW_skip (hK8 _ ?_)
              refine AW_then fun K9 hK9 => ?_
              refine AW_block ?_
              refine AW_rg (tyOf_good _) [3, 9, 24, 25, 26, 49, 50, 51] [] (fun _ _ => trivial) fun K' hK' => ?_
              repeat (refine sxf_next fun K2 hK2 => ?_; simp [dTw, cTw, dRws, hjl, hcv]; (repeat (refine ⟨by omega, ?_⟩)); refine hK2 _ ?_; clear hK2 K2)
              refine sxf_nil (hK' _ ?_)
              refine AW.st (by simp [dTw, cTw, dRws, hjl, hcv]; rfl) ?_
              clear hK' K'
              refine AW_rg (tyOf_good _) [3, 9, 10, 24, 25, 26, 49, 50, 51] [] (fun _ _ => trivial) fun K' hK' => ?_
              repeat (refine sxf_next fun K2 hK2 => ?_; simp [dTw, cTw, dRws]; (repeat (refine ⟨by omega, ?_⟩)); refine hK2 _ ?_; clear hK2 K2)
              refine sxf_nil (hK' _ ?_)
              refine AW.st (by simp [dTw, cTw, dRws]; rfl) ?_
              clear hK' K'
              refine AW_then fun K10 hK10 => ?_
              refine AW_rg (tyOf_good _) [3, 9, 10, 24, 25, 26, 49, 50, 51, 56] [] (fun _ _ => trivial) fun K' hK' => ?_
              repeat (refine sxf_next fun K2 hK2 => ?_; simp [dTw, cTw, dRws]; (repeat (refine ⟨by omega, ?_⟩)); refine hK2 _ ?_; clear hK2 K2)
              refine sxf_nil (hK' _ ?_)
              refine AW.st (by simp [dTw, cTw, dRws]; rfl) ?_
              clear hK' K'
              refine AW_cond' (b := cv < 0) (by simp [D.le, D.le.go, takeMap]) (fun hcn => ?_) (fun hcn => ?_)
              · obtain rfl : po = false := by
                  rw [decide_eq_true hcn] at hneg; cases po <;> first | rfl | exact absurd hneg (by decide)
                simp only [Bool.false_eq_true, if_false] at hsj
                refine AW_re (tyOf_good _) fun K' hK' => ?_
                repeat (refine sxf_next fun K2 hK2 => ?_; simp [dTw, cTw, dRws]; (repeat (refine ⟨by omega, ?_⟩)); refine hK2 _ ?_; clear hK2 K2)
                refine sxf_nil (hK' _ ?_)
                clear hK' K'
                refine hK10 _ (AW.norm [3, 9, 10, 24, 25, 26, 49, 50, 51] [] (fun _ _ => trivial) (AW.st (by simp [dTw, cTw, dRws]; rfl) ?_))
                refine AW_re (tyOf_good _) fun K' hK' => ?_
                repeat (refine sxf_next fun K2 hK2 => ?_; simp [dTw, cTw, dRws, lx32, lx43, lx45, binS_add]; (repeat (refine ⟨by omega, ?_⟩)); refine hK2 _ ?_; clear hK2 K2)
                refine sxf_next fun K2 hK2 => ?_
                simp [dTw, cTw, dRws, lx32, lx43, lx45, binS_add]
                refine callK.data (ha) (by simp; rfl) (by first | exact D.leGo_refl _ | simp [takeMap, List.map_map, Function.comp_def, D.le, D.le.go, D.le_refl, D.leGo_refl, dTw, cTw, dRws, lx32, lx43, lx45, binS_add]) ?_
                refine hK2 _ ?_
                clear hK2 K2
                simp only [putd, upd_lst]
                repeat (refine sxf_next fun K2 hK2 => ?_; simp [dTw, cTw, dRws, lx32, lx43, lx45, binS_add]; (repeat (refine ⟨by omega, ?_⟩)); refine hK2 _ ?_; clear hK2 K2)
                refine sxf_next fun K2 hK2 => ?_
                simp [dTw, cTw, dRws, lx32, lx43, lx45, binS_add]
                refine callK.lend (tj) (by simp; rfl) (by first | exact D.leGo_refl _ | simp [takeMap, List.map_map, Function.comp_def, D.le, D.le.go, D.le_refl, D.leGo_refl, dTw, cTw, dRws, lx32, lx43, lx45, binS_add]) (by simp [D.scalar]) ?_
                refine hK2 _ ?_
                clear hK2 K2
                simp only [putd, upd_lst]
                repeat (refine sxf_next fun K2 hK2 => ?_; simp [dTw, cTw, dRws, lx32, lx43, lx45, binS_add]; (repeat (refine ⟨by omega, ?_⟩)); refine hK2 _ ?_; clear hK2 K2)
                refine sxf_nil (hK' _ ?_)
                clear hK' K'
                refine hK9 _ (AW.norm [3, 24, 25, 26, 49, 50, 51] [] (fun _ _ => trivial) (AW.st (by simp [dTw, cTw, dRws, lx32, lx43, lx45, binS_add]; rfl) ?_))
                refine AW_re (tyOf_good _) fun K' hK' => ?_
                repeat (refine sxf_next fun K2 hK2 => ?_; simp [dTw, cTw, dRws]; (repeat (refine ⟨by omega, ?_⟩)); refine hK2 _ ?_; clear hK2 K2)
                refine sxf_nil (hK' _ ?_)
                clear hK' K'
                try simp only [thn, inb]
                refine Again.mk (j + 1) (by omega) (by omega) ?_
                refine Imp.to' (fun _ _ => trivial) (by simp [dTw, cTw, dRws, hsj]) (by simp [dTw, cTw, dRws, hsj])
              · obtain rfl : po = true := by
                  rw [decide_eq_false hcn] at hneg; cases po <;> first | rfl | exact absurd hneg (by decide)
                simp only [if_true] at hsj
                refine AW_skip (hK10 _ ?_)
                refine AW_re (tyOf_good _) fun K' hK' => ?_
                repeat (refine sxf_next fun K2 hK2 => ?_; simp [dTw, cTw, dRws, lx32, lx43, lx45, binS_add]; (repeat (refine ⟨by omega, ?_⟩)); refine hK2 _ ?_; clear hK2 K2)
                refine sxf_next fun K2 hK2 => ?_
                simp [dTw, cTw, dRws, lx32, lx43, lx45, binS_add]
                refine callK.data (ha) (by simp; rfl) (by first | exact D.leGo_refl _ | simp [takeMap, List.map_map, Function.comp_def, D.le, D.le.go, D.le_refl, D.leGo_refl, dTw, cTw, dRws, lx32, lx43, lx45, binS_add]) ?_
                refine hK2 _ ?_
                clear hK2 K2
                simp only [putd, upd_lst]
                repeat (refine sxf_next fun K2 hK2 => ?_; simp [dTw, cTw, dRws, lx32, lx43, lx45, binS_add]; (repeat (refine ⟨by omega, ?_⟩)); refine hK2 _ ?_; clear hK2 K2)
                refine sxf_next fun K2 hK2 => ?_
                simp [dTw, cTw, dRws, lx32, lx43, lx45, binS_add]
                refine callK.lend (tj) (by simp; rfl) (by first | exact D.leGo_refl _ | simp [takeMap, List.map_map, Function.comp_def, D.le, D.le.go, D.le_refl, D.leGo_refl, dTw, cTw, dRws, lx32, lx43, lx45, binS_add]) (by simp [D.scalar]) ?_
                refine hK2 _ ?_
                clear hK2 K2
                simp only [putd, upd_lst]
                repeat (refine sxf_next fun K2 hK2 => ?_; simp [dTw, cTw, dRws, lx32, lx43, lx45, binS_add]; (repeat (refine ⟨by omega, ?_⟩)); refine hK2 _ ?_; clear hK2 K2)
                refine sxf_nil (hK' _ ?_)
                clear hK' K'
                refine hK9 _ (AW.norm [3, 24, 25, 26, 49, 50, 51] [] (fun _ _ => trivial) (AW.st (by simp [dTw, cTw, dRws, lx32, lx43, lx45, binS_add]; rfl) ?_))
                refine AW_re (tyOf_good _) fun K' hK' => ?_
                repeat (refine sxf_next fun K2 hK2 => ?_; simp [dTw, cTw, dRws]; (repeat (refine ⟨by omega, ?_⟩)); refine hK2 _ ?_; clear hK2 K2)
                refine sxf_nil (hK' _ ?_)
                clear hK' K'
                try simp only [thn, inb]
                refine Again.mk (j + 1) (by omega) (by omega) ?_
                refine Imp.to' (fun _ _ => trivial) (by simp [dTw, cTw, dRws, hsj]) (by simp [dTw, cTw, dRws, hsj])
            · obtain rfl : j = ps.length := by omega
              rw [List.take_length] at hlp ⊢
              generalize ptsT ps = pall at hlp hrt
              refine AW_exit (hK7 _ ?_)
              refine AW_re (tyOf_good _) fun K' hK' => ?_
              repeat (refine sxf_next fun K2 hK2 => ?_; simp [dTw, cTw, dRws, lx10, binS_add]; (repeat (refine ⟨by omega, ?_⟩)); refine hK2 _ ?_; clear hK2 K2)
              refine sxf_nil (hK' _ ?_)
              clear hK' K'
              refine hK3 _ (AW.norm [3, 24, 25, 26] [] (fun _ _ => trivial) (AW.st (by simp [dTw, cTw, dRws, lx10, binS_add]; rfl) ?_))
              refine AW_re (tyOf_good _) fun K' hK' => ?_
              repeat (refine sxf_next fun K2 hK2 => ?_; simp [dTw, cTw, dRws]; (repeat (refine ⟨by omega, ?_⟩)); refine hK2 _ ?_; clear hK2 K2)
              refine sxf_nil (hK' _ ?_)
              clear hK' K'
              try simp only [thn, inb]
              refine Again.mk (i + 1) (by omega) (by omega) ?_
              rw [hrt] at hsuc
              refine Imp.to' (fun _ _ => trivial) (by simp [dTw, cTw, dRws, hsuc]) (by simp [dTw, cTw, dRws, hsuc])
    · obtain rfl : i = rts.length := by omega
      rw [List.take_length]
      refine AW_exit (hK1 _ ?_)
      refine AW_rg (tyOf_good _) [2] [] (fun _ _ => trivial) fun K' hK' => ?_
      repeat (refine sxf_next fun K2 hK2 => ?_; simp [dTw, cTw, dRws]; (repeat (refine ⟨by omega, ?_⟩)); refine hK2 _ ?_; clear hK2 K2)
      refine sxf_nil (hK' _ ?_)
      refine AW.st (by simp [dTw, cTw, dRws]; rfl) ?_
      clear hK' K'
      refine AW_ret ?_
      simp [D.le, D.le.go, takeMap, dTw, cTw, dRws]
end Go.Proofs.YtnlhioeefmhklaaDoor

/-
  strings.Builder: its check, its string.
-/
namespace Go.Proofs.YtnlhioeefmhklaaDoor
set_option linter.unusedSimpArgs false
set_option linter.unusedVariables false
open Go.Av

/-- A builder's rows: 500 the builder (its own address, its bytes' handle), 501 the bytes. -/
def sbB (a : AV) (l : List UInt8) : List (Nat × Row) := [(500, .box 68 [a, .own 501 0 l.length]), (501, .sl 5 1 (l.map fun b => [.v (.int .u8 b.toNat)]))]
/-- What stands as the address: none yet, or its own. -/
def SbA (a : AV) : Prop := a = .d (.v (.pointer none)) ∨ a = .ref 500 0 0

section
variable {X Mv : Nat → Prop} {w w' : World} {μ : Mu} {H : Heap}
theorem sim_write (hs : Sim w X μ H) {r b : Nat} {m : MRow} (hm : μ r = some m) (hb : m.blk = some b) (hz : w'.heap.size = w.heap.size) (ho : w'.os = w.os) (ht : w'.tape = w.tape) (hout : w'.output = w.output)
    (hsame : ∀ k, k ≠ b → w'.heap[k]? = w.heap[k]?) {row : Row} (ok : Ev Mv w μ w' μ → RowOk w' X μ m row) : Sim w' X μ (hup H r row) ∧ Ev Mv w μ w' μ := by
  have ev : Ev Mv w μ w' μ := ⟨by omega, ho, ht, hout, fun k hk hr => ⟨hsame k fun e => hr ⟨r, m, hm, e ▸ hb⟩, hr⟩, fun _ _ h _ => h⟩
  have ok := ok ev
  refine ⟨⟨fun q row' hq => ?_, fun q m' hq => ?_, hs.inj, hs.frame, fun b hb => by have := hs.fits b hb; omega⟩, ev⟩
  · dsimp only [hup] at hq
    split at hq
    · rename_i e
      subst e
      obtain rfl := Option.some.inj hq
      exact ⟨m, hm, ok⟩
    · rename_i e
      obtain ⟨m', hm', ok'⟩ := hs.rows q row' hq
      exact ⟨m', hm', ok'.same ev (fun _ _ h => h) fun k hk => hsame k fun e' => e (hs.inj q r m' m k hm' hm hk (e' ▸ hb))⟩
  · by_cases e : q = r
    · exact ⟨row, by simp [hup, e]⟩
    · obtain ⟨row', hr'⟩ := hs.dom q m' hq
      exact ⟨row', by simp [hup, e, hr']⟩
end

theorem copyCheck_mc (G : Glob) (a : AV) (ha : SbA a) (l : List UInt8) : MC Tryd.prog G [500, 501] 36 [.ref 500 0 0] (hlst (sbB a l)) (.d (.tup [])) (hlst (sbB (.ref 500 0 0) l)) := by
  refine ⟨Fun.of Tryd.func36 rfl rfl, fun X w μ vs hs hgl hsz hv => ?_⟩
  obtain ⟨v, rfl⟩ : ∃ v, vs = #[v] := by
    match vs, hsz with
    | ⟨[v]⟩, _ => exact ⟨v, rfl⟩
  obtain ⟨m, b, hm, hb, rfl⟩ := (hv 0 v _ rfl rfl).ref_inv
  rw [Nat.zero_mul, Nat.zero_add]
  have hL : Lays.n240 Tryd.prog Tryd.lays156_ren := { Tryd.lays156 with }
  obtain ⟨m', hm', ok⟩ := hs.rows 500 (.box 68 [a, .own 501 0 l.length]) rfl
  rw [hm] at hm'
  obtain rfl := Option.some.inj hm'
  cases ok with
  | box hb' hs9 hcap hh hn hr hx =>
    rename_i b' cur
    rw [hb] at hb'
    obtain rfl := Option.some.inj hb'
    have hcs : cur.size = 2 := (hx rfl).symm
    obtain ⟨x0, x1, rfl⟩ : ∃ x0 x1, cur = #[x0, x1] := by
      match cur, hcs with
      | ⟨[x0, x1]⟩, _ => exact ⟨x0, x1, rfl⟩
    have h0 := hr 0 x0 a rfl rfl
    have hbl : b < w.heap.size := hs.blk_lt ⟨500, m, hm, hb⟩
    rcases ha with rfl | rfl
    · have hc0 : x0 = .pointer none := h0.scalar
      subst hc0
      refine (Any.Builder_copyCheck_fresh hL Tryd.Builder_Extra_156.toX72 b w (by rw [Lib.cell_of_heap hh]; rfl) (by simp [World.shape?, hh]; rfl) (Lib.frozen_of_heap hh 0)).mono fun e w' ⟨he, hw⟩ => ?_
      subst hw
      have hh' : (w.setCell ⟨b, 0, none⟩ (.pointer (some ⟨b, 0, none⟩))).heap[b]? = some (.cells #[.pointer (some ⟨b, 0, none⟩), x1] 68 (0, 0)) := by
        simp [World.setCell, Array.getElem?_modify, hh]
      obtain ⟨h1, h2⟩ := sim_write (Mv := notIn [500, 501]) (w' := w.setCell ⟨b, 0, none⟩ (.pointer (some ⟨b, 0, none⟩))) hs hm hb (by simp [World.setCell]) rfl rfl rfl (fun k hk => by simp [World.setCell, Array.getElem?_modify, Ne.symm hk]) (row := .box 68 [.ref 500 0 0, .own 501 0 l.length]) fun ev =>
        .box hb rfl hcap hh' (by simp) (hx := fun _ => rfl) fun j u c hu hc => by
          match j, hu, hc with
          | 0, hu, hc =>
            simp at hu hc
            subst hu hc
            have := RV.ref (w := w.setCell ⟨b, 0, none⟩ (.pointer (some ⟨b, 0, none⟩))) (X := X) (e := 0) (j := 0) hm hb
            simpa using this
          | 1, hu, hc => exact (hr 1 u c (by simpa using hu) hc).same ev fun _ _ h => h
          | j + 2, hu, hc => simp at hc
      have hH : hup (hlst (sbB (.d (.v (.pointer none))) l)) 500 (.box 68 [.ref 500 0 0, .own 501 0 l.length]) = hlst (sbB (.ref 500 0 0) l) := by
        funext q
        by_cases h : q = 500
        · subst h; rfl
        · have hq : (q == 500) = false := by simpa using h
          simp only [hup, if_neg h, sbB, hlst, List.lookup, hq]
      rw [hH] at h1
      exact ⟨_, _, _, μ, he, ⟨rfl, rfl⟩, .d (.tup rfl fun j u c hu hc => by simp at hu), h1, h2⟩
    · obtain ⟨m2, b2, hm2, hb2, hc0⟩ := h0.ref_inv
      rw [hm] at hm2
      obtain rfl := Option.some.inj hm2
      rw [hb] at hb2
      obtain rfl := Option.some.inj hb2
      rw [Nat.zero_mul, Nat.zero_add] at hc0
      subst hc0
      refine (Any.Builder_copyCheck_used hL Tryd.Builder_Extra_156.toX72 b w (by rw [Lib.cell_of_heap hh]; rfl)).mono fun e w' ⟨he, hw⟩ => ?_
      subst hw
      exact ⟨_, _, _, μ, he, ⟨rfl, rfl⟩, .d (.tup rfl fun j u c hu hc => by simp at hu), hs, .refl _ _ _⟩
end Go.Proofs.YtnlhioeefmhklaaDoor

/-
  strings.Builder: WriteString.
-/
namespace Go.Proofs.YtnlhioeefmhklaaDoor
set_option linter.unusedSimpArgs false
set_option linter.unusedVariables false
open Go.Av

theorem byteEls_bs (s : List UInt8) : byteEls (bs s) = s.map fun b => [D.v (.int .u8 b.toNat)] := rfl
set_option maxHeartbeats 4000000 in
theorem wstr_mc (G : Glob) (a : AV) (ha : SbA a) (l s : List UInt8) (hn : l.length + s.length ≤ 2^40) : MC Tryd.prog G [500] 25 [.ref 500 0 0, .d (dS s)] (hlst (sbB a l)) (.d (.tup [dNum s.length, .v .nilIface])) (hlst (sbB (.ref 500 0 0) (l ++ s))) := by
  have hcc := copyCheck_mc G a ha l
  simp only [sbB] at hcc ⊢
  have htk : List.take l.length (l.map fun b => [D.v (.int .u8 b.toNat)]) = l.map fun b => [D.v (.int .u8 b.toNat)] := List.take_of_length_le (by simp)
  rcases ha with rfl | rfl
  · refine MC.of_body (tyOf_good _) Tryd.func25 rfl rfl (rs := [.tmp 4, .tmp 5]) Tryd.results25 (by simp [Tryd.ntmps25]) rfl fun X => ?_
    simp only [Tryd.ntmps25]
    refine AW_rg (tyOf_good _) [0, 1] [500, 501] (notIn_ok rfl) fun K' hK' => ?_
    repeat (refine sxf_next fun K2 hK2 => ?_; simp [dNum, dS]; (repeat (refine ⟨by omega, ?_⟩)); refine hK2 _ ?_; clear hK2 K2)
    refine sxf_nil (hK' _ ?_)
    refine AW.st (by simp [dNum, dS]; rfl) ?_
    clear hK' K'
    refine AW_rg (tyOf_good _) [0, 1] [500, 501] (notIn_ok rfl) fun K' hK' => ?_
    repeat (refine sxf_next fun K2 hK2 => ?_; simp [dNum, dS]; (repeat (refine ⟨by omega, ?_⟩)); refine hK2 _ ?_; clear hK2 K2)
    refine sxf_next fun K2 hK2 => ?_
    simp [dNum, dS]
    refine callK.mc (hcc) (by simp [dNum, dS]) (by simp [dNum, dS]) (by simp [dNum, dS]) (by simp [dNum, dS]) ?_
    simp [dNum, dS]
    refine hK2 _ ?_
    clear hK2 K2
    repeat (refine sxf_next fun K2 hK2 => ?_; simp [dNum, dS]; (repeat (refine ⟨by omega, ?_⟩)); refine hK2 _ ?_; clear hK2 K2)
    refine sxf_nil (hK' _ ?_)
    refine AW.st (by simp [dNum, dS]; rfl) ?_
    clear hK' K'
    refine AW_rg (tyOf_good _) [1] [500, 501] (notIn_ok rfl) fun K' hK' => ?_
    repeat (refine sxf_next fun K2 hK2 => ?_; simp [dNum, dS, byteEls_bs, bs_size, htk]; (repeat (refine ⟨by omega, ?_⟩)); refine hK2 _ ?_; clear hK2 K2)
    refine sxf_nil (hK' _ ?_)
    refine AW.st (by simp [dNum, dS, byteEls_bs, bs_size, htk]; rfl) ?_
    clear hK' K'
    refine AW_rg (tyOf_good _) [4, 5] [500, 501] (notIn_ok rfl) fun K' hK' => ?_
    repeat (refine sxf_next fun K2 hK2 => ?_; simp [dNum, dS, bs_size]; (repeat (refine ⟨by omega, ?_⟩)); refine hK2 _ ?_; clear hK2 K2)
    refine sxf_nil (hK' _ ?_)
    refine AW.st (by simp [dNum, dS, bs_size]; rfl) ?_
    clear hK' K'
    refine AW_ret ?_
    simp [D.le, D.le.go, takeMap, dNum, dS, dNum, D.le_refl]
  · refine MC.of_body (tyOf_good _) Tryd.func25 rfl rfl (rs := [.tmp 4, .tmp 5]) Tryd.results25 (by simp [Tryd.ntmps25]) rfl fun X => ?_
    simp only [Tryd.ntmps25]
    refine AW_rg (tyOf_good _) [0, 1] [500, 501] (notIn_ok rfl) fun K' hK' => ?_
    repeat (refine sxf_next fun K2 hK2 => ?_; simp [dNum, dS]; (repeat (refine ⟨by omega, ?_⟩)); refine hK2 _ ?_; clear hK2 K2)
    refine sxf_nil (hK' _ ?_)
    refine AW.st (by simp [dNum, dS]; rfl) ?_
    clear hK' K'
    refine AW_rg (tyOf_good _) [0, 1] [500, 501] (notIn_ok rfl) fun K' hK' => ?_
    repeat (refine sxf_next fun K2 hK2 => ?_; simp [dNum, dS]; (repeat (refine ⟨by omega, ?_⟩)); refine hK2 _ ?_; clear hK2 K2)
    refine sxf_next fun K2 hK2 => ?_
    simp [dNum, dS]
    refine callK.mc (hcc) (by simp [dNum, dS]) (by simp [dNum, dS]) (by simp [dNum, dS]) (by simp [dNum, dS]) ?_
    simp [dNum, dS]
    refine hK2 _ ?_
    clear hK2 K2
    repeat (refine sxf_next fun K2 hK2 => ?_; simp [dNum, dS]; (repeat (refine ⟨by omega, ?_⟩)); refine hK2 _ ?_; clear hK2 K2)
    refine sxf_nil (hK' _ ?_)
    refine AW.st (by simp [dNum, dS]; rfl) ?_
    clear hK' K'
    refine AW_rg (tyOf_good _) [1] [500, 501] (notIn_ok rfl) fun K' hK' => ?_
    repeat (refine sxf_next fun K2 hK2 => ?_; simp [dNum, dS, byteEls_bs, bs_size, htk]; (repeat (refine ⟨by omega, ?_⟩)); refine hK2 _ ?_; clear hK2 K2)
    refine sxf_nil (hK' _ ?_)
    refine AW.st (by simp [dNum, dS, byteEls_bs, bs_size, htk]; rfl) ?_
    clear hK' K'
    refine AW_rg (tyOf_good _) [4, 5] [500, 501] (notIn_ok rfl) fun K' hK' => ?_
    repeat (refine sxf_next fun K2 hK2 => ?_; simp [dNum, dS, bs_size]; (repeat (refine ⟨by omega, ?_⟩)); refine hK2 _ ?_; clear hK2 K2)
    refine sxf_nil (hK' _ ?_)
    refine AW.st (by simp [dNum, dS, bs_size]; rfl) ?_
    clear hK' K'
    refine AW_ret ?_
    simp [D.le, D.le.go, takeMap, dNum, dS, dNum, D.le_refl]
end Go.Proofs.YtnlhioeefmhklaaDoor

/-
  strings.Builder: String.
-/
namespace Go.Proofs.YtnlhioeefmhklaaDoor
set_option linter.unusedSimpArgs false
set_option linter.unusedVariables false
open Go.Av Go.Shelf Go.RowKit

section
variable {P : Program} {ρ : Ren}
set_option maxHeartbeats 2000000 in
set_option maxRecDepth 100000 in
/-- String of a builder that holds some bytes: they are told, and frozen where they lie; nothing else changes. -/
theorem str_some (L : Lays.n169 P ρ) (E : Builder.Extra P ρ) (b g cap : Nat) (p : Value) (cur : Array Value) (l : List UInt8) (h0 : l ≠ []) (w : World)
    (hbk : w.heap[b]? = some (.cells #[p, .slice (some ⟨g, 0, none⟩) l.length cap] (ρ.t 72) (0, 0))) (hg : w.heap[g]? = some (.cells cur (ρ.t 5) (0, 0))) (hn : l.length ≤ cap) (hcm : cap ≤ maxLen) (hcs : cur.size = cap)
    (hcell : ∀ (j : Nat) x, l[j]? = some x → cur[j]? = some (.int .u8 x.toNat)) :
    Calls P (ρ.f 169) #[.pointer (some ⟨b, 0, none⟩)] w fun e w' => e = .returned (.string ⟨l.toArray⟩) ∧ w' = w.drew.freeze ⟨g, 0, none⟩ l.length := by
  have hg' : w.drew.heap[g]? = some (.cells cur (ρ.t 5) (0, 0)) := hg
  have c1 : w.drew.cell? ⟨b, 1, none⟩ = some (.slice (some ⟨g, 0, none⟩) l.length cap) := by
    have : w.drew.heap[b]? = some (.cells #[p, .slice (some ⟨g, 0, none⟩) l.length cap] (ρ.t 72) (0, 0)) := hbk
    rw [Lib.cell_of_heap this]; rfl
  have hlp := List.length_pos_iff.2 h0
  have hSD : (Builtin.unsafeSliceData_ #[(ρ.t 37)] (ρ.t 127) #[.slice (some ⟨g, 0, none⟩) l.length cap]).run P w.drew = .ok (.pointer (some ⟨g, 0, none⟩)) w.drew :=
    Lib.run_unsafeSliceData_row _ _ _ _ _ _ (by omega)
  have hUS : (Builtin.unsafeString_ #[(ρ.t 127), (ρ.t 3)] (ρ.t 9) #[.pointer (some ⟨g, 0, none⟩), .int .i64 l.length]).run P w.drew = .ok (.string ⟨l.toArray⟩) (w.drew.freeze ⟨g, 0, none⟩ l.length) := by
    refine Lib.run_unsafeString_row w.drew (ρ.t 127) (ρ.t 3) (ρ.t 9) (ρ.t 5) L.t127 E.cellsByte g cur.size (by simp [World.shape?, hg']) l h0 (by omega) (by unfold maxLen at hcm; omega) fun j x hx => ?_
    rw [addr_add, cell_of_row w.drew g _ cur (ρ.t 5) (0, 0) hg']
    simpa using hcell j x hx
  have mixed := L.mixed
  have t72 := L.t72; have a72 := L.a72; have z72 := L.z72; have v72 := L.v72; have u72 := run_underlying L.t72
  have t70 := L.t70; have a70 := L.a70; have z70 := L.z70; have v70 := L.v70; have u70 := run_underlying L.t70
  have t37 := L.t37; have a37 := L.a37; have z37 := L.z37; have v37 := L.v37; have u37 := run_underlying L.t37
  have t127 := L.t127; have a127 := L.a127; have z127 := L.z127; have v127 := L.v127; have u127 := run_underlying L.t127
  have t3 := L.t3; have a3 := L.a3; have z3 := L.z3; have v3 := L.v3; have u3 := run_underlying L.t3
  have t9 := L.t9; have a9 := L.a9; have z9 := L.z9; have v9 := L.v9; have u9 := run_underlying L.t9
  have t5 := E.t5; have a5 := E.a5; have z5 := E.z5; have v5 := E.v5; have u5 := run_underlying E.t5
  go_enter L.f169, Body.n169_ntmps ρ
  go_wp2
  go_region_o
  all_goals (go_wp2; go_ret; exact ⟨rfl, rfl⟩)
end

theorem string_mc (G : Glob) (a : AV) (l : List UInt8) : MC Tryd.prog G [] 28 [.ref 500 0 0] (hlst (sbB a l)) (.d (dS l)) hno := by
  refine ⟨Fun.of Tryd.func28 rfl rfl, fun X w μ vs hs hgl hsz hv => ?_⟩
  obtain ⟨v, rfl⟩ : ∃ v, vs = #[v] := by
    match vs, hsz with
    | ⟨[v]⟩, _ => exact ⟨v, rfl⟩
  obtain ⟨m, b, hm, hb, rfl⟩ := (hv 0 v _ rfl rfl).ref_inv
  rw [Nat.zero_mul, Nat.zero_add]
  have hL : Lays.n169 Tryd.prog Tryd.lays156_ren := { Tryd.lays156 with }
  have fin : ∀ w' : World, w.heap.size ≤ w'.heap.size → w'.os = w.os → w'.tape = w.tape → w'.output = w.output → (∀ k, k < w.heap.size → ¬ ran μ k → w'.heap[k]? = w.heap[k]?) →
      Sim w' X (fun _ => none) hno ∧ Ev (notIn []) w μ w' (fun _ => none) := fun w' h1 ho ht hout hk =>
    ⟨Sim.none fun b hb => Nat.lt_of_lt_of_le (hs.fits b hb) h1, ⟨h1, ho, ht, hout, fun k hk' hr => ⟨hk k hk' hr, fun ⟨_, _, h, _⟩ => by cases h⟩, fun q m _ hn => absurd rfl hn⟩⟩
  obtain ⟨m', hm', ok⟩ := hs.rows 500 (.box 68 [a, .own 501 0 l.length]) rfl
  rw [hm] at hm'
  obtain rfl := Option.some.inj hm'
  cases ok with
  | box hb' hs9 hcap hh hn hr hx =>
    rename_i b' cur
    rw [hb] at hb'
    obtain rfl := Option.some.inj hb'
    have hcs : cur.size = 2 := (hx rfl).symm
    obtain ⟨x0, x1, rfl⟩ : ∃ x0 x1, cur = #[x0, x1] := by
      match cur, hcs with
      | ⟨[x0, x1]⟩, _ => exact ⟨x0, x1, rfl⟩
    obtain ⟨m5, hm5, hown⟩ := (hr 1 x1 (.own 501 0 l.length) rfl rfl).own_inv
    obtain ⟨m6, hm6, ok5⟩ := hs.rows 501 (.sl 5 1 (l.map fun b => [.v (.int .u8 b.toNat)])) rfl
    rw [hm5] at hm6
    obtain rfl := Option.some.inj hm6
    rcases hown with ⟨hbk, rfl, _, hl0⟩ | ⟨g, hbk, rfl, hl1⟩
    · have hl : l = [] := List.eq_nil_of_length_eq_zero hl0
      subst hl
      refine (Any.Builder_String_nil hL Tryd.Builder_Extra_156 w.heap.size b x0 w hh).mono fun e w' ⟨he, hbl⟩ => ?_
      obtain ⟨h1, h2⟩ := fin w' hbl.size hbl.os hbl.tape hbl.output fun k hk _ => hbl.block k hk
      exact ⟨_, _, _, _, he, ⟨rfl, rfl⟩, .d (.v _), h1, h2⟩
    · generalize hels : (l.map fun b => [D.v (.int .u8 b.toNat)]) = els at ok5
      cases ok5 with
      | nil h _ => rw [h] at hbk; cases hbk
      | sl hb5 hs5 hh5 hc5 hn5 hm5' hl5 hz5 hr5 =>
        rename_i g' cur5
        rw [hbk] at hb5
        obtain rfl := Option.some.inj hb5
        rw [hs5, Nat.zero_mul, Nat.sub_zero] at hh
        by_cases h0 : l = []
        · subst h0
          by_cases hc0 : m5.cap = 0
          · rw [hc0] at hh
            refine (Any.Builder_String_noroom hL Tryd.Builder_Extra_156 w.heap.size b g x0 cur5 w (Nat.le_refl _) hh hh5).mono fun e w' ⟨he, hbl⟩ => ?_
            obtain ⟨h1, h2⟩ := fin w' hbl.size hbl.os hbl.tape hbl.output fun k hk _ => hbl.block k hk
            exact ⟨_, _, _, _, he, ⟨rfl, rfl⟩, .d (.v _), h1, h2⟩
          · refine (Any.Builder_String_room hL Tryd.Builder_Extra_156 w.heap.size b g m5.cap x0 w hc0 hh).mono fun e w' ⟨he, hbl⟩ => ?_
            obtain ⟨h1, h2⟩ := fin w' hbl.size hbl.os hbl.tape hbl.output fun k hk _ => hbl.block k hk
            exact ⟨_, _, _, _, he, ⟨rfl, rfl⟩, .d (.v _), h1, h2⟩
        · refine (str_some hL Tryd.Builder_Extra_156 b g m5.cap x0 cur5 l h0 w hh hh5 (by omega) hm5' (by omega) fun j x hx => ?_).mono fun e w' ⟨he, hw⟩ => ?_
          · obtain ⟨u, hu, hrd⟩ := hr5 j 0 [.v (.int .u8 x.toNat)] _ (by rw [← hels, List.getElem?_map, hx]; rfl) rfl
            rw [Nat.mul_one, Nat.add_zero] at hu
            rw [hu, hrd.scalar]
          · subst hw
            have hsz9 : (w.drew.freeze ⟨g, 0, none⟩ l.length).heap.size = w.drew.heap.size := by simp [World.freeze, h0]
            have hos9 : (w.drew.freeze ⟨g, 0, none⟩ l.length).os = w.os ∧ (w.drew.freeze ⟨g, 0, none⟩ l.length).tape = w.tape ∧ (w.drew.freeze ⟨g, 0, none⟩ l.length).output = w.output := by
              simp only [World.freeze, List.length_eq_zero_iff, h0, if_false]
              exact ⟨rfl, rfl, rfl⟩
            obtain ⟨h1, h2⟩ := fin (w.drew.freeze ⟨g, 0, none⟩ l.length) (Nat.le_of_eq hsz9.symm) hos9.1 hos9.2.1 hos9.2.2 fun k hk hr => by
              have hne : k ≠ g := fun e => hr ⟨501, m5, hm5, e ▸ hbk⟩
              have e : (w.drew.freeze ⟨g, 0, none⟩ l.length).heap[k]? = w.drew.heap[k]? := by simp [World.freeze, h0, Array.getElem?_modify, Ne.symm hne]
              exact e
            exact ⟨_, _, _, _, he, ⟨rfl, rfl⟩, .d (.v _), h1, h2⟩
end Go.Proofs.YtnlhioeefmhklaaDoor

/-
  strings.Builder: WriteByte.
-/
namespace Go.Proofs.YtnlhioeefmhklaaDoor
set_option linter.unusedSimpArgs false
set_option linter.unusedVariables false
open Go.Av

set_option maxHeartbeats 4000000 in
theorem wbyte_mc (G : Glob) (a : AV) (ha : SbA a) (l : List UInt8) (c : UInt8) (hn : l.length + 1 ≤ 2^40) : MC Tryd.prog G [500] 27 [.ref 500 0 0, .d (.v (.int .u8 c.toNat))] (hlst (sbB a l)) (.d (.v .nilIface)) (hlst (sbB (.ref 500 0 0) (l ++ [c]))) := by
  have hcc := copyCheck_mc G a ha l
  simp only [sbB] at hcc ⊢
  have htk : List.take l.length (l.map fun b => [D.v (.int .u8 b.toNat)]) = l.map fun b => [D.v (.int .u8 b.toNat)] := List.take_of_length_le (by simp)
  rcases ha with rfl | rfl
  · refine MC.of_body (tyOf_good _) Tryd.func27 rfl rfl (rs := [.tmp 4]) Tryd.results27 (by simp [Tryd.ntmps27]) rfl fun X => ?_
    simp only [Tryd.ntmps27]
    refine AW_rg (tyOf_good _) [0, 1] [500, 501] (notIn_ok rfl) fun K' hK' => ?_
    repeat (refine sxf_next fun K2 hK2 => ?_; simp [dNum, dS]; (repeat (refine ⟨by omega, ?_⟩)); refine hK2 _ ?_; clear hK2 K2)
    refine sxf_nil (hK' _ ?_)
    refine AW.st (by simp [dNum, dS]; rfl) ?_
    clear hK' K'
    refine AW_rg (tyOf_good _) [0, 1] [500, 501] (notIn_ok rfl) fun K' hK' => ?_
    repeat (refine sxf_next fun K2 hK2 => ?_; simp [dNum, dS]; (repeat (refine ⟨by omega, ?_⟩)); refine hK2 _ ?_; clear hK2 K2)
    refine sxf_next fun K2 hK2 => ?_
    simp [dNum, dS]
    refine callK.mc (hcc) (by simp [dNum, dS]) (by simp [dNum, dS]) (by simp [dNum, dS]) (by simp [dNum, dS]) ?_
    simp [dNum, dS]
    refine hK2 _ ?_
    clear hK2 K2
    repeat (refine sxf_next fun K2 hK2 => ?_; simp [dNum, dS]; (repeat (refine ⟨by omega, ?_⟩)); refine hK2 _ ?_; clear hK2 K2)
    refine sxf_nil (hK' _ ?_)
    refine AW.st (by simp [dNum, dS]; rfl) ?_
    clear hK' K'
    refine AW_rg (tyOf_good _) [] [500, 501] (notIn_ok rfl) fun K' hK' => ?_
    repeat (refine sxf_next fun K2 hK2 => ?_; simp [dNum, dS, htk]; (repeat (refine ⟨by omega, ?_⟩)); refine hK2 _ ?_; clear hK2 K2)
    refine sxf_nil (hK' _ ?_)
    refine AW.st (by simp [dNum, dS, htk]; rfl) ?_
    clear hK' K'
    refine AW_rg (tyOf_good _) [4] [500, 501] (notIn_ok rfl) fun K' hK' => ?_
    repeat (refine sxf_next fun K2 hK2 => ?_; simp [dNum, dS]; (repeat (refine ⟨by omega, ?_⟩)); refine hK2 _ ?_; clear hK2 K2)
    refine sxf_nil (hK' _ ?_)
    refine AW.st (by simp [dNum, dS]; rfl) ?_
    clear hK' K'
    refine AW_ret ?_
    simp [D.le, D.le.go, takeMap, dNum, dS, D.le_refl]
  · refine MC.of_body (tyOf_good _) Tryd.func27 rfl rfl (rs := [.tmp 4]) Tryd.results27 (by simp [Tryd.ntmps27]) rfl fun X => ?_
    simp only [Tryd.ntmps27]
    refine AW_rg (tyOf_good _) [0, 1] [500, 501] (notIn_ok rfl) fun K' hK' => ?_
    repeat (refine sxf_next fun K2 hK2 => ?_; simp [dNum, dS]; (repeat (refine ⟨by omega, ?_⟩)); refine hK2 _ ?_; clear hK2 K2)
    refine sxf_nil (hK' _ ?_)
    refine AW.st (by simp [dNum, dS]; rfl) ?_
    clear hK' K'
    refine AW_rg (tyOf_good _) [0, 1] [500, 501] (notIn_ok rfl) fun K' hK' => ?_
    repeat (refine sxf_next fun K2 hK2 => ?_; simp [dNum, dS]; (repeat (refine ⟨by omega, ?_⟩)); refine hK2 _ ?_; clear hK2 K2)
    refine sxf_next fun K2 hK2 => ?_
    simp [dNum, dS]
    refine callK.mc (hcc) (by simp [dNum, dS]) (by simp [dNum, dS]) (by simp [dNum, dS]) (by simp [dNum, dS]) ?_
    simp [dNum, dS]
    refine hK2 _ ?_
    clear hK2 K2
    repeat (refine sxf_next fun K2 hK2 => ?_; simp [dNum, dS]; (repeat (refine ⟨by omega, ?_⟩)); refine hK2 _ ?_; clear hK2 K2)
    refine sxf_nil (hK' _ ?_)
    refine AW.st (by simp [dNum, dS]; rfl) ?_
    clear hK' K'
    refine AW_rg (tyOf_good _) [] [500, 501] (notIn_ok rfl) fun K' hK' => ?_
    repeat (refine sxf_next fun K2 hK2 => ?_; simp [dNum, dS, htk]; (repeat (refine ⟨by omega, ?_⟩)); refine hK2 _ ?_; clear hK2 K2)
    refine sxf_nil (hK' _ ?_)
    refine AW.st (by simp [dNum, dS, htk]; rfl) ?_
    clear hK' K'
    refine AW_rg (tyOf_good _) [4] [500, 501] (notIn_ok rfl) fun K' hK' => ?_
    repeat (refine sxf_next fun K2 hK2 => ?_; simp [dNum, dS]; (repeat (refine ⟨by omega, ?_⟩)); refine hK2 _ ?_; clear hK2 K2)
    refine sxf_nil (hK' _ ?_)
    refine AW.st (by simp [dNum, dS]; rfl) ?_
    clear hK' K'
    refine AW_ret ?_
    simp [D.le, D.le.go, takeMap, dNum, dS, D.le_refl]
end Go.Proofs.YtnlhioeefmhklaaDoor

/-
  Rows renamed, where the heap is a list.
-/
namespace Go.Proofs.YtnlhioeefmhklaaDoor
set_option linter.unusedSimpArgs false
set_option linter.unusedVariables false
open Go.Av

theorem renH_hlst {r r' : Nat} (hr : r ≠ r') (l : List (Nat × Row)) (hl : ∀ p ∈ l, p.1 ≠ r') : renH r r' (hlst l) = hlst (l.map fun p => (if p.1 = r then r' else p.1, p.2.tr (renO r r') (renF r r'))) := by
  funext q
  unfold renH
  induction l with
  | nil => simp [hlst, List.lookup]
  | cons p l ih =>
    have ih := ih fun p hp => hl p (by simp [hp])
    have hp := hl p (by simp)
    obtain ⟨k, row⟩ := p
    simp only [hlst, List.lookup, List.map_cons] at ih ⊢
    by_cases h1 : q = r'
    · subst h1
      simp only [if_true] at ih ⊢
      by_cases h2 : k = r
      · subst h2; simp
      · have a1 : (r == k) = false := by simpa using fun e => h2 e.symm
        have a2 : (q == k) = false := by simpa using fun e => hp e.symm
        simp only [h2, if_false, a1, a2]
        exact ih
    · simp only [h1, if_false] at ih ⊢
      by_cases h2 : q = r
      · subst h2
        simp only [if_true] at ih ⊢
        by_cases h3 : k = q
        · have a1 : (q == r') = false := by simpa using h1
          simp only [h3, if_true, a1]
          exact ih
        · have a1 : (q == k) = false := by simpa using fun e => h3 e.symm
          simp only [h3, if_false, a1]
          exact ih
      · simp only [h2, if_false] at ih ⊢
        by_cases h3 : k = r
        · have a1 : (q == k) = false := by rw [h3]; simpa using h2
          have a2 : (q == r') = false := by simpa using h1
          simp only [h3, if_true, a2] at a1 ⊢
          rw [a1]
          exact ih
        · simp only [h3, if_false]
          by_cases h4 : q = k
          · subst h4; simp
          · have a1 : (q == k) = false := by simpa using h4
            simp only [a1]
            exact ih

end Go.Proofs.YtnlhioeefmhklaaDoor

/-
  Routes: a table's text (Text).
-/
namespace Go.Proofs.YtnlhioeefmhklaaDoor
set_option linter.unusedSimpArgs false
set_option linter.unusedVariables false
open Go.Av

/-- Bytes as a row. -/
def txB (l : List UInt8) : List (List D) := l.map fun b => [.v (.int .u8 b.toNat)]
theorem wS (G : Glob) (c s c' : List UInt8) (h : c' = c ++ s) (hn : c.length + s.length ≤ 2^40) : MC Tryd.prog G [500] 25 [.ref 500 0 0, .d (.v (.string (bs s)))] (hlst [(500, .box 68 [.ref 500 0 0, .own 501 0 (c).length]), (501, .sl 5 1 (txB (c)))]) (.d (.tup [dNum s.length, .v .nilIface])) (hlst [(500, .box 68 [.ref 500 0 0, .own 501 0 (c').length]), (501, .sl 5 1 (txB (c')))]) := by
  subst h; exact wstr_mc G (.ref 500 0 0) (.inr rfl) c s hn
theorem wS0 (G : Glob) (s : List UInt8) (hn : s.length ≤ 2^40) : MC Tryd.prog G [500] 25 [.ref 500 0 0, .d (.v (.string (bs s)))] (hlst [(500, .box 68 [.d (.v (.pointer none)), .own 501 0 0]), (501, .sl 5 1 [])]) (.d (.tup [dNum s.length, .v .nilIface])) (hlst [(500, .box 68 [.ref 500 0 0, .own 501 0 (s).length]), (501, .sl 5 1 (txB (s)))]) :=
  wstr_mc G (.d (.v (.pointer none))) (.inl rfl) [] s (by simpa using hn)
theorem wB (G : Glob) (c : List UInt8) (b : UInt8) (c' : List UInt8) (h : c' = c ++ [b]) (hn : c.length + 1 ≤ 2^40) : MC Tryd.prog G [500] 27 [.ref 500 0 0, .d (.v (.int .u8 b.toNat))] (hlst [(500, .box 68 [.ref 500 0 0, .own 501 0 (c).length]), (501, .sl 5 1 (txB (c)))]) (.d (.v .nilIface)) (hlst [(500, .box 68 [.ref 500 0 0, .own 501 0 (c').length]), (501, .sl 5 1 (txB (c')))]) := by
  subst h; exact wbyte_mc G (.ref 500 0 0) (.inr rfl) c b hn
theorem sS (G : Glob) (c : List UInt8) : MC Tryd.prog G [] 28 [.ref 500 0 0] (hlst [(500, .box 68 [.ref 500 0 0, .own 501 0 (c).length]), (501, .sl 5 1 (txB (c)))]) (.d (.v (.string (bs c)))) (hlst []) := string_mc G (.ref 500 0 0) c
theorem renH_one {r r' : Nat} (hr : r ≠ r') (row : Row) : renH r r' (hlst [(r, row)]) = hlst [(r', row.tr (renO r r') (renF r r'))] := by
  rw [renH_hlst hr _ (by simpa using hr)]
  simp
theorem ub10 : (10 : UInt8).toNat = 10 := rfl

set_option maxHeartbeats 16000000 in
theorem rtext_spec2 (G : Glob) (t : Tb) (ht : InT t) : PureC Tryd.prog G 10 [dTb t] (.v (.string (bs (tbT t)))) := by
  obtain ⟨S, P, rts⟩ := t
  obtain ⟨s1, s3, p0, p2, n8, rs⟩ := ht
  dsimp only at s1 s3 p0 p2 n8 rs
  have hl0 := headT_len s1 s3 p0 p2
  have hhd : headT S P = [115, 101, 99, 116, 105, 111, 110, 115, 32] ++ dig S.toNat ++ [10, 112, 111, 105, 110, 116, 115, 32] ++ dig P.toNat ++ [10] := rfl
  have hlS := dig_len (n := S.toNat) (by omega)
  have hlP := dig_len (n := P.toNat) (by omega)
  have tS := itoaI_spec G S (by omega)
  have tP := itoaI_spec G P (by omega)
  have htb : tbT ⟨S, P, rts⟩ = headT S P ++ rtsT rts := rfl
  rw [htb]
  generalize headT S P = hd at hl0 hhd
  generalize dig S.toNat = dgS at tS hlS hhd
  generalize dig P.toNat = dgP at tP hlP hhd
  simp only [List.append_assoc, List.cons_append, List.nil_append] at hhd
  have w0 := wS0 G hd (by omega)
  rw [show D.v (.string (bs hd)) = D.v (.string (bs _)) from congrArg (fun x => D.v (.string (bs x))) hhd] at w0
  refine PureC.of_body (tyOf_good _) Tryd.func10 rfl rfl (rs := [.tmp 2]) Tryd.results10 (by simp [Tryd.ntmps10]) fun X => ?_
  simp only [Tryd.ntmps10, List.map]
  refine AW_rg (tyOf_good _) [1] [1] (fun _ _ => trivial) fun K' hK' => ?_
  repeat (refine sxf_next fun K2 hK2 => ?_; simp [dTb, cTb, dRts]; (repeat (refine ⟨by omega, ?_⟩)); refine hK2 _ ?_; clear hK2 K2)
  refine sxf_nil (hK' _ ?_)
  refine AW.st (by simp [dTb, cTb, dRts]; rfl) ?_
  clear hK' K'
  refine AW.imp (Imp.freezeB 1 trivial) ?_
  refine AW.st (by simp [dTb, cTb, dRts]; rfl) ?_
  refine AW_rg (tyOf_good _) [1, 3] [3] (fun _ _ => trivial) fun K' hK' => ?_
  repeat (refine sxf_next fun K2 hK2 => ?_; simp [dTb, cTb, dRts]; (repeat (refine ⟨by omega, ?_⟩)); refine hK2 _ ?_; clear hK2 K2)
  refine sxf_nil (hK' _ ?_)
  refine AW.st (by simp [dTb, cTb, dRts]; rfl) ?_
  clear hK' K'
  refine AW.imp (Imp.ren (r := 3) (r' := 500) trivial (by simp)) ?_
  refine AW.st (by simp [renO, renF, Go.Av.ren, renH_one]; rfl) ?_
  refine AW.imp (Imp.adoptCell 500 1 501 5 1 rfl rfl rfl) ?_
  refine AW.st (by simp; rfl) ?_
  refine AW_rm (tyOf_good _) (by kernel_rfl) ([501]) ([]) ([10]) ([]) (List.range 11) [1, 3] [500, 501] (fun _ _ => trivial) (by kernel_rfl) (by simp [OffE]) fun K' hK' => ?_
  repeat (refine sxm_nextO rfl fun K2 hK2 => ?_; simp [dTb, cTb, dRts, lxse, lxpo, lx10, binS_add]; (repeat (refine ⟨by omega, ?_⟩)); refine hK2 _ ?_; clear hK2 K2)
  refine sxm_nextO rfl fun K2 hK2 => ?_
  simp [dTb, cTb, dRts, lxse, lxpo, lx10, binS_add]
  refine callD.mk (tS) (by simp; rfl) (by simp; rfl) (by first | exact D.leGo_refl _ | simp [takeMap, List.map_map, Function.comp_def, D.le, D.le.go, D.le_refl, D.leGo_refl, dTb, cTb, dRts, lxse, lxpo, lx10, binS_add]) (by simp) ?_
  refine hK2 _ ?_
  clear hK2 K2
  simp only [putd, upd_lst]
  repeat (refine sxm_nextO rfl fun K2 hK2 => ?_; simp [dTb, cTb, dRts, lxse, lxpo, lx10, binS_add]; (repeat (refine ⟨by omega, ?_⟩)); refine hK2 _ ?_; clear hK2 K2)
  refine sxm_nextO rfl fun K2 hK2 => ?_
  simp [dTb, cTb, dRts, lxse, lxpo, lx10, binS_add]
  refine callD.mk (tP) (by simp; rfl) (by simp; rfl) (by first | exact D.leGo_refl _ | simp [takeMap, List.map_map, Function.comp_def, D.le, D.le.go, D.le_refl, D.leGo_refl, dTb, cTb, dRts, lxse, lxpo, lx10, binS_add]) (by simp) ?_
  refine hK2 _ ?_
  clear hK2 K2
  simp only [putd, upd_lst]
  repeat (refine sxm_nextO rfl fun K2 hK2 => ?_; simp [dTb, cTb, dRts, lxse, lxpo, lx10, binS_add]; (repeat (refine ⟨by omega, ?_⟩)); refine hK2 _ ?_; clear hK2 K2)
  refine sxm_nextO rfl fun K2 hK2 => ?_
  simp [dTb, cTb, dRts, lxse, lxpo, lx10, binS_add]
  refine hcK.mc (w0) (by simp [dTb, cTb, dRts, lxse, lxpo, lx10, binS_add]) (by simp [dTb, cTb, dRts, lxse, lxpo, lx10, binS_add]) (by simp [dTb, cTb, dRts, lxse, lxpo, lx10, binS_add]) (by simp [dTb, cTb, dRts, lxse, lxpo, lx10, binS_add]) (by simp [dTb, cTb, dRts, lxse, lxpo, lx10, binS_add]) (by simp [dTb, cTb, dRts, lxse, lxpo, lx10, binS_add]) (by simp [LdSame, dTb, cTb, dRts, lxse, lxpo, lx10, binS_add]) ?_
  simp [dTb, cTb, dRts, lxse, lxpo, lx10, binS_add]
  refine hK2 _ ?_
  clear hK2 K2
  repeat (refine sxm_nextO rfl fun K2 hK2 => ?_; simp [dTb, cTb, dRts, lxse, lxpo, lx10, binS_add]; (repeat (refine ⟨by omega, ?_⟩)); refine hK2 _ ?_; clear hK2 K2)
  refine sxm_nilO (hK' _ ?_)
  refine AW.st (by simp [dTb, cTb, dRts, lxse, lxpo, lx10, binS_add]; rfl) ?_
  clear hK' K'
  refine AW_then fun K1 hK1 => ?_
  refine AW_rg (tyOf_good _) [3, 22, 23, 24] [500, 501] (fun _ _ => trivial) fun K' hK' => ?_
  repeat (refine sxf_next fun K2 hK2 => ?_; simp [dTb, cTb, dRts]; (repeat (refine ⟨by omega, ?_⟩)); refine hK2 _ ?_; clear hK2 K2)
  refine sxf_nil (hK' _ ?_)
  refine AW.st (by simp [dTb, cTb, dRts]; rfl) ?_
  clear hK' K'
  refine AW_for (S := Nat) (fun i => i ≤ rts.length) (fun i => ⟨lst [(3, .ref 500 0 0), (22, .d (.sl none (rts.map cRt))), (23, int rts.length), (24, int i)], hlst [(500, .box 68 [.ref 500 0 0, .own 501 0 (hd ++ rtsT (rts.take i)).length]), (501, .sl 5 1 (txB (hd ++ rtsT (rts.take i))))]⟩) (fun i => rts.length - i) 0 ?_ (by simp) ?_
  · refine Imp.to' (fun _ _ => trivial) (by simp [dTb, cTb, dRts, rtsT_zero]) (by simp [dTb, cTb, dRts, rtsT_zero])
  · intro i hi
    have hlr := rtsT_len (l := rts.take i) s3 p2 (fun r hr => rs r (mem_take hr)) (by rw [List.length_take]; omega)
    generalize hcur : hd ++ rtsT (rts.take i) = cur
    have hlc : cur.length ≤ 1700 := by rw [← hcur, List.length_append]; omega
    refine AW_rg (tyOf_good _) [3, 22, 23, 24, 25] [500, 501] (fun _ _ => trivial) fun K' hK' => ?_
    repeat (refine sxf_next fun K2 hK2 => ?_; simp [dTb, cTb, dRts]; (repeat (refine ⟨by omega, ?_⟩)); refine hK2 _ ?_; clear hK2 K2)
    refine sxf_nil (hK' _ ?_)
    refine AW.st (by simp [dTb, cTb, dRts]; rfl) ?_
    clear hK' K'
    refine AW_then fun K2 hK2 => ?_
    refine AW_cond' (b := i < rts.length) (by simp [D.le, D.le.go, takeMap, dTb, cTb, dRts]) (fun hc => ?_) (fun hc => ?_)
    · have hil := hc
      have hin := rs _ (List.getElem_mem hil)
      have hsuc := rtsT_succ hil
      have hrt : rtT rts[i] = [114, 111, 117, 116, 101] ++ secsT rts[i].1 ++ [32, 58] ++ ptsT rts[i].2 ++ [10] := rfl
      have hcr : cRt rts[i] = [dRow rts[i].1, dPts rts[i].2] := rfl
      have hsuc2 : hd ++ rtsT (rts.take (i + 1)) = cur ++ rtT rts[i] := by rw [hsuc, ← hcur, List.append_assoc]
      generalize rtT rts[i] = rt at hsuc2 hrt
      obtain ⟨q20, q21, qs, qp⟩ := hin
      generalize rts[i].1 = ss at hrt hcr q20 qs
      generalize rts[i].2 = ps at hrt hcr q21 qp
      clear hsuc
      refine AW_skip (hK2 _ ?_)
      refine AW_then fun K3 hK3 => ?_
      refine AW_block ?_
      refine AW_rg (tyOf_good _) [3, 5, 22, 23, 24] [5, 500, 501] (fun _ _ => trivial) fun K' hK' => ?_
      repeat (refine sxf_next fun K2 hK2 => ?_; simp [dTb, cTb, dRts, hil, hcr, dRow_eq, dPts]; (repeat (refine ⟨by omega, ?_⟩)); refine hK2 _ ?_; clear hK2 K2)
      refine sxf_nil (hK' _ ?_)
      refine AW.st (by simp [dTb, cTb, dRts, hil, hcr, dRow_eq, dPts]; rfl) ?_
      clear hK' K'
      refine AW.imp (Imp.freezeB 5 trivial) ?_
      refine AW.st (by simp [dTb, cTb, dRts]; rfl) ?_
      obtain ⟨c1, hc1⟩ : ∃ c1, c1 = cur ++ [114, 111, 117, 116, 101] := ⟨_, rfl⟩
      have hlc1 : c1.length ≤ 1705 := by rw [hc1]; simp; omega
      refine AW_rg (tyOf_good _) [3, 5, 22, 23, 24] [500, 501] (fun _ _ => trivial) fun K' hK' => ?_
      repeat (refine sxf_next fun K2 hK2 => ?_; simp [dTb, cTb, dRts, lxrt]; (repeat (refine ⟨by omega, ?_⟩)); refine hK2 _ ?_; clear hK2 K2)
      refine sxf_next fun K2 hK2 => ?_
      simp [dTb, cTb, dRts, lxrt]
      refine callK.mc (wS G cur _ c1 hc1 (by simp; omega)) (by simp [dTb, cTb, dRts, lxrt]) (by simp [dTb, cTb, dRts, lxrt]) (by simp [dTb, cTb, dRts, lxrt]) (by simp [dTb, cTb, dRts, lxrt]) ?_
      simp [dTb, cTb, dRts, lxrt]
      refine hK2 _ ?_
      clear hK2 K2
      repeat (refine sxf_next fun K2 hK2 => ?_; simp [dTb, cTb, dRts, lxrt]; (repeat (refine ⟨by omega, ?_⟩)); refine hK2 _ ?_; clear hK2 K2)
      refine sxf_nil (hK' _ ?_)
      refine AW.st (by simp [dTb, cTb, dRts, lxrt]; rfl) ?_
      clear hK' K'
      refine AW_then fun K4 hK4 => ?_
      refine AW_rg (tyOf_good _) [3, 5, 22, 23, 24, 30, 31, 32] [500, 501] (fun _ _ => trivial) fun K' hK' => ?_
      repeat (refine sxf_next fun K2 hK2 => ?_; simp [dTb, cTb, dRts]; (repeat (refine ⟨by omega, ?_⟩)); refine hK2 _ ?_; clear hK2 K2)
      refine sxf_nil (hK' _ ?_)
      refine AW.st (by simp [dTb, cTb, dRts]; rfl) ?_
      clear hK' K'
      refine AW_for (S := Nat) (fun j => j ≤ ss.length) (fun j => ⟨lst [(3, .ref 500 0 0), (5, .d (.ip [.sl none (ss.map (fun x => [D.v (.int .i64 x)])), .sl none (ps.map cPt)])), (22, .d (.sl none (rts.map cRt))), (23, int rts.length), (24, int i), (30, .d (.sl none (ss.map (fun x => [D.v (.int .i64 x)])))), (31, int ss.length), (32, int j)], hlst [(500, .box 68 [.ref 500 0 0, .own 501 0 (c1 ++ secsT (ss.take j)).length]), (501, .sl 5 1 (txB (c1 ++ secsT (ss.take j))))]⟩) (fun j => ss.length - j) 0 ?_ (by simp) ?_
      · refine Imp.to' (fun _ _ => trivial) (by simp [dTb, cTb, dRts, secsT_zero]) (by simp [dTb, cTb, dRts, secsT_zero])
      · intro j hj
        have hls := secsT_len (l := ss.take j) (fun s hs => by have := qs s (mem_take hs); omega) (by rw [List.length_take]; omega)
        generalize hd1 : c1 ++ secsT (ss.take j) = d1
        have hld1 : d1.length ≤ 1800 := by rw [← hd1, List.length_append]; omega
        refine AW_rg (tyOf_good _) [3, 5, 22, 23, 24, 30, 31, 32, 33] [500, 501] (fun _ _ => trivial) fun K' hK' => ?_
        repeat (refine sxf_next fun K2 hK2 => ?_; simp [dTb, cTb, dRts]; (repeat (refine ⟨by omega, ?_⟩)); refine hK2 _ ?_; clear hK2 K2)
        refine sxf_nil (hK' _ ?_)
        refine AW.st (by simp [dTb, cTb, dRts]; rfl) ?_
        clear hK' K'
        refine AW_then fun K5 hK5 => ?_
        refine AW_cond' (b := j < ss.length) (by simp [D.le, D.le.go, takeMap, dTb, cTb, dRts]) (fun hc => ?_) (fun hc => ?_)
        · have hjl := hc
          have hsj : c1 ++ secsT (ss.take (j + 1)) = d1 ++ secT ss[j] := by rw [secsT_succ hjl, ← hd1, List.append_assoc]
          have hse : secT ss[j] = 32 :: dig ss[j].toNat := rfl
          have hsr := qs _ (List.getElem_mem hjl)
          have tj := itoaI_spec G ss[j] (by omega)
          have hlj := dig_len (n := ss[j].toNat) (by omega)
          generalize dig ss[j].toNat = dj at tj hse hlj
          rw [hse] at hsj
          refine AW_skip (hK5 _ ?_)
          refine AW_then fun K6 hK6 => ?_
          refine AW_block ?_
          refine AW_rg (tyOf_good _) [3, 5, 7, 22, 23, 24, 30, 31, 32] [500, 501] (fun _ _ => trivial) fun K' hK' => ?_
          repeat (refine sxf_next fun K2 hK2 => ?_; simp [dTb, cTb, dRts, hjl]; (repeat (refine ⟨by omega, ?_⟩)); refine hK2 _ ?_; clear hK2 K2)
          refine sxf_nil (hK' _ ?_)
          refine AW.st (by simp [dTb, cTb, dRts, hjl]; rfl) ?_
          clear hK' K'
          refine AW_re (tyOf_good _) fun K' hK' => ?_
          repeat (refine sxf_next fun K2 hK2 => ?_; simp [dTb, cTb, dRts, lx32, binS_add]; (repeat (refine ⟨by omega, ?_⟩)); refine hK2 _ ?_; clear hK2 K2)
          refine sxf_next fun K2 hK2 => ?_
          simp [dTb, cTb, dRts, lx32, binS_add]
          refine callK.data (tj) (by simp; rfl) (by first | exact D.leGo_refl _ | simp [takeMap, List.map_map, Function.comp_def, D.le, D.le.go, D.le_refl, D.leGo_refl, dTb, cTb, dRts, lx32, binS_add]) ?_
          refine hK2 _ ?_
          clear hK2 K2
          simp only [putd, upd_lst]
          repeat (refine sxf_next fun K2 hK2 => ?_; simp [dTb, cTb, dRts, lx32, binS_add]; (repeat (refine ⟨by omega, ?_⟩)); refine hK2 _ ?_; clear hK2 K2)
          refine sxf_next fun K2 hK2 => ?_
          simp [dTb, cTb, dRts, lx32, binS_add]
          refine callK.mc (wS G d1 _ _ hsj (by simp; omega)) (by simp [dTb, cTb, dRts, lx32, binS_add]) (by simp [dTb, cTb, dRts, lx32, binS_add]) (by simp [dTb, cTb, dRts, lx32, binS_add]) (by simp [dTb, cTb, dRts, lx32, binS_add]) ?_
          simp [dTb, cTb, dRts, lx32, binS_add]
          refine hK2 _ ?_
          clear hK2 K2
          repeat (refine sxf_next fun K2 hK2 => ?_; simp [dTb, cTb, dRts, lx32, binS_add]; (repeat (refine ⟨by omega, ?_⟩)); refine hK2 _ ?_; clear hK2 K2)
          refine sxf_nil (hK' _ ?_)
          clear hK' K'
          refine hK6 _ (AW.norm [3, 5, 22, 23, 24, 30, 31, 32] [500, 501] (fun _ _ => trivial) (AW.st (by simp [dTb, cTb, dRts, lx32, binS_add]; rfl) ?_))
          refine AW_re (tyOf_good _) fun K' hK' => ?_
          repeat (refine sxf_next fun K2 hK2 => ?_; simp [dTb, cTb, dRts]; (repeat (refine ⟨by omega, ?_⟩)); refine hK2 _ ?_; clear hK2 K2)
          refine sxf_nil (hK' _ ?_)
          clear hK' K'
          try simp only [thn, inb]
          refine Again.mk (j + 1) (by omega) (by omega) ?_
          refine Imp.to' (fun _ _ => trivial) (by simp [dTb, cTb, dRts]) (by simp [dTb, cTb, dRts])
        · obtain rfl : j = ss.length := by omega
          rw [List.take_length] at hd1 hls
          generalize secsT ss = sall at hls hrt hd1
          refine AW_exit (hK4 _ ?_)
          obtain ⟨c2, hc2⟩ : ∃ c2, c2 = d1 ++ [32, 58] := ⟨_, rfl⟩
          have hlc2 : c2.length ≤ 1802 := by rw [hc2]; simp; omega
          refine AW_rg (tyOf_good _) [3, 5, 22, 23, 24] [500, 501] (fun _ _ => trivial) fun K' hK' => ?_
          repeat (refine sxf_next fun K2 hK2 => ?_; simp [dTb, cTb, dRts, lxco]; (repeat (refine ⟨by omega, ?_⟩)); refine hK2 _ ?_; clear hK2 K2)
          refine sxf_next fun K2 hK2 => ?_
          simp [dTb, cTb, dRts, lxco]
          refine callK.mc (wS G d1 _ c2 hc2 (by simp; omega)) (by simp [dTb, cTb, dRts, lxco]) (by simp [dTb, cTb, dRts, lxco]) (by simp [dTb, cTb, dRts, lxco]) (by simp [dTb, cTb, dRts, lxco]) ?_
          simp [dTb, cTb, dRts, lxco]
          refine hK2 _ ?_
          clear hK2 K2
          repeat (refine sxf_next fun K2 hK2 => ?_; simp [dTb, cTb, dRts, lxco]; (repeat (refine ⟨by omega, ?_⟩)); refine hK2 _ ?_; clear hK2 K2)
          refine sxf_nil (hK' _ ?_)
          refine AW.st (by simp [dTb, cTb, dRts, lxco]; rfl) ?_
          clear hK' K'
          refine AW_then fun K7 hK7 => ?_
          refine AW_rg (tyOf_good _) [3, 22, 23, 24, 43, 44, 45] [500, 501] (fun _ _ => trivial) fun K' hK' => ?_
          repeat (refine sxf_next fun K2 hK2 => ?_; simp [dTb, cTb, dRts]; (repeat (refine ⟨by omega, ?_⟩)); refine hK2 _ ?_; clear hK2 K2)
          refine sxf_nil (hK' _ ?_)
          refine AW.st (by simp [dTb, cTb, dRts]; rfl) ?_
          clear hK' K'
          refine AW_for (S := Nat) (fun j => j ≤ ps.length) (fun j => ⟨lst [(3, .ref 500 0 0), (22, .d (.sl none (rts.map cRt))), (23, int rts.length), (24, int i), (43, .d (.sl none (ps.map cPt))), (44, int ps.length), (45, int j)], hlst [(500, .box 68 [.ref 500 0 0, .own 501 0 (c2 ++ ptsT (ps.take j)).length]), (501, .sl 5 1 (txB (c2 ++ ptsT (ps.take j))))]⟩) (fun j => ps.length - j) 0 ?_ (by simp) ?_
          · refine Imp.to' (fun _ _ => trivial) (by simp [dTb, cTb, dRts, ptsT_zero]) (by simp [dTb, cTb, dRts, ptsT_zero])
          · intro j hj
            have hlp := ptsT_len (l := ps.take j) (fun s hs => by have := qp s (mem_take hs); omega) (by rw [List.length_take]; omega)
            generalize hd2 : c2 ++ ptsT (ps.take j) = d2
            have hld2 : d2.length ≤ 1900 := by rw [← hd2, List.length_append]; omega
            refine AW_rg (tyOf_good _) [3, 22, 23, 24, 43, 44, 45, 46] [500, 501] (fun _ _ => trivial) fun K' hK' => ?_
            repeat (refine sxf_next fun K2 hK2 => ?_; simp [dTb, cTb, dRts]; (repeat (refine ⟨by omega, ?_⟩)); refine hK2 _ ?_; clear hK2 K2)
            refine sxf_nil (hK' _ ?_)
            refine AW.st (by simp [dTb, cTb, dRts]; rfl) ?_
            clear hK' K'
            refine AW_then fun K8 hK8 => ?_
            refine AW_cond' (b := j < ps.length) (by simp [D.le, D.le.go, takeMap, dTb, cTb, dRts]) (fun hc => ?_) (fun hc => ?_)
            · have hjl := hc
              have hsj : c2 ++ ptsT (ps.take (j + 1)) = d2 ++ ptT ps[j] := by rw [ptsT_succ hjl, ← hd2, List.append_assoc]
              have hse : ptT ps[j] = 32 :: (dig ps[j].1.toNat ++ [if ps[j].2 then 43 else 45]) := rfl
              have hsr := qp _ (List.getElem_mem hjl)
              have tj := itoaI_spec G ps[j].1 (by omega)
              have hlj := dig_len (n := ps[j].1.toNat) (by omega)
              generalize dig ps[j].1.toNat = dj at tj hse hlj
              have hcp : cPt ps[j] = [.v (.int .i64 ps[j].1), .v (.bool ps[j].2)] := rfl
              generalize ps[j].1 = pn at hsr tj hcp
              generalize ps[j].2 = po at hse hcp
              rw [hse] at hsj
              refine AW_skip (hK8 _ ?_)
              refine AW_then fun K9 hK9 => ?_
              refine AW_block ?_
              refine AW_rg (tyOf_good _) [3, 9, 22, 23, 24, 43, 44, 45] [9, 500, 501] (fun _ _ => trivial) fun K' hK' => ?_
              repeat (refine sxf_next fun K2 hK2 => ?_; simp [dTb, cTb, dRts, hjl, hcp]; (repeat (refine ⟨by omega, ?_⟩)); refine hK2 _ ?_; clear hK2 K2)
              refine sxf_nil (hK' _ ?_)
              refine AW.st (by simp [dTb, cTb, dRts, hjl, hcp]; rfl) ?_
              clear hK' K'
              refine AW.imp (Imp.freezeB 9 trivial) ?_
              refine AW.st (by simp [dTb, cTb, dRts]; rfl) ?_
              cases po with
              | true =>
                simp only [if_true] at hsj
                refine AW_rpl (tyOf_good _) (by kernel_rfl) ([(1, 999), (9, 999), (5, 53), (6, 53)]) ([2]) ([(2, .d (.v (.string (bs dj))))]) ([0, 1, 2, 3, 8, 9, 4]) ([5, 6]) ([7, 10, 11]) (by kernel_rfl) (by kernel_rfl) rfl fun K' hK' => ?_
                repeat (refine sxp_next rfl fun K2 hK2 => ?_; simp [dTb, cTb, dRts, lx32, lx43, lx45, binS_add]; (repeat (refine ⟨by omega, ?_⟩)); refine hK2 _ ?_; clear hK2 K2)
                refine sxp_next rfl fun K2 hK2 => ?_
                simp [dTb, cTb, dRts, lx32, lx43, lx45, binS_add]
                refine callP.data (tj) rfl (by simp; rfl) (by simp; rfl) (by first | exact D.leGo_refl _ | simp [takeMap, List.map_map, Function.comp_def, D.le, D.le.go, D.le_refl, D.leGo_refl, dTb, cTb, dRts, lx32, lx43, lx45, binS_add]) ?_
                refine hK2 _ ?_
                clear hK2 K2
                simp only [putd, upd_lst]
                repeat (refine sxp_next rfl fun K2 hK2 => ?_; simp [dTb, cTb, dRts, lx32, lx43, lx45, binS_add]; (repeat (refine ⟨by omega, ?_⟩)); refine hK2 _ ?_; clear hK2 K2)
                refine sxp_nil fun π hπ => ?_
                refine sxp_fill (m := 53) (r := 53) (.bool true) (.v (.string (bs [43]))) hπ ty72 rfl ty4 rfl (by simp) (by simp; rfl) (fun i hi => by simp at hi; rcases hi with rfl | rfl <;> exact ⟨rfl, rfl⟩) (fun i hi => by simp at hi; rcases hi with rfl | rfl <;> exact ⟨_, _, rfl, rfl, fun h => by first | rfl | exact absurd h (by decide)⟩) (by first | exact ⟨_, List.mem_cons_self, _, _, rfl, by decide⟩ | exact ⟨_, List.mem_cons.2 (.inr List.mem_cons_self), _, _, rfl, by decide⟩ | exact ⟨_, List.mem_cons.2 (.inr (List.mem_cons.2 (.inr List.mem_cons_self))), _, _, rfl, by decide⟩ | exact ⟨_, List.mem_cons.2 (.inr (List.mem_cons.2 (.inr (List.mem_cons.2 (.inr List.mem_cons_self))))), _, _, rfl, by decide⟩) fun ents hent hkeys => ?_
                simp only [hup_hlst]
                have hkeys2 := hkeys
                simp at hkeys2
                repeat (refine sxp_next rfl fun K2 hK2 => ?_; simp [dTb, cTb, dRts, lx32, lx43, lx45, binS_add, hent]; (repeat (refine ⟨by first | omega | exact hkeys2, ?_⟩)); refine hK2 _ ?_; clear hK2 K2)
                refine sxp_nil ?_
                repeat (refine sxf_next fun K2 hK2 => ?_; simp [dTb, cTb, dRts, lx32, lx43, lx45, binS_add]; (repeat (refine ⟨by omega, ?_⟩)); refine hK2 _ ?_; clear hK2 K2)
                refine sxf_next fun K2 hK2 => ?_
                simp [dTb, cTb, dRts, lx32, lx43, lx45, binS_add]
                refine callK.mc (wS G d2 _ _ hsj (by simp; omega)) (by simp [dTb, cTb, dRts, lx32, lx43, lx45, binS_add]) (by simp [dTb, cTb, dRts, lx32, lx43, lx45, binS_add]) (by simp [dTb, cTb, dRts, lx32, lx43, lx45, binS_add]) (by simp [dTb, cTb, dRts, lx32, lx43, lx45, binS_add]) ?_
                simp [dTb, cTb, dRts, lx32, lx43, lx45, binS_add]
                refine hK2 _ ?_
                clear hK2 K2
                repeat (refine sxf_next fun K2 hK2 => ?_; simp [dTb, cTb, dRts, lx32, lx43, lx45, binS_add]; (repeat (refine ⟨by omega, ?_⟩)); refine hK2 _ ?_; clear hK2 K2)
                refine sxf_nil (hK' _ ?_)
                clear hK' K'
                refine hK9 _ (AW.norm [3, 22, 23, 24, 43, 44, 45] [500, 501] (fun _ _ => trivial) (AW.st (by simp [dTb, cTb, dRts, lx32, lx43, lx45, binS_add]; rfl) ?_))
                refine AW_re (tyOf_good _) fun K' hK' => ?_
                repeat (refine sxf_next fun K2 hK2 => ?_; simp [dTb, cTb, dRts]; (repeat (refine ⟨by omega, ?_⟩)); refine hK2 _ ?_; clear hK2 K2)
                refine sxf_nil (hK' _ ?_)
                clear hK' K'
                try simp only [thn, inb]
                refine Again.mk (j + 1) (by omega) (by omega) ?_
                refine Imp.to' (fun _ _ => trivial) (by simp [dTb, cTb, dRts]) (by simp [dTb, cTb, dRts])
              | false =>
                simp only [Bool.false_eq_true, if_false] at hsj
                refine AW_rpl (tyOf_good _) (by kernel_rfl) ([(1, 999), (9, 999), (5, 53), (6, 53)]) ([2]) ([(2, .d (.v (.string (bs dj))))]) ([0, 1, 2, 3, 8, 9, 4]) ([5, 6]) ([7, 10, 11]) (by kernel_rfl) (by kernel_rfl) rfl fun K' hK' => ?_
                repeat (refine sxp_next rfl fun K2 hK2 => ?_; simp [dTb, cTb, dRts, lx32, lx43, lx45, binS_add]; (repeat (refine ⟨by omega, ?_⟩)); refine hK2 _ ?_; clear hK2 K2)
                refine sxp_next rfl fun K2 hK2 => ?_
                simp [dTb, cTb, dRts, lx32, lx43, lx45, binS_add]
                refine callP.data (tj) rfl (by simp; rfl) (by simp; rfl) (by first | exact D.leGo_refl _ | simp [takeMap, List.map_map, Function.comp_def, D.le, D.le.go, D.le_refl, D.leGo_refl, dTb, cTb, dRts, lx32, lx43, lx45, binS_add]) ?_
                refine hK2 _ ?_
                clear hK2 K2
                simp only [putd, upd_lst]
                repeat (refine sxp_next rfl fun K2 hK2 => ?_; simp [dTb, cTb, dRts, lx32, lx43, lx45, binS_add]; (repeat (refine ⟨by omega, ?_⟩)); refine hK2 _ ?_; clear hK2 K2)
                refine sxp_nil fun π hπ => ?_
                refine sxp_fill (m := 53) (r := 53) (.bool false) (.v (.string (bs [45]))) hπ ty72 rfl ty4 rfl (by simp) (by simp; rfl) (fun i hi => by simp at hi; rcases hi with rfl | rfl <;> exact ⟨rfl, rfl⟩) (fun i hi => by simp at hi; rcases hi with rfl | rfl <;> exact ⟨_, _, rfl, rfl, fun h => by first | rfl | exact absurd h (by decide)⟩) (by first | exact ⟨_, List.mem_cons_self, _, _, rfl, by decide⟩ | exact ⟨_, List.mem_cons.2 (.inr List.mem_cons_self), _, _, rfl, by decide⟩ | exact ⟨_, List.mem_cons.2 (.inr (List.mem_cons.2 (.inr List.mem_cons_self))), _, _, rfl, by decide⟩ | exact ⟨_, List.mem_cons.2 (.inr (List.mem_cons.2 (.inr (List.mem_cons.2 (.inr List.mem_cons_self))))), _, _, rfl, by decide⟩) fun ents hent hkeys => ?_
                simp only [hup_hlst]
                have hkeys2 := hkeys
                simp at hkeys2
                repeat (refine sxp_next rfl fun K2 hK2 => ?_; simp [dTb, cTb, dRts, lx32, lx43, lx45, binS_add, hent]; (repeat (refine ⟨by first | omega | exact hkeys2, ?_⟩)); refine hK2 _ ?_; clear hK2 K2)
                refine sxp_nil ?_
                repeat (refine sxf_next fun K2 hK2 => ?_; simp [dTb, cTb, dRts, lx32, lx43, lx45, binS_add]; (repeat (refine ⟨by omega, ?_⟩)); refine hK2 _ ?_; clear hK2 K2)
                refine sxf_next fun K2 hK2 => ?_
                simp [dTb, cTb, dRts, lx32, lx43, lx45, binS_add]
                refine callK.mc (wS G d2 _ _ hsj (by simp; omega)) (by simp [dTb, cTb, dRts, lx32, lx43, lx45, binS_add]) (by simp [dTb, cTb, dRts, lx32, lx43, lx45, binS_add]) (by simp [dTb, cTb, dRts, lx32, lx43, lx45, binS_add]) (by simp [dTb, cTb, dRts, lx32, lx43, lx45, binS_add]) ?_
                simp [dTb, cTb, dRts, lx32, lx43, lx45, binS_add]
                refine hK2 _ ?_
                clear hK2 K2
                repeat (refine sxf_next fun K2 hK2 => ?_; simp [dTb, cTb, dRts, lx32, lx43, lx45, binS_add]; (repeat (refine ⟨by omega, ?_⟩)); refine hK2 _ ?_; clear hK2 K2)
                refine sxf_nil (hK' _ ?_)
                clear hK' K'
                refine hK9 _ (AW.norm [3, 22, 23, 24, 43, 44, 45] [500, 501] (fun _ _ => trivial) (AW.st (by simp [dTb, cTb, dRts, lx32, lx43, lx45, binS_add]; rfl) ?_))
                refine AW_re (tyOf_good _) fun K' hK' => ?_
                repeat (refine sxf_next fun K2 hK2 => ?_; simp [dTb, cTb, dRts]; (repeat (refine ⟨by omega, ?_⟩)); refine hK2 _ ?_; clear hK2 K2)
                refine sxf_nil (hK' _ ?_)
                clear hK' K'
                try simp only [thn, inb]
                refine Again.mk (j + 1) (by omega) (by omega) ?_
                refine Imp.to' (fun _ _ => trivial) (by simp [dTb, cTb, dRts]) (by simp [dTb, cTb, dRts])
            · obtain rfl : j = ps.length := by omega
              rw [List.take_length] at hd2 hlp
              generalize ptsT ps = pall at hlp hrt hd2
              refine AW_exit (hK7 _ ?_)
              have hfin : hd ++ rtsT (rts.take (i + 1)) = d2 ++ [10] := by
                rw [hsuc2, hrt, ← hd2, hc2, ← hd1, hc1]; simp
              refine AW_re (tyOf_good _) fun K' hK' => ?_
              repeat (refine sxf_next fun K2 hK2 => ?_; simp [dTb, cTb, dRts, ub10]; (repeat (refine ⟨by omega, ?_⟩)); refine hK2 _ ?_; clear hK2 K2)
              refine sxf_next fun K2 hK2 => ?_
              simp [dTb, cTb, dRts, ub10]
              refine callK.mc (wB G d2 10 _ hfin (by omega)) (by simp [dTb, cTb, dRts, ub10]) (by simp [dTb, cTb, dRts, ub10]) (by simp [dTb, cTb, dRts, ub10]) (by simp [dTb, cTb, dRts, ub10]) ?_
              simp [dTb, cTb, dRts, ub10]
              refine hK2 _ ?_
              clear hK2 K2
              repeat (refine sxf_next fun K2 hK2 => ?_; simp [dTb, cTb, dRts, ub10]; (repeat (refine ⟨by omega, ?_⟩)); refine hK2 _ ?_; clear hK2 K2)
              refine sxf_nil (hK' _ ?_)
              clear hK' K'
              refine hK3 _ (AW.norm [3, 22, 23, 24] [500, 501] (fun _ _ => trivial) (AW.st (by simp [dTb, cTb, dRts, ub10]; rfl) ?_))
              refine AW_re (tyOf_good _) fun K' hK' => ?_
              repeat (refine sxf_next fun K2 hK2 => ?_; simp [dTb, cTb, dRts]; (repeat (refine ⟨by omega, ?_⟩)); refine hK2 _ ?_; clear hK2 K2)
              refine sxf_nil (hK' _ ?_)
              clear hK' K'
              try simp only [thn, inb]
              refine Again.mk (i + 1) (by omega) (by omega) ?_
              refine Imp.to' (fun _ _ => trivial) (by simp [dTb, cTb, dRts]) (by simp [dTb, cTb, dRts])
    · obtain rfl : i = rts.length := by omega
      rw [List.take_length] at hcur
      refine AW_exit (hK1 _ ?_)
      refine AW_rg (tyOf_good _) [2] [] (fun _ _ => trivial) fun K' hK' => ?_
      repeat (refine sxf_next fun K2 hK2 => ?_; simp [dTb, cTb, dRts]; (repeat (refine ⟨by omega, ?_⟩)); refine hK2 _ ?_; clear hK2 K2)
      refine sxf_next fun K2 hK2 => ?_
      simp [dTb, cTb, dRts]
      refine callK.mc (sS G cur) (by simp [dTb, cTb, dRts]) (by simp [dTb, cTb, dRts]) (by simp [dTb, cTb, dRts]) (by simp [dTb, cTb, dRts]) ?_
      simp [dTb, cTb, dRts]
      refine hK2 _ ?_
      clear hK2 K2
      repeat (refine sxf_next fun K2 hK2 => ?_; simp [dTb, cTb, dRts]; (repeat (refine ⟨by omega, ?_⟩)); refine hK2 _ ?_; clear hK2 K2)
      refine sxf_nil (hK' _ ?_)
      refine AW.st (by simp [dTb, cTb, dRts]; rfl) ?_
      clear hK' K'
      refine AW_ret ?_
      simp [D.le, D.le.go, takeMap, dTb, cTb, dRts]
      rw [hcur]
end Go.Proofs.YtnlhioeefmhklaaDoor

/-
  RouteTells.
-/
namespace Go.Proofs.YtnlhioeefmhklaaDoor
set_option linter.unusedSimpArgs false
set_option linter.unusedVariables false
open Go.Av

theorem firstE_map {α β : Type} {f : α → Int} {g : β → Int} {c : α → β} (h : ∀ x, g (c x) = f x) : ∀ (l : List α) (i : Nat), firstE g (l.map c) i = firstE f l i
  | [], _ => rfl
  | x :: l, i => by rw [List.map_cons, firstE, firstE, h x, firstE_map h l (i + 1)]
theorem check_same (S P : Int) (rts : List Rt) : checkW ⟨S, P, rts.map convR⟩ = checkT ⟨S, P, rts⟩ := by
  unfold checkW checkT
  dsimp only
  rw [List.length_map]
  by_cases h : limT S P rts.length
  · rw [if_pos h, if_pos h]
  · rw [if_neg h, if_neg h]
    have hP : P ≤ 2 := by unfold limT at h; omega
    exact firstE_map (fun r => bad_same 8 2 9 S P hP r) rts 0
theorem firstE_none_inv {α : Type} {f : α → Int} : ∀ {l : List α} {i : Nat}, firstE f l i = none → ∀ x ∈ l, f x = 0
  | [], _, _, x, hx => by cases hx
  | y :: l, i, h, x, hx => by
    rw [firstE] at h
    split at h
    · rename_i h0
      rcases List.mem_cons.1 hx with rfl | hx
      · exact h0
      · exact firstE_none_inv h x hx
    · cases h
theorem trackF_true {t : Tb} (h : (trackF t).2 = true) : t.rts.length ≤ 8 ∧ (∀ r ∈ t.rts, badL r = false) ∧ (trackF t).1 = ⟨t.secs, t.pts, t.rts.map convR⟩ := by
  unfold trackF at h ⊢
  split at h
  · cases h
  · rename_i h8
    rw [if_neg h8]
    split at h
    · cases h
    · rename_i hn
      refine ⟨by omega, fun r hr => ?_, ?_⟩
      · have := List.findIdx?_eq_none_iff.1 hn r hr
        simpa using this
      · dsimp only
        unfold trI
        rw [List.take_length]
theorem in_range {t : Tb} (h8 : t.rts.length ≤ 8) (hb : ∀ r ∈ t.rts, badL r = false) (hc : checkT t = none) : InT t := by
  unfold checkT at hc
  split at hc
  · cases hc
  · rename_i hl
    unfold limT at hl
    refine ⟨by omega, by omega, by omega, by omega, h8, fun r hr => ?_⟩
    have h0 := firstE_none_inv hc r hr
    have h1 := hb r hr
    unfold badL at h1
    simp only [Bool.or_eq_false_iff, decide_eq_false_iff_not] at h1
    unfold badR at h0
    split at h0
    · omega
    · split at h0
      · omega
      · rename_i h2
        simp only [Bool.or_eq_true, not_or, List.any_eq_true, not_exists, not_and, decide_eq_true_eq] at h2
        refine ⟨by omega, by omega, fun s hs => ?_, fun p hp => ?_⟩
        · have := h2.1 s hs; omega
        · have := h2.2 p hp; omega
theorem conv_small (p : Int × Bool) : SmallN (convP p) := by
  unfold SmallN convP
  split <;> split <;> omega
theorem clash_conv {t : Tb} (ht : InT t) {a b : Rt} (ha : a ∈ t.rts) (hb : b ∈ t.rts) : clashW (convR a) (convR b) = clashF a b :=
  clash_same (P := t.pts) ht.p2 (ht.rs a ha).ps (ht.rs b hb).ps

set_option maxHeartbeats 4000000 in
theorem rtells_spec (G : Glob) (hG : HasErr G) (hF : HasFine G) (t : Tb) : PureC Tryd.prog G 3 [dTb t] (.v (.bool true)) := by
  have htr := track_spec G t
  have hdt : dTb t = .agg (cTb t) := rfl
  cases hk : (trackF t).2 with
  | false =>
    rw [hk] at htr
    generalize (trackF t).1 = wt at htr
    have hdw : dTw wt = .agg (cTw wt) := rfl
    rw [hdt, hdw] at htr
    rw [hdt]
    simp only [cTb, cTw, dRts, dRws] at htr ⊢
    refine PureC.of_body (tyOf_good _) Tryd.func3 rfl rfl (rs := [.tmp 2]) Tryd.results3 (by simp [Tryd.ntmps3]) fun X => ?_
    simp only [Tryd.ntmps3, List.map]
    refine AW_rg (tyOf_good _) [1] [1] (fun _ _ => trivial) fun K' hK' => ?_
    repeat (refine sxf_next fun K2 hK2 => ?_; simp; (repeat (refine ⟨by omega, ?_⟩)); refine hK2 _ ?_; clear hK2 K2)
    refine sxf_nil (hK' _ ?_)
    refine AW.st (by simp; rfl) ?_
    clear hK' K'
    refine AW_rg (tyOf_good _) [1, 3, 4] [1, 3] (fun _ _ => trivial) fun K' hK' => ?_
    repeat (refine sxf_next fun K2 hK2 => ?_; simp; (repeat (refine ⟨by omega, ?_⟩)); refine hK2 _ ?_; clear hK2 K2)
    refine sxf_next fun K2 hK2 => ?_
    simp
    refine callK.data (htr) (by simp; rfl) (by first | exact D.leGo_refl _ | simp [takeMap, List.map_map, Function.comp_def, D.le, D.le.go, D.le_refl, D.leGo_refl]) ?_
    refine hK2 _ ?_
    clear hK2 K2
    simp only [putd, upd_lst]
    repeat (refine sxf_next fun K2 hK2 => ?_; simp; (repeat (refine ⟨by omega, ?_⟩)); refine hK2 _ ?_; clear hK2 K2)
    refine sxf_nil (hK' _ ?_)
    refine AW.st (by simp; rfl) ?_
    clear hK' K'
    refine AW_then fun K1 hK1 => ?_
    refine AW_rg (tyOf_good _) [1, 3, 14] [1, 3] (fun _ _ => trivial) fun K' hK' => ?_
    repeat (refine sxf_next fun K2 hK2 => ?_; simp; (repeat (refine ⟨by omega, ?_⟩)); refine hK2 _ ?_; clear hK2 K2)
    refine sxf_nil (hK' _ ?_)
    refine AW.st (by simp; rfl) ?_
    clear hK' K'
    refine AW_cond true rfl (fun _ => ?_) (fun h => by cases h)
    refine AW_rg (tyOf_good _) [2] [] (fun _ _ => trivial) fun K' hK' => ?_
    repeat (refine sxf_next fun K2 hK2 => ?_; simp; (repeat (refine ⟨by omega, ?_⟩)); refine hK2 _ ?_; clear hK2 K2)
    refine sxf_nil (hK' _ ?_)
    refine AW.st (by simp; rfl) ?_
    clear hK' K'
    refine AW_ret ?_
    simp [D.le, D.le.go, takeMap]
  | true =>
    obtain ⟨h8, hbl, hw⟩ := trackF_true hk
    rw [hk, hw] at htr
    have hsmall : ∀ r ∈ t.rts, r.1.length ≤ 20 ∧ r.2.length ≤ 20 := fun r hr => by
      have h1 := hbl r hr
      unfold badL at h1
      simp only [Bool.or_eq_false_iff, decide_eq_false_iff_not] at h1
      omega
    have hT : SmallT t := ⟨by omega, fun r hr => by have := hsmall r hr; exact ⟨by omega, by omega⟩⟩
    have hck := rcheck_spec G t hT
    have hwk := wcheckT_spec G hF ⟨t.secs, t.pts, t.rts.map convR⟩ ⟨by simp; omega, fun r hr => by
      obtain ⟨r0, h0, rfl⟩ := List.mem_map.1 hr
      have := hsmall r0 h0
      refine ⟨by show r0.1.length < _; omega, by show (r0.2.map convP).length < _; simp; omega, fun p hp => ?_⟩
      obtain ⟨q, _, rfl⟩ := List.mem_map.1 hp
      exact conv_small q⟩
    rw [check_same] at hwk
    have hat := at_spec G hG (checkT t) (checkT t)
    simp only [decide_true, Bool.and_true] at hat
    have hin : checkT t = none → InT t := in_range h8 hbl
    obtain ⟨S, P, rts⟩ := t
    dsimp only at h8 hbl hsmall hw htr hwk hat hck hin
    generalize hce : checkT ⟨S, P, rts⟩ = ce at hck hwk hat hin
    simp only [dTb, cTb, dRts, dTw, cTw, dRws, dFault, dNum] at htr hck hwk hat ⊢
    refine PureC.of_body (tyOf_good _) Tryd.func3 rfl rfl (rs := [.tmp 2]) Tryd.results3 (by simp [Tryd.ntmps3]) fun X => ?_
    simp only [Tryd.ntmps3, List.map]
    refine AW_rg (tyOf_good _) [1] [1] (fun _ _ => trivial) fun K' hK' => ?_
    repeat (refine sxf_next fun K2 hK2 => ?_; simp; (repeat (refine ⟨by omega, ?_⟩)); refine hK2 _ ?_; clear hK2 K2)
    refine sxf_nil (hK' _ ?_)
    refine AW.st (by simp; rfl) ?_
    clear hK' K'
    refine AW_rg (tyOf_good _) [1, 3, 4] [1, 3] (fun _ _ => trivial) fun K' hK' => ?_
    repeat (refine sxf_next fun K2 hK2 => ?_; simp; (repeat (refine ⟨by omega, ?_⟩)); refine hK2 _ ?_; clear hK2 K2)
    refine sxf_next fun K2 hK2 => ?_
    simp
    refine callK.data (htr) (by simp; rfl) (by first | exact D.leGo_refl _ | simp [takeMap, List.map_map, Function.comp_def, D.le, D.le.go, D.le_refl, D.leGo_refl]) ?_
    refine hK2 _ ?_
    clear hK2 K2
    simp only [putd, upd_lst]
    repeat (refine sxf_next fun K2 hK2 => ?_; simp; (repeat (refine ⟨by omega, ?_⟩)); refine hK2 _ ?_; clear hK2 K2)
    refine sxf_nil (hK' _ ?_)
    refine AW.st (by simp; rfl) ?_
    clear hK' K'
    refine AW.imp (Imp.freezeB 1 trivial) ?_
    refine AW.st (by simp; rfl) ?_
    refine AW.imp (Imp.freezeB 3 trivial) ?_
    refine AW.st (by simp; rfl) ?_
    refine AW_then fun K1 hK1 => ?_
    refine AW_rg (tyOf_good _) [1, 3, 14] [] (fun _ _ => trivial) fun K' hK' => ?_
    repeat (refine sxf_next fun K2 hK2 => ?_; simp; (repeat (refine ⟨by omega, ?_⟩)); refine hK2 _ ?_; clear hK2 K2)
    refine sxf_nil (hK' _ ?_)
    refine AW.st (by simp; rfl) ?_
    clear hK' K'
    refine AW_cond false rfl (fun h => by cases h) (fun _ => ?_)
    refine AW_skip (hK1 _ ?_)
    refine AW_rg (tyOf_good _) [1, 3, 5] [5] (fun _ _ => trivial) fun K' hK' => ?_
    repeat (refine sxf_next fun K2 hK2 => ?_; simp; (repeat (refine ⟨by omega, ?_⟩)); refine hK2 _ ?_; clear hK2 K2)
    refine sxf_next fun K2 hK2 => ?_
    simp
    refine callK.data (hwk) (by simp; rfl) (by first | exact D.leGo_refl _ | simp [takeMap, List.map_map, Function.comp_def, D.le, D.le.go, D.le_refl, D.leGo_refl]) ?_
    refine hK2 _ ?_
    clear hK2 K2
    simp only [putd, upd_lst]
    repeat (refine sxf_next fun K2 hK2 => ?_; simp; (repeat (refine ⟨by omega, ?_⟩)); refine hK2 _ ?_; clear hK2 K2)
    refine sxf_nil (hK' _ ?_)
    refine AW.st (by simp; rfl) ?_
    clear hK' K'
    refine AW.imp (Imp.freezeB 5 trivial) ?_
    refine AW.st (by simp; rfl) ?_
    refine AW_then fun K2 hK2 => ?_
    refine AW_rd (tyOf_good _) (by kernel_rfl) [1, 3, 5, 21] [] (fun _ _ => trivial) (by kernel_rfl) fun K' hK' => ?_
    repeat (refine sxd_next fun K2 hK2 => ?_; simp; (repeat (refine ⟨by omega, ?_⟩)); refine hK2 _ ?_; clear hK2 K2)
    refine sxd_next fun K2 hK2 => ?_
    simp
    refine callQ.data (hck) (by simp; rfl) (by simp; rfl) (by first | exact D.leGo_refl _ | simp [takeMap, List.map_map, Function.comp_def, D.le, D.le.go, D.le_refl, D.leGo_refl]) ?_
    refine hK2 _ ?_
    clear hK2 K2
    simp only [putd, upd_lst]
    repeat (refine sxd_next fun K2 hK2 => ?_; simp; (repeat (refine ⟨by omega, ?_⟩)); refine hK2 _ ?_; clear hK2 K2)
    refine sxd_next fun K2 hK2 => ?_
    simp
    refine callQ.data (hat) (by simp; rfl) (by simp; rfl) (by first | exact D.leGo_refl _ | simp [takeMap, List.map_map, Function.comp_def, D.le, D.le.go, D.le_refl, D.leGo_refl]) ?_
    refine hK2 _ ?_
    clear hK2 K2
    simp only [putd, upd_lst]
    repeat (refine sxd_next fun K2 hK2 => ?_; simp; (repeat (refine ⟨by omega, ?_⟩)); refine hK2 _ ?_; clear hK2 K2)
    refine sxd_nil (hK' _ ?_)
    refine AW.st (by simp; rfl) ?_
    clear hK' K'
    refine AW_cond false rfl (fun h => by cases h) (fun _ => ?_)
    refine AW_skip (hK2 _ ?_)
    refine AW_then fun K3 hK3 => ?_
    by_cases h0 : codeF ce = 0
    · have hnone : ce = none := by
        cases ce with
        | none => rfl
        | some e =>
          exfalso
          have hne : ∀ {l : List Rt} {i : Nat} {f : Rt → Int} {e : Int × Option Nat}, firstE f l i = some e → e.1 ≠ 0 := by
            intro l
            induction l with
            | nil => intro i f e h; cases h
            | cons x l ih =>
              intro i f e h
              rw [firstE] at h
              split at h
              · exact ih h
              · rename_i hx; obtain rfl := Option.some.inj h; exact hx
          unfold checkT at hce
          have h0' : e.1 = 0 := h0
          split at hce
          · obtain rfl := Option.some.inj hce; cases h0'
          · exact hne hce h0'
      have hT2 := hin hnone
      have htx := rtext_spec2 G ⟨S, P, rts⟩ hT2
      have hwx := wtext_spec G ⟨S, P, rts⟩ hT2
      simp only [dTb, cTb, dRts, dTw, cTw, dRws] at htx hwx
      refine AW_rg (tyOf_good _) [1, 3, 24] [] (fun _ _ => trivial) fun K' hK' => ?_
      repeat (refine sxf_next fun K2 hK2 => ?_; simp [h0]; (repeat (refine ⟨by omega, ?_⟩)); refine hK2 _ ?_; clear hK2 K2)
      refine sxf_nil (hK' _ ?_)
      refine AW.st (by simp [h0]; rfl) ?_
      clear hK' K'
      refine AW_cond false rfl (fun h => by cases h) (fun _ => ?_)
      refine AW_skip (hK3 _ ?_)
      refine AW_then fun K4 hK4 => ?_
      refine AW_rg (tyOf_good _) [1, 3, 6] [] (fun _ _ => trivial) fun K' hK' => ?_
      repeat (refine sxf_next fun K2 hK2 => ?_; simp; (repeat (refine ⟨by omega, ?_⟩)); refine hK2 _ ?_; clear hK2 K2)
      refine sxf_nil (hK' _ ?_)
      refine AW.st (by simp; rfl) ?_
      clear hK' K'
      refine AW_for (S := Nat) (fun i => i ≤ rts.length) (fun i => ⟨lst [(1, .d (.ip [.v (.int .i64 S), .v (.int .i64 P), .sl none (rts.map cRt)])), (3, .d (.ip [.v (.int .i64 S), .v (.int .i64 P), .sl none ((rts.map convR).map cRw)])), (6, int i)], hlst []⟩) (fun i => rts.length - i) 0 ?_ (by simp) ?_
      · refine Imp.to' (fun _ _ => trivial) (by simp) (by simp)
      · intro i hi
        refine AW_then fun K5 hK5 => ?_
        refine AW_rg (tyOf_good _) [1, 3, 6, 29] [] (fun _ _ => trivial) fun K' hK' => ?_
        repeat (refine sxf_next fun K2 hK2 => ?_; simp; (repeat (refine ⟨by omega, ?_⟩)); refine hK2 _ ?_; clear hK2 K2)
        refine sxf_nil (hK' _ ?_)
        refine AW.st (by simp; rfl) ?_
        clear hK' K'
        refine AW_cond' (b := i < rts.length) (by simp [D.le, D.le.go, takeMap]) (fun hc => ?_) (fun hc => ?_)
        · have hil := hc
          refine AW_skip (hK5 _ ?_)
          refine AW_then fun K6 hK6 => ?_
          refine AW_block ?_
          refine AW_rg (tyOf_good _) [1, 3, 6, 7] [] (fun _ _ => trivial) fun K' hK' => ?_
          repeat (refine sxf_next fun K2 hK2 => ?_; simp; (repeat (refine ⟨by omega, ?_⟩)); refine hK2 _ ?_; clear hK2 K2)
          refine sxf_nil (hK' _ ?_)
          refine AW.st (by simp; rfl) ?_
          clear hK' K'
          refine AW_for (S := Nat) (fun k => k ≤ rts.length) (fun k => ⟨lst [(1, .d (.ip [.v (.int .i64 S), .v (.int .i64 P), .sl none (rts.map cRt)])), (3, .d (.ip [.v (.int .i64 S), .v (.int .i64 P), .sl none ((rts.map convR).map cRw)])), (6, int i), (7, int k)], hlst []⟩) (fun k => rts.length - k) 0 ?_ (by simp) ?_
          · refine Imp.to' (fun _ _ => trivial) (by simp) (by simp)
          · intro k hk2
            refine AW_then fun K7 hK7 => ?_
            refine AW_rg (tyOf_good _) [1, 3, 6, 7, 36] [] (fun _ _ => trivial) fun K' hK' => ?_
            repeat (refine sxf_next fun K2 hK2 => ?_; simp; (repeat (refine ⟨by omega, ?_⟩)); refine hK2 _ ?_; clear hK2 K2)
            refine sxf_nil (hK' _ ?_)
            refine AW.st (by simp; rfl) ?_
            clear hK' K'
            refine AW_cond' (b := k < rts.length) (by simp [D.le, D.le.go, takeMap]) (fun hc => ?_) (fun hc => ?_)
            · have hkl := hc
              have hma := List.getElem_mem hil
              have hmb := List.getElem_mem hkl
              have hc1 := clash_spec G rts[i] rts[k] (hT.2 _ hma) (hT.2 _ hmb)
              have hc2 := wclash_spec G (convR rts[i]) (convR rts[k]) ⟨by have := (hsmall _ hma).1; show rts[i].1.length < _; omega, by have := (hsmall _ hma).2; show (rts[i].2.map convP).length < _; simp; omega⟩ ⟨by have := (hsmall _ hmb).1; show rts[k].1.length < _; omega, by have := (hsmall _ hmb).2; show (rts[k].2.map convP).length < _; simp; omega⟩ (fun q hq => by
                obtain ⟨p, _, rfl⟩ := List.mem_map.1 (show q ∈ rts[k].2.map convP from hq)
                exact conv_small p)
              rw [clash_conv hT2 hma hmb] at hc2
              generalize clashF rts[i] rts[k] = cf at hc1 hc2
              simp only [dRt, dRw, cRt, cRw] at hc1 hc2
              have hil' : (i : Int) < (rts.length : Int) := by omega
              refine AW_skip (hK7 _ ?_)
              refine AW_then fun K8 hK8 => ?_
              refine AW_block ?_
              refine AW_rd (tyOf_good _) (by kernel_rfl) [1, 3, 6, 7, 61] [] (fun _ _ => trivial) (by kernel_rfl) fun K' hK' => ?_
              repeat (refine sxd_next fun K2 hK2 => ?_; simp [hil, hkl, cRt, cRw]; (repeat (refine ⟨by omega, ?_⟩)); refine hK2 _ ?_; clear hK2 K2)
              refine sxd_next fun K2 hK2 => ?_
              simp [hil, hkl, cRt, cRw]
              refine callQ.data (hc1) (by simp; rfl) (by simp; rfl) (by first | exact D.leGo_refl _ | simp [takeMap, List.map_map, Function.comp_def, D.le, D.le.go, D.le_refl, D.leGo_refl, hil, hkl, cRt, cRw]) ?_
              refine hK2 _ ?_
              clear hK2 K2
              simp only [putd, upd_lst]
              repeat (refine sxd_next fun K2 hK2 => ?_; simp [hil, hkl, cRt, cRw]; (repeat (refine ⟨by omega, ?_⟩)); refine hK2 _ ?_; clear hK2 K2)
              refine sxd_next fun K2 hK2 => ?_
              simp [hil, hkl, cRt, cRw]
              refine callQ.data (hc2) (by simp; rfl) (by simp; rfl) (by first | exact D.leGo_refl _ | simp [takeMap, List.map_map, Function.comp_def, D.le, D.le.go, D.le_refl, D.leGo_refl, hil, hkl, cRt, cRw]) ?_
              refine hK2 _ ?_
              clear hK2 K2
              simp only [putd, upd_lst]
              repeat (refine sxd_next fun K2 hK2 => ?_; simp [hil, hkl, cRt, cRw]; (repeat (refine ⟨by omega, ?_⟩)); refine hK2 _ ?_; clear hK2 K2)
              refine sxd_nil (hK' _ ?_)
              refine AW.st (by simp [hil, hkl, cRt, cRw]; rfl) ?_
              clear hK' K'
              refine AW_cond false (by simp) (fun h => by cases h) (fun _ => ?_)
              refine AW_skip (hK8 _ ?_)
              refine AW_re (tyOf_good _) fun K' hK' => ?_
              repeat (refine sxf_next fun K2 hK2 => ?_; simp; (repeat (refine ⟨by omega, ?_⟩)); refine hK2 _ ?_; clear hK2 K2)
              refine sxf_nil (hK' _ ?_)
              clear hK' K'
              try simp only [thn, inb]
              refine Again.mk (k + 1) (by omega) (by omega) ?_
              refine Imp.to' (fun _ _ => trivial) (by simp) (by simp)
            · refine AW_exit (hK6 _ ?_)
              refine AW_re (tyOf_good _) fun K' hK' => ?_
              repeat (refine sxf_next fun K2 hK2 => ?_; simp; (repeat (refine ⟨by omega, ?_⟩)); refine hK2 _ ?_; clear hK2 K2)
              refine sxf_nil (hK' _ ?_)
              clear hK' K'
              try simp only [thn, inb]
              refine Again.mk (i + 1) (by omega) (by omega) ?_
              refine Imp.to' (fun _ _ => trivial) (by simp) (by simp)
        · refine AW_exit (hK4 _ ?_)
          refine AW_rd (tyOf_good _) (by kernel_rfl) [2] [] (fun _ _ => trivial) (by kernel_rfl) fun K' hK' => ?_
          repeat (refine sxd_next fun K2 hK2 => ?_; simp [binS, bs_list]; (repeat (refine ⟨by omega, ?_⟩)); refine hK2 _ ?_; clear hK2 K2)
          refine sxd_next fun K2 hK2 => ?_
          simp [binS, bs_list]
          refine callQ.data (htx) (by simp; rfl) (by simp; rfl) (by first | exact D.leGo_refl _ | simp [takeMap, List.map_map, Function.comp_def, D.le, D.le.go, D.le_refl, D.leGo_refl, binS, bs_list]) ?_
          refine hK2 _ ?_
          clear hK2 K2
          simp only [putd, upd_lst]
          repeat (refine sxd_next fun K2 hK2 => ?_; simp [binS, bs_list]; (repeat (refine ⟨by omega, ?_⟩)); refine hK2 _ ?_; clear hK2 K2)
          refine sxd_next fun K2 hK2 => ?_
          simp [binS, bs_list]
          refine callQ.data (hwx) (by simp; rfl) (by simp; rfl) (by first | exact D.leGo_refl _ | simp [takeMap, List.map_map, Function.comp_def, D.le, D.le.go, D.le_refl, D.leGo_refl, binS, bs_list]) ?_
          refine hK2 _ ?_
          clear hK2 K2
          simp only [putd, upd_lst]
          repeat (refine sxd_next fun K2 hK2 => ?_; simp [binS, bs_list]; (repeat (refine ⟨by omega, ?_⟩)); refine hK2 _ ?_; clear hK2 K2)
          refine sxd_nil (hK' _ ?_)
          refine AW.st (by simp [binS, bs_list]; rfl) ?_
          clear hK' K'
          refine AW_ret ?_
          simp [D.le, D.le.go, takeMap]
    · refine AW_rg (tyOf_good _) [1, 3, 24] [] (fun _ _ => trivial) fun K' hK' => ?_
      repeat (refine sxf_next fun K2 hK2 => ?_; simp [h0]; (repeat (refine ⟨by omega, ?_⟩)); refine hK2 _ ?_; clear hK2 K2)
      refine sxf_nil (hK' _ ?_)
      refine AW.st (by simp [h0]; rfl) ?_
      clear hK' K'
      refine AW_cond true rfl (fun _ => ?_) (fun h => by cases h)
      refine AW_rg (tyOf_good _) [2] [] (fun _ _ => trivial) fun K' hK' => ?_
      repeat (refine sxf_next fun K2 hK2 => ?_; simp; (repeat (refine ⟨by omega, ?_⟩)); refine hK2 _ ?_; clear hK2 K2)
      refine sxf_nil (hK' _ ?_)
      refine AW.st (by simp; rfl) ?_
      clear hK' K'
      refine AW_ret ?_
      simp [D.le, D.le.go, takeMap]
end Go.Proofs.YtnlhioeefmhklaaDoor

/-
  Reading of routes and tables.
-/
namespace Go.Proofs.YtnlhioeefmhklaaDoor
set_option linter.unusedSimpArgs false
set_option linter.unusedVariables false
open Go.Av Go.ChangeShapes Go.WideShapes Go.ChangeAt Go.RowKit

theorem cellsR_int : Tryd.prog.cellsOf 3 = 1 := by kernel_rfl
theorem cellsR_bool : Tryd.prog.cellsOf 4 = 1 := by kernel_rfl
theorem cellsR_ints : Tryd.prog.cellsOf 39 = 1 := by kernel_rfl
theorem cellsR_pt : Tryd.prog.cellsOf 50 = 2 := by kernel_rfl
theorem cellsR_pts : Tryd.prog.cellsOf 40 = 1 := by kernel_rfl
theorem cellsR_rt : Tryd.prog.cellsOf 42 = 2 := by kernel_rfl
section
variable {H : Type} {enc : TypeId × Value → H} {w : World} {base : Nat} {spare : Nat → Bool} {held : Bool} {X : Nat → Prop}

theorem readsR_int : ReadsAs enc Tryd.prog w base spare held X 3 (fun _ : Int => True) (fun n => [.v (.int .i64 n)]) := fun fuel cs x h =>
  let ⟨n, _, hr⟩ := reads_int Tryd.underlying3 fuel cs x h
  ⟨n, trivial, hr⟩
theorem readsR_bool : ReadsAs enc Tryd.prog w base spare held X 4 (fun _ : Bool => True) (fun b => [.v (.bool b)]) := fun fuel cs x h => by
  obtain ⟨b, rfl, _⟩ := DataW.trod_bool Tryd.underlying4 h
  exact ⟨b, trivial, .one (.v _)⟩
theorem readsR_ints (hX : ∀ b, ¬ X b) : ReadsAs enc Tryd.prog w base spare held X 39 (fun l : List Int => l.length ≤ maxLen) (fun l => [dRow l]) := fun fuel cs x h => by
  obtain ⟨l, hp, hr⟩ := reads_slice Tryd.underlying39 cellsR_int (by omega) hX readsR_int fuel cs x h
  exact ⟨l, hp.2, hr⟩
theorem readsR_pt : ReadsAs enc Tryd.prog w base spare held X 50 (fun _ : Int × Bool => True) cPt := fun fuel cs x h => by
  obtain ⟨s, _, hr⟩ := reads_struct2 Tryd.underlying50 (by rw [cellsR_pt]; simp only [cellsR_int, cellsR_bool]) rfl (by simp only [cellsR_int]) readsR_int readsR_bool fuel cs x h
  exact ⟨s, trivial, hr⟩
theorem readsR_pts (hX : ∀ b, ¬ X b) : ReadsAs enc Tryd.prog w base spare held X 40 (fun l : List (Int × Bool) => l.length ≤ maxLen) (fun l => [dPts l]) := fun fuel cs x h => by
  obtain ⟨l, hp, hr⟩ := reads_slice Tryd.underlying40 cellsR_pt (by omega) hX readsR_pt fuel cs x h
  exact ⟨l, hp.2, hr⟩
theorem readsR_rt (hX : ∀ b, ¬ X b) : ReadsAs enc Tryd.prog w base spare held X 42 (fun _ : Rt => True) cRt := fun fuel cs x h => by
  obtain ⟨s, hp, hr⟩ := reads_struct2 Tryd.underlying42 (by rw [cellsR_rt]; simp only [cellsR_ints, cellsR_pts]) rfl (by simp only [cellsR_ints]) (readsR_ints hX) (readsR_pts hX) fuel cs x h
  exact ⟨s, trivial, hr⟩
end
end Go.Proofs.YtnlhioeefmhklaaDoor

/-
  Reading of tables of routes.
-/
namespace Go.Proofs.YtnlhioeefmhklaaDoor
set_option linter.unusedSimpArgs false
set_option linter.unusedVariables false
open Go.Av Go.ChangeShapes Go.WideShapes Go.ChangeAt Go.RowKit

theorem cellsR_rts : Tryd.prog.cellsOf 22 = 1 := by kernel_rfl
theorem cellsR_tb : Tryd.prog.cellsOf 24 = 3 := by kernel_rfl
theorem list3 {α : Type} : ∀ {l : List α}, l.length = 3 → ∃ a b c, l = [a, b, c]
  | [a, b, c], _ => ⟨a, b, c, rfl⟩
section
variable {H : Type} {enc : TypeId × Value → H} {w : World} {base : Nat} {spare : Nat → Bool} {held : Bool} {X : Nat → Prop}
theorem readsR_rts (hX : ∀ b, ¬ X b) : ReadsAs enc Tryd.prog w base spare held X 22 (fun _ : List Rt => True) (fun l => [dRts l]) := fun fuel cs x h => by
  obtain ⟨l, hp, hr⟩ := reads_slice Tryd.underlying22 cellsR_rt (by omega) hX (readsR_rt hX) fuel cs x h
  exact ⟨l, trivial, hr⟩
theorem readsR_tb (hX : ∀ b, ¬ X b) : ReadsAs enc Tryd.prog w base spare held X 24 (fun _ : Tb => True) cTb := fun fuel cs x h => by
  obtain ⟨xs, n, _, rfl, hl, hlen, hf⟩ := DataW.trod_struct Tryd.underlying24 h
  obtain ⟨y0, y1, y2, rfl⟩ := list3 hlen
  rw [cellsR_tb] at hl
  obtain ⟨c0, c1, c2, rfl⟩ := list3 hl
  have t0 : DataW.trod enc Tryd.prog w base spare held n 3 (([c0, c1, c2].drop 0).take (Tryd.prog.cellsOf 3)) = some y0 := hf 0 _ rfl
  have t1 : DataW.trod enc Tryd.prog w base spare held n 3 (([c0, c1, c2].drop 1).take (Tryd.prog.cellsOf 3)) = some y1 := hf 1 _ rfl
  have t2 : DataW.trod enc Tryd.prog w base spare held n 22 (([c0, c1, c2].drop 2).take (Tryd.prog.cellsOf 22)) = some y2 := hf 2 _ rfl
  rw [cellsR_int] at t0 t1
  rw [cellsR_rts] at t2
  obtain ⟨a0, _, r0⟩ := readsR_int (enc := enc) (w := w) (base := base) (spare := spare) (held := held) (X := X) _ _ _ (show DataW.trod enc Tryd.prog w base spare held n 3 [c0] = _ from t0)
  obtain ⟨a1, _, r1⟩ := readsR_int (enc := enc) (w := w) (base := base) (spare := spare) (held := held) (X := X) _ _ _ (show DataW.trod enc Tryd.prog w base spare held n 3 [c1] = _ from t1)
  obtain ⟨a2, hp, r2⟩ := readsR_rts hX _ _ _ (show DataW.trod enc Tryd.prog w base spare held n 22 [c2] = _ from t2)
  refine ⟨⟨a0, a1, a2⟩, trivial, rfl, fun j u c hu hc => ?_⟩
  match j, hu, hc with
  | 0, hu, hc => exact r0.2 0 u c (by simpa using hu) (by simpa [cTb] using hc)
  | 1, hu, hc => exact r1.2 0 u c (by simpa using hu) (by simpa [cTb] using hc)
  | 2, hu, hc => exact r2.2 0 u c (by simpa using hu) (by simpa [cTb] using hc)
  | j + 3, hu, hc => simp at hu
end
end Go.Proofs.YtnlhioeefmhklaaDoor

/-
  Tables, as they are read.
-/
namespace Go.Proofs.YtnlhioeefmhklaaDoor
set_option linter.unusedSimpArgs false
set_option linter.unusedVariables false
open Go.Av Go.ChangeShapes Go.WideShapes Go.ChangeAt Go.RowKit

theorem law_own : ownKnob Tryd.prog.godebug = none := by kernel_rfl
theorem law_laidOut : laidOutB Tryd.prog = true := by kernel_rfl
theorem cells_int : Tryd.prog.cellsOf 3 = 1 := by kernel_rfl
section
variable {H : Type} {enc : TypeId × Value → H} {w : World} {base : Nat} {spare : Nat → Bool} {held : Bool} {X : Nat → Prop}

end

end Go.Proofs.YtnlhioeefmhklaaDoor
