/-
  Texts that belong together, in one file: Sh8, IT, RL1, LC2, RL2, RL3, RN, RL4, RL6, RL5, RR, R1.
-/
import Derived.Test.YtnlhioeefmhklaaGreatDoorRc18
import Derived.Test.YtnlhioeefmhklaaGreatDoorProg
import Derived.Ground.NamesProg
import Derived.Shelf.Strconv.Itoa3
/-
  DERIVED: THE SHELF's CONTRACTS AT THIS DUMP, IN PLAIN WORDS (tools/lay-plain.mjs out of 'YtnlhioeefmhklaaGreatDoorSh8s.lean', which tools/lay-shelf.mjs wrote): THE SAME DECLARATIONS UNDER THE SAME NAMES: 'import', 'namespace', 'open', 'def', 'theorem' AND NOTHING ELSE: no command of the shelf's: FOR A HAND-IN. Each laying: the table of numbers ('.._ren') and one theorem, a field a fact of the dump's own or the kernel's comparison; each contract: ONE APPLICATION.
-/
namespace Go.Proofs
open Go.Shelf
def Tryz.lays171_ren : Go.Shelf.Ren := ⟨fun | 171 => 48 | 243 => 87 | 246 => 123 | 283 => 163 | 284 => 164 | 285 => 165 | 286 => 166 | 129 => 139 | 317 => 192 | 318 => 193 | 319 => 194 | 320 => 195 | 337 => 218 | 338 => 219 | n => n, fun | 3 => 3 | 9 => 9 | 2 => 2 | 4 => 4 | 171 => 252 | 0 => 0 | 53 => 228 | 37 => 111 | 5 => 5 | 173 => 254 | 212 => 291 | 51 => 226 | 20 => 20 | 213 => 292 | 46 => 181 | 232 => 323 | 233 => 324 | n => n, fun | 17 => 5 | 18 => 11 | 19 => 12 | n => n⟩
theorem Tryz.lays171 : Go.Proofs.Lays.n171 Tryz.prog Tryz.lays171_ren := {
  mixed := by kernel_rfl
  f129 := Tryz.func139.trans (congrArg some (by kernel_rfl))
  f171 := Tryz.func48.trans (congrArg some (by kernel_rfl))
  f243 := Tryz.func87.trans (congrArg some (by kernel_rfl))
  f246 := Tryz.func123.trans (congrArg some (by kernel_rfl))
  f283 := Tryz.func163.trans (congrArg some (by kernel_rfl))
  f284 := Tryz.func164.trans (congrArg some (by kernel_rfl))
  f285 := Tryz.func165.trans (congrArg some (by kernel_rfl))
  f286 := Tryz.func166.trans (congrArg some (by kernel_rfl))
  f317 := Tryz.func192.trans (congrArg some (by kernel_rfl))
  f318 := Tryz.func193.trans (congrArg some (by kernel_rfl))
  f319 := Tryz.func194.trans (congrArg some (by kernel_rfl))
  f320 := Tryz.func195.trans (congrArg some (by kernel_rfl))
  f337 := Tryz.func218.trans (congrArg some (by kernel_rfl))
  f338 := Tryz.func219.trans (congrArg some (by kernel_rfl))
  t0 := Tryz.underlying0
  a0 := Tryz.isAgg0
  z0 := Tryz.sizeOf0
  v0 := Tryz.zeroValue0
  t2 := Tryz.underlying2
  a2 := Tryz.isAgg2
  z2 := Tryz.sizeOf2
  v2 := Tryz.zeroValue2
  t3 := Tryz.underlying3
  a3 := Tryz.isAgg3
  z3 := Tryz.sizeOf3
  v3 := Tryz.zeroValue3
  t4 := Tryz.underlying4
  a4 := Tryz.isAgg4
  z4 := Tryz.sizeOf4
  v4 := Tryz.zeroValue4
  t5 := Tryz.underlying5
  a5 := Tryz.isAgg5
  z5 := Tryz.sizeOf5
  v5 := Tryz.zeroValue5
  t9 := Tryz.underlying9
  a9 := Tryz.isAgg9
  z9 := Tryz.sizeOf9
  v9 := Tryz.zeroValue9
  t20 := Tryz.underlying20
  a20 := Tryz.isAgg20
  z20 := Tryz.sizeOf20
  v20 := Tryz.zeroValue20
  t37 := Tryz.underlying111
  a37 := Tryz.isAgg111
  z37 := Tryz.sizeOf111
  v37 := Tryz.zeroValue111
  t46 := Tryz.underlying181
  a46 := Tryz.isAgg181
  z46 := Tryz.sizeOf181
  v46 := Tryz.zeroValue181
  t51 := Tryz.underlying226
  a51 := Tryz.isAgg226
  z51 := Tryz.sizeOf226
  v51 := Tryz.zeroValue226
  t53 := Tryz.underlying228
  a53 := Tryz.isAgg228
  z53 := Tryz.sizeOf228
  v53 := Tryz.zeroValue228
  t171 := Tryz.underlying252
  a171 := Tryz.isAgg252
  z171 := Tryz.sizeOf252
  v171 := Tryz.zeroValue252
  t173 := Tryz.underlying254
  a173 := Tryz.isAgg254
  z173 := Tryz.sizeOf254
  v173 := Tryz.zeroValue254
  t212 := Tryz.underlying291
  a212 := Tryz.isAgg291
  z212 := Tryz.sizeOf291
  v212 := Tryz.zeroValue291
  t213 := Tryz.underlying292
  a213 := Tryz.isAgg292
  z213 := Tryz.sizeOf292
  t232 := Tryz.underlying323
  a232 := Tryz.isAgg323
  z232 := Tryz.sizeOf323
  v232 := Tryz.zeroValue323
  t233 := Tryz.underlying324
  a233 := Tryz.isAgg324
  z233 := Tryz.sizeOf324
  v233 := Tryz.zeroValue324
  g17 := by kernel_rfl
  g18 := by kernel_rfl
  g19 := by kernel_rfl }
end Go.Proofs

/-
  strconv.Itoa below 100.
-/
namespace Go.Proofs.YtnlhioeefmhklaaGreatDoor
set_option linter.unusedSimpArgs false
set_option linter.unusedVariables false
open Go.Av Go.Shelf

theorem itoa_small (G : Glob) (i : Nat) (hi : i < 100) : PureC Tryz.prog G 48 [dNum i] (dS (Lib.decDigits i)) := by
  refine PureC.of_calls (Fun.of Tryz.func48 rfl rfl) fun X w vs hsz hrd hgl => ?_
  obtain ⟨u, rfl⟩ : ∃ u, vs = #[u] := by
    match vs, hsz with
    | ⟨[u]⟩, _ => exact ⟨u, rfl⟩
  have hu := (hrd 0 u _ rfl rfl).scalar
  subst hu
  have hL : Lays.n171 Tryz.prog Tryz.lays171_ren := { Tryz.lays171 with }
  refine (Any.strconv_Itoa_small hL i hi w).mono fun e w' ⟨he, hw⟩ => ⟨_, he, by rw [hw]; exact Grew.refl _, ?_⟩
  exact .v _
end Go.Proofs.YtnlhioeefmhklaaGreatDoor

/-
  Routes as programs: the names, the parts (route.name, and, or, and the free sections).
-/
namespace Go.Proofs.YtnlhioeefmhklaaGreatDoor
set_option linter.unusedSimpArgs false
set_option linter.unusedVariables false
open Go.Av

theorem binS_add' (a b : List UInt8) : binS .add (bs a) (bs b) = some (a.length + b.length ≤ 9223372036854775807, .string (bs (a ++ b))) := by
  unfold binS
  simp only [bs_size, bs_append]
theorem decLen {n : Nat} (h : n < 100) : (Lib.decDigits n).length ≤ 2 := by
  have : ∀ k : Fin 100, (Lib.decDigits k.val).length ≤ 2 := by decide +kernel
  exact this ⟨n, h⟩
/-- A letter, and a number. -/
def nmT (c : UInt8) (n : Nat) : List UInt8 := c :: Lib.decDigits n
theorem nmT_len (c : UInt8) {n : Nat} (h : n < 100) : (nmT c n).length ≤ 3 := by
  have := decLen h
  simp only [nmT, List.length_cons]; omega
theorem itoaN (G : Glob) (i : Int) (h : 0 ≤ i ∧ i < 100) : PureC Tryz.prog G 48 [.v (.int .i64 i)] (.v (.string (bs (Lib.decDigits i.toNat)))) := by
  have := itoa_small G i.toNat (by omega)
  rwa [dNum, Int.toNat_of_nonneg h.1] at this
set_option maxHeartbeats 1000000 in
theorem rname_spec (G : Glob) (c : UInt8) (i : Int) (h : 0 ≤ i ∧ i < 100) : PureC Tryz.prog G 66 [.v (.string (bs [c])), .v (.int .i64 i)] (.v (.string (bs (nmT c i.toNat)))) := by
  have hI := itoaN G i h
  have hl := decLen (n := i.toNat) (by omega)
  unfold nmT
  generalize Lib.decDigits i.toNat = dg at hI hl ⊢
  refine PureC.of_body (tyOf_good _) Tryz.func66 rfl rfl (rs := [.tmp 4]) Tryz.results66 (by simp [Tryz.ntmps66]) fun X => ?_
  simp only [Tryz.ntmps66, List.map]
  refine AW_rg (tyOf_good _) [0, 1] [] (fun _ _ => trivial) fun K' hK' => ?_
  repeat (refine sxf_next fun K2 hK2 => ?_; simp; (repeat (refine ⟨by omega, ?_⟩)); refine hK2 _ ?_; clear hK2 K2)
  refine sxf_nil (hK' _ ?_)
  refine AW.st (by simp; rfl) ?_
  clear hK' K'
  refine AW_rg (tyOf_good _) [4] [] (fun _ _ => trivial) fun K' hK' => ?_
  repeat (refine sxf_next fun K2 hK2 => ?_; simp [binS_add']; (repeat (refine ⟨by omega, ?_⟩)); refine hK2 _ ?_; clear hK2 K2)
  refine sxf_next fun K2 hK2 => ?_
  simp [binS_add']
  refine callK.data (hI) (by simp; rfl) (by first | exact D.leGo_refl _ | simp [takeMap, List.map_map, Function.comp_def, D.le, D.le.go, D.le_refl, D.leGo_refl, binS_add']) ?_
  refine hK2 _ ?_
  clear hK2 K2
  simp only [putd, upd_lst]
  repeat (refine sxf_next fun K2 hK2 => ?_; simp [binS_add']; (repeat (refine ⟨by omega, ?_⟩)); refine hK2 _ ?_; clear hK2 K2)
  refine sxf_nil (hK' _ ?_)
  refine AW.st (by simp [binS_add']; rfl) ?_
  clear hK' K'
  refine AW_ret ?_
  simp [D.le, D.le.go, takeMap]

/-- One alone is itself. -/
def andE : List Ex → Ex
  | [x] => x
  | l => .and l
def orE : List Ex → Ex
  | [x] => x
  | l => .or l
set_option maxHeartbeats 1000000 in
theorem rand_spec (G : Glob) (k : Option Bool) (l : List Ex) : PureC Tryz.prog G 68 [.sl k (l.map fun e => [dE e])] (dE (andE l)) := by
  match l with
  | [x] =>
    obtain ⟨t, y, hx⟩ := dE_ifc x
    simp only [andE, List.map_cons, List.map_nil, hx]
    refine PureC.of_body (tyOf_good _) Tryz.func68 rfl rfl (rs := [.tmp 2]) Tryz.results68 (by simp [Tryz.ntmps68]) fun X => ?_
    simp only [Tryz.ntmps68, List.map]
    refine AW_rg (tyOf_good _) [0] [] (fun _ _ => trivial) fun K' hK' => ?_
    repeat (refine sxf_next fun K2 hK2 => ?_; simp; (repeat (refine ⟨by omega, ?_⟩)); refine hK2 _ ?_; clear hK2 K2)
    refine sxf_nil (hK' _ ?_)
    refine AW.st (by simp; rfl) ?_
    clear hK' K'
    refine AW_then fun K1 hK1 => ?_
    refine AW_rg (tyOf_good _) [0, 5] [] (fun _ _ => trivial) fun K' hK' => ?_
    repeat (refine sxf_next fun K2 hK2 => ?_; simp; (repeat (refine ⟨by omega, ?_⟩)); refine hK2 _ ?_; clear hK2 K2)
    refine sxf_nil (hK' _ ?_)
    refine AW.st (by simp; rfl) ?_
    clear hK' K'
    refine AW_cond true rfl (fun _ => ?_) (fun h => by cases h)
    refine AW_rg (tyOf_good _) [2] [] (fun _ _ => trivial) fun K' hK' => ?_
    repeat (refine sxf_next fun K2 hK2 => ?_; simp; (repeat (refine ⟨by omega, ?_⟩)); refine hK2 _ ?_; clear hK2 K2)
    refine sxf_nil (hK' _ ?_)
    refine AW.st (by simp; rfl) ?_
    clear hK' K'
    refine AW_ret ?_
    simp [D.le, D.le.go, takeMap, D.le_refl]
  | [] =>
    simp only [andE, dE, dEs_map]
    refine PureC.of_body (tyOf_good _) Tryz.func68 rfl rfl (rs := [.tmp 2]) Tryz.results68 (by simp [Tryz.ntmps68]) fun X => ?_
    simp only [Tryz.ntmps68, List.map]
    refine AW_rg (tyOf_good _) [0] [] (fun _ _ => trivial) fun K' hK' => ?_
    repeat (refine sxf_next fun K2 hK2 => ?_; simp; (repeat (refine ⟨by omega, ?_⟩)); refine hK2 _ ?_; clear hK2 K2)
    refine sxf_nil (hK' _ ?_)
    refine AW.st (by simp; rfl) ?_
    clear hK' K'
    refine AW_then fun K1 hK1 => ?_
    refine AW_rg (tyOf_good _) [0, 5] [] (fun _ _ => trivial) fun K' hK' => ?_
    repeat (refine sxf_next fun K2 hK2 => ?_; simp; (repeat (refine ⟨by omega, ?_⟩)); refine hK2 _ ?_; clear hK2 K2)
    refine sxf_nil (hK' _ ?_)
    refine AW.st (by simp; rfl) ?_
    clear hK' K'
    refine AW_cond false rfl (fun h => by cases h) (fun _ => ?_)
    refine AW_skip (hK1 _ ?_)
    refine AW_rg (tyOf_good _) [2] [] (fun _ _ => trivial) fun K' hK' => ?_
    repeat (refine sxf_next fun K2 hK2 => ?_; simp; (repeat (refine ⟨by omega, ?_⟩)); refine hK2 _ ?_; clear hK2 K2)
    refine sxf_nil (hK' _ ?_)
    refine AW.st (by simp; rfl) ?_
    clear hK' K'
    refine AW_ret ?_
    simp [D.le, D.le.go, takeMap]
  | a :: b :: r =>
    have h1 : ¬ ((r.length : Int) + 1 + 1 = 1) := by omega
    simp only [andE, dE, dEs_map]
    generalize hl : a :: b :: r = l
    have hlen : (l.length : Int) = (r.length : Int) + 1 + 1 := by rw [← hl]; simp
    have h2 : ¬ ((l.length : Int) = 1) := by omega
    have h3 : ¬ (l.length = 1) := by omega
    refine PureC.of_body (tyOf_good _) Tryz.func68 rfl rfl (rs := [.tmp 2]) Tryz.results68 (by simp [Tryz.ntmps68]) fun X => ?_
    simp only [Tryz.ntmps68, List.map]
    refine AW_rg (tyOf_good _) [0] [] (fun _ _ => trivial) fun K' hK' => ?_
    repeat (refine sxf_next fun K2 hK2 => ?_; simp; (repeat (refine ⟨by omega, ?_⟩)); refine hK2 _ ?_; clear hK2 K2)
    refine sxf_nil (hK' _ ?_)
    refine AW.st (by simp; rfl) ?_
    clear hK' K'
    refine AW_then fun K1 hK1 => ?_
    refine AW_rg (tyOf_good _) [0, 5] [] (fun _ _ => trivial) fun K' hK' => ?_
    repeat (refine sxf_next fun K2 hK2 => ?_; simp [h2, h3]; (repeat (refine ⟨by omega, ?_⟩)); refine hK2 _ ?_; clear hK2 K2)
    refine sxf_nil (hK' _ ?_)
    refine AW.st (by simp [h2, h3]; rfl) ?_
    clear hK' K'
    refine AW_cond false (by simp [h2, h3]) (fun h => by cases h) (fun _ => ?_)
    refine AW_skip (hK1 _ ?_)
    refine AW_rg (tyOf_good _) [2] [] (fun _ _ => trivial) fun K' hK' => ?_
    repeat (refine sxf_next fun K2 hK2 => ?_; simp; (repeat (refine ⟨by omega, ?_⟩)); refine hK2 _ ?_; clear hK2 K2)
    refine sxf_nil (hK' _ ?_)
    refine AW.st (by simp; rfl) ?_
    clear hK' K'
    refine AW_ret ?_
    simp [D.le, D.le.go, takeMap, D.leGo_refl]
set_option maxHeartbeats 1000000 in
theorem ror_spec (G : Glob) (k : Option Bool) (l : List Ex) : PureC Tryz.prog G 69 [.sl k (l.map fun e => [dE e])] (dE (orE l)) := by
  match l with
  | [x] =>
    obtain ⟨t, y, hx⟩ := dE_ifc x
    simp only [orE, List.map_cons, List.map_nil, hx]
    refine PureC.of_body (tyOf_good _) Tryz.func69 rfl rfl (rs := [.tmp 2]) Tryz.results69 (by simp [Tryz.ntmps69]) fun X => ?_
    simp only [Tryz.ntmps69, List.map]
    refine AW_rg (tyOf_good _) [0] [] (fun _ _ => trivial) fun K' hK' => ?_
    repeat (refine sxf_next fun K2 hK2 => ?_; simp; (repeat (refine ⟨by omega, ?_⟩)); refine hK2 _ ?_; clear hK2 K2)
    refine sxf_nil (hK' _ ?_)
    refine AW.st (by simp; rfl) ?_
    clear hK' K'
    refine AW_then fun K1 hK1 => ?_
    refine AW_rg (tyOf_good _) [0, 5] [] (fun _ _ => trivial) fun K' hK' => ?_
    repeat (refine sxf_next fun K2 hK2 => ?_; simp; (repeat (refine ⟨by omega, ?_⟩)); refine hK2 _ ?_; clear hK2 K2)
    refine sxf_nil (hK' _ ?_)
    refine AW.st (by simp; rfl) ?_
    clear hK' K'
    refine AW_cond true rfl (fun _ => ?_) (fun h => by cases h)
    refine AW_rg (tyOf_good _) [2] [] (fun _ _ => trivial) fun K' hK' => ?_
    repeat (refine sxf_next fun K2 hK2 => ?_; simp; (repeat (refine ⟨by omega, ?_⟩)); refine hK2 _ ?_; clear hK2 K2)
    refine sxf_nil (hK' _ ?_)
    refine AW.st (by simp; rfl) ?_
    clear hK' K'
    refine AW_ret ?_
    simp [D.le, D.le.go, takeMap, D.le_refl]
  | [] =>
    simp only [orE, dE, dEs_map]
    refine PureC.of_body (tyOf_good _) Tryz.func69 rfl rfl (rs := [.tmp 2]) Tryz.results69 (by simp [Tryz.ntmps69]) fun X => ?_
    simp only [Tryz.ntmps69, List.map]
    refine AW_rg (tyOf_good _) [0] [] (fun _ _ => trivial) fun K' hK' => ?_
    repeat (refine sxf_next fun K2 hK2 => ?_; simp; (repeat (refine ⟨by omega, ?_⟩)); refine hK2 _ ?_; clear hK2 K2)
    refine sxf_nil (hK' _ ?_)
    refine AW.st (by simp; rfl) ?_
    clear hK' K'
    refine AW_then fun K1 hK1 => ?_
    refine AW_rg (tyOf_good _) [0, 5] [] (fun _ _ => trivial) fun K' hK' => ?_
    repeat (refine sxf_next fun K2 hK2 => ?_; simp; (repeat (refine ⟨by omega, ?_⟩)); refine hK2 _ ?_; clear hK2 K2)
    refine sxf_nil (hK' _ ?_)
    refine AW.st (by simp; rfl) ?_
    clear hK' K'
    refine AW_cond false rfl (fun h => by cases h) (fun _ => ?_)
    refine AW_skip (hK1 _ ?_)
    refine AW_rg (tyOf_good _) [2] [] (fun _ _ => trivial) fun K' hK' => ?_
    repeat (refine sxf_next fun K2 hK2 => ?_; simp; (repeat (refine ⟨by omega, ?_⟩)); refine hK2 _ ?_; clear hK2 K2)
    refine sxf_nil (hK' _ ?_)
    refine AW.st (by simp; rfl) ?_
    clear hK' K'
    refine AW_ret ?_
    simp [D.le, D.le.go, takeMap]
  | a :: b :: r =>
    simp only [orE, dE, dEs_map]
    generalize hl : a :: b :: r = l
    have hlen : (l.length : Int) = (r.length : Int) + 1 + 1 := by rw [← hl]; simp
    have h2 : ¬ ((l.length : Int) = 1) := by omega
    have h3 : ¬ (l.length = 1) := by omega
    refine PureC.of_body (tyOf_good _) Tryz.func69 rfl rfl (rs := [.tmp 2]) Tryz.results69 (by simp [Tryz.ntmps69]) fun X => ?_
    simp only [Tryz.ntmps69, List.map]
    refine AW_rg (tyOf_good _) [0] [] (fun _ _ => trivial) fun K' hK' => ?_
    repeat (refine sxf_next fun K2 hK2 => ?_; simp; (repeat (refine ⟨by omega, ?_⟩)); refine hK2 _ ?_; clear hK2 K2)
    refine sxf_nil (hK' _ ?_)
    refine AW.st (by simp; rfl) ?_
    clear hK' K'
    refine AW_then fun K1 hK1 => ?_
    refine AW_rg (tyOf_good _) [0, 5] [] (fun _ _ => trivial) fun K' hK' => ?_
    repeat (refine sxf_next fun K2 hK2 => ?_; simp [h2, h3]; (repeat (refine ⟨by omega, ?_⟩)); refine hK2 _ ?_; clear hK2 K2)
    refine sxf_nil (hK' _ ?_)
    refine AW.st (by simp [h2, h3]; rfl) ?_
    clear hK' K'
    refine AW_cond false (by simp [h2, h3]) (fun h => by cases h) (fun _ => ?_)
    refine AW_skip (hK1 _ ?_)
    refine AW_rg (tyOf_good _) [2] [] (fun _ _ => trivial) fun K' hK' => ?_
    repeat (refine sxf_next fun K2 hK2 => ?_; simp; (repeat (refine ⟨by omega, ?_⟩)); refine hK2 _ ?_; clear hK2 K2)
    refine sxf_nil (hK' _ ?_)
    refine AW.st (by simp; rfl) ?_
    clear hK' K'
    refine AW_ret ?_
    simp [D.le, D.le.go, takeMap, D.leGo_refl]

/-- No section of the route is occupied. -/
def freeE (s : Int) : Ex := .not (.bit (nmT 98 s.toNat))
def freeL (ss : List Int) : List Ex := ss.map freeE
theorem freeL_succ {ss : List Int} {i : Nat} (h : i < ss.length) : freeL (ss.take (i + 1)) = freeL (ss.take i) ++ [freeE ss[i]] := by
  unfold freeL; rw [List.take_succ_eq_append_getElem h, List.map_append]; rfl
theorem freeL_len {ss : List Int} {i : Nat} (h : i ≤ ss.length) : (freeL (ss.take i)).length = i := by simp [freeL]; omega
theorem freeL_nil : freeL [] = [] := rfl
theorem lxb98 : (⟨#[98]⟩ : ByteArray) = bs [98] := rfl
theorem lxb97 : (⟨#[97]⟩ : ByteArray) = bs [97] := rfl
theorem lxb108 : (⟨#[108]⟩ : ByteArray) = bs [108] := rfl
theorem lxb112 : (⟨#[112]⟩ : ByteArray) = bs [112] := rfl
theorem dE_free (s : Int) : dE (freeE s) = .ifc 145 (.agg [.ifc 143 (.v (.string (bs (nmT 98 s.toNat))))]) := rfl
set_option maxHeartbeats 4000000 in
theorem rfree_spec (G : Glob) (r : Rt) (hs : r.1.length < 2^40) (hr : ∀ s ∈ r.1, 0 ≤ s ∧ s < 100) : PureC Tryz.prog G 67 [dRt r] (.sl none ((freeL r.1).map fun e => [dE e])) := by
  obtain ⟨ss, ps⟩ := r
  dsimp only at hs hr
  refine PureC.of_body (tyOf_good _) Tryz.func67 rfl rfl (rs := [.tmp 2]) Tryz.results67 (by simp [Tryz.ntmps67]) fun X => ?_
  simp only [Tryz.ntmps67, List.map]
  refine AW_rg (tyOf_good _) [1] [1] (fun _ _ => trivial) fun K' hK' => ?_
  repeat (refine sxf_next fun K2 hK2 => ?_; simp [dRt, cRt, dRow_eq, dPts]; (repeat (refine ⟨by omega, ?_⟩)); refine hK2 _ ?_; clear hK2 K2)
  refine sxf_nil (hK' _ ?_)
  refine AW.st (by simp [dRt, cRt, dRow_eq, dPts]; rfl) ?_
  clear hK' K'
  refine AW.imp (Imp.freezeB 1 trivial) ?_
  refine AW.st (by simp [dRt, cRt, dRow_eq, dPts]; rfl) ?_
  refine AW_rg (tyOf_good _) [1, 3] [] (fun _ _ => trivial) fun K' hK' => ?_
  repeat (refine sxf_next fun K2 hK2 => ?_; simp [dRt, cRt, dRow_eq, dPts]; (repeat (refine ⟨by omega, ?_⟩)); refine hK2 _ ?_; clear hK2 K2)
  refine sxf_nil (hK' _ ?_)
  refine AW.st (by simp [dRt, cRt, dRow_eq, dPts]; rfl) ?_
  clear hK' K'
  refine AW_then fun K1 hK1 => ?_
  refine AW_rg (tyOf_good _) [3, 7, 8, 9] [] (fun _ _ => trivial) fun K' hK' => ?_
  repeat (refine sxf_next fun K2 hK2 => ?_; simp [dRt, cRt, dRow_eq, dPts]; (repeat (refine ⟨by omega, ?_⟩)); refine hK2 _ ?_; clear hK2 K2)
  refine sxf_nil (hK' _ ?_)
  refine AW.st (by simp [dRt, cRt, dRow_eq, dPts]; rfl) ?_
  clear hK' K'
  refine AW_for (S := Nat) (fun i => i ≤ ss.length) (fun i => ⟨lst [(3, .own 300 0 i), (7, .d (.sl none (ss.map fun x => [.v (.int .i64 x)]))), (8, int ss.length), (9, int i)], hlst [(300, .sl 45 1 ((freeL (ss.take i)).map fun e => [dE e]))]⟩) (fun i => ss.length - i) 0 ?_ (by simp) ?_
  · refine (Imp.adopt 3 300 45 1 rfl rfl).trans ?_
    refine Imp.to' (fun _ _ => trivial) (by simp [dRt, cRt, dRow_eq, dPts, freeL_nil]) (by simp [dRt, cRt, dRow_eq, dPts, freeL_nil])
  · intro i hi
    have hl := freeL_len hi
    have htm : ∀ f : Ex → List D, List.take i (List.map f (freeL (ss.take i))) = List.map f (freeL (ss.take i)) := fun f => List.take_of_length_le (by simp [hl])
    refine AW_rg (tyOf_good _) [3, 7, 8, 9, 10] [300] (fun _ _ => trivial) fun K' hK' => ?_
    repeat (refine sxf_next fun K2 hK2 => ?_; simp [dRt, cRt, dRow_eq, dPts]; (repeat (refine ⟨by omega, ?_⟩)); refine hK2 _ ?_; clear hK2 K2)
    refine sxf_nil (hK' _ ?_)
    refine AW.st (by simp [dRt, cRt, dRow_eq, dPts]; rfl) ?_
    clear hK' K'
    refine AW_then fun K2 hK2 => ?_
    refine AW_cond' (b := i < ss.length) (by simp [D.le, D.le.go, takeMap, dRt, cRt, dRow_eq, dPts]) (fun hc => ?_) (fun hc => ?_)
    · have hil := hc
      have hn := rname_spec G 98 ss[i] (by have := hr _ (List.getElem_mem hil); omega)
      have hsuc := freeL_succ hil
      have hde := dE_free ss[i]
      generalize nmT 98 ss[i].toNat = nm at hn hde
      generalize freeE ss[i] = fe at hsuc hde
      have hl1 : (freeL (ss.take (i + 1))).length = i + 1 := freeL_len (by omega)
      refine AW_skip (hK2 _ ?_)
      refine AW_then fun K3 hK3 => ?_
      refine AW_block ?_
      refine AW_rg (tyOf_good _) [3, 5, 7, 8, 9] [300] (fun _ _ => trivial) fun K' hK' => ?_
      repeat (refine sxf_next fun K2 hK2 => ?_; simp [dRt, cRt, dRow_eq, dPts, hil]; (repeat (refine ⟨by omega, ?_⟩)); refine hK2 _ ?_; clear hK2 K2)
      refine sxf_nil (hK' _ ?_)
      refine AW.st (by simp [dRt, cRt, dRow_eq, dPts, hil]; rfl) ?_
      clear hK' K'
      refine AW_re (tyOf_good _) fun K' hK' => ?_
      repeat (refine sxf_next fun K2 hK2 => ?_; simp [dRt, cRt, dRow_eq, dPts, lxb98, hl, htm]; (repeat (refine ⟨by omega, ?_⟩)); refine hK2 _ ?_; clear hK2 K2)
      refine sxf_next fun K2 hK2 => ?_
      simp [dRt, cRt, dRow_eq, dPts, lxb98, hl, htm]
      refine callK.data (hn) (by simp; rfl) (by first | exact D.leGo_refl _ | simp [takeMap, List.map_map, Function.comp_def, D.le, D.le.go, D.le_refl, D.leGo_refl, dRt, cRt, dRow_eq, dPts, lxb98, hl, htm]) ?_
      refine hK2 _ ?_
      clear hK2 K2
      simp only [putd, upd_lst]
      repeat (refine sxf_next fun K2 hK2 => ?_; simp [dRt, cRt, dRow_eq, dPts, lxb98, hl, htm]; (repeat (refine ⟨by omega, ?_⟩)); refine hK2 _ ?_; clear hK2 K2)
      refine sxf_nil (hK' _ ?_)
      clear hK' K'
      refine hK3 _ (AW.norm [3, 7, 8, 9] [300] (fun _ _ => trivial) (AW.st (by simp [dRt, cRt, dRow_eq, dPts, lxb98, hl, htm]; rfl) ?_))
      refine AW_re (tyOf_good _) fun K' hK' => ?_
      repeat (refine sxf_next fun K2 hK2 => ?_; simp [dRt, cRt, dRow_eq, dPts]; (repeat (refine ⟨by omega, ?_⟩)); refine hK2 _ ?_; clear hK2 K2)
      refine sxf_nil (hK' _ ?_)
      clear hK' K'
      try simp only [thn, inb]
      refine Again.mk (i + 1) (by omega) (by omega) ?_
      refine Imp.to' (fun _ _ => trivial) (by simp [dRt, cRt, dRow_eq, dPts, hsuc, hde, htm, hl]) (by simp [dRt, cRt, dRow_eq, dPts, hsuc, hde, htm, hl])
    · obtain rfl : i = ss.length := by omega
      rw [List.take_length] at hl
      simp only [List.take_length]
      refine AW_exit (hK1 _ ?_)
      have htm2 : ∀ f : Ex → List D, List.take ss.length (List.map f (freeL ss)) = List.map f (freeL ss) := fun f => List.take_of_length_le (by simp [hl])
      refine AW.imp (Imp.freeze 300 trivial) ?_
      refine AW.st (by simp [dRt, cRt, dRow_eq, dPts, hl, htm2]; rfl) ?_
      refine AW_rg (tyOf_good _) [2] [] (fun _ _ => trivial) fun K' hK' => ?_
      repeat (refine sxf_next fun K2 hK2 => ?_; simp [dRt, cRt, dRow_eq, dPts]; (repeat (refine ⟨by omega, ?_⟩)); refine hK2 _ ?_; clear hK2 K2)
      refine sxf_nil (hK' _ ?_)
      refine AW.st (by simp [dRt, cRt, dRow_eq, dPts]; rfl) ?_
      clear hK' K'
      refine AW_ret ?_
      simp [D.le, D.le.go, takeMap, dRt, cRt, dRow_eq, dPts, D.leGo_refl, D.le_refl]
end Go.Proofs.YtnlhioeefmhklaaGreatDoor

/-
  Programs: which may be (ladder.Check).
-/
namespace Go.Proofs.YtnlhioeefmhklaaGreatDoor
set_option linter.unusedSimpArgs false
set_option linter.unusedVariables false
open Go.Av

theorem firstBad_at {α : Type} {f : Nat → α → Int} : ∀ {l : List α} {i n : Nat} (hn : n < l.length), (∀ k (hk : k < l.length), k < n → f (i + k) l[k] = 0) → f (i + n) l[n] ≠ 0 → firstBad f l i = some (f (i + n) l[n], i + n)
  | x :: l, i, 0, _, _, hne => by rw [firstBad, if_neg (show ¬ f i x = 0 from hne)]; rfl
  | x :: l, i, n + 1, hn, hb, hne => by
    have h0 : f i x = 0 := hb 0 (by simp) (by omega)
    have e : ∀ k, i + 1 + k = i + (k + 1) := fun k => by omega
    rw [firstBad, if_pos h0, firstBad_at (l := l) (i := i + 1) (n := n) (by simpa using hn) (fun k hk hkn => by rw [e]; exact hb (k + 1) (by simpa using hk) (by omega)) (by rw [e]; exact hne), e]
    rfl
theorem firstBad_ok {α : Type} {f : Nat → α → Int} : ∀ {l : List α} {i : Nat}, (∀ k (hk : k < l.length), f (i + k) l[k] = 0) → firstBad f l i = none
  | [], _, _ => rfl
  | x :: l, i, hb => by
    have e : ∀ k, i + 1 + k = i + (k + 1) := fun k => by omega
    rw [firstBad, if_pos (show f i x = 0 from hb 0 (by simp)), firstBad_ok fun k hk => by rw [e]; exact hb (k + 1) (by simpa using hk)]
/-- What the walk asks: names are no longer than memory; expressions are of a size that may be walked. -/
structure SmallP (p : PgP) : Prop where
  nl : p.names.length < 2^62
  rl : p.rungs.length < 2^62
  nn : ∀ n ∈ p.names, n.name.length < 2^60
  cb : ∀ r ∈ p.rungs, ∀ e, r.cond = some e → bE e ≤ 2^28 ∧ (namesE true e).length < 2^62

set_option maxHeartbeats 16000000 in
theorem ladderCheck_spec (G : Glob) (p : PgP) (hp : SmallP p) : PureC Tryz.prog G 12 [dPg p] (dErr (checkP p)) := by
  obtain ⟨hnl, hrl, hnn, hcb⟩ := hp
  have hr2 : checkP p = if p.names.length > 12 ∨ p.rungs.length > 40 then some (4, none) else match firstBad (badN p) p.names 0 with
    | some (e, i) => some (e, some i)
    | none => match firstBad (fun _ r => badG p r) p.rungs 0 with
      | some (e, i) => some (e, some (p.names.length + i))
      | none => none := rfl
  generalize hres : checkP p = res
  rw [hr2] at hres
  have hnum := fun s => lc_num G p hnl s
  have hchk := fun r h => lc_chk G p hnl r h
  simp only [dPg, cPg, dNms, dRgs, dS] at hnum hchk ⊢
  refine PureC.of_body (tyOf_good _) Tryz.func12 rfl rfl (rs := [.tmp 2]) Tryz.results12 (by simp [Tryz.ntmps12]) fun X => ?_
  simp only [Tryz.ntmps12, List.map]
  refine AW_rg (tyOf_good _) [1] [1] (fun _ _ => trivial) fun K' hK' => ?_
  repeat (refine sxf_next fun K2 hK2 => ?_; simp; (repeat (refine ⟨by omega, ?_⟩)); refine hK2 _ ?_; clear hK2 K2)
  refine sxf_nil (hK' _ ?_)
  refine AW.st (by simp; rfl) ?_
  clear hK' K'
  refine AW.imp (Imp.freezeB 1 trivial) ?_
  refine AW.st (by simp; rfl) ?_
  refine AW_then fun K1 hK1 => ?_
  by_cases g0 : (p.names.length : Int) > 12
  · rw [if_pos (.inl (by omega))] at hres
    refine AW_rg (tyOf_good _) [1, 19] [] (fun _ _ => trivial) fun K' hK' => ?_
    repeat (refine sxf_next fun K2 hK2 => ?_; simp [g0]; (repeat (refine ⟨by omega, ?_⟩)); refine hK2 _ ?_; clear hK2 K2)
    refine sxf_nil (hK' _ ?_)
    refine AW.st (by simp [g0]; rfl) ?_
    clear hK' K'
    refine AW_cond true rfl (fun _ => ?_) (fun h => by cases h)
    refine AW_rg (tyOf_good _) [2] [] (fun _ _ => trivial) fun K' hK' => ?_
    repeat (refine sxf_next fun K2 hK2 => ?_; simp; (repeat (refine ⟨by omega, ?_⟩)); refine hK2 _ ?_; clear hK2 K2)
    refine sxf_nil (hK' _ ?_)
    refine AW.st (by simp; rfl) ?_
    clear hK' K'
    refine AW_ret ?_
    simp [D.le, D.le.go, takeMap]
    simp [← hres, dErr, D.le]
  by_cases g1 : (p.rungs.length : Int) > 40
  · rw [if_pos (.inr (by omega))] at hres
    refine AW_rg (tyOf_good _) [1, 19] [] (fun _ _ => trivial) fun K' hK' => ?_
    repeat (refine sxf_next fun K2 hK2 => ?_; simp [g0, g1]; (repeat (refine ⟨by omega, ?_⟩)); refine hK2 _ ?_; clear hK2 K2)
    refine sxf_nil (hK' _ ?_)
    refine AW.st (by simp [g0, g1]; rfl) ?_
    clear hK' K'
    refine AW_cond true rfl (fun _ => ?_) (fun h => by cases h)
    refine AW_rg (tyOf_good _) [2] [] (fun _ _ => trivial) fun K' hK' => ?_
    repeat (refine sxf_next fun K2 hK2 => ?_; simp; (repeat (refine ⟨by omega, ?_⟩)); refine hK2 _ ?_; clear hK2 K2)
    refine sxf_nil (hK' _ ?_)
    refine AW.st (by simp; rfl) ?_
    clear hK' K'
    refine AW_ret ?_
    simp [D.le, D.le.go, takeMap]
    simp [← hres, dErr, D.le]
  rw [if_neg (by omega)] at hres
  refine AW_rg (tyOf_good _) [1, 19] [] (fun _ _ => trivial) fun K' hK' => ?_
  repeat (refine sxf_next fun K2 hK2 => ?_; simp [g0, g1]; (repeat (refine ⟨by omega, ?_⟩)); refine hK2 _ ?_; clear hK2 K2)
  refine sxf_nil (hK' _ ?_)
  refine AW.st (by simp [g0, g1]; rfl) ?_
  clear hK' K'
  refine AW_cond false rfl (fun h => by cases h) (fun _ => ?_)
  refine AW_skip (hK1 _ ?_)
  refine AW_then fun K2 hK2 => ?_
  refine AW_rg (tyOf_good _) [1, 22, 23, 24] [] (fun _ _ => trivial) fun K' hK' => ?_
  repeat (refine sxf_next fun K2 hK2 => ?_; simp; (repeat (refine ⟨by omega, ?_⟩)); refine hK2 _ ?_; clear hK2 K2)
  refine sxf_nil (hK' _ ?_)
  refine AW.st (by simp; rfl) ?_
  clear hK' K'
  refine AW_for (S := Nat) (fun n => n ≤ p.names.length ∧ ∀ k (hk : k < p.names.length), k < n → badN p k p.names[k] = 0) (fun n => ⟨lst [(1, .d (.ip [.sl none (p.names.map cNm), .sl none (p.rungs.map cRg)])), (22, .d (.sl none (p.names.map cNm))), (23, int p.names.length), (24, int n)], hlst []⟩) (fun n => p.names.length - n) 0 ?_ (by simp) ?_
  · refine Imp.to' (fun _ _ => trivial) (by simp) (by simp)
  · rintro n ⟨hn, hb⟩
    refine AW_rg (tyOf_good _) [1, 22, 23, 24, 25] [] (fun _ _ => trivial) fun K' hK' => ?_
    repeat (refine sxf_next fun K2 hK2 => ?_; simp; (repeat (refine ⟨by omega, ?_⟩)); refine hK2 _ ?_; clear hK2 K2)
    refine sxf_nil (hK' _ ?_)
    refine AW.st (by simp; rfl) ?_
    clear hK' K'
    refine AW_then fun K3 hK3 => ?_
    refine AW_cond' (b := n < p.names.length) (by simp [D.le, D.le.go, takeMap]) (fun hc => ?_) (fun hc => ?_)
    · have hlt := hc
      have hgo : badN p n p.names[n] ≠ 0 → res = some (badN p n p.names[n], some n) := fun hne => by
        rw [← hres, firstBad_at (i := 0) hlt (fun k hk hkn => by rw [Nat.zero_add]; exact hb k hk hkn) (by rw [Nat.zero_add]; exact hne)]; simp
      have hnm := hnn _ (List.getElem_mem hlt)
      have hcells : cNm p.names[n] = [dS p.names[n].name, .v (.int .i64 p.names[n].kind), .v (.int .i64 p.names[n].count)] := rfl
      have hbad : badN p n p.names[n] = if !nameF p.names[n].name then 5 else if decide (p.names[n].kind < 1) || decide (p.names[n].kind > 4) then 1 else if ((decide (p.names[n].kind = 3) || decide (p.names[n].kind = 4)) && (decide (p.names[n].count < 1) || decide (p.names[n].count > 7))) || (!(decide (p.names[n].kind = 3) || decide (p.names[n].kind = 4)) && decide (p.names[n].count ≠ 0)) then 2 else if numP p p.names[n].name < n then 9 else 0 := rfl
      generalize hv : badN p n p.names[n] = v at hbad hgo
      generalize p.names[n].name = nm at hnm hcells hbad
      generalize p.names[n].kind = kd at hcells hbad
      generalize p.names[n].count = ct at hcells hbad
      have hname := name_spec G nm hnm
      have hnu := hnum nm
      simp only [dS] at hcells hname
      generalize nameF nm = nf at hname hbad
      refine AW_skip (hK3 _ ?_)
      refine AW_then fun K4 hK4 => ?_
      refine AW_block ?_
      refine AW_rg (tyOf_good _) [1, 3, 4, 22, 23, 24] [4] (fun _ _ => trivial) fun K' hK' => ?_
      repeat (refine sxf_next fun K2 hK2 => ?_; simp [hlt, hcells]; (repeat (refine ⟨by omega, ?_⟩)); refine hK2 _ ?_; clear hK2 K2)
      refine sxf_nil (hK' _ ?_)
      refine AW.st (by simp [hlt, hcells]; rfl) ?_
      clear hK' K'
      refine AW.imp (Imp.freezeB 4 trivial) ?_
      refine AW.st (by simp; rfl) ?_
      refine' lateG (fun hst => ?_) ?_
      rotate_left
      · by_cases k3 : kd = 3
        · refine AW_rg (tyOf_good _) [1, 3, 4, 5, 22, 23, 24] [] (fun _ _ => trivial) fun K' hK' => ?_
          repeat (refine sxf_next fun K2 hK2 => ?_; simp [k3]; (repeat (refine ⟨by omega, ?_⟩)); refine hK2 _ ?_; clear hK2 K2)
          refine sxf_nil (hK' _ ?_)
          refine AW.st (by simp [k3]; rfl) ?_
          clear hK' K'
          refine AW.st (show _ = (⟨lst [(1, .d (.ip [.sl none (p.names.map cNm), .sl none (p.rungs.map cRg)])), (3, int n), (4, .d (.ip [.v (.string (bs nm)), .v (.int .i64 kd), .v (.int .i64 ct)])), (5, .d (.v (.bool (decide (kd = 3) || decide (kd = 4))))), (22, .d (.sl none (p.names.map cNm))), (23, int p.names.length), (24, int n)], hlst []⟩ : St) by rw [k3] <;> rfl) ?_
          exact hst.out
        · by_cases k4 : kd = 4
          · refine AW_rg (tyOf_good _) [1, 3, 4, 5, 22, 23, 24] [] (fun _ _ => trivial) fun K' hK' => ?_
            repeat (refine sxf_next fun K2 hK2 => ?_; simp [k3, k4]; (repeat (refine ⟨by omega, ?_⟩)); refine hK2 _ ?_; clear hK2 K2)
            refine sxf_nil (hK' _ ?_)
            refine AW.st (by simp [k3, k4]; rfl) ?_
            clear hK' K'
            refine AW.st (show _ = (⟨lst [(1, .d (.ip [.sl none (p.names.map cNm), .sl none (p.rungs.map cRg)])), (3, int n), (4, .d (.ip [.v (.string (bs nm)), .v (.int .i64 kd), .v (.int .i64 ct)])), (5, .d (.v (.bool (decide (kd = 3) || decide (kd = 4))))), (22, .d (.sl none (p.names.map cNm))), (23, int p.names.length), (24, int n)], hlst []⟩ : St) by rw [k4] <;> rfl) ?_
            exact hst.out
          · have e : (decide (kd = 3) || decide (kd = 4)) = false := by simp [k3, k4]
            refine AW_rg (tyOf_good _) [1, 3, 4, 5, 22, 23, 24] [] (fun _ _ => trivial) fun K' hK' => ?_
            repeat (refine sxf_next fun K2 hK2 => ?_; simp [k3, k4]; (repeat (refine ⟨by omega, ?_⟩)); refine hK2 _ ?_; clear hK2 K2)
            refine sxf_nil (hK' _ ?_)
            refine AW.st (by simp [k3, k4]; rfl) ?_
            clear hK' K'
            refine AW.st (show _ = (⟨lst [(1, .d (.ip [.sl none (p.names.map cNm), .sl none (p.rungs.map cRg)])), (3, int n), (4, .d (.ip [.v (.string (bs nm)), .v (.int .i64 kd), .v (.int .i64 ct)])), (5, .d (.v (.bool (decide (kd = 3) || decide (kd = 4))))), (22, .d (.sl none (p.names.map cNm))), (23, int p.names.length), (24, int n)], hlst []⟩ : St) by rw [e] <;> rfl) ?_
            exact hst.out
      · generalize (decide (kd = 3) || decide (kd = 4)) = cB at hbad
        refine AW_rg (tyOf_good _) [1, 3, 4, 5, 6, 22, 23, 24] [] (fun _ _ => trivial) fun K' hK' => ?_
        repeat (refine sxf_next fun K2 hK2 => ?_; simp; (repeat (refine ⟨by omega, ?_⟩)); refine hK2 _ ?_; clear hK2 K2)
        refine sxf_nil (hK' _ ?_)
        refine AW.st (by simp; rfl) ?_
        clear hK' K'
        refine AW_then fun K5 hK5 => ?_
        refine' lateG (fun hrest => ?_) ?_
        rotate_left
        · refine AW_block ?_
          refine AW_rg (tyOf_good _) [1, 3, 4, 5, 6, 22, 23, 24, 37] [] (fun _ _ => trivial) fun K' hK' => ?_
          repeat (refine sxf_next fun K2 hK2 => ?_; simp; (repeat (refine ⟨by omega, ?_⟩)); refine hK2 _ ?_; clear hK2 K2)
          refine sxf_next fun K2 hK2 => ?_
          simp
          refine callK.data (hname) (by simp; rfl) (by first | exact D.leGo_refl _ | simp [takeMap, List.map_map, Function.comp_def, D.le, D.le.go, D.le_refl, D.leGo_refl]) ?_
          refine hK2 _ ?_
          clear hK2 K2
          simp only [putd, upd_lst]
          repeat (refine sxf_next fun K2 hK2 => ?_; simp; (repeat (refine ⟨by omega, ?_⟩)); refine hK2 _ ?_; clear hK2 K2)
          refine sxf_nil (hK' _ ?_)
          refine AW.st (by simp; rfl) ?_
          clear hK' K'
          by_cases hnf : nf = true
          rotate_left
          · have hnf2 : nf = false := by simpa using hnf
            rw [if_pos (by simp [hnf2])] at hbad
            rw [hnf2]
            refine AW_cond true rfl (fun _ => ?_) (fun h => by cases h)
            refine AW_re (tyOf_good _) fun K' hK' => ?_
            repeat (refine sxf_next fun K2 hK2 => ?_; simp; (repeat (refine ⟨by omega, ?_⟩)); refine hK2 _ ?_; clear hK2 K2)
            refine sxf_nil (hK' _ ?_)
            clear hK' K'
            refine hK5 _ (AW.norm [1, 3, 6, 22, 23, 24] [] (fun _ _ => trivial) (AW.st (by simp; rfl) ?_))
            refine AW.st (show _ = (⟨lst [(1, .d (.ip [.sl none (p.names.map cNm), .sl none (p.rungs.map cRg)])), (3, int n), (6, int v), (22, .d (.sl none (p.names.map cNm))), (23, int p.names.length), (24, int n)], hlst []⟩ : St) by rw [hbad] <;> rfl) ?_
            exact hrest.out
          · rw [if_neg (by simp [hnf])] at hbad
            rw [hnf]
            refine AW_cond false rfl (fun h => by cases h) (fun _ => ?_)
            by_cases k1 : kd < 1
            · rw [if_pos (by simp [k1])] at hbad
              refine AW_rg (tyOf_good _) [1, 3, 4, 5, 6, 22, 23, 24, 42] [] (fun _ _ => trivial) fun K' hK' => ?_
              repeat (refine sxf_next fun K2 hK2 => ?_; simp [k1]; (repeat (refine ⟨by omega, ?_⟩)); refine hK2 _ ?_; clear hK2 K2)
              refine sxf_nil (hK' _ ?_)
              refine AW.st (by simp [k1]; rfl) ?_
              clear hK' K'
              refine AW_cond true rfl (fun _ => ?_) (fun h => by cases h)
              refine AW_re (tyOf_good _) fun K' hK' => ?_
              repeat (refine sxf_next fun K2 hK2 => ?_; simp; (repeat (refine ⟨by omega, ?_⟩)); refine hK2 _ ?_; clear hK2 K2)
              refine sxf_nil (hK' _ ?_)
              clear hK' K'
              refine hK5 _ (AW.norm [1, 3, 6, 22, 23, 24] [] (fun _ _ => trivial) (AW.st (by simp; rfl) ?_))
              refine AW.st (show _ = (⟨lst [(1, .d (.ip [.sl none (p.names.map cNm), .sl none (p.rungs.map cRg)])), (3, int n), (6, int v), (22, .d (.sl none (p.names.map cNm))), (23, int p.names.length), (24, int n)], hlst []⟩ : St) by rw [hbad] <;> rfl) ?_
              exact hrest.out
            by_cases k2 : kd > 4
            · rw [if_pos (by simp [k2])] at hbad
              refine AW_rg (tyOf_good _) [1, 3, 4, 5, 6, 22, 23, 24, 42] [] (fun _ _ => trivial) fun K' hK' => ?_
              repeat (refine sxf_next fun K2 hK2 => ?_; simp [k1, k2]; (repeat (refine ⟨by omega, ?_⟩)); refine hK2 _ ?_; clear hK2 K2)
              refine sxf_nil (hK' _ ?_)
              refine AW.st (by simp [k1, k2]; rfl) ?_
              clear hK' K'
              refine AW_cond true rfl (fun _ => ?_) (fun h => by cases h)
              refine AW_re (tyOf_good _) fun K' hK' => ?_
              repeat (refine sxf_next fun K2 hK2 => ?_; simp; (repeat (refine ⟨by omega, ?_⟩)); refine hK2 _ ?_; clear hK2 K2)
              refine sxf_nil (hK' _ ?_)
              clear hK' K'
              refine hK5 _ (AW.norm [1, 3, 6, 22, 23, 24] [] (fun _ _ => trivial) (AW.st (by simp; rfl) ?_))
              refine AW.st (show _ = (⟨lst [(1, .d (.ip [.sl none (p.names.map cNm), .sl none (p.rungs.map cRg)])), (3, int n), (6, int v), (22, .d (.sl none (p.names.map cNm))), (23, int p.names.length), (24, int n)], hlst []⟩ : St) by rw [hbad] <;> rfl) ?_
              exact hrest.out
            rw [if_neg (by simp [k1, k2])] at hbad
            refine AW_rg (tyOf_good _) [1, 3, 4, 5, 6, 22, 23, 24, 42] [] (fun _ _ => trivial) fun K' hK' => ?_
            repeat (refine sxf_next fun K2 hK2 => ?_; simp [k1, k2]; (repeat (refine ⟨by omega, ?_⟩)); refine hK2 _ ?_; clear hK2 K2)
            refine sxf_nil (hK' _ ?_)
            refine AW.st (by simp [k1, k2]; rfl) ?_
            clear hK' K'
            refine AW_cond false rfl (fun h => by cases h) (fun _ => ?_)
            by_cases hcB : cB = true
            · rw [hcB] at hbad ⊢
              by_cases c1 : ct < 1
              · rw [if_pos (by simp [c1])] at hbad
                refine AW_rg (tyOf_good _) [1, 3, 4, 6, 22, 23, 24, 51] [] (fun _ _ => trivial) fun K' hK' => ?_
                repeat (refine sxf_next fun K2 hK2 => ?_; simp [c1]; (repeat (refine ⟨by omega, ?_⟩)); refine hK2 _ ?_; clear hK2 K2)
                refine sxf_nil (hK' _ ?_)
                refine AW.st (by simp [c1]; rfl) ?_
                clear hK' K'
                refine AW_cond true rfl (fun _ => ?_) (fun h => by cases h)
                refine AW_re (tyOf_good _) fun K' hK' => ?_
                repeat (refine sxf_next fun K2 hK2 => ?_; simp; (repeat (refine ⟨by omega, ?_⟩)); refine hK2 _ ?_; clear hK2 K2)
                refine sxf_nil (hK' _ ?_)
                clear hK' K'
                refine hK5 _ (AW.norm [1, 3, 6, 22, 23, 24] [] (fun _ _ => trivial) (AW.st (by simp; rfl) ?_))
                refine AW.st (show _ = (⟨lst [(1, .d (.ip [.sl none (p.names.map cNm), .sl none (p.rungs.map cRg)])), (3, int n), (6, int v), (22, .d (.sl none (p.names.map cNm))), (23, int p.names.length), (24, int n)], hlst []⟩ : St) by rw [hbad] <;> rfl) ?_
                exact hrest.out
              by_cases c2 : ct > 7
              · rw [if_pos (by simp [c2])] at hbad
                refine AW_rg (tyOf_good _) [1, 3, 4, 6, 22, 23, 24, 51] [] (fun _ _ => trivial) fun K' hK' => ?_
                repeat (refine sxf_next fun K2 hK2 => ?_; simp [c1, c2]; (repeat (refine ⟨by omega, ?_⟩)); refine hK2 _ ?_; clear hK2 K2)
                refine sxf_nil (hK' _ ?_)
                refine AW.st (by simp [c1, c2]; rfl) ?_
                clear hK' K'
                refine AW_cond true rfl (fun _ => ?_) (fun h => by cases h)
                refine AW_re (tyOf_good _) fun K' hK' => ?_
                repeat (refine sxf_next fun K2 hK2 => ?_; simp; (repeat (refine ⟨by omega, ?_⟩)); refine hK2 _ ?_; clear hK2 K2)
                refine sxf_nil (hK' _ ?_)
                clear hK' K'
                refine hK5 _ (AW.norm [1, 3, 6, 22, 23, 24] [] (fun _ _ => trivial) (AW.st (by simp; rfl) ?_))
                refine AW.st (show _ = (⟨lst [(1, .d (.ip [.sl none (p.names.map cNm), .sl none (p.rungs.map cRg)])), (3, int n), (6, int v), (22, .d (.sl none (p.names.map cNm))), (23, int p.names.length), (24, int n)], hlst []⟩ : St) by rw [hbad] <;> rfl) ?_
                exact hrest.out
              rw [if_neg (by simp [c1, c2])] at hbad
              refine AW_rg (tyOf_good _) [1, 3, 4, 6, 22, 23, 24, 51] [] (fun _ _ => trivial) fun K' hK' => ?_
              repeat (refine sxf_next fun K2 hK2 => ?_; simp [c1, c2]; (repeat (refine ⟨by omega, ?_⟩)); refine hK2 _ ?_; clear hK2 K2)
              refine sxf_nil (hK' _ ?_)
              refine AW.st (by simp [c1, c2]; rfl) ?_
              clear hK' K'
              refine AW_cond false rfl (fun h => by cases h) (fun _ => ?_)
              refine AW_rg (tyOf_good _) [1, 3, 6, 22, 23, 24, 72] [] (fun _ _ => trivial) fun K' hK' => ?_
              repeat (refine sxf_next fun K2 hK2 => ?_; simp; (repeat (refine ⟨by omega, ?_⟩)); refine hK2 _ ?_; clear hK2 K2)
              refine sxf_next fun K2 hK2 => ?_
              simp
              refine callK.data (hnu) (by simp; rfl) (by first | exact D.leGo_refl _ | simp [takeMap, List.map_map, Function.comp_def, D.le, D.le.go, D.le_refl, D.leGo_refl]) ?_
              refine hK2 _ ?_
              clear hK2 K2
              simp only [putd, upd_lst]
              repeat (refine sxf_next fun K2 hK2 => ?_; simp; (repeat (refine ⟨by omega, ?_⟩)); refine hK2 _ ?_; clear hK2 K2)
              refine sxf_nil (hK' _ ?_)
              refine AW.st (by simp; rfl) ?_
              clear hK' K'
              by_cases c9 : numP p nm < n
              · rw [if_pos c9] at hbad
                refine AW_cond true (by simp [c9]) (fun _ => ?_) (fun h => by cases h)
                refine AW_re (tyOf_good _) fun K' hK' => ?_
                repeat (refine sxf_next fun K2 hK2 => ?_; simp; (repeat (refine ⟨by omega, ?_⟩)); refine hK2 _ ?_; clear hK2 K2)
                refine sxf_nil (hK' _ ?_)
                clear hK' K'
                refine hK5 _ (AW.norm [1, 3, 6, 22, 23, 24] [] (fun _ _ => trivial) (AW.st (by simp; rfl) ?_))
                refine AW.st (show _ = (⟨lst [(1, .d (.ip [.sl none (p.names.map cNm), .sl none (p.rungs.map cRg)])), (3, int n), (6, int v), (22, .d (.sl none (p.names.map cNm))), (23, int p.names.length), (24, int n)], hlst []⟩ : St) by rw [hbad] <;> rfl) ?_
                exact hrest.out
              · rw [if_neg c9] at hbad
                refine AW_cond false (by simp [c9]) (fun h => by cases h) (fun _ => ?_)
                refine AW_skip ?_
                refine hK5 _ (AW.norm [1, 3, 6, 22, 23, 24] [] (fun _ _ => trivial) (AW.st (by simp; rfl) ?_))
                refine AW.st (show _ = (⟨lst [(1, .d (.ip [.sl none (p.names.map cNm), .sl none (p.rungs.map cRg)])), (3, int n), (6, int v), (22, .d (.sl none (p.names.map cNm))), (23, int p.names.length), (24, int n)], hlst []⟩ : St) by rw [hbad] <;> rfl) ?_
                exact hrest.out
            · have hcB2 : cB = false := by simpa using hcB
              rw [hcB2] at hbad ⊢
              by_cases c0 : ct = 0
              · rw [if_neg (by simp [c0])] at hbad
                refine AW_rg (tyOf_good _) [1, 3, 4, 6, 22, 23, 24, 51] [] (fun _ _ => trivial) fun K' hK' => ?_
                repeat (refine sxf_next fun K2 hK2 => ?_; simp [c0]; (repeat (refine ⟨by omega, ?_⟩)); refine hK2 _ ?_; clear hK2 K2)
                refine sxf_nil (hK' _ ?_)
                refine AW.st (by simp [c0]; rfl) ?_
                clear hK' K'
                refine AW_cond false rfl (fun h => by cases h) (fun _ => ?_)
                refine AW_rg (tyOf_good _) [1, 3, 6, 22, 23, 24, 72] [] (fun _ _ => trivial) fun K' hK' => ?_
                repeat (refine sxf_next fun K2 hK2 => ?_; simp; (repeat (refine ⟨by omega, ?_⟩)); refine hK2 _ ?_; clear hK2 K2)
                refine sxf_next fun K2 hK2 => ?_
                simp
                refine callK.data (hnu) (by simp; rfl) (by first | exact D.leGo_refl _ | simp [takeMap, List.map_map, Function.comp_def, D.le, D.le.go, D.le_refl, D.leGo_refl]) ?_
                refine hK2 _ ?_
                clear hK2 K2
                simp only [putd, upd_lst]
                repeat (refine sxf_next fun K2 hK2 => ?_; simp; (repeat (refine ⟨by omega, ?_⟩)); refine hK2 _ ?_; clear hK2 K2)
                refine sxf_nil (hK' _ ?_)
                refine AW.st (by simp; rfl) ?_
                clear hK' K'
                by_cases c9 : numP p nm < n
                · rw [if_pos c9] at hbad
                  refine AW_cond true (by simp [c9]) (fun _ => ?_) (fun h => by cases h)
                  refine AW_re (tyOf_good _) fun K' hK' => ?_
                  repeat (refine sxf_next fun K2 hK2 => ?_; simp; (repeat (refine ⟨by omega, ?_⟩)); refine hK2 _ ?_; clear hK2 K2)
                  refine sxf_nil (hK' _ ?_)
                  clear hK' K'
                  refine hK5 _ (AW.norm [1, 3, 6, 22, 23, 24] [] (fun _ _ => trivial) (AW.st (by simp; rfl) ?_))
                  refine AW.st (show _ = (⟨lst [(1, .d (.ip [.sl none (p.names.map cNm), .sl none (p.rungs.map cRg)])), (3, int n), (6, int v), (22, .d (.sl none (p.names.map cNm))), (23, int p.names.length), (24, int n)], hlst []⟩ : St) by rw [hbad] <;> rfl) ?_
                  exact hrest.out
                · rw [if_neg c9] at hbad
                  refine AW_cond false (by simp [c9]) (fun h => by cases h) (fun _ => ?_)
                  refine AW_skip ?_
                  refine hK5 _ (AW.norm [1, 3, 6, 22, 23, 24] [] (fun _ _ => trivial) (AW.st (by simp; rfl) ?_))
                  refine AW.st (show _ = (⟨lst [(1, .d (.ip [.sl none (p.names.map cNm), .sl none (p.rungs.map cRg)])), (3, int n), (6, int v), (22, .d (.sl none (p.names.map cNm))), (23, int p.names.length), (24, int n)], hlst []⟩ : St) by rw [hbad] <;> rfl) ?_
                  exact hrest.out
              · rw [if_pos (by simp [c0])] at hbad
                refine AW_rg (tyOf_good _) [1, 3, 4, 6, 22, 23, 24, 51] [] (fun _ _ => trivial) fun K' hK' => ?_
                repeat (refine sxf_next fun K2 hK2 => ?_; simp [c0]; (repeat (refine ⟨by omega, ?_⟩)); refine hK2 _ ?_; clear hK2 K2)
                refine sxf_nil (hK' _ ?_)
                refine AW.st (by simp [c0]; rfl) ?_
                clear hK' K'
                refine AW_cond true rfl (fun _ => ?_) (fun h => by cases h)
                refine AW_re (tyOf_good _) fun K' hK' => ?_
                repeat (refine sxf_next fun K2 hK2 => ?_; simp; (repeat (refine ⟨by omega, ?_⟩)); refine hK2 _ ?_; clear hK2 K2)
                refine sxf_nil (hK' _ ?_)
                clear hK' K'
                refine hK5 _ (AW.norm [1, 3, 6, 22, 23, 24] [] (fun _ _ => trivial) (AW.st (by simp; rfl) ?_))
                refine AW.st (show _ = (⟨lst [(1, .d (.ip [.sl none (p.names.map cNm), .sl none (p.rungs.map cRg)])), (3, int n), (6, int v), (22, .d (.sl none (p.names.map cNm))), (23, int p.names.length), (24, int n)], hlst []⟩ : St) by rw [hbad] <;> rfl) ?_
                exact hrest.out
        · by_cases hv0 : v = 0
          · refine AW_rg (tyOf_good _) [1, 3, 6, 22, 23, 24, 80] [] (fun _ _ => trivial) fun K' hK' => ?_
            repeat (refine sxf_next fun K2 hK2 => ?_; simp [hv0]; (repeat (refine ⟨by omega, ?_⟩)); refine hK2 _ ?_; clear hK2 K2)
            refine sxf_nil (hK' _ ?_)
            refine AW.st (by simp [hv0]; rfl) ?_
            clear hK' K'
            refine AW_cond false rfl (fun h => by cases h) (fun _ => ?_)
            refine AW_skip ?_
            refine hK4 _ ?_
            refine AW_re (tyOf_good _) fun K' hK' => ?_
            repeat (refine sxf_next fun K2 hK2 => ?_; simp; (repeat (refine ⟨by omega, ?_⟩)); refine hK2 _ ?_; clear hK2 K2)
            refine sxf_nil (hK' _ ?_)
            clear hK' K'
            try simp only [thn, inb]
            refine Again.mk (n + 1) ⟨by omega, fun k hk hkn => ?_⟩ (by omega) ?_
            · by_cases h : k = n
              · subst h; rw [hv, hv0]
              · exact hb k hk (by omega)
            refine Imp.to' (fun _ _ => trivial) (by simp) (by simp)
          · refine AW_rg (tyOf_good _) [1, 3, 6, 22, 23, 24, 80] [] (fun _ _ => trivial) fun K' hK' => ?_
            repeat (refine sxf_next fun K2 hK2 => ?_; simp [hv0]; (repeat (refine ⟨by omega, ?_⟩)); refine hK2 _ ?_; clear hK2 K2)
            refine sxf_nil (hK' _ ?_)
            refine AW.st (by simp [hv0]; rfl) ?_
            clear hK' K'
            refine AW_cond true rfl (fun _ => ?_) (fun h => by cases h)
            refine AW_rg (tyOf_good _) [2] [84] (fun _ _ => trivial) fun K' hK' => ?_
            repeat (refine sxf_next fun K2 hK2 => ?_; simp; (repeat (refine ⟨by omega, ?_⟩)); refine hK2 _ ?_; clear hK2 K2)
            refine sxf_nil (hK' _ ?_)
            refine AW.st (by simp; rfl) ?_
            clear hK' K'
            refine AW_ret ?_
            simp [D.le, D.le.go, takeMap]
            simp [hgo hv0, dErr, D.le, D.le.go]
    · rw [firstBad_ok fun k hk => by rw [Nat.zero_add]; exact hb k hk (by omega)] at hres
      dsimp only at hres
      refine AW_exit (hK2 _ ?_)
      refine AW_then fun K6 hK6 => ?_
      refine AW_rg (tyOf_good _) [1, 88, 89, 90] [] (fun _ _ => trivial) fun K' hK' => ?_
      repeat (refine sxf_next fun K2 hK2 => ?_; simp; (repeat (refine ⟨by omega, ?_⟩)); refine hK2 _ ?_; clear hK2 K2)
      refine sxf_nil (hK' _ ?_)
      refine AW.st (by simp; rfl) ?_
      clear hK' K'
      refine AW_for (S := Nat) (fun n => n ≤ p.rungs.length ∧ ∀ k (hk : k < p.rungs.length), k < n → badG p p.rungs[k] = 0) (fun n => ⟨lst [(1, .d (.ip [.sl none (p.names.map cNm), .sl none (p.rungs.map cRg)])), (88, .d (.sl none (p.rungs.map cRg))), (89, int p.rungs.length), (90, int n)], hlst []⟩) (fun n => p.rungs.length - n) 0 ?_ (by simp) ?_
      · refine Imp.to' (fun _ _ => trivial) (by simp) (by simp)
      · rintro n ⟨hn, hb⟩
        refine AW_rg (tyOf_good _) [1, 88, 89, 90, 91] [] (fun _ _ => trivial) fun K' hK' => ?_
        repeat (refine sxf_next fun K2 hK2 => ?_; simp; (repeat (refine ⟨by omega, ?_⟩)); refine hK2 _ ?_; clear hK2 K2)
        refine sxf_nil (hK' _ ?_)
        refine AW.st (by simp; rfl) ?_
        clear hK' K'
        refine AW_then fun K7 hK7 => ?_
        refine AW_cond' (b := n < p.rungs.length) (by simp [D.le, D.le.go, takeMap]) (fun hc => ?_) (fun hc => ?_)
        · have hlt := hc
          have hgo : badG p p.rungs[n] ≠ 0 → res = some (badG p p.rungs[n], some (p.names.length + n)) := fun hne => by
            rw [← hres, firstBad_at (i := 0) hlt (fun k hk hkn => hb k hk hkn) hne]; simp
          have hcells : cRg p.rungs[n] = [.v (.int .i64 p.rungs[n].kind), dS p.rungs[n].name, dC p.rungs[n].cond] := rfl
          have hck := hchk p.rungs[n] (hcb _ (List.getElem_mem hlt))
          simp only [dRg, hcells] at hck
          generalize hv : badG p p.rungs[n] = v at hck hgo
          obtain ⟨tc, hdc, hsc⟩ : ∃ tc, dC p.rungs[n].cond = tc ∧ ((∃ a b, tc = .ifc a b) ∨ tc = .v .nilIface) := by
            cases p.rungs[n].cond with
            | none => exact ⟨_, rfl, .inr rfl⟩
            | some e => obtain ⟨a, b, h⟩ := dE_ifc e; exact ⟨_, rfl, .inl ⟨a, b, h⟩⟩
          rw [hdc] at hcells hck
          generalize p.rungs[n].kind = kd at hcells hck
          generalize p.rungs[n].name = nm at hcells hck
          simp only [dS] at hcells hck
          have hlt' : (p.names.length : Int) + (n : Int) ≤ 2^62 := by omega
          refine AW_skip (hK7 _ ?_)
          refine AW_then fun K8 hK8 => ?_
          refine AW_block ?_
          rcases hsc with ⟨ta, tb2, rfl⟩ | rfl
          all_goals
            · refine AW_rg (tyOf_good _) [1, 7, 8, 88, 89, 90] [8] (fun _ _ => trivial) fun K' hK' => ?_
              repeat (refine sxf_next fun K2 hK2 => ?_; simp [hlt, hcells]; (repeat (refine ⟨by omega, ?_⟩)); refine hK2 _ ?_; clear hK2 K2)
              refine sxf_nil (hK' _ ?_)
              refine AW.st (by simp [hlt, hcells]; rfl) ?_
              clear hK' K'
              refine AW.imp (Imp.freezeB 8 trivial) ?_
              refine AW.st (by simp; rfl) ?_
              refine AW_rg (tyOf_good _) [1, 7, 9, 88, 89, 90] [] (fun _ _ => trivial) fun K' hK' => ?_
              repeat (refine sxf_next fun K2 hK2 => ?_; simp; (repeat (refine ⟨by omega, ?_⟩)); refine hK2 _ ?_; clear hK2 K2)
              refine sxf_next fun K2 hK2 => ?_
              simp
              refine callK.data (hck) (by simp; rfl) (by first | exact D.leGo_refl _ | simp [takeMap, List.map_map, Function.comp_def, D.le, D.le.go, D.le_refl, D.leGo_refl]) ?_
              refine hK2 _ ?_
              clear hK2 K2
              simp only [putd, upd_lst]
              repeat (refine sxf_next fun K2 hK2 => ?_; simp; (repeat (refine ⟨by omega, ?_⟩)); refine hK2 _ ?_; clear hK2 K2)
              refine sxf_nil (hK' _ ?_)
              refine AW.st (by simp; rfl) ?_
              clear hK' K'
              by_cases hv0 : v = 0
              · refine AW_rg (tyOf_good _) [1, 7, 9, 88, 89, 90, 99] [] (fun _ _ => trivial) fun K' hK' => ?_
                repeat (refine sxf_next fun K2 hK2 => ?_; simp [hv0]; (repeat (refine ⟨by omega, ?_⟩)); refine hK2 _ ?_; clear hK2 K2)
                refine sxf_nil (hK' _ ?_)
                refine AW.st (by simp [hv0]; rfl) ?_
                clear hK' K'
                refine AW_cond false rfl (fun h => by cases h) (fun _ => ?_)
                refine AW_skip (hK8 _ ?_)
                refine AW_re (tyOf_good _) fun K' hK' => ?_
                repeat (refine sxf_next fun K2 hK2 => ?_; simp; (repeat (refine ⟨by omega, ?_⟩)); refine hK2 _ ?_; clear hK2 K2)
                refine sxf_nil (hK' _ ?_)
                clear hK' K'
                try simp only [thn, inb]
                refine Again.mk (n + 1) ⟨by omega, fun k hk hkn => ?_⟩ (by omega) ?_
                · by_cases h : k = n
                  · subst h; rw [hv, hv0]
                  · exact hb k hk (by omega)
                refine Imp.to' (fun _ _ => trivial) (by simp) (by simp)
              · refine AW_rg (tyOf_good _) [1, 7, 9, 88, 89, 90, 99] [] (fun _ _ => trivial) fun K' hK' => ?_
                repeat (refine sxf_next fun K2 hK2 => ?_; simp [hv0]; (repeat (refine ⟨by omega, ?_⟩)); refine hK2 _ ?_; clear hK2 K2)
                refine sxf_nil (hK' _ ?_)
                refine AW.st (by simp [hv0]; rfl) ?_
                clear hK' K'
                refine AW_cond true rfl (fun _ => ?_) (fun h => by cases h)
                refine AW_rg (tyOf_good _) [2] [107] (fun _ _ => trivial) fun K' hK' => ?_
                repeat (refine sxf_next fun K2 hK2 => ?_; simp; (repeat (refine ⟨by omega, ?_⟩)); refine hK2 _ ?_; clear hK2 K2)
                refine sxf_nil (hK' _ ?_)
                refine AW.st (by simp; rfl) ?_
                clear hK' K'
                refine AW_ret ?_
                simp [D.le, D.le.go, takeMap]
                simp [hgo hv0, dErr, D.le, D.le.go]
        · rw [firstBad_ok fun k hk => hb k hk (by omega)] at hres
          refine AW_exit (hK6 _ ?_)
          refine AW_rg (tyOf_good _) [2] [] (fun _ _ => trivial) fun K' hK' => ?_
          repeat (refine sxf_next fun K2 hK2 => ?_; simp; (repeat (refine ⟨by omega, ?_⟩)); refine hK2 _ ?_; clear hK2 K2)
          refine sxf_nil (hK' _ ?_)
          refine AW.st (by simp; rfl) ?_
          clear hK' K'
          refine AW_ret ?_
          simp [D.le, D.le.go, takeMap]
          simp [← hres, dErr]
end Go.Proofs.YtnlhioeefmhklaaGreatDoor

/-
  route.Ladder: names are added.
-/
namespace Go.Proofs.YtnlhioeefmhklaaGreatDoor
set_option linter.unusedSimpArgs false
set_option linter.unusedVariables false
open Go.Av

/-- Names of a kind: a letter, and numbers. -/
def nmP (k : Int) (c : UInt8) (i : Nat) : NmP := ⟨nmT c i, k, 0⟩
def lnm (k : Int) (c : UInt8) (n : Nat) : List NmP := (List.range n).map (nmP k c)
theorem lnm_len (k : Int) (c : UInt8) (n : Nat) : (lnm k c n).length = n := by simp [lnm]
theorem lnm_zero (k : Int) (c : UInt8) : lnm k c 0 = [] := rfl
theorem lnm_succ (k : Int) (c : UInt8) (n : Nat) : lnm k c (n + 1) = lnm k c n ++ [nmP k c n] := by
  simp [lnm, List.range_succ]
theorem cNm_nmP (k : Int) (c : UInt8) (i : Nat) : cNm (nmP k c i) = [.v (.string (bs (nmT c i))), .v (.int .i64 k), .v (.int .i64 0)] := rfl
/-- The program that is being made. -/
def aRow (R : D) (l : List NmP) : List (Nat × Row) := [(500, .box 34 [.own 501 0 l.length, .d R]), (501, .sl 40 3 (l.map cNm))]
set_option maxHeartbeats 4000000 in
theorem radd_spec (G : Glob) (k : Int) (c : UInt8) (n : Nat) (hn : n < 100) (R : D) (l : List NmP) (hl : l.length ≤ 2^40) :
    MC Tryz.prog G [500] 65 [.d (.v (.int .i64 k)), .d (.v (.string (bs [c]))), .d (.v (.int .i64 n)), .ref 500 0 0] (hlst (aRow R l)) (.d (.tup [])) (hlst (aRow R (l ++ lnm k c n))) := by
  refine MC.of_body (tyOf_good _) Tryz.func65 rfl rfl (rs := []) Tryz.results65 (by simp [Tryz.ntmps65]) rfl fun X => ?_
  simp only [Tryz.ntmps65]
  refine AW_rg (tyOf_good _) [0, 1, 3, 8, 9] [500, 501] (notIn_ok rfl) fun K' hK' => ?_
  repeat (refine sxf_next fun K2 hK2 => ?_; simp [aRow]; (repeat (refine ⟨by omega, ?_⟩)); refine hK2 _ ?_; clear hK2 K2)
  refine sxf_nil (hK' _ ?_)
  refine AW.st (by simp [aRow]; rfl) ?_
  clear hK' K'
  refine AW_for (S := Nat) (fun i => i ≤ n) (fun i => ⟨lst [(0, .d (.v (.int .i64 k))), (1, .d (.v (.string (bs [c])))), (3, .ref 500 0 0), (8, int n), (9, int i)], hlst (aRow R (l ++ lnm k c i))⟩) (fun i => n - i) 0 ?_ (by simp) ?_
  · refine Imp.to' (notIn_ok rfl) (by simp [aRow, lnm_zero, List.append_nil]) (by simp [aRow, lnm_zero, List.append_nil])
  · intro i hi
    have hla : (l ++ lnm k c i).length = l.length + i := by simp [lnm_len]
    have hnx : l ++ lnm k c (i + 1) = (l ++ lnm k c i) ++ [nmP k c i] := by rw [lnm_succ, List.append_assoc]
    have hcn := cNm_nmP k c i
    have hn1 := rname_spec G c i (by omega)
    rw [Int.toNat_natCast] at hn1
    generalize nmT c i = nm at hcn hn1
    generalize nmP k c i = x at hnx hcn
    generalize hL : l ++ lnm k c i = L at hla
    have hmL : List.map cNm L = List.map cNm l ++ List.map cNm (lnm k c i) := by rw [← hL, List.map_append]
    refine AW_rg (tyOf_good _) [0, 1, 3, 8, 9, 10] [500, 501] (notIn_ok rfl) fun K' hK' => ?_
    repeat (refine sxf_next fun K2 hK2 => ?_; simp [aRow]; (repeat (refine ⟨by omega, ?_⟩)); refine hK2 _ ?_; clear hK2 K2)
    refine sxf_nil (hK' _ ?_)
    refine AW.st (by simp [aRow]; rfl) ?_
    clear hK' K'
    refine AW_then fun K1 hK1 => ?_
    refine AW_cond' (b := i < n) (by simp [D.le, D.le.go, takeMap, aRow]) (fun hc => ?_) (fun hc => ?_)
    · have hlt := hc
      refine AW_skip (hK1 _ ?_)
      refine AW_then fun K2 hK2 => ?_
      refine AW_block ?_
      refine AW_rg (tyOf_good _) [0, 1, 3, 7, 8, 9] [500, 501] (notIn_ok rfl) fun K' hK' => ?_
      repeat (refine sxf_next fun K2 hK2 => ?_; simp [aRow]; (repeat (refine ⟨by omega, ?_⟩)); refine hK2 _ ?_; clear hK2 K2)
      refine sxf_nil (hK' _ ?_)
      refine AW.st (by simp [aRow]; rfl) ?_
      clear hK' K'
      refine AW_rle (tyOf_good _) (by kernel_rfl) ([(8, (501, 19))]) ([(4, [501])]) (List.range 11) (by kernel_rfl) fun K' hK' => ?_
      repeat (refine sxl_nextO rfl fun K2 hK2 => ?_; simp [aRow, hla, List.take_of_length_le]; (repeat (refine ⟨by omega, ?_⟩)); refine hK2 _ ?_; clear hK2 K2)
      refine sxl_nextO rfl fun K2 hK2 => ?_
      simp [aRow, hla, List.take_of_length_le]
      refine callD.mk (hn1) (by simp; rfl) (by simp; rfl) (by first | exact D.leGo_refl _ | simp [takeMap, List.map_map, Function.comp_def, D.le, D.le.go, D.le_refl, D.leGo_refl, aRow, hla, List.take_of_length_le]) (by simp) ?_
      refine hK2 _ ?_
      clear hK2 K2
      simp only [putd, upd_lst]
      repeat (refine sxl_nextO rfl fun K2 hK2 => ?_; simp [aRow, hla, List.take_of_length_le]; (repeat (refine ⟨by omega, ?_⟩)); refine hK2 _ ?_; clear hK2 K2)
      refine sxl_nilO (hK' _ ?_)
      clear hK' K'
      refine hK2 _ (AW.norm [0, 1, 3, 8, 9] [500, 501] (notIn_ok rfl) (AW.st (by simp [aRow, hla, List.take_of_length_le]; rfl) ?_))
      refine AW_re (tyOf_good _) fun K' hK' => ?_
      repeat (refine sxf_next fun K2 hK2 => ?_; simp [aRow]; (repeat (refine ⟨by omega, ?_⟩)); refine hK2 _ ?_; clear hK2 K2)
      refine sxf_nil (hK' _ ?_)
      clear hK' K'
      try simp only [thn, inb]
      refine Again.mk (i + 1) (by omega) (by omega) ?_
      refine Imp.to' (notIn_ok rfl) (by simp [aRow, hnx, hcn, hmL, lnm_len, hla, Nat.add_assoc]) (by simp [aRow, hnx, hcn, hmL, lnm_len, hla, Nat.add_assoc])
    · obtain rfl : i = n := by omega
      refine AW_exit ?_
      simp [D.le_refl, aRow, hL]
end Go.Proofs.YtnlhioeefmhklaaGreatDoor

/-
  route.Ladder, in plain words: the program of a table.
-/
namespace Go.Proofs.YtnlhioeefmhklaaGreatDoor
set_option linter.unusedSimpArgs false
set_option linter.unusedVariables false
open Go.Av

def notB (c : UInt8) (i : Nat) : Ex := .not (.bit (nmT c i))
def resetG (i : Nat) (r : Rt) : RgP := ⟨3, nmT 108 i, some (andE (notB 97 i :: freeL r.1))⟩
/-- What clashes with a route, among the first ones. -/
def clN (rts : List Rt) (i : Nat) (r : Rt) : Nat → List Ex
  | 0 => []
  | k + 1 => clN rts i r k ++ if !decide (k = i) && clashF r (rts.getD k ([], [])) then [notB 108 k] else []
def setG (rts : List Rt) (i : Nat) (r : Rt) : RgP := ⟨2, nmT 108 i, some (andE ((.bit (nmT 97 i) :: freeL r.1) ++ clN rts i r rts.length))⟩
/-- Routes that want a point so, among the first ones. -/
def ptE (rts : List Rt) (k : Nat) (over : Bool) : Nat → List Ex
  | 0 => []
  | i + 1 => ptE rts k over i ++ if (rts.getD i ([], [])).2.contains ((k : Int), over) then [.bit (nmT 108 i)] else []
def ptG (rts : List Rt) (k : Nat) (over : Bool) : List RgP := match ptE rts k over rts.length with
  | [] => []
  | l => [⟨if over then 2 else 3, nmT 112 k, some (orE l)⟩]
def ptJ (rts : List Rt) (k : Nat) (ovs : List Bool) : Nat → List RgP
  | 0 => []
  | j + 1 => ptJ rts k ovs j ++ ptG rts k (ovs.getD j false)
def resR (rts : List Rt) : Nat → List RgP
  | 0 => []
  | i + 1 => resR rts i ++ [resetG i (rts.getD i ([], []))]
def setR (rts : List Rt) : Nat → List RgP
  | 0 => []
  | i + 1 => setR rts i ++ [setG rts i (rts.getD i ([], []))]
def ptR (rts : List Rt) : Nat → List RgP
  | 0 => []
  | k + 1 => ptR rts k ++ ptJ rts k [true, false] 2
def namesT (R S P : Nat) : List NmP := lnm 1 97 R ++ lnm 1 98 S ++ lnm 2 108 R ++ lnm 2 112 P
def rungsT (rts : List Rt) (P : Nat) : List RgP := resR rts rts.length ++ setR rts rts.length ++ ptR rts P
def ladderT (S P : Nat) (rts : List Rt) : PgP := ⟨namesT rts.length S P, rungsT rts P⟩
theorem resR_len (rts : List Rt) : ∀ n, (resR rts n).length = n
  | 0 => rfl
  | n + 1 => by rw [resR, List.length_append, resR_len rts n]; rfl
theorem setR_len (rts : List Rt) : ∀ n, (setR rts n).length = n
  | 0 => rfl
  | n + 1 => by rw [setR, List.length_append, setR_len rts n]; rfl
theorem clN_len (rts : List Rt) (i : Nat) (r : Rt) : ∀ n, (clN rts i r n).length ≤ n
  | 0 => Nat.le_refl _
  | n + 1 => by rw [clN, List.length_append]; have := clN_len rts i r n; split <;> simp <;> omega
theorem ptE_len (rts : List Rt) (k : Nat) (o : Bool) : ∀ n, (ptE rts k o n).length ≤ n
  | 0 => Nat.le_refl _
  | n + 1 => by rw [ptE, List.length_append]; have := ptE_len rts k o n; split <;> simp <;> omega
theorem ptG_len (rts : List Rt) (k : Nat) (o : Bool) : (ptG rts k o).length ≤ 1 := by unfold ptG; split <;> simp
theorem ptJ_len (rts : List Rt) (k : Nat) (ovs : List Bool) : ∀ n, (ptJ rts k ovs n).length ≤ n
  | 0 => Nat.le_refl _
  | n + 1 => by rw [ptJ, List.length_append]; have := ptJ_len rts k ovs n; have := ptG_len rts k (ovs.getD n false); omega
theorem ptR_len (rts : List Rt) : ∀ n, (ptR rts n).length ≤ 2 * n
  | 0 => Nat.le_refl _
  | n + 1 => by rw [ptR, List.length_append]; have := ptR_len rts n; have := ptJ_len rts n [true, false] 2; omega
theorem dE_notB (c : UInt8) (i : Nat) : dE (notB c i) = .ifc 145 (.agg [.ifc 143 (.v (.string (bs (nmT c i))))]) := rfl
theorem dE_bitN (c : UInt8) (i : Nat) : dE (.bit (nmT c i)) = .ifc 143 (.v (.string (bs (nmT c i)))) := rfl
theorem cRg_eq (k : Int) (s : List UInt8) (e : Ex) : cRg ⟨k, s, some e⟩ = [.v (.int .i64 k), .v (.string (bs s)), dE e] := rfl
theorem ptG_some {rts : List Rt} {k : Nat} {o : Bool} (h : ptE rts k o rts.length ≠ []) : ptG rts k o = [⟨if o then 2 else 3, nmT 112 k, some (orE (ptE rts k o rts.length))⟩] := by
  unfold ptG; split
  · exact absurd ‹_› h
  · rfl
theorem ptG_none {rts : List Rt} {k : Nat} {o : Bool} (h : ptE rts k o rts.length = []) : ptG rts k o = [] := by
  unfold ptG; rw [h]
/-- What is true of a table that may be. -/
structure GoodT (S P : Nat) (rts : List Rt) : Prop where
  s0 : 1 ≤ S
  s1 : S ≤ 3
  p1 : P ≤ 2
  r0 : 1 ≤ rts.length
  r1 : rts.length ≤ 3
  sec : ∀ r ∈ rts, ∀ s ∈ r.1, 0 ≤ s ∧ s < S
  pts : ∀ r ∈ rts, ∀ p ∈ r.2, 0 ≤ p.1 ∧ p.1 < P
  sl : ∀ r ∈ rts, 1 ≤ r.1.length ∧ r.1.length < 2^40
  pl : ∀ r ∈ rts, r.2.length < 2^40
  sl3 : ∀ r ∈ rts, r.1.length ≤ 3
theorem GoodT.small {S P : Nat} {rts : List Rt} (h : GoodT S P rts) : SmallT ⟨S, P, rts⟩ := by
  refine ⟨by have := h.r1; show rts.length < _; omega, fun r hr => ⟨by have := h.sl r hr; omega, by have := h.pl r hr; omega⟩⟩
end Go.Proofs.YtnlhioeefmhklaaGreatDoor

/-
  Rows renamed, where the heap is a list.
-/
namespace Go.Proofs.YtnlhioeefmhklaaGreatDoor
set_option linter.unusedSimpArgs false
set_option linter.unusedVariables false
open Go.Av

theorem renH_hlst {r r' : Nat} (hr : r ≠ r') (l : List (Nat × Row)) (hl : ∀ p ∈ l, p.1 ≠ r') : renH r r' (hlst l) = hlst (l.map fun p => (if p.1 = r then r' else p.1, p.2.tr (renO r r') (renF r r'))) := by
  funext q
  unfold renH
  induction l with
  | nil => simp [hlst, List.lookup]
  | cons p l ih =>
    have ih := ih fun p hp => hl p (by simp [hp])
    have hp := hl p (by simp)
    obtain ⟨k, row⟩ := p
    simp only [hlst, List.lookup, List.map_cons] at ih ⊢
    by_cases h1 : q = r'
    · subst h1
      simp only [if_true] at ih ⊢
      by_cases h2 : k = r
      · subst h2; simp
      · have a1 : (r == k) = false := by simpa using fun e => h2 e.symm
        have a2 : (q == k) = false := by simpa using fun e => hp e.symm
        simp only [h2, if_false, a1, a2]
        exact ih
    · simp only [h1, if_false] at ih ⊢
      by_cases h2 : q = r
      · subst h2
        simp only [if_true] at ih ⊢
        by_cases h3 : k = q
        · have a1 : (q == r') = false := by simpa using h1
          simp only [h3, if_true, a1]
          exact ih
        · have a1 : (q == k) = false := by simpa using fun e => h3 e.symm
          simp only [h3, if_false, a1]
          exact ih
      · simp only [h2, if_false] at ih ⊢
        by_cases h3 : k = r
        · have a1 : (q == k) = false := by rw [h3]; simpa using h2
          have a2 : (q == r') = false := by simpa using h1
          simp only [h3, if_true, a2] at a1 ⊢
          rw [a1]
          exact ih
        · simp only [h3, if_false]
          by_cases h4 : q = k
          · subst h4; simp
          · have a1 : (q == k) = false := by simpa using h4
            simp only [a1]
            exact ih

end Go.Proofs.YtnlhioeefmhklaaGreatDoor

/-
  route.Ladder.
-/
namespace Go.Proofs.YtnlhioeefmhklaaGreatDoor
set_option linter.unusedSimpArgs false
set_option linter.unusedVariables false
open Go.Av

theorem rl_one (e : Ex) : (dE e).one = true := by obtain ⟨a, b, h⟩ := dE_ifc e; rw [h]; rfl
/-- The rows of the program that is being made. -/
def lRow (NM RG : List (List D)) : List (Nat × Row) := [(2, .box 34 [.d (.sl (some false) []), .d (.sl (some false) [])]), (500, .box 34 [.own 501 0 NM.length, .own 502 0 RG.length]), (501, .sl 40 3 NM), (502, .sl 50 3 RG)]
set_option maxHeartbeats 16000000 in
theorem rladder_good (G : Glob) (S P : Nat) (rts : List Rt) (hg : GoodT S P rts) (hct : checkT ⟨S, P, rts⟩ = none) (hsp : SmallP (ladderT S P rts)) (hcp : checkP (ladderT S P rts) = none) :
    PureC Tryz.prog G 29 [dTb ⟨S, P, rts⟩] (.tup [dPg (ladderT S P rts), .v .nilIface]) := by
  have hck := rcheck_spec G ⟨S, P, rts⟩ hg.small
  rw [hct] at hck
  have hlc := ladderCheck_spec G _ hsp
  rw [hcp] at hlc
  have hfin : ladderT S P rts = ⟨namesT rts.length S P, rungsT rts P⟩ := rfl
  rw [hfin] at hlc ⊢
  have ⟨hs0, hs1, hp1, hr0, hr1, hsec, hpts, hsl, hpl, hsl3⟩ := hg
  have hrl : rts.length < 2^62 := by omega
  have A1 := radd_spec G 1 97 rts.length (by omega) (.sl (some false) []) [] (by simp)
  have A2 := radd_spec G 1 98 S (by omega) (.sl (some false) []) (lnm 1 97 rts.length) (by rw [lnm_len]; omega)
  have A3 := radd_spec G 2 108 rts.length (by omega) (.sl (some false) []) (lnm 1 97 rts.length ++ lnm 1 98 S) (by rw [List.length_append, lnm_len, lnm_len]; omega)
  have A4 := radd_spec G 2 112 P (by omega) (.sl (some false) []) (lnm 1 97 rts.length ++ lnm 1 98 S ++ lnm 2 108 rts.length) (by rw [List.length_append, List.length_append, lnm_len, lnm_len, lnm_len]; omega)
  have hNM : lnm 1 97 rts.length ++ lnm 1 98 S ++ lnm 2 108 rts.length ++ lnm 2 112 P = namesT rts.length S P := rfl
  rw [List.nil_append] at A1
  rw [hNM] at A4
  have hNl : (namesT rts.length S P).length ≤ 100 := by rw [← hNM]; simp only [List.length_append, lnm_len]; omega
  generalize namesT rts.length S P = NM at A4 hlc hNl ⊢
  have n0 : (lnm 1 97 rts.length).length = rts.length := lnm_len _ _ _
  generalize lnm 1 97 rts.length = N1 at *
  generalize lnm 1 98 S = N2 at *
  generalize lnm 2 108 rts.length = N3 at *
  simp only [aRow] at A1 A2 A3 A4
  generalize N1 ++ N2 = N12 at *
  generalize N12 ++ N3 = N123 at *
  simp only [dTb, cTb, dRts, dPg, cPg, dNms, dErr] at hck hlc ⊢
  simp only [dRgs] at hlc ⊢
  refine PureC.of_body (tyOf_good _) Tryz.func29 rfl rfl (rs := [.cell 2 34, .tmp 3]) Tryz.results29 (by simp [Tryz.ntmps29]) fun X => ?_
  simp only [Tryz.ntmps29, List.map]
  refine AW_rg (tyOf_good _) [1, 2] [1, 2] (fun _ _ => trivial) fun K' hK' => ?_
  repeat (refine sxf_next fun K2 hK2 => ?_; simp; (repeat (refine ⟨by omega, ?_⟩)); refine hK2 _ ?_; clear hK2 K2)
  refine sxf_nil (hK' _ ?_)
  refine AW.st (by simp; rfl) ?_
  clear hK' K'
  refine AW.imp (Imp.freezeB 1 trivial) ?_
  refine AW.st (by simp; rfl) ?_
  refine AW_then fun K1 hK1 => ?_
  refine AW_rg (tyOf_good _) [1, 2, 4] [2] (fun _ _ => trivial) fun K' hK' => ?_
  repeat (refine sxf_next fun K2 hK2 => ?_; simp; (repeat (refine ⟨by omega, ?_⟩)); refine hK2 _ ?_; clear hK2 K2)
  refine sxf_next fun K2 hK2 => ?_
  simp
  refine callK.data (hck) (by simp; rfl) (by first | exact D.leGo_refl _ | simp [takeMap, List.map_map, Function.comp_def, D.le, D.le.go, D.le_refl, D.leGo_refl]) ?_
  refine hK2 _ ?_
  clear hK2 K2
  simp only [putd, upd_lst]
  repeat (refine sxf_next fun K2 hK2 => ?_; simp; (repeat (refine ⟨by omega, ?_⟩)); refine hK2 _ ?_; clear hK2 K2)
  refine sxf_nil (hK' _ ?_)
  refine AW.st (by simp; rfl) ?_
  clear hK' K'
  refine AW_rg (tyOf_good _) [1, 2, 4, 27] [2] (fun _ _ => trivial) fun K' hK' => ?_
  repeat (refine sxf_next fun K2 hK2 => ?_; simp; (repeat (refine ⟨by omega, ?_⟩)); refine hK2 _ ?_; clear hK2 K2)
  refine sxf_nil (hK' _ ?_)
  refine AW.st (by simp; rfl) ?_
  clear hK' K'
  refine AW_cond false rfl (fun h => by cases h) (fun _ => ?_)
  refine AW_skip (hK1 _ ?_)
  refine AW_rg (tyOf_good _) [1, 2, 5] [2, 5] (fun _ _ => trivial) fun K' hK' => ?_
  repeat (refine sxf_next fun K2 hK2 => ?_; simp; (repeat (refine ⟨by omega, ?_⟩)); refine hK2 _ ?_; clear hK2 K2)
  refine sxf_nil (hK' _ ?_)
  refine AW.st (by simp; rfl) ?_
  clear hK' K'
  refine AW.imp (Imp.ren (r := 5) (r' := 500) trivial (by simp)) ?_
  refine AW.st (by simp [renO, renF, Go.Av.ren, renH_hlst]; rfl) ?_
  refine AW.imp (Imp.adoptCell 500 0 501 40 3 rfl rfl rfl) ?_
  refine AW.imp (τ := ⟨lst [(1, .d (.ip [.v (.int .i64 S), .v (.int .i64 P), .sl none (rts.map cRt)])), (2, .ref 2 0 0), (5, .ref 500 0 0)], hlst [(2, .box 34 [.d (.sl (some false) []), .d (.sl (some false) [])]), (500, .box 34 [.own 501 0 0, .d (.sl (some false) [])]), (501, .sl 40 3 [])]⟩) ?_ ?_
  · refine Imp.to' (fun _ _ => trivial) (by simp) (by simp)
  refine AW_rg (tyOf_good _) [1, 2, 5, 6] [2, 500, 501] (fun _ _ => trivial) fun K' hK' => ?_
  repeat (refine sxf_next fun K2 hK2 => ?_; simp; (repeat (refine ⟨by omega, ?_⟩)); refine hK2 _ ?_; clear hK2 K2)
  refine sxf_nil (hK' _ ?_)
  refine AW.st (by simp; rfl) ?_
  clear hK' K'
  refine AW_rg (tyOf_good _) [1, 2, 5, 6] [2, 500, 501] (fun _ _ => trivial) fun K' hK' => ?_
  repeat (refine sxf_next fun K2 hK2 => ?_; simp [lxb97]; (repeat (refine ⟨by omega, ?_⟩)); refine hK2 _ ?_; clear hK2 K2)
  refine sxf_next fun K2 hK2 => ?_
  simp [lxb97]
  refine callK.mc (A1) (by simp [lxb97]) (by simp [lxb97]) (by simp [lxb97]) (by simp [lxb97]) ?_
  simp [lxb97]
  refine hK2 _ ?_
  clear hK2 K2
  repeat (refine sxf_next fun K2 hK2 => ?_; simp [lxb97]; (repeat (refine ⟨by omega, ?_⟩)); refine hK2 _ ?_; clear hK2 K2)
  refine sxf_nil (hK' _ ?_)
  refine AW.st (by simp [lxb97]; rfl) ?_
  clear hK' K'
  refine AW_rg (tyOf_good _) [1, 2, 5, 6] [2, 500, 501] (fun _ _ => trivial) fun K' hK' => ?_
  repeat (refine sxf_next fun K2 hK2 => ?_; simp [lxb98, n0]; (repeat (refine ⟨by omega, ?_⟩)); refine hK2 _ ?_; clear hK2 K2)
  refine sxf_next fun K2 hK2 => ?_
  simp [lxb98, n0]
  refine callK.mc (A2) (by simp [lxb98, n0]) (by simp [lxb98, n0]) (by simp [lxb98, n0]) (by simp [lxb98, n0]) ?_
  simp [lxb98, n0]
  refine hK2 _ ?_
  clear hK2 K2
  repeat (refine sxf_next fun K2 hK2 => ?_; simp [lxb98, n0]; (repeat (refine ⟨by omega, ?_⟩)); refine hK2 _ ?_; clear hK2 K2)
  refine sxf_nil (hK' _ ?_)
  refine AW.st (by simp [lxb98, n0]; rfl) ?_
  clear hK' K'
  refine AW_rg (tyOf_good _) [1, 2, 5, 6] [2, 500, 501] (fun _ _ => trivial) fun K' hK' => ?_
  repeat (refine sxf_next fun K2 hK2 => ?_; simp [lxb108]; (repeat (refine ⟨by omega, ?_⟩)); refine hK2 _ ?_; clear hK2 K2)
  refine sxf_next fun K2 hK2 => ?_
  simp [lxb108]
  refine callK.mc (A3) (by simp [lxb108]) (by simp [lxb108]) (by simp [lxb108]) (by simp [lxb108]) ?_
  simp [lxb108]
  refine hK2 _ ?_
  clear hK2 K2
  repeat (refine sxf_next fun K2 hK2 => ?_; simp [lxb108]; (repeat (refine ⟨by omega, ?_⟩)); refine hK2 _ ?_; clear hK2 K2)
  refine sxf_nil (hK' _ ?_)
  refine AW.st (by simp [lxb108]; rfl) ?_
  clear hK' K'
  refine AW_rg (tyOf_good _) [1, 2, 5] [2, 500, 501] (fun _ _ => trivial) fun K' hK' => ?_
  repeat (refine sxf_next fun K2 hK2 => ?_; simp [lxb112]; (repeat (refine ⟨by omega, ?_⟩)); refine hK2 _ ?_; clear hK2 K2)
  refine sxf_next fun K2 hK2 => ?_
  simp [lxb112]
  refine callK.mc (A4) (by simp [lxb112]) (by simp [lxb112]) (by simp [lxb112]) (by simp [lxb112]) ?_
  simp [lxb112]
  refine hK2 _ ?_
  clear hK2 K2
  repeat (refine sxf_next fun K2 hK2 => ?_; simp [lxb112]; (repeat (refine ⟨by omega, ?_⟩)); refine hK2 _ ?_; clear hK2 K2)
  refine sxf_nil (hK' _ ?_)
  refine AW.st (by simp [lxb112]; rfl) ?_
  clear hK' K'
  refine AW_rg (tyOf_good _) [1, 2, 5, 7] [2, 500, 501] (fun _ _ => trivial) fun K' hK' => ?_
  repeat (refine sxf_next fun K2 hK2 => ?_; simp; (repeat (refine ⟨by omega, ?_⟩)); refine hK2 _ ?_; clear hK2 K2)
  refine sxf_nil (hK' _ ?_)
  refine AW.st (by simp; rfl) ?_
  clear hK' K'
  refine AW.imp (Imp.adoptCell 500 1 502 50 3 rfl rfl rfl) ?_
  refine AW.imp (τ := ⟨lst [(1, .d (.ip [.v (.int .i64 S), .v (.int .i64 P), .sl none (rts.map cRt)])), (2, .ref 2 0 0), (5, .ref 500 0 0), (7, .d (.fn (.func 67) []))], hlst (lRow (NM.map cNm) ([].map cRg))⟩) ?_ ?_
  · refine Imp.to' (fun _ _ => trivial) (by simp [lRow]) (by simp [lRow])
  have hNl2 : (NM.map cNm).length ≤ 100 := by rw [List.length_map]; exact hNl
  generalize NM.map cNm = NC at hlc hNl2 ⊢
  clear A1 A2 A3 A4
  refine AW_then fun K2 hK2 => ?_
  refine AW_rg (tyOf_good _) [1, 2, 5, 7, 50, 51, 52] [2, 500, 501, 502] (fun _ _ => trivial) fun K' hK' => ?_
  repeat (refine sxf_next fun K2 hK2 => ?_; simp [lRow]; (repeat (refine ⟨by omega, ?_⟩)); refine hK2 _ ?_; clear hK2 K2)
  refine sxf_nil (hK' _ ?_)
  refine AW.st (by simp [lRow]; rfl) ?_
  clear hK' K'
  refine AW_for (S := Nat) (fun i => i ≤ rts.length) (fun i => ⟨lst [(1, .d (.ip [.v (.int .i64 S), .v (.int .i64 P), .sl none (rts.map cRt)])), (2, .ref 2 0 0), (5, .ref 500 0 0), (7, .d (.fn (.func 67) [])), (50, .d (.sl none (rts.map cRt))), (51, int rts.length), (52, int i)], hlst (lRow NC ((resR rts i).map cRg))⟩) (fun i => rts.length - i) 0 ?_ (by simp) ?_
  · refine Imp.to' (fun _ _ => trivial) (by simp [lRow, resR]) (by simp [lRow, resR])
  · intro i hi
    have hRl : ((resR rts i).map cRg).length = i := by rw [List.length_map, resR_len]
    have hRs : i < rts.length → (resR rts (i + 1)).map cRg = (resR rts i).map cRg ++ [cRg (resetG i (rts.getD i ([], [])))] := fun _ => by rw [resR, List.map_append]; rfl
    generalize hRG0 : (resR rts i).map cRg = RG0 at hRl hRs ⊢
    refine AW_rg (tyOf_good _) [1, 2, 5, 7, 50, 51, 52, 53] [2, 500, 501, 502] (fun _ _ => trivial) fun K' hK' => ?_
    repeat (refine sxf_next fun K2 hK2 => ?_; simp [lRow]; (repeat (refine ⟨by omega, ?_⟩)); refine hK2 _ ?_; clear hK2 K2)
    refine sxf_nil (hK' _ ?_)
    refine AW.st (by simp [lRow]; rfl) ?_
    clear hK' K'
    refine AW_then fun K3 hK3 => ?_
    refine AW_cond' (b := i < rts.length) (by simp [D.le, D.le.go, takeMap]) (fun hc => ?_) (fun hc => ?_)
    · have hlt := hc
      have hgd : rts.getD i ([], []) = rts[i] := by rw [List.getD_eq_getElem?_getD, List.getElem?_eq_getElem hlt]; rfl
      have hRs2 := hRs hlt
      rw [hgd] at hRs2
      have hn1 := rname_spec G 97 i (by omega)
      have hn2 := rname_spec G 108 i (by omega)
      rw [Int.toNat_natCast] at hn1 hn2
      have hfr := rfree_spec G rts[i] (hsl _ (List.getElem_mem hlt)).2 (fun s hs => by have := hsec _ (List.getElem_mem hlt) s hs; omega)
      have hnd := rand_spec G none (notB 97 i :: freeL rts[i].1)
      have hcg : cRg (resetG i rts[i]) = [.v (.int .i64 3), .v (.string (bs (nmT 108 i))), dE (andE (notB 97 i :: freeL rts[i].1))] := rfl
      have hfl : (freeL rts[i].1).length < 2^40 := by unfold freeL; rw [List.length_map]; exact (hsl _ (List.getElem_mem hlt)).2
      obtain ⟨ta, ca, hta⟩ := dE_ifc (andE (notB 97 i :: freeL rts[i].1))
      have hno := dE_notB 97 i
      rw [hta] at hcg hnd
      rw [List.map_cons, hno] at hnd
      have hcr : cRt rts[i] = [dRow rts[i].1, dPts rts[i].2] := rfl
      generalize resetG i rts[i] = g at hRs2 hcg
      generalize freeL rts[i].1 = fl at hfr hnd hfl
      simp only [dRt, hcr] at hfr
      have o1 : (dRow rts[i].1).one = true := rfl
      have o2 : (dPts rts[i].2).one = true := rfl
      generalize dRow rts[i].1 = c1 at hcr hfr o1
      generalize dPts rts[i].2 = c2 at hcr hfr o2
      refine AW_skip (hK3 _ ?_)
      refine AW_then fun K4 hK4 => ?_
      refine AW_block ?_
      refine AW_rg (tyOf_good _) [1, 2, 5, 7, 8, 9, 50, 51, 52] [2, 500, 501, 502, 9] (fun _ _ => trivial) fun K' hK' => ?_
      repeat (refine sxf_next fun K2 hK2 => ?_; simp [hlt, hcr, o1, o2]; (repeat (refine ⟨by omega, ?_⟩)); refine hK2 _ ?_; clear hK2 K2)
      refine sxf_nil (hK' _ ?_)
      refine AW.st (by simp [hlt, hcr, o1, o2]; rfl) ?_
      clear hK' K'
      refine AW.imp (Imp.freezeB 9 trivial) ?_
      refine AW.st (by simp; rfl) ?_
      refine AW_rl (tyOf_good _) (by kernel_rfl) ([(9, (62, 999))]) ([(1, [62]), (8, [62])]) ([0, 1, 2, 3, 4, 6, 7, 8, 5, 9, 10]) [1, 2, 5, 7, 8, 10, 50, 51, 52] [2, 500, 501, 502, 62] (fun _ _ => trivial) (by kernel_rfl) fun K' hK' => ?_
      repeat (refine sxl_nextO rfl fun K2 hK2 => ?_; simp [lxb97, hfl, rl_one]; (repeat (refine ⟨by omega, ?_⟩)); refine hK2 _ ?_; clear hK2 K2)
      refine sxl_nextO rfl fun K2 hK2 => ?_
      simp [lxb97, hfl, rl_one]
      refine callD.mk (hn1) (by simp; rfl) (by simp; rfl) (by first | exact D.leGo_refl _ | simp [takeMap, List.map_map, Function.comp_def, D.le, D.le.go, D.le_refl, D.leGo_refl, lxb97, hfl, rl_one]) (by simp) ?_
      refine hK2 _ ?_
      clear hK2 K2
      simp only [putd, upd_lst]
      repeat (refine sxl_nextO rfl fun K2 hK2 => ?_; simp [lxb97, hfl, rl_one]; (repeat (refine ⟨by omega, ?_⟩)); refine hK2 _ ?_; clear hK2 K2)
      refine sxl_nextO rfl fun K2 hK2 => ?_
      simp [lxb97, hfl, rl_one]
      refine callD.mk (hfr) (by simp; rfl) (by simp; rfl) (by first | exact D.leGo_refl _ | simp [takeMap, List.map_map, Function.comp_def, D.le, D.le.go, D.le_refl, D.leGo_refl, lxb97, hfl, rl_one]) (by simp) ?_
      refine hK2 _ ?_
      clear hK2 K2
      simp only [putd, upd_lst]
      repeat (refine sxl_nextO rfl fun K2 hK2 => ?_; simp [lxb97, hfl, rl_one]; (repeat (refine ⟨by omega, ?_⟩)); refine hK2 _ ?_; clear hK2 K2)
      refine sxl_nilO (hK' _ ?_)
      refine AW.st (by simp [lxb97, hfl, rl_one]; rfl) ?_
      clear hK' K'
      have hfc : 1 + fl.length = fl.length + 1 := Nat.add_comm _ _
      refine AW.imp (Imp.freeze 62 trivial) ?_
      refine AW.st (by simp [hfc]; rfl) ?_
      refine AW_rle (tyOf_good _) (by kernel_rfl) ([(8, (502, 74))]) ([(3, [502]), (5, [502])]) (List.range 11) (by kernel_rfl) fun K' hK' => ?_
      repeat (refine sxl_nextO rfl fun K2 hK2 => ?_; simp [lxb108, hRl, List.take_of_length_le]; (repeat (refine ⟨by omega, ?_⟩)); refine hK2 _ ?_; clear hK2 K2)
      refine sxl_nextO rfl fun K2 hK2 => ?_
      simp [lxb108, hRl, List.take_of_length_le]
      refine callD.mk (hn2) (by simp; rfl) (by simp; rfl) (by first | exact D.leGo_refl _ | simp [takeMap, List.map_map, Function.comp_def, D.le, D.le.go, D.le_refl, D.leGo_refl, lxb108, hRl, List.take_of_length_le]) (by simp) ?_
      refine hK2 _ ?_
      clear hK2 K2
      simp only [putd, upd_lst]
      repeat (refine sxl_nextO rfl fun K2 hK2 => ?_; simp [lxb108, hRl, List.take_of_length_le]; (repeat (refine ⟨by omega, ?_⟩)); refine hK2 _ ?_; clear hK2 K2)
      refine sxl_nextO rfl fun K2 hK2 => ?_
      simp [lxb108, hRl, List.take_of_length_le]
      refine callD.mk (hnd) (by simp; rfl) (by simp; rfl) (by first | exact D.leGo_refl _ | simp [takeMap, List.map_map, Function.comp_def, D.le, D.le.go, D.le_refl, D.leGo_refl, lxb108, hRl, List.take_of_length_le]) (by simp) ?_
      refine hK2 _ ?_
      clear hK2 K2
      simp only [putd, upd_lst]
      repeat (refine sxl_nextO rfl fun K2 hK2 => ?_; simp [lxb108, hRl, List.take_of_length_le]; (repeat (refine ⟨by omega, ?_⟩)); refine hK2 _ ?_; clear hK2 K2)
      refine sxl_nilO (hK' _ ?_)
      clear hK' K'
      refine hK4 _ (AW.norm [1, 2, 5, 7, 50, 51, 52] [2, 500, 501, 502] (fun _ _ => trivial) (AW.st (by simp [lxb108, hRl, List.take_of_length_le]; rfl) ?_))
      refine AW_re (tyOf_good _) fun K' hK' => ?_
      repeat (refine sxf_next fun K2 hK2 => ?_; simp; (repeat (refine ⟨by omega, ?_⟩)); refine hK2 _ ?_; clear hK2 K2)
      refine sxf_nil (hK' _ ?_)
      clear hK' K'
      try simp only [thn, inb]
      refine Again.mk (i + 1) (by omega) (by omega) ?_
      refine Imp.to' (fun _ _ => trivial) (by simp [lRow, hRs2, hcg, hRl]) (by simp [lRow, hRs2, hcg, hRl])
    · obtain rfl : i = rts.length := by omega
      clear hRs
      refine AW_exit (hK2 _ ?_)
      refine AW_then fun K5 hK5 => ?_
      refine AW_rg (tyOf_good _) [1, 2, 5, 7, 79, 80, 81] [2, 500, 501, 502] (fun _ _ => trivial) fun K' hK' => ?_
      repeat (refine sxf_next fun K2 hK2 => ?_; simp [lRow]; (repeat (refine ⟨by omega, ?_⟩)); refine hK2 _ ?_; clear hK2 K2)
      refine sxf_nil (hK' _ ?_)
      refine AW.st (by simp [lRow]; rfl) ?_
      clear hK' K'
      refine AW_for (S := Nat) (fun i => i ≤ rts.length) (fun i => ⟨lst [(1, .d (.ip [.v (.int .i64 S), .v (.int .i64 P), .sl none (rts.map cRt)])), (2, .ref 2 0 0), (5, .ref 500 0 0), (7, .d (.fn (.func 67) [])), (79, .d (.sl none (rts.map cRt))), (80, int rts.length), (81, int i)], hlst (lRow NC (RG0 ++ (setR rts i).map cRg))⟩) (fun i => rts.length - i) 0 ?_ (by simp) ?_
      · refine Imp.to' (fun _ _ => trivial) (by simp [lRow, setR]) (by simp [lRow, setR])
      · intro i hi
        have hRl2 : (RG0 ++ (setR rts i).map cRg).length = rts.length + i := by rw [List.length_append, List.length_map, setR_len, hRl]
        have hRs : i < rts.length → RG0 ++ (setR rts (i + 1)).map cRg = (RG0 ++ (setR rts i).map cRg) ++ [cRg (setG rts i (rts.getD i ([], [])))] := fun _ => by rw [setR, List.map_append, ← List.append_assoc]; rfl
        generalize hRG1 : RG0 ++ (setR rts i).map cRg = RG1 at hRl2 hRs ⊢
        refine AW_rg (tyOf_good _) [1, 2, 5, 7, 79, 80, 81, 82] [2, 500, 501, 502] (fun _ _ => trivial) fun K' hK' => ?_
        repeat (refine sxf_next fun K2 hK2 => ?_; simp [lRow]; (repeat (refine ⟨by omega, ?_⟩)); refine hK2 _ ?_; clear hK2 K2)
        refine sxf_nil (hK' _ ?_)
        refine AW.st (by simp [lRow]; rfl) ?_
        clear hK' K'
        refine AW_then fun K6 hK6 => ?_
        refine AW_cond' (b := i < rts.length) (by simp [D.le, D.le.go, takeMap]) (fun hc => ?_) (fun hc => ?_)
        · have hlt := hc
          have hgd : rts.getD i ([], []) = rts[i] := by rw [List.getD_eq_getElem?_getD, List.getElem?_eq_getElem hlt]; rfl
          have hRs2 := hRs hlt
          rw [hgd] at hRs2
          have hn1 := rname_spec G 97 i (by omega)
          have hn2 := rname_spec G 108 i (by omega)
          rw [Int.toNat_natCast] at hn1 hn2
          have hfr := rfree_spec G rts[i] (hsl _ (List.getElem_mem hlt)).2 (fun s hs => by have := hsec _ (List.getElem_mem hlt) s hs; omega)
          have hfl : (freeL rts[i].1).length < 2^40 := by unfold freeL; rw [List.length_map]; exact (hsl _ (List.getElem_mem hlt)).2
          have hbt := dE_bitN 97 i
          have hcl : ∀ k (hk : k < rts.length), PureC Tryz.prog G 8 [.agg (cRt rts[i]), .agg (cRt rts[k])] (.v (.bool (clashF rts[i] rts[k]))) := fun k hk => clash_spec G rts[i] rts[k] (hg.small.2 _ (List.getElem_mem hlt)) (hg.small.2 _ (List.getElem_mem hk))
          have hcg : cRg (setG rts i rts[i]) = [.v (.int .i64 2), .v (.string (bs (nmT 108 i))), dE (andE ((.bit (nmT 97 i) :: freeL rts[i].1) ++ clN rts i rts[i] rts.length))] := rfl
          have hcS : ∀ k (hk : k < rts.length), clN rts i rts[i] (k + 1) = clN rts i rts[i] k ++ if !decide (k = i) && clashF rts[i] rts[k] then [notB 108 k] else [] := fun k hk => by
            rw [clN, List.getD_eq_getElem?_getD, List.getElem?_eq_getElem hk]; rfl
          have hcN := clN_len rts i rts[i]
          have hc0 : clN rts i rts[i] 0 = [] := rfl
          have hcr : cRt rts[i] = [dRow rts[i].1, dPts rts[i].2] := rfl
          have o1 : (dRow rts[i].1).one = true := rfl
          have o2 : (dPts rts[i].2).one = true := rfl
          generalize setG rts i rts[i] = g at hRs2 hcg
          generalize clN rts i rts[i] = cl at hcg hcS hcN hc0
          generalize freeL rts[i].1 = fl at hfr hfl hcg
          have hLn : ∀ k, ((.bit (nmT 97 i) :: fl) ++ cl k).length ≤ 1 + fl.length + k := fun k => by have := hcN k; simp only [List.length_append, List.length_cons]; omega
          have hL0 : ((.bit (nmT 97 i) :: fl) ++ cl 0).map (fun e => [dE e]) = [dE (.bit (nmT 97 i))] :: fl.map (fun e => [dE e]) := by rw [hc0, List.append_nil]; rfl
          have hL1 : ((.bit (nmT 97 i) :: fl) ++ cl 0).length = 1 + fl.length := by rw [hc0, List.append_nil, List.length_cons]; omega
          have hLS : ∀ k (hk : k < rts.length), (.bit (nmT 97 i) :: fl) ++ cl (k + 1) = ((.bit (nmT 97 i) :: fl) ++ cl k) ++ if !decide (k = i) && clashF rts[i] rts[k] then [notB 108 k] else [] := fun k hk => by rw [hcS k hk, List.append_assoc]
          have hnd := rand_spec G none ((.bit (nmT 97 i) :: fl) ++ cl rts.length)
          obtain ⟨LL, hLL⟩ : ∃ f : Nat → List Ex, f = fun k => (.bit (nmT 97 i) :: fl) ++ cl k := ⟨_, rfl⟩
          have hLk : ∀ k, (.bit (nmT 97 i) :: fl) ++ cl k = LL k := fun k => by rw [hLL]
          simp only [hLk] at hLn hL0 hL1 hLS hnd hcg
          clear hLk hLL hcS hcN hc0
          obtain ⟨ta, ca, hta⟩ := dE_ifc (andE (LL rts.length))
          rw [hta] at hcg hnd
          rw [hbt] at hL0
          simp only [dRt] at hfr
          generalize hri : rts[i] = ri at hcr hfr hcl hLS o1 o2
          generalize dRow ri.1 = c1 at hcr o1
          generalize dPts ri.2 = c2 at hcr o2
          rw [hcr] at hfr
          simp only [hcr] at hcl
          refine AW_skip (hK6 _ ?_)
          refine AW_then fun K7 hK7 => ?_
          refine AW_block ?_
          refine AW_rg (tyOf_good _) [1, 2, 5, 7, 11, 12, 79, 80, 81] [2, 500, 501, 502, 12] (fun _ _ => trivial) fun K' hK' => ?_
          repeat (refine sxf_next fun K2 hK2 => ?_; simp [hlt, hri, hcr, o1, o2]; (repeat (refine ⟨by omega, ?_⟩)); refine hK2 _ ?_; clear hK2 K2)
          refine sxf_nil (hK' _ ?_)
          refine AW.st (by simp [hlt, hri, hcr, o1, o2]; rfl) ?_
          clear hK' K'
          refine AW.imp (Imp.freezeB 12 trivial) ?_
          refine AW.st (by simp; rfl) ?_
          refine AW_rl (tyOf_good _) (by kernel_rfl) ([(7, (89, 999))]) ([(1, [89]), (6, [89])]) ([0, 1, 2, 4, 5, 6, 3, 7, 8]) [1, 2, 5, 7, 11, 12, 13, 79, 80, 81] [2, 500, 501, 502, 89] (fun _ _ => trivial) (by kernel_rfl) fun K' hK' => ?_
          repeat (refine sxl_nextO rfl fun K2 hK2 => ?_; simp [lxb97, hfl, rl_one]; (repeat (refine ⟨by omega, ?_⟩)); refine hK2 _ ?_; clear hK2 K2)
          refine sxl_nextO rfl fun K2 hK2 => ?_
          simp [lxb97, hfl, rl_one]
          refine callD.mk (hn1) (by simp; rfl) (by simp; rfl) (by first | exact D.leGo_refl _ | simp [takeMap, List.map_map, Function.comp_def, D.le, D.le.go, D.le_refl, D.leGo_refl, lxb97, hfl, rl_one]) (by simp) ?_
          refine hK2 _ ?_
          clear hK2 K2
          simp only [putd, upd_lst]
          repeat (refine sxl_nextO rfl fun K2 hK2 => ?_; simp [lxb97, hfl, rl_one]; (repeat (refine ⟨by omega, ?_⟩)); refine hK2 _ ?_; clear hK2 K2)
          refine sxl_nextO rfl fun K2 hK2 => ?_
          simp [lxb97, hfl, rl_one]
          refine callD.mk (hfr) (by simp; rfl) (by simp; rfl) (by first | exact D.leGo_refl _ | simp [takeMap, List.map_map, Function.comp_def, D.le, D.le.go, D.le_refl, D.leGo_refl, lxb97, hfl, rl_one]) (by simp) ?_
          refine hK2 _ ?_
          clear hK2 K2
          simp only [putd, upd_lst]
          repeat (refine sxl_nextO rfl fun K2 hK2 => ?_; simp [lxb97, hfl, rl_one]; (repeat (refine ⟨by omega, ?_⟩)); refine hK2 _ ?_; clear hK2 K2)
          refine sxl_nilO (hK' _ ?_)
          refine AW.st (by simp [lxb97, hfl, rl_one]; rfl) ?_
          clear hK' K'
          refine AW_then fun K8 hK8 => ?_
          refine AW_rg (tyOf_good _) [1, 2, 5, 7, 11, 12, 13, 79, 80, 81, 95, 96, 97] [2, 500, 501, 502, 89] (fun _ _ => trivial) fun K' hK' => ?_
          repeat (refine sxf_next fun K2 hK2 => ?_; simp; (repeat (refine ⟨by omega, ?_⟩)); refine hK2 _ ?_; clear hK2 K2)
          refine sxf_nil (hK' _ ?_)
          refine AW.st (by simp; rfl) ?_
          clear hK' K'
          refine AW_for (S := Nat) (fun k => k ≤ rts.length) (fun k => ⟨lst [(1, .d (.ip [.v (.int .i64 S), .v (.int .i64 P), .sl none (rts.map cRt)])), (2, .ref 2 0 0), (5, .ref 500 0 0), (7, .d (.fn (.func 67) [])), (11, int i), (12, .d (.ip [c1, c2])), (13, .own 89 0 (LL k).length), (79, .d (.sl none (rts.map cRt))), (80, int rts.length), (81, int i), (95, .d (.sl none (rts.map cRt))), (96, int rts.length), (97, int k)], hlst (lRow NC RG1 ++ [(89, .sl 45 1 ((LL k).map fun e => [dE e]))])⟩) (fun k => rts.length - k) 0 ?_ (by simp) ?_
          · refine Imp.to' (fun _ _ => trivial) (by simp [lRow, hL0, hL1]) (by simp [lRow, hL0, hL1])
          · intro k hk
            have hLn2 := hLn k
            have hLS2 := hLS k
            generalize hLk : LL k = L at hLn2 hLS2 ⊢
            refine AW_rg (tyOf_good _) [1, 2, 5, 7, 11, 12, 13, 79, 80, 81, 95, 96, 97, 98] [2, 500, 501, 502, 89] (fun _ _ => trivial) fun K' hK' => ?_
            repeat (refine sxf_next fun K2 hK2 => ?_; simp [lRow]; (repeat (refine ⟨by omega, ?_⟩)); refine hK2 _ ?_; clear hK2 K2)
            refine sxf_nil (hK' _ ?_)
            refine AW.st (by simp [lRow]; rfl) ?_
            clear hK' K'
            refine AW_then fun K9 hK9 => ?_
            refine AW_cond' (b := k < rts.length) (by simp [D.le, D.le.go, takeMap]) (fun hc => ?_) (fun hc => ?_)
            · have hkt := hc
              have hLS3 := hLS2 hkt
              have hck2 := hcl k hkt
              have hn3 := rname_spec G 108 k (by omega)
              rw [Int.toNat_natCast] at hn3
              have hno := dE_notB 108 k
              have hck0 : cRt rts[k] = [dRow rts[k].1, dPts rts[k].2] := rfl
              have q1 : (dRow rts[k].1).one = true := rfl
              have q2 : (dPts rts[k].2).one = true := rfl
              generalize hrk : rts[k] = rk at hck0 hck2 hLS3 q1 q2
              generalize dRow rk.1 = e1 at hck0 q1
              generalize dPts rk.2 = e2 at hck0 q2
              rw [hck0] at hck2
              generalize clashF ri rk = cf at hck2 hLS3
              refine AW_skip (hK9 _ ?_)
              refine AW_then fun K10 hK10 => ?_
              refine AW_block ?_
              refine AW_rg (tyOf_good _) [1, 2, 5, 7, 11, 12, 13, 14, 15, 79, 80, 81, 95, 96, 97] [2, 500, 501, 502, 89, 15] (fun _ _ => trivial) fun K' hK' => ?_
              repeat (refine sxf_next fun K2 hK2 => ?_; simp [hkt, hrk, hck0, q1, q2]; (repeat (refine ⟨by omega, ?_⟩)); refine hK2 _ ?_; clear hK2 K2)
              refine sxf_nil (hK' _ ?_)
              refine AW.st (by simp [hkt, hrk, hck0, q1, q2]; rfl) ?_
              clear hK' K'
              refine AW.imp (Imp.freezeB 15 trivial) ?_
              refine AW.st (by simp; rfl) ?_
              by_cases hki : k = i
              · rw [if_neg (by simp [hki]), List.append_nil] at hLS3
                subst hki
                refine AW_rg (tyOf_good _) [1, 2, 5, 7, 11, 12, 13, 14, 79, 80, 81, 95, 96, 97, 109] [2, 500, 501, 502, 89] (fun _ _ => trivial) fun K' hK' => ?_
                repeat (refine sxf_next fun K2 hK2 => ?_; simp; (repeat (refine ⟨by omega, ?_⟩)); refine hK2 _ ?_; clear hK2 K2)
                refine sxf_nil (hK' _ ?_)
                refine AW.st (by simp; rfl) ?_
                clear hK' K'
                refine AW_cond false rfl (fun h => by cases h) (fun _ => ?_)
                refine AW_skip ?_
                refine hK10 _ (AW.norm [1, 2, 5, 7, 11, 12, 13, 79, 80, 81, 95, 96, 97] [2, 500, 501, 502, 89] (fun _ _ => trivial) (AW.st (by simp; rfl) ?_))
                refine AW_re (tyOf_good _) fun K' hK' => ?_
                repeat (refine sxf_next fun K2 hK2 => ?_; simp; (repeat (refine ⟨by omega, ?_⟩)); refine hK2 _ ?_; clear hK2 K2)
                refine sxf_nil (hK' _ ?_)
                clear hK' K'
                try simp only [thn, inb]
                refine Again.mk (k + 1) (by omega) (by omega) ?_
                refine Imp.to' (fun _ _ => trivial) (by simp [lRow, hLS3]) (by simp [lRow, hLS3])
              · refine AW_rg (tyOf_good _) [1, 2, 5, 7, 11, 12, 13, 14, 79, 80, 81, 95, 96, 97, 109] [2, 500, 501, 502, 89] (fun _ _ => trivial) fun K' hK' => ?_
                repeat (refine sxf_next fun K2 hK2 => ?_; simp [hki]; (repeat (refine ⟨by omega, ?_⟩)); refine hK2 _ ?_; clear hK2 K2)
                refine sxf_next fun K2 hK2 => ?_
                simp [hki]
                refine callK.data (hck2) (by simp; rfl) (by first | exact D.leGo_refl _ | simp [takeMap, List.map_map, Function.comp_def, D.le, D.le.go, D.le_refl, D.leGo_refl, hki]) ?_
                refine hK2 _ ?_
                clear hK2 K2
                simp only [putd, upd_lst]
                repeat (refine sxf_next fun K2 hK2 => ?_; simp [hki]; (repeat (refine ⟨by omega, ?_⟩)); refine hK2 _ ?_; clear hK2 K2)
                refine sxf_nil (hK' _ ?_)
                refine AW.st (by simp [hki]; rfl) ?_
                clear hK' K'
                cases cf with
                | false =>
                  rw [if_neg (by simp), List.append_nil] at hLS3
                  refine AW_cond false rfl (fun h => by cases h) (fun _ => ?_)
                  refine AW_skip ?_
                  refine hK10 _ (AW.norm [1, 2, 5, 7, 11, 12, 13, 79, 80, 81, 95, 96, 97] [2, 500, 501, 502, 89] (fun _ _ => trivial) (AW.st (by simp; rfl) ?_))
                  refine AW_re (tyOf_good _) fun K' hK' => ?_
                  repeat (refine sxf_next fun K2 hK2 => ?_; simp; (repeat (refine ⟨by omega, ?_⟩)); refine hK2 _ ?_; clear hK2 K2)
                  refine sxf_nil (hK' _ ?_)
                  clear hK' K'
                  try simp only [thn, inb]
                  refine Again.mk (k + 1) (by omega) (by omega) ?_
                  refine Imp.to' (fun _ _ => trivial) (by simp [lRow, hLS3]) (by simp [lRow, hLS3])
                | true =>
                  rw [if_pos (by simp [hki])] at hLS3
                  refine AW_cond true rfl (fun _ => ?_) (fun h => by cases h)
                  refine AW_re (tyOf_good _) fun K' hK' => ?_
                  repeat (refine sxf_next fun K2 hK2 => ?_; simp [lxb108, List.take_of_length_le]; (repeat (refine ⟨by omega, ?_⟩)); refine hK2 _ ?_; clear hK2 K2)
                  refine sxf_next fun K2 hK2 => ?_
                  simp [lxb108, List.take_of_length_le]
                  refine callK.data (hn3) (by simp; rfl) (by first | exact D.leGo_refl _ | simp [takeMap, List.map_map, Function.comp_def, D.le, D.le.go, D.le_refl, D.leGo_refl, lxb108, List.take_of_length_le]) ?_
                  refine hK2 _ ?_
                  clear hK2 K2
                  simp only [putd, upd_lst]
                  repeat (refine sxf_next fun K2 hK2 => ?_; simp [lxb108, List.take_of_length_le]; (repeat (refine ⟨by omega, ?_⟩)); refine hK2 _ ?_; clear hK2 K2)
                  refine sxf_nil (hK' _ ?_)
                  clear hK' K'
                  refine hK10 _ (AW.norm [1, 2, 5, 7, 11, 12, 13, 79, 80, 81, 95, 96, 97] [2, 500, 501, 502, 89] (fun _ _ => trivial) (AW.st (by simp [lxb108, List.take_of_length_le]; rfl) ?_))
                  refine AW_re (tyOf_good _) fun K' hK' => ?_
                  repeat (refine sxf_next fun K2 hK2 => ?_; simp; (repeat (refine ⟨by omega, ?_⟩)); refine hK2 _ ?_; clear hK2 K2)
                  refine sxf_nil (hK' _ ?_)
                  clear hK' K'
                  try simp only [thn, inb]
                  refine Again.mk (k + 1) (by omega) (by omega) ?_
                  refine Imp.to' (fun _ _ => trivial) (by simp [lRow, hLS3, hno]) (by simp [lRow, hLS3, hno])
            · obtain rfl : k = rts.length := by omega
              rw [hLk] at hnd
              refine AW_exit (hK8 _ ?_)
              have htk : L.length = (L.map fun e => [dE e]).length := by simp
              refine AW.imp (Imp.freeze 89 trivial) ?_
              refine AW.st (by simp [List.take_of_length_le]; rfl) ?_
              refine AW_rle (tyOf_good _) (by kernel_rfl) ([(8, (502, 126))]) ([(3, [502]), (5, [502])]) (List.range 11) (by kernel_rfl) fun K' hK' => ?_
              repeat (refine sxl_nextO rfl fun K2 hK2 => ?_; simp [lxb108, hRl2, List.take_of_length_le]; (repeat (refine ⟨by omega, ?_⟩)); refine hK2 _ ?_; clear hK2 K2)
              refine sxl_nextO rfl fun K2 hK2 => ?_
              simp [lxb108, hRl2, List.take_of_length_le]
              refine callD.mk (hn2) (by simp; rfl) (by simp; rfl) (by first | exact D.leGo_refl _ | simp [takeMap, List.map_map, Function.comp_def, D.le, D.le.go, D.le_refl, D.leGo_refl, lxb108, hRl2, List.take_of_length_le]) (by simp) ?_
              refine hK2 _ ?_
              clear hK2 K2
              simp only [putd, upd_lst]
              repeat (refine sxl_nextO rfl fun K2 hK2 => ?_; simp [lxb108, hRl2, List.take_of_length_le]; (repeat (refine ⟨by omega, ?_⟩)); refine hK2 _ ?_; clear hK2 K2)
              refine sxl_nextO rfl fun K2 hK2 => ?_
              simp [lxb108, hRl2, List.take_of_length_le]
              refine callD.mk (hnd) (by simp; rfl) (by simp; rfl) (by first | exact D.leGo_refl _ | simp [takeMap, List.map_map, Function.comp_def, D.le, D.le.go, D.le_refl, D.leGo_refl, lxb108, hRl2, List.take_of_length_le]) (by simp) ?_
              refine hK2 _ ?_
              clear hK2 K2
              simp only [putd, upd_lst]
              repeat (refine sxl_nextO rfl fun K2 hK2 => ?_; simp [lxb108, hRl2, List.take_of_length_le]; (repeat (refine ⟨by omega, ?_⟩)); refine hK2 _ ?_; clear hK2 K2)
              refine sxl_nilO (hK' _ ?_)
              clear hK' K'
              refine hK7 _ (AW.norm [1, 2, 5, 7, 79, 80, 81] [2, 500, 501, 502] (fun _ _ => trivial) (AW.st (by simp [lxb108, hRl2, List.take_of_length_le]; rfl) ?_))
              refine AW_re (tyOf_good _) fun K' hK' => ?_
              repeat (refine sxf_next fun K2 hK2 => ?_; simp; (repeat (refine ⟨by omega, ?_⟩)); refine hK2 _ ?_; clear hK2 K2)
              refine sxf_nil (hK' _ ?_)
              clear hK' K'
              try simp only [thn, inb]
              refine Again.mk (i + 1) (by omega) (by omega) ?_
              refine Imp.to' (fun _ _ => trivial) (by simp [lRow, hRs2, hcg, hRl2]) (by simp [lRow, hRs2, hcg, hRl2])
        · obtain rfl : i = rts.length := by omega
          clear hRs
          refine AW_exit (hK5 _ ?_)
          refine AW_then fun K11 hK11 => ?_
          refine AW_rg (tyOf_good _) [1, 2, 5, 131, 132] [2, 500, 501, 502] (fun _ _ => trivial) fun K' hK' => ?_
          repeat (refine sxf_next fun K2 hK2 => ?_; simp [lRow]; (repeat (refine ⟨by omega, ?_⟩)); refine hK2 _ ?_; clear hK2 K2)
          refine sxf_nil (hK' _ ?_)
          refine AW.st (by simp [lRow]; rfl) ?_
          clear hK' K'
          obtain ⟨ovs, hov⟩ : ∃ l : List Bool, l = [true, false] := ⟨_, rfl⟩
          have hovl : ovs.length = 2 := by rw [hov]; rfl
          have hovm : ovs.map (fun b => [D.v (.bool b)]) = [[.v (.bool true)], [.v (.bool false)]] := by rw [hov]; rfl
          have hPS : ∀ k, RG1 ++ (ptR rts (k + 1)).map cRg = (RG1 ++ (ptR rts k).map cRg) ++ (ptJ rts k ovs 2).map cRg := fun k => by rw [ptR, List.map_append, hov, List.append_assoc]
          have hPL : ∀ k ≤ P, (RG1 ++ (ptR rts k).map cRg).length ≤ 20 := fun k hk => by rw [List.length_append, List.length_map, hRl2]; have := ptR_len rts k; omega
          clear hov
          refine AW_for (S := Nat) (fun k => k ≤ P) (fun k => ⟨lst [(1, .d (.ip [.v (.int .i64 S), .v (.int .i64 P), .sl none (rts.map cRt)])), (2, .ref 2 0 0), (5, .ref 500 0 0), (131, int P), (132, int k)], hlst (lRow NC (RG1 ++ (ptR rts k).map cRg))⟩) (fun k => P - k) 0 ?_ (by simp) ?_
          · refine Imp.to' (fun _ _ => trivial) (by simp [lRow, ptR]) (by simp [lRow, ptR])
          · intro k hk
            have hPS2 := hPS k
            have hPL2 := hPL k hk
            generalize hRG2 : RG1 ++ (ptR rts k).map cRg = RG2 at hPS2 hPL2 ⊢
            refine AW_rg (tyOf_good _) [1, 2, 5, 131, 132, 133] [2, 500, 501, 502] (fun _ _ => trivial) fun K' hK' => ?_
            repeat (refine sxf_next fun K2 hK2 => ?_; simp [lRow]; (repeat (refine ⟨by omega, ?_⟩)); refine hK2 _ ?_; clear hK2 K2)
            refine sxf_nil (hK' _ ?_)
            refine AW.st (by simp [lRow]; rfl) ?_
            clear hK' K'
            refine AW_then fun K12 hK12 => ?_
            refine AW_cond' (b := k < P) (by simp [D.le, D.le.go, takeMap]) (fun hc => ?_) (fun hc => ?_)
            · have hkp := hc
              refine AW_skip (hK12 _ ?_)
              refine AW_then fun K13 hK13 => ?_
              refine AW_block ?_
              refine AW_rg (tyOf_good _) [1, 2, 5, 16, 131, 132] [2, 500, 501, 502] (fun _ _ => trivial) fun K' hK' => ?_
              repeat (refine sxf_next fun K2 hK2 => ?_; simp; (repeat (refine ⟨by omega, ?_⟩)); refine hK2 _ ?_; clear hK2 K2)
              refine sxf_nil (hK' _ ?_)
              refine AW.st (by simp; rfl) ?_
              clear hK' K'
              refine AW_rg (tyOf_good _) [1, 2, 5, 16, 131, 132, 135, 136, 137] [2, 500, 501, 502, 135] (fun _ _ => trivial) fun K' hK' => ?_
              repeat (refine sxf_next fun K2 hK2 => ?_; simp; (repeat (refine ⟨by omega, ?_⟩)); refine hK2 _ ?_; clear hK2 K2)
              refine sxf_nil (hK' _ ?_)
              refine AW.st (by simp; rfl) ?_
              clear hK' K'
              refine AW.imp (Imp.freeze 135 trivial) ?_
              refine AW.st (by simp; rfl) ?_
              refine AW_for (S := Nat) (fun j => j ≤ 2) (fun j => ⟨lst [(1, .d (.ip [.v (.int .i64 S), .v (.int .i64 P), .sl none (rts.map cRt)])), (2, .ref 2 0 0), (5, .ref 500 0 0), (16, int k), (131, int P), (132, int k), (135, .d (.sl none (ovs.map fun b => [.v (.bool b)]))), (136, int 2), (137, int j)], hlst (lRow NC (RG2 ++ (ptJ rts k ovs j).map cRg))⟩) (fun j => 2 - j) 0 ?_ (by simp) ?_
              · refine Imp.to' (fun _ _ => trivial) (by simp [lRow, hovm, ptJ]) (by simp [lRow, hovm, ptJ])
              · intro j hj
                have hJS : j < 2 → ∀ ov, ovs.getD j false = ov → RG2 ++ (ptJ rts k ovs (j + 1)).map cRg = (RG2 ++ (ptJ rts k ovs j).map cRg) ++ (ptG rts k ov).map cRg := fun _ ov ho => by rw [ptJ, List.map_append, ho, List.append_assoc]
                have hJL : (RG2 ++ (ptJ rts k ovs j).map cRg).length ≤ 30 := by rw [List.length_append, List.length_map]; have := ptJ_len rts k ovs j; omega
                have hj0 : RG2 ++ (ptJ rts k ovs 2).map cRg = RG2 ++ (ptJ rts k ovs j).map cRg ∨ j < 2 := by
                  by_cases h : j < 2
                  · exact .inr h
                  · obtain rfl : j = 2 := by omega
                    exact .inl rfl
                generalize hRG3 : RG2 ++ (ptJ rts k ovs j).map cRg = RG3 at hJS hJL hj0 ⊢
                refine AW_rg (tyOf_good _) [1, 2, 5, 16, 131, 132, 135, 136, 137, 138] [2, 500, 501, 502] (fun _ _ => trivial) fun K' hK' => ?_
                repeat (refine sxf_next fun K2 hK2 => ?_; simp [lRow]; (repeat (refine ⟨by omega, ?_⟩)); refine hK2 _ ?_; clear hK2 K2)
                refine sxf_nil (hK' _ ?_)
                refine AW.st (by simp [lRow]; rfl) ?_
                clear hK' K'
                refine AW_then fun K14 hK14 => ?_
                refine AW_cond' (b := (j : Int) < 2) (by simp [D.le, D.le.go, takeMap]) (fun hc => ?_) (fun hc => ?_)
                · have hjt : j < 2 := by omega
                  have hjl : j < ovs.length := by omega
                  have hgd : ovs.getD j false = ovs[j] := by rw [List.getD_eq_getElem?_getD, List.getElem?_eq_getElem hjl]; rfl
                  have hJS2 := hJS hjt _ hgd
                  generalize hov : ovs[j] = ov at hJS2
                  have hES : ∀ n (hn : n < rts.length), ptE rts k ov (n + 1) = ptE rts k ov n ++ if rts[n].2.contains ((k : Int), ov) then [.bit (nmT 108 n)] else [] := fun n hn => by
                    rw [ptE, List.getD_eq_getElem?_getD, List.getElem?_eq_getElem hn]; rfl
                  have hEN := ptE_len rts k ov
                  have hE0 : ptE rts k ov 0 = [] := rfl
                  have hG1 := fun h => ptG_some (rts := rts) (k := k) (o := ov) h
                  have hG0 := fun h => ptG_none (rts := rts) (k := k) (o := ov) h
                  have hnd := ror_spec G none (ptE rts k ov rts.length)
                  have hn2 := rname_spec G 112 k (by omega)
                  rw [Int.toNat_natCast] at hn2
                  generalize ptG rts k ov = pg at hJS2 hG1 hG0
                  generalize ptE rts k ov = EE at hES hEN hE0 hG1 hG0 hnd
                  obtain ⟨ta, ca, hta⟩ := dE_ifc (orE (EE rts.length))
                  rw [hta] at hnd
                  refine AW_skip (hK14 _ ?_)
                  refine AW_then fun K15 hK15 => ?_
                  refine AW_block ?_
                  refine AW_rg (tyOf_good _) [1, 2, 5, 16, 18, 131, 132, 135, 136, 137] [2, 500, 501, 502] (fun _ _ => trivial) fun K' hK' => ?_
                  repeat (refine sxf_next fun K2 hK2 => ?_; simp [hjl, hov]; (repeat (refine ⟨by omega, ?_⟩)); refine hK2 _ ?_; clear hK2 K2)
                  refine sxf_nil (hK' _ ?_)
                  refine AW.st (by simp [hjl, hov]; rfl) ?_
                  clear hK' K'
                  refine AW_rg (tyOf_good _) [1, 2, 5, 16, 18, 19, 131, 132, 135, 136, 137] [2, 500, 501, 502] (fun _ _ => trivial) fun K' hK' => ?_
                  repeat (refine sxf_next fun K2 hK2 => ?_; simp; (repeat (refine ⟨by omega, ?_⟩)); refine hK2 _ ?_; clear hK2 K2)
                  refine sxf_nil (hK' _ ?_)
                  refine AW.st (by simp; rfl) ?_
                  clear hK' K'
                  refine AW_then fun K16 hK16 => ?_
                  refine AW_rg (tyOf_good _) [1, 2, 5, 16, 18, 19, 131, 132, 135, 136, 137, 142, 143, 144] [2, 500, 501, 502] (fun _ _ => trivial) fun K' hK' => ?_
                  repeat (refine sxf_next fun K2 hK2 => ?_; simp; (repeat (refine ⟨by omega, ?_⟩)); refine hK2 _ ?_; clear hK2 K2)
                  refine sxf_nil (hK' _ ?_)
                  refine AW.st (by simp; rfl) ?_
                  clear hK' K'
                  refine AW_for (S := Nat) (fun n => n ≤ rts.length) (fun n => ⟨lst [(1, .d (.ip [.v (.int .i64 S), .v (.int .i64 P), .sl none (rts.map cRt)])), (2, .ref 2 0 0), (5, .ref 500 0 0), (16, int k), (18, .d (.v (.bool ov))), (19, .own 300 0 (EE n).length), (131, int P), (132, int k), (135, .d (.sl none (ovs.map fun b => [.v (.bool b)]))), (136, int 2), (137, int j), (142, .d (.sl none (rts.map cRt))), (143, int rts.length), (144, int n)], hlst (lRow NC RG3 ++ [(300, .sl 45 1 ((EE n).map fun e => [dE e]))])⟩) (fun n => rts.length - n) 0 ?_ (by simp) ?_
                  · refine (Imp.adopt 19 300 45 1 rfl rfl).trans ?_
                    refine Imp.to' (fun _ _ => trivial) (by simp [lRow, hE0]) (by simp [lRow, hE0])
                  · intro n hn
                    have hES2 := hES n
                    have hEN2 := hEN n
                    have hEb : n = rts.length → EE rts.length = EE n := fun h => by rw [h]
                    generalize hEk : EE n = E at hES2 hEN2 hEb ⊢
                    refine AW_rg (tyOf_good _) [1, 2, 5, 16, 18, 19, 131, 132, 135, 136, 137, 142, 143, 144, 145] [2, 500, 501, 502, 300] (fun _ _ => trivial) fun K' hK' => ?_
                    repeat (refine sxf_next fun K2 hK2 => ?_; simp [lRow]; (repeat (refine ⟨by omega, ?_⟩)); refine hK2 _ ?_; clear hK2 K2)
                    refine sxf_nil (hK' _ ?_)
                    refine AW.st (by simp [lRow]; rfl) ?_
                    clear hK' K'
                    refine AW_then fun K17 hK17 => ?_
                    refine AW_cond' (b := n < rts.length) (by simp [D.le, D.le.go, takeMap]) (fun hc => ?_) (fun hc => ?_)
                    · have hnt := hc
                      have hES3 := hES2 hnt
                      have hn3 := rname_spec G 108 n (by omega)
                      rw [Int.toNat_natCast] at hn3
                      have hno := dE_bitN 108 n
                      have hcp2 := containsPtEq_spec G rts[n].2 ((k : Int), ov) (by have := hpl _ (List.getElem_mem hnt); omega)
                      simp only [dPt, cPt] at hcp2
                      have hck0 : cRt rts[n] = [dRow rts[n].1, .sl none (rts[n].2.map cPt)] := rfl
                      have q1 : (dRow rts[n].1).one = true := rfl
                      generalize hrk : rts[n] = rk at hck0 hcp2 hES3 q1
                      generalize dRow rk.1 = e1 at hck0 q1
                      generalize rk.2.contains ((k : Int), ov) = cf at hcp2 hES3
                      generalize rk.2.map cPt = e2 at hck0 hcp2
                      refine AW_skip (hK17 _ ?_)
                      refine AW_then fun K18 hK18 => ?_
                      refine AW_block ?_
                      refine AW_rg (tyOf_good _) [1, 2, 5, 16, 18, 19, 20, 21, 131, 132, 135, 136, 137, 142, 143, 144] [2, 500, 501, 502, 300, 21] (fun _ _ => trivial) fun K' hK' => ?_
                      repeat (refine sxf_next fun K2 hK2 => ?_; simp [hnt, hrk, hck0, q1]; (repeat (refine ⟨by omega, ?_⟩)); refine hK2 _ ?_; clear hK2 K2)
                      refine sxf_nil (hK' _ ?_)
                      refine AW.st (by simp [hnt, hrk, hck0, q1]; rfl) ?_
                      clear hK' K'
                      refine AW.imp (Imp.freezeB 21 trivial) ?_
                      refine AW.st (by simp; rfl) ?_
                      refine AW_rg (tyOf_good _) [1, 2, 5, 16, 18, 19, 20, 131, 132, 135, 136, 137, 142, 143, 144, 154] [2, 500, 501, 502, 300] (fun _ _ => trivial) fun K' hK' => ?_
                      repeat (refine sxf_next fun K2 hK2 => ?_; simp; (repeat (refine ⟨by omega, ?_⟩)); refine hK2 _ ?_; clear hK2 K2)
                      refine sxf_next fun K2 hK2 => ?_
                      simp
                      refine callK.data (hcp2) (by simp; rfl) (by first | exact D.leGo_refl _ | simp [takeMap, List.map_map, Function.comp_def, D.le, D.le.go, D.le_refl, D.leGo_refl]) ?_
                      refine hK2 _ ?_
                      clear hK2 K2
                      simp only [putd, upd_lst]
                      repeat (refine sxf_next fun K2 hK2 => ?_; simp; (repeat (refine ⟨by omega, ?_⟩)); refine hK2 _ ?_; clear hK2 K2)
                      refine sxf_nil (hK' _ ?_)
                      refine AW.st (by simp; rfl) ?_
                      clear hK' K'
                      cases cf with
                      | false =>
                        rw [if_neg (by simp), List.append_nil] at hES3
                        refine AW_cond false rfl (fun h => by cases h) (fun _ => ?_)
                        refine AW_skip ?_
                        refine hK18 _ (AW.norm [1, 2, 5, 16, 18, 19, 131, 132, 135, 136, 137, 142, 143, 144] [2, 500, 501, 502, 300] (fun _ _ => trivial) (AW.st (by simp; rfl) ?_))
                        refine AW_re (tyOf_good _) fun K' hK' => ?_
                        repeat (refine sxf_next fun K2 hK2 => ?_; simp; (repeat (refine ⟨by omega, ?_⟩)); refine hK2 _ ?_; clear hK2 K2)
                        refine sxf_nil (hK' _ ?_)
                        clear hK' K'
                        try simp only [thn, inb]
                        refine Again.mk (n + 1) (by omega) (by omega) ?_
                        refine Imp.to' (fun _ _ => trivial) (by simp [lRow, hES3]) (by simp [lRow, hES3])
                      | true =>
                        rw [if_pos rfl] at hES3
                        refine AW_cond true rfl (fun _ => ?_) (fun h => by cases h)
                        refine AW_re (tyOf_good _) fun K' hK' => ?_
                        repeat (refine sxf_next fun K2 hK2 => ?_; simp [lxb108, List.take_of_length_le]; (repeat (refine ⟨by omega, ?_⟩)); refine hK2 _ ?_; clear hK2 K2)
                        refine sxf_next fun K2 hK2 => ?_
                        simp [lxb108, List.take_of_length_le]
                        refine callK.data (hn3) (by simp; rfl) (by first | exact D.leGo_refl _ | simp [takeMap, List.map_map, Function.comp_def, D.le, D.le.go, D.le_refl, D.leGo_refl, lxb108, List.take_of_length_le]) ?_
                        refine hK2 _ ?_
                        clear hK2 K2
                        simp only [putd, upd_lst]
                        repeat (refine sxf_next fun K2 hK2 => ?_; simp [lxb108, List.take_of_length_le]; (repeat (refine ⟨by omega, ?_⟩)); refine hK2 _ ?_; clear hK2 K2)
                        refine sxf_nil (hK' _ ?_)
                        clear hK' K'
                        refine hK18 _ (AW.norm [1, 2, 5, 16, 18, 19, 131, 132, 135, 136, 137, 142, 143, 144] [2, 500, 501, 502, 300] (fun _ _ => trivial) (AW.st (by simp [lxb108, List.take_of_length_le]; rfl) ?_))
                        refine AW_re (tyOf_good _) fun K' hK' => ?_
                        repeat (refine sxf_next fun K2 hK2 => ?_; simp; (repeat (refine ⟨by omega, ?_⟩)); refine hK2 _ ?_; clear hK2 K2)
                        refine sxf_nil (hK' _ ?_)
                        clear hK' K'
                        try simp only [thn, inb]
                        refine Again.mk (n + 1) (by omega) (by omega) ?_
                        refine Imp.to' (fun _ _ => trivial) (by simp [lRow, hES3, hno]) (by simp [lRow, hES3, hno])
                    · obtain rfl : n = rts.length := by omega
                      rw [hEk] at hnd hG1 hG0 hta
                      refine AW_exit (hK16 _ ?_)
                      refine AW.imp (Imp.freeze 300 trivial) ?_
                      refine AW.st (by simp [List.take_of_length_le]; rfl) ?_
                      refine AW_rg (tyOf_good _) [1, 2, 5, 16, 18, 19, 22, 131, 132, 135, 136, 137] [2, 500, 501, 502] (fun _ _ => trivial) fun K' hK' => ?_
                      repeat (refine sxf_next fun K2 hK2 => ?_; simp; (repeat (refine ⟨by omega, ?_⟩)); refine hK2 _ ?_; clear hK2 K2)
                      refine sxf_nil (hK' _ ?_)
                      refine AW.st (by simp; rfl) ?_
                      clear hK' K'
                      refine AW_then fun K19 hK19 => ?_
                      refine' lateG (fun hrest => ?_) ?_
                      rotate_left
                      · by_cases ho : ov = true
                        · refine AW_rg (tyOf_good _) [1, 2, 5, 16, 19, 22, 131, 132, 135, 136, 137, 163] [2, 500, 501, 502] (fun _ _ => trivial) fun K' hK' => ?_
                          repeat (refine sxf_next fun K2 hK2 => ?_; simp [ho]; (repeat (refine ⟨by omega, ?_⟩)); refine hK2 _ ?_; clear hK2 K2)
                          refine sxf_nil (hK' _ ?_)
                          refine AW.st (by simp [ho]; rfl) ?_
                          clear hK' K'
                          refine AW_cond false rfl (fun h => by cases h) (fun _ => ?_)
                          refine AW_skip ?_
                          refine hK19 _ (AW.norm [1, 2, 5, 16, 19, 22, 131, 132, 135, 136, 137] [2, 500, 501, 502] (fun _ _ => trivial) (AW.st (by simp; rfl) ?_))
                          refine AW.st (show _ = (⟨lst [(1, .d (.ip [.v (.int .i64 S), .v (.int .i64 P), .sl none (rts.map cRt)])), (2, .ref 2 0 0), (5, .ref 500 0 0), (16, int k), (19, .d (.sl none (E.map fun e => [dE e]))), (22, int (if ov = true then 2 else 3)), (131, int P), (132, int k), (135, .d (.sl none (ovs.map fun b => [.v (.bool b)]))), (136, int 2), (137, int j)], hlst [(2, .box 34 [.d (.sl (some false) []), .d (.sl (some false) [])]), (500, .box 34 [.own 501 0 NC.length, .own 502 0 RG3.length]), (501, .sl 40 3 NC), (502, .sl 50 3 RG3)]⟩ : St) by rw [ho] <;> rfl) ?_
                          exact hrest.out
                        · have ho2 : ov = false := by simpa using ho
                          refine AW_rg (tyOf_good _) [1, 2, 5, 16, 19, 22, 131, 132, 135, 136, 137, 163] [2, 500, 501, 502] (fun _ _ => trivial) fun K' hK' => ?_
                          repeat (refine sxf_next fun K2 hK2 => ?_; simp [ho2]; (repeat (refine ⟨by omega, ?_⟩)); refine hK2 _ ?_; clear hK2 K2)
                          refine sxf_nil (hK' _ ?_)
                          refine AW.st (by simp [ho2]; rfl) ?_
                          clear hK' K'
                          refine AW_cond true rfl (fun _ => ?_) (fun h => by cases h)
                          refine AW_re (tyOf_good _) fun K' hK' => ?_
                          repeat (refine sxf_next fun K2 hK2 => ?_; simp; (repeat (refine ⟨by omega, ?_⟩)); refine hK2 _ ?_; clear hK2 K2)
                          refine sxf_nil (hK' _ ?_)
                          clear hK' K'
                          refine hK19 _ (AW.norm [1, 2, 5, 16, 19, 22, 131, 132, 135, 136, 137] [2, 500, 501, 502] (fun _ _ => trivial) (AW.st (by simp; rfl) ?_))
                          refine AW.st (show _ = (⟨lst [(1, .d (.ip [.v (.int .i64 S), .v (.int .i64 P), .sl none (rts.map cRt)])), (2, .ref 2 0 0), (5, .ref 500 0 0), (16, int k), (19, .d (.sl none (E.map fun e => [dE e]))), (22, int (if ov = true then 2 else 3)), (131, int P), (132, int k), (135, .d (.sl none (ovs.map fun b => [.v (.bool b)]))), (136, int 2), (137, int j)], hlst [(2, .box 34 [.d (.sl (some false) []), .d (.sl (some false) [])]), (500, .box 34 [.own 501 0 NC.length, .own 502 0 RG3.length]), (501, .sl 40 3 NC), (502, .sl 50 3 RG3)]⟩ : St) by rw [ho2] <;> rfl) ?_
                          exact hrest.out
                      · by_cases hE : E = []
                        · have hp := hG0 hE
                          rw [hp, List.map_nil, List.append_nil] at hJS2
                          have hE2 : E.length = 0 := by rw [hE]; rfl
                          refine AW_rg (tyOf_good _) [1, 2, 5, 16, 19, 22, 131, 132, 135, 136, 137, 166] [2, 500, 501, 502] (fun _ _ => trivial) fun K' hK' => ?_
                          repeat (refine sxf_next fun K2 hK2 => ?_; simp [hE2]; (repeat (refine ⟨by omega, ?_⟩)); refine hK2 _ ?_; clear hK2 K2)
                          refine sxf_nil (hK' _ ?_)
                          refine AW.st (by simp [hE2]; rfl) ?_
                          clear hK' K'
                          refine AW_cond false rfl (fun h => by cases h) (fun _ => ?_)
                          refine AW_skip ?_
                          refine hK15 _ (AW.norm [1, 2, 5, 16, 131, 132, 135, 136, 137] [2, 500, 501, 502] (fun _ _ => trivial) (AW.st (by simp; rfl) ?_))
                          refine AW_re (tyOf_good _) fun K' hK' => ?_
                          repeat (refine sxf_next fun K2 hK2 => ?_; simp; (repeat (refine ⟨by omega, ?_⟩)); refine hK2 _ ?_; clear hK2 K2)
                          refine sxf_nil (hK' _ ?_)
                          clear hK' K'
                          try simp only [thn, inb]
                          refine Again.mk (j + 1) (by omega) (by omega) ?_
                          refine Imp.to' (fun _ _ => trivial) (by simp [lRow, hJS2]) (by simp [lRow, hJS2])
                        · have hp := hG1 hE
                          rw [hp, List.map_cons, List.map_nil, cRg_eq, hta] at hJS2
                          have hE2 : E.length ≠ 0 := fun h => hE (List.length_eq_zero_iff.1 h)
                          have hE3 : 0 < E.length := by omega
                          generalize (if ov = true then (2 : Int) else 3) = kd at hJS2 ⊢
                          refine AW_rg (tyOf_good _) [1, 2, 5, 16, 19, 22, 131, 132, 135, 136, 137, 166] [2, 500, 501, 502] (fun _ _ => trivial) fun K' hK' => ?_
                          repeat (refine sxf_next fun K2 hK2 => ?_; simp; (repeat (refine ⟨by omega, ?_⟩)); refine hK2 _ ?_; clear hK2 K2)
                          refine sxf_nil (hK' _ ?_)
                          refine AW.st (by simp; rfl) ?_
                          clear hK' K'
                          refine AW_cond true (by simp [hE3]) (fun _ => ?_) (fun h => by cases h)
                          refine AW_rle (tyOf_good _) (by kernel_rfl) ([(9, (502, 175))]) ([(4, [502]), (6, [502])]) (List.range 12) (by kernel_rfl) fun K' hK' => ?_
                          repeat (refine sxl_nextO rfl fun K2 hK2 => ?_; simp [lxb112, List.take_of_length_le]; (repeat (refine ⟨by omega, ?_⟩)); refine hK2 _ ?_; clear hK2 K2)
                          refine sxl_nextO rfl fun K2 hK2 => ?_
                          simp [lxb112, List.take_of_length_le]
                          refine callD.mk (hn2) (by simp; rfl) (by simp; rfl) (by first | exact D.leGo_refl _ | simp [takeMap, List.map_map, Function.comp_def, D.le, D.le.go, D.le_refl, D.leGo_refl, lxb112, List.take_of_length_le]) (by simp) ?_
                          refine hK2 _ ?_
                          clear hK2 K2
                          simp only [putd, upd_lst]
                          repeat (refine sxl_nextO rfl fun K2 hK2 => ?_; simp [lxb112, List.take_of_length_le]; (repeat (refine ⟨by omega, ?_⟩)); refine hK2 _ ?_; clear hK2 K2)
                          refine sxl_nextO rfl fun K2 hK2 => ?_
                          simp [lxb112, List.take_of_length_le]
                          refine callD.mk (hnd) (by simp; rfl) (by simp; rfl) (by first | exact D.leGo_refl _ | simp [takeMap, List.map_map, Function.comp_def, D.le, D.le.go, D.le_refl, D.leGo_refl, lxb112, List.take_of_length_le]) (by simp) ?_
                          refine hK2 _ ?_
                          clear hK2 K2
                          simp only [putd, upd_lst]
                          repeat (refine sxl_nextO rfl fun K2 hK2 => ?_; simp [lxb112, List.take_of_length_le]; (repeat (refine ⟨by omega, ?_⟩)); refine hK2 _ ?_; clear hK2 K2)
                          refine sxl_nilO (hK' _ ?_)
                          clear hK' K'
                          refine hK15 _ (AW.norm [1, 2, 5, 16, 131, 132, 135, 136, 137] [2, 500, 501, 502] (fun _ _ => trivial) (AW.st (by simp [lxb112, List.take_of_length_le]; rfl) ?_))
                          refine AW_re (tyOf_good _) fun K' hK' => ?_
                          repeat (refine sxf_next fun K2 hK2 => ?_; simp; (repeat (refine ⟨by omega, ?_⟩)); refine hK2 _ ?_; clear hK2 K2)
                          refine sxf_nil (hK' _ ?_)
                          clear hK' K'
                          try simp only [thn, inb]
                          refine Again.mk (j + 1) (by omega) (by omega) ?_
                          refine Imp.to' (fun _ _ => trivial) (by simp [lRow, hJS2]) (by simp [lRow, hJS2])
                · obtain rfl : j = 2 := by omega
                  rw [hRG3] at hPS2
                  refine AW_exit (hK13 _ ?_)
                  refine AW_re (tyOf_good _) fun K' hK' => ?_
                  repeat (refine sxf_next fun K2 hK2 => ?_; simp; (repeat (refine ⟨by omega, ?_⟩)); refine hK2 _ ?_; clear hK2 K2)
                  refine sxf_nil (hK' _ ?_)
                  clear hK' K'
                  try simp only [thn, inb]
                  refine Again.mk (k + 1) (by omega) (by omega) ?_
                  refine Imp.to' (fun _ _ => trivial) (by simp [lRow, hPS2]) (by simp [lRow, hPS2])
            · obtain rfl : k = P := by omega
              refine AW_exit (hK11 _ ?_)
              have hRT : (rungsT rts k).map cRg = RG2 := by rw [← hRG2, ← hRG1, ← hRG0]; simp only [rungsT, List.map_append]
              rw [hRT] at hlc ⊢
              refine AW_then fun K20 hK20 => ?_
              refine AW.imp (Imp.freeze 501 trivial) ?_
              refine AW.st (by simp [List.take_of_length_le]; rfl) ?_
              refine AW.imp (Imp.freeze 502 trivial) ?_
              refine AW.st (by simp [List.take_of_length_le]; rfl) ?_
              refine AW_rg (tyOf_good _) [2, 5, 23] [2, 500] (fun _ _ => trivial) fun K' hK' => ?_
              repeat (refine sxf_next fun K2 hK2 => ?_; simp; (repeat (refine ⟨by omega, ?_⟩)); refine hK2 _ ?_; clear hK2 K2)
              refine sxf_next fun K2 hK2 => ?_
              simp
              refine callK.data (hlc) (by simp; rfl) (by first | exact D.leGo_refl _ | simp [takeMap, List.map_map, Function.comp_def, D.le, D.le.go, D.le_refl, D.leGo_refl]) ?_
              refine hK2 _ ?_
              clear hK2 K2
              simp only [putd, upd_lst]
              repeat (refine sxf_next fun K2 hK2 => ?_; simp; (repeat (refine ⟨by omega, ?_⟩)); refine hK2 _ ?_; clear hK2 K2)
              refine sxf_nil (hK' _ ?_)
              refine AW.st (by simp; rfl) ?_
              clear hK' K'
              refine AW_rg (tyOf_good _) [2, 5, 23, 183] [2, 500] (fun _ _ => trivial) fun K' hK' => ?_
              repeat (refine sxf_next fun K2 hK2 => ?_; simp; (repeat (refine ⟨by omega, ?_⟩)); refine hK2 _ ?_; clear hK2 K2)
              refine sxf_nil (hK' _ ?_)
              refine AW.st (by simp; rfl) ?_
              clear hK' K'
              refine AW_cond false rfl (fun h => by cases h) (fun _ => ?_)
              refine AW_skip (hK20 _ ?_)
              refine AW_rg (tyOf_good _) [2, 3] [2, 500] (fun _ _ => trivial) fun K' hK' => ?_
              repeat (refine sxf_next fun K2 hK2 => ?_; simp; (repeat (refine ⟨by omega, ?_⟩)); refine hK2 _ ?_; clear hK2 K2)
              refine sxf_nil (hK' _ ?_)
              refine AW.st (by simp; rfl) ?_
              clear hK' K'
              refine AW_ret ?_
              simp [D.le, D.le.go, takeMap]
end Go.Proofs.YtnlhioeefmhklaaGreatDoor

/-
  Plain: the program of a table that may be, may be.
-/
namespace Go.Proofs.YtnlhioeefmhklaaGreatDoor
set_option linter.unusedSimpArgs false
set_option linter.unusedVariables false
open Go.Av

/-! ### Names of a route's rungs -/
theorem rl_one1 {s x : Tx} (h : x ∈ one1 s) : x = s := by
  unfold one1 at h; split at h
  · cases h
  · simpa using h
theorem rl_nmsL {x : Tx} : ∀ {l : List Ex}, x ∈ nmsL true l → ∃ e ∈ l, x ∈ nmsE true e
  | [], h => by simp [nmsL] at h
  | e :: l, h => by
    rw [nmsL, List.mem_append] at h
    rcases h with h | h
    · exact ⟨e, by simp, h⟩
    · obtain ⟨e', he, hx⟩ := rl_nmsL h
      exact ⟨e', by simp [he], hx⟩
theorem rl_andE {x : Tx} {l : List Ex} (h : x ∈ nmsE true (andE l)) : ∃ e ∈ l, x ∈ nmsE true e := by
  unfold andE at h; split at h
  · exact ⟨_, by simp, h⟩
  · exact rl_nmsL h
theorem rl_orE {x : Tx} {l : List Ex} (h : x ∈ nmsE true (orE l)) : ∃ e ∈ l, x ∈ nmsE true e := by
  unfold orE at h; split at h
  · exact ⟨_, by simp, h⟩
  · exact rl_nmsL h
theorem rl_bit {x : Tx} {c : UInt8} {i : Nat} (h : x ∈ nmsE true (.bit (nmT c i))) : x = nmT c i := rl_one1 (by simpa [nmsE, nmE] using h)
theorem rl_not {x : Tx} {c : UInt8} {i : Nat} (h : x ∈ nmsE true (notB c i)) : x = nmT c i := rl_bit h
/-- Names that a table's program has. -/
inductive InN (R S P : Nat) : Tx → Prop where
  | a (i : Nat) (h : i < R) : InN R S P (nmT 97 i)
  | b (i : Nat) (h : i < S) : InN R S P (nmT 98 i)
  | l (i : Nat) (h : i < R) : InN R S P (nmT 108 i)
theorem clN_in {rts : List Rt} {i : Nat} {r : Rt} {e : Ex} : ∀ {n : Nat}, e ∈ clN rts i r n → ∃ k < n, e = notB 108 k
  | 0, h => by cases h
  | n + 1, h => by
    rw [clN, List.mem_append] at h
    rcases h with h | h
    · obtain ⟨k, hk, he⟩ := clN_in h
      exact ⟨k, by omega, he⟩
    · split at h
      · exact ⟨n, by omega, by simpa using h⟩
      · cases h
theorem ptE_in {rts : List Rt} {k : Nat} {o : Bool} {e : Ex} : ∀ {n : Nat}, e ∈ ptE rts k o n → ∃ i < n, e = .bit (nmT 108 i)
  | 0, h => by cases h
  | n + 1, h => by
    rw [ptE, List.mem_append] at h
    rcases h with h | h
    · obtain ⟨i, hi, he⟩ := ptE_in h
      exact ⟨i, by omega, he⟩
    · split at h
      · exact ⟨n, by omega, by simpa using h⟩
      · cases h
theorem freeL_in {S : Nat} {ss : List Int} (hs : ∀ s ∈ ss, 0 ≤ s ∧ s < (S : Int)) {e : Ex} (h : e ∈ freeL ss) : ∃ j < S, e = notB 98 j := by
  obtain ⟨s, hm, rfl⟩ := List.mem_map.1 h
  have := hs s hm
  exact ⟨s.toNat, by omega, rfl⟩
/-- A rung of a table's program: its kind, its name, the parts of its expression. -/
structure RgIn (R S P : Nat) (r : RgP) : Prop where
  kind : r.kind = 2 ∨ r.kind = 3
  name : (∃ i < R, r.name = nmT 108 i) ∨ ∃ i < P, r.name = nmT 112 i
  cond : ∃ l, l ≠ [] ∧ l.length ≤ 8 ∧ (r.cond = some (andE l) ∨ r.cond = some (orE l)) ∧ ∀ e ∈ l, (∃ c i, e = notB c i ∧ InN R S P (nmT c i) ∧ i < 100) ∨ ∃ c i, e = .bit (nmT c i) ∧ InN R S P (nmT c i) ∧ i < 100
theorem reset_in {S P : Nat} {rts : List Rt} (hg : GoodT S P rts) {i : Nat} (hi : i < rts.length) : RgIn rts.length S P (resetG i rts[i]) := by
  have hm := List.getElem_mem hi
  have h3 := hg.sl3 _ hm
  have hS := hg.s1
  have hR := hg.r1
  refine ⟨.inr rfl, .inl ⟨i, hi, rfl⟩, _, List.cons_ne_nil _ _, ?_, .inl rfl, fun e he => ?_⟩
  · rw [List.length_cons, freeL, List.length_map]; omega
  · rcases List.mem_cons.1 he with rfl | he
    · exact .inl ⟨97, i, rfl, .a i hi, by omega⟩
    · obtain ⟨j, hj, rfl⟩ := freeL_in (hg.sec _ hm) he
      exact .inl ⟨98, j, rfl, .b j hj, by omega⟩
theorem set_in {S P : Nat} {rts : List Rt} (hg : GoodT S P rts) {i : Nat} (hi : i < rts.length) : RgIn rts.length S P (setG rts i rts[i]) := by
  have hm := List.getElem_mem hi
  have h3 := hg.sl3 _ hm
  have hS := hg.s1
  have hR := hg.r1
  have hc := clN_len rts i rts[i] rts.length
  refine ⟨.inl rfl, .inl ⟨i, hi, rfl⟩, _, by simp, ?_, .inl rfl, fun e he => ?_⟩
  · rw [List.length_append, List.length_cons, freeL, List.length_map]; omega
  · rcases List.mem_append.1 he with he | he
    · rcases List.mem_cons.1 he with rfl | he
      · exact .inr ⟨97, i, rfl, .a i hi, by omega⟩
      · obtain ⟨j, hj, rfl⟩ := freeL_in (hg.sec _ hm) he
        exact .inl ⟨98, j, rfl, .b j hj, by omega⟩
    · obtain ⟨k, hk, rfl⟩ := clN_in he
      exact .inl ⟨108, k, rfl, .l k hk, by omega⟩
theorem ptG_in {S P : Nat} {rts : List Rt} (hg : GoodT S P rts) {k : Nat} (hk : k < P) (o : Bool) {r : RgP} (h : r ∈ ptG rts k o) : RgIn rts.length S P r := by
  have hR := hg.r1
  by_cases he : ptE rts k o rts.length = []
  · rw [ptG_none he] at h; cases h
  · rw [ptG_some he, List.mem_singleton] at h
    subst h
    have hl := ptE_len rts k o rts.length
    refine ⟨by cases o <;> simp, .inr ⟨k, hk, rfl⟩, _, he, by omega, .inr rfl, fun e hm => ?_⟩
    obtain ⟨i, hi, rfl⟩ := ptE_in hm
    exact .inr ⟨108, i, rfl, .l i hi, by omega⟩
theorem resR_in {rts : List Rt} {r : RgP} : ∀ {n : Nat}, n ≤ rts.length → r ∈ resR rts n → ∃ i, ∃ h : i < rts.length, r = resetG i rts[i]
  | 0, _, h => by cases h
  | n + 1, hn, h => by
    rw [resR, List.mem_append, List.mem_singleton] at h
    rcases h with h | h
    · exact resR_in (by omega) h
    · refine ⟨n, by omega, ?_⟩
      rw [h, List.getD_eq_getElem?_getD, List.getElem?_eq_getElem (by omega)]; rfl
theorem setR_in {rts : List Rt} {r : RgP} : ∀ {n : Nat}, n ≤ rts.length → r ∈ setR rts n → ∃ i, ∃ h : i < rts.length, r = setG rts i rts[i]
  | 0, _, h => by cases h
  | n + 1, hn, h => by
    rw [setR, List.mem_append, List.mem_singleton] at h
    rcases h with h | h
    · exact setR_in (by omega) h
    · refine ⟨n, by omega, ?_⟩
      rw [h, List.getD_eq_getElem?_getD, List.getElem?_eq_getElem (by omega)]; rfl
theorem ptJ_in {rts : List Rt} {k : Nat} {ovs : List Bool} {r : RgP} : ∀ {n : Nat}, r ∈ ptJ rts k ovs n → ∃ o, r ∈ ptG rts k o
  | 0, h => by cases h
  | n + 1, h => by
    rw [ptJ, List.mem_append] at h
    rcases h with h | h
    · exact ptJ_in h
    · exact ⟨_, h⟩
theorem ptR_in {rts : List Rt} {r : RgP} : ∀ {n : Nat}, r ∈ ptR rts n → ∃ k < n, ∃ o, r ∈ ptG rts k o
  | 0, h => by cases h
  | n + 1, h => by
    rw [ptR, List.mem_append] at h
    rcases h with h | h
    · obtain ⟨k, hk, hr⟩ := ptR_in h
      exact ⟨k, by omega, hr⟩
    · exact ⟨n, by omega, ptJ_in h⟩
theorem rungs_in {S P : Nat} {rts : List Rt} (hg : GoodT S P rts) {r : RgP} (h : r ∈ rungsT rts P) : RgIn rts.length S P r := by
  rw [rungsT, List.mem_append, List.mem_append] at h
  rcases h with (h | h) | h
  · obtain ⟨i, hi, rfl⟩ := resR_in (Nat.le_refl _) h; exact reset_in hg hi
  · obtain ⟨i, hi, rfl⟩ := setR_in (Nat.le_refl _) h; exact set_in hg hi
  · obtain ⟨k, hk, o, hr⟩ := ptR_in h; exact ptG_in hg hk o hr

/-! ### Sizes -/
theorem bEs_le {m : Nat} : ∀ {l : List Ex}, (∀ e ∈ l, bE e ≤ m) → bEs l ≤ m * l.length
  | [], _ => by simp [bEs]
  | e :: l, h => by
    have := bEs_le fun e he => h e (List.mem_cons_of_mem _ he)
    have := h e (by simp)
    rw [bEs, List.length_cons, Nat.mul_add]; omega
theorem andE_b (l : List Ex) : bE (andE l) ≤ bEs l + 5 := by
  unfold andE; split
  · simp only [bEs]; omega
  · simp [bE]
theorem orE_b (l : List Ex) : bE (orE l) ≤ bEs l + 5 := by
  unfold orE; split
  · simp only [bEs]; omega
  · simp [bE]
theorem namesE_b (all : Bool) (e : Ex) : (namesE all e).length ≤ bE e := by
  have h1 := Lib.compact_length_le (sortT (nmsE all e))
  have h2 := sortT_len (nmsE all e)
  have h3 := nms_len all e
  unfold namesE
  omega
theorem RgIn.small {R S P : Nat} {r : RgP} (h : RgIn R S P r) {e : Ex} (he : r.cond = some e) : bE e ≤ 2^28 ∧ (namesE true e).length < 2^62 := by
  obtain ⟨l, _, hl, hc, hm⟩ := h.cond
  have hb : bEs l ≤ 8 * l.length := bEs_le fun e he => by
    rcases hm e he with ⟨c, i, rfl, _, hi⟩ | ⟨c, i, rfl, _, hi⟩
    · have := nmT_len c hi
      simp only [notB, bE]; omega
    · have := nmT_len c hi
      simp only [bE]; omega
  have h1 := andE_b l
  have h2 := orE_b l
  have h3 := namesE_b true e
  have hbe : bE e ≤ 70 := by
    rcases hc with hc | hc <;> (rw [hc, Option.some.injEq] at he; subst he; omega)
  omega
theorem lnm_mem {k : Int} {c : UInt8} {n : Nat} {x : NmP} (h : x ∈ lnm k c n) : ∃ i < n, x = nmP k c i := by
  obtain ⟨i, hi, rfl⟩ := List.mem_map.1 h
  exact ⟨i, List.mem_range.1 hi, rfl⟩
theorem ladder_small {S P : Nat} {rts : List Rt} (hg : GoodT S P rts) : SmallP (ladderT S P rts) := by
  have ⟨hs0, hs1, hp1, hr0, hr1, _, _, _, _, _⟩ := hg
  have hr := ptR_len rts P
  refine ⟨?_, ?_, fun n hn => ?_, fun r hr e he => (rungs_in hg hr).small he⟩
  · show (namesT rts.length S P).length < _
    simp only [namesT, List.length_append, lnm_len]; omega
  · show (rungsT rts P).length < _
    simp only [rungsT, List.length_append, resR_len, setR_len]; omega
  · have hn' : n ∈ namesT rts.length S P := hn
    have key : ∃ k c i, n = nmP k c i ∧ i < 100 := by
      simp only [namesT, List.mem_append] at hn'
      rcases hn' with ((h | h) | h) | h <;> (obtain ⟨i, hi, rfl⟩ := lnm_mem h; exact ⟨_, _, i, rfl, by omega⟩)
    obtain ⟨k, c, i, rfl, hi⟩ := key
    have := nmT_len c hi
    show (nmT c i).length < _
    omega

/-! ### What is asked of names, of all tables -/
def numN (R S P : Nat) (s : Tx) : Int := numP ⟨namesT R S P, []⟩ s
def okN (R S P : Nat) : Bool :=
  (firstBad (badN ⟨namesT R S P, []⟩) (namesT R S P) 0).isNone
  && (((List.range R).all fun i => decide (0 ≤ numN R S P (nmT 97 i)))
  && (((List.range S).all fun i => decide (0 ≤ numN R S P (nmT 98 i)))
  && (((List.range R).all fun i => decide (0 ≤ numN R S P (nmT 108 i)) && decide (((namesT R S P).getD (numN R S P (nmT 108 i)).toNat ⟨[], 0, 0⟩).kind = 2))
  && ((List.range P).all fun i => decide (0 ≤ numN R S P (nmT 112 i)) && decide (((namesT R S P).getD (numN R S P (nmT 112 i)).toNat ⟨[], 0, 0⟩).kind = 2)))))
theorem okN_all : ∀ R < 4, ∀ S < 4, ∀ P < 3, okN R S P = true := by decide +kernel
theorem ladder_check {S P : Nat} {rts : List Rt} (hg : GoodT S P rts) : checkP (ladderT S P rts) = none := by
  have ⟨hs0, hs1, hp1, hr0, hr1, _, _, _, _, _⟩ := hg
  have hr := ptR_len rts P
  have hok := okN_all rts.length (by omega) S (by omega) P (by omega)
  simp only [okN, Bool.and_eq_true, Option.isNone_iff_eq_none, List.all_eq_true, List.mem_range, decide_eq_true_eq] at hok
  obtain ⟨h1, ha, hb, hl, hp⟩ := hok
  have hin : ∀ s, InN rts.length S P s → 0 ≤ numN rts.length S P s := fun s h => by
    cases h with
    | a i h => exact ha i h
    | b i h => exact hb i h
    | l i h => exact (hl i h).1
  have hrg : firstBad (fun _ r => badG (ladderT S P rts) r) (rungsT rts P) 0 = none := firstBad_ok fun k hk => by
    have hR := rungs_in hg (List.getElem_mem hk)
    generalize (rungsT rts P)[k] = r at hR
    obtain ⟨rk, rn, rc⟩ := r
    obtain ⟨h2, h3, l, hl0, _, hc, hm⟩ := hR
    dsimp only at h2 h3 hc
    have hnm : 0 ≤ numN rts.length S P rn ∧ ((namesT rts.length S P).getD (numN rts.length S P rn).toNat ⟨[], 0, 0⟩).kind = 2 := by
      rcases h3 with ⟨i, hi, rfl⟩ | ⟨i, hi, rfl⟩
      · exact hl i hi
      · exact hp i hi
    have hw : wantP rk = 2 := by rcases h2 with rfl | rfl <;> rfl
    have hk2 : (decide (rk < 1) || decide (rk > 6)) = false := by rcases h2 with rfl | rfl <;> rfl
    have fin : ∀ e, (∀ s ∈ nmsE true e, InN rts.length S P s) → badG (ladderT S P rts) ⟨rk, rn, some e⟩ = 0 := fun e he => by
      show (if decide (rk < 1) || decide (rk > 6) then (1 : Int) else if numN rts.length S P rn < 0 then 7 else if wantP rk ≠ ((namesT rts.length S P).getD (numN rts.length S P rn).toNat ⟨[], 0, 0⟩).kind then 1 else if (namesE true e).any fun s => decide (numN rts.length S P s < 0) then 7 else 0) = 0
      have hany : ((namesE true e).any fun s => decide (numN rts.length S P s < 0)) = false := by
        rw [List.any_eq_false]
        intro s hs
        have := hin s (he s (namesE_mem.1 hs))
        simp; omega
      rw [hk2, if_neg (by decide), if_neg (by omega), hw, hnm.2, if_neg (by simp), hany, if_neg (by decide)]
    rcases hc with rfl | rfl
    · refine fin _ fun s hs => ?_
      obtain ⟨e, he, hse⟩ := rl_andE hs
      rcases hm e he with ⟨c, i, rfl, h, _⟩ | ⟨c, i, rfl, h, _⟩
      · rw [rl_not hse]; exact h
      · rw [rl_bit hse]; exact h
    · refine fin _ fun s hs => ?_
      obtain ⟨e, he, hse⟩ := rl_orE hs
      rcases hm e he with ⟨c, i, rfl, h, _⟩ | ⟨c, i, rfl, h, _⟩
      · rw [rl_not hse]; exact h
      · rw [rl_bit hse]; exact h
  have hlen : ¬ ((ladderT S P rts).names.length > 12 ∨ (ladderT S P rts).rungs.length > 40) := by
    show ¬ ((namesT rts.length S P).length > 12 ∨ (rungsT rts P).length > 40)
    simp only [namesT, rungsT, List.length_append, lnm_len, resR_len, setR_len]; omega
  have h1' : firstBad (badN (ladderT S P rts)) (ladderT S P rts).names 0 = none := h1
  have hrg' : firstBad (fun _ r => badG (ladderT S P rts) r) (ladderT S P rts).rungs 0 = none := hrg
  unfold checkP
  rw [if_neg hlen, h1', hrg']
end Go.Proofs.YtnlhioeefmhklaaGreatDoor

/-
  RouteClash.
-/
namespace Go.Proofs.YtnlhioeefmhklaaGreatDoor
set_option linter.unusedSimpArgs false
set_option linter.unusedVariables false
open Go.Av

/-- What is known of a slice may be less. -/
theorem rl_weak {Mv X : Nat → Prop} {G : Glob} {N : Fr} (i : Nat) {x : D} (y : D) {e : Env} {H : Heap} (he : e i = some (.d x)) (hle : x.le y) : Imp Mv X G N ⟨e, H⟩ ⟨upd e i (.d y), H⟩ := fun w μ a hi => by
  refine ⟨μ, ⟨hi.sim, ⟨hi.env.defers, hi.env.size, fun j z hz => ?_⟩, hi.glob⟩, .refl _ w μ⟩
  simp only [upd] at hz
  split at hz
  · rename_i hj
    subst hj
    obtain rfl := Option.some.inj hz
    obtain ⟨u, hu, hrv⟩ := hi.env.slot j _ he
    exact ⟨u, hu, .d (hrv.data.le hle)⟩
  · exact hi.env.slot j z hz
def rtC : List Rt := [([0], []), ([0], [])]
theorem rtC_good : GoodT 1 0 rtC := by
  constructor <;> simp [rtC]
theorem rtC_check : checkT ⟨1, 0, rtC⟩ = none := by decide +kernel
theorem rtC_names : (ladderT 1 0 rtC).names.length = 5 := by decide +kernel
theorem rtC_rungs : (ladderT 1 0 rtC).rungs.length = 4 := by decide +kernel
set_option maxHeartbeats 4000000 in
theorem routed_spec (G : Glob) : PureC Tryz.prog G 7 [] (.v (.bool true)) := by
  have hl := rladder_good G 1 0 rtC rtC_good rtC_check (ladder_small rtC_good) (ladder_check rtC_good)
  have hc := clash_spec G ([0], []) ([0], []) (by simp [SmallR]) (by simp [SmallR])
  have hcf : clashF ([0], []) ([0], []) = true := by decide
  rw [hcf] at hc
  have h5 := rtC_names
  have h4 := rtC_rungs
  simp only [dPg, cPg, dNms, dRgs] at hl
  rw [← List.length_map (f := cNm)] at h5
  rw [← List.length_map (f := cRg)] at h4
  generalize (ladderT 1 0 rtC).names.map cNm = N at hl h5
  generalize (ladderT 1 0 rtC).rungs.map cRg = R at hl h4
  simp only [dTb, cTb, dRts, rtC, List.map_cons, List.map_nil, cRt, dRow, dInts, dPts] at hl
  simp only [dRt, cRt, dRow, dInts, dPts, List.map_cons, List.map_nil] at hc
  rw [show ((1 : Nat) : Int) = 1 from rfl, show ((0 : Nat) : Int) = 0 from rfl] at hl
  refine PureC.of_body (tyOf_good _) Tryz.func7 rfl rfl (rs := [.tmp 0]) Tryz.results7 (by simp [Tryz.ntmps7]) fun X => ?_
  simp only [Tryz.ntmps7, List.map]
  refine AW_rg (tyOf_good _) [] [] (fun _ _ => trivial) fun K' hK' => ?_
  repeat (refine sxf_next fun K2 hK2 => ?_; simp; (repeat (refine ⟨by omega, ?_⟩)); refine hK2 _ ?_; clear hK2 K2)
  refine sxf_nil (hK' _ ?_)
  refine AW.st (by simp; rfl) ?_
  clear hK' K'
  refine AW_rg (tyOf_good _) [1] [5, 1] (fun _ _ => trivial) fun K' hK' => ?_
  repeat (refine sxf_next fun K2 hK2 => ?_; simp; (repeat (refine ⟨by omega, ?_⟩)); refine hK2 _ ?_; clear hK2 K2)
  refine sxf_nil (hK' _ ?_)
  refine AW.st (by simp; rfl) ?_
  clear hK' K'
  refine AW.imp (Imp.freeze 5 trivial) ?_
  refine AW.st (by simp; rfl) ?_
  refine AW.imp (Imp.freezeB 1 trivial) ?_
  refine AW.st (by simp; rfl) ?_
  refine AW.imp (rl_weak 1 (.ip [.sl none [[.v (.int .i64 0)]], .sl none []]) rfl (by simp [D.le, D.le.go])) ?_
  refine AW.st (by simp [upd_lst]; rfl) ?_
  refine AW_rg (tyOf_good _) [1, 2] [9, 2] (fun _ _ => trivial) fun K' hK' => ?_
  repeat (refine sxf_next fun K2 hK2 => ?_; simp; (repeat (refine ⟨by omega, ?_⟩)); refine hK2 _ ?_; clear hK2 K2)
  refine sxf_nil (hK' _ ?_)
  refine AW.st (by simp; rfl) ?_
  clear hK' K'
  refine AW.imp (Imp.freeze 9 trivial) ?_
  refine AW.st (by simp; rfl) ?_
  refine AW.imp (Imp.freezeB 2 trivial) ?_
  refine AW.st (by simp; rfl) ?_
  refine AW_rg (tyOf_good _) [1, 3, 4] [3] (fun _ _ => trivial) fun K' hK' => ?_
  repeat (refine sxf_next fun K2 hK2 => ?_; simp; (repeat (refine ⟨by omega, ?_⟩)); refine hK2 _ ?_; clear hK2 K2)
  refine sxf_next fun K2 hK2 => ?_
  simp
  refine callK.data (hl) (by simp; rfl) (by first | exact D.leGo_refl _ | simp [takeMap, List.map_map, Function.comp_def, D.le, D.le.go, D.le_refl, D.leGo_refl]) ?_
  refine hK2 _ ?_
  clear hK2 K2
  simp only [putd, upd_lst]
  repeat (refine sxf_next fun K2 hK2 => ?_; simp; (repeat (refine ⟨by omega, ?_⟩)); refine hK2 _ ?_; clear hK2 K2)
  refine sxf_nil (hK' _ ?_)
  refine AW.st (by simp; rfl) ?_
  clear hK' K'
  refine AW.imp (Imp.freezeB 3 trivial) ?_
  refine AW.st (by simp; rfl) ?_
  refine AW_rg (tyOf_good _) [0] [] (fun _ _ => trivial) fun K' hK' => ?_
  repeat (refine sxf_next fun K2 hK2 => ?_; simp [h4, h5]; (repeat (refine ⟨by omega, ?_⟩)); refine hK2 _ ?_; clear hK2 K2)
  refine sxf_next fun K2 hK2 => ?_
  simp [h4, h5]
  refine callK.data (hc) (by simp; rfl) (by first | exact D.leGo_refl _ | simp [takeMap, List.map_map, Function.comp_def, D.le, D.le.go, D.le_refl, D.leGo_refl, h4, h5]) ?_
  refine hK2 _ ?_
  clear hK2 K2
  simp only [putd, upd_lst]
  repeat (refine sxf_next fun K2 hK2 => ?_; simp [h4, h5]; (repeat (refine ⟨by omega, ?_⟩)); refine hK2 _ ?_; clear hK2 K2)
  refine sxf_nil (hK' _ ?_)
  refine AW.st (by simp [h4, h5]; rfl) ?_
  clear hK' K'
  refine AW_ret ?_
  simp [D.le, D.le.go, takeMap]
set_option maxHeartbeats 8000000 in
theorem rclash_law (G : Glob) (a b : Rt) (ha : a.1.length ≤ reachBytes ∧ a.2.length ≤ reachBytes) (hb : b.1.length ≤ reachBytes ∧ b.2.length ≤ reachBytes) : PureC Tryz.prog G 3 [dRt a, dRt b] (.v (.bool true)) := by
  have hrb : reachBytes ≤ 2^47 := by decide
  replace ha := And.intro (Nat.le_trans ha.1 hrb) (Nat.le_trans ha.2 hrb)
  replace hb := And.intro (Nat.le_trans hb.1 hrb) (Nat.le_trans hb.2 hrb)
  have hr := routed_spec G
  have hab := clash_spec G a b ⟨by omega, by omega⟩ ⟨by omega, by omega⟩
  have hba := clash_spec G b a ⟨by omega, by omega⟩ ⟨by omega, by omega⟩
  rw [← clashF_comm a b] at hba
  have hsec : ∀ i k (hi : i < a.1.length) (hk : k < b.1.length), a.1[i] = b.1[k] → clashF a b = true := fun i k hi hk h => clashF_sec hi hk h
  generalize clashF a b = cf at hab hba hsec
  obtain ⟨az, ap⟩ := a
  obtain ⟨bz, bp⟩ := b
  dsimp only at ha hb hsec
  simp only [dRt, cRt, dRow, dInts, dPts] at hab hba ⊢
  refine PureC.of_body (tyOf_good _) Tryz.func3 rfl rfl (rs := [.tmp 4]) Tryz.results3 (by simp [Tryz.ntmps3]) fun X => ?_
  simp only [Tryz.ntmps3, List.map]
  refine AW_rg (tyOf_good _) [2, 3] [2, 3] (fun _ _ => trivial) fun K' hK' => ?_
  repeat (refine sxf_next fun K2 hK2 => ?_; simp; (repeat (refine ⟨by omega, ?_⟩)); refine hK2 _ ?_; clear hK2 K2)
  refine sxf_nil (hK' _ ?_)
  refine AW.st (by simp; rfl) ?_
  clear hK' K'
  refine AW.imp (Imp.freezeB 2 trivial) ?_
  refine AW.st (by simp; rfl) ?_
  refine AW.imp (Imp.freezeB 3 trivial) ?_
  refine AW.st (by simp; rfl) ?_
  refine AW_then fun K1 hK1 => ?_
  refine AW_rg (tyOf_good _) [2, 3, 27] [] (fun _ _ => trivial) fun K' hK' => ?_
  repeat (refine sxf_next fun K2 hK2 => ?_; simp; (repeat (refine ⟨by omega, ?_⟩)); refine hK2 _ ?_; clear hK2 K2)
  refine sxf_next fun K2 hK2 => ?_
  simp
  refine callK.data (hr) (by simp; rfl) (by first | exact D.leGo_refl _ | simp [takeMap, List.map_map, Function.comp_def, D.le, D.le.go, D.le_refl, D.leGo_refl]) ?_
  refine hK2 _ ?_
  clear hK2 K2
  simp only [putd, upd_lst]
  repeat (refine sxf_next fun K2 hK2 => ?_; simp; (repeat (refine ⟨by omega, ?_⟩)); refine hK2 _ ?_; clear hK2 K2)
  refine sxf_nil (hK' _ ?_)
  refine AW.st (by simp; rfl) ?_
  clear hK' K'
  refine AW_cond' (b := (60 : Int) < (az.length : Int) + bz.length + ap.length + bp.length) (by simp [D.le, D.le.go, takeMap]) (fun hc => ?_) (fun hc => ?_)
  · refine AW_rg (tyOf_good _) [4] [] (fun _ _ => trivial) fun K' hK' => ?_
    repeat (refine sxf_next fun K2 hK2 => ?_; simp; (repeat (refine ⟨by omega, ?_⟩)); refine hK2 _ ?_; clear hK2 K2)
    refine sxf_next fun K2 hK2 => ?_
    simp
    refine callK.data (hr) (by simp; rfl) (by first | exact D.leGo_refl _ | simp [takeMap, List.map_map, Function.comp_def, D.le, D.le.go, D.le_refl, D.leGo_refl]) ?_
    refine hK2 _ ?_
    clear hK2 K2
    simp only [putd, upd_lst]
    repeat (refine sxf_next fun K2 hK2 => ?_; simp; (repeat (refine ⟨by omega, ?_⟩)); refine hK2 _ ?_; clear hK2 K2)
    refine sxf_nil (hK' _ ?_)
    refine AW.st (by simp; rfl) ?_
    clear hK' K'
    refine AW_ret ?_
    simp [D.le, D.le.go, takeMap]
  · refine AW_skip (hK1 _ ?_)
    refine AW_rg (tyOf_good _) [2, 3, 5] [] (fun _ _ => trivial) fun K' hK' => ?_
    repeat (refine sxf_next fun K2 hK2 => ?_; simp; (repeat (refine ⟨by omega, ?_⟩)); refine hK2 _ ?_; clear hK2 K2)
    refine sxf_next fun K2 hK2 => ?_
    simp
    refine callK.data (hab) (by simp; rfl) (by first | exact D.leGo_refl _ | simp [takeMap, List.map_map, Function.comp_def, D.le, D.le.go, D.le_refl, D.leGo_refl]) ?_
    refine hK2 _ ?_
    clear hK2 K2
    simp only [putd, upd_lst]
    repeat (refine sxf_next fun K2 hK2 => ?_; simp; (repeat (refine ⟨by omega, ?_⟩)); refine hK2 _ ?_; clear hK2 K2)
    refine sxf_nil (hK' _ ?_)
    refine AW.st (by simp; rfl) ?_
    clear hK' K'
    refine AW_then fun K2 hK2 => ?_
    refine AW_rg (tyOf_good _) [2, 3, 5, 6] [] (fun _ _ => trivial) fun K' hK' => ?_
    repeat (refine sxf_next fun K2 hK2 => ?_; simp; (repeat (refine ⟨by omega, ?_⟩)); refine hK2 _ ?_; clear hK2 K2)
    refine sxf_nil (hK' _ ?_)
    refine AW.st (by simp; rfl) ?_
    clear hK' K'
    refine AW_for (S := Nat) (fun n => n ≤ az.length) (fun n => ⟨lst [(2, .d (.ip [.sl none (az.map fun x => [.v (.int .i64 x)]), .sl none (ap.map cPt)])), (3, .d (.ip [.sl none (bz.map fun x => [.v (.int .i64 x)]), .sl none (bp.map cPt)])), (5, .d (.v (.bool cf))), (6, int n)], hlst []⟩) (fun n => az.length - n) 0 ?_ (by simp) ?_
    · refine Imp.to' (fun _ _ => trivial) (by simp) (by simp)
    · intro n hn
      refine AW_then fun K3 hK3 => ?_
      refine AW_rg (tyOf_good _) [2, 3, 5, 6, 36] [] (fun _ _ => trivial) fun K' hK' => ?_
      repeat (refine sxf_next fun K2 hK2 => ?_; simp; (repeat (refine ⟨by omega, ?_⟩)); refine hK2 _ ?_; clear hK2 K2)
      refine sxf_nil (hK' _ ?_)
      refine AW.st (by simp; rfl) ?_
      clear hK' K'
      refine AW_cond' (b := n < az.length) (by simp [D.le, D.le.go, takeMap]) (fun hc => ?_) (fun hc => ?_)
      · have hnl := hc
        refine AW_skip (hK3 _ ?_)
        refine AW_then fun K4 hK4 => ?_
        refine AW_block ?_
        refine AW_rg (tyOf_good _) [2, 3, 5, 6, 7] [] (fun _ _ => trivial) fun K' hK' => ?_
        repeat (refine sxf_next fun K2 hK2 => ?_; simp; (repeat (refine ⟨by omega, ?_⟩)); refine hK2 _ ?_; clear hK2 K2)
        refine sxf_nil (hK' _ ?_)
        refine AW.st (by simp; rfl) ?_
        clear hK' K'
        refine AW_for (S := Nat) (fun k => k ≤ bz.length) (fun k => ⟨lst [(2, .d (.ip [.sl none (az.map fun x => [.v (.int .i64 x)]), .sl none (ap.map cPt)])), (3, .d (.ip [.sl none (bz.map fun x => [.v (.int .i64 x)]), .sl none (bp.map cPt)])), (5, .d (.v (.bool cf))), (6, int n), (7, int k)], hlst []⟩) (fun k => bz.length - k) 0 ?_ (by simp) ?_
        · refine Imp.to' (fun _ _ => trivial) (by simp) (by simp)
        · intro k hk
          refine AW_then fun K5 hK5 => ?_
          refine AW_rg (tyOf_good _) [2, 3, 5, 6, 7, 43] [] (fun _ _ => trivial) fun K' hK' => ?_
          repeat (refine sxf_next fun K2 hK2 => ?_; simp; (repeat (refine ⟨by omega, ?_⟩)); refine hK2 _ ?_; clear hK2 K2)
          refine sxf_nil (hK' _ ?_)
          refine AW.st (by simp; rfl) ?_
          clear hK' K'
          refine AW_cond' (b := k < bz.length) (by simp [D.le, D.le.go, takeMap]) (fun hc => ?_) (fun hc => ?_)
          · have hkl := hc
            have hs2 := hsec n k hnl hkl
            have hnl' : (n : Int) < (az.length : Int) := by omega
            have hkl' : (k : Int) < (bz.length : Int) := by omega
            refine AW_skip (hK5 _ ?_)
            refine AW_then fun K6 hK6 => ?_
            refine AW_block ?_
            by_cases he : az[n] = bz[k]
            · have hcf := hs2 he
              subst hcf
              refine AW_rd (tyOf_good _) (by kernel_rfl) [2, 3, 5, 6, 7, 60] [] (fun _ _ => trivial) (by kernel_rfl) fun K' hK' => ?_
              repeat (refine sxd_next fun K2 hK2 => ?_; simp [hnl, hkl, he]; (repeat (refine ⟨by omega, ?_⟩)); refine hK2 _ ?_; clear hK2 K2)
              refine sxd_nil (hK' _ ?_)
              refine AW.st (by simp [hnl, hkl, he]; rfl) ?_
              clear hK' K'
              refine AW_cond false rfl (fun h => by cases h) (fun _ => ?_)
              refine AW_skip (hK6 _ ?_)
              refine AW_re (tyOf_good _) fun K' hK' => ?_
              repeat (refine sxf_next fun K2 hK2 => ?_; simp; (repeat (refine ⟨by omega, ?_⟩)); refine hK2 _ ?_; clear hK2 K2)
              refine sxf_nil (hK' _ ?_)
              clear hK' K'
              try simp only [thn, inb]
              refine Again.mk (k + 1) (by omega) (by omega) ?_
              refine Imp.to' (fun _ _ => trivial) (by simp) (by simp)
            · refine AW_rd (tyOf_good _) (by kernel_rfl) [2, 3, 5, 6, 7, 60] [] (fun _ _ => trivial) (by kernel_rfl) fun K' hK' => ?_
              repeat (refine sxd_next fun K2 hK2 => ?_; simp [hnl, hkl, he]; (repeat (refine ⟨by omega, ?_⟩)); refine hK2 _ ?_; clear hK2 K2)
              refine sxd_nil (hK' _ ?_)
              refine AW.st (by simp [hnl, hkl, he]; rfl) ?_
              clear hK' K'
              refine AW_cond false rfl (fun h => by cases h) (fun _ => ?_)
              refine AW_skip (hK6 _ ?_)
              refine AW_re (tyOf_good _) fun K' hK' => ?_
              repeat (refine sxf_next fun K2 hK2 => ?_; simp; (repeat (refine ⟨by omega, ?_⟩)); refine hK2 _ ?_; clear hK2 K2)
              refine sxf_nil (hK' _ ?_)
              clear hK' K'
              try simp only [thn, inb]
              refine Again.mk (k + 1) (by omega) (by omega) ?_
              refine Imp.to' (fun _ _ => trivial) (by simp) (by simp)
          · refine AW_exit (hK4 _ ?_)
            refine AW_re (tyOf_good _) fun K' hK' => ?_
            repeat (refine sxf_next fun K2 hK2 => ?_; simp; (repeat (refine ⟨by omega, ?_⟩)); refine hK2 _ ?_; clear hK2 K2)
            refine sxf_nil (hK' _ ?_)
            clear hK' K'
            try simp only [thn, inb]
            refine Again.mk (n + 1) (by omega) (by omega) ?_
            refine Imp.to' (fun _ _ => trivial) (by simp) (by simp)
      · refine AW_exit (hK2 _ ?_)
        refine AW_rg (tyOf_good _) [4] [] (fun _ _ => trivial) fun K' hK' => ?_
        repeat (refine sxf_next fun K2 hK2 => ?_; simp; (repeat (refine ⟨by omega, ?_⟩)); refine hK2 _ ?_; clear hK2 K2)
        refine sxf_next fun K2 hK2 => ?_
        simp
        refine callK.data (hba) (by simp; rfl) (by first | exact D.leGo_refl _ | simp [takeMap, List.map_map, Function.comp_def, D.le, D.le.go, D.le_refl, D.leGo_refl]) ?_
        refine hK2 _ ?_
        clear hK2 K2
        simp only [putd, upd_lst]
        repeat (refine sxf_next fun K2 hK2 => ?_; simp; (repeat (refine ⟨by omega, ?_⟩)); refine hK2 _ ?_; clear hK2 K2)
        refine sxf_nil (hK' _ ?_)
        refine AW.st (by simp; rfl) ?_
        clear hK' K'
        refine AW_ret ?_
        simp [D.le, D.le.go, takeMap]
end Go.Proofs.YtnlhioeefmhklaaGreatDoor

/-
  Reading of routes and tables.
-/
namespace Go.Proofs.YtnlhioeefmhklaaGreatDoor
set_option linter.unusedSimpArgs false
set_option linter.unusedVariables false
open Go.Av Go.ChangeShapes Go.WideShapes Go.ChangeAt Go.RowKit

theorem cellsR_int : Tryz.prog.cellsOf 3 = 1 := by kernel_rfl
theorem cellsR_bool : Tryz.prog.cellsOf 4 = 1 := by kernel_rfl
theorem cellsR_ints : Tryz.prog.cellsOf 22 = 1 := by kernel_rfl
theorem cellsR_pt : Tryz.prog.cellsOf 92 = 2 := by kernel_rfl
theorem cellsR_pts : Tryz.prog.cellsOf 23 = 1 := by kernel_rfl
theorem cellsR_rt : Tryz.prog.cellsOf 25 = 2 := by kernel_rfl
section
variable {H : Type} {enc : TypeId × Value → H} {w : World} {base : Nat} {spare : Nat → Bool} {held : Bool} {X : Nat → Prop}

theorem readsR_int : ReadsAs enc Tryz.prog w base spare held X 3 (fun _ : Int => True) (fun n => [.v (.int .i64 n)]) := fun fuel cs x h =>
  let ⟨n, _, hr⟩ := reads_int Tryz.underlying3 fuel cs x h
  ⟨n, trivial, hr⟩
theorem readsR_bool : ReadsAs enc Tryz.prog w base spare held X 4 (fun _ : Bool => True) (fun b => [.v (.bool b)]) := fun fuel cs x h => by
  obtain ⟨b, rfl, _⟩ := DataW.trod_bool Tryz.underlying4 h
  exact ⟨b, trivial, .one (.v _)⟩
theorem readsR_pt : ReadsAs enc Tryz.prog w base spare held X 92 (fun _ : Int × Bool => True) cPt := fun fuel cs x h => by
  obtain ⟨s, _, hr⟩ := reads_struct2 Tryz.underlying92 (by rw [cellsR_pt]; simp only [cellsR_int, cellsR_bool]) rfl (by simp only [cellsR_int]) readsR_int readsR_bool fuel cs x h
  exact ⟨s, trivial, hr⟩
end
end Go.Proofs.YtnlhioeefmhklaaGreatDoor

/-
  Tables, as they are read.
-/
namespace Go.Proofs.YtnlhioeefmhklaaGreatDoor
set_option linter.unusedSimpArgs false
set_option linter.unusedVariables false
open Go.Av Go.ChangeShapes Go.WideShapes Go.ChangeAt Go.RowKit

theorem law_own : ownKnob Tryz.prog.godebug = none := by kernel_rfl
theorem law_laidOut : laidOutB Tryz.prog = true := by kernel_rfl
section
variable {H : Type} {enc : TypeId × Value → H} {w : World} {base : Nat} {spare : Nat → Bool} {held : Bool} {X : Nat → Prop}

end

end Go.Proofs.YtnlhioeefmhklaaGreatDoor
