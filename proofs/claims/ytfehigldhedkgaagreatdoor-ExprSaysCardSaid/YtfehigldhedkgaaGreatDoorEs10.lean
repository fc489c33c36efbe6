/-
  Texts that belong together, in one file: N1, F3, F5, F6, E3, G1, B1, F7, P2, F10, N2, B2, B4, B6.
-/
import Derived.Test.YtfehigldhedkgaaGreatDoorEs9
import Derived.Laws.Strings
/-
  Texts that may be names: the walks.
-/
namespace Go.Proofs.YtfehigldhedkgaaGreatDoor
set_option linter.unusedSimpArgs false
set_option linter.unusedVariables false
open Go.Av
open Go.RowKit Go.Shelf Go.Lib

def bs (l : List UInt8) : ByteArray := ⟨l.toArray⟩
def dS (l : List UInt8) : D := .v (.string (bs l))
theorem bs_list (l : List UInt8) : (bs l).toList = l := by rw [ByteArray.toList_eq]; rfl
theorem bs_data (l : List UInt8) : (bs l).data.toList = l := rfl
theorem bs_size (l : List UInt8) : (bs l).size = l.length := rfl
theorem bs_nil : (⟨#[]⟩ : ByteArray) = bs [] := rfl

theorem below_grew {w w' : World} (h : Below w.heap.size w w') : Grew w w' := ⟨h.size, h.os, h.tape, h.output, h.block⟩

theorem trim_spec (G : Glob) (l : List UInt8) (hl : l.length < 2^60) : PureC Tryz.prog G 86 [dS l, dS cutL] (dS (Lib.trimS l cutL)) := by
  refine PureC.of_calls (Fun.of Tryz.func86 rfl rfl) fun X w vs hsz hrd hgl => ?_
  obtain ⟨a, b, rfl⟩ : ∃ a b, vs = #[a, b] := by
    match vs, hsz with
    | ⟨[a, b]⟩, _ => exact ⟨a, b, rfl⟩
  have ha := (hrd 0 a _ rfl rfl).scalar
  have hb := (hrd 1 b _ rfl rfl).scalar
  subst ha hb
  have hcon := Any.strings_Trim_laid Tryz.lays160 (by kernel_rfl) (bs l) (bs cutL) w (by rw [bs_size]; omega) (by decide) (ascii_of_all (by decide))
  change Calls Tryz.prog 86 _ _ (fun e w' => e = .returned (.string (bs (Lib.trimS l cutL))) ∧ Below w.heap.size w w') at hcon
  exact hcon.mono fun e w' ⟨he, hB⟩ => ⟨_, he, below_grew hB, .v _⟩

set_option maxHeartbeats 1000000 in
theorem index_spec (G : Glob) (k : Option Bool) (ws : List (List UInt8)) (s : List UInt8) (hl : ws.length < 2^60) : PureC Tryz.prog G 95 [.sl k (ws.map fun x => [dS x]), dS s] (.v (.int .i64 (idx (fun x => s == x) ws))) := by
  refine PureC.of_body (tyOf_good _) Tryz.func95 rfl rfl (rs := [.tmp 4]) Tryz.results95 (by simp [Tryz.ntmps95]) fun X => ?_
  simp only [Tryz.ntmps95, List.map]
  refine AW_rg (tyOf_good _) [0, 1] [] (fun _ _ => trivial) fun K' hK' => ?_
  repeat (refine sxf_next fun K2 hK2 => ?_; simp; (repeat (refine ⟨by omega, ?_⟩)); refine hK2 _ ?_; clear hK2 K2)
  refine sxf_nil (hK' _ ?_)
  refine AW.st (by simp; rfl) ?_
  clear hK' K'
  refine AW_then fun K1 hK1 => ?_
  refine AW_rg (tyOf_good _) [0, 1, 7, 8] [] (fun _ _ => trivial) fun K' hK' => ?_
  repeat (refine sxf_next fun K2 hK2 => ?_; simp; (repeat (refine ⟨by omega, ?_⟩)); refine hK2 _ ?_; clear hK2 K2)
  refine sxf_nil (hK' _ ?_)
  refine AW.st (by simp; rfl) ?_
  clear hK' K'
  refine AW_for (S := Nat) (fun n => n ≤ ws.length ∧ ∀ i (hi : i < ws.length), i < n → (s == ws[i]) = false) (fun n => ⟨lst [(0, .d (.sl k (ws.map fun x => [dS x]))), (1, .d (dS s)), (7, int ws.length), (8, int n)], hlst []⟩) (fun n => ws.length - n) 0 ?_ (by simp) ?_
  · refine Imp.to' (fun _ _ => trivial) (by simp) (by simp)
  · rintro n ⟨hn, hp⟩
    refine AW_rg (tyOf_good _) [0, 1, 7, 8, 9] [] (fun _ _ => trivial) fun K' hK' => ?_
    repeat (refine sxf_next fun K2 hK2 => ?_; simp; (repeat (refine ⟨by omega, ?_⟩)); refine hK2 _ ?_; clear hK2 K2)
    refine sxf_nil (hK' _ ?_)
    refine AW.st (by simp; rfl) ?_
    clear hK' K'
    refine AW_then fun K2 hK2 => ?_
    refine AW_cond' (b := n < ws.length) (by simp [D.le, D.le.go, takeMap]) (fun hc => ?_) (fun hc => ?_)
    · refine AW_skip (hK2 _ ?_)
      refine AW_then fun K3 hK3 => ?_
      refine AW_block ?_
      refine AW_rg (tyOf_good _) [0, 1, 5, 7, 8] [] (fun _ _ => trivial) fun K' hK' => ?_
      repeat (refine sxf_next fun K2 hK2 => ?_; simp; (repeat (refine ⟨by omega, ?_⟩)); refine hK2 _ ?_; clear hK2 K2)
      refine sxf_nil (hK' _ ?_)
      refine AW.st (by simp; rfl) ?_
      clear hK' K'
      by_cases he : s = ws[n]
      · refine AW_rg (tyOf_good _) [0, 1, 5, 7, 8, 16] [] (fun _ _ => trivial) fun K' hK' => ?_
        repeat (refine sxf_next fun K2 hK2 => ?_; simp [hc, dS, bs_list, he, binS]; (repeat (refine ⟨by omega, ?_⟩)); refine hK2 _ ?_; clear hK2 K2)
        refine sxf_nil (hK' _ ?_)
        refine AW.st (by simp [hc, dS, bs_list, he, binS]; rfl) ?_
        clear hK' K'
        refine AW_cond true rfl (fun _ => ?_) (fun h => by cases h)
        refine AW_rg (tyOf_good _) [4] [] (fun _ _ => trivial) fun K' hK' => ?_
        repeat (refine sxf_next fun K2 hK2 => ?_; simp; (repeat (refine ⟨by omega, ?_⟩)); refine hK2 _ ?_; clear hK2 K2)
        refine sxf_nil (hK' _ ?_)
        refine AW.st (by simp; rfl) ?_
        clear hK' K'
        refine AW_ret ?_
        simp [D.le, D.le.go, takeMap]
        exact (idx_hit (p := fun x => s == x) hc (by simp [he]) fun i hi => hp i (by omega) hi).symm
      · have he' : (s == ws[n]) = false := by simpa using he
        refine AW_rg (tyOf_good _) [0, 1, 5, 7, 8, 16] [] (fun _ _ => trivial) fun K' hK' => ?_
        repeat (refine sxf_next fun K2 hK2 => ?_; simp [hc, dS, bs_list, he, he', binS]; (repeat (refine ⟨by omega, ?_⟩)); refine hK2 _ ?_; clear hK2 K2)
        refine sxf_nil (hK' _ ?_)
        refine AW.st (by simp [hc, dS, bs_list, he, he', binS]; rfl) ?_
        clear hK' K'
        refine AW_cond false rfl (fun h => by cases h) (fun _ => ?_)
        refine AW_skip (hK3 _ ?_)
        refine AW_re (tyOf_good _) fun K' hK' => ?_
        repeat (refine sxf_next fun K2 hK2 => ?_; simp; (repeat (refine ⟨by omega, ?_⟩)); refine hK2 _ ?_; clear hK2 K2)
        refine sxf_nil (hK' _ ?_)
        clear hK' K'
        try simp only [thn, inb]
        refine Again.mk (n + 1) ⟨by omega, fun i hi hin => ?_⟩ (by omega) ?_
        · by_cases h : i = n
          · subst h; simpa using he
          · exact hp i hi (by omega)
        refine Imp.to' (fun _ _ => trivial) (by simp [dS]) (by simp [dS])
    · refine AW_exit (hK1 _ ?_)
      refine AW_rg (tyOf_good _) [4] [] (fun _ _ => trivial) fun K' hK' => ?_
      repeat (refine sxf_next fun K2 hK2 => ?_; simp; (repeat (refine ⟨by omega, ?_⟩)); refine hK2 _ ?_; clear hK2 K2)
      refine sxf_nil (hK' _ ?_)
      refine AW.st (by simp; rfl) ?_
      clear hK' K'
      refine AW_ret ?_
      simp [D.le, D.le.go, takeMap]
      exact (idx_miss (p := fun x => s == x) fun i hi => hp i hi (by omega)).symm

theorem contains_spec (G : Glob) (k : Option Bool) (ws : List (List UInt8)) (s : List UInt8) (hl : ws.length < 2^60) : PureC Tryz.prog G 87 [.sl k (ws.map fun x => [dS x]), dS s] (.v (.bool (ws.any fun x => s == x))) := by
  refine PureC.of_body (tyOf_good _) Tryz.func87 rfl rfl (rs := [.tmp 4]) Tryz.results87 (by simp [Tryz.ntmps87]) fun X => ?_
  simp only [Tryz.ntmps87, List.map]
  refine AW_rg (tyOf_good _) [0, 1] [] (fun _ _ => trivial) fun K' hK' => ?_
  repeat (refine sxf_next fun K2 hK2 => ?_; simp; (repeat (refine ⟨by omega, ?_⟩)); refine hK2 _ ?_; clear hK2 K2)
  refine sxf_nil (hK' _ ?_)
  refine AW.st (by simp; rfl) ?_
  clear hK' K'
  refine AW_rg (tyOf_good _) [4] [] (fun _ _ => trivial) fun K' hK' => ?_
  repeat (refine sxf_next fun K2 hK2 => ?_; simp; (repeat (refine ⟨by omega, ?_⟩)); refine hK2 _ ?_; clear hK2 K2)
  refine sxf_next fun K2 hK2 => ?_
  simp
  refine callK.data (index_spec G k ws s hl) (by simp; rfl) (by first | exact D.leGo_refl _ | simp [takeMap, List.map_map, Function.comp_def, D.le, D.le.go, D.le_refl, D.leGo_refl]) ?_
  refine hK2 _ ?_
  clear hK2 K2
  simp only [putd, upd_lst]
  repeat (refine sxf_next fun K2 hK2 => ?_; simp; (repeat (refine ⟨by omega, ?_⟩)); refine hK2 _ ?_; clear hK2 K2)
  refine sxf_nil (hK' _ ?_)
  refine AW.st (by simp; rfl) ?_
  clear hK' K'
  refine AW_ret ?_
  simp [D.le, D.le.go, takeMap]
  exact idx_any (fun x => s == x) ws

set_option maxHeartbeats 4000000 in
theorem name_spec (G : Glob) (l : List UInt8) (hl : l.length < 2^60) : PureC Tryz.prog G 81 [dS l] (.v (.bool (nameF l))) := by
  have htrim := trim_spec G l hl
  have hcont := contains_spec G none wordsL l (by decide)
  refine PureC.of_body (tyOf_good _) Tryz.func81 rfl rfl (rs := [.tmp 2]) Tryz.results81 (by simp [Tryz.ntmps81]) fun X => ?_
  simp only [Tryz.ntmps81, List.map]
  refine AW_rg (tyOf_good _) [0] [] (fun _ _ => trivial) fun K' hK' => ?_
  repeat (refine sxf_next fun K2 hK2 => ?_; simp [dS]; (repeat (refine ⟨by omega, ?_⟩)); refine hK2 _ ?_; clear hK2 K2)
  refine sxf_nil (hK' _ ?_)
  refine AW.st (by simp [dS]; rfl) ?_
  clear hK' K'
  by_cases h1 : l = []
  · subst h1
    refine AW_rg (tyOf_good _) [2] [] (fun _ _ => trivial) fun K' hK' => ?_
    repeat (refine sxf_next fun K2 hK2 => ?_; simp [bs_nil, bs_list, binS]; (repeat (refine ⟨by omega, ?_⟩)); refine hK2 _ ?_; clear hK2 K2)
    refine sxf_nil (hK' _ ?_)
    refine AW.st (by simp [bs_nil, bs_list, binS]; rfl) ?_
    clear hK' K'
    refine AW_ret ?_
    simp [D.le, D.le.go, takeMap]
    simp [nameF]
  obtain ⟨a, l', hal⟩ : ∃ a l', l = a :: l' := by
    cases l with
    | nil => exact absurd rfl h1
    | cons a l' => exact ⟨a, l', rfl⟩
  have e0 : l[0]? = some a := by rw [hal]; rfl
  have e1 : l.head? = some a := by rw [hal]; rfl
  have h0 : 0 < l.length := by rw [hal]; simp
  have hg : l.getD 0 0 = a := by rw [hal]; rfl
  have hga : l[0] = a := by apply Option.some.inj; rw [← e0]; exact (List.getElem?_eq_getElem h0).symm
  by_cases h2 : (l.length : Int) ≤ 8
  · have h2' : l.length ≤ 8 := by omega
    by_cases h3 : (97 : Int) ≤ (a.toNat : Int)
    · have h3' : 97 ≤ a.toNat := by omega
      by_cases h4 : (a.toNat : Int) ≤ 122
      · have h4' : a.toNat ≤ 122 := by omega
        by_cases h5 : Lib.trimS l cutL = []
        · rw [h5] at htrim
          refine AW_rg (tyOf_good _) [2] [26] (fun _ _ => trivial) fun K' hK' => ?_
          repeat (refine sxf_next fun K2 hK2 => ?_; simp [bs_nil, bs_list, bs_size, bs_data, binS, e0, e1, h0, hga, h1, h2, h2', h3, h4, dS]; (repeat (refine ⟨by omega, ?_⟩)); refine hK2 _ ?_; clear hK2 K2)
          refine sxf_next fun K2 hK2 => ?_
          simp [bs_nil, bs_list, bs_size, bs_data, binS, e0, e1, h0, hga, h1, h2, h2', h3, h4, dS]
          refine callK.data (htrim) (by simp; rfl) (by first | exact D.leGo_refl _ | simp [takeMap, List.map_map, Function.comp_def, D.le, D.le.go, D.le_refl, D.leGo_refl, bs_nil, bs_list, bs_size, bs_data, binS, e0, e1, h0, hga, h1, h2, h2', h3, h4, dS]) ?_
          refine hK2 _ ?_
          clear hK2 K2
          simp only [putd, upd_lst]
          repeat (refine sxf_next fun K2 hK2 => ?_; simp [bs_nil, bs_list, bs_size, bs_data, binS, e0, e1, h0, hga, h1, h2, h2', h3, h4, dS]; (repeat (refine ⟨by omega, ?_⟩)); refine hK2 _ ?_; clear hK2 K2)
          refine sxf_next fun K2 hK2 => ?_
          simp [bs_nil, bs_list, bs_size, bs_data, binS, e0, e1, h0, hga, h1, h2, h2', h3, h4, dS]
          refine callK.lend (hcont) (by simp; rfl) (by first | exact D.leGo_refl _ | simp [takeMap, List.map_map, Function.comp_def, D.le, D.le.go, D.le_refl, D.leGo_refl, bs_nil, bs_list, bs_size, bs_data, binS, e0, e1, h0, hga, h1, h2, h2', h3, h4, dS]) (by simp [D.scalar]) ?_
          refine hK2 _ ?_
          clear hK2 K2
          simp only [putd, upd_lst]
          repeat (refine sxf_next fun K2 hK2 => ?_; simp [bs_nil, bs_list, bs_size, bs_data, binS, e0, e1, h0, hga, h1, h2, h2', h3, h4, dS]; (repeat (refine ⟨by omega, ?_⟩)); refine hK2 _ ?_; clear hK2 K2)
          refine sxf_nil (hK' _ ?_)
          refine AW.st (by simp [bs_nil, bs_list, bs_size, bs_data, binS, e0, e1, h0, hga, h1, h2, h2', h3, h4, dS]; rfl) ?_
          clear hK' K'
          refine AW_ret ?_
          simp [D.le, D.le.go, takeMap]
          simp [nameF, h1, h2', hg, e0, h3', h4', h5]
        · have h5' : ¬ (Lib.trimS l cutL == []) = true := by simpa using h5
          refine AW_rg (tyOf_good _) [2] [] (fun _ _ => trivial) fun K' hK' => ?_
          repeat (refine sxf_next fun K2 hK2 => ?_; simp [bs_nil, bs_list, bs_size, bs_data, binS, e0, e1, h0, hga, h1, h2, h2', h3, h4, h5, dS]; (repeat (refine ⟨by omega, ?_⟩)); refine hK2 _ ?_; clear hK2 K2)
          refine sxf_next fun K2 hK2 => ?_
          simp [bs_nil, bs_list, bs_size, bs_data, binS, e0, e1, h0, hga, h1, h2, h2', h3, h4, h5, dS]
          refine callK.data (htrim) (by simp; rfl) (by first | exact D.leGo_refl _ | simp [takeMap, List.map_map, Function.comp_def, D.le, D.le.go, D.le_refl, D.leGo_refl, bs_nil, bs_list, bs_size, bs_data, binS, e0, e1, h0, hga, h1, h2, h2', h3, h4, h5, dS]) ?_
          refine hK2 _ ?_
          clear hK2 K2
          simp only [putd, upd_lst]
          repeat (refine sxf_next fun K2 hK2 => ?_; simp [bs_nil, bs_list, bs_size, bs_data, binS, e0, e1, h0, hga, h1, h2, h2', h3, h4, h5, dS]; (repeat (refine ⟨by omega, ?_⟩)); refine hK2 _ ?_; clear hK2 K2)
          refine sxf_nil (hK' _ ?_)
          refine AW.st (by simp [bs_nil, bs_list, bs_size, bs_data, binS, e0, e1, h0, hga, h1, h2, h2', h3, h4, h5, dS]; rfl) ?_
          clear hK' K'
          refine AW_ret ?_
          simp [D.le, D.le.go, takeMap]
          simp [nameF, h1, h2', hg, e0, h3', h4', h5]
      · have h4' : ¬ a.toNat ≤ 122 := by omega
        refine AW_rg (tyOf_good _) [2] [] (fun _ _ => trivial) fun K' hK' => ?_
        repeat (refine sxf_next fun K2 hK2 => ?_; simp [bs_nil, bs_list, bs_size, bs_data, binS, e0, e1, h0, hga, h1, h2, h2', h3, h4]; (repeat (refine ⟨by omega, ?_⟩)); refine hK2 _ ?_; clear hK2 K2)
        refine sxf_nil (hK' _ ?_)
        refine AW.st (by simp [bs_nil, bs_list, bs_size, bs_data, binS, e0, e1, h0, hga, h1, h2, h2', h3, h4]; rfl) ?_
        clear hK' K'
        refine AW_ret ?_
        simp [D.le, D.le.go, takeMap]
        simp [nameF, h1, h2', hg, e0, h3', h4']
    · have h3' : ¬ 97 ≤ a.toNat := by omega
      refine AW_rg (tyOf_good _) [2] [] (fun _ _ => trivial) fun K' hK' => ?_
      repeat (refine sxf_next fun K2 hK2 => ?_; simp [bs_nil, bs_list, bs_size, bs_data, binS, e0, e1, h0, hga, h1, h2, h2', h3]; (repeat (refine ⟨by omega, ?_⟩)); refine hK2 _ ?_; clear hK2 K2)
      refine sxf_nil (hK' _ ?_)
      refine AW.st (by simp [bs_nil, bs_list, bs_size, bs_data, binS, e0, e1, h0, hga, h1, h2, h2', h3]; rfl) ?_
      clear hK' K'
      refine AW_ret ?_
      simp [D.le, D.le.go, takeMap]
      simp [nameF, h1, h2', hg, e0, h3']
  · have h2' : ¬ l.length ≤ 8 := by omega
    refine AW_rg (tyOf_good _) [2] [] (fun _ _ => trivial) fun K' hK' => ?_
    repeat (refine sxf_next fun K2 hK2 => ?_; simp [bs_nil, bs_list, bs_size, bs_data, binS, e0, e1, h0, hga, h1, h2, h2']; (repeat (refine ⟨by omega, ?_⟩)); refine hK2 _ ?_; clear hK2 K2)
    refine sxf_nil (hK' _ ?_)
    refine AW.st (by simp [bs_nil, bs_list, bs_size, bs_data, binS, e0, e1, h0, hga, h1, h2, h2']; rfl) ?_
    clear hK' K'
    refine AW_ret ?_
    simp [D.le, D.le.go, takeMap]
    simp [nameF, h1, h2']
end Go.Proofs.YtfehigldhedkgaaGreatDoor

/-
  The closures; slices that are copied; lists that are numbered as they come.
-/
namespace Go.Proofs.YtfehigldhedkgaaGreatDoor
set_option linter.unusedSimpArgs false
set_option linter.unusedVariables false
open Go.Av

def dNum (n : Int) : D := .v (.int .i64 n)
end Go.Proofs.YtfehigldhedkgaaGreatDoor

/-
  Tables: few states; which tables may be.
-/
namespace Go.Proofs.YtfehigldhedkgaaGreatDoor
set_option linter.unusedSimpArgs false
set_option linter.unusedVariables false
open Go.Av

structure Tab where
  next : List (List Int)
  tells : List (List Int)

end Go.Proofs.YtfehigldhedkgaaGreatDoor

/-
  Which tables may be.
-/
namespace Go.Proofs.YtfehigldhedkgaaGreatDoor
set_option linter.unusedSimpArgs false
set_option linter.unusedVariables false
open Go.Av

/-- Whether an error is told, which one, and where. -/
def dErr : Option (Int × Option Nat) → D
  | none => .v .nilIface
  | some (c, none) => .ifc 38 (.v (.int .i64 c))
  | some (c, some s) => .ifc 88 (.ip [.v (.int .i64 c), .v (.int .i64 s)])

end Go.Proofs.YtfehigldhedkgaaGreatDoor

/-
  What api.Tell and plain.Place tell of an error.
-/
namespace Go.Proofs.YtfehigldhedkgaaGreatDoor
set_option linter.unusedSimpArgs false
set_option linter.unusedVariables false
open Go.RowKit Go.Extern.Stop Go.Stop Go.Extern
open Go.Av

/-- The code in an error, its place. -/
def codeF : Option (Int × Option Nat) → Int
  | none => 0
  | some (c, _) => c
def placeF : Option (Int × Option Nat) → Int
  | some (_, some s) => s
  | _ => -1

end Go.Proofs.YtfehigldhedkgaaGreatDoor

/-
  What the statements hold answers with: like lists, errors and their places.
-/
namespace Go.Proofs.YtfehigldhedkgaaGreatDoor
set_option linter.unusedSimpArgs false
set_option linter.unusedVariables false
open Go.Av

def dFault (e : Option (Int × Option Nat)) : D := .agg [dNum (codeF e), dNum (placeF e)]
def HasFine (G : Glob) : Prop := G 0 = some (.ip [dNum 0, dNum (-1)])

theorem bare0_spec (G : Glob) (c : Int) : PureC Tryz.prog G 28 [dNum c] (.agg [dNum c, dNum (-1)]) := by
  refine PureC.of_body (tyOf_good _) Tryz.func28 rfl rfl (rs := [.cell 2 40]) Tryz.results28 (by simp [Tryz.ntmps28]) fun X => ?_
  simp only [Tryz.ntmps28, List.map]
  refine AW_rg (tyOf_good _) [0, 2] [2] (fun _ _ => trivial) fun K' hK' => ?_
  repeat (refine sxf_next fun K2 hK2 => ?_; simp [dNum]; (repeat (refine ⟨by omega, ?_⟩)); refine hK2 _ ?_; clear hK2 K2)
  refine sxf_nil (hK' _ ?_)
  refine AW.st (by simp [dNum]; rfl) ?_
  clear hK' K'
  refine AW_rg (tyOf_good _) [2] [2] (fun _ _ => trivial) fun K' hK' => ?_
  repeat (refine sxf_next fun K2 hK2 => ?_; simp [dNum]; (repeat (refine ⟨by omega, ?_⟩)); refine hK2 _ ?_; clear hK2 K2)
  refine sxf_nil (hK' _ ?_)
  refine AW.st (by simp [dNum]; rfl) ?_
  clear hK' K'
  refine AW_ret ?_
  simp [D.le, D.le.go, takeMap, dNum]

end Go.Proofs.YtfehigldhedkgaaGreatDoor

/-
  Formulas: which may be.
-/
namespace Go.Proofs.YtfehigldhedkgaaGreatDoor
set_option linter.unusedSimpArgs false
set_option linter.unusedVariables false
open Go.Av

/-- A formula, as the program's pointers make it; nil: none. -/
inductive Fm where
  | nil
  | mk (kind : Int) (name : List UInt8) (of : List Fm)

def ofK {α : Type} (l : List α) : Option Bool := match l with
  | [] => some false
  | _ => none

mutual
def dF : Fm → D
  | .nil => .v (.pointer none)
  | .mk k s l => .ip [dNum k, dS s, .sl (ofK l) (dFs l)]
def dFs : List Fm → List (List D)
  | [] => []
  | f :: l => [dF f] :: dFs l
end

end Go.Proofs.YtfehigldhedkgaaGreatDoor

/-
  The rounds of blocks.
-/
namespace Go.Proofs.YtfehigldhedkgaaGreatDoor
set_option linter.unusedSimpArgs false
set_option linter.unusedVariables false
open Go.Av

def Tab.n (t : Tab) : Nat := t.next.length
end Go.Proofs.YtfehigldhedkgaaGreatDoor

/-
  Plain facts of tables: the rounds come to an end; which states are alike.
-/
namespace Go.Proofs.YtfehigldhedkgaaGreatDoor
set_option linter.unusedSimpArgs false
set_option linter.unusedVariables false

def nx (t : Tab) (s c : Nat) : Nat := ((t.next.getD s []).getD c 0).toNat
def te (t : Tab) (s c : Nat) : Int := (t.tells.getD s []).getD c 0
end Go.Proofs.YtfehigldhedkgaaGreatDoor

/-
  The table of blocks.
-/
namespace Go.Proofs.YtfehigldhedkgaaGreatDoor
set_option linter.unusedSimpArgs false
set_option linter.unusedVariables false
open Go.Av

def pre (l row : List Int) (i : Nat) : List Int := (row.take i).map fun x => l.getD x.toNat 0
end Go.Proofs.YtfehigldhedkgaaGreatDoor

/-
  Texts that may be names: the document's check; the law's walk.
-/
namespace Go.Proofs.YtfehigldhedkgaaGreatDoor
set_option linter.unusedSimpArgs false
set_option linter.unusedVariables false
open Go.Av

theorem okAll_succ {l : List UInt8} {i : Nat} (h : okAll l i = true) (hi : i < l.length) (hc : okC i l[i] = true) : okAll l (i + 1) = true := by
  unfold okAll at h ⊢
  rw [List.range_succ, List.all_append, h]
  simp only [List.all_cons, List.all_nil, Bool.and_true, Bool.true_and]
  rw [List.getD_eq_getElem?_getD, List.getElem?_eq_getElem hi]
  exact hc
theorem okAll_fail {l : List UInt8} {i : Nat} (hi : i < l.length) (hc : okC i l[i] = false) : checkNF l = false := by
  have : okAll l l.length = false := by
    unfold okAll
    rw [List.all_eq_false]
    refine ⟨i, List.mem_range.2 hi, ?_⟩
    rw [List.getD_eq_getElem?_getD, List.getElem?_eq_getElem hi]
    simp [hc]
  unfold checkNF
  rw [this]
  rfl
theorem word_fail {l : List UInt8} (h : (([] :: wordsL).any fun x => l == x) = true) : checkNF l = false := by
  unfold checkNF
  rw [h]
  simp
theorem word_pass {l : List UInt8} (h : okAll l l.length = true) (hw : (([] :: wordsL).any fun x => l == x) = false) : decide ((l.length : Int) ≤ 8) = checkNF l := by
  unfold checkNF
  rw [h, hw]
  simp only [Bool.not_false, Bool.true_and]
  by_cases h8 : l.length ≤ 8
  · simp [h8]; omega
  · simp [h8]; omega
theorem toW (l : List UInt8) : (⟨l.toArray⟩ : ByteArray) = bs l := rfl

set_option maxHeartbeats 8000000 in
theorem ncheck_spec (G : Glob) (l : List UInt8) (hl : l.length < 2^60) : PureC Tryz.prog G 67 [dS l] (.v (.bool (checkNF l))) := by
  refine PureC.of_body (tyOf_good _) Tryz.func67 rfl rfl (rs := [.tmp 2]) Tryz.results67 (by simp [Tryz.ntmps67]) fun X => ?_
  simp only [Tryz.ntmps67, List.map]
  refine AW_rg (tyOf_good _) [0] [] (fun _ _ => trivial) fun K' hK' => ?_
  repeat (refine sxf_next fun K2 hK2 => ?_; simp [dS]; (repeat (refine ⟨by omega, ?_⟩)); refine hK2 _ ?_; clear hK2 K2)
  refine sxf_nil (hK' _ ?_)
  refine AW.st (by simp [dS]; rfl) ?_
  clear hK' K'
  refine AW_then fun K1 hK1 => ?_
  refine AW_rg (tyOf_good _) [0, 7, 8] [] (fun _ _ => trivial) fun K' hK' => ?_
  repeat (refine sxf_next fun K2 hK2 => ?_; simp [bs_size]; (repeat (refine ⟨by omega, ?_⟩)); refine hK2 _ ?_; clear hK2 K2)
  refine sxf_nil (hK' _ ?_)
  refine AW.st (by simp [bs_size]; rfl) ?_
  clear hK' K'
  refine AW_for (S := Nat) (fun i => i ≤ l.length ∧ okAll l i = true) (fun i => ⟨lst [(0, .d (dS l)), (7, int l.length), (8, int i)], hlst []⟩) (fun i => l.length - i) 0 ?_ (by simp [okAll]) ?_
  · refine Imp.to' (fun _ _ => trivial) (by simp [dS]) (by simp [dS])
  · rintro i ⟨hi0, hok⟩
    refine AW_rg (tyOf_good _) [0, 7, 8, 9] [] (fun _ _ => trivial) fun K' hK' => ?_
    repeat (refine sxf_next fun K2 hK2 => ?_; simp [dS]; (repeat (refine ⟨by omega, ?_⟩)); refine hK2 _ ?_; clear hK2 K2)
    refine sxf_nil (hK' _ ?_)
    refine AW.st (by simp [dS]; rfl) ?_
    clear hK' K'
    refine AW_then fun K2 hK2 => ?_
    refine AW_cond' (b := i < l.length) (by simp [D.le, D.le.go, takeMap]) (fun hc => ?_) (fun hc => ?_)
    · have hi : i < l.length := hc
      refine AW_skip (hK2 _ ?_)
      refine AW_then fun K3 hK3 => ?_
      refine AW_block ?_
      refine AW_rg (tyOf_good _) [0, 3, 7, 8] [] (fun _ _ => trivial) fun K' hK' => ?_
      repeat (refine sxf_next fun K2 hK2 => ?_; simp; (repeat (refine ⟨by omega, ?_⟩)); refine hK2 _ ?_; clear hK2 K2)
      refine sxf_nil (hK' _ ?_)
      refine AW.st (by simp; rfl) ?_
      clear hK' K'
      refine AW_rg (tyOf_good _) [0, 3, 4, 7, 8] [] (fun _ _ => trivial) fun K' hK' => ?_
      repeat (refine sxf_next fun K2 hK2 => ?_; simp [bs_size, bs_data, hi]; (repeat (refine ⟨by omega, ?_⟩)); refine hK2 _ ?_; clear hK2 K2)
      refine sxf_nil (hK' _ ?_)
      refine AW.st (by simp [bs_size, bs_data, hi]; rfl) ?_
      clear hK' K'
      by_cases ha : (97 : Int) ≤ (l[i].toNat : Int)
      · by_cases hb : (l[i].toNat : Int) ≤ 122
        · refine AW_rg (tyOf_good _) [0, 3, 4, 5, 7, 8] [] (fun _ _ => trivial) fun K' hK' => ?_
          repeat (refine sxf_next fun K2 hK2 => ?_; simp [ha, hb]; (repeat (refine ⟨by omega, ?_⟩)); refine hK2 _ ?_; clear hK2 K2)
          refine sxf_nil (hK' _ ?_)
          refine AW.st (by simp [ha, hb]; rfl) ?_
          clear hK' K'
          refine AW_rg (tyOf_good _) [0, 7, 8, 38] [] (fun _ _ => trivial) fun K' hK' => ?_
          repeat (refine sxf_next fun K2 hK2 => ?_; simp [ha, hb]; (repeat (refine ⟨by omega, ?_⟩)); refine hK2 _ ?_; clear hK2 K2)
          refine sxf_nil (hK' _ ?_)
          refine AW.st (by simp [ha, hb]; rfl) ?_
          clear hK' K'
          refine AW_cond false rfl (fun h => by cases h) (fun _ => ?_)
          refine AW_skip (hK3 _ ?_)
          refine AW_re (tyOf_good _) fun K' hK' => ?_
          repeat (refine sxf_next fun K2 hK2 => ?_; simp; (repeat (refine ⟨by omega, ?_⟩)); refine hK2 _ ?_; clear hK2 K2)
          refine sxf_nil (hK' _ ?_)
          clear hK' K'
          try simp only [thn, inb]
          refine Again.mk (i + 1) ⟨by omega, okAll_succ hok hi (by simp only [okC, lowC, restC, Bool.or_eq_true, Bool.and_eq_true, decide_eq_true_eq]; omega)⟩ (by omega) ?_
          refine Imp.to' (fun _ _ => trivial) (by simp [dS]) (by simp [dS])
        · by_cases hz : (i : Int) = 0
          · have hz' : i = 0 := by omega
            subst hz'
            refine AW_rg (tyOf_good _) [0, 3, 4, 5, 7, 8] [] (fun _ _ => trivial) fun K' hK' => ?_
            repeat (refine sxf_next fun K2 hK2 => ?_; simp [ha, hb]; (repeat (refine ⟨by omega, ?_⟩)); refine hK2 _ ?_; clear hK2 K2)
            refine sxf_nil (hK' _ ?_)
            refine AW.st (by simp [ha, hb]; rfl) ?_
            clear hK' K'
            refine AW_rg (tyOf_good _) [0, 7, 8, 38] [] (fun _ _ => trivial) fun K' hK' => ?_
            repeat (refine sxf_next fun K2 hK2 => ?_; simp [ha, hb]; (repeat (refine ⟨by omega, ?_⟩)); refine hK2 _ ?_; clear hK2 K2)
            refine sxf_nil (hK' _ ?_)
            refine AW.st (by simp [ha, hb]; rfl) ?_
            clear hK' K'
            refine AW_cond true rfl (fun _ => ?_) (fun h => by cases h)
            refine AW_rg (tyOf_good _) [2] [] (fun _ _ => trivial) fun K' hK' => ?_
            repeat (refine sxf_next fun K2 hK2 => ?_; simp; (repeat (refine ⟨by omega, ?_⟩)); refine hK2 _ ?_; clear hK2 K2)
            refine sxf_nil (hK' _ ?_)
            refine AW.st (by simp; rfl) ?_
            clear hK' K'
            refine AW_ret ?_
            simp [D.le, D.le.go, takeMap]
            exact okAll_fail hi (by simp only [okC, lowC, restC, Bool.or_eq_false_iff, Bool.and_eq_false_iff, decide_eq_false_iff_not]; omega)
          · have hz' : ¬ i = 0 := by omega
            by_cases hd : (48 : Int) ≤ (l[i].toNat : Int)
            · by_cases he : (l[i].toNat : Int) ≤ 57
              · refine AW_rg (tyOf_good _) [0, 3, 4, 5, 7, 8] [] (fun _ _ => trivial) fun K' hK' => ?_
                repeat (refine sxf_next fun K2 hK2 => ?_; simp [ha, hb, hz, hz', hd, he]; (repeat (refine ⟨by omega, ?_⟩)); refine hK2 _ ?_; clear hK2 K2)
                refine sxf_nil (hK' _ ?_)
                refine AW.st (by simp [ha, hb, hz, hz', hd, he]; rfl) ?_
                clear hK' K'
                refine AW_rg (tyOf_good _) [0, 7, 8, 38] [] (fun _ _ => trivial) fun K' hK' => ?_
                repeat (refine sxf_next fun K2 hK2 => ?_; simp [ha, hb, hz, hz', hd, he]; (repeat (refine ⟨by omega, ?_⟩)); refine hK2 _ ?_; clear hK2 K2)
                refine sxf_nil (hK' _ ?_)
                refine AW.st (by simp [ha, hb, hz, hz', hd, he]; rfl) ?_
                clear hK' K'
                refine AW_cond false rfl (fun h => by cases h) (fun _ => ?_)
                refine AW_skip (hK3 _ ?_)
                refine AW_re (tyOf_good _) fun K' hK' => ?_
                repeat (refine sxf_next fun K2 hK2 => ?_; simp; (repeat (refine ⟨by omega, ?_⟩)); refine hK2 _ ?_; clear hK2 K2)
                refine sxf_nil (hK' _ ?_)
                clear hK' K'
                try simp only [thn, inb]
                refine Again.mk (i + 1) ⟨by omega, okAll_succ hok hi (by simp only [okC, lowC, restC, Bool.or_eq_true, Bool.and_eq_true, decide_eq_true_eq]; omega)⟩ (by omega) ?_
                refine Imp.to' (fun _ _ => trivial) (by simp [dS]) (by simp [dS])
              · by_cases hu : (l[i].toNat : Int) = 95
                · refine AW_rg (tyOf_good _) [0, 3, 4, 5, 7, 8] [] (fun _ _ => trivial) fun K' hK' => ?_
                  repeat (refine sxf_next fun K2 hK2 => ?_; simp [ha, hb, hz, hz', hd, he, hu]; (repeat (refine ⟨by omega, ?_⟩)); refine hK2 _ ?_; clear hK2 K2)
                  refine sxf_nil (hK' _ ?_)
                  refine AW.st (by simp [ha, hb, hz, hz', hd, he, hu]; rfl) ?_
                  clear hK' K'
                  refine AW_rg (tyOf_good _) [0, 7, 8, 38] [] (fun _ _ => trivial) fun K' hK' => ?_
                  repeat (refine sxf_next fun K2 hK2 => ?_; simp [ha, hb, hz, hz', hd, he, hu]; (repeat (refine ⟨by omega, ?_⟩)); refine hK2 _ ?_; clear hK2 K2)
                  refine sxf_nil (hK' _ ?_)
                  refine AW.st (by simp [ha, hb, hz, hz', hd, he, hu]; rfl) ?_
                  clear hK' K'
                  refine AW_cond false rfl (fun h => by cases h) (fun _ => ?_)
                  refine AW_skip (hK3 _ ?_)
                  refine AW_re (tyOf_good _) fun K' hK' => ?_
                  repeat (refine sxf_next fun K2 hK2 => ?_; simp; (repeat (refine ⟨by omega, ?_⟩)); refine hK2 _ ?_; clear hK2 K2)
                  refine sxf_nil (hK' _ ?_)
                  clear hK' K'
                  try simp only [thn, inb]
                  refine Again.mk (i + 1) ⟨by omega, okAll_succ hok hi (by simp only [okC, lowC, restC, Bool.or_eq_true, Bool.and_eq_true, decide_eq_true_eq]; omega)⟩ (by omega) ?_
                  refine Imp.to' (fun _ _ => trivial) (by simp [dS]) (by simp [dS])
                · refine AW_rg (tyOf_good _) [0, 3, 4, 5, 7, 8] [] (fun _ _ => trivial) fun K' hK' => ?_
                  repeat (refine sxf_next fun K2 hK2 => ?_; simp [ha, hb, hz, hz', hd, he, hu]; (repeat (refine ⟨by omega, ?_⟩)); refine hK2 _ ?_; clear hK2 K2)
                  refine sxf_nil (hK' _ ?_)
                  refine AW.st (by simp [ha, hb, hz, hz', hd, he, hu]; rfl) ?_
                  clear hK' K'
                  refine AW_rg (tyOf_good _) [0, 7, 8, 38] [] (fun _ _ => trivial) fun K' hK' => ?_
                  repeat (refine sxf_next fun K2 hK2 => ?_; simp [ha, hb, hz, hz', hd, he, hu]; (repeat (refine ⟨by omega, ?_⟩)); refine hK2 _ ?_; clear hK2 K2)
                  refine sxf_nil (hK' _ ?_)
                  refine AW.st (by simp [ha, hb, hz, hz', hd, he, hu]; rfl) ?_
                  clear hK' K'
                  refine AW_cond true rfl (fun _ => ?_) (fun h => by cases h)
                  refine AW_rg (tyOf_good _) [2] [] (fun _ _ => trivial) fun K' hK' => ?_
                  repeat (refine sxf_next fun K2 hK2 => ?_; simp; (repeat (refine ⟨by omega, ?_⟩)); refine hK2 _ ?_; clear hK2 K2)
                  refine sxf_nil (hK' _ ?_)
                  refine AW.st (by simp; rfl) ?_
                  clear hK' K'
                  refine AW_ret ?_
                  simp [D.le, D.le.go, takeMap]
                  exact okAll_fail hi (by simp only [okC, lowC, restC, Bool.or_eq_false_iff, Bool.and_eq_false_iff, decide_eq_false_iff_not]; omega)
            · have hu : ¬ (l[i].toNat : Int) = 95 := by omega
              refine AW_rg (tyOf_good _) [0, 3, 4, 5, 7, 8] [] (fun _ _ => trivial) fun K' hK' => ?_
              repeat (refine sxf_next fun K2 hK2 => ?_; simp [ha, hb, hz, hz', hd, hu]; (repeat (refine ⟨by omega, ?_⟩)); refine hK2 _ ?_; clear hK2 K2)
              refine sxf_nil (hK' _ ?_)
              refine AW.st (by simp [ha, hb, hz, hz', hd, hu]; rfl) ?_
              clear hK' K'
              refine AW_rg (tyOf_good _) [0, 7, 8, 38] [] (fun _ _ => trivial) fun K' hK' => ?_
              repeat (refine sxf_next fun K2 hK2 => ?_; simp [ha, hb, hz, hz', hd, hu]; (repeat (refine ⟨by omega, ?_⟩)); refine hK2 _ ?_; clear hK2 K2)
              refine sxf_nil (hK' _ ?_)
              refine AW.st (by simp [ha, hb, hz, hz', hd, hu]; rfl) ?_
              clear hK' K'
              refine AW_cond true rfl (fun _ => ?_) (fun h => by cases h)
              refine AW_rg (tyOf_good _) [2] [] (fun _ _ => trivial) fun K' hK' => ?_
              repeat (refine sxf_next fun K2 hK2 => ?_; simp; (repeat (refine ⟨by omega, ?_⟩)); refine hK2 _ ?_; clear hK2 K2)
              refine sxf_nil (hK' _ ?_)
              refine AW.st (by simp; rfl) ?_
              clear hK' K'
              refine AW_ret ?_
              simp [D.le, D.le.go, takeMap]
              exact okAll_fail hi (by simp only [okC, lowC, restC, Bool.or_eq_false_iff, Bool.and_eq_false_iff, decide_eq_false_iff_not]; omega)
      · by_cases hz : (i : Int) = 0
        · have hz' : i = 0 := by omega
          subst hz'
          refine AW_rg (tyOf_good _) [0, 3, 4, 5, 7, 8] [] (fun _ _ => trivial) fun K' hK' => ?_
          repeat (refine sxf_next fun K2 hK2 => ?_; simp [ha]; (repeat (refine ⟨by omega, ?_⟩)); refine hK2 _ ?_; clear hK2 K2)
          refine sxf_nil (hK' _ ?_)
          refine AW.st (by simp [ha]; rfl) ?_
          clear hK' K'
          refine AW_rg (tyOf_good _) [0, 7, 8, 38] [] (fun _ _ => trivial) fun K' hK' => ?_
          repeat (refine sxf_next fun K2 hK2 => ?_; simp [ha]; (repeat (refine ⟨by omega, ?_⟩)); refine hK2 _ ?_; clear hK2 K2)
          refine sxf_nil (hK' _ ?_)
          refine AW.st (by simp [ha]; rfl) ?_
          clear hK' K'
          refine AW_cond true rfl (fun _ => ?_) (fun h => by cases h)
          refine AW_rg (tyOf_good _) [2] [] (fun _ _ => trivial) fun K' hK' => ?_
          repeat (refine sxf_next fun K2 hK2 => ?_; simp; (repeat (refine ⟨by omega, ?_⟩)); refine hK2 _ ?_; clear hK2 K2)
          refine sxf_nil (hK' _ ?_)
          refine AW.st (by simp; rfl) ?_
          clear hK' K'
          refine AW_ret ?_
          simp [D.le, D.le.go, takeMap]
          exact okAll_fail hi (by simp only [okC, lowC, restC, Bool.or_eq_false_iff, Bool.and_eq_false_iff, decide_eq_false_iff_not]; omega)
        · have hz' : ¬ i = 0 := by omega
          by_cases hd : (48 : Int) ≤ (l[i].toNat : Int)
          · by_cases he : (l[i].toNat : Int) ≤ 57
            · refine AW_rg (tyOf_good _) [0, 3, 4, 5, 7, 8] [] (fun _ _ => trivial) fun K' hK' => ?_
              repeat (refine sxf_next fun K2 hK2 => ?_; simp [ha, hz, hz', hd, he]; (repeat (refine ⟨by omega, ?_⟩)); refine hK2 _ ?_; clear hK2 K2)
              refine sxf_nil (hK' _ ?_)
              refine AW.st (by simp [ha, hz, hz', hd, he]; rfl) ?_
              clear hK' K'
              refine AW_rg (tyOf_good _) [0, 7, 8, 38] [] (fun _ _ => trivial) fun K' hK' => ?_
              repeat (refine sxf_next fun K2 hK2 => ?_; simp [ha, hz, hz', hd, he]; (repeat (refine ⟨by omega, ?_⟩)); refine hK2 _ ?_; clear hK2 K2)
              refine sxf_nil (hK' _ ?_)
              refine AW.st (by simp [ha, hz, hz', hd, he]; rfl) ?_
              clear hK' K'
              refine AW_cond false rfl (fun h => by cases h) (fun _ => ?_)
              refine AW_skip (hK3 _ ?_)
              refine AW_re (tyOf_good _) fun K' hK' => ?_
              repeat (refine sxf_next fun K2 hK2 => ?_; simp; (repeat (refine ⟨by omega, ?_⟩)); refine hK2 _ ?_; clear hK2 K2)
              refine sxf_nil (hK' _ ?_)
              clear hK' K'
              try simp only [thn, inb]
              refine Again.mk (i + 1) ⟨by omega, okAll_succ hok hi (by simp only [okC, lowC, restC, Bool.or_eq_true, Bool.and_eq_true, decide_eq_true_eq]; omega)⟩ (by omega) ?_
              refine Imp.to' (fun _ _ => trivial) (by simp [dS]) (by simp [dS])
            · by_cases hu : (l[i].toNat : Int) = 95
              · refine AW_rg (tyOf_good _) [0, 3, 4, 5, 7, 8] [] (fun _ _ => trivial) fun K' hK' => ?_
                repeat (refine sxf_next fun K2 hK2 => ?_; simp [ha, hz, hz', hd, he, hu]; (repeat (refine ⟨by omega, ?_⟩)); refine hK2 _ ?_; clear hK2 K2)
                refine sxf_nil (hK' _ ?_)
                refine AW.st (by simp [ha, hz, hz', hd, he, hu]; rfl) ?_
                clear hK' K'
                refine AW_rg (tyOf_good _) [0, 7, 8, 38] [] (fun _ _ => trivial) fun K' hK' => ?_
                repeat (refine sxf_next fun K2 hK2 => ?_; simp [ha, hz, hz', hd, he, hu]; (repeat (refine ⟨by omega, ?_⟩)); refine hK2 _ ?_; clear hK2 K2)
                refine sxf_nil (hK' _ ?_)
                refine AW.st (by simp [ha, hz, hz', hd, he, hu]; rfl) ?_
                clear hK' K'
                refine AW_cond false rfl (fun h => by cases h) (fun _ => ?_)
                refine AW_skip (hK3 _ ?_)
                refine AW_re (tyOf_good _) fun K' hK' => ?_
                repeat (refine sxf_next fun K2 hK2 => ?_; simp; (repeat (refine ⟨by omega, ?_⟩)); refine hK2 _ ?_; clear hK2 K2)
                refine sxf_nil (hK' _ ?_)
                clear hK' K'
                try simp only [thn, inb]
                refine Again.mk (i + 1) ⟨by omega, okAll_succ hok hi (by simp only [okC, lowC, restC, Bool.or_eq_true, Bool.and_eq_true, decide_eq_true_eq]; omega)⟩ (by omega) ?_
                refine Imp.to' (fun _ _ => trivial) (by simp [dS]) (by simp [dS])
              · refine AW_rg (tyOf_good _) [0, 3, 4, 5, 7, 8] [] (fun _ _ => trivial) fun K' hK' => ?_
                repeat (refine sxf_next fun K2 hK2 => ?_; simp [ha, hz, hz', hd, he, hu]; (repeat (refine ⟨by omega, ?_⟩)); refine hK2 _ ?_; clear hK2 K2)
                refine sxf_nil (hK' _ ?_)
                refine AW.st (by simp [ha, hz, hz', hd, he, hu]; rfl) ?_
                clear hK' K'
                refine AW_rg (tyOf_good _) [0, 7, 8, 38] [] (fun _ _ => trivial) fun K' hK' => ?_
                repeat (refine sxf_next fun K2 hK2 => ?_; simp [ha, hz, hz', hd, he, hu]; (repeat (refine ⟨by omega, ?_⟩)); refine hK2 _ ?_; clear hK2 K2)
                refine sxf_nil (hK' _ ?_)
                refine AW.st (by simp [ha, hz, hz', hd, he, hu]; rfl) ?_
                clear hK' K'
                refine AW_cond true rfl (fun _ => ?_) (fun h => by cases h)
                refine AW_rg (tyOf_good _) [2] [] (fun _ _ => trivial) fun K' hK' => ?_
                repeat (refine sxf_next fun K2 hK2 => ?_; simp; (repeat (refine ⟨by omega, ?_⟩)); refine hK2 _ ?_; clear hK2 K2)
                refine sxf_nil (hK' _ ?_)
                refine AW.st (by simp; rfl) ?_
                clear hK' K'
                refine AW_ret ?_
                simp [D.le, D.le.go, takeMap]
                exact okAll_fail hi (by simp only [okC, lowC, restC, Bool.or_eq_false_iff, Bool.and_eq_false_iff, decide_eq_false_iff_not]; omega)
          · have hu : ¬ (l[i].toNat : Int) = 95 := by omega
            refine AW_rg (tyOf_good _) [0, 3, 4, 5, 7, 8] [] (fun _ _ => trivial) fun K' hK' => ?_
            repeat (refine sxf_next fun K2 hK2 => ?_; simp [ha, hz, hz', hd, hu]; (repeat (refine ⟨by omega, ?_⟩)); refine hK2 _ ?_; clear hK2 K2)
            refine sxf_nil (hK' _ ?_)
            refine AW.st (by simp [ha, hz, hz', hd, hu]; rfl) ?_
            clear hK' K'
            refine AW_rg (tyOf_good _) [0, 7, 8, 38] [] (fun _ _ => trivial) fun K' hK' => ?_
            repeat (refine sxf_next fun K2 hK2 => ?_; simp [ha, hz, hz', hd, hu]; (repeat (refine ⟨by omega, ?_⟩)); refine hK2 _ ?_; clear hK2 K2)
            refine sxf_nil (hK' _ ?_)
            refine AW.st (by simp [ha, hz, hz', hd, hu]; rfl) ?_
            clear hK' K'
            refine AW_cond true rfl (fun _ => ?_) (fun h => by cases h)
            refine AW_rg (tyOf_good _) [2] [] (fun _ _ => trivial) fun K' hK' => ?_
            repeat (refine sxf_next fun K2 hK2 => ?_; simp; (repeat (refine ⟨by omega, ?_⟩)); refine hK2 _ ?_; clear hK2 K2)
            refine sxf_nil (hK' _ ?_)
            refine AW.st (by simp; rfl) ?_
            clear hK' K'
            refine AW_ret ?_
            simp [D.le, D.le.go, takeMap]
            exact okAll_fail hi (by simp only [okC, lowC, restC, Bool.or_eq_false_iff, Bool.and_eq_false_iff, decide_eq_false_iff_not]; omega)
    · have hil : i = l.length := by omega
      subst hil
      refine AW_exit (hK1 _ ?_)
      refine AW_then fun K4 hK4 => ?_
      refine AW_rg (tyOf_good _) [0, 40] [] (fun _ _ => trivial) fun K' hK' => ?_
      repeat (refine sxf_next fun K2 hK2 => ?_; simp; (repeat (refine ⟨by omega, ?_⟩)); refine hK2 _ ?_; clear hK2 K2)
      refine sxf_nil (hK' _ ?_)
      refine AW.st (by simp; rfl) ?_
      clear hK' K'
      refine AW_block ?_
      refine AW_then fun K5 hK5 => ?_
      by_cases hw0 : l = []
      · refine AW_rg (tyOf_good _) [0, 40, 41] [] (fun _ _ => trivial) fun K' hK' => ?_
        repeat (refine sxf_next fun K2 hK2 => ?_; simp [bs_nil, bs_list, binS, dS, toW, hw0]; (repeat (refine ⟨by omega, ?_⟩)); refine hK2 _ ?_; clear hK2 K2)
        refine sxf_nil (hK' _ ?_)
        refine AW.st (by simp [bs_nil, bs_list, binS, dS, toW, hw0]; rfl) ?_
        clear hK' K'
        refine AW_cond true rfl (fun _ => ?_) (fun h => by cases h)
        refine AW_skip (hK5 _ ?_)
        refine AW_cond true rfl (fun _ => ?_) (fun h => by cases h)
        refine AW_rg (tyOf_good _) [2] [] (fun _ _ => trivial) fun K' hK' => ?_
        repeat (refine sxf_next fun K2 hK2 => ?_; simp; (repeat (refine ⟨by omega, ?_⟩)); refine hK2 _ ?_; clear hK2 K2)
        refine sxf_nil (hK' _ ?_)
        refine AW.st (by simp; rfl) ?_
        clear hK' K'
        refine AW_ret ?_
        simp [D.le, D.le.go, takeMap]
        exact word_fail (by simp [hw0, wordsL])
      have hx0 : l.isEmpty = false := by simpa using hw0
      refine AW_rg (tyOf_good _) [0, 40, 41] [] (fun _ _ => trivial) fun K' hK' => ?_
      repeat (refine sxf_next fun K2 hK2 => ?_; simp [bs_nil, bs_list, binS, dS, toW, hw0, hx0]; (repeat (refine ⟨by omega, ?_⟩)); refine hK2 _ ?_; clear hK2 K2)
      refine sxf_nil (hK' _ ?_)
      refine AW.st (by simp [bs_nil, bs_list, binS, dS, toW, hw0, hx0]; rfl) ?_
      clear hK' K'
      refine AW_cond false rfl (fun h => by cases h) (fun _ => ?_)
      by_cases hw1 : l = [105, 110, 112, 117, 116]
      · refine AW_rg (tyOf_good _) [0, 40, 41] [] (fun _ _ => trivial) fun K' hK' => ?_
        repeat (refine sxf_next fun K2 hK2 => ?_; simp [bs_nil, bs_list, binS, dS, toW, hw1]; (repeat (refine ⟨by omega, ?_⟩)); refine hK2 _ ?_; clear hK2 K2)
        refine sxf_nil (hK' _ ?_)
        refine AW.st (by simp [bs_nil, bs_list, binS, dS, toW, hw1]; rfl) ?_
        clear hK' K'
        refine AW_cond true rfl (fun _ => ?_) (fun h => by cases h)
        refine AW_skip (hK5 _ ?_)
        refine AW_cond true rfl (fun _ => ?_) (fun h => by cases h)
        refine AW_rg (tyOf_good _) [2] [] (fun _ _ => trivial) fun K' hK' => ?_
        repeat (refine sxf_next fun K2 hK2 => ?_; simp; (repeat (refine ⟨by omega, ?_⟩)); refine hK2 _ ?_; clear hK2 K2)
        refine sxf_nil (hK' _ ?_)
        refine AW.st (by simp; rfl) ?_
        clear hK' K'
        refine AW_ret ?_
        simp [D.le, D.le.go, takeMap]
        exact word_fail (by simp [hw1, wordsL])
      have hx1 : (l == [105, 110, 112, 117, 116]) = false := by simpa using hw1
      refine AW_rg (tyOf_good _) [0, 40, 41] [] (fun _ _ => trivial) fun K' hK' => ?_
      repeat (refine sxf_next fun K2 hK2 => ?_; simp [bs_nil, bs_list, binS, dS, toW, hw1, hx1]; (repeat (refine ⟨by omega, ?_⟩)); refine hK2 _ ?_; clear hK2 K2)
      refine sxf_nil (hK' _ ?_)
      refine AW.st (by simp [bs_nil, bs_list, binS, dS, toW, hw1, hx1]; rfl) ?_
      clear hK' K'
      refine AW_cond false rfl (fun h => by cases h) (fun _ => ?_)
      by_cases hw2 : l = [99, 111, 105, 108]
      · refine AW_rg (tyOf_good _) [0, 40, 41] [] (fun _ _ => trivial) fun K' hK' => ?_
        repeat (refine sxf_next fun K2 hK2 => ?_; simp [bs_nil, bs_list, binS, dS, toW, hw2]; (repeat (refine ⟨by omega, ?_⟩)); refine hK2 _ ?_; clear hK2 K2)
        refine sxf_nil (hK' _ ?_)
        refine AW.st (by simp [bs_nil, bs_list, binS, dS, toW, hw2]; rfl) ?_
        clear hK' K'
        refine AW_cond true rfl (fun _ => ?_) (fun h => by cases h)
        refine AW_skip (hK5 _ ?_)
        refine AW_cond true rfl (fun _ => ?_) (fun h => by cases h)
        refine AW_rg (tyOf_good _) [2] [] (fun _ _ => trivial) fun K' hK' => ?_
        repeat (refine sxf_next fun K2 hK2 => ?_; simp; (repeat (refine ⟨by omega, ?_⟩)); refine hK2 _ ?_; clear hK2 K2)
        refine sxf_nil (hK' _ ?_)
        refine AW.st (by simp; rfl) ?_
        clear hK' K'
        refine AW_ret ?_
        simp [D.le, D.le.go, takeMap]
        exact word_fail (by simp [hw2, wordsL])
      have hx2 : (l == [99, 111, 105, 108]) = false := by simpa using hw2
      refine AW_rg (tyOf_good _) [0, 40, 41] [] (fun _ _ => trivial) fun K' hK' => ?_
      repeat (refine sxf_next fun K2 hK2 => ?_; simp [bs_nil, bs_list, binS, dS, toW, hw2, hx2]; (repeat (refine ⟨by omega, ?_⟩)); refine hK2 _ ?_; clear hK2 K2)
      refine sxf_nil (hK' _ ?_)
      refine AW.st (by simp [bs_nil, bs_list, binS, dS, toW, hw2, hx2]; rfl) ?_
      clear hK' K'
      refine AW_cond false rfl (fun h => by cases h) (fun _ => ?_)
      by_cases hw3 : l = [116, 105, 109, 101, 114]
      · refine AW_rg (tyOf_good _) [0, 40, 41] [] (fun _ _ => trivial) fun K' hK' => ?_
        repeat (refine sxf_next fun K2 hK2 => ?_; simp [bs_nil, bs_list, binS, dS, toW, hw3]; (repeat (refine ⟨by omega, ?_⟩)); refine hK2 _ ?_; clear hK2 K2)
        refine sxf_nil (hK' _ ?_)
        refine AW.st (by simp [bs_nil, bs_list, binS, dS, toW, hw3]; rfl) ?_
        clear hK' K'
        refine AW_cond true rfl (fun _ => ?_) (fun h => by cases h)
        refine AW_skip (hK5 _ ?_)
        refine AW_cond true rfl (fun _ => ?_) (fun h => by cases h)
        refine AW_rg (tyOf_good _) [2] [] (fun _ _ => trivial) fun K' hK' => ?_
        repeat (refine sxf_next fun K2 hK2 => ?_; simp; (repeat (refine ⟨by omega, ?_⟩)); refine hK2 _ ?_; clear hK2 K2)
        refine sxf_nil (hK' _ ?_)
        refine AW.st (by simp; rfl) ?_
        clear hK' K'
        refine AW_ret ?_
        simp [D.le, D.le.go, takeMap]
        exact word_fail (by simp [hw3, wordsL])
      have hx3 : (l == [116, 105, 109, 101, 114]) = false := by simpa using hw3
      refine AW_rg (tyOf_good _) [0, 40, 41] [] (fun _ _ => trivial) fun K' hK' => ?_
      repeat (refine sxf_next fun K2 hK2 => ?_; simp [bs_nil, bs_list, binS, dS, toW, hw3, hx3]; (repeat (refine ⟨by omega, ?_⟩)); refine hK2 _ ?_; clear hK2 K2)
      refine sxf_nil (hK' _ ?_)
      refine AW.st (by simp [bs_nil, bs_list, binS, dS, toW, hw3, hx3]; rfl) ?_
      clear hK' K'
      refine AW_cond false rfl (fun h => by cases h) (fun _ => ?_)
      by_cases hw4 : l = [99, 111, 117, 110, 116, 101, 114]
      · refine AW_rg (tyOf_good _) [0, 40, 41] [] (fun _ _ => trivial) fun K' hK' => ?_
        repeat (refine sxf_next fun K2 hK2 => ?_; simp [bs_nil, bs_list, binS, dS, toW, hw4]; (repeat (refine ⟨by omega, ?_⟩)); refine hK2 _ ?_; clear hK2 K2)
        refine sxf_nil (hK' _ ?_)
        refine AW.st (by simp [bs_nil, bs_list, binS, dS, toW, hw4]; rfl) ?_
        clear hK' K'
        refine AW_cond true rfl (fun _ => ?_) (fun h => by cases h)
        refine AW_skip (hK5 _ ?_)
        refine AW_cond true rfl (fun _ => ?_) (fun h => by cases h)
        refine AW_rg (tyOf_good _) [2] [] (fun _ _ => trivial) fun K' hK' => ?_
        repeat (refine sxf_next fun K2 hK2 => ?_; simp; (repeat (refine ⟨by omega, ?_⟩)); refine hK2 _ ?_; clear hK2 K2)
        refine sxf_nil (hK' _ ?_)
        refine AW.st (by simp; rfl) ?_
        clear hK' K'
        refine AW_ret ?_
        simp [D.le, D.le.go, takeMap]
        exact word_fail (by simp [hw4, wordsL])
      have hx4 : (l == [99, 111, 117, 110, 116, 101, 114]) = false := by simpa using hw4
      refine AW_rg (tyOf_good _) [0, 40, 41] [] (fun _ _ => trivial) fun K' hK' => ?_
      repeat (refine sxf_next fun K2 hK2 => ?_; simp [bs_nil, bs_list, binS, dS, toW, hw4, hx4]; (repeat (refine ⟨by omega, ?_⟩)); refine hK2 _ ?_; clear hK2 K2)
      refine sxf_nil (hK' _ ?_)
      refine AW.st (by simp [bs_nil, bs_list, binS, dS, toW, hw4, hx4]; rfl) ?_
      clear hK' K'
      refine AW_cond false rfl (fun h => by cases h) (fun _ => ?_)
      by_cases hw5 : l = [115, 101, 116]
      · refine AW_rg (tyOf_good _) [0, 40, 41] [] (fun _ _ => trivial) fun K' hK' => ?_
        repeat (refine sxf_next fun K2 hK2 => ?_; simp [bs_nil, bs_list, binS, dS, toW, hw5]; (repeat (refine ⟨by omega, ?_⟩)); refine hK2 _ ?_; clear hK2 K2)
        refine sxf_nil (hK' _ ?_)
        refine AW.st (by simp [bs_nil, bs_list, binS, dS, toW, hw5]; rfl) ?_
        clear hK' K'
        refine AW_cond true rfl (fun _ => ?_) (fun h => by cases h)
        refine AW_skip (hK5 _ ?_)
        refine AW_cond true rfl (fun _ => ?_) (fun h => by cases h)
        refine AW_rg (tyOf_good _) [2] [] (fun _ _ => trivial) fun K' hK' => ?_
        repeat (refine sxf_next fun K2 hK2 => ?_; simp; (repeat (refine ⟨by omega, ?_⟩)); refine hK2 _ ?_; clear hK2 K2)
        refine sxf_nil (hK' _ ?_)
        refine AW.st (by simp; rfl) ?_
        clear hK' K'
        refine AW_ret ?_
        simp [D.le, D.le.go, takeMap]
        exact word_fail (by simp [hw5, wordsL])
      have hx5 : (l == [115, 101, 116]) = false := by simpa using hw5
      refine AW_rg (tyOf_good _) [0, 40, 41] [] (fun _ _ => trivial) fun K' hK' => ?_
      repeat (refine sxf_next fun K2 hK2 => ?_; simp [bs_nil, bs_list, binS, dS, toW, hw5, hx5]; (repeat (refine ⟨by omega, ?_⟩)); refine hK2 _ ?_; clear hK2 K2)
      refine sxf_nil (hK' _ ?_)
      refine AW.st (by simp [bs_nil, bs_list, binS, dS, toW, hw5, hx5]; rfl) ?_
      clear hK' K'
      refine AW_cond false rfl (fun h => by cases h) (fun _ => ?_)
      by_cases hw6 : l = [114, 101, 115, 101, 116]
      · refine AW_rg (tyOf_good _) [0, 40, 41] [] (fun _ _ => trivial) fun K' hK' => ?_
        repeat (refine sxf_next fun K2 hK2 => ?_; simp [bs_nil, bs_list, binS, dS, toW, hw6]; (repeat (refine ⟨by omega, ?_⟩)); refine hK2 _ ?_; clear hK2 K2)
        refine sxf_nil (hK' _ ?_)
        refine AW.st (by simp [bs_nil, bs_list, binS, dS, toW, hw6]; rfl) ?_
        clear hK' K'
        refine AW_cond true rfl (fun _ => ?_) (fun h => by cases h)
        refine AW_skip (hK5 _ ?_)
        refine AW_cond true rfl (fun _ => ?_) (fun h => by cases h)
        refine AW_rg (tyOf_good _) [2] [] (fun _ _ => trivial) fun K' hK' => ?_
        repeat (refine sxf_next fun K2 hK2 => ?_; simp; (repeat (refine ⟨by omega, ?_⟩)); refine hK2 _ ?_; clear hK2 K2)
        refine sxf_nil (hK' _ ?_)
        refine AW.st (by simp; rfl) ?_
        clear hK' K'
        refine AW_ret ?_
        simp [D.le, D.le.go, takeMap]
        exact word_fail (by simp [hw6, wordsL])
      have hx6 : (l == [114, 101, 115, 101, 116]) = false := by simpa using hw6
      refine AW_rg (tyOf_good _) [0, 40, 41] [] (fun _ _ => trivial) fun K' hK' => ?_
      repeat (refine sxf_next fun K2 hK2 => ?_; simp [bs_nil, bs_list, binS, dS, toW, hw6, hx6]; (repeat (refine ⟨by omega, ?_⟩)); refine hK2 _ ?_; clear hK2 K2)
      refine sxf_nil (hK' _ ?_)
      refine AW.st (by simp [bs_nil, bs_list, binS, dS, toW, hw6, hx6]; rfl) ?_
      clear hK' K'
      refine AW_cond false rfl (fun h => by cases h) (fun _ => ?_)
      by_cases hw7 : l = [114, 117, 110]
      · refine AW_rg (tyOf_good _) [0, 40, 41] [] (fun _ _ => trivial) fun K' hK' => ?_
        repeat (refine sxf_next fun K2 hK2 => ?_; simp [bs_nil, bs_list, binS, dS, toW, hw7]; (repeat (refine ⟨by omega, ?_⟩)); refine hK2 _ ?_; clear hK2 K2)
        refine sxf_nil (hK' _ ?_)
        refine AW.st (by simp [bs_nil, bs_list, binS, dS, toW, hw7]; rfl) ?_
        clear hK' K'
        refine AW_cond true rfl (fun _ => ?_) (fun h => by cases h)
        refine AW_skip (hK5 _ ?_)
        refine AW_cond true rfl (fun _ => ?_) (fun h => by cases h)
        refine AW_rg (tyOf_good _) [2] [] (fun _ _ => trivial) fun K' hK' => ?_
        repeat (refine sxf_next fun K2 hK2 => ?_; simp; (repeat (refine ⟨by omega, ?_⟩)); refine hK2 _ ?_; clear hK2 K2)
        refine sxf_nil (hK' _ ?_)
        refine AW.st (by simp; rfl) ?_
        clear hK' K'
        refine AW_ret ?_
        simp [D.le, D.le.go, takeMap]
        exact word_fail (by simp [hw7, wordsL])
      have hx7 : (l == [114, 117, 110]) = false := by simpa using hw7
      refine AW_rg (tyOf_good _) [0, 40, 41] [] (fun _ _ => trivial) fun K' hK' => ?_
      repeat (refine sxf_next fun K2 hK2 => ?_; simp [bs_nil, bs_list, binS, dS, toW, hw7, hx7]; (repeat (refine ⟨by omega, ?_⟩)); refine hK2 _ ?_; clear hK2 K2)
      refine sxf_nil (hK' _ ?_)
      refine AW.st (by simp [bs_nil, bs_list, binS, dS, toW, hw7, hx7]; rfl) ?_
      clear hK' K'
      refine AW_cond false rfl (fun h => by cases h) (fun _ => ?_)
      by_cases hw8 : l = [99, 111, 117, 110, 116]
      · refine AW_rg (tyOf_good _) [0, 40, 41] [] (fun _ _ => trivial) fun K' hK' => ?_
        repeat (refine sxf_next fun K2 hK2 => ?_; simp [bs_nil, bs_list, binS, dS, toW, hw8]; (repeat (refine ⟨by omega, ?_⟩)); refine hK2 _ ?_; clear hK2 K2)
        refine sxf_nil (hK' _ ?_)
        refine AW.st (by simp [bs_nil, bs_list, binS, dS, toW, hw8]; rfl) ?_
        clear hK' K'
        refine AW_cond true rfl (fun _ => ?_) (fun h => by cases h)
        refine AW_skip (hK5 _ ?_)
        refine AW_cond true rfl (fun _ => ?_) (fun h => by cases h)
        refine AW_rg (tyOf_good _) [2] [] (fun _ _ => trivial) fun K' hK' => ?_
        repeat (refine sxf_next fun K2 hK2 => ?_; simp; (repeat (refine ⟨by omega, ?_⟩)); refine hK2 _ ?_; clear hK2 K2)
        refine sxf_nil (hK' _ ?_)
        refine AW.st (by simp; rfl) ?_
        clear hK' K'
        refine AW_ret ?_
        simp [D.le, D.le.go, takeMap]
        exact word_fail (by simp [hw8, wordsL])
      have hx8 : (l == [99, 111, 117, 110, 116]) = false := by simpa using hw8
      refine AW_rg (tyOf_good _) [0, 40, 41] [] (fun _ _ => trivial) fun K' hK' => ?_
      repeat (refine sxf_next fun K2 hK2 => ?_; simp [bs_nil, bs_list, binS, dS, toW, hw8, hx8]; (repeat (refine ⟨by omega, ?_⟩)); refine hK2 _ ?_; clear hK2 K2)
      refine sxf_nil (hK' _ ?_)
      refine AW.st (by simp [bs_nil, bs_list, binS, dS, toW, hw8, hx8]; rfl) ?_
      clear hK' K'
      refine AW_cond false rfl (fun h => by cases h) (fun _ => ?_)
      by_cases hw9 : l = [122, 101, 114, 111]
      · refine AW_re (tyOf_good _) fun K' hK' => ?_
        repeat (refine sxf_next fun K2 hK2 => ?_; simp [bs_nil, bs_list, binS, dS, toW, hw9]; (repeat (refine ⟨by omega, ?_⟩)); refine hK2 _ ?_; clear hK2 K2)
        refine sxf_nil (hK' _ ?_)
        clear hK' K'
        refine hK5 _ (AW.norm [0, 41] [] (fun _ _ => trivial) (AW.st (by simp [bs_nil, bs_list, binS, dS, toW, hw9]; rfl) ?_))
        refine AW_cond true rfl (fun _ => ?_) (fun h => by cases h)
        refine AW_rg (tyOf_good _) [2] [] (fun _ _ => trivial) fun K' hK' => ?_
        repeat (refine sxf_next fun K2 hK2 => ?_; simp; (repeat (refine ⟨by omega, ?_⟩)); refine hK2 _ ?_; clear hK2 K2)
        refine sxf_nil (hK' _ ?_)
        refine AW.st (by simp; rfl) ?_
        clear hK' K'
        refine AW_ret ?_
        simp [D.le, D.le.go, takeMap]
        exact word_fail (by simp [hw9, wordsL])
      have hx9 : (l == [122, 101, 114, 111]) = false := by simpa using hw9
      refine AW_re (tyOf_good _) fun K' hK' => ?_
      repeat (refine sxf_next fun K2 hK2 => ?_; simp [bs_nil, bs_list, binS, dS, toW, hw9, hx9]; (repeat (refine ⟨by omega, ?_⟩)); refine hK2 _ ?_; clear hK2 K2)
      refine sxf_nil (hK' _ ?_)
      clear hK' K'
      refine hK5 _ (AW.norm [0, 41] [] (fun _ _ => trivial) (AW.st (by simp [bs_nil, bs_list, binS, dS, toW, hw9, hx9]; rfl) ?_))
      refine AW_cond false rfl (fun h => by cases h) (fun _ => ?_)
      refine AW_skip (hK4 _ ?_)
      refine AW_rg (tyOf_good _) [2] [] (fun _ _ => trivial) fun K' hK' => ?_
      repeat (refine sxf_next fun K2 hK2 => ?_; simp [dS, bs_size]; (repeat (refine ⟨by omega, ?_⟩)); refine hK2 _ ?_; clear hK2 K2)
      refine sxf_nil (hK' _ ?_)
      refine AW.st (by simp [dS, bs_size]; rfl) ?_
      clear hK' K'
      refine AW_ret ?_
      simp [D.le, D.le.go, takeMap]
      exact word_pass hok (by simp [wordsL, hw0, hw1, hw2, hw3, hw4, hw5, hw6, hw7, hw8, hw9])

end Go.Proofs.YtfehigldhedkgaaGreatDoor

/-
  Formulas whose kinds, names or parts may not be: the statement's walk.
-/
namespace Go.Proofs.YtfehigldhedkgaaGreatDoor
set_option linter.unusedSimpArgs false
set_option linter.unusedVariables false
open Go.Av

def tr : Fm := .mk 2 [] []
end Go.Proofs.YtfehigldhedkgaaGreatDoor

/-
  Formulas made of steps: plain.At, plain.Formula.
-/
namespace Go.Proofs.YtfehigldhedkgaaGreatDoor
set_option linter.unusedSimpArgs false
set_option linter.unusedVariables false
open Go.Av

/-- A place in a list of so many. -/
def atF (n : Int) (many : Nat) : Nat := ((n % 18446744073709551616) % many).toNat
structure Stp where
  kind : Int
  a : Int
  b : Int
  name : List UInt8
/-- What a step makes of those ahead. -/
def stepF (all : List Fm) (x : Stp) : Fm :=
  if x.kind = 2 then .mk 2 [] []
  else if x.kind = 3 ∨ x.kind = 6 ∨ x.kind = 9 ∨ x.kind = 10 then .mk x.kind [] [all.getD (atF x.a all.length) .nil]
  else if x.kind = 4 ∨ x.kind = 5 ∨ x.kind = 7 ∨ x.kind = 8 then .mk x.kind [] [all.getD (atF x.a all.length) .nil, all.getD (atF x.b all.length) .nil]
  else .mk 1 x.name []
/-- It is one. -/
def IsMk (f : Fm) : Prop := ∃ k s l, f = .mk k s l
theorem IsMk.ip {f : Fm} (h : IsMk f) : ∃ c, dF f = .ip c := by
  obtain ⟨k, s, l, rfl⟩ := h
  exact ⟨_, rfl⟩
end Go.Proofs.YtfehigldhedkgaaGreatDoor

/-
  At which times of a word a formula holds: lasso.holds.
-/
namespace Go.Proofs.YtfehigldhedkgaaGreatDoor
set_option linter.unusedSimpArgs false
set_option linter.unusedVariables false
open Go.Av

abbrev Times := List (List (List UInt8))
end Go.Proofs.YtfehigldhedkgaaGreatDoor
