/- Parts. -/
import Derived.Test.YtoohljflflnbeaaGreatDoorBo50
set_option linter.unusedSimpArgs false
set_option linter.unusedVariables false
set_option maxRecDepth 100000
namespace Go.Proofs.YtoohljflflnbeaaGreatDoor
open Go.Av Go.ChangeShapes Go.WideShapes Go.ChangeAt Go.RowKit
theorem Us:joinedFacts Tryz.prog 7 Tryz.f7 Rows.blockOfsSpec Rows.blockOfsRow=true:=(abi _ _).mpr ⟨(abi _ _).mpr ⟨(abi _ _).mpr ⟨(abi _ _).mpr ⟨(abi _ _).mpr ⟨(abi _ _).mpr ⟨(abi _ _).mpr ⟨(abi _ _).mpr ⟨(abi _ _).mpr ⟨(abi _ _).mpr ⟨(abi _ _).mpr ⟨(abi _ _).mpr ⟨(abi _ _).mpr ⟨(abi _ _).mpr ⟨(abi _ _).mpr ⟨(abi _ _).mpr ⟨(abi _ _).mpr ⟨(abi _ _).mpr ⟨(abi _ _).mpr ⟨(abi _ _).mpr ⟨(abi _ _).mpr ⟨(abi _ _).mpr ⟨(abi _ _).mpr ⟨(abi _ _).mpr ⟨(abi _ _).mpr ⟨(abi _ _).mpr ⟨(abi _ _).mpr ⟨(abi _ _).mpr ⟨(abi _ _).mpr ⟨(abi _ _).mpr ⟨(abi _ _).mpr ⟨Uy,Uz⟩,UK⟩,UW⟩,UZ⟩,U0⟩,U1⟩,U2⟩,U3⟩,U4⟩,UA⟩,UB⟩,UC⟩,UD⟩,UE⟩,UF⟩,UG⟩,UH⟩,UI⟩,UJ⟩,UL⟩,UM⟩,UN⟩,UO⟩,UP⟩,UQ⟩,UR⟩,US⟩,UT⟩,UU⟩,UX⟩,UY⟩
theorem Ux:Rows.BlockOfsSaid:=
 OpenClaim.holds_of_wide 7 Tryz.f7 rfl rfl rfl rfl rfl rfl rfl ⟨rfl,rfl,rfl,rfl,rfl⟩ rfl rfl rfl rfl rfl ah Tryz.func7 Us
  (of_decide_eq_true ah) (by unfold Func.isWrapper;first | (rw[if_pos (by decide +kernel)];kernel_rfl) | (rw[if_neg (by decide +kernel)];exact⟨rfl,rfl⟩))
  (fun os started H enc _=>Vc os started H enc)
