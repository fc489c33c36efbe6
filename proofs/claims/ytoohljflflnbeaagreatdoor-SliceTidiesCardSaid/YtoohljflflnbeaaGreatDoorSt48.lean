/- Parts. -/
import Derived.Test.YtoohljflflnbeaaGreatDoorSt47
set_option linter.unusedSimpArgs false
set_option linter.unusedVariables false
set_option maxRecDepth 100000
namespace Go.Proofs.YtoohljflflnbeaaGreatDoor
open Go.Av Go.ChangeShapes Go.WideShapes Go.ChangeAt Go.RowKit
theorem XE:joinedFacts Tryz.prog 8 Tryz.f8 Rows.sliceTidiesSpec Rows.sliceTidiesRow=true:=(OF _ _).mpr ⟨(OF _ _).mpr ⟨(OF _ _).mpr ⟨(OF _ _).mpr ⟨(OF _ _).mpr ⟨(OF _ _).mpr ⟨(OF _ _).mpr ⟨(OF _ _).mpr ⟨(OF _ _).mpr ⟨(OF _ _).mpr ⟨(OF _ _).mpr ⟨(OF _ _).mpr ⟨(OF _ _).mpr ⟨(OF _ _).mpr ⟨(OF _ _).mpr ⟨(OF _ _).mpr ⟨(OF _ _).mpr ⟨(OF _ _).mpr ⟨(OF _ _).mpr ⟨(OF _ _).mpr ⟨(OF _ _).mpr ⟨(OF _ _).mpr ⟨(OF _ _).mpr ⟨(OF _ _).mpr ⟨(OF _ _).mpr ⟨(OF _ _).mpr ⟨(OF _ _).mpr ⟨(OF _ _).mpr ⟨(OF _ _).mpr ⟨(OF _ _).mpr ⟨(OF _ _).mpr ⟨XL,XM⟩,XY⟩,X9⟩,Yc⟩,Yd⟩,Ye⟩,Yf⟩,Yg⟩,Yh⟩,XN⟩,XO⟩,XP⟩,XQ⟩,XR⟩,XS⟩,XT⟩,XU⟩,XV⟩,XW⟩,XZ⟩,X0⟩,X1⟩,X2⟩,X3⟩,X4⟩,X5⟩,X6⟩,X7⟩,X8⟩,Ya⟩,Yb⟩
theorem XK:Rows.SliceTidiesSaid:=
 OpenClaim.holds_of_wide 8 Tryz.f8 rfl rfl rfl rfl rfl rfl rfl ⟨rfl,rfl,rfl,rfl,rfl⟩ rfl rfl rfl rfl rfl ag Tryz.func8 XE
  (of_decide_eq_true ag) (by unfold Func.isWrapper;first | (rw[if_pos (by decide +kernel)];kernel_rfl) | (rw[if_neg (by decide +kernel)];exact⟨rfl,rfl⟩))
  (fun os started H enc _=>Yq os started H enc)
