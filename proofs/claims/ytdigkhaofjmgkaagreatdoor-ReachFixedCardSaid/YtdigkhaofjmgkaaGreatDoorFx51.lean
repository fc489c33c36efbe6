/- Parts. -/
import Derived.Test.YtdigkhaofjmgkaaGreatDoorFx50
set_option linter.unusedSimpArgs false
set_option linter.unusedVariables false
set_option maxRecDepth 100000
namespace Go.Proofs.YtdigkhaofjmgkaaGreatDoor
open Go.Av Go.ChangeShapes Go.WideShapes Go.ChangeAt Go.RowKit
theorem W6:joinedFacts Tryz.prog 5 Tryz.f5 Rows.reachFixedSpec Rows.reachFixedRow=true:=(abI _ _).mpr ⟨(abI _ _).mpr ⟨(abI _ _).mpr ⟨(abI _ _).mpr ⟨(abI _ _).mpr ⟨(abI _ _).mpr ⟨(abI _ _).mpr ⟨(abI _ _).mpr ⟨(abI _ _).mpr ⟨(abI _ _).mpr ⟨(abI _ _).mpr ⟨(abI _ _).mpr ⟨(abI _ _).mpr ⟨(abI _ _).mpr ⟨(abI _ _).mpr ⟨(abI _ _).mpr ⟨(abI _ _).mpr ⟨(abI _ _).mpr ⟨(abI _ _).mpr ⟨(abI _ _).mpr ⟨(abI _ _).mpr ⟨(abI _ _).mpr ⟨(abI _ _).mpr ⟨(abI _ _).mpr ⟨(abI _ _).mpr ⟨(abI _ _).mpr ⟨(abI _ _).mpr ⟨(abI _ _).mpr ⟨(abI _ _).mpr ⟨(abI _ _).mpr ⟨(abI _ _).mpr ⟨Xc,Xd⟩,Xo⟩,Xz⟩,XC⟩,ah3⟩,XE⟩,XF⟩,XG⟩,XH⟩,Xe⟩,Xf⟩,Xg⟩,Xh⟩,Xi⟩,Xj⟩,Xk⟩,Xl⟩,Xm⟩,Xn⟩,Xp⟩,Xq⟩,Xr⟩,Xs⟩,Xt⟩,Xu⟩,Xv⟩,Xw⟩,Xx⟩,Xy⟩,XA⟩,XB⟩
theorem Xb:Rows.ReachFixedSaid:=
 OpenClaim.holds_of_wide 5 Tryz.f5 rfl rfl rfl rfl rfl rfl rfl ⟨rfl,rfl,rfl,rfl,rfl⟩ rfl rfl rfl rfl rfl (by kernel_rfl) Tryz.func5 W6
  (of_decide_eq_true (by kernel_rfl)) (by unfold Func.isWrapper;first | (rw[if_pos (by decide +kernel)];kernel_rfl) | (rw[if_neg (by decide +kernel)];exact⟨rfl,rfl⟩))
  (fun os started H enc _=>XP os started H enc)
