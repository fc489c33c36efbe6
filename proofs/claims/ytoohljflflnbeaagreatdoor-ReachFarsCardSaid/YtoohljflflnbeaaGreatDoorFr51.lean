/- Parts. -/
import Derived.Test.YtoohljflflnbeaaGreatDoorFr50
set_option linter.unusedSimpArgs false
set_option linter.unusedVariables false
set_option maxRecDepth 100000
namespace Go.Proofs.YtoohljflflnbeaaGreatDoor
open Go.Av Go.ChangeShapes Go.WideShapes Go.ChangeAt Go.RowKit
theorem ae7:joinedFacts Tryz.prog 10 Tryz.f10 Rows.reachFarsSpec Rows.reachFarsRow=true:=(IT _ _).mpr ⟨(IT _ _).mpr ⟨(IT _ _).mpr ⟨(IT _ _).mpr ⟨(IT _ _).mpr ⟨(IT _ _).mpr ⟨(IT _ _).mpr ⟨(IT _ _).mpr ⟨(IT _ _).mpr ⟨(IT _ _).mpr ⟨(IT _ _).mpr ⟨(IT _ _).mpr ⟨(IT _ _).mpr ⟨(IT _ _).mpr ⟨(IT _ _).mpr ⟨(IT _ _).mpr ⟨(IT _ _).mpr ⟨(IT _ _).mpr ⟨(IT _ _).mpr ⟨(IT _ _).mpr ⟨(IT _ _).mpr ⟨(IT _ _).mpr ⟨(IT _ _).mpr ⟨(IT _ _).mpr ⟨(IT _ _).mpr ⟨(IT _ _).mpr ⟨(IT _ _).mpr ⟨(IT _ _).mpr ⟨(IT _ _).mpr ⟨(IT _ _).mpr ⟨(IT _ _).mpr ⟨afd,afe⟩,afp⟩,afA⟩,afD⟩,afE⟩,afF⟩,afG⟩,afH⟩,afI⟩,aff⟩,afg⟩,afh⟩,afi⟩,afj⟩,afk⟩,afl⟩,afm⟩,afn⟩,afo⟩,afq⟩,afr⟩,afs⟩,aft⟩,afu⟩,afv⟩,afw⟩,afx⟩,afy⟩,afz⟩,afB⟩,afC⟩
theorem afc:Rows.ReachFarsSaid:=
 OpenClaim.holds_of_wide 10 Tryz.f10 rfl rfl rfl rfl rfl rfl rfl ⟨rfl,rfl,rfl,rfl,rfl⟩ rfl rfl rfl rfl rfl ah Tryz.func10 ae7
  (of_decide_eq_true ah) (by unfold Func.isWrapper;first | (rw[if_pos (by decide +kernel)];kernel_rfl) | (rw[if_neg (by decide +kernel)];exact⟨rfl,rfl⟩))
  (fun os started H enc _=>afQ os started H enc)
