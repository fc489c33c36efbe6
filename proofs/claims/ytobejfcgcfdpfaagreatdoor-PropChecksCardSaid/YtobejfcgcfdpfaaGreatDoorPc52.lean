/- Parts. -/
import Derived.Test.YtobejfcgcfdpfaaGreatDoorPc51
set_option linter.unusedSimpArgs false
set_option linter.unusedVariables false
set_option maxRecDepth 100000
namespace Go.Proofs.YtobejfcgcfdpfaaGreatDoor
open Go.Av Go.ChangeShapes Go.WideShapes Go.ChangeAt Go.RowKit
theorem agn:joinedFacts Tryz.prog 3 Tryz.f3 Rows.propChecksSpec Rows.propChecksRow=true:=(OF _ _).mpr ⟨(OF _ _).mpr ⟨(OF _ _).mpr ⟨(OF _ _).mpr ⟨(OF _ _).mpr ⟨(OF _ _).mpr ⟨(OF _ _).mpr ⟨(OF _ _).mpr ⟨(OF _ _).mpr ⟨(OF _ _).mpr ⟨(OF _ _).mpr ⟨(OF _ _).mpr ⟨(OF _ _).mpr ⟨(OF _ _).mpr ⟨(OF _ _).mpr ⟨(OF _ _).mpr ⟨(OF _ _).mpr ⟨(OF _ _).mpr ⟨(OF _ _).mpr ⟨(OF _ _).mpr ⟨(OF _ _).mpr ⟨(OF _ _).mpr ⟨(OF _ _).mpr ⟨(OF _ _).mpr ⟨(OF _ _).mpr ⟨(OF _ _).mpr ⟨(OF _ _).mpr ⟨(OF _ _).mpr ⟨(OF _ _).mpr ⟨(OF _ _).mpr ⟨(OF _ _).mpr ⟨agt,agu⟩,agF⟩,agQ⟩,agT⟩,agU⟩,agV⟩,agW⟩,agX⟩,agY⟩,agv⟩,agw⟩,agx⟩,agy⟩,agz⟩,agA⟩,agB⟩,agC⟩,agD⟩,agE⟩,agG⟩,agH⟩,agI⟩,agJ⟩,agK⟩,agL⟩,agM⟩,agN⟩,agO⟩,agP⟩,agR⟩,agS⟩
theorem ags:Rows.PropChecksSaid:=
 OpenClaim.holds_of_wide 3 Tryz.f3 rfl rfl rfl rfl rfl rfl rfl ⟨rfl,rfl,rfl,rfl,rfl⟩ rfl rfl rfl rfl rfl ah Tryz.func3 agn
  (of_decide_eq_true ah) (by unfold Func.isWrapper;first | (rw[if_pos (by decide +kernel)];kernel_rfl) | (rw[if_neg (by decide +kernel)];exact⟨rfl,rfl⟩))
  (fun os started H enc _=>ag6 os started H enc)
