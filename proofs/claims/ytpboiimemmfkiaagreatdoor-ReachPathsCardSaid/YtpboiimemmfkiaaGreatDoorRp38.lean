/-
  Texts that belong together,in one file: Q1.
-/
import Derived.Test.YtpboiimemmfkiaaGreatDoorRp37
import Derived.Test.YtpboiimemmfkiaaGreatDoorRows
import Derived.LaidLaws
import Derived.LaidHandle
import Derived.LaidSub
import Derived.Stop.Joined
import Derived.Lay
set_option linter.unusedSimpArgs false
set_option linter.unusedVariables false
namespace Go.Proofs.YtpboiimemmfkiaaGreatDoor
open Go.Av Go.ChangeShapes Go.WideShapes Go.ChangeAt Go.RowKit
theorem laid_et:Tryz.prog.globalNamed "errors.errorType" = some 4:=by kernel_rfl
theorem laid_rt:(Tryz.prog.cutTypes.find? (·.1 == "internal/reflectlite.rtype")).map (·.2)=some 314:=by kernel_rfl
theorem laid_oneRow:((List.range (542 - 100)).filter fun t=>Tryz.prog.rowNamed t [101,114,114,111,114])=[39]:=by kernel_rfl
theorem laid_size:Tryz.prog.types.size=542 - 100:=by kernel_rfl
def laidE:List (String×DataW Unit):=[("errors.errorType",Rows.laid_errors_errorType)]
theorem handle_of_met {W:World} (h:handlesMet Tryz.prog laidE W):W.cell? ⟨4,0,none⟩=some errType:=by
 obtain ⟨name,u,ty,e1,e2,e3,e4,e5⟩:=h _ (List.mem_singleton.2 rfl)
 have en:name=[101,114,114,111,114]:=(Option.some.inj e1).symm
 subst en
 obtain rfl:=Option.some.inj (laid_rt.symm.trans e2)
 have hm:ty∈(List.range (542 - 100)).filter fun t=>Tryz.prog.rowNamed t [101,114,114,111,114]:=List.mem_filter.2 ⟨List.mem_range.2 (by rw [← laid_size];exact e3),e4⟩
 rw [laid_oneRow] at hm
 obtain rfl:=List.mem_singleton.1 hm
 have hh:typeHandle Tryz.prog 39 = .pointer (some ⟨13,39,none⟩):=by kernel_rfl
 rw [hh] at e5;simpa [errType] using World.var?_cell laid_et e5 0
end Go.Proofs.YtpboiimemmfkiaaGreatDoor
