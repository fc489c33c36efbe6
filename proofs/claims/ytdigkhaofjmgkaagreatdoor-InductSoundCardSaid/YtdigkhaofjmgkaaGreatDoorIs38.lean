/-
  Texts that belong together,in one file: Q1.
-/
import Derived.Test.YtdigkhaofjmgkaaGreatDoorIs37
import Derived.Test.YtdigkhaofjmgkaaGreatDoorRows
import Derived.LaidLaws
import Derived.LaidHandle
import Derived.LaidSub
import Derived.Stop.Joined
import Derived.Lay
set_option linter.unusedSimpArgs false
set_option linter.unusedVariables false
namespace Go.Proofs.YtdigkhaofjmgkaaGreatDoor
open Go.Av Go.ChangeShapes Go.WideShapes Go.ChangeAt Go.RowKit
theorem SF:Tryz.prog.globalNamed "errors.errorType" = some 3:=by kernel_rfl
theorem SI:(Tryz.prog.cutTypes.find? (·.1 == "internal/reflectlite.rtype")).map (·.2)=some 289:=by kernel_rfl
theorem SG:((List.range (512 - 100)).filter fun t=>Tryz.prog.rowNamed t [101,114,114,111,114])=[36]:=by kernel_rfl
theorem SJ:Tryz.prog.types.size=512 - 100:=by kernel_rfl
def xA:List (String×DataW Unit):=[("errors.errorType",Rows.laid_errors_errorType)]
theorem Oq {W:World} (h:handlesMet Tryz.prog xA W):W.cell? ⟨3,0,none⟩=some lB:=by
 obtain ⟨name,u,ty,e1,e2,e3,e4,e5⟩:=h _ (List.mem_singleton.2 rfl);have en:name=[101,114,114,111,114]:=(Option.some.inj e1).symm;subst en;obtain rfl:=Option.some.inj (SI.symm.trans e2);have hm:ty∈(List.range (512 - 100)).filter fun t=>Tryz.prog.rowNamed t [101,114,114,111,114]:=List.mem_filter.2 ⟨List.mem_range.2 (by rw [<- SJ];exact e3),e4⟩;rw [SG] at hm;obtain rfl:=List.mem_singleton.1 hm
 have hh:typeHandle Tryz.prog 36 = .pointer (some ⟨12,36,none⟩):=by kernel_rfl
 rw [hh] at e5;simpa [lB] using World.var?_cell SF e5 0
end Go.Proofs.YtdigkhaofjmgkaaGreatDoor
