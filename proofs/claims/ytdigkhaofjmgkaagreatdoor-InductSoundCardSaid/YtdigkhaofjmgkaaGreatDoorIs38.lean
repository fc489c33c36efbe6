/- Parts. -/
import Derived.Test.YtdigkhaofjmgkaaGreatDoorIs37
import Derived.Test.YtdigkhaofjmgkaaGreatDoorRows
import Derived.LaidLaws
import Derived.LaidHandle
import Derived.LaidSub
import Derived.Stop.Joined
import Derived.Lay
set_option linter.unusedSimpArgs false
set_option linter.unusedVariables false
open Go.Proofs.Tryz
namespace Go.Proofs.YtdigkhaofjmgkaaGreatDoor
open Go.Av Go.ChangeShapes Go.WideShapes Go.ChangeAt Go.RowKit
theorem SE:prog.globalNamed "errors.errorType" = some 3:=by kernel_rfl
theorem SH:(prog.cutTypes.find? (·.1 == "internal/reflectlite.rtype")).map (·.2)=some 289:=by kernel_rfl
theorem SF:((List.range (512 - 100)).filter fun t=>prog.rowNamed t [101,114,114,111,114])=[36]:=by kernel_rfl
theorem SI:prog.types.size=512 - 100:=by kernel_rfl
def xz:List (String×DataW Unit):=[("errors.errorType",Rows.laid_errors_errorType)]
theorem Oo {W:World} (h:handlesMet prog xz W):W.cell? ⟨3,0,none⟩=some lB:=by
 obtain⟨name,u,ty,e1,e2,e3,e4,e5⟩:=h _ (List.mem_singleton.2 rfl);have en:name=[101,114,114,111,114]:=(Option.some.inj e1).symm;subst en;obtain rfl:=Option.some.inj (SH.symm.trans e2);have hm:ty∈(List.range (512 - 100)).filter fun t=>prog.rowNamed t [101,114,114,111,114]:=List.mem_filter.2 ⟨List.mem_range.2 (by rw[<- SI];exact e3),e4⟩;rw[SF]at hm;obtain rfl:=List.mem_singleton.1 hm
 have hh:typeHandle prog 36 = .pointer (some ⟨12,36,none⟩):=by kernel_rfl
 rw[hh]at e5;simpa[lB]using World.var?_cell SE e5 0
