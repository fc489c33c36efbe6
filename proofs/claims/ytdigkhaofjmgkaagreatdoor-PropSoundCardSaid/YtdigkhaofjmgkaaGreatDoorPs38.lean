/- Parts. -/
import Derived.Test.YtdigkhaofjmgkaaGreatDoorPs37
import Derived.Test.YtdigkhaofjmgkaaGreatDoorRows
import Derived.LaidLaws
import Derived.LaidHandle
import Derived.LaidSub
import Derived.Stop.Joined
import Derived.Lay
set_option linter.unusedSimpArgs false
set_option linter.unusedVariables false
open Go.Proofs.Tryz
namespace Go.Proofs.YtdigkhaofjmgkaaGreatDoor
open Go.Av Go.ChangeShapes Go.WideShapes Go.ChangeAt Go.RowKit
theorem QQ:prog.globalNamed "errors.errorType" = some 3:=by kernel_rfl
theorem QT:(prog.cutTypes.find? (·.1 == "internal/reflectlite.rtype")).map (·.2)=some 289:=by kernel_rfl
theorem QR:((List.range (512 - 100)).filter fun t=>prog.rowNamed t [101,114,114,111,114])=[36]:=by kernel_rfl
theorem QU:prog.types.size=512 - 100:=by kernel_rfl
def xb:List (String×DataW Unit):=[("errors.errorType",Rows.laid_errors_errorType)]
theorem NY {W:World} (h:handlesMet prog xb W):W.cell? ⟨3,0,none⟩=some lp:=by
 obtain⟨name,u,ty,e1,e2,e3,e4,e5⟩:=h _ (List.mem_singleton.2 rfl);have en:name=[101,114,114,111,114]:=(Option.some.inj e1).symm;subst en;obtain rfl:=Option.some.inj (QT.symm.trans e2);have hm:ty∈(List.range (512 - 100)).filter fun t=>prog.rowNamed t [101,114,114,111,114]:=List.mem_filter.2 ⟨List.mem_range.2 (by rw[<- QU];exact e3),e4⟩;rw[QR]at hm;obtain rfl:=List.mem_singleton.1 hm
 have hh:typeHandle prog 36 = .pointer (some ⟨12,36,none⟩):=by kernel_rfl
 rw[hh]at e5;simpa[lp]using World.var?_cell QQ e5 0
