/-
  Texts that belong together, in one file: LB3.
-/
import Derived.Test.YthnjfeielmbfkaaGreatDoorRv20
import Derived.Shelf.Strconv.Itoa3
import Derived.Shelf.Strconv.Itoa4
import Derived.Shelf.Strconv.AtoiAll
import Derived.Shelf.Strconv.ParseIntPublic10
import Derived.Lib.ParseIntBTie
set_option linter.unusedSimpArgs false
set_option linter.unusedVariables false
namespace Go.Proofs.YthnjfeielmbfkaaGreatDoor
open Go.Av Go.Shelf Go.RowKit
theorem rd_ok {w : World} {X : Nat → Prop} (v : Int) : RD w X (.tuple #[.int .i64 v, .nilIface]) (.tup [.v (.int .i64 v), .v .nilIface]) := .tup rfl fun j u c hu hc => by
 match j, hu, hc with
 | 0, hu, hc => simp at hu hc; subst hu hc; exact .v _
 | 1, hu, hc => simp at hu hc; subst hu hc; exact .v _
 | j + 2, hu, hc => simp at hu
end Go.Proofs.YthnjfeielmbfkaaGreatDoor
