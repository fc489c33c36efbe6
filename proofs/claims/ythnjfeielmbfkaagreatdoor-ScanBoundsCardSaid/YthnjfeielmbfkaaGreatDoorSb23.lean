/-
  Texts that belong together, in one file: U3.
-/
import Derived.Test.YthnjfeielmbfkaaGreatDoorSb22
import Derived.Shelf.Strings.Search3
set_option linter.unusedSimpArgs false
set_option linter.unusedVariables false
namespace Go.Proofs.YthnjfeielmbfkaaGreatDoor
open Go.Av Go.Shelf
def HasMax (G : Glob) : Prop := ∃ m, G 5 = some (.ip [dNum m])
end Go.Proofs.YthnjfeielmbfkaaGreatDoor
