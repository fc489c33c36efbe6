/-
  Texts that belong together, in one file: N1.
-/
import Derived.Test.YtnlhioeefmhklaaDoorRq14
import Derived.Laws.Strings
import Derived.Shelf.Strconv.Itoa3
/-
  Texts that may be names: the walks.
-/
namespace Go.Proofs.YtnlhioeefmhklaaDoor
set_option linter.unusedSimpArgs false
set_option linter.unusedVariables false
open Go.Av
open Go.RowKit Go.Shelf Go.Lib

def bs (l : List UInt8) : ByteArray := ⟨l.toArray⟩
def dS (l : List UInt8) : D := .v (.string (bs l))
theorem bs_list (l : List UInt8) : (bs l).toList = l := by rw [ByteArray.toList_eq]; rfl
theorem bs_size (l : List UInt8) : (bs l).size = l.length := rfl
theorem below_grew {w w' : World} (h : Below w.heap.size w w') : Grew w w' := ⟨h.size, h.os, h.tape, h.output, h.block⟩

end Go.Proofs.YtnlhioeefmhklaaDoor
