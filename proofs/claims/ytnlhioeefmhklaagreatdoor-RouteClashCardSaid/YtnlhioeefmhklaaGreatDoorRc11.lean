/-
  Texts that belong together, in one file: P5.
-/
import Derived.Test.YtnlhioeefmhklaaGreatDoorRc10
import Derived.Lib.SlTrimSet
/-
  Plain facts of names.
-/
namespace Go.Proofs.YtnlhioeefmhklaaGreatDoor
set_option linter.unusedSimpArgs false
set_option linter.unusedVariables false

def cutL : List UInt8 := [97, 98, 99, 100, 101, 102, 103, 104, 105, 106, 107, 108, 109, 110, 111, 112, 113, 114, 115, 116, 117, 118, 119, 120, 121, 122, 48, 49, 50, 51, 52, 53, 54, 55, 56, 57, 95]
def wordsL : List (List UInt8) := [[105, 110, 112, 117, 116], [99, 111, 105, 108], [116, 105, 109, 101, 114], [99, 111, 117, 110, 116, 101, 114], [115, 101, 116], [114, 101, 115, 101, 116], [114, 117, 110], [99, 111, 117, 110, 116], [122, 101, 114, 111]]

def nameF (l : List UInt8) : Bool := decide (l ≠ []) && (decide (l.length ≤ 8) && (decide (97 ≤ (l.getD 0 0).toNat) && (decide ((l.getD 0 0).toNat ≤ 122) && (decide (Lib.trimS l cutL = []) && !(wordsL.any fun x => l == x)))))
end Go.Proofs.YtnlhioeefmhklaaGreatDoor
