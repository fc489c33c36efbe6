/-
  Texts that belong together,in one file: NB.
-/
namespace Go.Av
abbrev bldT:Nat:=158
end Go.Av
