/-
  Texts that belong together,in one file: NB.
-/
namespace Go.Av
abbrev D1:Nat:=999999
end Go.Av
