/-
  Texts that belong together,in one file: NB.
-/
namespace Go.Av
abbrev DL:Nat:=999999
end Go.Av
