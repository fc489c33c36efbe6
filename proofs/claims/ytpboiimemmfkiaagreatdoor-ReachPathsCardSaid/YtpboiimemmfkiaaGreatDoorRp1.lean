/-
  Texts that belong together,in one file: NB.
-/
namespace Go.Av
abbrev bldT:Nat:=168
end Go.Av
