/-
  Texts that belong together, in one file: NB.
-/
namespace Go.Av
abbrev bldT : Nat := 174
end Go.Av
