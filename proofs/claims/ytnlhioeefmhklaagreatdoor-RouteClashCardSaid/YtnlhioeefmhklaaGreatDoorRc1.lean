/-
  Texts that belong together, in one file: NB.
-/
/-
  The number of the type strings.Builder in this seat (999999: there is none).
-/
namespace Go.Av
abbrev bldT : Nat := 113
end Go.Av
