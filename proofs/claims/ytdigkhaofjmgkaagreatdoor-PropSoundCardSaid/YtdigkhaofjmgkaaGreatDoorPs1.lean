/- Parts. -/
namespace Go.Av
abbrev DK:Nat:=999999
