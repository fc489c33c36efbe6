/- Parts. -/
namespace Go.Av
abbrev D0:Nat:=999999
