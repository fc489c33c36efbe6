/- Parts. -/
namespace Go.Av
abbrev M0:Nat:=999999
