/- Parts. -/
namespace Go.Av
abbrev Og:Nat:=999999
