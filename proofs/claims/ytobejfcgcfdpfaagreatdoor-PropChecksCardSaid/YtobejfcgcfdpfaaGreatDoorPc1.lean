/- Parts. -/
import Derived.KernelRfl
namespace Go.Av
abbrev QB:Nat:=999999
end Go.Av
namespace Go
theorem aa{p:Prop}(h:p:=by omega):p:=h
theorem ak{p:Prop}(h:p:=by simp):p:=h
theorem bt{p:Prop}(h:p:=by simp;rfl):p:=h
theorem bD{p:Prop}(h:p:=by decide):p:=h
theorem aQ{p:Prop}(h:p:=by exact fun _ _=>trivial):p:=h
theorem ah{α:Sort _}{a b:α}(h:a=b:=by kernel_rfl):a=b:=h
theorem aU{α:Type _}{a b:α}(h:a=b:=by kernel_rfl):some a=some b:=congrArg some h
theorem eN{α:Type _}{β:Type _}{a c:α}{b d:β}(h:some (a,b)=some (c,d)):a=c/\b=d:=by simpa using h
theorem nL{α:Type _}{β:Type _}{γ:Type _}{a c:α}{b d:β}{e f:γ}(h:some (a,b,e)=some (c,d,f)):a=c/\b=d/\e=f:=by simpa using h
