/- Parts. -/
import Derived.Test.YtobejfcgcfdpfaaGreatDoorPc8
import Derived.ProofKit
import Derived.OpenShut
import Derived.Carry
import Derived.Deep.Slices
set_option linter.unusedSectionVars false
set_option linter.unusedSimpArgs false
set_option linter.unusedVariables false
namespace Go.Av
open Go.ChangeShapes Go.WideShapes Go.RowKit
section
variable {H:Type} {enc:TypeId×Value->H} {P:Program} {w:World} {base:Nat} {spare:Nat->Bool} {held:Bool} {X:Nat->Prop}
end
theorem XI {H:Type} {enc:TypeId×Value->H} {P:Program} (hl:laidOutB P=true) {W W':World} (hb:Below W.heap.size W W'):∀ {ts:List TypeId} {vs:List Value} {ds:List (DataW H)} {ps:List MemPlace},
  (∀ t∈ts,P.readableRec t=true/\t < P.types.size)->DataW.TrodAll enc P W 0 (fun _=>true) true ts vs ds ps->(∀ x∈ps,x.block < W.heap.size)->DataW.TrodAll enc P W' 0 (fun b=>decide (b < W.heap.size)) true ts vs ds ps
 | [],vs,ds,ps,_,h,_=>by
  obtain⟨rfl,rfl,rfl⟩:=trodAll_nil h;exact rfl
 | t :: ts,vs,ds,ps,ht,h,hp=>by
  obtain⟨v,vs1,d,ds1,a,b,rfl,rfl,rfl,h1,h2⟩:=trodAll_cons h;exact⟨a,b,Below.trod hl (ht t ak).1 (ht t ak).2 h1 hb (fun x hx=>hp x (by simp[hx])),XI hl hb (fun t h=>ht t (by simp[h])) h2 (fun x hx=>hp x (by simp[hx])),rfl⟩
end Go.Av
namespace Go.Av
theorem aD.tS {P:Program} {G:aB} {g:FuncId} {ds:List D} {y:D} (hf:iV P g)
  (h:∀ (X:Nat->Prop) (w:World) (vs:Array Value),vs.size=ds.length->(∀ (i:Nat) (u:Value) (x:D),vs[i]? = some u->ds[i]? = some x->RD w X u x)->(∀ g x,G g=some x->RD w X (.pointer (some ⟨g,0,none⟩)) x)->
   Calls P g vs w fun e w'=>∃ v,e = .returned v/\cX w w'/\RD w' X v y):aD P G g ds y:=by
 refine⟨hf,fun X w μ vs hs cW bp hv=>?_⟩
 have gS:μ=fun _=>none:=by
  funext r
  cases hr:μ r with
  | none=>rfl
  | some m=>obtain⟨row,eg⟩:=hs.l5 r m hr;cases eg
 subst gS;refine (h X w vs (by simpa using bp) (fun i u x hu hx=>?_) (fun g x hx=>(cW g x hx).sub fun b hb=>qv.2 hb)).mono fun e w' ⟨v,he,hg,hr⟩=>?_
 .exact (hv i u (.d x) hu (by rw[amm,hx];rfl)).data.sub fun b hb=>qv.2 hb
 .refine⟨v,.d y,ji,fun _=>none,he,⟨rfl,rfl⟩,.d (hr.sub fun b hb=>qv.1 hb),eT.none fun b hb=>amN (hs.fits b hb) hg.size,hg.size,hg.os,hg.tape,hg.output,fun b hb _=>⟨hg.same b hb,fun ⟨_,_,hh,_⟩=>by cases hh⟩,fun r m hr=>by cases hr⟩
open Go.ChangeShapes Go.RowKit Go.WideShapes
theorem adZ {P:Program} {G:aB} {g:FuncId} {xs:List D} {b:Bool} (hc:aD P G g xs (.v (.bool b))) {W:World} {args:Array Value} (cW:∀ g x,G g=some x->RD W (fun _=>False) (.pointer (some ⟨g,0,none⟩)) x) (bp:args.size=xs.length)
  (bQ:∀ (i:Nat) (u:Value) (x:D),args[i]? = some u->xs[i]? = some x->RD W (fun _=>False) u x):Calls P g args W fun e W'=>e = .returned (.bool b)/\Below W.heap.size W W':=by
 refine (hc.2 (fun _=>False) W (fun _=>none) args (eT.none ak) (fun g x hx=>(cW g x hx).sub fun b hb=>qv.1 hb) (by simpa using bp) fun i u x hu hx=>?_).mono fun e W' ⟨v,x,H',aI,he,⟨hx,_⟩,hr,_,ev⟩=>?_
 .rw[amm]at hx;obtain⟨d,hd,rfl⟩:=AS.1 hx;exact .d ((bQ i u d hu hd).sub fun b hb=>qv.1 hb)
 .subst hx;have:=hr.scalar;subst this;have hg:=Ev.ry ev;exact⟨he,hg.os,hg.tape,hg.output,hg.size,hg.same⟩
theorem RD.Gj {W:World} {X:Nat->Prop} {g:Nat} {v:Value} (hX:∀ b,¬ X b) (h:W.cell? ⟨g,0,none⟩=some v):RD W X (.pointer (some ⟨g,0,none⟩)) (.ip [.v v]):=
 .ip (f:=fun _=>v) (hX g) (yY h) (fun j hj=>by
  have:j=0:=by simpa using hj
  subst this
  exact h) (fun j c hc=>by
  have hj:j=0:=by
   have:=(BY.1 hc).1;simpa using this
  subst hj;simp at hc;subst hc
  exact .v v)
theorem RD.F9 {W:World} {X:Nat->Prop} {x y:Value} {a b:D} (h0:RD W X x a) (h1:RD W X y b):∀ (i:Nat) (u:Value) (c:D),#[x,y][i]? = some u->[a,b][i]? = some c->RD W X u c:=fun i u c hu hc=>by
 match i,hu,hc with
 | 0,hu,hc=>simp at hu hc;subst hu hc;exact h0
 | 1,hu,hc=>simp at hu hc;subst hu hc;exact h1
 | i+2,hu,hc=>simp at hu
