/- Parts. -/
import Derived.Test.YtoohljflflnbeaaGreatDoorBo8
import Derived.ProofKit
import Derived.OpenShut
import Derived.Carry
import Derived.Deep.Slices
set_option linter.unusedSectionVars false
set_option linter.unusedSimpArgs false
set_option linter.unusedVariables false
namespace Go.Av
open Go.ChangeShapes Go.WideShapes Go.RowKit
section
variable {H:Type} {enc:TypeId×Value->H} {P:Program} {w:World} {base:Nat} {spare:Nat->Bool} {held:Bool} {X:Nat->Prop}
def vR (w:World) (X:Nat->Prop) (cs:List Value) (ds:List D):Prop:=cs.length=ds.length/\∀ (j:Nat) (u:Value) (c:D),cs[j]? = some u->ds[j]? = some c->RD w X u c
theorem vR.one {u:Value} {c:D} (h:RD w X u c):vR w X [u] [c]:=⟨rfl,fun j u' c' hu hc=>by
 cases j with
 | zero=>simp at hu hc;subst hu hc;exact h
 | succ j=>simp at hu⟩
theorem vR.inv {u:Value} {c:D} (h:vR w X [u] [c]):RD w X u c:=h.2 0 u c rfl rfl
def C9 (enc:TypeId×Value->H) (P:Program) (w:World) (base:Nat) (spare:Nat->Bool) (held:Bool) (X:Nat->Prop) (t:TypeId) {α:Type} (p:α->Prop) (f:α->List D):Prop:=
 ∀ fuel cs x,DataW.trod enc P w base spare held fuel t cs=some x->∃ a,p a/\vR w X cs (f a)
theorem acS {t e:TypeId} {α:Type} {p:α->Prop} {f:α->List D} {sz:Nat} (ht:P.underlying t=some (.slice e)) (hc:P.cellsOf e=sz) (hz:0 < sz) (hX:∀ b,¬ X b) (he:C9 enc P w base spare held X e p f) :
  C9 enc P w base spare held X t (fun l:List α=>(∀ a∈l,p a)/\l.length<=maxLen) (fun l=>[.sl none (l.map f)]):=by
 intro fuel cs x h
 rcases Deep.open_slice ht h with⟨rfl,_⟩ | ⟨a,len,cap,m,n,_,_,rfl,hb,hl,hm,Ig,_,hx⟩
 .exact⟨[],⟨ak,ak⟩,.one (.nil ak)⟩
 .have hle:len<=m:=by rw[Ig];split<;>omega
  rcases Nat.eq_zero_or_pos len with rfl | vb
  .exact⟨[],⟨ak,ak⟩,.one (.empty ak hm)⟩
  .have bz:∀ i,i < len->∃ x,p x/\∃ qu,w.cells? base (a.add (i * P.cellsOf e)) (P.cellsOf e)=some qu/\vR w X qu (f x):=fun i hi=>by
    obtain⟨qu,h1,h2⟩:=hx i aa;obtain⟨x,hp,hr⟩:=he _ _ _ h2;exact⟨x,hp,qu,h1,hr⟩
   have:Inhabited α:=⟨(bz 0 vb).choose⟩;obtain⟨g,hg⟩:=Deep.choose_lt bz;refine⟨(List.range len).map g,⟨fun y hy=>?_,by simp;omega⟩,.one ?_⟩
   .obtain⟨i,hi,rfl⟩:=ag3.1 hy;exact (hg i (ahC.1 hi)).1
   rw[hc]at hg
   have ea:∀ i j,i < len->j < sz->∃ u,w.cell? ((a.add (i * sz)).add j)=some u/\(∀ c,(f (g i))[j]? = some c->RD w X u c)/\(f (g i)).length=sz:=fun i j hi hj=>by
    obtain⟨_,qu,h1,h2,h3⟩:=hg i hi;obtain⟨_,hlen,cX⟩:=World.cells?_some h1;refine⟨qu[j],by rw[cX j hj];simp[hlen,hj],fun c cG=>h3 j _ c (by simp[hlen,hj]) cG,aa⟩
   have BU:a.spot=none:=by
    obtain⟨u,hu,_⟩:=ea 0 0 vb hz;simp only[ahM,Addr.add,if_true]at hu;exact World.cell?_spot hu
   obtain⟨b,off,spot⟩:=a;dsimp only at BU;subst BU
   have ea:∀ i j,i < len->j < sz->∃ u,w.cell? ⟨b,off+(i * sz+j),none⟩=some u/\(∀ c,(f (g i))[j]? = some c->RD w X u c)/\(f (g i)).length=sz:=fun i j hi hj=>by
    have:=ea i j hi hj
    rwa [addr_add,addr_add,ahs]at this
   refine .sl (f:=fun i j=>(w.cell? ⟨b,off+(i * sz+j),none⟩).getD undef) ak ak hl hm (hX b) (fun el bz=>?_) hz vb (fun i j hi hj=>?_) (fun i j el c h1 h2=>?_)
   .obtain⟨y,hy,rfl⟩:=ag3.1 bz;obtain⟨i,hi,rfl⟩:=ag3.1 hy;exact (ea i 0 (ahC.1 hi) hz).choose_spec.2.2
   .obtain⟨u,hu,_⟩:=ea i j hi hj;rw[hu];rfl
   .rw[agC,agC]at h1;obtain⟨y,hy,rfl⟩:=AS.1 h1;obtain⟨i',e9,rfl⟩:=AS.1 hy;obtain⟨aG,rfl⟩:=BY.1 e9;rw[List.getElem_range]at h2;simp only[List.length_range]at aG
    have hj:j < sz:=by
     obtain⟨_,_,_,h3⟩:=ea i 0 aG hz;rw[<- h3];exact (BY.1 h2).1
    obtain⟨u,hu,hr,_⟩:=ea i j aG hj;rw[hu];exact hr c h2
theorem RD.abX {u:Value} {d:D} (ha:∀ arr,u≠.agg arr) (h:vR w X u.cells.toList [d]):RD w X u d:=by
 have:u.cells = #[u]:=by
  cases u<;>first | rfl | exact absurd rfl (ha _)
 rw[this]at h;exact h.inv
end
theorem R9 {H:Type} {enc:TypeId×Value->H} {P:Program} (hl:laidOutB P=true) {W W':World} (hb:Below W.heap.size W W'):∀ {ts:List TypeId} {vs:List Value} {ds:List (DataW H)} {ps:List MemPlace},
  (∀ t∈ts,P.readableRec t=true/\t < P.types.size)->DataW.TrodAll enc P W 0 (fun _=>true) true ts vs ds ps->(∀ x∈ps,x.block < W.heap.size)->DataW.TrodAll enc P W' 0 (fun b=>decide (b < W.heap.size)) true ts vs ds ps
 | [],vs,ds,ps,_,h,_=>by
  obtain⟨rfl,rfl,rfl⟩:=trodAll_nil h;exact rfl
 | t :: ts,vs,ds,ps,ht,h,hp=>by
  obtain⟨v,vs1,d,ds1,a,b,rfl,rfl,rfl,h1,h2⟩:=trodAll_cons h;exact⟨a,b,Below.trod hl (ht t ak).1 (ht t ak).2 h1 hb (fun x hx=>hp x (by simp[hx])),R9 hl hb (fun t h=>ht t (by simp[h])) h2 (fun x hx=>hp x (by simp[hx])),rfl⟩
end Go.Av
namespace Go.Av
theorem aD.rJ {P:Program} {G:aC} {g:FuncId} {ds:List D} {y:D} (hf:gS P g)
  (h:∀ (X:Nat->Prop) (w:World) (vs:Array Value),vs.size=ds.length->(∀ (i:Nat) (u:Value) (x:D),vs[i]? = some u->ds[i]? = some x->RD w X u x)->(∀ g x,G g=some x->RD w X (.pointer (some ⟨g,0,none⟩)) x)->
   Calls P g vs w fun e w'=>∃ v,e = .returned v/\cR w w'/\RD w' X v y):aD P G g ds y:=by
 refine⟨hf,fun X w μ vs hs dz bg hv=>?_⟩
 have gb:μ=fun _=>none:=by
  funext r
  cases hr:μ r with
  | none=>rfl
  | some m=>obtain⟨row,dX⟩:=hs.lD r m hr;cases dX
 subst gb;refine (h X w vs (by simpa using bg) (fun i u x hu hx=>?_) (fun g x hx=>(dz g x hx).sub fun b hb=>o6.2 hb)).mono fun e w' ⟨v,he,hg,hr⟩=>?_
 .exact (hv i u (.d x) hu (by rw[agC,hx];rfl)).data.sub fun b hb=>o6.2 hb
 .refine⟨v,.d y,jc,fun _=>none,he,⟨rfl,rfl⟩,.d (hr.sub fun b hb=>o6.1 hb),eF.none fun b hb=>ag2 (hs.fits b hb) hg.size,hg.size,hg.os,hg.tape,hg.output,fun b hb _=>⟨hg.same b hb,fun ⟨_,_,hh,_⟩=>by cases hh⟩,fun r m hr=>by cases hr⟩
open Go.ChangeShapes Go.RowKit Go.WideShapes
theorem aaC {P:Program} {G:aC} {g:FuncId} {xs:List D} {b:Bool} (hc:aD P G g xs (.v (.bool b))) {W:World} {args:Array Value} (dz:∀ g x,G g=some x->RD W (fun _=>False) (.pointer (some ⟨g,0,none⟩)) x) (bg:args.size=xs.length)
  (cf:∀ (i:Nat) (u:Value) (x:D),args[i]? = some u->xs[i]? = some x->RD W (fun _=>False) u x):Calls P g args W fun e W'=>e = .returned (.bool b)/\Below W.heap.size W W':=by
 refine (hc.2 (fun _=>False) W (fun _=>none) args (eF.none ak) (fun g x hx=>(dz g x hx).sub fun b hb=>o6.1 hb) (by simpa using bg) fun i u x hu hx=>?_).mono fun e W' ⟨v,x,H',aH,he,⟨hx,_⟩,hr,_,ev⟩=>?_
 .rw[agC]at hx;obtain⟨d,hd,rfl⟩:=AS.1 hx;exact .d ((cf i u d hu hd).sub fun b hb=>o6.1 hb)
 .subst hx;have:=hr.scalar;subst this;have hg:=Ev.qA ev;exact⟨he,hg.os,hg.tape,hg.output,hg.size,hg.same⟩
theorem RD.Dq {W:World} {X:Nat->Prop} {g:Nat} {v:Value} (hX:∀ b,¬ X b) (h:W.cell? ⟨g,0,none⟩=some v):RD W X (.pointer (some ⟨g,0,none⟩)) (.ip [.v v]):=
 .ip (f:=fun _=>v) (hX g) (wc h) (fun j hj=>by
  have:j=0:=by simpa using hj
  subst this
  exact h) (fun j c hc=>by
  have hj:j=0:=by
   have:=(BY.1 hc).1;simpa using this
  subst hj;simp at hc;subst hc
  exact .v v)
theorem RD.Dh {W:World} {X:Nat->Prop} {x y:Value} {a b:D} (h0:RD W X x a) (h1:RD W X y b):∀ (i:Nat) (u:Value) (c:D),#[x,y][i]? = some u->[a,b][i]? = some c->RD W X u c:=fun i u c hu hc=>by
 match i,hu,hc with
 | 0,hu,hc=>simp at hu hc;subst hu hc;exact h0
 | 1,hu,hc=>simp at hu hc;subst hu hc;exact h1
 | i+2,hu,hc=>simp at hu
