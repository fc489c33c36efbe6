/- Parts. -/
import Derived.Test.YtdigkhaofjmgkaaGreatDoorPs2
import Derived.LoopN
import Derived.LoopNIn
import Derived.OrdersIn
set_option linter.unusedSectionVars false
set_option linter.unusedSimpArgs false
set_option linter.unusedVariables false
namespace Go.Av
structure Fr where
 n:Nat
 ds:List Deferred
 ro:Option Nat
def wd (ro:Option Nat):Fence:={ Fence.wide with round:=ro }
theorem JF {P:Program} {f:FuncId} {args:Array Value} {w:World} {R:Ending->World->Prop} {ro:Option Nat} {n:Nat} (h:Calls P f args w R):CallsIn (wd ro) n P f args w R:=
 (callsIn_wide (n:=n)).2 h
theorem WL {P:Program} {row:String} {args:Array Value} {w:World} {R:Value->World->Prop} {ro:Option Nat} {n:Nat} (h:Rows P row args w R):RowsIn (wd ro) n P row args w R:=
 fun c cs _=>let ⟨v,w',r,s⟩:=h c cs;⟨v,w',r,stepsIn_wide.2 s⟩
theorem x7 {P:Program} {o:Oper} {a:Act} {w:World} {next:Act->World->Prop} {Q:Exit->Act->World->Prop} {ro:Option Nat} (hd:∀ c,o.op≠.defer c) (h:o.wp P a w next Q):o.wpIn (wd ro) 0 P a w next Q:=by
 refine⟨fun _ _=>trivial,?_⟩
 have e:o.semAt (wd ro).round a.eval=execOp a.eval o:=by
  cases ro with
  | none=>rfl
  | some l=>show Oper.semAt (some l) a.eval o=_;unfold Oper.semAt;cases ho:o.op<;>first | rfl | exact absurd ho (hd _)
 rw[e];unfold Oper.wp at h;generalize (execOp a.eval o).run P w=r at h ⊢
 cases r with
 | ok x w'=>
  cases x<;>simp only[Oper.upon,Oper.uponIn]at h ⊢<;>first | exact h | exact⟨fun e=>(by cases e),JF h⟩ | exact⟨fun e=>(by cases e),WL h⟩ | exact h.elim
 | halt x w'=>cases x<;>simp only[Oper.upon,Oper.uponIn]at h ⊢<;>first | exact h | exact h.elim
abbrev Env:=Nat->Option AV
structure St where
 env:Env
 H:Heap
def fb (e:Env) (i:Nat) (x:AV):Env:=fun j=>if j=i then some x else e j
def aF (H:Heap) (r:Nat) (row:Row):Heap:=fun q=>if q=r then some row else H q
def ft:Heap:=fun _=>none
def YB (l:List (Nat×AV)):Env:=fun i=>l.lookup i
def ah (l:List (Nat×Row)):Heap:=fun i=>l.lookup i
abbrev Yt:=Nat->Option D
structure Kd (w:World) (X:Nat->Prop) (μ:Mu) (N:Fr) (a:Act) (env:Env):Prop where
 defers:a.defers=N.ds
 size:a.tmps.size=N.n
 slot:∀ i x,env i=some x->∃ u,a.tmps[i]? = some u/\RV w X μ u x
structure In (w:World) (X:Nat->Prop) (G:Yt) (μ:Mu) (N:Fr) (a:Act) (σ:St):Prop where
 aL:cw w X μ σ.H
 env:Kd w X μ N a σ.env
 eZ:∀ g x,G g=some x->RD w (XX X μ) (.pointer (some ⟨g,0,none⟩)) x
def aD (Mv X:Nat->Prop) (G:Yt) (N:Fr) (σ τ:St):Prop:=∀ w μ a,In w X G μ N a σ->∃ ak,In w X G ak N a τ/\Ev Mv w μ w ak
theorem aD.refl {Mv X:Nat->Prop} {G:Yt} {N:Fr} (σ:St):aD Mv X G N σ σ:=fun w μ _ h=>⟨μ,h,.refl _ w μ⟩
theorem aD.trans {Mv X:Nat->Prop} {G:Yt} {N:Fr} {σ τ υ:St} (h:aD Mv X G N σ τ) (h':aD Mv X G N τ υ):aD Mv X G N σ υ:=fun w μ a hi=>
 let ⟨_,cE,e1⟩:=h w μ a hi
 let ⟨fv,dD,e2⟩:=h' _ _ _ cE
 ⟨fv,dD,e1.trans e2⟩
section
variable {P:Program} {Mv X:Nat->Prop} {G:Yt} {N:Fr}
def After (Mv X:Nat->Prop) (G:Yt) (N:Fr) (w:World) (μ:Mu) (Q:Exit->St->Prop) (e:Exit) (a':Act) (w':World):Prop:=
 ∃ ak af,Q e af/\In w' X G ak N a' af/\Ev Mv w μ w' ak
def AW (P:Program) (Mv X:Nat->Prop) (G:Yt) (N:Fr) (c:Code) (Q:Exit->St->Prop) (σ:St):Prop:=
 ∀ w μ a,In w X G μ N a σ->c.wpIn (wd N.ro) 0 P (After Mv X G N w μ Q) a w
theorem After.mono {w:World} {μ:Mu} {Q Q':Exit->St->Prop} (h:∀ e σ,Q e σ->Q' e σ) {e:Exit} {a':Act} {w':World} (ha:After Mv X G N w μ Q e a' w'):After Mv X G N w μ Q' e a' w':=
 let ⟨ak,af,q,i,ev⟩:=ha
 ⟨ak,af,h _ _ q,i,ev⟩
theorem AW.mono {c:Code} {Q Q':Exit->St->Prop} {σ:St} (h:AW P Mv X G N c Q σ) (hq:∀ e σ,Q e σ->Q' e σ):AW P Mv X G N c Q' σ:=
 fun w μ a hi=>wpIn_mono (h w μ a hi) fun _ _ _ ha=>ha.mono hq
theorem AW.imp {c:Code} {Q:Exit->St->Prop} {σ τ:St} (hi:aD Mv X G N σ τ) (h:AW P Mv X G N c Q τ):AW P Mv X G N c Q σ:=fun w μ a ax=>by
 obtain⟨μ1,h1,e1⟩:=hi w μ a ax;exact wpIn_mono (h w μ1 a h1) fun e a' w' ⟨ak,af,q,i,ev⟩=>⟨ak,af,q,i,e1.trans ev⟩
def YC (next:St->Prop) (Q:Exit->St->Prop):Exit->St->Prop
 | .normal,σ=>next σ
 | e,σ=>Q e σ
def bd (id:Nat) (Q:Exit->St->Prop):Exit->St->Prop
 | .exit id',σ=>if id'=id then Q .normal σ else Q (.exit id') σ
 | e,σ=>Q e σ
theorem ar {Q:Exit->St->Prop} {σ:St} (h:Q .normal σ):AW P Mv X G N .skip Q σ:=fun w μ _ hi=>wpIn_skip ⟨μ,σ,h,hi,.refl _ w μ⟩
theorem b6 {Q:Exit->St->Prop} {σ:St} (h:Q .ret σ):AW P Mv X G N .ret Q σ:=fun w μ _ hi=>wpIn_ret ⟨μ,σ,h,hi,.refl _ w μ⟩
theorem bY {Q:Exit->St->Prop} {σ:St} {id:Nat} (h:Q (.exit id) σ):AW P Mv X G N (.exit id) Q σ:=fun w μ _ hi=>wpIn_exit ⟨μ,σ,h,hi,.refl _ w μ⟩
theorem pc {x y:Code} {Q:Exit->St->Prop} {σ:St} (h:AW P Mv X G N x (YC (AW P Mv X G N y Q) Q) σ):AW P Mv X G N (.seq x y) Q σ:=fun w μ a hi=>
 wpIn_seq (wpIn_mono (h w μ a hi) fun e a' w' ⟨ak,af,q,i,ev⟩=>by
  cases e with
  | normal=>exact wpIn_mono (q w' ak a' i) fun e2 a2 w2 ⟨fv,Y6,q2,i2,px⟩=>⟨fv,Y6,q2,i2,ev.trans px⟩
  | _=>exact⟨ak,af,q,i,ev⟩)
theorem YF {id:Nat} {c:Code} {Q:Exit->St->Prop} {σ:St} (h:AW P Mv X G N c (bd id Q) σ):AW P Mv X G N (.block id c) Q σ:=fun w μ a hi=>
 wpIn_block (wpIn_mono (h w μ a hi) fun e a' w' ⟨ak,af,q,i,ev⟩=>by
  cases e with
  | exit id'=>
   simp only[bd]at q;simp only[Exit.inBlock];split
   .rename_i he;rw[if_pos he]at q;exact⟨ak,af,q,i,ev⟩
   .rename_i he;rw[if_neg he]at q;exact⟨ak,af,q,i,ev⟩
  | _=>exact⟨ak,af,q,i,ev⟩)
def mJ:Value->D
 | .slice none 0 0=>.sl (some false) []
 | v=>.v v
def dX:Value->AV
 | .agg arr=>.d (.agg (arr.toList.map mJ))
 | v=>.d (mJ v)
def aT (G:Yt) (e:Env):Operand->Option AV
 | .tmp t=>e t
 | .const v=>some (dX v)
 | .global g=>(G g).map .d
 | .func f=>some (.d (.fn (.func f) []))
theorem qO {w:World} {X:Nat->Prop} (v:Value):RD w X v (mJ v):=by
 unfold mJ;split
 .exact .nil (by simp)
 .exact .v _
theorem yX {w:World} {μ:Mu} (v:Value):RV w X μ v (dX v):=by
 unfold dX;split
 .refine .d (.agg (by simp) fun j u c hu hc=>?_);rw[List.getElem?_map]at hc;obtain⟨c',YS,rfl⟩:=Option.map_eq_some_iff.1 hc;rw[Array.getElem?_toList]at YS;rw[hu]at YS;obtain rfl:=Option.some.inj YS;exact qO _
 .exact .d (qO _)
theorem In.eval {w:World} {μ:Mu} {a:Act} {σ:St} (hi:In w X G μ N a σ) {o:Operand} {x:AV} (h:aT G σ.env o=some x):RV w X μ (a.eval o) x:=by
 cases o with
 | tmp t=>
  obtain⟨u,hu,hr⟩:=hi.env.slot t x h;simpa[Act.eval,Array.getD_eq_getD_getElem?,hu]using hr
 | const v=>simp only[aT,Option.some.injEq]at h;subst h;exact yX v
 | global g=>
  simp only[aT,Option.map_eq_some_iff]at h;obtain⟨d,hd,rfl⟩:=h;exact .d (hi.eZ g d hd)
 | func f=>simp only[aT,Option.some.injEq]at h;subst h;exact .d (.fn (by simp) (by simp))
theorem kB {c:Operand} {x y:Code} {Q:Exit->St->Prop} {σ:St} (b:Bool) (hc:aT G σ.env c=some (.d (.v (.bool b)))) (ht:b=true->AW P Mv X G N x Q σ) (hf:b=false->AW P Mv X G N y Q σ) :
  AW P Mv X G N (.cond c x y) Q σ:=fun w μ a hi=>by
 have h:=hi.eval hc;have h':a.eval c = .bool b:=h.scalar;exact wpIn_cond_split h' (fun e=>ht e w μ a hi) (fun e=>hf e w μ a hi)
theorem Yx {x y:Code} {c:Operand} {Q:Exit->St->Prop} {σ:St} (hc:aT G σ.env c=some (.d (.v (.bool true)))) (h:AW P Mv X G N x Q σ):AW P Mv X G N (.cond c x y) Q σ:=kB true hc (fun _=>h) (fun h=>by cases h)
theorem ag {x y:Code} {c:Operand} {Q:Exit->St->Prop} {σ:St} (hc:aT G σ.env c=some (.d (.v (.bool false)))) (h:AW P Mv X G N y Q σ):AW P Mv X G N (.cond c x y) Q σ:=kB false hc (fun h=>by cases h) (fun _=>h)
theorem JU {S:Type} {c:Code} {Q:Exit->St->Prop} {σ:St} (inv:S->St) (jG:S->Nat) (s0:S) (h0:aD Mv X G N σ (inv s0))
  (round:∀ s,AW P Mv X G N c (YC (fun af=>∃ s',jG s' < jG s/\aD Mv X G N af (inv s')) Q) (inv s)):AW P Mv X G N (.loop c) Q σ:=fun w μ a hi=>by
 obtain⟨eX,OP,Me⟩:=h0 w μ a hi
 have key:∀ n s w1 μ1 a1,jG s < n->In w1 X G μ1 N a1 (inv s)->Ev Mv w μ w1 μ1->Code.roundsIn (wd N.ro) 0 P c (After Mv X G N w μ Q) n a1 w1:=by
  intro n
  induction n with
  | zero=>intro s w1 μ1 a1 h;omega
  | succ n ih=>
   intro s w1 μ1 a1 Yv ax aB;rw[roundsIn_succ];refine wpIn_mono (round s w1 μ1 a1 ax) fun e a' w' ⟨ak,af,q,i,ev⟩=>?_
   cases e with
   | normal=>
    obtain⟨s',A5,himp⟩:=q;obtain⟨fv,dD,px⟩:=himp w' ak a' i;exact ih s' w' fv a' (by omega) dD (aB.trans (ev.trans px))
   | _=>exact⟨ak,af,q,i,aB.trans ev⟩
 exact wpIn_loop_rounds (jG s0+1) (key _ s0 w eX a (by omega) OP Me)
def pb (P:Program) (Mv X:Nat->Prop) (G:Yt) (f:FuncId) (xs:List AV) (H:Heap) (R:AV->Heap->Prop):Prop:=
 ∀ w μ (vs:Array Value),cw w X μ H->(∀ g x,G g=some x->RD w (XX X μ) (.pointer (some ⟨g,0,none⟩)) x)->vs.size=xs.length->(∀ (i:Nat) (u:Value) (x:AV),vs[i]? = some u->xs[i]? = some x->RV w X μ u x)->
  Calls P f vs w fun e w'=>∃ v x H' ak,e = .returned v/\R x H'/\RV w' X ak v x/\cw w' X ak H'/\Ev Mv w μ w' ak
theorem pb.mono {f:FuncId} {xs:List AV} {H:Heap} {R R':AV->Heap->Prop} (h:pb P Mv X G f xs H R) (hr:∀ x H',R x H'->R' x H'):pb P Mv X G f xs H R':=
 fun w μ vs hs hg hn hv=>(h w μ vs hs hg hn hv).mono fun _ _ ⟨v,x,H',ak,he,r,rest⟩=>⟨v,x,H',ak,he,hr _ _ r,rest⟩
def args (xs:List AV):Env:=fun i=>xs[i]?
def Cs (rs:List ResultVar) (e:Env):Option AV:=
 match rs with
 | []=>some (.d (.v (.tuple #[])))
 | [.tmp t]=>e t
 | [.tmp t,.tmp u]=>match e t,e u with | some x,some y=>some (.aR [x,y]) | _,_=>none
 | [.tmp t,.tmp u,.tmp v]=>match e t,e u,e v with | some x,some y,some z=>some (.aR [x,y,z]) | _,_,_=>none
 | _=>none
theorem Io {fn:Func} {rs:List ResultVar} (hrs:fn.results=rs.toArray) {w:World} {μ:Mu} {a:Act} {σ:St} (hi:In w X G μ N a σ) {x:AV} (h:Cs rs σ.env=some x) :
  ∃ v,(results fn a.tmps).run P w = .ok v w/\RV w X μ v x:=by
 unfold Cs at h;split at h
 .obtain rfl:=Option.some.inj h;exact⟨_,results_none hrs _ _ _,.d (.v _)⟩
 .rename_i t;obtain⟨u,hu,hr⟩:=hi.env.slot t x h;exact⟨_,results_tmp hrs _ _ _,by simpa[Array.getD_eq_getD_getElem?,hu]using hr⟩
 .rename_i t t2;split at h
  .rename_i x1 x2 h1 h2;obtain rfl:=Option.some.inj h;obtain⟨u,hu,hr⟩:=hi.env.slot _ _ h1;obtain⟨u2,p5,lJ⟩:=hi.env.slot _ _ h2;refine⟨_,results_tmp2 hrs _ _ _,.aR (by simp) fun j u3 c hj hc=>?_⟩;simp only[Array.getD_eq_getD_getElem?,hu,p5,Option.getD_some]at hj
   match j,hj,hc with
   | 0,hj,hc=>simp at hj hc;subst hj;subst hc;exact hr
   | 1,hj,hc=>simp at hj hc;subst hj;subst hc;exact lJ
   | j+2,hj,hc=>simp at hc
  .cases h
 .rename_i t t2 t3;split at h
  .rename_i x1 x2 x3 h1 h2 h3;obtain rfl:=Option.some.inj h;obtain⟨u,hu,hr⟩:=hi.env.slot _ _ h1;obtain⟨u2,p5,lJ⟩:=hi.env.slot _ _ h2;obtain⟨u3,P5,PG⟩:=hi.env.slot _ _ h3;refine⟨_,results_tmp3 hrs _ _ _,.aR (by simp) fun j u4 c hj hc=>?_⟩;simp only[Array.getD_eq_getD_getElem?,hu,p5,P5,Option.getD_some]at hj
   match j,hj,hc with
   | 0,hj,hc=>simp at hj hc;subst hj;subst hc;exact hr
   | 1,hj,hc=>simp at hj hc;subst hj;subst hc;exact lJ
   | 2,hj,hc=>simp at hj hc;subst hj;subst hc;exact PG
   | j+3,hj,hc=>simp at hc
  .cases h
 .cases h
def atEnd (rs:List ResultVar) (R:AV->Heap->Prop):Exit->St->Prop
 | .normal,σ | .ret,σ=>∃ x,Cs rs σ.env=some x/\R x σ.H
 | _,_=>False
theorem pb.aI {f:FuncId} {fn:Func} {c:Code} {rs:List ResultVar} {xs:List AV} {H:Heap} {R:AV->Heap->Prop} (hf:P.funcs[f]? = some fn) (hb:fn.body=some c) (hrs:fn.results=rs.toArray)
  (hN:xs.length<=fn.ntmps) (h:AW P Mv X G ⟨fn.ntmps,[],none⟩ c (atEnd rs R) ⟨args xs,H⟩):pb P Mv X G f xs H R:=by
 intro w μ vs hs hg hn hv;refine calls_of_wp hf hb ((wpIn_wide (n:=0)).1 (wpIn_mono (h w μ _ ⟨hs,⟨rfl,by simp;omega,fun i x hx=>?_⟩,hg⟩) fun e a' w' ⟨ak,af,q,i,ev⟩=>?_))
 .simp only[args]at hx;have hi:i < xs.length:=(List.getElem?_eq_some_iff.1 hx).1
  have lL:vs[i]? = some vs[i]:=by rw[Array.getElem?_eq_getElem]
  exact⟨vs[i],by rw[Array.getElem?_append_left (by omega),lL],hv i _ x lL hx⟩
 .cases e with
  | normal=>
   obtain⟨x,hx,r⟩:=q;obtain⟨v,hv,hr⟩:=Io (P:=P) hrs i hx;exact⟨i.env.defers,v,hv,v,x,af.H,ak,rfl,r,hr,i.aL,ev⟩
  | ret=>
   obtain⟨x,hx,r⟩:=q;obtain⟨v,hv,hr⟩:=Io (P:=P) hrs i hx;exact⟨i.env.defers,v,hv,v,x,af.H,ak,rfl,r,hr,i.aL,ev⟩
  | _=>exact q.elim
end
end Go.Av
namespace Go.Av
structure TI where
 desc:TypeDesc
 size:Nat
 bytes:Nat
 zero:Value
 pe:Bool
abbrev Ty:=TypeId->Option TI
def Good (P:Program) (T:Ty):Prop:=∀ t ti,T t=some ti->P.underlying t=some ti.desc/\∃ i,P.info? t=some i/\i.size=ti.size/\i.bytes=ti.bytes/\i.zero=some ti.zero/\(ti.pe=true->P.stoodInHeld t=false/\P.eqGuardType P.depth t=false)
section
variable {P:Program} {T:Ty} {t:TypeId} {ti:TI} {w:World}
theorem Good.bX (h:Good P T) (ht:T t=some ti):(underlying t).run P w = .ok ti.desc w:=run_underlying (h t ti ht).1 w
theorem Good.sizeOf (h:Good P T) (ht:T t=some ti):(Go.sizeOf t).run P w = .ok ti.size w:=by
 obtain⟨_,i,hi,hs,_⟩:=h t ti ht;simp[Go.sizeOf,typeInfo,hi,hs]
theorem Good.zero (h:Good P T) (ht:T t=some ti):(zeroValue t).run P w = .ok ti.zero w:=by
 obtain⟨_,i,hi,_,_,hz,_⟩:=h t ti ht;simp[zeroValue,typeInfo,hi,hz]
end
def TypeDesc.isAgg:TypeDesc->Bool
 | .struct _ | .array _ _=>true
 | _=>false
theorem Good.isAgg {P:Program} {T:Ty} {t:TypeId} {ti:TI} {w:World} (h:Good P T) (ht:T t=some ti):(Go.isAgg t).run P w = .ok (TypeDesc.isAgg ti.desc) w:=by
 simp only[Go.isAgg,Sem.run_bind,h.bX ht,Result.andThen_ok];cases ti.desc<;>rfl
abbrev fV:=Option (Prop×AV)
def bool (b:Bool):AV:=.d (.v (.bool b))
def int (n:Int):AV:=.d (.v (.int .i64 n))
section
variable {w:World} {X:Nat->Prop} {μ:Mu}
theorem RD.k8 {u:Value} {k:Option Bool} {els:List (List D)} (h:RD w X u (.sl k els)) :
  (u = .slice none 0 0/\els=[]/\k≠some true)\/
  (∃ a cap,u = .slice (some a) els.length cap/\k≠some false/\els.length<=cap/\cap<=maxLen/\
   (els=[]\/∃ b off sz,∃ f:Nat->Nat->Value,a=⟨b,off,none⟩/\¬ X b/\0 < sz/\(∀ el∈els,el.length=sz)/\
    (∀ i j,i < els.length->j < sz->w.cell? ⟨b,off+(i * sz+j),none⟩=some (f i j))/\
    (∀ (i j:Nat) (el:List D) (c:D),els[i]? = some el->el[j]? = some c->RD w X (f i j) c))):=by
 generalize hy:D.sl k els=y at h;cases h<;>cases hy
 .exact .inl ⟨rfl,rfl,by assumption⟩
 .exact .inr ⟨_,_,rfl,by assumption,by simp,by assumption,.inl rfl⟩
 .rename_i b off n cap sz f hc hm hX hz aG YX hk hn hs hr;subst hn;exact .inr ⟨_,_,rfl,hk,hc,hm,.inr ⟨b,off,sz,f,rfl,hX,hz,hs,YX,hr⟩⟩
theorem RD.mb {u:Value} {cells:List D} (h:RD w X u (.ip cells)):∃ b off,∃ f:Nat->Value,u = .pointer (some ⟨b,off,none⟩)/\¬ X b/\b < w.heap.size/\
  (∀ j,j < cells.length->w.cell? ⟨b,off+j,none⟩=some (f j))/\(∀ (j:Nat) (c:D),cells[j]? = some c->RD w X (f j) c):=by
 generalize hy:D.ip cells=y at h;cases h<;>cases hy;exact⟨_,_,_,rfl,by assumption,by assumption,by assumption,by assumption⟩
theorem RD.lV {u:Value} {cells:List D} (h:RD w X u (.agg cells)):∃ arr,u = .agg arr/\arr.size=cells.length/\∀ (j:Nat) (u:Value) (c:D),arr[j]? = some u->cells[j]? = some c->RD w X u c:=by
 generalize hy:D.agg cells=y at h;cases h<;>cases hy;exact⟨_,rfl,by assumption,by assumption⟩
theorem RD.r0 {u:Value} {cells:List D} (h:RD w X u (.aR cells)):∃ arr,u = .tuple arr/\arr.size=cells.length/\∀ (j:Nat) (u:Value) (c:D),arr[j]? = some u->cells[j]? = some c->RD w X u c:=by
 generalize hy:D.aR cells=y at h;cases h<;>cases hy;exact⟨_,rfl,by assumption,by assumption⟩
theorem RD.oL {u:Value} {t:TypeId} {x:D} (h:RD w X u (.bg t x)):∃ v,u = .iface t v/\RD w X v x:=by
 generalize hy:D.bg t x=y at h;cases h<;>cases hy;exact⟨_,rfl,by assumption⟩
theorem RD.qV {u:Value} {f:Fn} {cells:List D} (h:RD w X u (.fn f cells)):∃ arr,u = .func f #[] arr/\arr.size=cells.length/\∀ (j:Nat) (u:Value) (c:D),arr[j]? = some u->cells[j]? = some c->RD w X u c:=by
 generalize hy:D.fn f cells=y at h;cases h<;>cases hy;exact⟨_,rfl,by assumption,by assumption⟩
theorem RV.lV {u:Value} {cells:List AV} (h:RV w X μ u (.agg cells)):∃ arr,u = .agg arr/\arr.size=cells.length/\∀ (j:Nat) (u:Value) (c:AV),arr[j]? = some u->cells[j]? = some c->RV w X μ u c:=by
 generalize hy:AV.agg cells=y at h;cases h<;>cases hy;exact⟨_,rfl,by assumption,by assumption⟩
theorem RV.r0 {u:Value} {cells:List AV} (h:RV w X μ u (.aR cells)):∃ arr,u = .tuple arr/\arr.size=cells.length/\∀ (j:Nat) (u:Value) (c:AV),arr[j]? = some u->cells[j]? = some c->RV w X μ u c:=by
 generalize hy:AV.aR cells=y at h;cases h<;>cases hy;exact⟨_,rfl,by assumption,by assumption⟩
theorem RV.oL {u:Value} {t:TypeId} {x:AV} (h:RV w X μ u (.bg t x)):∃ v,u = .iface t v/\RV w X μ v x:=by
 generalize hy:AV.bg t x=y at h;cases h<;>cases hy;exact⟨_,rfl,by assumption⟩
theorem RV.adD {u:Value} {g:FuncId} {x:AV} (h:RV w X μ u (.bm g x)):∃ v,u = .func (.func g) #[v] #[]/\RV w X μ v x:=by
 generalize hy:AV.bm g x=y at h;cases h<;>cases hy;exact⟨_,rfl,by assumption⟩
theorem RV.qV {u:Value} {f:Fn} {cells:List AV} (h:RV w X μ u (.fn f cells)):∃ arr,u = .func f #[] arr/\arr.size=cells.length/\∀ (j:Nat) (u:Value) (c:AV),arr[j]? = some u->cells[j]? = some c->RV w X μ u c:=by
 generalize hy:AV.fn f cells=y at h;cases h<;>cases hy;exact⟨_,rfl,by assumption,by assumption⟩
theorem RV.gV {u:Value} {r off n:Nat} (h:RV w X μ u (.own r off n)):∃ m,μ r=some m/\((m.Y3=none/\u = .slice none 0 0/\off=0/\n=0)\/(∃ b,m.Y3=some b/\u = .slice (some ⟨b,off * m.sz,none⟩) n (m.cap - off)/\off+n<=m.cap)):=by
 generalize hy:AV.own r off n=y at h;cases h<;>cases hy;exact⟨_,by assumption,by assumption⟩
theorem RV.gC {u:Value} {r e j:Nat} (h:RV w X μ u (.ref r e j)):∃ m b,μ r=some m/\m.Y3=some b/\u = .pointer (some ⟨b,e * m.sz+j,none⟩):=by
 generalize hy:AV.ref r e j=y at h;cases h<;>cases hy;exact⟨_,_,by assumption,by assumption,rfl⟩
end
def ZM:List AV->Option (List D)
 | []=>some []
 | .d x :: l=>(ZM l).map (x :: ·)
 | _ :: _=>none
def kr (l:List AV):AV:=match ZM l with
 | some ds=>.d (.agg ds)
 | none=>.agg l
theorem jZ:∀ {l:List AV} {ds:List D},ZM l=some ds->l=ds.map .d
 | [],ds,h=>by simp[ZM]at h;simp[h]
 | x :: l,ds,h=>by
  cases x with
  | d x=>
   simp only[ZM,Option.map_eq_some_iff]at h;obtain⟨dh,h',rfl⟩:=h;simp[jZ h']
  | _=>simp[ZM]at h
theorem tW {w:World} {X:Nat->Prop} {μ:Mu} {u:Value} {l:List AV} (h:RV w X μ u (.agg l)):RV w X μ u (kr l):=by
 unfold kr;split
 .rename_i ds hd;rw[jZ hd]at h;obtain⟨arr,rfl,hn,hr⟩:=h.lV;refine .d (.agg (by simpa using hn) fun j u c hu hc=>?_);exact (hr j u (.d c) hu (by rw[List.getElem?_map,hc];rfl)).data
 .exact h
def j0 (T:Ty) (t:TypeId) (cells:List AV):fV:=match T t with
 | none=>none
 | some ti=>if TypeDesc.isAgg ti.desc then some (ti.size<=cells.length,kr (cells.take ti.size)) else some (cells≠[],cells.headD .dead)
def mG (T:Ty) (t:TypeId) (cells:List D):fV:=match T t with
 | none=>none
 | some ti=>if TypeDesc.isAgg ti.desc then some (ti.size<=cells.length,.d (.agg (cells.take ti.size))) else some (cells≠[],.d (cells.headD default))
theorem addr_add (b o j:Nat):(⟨b,o,none⟩:Addr).add j=⟨b,o+j,none⟩:=by unfold Addr.add;split<;>simp_all
theorem IX {P:Program} {T:Ty} (hg:Good P T) {t:TypeId} {ti:TI} (ht:T t=some ti) {w:World} {b o n:Nat} (f:Nat->Value) (hc:∀ j,j < n->w.cell? ⟨b,o+j,none⟩=some (f j)) :
  (TypeDesc.isAgg ti.desc=true->ti.size<=n->(loadVar t ⟨b,o,none⟩).run P w = .ok (.agg ((Array.range ti.size).map f)) w)/\
  (TypeDesc.isAgg ti.desc=false->0 < n->(loadVar t ⟨b,o,none⟩).run P w = .ok (f 0) w):=by
 constructor
 .intro ha hn;have:=run_loadCells (P:=P) w ⟨b,o,none⟩ ti.size f (fun j hj=>by rw[addr_add];exact hc j (by omega));simp only[loadVar,Sem.run_bind,hg.isAgg ht,Result.andThen_ok,ha,if_true,hg.sizeOf ht,this,Sem.run_pure];congr 1;apply congrArg;apply Array.ext
  .simp
  .intro i h1 h2;simp
 .intro ha hn;have h0:=hc 0 hn;simp only[Nat.add_zero]at h0;simp[loadVar,hg.isAgg ht,ha,h0]
def iL (T:Ty) (H:Heap) (t:TypeId):AV->fV
 | .d (.ip cells)=>mG T t cells
 | .ref r e j=>match H r with
  | some (.box _ cells)=>if e=0 then j0 T t (cells.drop j) else none
  | some (.sl _ sz els)=>match mG T t ((els.getD e []).drop j) with
   | some (c,x)=>some (e < els.length/\j < sz/\c,x)
   | none=>none
  | some (.mp _ _)=>none
  | some (.it _ _)=>none
  | none=>none
 | _=>none
theorem Dx {P:Program} {T:Ty} (hg:Good P T) {w:World} {X:Nat->Prop} {μ:Mu} {t:TypeId} {cells:List D} {c:Prop} {x:AV} (h:mG T t cells=some (c,x)) (hc:c) {b o:Nat} (f:Nat->Value)
  (YX:∀ j,j < cells.length->w.cell? ⟨b,o+j,none⟩=some (f j)) (hr:∀ (j:Nat) (c:D),cells[j]? = some c->RD w (XX X μ) (f j) c):∃ v,(loadVar t ⟨b,o,none⟩).run P w = .ok v w/\RV w X μ v x:=by
 unfold mG at h;split at h
 .cases h
 .rename_i ti ht;have hl:=IX hg ht f YX;split at h
  .rename_i ha;simp only[Option.some.injEq,Prod.mk.injEq]at h;obtain⟨rfl,rfl⟩:=h;refine⟨_,hl.1 ha hc,.d (.agg (by simp;omega) fun j u d hu hd=>?_)⟩;rw[List.getElem?_take]at hd;split at hd
   .rename_i hj;simp[hj]at hu;subst hu;exact hr j d hd
   .cases hd
  .rename_i ha;simp only[Option.some.injEq,Prod.mk.injEq]at h;obtain⟨rfl,rfl⟩:=h
   cases cells with
   | nil=>exact absurd rfl hc
   | cons d l=>exact⟨_,hl.2 (by simpa using ha) (by simp),.d (hr 0 d rfl)⟩
theorem KM {P:Program} {T:Ty} (hg:Good P T) {w:World} {X:Nat->Prop} {μ:Mu} {t:TypeId} {cells:List AV} {c:Prop} {x:AV} (h:j0 T t cells=some (c,x)) (hc:c) {b o:Nat} (f:Nat->Value)
  (YX:∀ j,j < cells.length->w.cell? ⟨b,o+j,none⟩=some (f j)) (hr:∀ (j:Nat) (c:AV),cells[j]? = some c->RV w X μ (f j) c):∃ v,(loadVar t ⟨b,o,none⟩).run P w = .ok v w/\RV w X μ v x:=by
 unfold j0 at h;split at h
 .cases h
 .rename_i ti ht;have hl:=IX hg ht f YX;split at h
  .rename_i ha;simp only[Option.some.injEq,Prod.mk.injEq]at h;obtain⟨rfl,rfl⟩:=h;refine⟨_,hl.1 ha hc,tW (.agg (by simp;omega) fun j u d hu hd=>?_)⟩;rw[List.getElem?_take]at hd;split at hd
   .rename_i hj;simp[hj]at hu;subst hu;exact hr j d hd
   .cases hd
  .rename_i ha;simp only[Option.some.injEq,Prod.mk.injEq]at h;obtain⟨rfl,rfl⟩:=h
   cases cells with
   | nil=>exact absurd rfl hc
   | cons d l=>exact⟨_,hl.2 (by simpa using ha) (by simp),hr 0 d rfl⟩
theorem He {P:Program} {T:Ty} (hg:Good P T) {w:World} {X:Nat->Prop} {μ:Mu} {H:Heap} (hs:cw w X μ H) {t:TypeId} {u:Value} {x y:AV} {c:Prop} (h:iL T H t x=some (c,y)) (hc:c) (hx:RV w X μ u x) :
  ∃ v,(Instr.loadAt t u).run P w = .ok v w/\RV w X μ v y:=by
 unfold iL at h;split at h
 .rename_i cells;obtain⟨b,off,f,rfl,_,_,YX,hr⟩:=hx.data.mb;simpa[Instr.loadAt,Instr.sureAddr]using Dx (P:=P) hg h hc f YX hr
 .rename_i r e j;obtain⟨m,b,hm,hb,rfl⟩:=hx.gC;split at h
  .rename_i ty cells hH;split at h
   .rename_i he;subst he;obtain⟨m',bA,ok⟩:=hs.rows r _ hH;rw[hm]at bA;obtain rfl:=Option.some.inj bA
    cases ok with
    | box aH aK fL hh hn hr Bm=>
     rename_i b' cur;rw[hb]at aH;obtain rfl:=Option.some.inj aH
     have YX:∀ i,i < (cells.drop j).length->w.cell? ⟨b,0 * m.sz+j+i,none⟩=some (cur.getD (j+i) undef):=by
      intro i hi;simp only[List.length_drop]at hi;rw[Nat.zero_mul,Nat.zero_add,cell_of_row w b (j+i) cur ty (0,0) hh];simp[Array.getD_eq_getD_getElem?,show j+i < cur.size by omega]
     simp only[Instr.loadAt,Instr.sureAddr,Sem.run_bind,Sem.run_pure,Result.andThen_ok];refine KM (P:=P) hg h hc (fun i=>cur.getD (j+i) undef) YX fun i d hd=>?_;rw[List.getElem?_drop]at hd;have Yv:j+i < cells.length:=(List.getElem?_eq_some_iff.1 hd).1;refine hr (j+i) _ d ?_ hd;simp[Array.getD_eq_getD_getElem?,show j+i < cur.size by omega]
   .cases h
  .rename_i ty sz els hH;split at h
   .rename_i c' x' hv;simp only[Option.some.injEq,Prod.mk.injEq]at h;obtain⟨rfl,rfl⟩:=h;obtain⟨he,hj,YS⟩:=hc;obtain⟨m',bA,ok⟩:=hs.rows r _ hH;rw[hm]at bA;obtain rfl:=Option.some.inj bA
    cases ok with
    | nil aH _=>rw[hb]at aH;cases aH
    | sl aH aK hh bR hn dK hl hz hr=>
     rename_i b' cur;rw[hb]at aH;obtain rfl:=Option.some.inj aH;subst aK
     have aJ:els.getD e []=els[e]:=by simp[List.getD_eq_getElem?_getD,he]
     have hlen:(els[e]).length=m.sz:=hl _ (List.getElem_mem he)
     have Yv:∀ i,j+i < m.sz->e * m.sz+(j+i) < cur.size:=by
      intro i hi;rw[bR];have:(e+1) * m.sz<=m.cap * m.sz:=Nat.mul_le_mul_right _ (by omega);rw[Nat.add_mul]at this;omega
     rw[aJ]at hv
     have YX:∀ i,i < ((els[e]).drop j).length->w.cell? ⟨b,e * m.sz+j+i,none⟩=some (cur.getD (e * m.sz+(j+i)) undef):=by
      intro i hi;simp only[List.length_drop,hlen]at hi;have:=Yv i (by omega);rw[cell_of_row w b (e * m.sz+j+i) cur ty (0,0) hh];simp[Array.getD_eq_getD_getElem?,Nat.add_assoc,this]
     simp only[Instr.loadAt,Instr.sureAddr,Sem.run_bind,Sem.run_pure,Result.andThen_ok];refine Dx (P:=P) hg hv YS (fun i=>cur.getD (e * m.sz+(j+i)) undef) YX fun i d hd=>?_;rw[List.getElem?_drop]at hd;obtain⟨u',ZU,bq⟩:=hr e (j+i) _ d (List.getElem?_eq_getElem he) hd;simpa[Array.getD_eq_getD_getElem?,ZU]using bq
   .cases h
  .cases h
  .cases h
  .cases h
 .cases h
def j3 (T:Ty) (t:TypeId):Option Nat:=match T t with
 | some ti=>match ti.desc with
  | .slice e=>(T e).map (·.size)
  | _=>none
 | none=>none
def r9 (T:Ty) (t:TypeId):Option (Nat×Nat):=match T t with
 | some ti=>match ti.desc with
  | .array n e=>(T e).map fun te=>(n,te.size)
  | _=>none
 | none=>none
def kV (T:Ty) (H:Heap) (t:TypeId):AV->AV->fV
 | .d (.sl _ els),.d (.v (.int _ i))=>match j3 T t with
  | some s=>some (0<=i/\i < els.length/\(els.getD i.toNat []).length=s,.d (.ip (els.getD i.toNat [])))
  | none=>none
 | .own r off n,.d (.v (.int _ i))=>match j3 T t,H r with
  | some s,some (.sl _ sz _)=>some (0<=i/\i < n/\sz=s,.ref r (off+i.toNat) 0)
  | some s,some (.box _ _)=>some (0<=i/\i < n/\off=0,.ref r 0 (i.toNat * s))
  | _,_=>none
 | .d (.ip cells),.d (.v (.int _ i))=>match r9 T t with
  | some (n,s)=>some (0<=i/\i < n,.d (.ip (cells.drop (i.toNat * s))))
  | none=>none
 | .ref r e j,.d (.v (.int _ i))=>match r9 T t with
  | some (n,s)=>some (0<=i/\i < n,.ref r e (j+i.toNat * s))
  | none=>none
 | _,_=>none
theorem IW {P:Program} {T:Ty} (hg:Good P T) {t:TypeId} {n s:Nat} (h:r9 T t=some (n,s)) {w:World} {b o:Nat} {k:IntKind} {i:Int} (h0:0<=i) (h1:i < n) :
  (Instr.indexAt t (.pointer (some ⟨b,o,none⟩)) (.int k i)).run P w = .ok (.pointer (some ⟨b,o+i.toNat * s,none⟩)) w:=by
 unfold r9 at h;split at h
 .rename_i ti ht;split at h
  .rename_i n' e hd;obtain⟨te,bJ,he⟩:=Option.map_eq_some_iff.1 h;simp only[Prod.mk.injEq]at he;obtain⟨rfl,rfl⟩:=he;obtain⟨m,rfl⟩:=Int.eq_ofNat_of_zero_le h0
   have hm:m < n':=by omega
   simp[Instr.indexAt,asIntOf,hg.bX ht,hd,Instr.sureAddr,hg.sizeOf bJ,addr_add,hm]
  .cases h
 .cases h
theorem Qo {P:Program} {T:Ty} (hg:Good P T) {w:World} {X:Nat->Prop} {μ:Mu} {H:Heap} (hs:cw w X μ H) {t:TypeId} {u v:Value} {x y z:AV} {c:Prop} (h:kV T H t x y=some (c,z)) (hc:c)
  (hx:RV w X μ u x) (hy:RV w X μ v y):∃ r,(Instr.indexAt t u v).run P w = .ok r w/\RV w X μ r z:=by
 unfold kV at h;split at h
 .rename_i k els kd i;split at h
  .rename_i s he;simp only[Option.some.injEq,Prod.mk.injEq]at h;obtain⟨rfl,rfl⟩:=h;obtain⟨h0,h1,h2⟩:=hc;unfold j3 at he;split at he
   .rename_i ti ht;split at he
    .rename_i e hd;obtain⟨te,bJ,rfl⟩:=Option.map_eq_some_iff.1 he;have hv:=hy.scalar;subst hv;obtain⟨n,rfl⟩:=Int.eq_ofNat_of_zero_le h0;simp only[Int.toNat_natCast]at h2 ⊢
     have hn:n < els.length:=by omega
     rcases hx.data.k8 with⟨rfl,rfl,_⟩ | ⟨a,cap,rfl,_,fL,_,hr⟩
     .simp at hn
     .rcases hr with rfl | ⟨b,off,sz,f,rfl,hX,hz,aK,YX,hr⟩
      .simp at hn
      .have aJ:els.getD n []=els[n]:=by simp[List.getD_eq_getElem?_getD,hn]
       rw[aJ]at h2 ⊢;have e2:(els[n]).length=sz:=aK _ (List.getElem_mem hn);refine⟨.pointer (some ⟨b,off+n * sz,none⟩),?_,.d (.ip (f:=fun j=>f n j) hX (vg (YX 0 0 (by omega) hz)) (fun j hj=>?_) (fun j d hd=>hr n j _ d (List.getElem?_eq_getElem hn) hd))⟩
       .simp[Instr.indexAt,asIntOf,hg.bX ht,hd,hg.sizeOf bJ,addr_add,<- h2,e2];intro hh;omega
       .rw[Nat.add_assoc];exact YX n j hn (by omega)
    .cases he
   .cases he
  .cases h
 .rename_i r off n kd i;split at h
  .rename_i s ty sz els he hH;simp only[Option.some.injEq,Prod.mk.injEq]at h;obtain⟨rfl,rfl⟩:=h;obtain⟨h0,h1,rfl⟩:=hc;unfold j3 at he;split at he
   .rename_i ti ht;split at he
    .rename_i e hd;obtain⟨te,bJ,pN⟩:=Option.map_eq_some_iff.1 he;have hv:=hy.scalar;subst hv;obtain⟨k,rfl⟩:=Int.eq_ofNat_of_zero_le h0;simp only[Int.toNat_natCast];obtain⟨m,hm,hu⟩:=hx.gV;obtain⟨m',bA,ok⟩:=hs.rows r _ hH;rw[hm]at bA;obtain rfl:=Option.some.inj bA
     rcases hu with⟨_,_,_,rfl⟩ | ⟨b,hb,rfl,hle⟩
     .omega
     .have aK:m.sz=sz:=by cases ok<;>assumption
      refine⟨.pointer (some ⟨b,(off+k) * m.sz+0,none⟩),?_,.ref hm hb⟩;simp[Instr.indexAt,asIntOf,hg.bX ht,hd,hg.sizeOf bJ,addr_add,pN,<- aK,Nat.add_mul];intro hh;omega
    .cases he
   .cases he
  .rename_i s ty cells he hH;simp only[Option.some.injEq,Prod.mk.injEq]at h;obtain⟨rfl,rfl⟩:=h;obtain⟨h0,h1,rfl⟩:=hc;unfold j3 at he;split at he
   .rename_i ti ht;split at he
    .rename_i e hd;obtain⟨te,bJ,pN⟩:=Option.map_eq_some_iff.1 he;have hv:=hy.scalar;subst hv;obtain⟨k,rfl⟩:=Int.eq_ofNat_of_zero_le h0;simp only[Int.toNat_natCast];obtain⟨m,hm,hu⟩:=hx.gV
     rcases hu with⟨_,_,_,rfl⟩ | ⟨b,hb,rfl,hle⟩
     .omega
     .refine⟨.pointer (some ⟨b,0 * m.sz+k * s,none⟩),?_,.ref hm hb⟩;simp[Instr.indexAt,asIntOf,hg.bX ht,hd,hg.sizeOf bJ,addr_add,pN];intro hh;omega
    .cases he
   .cases he
  .cases h
 .rename_i cells kd i;split at h
  .rename_i n s ha;simp only[Option.some.injEq,Prod.mk.injEq]at h;obtain⟨rfl,rfl⟩:=h;obtain⟨b,off,f,rfl,hX,hb,YX,hr⟩:=hx.data.mb;have hv:=hy.scalar;subst hv;refine⟨_,IW hg ha hc.1 hc.2,.d (.ip (f:=fun q=>f (i.toNat * s+q)) hX hb (fun q hq=>?_) (fun q d hd=>?_))⟩
   .simp only[List.length_drop]at hq;rw[Nat.add_assoc];exact YX _ (by omega)
   .rw[List.getElem?_drop]at hd;exact hr _ d hd
  .cases h
 .rename_i r e j kd i;split at h
  .rename_i n s ha;simp only[Option.some.injEq,Prod.mk.injEq]at h;obtain⟨rfl,rfl⟩:=h;obtain⟨m,b,hm,hb,rfl⟩:=hx.gC;have hv:=hy.scalar;subst hv;refine⟨_,IW hg ha hc.1 hc.2,?_⟩;rw[Nat.add_assoc];exact .ref hm hb
  .cases h
 .cases h
def aa7 (T:Ty) (t:TypeId) (f:Nat):Option (Field×Nat):=match T t with
 | some ti=>match ti.desc with
  | .struct fs=>match fs[f]? with
   | some fl=>(T fl.type).map fun tf=>(fl,tf.size)
   | none=>none
  | _=>none
 | none=>none
def vC (T:Ty) (t:TypeId) (f:Nat):AV->fV
 | .d (.ip cells)=>match aa7 T t f with
  | some (fl,s)=>some (0 < s,.d (.ip (cells.drop fl.offset)))
  | none=>none
 | .ref r e j=>match aa7 T t f with
  | some (fl,s)=>some (0 < s,.ref r e (j+fl.offset))
  | none=>none
 | _=>none
theorem IV {P:Program} {T:Ty} (hg:Good P T) {t:TypeId} {f:Nat} {fl:Field} {s:Nat} (h:aa7 T t f=some (fl,s)) (hs:0 < s) {w:World} {b o:Nat} :
  (Instr.fieldAt t (.pointer (some ⟨b,o,none⟩)) f).run P w = .ok (.pointer (some ⟨b,o+fl.offset,none⟩)) w:=by
 unfold aa7 at h;split at h
 .rename_i ti ht;split at h
  .rename_i fs hd;split at h
   .rename_i ME hf;obtain⟨tf,wT,he⟩:=Option.map_eq_some_iff.1 h;simp only[Prod.mk.injEq]at he;obtain⟨rfl,rfl⟩:=he
    have:¬ tf.size=0:=by omega
    simp[Instr.fieldAt,hg.bX ht,hd,hf,Instr.sureAddr,fieldPlace,hg.sizeOf wT,this,addr_add]
   .cases h
  .cases h
 .cases h
theorem adH {P:Program} {T:Ty} (hg:Good P T) {w:World} {X:Nat->Prop} {μ:Mu} {t:TypeId} {f:Nat} {u:Value} {x z:AV} {c:Prop} (h:vC T t f x=some (c,z)) (hc:c)
  (hx:RV w X μ u x):∃ r,(Instr.fieldAt t u f).run P w = .ok r w/\RV w X μ r z:=by
 unfold vC at h;split at h
 .rename_i cells;split at h
  .rename_i fl s hf;simp only[Option.some.injEq,Prod.mk.injEq]at h;obtain⟨rfl,rfl⟩:=h;obtain⟨b,off,f',rfl,hX,hb,YX,hr⟩:=hx.data.mb;refine⟨_,IV hg hf hc,.d (.ip (f:=fun j=>f' (fl.offset+j)) hX hb (fun j hj=>?_) (fun j d hd=>?_))⟩
   .simp only[List.length_drop]at hj;rw[Nat.add_assoc];exact YX _ (by omega)
   .rw[List.getElem?_drop]at hd;exact hr _ d hd
  .cases h
 .rename_i r e j;split at h
  .rename_i fl s hf;simp only[Option.some.injEq,Prod.mk.injEq]at h;obtain⟨rfl,rfl⟩:=h;obtain⟨m,b,hm,hb,rfl⟩:=hx.gC;refine⟨_,IV hg hf hc,?_⟩;rw[Nat.add_assoc];exact .ref hm hb
  .cases h
 .cases h
def vB (T:Ty) (t:TypeId) (f:Nat):AV->fV
 | .d (.agg cells)=>match aa7 T t f with
  | some (fl,_)=>mG T fl.type (cells.drop fl.offset)
  | none=>none
 | .agg cells=>match aa7 T t f with
  | some (fl,_)=>j0 T fl.type (cells.drop fl.offset)
  | none=>none
 | _=>none
theorem Dy {P:Program} {T:Ty} (hg:Good P T) {w:World} {X:Nat->Prop} {μ:Mu} {t:TypeId} {cells:List AV} {c:Prop} {x:AV} {arr:Array Value} {off:Nat} (h:j0 T t (cells.drop off)=some (c,x)) (hc:c)
  (hn:arr.size=cells.length) (hr:∀ (j:Nat) (u:Value) (c:AV),arr[j]? = some u->cells[j]? = some c->RV w X μ u c):∃ v,(part t arr off).run P w = .ok v w/\RV w X μ v x:=by
 unfold j0 at h;split at h
 .cases h
 .rename_i ti ht;split at h
  .rename_i ha;simp only[Option.some.injEq,Prod.mk.injEq]at h;obtain⟨rfl,rfl⟩:=h;simp only[List.length_drop]at hc;refine⟨.agg (arr.extract off (off+ti.size)),by simp[part,hg.isAgg ht,ha,hg.sizeOf ht],tW (.agg ?_ fun j u d hu hd=>?_)⟩
   .simp;omega
   .rw[List.getElem?_take]at hd;split at hd
    .rename_i hj;rw[List.getElem?_drop]at hd;rw[Array.getElem?_extract]at hu;split at hu
     .exact hr _ u d hu hd
     .cases hu
    .cases hd
  .rename_i ha;simp only[Option.some.injEq,Prod.mk.injEq]at h;obtain⟨rfl,rfl⟩:=h
   have Yv:off < cells.length:=by
    rcases Nat.lt_or_ge off cells.length with h | h
    .exact h
    .exact absurd (List.drop_eq_nil_of_le h) hc
   have hd:(cells.drop off).headD .dead=cells[off]:=by rw[List.drop_eq_getElem_cons Yv];rfl
   rw[hd]
   have abx:off < arr.size:=by omega
   exact⟨arr[off],by simp[part,hg.isAgg ht,ha,abx],hr off _ _ (by simp[abx]) (by simp[Yv])⟩
theorem RV.rE {w:World} {X:Nat->Prop} {μ:Mu} {arr:Array Value} {cells:List D} (hr:∀ (j:Nat) (u:Value) (c:D),arr[j]? = some u->cells[j]? = some c->RD w (XX X μ) u c) :
  ∀ (j:Nat) (u:Value) (c:AV),arr[j]? = some u->(cells.map AV.d)[j]? = some c->RV w X μ u c:=by
 intro j u c hu hc;rw[List.getElem?_map]at hc;obtain⟨c',YS,rfl⟩:=Option.map_eq_some_iff.1 hc;exact .d (hr j u c' hu YS)
theorem acS (l:List D):ZM (l.map .d)=some l:=by
 induction l with
 | nil=>rfl
 | cons x l ih=>simp[ZM,ih]
theorem RB (l:List D):kr (l.map .d) = .d (.agg l):=by simp[kr,acS]
theorem Dw (T:Ty) (t:TypeId) (cells:List D) {c:Prop} {x:AV} (h:mG T t cells=some (c,x)) (hc:c):∃ c',j0 T t (cells.map .d)=some (c',x)/\c':=by
 unfold mG at h;unfold j0
 cases ht:T t with
 | none=>rw[ht]at h;cases h
 | some ti=>
  rw[ht]at h;dsimp only at h ⊢;split at h
  .rename_i ha;simp only[Option.some.injEq,Prod.mk.injEq]at h;obtain⟨rfl,rfl⟩:=h;rw[if_pos ha];exact⟨_,by rw[<- List.map_take,RB],by simpa using hc⟩
  .rename_i ha;simp only[Option.some.injEq,Prod.mk.injEq]at h;obtain⟨rfl,rfl⟩:=h;rw[if_neg ha]
   cases cells with
   | nil=>exact absurd rfl hc
   | cons d l=>exact⟨_,rfl,by simp⟩
theorem Mt {P:Program} {T:Ty} (hg:Good P T) {w:World} {X:Nat->Prop} {μ:Mu} {t:TypeId} {f:Nat} {u:Value} {x z:AV} {c:Prop} (h:vB T t f x=some (c,z)) (hc:c)
  (hx:RV w X μ u x):∃ r,(Instr.field t u f).run P w = .ok r w/\RV w X μ r z:=by
 have key:∀ (arr:Array Value) (cells:List AV) (fl:Field) (s:Nat) (c':Prop),aa7 T t f=some (fl,s)->j0 T fl.type (cells.drop fl.offset)=some (c',z)->c'->arr.size=cells.length->
   (∀ (j:Nat) (u:Value) (c:AV),arr[j]? = some u->cells[j]? = some c->RV w X μ u c)->∃ r,(Instr.field t (.agg arr) f).run P w = .ok r w/\RV w X μ r z:=by
  intro arr cells fl s c' hf hv YS hn hr;obtain⟨v,hv,Zt⟩:=Dy (P:=P) hg hv YS hn hr;unfold aa7 at hf;split at hf
  .rename_i ti ht;split at hf
   .rename_i fs hd;split at hf
    .rename_i ME Am;obtain⟨tf,wT,he⟩:=Option.map_eq_some_iff.1 hf;simp only[Prod.mk.injEq]at he;obtain⟨rfl,rfl⟩:=he;exact⟨v,by simp[Instr.field,hg.bX ht,hd,Am,asAgg,hv],Zt⟩
    .cases hf
   .cases hf
  .cases hf
 unfold vB at h;split at h
 .rename_i cells;split at h
  .rename_i fl s hf;obtain⟨arr,rfl,hn,hr⟩:=hx.data.lV;obtain⟨c',h',YS⟩:=Dw T fl.type _ h hc;rw[List.map_drop]at h';exact key arr _ fl s c' hf h' YS (by simpa using hn) (RV.rE hr)
  .cases h
 .rename_i cells;split at h
  .rename_i fl s hf;obtain⟨arr,rfl,hn,hr⟩:=hx.lV;exact key arr cells fl s c hf h hc hn hr
  .cases h
 .cases h
