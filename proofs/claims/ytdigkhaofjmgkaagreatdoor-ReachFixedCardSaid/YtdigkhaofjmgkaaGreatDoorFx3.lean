/- Parts. -/
import Derived.Test.YtdigkhaofjmgkaaGreatDoorFx2
import Derived.LoopN
import Derived.LoopNIn
import Derived.OrdersIn
set_option linter.unusedSectionVars false
set_option linter.unusedSimpArgs false
set_option linter.unusedVariables false
namespace Go.Av
structure Fr where
 n:Nat
 ds:List Deferred
 ro:Option Nat
def wd (ro:Option Nat):Fence:={ Fence.wide with round:=ro }
theorem ML {P:Program} {f:FuncId} {args:Array Value} {w:World} {R:Ending->World->Prop} {ro:Option Nat} {n:Nat} (h:Calls P f args w R):CallsIn (wd ro) n P f args w R:=
 (callsIn_wide (n:=n)).2 h
theorem aab {P:Program} {row:String} {args:Array Value} {w:World} {R:Value->World->Prop} {ro:Option Nat} {n:Nat} (h:Rows P row args w R):RowsIn (wd ro) n P row args w R:=
 fun c cs _=>let ⟨v,w',r,s⟩:=h c cs;⟨v,w',r,stepsIn_wide.2 s⟩
theorem vD {P:Program} {o:Oper} {a:Act} {w:World} {next:Act->World->Prop} {Q:Exit->Act->World->Prop} {ro:Option Nat} (hd:∀ c,o.op≠.defer c) (h:o.wp P a w next Q):o.wpIn (wd ro) 0 P a w next Q:=by
 refine⟨fun _ _=>trivial,?_⟩
 have e:o.semAt (wd ro).round a.eval=execOp a.eval o:=by
  cases ro with
  | none=>rfl
  | some l=>show Oper.semAt (some l) a.eval o=_;unfold Oper.semAt;cases ho:o.op<;>first | rfl | exact absurd ho (hd _)
 rw[e];unfold Oper.wp at h;generalize (execOp a.eval o).run P w=r at h ⊢
 cases r with
 | ok x w'=>
  cases x<;>simp only[Oper.upon,Oper.uponIn]at h ⊢<;>first | exact h | exact⟨fun e=>(by cases e),ML h⟩ | exact⟨fun e=>(by cases e),aab h⟩ | exact h.elim
 | halt x w'=>cases x<;>simp only[Oper.upon,Oper.uponIn]at h ⊢<;>first | exact h | exact h.elim
abbrev Env:=Nat->Option AV
structure St where
 env:Env
 H:Heap
def eW (e:Env) (i:Nat) (x:AV):Env:=fun j=>if j=i then some x else e j
def aM (H:Heap) (r:Nat) (row:Row):Heap:=fun q=>if q=r then some row else H q
def fD:Heap:=fun _=>none
def aV (l:List (Nat×AV)):Env:=fun i=>l.lookup i
def ak (l:List (Nat×Row)):Heap:=fun i=>l.lookup i
abbrev aq:=Nat->Option D
structure Nf (w:World) (X:Nat->Prop) (μ:Mu) (N:Fr) (a:Act) (env:Env):Prop where
 defers:a.defers=N.ds
 size:a.tmps.size=N.n
 slot:∀ i x,env i=some x->∃ u,a.tmps[i]? = some u/\RV w X μ u x
structure In (w:World) (X:Nat->Prop) (G:aq) (μ:Mu) (N:Fr) (a:Act) (σ:St):Prop where
 aX:Sim w X μ σ.H
 env:Nf w X μ N a σ.env
 gr:∀ g x,G g=some x->RD w (XX X μ) (.pointer (some ⟨g,0,none⟩)) x
def aB (Mv X:Nat->Prop) (G:aq) (N:Fr) (σ τ:St):Prop:=∀ w μ a,In w X G μ N a σ->∃ ay,In w X G ay N a τ/\Ev Mv w μ w ay
theorem aB.refl {Mv X:Nat->Prop} {G:aq} {N:Fr} (σ:St):aB Mv X G N σ σ:=fun w μ _ h=>⟨μ,h,.refl _ w μ⟩
theorem aB.trans {Mv X:Nat->Prop} {G:aq} {N:Fr} {σ τ υ:St} (h:aB Mv X G N σ τ) (h':aB Mv X G N τ υ):aB Mv X G N σ υ:=fun w μ a hi=>
 let ⟨_,hi1,e1⟩:=h w μ a hi
 let ⟨μ2,eE,e2⟩:=h' _ _ _ hi1
 ⟨μ2,eE,e1.trans e2⟩
section
variable {P:Program} {Mv X:Nat->Prop} {G:aq} {N:Fr}
def After (Mv X:Nat->Prop) (G:aq) (N:Fr) (w:World) (μ:Mu) (Q:Exit->St->Prop) (e:Exit) (a':Act) (w':World):Prop:=
 ∃ ay aw,Q e aw/\In w' X G ay N a' aw/\Ev Mv w μ w' ay
def AW (P:Program) (Mv X:Nat->Prop) (G:aq) (N:Fr) (c:Code) (Q:Exit->St->Prop) (σ:St):Prop:=
 ∀ w μ a,In w X G μ N a σ->c.wpIn (wd N.ro) 0 P (After Mv X G N w μ Q) a w
theorem After.mono {w:World} {μ:Mu} {Q Q':Exit->St->Prop} (h:∀ e σ,Q e σ->Q' e σ) {e:Exit} {a':Act} {w':World} (ha:After Mv X G N w μ Q e a' w'):After Mv X G N w μ Q' e a' w':=
 let ⟨ay,aw,q,i,ev⟩:=ha
 ⟨ay,aw,h _ _ q,i,ev⟩
theorem AW.mono {c:Code} {Q Q':Exit->St->Prop} {σ:St} (h:AW P Mv X G N c Q σ) (hq:∀ e σ,Q e σ->Q' e σ):AW P Mv X G N c Q' σ:=
 fun w μ a hi=>wpIn_mono (h w μ a hi) fun _ _ _ ha=>ha.mono hq
theorem AW.imp {c:Code} {Q:Exit->St->Prop} {σ τ:St} (hi:aB Mv X G N σ τ) (h:AW P Mv X G N c Q τ):AW P Mv X G N c Q σ:=fun w μ a aF=>by
 obtain⟨iM,h1,e1⟩:=hi w μ a aF;exact wpIn_mono (h w iM a h1) fun e a' w' ⟨ay,aw,q,i,ev⟩=>⟨ay,aw,q,i,e1.trans ev⟩
def aJ (next:St->Prop) (Q:Exit->St->Prop):Exit->St->Prop
 | .normal,σ=>next σ
 | e,σ=>Q e σ
def aL (id:Nat) (Q:Exit->St->Prop):Exit->St->Prop
 | .exit zZ,σ=>if zZ=id then Q .normal σ else Q (.exit zZ) σ
 | e,σ=>Q e σ
theorem abO {Q:Exit->St->Prop} {σ:St} (h:Q .normal σ):AW P Mv X G N .skip Q σ:=fun w μ _ hi=>wpIn_skip ⟨μ,σ,h,hi,.refl _ w μ⟩
theorem ab1 {Q:Exit->St->Prop} {σ:St} (h:Q .ret σ):AW P Mv X G N .ret Q σ:=fun w μ _ hi=>wpIn_ret ⟨μ,σ,h,hi,.refl _ w μ⟩
theorem bx {Q:Exit->St->Prop} {σ:St} {id:Nat} (h:Q (.exit id) σ):AW P Mv X G N (.exit id) Q σ:=fun w μ _ hi=>wpIn_exit ⟨μ,σ,h,hi,.refl _ w μ⟩
theorem oX {x y:Code} {Q:Exit->St->Prop} {σ:St} (h:AW P Mv X G N x (aJ (AW P Mv X G N y Q) Q) σ):AW P Mv X G N (.seq x y) Q σ:=fun w μ a hi=>
 wpIn_seq (wpIn_mono (h w μ a hi) fun e a' w' ⟨ay,aw,q,i,ev⟩=>by
  cases e with
  | normal=>exact wpIn_mono (q w' ay a' i) fun e2 a2 w2 ⟨μ2,eL,q2,i2,rX⟩=>⟨μ2,eL,q2,i2,ev.trans rX⟩
  | _=>exact⟨ay,aw,q,i,ev⟩)
theorem aR {id:Nat} {c:Code} {Q:Exit->St->Prop} {σ:St} (h:AW P Mv X G N c (aL id Q) σ):AW P Mv X G N (.block id c) Q σ:=fun w μ a hi=>
 wpIn_block (wpIn_mono (h w μ a hi) fun e a' w' ⟨ay,aw,q,i,ev⟩=>by
  cases e with
  | exit zZ=>
   simp only[aL]at q;simp only[Exit.inBlock];split
   .rename_i he;rw[if_pos he]at q;exact⟨ay,aw,q,i,ev⟩
   .rename_i he;rw[if_neg he]at q;exact⟨ay,aw,q,i,ev⟩
  | _=>exact⟨ay,aw,q,i,ev⟩)
def pa:Value->D
 | .slice none 0 0=>.sl (some false) []
 | v=>.v v
def ff:Value->AV
 | .agg arr=>.d (.agg (arr.toList.map pa))
 | v=>.d (pa v)
def bh (G:aq) (e:Env):Operand->Option AV
 | .tmp t=>e t
 | .const v=>some (ff v)
 | .global g=>(G g).map .d
 | .func f=>some (.d (.fn (.func f) []))
theorem tL {w:World} {X:Nat->Prop} (v:Value):RD w X v (pa v):=by
 unfold pa;split
 .exact .nil (by simp)
 .exact .v _
theorem Ck {w:World} {μ:Mu} (v:Value):RV w X μ v (ff v):=by
 unfold ff;split
 .refine .d (.agg (by simp) fun j u c hu hc=>?_);rw[abM]at hc;obtain⟨c',cH,rfl⟩:=AT.1 hc;rw[ab2]at cH;rw[hu]at cH;obtain rfl:=AI cH;exact tL _
 .exact .d (tL _)
theorem In.eval {w:World} {μ:Mu} {a:Act} {σ:St} (hi:In w X G μ N a σ) {o:Operand} {x:AV} (h:bh G σ.env o=some x):RV w X μ (a.eval o) x:=by
 cases o with
 | tmp t=>
  obtain⟨u,hu,hr⟩:=hi.env.slot t x h;simpa[Act.eval,IT,hu]using hr
 | const v=>simp only[bh,AS]at h;subst h;exact Ck v
 | global g=>
  simp only[bh,AT]at h;obtain⟨d,hd,rfl⟩:=h;exact .d (hi.gr g d hd)
 | func f=>simp only[bh,AS]at h;subst h;exact .d (.fn (by simp) (by simp))
theorem aeD {c:Operand} {x y:Code} {Q:Exit->St->Prop} {σ:St} (b:Bool) (hc:bh G σ.env c=some (.d (.v (.bool b)))) (ht:b=true->AW P Mv X G N x Q σ) (hf:b=false->AW P Mv X G N y Q σ) :
  AW P Mv X G N (.cond c x y) Q σ:=fun w μ a hi=>by
 have h:=hi.eval hc;have h':a.eval c = .bool b:=h.scalar;exact wpIn_cond_split h' (fun e=>ht e w μ a hi) (fun e=>hf e w μ a hi)
theorem abP {x y:Code} {c:Operand} {Q:Exit->St->Prop} {σ:St} (hc:bh G σ.env c=some (.d (.v (.bool true)))) (h:AW P Mv X G N x Q σ):AW P Mv X G N (.cond c x y) Q σ:=aeD true hc (fun _=>h) (fun h=>by cases h)
theorem abN {x y:Code} {c:Operand} {Q:Exit->St->Prop} {σ:St} (hc:bh G σ.env c=some (.d (.v (.bool false)))) (h:AW P Mv X G N y Q σ):AW P Mv X G N (.cond c x y) Q σ:=aeD false hc (fun h=>by cases h) (fun _=>h)
theorem M3 {S:Type} {c:Code} {Q:Exit->St->Prop} {σ:St} (inv:S->St) (lD:S->Nat) (s0:S) (h0:aB Mv X G N σ (inv s0))
  (round:∀ s,AW P Mv X G N c (aJ (fun aw=>∃ s',lD s' < lD s/\aB Mv X G N aw (inv s')) Q) (inv s)):AW P Mv X G N (.loop c) Q σ:=fun w μ a hi=>by
 obtain⟨gn,IM,PH⟩:=h0 w μ a hi
 have key:∀ n s w1 iM a1,lD s < n->In w1 X G iM N a1 (inv s)->Ev Mv w μ w1 iM->Code.roundsIn (wd N.ro) 0 P c (After Mv X G N w μ Q) n a1 w1:=by
  intro n
  induction n with
  | zero=>intro s w1 iM a1 h;omega
  | succ n ih=>
   intro s w1 iM a1 au aF aH;rw[roundsIn_succ];refine wpIn_mono (round s w1 iM a1 aF) fun e a' w' ⟨ay,aw,q,i,ev⟩=>?_
   cases e with
   | normal=>
    obtain⟨s',l3,himp⟩:=q;obtain⟨μ2,eE,rX⟩:=himp w' ay a' i;exact ih s' w' μ2 a' (by omega) eE (aH.trans (ev.trans rX))
   | _=>exact⟨ay,aw,q,i,aH.trans ev⟩
 exact wpIn_loop_rounds (lD s0+1) (key _ s0 w gn a (by omega) IM PH)
def rC (P:Program) (Mv X:Nat->Prop) (G:aq) (f:FuncId) (xs:List AV) (H:Heap) (R:AV->Heap->Prop):Prop:=
 ∀ w μ (vs:Array Value),Sim w X μ H->(∀ g x,G g=some x->RD w (XX X μ) (.pointer (some ⟨g,0,none⟩)) x)->vs.size=xs.length->(∀ (i:Nat) (u:Value) (x:AV),vs[i]? = some u->xs[i]? = some x->RV w X μ u x)->
  Calls P f vs w fun e w'=>∃ v x H' ay,e = .returned v/\R x H'/\RV w' X ay v x/\Sim w' X ay H'/\Ev Mv w μ w' ay
theorem rC.mono {f:FuncId} {xs:List AV} {H:Heap} {R R':AV->Heap->Prop} (h:rC P Mv X G f xs H R) (hr:∀ x H',R x H'->R' x H'):rC P Mv X G f xs H R':=
 fun w μ vs hs hg hn hv=>(h w μ vs hs hg hn hv).mono fun _ _ ⟨v,x,H',ay,he,r,rest⟩=>⟨v,x,H',ay,he,hr _ _ r,rest⟩
def args (xs:List AV):Env:=fun i=>xs[i]?
def Fy (rs:List ResultVar) (e:Env):Option AV:=
 match rs with
 | []=>some (.d (.v (.tuple #[])))
 | [.tmp t]=>e t
 | [.tmp t,.tmp u]=>match e t,e u with | some x,some y=>some (.aW [x,y]) | _,_=>none
 | [.tmp t,.tmp u,.tmp v]=>match e t,e u,e v with | some x,some y,some z=>some (.aW [x,y,z]) | _,_,_=>none
 | _=>none
theorem Lm {fn:Func} {rs:List ResultVar} (gB:fn.results=rs.toArray) {w:World} {μ:Mu} {a:Act} {σ:St} (hi:In w X G μ N a σ) {x:AV} (h:Fy rs σ.env=some x) :
  ∃ v,(results fn a.tmps).run P w = .ok v w/\RV w X μ v x:=by
 unfold Fy at h;split at h
 .obtain rfl:=AI h;exact⟨_,results_none gB _ _ _,.d (.v _)⟩
 .rename_i t;obtain⟨u,hu,hr⟩:=hi.env.slot t x h;exact⟨_,results_tmp gB _ _ _,by simpa[IT,hu]using hr⟩
 .rename_i t t2;split at h
  .rename_i x1 x2 h1 h2;obtain rfl:=AI h;obtain⟨u,hu,hr⟩:=hi.env.slot _ _ h1;obtain⟨u2,sH,nJ⟩:=hi.env.slot _ _ h2;refine⟨_,results_tmp2 gB _ _ _,.aW (by simp) fun j u3 c hj hc=>?_⟩;simp only[IT,hu,sH,adW]at hj
   match j,hj,hc with
   | 0,hj,hc=>simp at hj hc;subst hj;subst hc;exact hr
   | 1,hj,hc=>simp at hj hc;subst hj;subst hc;exact nJ
   | j+2,hj,hc=>simp at hc
  .cases h
 .rename_i t t2 t3;split at h
  .rename_i x1 x2 x3 h1 h2 h3;obtain rfl:=AI h;obtain⟨u,hu,hr⟩:=hi.env.slot _ _ h1;obtain⟨u2,sH,nJ⟩:=hi.env.slot _ _ h2;obtain⟨u3,SZ,SI⟩:=hi.env.slot _ _ h3;refine⟨_,results_tmp3 gB _ _ _,.aW (by simp) fun j u4 c hj hc=>?_⟩;simp only[IT,hu,sH,SZ,adW]at hj
   match j,hj,hc with
   | 0,hj,hc=>simp at hj hc;subst hj;subst hc;exact hr
   | 1,hj,hc=>simp at hj hc;subst hj;subst hc;exact nJ
   | 2,hj,hc=>simp at hj hc;subst hj;subst hc;exact SI
   | j+3,hj,hc=>simp at hc
  .cases h
 .cases h
def atEnd (rs:List ResultVar) (R:AV->Heap->Prop):Exit->St->Prop
 | .normal,σ | .ret,σ=>∃ x,Fy rs σ.env=some x/\R x σ.H
 | _,_=>False
theorem rC.abS {f:FuncId} {fn:Func} {c:Code} {rs:List ResultVar} {xs:List AV} {H:Heap} {R:AV->Heap->Prop} (hf:P.funcs[f]? = some fn) (hb:fn.body=some c) (gB:fn.results=rs.toArray)
  (hN:xs.length<=fn.ntmps) (h:AW P Mv X G ⟨fn.ntmps,[],none⟩ c (atEnd rs R) ⟨args xs,H⟩):rC P Mv X G f xs H R:=by
 intro w μ vs hs hg hn hv;refine calls_of_wp hf hb ((wpIn_wide (n:=0)).1 (wpIn_mono (h w μ _ ⟨hs,⟨rfl,by simp;omega,fun i x hx=>?_⟩,hg⟩) fun e a' w' ⟨ay,aw,q,i,ev⟩=>?_))
 .simp only[args]at hx;have hi:i < xs.length:=(OF.1 hx).1
  have nR:vs[i]? = some vs[i]:=by rw[acb]
  exact⟨vs[i],by rw[acM (by omega),nR],hv i _ x nR hx⟩
 .cases e with
  | normal=>
   obtain⟨x,hx,r⟩:=q;obtain⟨v,hv,hr⟩:=Lm (P:=P) gB i hx;exact⟨i.env.defers,v,hv,v,x,aw.H,ay,rfl,r,hr,i.aX,ev⟩
  | ret=>
   obtain⟨x,hx,r⟩:=q;obtain⟨v,hv,hr⟩:=Lm (P:=P) gB i hx;exact⟨i.env.defers,v,hv,v,x,aw.H,ay,rfl,r,hr,i.aX,ev⟩
  | _=>exact q.elim
end
end Go.Av
namespace Go.Av
structure TI where
 desc:TypeDesc
 size:Nat
 bytes:Nat
 zero:Value
 pe:Bool
abbrev Ty:=TypeId->Option TI
def Good (P:Program) (T:Ty):Prop:=∀ t ti,T t=some ti->P.underlying t=some ti.desc/\∃ i,P.info? t=some i/\i.size=ti.size/\i.bytes=ti.bytes/\i.zero=some ti.zero/\(ti.pe=true->P.stoodInHeld t=false/\P.eqGuardType P.depth t=false)
section
variable {P:Program} {T:Ty} {t:TypeId} {ti:TI} {w:World}
theorem Good.cy (h:Good P T) (ht:T t=some ti):(underlying t).run P w = .ok ti.desc w:=run_underlying (h t ti ht).1 w
theorem Good.sizeOf (h:Good P T) (ht:T t=some ti):(Go.sizeOf t).run P w = .ok ti.size w:=by
 obtain⟨_,i,hi,hs,_⟩:=h t ti ht;simp[Go.sizeOf,typeInfo,hi,hs]
theorem Good.zero (h:Good P T) (ht:T t=some ti):(zeroValue t).run P w = .ok ti.zero w:=by
 obtain⟨_,i,hi,_,_,hz,_⟩:=h t ti ht;simp[zeroValue,typeInfo,hi,hz]
end
def TypeDesc.isAgg:TypeDesc->Bool
 | .struct _ | .array _ _=>true
 | _=>false
theorem Good.isAgg {P:Program} {T:Ty} {t:TypeId} {ti:TI} {w:World} (h:Good P T) (ht:T t=some ti):(Go.isAgg t).run P w = .ok (TypeDesc.isAgg ti.desc) w:=by
 simp only[Go.isAgg,Sem.run_bind,h.cy ht,Result.andThen_ok];cases ti.desc<;>rfl
abbrev hU:=Option (Prop×AV)
def bool (b:Bool):AV:=.d (.v (.bool b))
def int (n:Int):AV:=.d (.v (.int .i64 n))
section
variable {w:World} {X:Nat->Prop} {μ:Mu}
theorem RD.na {u:Value} {k:Option Bool} {els:List (List D)} (h:RD w X u (.sl k els)) :
  (u = .slice none 0 0/\els=[]/\k≠some true)\/
  (∃ a cap,u = .slice (some a) els.length cap/\k≠some false/\els.length<=cap/\cap<=maxLen/\
   (els=[]\/∃ b off sz,∃ f:Nat->Nat->Value,a=⟨b,off,none⟩/\¬ X b/\0 < sz/\(∀ el∈els,el.length=sz)/\
    (∀ i j,i < els.length->j < sz->w.cell? ⟨b,off+(i * sz+j),none⟩=some (f i j))/\
    (∀ (i j:Nat) (el:List D) (c:D),els[i]? = some el->el[j]? = some c->RD w X (f i j) c))):=by
 generalize hy:D.sl k els=y at h;cases h<;>cases hy
 .exact .inl ⟨rfl,rfl,by assumption⟩
 .exact .inr ⟨_,_,rfl,by assumption,by simp,by assumption,.inl rfl⟩
 .rename_i b off n cap sz f hc hm hX hz aI cI hk hn hs hr;subst hn;exact .inr ⟨_,_,rfl,hk,hc,hm,.inr ⟨b,off,sz,f,rfl,hX,hz,hs,cI,hr⟩⟩
theorem RD.aeN {u:Value} {cells:List D} (h:RD w X u (.ip cells)):∃ b off,∃ f:Nat->Value,u = .pointer (some ⟨b,off,none⟩)/\¬ X b/\b < w.heap.size/\
  (∀ j,j < cells.length->w.cell? ⟨b,off+j,none⟩=some (f j))/\(∀ (j:Nat) (c:D),cells[j]? = some c->RD w X (f j) c):=by
 generalize hy:D.ip cells=y at h;cases h<;>cases hy;exact⟨_,_,_,rfl,by assumption,by assumption,by assumption,by assumption⟩
theorem RD.n7 {u:Value} {cells:List D} (h:RD w X u (.agg cells)):∃ arr,u = .agg arr/\arr.size=cells.length/\∀ (j:Nat) (u:Value) (c:D),arr[j]? = some u->cells[j]? = some c->RD w X u c:=by
 generalize hy:D.agg cells=y at h;cases h<;>cases hy;exact⟨_,rfl,by assumption,by assumption⟩
theorem RD.vz {u:Value} {cells:List D} (h:RD w X u (.aW cells)):∃ arr,u = .tuple arr/\arr.size=cells.length/\∀ (j:Nat) (u:Value) (c:D),arr[j]? = some u->cells[j]? = some c->RD w X u c:=by
 generalize hy:D.aW cells=y at h;cases h<;>cases hy;exact⟨_,rfl,by assumption,by assumption⟩
theorem RD.oC {u:Value} {t:TypeId} {x:D} (h:RD w X u (.bt t x)):∃ v,u = .iface t v/\RD w X v x:=by
 generalize hy:D.bt t x=y at h;cases h<;>cases hy;exact⟨_,rfl,by assumption⟩
theorem RD.tX {u:Value} {f:Fn} {cells:List D} (h:RD w X u (.fn f cells)):∃ arr,u = .func f #[] arr/\arr.size=cells.length/\∀ (j:Nat) (u:Value) (c:D),arr[j]? = some u->cells[j]? = some c->RD w X u c:=by
 generalize hy:D.fn f cells=y at h;cases h<;>cases hy;exact⟨_,rfl,by assumption,by assumption⟩
theorem RV.n7 {u:Value} {cells:List AV} (h:RV w X μ u (.agg cells)):∃ arr,u = .agg arr/\arr.size=cells.length/\∀ (j:Nat) (u:Value) (c:AV),arr[j]? = some u->cells[j]? = some c->RV w X μ u c:=by
 generalize hy:AV.agg cells=y at h;cases h<;>cases hy;exact⟨_,rfl,by assumption,by assumption⟩
theorem RV.vz {u:Value} {cells:List AV} (h:RV w X μ u (.aW cells)):∃ arr,u = .tuple arr/\arr.size=cells.length/\∀ (j:Nat) (u:Value) (c:AV),arr[j]? = some u->cells[j]? = some c->RV w X μ u c:=by
 generalize hy:AV.aW cells=y at h;cases h<;>cases hy;exact⟨_,rfl,by assumption,by assumption⟩
theorem RV.oC {u:Value} {t:TypeId} {x:AV} (h:RV w X μ u (.bt t x)):∃ v,u = .iface t v/\RV w X μ v x:=by
 generalize hy:AV.bt t x=y at h;cases h<;>cases hy;exact⟨_,rfl,by assumption⟩
theorem RV.Oh {u:Value} {g:FuncId} {x:AV} (h:RV w X μ u (.bm g x)):∃ v,u = .func (.func g) #[v] #[]/\RV w X μ v x:=by
 generalize hy:AV.bm g x=y at h;cases h<;>cases hy;exact⟨_,rfl,by assumption⟩
theorem RV.tX {u:Value} {f:Fn} {cells:List AV} (h:RV w X μ u (.fn f cells)):∃ arr,u = .func f #[] arr/\arr.size=cells.length/\∀ (j:Nat) (u:Value) (c:AV),arr[j]? = some u->cells[j]? = some c->RV w X μ u c:=by
 generalize hy:AV.fn f cells=y at h;cases h<;>cases hy;exact⟨_,rfl,by assumption,by assumption⟩
theorem RV.je {u:Value} {r off n:Nat} (h:RV w X μ u (.own r off n)):∃ m,μ r=some m/\((m.blk=none/\u = .slice none 0 0/\off=0/\n=0)\/(∃ b,m.blk=some b/\u = .slice (some ⟨b,off * m.sz,none⟩) n (m.cap - off)/\off+n<=m.cap)):=by
 generalize hy:AV.own r off n=y at h;cases h<;>cases hy;exact⟨_,by assumption,by assumption⟩
theorem RV.ik {u:Value} {r e j:Nat} (h:RV w X μ u (.ref r e j)):∃ m b,μ r=some m/\m.blk=some b/\u = .pointer (some ⟨b,e * m.sz+j,none⟩):=by
 generalize hy:AV.ref r e j=y at h;cases h<;>cases hy;exact⟨_,_,by assumption,by assumption,rfl⟩
end
def iN:List AV->Option (List D)
 | []=>some []
 | .d x :: l=>(iN l).map (x :: ·)
 | _ :: _=>none
def me (l:List AV):AV:=match iN l with
 | some ds=>.d (.agg ds)
 | none=>.agg l
theorem lT:∀ {l:List AV} {ds:List D},iN l=some ds->l=ds.map .d
 | [],ds,h=>by simp[iN]at h;simp[h]
 | x :: l,ds,h=>by
  cases x with
  | d x=>
   simp only[iN,AT]at h;obtain⟨ds',h',rfl⟩:=h;simp[lT h']
  | _=>simp[iN]at h
theorem xH {w:World} {X:Nat->Prop} {μ:Mu} {u:Value} {l:List AV} (h:RV w X μ u (.agg l)):RV w X μ u (me l):=by
 unfold me;split
 .rename_i ds hd;rw[lT hd]at h;obtain⟨arr,rfl,hn,hr⟩:=h.n7;refine .d (.agg (by simpa using hn) fun j u c hu hc=>?_);exact (hr j u (.d c) hu (by rw[abM,hc];rfl)).data
 .exact h
def lU (T:Ty) (t:TypeId) (cells:List AV):hU:=match T t with
 | none=>none
 | some ti=>if TypeDesc.isAgg ti.desc then some (ti.size<=cells.length,me (cells.take ti.size)) else some (cells≠[],cells.headD .dead)
def aff (T:Ty) (t:TypeId) (cells:List D):hU:=match T t with
 | none=>none
 | some ti=>if TypeDesc.isAgg ti.desc then some (ti.size<=cells.length,.d (.agg (cells.take ti.size))) else some (cells≠[],.d (cells.headD default))
theorem addr_add (b o j:Nat):(⟨b,o,none⟩:Addr).add j=⟨b,o+j,none⟩:=by unfold Addr.add;split<;>simp_all
theorem LU {P:Program} {T:Ty} (hg:Good P T) {t:TypeId} {ti:TI} (ht:T t=some ti) {w:World} {b o n:Nat} (f:Nat->Value) (hc:∀ j,j < n->w.cell? ⟨b,o+j,none⟩=some (f j)) :
  (TypeDesc.isAgg ti.desc=true->ti.size<=n->(loadVar t ⟨b,o,none⟩).run P w = .ok (.agg ((Array.range ti.size).map f)) w)/\
  (TypeDesc.isAgg ti.desc=false->0 < n->(loadVar t ⟨b,o,none⟩).run P w = .ok (f 0) w):=by
 constructor
 .intro ha hn;have:=run_loadCells (P:=P) w ⟨b,o,none⟩ ti.size f (fun j hj=>by rw[addr_add];exact hc j (by omega));simp only[loadVar,Sem.run_bind,hg.isAgg ht,Result.andThen_ok,ha,if_true,hg.sizeOf ht,this,Sem.run_pure];congr 1;apply congrArg;apply Array.ext
  .simp
  .intro i h1 h2;simp
 .intro ha hn;have h0:=hc 0 hn;simp only[adF]at h0;simp[loadVar,hg.isAgg ht,ha,h0]
def aef (T:Ty) (H:Heap) (t:TypeId):AV->hU
 | .d (.ip cells)=>aff T t cells
 | .ref r e j=>match H r with
  | some (.box _ cells)=>if e=0 then lU T t (cells.drop j) else none
  | some (.sl _ sz els)=>match aff T t ((els.getD e []).drop j) with
   | some (c,x)=>some (e < els.length/\j < sz/\c,x)
   | none=>none
  | some (.mp _ _)=>none
  | some (.it _ _)=>none
  | none=>none
 | _=>none
theorem GP {P:Program} {T:Ty} (hg:Good P T) {w:World} {X:Nat->Prop} {μ:Mu} {t:TypeId} {cells:List D} {c:Prop} {x:AV} (h:aff T t cells=some (c,x)) (hc:c) {b o:Nat} (f:Nat->Value)
  (cI:∀ j,j < cells.length->w.cell? ⟨b,o+j,none⟩=some (f j)) (hr:∀ (j:Nat) (c:D),cells[j]? = some c->RD w (XX X μ) (f j) c):∃ v,(loadVar t ⟨b,o,none⟩).run P w = .ok v w/\RV w X μ v x:=by
 unfold aff at h;split at h
 .cases h
 .rename_i ti ht;have hl:=LU hg ht f cI;split at h
  .rename_i ha;simp only[AS,BY]at h;obtain⟨rfl,rfl⟩:=h;refine⟨_,hl.1 ha hc,.d (.agg (by simp;omega) fun j u d hu hd=>?_)⟩;rw[acu]at hd;split at hd
   .rename_i hj;simp[hj]at hu;subst hu;exact hr j d hd
   .cases hd
  .rename_i ha;simp only[AS,BY]at h;obtain⟨rfl,rfl⟩:=h
   cases cells with
   | nil=>exact absurd rfl hc
   | cons d l=>exact⟨_,hl.2 (by simpa using ha) (by simp),.d (hr 0 d rfl)⟩
theorem NQ {P:Program} {T:Ty} (hg:Good P T) {w:World} {X:Nat->Prop} {μ:Mu} {t:TypeId} {cells:List AV} {c:Prop} {x:AV} (h:lU T t cells=some (c,x)) (hc:c) {b o:Nat} (f:Nat->Value)
  (cI:∀ j,j < cells.length->w.cell? ⟨b,o+j,none⟩=some (f j)) (hr:∀ (j:Nat) (c:AV),cells[j]? = some c->RV w X μ (f j) c):∃ v,(loadVar t ⟨b,o,none⟩).run P w = .ok v w/\RV w X μ v x:=by
 unfold lU at h;split at h
 .cases h
 .rename_i ti ht;have hl:=LU hg ht f cI;split at h
  .rename_i ha;simp only[AS,BY]at h;obtain⟨rfl,rfl⟩:=h;refine⟨_,hl.1 ha hc,xH (.agg (by simp;omega) fun j u d hu hd=>?_)⟩;rw[acu]at hd;split at hd
   .rename_i hj;simp[hj]at hu;subst hu;exact hr j d hd
   .cases hd
  .rename_i ha;simp only[AS,BY]at h;obtain⟨rfl,rfl⟩:=h
   cases cells with
   | nil=>exact absurd rfl hc
   | cons d l=>exact⟨_,hl.2 (by simpa using ha) (by simp),hr 0 d rfl⟩
theorem Kf {P:Program} {T:Ty} (hg:Good P T) {w:World} {X:Nat->Prop} {μ:Mu} {H:Heap} (hs:Sim w X μ H) {t:TypeId} {u:Value} {x y:AV} {c:Prop} (h:aef T H t x=some (c,y)) (hc:c) (hx:RV w X μ u x) :
  ∃ v,(Instr.loadAt t u).run P w = .ok v w/\RV w X μ v y:=by
 unfold aef at h;split at h
 .rename_i cells;obtain⟨b,off,f,rfl,_,_,cI,hr⟩:=hx.data.aeN;simpa[Instr.loadAt,Instr.sureAddr]using GP (P:=P) hg h hc f cI hr
 .rename_i r e j;obtain⟨m,b,hm,hb,rfl⟩:=hx.ik;split at h
  .rename_i ty cells hH;split at h
   .rename_i he;subst he;obtain⟨m',bU,ok⟩:=hs.rows r _ hH;rw[hm]at bU;obtain rfl:=AI bU
    cases ok with
    | box aU aK ad7 hh hn hr uN=>
     rename_i b' cur;rw[hb]at aU;obtain rfl:=AI aU
     have cI:∀ i,i < (cells.drop j).length->w.cell? ⟨b,0 * m.sz+j+i,none⟩=some (cur.getD (j+i) undef):=by
      intro i hi;simp only[acK]at hi;rw[aea,acR,cell_of_row w b (j+i) cur ty (0,0) hh];simp[IT,show j+i < cur.size by omega]
     simp only[Instr.loadAt,Instr.sureAddr,Sem.run_bind,Sem.run_pure,Result.andThen_ok];refine NQ (P:=P) hg h hc (fun i=>cur.getD (j+i) undef) cI fun i d hd=>?_;rw[ac3]at hd;have au:j+i < cells.length:=(OF.1 hd).1;refine hr (j+i) _ d ?_ hd;simp[IT,show j+i < cur.size by omega]
   .cases h
  .rename_i ty sz els hH;split at h
   .rename_i c' x' hv;simp only[AS,BY]at h;obtain⟨rfl,rfl⟩:=h;obtain⟨he,hj,cH⟩:=hc;obtain⟨m',bU,ok⟩:=hs.rows r _ hH;rw[hm]at bU;obtain rfl:=AI bU
    cases ok with
    | nil aU _=>rw[hb]at aU;cases aU
    | sl aU aK hh b8 hn fh hl hz hr=>
     rename_i b' cur;rw[hb]at aU;obtain rfl:=AI aU;subst aK
     have hel:els.getD e []=els[e]:=by simp[abJ,he]
     have hlen:(els[e]).length=m.sz:=hl _ (abH he)
     have au:∀ i,j+i < m.sz->e * m.sz+(j+i) < cur.size:=by
      intro i hi;rw[b8];have:(e+1) * m.sz<=m.cap * m.sz:=acB _ (by omega);rw[ade]at this;omega
     rw[hel]at hv
     have cI:∀ i,i < ((els[e]).drop j).length->w.cell? ⟨b,e * m.sz+j+i,none⟩=some (cur.getD (e * m.sz+(j+i)) undef):=by
      intro i hi;simp only[acK,hlen]at hi;have:=au i (by omega);rw[cell_of_row w b (e * m.sz+j+i) cur ty (0,0) hh];simp[IT,adn,this]
     simp only[Instr.loadAt,Instr.sureAddr,Sem.run_bind,Sem.run_pure,Result.andThen_ok];refine GP (P:=P) hg hv cH (fun i=>cur.getD (e * m.sz+(j+i)) undef) cI fun i d hd=>?_;rw[ac3]at hd;obtain⟨u',hu',bD⟩:=hr e (j+i) _ d (By he) hd;simpa[IT,hu']using bD
   .cases h
  .cases h
  .cases h
  .cases h
 .cases h
def lY (T:Ty) (t:TypeId):Option Nat:=match T t with
 | some ti=>match ti.desc with
  | .slice e=>(T e).map (·.size)
  | _=>none
 | none=>none
def agc (T:Ty) (t:TypeId):Option (Nat×Nat):=match T t with
 | some ti=>match ti.desc with
  | .array n e=>(T e).map fun te=>(n,te.size)
  | _=>none
 | none=>none
def mR (T:Ty) (H:Heap) (t:TypeId):AV->AV->hU
 | .d (.sl _ els),.d (.v (.int _ i))=>match lY T t with
  | some s=>some (0<=i/\i < els.length/\(els.getD i.toNat []).length=s,.d (.ip (els.getD i.toNat [])))
  | none=>none
 | .own r off n,.d (.v (.int _ i))=>match lY T t,H r with
  | some s,some (.sl _ sz _)=>some (0<=i/\i < n/\sz=s,.ref r (off+i.toNat) 0)
  | some s,some (.box _ _)=>some (0<=i/\i < n/\off=0,.ref r 0 (i.toNat * s))
  | _,_=>none
 | .d (.ip cells),.d (.v (.int _ i))=>match agc T t with
  | some (n,s)=>some (0<=i/\i < n,.d (.ip (cells.drop (i.toNat * s))))
  | none=>none
 | .ref r e j,.d (.v (.int _ i))=>match agc T t with
  | some (n,s)=>some (0<=i/\i < n,.ref r e (j+i.toNat * s))
  | none=>none
 | _,_=>none
theorem LS {P:Program} {T:Ty} (hg:Good P T) {t:TypeId} {n s:Nat} (h:agc T t=some (n,s)) {w:World} {b o:Nat} {k:IntKind} {i:Int} (h0:0<=i) (h1:i < n) :
  (Instr.indexAt t (.pointer (some ⟨b,o,none⟩)) (.int k i)).run P w = .ok (.pointer (some ⟨b,o+i.toNat * s,none⟩)) w:=by
 unfold agc at h;split at h
 .rename_i ti ht;split at h
  .rename_i n' e hd;obtain⟨te,cg,he⟩:=AT.1 h;simp only[BY]at he;obtain⟨rfl,rfl⟩:=he;obtain⟨m,rfl⟩:=acn h0
   have hm:m < n':=by omega
   simp[Instr.indexAt,asIntOf,hg.cy ht,hd,Instr.sureAddr,hg.sizeOf cg,addr_add,hm]
  .cases h
 .cases h
theorem Th {P:Program} {T:Ty} (hg:Good P T) {w:World} {X:Nat->Prop} {μ:Mu} {H:Heap} (hs:Sim w X μ H) {t:TypeId} {u v:Value} {x y z:AV} {c:Prop} (h:mR T H t x y=some (c,z)) (hc:c)
  (hx:RV w X μ u x) (hy:RV w X μ v y):∃ r,(Instr.indexAt t u v).run P w = .ok r w/\RV w X μ r z:=by
 unfold mR at h;split at h
 .rename_i k els kd i;split at h
  .rename_i s he;simp only[AS,BY]at h;obtain⟨rfl,rfl⟩:=h;obtain⟨h0,h1,h2⟩:=hc;unfold lY at he;split at he
   .rename_i ti ht;split at he
    .rename_i e hd;obtain⟨te,cg,rfl⟩:=AT.1 he;have hv:=hy.scalar;subst hv;obtain⟨n,rfl⟩:=acn h0;simp only[abX]at h2 ⊢
     have hn:n < els.length:=by omega
     rcases hx.data.na with⟨rfl,rfl,_⟩ | ⟨a,cap,rfl,_,ad7,_,hr⟩
     .simp at hn
     .rcases hr with rfl | ⟨b,off,sz,f,rfl,hX,hz,aK,cI,hr⟩
      .simp at hn
      .have hel:els.getD n []=els[n]:=by simp[abJ,hn]
       rw[hel]at h2 ⊢;have e2:(els[n]).length=sz:=aK _ (abH hn);refine⟨.pointer (some ⟨b,off+n * sz,none⟩),?_,.d (.ip (f:=fun j=>f n j) hX (rM (cI 0 0 (by omega) hz)) (fun j hj=>?_) (fun j d hd=>hr n j _ d (By hn) hd))⟩
       .simp[Instr.indexAt,asIntOf,hg.cy ht,hd,hg.sizeOf cg,addr_add,<- h2,e2];intro hh;omega
       .rw[adn];exact cI n j hn (by omega)
    .cases he
   .cases he
  .cases h
 .rename_i r off n kd i;split at h
  .rename_i s ty sz els he hH;simp only[AS,BY]at h;obtain⟨rfl,rfl⟩:=h;obtain⟨h0,h1,rfl⟩:=hc;unfold lY at he;split at he
   .rename_i ti ht;split at he
    .rename_i e hd;obtain⟨te,cg,sf⟩:=AT.1 he;have hv:=hy.scalar;subst hv;obtain⟨k,rfl⟩:=acn h0;simp only[abX];obtain⟨m,hm,hu⟩:=hx.je;obtain⟨m',bU,ok⟩:=hs.rows r _ hH;rw[hm]at bU;obtain rfl:=AI bU
     rcases hu with⟨_,_,_,rfl⟩ | ⟨b,hb,rfl,hle⟩
     .omega
     .have aK:m.sz=sz:=by cases ok<;>assumption
      refine⟨.pointer (some ⟨b,(off+k) * m.sz+0,none⟩),?_,.ref hm hb⟩;simp[Instr.indexAt,asIntOf,hg.cy ht,hd,hg.sizeOf cg,addr_add,sf,<- aK,ade];intro hh;omega
    .cases he
   .cases he
  .rename_i s ty cells he hH;simp only[AS,BY]at h;obtain⟨rfl,rfl⟩:=h;obtain⟨h0,h1,rfl⟩:=hc;unfold lY at he;split at he
   .rename_i ti ht;split at he
    .rename_i e hd;obtain⟨te,cg,sf⟩:=AT.1 he;have hv:=hy.scalar;subst hv;obtain⟨k,rfl⟩:=acn h0;simp only[abX];obtain⟨m,hm,hu⟩:=hx.je
     rcases hu with⟨_,_,_,rfl⟩ | ⟨b,hb,rfl,hle⟩
     .omega
     .refine⟨.pointer (some ⟨b,0 * m.sz+k * s,none⟩),?_,.ref hm hb⟩;simp[Instr.indexAt,asIntOf,hg.cy ht,hd,hg.sizeOf cg,addr_add,sf];intro hh;omega
    .cases he
   .cases he
  .cases h
 .rename_i cells kd i;split at h
  .rename_i n s ha;simp only[AS,BY]at h;obtain⟨rfl,rfl⟩:=h;obtain⟨b,off,f,rfl,hX,hb,cI,hr⟩:=hx.data.aeN;have hv:=hy.scalar;subst hv;refine⟨_,LS hg ha hc.1 hc.2,.d (.ip (f:=fun q=>f (i.toNat * s+q)) hX hb (fun q hq=>?_) (fun q d hd=>?_))⟩
   .simp only[acK]at hq;rw[adn];exact cI _ (by omega)
   .rw[ac3]at hd;exact hr _ d hd
  .cases h
 .rename_i r e j kd i;split at h
  .rename_i n s ha;simp only[AS,BY]at h;obtain⟨rfl,rfl⟩:=h;obtain⟨m,b,hm,hb,rfl⟩:=hx.ik;have hv:=hy.scalar;subst hv;refine⟨_,LS hg ha hc.1 hc.2,?_⟩;rw[adn];exact .ref hm hb
  .cases h
 .cases h
def pj (T:Ty) (t:TypeId) (f:Nat):Option (Field×Nat):=match T t with
 | some ti=>match ti.desc with
  | .struct fs=>match fs[f]? with
   | some fl=>(T fl.type).map fun tf=>(fl,tf.size)
   | none=>none
  | _=>none
 | none=>none
def y6 (T:Ty) (t:TypeId) (f:Nat):AV->hU
 | .d (.ip cells)=>match pj T t f with
  | some (fl,s)=>some (0 < s,.d (.ip (cells.drop fl.offset)))
  | none=>none
 | .ref r e j=>match pj T t f with
  | some (fl,s)=>some (0 < s,.ref r e (j+fl.offset))
  | none=>none
 | _=>none
theorem LR {P:Program} {T:Ty} (hg:Good P T) {t:TypeId} {f:Nat} {fl:Field} {s:Nat} (h:pj T t f=some (fl,s)) (hs:0 < s) {w:World} {b o:Nat} :
  (Instr.fieldAt t (.pointer (some ⟨b,o,none⟩)) f).run P w = .ok (.pointer (some ⟨b,o+fl.offset,none⟩)) w:=by
 unfold pj at h;split at h
 .rename_i ti ht;split at h
  .rename_i fs hd;split at h
   .rename_i PX hf;obtain⟨tf,zT,he⟩:=AT.1 h;simp only[BY]at he;obtain⟨rfl,rfl⟩:=he
    have:¬ tf.size=0:=by omega
    simp[Instr.fieldAt,hg.cy ht,hd,hf,Instr.sureAddr,fieldPlace,hg.sizeOf zT,this,addr_add]
   .cases h
  .cases h
 .cases h
theorem PS {P:Program} {T:Ty} (hg:Good P T) {w:World} {X:Nat->Prop} {μ:Mu} {t:TypeId} {f:Nat} {u:Value} {x z:AV} {c:Prop} (h:y6 T t f x=some (c,z)) (hc:c)
  (hx:RV w X μ u x):∃ r,(Instr.fieldAt t u f).run P w = .ok r w/\RV w X μ r z:=by
 unfold y6 at h;split at h
 .rename_i cells;split at h
  .rename_i fl s hf;simp only[AS,BY]at h;obtain⟨rfl,rfl⟩:=h;obtain⟨b,off,f',rfl,hX,hb,cI,hr⟩:=hx.data.aeN;refine⟨_,LR hg hf hc,.d (.ip (f:=fun j=>f' (fl.offset+j)) hX hb (fun j hj=>?_) (fun j d hd=>?_))⟩
   .simp only[acK]at hj;rw[adn];exact cI _ (by omega)
   .rw[ac3]at hd;exact hr _ d hd
  .cases h
 .rename_i r e j;split at h
  .rename_i fl s hf;simp only[AS,BY]at h;obtain⟨rfl,rfl⟩:=h;obtain⟨m,b,hm,hb,rfl⟩:=hx.ik;refine⟨_,LR hg hf hc,?_⟩;rw[adn];exact .ref hm hb
  .cases h
 .cases h
def y5 (T:Ty) (t:TypeId) (f:Nat):AV->hU
 | .d (.agg cells)=>match pj T t f with
  | some (fl,_)=>aff T fl.type (cells.drop fl.offset)
  | none=>none
 | .agg cells=>match pj T t f with
  | some (fl,_)=>lU T fl.type (cells.drop fl.offset)
  | none=>none
 | _=>none
theorem GQ {P:Program} {T:Ty} (hg:Good P T) {w:World} {X:Nat->Prop} {μ:Mu} {t:TypeId} {cells:List AV} {c:Prop} {x:AV} {arr:Array Value} {off:Nat} (h:lU T t (cells.drop off)=some (c,x)) (hc:c)
  (hn:arr.size=cells.length) (hr:∀ (j:Nat) (u:Value) (c:AV),arr[j]? = some u->cells[j]? = some c->RV w X μ u c):∃ v,(part t arr off).run P w = .ok v w/\RV w X μ v x:=by
 unfold lU at h;split at h
 .cases h
 .rename_i ti ht;split at h
  .rename_i ha;simp only[AS,BY]at h;obtain⟨rfl,rfl⟩:=h;simp only[acK]at hc;refine⟨.agg (arr.extract off (off+ti.size)),by simp[part,hg.isAgg ht,ha,hg.sizeOf ht],xH (.agg ?_ fun j u d hu hd=>?_)⟩
   .simp;omega
   .rw[acu]at hd;split at hd
    .rename_i hj;rw[ac3]at hd;rw[Array.getElem?_extract]at hu;split at hu
     .exact hr _ u d hu hd
     .cases hu
    .cases hd
  .rename_i ha;simp only[AS,BY]at h;obtain⟨rfl,rfl⟩:=h
   have au:off < cells.length:=by
    rcases adY off cells.length with h | h
    .exact h
    .exact absurd (adI h) hc
   have hd:(cells.drop off).headD .dead=cells[off]:=by rw[acy au];rfl
   rw[hd]
   have qS:off < arr.size:=by omega
   exact⟨arr[off],by simp[part,hg.isAgg ht,ha,qS],hr off _ _ (by simp[qS]) (by simp[au])⟩
theorem RV.u9 {w:World} {X:Nat->Prop} {μ:Mu} {arr:Array Value} {cells:List D} (hr:∀ (j:Nat) (u:Value) (c:D),arr[j]? = some u->cells[j]? = some c->RD w (XX X μ) u c) :
  ∀ (j:Nat) (u:Value) (c:AV),arr[j]? = some u->(cells.map AV.d)[j]? = some c->RV w X μ u c:=by
 intro j u c hu hc;rw[abM]at hc;obtain⟨c',cH,rfl⟩:=AT.1 hc;exact .d (hr j u c' hu cH)
theorem BT (l:List D):iN (l.map .d)=some l:=by
 induction l with
 | nil=>rfl
 | cons x l ih=>simp[iN,ih]
theorem UG (l:List D):me (l.map .d) = .d (.agg l):=by simp[me,BT]
theorem GO (T:Ty) (t:TypeId) (cells:List D) {c:Prop} {x:AV} (h:aff T t cells=some (c,x)) (hc:c):∃ c',lU T t (cells.map .d)=some (c',x)/\c':=by
 unfold aff at h;unfold lU
 cases ht:T t with
 | none=>rw[ht]at h;cases h
 | some ti=>
  rw[ht]at h;dsimp only at h ⊢;split at h
  .rename_i ha;simp only[AS,BY]at h;obtain⟨rfl,rfl⟩:=h;rw[if_pos ha];exact⟨_,by rw[<- List.map_take,UG],by simpa using hc⟩
  .rename_i ha;simp only[AS,BY]at h;obtain⟨rfl,rfl⟩:=h;rw[if_neg ha]
   cases cells with
   | nil=>exact absurd rfl hc
   | cons d l=>exact⟨_,rfl,by simp⟩
theorem PR {P:Program} {T:Ty} (hg:Good P T) {w:World} {X:Nat->Prop} {μ:Mu} {t:TypeId} {f:Nat} {u:Value} {x z:AV} {c:Prop} (h:y5 T t f x=some (c,z)) (hc:c)
  (hx:RV w X μ u x):∃ r,(Instr.field t u f).run P w = .ok r w/\RV w X μ r z:=by
 have key:∀ (arr:Array Value) (cells:List AV) (fl:Field) (s:Nat) (c':Prop),pj T t f=some (fl,s)->lU T fl.type (cells.drop fl.offset)=some (c',z)->c'->arr.size=cells.length->
   (∀ (j:Nat) (u:Value) (c:AV),arr[j]? = some u->cells[j]? = some c->RV w X μ u c)->∃ r,(Instr.field t (.agg arr) f).run P w = .ok r w/\RV w X μ r z:=by
  intro arr cells fl s c' hf hv cH hn hr;obtain⟨v,hv,fv⟩:=GQ (P:=P) hg hv cH hn hr;unfold pj at hf;split at hf
  .rename_i ti ht;split at hf
   .rename_i fs hd;split at hf
    .rename_i PX Ds;obtain⟨tf,zT,he⟩:=AT.1 hf;simp only[BY]at he;obtain⟨rfl,rfl⟩:=he;exact⟨v,by simp[Instr.field,hg.cy ht,hd,Ds,asAgg,hv],fv⟩
    .cases hf
   .cases hf
  .cases hf
 unfold y5 at h;split at h
 .rename_i cells;split at h
  .rename_i fl s hf;obtain⟨arr,rfl,hn,hr⟩:=hx.data.n7;obtain⟨c',h',cH⟩:=GO T fl.type _ h hc;rw[List.map_drop]at h';exact key arr _ fl s c' hf h' cH (by simpa using hn) (RV.u9 hr)
  .cases h
 .rename_i cells;split at h
  .rename_i fl s hf;obtain⟨arr,rfl,hn,hr⟩:=hx.n7;exact key arr cells fl s c hf h hc hn hr
  .cases h
 .cases h
