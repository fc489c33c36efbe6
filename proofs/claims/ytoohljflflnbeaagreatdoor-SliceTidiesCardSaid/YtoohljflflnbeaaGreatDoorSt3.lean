/- Parts. -/
import Derived.Test.YtoohljflflnbeaaGreatDoorSt2
import Derived.LoopN
import Derived.LoopNIn
import Derived.OrdersIn
set_option linter.unusedSectionVars false
set_option linter.unusedSimpArgs false
set_option linter.unusedVariables false
namespace Go.Av
structure Fr where
 n:Nat
 ds:List Deferred
 ro:Option Nat
def wd (ro:Option Nat):Fence:={ Fence.wide with round:=ro }
theorem Ny {P:Program} {f:FuncId} {args:Array Value} {w:World} {R:Ending->World->Prop} {ro:Option Nat} {n:Nat} (h:Calls P f args w R):CallsIn (wd ro) n P f args w R:=
 (callsIn_wide (n:=n)).2 h
theorem ZA {P:Program} {row:String} {args:Array Value} {w:World} {R:Value->World->Prop} {ro:Option Nat} {n:Nat} (h:Rows P row args w R):RowsIn (wd ro) n P row args w R:=
 fun c cs _=>let ⟨v,w',r,s⟩:=h c cs;⟨v,w',r,stepsIn_wide.2 s⟩
theorem CY {P:Program} {o:Oper} {a:Act} {w:World} {next:Act->World->Prop} {Q:Exit->Act->World->Prop} {ro:Option Nat} (hd:∀ c,o.op≠.defer c) (h:o.wp P a w next Q):o.wpIn (wd ro) 0 P a w next Q:=by
 refine⟨fun _ _=>trivial,?_⟩
 have e:o.semAt (wd ro).round a.eval=execOp a.eval o:=by
  cases ro with
  | none=>rfl
  | some l=>show Oper.semAt (some l) a.eval o=_;unfold Oper.semAt;cases ho:o.op<;>first | rfl | exact absurd ho (hd _)
 rw[e];unfold Oper.wp at h;generalize (execOp a.eval o).run P w=r at h ⊢
 cases r with
 | ok x w'=>
  cases x<;>simp only[Oper.upon,Oper.uponIn]at h ⊢<;>first | exact h | exact⟨fun e=>(by cases e),Ny h⟩ | exact⟨fun e=>(by cases e),ZA h⟩ | exact h.elim
 | halt x w'=>cases x<;>simp only[Oper.upon,Oper.uponIn]at h ⊢<;>first | exact h | exact h.elim
abbrev Env:=Nat->Option AV
structure St where
 env:Env
 H:Heap
def ik (e:Env) (i:Nat) (x:AV):Env:=fun j=>if j=i then some x else e j
def bk (H:Heap) (r:Nat) (row:Row):Heap:=fun q=>if q=r then some row else H q
def eQ:Heap:=fun _=>none
def bl (l:List (Nat×AV)):Env:=fun i=>l.lookup i
def au (l:List (Nat×Row)):Heap:=fun i=>l.lookup i
abbrev aF:=Nat->Option D
structure NY (w:World) (X:Nat->Prop) (μ:Mu) (N:Fr) (a:Act) (env:Env):Prop where
 defers:a.defers=N.ds
 size:a.tmps.size=N.n
 slot:∀ i x,env i=some x->∃ u,a.tmps[i]? = some u/\RV w X μ u x
structure In (w:World) (X:Nat->Prop) (G:aF) (μ:Mu) (N:Fr) (a:Act) (σ:St):Prop where
 bo:eu w X μ σ.H
 env:NY w X μ N a σ.env
 iu:∀ g x,G g=some x->RD w (XX X μ) (.pointer (some ⟨g,0,none⟩)) x
def aY (Mv X:Nat->Prop) (G:aF) (N:Fr) (σ τ:St):Prop:=∀ w μ a,In w X G μ N a σ->∃ aK,In w X G aK N a τ/\Ev Mv w μ w aK
theorem aY.refl {Mv X:Nat->Prop} {G:aF} {N:Fr} (σ:St):aY Mv X G N σ σ:=fun w μ _ h=>⟨μ,h,.refl _ w μ⟩
theorem aY.trans {Mv X:Nat->Prop} {G:aF} {N:Fr} {σ τ υ:St} (h:aY Mv X G N σ τ) (h':aY Mv X G N τ υ):aY Mv X G N σ υ:=fun w μ a hi=>
 let ⟨_,pF,e1⟩:=h w μ a hi
 let ⟨il,jB,e2⟩:=h' _ _ _ pF
 ⟨il,jB,e1.trans e2⟩
section
variable {P:Program} {Mv X:Nat->Prop} {G:aF} {N:Fr}
def After (Mv X:Nat->Prop) (G:aF) (N:Fr) (w:World) (μ:Mu) (Q:Exit->St->Prop) (e:Exit) (a':Act) (w':World):Prop:=
 ∃ aK aP,Q e aP/\In w' X G aK N a' aP/\Ev Mv w μ w' aK
def AW (P:Program) (Mv X:Nat->Prop) (G:aF) (N:Fr) (c:Code) (Q:Exit->St->Prop) (σ:St):Prop:=
 ∀ w μ a,In w X G μ N a σ->c.wpIn (wd N.ro) 0 P (After Mv X G N w μ Q) a w
theorem After.mono {w:World} {μ:Mu} {Q Q':Exit->St->Prop} (h:∀ e σ,Q e σ->Q' e σ) {e:Exit} {a':Act} {w':World} (ha:After Mv X G N w μ Q e a' w'):After Mv X G N w μ Q' e a' w':=
 let ⟨aK,aP,q,i,ev⟩:=ha
 ⟨aK,aP,h _ _ q,i,ev⟩
theorem AW.mono {c:Code} {Q Q':Exit->St->Prop} {σ:St} (h:AW P Mv X G N c Q σ) (hq:∀ e σ,Q e σ->Q' e σ):AW P Mv X G N c Q' σ:=
 fun w μ a hi=>wpIn_mono (h w μ a hi) fun _ _ _ ha=>ha.mono hq
theorem AW.imp {c:Code} {Q:Exit->St->Prop} {σ τ:St} (hi:aY Mv X G N σ τ) (h:AW P Mv X G N c Q τ):AW P Mv X G N c Q σ:=fun w μ a bn=>by
 obtain⟨ku,h1,e1⟩:=hi w μ a bn;exact wpIn_mono (h w ku a h1) fun e a' w' ⟨aK,aP,q,i,ev⟩=>⟨aK,aP,q,i,e1.trans ev⟩
def bY (next:St->Prop) (Q:Exit->St->Prop):Exit->St->Prop
 | .normal,σ=>next σ
 | e,σ=>Q e σ
def b9 (id:Nat) (Q:Exit->St->Prop):Exit->St->Prop
 | .exit BG,σ=>if BG=id then Q .normal σ else Q (.exit BG) σ
 | e,σ=>Q e σ
theorem ax {Q:Exit->St->Prop} {σ:St} (h:Q .normal σ):AW P Mv X G N .skip Q σ:=fun w μ _ hi=>wpIn_skip ⟨μ,σ,h,hi,.refl _ w μ⟩
theorem bt {Q:Exit->St->Prop} {σ:St} (h:Q .ret σ):AW P Mv X G N .ret Q σ:=fun w μ _ hi=>wpIn_ret ⟨μ,σ,h,hi,.refl _ w μ⟩
theorem cX {Q:Exit->St->Prop} {σ:St} {id:Nat} (h:Q (.exit id) σ):AW P Mv X G N (.exit id) Q σ:=fun w μ _ hi=>wpIn_exit ⟨μ,σ,h,hi,.refl _ w μ⟩
theorem qT {x y:Code} {Q:Exit->St->Prop} {σ:St} (h:AW P Mv X G N x (bY (AW P Mv X G N y Q) Q) σ):AW P Mv X G N (.seq x y) Q σ:=fun w μ a hi=>
 wpIn_seq (wpIn_mono (h w μ a hi) fun e a' w' ⟨aK,aP,q,i,ev⟩=>by
  cases e with
  | normal=>exact wpIn_mono (q w' aK a' i) fun e2 a2 w2 ⟨il,gV,q2,i2,ue⟩=>⟨il,gV,q2,i2,ev.trans ue⟩
  | _=>exact⟨aK,aP,q,i,ev⟩)
theorem bd {id:Nat} {c:Code} {Q:Exit->St->Prop} {σ:St} (h:AW P Mv X G N c (b9 id Q) σ):AW P Mv X G N (.block id c) Q σ:=fun w μ a hi=>
 wpIn_block (wpIn_mono (h w μ a hi) fun e a' w' ⟨aK,aP,q,i,ev⟩=>by
  cases e with
  | exit BG=>
   simp only[b9]at q;simp only[Exit.inBlock];split
   .rename_i he;rw[if_pos he]at q;exact⟨aK,aP,q,i,ev⟩
   .rename_i he;rw[if_neg he]at q;exact⟨aK,aP,q,i,ev⟩
  | _=>exact⟨aK,aP,q,i,ev⟩)
def rh:Value->D
 | .slice none 0 0=>.sl (some false) []
 | v=>.v v
def b5:Value->AV
 | .agg arr=>.d (.agg (arr.toList.map rh))
 | v=>.d (rh v)
def bG (G:aF) (e:Env):Operand->Option AV
 | .tmp t=>e t
 | .const v=>some (b5 v)
 | .global g=>(G g).map .d
 | .func f=>some (.d (.fn (.func f) []))
theorem vF {w:World} {X:Nat->Prop} (v:Value):RD w X v (rh v):=by
 unfold rh;split
 .exact .nil al
 .exact .v _
theorem DB {w:World} {μ:Mu} (v:Value):RV w X μ v (b5 v):=by
 unfold b5;split
 .refine .d (.agg al fun j u c hu hc=>?_);rw[aa3]at hc;obtain⟨c',dD,rfl⟩:=AS.1 hc;rw[abc]at dD;rw[hu]at dD;obtain rfl:=AI dD;exact vF _
 .exact .d (vF _)
theorem In.eval {w:World} {μ:Mu} {a:Act} {σ:St} (hi:In w X G μ N a σ) {o:Operand} {x:AV} (h:bG G σ.env o=some x):RV w X μ (a.eval o) x:=by
 cases o with
 | tmp t=>
  obtain⟨u,hu,hr⟩:=hi.env.slot t x h;simpa[Act.eval,aa2,hu]using hr
 | const v=>simp only[bG,BY]at h;subst h;exact DB v
 | global g=>
  simp only[bG,AS]at h;obtain⟨d,hd,rfl⟩:=h;exact .d (hi.iu g d hd)
 | func f=>simp only[bG,BY]at h;subst h;exact .d (.fn al al)
theorem tN {c:Operand} {x y:Code} {Q:Exit->St->Prop} {σ:St} (b:Bool) (hc:bG G σ.env c=some (.d (.v (.bool b)))) (ht:b=true->AW P Mv X G N x Q σ) (hf:b=false->AW P Mv X G N y Q σ) :
  AW P Mv X G N (.cond c x y) Q σ:=fun w μ a hi=>by
 have h:=hi.eval hc;have h':a.eval c = .bool b:=h.scalar;exact wpIn_cond_split h' (fun e=>ht e w μ a hi) (fun e=>hf e w μ a hi)
theorem eJ {x y:Code} {c:Operand} {Q:Exit->St->Prop} {σ:St} (hc:bG G σ.env c=some (.d (.v (.bool true)))) (h:AW P Mv X G N x Q σ):AW P Mv X G N (.cond c x y) Q σ:=tN true hc (fun _=>h) (fun h=>by cases h)
theorem gW {x y:Code} {c:Operand} {Q:Exit->St->Prop} {σ:St} (hc:bG G σ.env c=some (.d (.v (.bool false)))) (h:AW P Mv X G N y Q σ):AW P Mv X G N (.cond c x y) Q σ:=tN false hc (fun h=>by cases h) (fun _=>h)
theorem aD {x y:Code} {c:Operand} {Q:Exit->St->Prop} {σ:St} (h:AW P Mv X G N x Q σ) (hc:bG G σ.env c=some (.d (.v (.bool true))):=by rfl):AW P Mv X G N (.cond c x y) Q σ:=eJ hc h
theorem aj {x y:Code} {c:Operand} {Q:Exit->St->Prop} {σ:St} (h:AW P Mv X G N y Q σ) (hc:bG G σ.env c=some (.d (.v (.bool false))):=by rfl):AW P Mv X G N (.cond c x y) Q σ:=gW hc h
theorem NQ {S:Type} {c:Code} {Q:Exit->St->Prop} {σ:St} (inv:S->St) (nJ:S->Nat) (s0:S) (h0:aY Mv X G N σ (inv s0))
  (round:∀ s,AW P Mv X G N c (bY (fun aP=>∃ s',nJ s' < nJ s/\aY Mv X G N aP (inv s')) Q) (inv s)):AW P Mv X G N (.loop c) Q σ:=fun w μ a hi=>by
 obtain⟨mn,nz,P7⟩:=h0 w μ a hi
 have key:∀ n s w1 ku a1,nJ s < n->In w1 X G ku N a1 (inv s)->Ev Mv w μ w1 ku->Code.roundsIn (wd N.ro) 0 P c (After Mv X G N w μ Q) n a1 w1:=by
  intro n
  induction n with
  | zero=>intro s w1 ku a1 h;omega
  | succ n ih=>
   intro s w1 ku a1 bf bn br;rw[roundsIn_succ];refine wpIn_mono (round s w1 ku a1 bn) fun e a' w' ⟨aK,aP,q,i,ev⟩=>?_
   cases e with
   | normal=>
    obtain⟨s',wx,himp⟩:=q;obtain⟨il,jB,ue⟩:=himp w' aK a' i;exact ih s' w' il a' aa jB (br.trans (ev.trans ue))
   | _=>exact⟨aK,aP,q,i,br.trans ev⟩
 exact wpIn_loop_rounds (nJ s0+1) (key _ s0 w mn a aa nz P7)
def HB (P:Program) (Mv X:Nat->Prop) (G:aF) (f:FuncId) (xs:List AV) (H:Heap) (R:AV->Heap->Prop):Prop:=
 ∀ w μ (vs:Array Value),eu w X μ H->(∀ g x,G g=some x->RD w (XX X μ) (.pointer (some ⟨g,0,none⟩)) x)->vs.size=xs.length->(∀ (i:Nat) (u:Value) (x:AV),vs[i]? = some u->xs[i]? = some x->RV w X μ u x)->
  Calls P f vs w fun e w'=>∃ v x H' aK,e = .returned v/\R x H'/\RV w' X aK v x/\eu w' X aK H'/\Ev Mv w μ w' aK
def args (xs:List AV):Env:=fun i=>xs[i]?
def V5 (rs:List ResultVar) (e:Env):Option AV:=
 match rs with
 | []=>some (.d (.v (.tuple #[])))
 | [.tmp t]=>e t
 | [.tmp t,.tmp u]=>match e t,e u with | some x,some y=>some (.bI [x,y]) | _,_=>none
 | [.tmp t,.tmp u,.tmp v]=>match e t,e u,e v with | some x,some y,some z=>some (.bI [x,y,z]) | _,_,_=>none
 | _=>none
def atEnd (rs:List ResultVar) (R:AV->Heap->Prop):Exit->St->Prop
 | .normal,σ | .ret,σ=>∃ x,V5 rs σ.env=some x/\R x σ.H
 | _,_=>False
end
end Go.Av
namespace Go.Av
structure TI where
 desc:TypeDesc
 size:Nat
 bytes:Nat
 zero:Value
 pe:Bool
abbrev Ty:=TypeId->Option TI
def Good (P:Program) (T:Ty):Prop:=∀ t ti,T t=some ti->P.underlying t=some ti.desc/\∃ i,P.info? t=some i/\i.size=ti.size/\i.bytes=ti.bytes/\i.zero=some ti.zero/\(ti.pe=true->P.stoodInHeld t=false/\P.eqGuardType P.depth t=false)
section
variable {P:Program} {T:Ty} {t:TypeId} {ti:TI} {w:World}
theorem Good.dA (h:Good P T) (ht:T t=some ti):(underlying t).run P w = .ok ti.desc w:=run_underlying (h t ti ht).1 w
theorem Good.sizeOf (h:Good P T) (ht:T t=some ti):(Go.sizeOf t).run P w = .ok ti.size w:=by
 obtain⟨_,i,hi,hs,_⟩:=h t ti ht;simp[Go.sizeOf,typeInfo,hi,hs]
theorem Good.zero (h:Good P T) (ht:T t=some ti):(zeroValue t).run P w = .ok ti.zero w:=by
 obtain⟨_,i,hi,_,_,hz,_⟩:=h t ti ht;simp[zeroValue,typeInfo,hi,hz]
end
def TypeDesc.isAgg:TypeDesc->Bool
 | .struct _ | .array _ _=>true
 | _=>false
theorem Good.isAgg {P:Program} {T:Ty} {t:TypeId} {ti:TI} {w:World} (h:Good P T) (ht:T t=some ti):(Go.isAgg t).run P w = .ok (TypeDesc.isAgg ti.desc) w:=by
 simp only[Go.isAgg,Sem.run_bind,h.dA ht,Result.andThen_ok];cases ti.desc<;>rfl
abbrev jy:=Option (Prop×AV)
def bool (b:Bool):AV:=.d (.v (.bool b))
def int (n:Int):AV:=.d (.v (.int .i64 n))
section
variable {w:World} {X:Nat->Prop} {μ:Mu}
theorem RD.oT {u:Value} {k:Option Bool} {els:List (List D)} (h:RD w X u (.sl k els)) :
  (u = .slice none 0 0/\els=[]/\k≠some true)\/
  (∃ a cap,u = .slice (some a) els.length cap/\k≠some false/\els.length<=cap/\cap<=maxLen/\
   (els=[]\/∃ b off sz,∃ f:Nat->Nat->Value,a=⟨b,off,none⟩/\¬ X b/\0 < sz/\(∀ el∈els,el.length=sz)/\
    (∀ i j,i < els.length->j < sz->w.cell? ⟨b,off+(i * sz+j),none⟩=some (f i j))/\
    (∀ (i j:Nat) (el:List D) (c:D),els[i]? = some el->el[j]? = some c->RD w X (f i j) c))):=by
 generalize hy:D.sl k els=y at h;cases h<;>cases hy
 .exact .inl ⟨rfl,rfl,by assumption⟩
 .exact .inr ⟨_,_,rfl,by assumption,al,by assumption,.inl rfl⟩
 .rename_i b off n cap sz f hc hm hX hz bw dW hk hn hs hr;subst hn;exact .inr ⟨_,_,rfl,hk,hc,hm,.inr ⟨b,off,sz,f,rfl,hX,hz,hs,dW,hr⟩⟩
theorem RD.pV {u:Value} {cells:List D} (h:RD w X u (.ip cells)):∃ b off,∃ f:Nat->Value,u = .pointer (some ⟨b,off,none⟩)/\¬ X b/\b < w.heap.size/\
  (∀ j,j < cells.length->w.cell? ⟨b,off+j,none⟩=some (f j))/\(∀ (j:Nat) (c:D),cells[j]? = some c->RD w X (f j) c):=by
 generalize hy:D.ip cells=y at h;cases h<;>cases hy;exact⟨_,_,_,rfl,by assumption,by assumption,by assumption,by assumption⟩
theorem RD.qc {u:Value} {cells:List D} (h:RD w X u (.agg cells)):∃ arr,u = .agg arr/\arr.size=cells.length/\∀ (j:Nat) (u:Value) (c:D),arr[j]? = some u->cells[j]? = some c->RD w X u c:=by
 generalize hy:D.agg cells=y at h;cases h<;>cases hy;exact⟨_,rfl,by assumption,by assumption⟩
theorem RD.xf {u:Value} {cells:List D} (h:RD w X u (.bI cells)):∃ arr,u = .tuple arr/\arr.size=cells.length/\∀ (j:Nat) (u:Value) (c:D),arr[j]? = some u->cells[j]? = some c->RD w X u c:=by
 generalize hy:D.bI cells=y at h;cases h<;>cases hy;exact⟨_,rfl,by assumption,by assumption⟩
theorem RD.r4 {u:Value} {t:TypeId} {x:D} (h:RD w X u (.b6 t x)):∃ v,u = .iface t v/\RD w X v x:=by
 generalize hy:D.b6 t x=y at h;cases h<;>cases hy;exact⟨_,rfl,by assumption⟩
theorem RD.vO {u:Value} {f:Fn} {cells:List D} (h:RD w X u (.fn f cells)):∃ arr,u = .func f #[] arr/\arr.size=cells.length/\∀ (j:Nat) (u:Value) (c:D),arr[j]? = some u->cells[j]? = some c->RD w X u c:=by
 generalize hy:D.fn f cells=y at h;cases h<;>cases hy;exact⟨_,rfl,by assumption,by assumption⟩
theorem RV.qc {u:Value} {cells:List AV} (h:RV w X μ u (.agg cells)):∃ arr,u = .agg arr/\arr.size=cells.length/\∀ (j:Nat) (u:Value) (c:AV),arr[j]? = some u->cells[j]? = some c->RV w X μ u c:=by
 generalize hy:AV.agg cells=y at h;cases h<;>cases hy;exact⟨_,rfl,by assumption,by assumption⟩
theorem RV.xf {u:Value} {cells:List AV} (h:RV w X μ u (.bI cells)):∃ arr,u = .tuple arr/\arr.size=cells.length/\∀ (j:Nat) (u:Value) (c:AV),arr[j]? = some u->cells[j]? = some c->RV w X μ u c:=by
 generalize hy:AV.bI cells=y at h;cases h<;>cases hy;exact⟨_,rfl,by assumption,by assumption⟩
theorem RV.r4 {u:Value} {t:TypeId} {x:AV} (h:RV w X μ u (.b6 t x)):∃ v,u = .iface t v/\RV w X μ v x:=by
 generalize hy:AV.b6 t x=y at h;cases h<;>cases hy;exact⟨_,rfl,by assumption⟩
theorem RV.O0 {u:Value} {g:FuncId} {x:AV} (h:RV w X μ u (.bm g x)):∃ v,u = .func (.func g) #[v] #[]/\RV w X μ v x:=by
 generalize hy:AV.bm g x=y at h;cases h<;>cases hy;exact⟨_,rfl,by assumption⟩
theorem RV.vO {u:Value} {f:Fn} {cells:List AV} (h:RV w X μ u (.fn f cells)):∃ arr,u = .func f #[] arr/\arr.size=cells.length/\∀ (j:Nat) (u:Value) (c:AV),arr[j]? = some u->cells[j]? = some c->RV w X μ u c:=by
 generalize hy:AV.fn f cells=y at h;cases h<;>cases hy;exact⟨_,rfl,by assumption,by assumption⟩
theorem RV.lp {u:Value} {r off n:Nat} (h:RV w X μ u (.own r off n)):∃ m,μ r=some m/\((m.fh=none/\u = .slice none 0 0/\off=0/\n=0)\/(∃ b,m.fh=some b/\u = .slice (some ⟨b,off * m.sz,none⟩) n (m.cap - off)/\off+n<=m.cap)):=by
 generalize hy:AV.own r off n=y at h;cases h<;>cases hy;exact⟨_,by assumption,by assumption⟩
theorem RV.jd {u:Value} {r e j:Nat} (h:RV w X μ u (.ref r e j)):∃ m b,μ r=some m/\m.fh=some b/\u = .pointer (some ⟨b,e * m.sz+j,none⟩):=by
 generalize hy:AV.ref r e j=y at h;cases h<;>cases hy;exact⟨_,_,by assumption,by assumption,rfl⟩
end
def kA:List AV->Option (List D)
 | []=>some []
 | .d x :: l=>(kA l).map (x :: ·)
 | _ :: _=>none
def oO (l:List AV):AV:=match kA l with
 | some ds=>.d (.agg ds)
 | none=>.agg l
theorem oV:∀ {l:List AV} {ds:List D},kA l=some ds->l=ds.map .d
 | [],ds,h=>by simp[kA]at h;simp[h]
 | x :: l,ds,h=>by
  cases x with
  | d x=>
   simp only[kA,AS]at h;obtain⟨gl,h',rfl⟩:=h;simp[oV h']
  | _=>simp[kA]at h
theorem zi {w:World} {X:Nat->Prop} {μ:Mu} {u:Value} {l:List AV} (h:RV w X μ u (.agg l)):RV w X μ u (oO l):=by
 unfold oO;split
 .rename_i ds hd;rw[oV hd]at h;obtain⟨arr,rfl,hn,hr⟩:=h.qc;refine .d (.agg (by simpa using hn) fun j u c hu hc=>?_);exact (hr j u (.d c) hu (by rw[aa3,hc];rfl)).data
 .exact h
def n9 (T:Ty) (t:TypeId) (cells:List AV):jy:=match T t with
 | none=>none
 | some ti=>if TypeDesc.isAgg ti.desc then some (ti.size<=cells.length,oO (cells.take ti.size)) else some (cells≠[],cells.headD .dead)
def ra (T:Ty) (t:TypeId) (cells:List D):jy:=match T t with
 | none=>none
 | some ti=>if TypeDesc.isAgg ti.desc then some (ti.size<=cells.length,.d (.agg (cells.take ti.size))) else some (cells≠[],.d (cells.headD default))
theorem addr_add (b o j:Nat):(⟨b,o,none⟩:Addr).add j=⟨b,o+j,none⟩:=by unfold Addr.add;split<;>simp_all
theorem MO {P:Program} {T:Ty} (hg:Good P T) {t:TypeId} {ti:TI} (ht:T t=some ti) {w:World} {b o n:Nat} (f:Nat->Value) (hc:∀ j,j < n->w.cell? ⟨b,o+j,none⟩=some (f j)) :
  (TypeDesc.isAgg ti.desc=true->ti.size<=n->(loadVar t ⟨b,o,none⟩).run P w = .ok (.agg ((Array.range ti.size).map f)) w)/\
  (TypeDesc.isAgg ti.desc=false->0 < n->(loadVar t ⟨b,o,none⟩).run P w = .ok (f 0) w):=by
 constructor
 .intro ha hn;have:=run_loadCells (P:=P) w ⟨b,o,none⟩ ti.size f (fun j hj=>by rw[addr_add];exact hc j aa);simp only[loadVar,Sem.run_bind,hg.isAgg ht,Result.andThen_ok,ha,if_true,hg.sizeOf ht,this,Sem.run_pure];congr 1;apply congrArg;apply Array.ext
  .simp
  .intro i h1 h2;simp
 .intro ha hn;have h0:=hc 0 hn;simp only[abT]at h0;simp[loadVar,hg.isAgg ht,ha,h0]
def mW (T:Ty) (H:Heap) (t:TypeId):AV->jy
 | .d (.ip cells)=>ra T t cells
 | .ref r e j=>match H r with
  | some (.box _ cells)=>if e=0 then n9 T t (cells.drop j) else none
  | some (.sl _ sz els)=>match ra T t ((els.getD e []).drop j) with
   | some (c,x)=>some (e < els.length/\j < sz/\c,x)
   | none=>none
  | some (.mp _ _)=>none
  | some (.it _ _)=>none
  | none=>none
 | _=>none
theorem HZ {P:Program} {T:Ty} (hg:Good P T) {w:World} {X:Nat->Prop} {μ:Mu} {t:TypeId} {cells:List D} {c:Prop} {x:AV} (h:ra T t cells=some (c,x)) (hc:c) {b o:Nat} (f:Nat->Value)
  (dW:∀ j,j < cells.length->w.cell? ⟨b,o+j,none⟩=some (f j)) (hr:∀ (j:Nat) (c:D),cells[j]? = some c->RD w (XX X μ) (f j) c):∃ v,(loadVar t ⟨b,o,none⟩).run P w = .ok v w/\RV w X μ v x:=by
 unfold ra at h;split at h
 .cases h
 .rename_i ti ht;have hl:=MO hg ht f dW;split at h
  .rename_i ha;obtain⟨rfl,rfl⟩:=dI h;refine⟨_,hl.1 ha hc,.d (.agg (by simp;omega) fun j u d hu hd=>?_)⟩;rw[abf]at hd;split at hd
   .rename_i hj;simp[hj]at hu;subst hu;exact hr j d hd
   .cases hd
  .rename_i ha;obtain⟨rfl,rfl⟩:=dI h
   cases cells with
   | nil=>exact absurd rfl hc
   | cons d l=>exact⟨_,hl.2 (by simpa using ha) al,.d (hr 0 d rfl)⟩
theorem OI {P:Program} {T:Ty} (hg:Good P T) {w:World} {X:Nat->Prop} {μ:Mu} {t:TypeId} {cells:List AV} {c:Prop} {x:AV} (h:n9 T t cells=some (c,x)) (hc:c) {b o:Nat} (f:Nat->Value)
  (dW:∀ j,j < cells.length->w.cell? ⟨b,o+j,none⟩=some (f j)) (hr:∀ (j:Nat) (c:AV),cells[j]? = some c->RV w X μ (f j) c):∃ v,(loadVar t ⟨b,o,none⟩).run P w = .ok v w/\RV w X μ v x:=by
 unfold n9 at h;split at h
 .cases h
 .rename_i ti ht;have hl:=MO hg ht f dW;split at h
  .rename_i ha;obtain⟨rfl,rfl⟩:=dI h;refine⟨_,hl.1 ha hc,zi (.agg (by simp;omega) fun j u d hu hd=>?_)⟩;rw[abf]at hd;split at hd
   .rename_i hj;simp[hj]at hu;subst hu;exact hr j d hd
   .cases hd
  .rename_i ha;obtain⟨rfl,rfl⟩:=dI h
   cases cells with
   | nil=>exact absurd rfl hc
   | cons d l=>exact⟨_,hl.2 (by simpa using ha) al,hr 0 d rfl⟩
theorem Lg {P:Program} {T:Ty} (hg:Good P T) {w:World} {X:Nat->Prop} {μ:Mu} {H:Heap} (hs:eu w X μ H) {t:TypeId} {u:Value} {x y:AV} {c:Prop} (h:mW T H t x=some (c,y)) (hc:c) (hx:RV w X μ u x) :
  ∃ v,(Instr.loadAt t u).run P w = .ok v w/\RV w X μ v y:=by
 unfold mW at h;split at h
 .rename_i cells;obtain⟨b,off,f,rfl,_,_,dW,hr⟩:=hx.data.pV;simpa[Instr.loadAt,Instr.sureAddr]using HZ (P:=P) hg h hc f dW hr
 .rename_i r e j;obtain⟨m,b,hm,hb,rfl⟩:=hx.jd;split at h
  .rename_i ty cells hH;split at h
   .rename_i he;subst he;obtain⟨m',cD,ok⟩:=hs.rows r _ hH;rw[hm]at cD;obtain rfl:=AI cD
    cases ok with
    | box bp bc jl hh hn hr wG=>
     rename_i b' cur;rw[hb]at bp;obtain rfl:=AI bp
     have dW:∀ i,i < (cells.drop j).length->w.cell? ⟨b,0 * m.sz+j+i,none⟩=some (cur.getD (j+i) undef):=by
      intro i hi;simp only[abp]at hi;rw[ab6,abe,cell_of_row w b (j+i) cur ty (0,0) hh];simp[aa2,show j+i < cur.size by omega]
     simp only[Instr.loadAt,Instr.sureAddr,Sem.run_bind,Sem.run_pure,Result.andThen_ok];refine OI (P:=P) hg h hc (fun i=>cur.getD (j+i) undef) dW fun i d hd=>?_;rw[abB]at hd;have bf:j+i < cells.length:=(By.1 hd).1;refine hr (j+i) _ d ?_ hd;simp[aa2,show j+i < cur.size by omega]
   .cases h
  .rename_i ty sz els hH;split at h
   .rename_i c' x' hv;obtain⟨rfl,rfl⟩:=dI h;obtain⟨he,hj,dD⟩:=hc;obtain⟨m',cD,ok⟩:=hs.rows r _ hH;rw[hm]at cD;obtain rfl:=AI cD
    cases ok with
    | nil bp _=>rw[hb]at bp;cases bp
    | sl bp bc hh cK hn ix hl hz hr=>
     rename_i b' cur;rw[hb]at bp;obtain rfl:=AI bp;subst bc
     have bu:els.getD e []=els[e]:=by simp[aa5,he]
     have hlen:(els[e]).length=m.sz:=hl _ (aa6 he)
     have bf:∀ i,j+i < m.sz->e * m.sz+(j+i) < cur.size:=by
      intro i hi;rw[cK];have:(e+1) * m.sz<=m.cap * m.sz:=abl _ aa;rw[abJ]at this;omega
     rw[bu]at hv
     have dW:∀ i,i < ((els[e]).drop j).length->w.cell? ⟨b,e * m.sz+j+i,none⟩=some (cur.getD (e * m.sz+(j+i)) undef):=by
      intro i hi;simp only[abp,hlen]at hi;have:=bf i aa;rw[cell_of_row w b (e * m.sz+j+i) cur ty (0,0) hh];simp[aa2,abZ,this]
     simp only[Instr.loadAt,Instr.sureAddr,Sem.run_bind,Sem.run_pure,Result.andThen_ok];refine HZ (P:=P) hg hv dD (fun i=>cur.getD (e * m.sz+(j+i)) undef) dW fun i d hd=>?_;rw[abB]at hd;obtain⟨u',mO,cm⟩:=hr e (j+i) _ d (IN he) hd;simpa[aa2,mO]using cm
   .cases h
  .cases h
  .cases h
  .cases h
 .cases h
def ot (T:Ty) (t:TypeId):Option Nat:=match T t with
 | some ti=>match ti.desc with
  | .slice e=>(T e).map (·.size)
  | _=>none
 | none=>none
def xq (T:Ty) (t:TypeId):Option (Nat×Nat):=match T t with
 | some ti=>match ti.desc with
  | .array n e=>(T e).map fun te=>(n,te.size)
  | _=>none
 | none=>none
def o8 (T:Ty) (H:Heap) (t:TypeId):AV->AV->jy
 | .d (.sl _ els),.d (.v (.int _ i))=>match ot T t with
  | some s=>some (0<=i/\i < els.length/\(els.getD i.toNat []).length=s,.d (.ip (els.getD i.toNat [])))
  | none=>none
 | .own r off n,.d (.v (.int _ i))=>match ot T t,H r with
  | some s,some (.sl _ sz _)=>some (0<=i/\i < n/\sz=s,.ref r (off+i.toNat) 0)
  | some s,some (.box _ _)=>some (0<=i/\i < n/\off=0,.ref r 0 (i.toNat * s))
  | _,_=>none
 | .d (.ip cells),.d (.v (.int _ i))=>match xq T t with
  | some (n,s)=>some (0<=i/\i < n,.d (.ip (cells.drop (i.toNat * s))))
  | none=>none
 | .ref r e j,.d (.v (.int _ i))=>match xq T t with
  | some (n,s)=>some (0<=i/\i < n,.ref r e (j+i.toNat * s))
  | none=>none
 | _,_=>none
theorem MN {P:Program} {T:Ty} (hg:Good P T) {t:TypeId} {n s:Nat} (h:xq T t=some (n,s)) {w:World} {b o:Nat} {k:IntKind} {i:Int} (h0:0<=i) (h1:i < n) :
  (Instr.indexAt t (.pointer (some ⟨b,o,none⟩)) (.int k i)).run P w = .ok (.pointer (some ⟨b,o+i.toNat * s,none⟩)) w:=by
 unfold xq at h;split at h
 .rename_i ti ht;split at h
  .rename_i n' e hd;obtain⟨te,cH,he⟩:=AS.1 h;simp only[aa4]at he;obtain⟨rfl,rfl⟩:=he;obtain⟨m,rfl⟩:=abz h0
   have hm:m < n':=aa
   simp[Instr.indexAt,asIntOf,hg.dA ht,hd,Instr.sureAddr,hg.sizeOf cH,addr_add,hm]
  .cases h
 .cases h
theorem Tj {P:Program} {T:Ty} (hg:Good P T) {w:World} {X:Nat->Prop} {μ:Mu} {H:Heap} (hs:eu w X μ H) {t:TypeId} {u v:Value} {x y z:AV} {c:Prop} (h:o8 T H t x y=some (c,z)) (hc:c)
  (hx:RV w X μ u x) (hy:RV w X μ v y):∃ r,(Instr.indexAt t u v).run P w = .ok r w/\RV w X μ r z:=by
 unfold o8 at h;split at h
 .rename_i k els kd i;split at h
  .rename_i s he;obtain⟨rfl,rfl⟩:=dI h;obtain⟨h0,h1,h2⟩:=hc;unfold ot at he;split at he
   .rename_i ti ht;split at he
    .rename_i e hd;obtain⟨te,cH,rfl⟩:=AS.1 he;have hv:=hy.scalar;subst hv;obtain⟨n,rfl⟩:=abz h0;simp only[ab0]at h2 ⊢
     have hn:n < els.length:=aa
     rcases hx.data.oT with⟨rfl,rfl,_⟩ | ⟨a,cap,rfl,_,jl,_,hr⟩
     .simp at hn
     .rcases hr with rfl | ⟨b,off,sz,f,rfl,hX,hz,bc,dW,hr⟩
      .simp at hn
      .have bu:els.getD n []=els[n]:=by simp[aa5,hn]
       rw[bu]at h2 ⊢;have e2:(els[n]).length=sz:=bc _ (aa6 hn);refine⟨.pointer (some ⟨b,off+n * sz,none⟩),?_,.d (.ip (f:=fun j=>f n j) hX (sC (dW 0 0 aa hz)) (fun j hj=>?_) (fun j d hd=>hr n j _ d (IN hn) hd))⟩
       .simp[Instr.indexAt,asIntOf,hg.dA ht,hd,hg.sizeOf cH,addr_add,<- h2,e2];intro hh;omega
       .rw[abZ];exact dW n j hn aa
    .cases he
   .cases he
  .cases h
 .rename_i r off n kd i;split at h
  .rename_i s ty sz els he hH;obtain⟨rfl,rfl⟩:=dI h;obtain⟨h0,h1,rfl⟩:=hc;unfold ot at he;split at he
   .rename_i ti ht;split at he
    .rename_i e hd;obtain⟨te,cH,ui⟩:=AS.1 he;have hv:=hy.scalar;subst hv;obtain⟨k,rfl⟩:=abz h0;simp only[ab0];obtain⟨m,hm,hu⟩:=hx.lp;obtain⟨m',cD,ok⟩:=hs.rows r _ hH;rw[hm]at cD;obtain rfl:=AI cD
     rcases hu with⟨_,_,_,rfl⟩ | ⟨b,hb,rfl,hle⟩
     .omega
     .have bc:m.sz=sz:=by cases ok<;>assumption
      refine⟨.pointer (some ⟨b,(off+k) * m.sz+0,none⟩),?_,.ref hm hb⟩;simp[Instr.indexAt,asIntOf,hg.dA ht,hd,hg.sizeOf cH,addr_add,ui,<- bc,abJ];intro hh;omega
    .cases he
   .cases he
  .rename_i s ty cells he hH;obtain⟨rfl,rfl⟩:=dI h;obtain⟨h0,h1,rfl⟩:=hc;unfold ot at he;split at he
   .rename_i ti ht;split at he
    .rename_i e hd;obtain⟨te,cH,ui⟩:=AS.1 he;have hv:=hy.scalar;subst hv;obtain⟨k,rfl⟩:=abz h0;simp only[ab0];obtain⟨m,hm,hu⟩:=hx.lp
     rcases hu with⟨_,_,_,rfl⟩ | ⟨b,hb,rfl,hle⟩
     .omega
     .refine⟨.pointer (some ⟨b,0 * m.sz+k * s,none⟩),?_,.ref hm hb⟩;simp[Instr.indexAt,asIntOf,hg.dA ht,hd,hg.sizeOf cH,addr_add,ui];intro hh;omega
    .cases he
   .cases he
  .cases h
 .rename_i cells kd i;split at h
  .rename_i n s ha;obtain⟨rfl,rfl⟩:=dI h;obtain⟨b,off,f,rfl,hX,hb,dW,hr⟩:=hx.data.pV;have hv:=hy.scalar;subst hv;refine⟨_,MN hg ha hc.1 hc.2,.d (.ip (f:=fun q=>f (i.toNat * s+q)) hX hb (fun q hq=>?_) (fun q d hd=>?_))⟩
   .simp only[abp]at hq;rw[abZ];exact dW _ aa
   .rw[abB]at hd;exact hr _ d hd
  .cases h
 .rename_i r e j kd i;split at h
  .rename_i n s ha;obtain⟨rfl,rfl⟩:=dI h;obtain⟨m,b,hm,hb,rfl⟩:=hx.jd;have hv:=hy.scalar;subst hv;refine⟨_,MN hg ha hc.1 hc.2,?_⟩;rw[abZ];exact .ref hm hb
  .cases h
 .cases h
def rq (T:Ty) (t:TypeId) (f:Nat):Option (Field×Nat):=match T t with
 | some ti=>match ti.desc with
  | .struct fs=>match fs[f]? with
   | some fl=>(T fl.type).map fun tf=>(fl,tf.size)
   | none=>none
  | _=>none
 | none=>none
def AO (T:Ty) (t:TypeId) (f:Nat):AV->jy
 | .d (.ip cells)=>match rq T t f with
  | some (fl,s)=>some (0 < s,.d (.ip (cells.drop fl.offset)))
  | none=>none
 | .ref r e j=>match rq T t f with
  | some (fl,s)=>some (0 < s,.ref r e (j+fl.offset))
  | none=>none
 | _=>none
theorem MM {P:Program} {T:Ty} (hg:Good P T) {t:TypeId} {f:Nat} {fl:Field} {s:Nat} (h:rq T t f=some (fl,s)) (hs:0 < s) {w:World} {b o:Nat} :
  (Instr.fieldAt t (.pointer (some ⟨b,o,none⟩)) f).run P w = .ok (.pointer (some ⟨b,o+fl.offset,none⟩)) w:=by
 unfold rq at h;split at h
 .rename_i ti ht;split at h
  .rename_i fs hd;split at h
   .rename_i Qp hf;obtain⟨tf,BA,he⟩:=AS.1 h;simp only[aa4]at he;obtain⟨rfl,rfl⟩:=he
    have:¬ tf.size=0:=aa
    simp[Instr.fieldAt,hg.dA ht,hd,hf,Instr.sureAddr,fieldPlace,hg.sizeOf BA,this,addr_add]
   .cases h
  .cases h
 .cases h
theorem Qk {P:Program} {T:Ty} (hg:Good P T) {w:World} {X:Nat->Prop} {μ:Mu} {t:TypeId} {f:Nat} {u:Value} {x z:AV} {c:Prop} (h:AO T t f x=some (c,z)) (hc:c)
  (hx:RV w X μ u x):∃ r,(Instr.fieldAt t u f).run P w = .ok r w/\RV w X μ r z:=by
 unfold AO at h;split at h
 .rename_i cells;split at h
  .rename_i fl s hf;obtain⟨rfl,rfl⟩:=dI h;obtain⟨b,off,f',rfl,hX,hb,dW,hr⟩:=hx.data.pV;refine⟨_,MM hg hf hc,.d (.ip (f:=fun j=>f' (fl.offset+j)) hX hb (fun j hj=>?_) (fun j d hd=>?_))⟩
   .simp only[abp]at hj;rw[abZ];exact dW _ aa
   .rw[abB]at hd;exact hr _ d hd
  .cases h
 .rename_i r e j;split at h
  .rename_i fl s hf;obtain⟨rfl,rfl⟩:=dI h;obtain⟨m,b,hm,hb,rfl⟩:=hx.jd;refine⟨_,MM hg hf hc,?_⟩;rw[abZ];exact .ref hm hb
  .cases h
 .cases h
def AN (T:Ty) (t:TypeId) (f:Nat):AV->jy
 | .d (.agg cells)=>match rq T t f with
  | some (fl,_)=>ra T fl.type (cells.drop fl.offset)
  | none=>none
 | .agg cells=>match rq T t f with
  | some (fl,_)=>n9 T fl.type (cells.drop fl.offset)
  | none=>none
 | _=>none
theorem H4 {P:Program} {T:Ty} (hg:Good P T) {w:World} {X:Nat->Prop} {μ:Mu} {t:TypeId} {cells:List AV} {c:Prop} {x:AV} {arr:Array Value} {off:Nat} (h:n9 T t (cells.drop off)=some (c,x)) (hc:c)
  (hn:arr.size=cells.length) (hr:∀ (j:Nat) (u:Value) (c:AV),arr[j]? = some u->cells[j]? = some c->RV w X μ u c):∃ v,(part t arr off).run P w = .ok v w/\RV w X μ v x:=by
 unfold n9 at h;split at h
 .cases h
 .rename_i ti ht;split at h
  .rename_i ha;obtain⟨rfl,rfl⟩:=dI h;simp only[abp]at hc;refine⟨.agg (arr.extract off (off+ti.size)),by simp[part,hg.isAgg ht,ha,hg.sizeOf ht],zi (.agg ?_ fun j u d hu hd=>?_)⟩
   .simp;omega
   .rw[abf]at hd;split at hd
    .rename_i hj;rw[abB]at hd;rw[Array.getElem?_extract]at hu;split at hu
     .exact hr _ u d hu hd
     .cases hu
    .cases hd
  .rename_i ha;obtain⟨rfl,rfl⟩:=dI h
   have bf:off < cells.length:=by
    rcases ab7 off cells.length with h | h
    .exact h
    .exact absurd (acr h) hc
   have hd:(cells.drop off).headD .dead=cells[off]:=by rw[abA bf];rfl
   rw[hd]
   have Bs:off < arr.size:=aa
   exact⟨arr[off],by simp[part,hg.isAgg ht,ha,Bs],hr off _ _ (by simp[Bs]) (by simp[bf])⟩
theorem RV.wV {w:World} {X:Nat->Prop} {μ:Mu} {arr:Array Value} {cells:List D} (hr:∀ (j:Nat) (u:Value) (c:D),arr[j]? = some u->cells[j]? = some c->RD w (XX X μ) u c) :
  ∀ (j:Nat) (u:Value) (c:AV),arr[j]? = some u->(cells.map AV.d)[j]? = some c->RV w X μ u c:=by
 intro j u c hu hc;rw[aa3]at hc;obtain⟨c',dD,rfl⟩:=AS.1 hc;exact .d (hr j u c' hu dD)
theorem Dg (l:List D):kA (l.map .d)=some l:=by
 induction l with
 | nil=>rfl
 | cons x l ih=>simp[kA,ih]
theorem UB (l:List D):oO (l.map .d) = .d (.agg l):=by simp[oO,Dg]
theorem HY (T:Ty) (t:TypeId) (cells:List D) {c:Prop} {x:AV} (h:ra T t cells=some (c,x)) (hc:c):∃ c',n9 T t (cells.map .d)=some (c',x)/\c':=by
 unfold ra at h;unfold n9
 cases ht:T t with
 | none=>rw[ht]at h;cases h
 | some ti=>
  rw[ht]at h;dsimp only at h ⊢;split at h
  .rename_i ha;obtain⟨rfl,rfl⟩:=dI h;rw[if_pos ha];exact⟨_,by rw[<- List.map_take,UB],by simpa using hc⟩
  .rename_i ha;obtain⟨rfl,rfl⟩:=dI h;rw[if_neg ha]
   cases cells with
   | nil=>exact absurd rfl hc
   | cons d l=>exact⟨_,rfl,al⟩
theorem Qj {P:Program} {T:Ty} (hg:Good P T) {w:World} {X:Nat->Prop} {μ:Mu} {t:TypeId} {f:Nat} {u:Value} {x z:AV} {c:Prop} (h:AN T t f x=some (c,z)) (hc:c)
  (hx:RV w X μ u x):∃ r,(Instr.field t u f).run P w = .ok r w/\RV w X μ r z:=by
 have key:∀ (arr:Array Value) (cells:List AV) (fl:Field) (s:Nat) (c':Prop),rq T t f=some (fl,s)->n9 T fl.type (cells.drop fl.offset)=some (c',z)->c'->arr.size=cells.length->
   (∀ (j:Nat) (u:Value) (c:AV),arr[j]? = some u->cells[j]? = some c->RV w X μ u c)->∃ r,(Instr.field t (.agg arr) f).run P w = .ok r w/\RV w X μ r z:=by
  intro arr cells fl s c' hf hv dD hn hr;obtain⟨v,hv,gp⟩:=H4 (P:=P) hg hv dD hn hr;unfold rq at hf;split at hf
  .rename_i ti ht;split at hf
   .rename_i fs hd;split at hf
    .rename_i Qp EA;obtain⟨tf,BA,he⟩:=AS.1 hf;simp only[aa4]at he;obtain⟨rfl,rfl⟩:=he;exact⟨v,by simp[Instr.field,hg.dA ht,hd,EA,asAgg,hv],gp⟩
    .cases hf
   .cases hf
  .cases hf
 unfold AN at h;split at h
 .rename_i cells;split at h
  .rename_i fl s hf;obtain⟨arr,rfl,hn,hr⟩:=hx.data.qc;obtain⟨c',h',dD⟩:=HY T fl.type _ h hc;rw[List.map_drop]at h';exact key arr _ fl s c' hf h' dD (by simpa using hn) (RV.wV hr)
  .cases h
 .rename_i cells;split at h
  .rename_i fl s hf;obtain⟨arr,rfl,hn,hr⟩:=hx.qc;exact key arr cells fl s c hf h hc hn hr
  .cases h
 .cases h
