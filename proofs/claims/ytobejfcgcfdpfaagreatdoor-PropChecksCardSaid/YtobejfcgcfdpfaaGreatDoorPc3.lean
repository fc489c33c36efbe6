/- Parts. -/
import Derived.Test.YtobejfcgcfdpfaaGreatDoorPc2
import Derived.LoopN
import Derived.LoopNIn
import Derived.OrdersIn
set_option linter.unusedSectionVars false
set_option linter.unusedSimpArgs false
set_option linter.unusedVariables false
namespace Go.Av
structure Fr where
 n:Nat
 ds:List Deferred
 ro:Option Nat
def wd (ro:Option Nat):Fence:={ Fence.wide with round:=ro }
theorem XW {P:Program} {f:FuncId} {args:Array Value} {w:World} {R:Ending->World->Prop} {ro:Option Nat} {n:Nat} (h:Calls P f args w R):CallsIn (wd ro) n P f args w R:=
 (callsIn_wide (n:=n)).2 h
theorem aku {P:Program} {row:String} {args:Array Value} {w:World} {R:Value->World->Prop} {ro:Option Nat} {n:Nat} (h:Rows P row args w R):RowsIn (wd ro) n P row args w R:=
 fun c cs _=>let ⟨v,w',r,s⟩:=h c cs;⟨v,w',r,stepsIn_wide.2 s⟩
theorem yG {P:Program} {o:Oper} {a:Act} {w:World} {next:Act->World->Prop} {Q:Exit->Act->World->Prop} {ro:Option Nat} (hd:∀ c,o.op≠.defer c) (h:o.wp P a w next Q):o.wpIn (wd ro) 0 P a w next Q:=by
 refine⟨fun _ _=>trivial,?_⟩
 have e:o.semAt (wd ro).round a.eval=execOp a.eval o:=by
  cases ro with
  | none=>rfl
  | some l=>show Oper.semAt (some l) a.eval o=_;unfold Oper.semAt;cases ho:o.op<;>first | rfl | exact absurd ho (hd _)
 rw[e];unfold Oper.wp at h;generalize (execOp a.eval o).run P w=r at h ⊢
 cases r with
 | ok x w'=>
  cases x<;>simp only[Oper.upon,Oper.uponIn]at h ⊢<;>first | exact h | exact⟨fun e=>(by cases e),XW h⟩ | exact⟨fun e=>(by cases e),aku h⟩ | exact h.elim
 | halt x w'=>cases x<;>simp only[Oper.upon,Oper.uponIn]at h ⊢<;>first | exact h | exact h.elim
abbrev Env:=Nat->Option AV
structure St where
 env:Env
 H:Heap
def iz (e:Env) (i:Nat) (x:AV):Env:=fun j=>if j=i then some x else e j
def bk (H:Heap) (r:Nat) (row:Row):Heap:=fun q=>if q=r then some row else H q
def ji:Heap:=fun _=>none
def bg (l:List (Nat×AV)):Env:=fun i=>l.lookup i
def aw (l:List (Nat×Row)):Heap:=fun i=>l.lookup i
abbrev aB:=Nat->Option D
structure Yw (w:World) (X:Nat->Prop) (μ:Mu) (N:Fr) (a:Act) (env:Env):Prop where
 defers:a.defers=N.ds
 size:a.tmps.size=N.n
 slot:∀ i x,env i=some x->∃ u,a.tmps[i]? = some u/\RV w X μ u x
structure In (w:World) (X:Nat->Prop) (G:aB) (μ:Mu) (N:Fr) (a:Act) (σ:St):Prop where
 bx:eT w X μ σ.H
 env:Yw w X μ N a σ.env
 jA:∀ g x,G g=some x->RD w (XX X μ) (.pointer (some ⟨g,0,none⟩)) x
def aL (Mv X:Nat->Prop) (G:aB) (N:Fr) (σ τ:St):Prop:=∀ w μ a,In w X G μ N a σ->∃ aI,In w X G aI N a τ/\Ev Mv w μ w aI
theorem aL.refl {Mv X:Nat->Prop} {G:aB} {N:Fr} (σ:St):aL Mv X G N σ σ:=fun w μ _ h=>⟨μ,h,.refl _ w μ⟩
theorem aL.trans {Mv X:Nat->Prop} {G:aB} {N:Fr} {σ τ υ:St} (h:aL Mv X G N σ τ) (h':aL Mv X G N τ υ):aL Mv X G N σ υ:=fun w μ a hi=>
 let ⟨_,fV,e1⟩:=h w μ a hi
 let ⟨ku,gx,e2⟩:=h' _ _ _ fV
 ⟨ku,gx,e1.trans e2⟩
section
variable {P:Program} {Mv X:Nat->Prop} {G:aB} {N:Fr}
def After (Mv X:Nat->Prop) (G:aB) (N:Fr) (w:World) (μ:Mu) (Q:Exit->St->Prop) (e:Exit) (a':Act) (w':World):Prop:=
 ∃ aI aH,Q e aH/\In w' X G aI N a' aH/\Ev Mv w μ w' aI
def AW (P:Program) (Mv X:Nat->Prop) (G:aB) (N:Fr) (c:Code) (Q:Exit->St->Prop) (σ:St):Prop:=
 ∀ w μ a,In w X G μ N a σ->c.wpIn (wd N.ro) 0 P (After Mv X G N w μ Q) a w
theorem After.mono {w:World} {μ:Mu} {Q Q':Exit->St->Prop} (h:∀ e σ,Q e σ->Q' e σ) {e:Exit} {a':Act} {w':World} (ha:After Mv X G N w μ Q e a' w'):After Mv X G N w μ Q' e a' w':=
 let ⟨aI,aH,q,i,ev⟩:=ha
 ⟨aI,aH,h _ _ q,i,ev⟩
theorem AW.mono {c:Code} {Q Q':Exit->St->Prop} {σ:St} (h:AW P Mv X G N c Q σ) (hq:∀ e σ,Q e σ->Q' e σ):AW P Mv X G N c Q' σ:=
 fun w μ a hi=>wpIn_mono (h w μ a hi) fun _ _ _ ha=>ha.mono hq
theorem AW.imp {c:Code} {Q:Exit->St->Prop} {σ τ:St} (hi:aL Mv X G N σ τ) (h:AW P Mv X G N c Q τ):AW P Mv X G N c Q σ:=fun w μ a aR=>by
 obtain⟨mY,h1,e1⟩:=hi w μ a aR;exact wpIn_mono (h w mY a h1) fun e a' w' ⟨aI,aH,q,i,ev⟩=>⟨aI,aH,q,i,e1.trans ev⟩
def aT (next:St->Prop) (Q:Exit->St->Prop):Exit->St->Prop
 | .normal,σ=>next σ
 | e,σ=>Q e σ
def aW (id:Nat) (Q:Exit->St->Prop):Exit->St->Prop
 | .exit Ia,σ=>if Ia=id then Q .normal σ else Q (.exit Ia) σ
 | e,σ=>Q e σ
theorem aq {Q:Exit->St->Prop} {σ:St} (h:Q .normal σ):AW P Mv X G N .skip Q σ:=fun w μ _ hi=>wpIn_skip ⟨μ,σ,h,hi,.refl _ w μ⟩
theorem bW {Q:Exit->St->Prop} {σ:St} (h:Q .ret σ):AW P Mv X G N .ret Q σ:=fun w μ _ hi=>wpIn_ret ⟨μ,σ,h,hi,.refl _ w μ⟩
theorem bL {Q:Exit->St->Prop} {σ:St} {id:Nat} (h:Q (.exit id) σ):AW P Mv X G N (.exit id) Q σ:=fun w μ _ hi=>wpIn_exit ⟨μ,σ,h,hi,.refl _ w μ⟩
theorem tZ {x y:Code} {Q:Exit->St->Prop} {σ:St} (h:AW P Mv X G N x (aT (AW P Mv X G N y Q) Q) σ):AW P Mv X G N (.seq x y) Q σ:=fun w μ a hi=>
 wpIn_seq (wpIn_mono (h w μ a hi) fun e a' w' ⟨aI,aH,q,i,ev⟩=>by
  cases e with
  | normal=>exact wpIn_mono (q w' aI a' i) fun e2 a2 w2 ⟨ku,iB,q2,i2,za⟩=>⟨ku,iB,q2,i2,ev.trans za⟩
  | _=>exact⟨aI,aH,q,i,ev⟩)
theorem bf {id:Nat} {c:Code} {Q:Exit->St->Prop} {σ:St} (h:AW P Mv X G N c (aW id Q) σ):AW P Mv X G N (.block id c) Q σ:=fun w μ a hi=>
 wpIn_block (wpIn_mono (h w μ a hi) fun e a' w' ⟨aI,aH,q,i,ev⟩=>by
  cases e with
  | exit Ia=>
   simp only[aW]at q;simp only[Exit.inBlock];split
   .rename_i he;rw[if_pos he]at q;exact⟨aI,aH,q,i,ev⟩
   .rename_i he;rw[if_neg he]at q;exact⟨aI,aH,q,i,ev⟩
  | _=>exact⟨aI,aH,q,i,ev⟩)
def vu:Value->D
 | .slice none 0 0=>.sl (some false) []
 | v=>.v v
def iW:Value->AV
 | .agg arr=>.d (.agg (arr.toList.map vu))
 | v=>.d (vu v)
def bJ (G:aB) (e:Env):Operand->Option AV
 | .tmp t=>e t
 | .const v=>some (iW v)
 | .global g=>(G g).map .d
 | .func f=>some (.d (.fn (.func f) []))
theorem Ba {w:World} {X:Nat->Prop} (v:Value):RD w X v (vu v):=by
 unfold vu;split
 .exact .nil ak
 .exact .v _
theorem KE {w:World} {μ:Mu} (v:Value):RV w X μ v (iW v):=by
 unfold iW;split
 .refine .d (.agg ak fun j u c hu hc=>?_);rw[amm]at hc;obtain⟨c',eI,rfl⟩:=AS.1 hc;rw[ams]at eI;rw[hu]at eI;obtain rfl:=AI eI;exact Ba _
 .exact .d (Ba _)
theorem In.eval {w:World} {μ:Mu} {a:Act} {σ:St} (hi:In w X G μ N a σ) {o:Operand} {x:AV} (h:bJ G σ.env o=some x):RV w X μ (a.eval o) x:=by
 cases o with
 | tmp t=>
  obtain⟨u,hu,hr⟩:=hi.env.slot t x h;simpa[Act.eval,amg,hu]using hr
 | const v=>simp only[bJ,IT]at h;subst h;exact KE v
 | global g=>
  simp only[bJ,AS]at h;obtain⟨d,hd,rfl⟩:=h;exact .d (hi.jA g d hd)
 | func f=>simp only[bJ,IT]at h;subst h;exact .d (.fn ak ak)
theorem r5 {c:Operand} {x y:Code} {Q:Exit->St->Prop} {σ:St} (b:Bool) (hc:bJ G σ.env c=some (.d (.v (.bool b)))) (ht:b=true->AW P Mv X G N x Q σ) (hf:b=false->AW P Mv X G N y Q σ) :
  AW P Mv X G N (.cond c x y) Q σ:=fun w μ a hi=>by
 have h:=hi.eval hc;have h':a.eval c = .bool b:=h.scalar;exact wpIn_cond_split h' (fun e=>ht e w μ a hi) (fun e=>hf e w μ a hi)
theorem bR {x y:Code} {c:Operand} {Q:Exit->St->Prop} {σ:St} (hc:bJ G σ.env c=some (.d (.v (.bool true)))) (h:AW P Mv X G N x Q σ):AW P Mv X G N (.cond c x y) Q σ:=r5 true hc (fun _=>h) (fun h=>by cases h)
theorem bU {x y:Code} {c:Operand} {Q:Exit->St->Prop} {σ:St} (hc:bJ G σ.env c=some (.d (.v (.bool false)))) (h:AW P Mv X G N y Q σ):AW P Mv X G N (.cond c x y) Q σ:=r5 false hc (fun h=>by cases h) (fun _=>h)
theorem aJ {x y:Code} {c:Operand} {Q:Exit->St->Prop} {σ:St} (h:AW P Mv X G N x Q σ) (hc:bJ G σ.env c=some (.d (.v (.bool true))):=by rfl):AW P Mv X G N (.cond c x y) Q σ:=bR hc h
theorem al {x y:Code} {c:Operand} {Q:Exit->St->Prop} {σ:St} (h:AW P Mv X G N y Q σ) (hc:bJ G σ.env c=some (.d (.v (.bool false))):=by rfl):AW P Mv X G N (.cond c x y) Q σ:=bU hc h
theorem Yf {S:Type} {c:Code} {Q:Exit->St->Prop} {σ:St} (inv:S->St) (qQ:S->Nat) (s0:S) (h0:aL Mv X G N σ (inv s0))
  (round:∀ s,AW P Mv X G N c (aT (fun aH=>∃ s',qQ s' < qQ s/\aL Mv X G N aH (inv s')) Q) (inv s)):AW P Mv X G N (.loop c) Q σ:=fun w μ a hi=>by
 obtain⟨lY,S5,ev0⟩:=h0 w μ a hi
 have key:∀ n s w1 mY a1,qQ s < n->In w1 X G mY N a1 (inv s)->Ev Mv w μ w1 mY->Code.roundsIn (wd N.ro) 0 P c (After Mv X G N w μ Q) n a1 w1:=by
  intro n
  induction n with
  | zero=>intro s w1 mY a1 h;omega
  | succ n ih=>
   intro s w1 mY a1 aG aR bd;rw[roundsIn_succ];refine wpIn_mono (round s w1 mY a1 aR) fun e a' w' ⟨aI,aH,q,i,ev⟩=>?_
   cases e with
   | normal=>
    obtain⟨s',o0,himp⟩:=q;obtain⟨ku,gx,za⟩:=himp w' aI a' i;exact ih s' w' ku a' aa gx (bd.trans (ev.trans za))
   | _=>exact⟨aI,aH,q,i,bd.trans ev⟩
 exact wpIn_loop_rounds (qQ s0+1) (key _ s0 w lY a aa S5 ev0)
def P3 (P:Program) (Mv X:Nat->Prop) (G:aB) (f:FuncId) (xs:List AV) (H:Heap) (R:AV->Heap->Prop):Prop:=
 ∀ w μ (vs:Array Value),eT w X μ H->(∀ g x,G g=some x->RD w (XX X μ) (.pointer (some ⟨g,0,none⟩)) x)->vs.size=xs.length->(∀ (i:Nat) (u:Value) (x:AV),vs[i]? = some u->xs[i]? = some x->RV w X μ u x)->
  Calls P f vs w fun e w'=>∃ v x H' aI,e = .returned v/\R x H'/\RV w' X aI v x/\eT w' X aI H'/\Ev Mv w μ w' aI
def args (xs:List AV):Env:=fun i=>xs[i]?
def ain (rs:List ResultVar) (e:Env):Option AV:=
 match rs with
 | []=>some (.d (.v (.tuple #[])))
 | [.tmp t]=>e t
 | [.tmp t,.tmp u]=>match e t,e u with | some x,some y=>some (.bz [x,y]) | _,_=>none
 | [.tmp t,.tmp u,.tmp v]=>match e t,e u,e v with | some x,some y,some z=>some (.bz [x,y,z]) | _,_,_=>none
 | _=>none
def atEnd (rs:List ResultVar) (R:AV->Heap->Prop):Exit->St->Prop
 | .normal,σ | .ret,σ=>∃ x,ain rs σ.env=some x/\R x σ.H
 | _,_=>False
end
end Go.Av
namespace Go.Av
structure TI where
 desc:TypeDesc
 size:Nat
 bytes:Nat
 zero:Value
 pe:Bool
abbrev Ty:=TypeId->Option TI
def Good (P:Program) (T:Ty):Prop:=∀ t ti,T t=some ti->P.underlying t=some ti.desc/\∃ i,P.info? t=some i/\i.size=ti.size/\i.bytes=ti.bytes/\i.zero=some ti.zero/\(ti.pe=true->P.stoodInHeld t=false/\P.eqGuardType P.depth t=false)
section
variable {P:Program} {T:Ty} {t:TypeId} {ti:TI} {w:World}
theorem Good.dI (h:Good P T) (ht:T t=some ti):(underlying t).run P w = .ok ti.desc w:=run_underlying (h t ti ht).1 w
theorem Good.sizeOf (h:Good P T) (ht:T t=some ti):(Go.sizeOf t).run P w = .ok ti.size w:=by
 obtain⟨_,i,hi,hs,_⟩:=h t ti ht;simp[Go.sizeOf,typeInfo,hi,hs]
theorem Good.zero (h:Good P T) (ht:T t=some ti):(zeroValue t).run P w = .ok ti.zero w:=by
 obtain⟨_,i,hi,_,_,hz,_⟩:=h t ti ht;simp[zeroValue,typeInfo,hi,hz]
end
def TypeDesc.isAgg:TypeDesc->Bool
 | .struct _ | .array _ _=>true
 | _=>false
theorem Good.isAgg {P:Program} {T:Ty} {t:TypeId} {ti:TI} {w:World} (h:Good P T) (ht:T t=some ti):(Go.isAgg t).run P w = .ok (TypeDesc.isAgg ti.desc) w:=by
 simp only[Go.isAgg,Sem.run_bind,h.dI ht,Result.andThen_ok];cases ti.desc<;>rfl
abbrev lN:=Option (Prop×AV)
def bool (b:Bool):AV:=.d (.v (.bool b))
def int (n:Int):AV:=.d (.v (.int .i64 n))
section
variable {w:World} {X:Nat->Prop} {μ:Mu}
theorem RD.sW {u:Value} {k:Option Bool} {els:List (List D)} (h:RD w X u (.sl k els)) :
  (u = .slice none 0 0/\els=[]/\k≠some true)\/
  (∃ a cap,u = .slice (some a) els.length cap/\k≠some false/\els.length<=cap/\cap<=maxLen/\
   (els=[]\/∃ b off sz,∃ f:Nat->Nat->Value,a=⟨b,off,none⟩/\¬ X b/\0 < sz/\(∀ el∈els,el.length=sz)/\
    (∀ i j,i < els.length->j < sz->w.cell? ⟨b,off+(i * sz+j),none⟩=some (f i j))/\
    (∀ (i j:Nat) (el:List D) (c:D),els[i]? = some el->el[j]? = some c->RD w X (f i j) c))):=by
 generalize hy:D.sl k els=y at h;cases h<;>cases hy
 .exact .inl ⟨rfl,rfl,by assumption⟩
 .exact .inr ⟨_,_,rfl,by assumption,ak,by assumption,.inl rfl⟩
 .rename_i b off n cap sz f hc hm hX hz bq fJ hk hn hs hr;subst hn;exact .inr ⟨_,_,rfl,hk,hc,hm,.inr ⟨b,off,sz,f,rfl,hX,hz,hs,fJ,hr⟩⟩
theorem RD.sO {u:Value} {cells:List D} (h:RD w X u (.ip cells)):∃ b off,∃ f:Nat->Value,u = .pointer (some ⟨b,off,none⟩)/\¬ X b/\b < w.heap.size/\
  (∀ j,j < cells.length->w.cell? ⟨b,off+j,none⟩=some (f j))/\(∀ (j:Nat) (c:D),cells[j]? = some c->RD w X (f j) c):=by
 generalize hy:D.ip cells=y at h;cases h<;>cases hy;exact⟨_,_,_,rfl,by assumption,by assumption,by assumption,by assumption⟩
theorem RD.ud {u:Value} {cells:List D} (h:RD w X u (.agg cells)):∃ arr,u = .agg arr/\arr.size=cells.length/\∀ (j:Nat) (u:Value) (c:D),arr[j]? = some u->cells[j]? = some c->RD w X u c:=by
 generalize hy:D.agg cells=y at h;cases h<;>cases hy;exact⟨_,rfl,by assumption,by assumption⟩
theorem RD.CP {u:Value} {cells:List D} (h:RD w X u (.bz cells)):∃ arr,u = .tuple arr/\arr.size=cells.length/\∀ (j:Nat) (u:Value) (c:D),arr[j]? = some u->cells[j]? = some c->RD w X u c:=by
 generalize hy:D.bz cells=y at h;cases h<;>cases hy;exact⟨_,rfl,by assumption,by assumption⟩
theorem RD.uP {u:Value} {t:TypeId} {x:D} (h:RD w X u (.cC t x)):∃ v,u = .iface t v/\RD w X v x:=by
 generalize hy:D.cC t x=y at h;cases h<;>cases hy;exact⟨_,rfl,by assumption⟩
theorem RD.Bm {u:Value} {f:Fn} {cells:List D} (h:RD w X u (.fn f cells)):∃ arr,u = .func f #[] arr/\arr.size=cells.length/\∀ (j:Nat) (u:Value) (c:D),arr[j]? = some u->cells[j]? = some c->RD w X u c:=by
 generalize hy:D.fn f cells=y at h;cases h<;>cases hy;exact⟨_,rfl,by assumption,by assumption⟩
theorem RV.ud {u:Value} {cells:List AV} (h:RV w X μ u (.agg cells)):∃ arr,u = .agg arr/\arr.size=cells.length/\∀ (j:Nat) (u:Value) (c:AV),arr[j]? = some u->cells[j]? = some c->RV w X μ u c:=by
 generalize hy:AV.agg cells=y at h;cases h<;>cases hy;exact⟨_,rfl,by assumption,by assumption⟩
theorem RV.CP {u:Value} {cells:List AV} (h:RV w X μ u (.bz cells)):∃ arr,u = .tuple arr/\arr.size=cells.length/\∀ (j:Nat) (u:Value) (c:AV),arr[j]? = some u->cells[j]? = some c->RV w X μ u c:=by
 generalize hy:AV.bz cells=y at h;cases h<;>cases hy;exact⟨_,rfl,by assumption,by assumption⟩
theorem RV.uP {u:Value} {t:TypeId} {x:AV} (h:RV w X μ u (.cC t x)):∃ v,u = .iface t v/\RV w X μ v x:=by
 generalize hy:AV.cC t x=y at h;cases h<;>cases hy;exact⟨_,rfl,by assumption⟩
theorem RV.Zt {u:Value} {g:FuncId} {x:AV} (h:RV w X μ u (.bm g x)):∃ v,u = .func (.func g) #[v] #[]/\RV w X μ v x:=by
 generalize hy:AV.bm g x=y at h;cases h<;>cases hy;exact⟨_,rfl,by assumption⟩
theorem RV.Bm {u:Value} {f:Fn} {cells:List AV} (h:RV w X μ u (.fn f cells)):∃ arr,u = .func f #[] arr/\arr.size=cells.length/\∀ (j:Nat) (u:Value) (c:AV),arr[j]? = some u->cells[j]? = some c->RV w X μ u c:=by
 generalize hy:AV.fn f cells=y at h;cases h<;>cases hy;exact⟨_,rfl,by assumption,by assumption⟩
theorem RV.ml {u:Value} {r off n:Nat} (h:RV w X μ u (.own r off n)):∃ m,μ r=some m/\((m.fT=none/\u = .slice none 0 0/\off=0/\n=0)\/(∃ b,m.fT=some b/\u = .slice (some ⟨b,off * m.sz,none⟩) n (m.cap - off)/\off+n<=m.cap)):=by
 generalize hy:AV.own r off n=y at h;cases h<;>cases hy;exact⟨_,by assumption,by assumption⟩
theorem RV.mo {u:Value} {r e j:Nat} (h:RV w X μ u (.ref r e j)):∃ m b,μ r=some m/\m.fT=some b/\u = .pointer (some ⟨b,e * m.sz+j,none⟩):=by
 generalize hy:AV.ref r e j=y at h;cases h<;>cases hy;exact⟨_,_,by assumption,by assumption,rfl⟩
end
def nd:List AV->Option (List D)
 | []=>some []
 | .d x :: l=>(nd l).map (x :: ·)
 | _ :: _=>none
def rU (l:List AV):AV:=match nd l with
 | some ds=>.d (.agg ds)
 | none=>.agg l
theorem r8:∀ {l:List AV} {ds:List D},nd l=some ds->l=ds.map .d
 | [],ds,h=>by simp[nd]at h;simp[h]
 | x :: l,ds,h=>by
  cases x with
  | d x=>
   simp only[nd,AS]at h;obtain⟨jd,h',rfl⟩:=h;simp[r8 h']
  | _=>simp[nd]at h
theorem E3 {w:World} {X:Nat->Prop} {μ:Mu} {u:Value} {l:List AV} (h:RV w X μ u (.agg l)):RV w X μ u (rU l):=by
 unfold rU;split
 .rename_i ds hd;rw[r8 hd]at h;obtain⟨arr,rfl,hn,hr⟩:=h.ud;refine .d (.agg (by simpa using hn) fun j u c hu hc=>?_);exact (hr j u (.d c) hu (by rw[amm,hc];rfl)).data
 .exact h
def rm (T:Ty) (t:TypeId) (cells:List AV):lN:=match T t with
 | none=>none
 | some ti=>if TypeDesc.isAgg ti.desc then some (ti.size<=cells.length,rU (cells.take ti.size)) else some (cells≠[],cells.headD .dead)
def vn (T:Ty) (t:TypeId) (cells:List D):lN:=match T t with
 | none=>none
 | some ti=>if TypeDesc.isAgg ti.desc then some (ti.size<=cells.length,.d (.agg (cells.take ti.size))) else some (cells≠[],.d (cells.headD default))
theorem addr_add (b o j:Nat):(⟨b,o,none⟩:Addr).add j=⟨b,o+j,none⟩:=by unfold Addr.add;split<;>simp_all
theorem WT {P:Program} {T:Ty} (hg:Good P T) {t:TypeId} {ti:TI} (ht:T t=some ti) {w:World} {b o n:Nat} (f:Nat->Value) (hc:∀ j,j < n->w.cell? ⟨b,o+j,none⟩=some (f j)) :
  (TypeDesc.isAgg ti.desc=true->ti.size<=n->(loadVar t ⟨b,o,none⟩).run P w = .ok (.agg ((Array.range ti.size).map f)) w)/\
  (TypeDesc.isAgg ti.desc=false->0 < n->(loadVar t ⟨b,o,none⟩).run P w = .ok (f 0) w):=by
 constructor
 .intro ha hn;have:=run_loadCells (P:=P) w ⟨b,o,none⟩ ti.size f (fun j hj=>by rw[addr_add];exact hc j aa);simp only[loadVar,Sem.run_bind,hg.isAgg ht,Result.andThen_ok,ha,if_true,hg.sizeOf ht,this,Sem.run_pure];congr 1;apply congrArg;apply Array.ext
  .simp
  .intro i h1 h2;simp
 .intro ha hn;have h0:=hc 0 hn;simp only[anj]at h0;simp[loadVar,hg.isAgg ht,ha,h0]
def pH (T:Ty) (H:Heap) (t:TypeId):AV->lN
 | .d (.ip cells)=>vn T t cells
 | .ref r e j=>match H r with
  | some (.box _ cells)=>if e=0 then rm T t (cells.drop j) else none
  | some (.sl _ sz els)=>match vn T t ((els.getD e []).drop j) with
   | some (c,x)=>some (e < els.length/\j < sz/\c,x)
   | none=>none
  | some (.mp _ _)=>none
  | some (.it _ _)=>none
  | none=>none
 | _=>none
theorem Qm {P:Program} {T:Ty} (hg:Good P T) {w:World} {X:Nat->Prop} {μ:Mu} {t:TypeId} {cells:List D} {c:Prop} {x:AV} (h:vn T t cells=some (c,x)) (hc:c) {b o:Nat} (f:Nat->Value)
  (fJ:∀ j,j < cells.length->w.cell? ⟨b,o+j,none⟩=some (f j)) (hr:∀ (j:Nat) (c:D),cells[j]? = some c->RD w (XX X μ) (f j) c):∃ v,(loadVar t ⟨b,o,none⟩).run P w = .ok v w/\RV w X μ v x:=by
 unfold vn at h;split at h
 .cases h
 .rename_i ti ht;have hl:=WT hg ht f fJ;split at h
  .rename_i ha;obtain⟨rfl,rfl⟩:=eN h;refine⟨_,hl.1 ha hc,.d (.agg (by simp;omega) fun j u d hu hd=>?_)⟩;rw[amv]at hd;split at hd
   .rename_i hj;simp[hj]at hu;subst hu;exact hr j d hd
   .cases hd
  .rename_i ha;obtain⟨rfl,rfl⟩:=eN h
   cases cells with
   | nil=>exact absurd rfl hc
   | cons d l=>exact⟨_,hl.2 (by simpa using ha) ak,.d (hr 0 d rfl)⟩
theorem Y2 {P:Program} {T:Ty} (hg:Good P T) {w:World} {X:Nat->Prop} {μ:Mu} {t:TypeId} {cells:List AV} {c:Prop} {x:AV} (h:rm T t cells=some (c,x)) (hc:c) {b o:Nat} (f:Nat->Value)
  (fJ:∀ j,j < cells.length->w.cell? ⟨b,o+j,none⟩=some (f j)) (hr:∀ (j:Nat) (c:AV),cells[j]? = some c->RV w X μ (f j) c):∃ v,(loadVar t ⟨b,o,none⟩).run P w = .ok v w/\RV w X μ v x:=by
 unfold rm at h;split at h
 .cases h
 .rename_i ti ht;have hl:=WT hg ht f fJ;split at h
  .rename_i ha;obtain⟨rfl,rfl⟩:=eN h;refine⟨_,hl.1 ha hc,E3 (.agg (by simp;omega) fun j u d hu hd=>?_)⟩;rw[amv]at hd;split at hd
   .rename_i hj;simp[hj]at hu;subst hu;exact hr j d hd
   .cases hd
  .rename_i ha;obtain⟨rfl,rfl⟩:=eN h
   cases cells with
   | nil=>exact absurd rfl hc
   | cons d l=>exact⟨_,hl.2 (by simpa using ha) ak,hr 0 d rfl⟩
theorem UO {P:Program} {T:Ty} (hg:Good P T) {w:World} {X:Nat->Prop} {μ:Mu} {H:Heap} (hs:eT w X μ H) {t:TypeId} {u:Value} {x y:AV} {c:Prop} (h:pH T H t x=some (c,y)) (hc:c) (hx:RV w X μ u x) :
  ∃ v,(Instr.loadAt t u).run P w = .ok v w/\RV w X μ v y:=by
 unfold pH at h;split at h
 .rename_i cells;obtain⟨b,off,f,rfl,_,_,fJ,hr⟩:=hx.data.sO;simpa[Instr.loadAt,Instr.sureAddr]using Qm (P:=P) hg h hc f fJ hr
 .rename_i r e j;obtain⟨m,b,hm,hb,rfl⟩:=hx.mo;split at h
  .rename_i ty cells hH;split at h
   .rename_i he;subst he;obtain⟨m',cL,ok⟩:=hs.rows r _ hH;rw[hm]at cL;obtain rfl:=AI cL
    cases ok with
    | box br bp k8 hh hn hr Ca=>
     rename_i b' cur;rw[hb]at br;obtain rfl:=AI br
     have fJ:∀ i,i < (cells.drop j).length->w.cell? ⟨b,0 * m.sz+j+i,none⟩=some (cur.getD (j+i) undef):=by
      intro i hi;simp only[amF]at hi;rw[anJ,amR,cell_of_row w b (j+i) cur ty (0,0) hh];simp[amg,show j+i < cur.size by omega]
     simp only[Instr.loadAt,Instr.sureAddr,Sem.run_bind,Sem.run_pure,Result.andThen_ok];refine Y2 (P:=P) hg h hc (fun i=>cur.getD (j+i) undef) fJ fun i d hd=>?_;rw[amM]at hd;have aG:j+i < cells.length:=(BY.1 hd).1;refine hr (j+i) _ d ?_ hd;simp[amg,show j+i < cur.size by omega]
   .cases h
  .rename_i ty sz els hH;split at h
   .rename_i c' x' hv;obtain⟨rfl,rfl⟩:=eN h;obtain⟨he,hj,eI⟩:=hc;obtain⟨m',cL,ok⟩:=hs.rows r _ hH;rw[hm]at cL;obtain rfl:=AI cL
    cases ok with
    | nil br _=>rw[hb]at br;cases br
    | sl br bp hh cY hn iq hl hz hr=>
     rename_i b' cur;rw[hb]at br;obtain rfl:=AI br;subst bp
     have bn:els.getD e []=els[e]:=by simp[ame,he]
     have hlen:(els[e]).length=m.sz:=hl _ (By he)
     have aG:∀ i,j+i < m.sz->e * m.sz+(j+i) < cur.size:=by
      intro i hi;rw[cY];have:(e+1) * m.sz<=m.cap * m.sz:=amB _ aa;rw[amJ]at this;omega
     rw[bn]at hv
     have fJ:∀ i,i < ((els[e]).drop j).length->w.cell? ⟨b,e * m.sz+j+i,none⟩=some (cur.getD (e * m.sz+(j+i)) undef):=by
      intro i hi;simp only[amF,hlen]at hi;have:=aG i aa;rw[cell_of_row w b (e * m.sz+j+i) cur ty (0,0) hh];simp[amg,am6,this]
     simp only[Instr.loadAt,Instr.sureAddr,Sem.run_bind,Sem.run_pure,Result.andThen_ok];refine Qm (P:=P) hg hv eI (fun i=>cur.getD (e * m.sz+(j+i)) undef) fJ fun i d hd=>?_;rw[amM]at hd;obtain⟨u',iR,bQ⟩:=hr e (j+i) _ d (AT he) hd;simpa[amg,iR]using bQ
   .cases h
  .cases h
  .cases h
  .cases h
 .cases h
def ru (T:Ty) (t:TypeId):Option Nat:=match T t with
 | some ti=>match ti.desc with
  | .slice e=>(T e).map (·.size)
  | _=>none
 | none=>none
def C8 (T:Ty) (t:TypeId):Option (Nat×Nat):=match T t with
 | some ti=>match ti.desc with
  | .array n e=>(T e).map fun te=>(n,te.size)
  | _=>none
 | none=>none
def sN (T:Ty) (H:Heap) (t:TypeId):AV->AV->lN
 | .d (.sl _ els),.d (.v (.int _ i))=>match ru T t with
  | some s=>some (0<=i/\i < els.length/\(els.getD i.toNat []).length=s,.d (.ip (els.getD i.toNat [])))
  | none=>none
 | .own r off n,.d (.v (.int _ i))=>match ru T t,H r with
  | some s,some (.sl _ sz _)=>some (0<=i/\i < n/\sz=s,.ref r (off+i.toNat) 0)
  | some s,some (.box _ _)=>some (0<=i/\i < n/\off=0,.ref r 0 (i.toNat * s))
  | _,_=>none
 | .d (.ip cells),.d (.v (.int _ i))=>match C8 T t with
  | some (n,s)=>some (0<=i/\i < n,.d (.ip (cells.drop (i.toNat * s))))
  | none=>none
 | .ref r e j,.d (.v (.int _ i))=>match C8 T t with
  | some (n,s)=>some (0<=i/\i < n,.ref r e (j+i.toNat * s))
  | none=>none
 | _,_=>none
theorem WR {P:Program} {T:Ty} (hg:Good P T) {t:TypeId} {n s:Nat} (h:C8 T t=some (n,s)) {w:World} {b o:Nat} {k:IntKind} {i:Int} (h0:0<=i) (h1:i < n) :
  (Instr.indexAt t (.pointer (some ⟨b,o,none⟩)) (.int k i)).run P w = .ok (.pointer (some ⟨b,o+i.toNat * s,none⟩)) w:=by
 unfold C8 at h;split at h
 .rename_i ti ht;split at h
  .rename_i n' e hd;obtain⟨te,c8,he⟩:=AS.1 h;simp only[amj]at he;obtain⟨rfl,rfl⟩:=he;obtain⟨m,rfl⟩:=ami h0
   have hm:m < n':=aa
   simp[Instr.indexAt,asIntOf,hg.dI ht,hd,Instr.sureAddr,hg.sizeOf c8,addr_add,hm]
  .cases h
 .cases h
theorem adt {P:Program} {T:Ty} (hg:Good P T) {w:World} {X:Nat->Prop} {μ:Mu} {H:Heap} (hs:eT w X μ H) {t:TypeId} {u v:Value} {x y z:AV} {c:Prop} (h:sN T H t x y=some (c,z)) (hc:c)
  (hx:RV w X μ u x) (hy:RV w X μ v y):∃ r,(Instr.indexAt t u v).run P w = .ok r w/\RV w X μ r z:=by
 unfold sN at h;split at h
 .rename_i k els kd i;split at h
  .rename_i s he;obtain⟨rfl,rfl⟩:=eN h;obtain⟨h0,h1,h2⟩:=hc;unfold ru at he;split at he
   .rename_i ti ht;split at he
    .rename_i e hd;obtain⟨te,c8,rfl⟩:=AS.1 he;have hv:=hy.scalar;subst hv;obtain⟨n,rfl⟩:=ami h0;simp only[amd]at h2 ⊢
     have hn:n < els.length:=aa
     rcases hx.data.sW with⟨rfl,rfl,_⟩ | ⟨a,cap,rfl,_,k8,_,hr⟩
     .simp at hn
     .rcases hr with rfl | ⟨b,off,sz,f,rfl,hX,hz,bp,fJ,hr⟩
      .simp at hn
      .have bn:els.getD n []=els[n]:=by simp[ame,hn]
       rw[bn]at h2 ⊢;have e2:(els[n]).length=sz:=bp _ (By hn);refine⟨.pointer (some ⟨b,off+n * sz,none⟩),?_,.d (.ip (f:=fun j=>f n j) hX (yY (fJ 0 0 aa hz)) (fun j hj=>?_) (fun j d hd=>hr n j _ d (AT hn) hd))⟩
       .simp[Instr.indexAt,asIntOf,hg.dI ht,hd,hg.sizeOf c8,addr_add,<- h2,e2];intro hh;omega
       .rw[am6];exact fJ n j hn aa
    .cases he
   .cases he
  .cases h
 .rename_i r off n kd i;split at h
  .rename_i s ty sz els he hH;obtain⟨rfl,rfl⟩:=eN h;obtain⟨h0,h1,rfl⟩:=hc;unfold ru at he;split at he
   .rename_i ti ht;split at he
    .rename_i e hd;obtain⟨te,c8,zx⟩:=AS.1 he;have hv:=hy.scalar;subst hv;obtain⟨k,rfl⟩:=ami h0;simp only[amd];obtain⟨m,hm,hu⟩:=hx.ml;obtain⟨m',cL,ok⟩:=hs.rows r _ hH;rw[hm]at cL;obtain rfl:=AI cL
     rcases hu with⟨_,_,_,rfl⟩ | ⟨b,hb,rfl,hle⟩
     .omega
     .have bp:m.sz=sz:=by cases ok<;>assumption
      refine⟨.pointer (some ⟨b,(off+k) * m.sz+0,none⟩),?_,.ref hm hb⟩;simp[Instr.indexAt,asIntOf,hg.dI ht,hd,hg.sizeOf c8,addr_add,zx,<- bp,amJ];intro hh;omega
    .cases he
   .cases he
  .rename_i s ty cells he hH;obtain⟨rfl,rfl⟩:=eN h;obtain⟨h0,h1,rfl⟩:=hc;unfold ru at he;split at he
   .rename_i ti ht;split at he
    .rename_i e hd;obtain⟨te,c8,zx⟩:=AS.1 he;have hv:=hy.scalar;subst hv;obtain⟨k,rfl⟩:=ami h0;simp only[amd];obtain⟨m,hm,hu⟩:=hx.ml
     rcases hu with⟨_,_,_,rfl⟩ | ⟨b,hb,rfl,hle⟩
     .omega
     .refine⟨.pointer (some ⟨b,0 * m.sz+k * s,none⟩),?_,.ref hm hb⟩;simp[Instr.indexAt,asIntOf,hg.dI ht,hd,hg.sizeOf c8,addr_add,zx];intro hh;omega
    .cases he
   .cases he
  .cases h
 .rename_i cells kd i;split at h
  .rename_i n s ha;obtain⟨rfl,rfl⟩:=eN h;obtain⟨b,off,f,rfl,hX,hb,fJ,hr⟩:=hx.data.sO;have hv:=hy.scalar;subst hv;refine⟨_,WR hg ha hc.1 hc.2,.d (.ip (f:=fun q=>f (i.toNat * s+q)) hX hb (fun q hq=>?_) (fun q d hd=>?_))⟩
   .simp only[amF]at hq;rw[am6];exact fJ _ aa
   .rw[amM]at hd;exact hr _ d hd
  .cases h
 .rename_i r e j kd i;split at h
  .rename_i n s ha;obtain⟨rfl,rfl⟩:=eN h;obtain⟨m,b,hm,hb,rfl⟩:=hx.mo;have hv:=hy.scalar;subst hv;refine⟨_,WR hg ha hc.1 hc.2,?_⟩;rw[am6];exact .ref hm hb
  .cases h
 .cases h
def vC (T:Ty) (t:TypeId) (f:Nat):Option (Field×Nat):=match T t with
 | some ti=>match ti.desc with
  | .struct fs=>match fs[f]? with
   | some fl=>(T fl.type).map fun tf=>(fl,tf.size)
   | none=>none
  | _=>none
 | none=>none
def GK (T:Ty) (t:TypeId) (f:Nat):AV->lN
 | .d (.ip cells)=>match vC T t f with
  | some (fl,s)=>some (0 < s,.d (.ip (cells.drop fl.offset)))
  | none=>none
 | .ref r e j=>match vC T t f with
  | some (fl,s)=>some (0 < s,.ref r e (j+fl.offset))
  | none=>none
 | _=>none
theorem WQ {P:Program} {T:Ty} (hg:Good P T) {t:TypeId} {f:Nat} {fl:Field} {s:Nat} (h:vC T t f=some (fl,s)) (hs:0 < s) {w:World} {b o:Nat} :
  (Instr.fieldAt t (.pointer (some ⟨b,o,none⟩)) f).run P w = .ok (.pointer (some ⟨b,o+fl.offset,none⟩)) w:=by
 unfold vC at h;split at h
 .rename_i ti ht;split at h
  .rename_i fs hd;split at h
   .rename_i fl' hf;obtain⟨tf,HY,he⟩:=AS.1 h;simp only[amj]at he;obtain⟨rfl,rfl⟩:=he
    have:¬ tf.size=0:=aa
    simp[Instr.fieldAt,hg.dI ht,hd,hf,Instr.sureAddr,fieldPlace,hg.sizeOf HY,this,addr_add]
   .cases h
  .cases h
 .cases h
theorem aaV {P:Program} {T:Ty} (hg:Good P T) {w:World} {X:Nat->Prop} {μ:Mu} {t:TypeId} {f:Nat} {u:Value} {x z:AV} {c:Prop} (h:GK T t f x=some (c,z)) (hc:c)
  (hx:RV w X μ u x):∃ r,(Instr.fieldAt t u f).run P w = .ok r w/\RV w X μ r z:=by
 unfold GK at h;split at h
 .rename_i cells;split at h
  .rename_i fl s hf;obtain⟨rfl,rfl⟩:=eN h;obtain⟨b,off,f',rfl,hX,hb,fJ,hr⟩:=hx.data.sO;refine⟨_,WQ hg hf hc,.d (.ip (f:=fun j=>f' (fl.offset+j)) hX hb (fun j hj=>?_) (fun j d hd=>?_))⟩
   .simp only[amF]at hj;rw[am6];exact fJ _ aa
   .rw[amM]at hd;exact hr _ d hd
  .cases h
 .rename_i r e j;split at h
  .rename_i fl s hf;obtain⟨rfl,rfl⟩:=eN h;obtain⟨m,b,hm,hb,rfl⟩:=hx.mo;refine⟨_,WQ hg hf hc,?_⟩;rw[am6];exact .ref hm hb
  .cases h
 .cases h
def GJ (T:Ty) (t:TypeId) (f:Nat):AV->lN
 | .d (.agg cells)=>match vC T t f with
  | some (fl,_)=>vn T fl.type (cells.drop fl.offset)
  | none=>none
 | .agg cells=>match vC T t f with
  | some (fl,_)=>rm T fl.type (cells.drop fl.offset)
  | none=>none
 | _=>none
theorem Qn {P:Program} {T:Ty} (hg:Good P T) {w:World} {X:Nat->Prop} {μ:Mu} {t:TypeId} {cells:List AV} {c:Prop} {x:AV} {arr:Array Value} {off:Nat} (h:rm T t (cells.drop off)=some (c,x)) (hc:c)
  (hn:arr.size=cells.length) (hr:∀ (j:Nat) (u:Value) (c:AV),arr[j]? = some u->cells[j]? = some c->RV w X μ u c):∃ v,(part t arr off).run P w = .ok v w/\RV w X μ v x:=by
 unfold rm at h;split at h
 .cases h
 .rename_i ti ht;split at h
  .rename_i ha;obtain⟨rfl,rfl⟩:=eN h;simp only[amF]at hc;refine⟨.agg (arr.extract off (off+ti.size)),by simp[part,hg.isAgg ht,ha,hg.sizeOf ht],E3 (.agg ?_ fun j u d hu hd=>?_)⟩
   .simp;omega
   .rw[amv]at hd;split at hd
    .rename_i hj;rw[amM]at hd;rw[Array.getElem?_extract]at hu;split at hu
     .exact hr _ u d hu hd
     .cases hu
    .cases hd
  .rename_i ha;obtain⟨rfl,rfl⟩:=eN h
   have aG:off < cells.length:=by
    rcases anv off cells.length with h | h
    .exact h
    .exact absurd (amH h) hc
   have hd:(cells.drop off).headD .dead=cells[off]:=by rw[amu aG];rfl
   rw[hd]
   have HK:off < arr.size:=aa
   exact⟨arr[off],by simp[part,hg.isAgg ht,ha,HK],hr off _ _ (by simp[HK]) (by simp[aG])⟩
theorem RV.Cw {w:World} {X:Nat->Prop} {μ:Mu} {arr:Array Value} {cells:List D} (hr:∀ (j:Nat) (u:Value) (c:D),arr[j]? = some u->cells[j]? = some c->RD w (XX X μ) u c) :
  ∀ (j:Nat) (u:Value) (c:AV),arr[j]? = some u->(cells.map AV.d)[j]? = some c->RV w X μ u c:=by
 intro j u c hu hc;rw[amm]at hc;obtain⟨c',eI,rfl⟩:=AS.1 hc;exact .d (hr j u c' hu eI)
theorem Ka (l:List D):nd (l.map .d)=some l:=by
 induction l with
 | nil=>rfl
 | cons x l ih=>simp[nd,ih]
theorem aeX (l:List D):rU (l.map .d) = .d (.agg l):=by simp[rU,Ka]
theorem Ql (T:Ty) (t:TypeId) (cells:List D) {c:Prop} {x:AV} (h:vn T t cells=some (c,x)) (hc:c):∃ c',rm T t (cells.map .d)=some (c',x)/\c':=by
 unfold vn at h;unfold rm
 cases ht:T t with
 | none=>rw[ht]at h;cases h
 | some ti=>
  rw[ht]at h;dsimp only at h ⊢;split at h
  .rename_i ha;obtain⟨rfl,rfl⟩:=eN h;rw[if_pos ha];exact⟨_,by rw[<- an7,aeX],by simpa using hc⟩
  .rename_i ha;obtain⟨rfl,rfl⟩:=eN h;rw[if_neg ha]
   cases cells with
   | nil=>exact absurd rfl hc
   | cons d l=>exact⟨_,rfl,ak⟩
theorem aaU {P:Program} {T:Ty} (hg:Good P T) {w:World} {X:Nat->Prop} {μ:Mu} {t:TypeId} {f:Nat} {u:Value} {x z:AV} {c:Prop} (h:GJ T t f x=some (c,z)) (hc:c)
  (hx:RV w X μ u x):∃ r,(Instr.field t u f).run P w = .ok r w/\RV w X μ r z:=by
 have key:∀ (arr:Array Value) (cells:List AV) (fl:Field) (s:Nat) (c':Prop),vC T t f=some (fl,s)->rm T fl.type (cells.drop fl.offset)=some (c',z)->c'->arr.size=cells.length->
   (∀ (j:Nat) (u:Value) (c:AV),arr[j]? = some u->cells[j]? = some c->RV w X μ u c)->∃ r,(Instr.field t (.agg arr) f).run P w = .ok r w/\RV w X μ r z:=by
  intro arr cells fl s c' hf hv eI hn hr;obtain⟨v,hv,iu⟩:=Qn (P:=P) hg hv eI hn hr;unfold vC at hf;split at hf
  .rename_i ti ht;split at hf
   .rename_i fs hd;split at hf
    .rename_i fl' Mb;obtain⟨tf,HY,he⟩:=AS.1 hf;simp only[amj]at he;obtain⟨rfl,rfl⟩:=he;exact⟨v,by simp[Instr.field,hg.dI ht,hd,Mb,asAgg,hv],iu⟩
    .cases hf
   .cases hf
  .cases hf
 unfold GJ at h;split at h
 .rename_i cells;split at h
  .rename_i fl s hf;obtain⟨arr,rfl,hn,hr⟩:=hx.data.ud;obtain⟨c',h',eI⟩:=Ql T fl.type _ h hc;rw[anY]at h';exact key arr _ fl s c' hf h' eI (by simpa using hn) (RV.Cw hr)
  .cases h
 .rename_i cells;split at h
  .rename_i fl s hf;obtain⟨arr,rfl,hn,hr⟩:=hx.ud;exact key arr cells fl s c hf h hc hn hr
  .cases h
 .cases h
