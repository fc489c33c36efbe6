/- Parts. -/
import Derived.Test.YtoohljflflnbeaaGreatDoorBo2
import Derived.LoopN
import Derived.LoopNIn
import Derived.OrdersIn
set_option linter.unusedSectionVars false
set_option linter.unusedSimpArgs false
set_option linter.unusedVariables false
namespace Go.Av
structure Fr where
 n:Nat
 ds:List Deferred
 ro:Option Nat
def wd (ro:Option Nat):Fence:={ Fence.wide with round:=ro }
theorem Sh {P:Program} {f:FuncId} {args:Array Value} {w:World} {R:Ending->World->Prop} {ro:Option Nat} {n:Nat} (h:Calls P f args w R):CallsIn (wd ro) n P f args w R:=
 (callsIn_wide (n:=n)).2 h
theorem aeZ {P:Program} {row:String} {args:Array Value} {w:World} {R:Value->World->Prop} {ro:Option Nat} {n:Nat} (h:Rows P row args w R):RowsIn (wd ro) n P row args w R:=
 fun c cs _=>let ⟨v,w',r,s⟩:=h c cs;⟨v,w',r,stepsIn_wide.2 s⟩
theorem Ad {P:Program} {o:Oper} {a:Act} {w:World} {next:Act->World->Prop} {Q:Exit->Act->World->Prop} {ro:Option Nat} (hd:∀ c,o.op≠.defer c) (h:o.wp P a w next Q):o.wpIn (wd ro) 0 P a w next Q:=by
 refine⟨fun _ _=>trivial,?_⟩
 have e:o.semAt (wd ro).round a.eval=execOp a.eval o:=by
  cases ro with
  | none=>rfl
  | some l=>show Oper.semAt (some l) a.eval o=_;unfold Oper.semAt;cases ho:o.op<;>first | rfl | exact absurd ho (hd _)
 rw[e];unfold Oper.wp at h;generalize (execOp a.eval o).run P w=r at h ⊢
 cases r with
 | ok x w'=>
  cases x<;>simp only[Oper.upon,Oper.uponIn]at h ⊢<;>first | exact h | exact⟨fun e=>(by cases e),Sh h⟩ | exact⟨fun e=>(by cases e),aeZ h⟩ | exact h.elim
 | halt x w'=>cases x<;>simp only[Oper.upon,Oper.uponIn]at h ⊢<;>first | exact h | exact h.elim
abbrev Env:=Nat->Option AV
structure St where
 env:Env
 H:Heap
def gI (e:Env) (i:Nat) (x:AV):Env:=fun j=>if j=i then some x else e j
def aX (H:Heap) (r:Nat) (row:Row):Heap:=fun q=>if q=r then some row else H q
def jc:Heap:=fun _=>none
def bn (l:List (Nat×AV)):Env:=fun i=>l.lookup i
def aw (l:List (Nat×Row)):Heap:=fun i=>l.lookup i
abbrev aC:=Nat->Option D
structure SM (w:World) (X:Nat->Prop) (μ:Mu) (N:Fr) (a:Act) (env:Env):Prop where
 defers:a.defers=N.ds
 size:a.tmps.size=N.n
 slot:∀ i x,env i=some x->∃ u,a.tmps[i]? = some u/\RV w X μ u x
structure In (w:World) (X:Nat->Prop) (G:aC) (μ:Mu) (N:Fr) (a:Act) (σ:St):Prop where
 bu:eF w X μ σ.H
 env:SM w X μ N a σ.env
 jq:∀ g x,G g=some x->RD w (XX X μ) (.pointer (some ⟨g,0,none⟩)) x
def aK (Mv X:Nat->Prop) (G:aC) (N:Fr) (σ τ:St):Prop:=∀ w μ a,In w X G μ N a σ->∃ aH,In w X G aH N a τ/\Ev Mv w μ w aH
theorem aK.refl {Mv X:Nat->Prop} {G:aC} {N:Fr} (σ:St):aK Mv X G N σ σ:=fun w μ _ h=>⟨μ,h,.refl _ w μ⟩
theorem aK.trans {Mv X:Nat->Prop} {G:aC} {N:Fr} {σ τ υ:St} (h:aK Mv X G N σ τ) (h':aK Mv X G N τ υ):aK Mv X G N σ υ:=fun w μ a hi=>
 let ⟨_,fJ,e1⟩:=h w μ a hi
 let ⟨jG,fZ,e2⟩:=h' _ _ _ fJ
 ⟨jG,fZ,e1.trans e2⟩
section
variable {P:Program} {Mv X:Nat->Prop} {G:aC} {N:Fr}
def After (Mv X:Nat->Prop) (G:aC) (N:Fr) (w:World) (μ:Mu) (Q:Exit->St->Prop) (e:Exit) (a':Act) (w':World):Prop:=
 ∃ aH aJ,Q e aJ/\In w' X G aH N a' aJ/\Ev Mv w μ w' aH
def AW (P:Program) (Mv X:Nat->Prop) (G:aC) (N:Fr) (c:Code) (Q:Exit->St->Prop) (σ:St):Prop:=
 ∀ w μ a,In w X G μ N a σ->c.wpIn (wd N.ro) 0 P (After Mv X G N w μ Q) a w
theorem After.mono {w:World} {μ:Mu} {Q Q':Exit->St->Prop} (h:∀ e σ,Q e σ->Q' e σ) {e:Exit} {a':Act} {w':World} (ha:After Mv X G N w μ Q e a' w'):After Mv X G N w μ Q' e a' w':=
 let ⟨aH,aJ,q,i,ev⟩:=ha
 ⟨aH,aJ,h _ _ q,i,ev⟩
theorem AW.mono {c:Code} {Q Q':Exit->St->Prop} {σ:St} (h:AW P Mv X G N c Q σ) (hq:∀ e σ,Q e σ->Q' e σ):AW P Mv X G N c Q' σ:=
 fun w μ a hi=>wpIn_mono (h w μ a hi) fun _ _ _ ha=>ha.mono hq
theorem AW.imp {c:Code} {Q:Exit->St->Prop} {σ τ:St} (hi:aK Mv X G N σ τ) (h:AW P Mv X G N c Q τ):AW P Mv X G N c Q σ:=fun w μ a aS=>by
 obtain⟨lQ,h1,e1⟩:=hi w μ a aS;exact wpIn_mono (h w lQ a h1) fun e a' w' ⟨aH,aJ,q,i,ev⟩=>⟨aH,aJ,q,i,e1.trans ev⟩
def aT (next:St->Prop) (Q:Exit->St->Prop):Exit->St->Prop
 | .normal,σ=>next σ
 | e,σ=>Q e σ
def aV (id:Nat) (Q:Exit->St->Prop):Exit->St->Prop
 | .exit EJ,σ=>if EJ=id then Q .normal σ else Q (.exit EJ) σ
 | e,σ=>Q e σ
theorem ar {Q:Exit->St->Prop} {σ:St} (h:Q .normal σ):AW P Mv X G N .skip Q σ:=fun w μ _ hi=>wpIn_skip ⟨μ,σ,h,hi,.refl _ w μ⟩
theorem bR {Q:Exit->St->Prop} {σ:St} (h:Q .ret σ):AW P Mv X G N .ret Q σ:=fun w μ _ hi=>wpIn_ret ⟨μ,σ,h,hi,.refl _ w μ⟩
theorem bW {Q:Exit->St->Prop} {σ:St} {id:Nat} (h:Q (.exit id) σ):AW P Mv X G N (.exit id) Q σ:=fun w μ _ hi=>wpIn_exit ⟨μ,σ,h,hi,.refl _ w μ⟩
theorem sN {x y:Code} {Q:Exit->St->Prop} {σ:St} (h:AW P Mv X G N x (aT (AW P Mv X G N y Q) Q) σ):AW P Mv X G N (.seq x y) Q σ:=fun w μ a hi=>
 wpIn_seq (wpIn_mono (h w μ a hi) fun e a' w' ⟨aH,aJ,q,i,ev⟩=>by
  cases e with
  | normal=>exact wpIn_mono (q w' aH a' i) fun e2 a2 w2 ⟨jG,iy,q2,i2,wz⟩=>⟨jG,iy,q2,i2,ev.trans wz⟩
  | _=>exact⟨aH,aJ,q,i,ev⟩)
theorem bd {id:Nat} {c:Code} {Q:Exit->St->Prop} {σ:St} (h:AW P Mv X G N c (aV id Q) σ):AW P Mv X G N (.block id c) Q σ:=fun w μ a hi=>
 wpIn_block (wpIn_mono (h w μ a hi) fun e a' w' ⟨aH,aJ,q,i,ev⟩=>by
  cases e with
  | exit EJ=>
   simp only[aV]at q;simp only[Exit.inBlock];split
   .rename_i he;rw[if_pos he]at q;exact⟨aH,aJ,q,i,ev⟩
   .rename_i he;rw[if_neg he]at q;exact⟨aH,aJ,q,i,ev⟩
  | _=>exact⟨aH,aJ,q,i,ev⟩)
def s4:Value->D
 | .slice none 0 0=>.sl (some false) []
 | v=>.v v
def gU:Value->AV
 | .agg arr=>.d (.agg (arr.toList.map s4))
 | v=>.d (s4 v)
def bF (G:aC) (e:Env):Operand->Option AV
 | .tmp t=>e t
 | .const v=>some (gU v)
 | .global g=>(G g).map .d
 | .func f=>some (.d (.fn (.func f) []))
theorem yw {w:World} {X:Nat->Prop} (v:Value):RD w X v (s4 v):=by
 unfold s4;split
 .exact .nil ak
 .exact .v _
theorem GJ {w:World} {μ:Mu} (v:Value):RV w X μ v (gU v):=by
 unfold gU;split
 .refine .d (.agg ak fun j u c hu hc=>?_);rw[agC]at hc;obtain⟨c',dZ,rfl⟩:=AS.1 hc;rw[agH]at dZ;rw[hu]at dZ;obtain rfl:=AI dZ;exact yw _
 .exact .d (yw _)
theorem In.eval {w:World} {μ:Mu} {a:Act} {σ:St} (hi:In w X G μ N a σ) {o:Operand} {x:AV} (h:bF G σ.env o=some x):RV w X μ (a.eval o) x:=by
 cases o with
 | tmp t=>
  obtain⟨u,hu,hr⟩:=hi.env.slot t x h;simpa[Act.eval,agz,hu]using hr
 | const v=>simp only[bF,IT]at h;subst h;exact GJ v
 | global g=>
  simp only[bF,AS]at h;obtain⟨d,hd,rfl⟩:=h;exact .d (hi.jq g d hd)
 | func f=>simp only[bF,IT]at h;subst h;exact .d (.fn ak ak)
theorem pO {c:Operand} {x y:Code} {Q:Exit->St->Prop} {σ:St} (b:Bool) (hc:bF G σ.env c=some (.d (.v (.bool b)))) (ht:b=true->AW P Mv X G N x Q σ) (hf:b=false->AW P Mv X G N y Q σ) :
  AW P Mv X G N (.cond c x y) Q σ:=fun w μ a hi=>by
 have h:=hi.eval hc;have h':a.eval c = .bool b:=h.scalar;exact wpIn_cond_split h' (fun e=>ht e w μ a hi) (fun e=>hf e w μ a hi)
theorem cm {x y:Code} {c:Operand} {Q:Exit->St->Prop} {σ:St} (hc:bF G σ.env c=some (.d (.v (.bool true)))) (h:AW P Mv X G N x Q σ):AW P Mv X G N (.cond c x y) Q σ:=pO true hc (fun _=>h) (fun h=>by cases h)
theorem cw {x y:Code} {c:Operand} {Q:Exit->St->Prop} {σ:St} (hc:bF G σ.env c=some (.d (.v (.bool false)))) (h:AW P Mv X G N y Q σ):AW P Mv X G N (.cond c x y) Q σ:=pO false hc (fun h=>by cases h) (fun _=>h)
theorem aI {x y:Code} {c:Operand} {Q:Exit->St->Prop} {σ:St} (h:AW P Mv X G N x Q σ) (hc:bF G σ.env c=some (.d (.v (.bool true))):=by rfl):AW P Mv X G N (.cond c x y) Q σ:=cm hc h
theorem al {x y:Code} {c:Operand} {Q:Exit->St->Prop} {σ:St} (h:AW P Mv X G N y Q σ) (hc:bF G σ.env c=some (.d (.v (.bool false))):=by rfl):AW P Mv X G N (.cond c x y) Q σ:=cw hc h
theorem SA {S:Type} {c:Code} {Q:Exit->St->Prop} {σ:St} (inv:S->St) (pz:S->Nat) (s0:S) (h0:aK Mv X G N σ (inv s0))
  (round:∀ s,AW P Mv X G N c (aT (fun aJ=>∃ s',pz s' < pz s/\aK Mv X G N aJ (inv s')) Q) (inv s)):AW P Mv X G N (.loop c) Q σ:=fun w μ a hi=>by
 obtain⟨om,NH,WE⟩:=h0 w μ a hi
 have key:∀ n s w1 lQ a1,pz s < n->In w1 X G lQ N a1 (inv s)->Ev Mv w μ w1 lQ->Code.roundsIn (wd N.ro) 0 P c (After Mv X G N w μ Q) n a1 w1:=by
  intro n
  induction n with
  | zero=>intro s w1 lQ a1 h;omega
  | succ n ih=>
   intro s w1 lQ a1 aG aS bp;rw[roundsIn_succ];refine wpIn_mono (round s w1 lQ a1 aS) fun e a' w' ⟨aH,aJ,q,i,ev⟩=>?_
   cases e with
   | normal=>
    obtain⟨s',p5,himp⟩:=q;obtain⟨jG,fZ,wz⟩:=himp w' aH a' i;exact ih s' w' jG a' aa fZ (bp.trans (ev.trans wz))
   | _=>exact⟨aH,aJ,q,i,bp.trans ev⟩
 exact wpIn_loop_rounds (pz s0+1) (key _ s0 w om a aa NH WE)
def Lg (P:Program) (Mv X:Nat->Prop) (G:aC) (f:FuncId) (xs:List AV) (H:Heap) (R:AV->Heap->Prop):Prop:=
 ∀ w μ (vs:Array Value),eF w X μ H->(∀ g x,G g=some x->RD w (XX X μ) (.pointer (some ⟨g,0,none⟩)) x)->vs.size=xs.length->(∀ (i:Nat) (u:Value) (x:AV),vs[i]? = some u->xs[i]? = some x->RV w X μ u x)->
  Calls P f vs w fun e w'=>∃ v x H' aH,e = .returned v/\R x H'/\RV w' X aH v x/\eF w' X aH H'/\Ev Mv w μ w' aH
def args (xs:List AV):Env:=fun i=>xs[i]?
def ac3 (rs:List ResultVar) (e:Env):Option AV:=
 match rs with
 | []=>some (.d (.v (.tuple #[])))
 | [.tmp t]=>e t
 | [.tmp t,.tmp u]=>match e t,e u with | some x,some y=>some (.bx [x,y]) | _,_=>none
 | [.tmp t,.tmp u,.tmp v]=>match e t,e u,e v with | some x,some y,some z=>some (.bx [x,y,z]) | _,_,_=>none
 | _=>none
def atEnd (rs:List ResultVar) (R:AV->Heap->Prop):Exit->St->Prop
 | .normal,σ | .ret,σ=>∃ x,ac3 rs σ.env=some x/\R x σ.H
 | _,_=>False
end
end Go.Av
namespace Go.Av
structure TI where
 desc:TypeDesc
 size:Nat
 bytes:Nat
 zero:Value
 pe:Bool
abbrev Ty:=TypeId->Option TI
def Good (P:Program) (T:Ty):Prop:=∀ t ti,T t=some ti->P.underlying t=some ti.desc/\∃ i,P.info? t=some i/\i.size=ti.size/\i.bytes=ti.bytes/\i.zero=some ti.zero/\(ti.pe=true->P.stoodInHeld t=false/\P.eqGuardType P.depth t=false)
section
variable {P:Program} {T:Ty} {t:TypeId} {ti:TI} {w:World}
theorem Good.dN (h:Good P T) (ht:T t=some ti):(underlying t).run P w = .ok ti.desc w:=run_underlying (h t ti ht).1 w
theorem Good.sizeOf (h:Good P T) (ht:T t=some ti):(Go.sizeOf t).run P w = .ok ti.size w:=by
 obtain⟨_,i,hi,hs,_⟩:=h t ti ht;simp[Go.sizeOf,typeInfo,hi,hs]
theorem Good.zero (h:Good P T) (ht:T t=some ti):(zeroValue t).run P w = .ok ti.zero w:=by
 obtain⟨_,i,hi,_,_,hz,_⟩:=h t ti ht;simp[zeroValue,typeInfo,hi,hz]
end
def TypeDesc.isAgg:TypeDesc->Bool
 | .struct _ | .array _ _=>true
 | _=>false
theorem Good.isAgg {P:Program} {T:Ty} {t:TypeId} {ti:TI} {w:World} (h:Good P T) (ht:T t=some ti):(Go.isAgg t).run P w = .ok (TypeDesc.isAgg ti.desc) w:=by
 simp only[Go.isAgg,Sem.run_bind,h.dN ht,Result.andThen_ok];cases ti.desc<;>rfl
abbrev kS:=Option (Prop×AV)
def bool (b:Bool):AV:=.d (.v (.bool b))
def int (n:Int):AV:=.d (.v (.int .i64 n))
section
variable {w:World} {X:Nat->Prop} {μ:Mu}
theorem RD.qT {u:Value} {k:Option Bool} {els:List (List D)} (h:RD w X u (.sl k els)) :
  (u = .slice none 0 0/\els=[]/\k≠some true)\/
  (∃ a cap,u = .slice (some a) els.length cap/\k≠some false/\els.length<=cap/\cap<=maxLen/\
   (els=[]\/∃ b off sz,∃ f:Nat->Nat->Value,a=⟨b,off,none⟩/\¬ X b/\0 < sz/\(∀ el∈els,el.length=sz)/\
    (∀ i j,i < els.length->j < sz->w.cell? ⟨b,off+(i * sz+j),none⟩=some (f i j))/\
    (∀ (i j:Nat) (el:List D) (c:D),els[i]? = some el->el[j]? = some c->RD w X (f i j) c))):=by
 generalize hy:D.sl k els=y at h;cases h<;>cases hy
 .exact .inl ⟨rfl,rfl,by assumption⟩
 .exact .inr ⟨_,_,rfl,by assumption,ak,by assumption,.inl rfl⟩
 .rename_i b off n cap sz f hc hm hX hz bl ea hk hn hs hr;subst hn;exact .inr ⟨_,_,rfl,hk,hc,hm,.inr ⟨b,off,sz,f,rfl,hX,hz,hs,ea,hr⟩⟩
theorem RD.qK {u:Value} {cells:List D} (h:RD w X u (.ip cells)):∃ b off,∃ f:Nat->Value,u = .pointer (some ⟨b,off,none⟩)/\¬ X b/\b < w.heap.size/\
  (∀ j,j < cells.length->w.cell? ⟨b,off+j,none⟩=some (f j))/\(∀ (j:Nat) (c:D),cells[j]? = some c->RD w X (f j) c):=by
 generalize hy:D.ip cells=y at h;cases h<;>cases hy;exact⟨_,_,_,rfl,by assumption,by assumption,by assumption,by assumption⟩
theorem RD.rR {u:Value} {cells:List D} (h:RD w X u (.agg cells)):∃ arr,u = .agg arr/\arr.size=cells.length/\∀ (j:Nat) (u:Value) (c:D),arr[j]? = some u->cells[j]? = some c->RD w X u c:=by
 generalize hy:D.agg cells=y at h;cases h<;>cases hy;exact⟨_,rfl,by assumption,by assumption⟩
theorem RD.Aa {u:Value} {cells:List D} (h:RD w X u (.bx cells)):∃ arr,u = .tuple arr/\arr.size=cells.length/\∀ (j:Nat) (u:Value) (c:D),arr[j]? = some u->cells[j]? = some c->RD w X u c:=by
 generalize hy:D.bx cells=y at h;cases h<;>cases hy;exact⟨_,rfl,by assumption,by assumption⟩
theorem RD.sj {u:Value} {t:TypeId} {x:D} (h:RD w X u (.bZ t x)):∃ v,u = .iface t v/\RD w X v x:=by
 generalize hy:D.bZ t x=y at h;cases h<;>cases hy;exact⟨_,rfl,by assumption⟩
theorem RD.yL {u:Value} {f:Fn} {cells:List D} (h:RD w X u (.fn f cells)):∃ arr,u = .func f #[] arr/\arr.size=cells.length/\∀ (j:Nat) (u:Value) (c:D),arr[j]? = some u->cells[j]? = some c->RD w X u c:=by
 generalize hy:D.fn f cells=y at h;cases h<;>cases hy;exact⟨_,rfl,by assumption,by assumption⟩
theorem RV.rR {u:Value} {cells:List AV} (h:RV w X μ u (.agg cells)):∃ arr,u = .agg arr/\arr.size=cells.length/\∀ (j:Nat) (u:Value) (c:AV),arr[j]? = some u->cells[j]? = some c->RV w X μ u c:=by
 generalize hy:AV.agg cells=y at h;cases h<;>cases hy;exact⟨_,rfl,by assumption,by assumption⟩
theorem RV.Aa {u:Value} {cells:List AV} (h:RV w X μ u (.bx cells)):∃ arr,u = .tuple arr/\arr.size=cells.length/\∀ (j:Nat) (u:Value) (c:AV),arr[j]? = some u->cells[j]? = some c->RV w X μ u c:=by
 generalize hy:AV.bx cells=y at h;cases h<;>cases hy;exact⟨_,rfl,by assumption,by assumption⟩
theorem RV.sj {u:Value} {t:TypeId} {x:AV} (h:RV w X μ u (.bZ t x)):∃ v,u = .iface t v/\RV w X μ v x:=by
 generalize hy:AV.bZ t x=y at h;cases h<;>cases hy;exact⟨_,rfl,by assumption⟩
theorem RV.TP {u:Value} {g:FuncId} {x:AV} (h:RV w X μ u (.bm g x)):∃ v,u = .func (.func g) #[v] #[]/\RV w X μ v x:=by
 generalize hy:AV.bm g x=y at h;cases h<;>cases hy;exact⟨_,rfl,by assumption⟩
theorem RV.yL {u:Value} {f:Fn} {cells:List AV} (h:RV w X μ u (.fn f cells)):∃ arr,u = .func f #[] arr/\arr.size=cells.length/\∀ (j:Nat) (u:Value) (c:AV),arr[j]? = some u->cells[j]? = some c->RV w X μ u c:=by
 generalize hy:AV.fn f cells=y at h;cases h<;>cases hy;exact⟨_,rfl,by assumption,by assumption⟩
theorem RV.ma {u:Value} {r off n:Nat} (h:RV w X μ u (.own r off n)):∃ m,μ r=some m/\((m.fo=none/\u = .slice none 0 0/\off=0/\n=0)\/(∃ b,m.fo=some b/\u = .slice (some ⟨b,off * m.sz,none⟩) n (m.cap - off)/\off+n<=m.cap)):=by
 generalize hy:AV.own r off n=y at h;cases h<;>cases hy;exact⟨_,by assumption,by assumption⟩
theorem RV.lu {u:Value} {r e j:Nat} (h:RV w X μ u (.ref r e j)):∃ m b,μ r=some m/\m.fo=some b/\u = .pointer (some ⟨b,e * m.sz+j,none⟩):=by
 generalize hy:AV.ref r e j=y at h;cases h<;>cases hy;exact⟨_,_,by assumption,by assumption,rfl⟩
end
def lR:List AV->Option (List D)
 | []=>some []
 | .d x :: l=>(lR l).map (x :: ·)
 | _ :: _=>none
def qe (l:List AV):AV:=match lR l with
 | some ds=>.d (.agg ds)
 | none=>.agg l
theorem qo:∀ {l:List AV} {ds:List D},lR l=some ds->l=ds.map .d
 | [],ds,h=>by simp[lR]at h;simp[h]
 | x :: l,ds,h=>by
  cases x with
  | d x=>
   simp only[lR,AS]at h;obtain⟨ia,h',rfl⟩:=h;simp[qo h']
  | _=>simp[lR]at h
theorem Cd {w:World} {X:Nat->Prop} {μ:Mu} {u:Value} {l:List AV} (h:RV w X μ u (.agg l)):RV w X μ u (qe l):=by
 unfold qe;split
 .rename_i ds hd;rw[qo hd]at h;obtain⟨arr,rfl,hn,hr⟩:=h.rR;refine .d (.agg (by simpa using hn) fun j u c hu hc=>?_);exact (hr j u (.d c) hu (by rw[agC,hc];rfl)).data
 .exact h
def pQ (T:Ty) (t:TypeId) (cells:List AV):kS:=match T t with
 | none=>none
 | some ti=>if TypeDesc.isAgg ti.desc then some (ti.size<=cells.length,qe (cells.take ti.size)) else some (cells≠[],cells.headD .dead)
def sV (T:Ty) (t:TypeId) (cells:List D):kS:=match T t with
 | none=>none
 | some ti=>if TypeDesc.isAgg ti.desc then some (ti.size<=cells.length,.d (.agg (cells.take ti.size))) else some (cells≠[],.d (cells.headD default))
theorem addr_add (b o j:Nat):(⟨b,o,none⟩:Addr).add j=⟨b,o+j,none⟩:=by unfold Addr.add;split<;>simp_all
theorem Rb {P:Program} {T:Ty} (hg:Good P T) {t:TypeId} {ti:TI} (ht:T t=some ti) {w:World} {b o n:Nat} (f:Nat->Value) (hc:∀ j,j < n->w.cell? ⟨b,o+j,none⟩=some (f j)) :
  (TypeDesc.isAgg ti.desc=true->ti.size<=n->(loadVar t ⟨b,o,none⟩).run P w = .ok (.agg ((Array.range ti.size).map f)) w)/\
  (TypeDesc.isAgg ti.desc=false->0 < n->(loadVar t ⟨b,o,none⟩).run P w = .ok (f 0) w):=by
 constructor
 .intro ha hn;have:=run_loadCells (P:=P) w ⟨b,o,none⟩ ti.size f (fun j hj=>by rw[addr_add];exact hc j aa);simp only[loadVar,Sem.run_bind,hg.isAgg ht,Result.andThen_ok,ha,if_true,hg.sizeOf ht,this,Sem.run_pure];congr 1;apply congrArg;apply Array.ext
  .simp
  .intro i h1 h2;simp
 .intro ha hn;have h0:=hc 0 hn;simp only[ahB]at h0;simp[loadVar,hg.isAgg ht,ha,h0]
def n5 (T:Ty) (H:Heap) (t:TypeId):AV->kS
 | .d (.ip cells)=>sV T t cells
 | .ref r e j=>match H r with
  | some (.box _ cells)=>if e=0 then pQ T t (cells.drop j) else none
  | some (.sl _ sz els)=>match sV T t ((els.getD e []).drop j) with
   | some (c,x)=>some (e < els.length/\j < sz/\c,x)
   | none=>none
  | some (.mp _ _)=>none
  | some (.it _ _)=>none
  | none=>none
 | _=>none
theorem Lz {P:Program} {T:Ty} (hg:Good P T) {w:World} {X:Nat->Prop} {μ:Mu} {t:TypeId} {cells:List D} {c:Prop} {x:AV} (h:sV T t cells=some (c,x)) (hc:c) {b o:Nat} (f:Nat->Value)
  (ea:∀ j,j < cells.length->w.cell? ⟨b,o+j,none⟩=some (f j)) (hr:∀ (j:Nat) (c:D),cells[j]? = some c->RD w (XX X μ) (f j) c):∃ v,(loadVar t ⟨b,o,none⟩).run P w = .ok v w/\RV w X μ v x:=by
 unfold sV at h;split at h
 .cases h
 .rename_i ti ht;have hl:=Rb hg ht f ea;split at h
  .rename_i ha;obtain⟨rfl,rfl⟩:=eo h;refine⟨_,hl.1 ha hc,.d (.agg (by simp;omega) fun j u d hu hd=>?_)⟩;rw[agP]at hd;split at hd
   .rename_i hj;simp[hj]at hu;subst hu;exact hr j d hd
   .cases hd
  .rename_i ha;obtain⟨rfl,rfl⟩:=eo h
   cases cells with
   | nil=>exact absurd rfl hc
   | cons d l=>exact⟨_,hl.2 (by simpa using ha) ak,.d (hr 0 d rfl)⟩
theorem Tk {P:Program} {T:Ty} (hg:Good P T) {w:World} {X:Nat->Prop} {μ:Mu} {t:TypeId} {cells:List AV} {c:Prop} {x:AV} (h:pQ T t cells=some (c,x)) (hc:c) {b o:Nat} (f:Nat->Value)
  (ea:∀ j,j < cells.length->w.cell? ⟨b,o+j,none⟩=some (f j)) (hr:∀ (j:Nat) (c:AV),cells[j]? = some c->RV w X μ (f j) c):∃ v,(loadVar t ⟨b,o,none⟩).run P w = .ok v w/\RV w X μ v x:=by
 unfold pQ at h;split at h
 .cases h
 .rename_i ti ht;have hl:=Rb hg ht f ea;split at h
  .rename_i ha;obtain⟨rfl,rfl⟩:=eo h;refine⟨_,hl.1 ha hc,Cd (.agg (by simp;omega) fun j u d hu hd=>?_)⟩;rw[agP]at hd;split at hd
   .rename_i hj;simp[hj]at hu;subst hu;exact hr j d hd
   .cases hd
  .rename_i ha;obtain⟨rfl,rfl⟩:=eo h
   cases cells with
   | nil=>exact absurd rfl hc
   | cons d l=>exact⟨_,hl.2 (by simpa using ha) ak,hr 0 d rfl⟩
theorem Pg {P:Program} {T:Ty} (hg:Good P T) {w:World} {X:Nat->Prop} {μ:Mu} {H:Heap} (hs:eF w X μ H) {t:TypeId} {u:Value} {x y:AV} {c:Prop} (h:n5 T H t x=some (c,y)) (hc:c) (hx:RV w X μ u x) :
  ∃ v,(Instr.loadAt t u).run P w = .ok v w/\RV w X μ v y:=by
 unfold n5 at h;split at h
 .rename_i cells;obtain⟨b,off,f,rfl,_,_,ea,hr⟩:=hx.data.qK;simpa[Instr.loadAt,Instr.sureAddr]using Lz (P:=P) hg h hc f ea hr
 .rename_i r e j;obtain⟨m,b,hm,hb,rfl⟩:=hx.lu;split at h
  .rename_i ty cells hH;split at h
   .rename_i he;subst he;obtain⟨m',cH,ok⟩:=hs.rows r _ hH;rw[hm]at cH;obtain rfl:=AI cH
    cases ok with
    | box bk bg lH hh hn hr zw=>
     rename_i b' cur;rw[hb]at bk;obtain rfl:=AI bk
     have ea:∀ i,i < (cells.drop j).length->w.cell? ⟨b,0 * m.sz+j+i,none⟩=some (cur.getD (j+i) undef):=by
      intro i hi;simp only[agX]at hi;rw[ahM,ag4,cell_of_row w b (j+i) cur ty (0,0) hh];simp[agz,show j+i < cur.size by omega]
     simp only[Instr.loadAt,Instr.sureAddr,Sem.run_bind,Sem.run_pure,Result.andThen_ok];refine Tk (P:=P) hg h hc (fun i=>cur.getD (j+i) undef) ea fun i d hd=>?_;rw[ahd]at hd;have aG:j+i < cells.length:=(BY.1 hd).1;refine hr (j+i) _ d ?_ hd;simp[agz,show j+i < cur.size by omega]
   .cases h
  .rename_i ty sz els hH;split at h
   .rename_i c' x' hv;obtain⟨rfl,rfl⟩:=eo h;obtain⟨he,hj,dZ⟩:=hc;obtain⟨m',cH,ok⟩:=hs.rows r _ hH;rw[hm]at cH;obtain rfl:=AI cH
    cases ok with
    | nil bk _=>rw[hb]at bk;cases bk
    | sl bk bg hh cX hn gZ hl hz hr=>
     rename_i b' cur;rw[hb]at bk;obtain rfl:=AI bk;subst bg
     have bz:els.getD e []=els[e]:=by simp[agw,he]
     have hlen:(els[e]).length=m.sz:=hl _ (OF he)
     have aG:∀ i,j+i < m.sz->e * m.sz+(j+i) < cur.size:=by
      intro i hi;rw[cX];have:(e+1) * m.sz<=m.cap * m.sz:=agT _ aa;rw[ahh]at this;omega
     rw[bz]at hv
     have ea:∀ i,i < ((els[e]).drop j).length->w.cell? ⟨b,e * m.sz+j+i,none⟩=some (cur.getD (e * m.sz+(j+i)) undef):=by
      intro i hi;simp only[agX,hlen]at hi;have:=aG i aa;rw[cell_of_row w b (e * m.sz+j+i) cur ty (0,0) hh];simp[agz,ahs,this]
     simp only[Instr.loadAt,Instr.sureAddr,Sem.run_bind,Sem.run_pure,Result.andThen_ok];refine Lz (P:=P) hg hv dZ (fun i=>cur.getD (e * m.sz+(j+i)) undef) ea fun i d hd=>?_;rw[ahd]at hd;obtain⟨u',oQ,cf⟩:=hr e (j+i) _ d (By he) hd;simpa[agz,oQ]using cf
   .cases h
  .cases h
  .cases h
  .cases h
 .cases h
def pV (T:Ty) (t:TypeId):Option Nat:=match T t with
 | some ti=>match ti.desc with
  | .slice e=>(T e).map (·.size)
  | _=>none
 | none=>none
def Am (T:Ty) (t:TypeId):Option (Nat×Nat):=match T t with
 | some ti=>match ti.desc with
  | .array n e=>(T e).map fun te=>(n,te.size)
  | _=>none
 | none=>none
def qJ (T:Ty) (H:Heap) (t:TypeId):AV->AV->kS
 | .d (.sl _ els),.d (.v (.int _ i))=>match pV T t with
  | some s=>some (0<=i/\i < els.length/\(els.getD i.toNat []).length=s,.d (.ip (els.getD i.toNat [])))
  | none=>none
 | .own r off n,.d (.v (.int _ i))=>match pV T t,H r with
  | some s,some (.sl _ sz _)=>some (0<=i/\i < n/\sz=s,.ref r (off+i.toNat) 0)
  | some s,some (.box _ _)=>some (0<=i/\i < n/\off=0,.ref r 0 (i.toNat * s))
  | _,_=>none
 | .d (.ip cells),.d (.v (.int _ i))=>match Am T t with
  | some (n,s)=>some (0<=i/\i < n,.d (.ip (cells.drop (i.toNat * s))))
  | none=>none
 | .ref r e j,.d (.v (.int _ i))=>match Am T t with
  | some (n,s)=>some (0<=i/\i < n,.ref r e (j+i.toNat * s))
  | none=>none
 | _,_=>none
theorem Ra {P:Program} {T:Ty} (hg:Good P T) {t:TypeId} {n s:Nat} (h:Am T t=some (n,s)) {w:World} {b o:Nat} {k:IntKind} {i:Int} (h0:0<=i) (h1:i < n) :
  (Instr.indexAt t (.pointer (some ⟨b,o,none⟩)) (.int k i)).run P w = .ok (.pointer (some ⟨b,o+i.toNat * s,none⟩)) w:=by
 unfold Am at h;split at h
 .rename_i ti ht;split at h
  .rename_i n' e hd;obtain⟨te,dh,he⟩:=AS.1 h;simp only[agA]at he;obtain⟨rfl,rfl⟩:=he;obtain⟨m,rfl⟩:=agY h0
   have hm:m < n':=aa
   simp[Instr.indexAt,asIntOf,hg.dN ht,hd,Instr.sureAddr,hg.sizeOf dh,addr_add,hm]
  .cases h
 .cases h
theorem aab {P:Program} {T:Ty} (hg:Good P T) {w:World} {X:Nat->Prop} {μ:Mu} {H:Heap} (hs:eF w X μ H) {t:TypeId} {u v:Value} {x y z:AV} {c:Prop} (h:qJ T H t x y=some (c,z)) (hc:c)
  (hx:RV w X μ u x) (hy:RV w X μ v y):∃ r,(Instr.indexAt t u v).run P w = .ok r w/\RV w X μ r z:=by
 unfold qJ at h;split at h
 .rename_i k els kd i;split at h
  .rename_i s he;obtain⟨rfl,rfl⟩:=eo h;obtain⟨h0,h1,h2⟩:=hc;unfold pV at he;split at he
   .rename_i ti ht;split at he
    .rename_i e hd;obtain⟨te,dh,rfl⟩:=AS.1 he;have hv:=hy.scalar;subst hv;obtain⟨n,rfl⟩:=agY h0;simp only[agO]at h2 ⊢
     have hn:n < els.length:=aa
     rcases hx.data.qT with⟨rfl,rfl,_⟩ | ⟨a,cap,rfl,_,lH,_,hr⟩
     .simp at hn
     .rcases hr with rfl | ⟨b,off,sz,f,rfl,hX,hz,bg,ea,hr⟩
      .simp at hn
      .have bz:els.getD n []=els[n]:=by simp[agw,hn]
       rw[bz]at h2 ⊢;have e2:(els[n]).length=sz:=bg _ (OF hn);refine⟨.pointer (some ⟨b,off+n * sz,none⟩),?_,.d (.ip (f:=fun j=>f n j) hX (wc (ea 0 0 aa hz)) (fun j hj=>?_) (fun j d hd=>hr n j _ d (By hn) hd))⟩
       .simp[Instr.indexAt,asIntOf,hg.dN ht,hd,hg.sizeOf dh,addr_add,<- h2,e2];intro hh;omega
       .rw[ahs];exact ea n j hn aa
    .cases he
   .cases he
  .cases h
 .rename_i r off n kd i;split at h
  .rename_i s ty sz els he hH;obtain⟨rfl,rfl⟩:=eo h;obtain⟨h0,h1,rfl⟩:=hc;unfold pV at he;split at he
   .rename_i ti ht;split at he
    .rename_i e hd;obtain⟨te,dh,wR⟩:=AS.1 he;have hv:=hy.scalar;subst hv;obtain⟨k,rfl⟩:=agY h0;simp only[agO];obtain⟨m,hm,hu⟩:=hx.ma;obtain⟨m',cH,ok⟩:=hs.rows r _ hH;rw[hm]at cH;obtain rfl:=AI cH
     rcases hu with⟨_,_,_,rfl⟩ | ⟨b,hb,rfl,hle⟩
     .omega
     .have bg:m.sz=sz:=by cases ok<;>assumption
      refine⟨.pointer (some ⟨b,(off+k) * m.sz+0,none⟩),?_,.ref hm hb⟩;simp[Instr.indexAt,asIntOf,hg.dN ht,hd,hg.sizeOf dh,addr_add,wR,<- bg,ahh];intro hh;omega
    .cases he
   .cases he
  .rename_i s ty cells he hH;obtain⟨rfl,rfl⟩:=eo h;obtain⟨h0,h1,rfl⟩:=hc;unfold pV at he;split at he
   .rename_i ti ht;split at he
    .rename_i e hd;obtain⟨te,dh,wR⟩:=AS.1 he;have hv:=hy.scalar;subst hv;obtain⟨k,rfl⟩:=agY h0;simp only[agO];obtain⟨m,hm,hu⟩:=hx.ma
     rcases hu with⟨_,_,_,rfl⟩ | ⟨b,hb,rfl,hle⟩
     .omega
     .refine⟨.pointer (some ⟨b,0 * m.sz+k * s,none⟩),?_,.ref hm hb⟩;simp[Instr.indexAt,asIntOf,hg.dN ht,hd,hg.sizeOf dh,addr_add,wR];intro hh;omega
    .cases he
   .cases he
  .cases h
 .rename_i cells kd i;split at h
  .rename_i n s ha;obtain⟨rfl,rfl⟩:=eo h;obtain⟨b,off,f,rfl,hX,hb,ea,hr⟩:=hx.data.qK;have hv:=hy.scalar;subst hv;refine⟨_,Ra hg ha hc.1 hc.2,.d (.ip (f:=fun q=>f (i.toNat * s+q)) hX hb (fun q hq=>?_) (fun q d hd=>?_))⟩
   .simp only[agX]at hq;rw[ahs];exact ea _ aa
   .rw[ahd]at hd;exact hr _ d hd
  .cases h
 .rename_i r e j kd i;split at h
  .rename_i n s ha;obtain⟨rfl,rfl⟩:=eo h;obtain⟨m,b,hm,hb,rfl⟩:=hx.lu;have hv:=hy.scalar;subst hv;refine⟨_,Ra hg ha hc.1 hc.2,?_⟩;rw[ahs];exact .ref hm hb
  .cases h
 .cases h
def tp (T:Ty) (t:TypeId) (f:Nat):Option (Field×Nat):=match T t with
 | some ti=>match ti.desc with
  | .struct fs=>match fs[f]? with
   | some fl=>(T fl.type).map fun tf=>(fl,tf.size)
   | none=>none
  | _=>none
 | none=>none
def DJ (T:Ty) (t:TypeId) (f:Nat):AV->kS
 | .d (.ip cells)=>match tp T t f with
  | some (fl,s)=>some (0 < s,.d (.ip (cells.drop fl.offset)))
  | none=>none
 | .ref r e j=>match tp T t f with
  | some (fl,s)=>some (0 < s,.ref r e (j+fl.offset))
  | none=>none
 | _=>none
theorem Q9 {P:Program} {T:Ty} (hg:Good P T) {t:TypeId} {f:Nat} {fl:Field} {s:Nat} (h:tp T t f=some (fl,s)) (hs:0 < s) {w:World} {b o:Nat} :
  (Instr.fieldAt t (.pointer (some ⟨b,o,none⟩)) f).run P w = .ok (.pointer (some ⟨b,o+fl.offset,none⟩)) w:=by
 unfold tp at h;split at h
 .rename_i ti ht;split at h
  .rename_i fs hd;split at h
   .rename_i WU hf;obtain⟨tf,ED,he⟩:=AS.1 h;simp only[agA]at he;obtain⟨rfl,rfl⟩:=he
    have:¬ tf.size=0:=aa
    simp[Instr.fieldAt,hg.dN ht,hd,hf,Instr.sureAddr,fieldPlace,hg.sizeOf ED,this,addr_add]
   .cases h
  .cases h
 .cases h
theorem WR {P:Program} {T:Ty} (hg:Good P T) {w:World} {X:Nat->Prop} {μ:Mu} {t:TypeId} {f:Nat} {u:Value} {x z:AV} {c:Prop} (h:DJ T t f x=some (c,z)) (hc:c)
  (hx:RV w X μ u x):∃ r,(Instr.fieldAt t u f).run P w = .ok r w/\RV w X μ r z:=by
 unfold DJ at h;split at h
 .rename_i cells;split at h
  .rename_i fl s hf;obtain⟨rfl,rfl⟩:=eo h;obtain⟨b,off,f',rfl,hX,hb,ea,hr⟩:=hx.data.qK;refine⟨_,Q9 hg hf hc,.d (.ip (f:=fun j=>f' (fl.offset+j)) hX hb (fun j hj=>?_) (fun j d hd=>?_))⟩
   .simp only[agX]at hj;rw[ahs];exact ea _ aa
   .rw[ahd]at hd;exact hr _ d hd
  .cases h
 .rename_i r e j;split at h
  .rename_i fl s hf;obtain⟨rfl,rfl⟩:=eo h;obtain⟨m,b,hm,hb,rfl⟩:=hx.lu;refine⟨_,Q9 hg hf hc,?_⟩;rw[ahs];exact .ref hm hb
  .cases h
 .cases h
def DI (T:Ty) (t:TypeId) (f:Nat):AV->kS
 | .d (.agg cells)=>match tp T t f with
  | some (fl,_)=>sV T fl.type (cells.drop fl.offset)
  | none=>none
 | .agg cells=>match tp T t f with
  | some (fl,_)=>pQ T fl.type (cells.drop fl.offset)
  | none=>none
 | _=>none
theorem LA {P:Program} {T:Ty} (hg:Good P T) {w:World} {X:Nat->Prop} {μ:Mu} {t:TypeId} {cells:List AV} {c:Prop} {x:AV} {arr:Array Value} {off:Nat} (h:pQ T t (cells.drop off)=some (c,x)) (hc:c)
  (hn:arr.size=cells.length) (hr:∀ (j:Nat) (u:Value) (c:AV),arr[j]? = some u->cells[j]? = some c->RV w X μ u c):∃ v,(part t arr off).run P w = .ok v w/\RV w X μ v x:=by
 unfold pQ at h;split at h
 .cases h
 .rename_i ti ht;split at h
  .rename_i ha;obtain⟨rfl,rfl⟩:=eo h;simp only[agX]at hc;refine⟨.agg (arr.extract off (off+ti.size)),by simp[part,hg.isAgg ht,ha,hg.sizeOf ht],Cd (.agg ?_ fun j u d hu hd=>?_)⟩
   .simp;omega
   .rw[agP]at hd;split at hd
    .rename_i hj;rw[ahd]at hd;rw[Array.getElem?_extract]at hu;split at hu
     .exact hr _ u d hu hd
     .cases hu
    .cases hd
  .rename_i ha;obtain⟨rfl,rfl⟩:=eo h
   have aG:off < cells.length:=by
    rcases ahH off cells.length with h | h
    .exact h
    .exact absurd (ahe h) hc
   have hd:(cells.drop off).headD .dead=cells[off]:=by rw[agR aG];rfl
   rw[hd]
   have tT:off < arr.size:=aa
   exact⟨arr[off],by simp[part,hg.isAgg ht,ha,tT],hr off _ _ (by simp[tT]) (by simp[aG])⟩
theorem RV.zP {w:World} {X:Nat->Prop} {μ:Mu} {arr:Array Value} {cells:List D} (hr:∀ (j:Nat) (u:Value) (c:D),arr[j]? = some u->cells[j]? = some c->RD w (XX X μ) u c) :
  ∀ (j:Nat) (u:Value) (c:AV),arr[j]? = some u->(cells.map AV.d)[j]? = some c->RV w X μ u c:=by
 intro j u c hu hc;rw[agC]at hc;obtain⟨c',dZ,rfl⟩:=AS.1 hc;exact .d (hr j u c' hu dZ)
theorem Gn (l:List D):lR (l.map .d)=some l:=by
 induction l with
 | nil=>rfl
 | cons x l ih=>simp[lR,ih]
theorem abr (l:List D):qe (l.map .d) = .d (.agg l):=by simp[qe,Gn]
theorem Ly (T:Ty) (t:TypeId) (cells:List D) {c:Prop} {x:AV} (h:sV T t cells=some (c,x)) (hc:c):∃ c',pQ T t (cells.map .d)=some (c',x)/\c':=by
 unfold sV at h;unfold pQ
 cases ht:T t with
 | none=>rw[ht]at h;cases h
 | some ti=>
  rw[ht]at h;dsimp only at h ⊢;split at h
  .rename_i ha;obtain⟨rfl,rfl⟩:=eo h;rw[if_pos ha];exact⟨_,by rw[<- List.map_take,abr],by simpa using hc⟩
  .rename_i ha;obtain⟨rfl,rfl⟩:=eo h;rw[if_neg ha]
   cases cells with
   | nil=>exact absurd rfl hc
   | cons d l=>exact⟨_,rfl,ak⟩
theorem WQ {P:Program} {T:Ty} (hg:Good P T) {w:World} {X:Nat->Prop} {μ:Mu} {t:TypeId} {f:Nat} {u:Value} {x z:AV} {c:Prop} (h:DI T t f x=some (c,z)) (hc:c)
  (hx:RV w X μ u x):∃ r,(Instr.field t u f).run P w = .ok r w/\RV w X μ r z:=by
 have key:∀ (arr:Array Value) (cells:List AV) (fl:Field) (s:Nat) (c':Prop),tp T t f=some (fl,s)->pQ T fl.type (cells.drop fl.offset)=some (c',z)->c'->arr.size=cells.length->
   (∀ (j:Nat) (u:Value) (c:AV),arr[j]? = some u->cells[j]? = some c->RV w X μ u c)->∃ r,(Instr.field t (.agg arr) f).run P w = .ok r w/\RV w X μ r z:=by
  intro arr cells fl s c' hf hv dZ hn hr;obtain⟨v,hv,im⟩:=LA (P:=P) hg hv dZ hn hr;unfold tp at hf;split at hf
  .rename_i ti ht;split at hf
   .rename_i fs hd;split at hf
    .rename_i WU HL;obtain⟨tf,ED,he⟩:=AS.1 hf;simp only[agA]at he;obtain⟨rfl,rfl⟩:=he;exact⟨v,by simp[Instr.field,hg.dN ht,hd,HL,asAgg,hv],im⟩
    .cases hf
   .cases hf
  .cases hf
 unfold DI at h;split at h
 .rename_i cells;split at h
  .rename_i fl s hf;obtain⟨arr,rfl,hn,hr⟩:=hx.data.rR;obtain⟨c',h',dZ⟩:=Ly T fl.type _ h hc;rw[List.map_drop]at h';exact key arr _ fl s c' hf h' dZ (by simpa using hn) (RV.zP hr)
  .cases h
 .rename_i cells;split at h
  .rename_i fl s hf;obtain⟨arr,rfl,hn,hr⟩:=hx.rR;exact key arr cells fl s c hf h hc hn hr
  .cases h
 .cases h
