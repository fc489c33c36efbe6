/- Parts. -/
import Derived.Test.YtoohljflflnbeaaGreatDoorFr2
import Derived.LoopN
import Derived.LoopNIn
import Derived.OrdersIn
set_option linter.unusedSectionVars false
set_option linter.unusedSimpArgs false
set_option linter.unusedVariables false
namespace Go.Av
structure Fr where
 n:Nat
 ds:List Deferred
 ro:Option Nat
def wd (ro:Option Nat):Fence:={ Fence.wide with round:=ro }
theorem U5 {P:Program} {f:FuncId} {args:Array Value} {w:World} {R:Ending->World->Prop} {ro:Option Nat} {n:Nat} (h:Calls P f args w R):CallsIn (wd ro) n P f args w R:=
 (callsIn_wide (n:=n)).2 h
theorem ah5 {P:Program} {row:String} {args:Array Value} {w:World} {R:Value->World->Prop} {ro:Option Nat} {n:Nat} (h:Rows P row args w R):RowsIn (wd ro) n P row args w R:=
 fun c cs _=>let ⟨v,w',r,s⟩:=h c cs;⟨v,w',r,stepsIn_wide.2 s⟩
theorem xf {P:Program} {o:Oper} {a:Act} {w:World} {next:Act->World->Prop} {Q:Exit->Act->World->Prop} {ro:Option Nat} (hd:∀ c,o.op≠.defer c) (h:o.wp P a w next Q):o.wpIn (wd ro) 0 P a w next Q:=by
 refine⟨fun _ _=>trivial,?_⟩
 have e:o.semAt (wd ro).round a.eval=execOp a.eval o:=by
  cases ro with
  | none=>rfl
  | some l=>show Oper.semAt (some l) a.eval o=_;unfold Oper.semAt;cases ho:o.op<;>first | rfl | exact absurd ho (hd _)
 rw[e];unfold Oper.wp at h;generalize (execOp a.eval o).run P w=r at h ⊢
 cases r with
 | ok x w'=>
  cases x<;>simp only[Oper.upon,Oper.uponIn]at h ⊢<;>first | exact h | exact⟨fun e=>(by cases e),U5 h⟩ | exact⟨fun e=>(by cases e),ah5 h⟩ | exact h.elim
 | halt x w'=>cases x<;>simp only[Oper.upon,Oper.uponIn]at h ⊢<;>first | exact h | exact h.elim
abbrev Env:=Nat->Option AV
structure St where
 env:Env
 H:Heap
def gS (e:Env) (i:Nat) (x:AV):Env:=fun j=>if j=i then some x else e j
def aY (H:Heap) (r:Nat) (row:Row):Heap:=fun q=>if q=r then some row else H q
def jj:Heap:=fun _=>none
def bp (l:List (Nat×AV)):Env:=fun i=>l.lookup i
def aq (l:List (Nat×Row)):Heap:=fun i=>l.lookup i
abbrev ay:=Nat->Option D
structure VE (w:World) (X:Nat->Prop) (μ:Mu) (N:Fr) (a:Act) (env:Env):Prop where
 defers:a.defers=N.ds
 size:a.tmps.size=N.n
 slot:∀ i x,env i=some x->∃ u,a.tmps[i]? = some u/\RV w X μ u x
structure In (w:World) (X:Nat->Prop) (G:ay) (μ:Mu) (N:Fr) (a:Act) (σ:St):Prop where
 bq:eA w X μ σ.H
 env:VE w X μ N a σ.env
 jf:∀ g x,G g=some x->RD w (XX X μ) (.pointer (some ⟨g,0,none⟩)) x
def aM (Mv X:Nat->Prop) (G:ay) (N:Fr) (σ τ:St):Prop:=∀ w μ a,In w X G μ N a σ->∃ aI,In w X G aI N a τ/\Ev Mv w μ w aI
theorem aM.refl {Mv X:Nat->Prop} {G:ay} {N:Fr} (σ:St):aM Mv X G N σ σ:=fun w μ _ h=>⟨μ,h,.refl _ w μ⟩
theorem aM.trans {Mv X:Nat->Prop} {G:ay} {N:Fr} {σ τ υ:St} (h:aM Mv X G N σ τ) (h':aM Mv X G N τ υ):aM Mv X G N σ υ:=fun w μ a hi=>
 let ⟨_,gx,e1⟩:=h w μ a hi
 let ⟨jZ,gJ,e2⟩:=h' _ _ _ gx
 ⟨jZ,gJ,e1.trans e2⟩
section
variable {P:Program} {Mv X:Nat->Prop} {G:ay} {N:Fr}
def After (Mv X:Nat->Prop) (G:ay) (N:Fr) (w:World) (μ:Mu) (Q:Exit->St->Prop) (e:Exit) (a':Act) (w':World):Prop:=
 ∃ aI aG,Q e aG/\In w' X G aI N a' aG/\Ev Mv w μ w' aI
def AW (P:Program) (Mv X:Nat->Prop) (G:ay) (N:Fr) (c:Code) (Q:Exit->St->Prop) (σ:St):Prop:=
 ∀ w μ a,In w X G μ N a σ->c.wpIn (wd N.ro) 0 P (After Mv X G N w μ Q) a w
theorem After.mono {w:World} {μ:Mu} {Q Q':Exit->St->Prop} (h:∀ e σ,Q e σ->Q' e σ) {e:Exit} {a':Act} {w':World} (ha:After Mv X G N w μ Q e a' w'):After Mv X G N w μ Q' e a' w':=
 let ⟨aI,aG,q,i,ev⟩:=ha
 ⟨aI,aG,h _ _ q,i,ev⟩
theorem AW.mono {c:Code} {Q Q':Exit->St->Prop} {σ:St} (h:AW P Mv X G N c Q σ) (hq:∀ e σ,Q e σ->Q' e σ):AW P Mv X G N c Q' σ:=
 fun w μ a hi=>wpIn_mono (h w μ a hi) fun _ _ _ ha=>ha.mono hq
theorem AW.imp {c:Code} {Q:Exit->St->Prop} {σ τ:St} (hi:aM Mv X G N σ τ) (h:AW P Mv X G N c Q τ):AW P Mv X G N c Q σ:=fun w μ a aO=>by
 obtain⟨l4,h1,e1⟩:=hi w μ a aO;exact wpIn_mono (h w l4 a h1) fun e a' w' ⟨aI,aG,q,i,ev⟩=>⟨aI,aG,q,i,e1.trans ev⟩
def aV (next:St->Prop) (Q:Exit->St->Prop):Exit->St->Prop
 | .normal,σ=>next σ
 | e,σ=>Q e σ
def aX (id:Nat) (Q:Exit->St->Prop):Exit->St->Prop
 | .exit Gq,σ=>if Gq=id then Q .normal σ else Q (.exit Gq) σ
 | e,σ=>Q e σ
theorem ar {Q:Exit->St->Prop} {σ:St} (h:Q .normal σ):AW P Mv X G N .skip Q σ:=fun w μ _ hi=>wpIn_skip ⟨μ,σ,h,hi,.refl _ w μ⟩
theorem bT {Q:Exit->St->Prop} {σ:St} (h:Q .ret σ):AW P Mv X G N .ret Q σ:=fun w μ _ hi=>wpIn_ret ⟨μ,σ,h,hi,.refl _ w μ⟩
theorem b5 {Q:Exit->St->Prop} {σ:St} {id:Nat} (h:Q (.exit id) σ):AW P Mv X G N (.exit id) Q σ:=fun w μ _ hi=>wpIn_exit ⟨μ,σ,h,hi,.refl _ w μ⟩
theorem sK {x y:Code} {Q:Exit->St->Prop} {σ:St} (h:AW P Mv X G N x (aV (AW P Mv X G N y Q) Q) σ):AW P Mv X G N (.seq x y) Q σ:=fun w μ a hi=>
 wpIn_seq (wpIn_mono (h w μ a hi) fun e a' w' ⟨aI,aG,q,i,ev⟩=>by
  cases e with
  | normal=>exact wpIn_mono (q w' aI a' i) fun e2 a2 w2 ⟨jZ,gU,q2,i2,xG⟩=>⟨jZ,gU,q2,i2,ev.trans xG⟩
  | _=>exact⟨aI,aG,q,i,ev⟩)
theorem bg {id:Nat} {c:Code} {Q:Exit->St->Prop} {σ:St} (h:AW P Mv X G N c (aX id Q) σ):AW P Mv X G N (.block id c) Q σ:=fun w μ a hi=>
 wpIn_block (wpIn_mono (h w μ a hi) fun e a' w' ⟨aI,aG,q,i,ev⟩=>by
  cases e with
  | exit Gq=>
   simp only[aX]at q;simp only[Exit.inBlock];split
   .rename_i he;rw[if_pos he]at q;exact⟨aI,aG,q,i,ev⟩
   .rename_i he;rw[if_neg he]at q;exact⟨aI,aG,q,i,ev⟩
  | _=>exact⟨aI,aG,q,i,ev⟩)
def uw:Value->D
 | .slice none 0 0=>.sl (some false) []
 | v=>.v v
def iD:Value->AV
 | .agg arr=>.d (.agg (arr.toList.map uw))
 | v=>.d (uw v)
def bC (G:ay) (e:Env):Operand->Option AV
 | .tmp t=>e t
 | .const v=>some (iD v)
 | .global g=>(G g).map .d
 | .func f=>some (.d (.fn (.func f) []))
theorem zE {w:World} {X:Nat->Prop} (v:Value):RD w X v (uw v):=by
 unfold uw;split
 .exact .nil ak
 .exact .v _
theorem II {w:World} {μ:Mu} (v:Value):RV w X μ v (iD v):=by
 unfold iD;split
 .refine .d (.agg ak fun j u c hu hc=>?_);rw[ajK]at hc;obtain⟨c',eb,rfl⟩:=AS.1 hc;rw[ajT]at eb;rw[hu]at eb;obtain rfl:=AI eb;exact zE _
 .exact .d (zE _)
theorem In.eval {w:World} {μ:Mu} {a:Act} {σ:St} (hi:In w X G μ N a σ) {o:Operand} {x:AV} (h:bC G σ.env o=some x):RV w X μ (a.eval o) x:=by
 cases o with
 | tmp t=>
  obtain⟨u,hu,hr⟩:=hi.env.slot t x h;simpa[Act.eval,ajF,hu]using hr
 | const v=>simp only[bC,IS]at h;subst h;exact II v
 | global g=>
  simp only[bC,AS]at h;obtain⟨d,hd,rfl⟩:=h;exact .d (hi.jf g d hd)
 | func f=>simp only[bC,IS]at h;subst h;exact .d (.fn ak ak)
theorem r4 {c:Operand} {x y:Code} {Q:Exit->St->Prop} {σ:St} (b:Bool) (hc:bC G σ.env c=some (.d (.v (.bool b)))) (ht:b=true->AW P Mv X G N x Q σ) (hf:b=false->AW P Mv X G N y Q σ) :
  AW P Mv X G N (.cond c x y) Q σ:=fun w μ a hi=>by
 have h:=hi.eval hc;have h':a.eval c = .bool b:=h.scalar;exact wpIn_cond_split h' (fun e=>ht e w μ a hi) (fun e=>hf e w μ a hi)
theorem b8 {x y:Code} {c:Operand} {Q:Exit->St->Prop} {σ:St} (hc:bC G σ.env c=some (.d (.v (.bool true)))) (h:AW P Mv X G N x Q σ):AW P Mv X G N (.cond c x y) Q σ:=r4 true hc (fun _=>h) (fun h=>by cases h)
theorem b9 {x y:Code} {c:Operand} {Q:Exit->St->Prop} {σ:St} (hc:bC G σ.env c=some (.d (.v (.bool false)))) (h:AW P Mv X G N y Q σ):AW P Mv X G N (.cond c x y) Q σ:=r4 false hc (fun h=>by cases h) (fun _=>h)
theorem aJ {x y:Code} {c:Operand} {Q:Exit->St->Prop} {σ:St} (h:AW P Mv X G N x Q σ) (hc:bC G σ.env c=some (.d (.v (.bool true))):=by rfl):AW P Mv X G N (.cond c x y) Q σ:=b8 hc h
theorem al {x y:Code} {c:Operand} {Q:Exit->St->Prop} {σ:St} (h:AW P Mv X G N y Q σ) (hc:bC G σ.env c=some (.d (.v (.bool false))):=by rfl):AW P Mv X G N (.cond c x y) Q σ:=b9 hc h
theorem Vn {S:Type} {c:Code} {Q:Exit->St->Prop} {σ:St} (inv:S->St) (p3:S->Nat) (s0:S) (h0:aM Mv X G N σ (inv s0))
  (round:∀ s,AW P Mv X G N c (aV (fun aG=>∃ s',p3 s' < p3 s/\aM Mv X G N aG (inv s')) Q) (inv s)):AW P Mv X G N (.loop c) Q σ:=fun w μ a hi=>by
 obtain⟨lh,Qk,X7⟩:=h0 w μ a hi
 have key:∀ n s w1 l4 a1,p3 s < n->In w1 X G l4 N a1 (inv s)->Ev Mv w μ w1 l4->Code.roundsIn (wd N.ro) 0 P c (After Mv X G N w μ Q) n a1 w1:=by
  intro n
  induction n with
  | zero=>intro s w1 l4 a1 h;omega
  | succ n ih=>
   intro s w1 l4 a1 aH aO aW;rw[roundsIn_succ];refine wpIn_mono (round s w1 l4 a1 aO) fun e a' w' ⟨aI,aG,q,i,ev⟩=>?_
   cases e with
   | normal=>
    obtain⟨s',qG,himp⟩:=q;obtain⟨jZ,gJ,xG⟩:=himp w' aI a' i;exact ih s' w' jZ a' aa gJ (aW.trans (ev.trans xG))
   | _=>exact⟨aI,aG,q,i,aW.trans ev⟩
 exact wpIn_loop_rounds (p3 s0+1) (key _ s0 w lh a aa Qk X7)
def NH (P:Program) (Mv X:Nat->Prop) (G:ay) (f:FuncId) (xs:List AV) (H:Heap) (R:AV->Heap->Prop):Prop:=
 ∀ w μ (vs:Array Value),eA w X μ H->(∀ g x,G g=some x->RD w (XX X μ) (.pointer (some ⟨g,0,none⟩)) x)->vs.size=xs.length->(∀ (i:Nat) (u:Value) (x:AV),vs[i]? = some u->xs[i]? = some x->RV w X μ u x)->
  Calls P f vs w fun e w'=>∃ v x H' aI,e = .returned v/\R x H'/\RV w' X aI v x/\eA w' X aI H'/\Ev Mv w μ w' aI
def args (xs:List AV):Env:=fun i=>xs[i]?
def aex (rs:List ResultVar) (e:Env):Option AV:=
 match rs with
 | []=>some (.d (.v (.tuple #[])))
 | [.tmp t]=>e t
 | [.tmp t,.tmp u]=>match e t,e u with | some x,some y=>some (.bz [x,y]) | _,_=>none
 | [.tmp t,.tmp u,.tmp v]=>match e t,e u,e v with | some x,some y,some z=>some (.bz [x,y,z]) | _,_,_=>none
 | _=>none
def atEnd (rs:List ResultVar) (R:AV->Heap->Prop):Exit->St->Prop
 | .normal,σ | .ret,σ=>∃ x,aex rs σ.env=some x/\R x σ.H
 | _,_=>False
end
end Go.Av
namespace Go.Av
structure TI where
 desc:TypeDesc
 size:Nat
 bytes:Nat
 zero:Value
 pe:Bool
abbrev Ty:=TypeId->Option TI
def Good (P:Program) (T:Ty):Prop:=∀ t ti,T t=some ti->P.underlying t=some ti.desc/\∃ i,P.info? t=some i/\i.size=ti.size/\i.bytes=ti.bytes/\i.zero=some ti.zero/\(ti.pe=true->P.stoodInHeld t=false/\P.eqGuardType P.depth t=false)
section
variable {P:Program} {T:Ty} {t:TypeId} {ti:TI} {w:World}
theorem Good.da (h:Good P T) (ht:T t=some ti):(underlying t).run P w = .ok ti.desc w:=run_underlying (h t ti ht).1 w
theorem Good.sizeOf (h:Good P T) (ht:T t=some ti):(Go.sizeOf t).run P w = .ok ti.size w:=by
 obtain⟨_,i,hi,hs,_⟩:=h t ti ht;simp[Go.sizeOf,typeInfo,hi,hs]
theorem Good.zero (h:Good P T) (ht:T t=some ti):(zeroValue t).run P w = .ok ti.zero w:=by
 obtain⟨_,i,hi,_,_,hz,_⟩:=h t ti ht;simp[zeroValue,typeInfo,hi,hz]
end
def TypeDesc.isAgg:TypeDesc->Bool
 | .struct _ | .array _ _=>true
 | _=>false
theorem Good.isAgg {P:Program} {T:Ty} {t:TypeId} {ti:TI} {w:World} (h:Good P T) (ht:T t=some ti):(Go.isAgg t).run P w = .ok (TypeDesc.isAgg ti.desc) w:=by
 simp only[Go.isAgg,Sem.run_bind,h.da ht,Result.andThen_ok];cases ti.desc<;>rfl
abbrev k8:=Option (Prop×AV)
def bool (b:Bool):AV:=.d (.v (.bool b))
def int (n:Int):AV:=.d (.v (.int .i64 n))
section
variable {w:World} {X:Nat->Prop} {μ:Mu}
theorem RD.rY {u:Value} {k:Option Bool} {els:List (List D)} (h:RD w X u (.sl k els)) :
  (u = .slice none 0 0/\els=[]/\k≠some true)\/
  (∃ a cap,u = .slice (some a) els.length cap/\k≠some false/\els.length<=cap/\cap<=maxLen/\
   (els=[]\/∃ b off sz,∃ f:Nat->Nat->Value,a=⟨b,off,none⟩/\¬ X b/\0 < sz/\(∀ el∈els,el.length=sz)/\
    (∀ i j,i < els.length->j < sz->w.cell? ⟨b,off+(i * sz+j),none⟩=some (f i j))/\
    (∀ (i j:Nat) (el:List D) (c:D),els[i]? = some el->el[j]? = some c->RD w X (f i j) c))):=by
 generalize hy:D.sl k els=y at h;cases h<;>cases hy
 .exact .inl ⟨rfl,rfl,by assumption⟩
 .exact .inr ⟨_,_,rfl,by assumption,ak,by assumption,.inl rfl⟩
 .rename_i b off n cap sz f hc hm hX hz bf fb hk hn hs hr;subst hn;exact .inr ⟨_,_,rfl,hk,hc,hm,.inr ⟨b,off,sz,f,rfl,hX,hz,hs,fb,hr⟩⟩
theorem RD.rN {u:Value} {cells:List D} (h:RD w X u (.ip cells)):∃ b off,∃ f:Nat->Value,u = .pointer (some ⟨b,off,none⟩)/\¬ X b/\b < w.heap.size/\
  (∀ j,j < cells.length->w.cell? ⟨b,off+j,none⟩=some (f j))/\(∀ (j:Nat) (c:D),cells[j]? = some c->RD w X (f j) c):=by
 generalize hy:D.ip cells=y at h;cases h<;>cases hy;exact⟨_,_,_,rfl,by assumption,by assumption,by assumption,by assumption⟩
theorem RD.sN {u:Value} {cells:List D} (h:RD w X u (.agg cells)):∃ arr,u = .agg arr/\arr.size=cells.length/\∀ (j:Nat) (u:Value) (c:D),arr[j]? = some u->cells[j]? = some c->RD w X u c:=by
 generalize hy:D.agg cells=y at h;cases h<;>cases hy;exact⟨_,rfl,by assumption,by assumption⟩
theorem RD.Bw {u:Value} {cells:List D} (h:RD w X u (.bz cells)):∃ arr,u = .tuple arr/\arr.size=cells.length/\∀ (j:Nat) (u:Value) (c:D),arr[j]? = some u->cells[j]? = some c->RD w X u c:=by
 generalize hy:D.bz cells=y at h;cases h<;>cases hy;exact⟨_,rfl,by assumption,by assumption⟩
theorem RD.tv {u:Value} {t:TypeId} {x:D} (h:RD w X u (.cf t x)):∃ v,u = .iface t v/\RD w X v x:=by
 generalize hy:D.cf t x=y at h;cases h<;>cases hy;exact⟨_,rfl,by assumption⟩
theorem RD.zS {u:Value} {f:Fn} {cells:List D} (h:RD w X u (.fn f cells)):∃ arr,u = .func f #[] arr/\arr.size=cells.length/\∀ (j:Nat) (u:Value) (c:D),arr[j]? = some u->cells[j]? = some c->RD w X u c:=by
 generalize hy:D.fn f cells=y at h;cases h<;>cases hy;exact⟨_,rfl,by assumption,by assumption⟩
theorem RV.sN {u:Value} {cells:List AV} (h:RV w X μ u (.agg cells)):∃ arr,u = .agg arr/\arr.size=cells.length/\∀ (j:Nat) (u:Value) (c:AV),arr[j]? = some u->cells[j]? = some c->RV w X μ u c:=by
 generalize hy:AV.agg cells=y at h;cases h<;>cases hy;exact⟨_,rfl,by assumption,by assumption⟩
theorem RV.Bw {u:Value} {cells:List AV} (h:RV w X μ u (.bz cells)):∃ arr,u = .tuple arr/\arr.size=cells.length/\∀ (j:Nat) (u:Value) (c:AV),arr[j]? = some u->cells[j]? = some c->RV w X μ u c:=by
 generalize hy:AV.bz cells=y at h;cases h<;>cases hy;exact⟨_,rfl,by assumption,by assumption⟩
theorem RV.tv {u:Value} {t:TypeId} {x:AV} (h:RV w X μ u (.cf t x)):∃ v,u = .iface t v/\RV w X μ v x:=by
 generalize hy:AV.cf t x=y at h;cases h<;>cases hy;exact⟨_,rfl,by assumption⟩
theorem RV.WC {u:Value} {g:FuncId} {x:AV} (h:RV w X μ u (.bm g x)):∃ v,u = .func (.func g) #[v] #[]/\RV w X μ v x:=by
 generalize hy:AV.bm g x=y at h;cases h<;>cases hy;exact⟨_,rfl,by assumption⟩
theorem RV.zS {u:Value} {f:Fn} {cells:List AV} (h:RV w X μ u (.fn f cells)):∃ arr,u = .func f #[] arr/\arr.size=cells.length/\∀ (j:Nat) (u:Value) (c:AV),arr[j]? = some u->cells[j]? = some c->RV w X μ u c:=by
 generalize hy:AV.fn f cells=y at h;cases h<;>cases hy;exact⟨_,rfl,by assumption,by assumption⟩
theorem RV.lF {u:Value} {r off n:Nat} (h:RV w X μ u (.own r off n)):∃ m,μ r=some m/\((m.fk=none/\u = .slice none 0 0/\off=0/\n=0)\/(∃ b,m.fk=some b/\u = .slice (some ⟨b,off * m.sz,none⟩) n (m.cap - off)/\off+n<=m.cap)):=by
 generalize hy:AV.own r off n=y at h;cases h<;>cases hy;exact⟨_,by assumption,by assumption⟩
theorem RV.lG {u:Value} {r e j:Nat} (h:RV w X μ u (.ref r e j)):∃ m b,μ r=some m/\m.fk=some b/\u = .pointer (some ⟨b,e * m.sz+j,none⟩):=by
 generalize hy:AV.ref r e j=y at h;cases h<;>cases hy;exact⟨_,_,by assumption,by assumption,rfl⟩
end
def l5:List AV->Option (List D)
 | []=>some []
 | .d x :: l=>(l5 l).map (x :: ·)
 | _ :: _=>none
def qR (l:List AV):AV:=match l5 l with
 | some ds=>.d (.agg ds)
 | none=>.agg l
theorem re:∀ {l:List AV} {ds:List D},l5 l=some ds->l=ds.map .d
 | [],ds,h=>by simp[l5]at h;simp[h]
 | x :: l,ds,h=>by
  cases x with
  | d x=>
   simp only[l5,AS]at h;obtain⟨iM,h',rfl⟩:=h;simp[re h']
  | _=>simp[l5]at h
theorem Dx {w:World} {X:Nat->Prop} {μ:Mu} {u:Value} {l:List AV} (h:RV w X μ u (.agg l)):RV w X μ u (qR l):=by
 unfold qR;split
 .rename_i ds hd;rw[re hd]at h;obtain⟨arr,rfl,hn,hr⟩:=h.sN;refine .d (.agg (by simpa using hn) fun j u c hu hc=>?_);exact (hr j u (.d c) hu (by rw[ajK,hc];rfl)).data
 .exact h
def qm (T:Ty) (t:TypeId) (cells:List AV):k8:=match T t with
 | none=>none
 | some ti=>if TypeDesc.isAgg ti.desc then some (ti.size<=cells.length,qR (cells.take ti.size)) else some (cells≠[],cells.headD .dead)
def uh (T:Ty) (t:TypeId) (cells:List D):k8:=match T t with
 | none=>none
 | some ti=>if TypeDesc.isAgg ti.desc then some (ti.size<=cells.length,.d (.agg (cells.take ti.size))) else some (cells≠[],.d (cells.headD default))
theorem addr_add (b o j:Nat):(⟨b,o,none⟩:Addr).add j=⟨b,o+j,none⟩:=by unfold Addr.add;split<;>simp_all
theorem T9 {P:Program} {T:Ty} (hg:Good P T) {t:TypeId} {ti:TI} (ht:T t=some ti) {w:World} {b o n:Nat} (f:Nat->Value) (hc:∀ j,j < n->w.cell? ⟨b,o+j,none⟩=some (f j)) :
  (TypeDesc.isAgg ti.desc=true->ti.size<=n->(loadVar t ⟨b,o,none⟩).run P w = .ok (.agg ((Array.range ti.size).map f)) w)/\
  (TypeDesc.isAgg ti.desc=false->0 < n->(loadVar t ⟨b,o,none⟩).run P w = .ok (f 0) w):=by
 constructor
 .intro ha hn;have:=run_loadCells (P:=P) w ⟨b,o,none⟩ ti.size f (fun j hj=>by rw[addr_add];exact hc j aa);simp only[loadVar,Sem.run_bind,hg.isAgg ht,Result.andThen_ok,ha,if_true,hg.sizeOf ht,this,Sem.run_pure];congr 1;apply congrArg;apply Array.ext
  .simp
  .intro i h1 h2;simp
 .intro ha hn;have h0:=hc 0 hn;simp only[akD]at h0;simp[loadVar,hg.isAgg ht,ha,h0]
def oF (T:Ty) (H:Heap) (t:TypeId):AV->k8
 | .d (.ip cells)=>uh T t cells
 | .ref r e j=>match H r with
  | some (.box _ cells)=>if e=0 then qm T t (cells.drop j) else none
  | some (.sl _ sz els)=>match uh T t ((els.getD e []).drop j) with
   | some (c,x)=>some (e < els.length/\j < sz/\c,x)
   | none=>none
  | some (.mp _ _)=>none
  | some (.it _ _)=>none
  | none=>none
 | _=>none
theorem N4 {P:Program} {T:Ty} (hg:Good P T) {w:World} {X:Nat->Prop} {μ:Mu} {t:TypeId} {cells:List D} {c:Prop} {x:AV} (h:uh T t cells=some (c,x)) (hc:c) {b o:Nat} (f:Nat->Value)
  (fb:∀ j,j < cells.length->w.cell? ⟨b,o+j,none⟩=some (f j)) (hr:∀ (j:Nat) (c:D),cells[j]? = some c->RD w (XX X μ) (f j) c):∃ v,(loadVar t ⟨b,o,none⟩).run P w = .ok v w/\RV w X μ v x:=by
 unfold uh at h;split at h
 .cases h
 .rename_i ti ht;have hl:=T9 hg ht f fb;split at h
  .rename_i ha;obtain⟨rfl,rfl⟩:=eh h;refine⟨_,hl.1 ha hc,.d (.agg (by simp;omega) fun j u d hu hd=>?_)⟩;rw[ajU]at hd;split at hd
   .rename_i hj;simp[hj]at hu;subst hu;exact hr j d hd
   .cases hd
  .rename_i ha;obtain⟨rfl,rfl⟩:=eh h
   cases cells with
   | nil=>exact absurd rfl hc
   | cons d l=>exact⟨_,hl.2 (by simpa using ha) ak,.d (hr 0 d rfl)⟩
theorem V9 {P:Program} {T:Ty} (hg:Good P T) {w:World} {X:Nat->Prop} {μ:Mu} {t:TypeId} {cells:List AV} {c:Prop} {x:AV} (h:qm T t cells=some (c,x)) (hc:c) {b o:Nat} (f:Nat->Value)
  (fb:∀ j,j < cells.length->w.cell? ⟨b,o+j,none⟩=some (f j)) (hr:∀ (j:Nat) (c:AV),cells[j]? = some c->RV w X μ (f j) c):∃ v,(loadVar t ⟨b,o,none⟩).run P w = .ok v w/\RV w X μ v x:=by
 unfold qm at h;split at h
 .cases h
 .rename_i ti ht;have hl:=T9 hg ht f fb;split at h
  .rename_i ha;obtain⟨rfl,rfl⟩:=eh h;refine⟨_,hl.1 ha hc,Dx (.agg (by simp;omega) fun j u d hu hd=>?_)⟩;rw[ajU]at hd;split at hd
   .rename_i hj;simp[hj]at hu;subst hu;exact hr j d hd
   .cases hd
  .rename_i ha;obtain⟨rfl,rfl⟩:=eh h
   cases cells with
   | nil=>exact absurd rfl hc
   | cons d l=>exact⟨_,hl.2 (by simpa using ha) ak,hr 0 d rfl⟩
theorem R6 {P:Program} {T:Ty} (hg:Good P T) {w:World} {X:Nat->Prop} {μ:Mu} {H:Heap} (hs:eA w X μ H) {t:TypeId} {u:Value} {x y:AV} {c:Prop} (h:oF T H t x=some (c,y)) (hc:c) (hx:RV w X μ u x) :
  ∃ v,(Instr.loadAt t u).run P w = .ok v w/\RV w X μ v y:=by
 unfold oF at h;split at h
 .rename_i cells;obtain⟨b,off,f,rfl,_,_,fb,hr⟩:=hx.data.rN;simpa[Instr.loadAt,Instr.sureAddr]using N4 (P:=P) hg h hc f fb hr
 .rename_i r e j;obtain⟨m,b,hm,hb,rfl⟩:=hx.lG;split at h
  .rename_i ty cells hH;split at h
   .rename_i he;subst he;obtain⟨m',cF,ok⟩:=hs.rows r _ hH;rw[hm]at cF;obtain rfl:=AI cF
    cases ok with
    | box bk bd kC hh hn hr AN=>
     rename_i b' cur;rw[hb]at bk;obtain rfl:=AI bk
     have fb:∀ i,i < (cells.drop j).length->w.cell? ⟨b,0 * m.sz+j+i,none⟩=some (cur.getD (j+i) undef):=by
      intro i hi;simp only[aj5]at hi;rw[ak5,akg,cell_of_row w b (j+i) cur ty (0,0) hh];simp[ajF,show j+i < cur.size by omega]
     simp only[Instr.loadAt,Instr.sureAddr,Sem.run_bind,Sem.run_pure,Result.andThen_ok];refine V9 (P:=P) hg h hc (fun i=>cur.getD (j+i) undef) fb fun i d hd=>?_;rw[akc]at hd;have aH:j+i < cells.length:=(BY.1 hd).1;refine hr (j+i) _ d ?_ hd;simp[ajF,show j+i < cur.size by omega]
   .cases h
  .rename_i ty sz els hH;split at h
   .rename_i c' x' hv;obtain⟨rfl,rfl⟩:=eh h;obtain⟨he,hj,eb⟩:=hc;obtain⟨m',cF,ok⟩:=hs.rows r _ hH;rw[hm]at cF;obtain rfl:=AI cF
    cases ok with
    | nil bk _=>rw[hb]at bk;cases bk
    | sl bk bd hh cO hn gK hl hz hr=>
     rename_i b' cur;rw[hb]at bk;obtain rfl:=AI bk;subst bd
     have ba:els.getD e []=els[e]:=by simp[OF,he]
     have hlen:(els[e]).length=m.sz:=hl _ (By he)
     have aH:∀ i,j+i < m.sz->e * m.sz+(j+i) < cur.size:=by
      intro i hi;rw[cO];have:(e+1) * m.sz<=m.cap * m.sz:=aj0 _ aa;rw[aj7]at this;omega
     rw[ba]at hv
     have fb:∀ i,i < ((els[e]).drop j).length->w.cell? ⟨b,e * m.sz+j+i,none⟩=some (cur.getD (e * m.sz+(j+i)) undef):=by
      intro i hi;simp only[aj5,hlen]at hi;have:=aH i aa;rw[cell_of_row w b (e * m.sz+j+i) cur ty (0,0) hh];simp[ajF,akv,this]
     simp only[Instr.loadAt,Instr.sureAddr,Sem.run_bind,Sem.run_pure,Result.andThen_ok];refine N4 (P:=P) hg hv eb (fun i=>cur.getD (e * m.sz+(j+i)) undef) fb fun i d hd=>?_;rw[akc]at hd;obtain⟨u',ir,bY⟩:=hr e (j+i) _ d (AT he) hd;simpa[ajF,ir]using bY
   .cases h
  .cases h
  .cases h
  .cases h
 .cases h
def qq (T:Ty) (t:TypeId):Option Nat:=match T t with
 | some ti=>match ti.desc with
  | .slice e=>(T e).map (·.size)
  | _=>none
 | none=>none
def BK (T:Ty) (t:TypeId):Option (Nat×Nat):=match T t with
 | some ti=>match ti.desc with
  | .array n e=>(T e).map fun te=>(n,te.size)
  | _=>none
 | none=>none
def rM (T:Ty) (H:Heap) (t:TypeId):AV->AV->k8
 | .d (.sl _ els),.d (.v (.int _ i))=>match qq T t with
  | some s=>some (0<=i/\i < els.length/\(els.getD i.toNat []).length=s,.d (.ip (els.getD i.toNat [])))
  | none=>none
 | .own r off n,.d (.v (.int _ i))=>match qq T t,H r with
  | some s,some (.sl _ sz _)=>some (0<=i/\i < n/\sz=s,.ref r (off+i.toNat) 0)
  | some s,some (.box _ _)=>some (0<=i/\i < n/\off=0,.ref r 0 (i.toNat * s))
  | _,_=>none
 | .d (.ip cells),.d (.v (.int _ i))=>match BK T t with
  | some (n,s)=>some (0<=i/\i < n,.d (.ip (cells.drop (i.toNat * s))))
  | none=>none
 | .ref r e j,.d (.v (.int _ i))=>match BK T t with
  | some (n,s)=>some (0<=i/\i < n,.ref r e (j+i.toNat * s))
  | none=>none
 | _,_=>none
theorem T8 {P:Program} {T:Ty} (hg:Good P T) {t:TypeId} {n s:Nat} (h:BK T t=some (n,s)) {w:World} {b o:Nat} {k:IntKind} {i:Int} (h0:0<=i) (h1:i < n) :
  (Instr.indexAt t (.pointer (some ⟨b,o,none⟩)) (.int k i)).run P w = .ok (.pointer (some ⟨b,o+i.toNat * s,none⟩)) w:=by
 unfold BK at h;split at h
 .rename_i ti ht;split at h
  .rename_i n' e hd;obtain⟨te,cQ,he⟩:=AS.1 h;simp only[ajH]at he;obtain⟨rfl,rfl⟩:=he;obtain⟨m,rfl⟩:=ajL h0
   have hm:m < n':=aa
   simp[Instr.indexAt,asIntOf,hg.da ht,hd,Instr.sureAddr,hg.sizeOf cQ,addr_add,hm]
  .cases h
 .cases h
theorem aa9 {P:Program} {T:Ty} (hg:Good P T) {w:World} {X:Nat->Prop} {μ:Mu} {H:Heap} (hs:eA w X μ H) {t:TypeId} {u v:Value} {x y z:AV} {c:Prop} (h:rM T H t x y=some (c,z)) (hc:c)
  (hx:RV w X μ u x) (hy:RV w X μ v y):∃ r,(Instr.indexAt t u v).run P w = .ok r w/\RV w X μ r z:=by
 unfold rM at h;split at h
 .rename_i k els kd i;split at h
  .rename_i s he;obtain⟨rfl,rfl⟩:=eh h;obtain⟨h0,h1,h2⟩:=hc;unfold qq at he;split at he
   .rename_i ti ht;split at he
    .rename_i e hd;obtain⟨te,cQ,rfl⟩:=AS.1 he;have hv:=hy.scalar;subst hv;obtain⟨n,rfl⟩:=ajL h0;simp only[ajI]at h2 ⊢
     have hn:n < els.length:=aa
     rcases hx.data.rY with⟨rfl,rfl,_⟩ | ⟨a,cap,rfl,_,kC,_,hr⟩
     .simp at hn
     .rcases hr with rfl | ⟨b,off,sz,f,rfl,hX,hz,bd,fb,hr⟩
      .simp at hn
      .have ba:els.getD n []=els[n]:=by simp[OF,hn]
       rw[ba]at h2 ⊢;have e2:(els[n]).length=sz:=bd _ (By hn);refine⟨.pointer (some ⟨b,off+n * sz,none⟩),?_,.d (.ip (f:=fun j=>f n j) hX (xx (fb 0 0 aa hz)) (fun j hj=>?_) (fun j d hd=>hr n j _ d (AT hn) hd))⟩
       .simp[Instr.indexAt,asIntOf,hg.da ht,hd,hg.sizeOf cQ,addr_add,<- h2,e2];intro hh;omega
       .rw[akv];exact fb n j hn aa
    .cases he
   .cases he
  .cases h
 .rename_i r off n kd i;split at h
  .rename_i s ty sz els he hH;obtain⟨rfl,rfl⟩:=eh h;obtain⟨h0,h1,rfl⟩:=hc;unfold qq at he;split at he
   .rename_i ti ht;split at he
    .rename_i e hd;obtain⟨te,cQ,xY⟩:=AS.1 he;have hv:=hy.scalar;subst hv;obtain⟨k,rfl⟩:=ajL h0;simp only[ajI];obtain⟨m,hm,hu⟩:=hx.lF;obtain⟨m',cF,ok⟩:=hs.rows r _ hH;rw[hm]at cF;obtain rfl:=AI cF
     rcases hu with⟨_,_,_,rfl⟩ | ⟨b,hb,rfl,hle⟩
     .omega
     .have bd:m.sz=sz:=by cases ok<;>assumption
      refine⟨.pointer (some ⟨b,(off+k) * m.sz+0,none⟩),?_,.ref hm hb⟩;simp[Instr.indexAt,asIntOf,hg.da ht,hd,hg.sizeOf cQ,addr_add,xY,<- bd,aj7];intro hh;omega
    .cases he
   .cases he
  .rename_i s ty cells he hH;obtain⟨rfl,rfl⟩:=eh h;obtain⟨h0,h1,rfl⟩:=hc;unfold qq at he;split at he
   .rename_i ti ht;split at he
    .rename_i e hd;obtain⟨te,cQ,xY⟩:=AS.1 he;have hv:=hy.scalar;subst hv;obtain⟨k,rfl⟩:=ajL h0;simp only[ajI];obtain⟨m,hm,hu⟩:=hx.lF
     rcases hu with⟨_,_,_,rfl⟩ | ⟨b,hb,rfl,hle⟩
     .omega
     .refine⟨.pointer (some ⟨b,0 * m.sz+k * s,none⟩),?_,.ref hm hb⟩;simp[Instr.indexAt,asIntOf,hg.da ht,hd,hg.sizeOf cQ,addr_add,xY];intro hh;omega
    .cases he
   .cases he
  .cases h
 .rename_i cells kd i;split at h
  .rename_i n s ha;obtain⟨rfl,rfl⟩:=eh h;obtain⟨b,off,f,rfl,hX,hb,fb,hr⟩:=hx.data.rN;have hv:=hy.scalar;subst hv;refine⟨_,T8 hg ha hc.1 hc.2,.d (.ip (f:=fun q=>f (i.toNat * s+q)) hX hb (fun q hq=>?_) (fun q d hd=>?_))⟩
   .simp only[aj5]at hq;rw[akv];exact fb _ aa
   .rw[akc]at hd;exact hr _ d hd
  .cases h
 .rename_i r e j kd i;split at h
  .rename_i n s ha;obtain⟨rfl,rfl⟩:=eh h;obtain⟨m,b,hm,hb,rfl⟩:=hx.lG;have hv:=hy.scalar;subst hv;refine⟨_,T8 hg ha hc.1 hc.2,?_⟩;rw[akv];exact .ref hm hb
  .cases h
 .cases h
def uF (T:Ty) (t:TypeId) (f:Nat):Option (Field×Nat):=match T t with
 | some ti=>match ti.desc with
  | .struct fs=>match fs[f]? with
   | some fl=>(T fl.type).map fun tf=>(fl,tf.size)
   | none=>none
  | _=>none
 | none=>none
def E9 (T:Ty) (t:TypeId) (f:Nat):AV->k8
 | .d (.ip cells)=>match uF T t f with
  | some (fl,s)=>some (0 < s,.d (.ip (cells.drop fl.offset)))
  | none=>none
 | .ref r e j=>match uF T t f with
  | some (fl,s)=>some (0 < s,.ref r e (j+fl.offset))
  | none=>none
 | _=>none
theorem T7 {P:Program} {T:Ty} (hg:Good P T) {t:TypeId} {f:Nat} {fl:Field} {s:Nat} (h:uF T t f=some (fl,s)) (hs:0 < s) {w:World} {b o:Nat} :
  (Instr.fieldAt t (.pointer (some ⟨b,o,none⟩)) f).run P w = .ok (.pointer (some ⟨b,o+fl.offset,none⟩)) w:=by
 unfold uF at h;split at h
 .rename_i ti ht;split at h
  .rename_i fs hd;split at h
   .rename_i Yp hf;obtain⟨tf,Gg,he⟩:=AS.1 h;simp only[ajH]at he;obtain⟨rfl,rfl⟩:=he
    have:¬ tf.size=0:=aa
    simp[Instr.fieldAt,hg.da ht,hd,hf,Instr.sureAddr,fieldPlace,hg.sizeOf Gg,this,addr_add]
   .cases h
  .cases h
 .cases h
theorem Yi {P:Program} {T:Ty} (hg:Good P T) {w:World} {X:Nat->Prop} {μ:Mu} {t:TypeId} {f:Nat} {u:Value} {x z:AV} {c:Prop} (h:E9 T t f x=some (c,z)) (hc:c)
  (hx:RV w X μ u x):∃ r,(Instr.fieldAt t u f).run P w = .ok r w/\RV w X μ r z:=by
 unfold E9 at h;split at h
 .rename_i cells;split at h
  .rename_i fl s hf;obtain⟨rfl,rfl⟩:=eh h;obtain⟨b,off,f',rfl,hX,hb,fb,hr⟩:=hx.data.rN;refine⟨_,T7 hg hf hc,.d (.ip (f:=fun j=>f' (fl.offset+j)) hX hb (fun j hj=>?_) (fun j d hd=>?_))⟩
   .simp only[aj5]at hj;rw[akv];exact fb _ aa
   .rw[akc]at hd;exact hr _ d hd
  .cases h
 .rename_i r e j;split at h
  .rename_i fl s hf;obtain⟨rfl,rfl⟩:=eh h;obtain⟨m,b,hm,hb,rfl⟩:=hx.lG;refine⟨_,T7 hg hf hc,?_⟩;rw[akv];exact .ref hm hb
  .cases h
 .cases h
def E8 (T:Ty) (t:TypeId) (f:Nat):AV->k8
 | .d (.agg cells)=>match uF T t f with
  | some (fl,_)=>uh T fl.type (cells.drop fl.offset)
  | none=>none
 | .agg cells=>match uF T t f with
  | some (fl,_)=>qm T fl.type (cells.drop fl.offset)
  | none=>none
 | _=>none
theorem N5 {P:Program} {T:Ty} (hg:Good P T) {w:World} {X:Nat->Prop} {μ:Mu} {t:TypeId} {cells:List AV} {c:Prop} {x:AV} {arr:Array Value} {off:Nat} (h:qm T t (cells.drop off)=some (c,x)) (hc:c)
  (hn:arr.size=cells.length) (hr:∀ (j:Nat) (u:Value) (c:AV),arr[j]? = some u->cells[j]? = some c->RV w X μ u c):∃ v,(part t arr off).run P w = .ok v w/\RV w X μ v x:=by
 unfold qm at h;split at h
 .cases h
 .rename_i ti ht;split at h
  .rename_i ha;obtain⟨rfl,rfl⟩:=eh h;simp only[aj5]at hc;refine⟨.agg (arr.extract off (off+ti.size)),by simp[part,hg.isAgg ht,ha,hg.sizeOf ht],Dx (.agg ?_ fun j u d hu hd=>?_)⟩
   .simp;omega
   .rw[ajU]at hd;split at hd
    .rename_i hj;rw[akc]at hd;rw[Array.getElem?_extract]at hu;split at hu
     .exact hr _ u d hu hd
     .cases hu
    .cases hd
  .rename_i ha;obtain⟨rfl,rfl⟩:=eh h
   have aH:off < cells.length:=by
    rcases akS off cells.length with h | h
    .exact h
    .exact absurd (akr h) hc
   have hd:(cells.drop off).headD .dead=cells[off]:=by rw[aj4 aH];rfl
   rw[hd]
   have F3:off < arr.size:=aa
   exact⟨arr[off],by simp[part,hg.isAgg ht,ha,F3],hr off _ _ (by simp[F3]) (by simp[aH])⟩
theorem RV.Bd {w:World} {X:Nat->Prop} {μ:Mu} {arr:Array Value} {cells:List D} (hr:∀ (j:Nat) (u:Value) (c:D),arr[j]? = some u->cells[j]? = some c->RD w (XX X μ) u c) :
  ∀ (j:Nat) (u:Value) (c:AV),arr[j]? = some u->(cells.map AV.d)[j]? = some c->RV w X μ u c:=by
 intro j u c hu hc;rw[ajK]at hc;obtain⟨c',eb,rfl⟩:=AS.1 hc;exact .d (hr j u c' hu eb)
theorem Ih (l:List D):l5 (l.map .d)=some l:=by
 induction l with
 | nil=>rfl
 | cons x l ih=>simp[l5,ih]
theorem acB (l:List D):qR (l.map .d) = .d (.agg l):=by simp[qR,Ih]
theorem N3 (T:Ty) (t:TypeId) (cells:List D) {c:Prop} {x:AV} (h:uh T t cells=some (c,x)) (hc:c):∃ c',qm T t (cells.map .d)=some (c',x)/\c':=by
 unfold uh at h;unfold qm
 cases ht:T t with
 | none=>rw[ht]at h;cases h
 | some ti=>
  rw[ht]at h;dsimp only at h ⊢;split at h
  .rename_i ha;obtain⟨rfl,rfl⟩:=eh h;rw[if_pos ha];exact⟨_,by rw[<- alu,acB],by simpa using hc⟩
  .rename_i ha;obtain⟨rfl,rfl⟩:=eh h;rw[if_neg ha]
   cases cells with
   | nil=>exact absurd rfl hc
   | cons d l=>exact⟨_,rfl,ak⟩
theorem Yh {P:Program} {T:Ty} (hg:Good P T) {w:World} {X:Nat->Prop} {μ:Mu} {t:TypeId} {f:Nat} {u:Value} {x z:AV} {c:Prop} (h:E8 T t f x=some (c,z)) (hc:c)
  (hx:RV w X μ u x):∃ r,(Instr.field t u f).run P w = .ok r w/\RV w X μ r z:=by
 have key:∀ (arr:Array Value) (cells:List AV) (fl:Field) (s:Nat) (c':Prop),uF T t f=some (fl,s)->qm T fl.type (cells.drop fl.offset)=some (c',z)->c'->arr.size=cells.length->
   (∀ (j:Nat) (u:Value) (c:AV),arr[j]? = some u->cells[j]? = some c->RV w X μ u c)->∃ r,(Instr.field t (.agg arr) f).run P w = .ok r w/\RV w X μ r z:=by
  intro arr cells fl s c' hf hv eb hn hr;obtain⟨v,hv,gM⟩:=N5 (P:=P) hg hv eb hn hr;unfold uF at hf;split at hf
  .rename_i ti ht;split at hf
   .rename_i fs hd;split at hf
    .rename_i Yp J3;obtain⟨tf,Gg,he⟩:=AS.1 hf;simp only[ajH]at he;obtain⟨rfl,rfl⟩:=he;exact⟨v,by simp[Instr.field,hg.da ht,hd,J3,asAgg,hv],gM⟩
    .cases hf
   .cases hf
  .cases hf
 unfold E8 at h;split at h
 .rename_i cells;split at h
  .rename_i fl s hf;obtain⟨arr,rfl,hn,hr⟩:=hx.data.sN;obtain⟨c',h',eb⟩:=N3 T fl.type _ h hc;rw[alk]at h';exact key arr _ fl s c' hf h' eb (by simpa using hn) (RV.Bd hr)
  .cases h
 .rename_i cells;split at h
  .rename_i fl s hf;obtain⟨arr,rfl,hn,hr⟩:=hx.sN;exact key arr cells fl s c hf h hc hn hr
  .cases h
 .cases h
