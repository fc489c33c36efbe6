/- Parts. -/
import Derived.Test.YtobejfcgcfdpfaaGreatDoorPc6
import Derived.Lib.AppendStr
set_option linter.unusedSectionVars false
set_option linter.unusedSimpArgs false
set_option linter.unusedVariables false
namespace Go.Av
def sb (s:ByteArray):List (List D):=s.data.toList.map fun b=>[D.v (.int .u8 b.toNat)]
theorem QF (s:ByteArray):(sb s).length=s.size:=by simp[sb]
section
variable {P:Program} {T:Ty} {Mv X:Nat->Prop} {G:aB} {N:Fr} {w:World} {μ:Mu} {a:Act} {σ:St}
theorem QG (s:ByteArray):Rel w X μ 1 (Lib.strCells s) (sb s):=by
 intro i j el c hi hj;unfold sb at hi;rw[amm]at hi;obtain⟨b,hb,rfl⟩:=AS.1 hi
 match j,hj with
 | 0,hj=>
  simp at hj;subst hj;exact⟨_,by simp[Lib.strCells,hb],.v _⟩
 | j+1,hj=>simp at hj
theorem aiK {t t' ty e:TypeId} {tt ts te:TI} (hg:Good P T) (dP:T t=some tt) (ea:tt.desc = .slice e) (uM:T t'=some ts) (n5:ts.desc = .string) (c8:T e=some te) (base:Option Addr) (n cap:Nat) (hn:n<=cap) {s:ByteArray} (eV:s.size=0) :
  (Builtin.append_ #[t,t'] ty #[.slice base n cap,.string s]).run P w = .ok (.slice base n cap) w:=by
 have hu:=hg.dI (w:=w) dP;have iR:=hg.dI (w:=w) uM;have bp:=hg.sizeOf (w:=w) c8;have hf:=Lib.run_firstCells_string (P:=P) w te.size s;have wo:Lib.strCells s=[]:=amC (by rw[Lib.strCells_length];exact eV);rw[eV,wo]at hf;cases base<;>simp[Builtin.append_,hu,ea,iR,n5,bp,Builtin.lenOf,hn,eV,hf,storeCells]
theorem YY (hg:Good P T) (hi:In w X G μ N a σ) {r n:Nat} (gp:Mv r) {t t' ty e:TypeId} {tt ts te:TI} (dP:T t=some tt) (ea:tt.desc = .slice e) (uM:T t'=some ts) (n5:ts.desc = .string) (c8:T e=some te) {els:List (List D)} {u:Value} {s:ByteArray}
  (hH:σ.H r=some (.sl e 1 els)) (hle:n<=els.length) (hu:RV w X μ u (.own r 0 n)) (Cb:te.size=1) (e9:te.bytes=1) (EN:te.zero = .int .u8 0) (hb:n+s.size<=140737488355328) :
  pc Mv X G N w μ a ((Builtin.append_ #[t,t'] ty #[u,.string s]).run P w) (.own r 0 (n+s.size)) ⟨eJ r σ.env,bk (eK r σ.H) r (.sl e 1 (els.take n ++ sb s))⟩:=by
 obtain⟨m,hm,hh⟩:=hu.ml;obtain⟨m',cL,ok⟩:=hi.bx.rows r _ hH;rw[hm]at cL;obtain rfl:=AI cL;obtain⟨xR,i0,ma,eV,iF,mW,_⟩:=hg e te c8;have ht:=(hg t tt dP).1;rw[ea]at ht;have rI:=(hg t' ts uM).1;rw[n5]at rI
 have xv:n+s.size<=maxLen:=by unfold maxLen;omega
 have Na:n+s.size<=9223372036854775807:=aa
 have fI:=QF s
 have acC:∀ el∈sb s,el.length=1:=by
  intro el bn;obtain⟨b,_,rfl⟩:=amS.1 bn;rfl
 have zH:∀ el∈els,el.length=1:=by
  cases ok with
  | nil=>simp
  | sl _ _ _ _ _ _ hl=>exact hl
 have Eh:∀ el∈els.take n ++ sb s,el.length=1:=by
  intro el bn
  rcases amq.1 bn with h | h
  .exact zH el (amr h)
  .exact acC el h
 by_cases bq:s.size=0
 .-- nothing is appended
  have abQ:sb s=[]:=amC (by rw[fI];exact bq)
  have qg:∃ base c,u = .slice base n c/\n<=c:=by
   rcases hh with⟨_,rfl,_,rfl⟩ | ⟨b,_,rfl,k8⟩
   .exact⟨_,_,rfl,amh _⟩
   .exact⟨_,_,rfl,aa⟩
  obtain⟨base,c',EG,MQ⟩:=qg;have dK:=aiK (P:=P) (w:=w) (ty:=ty) hg dP ea uM n5 c8 base n c' MQ bq;rw[EG,dK,abQ,bq]
  obtain⟨aR,bd⟩:=hi.move (Mv:=Mv) (w':=w) (m':=m) hm gp (amh _) rfl rfl rfl (fun _ _ _=>rfl) (fun b hb=>.inr hb) (row:=.sl e 1 (els.take n ++ [])) fun ev=>by
   rw[am0]
   cases ok with
   | nil e9 e7=>rw[List.take_nil];exact .nil e9 e7
   | sl g1 g2 g3 g4 g5 g6 g7 g8 g9=>
    refine .sl g1 g2 g3 g4 (by simp;omega) g6 (fun el bn=>g7 el (amr bn)) g8 fun i j el c bn hc=>?_;rw[amv]at bn;split at bn
    .obtain⟨v,hv,bQ⟩:=g9 i j el c bn hc;exact⟨v,hv,bQ.ev ev⟩
    .cases bn
  refine⟨_,_,_,rfl,aR,.own (m:=m) (by simp[eG]) ?_,bd⟩;rw[<- EG];exact hh
 .have MT:0 < s.size:=aa
  have fz:(Lib.strCells s).length=s.size:=Lib.strCells_length s
  have tP:te.zero.cells.size=1:=by rw[EN];rfl
  have E7:∀ (xs:List Value) (gA:Nat),xs.length=n->Rel w X μ 1 xs (els.take n)->n+s.size<=gA->gA<=maxLen->m.sz=1->
    pc Mv X G N w μ a (.ok (.slice (some ⟨w.heap.size,0,none⟩) (n+s.size) gA) (w.drew.alloc (.cells (xs.toArray ++ (Lib.strCells s).toArray ++ Builtin.zeroCells te.zero.cells (gA - (n+s.size))) e)))
     (.own r 0 (n+s.size)) ⟨eJ r σ.env,bk (eK r σ.H) r (.sl e 1 (els.take n ++ sb s))⟩:=by
   intro xs gA jk rO eU gv xJ
   have lS:cX w (w.drew.alloc (.cells (xs.toArray ++ (Lib.strCells s).toArray ++ Builtin.zeroCells te.zero.cells (gA - (n+s.size))) e)):=by
    have h1:=cX.alloc w.drew (.cells (xs.toArray ++ (Lib.strCells s).toArray ++ Builtin.zeroCells te.zero.cells (gA - (n+s.size))) e);exact⟨h1.size,h1.os,h1.tape,h1.output,h1.same⟩
   have bp:(xs.toArray ++ (Lib.strCells s).toArray ++ Builtin.zeroCells te.zero.cells (gA - (n+s.size))).size=gA * 1:=by
    simp only[Array.size_append,ans,size_zeroCells,tP,jk,fz];omega
   obtain⟨aR,bd⟩:=hi.move (Mv:=Mv) (w':=w.drew.alloc (.cells (xs.toArray ++ (Lib.strCells s).toArray ++ Builtin.zeroCells te.zero.cells (gA - (n+s.size))) e)) (m':=⟨some w.heap.size,1,gA⟩) hm gp lS.size lS.os lS.tape lS.output
    (fun k hk _=>lS.same k hk) (fun b hb=>by simp at hb;omega) (row:=.sl e 1 (els.take n ++ sb s)) fun ev=>by
     refine .sl rfl rfl (by simpa using heap_alloc_new w.drew (.cells (xs.toArray ++ (Lib.strCells s).toArray ++ Builtin.zeroCells te.zero.cells (gA - (n+s.size))) e)) bp (by simp[fI];omega) gv Eh bD fun i j el c hi hj=>?_;have hrel:=((rO.append (by rw[jk,amw,anW hle,anx]) (fun el bn=>zH el (amr bn)) (QG s)).more (l':=(Builtin.zeroCells te.zero.cells (gA - (n+s.size))).toList)) i j el c hi hj;obtain⟨v,hv,bQ⟩:=hrel;refine⟨v,?_,bQ.ev ev⟩;rw[<- ams];simpa using hv
   exact⟨_,_,_,rfl,aR,.own (m:=⟨some w.heap.size,1,gA⟩) (by simp[eG]) (.inr ⟨w.heap.size,rfl,ak,by simpa using eU⟩),bd⟩
  have xJ:m.sz=1:=by
   cases ok with
   | nil _ h=>exact h
   | sl _ h=>exact h
  rcases hh with⟨iX,rfl,_,rfl⟩ | ⟨b,iX,rfl,k8⟩
  .have hr:=run_append_nil_string (P:=P) w t t' ty e i0 te.zero ht rI ma mW s aa aa (by rw[iF,e9];omega);rw[hr]
   have e1:(s.data.map fun b=>Value.int .u8 b.toNat)=(Lib.strCells s).toArray:=by
    apply Array.ext';simp[Lib.strCells]
   have:=E7 [] (grownCap w s.size 0 e) ak (by intro i j el c hi;simp at hi) (by have:=grownCap_ge w s.size 0 e;omega) (grownCap_le_maxLen w s.size 0 e (by unfold maxLen;omega)) xJ;rw[e1];simpa using this
  .cases ok with
   | nil br _=>rw[br]at iX;cases iX
   | sl br bp p4 cY lf iq hl ka hr=>
    rename_i b' cur;rw[iX]at br;obtain rfl:=AI br
    have LQ:n<=m.cap:=aa
    have ab3:cur.size=m.cap:=aa
    have jk:(cur.toList.take n).length=n:=by rw[amw,amK,ab3,anW LQ]
    have rO:Rel w X μ 1 (cur.toList.take n) (els.take n):=by
     intro i j el c bn hc;rw[amv]at bn;split at bn
     .rename_i aR;obtain⟨v,hv,bQ⟩:=hr i j el c bn hc;have vY:el.length=1:=hl _ (amZ bn)
      have hj:j < 1:=by rw[<- vY];exact (BY.1 hc).1
      refine⟨v,?_,bQ⟩;rw[amv,if_pos aa];simpa using hv
     .cases bn
    rw[xJ,anJ,Nat.sub_zero];by_cases uK:n+s.size<=m.cap
    .have dK:=Lib.run_append_room_string (P:=P) w t t' ty e i0 ht rI ma (by rw[eV,Cb]) b n m.cap cur p4 s uK aa;rw[dK]
     obtain⟨aR,bd⟩:=hi.move (Mv:=Mv) (w':=w.setRow b (cur.toList.take n ++ Lib.strCells s ++ cur.toList.drop (n+s.size)).toArray) (m':=m) hm gp ak rfl rfl rfl
      (fun k hk Eo=>setRow_other w b k _ fun e'=>Eo (by rw[iX,e'])) (fun b hb=>.inr hb) (row:=.sl e 1 (els.take n ++ sb s)) fun ev=>by
       refine .sl iX xJ (setRow_heap w b cur _ e _ p4) ?_ (by simp[fI];omega) iq Eh bD fun i j el c hi hj=>?_
       .simp only[ans,amp,amw,amF,amK,fz];omega
       .obtain⟨v,hv,bQ⟩:=((rO.append (by rw[jk,amw,anW hle,anx]) (fun el bn=>zH el (amr bn)) (QG s)).more (l':=cur.toList.drop (n+s.size))) i j el c hi hj;exact⟨v,by rw[<- ams];simpa using hv,bQ.ev ev⟩
     refine⟨_,_,_,rfl,aR,.own (m:=m) (by simp[eG]) (.inr ⟨b,iX,ak,by simpa using uK⟩),bd⟩
    .have dK:=Lib.run_append_grow_string (P:=P) w t t' ty e i0 te.zero ht rI ma mW ⟨b,0,none⟩ n m.cap (cur.toList.take n) (by rw[jk,eV,Cb,anx]) (fun j v hv=>by
      rw[addr_add,cell_of_row w b _ cur e (0,0) p4];rw[amv]at hv;split at hv
      .simpa using hv
      .cases hv) s aa aa (by rw[iF,e9];exact growslice_fits aa aa)
     rw[dK];exact E7 _ _ jk rO (grownCap_ge _ _ _ _) (grownCap_le_maxLen w _ _ e xv) xJ
end
end Go.Av
namespace Go.Av
def pY (G:aB) (e:Env):List Operand->Option (List AV)
 | []=>some []
 | o :: l=>match bJ G e o,pY G e l with
  | some x,some xs=>some (x :: xs)
  | _,_=>none
def oR (G:aB) (e:Env):List (Nat×Operand)->Option (List (Nat×AV))
 | []=>some []
 | (i,o) :: l=>match bJ G e o,oR G e l with
  | some x,some xs=>some ((i,x) :: xs)
  | _,_=>none
def b9 (x:AV) (b:Bool):AV:=match x with
 | .d y=>.d (.bz [y,.v (.bool b)])
 | x=>.bz [x,.d (.v (.bool b))]
theorem OI {w:World} {X:Nat->Prop} {μ:Mu} {u:Value} {x:AV} {b:Bool} (hx:RV w X μ u x):RV w X μ (.tuple #[u,.bool b]) (b9 x b):=by
 unfold b9;split
 .refine .d (.bz rfl fun j v c hv hc=>?_)
  match j,hv,hc with
  | 0,hv,hc=>simp at hv hc;subst hv hc;exact hx.data
  | 1,hv,hc=>simp at hv hc;subst hv hc;exact .v _
  | j+2,hv,hc=>simp at hv
 .refine .bz rfl fun j v c hv hc=>?_
  match j,hv,hc with
  | 0,hv,hc=>simp at hv hc;subst hv hc;exact hx
  | 1,hv,hc=>simp at hv hc;subst hv hc;exact .d (.v _)
  | j+2,hv,hc=>simp at hv
def dk (T:Ty) (asserted:TypeId) (qx:Bool) (x:AV):lN:=match T asserted with
 | none=>none
 | some ti=>match x with
  | .d (.v .nilIface)=>if qx then some (True,b9 (iW ti.zero) false) else none
  | .d (.cC t y)=>if TypeDesc.isIface ti.desc then none else if t=asserted then some (True,if qx then b9 (.d y) true else .d y) else if qx then some (True,b9 (iW ti.zero) false) else none
  | .cC t y=>if TypeDesc.isIface ti.desc then none else if t=asserted then some (True,if qx then b9 y true else y) else if qx then some (True,b9 (iW ti.zero) false) else none
  | _=>none
theorem Y7 {P:Program} {T:Ty} (hg:Good P T) {w:World} {X:Nat->Prop} {μ:Mu} {asserted xT:TypeId} {qx:Bool} {u:Value} {x z:AV} {c:Prop} (h:dk T asserted qx x=some (c,z)) (hx:RV w X μ u x) :
  ∃ r,(Instr.typeAssert u xT asserted qx).run P w = .ok r w/\RV w X μ r z:=by
 unfold dk at h;split at h
 .cases h
 .rename_i ti ht
  have one:∀ (t:TypeId) (v:Value) (y:AV),RV w X μ v y->(if TypeDesc.isIface ti.desc then none else if t=asserted then some (True,if qx then b9 y true else y) else if qx then some (True,b9 (iW ti.zero) false) else none)=some (c,z)->
    ∃ r,(Instr.typeAssert (.iface t v) xT asserted qx).run P w = .ok r w/\RV w X μ r z:=by
   intro t v y hy h;by_cases lG:TypeDesc.isIface ti.desc=true
   .rw[if_pos lG]at h;cases h
   .rw[if_neg lG]at h;by_cases sH:t=asserted
    .rw[if_pos sH]at h;obtain⟨_,rfl⟩:=eN h;subst sH;refine⟨if qx then .tuple #[v,.bool true] else v,?_,?_⟩
     .cases hd:ti.desc<;>first | (rw[hd]at lG;exact absurd rfl lG) | (simp[Instr.typeAssert,hg.dI ht,hd])
     .cases qx
      .exact hy
      .exact OI hy
    .rw[if_neg sH]at h
     cases qx with
     | false=>cases h
     | true=>
      simp only[if_true,IT,amj]at h;obtain⟨_,rfl⟩:=h;refine⟨.tuple #[ti.zero,.bool false],?_,OI (KE _)⟩
      cases hd:ti.desc<;>first | (rw[hd]at lG;exact absurd rfl lG) | (simp[Instr.typeAssert,hg.dI ht,hd,sH,hg.zero ht])
  split at h
  .split at h
   .rename_i aV;obtain⟨_,rfl⟩:=eN h;have:=hx.scalar;subst this;refine⟨.tuple #[ti.zero,.bool false],?_,OI (KE _)⟩;subst aV;cases hd:ti.desc<;>simp[Instr.typeAssert,hg.dI ht,hd,hg.zero ht]
   .cases h
  .rename_i t y;obtain⟨v,rfl,hv⟩:=hx.data.uP;exact one t v (.d y) (.d hv) h
  .rename_i t y;obtain⟨v,rfl,hv⟩:=hx.uP;exact one t v y hv h
  .cases h
def rd (T:Ty) (G:aB) (σ:St):Op->lN
 | .move x=>(bJ G σ.env x).map fun v=>(True,v)
 | .assign x=>(bJ G σ.env x).map fun v=>(True,v)
 | .binOp op t x y _=>match bJ G σ.env x,bJ G σ.env y with
  | some a,some b=>Ge T op t y a b
  | _,_=>none
 | .unOp op _ x=>(bJ G σ.env x).bind (JH op)
 | .load t x=>(bJ G σ.env x).bind (pH T σ.H t)
 | .fieldAddr t x f=>(bJ G σ.env x).bind (GK T t f)
 | .field t x f=>(bJ G σ.env x).bind (GJ T t f)
 | .indexAddr t x i=>match bJ G σ.env x,bJ G σ.env i with
  | some a,some b=>sN T σ.H t a b
  | _,_=>none
 | .index t x i=>match bJ G σ.env x,bJ G σ.env i with
  | some a,some b=>Ie T t a b
  | _,_=>none
 | .extract x i=>(bJ G σ.env x).bind (GG i)
 | .makeInterface t x=>(bJ G σ.env x).bind (ID T t)
 | .makeFunc f first caps=>if first.isEmpty then (pY G σ.env caps.toList).map fun cs=>(True,E4 f cs) else match f,first.toList,caps.toList with
  | .func g,[x],[]=>(bJ G σ.env x).map fun v=>(True,.bm g v)
  | _,_,_=>none
 | .pick c x y=>match bJ G σ.env c,bJ G σ.env x,bJ G σ.env y with
  | some (.d (.v (.bool b))),some a1,some a2=>some (True,if b then a1 else a2)
  | _,_,_=>none
 | .nilCheck x=>(bJ G σ.env x).bind IM
 | .build t parts=>(oR G σ.env parts.toList).bind (Gh T t)
 | .convert src dst x=>if (T src).isSome then (bJ G σ.env x).bind (Gq T dst) else none
 | .slice t x lo hi mx=>if mx.isNone then match bJ G σ.env x,bound G σ.env lo,bound G σ.env hi with
   | some v,some l,some h=>tV T σ.H t v l h
   | _,_,_=>none
  else none
 | .typeAssert x _ t b=>(bJ G σ.env x).bind (dk T t b)
 | .lookup t x i b=>match bJ G σ.env x,bJ G σ.env i with
  | some a,some k=>ql T σ.H t b a k
  | _,_=>none
 | .call { callee:=.builtin .len,args,argTypes }=>match args.toList,argTypes.toList with
  | [x],[t]=>(bJ G σ.env x).bind (IB T t)
  | _,_=>none
 | .call { callee:=.builtin .max,args,.. }=>match args.toList with
  | [x,y]=>match bJ G σ.env x,bJ G σ.env y with
   | some (.d (.v (.int k a))),some (.d (.v (.int k' b)))=>some (True,.d (.v (.int k (if b > a then b else a))))
   | _,_=>none
  | _=>none
 | .call { callee:=.builtin .min,args,.. }=>match args.toList with
  | [x,y]=>match bJ G σ.env x,bJ G σ.env y with
   | some (.d (.v (.int k a))),some (.d (.v (.int k' b)))=>some (True,.d (.v (.int k (if b < a then b else a))))
   | _,_=>none
  | _=>none
 | _=>none
def Pr (T:Ty) (G:aB) (Mv:Nat->Prop) (σ:St) (t t':TypeId) (x y:Operand):Option (Prop×AV×St):=match T t,T t' with
 | some tt,some ts=>match tt.desc,ts.desc with
  | .slice e,.string=>match T e,bJ G σ.env x,bJ G σ.env y with
   | some te,some (.own r off n),some (.d (.v (.string s)))=>match σ.H r with
    | some (.sl ty sz els)=>some (off=0/\Mv r/\ty=e/\sz=1/\n<=els.length/\te.size=1/\te.bytes=1/\te.zero = .int .u8 0/\n+s.size<=140737488355328,
      .own r 0 (n+s.size),⟨eJ r σ.env,bk (eK r σ.H) r (.sl e 1 (els.take n ++ sb s))⟩)
    | _=>none
   | _,_,_=>none
  | _,_=>none
 | _,_=>none
def wr (T:Ty) (G:aB) (Mv:Nat->Prop) (σ:St) (o:Oper):Option (Prop×AV×St):=match o.op,o.dst with
 | .alloc t,some d=>match T t with
  | some ti=>some (σ.H d=none,.ref d 0 0,⟨σ.env,bk σ.H d (.box t ((gL ti.zero).map .d))⟩)
  | none=>none
 | .box t x,some d=>match (bJ G σ.env x).bind jY with
  | some cs=>some (σ.H d=none,.ref d 0 0,⟨σ.env,bk σ.H d (.box t cs)⟩)
  | none=>none
 | .store t x y,none=>match bJ G σ.env x,bJ G σ.env y with
  | some (.ref r e j),some v=>match σ.H r with
   | some (.box ty cells)=>if e=0 then match Jz T t cells j v with
     | some (c,xb)=>some (c,.dead,⟨σ.env,bk σ.H r (.box ty xb)⟩)
     | none=>none
    else none
   | some (.sl ty sz els)=>match JA T t sz els e j v with
    | some (c,pX)=>some (c,.dead,⟨σ.env,bk σ.H r (.sl ty sz pX)⟩)
    | none=>none
   | some (.mp _ _)=>none
   | some (.it _ _)=>none
   | none=>none
  | _,_=>none
 | .makeSlice t l c,some d=>match T t with
  | some tt=>match tt.desc with
   | .slice e=>match T e,bJ G σ.env l,bJ G σ.env c with
    | some te,some (.d (.v (.int _ n))),some (.d (.v (.int _ m)))=>some (σ.H d=none/\0<=n/\n<=m/\te.bytes * m<=281474976710656/\m<=9223372036854775807/\0 < te.size/\(gL te.zero).length=te.size,.own d 0 n.toNat,⟨σ.env,bk σ.H d (.sl e te.size (mX te n.toNat))⟩)
    | _,_,_=>none
   | _=>none
  | none=>none
 | .buildSlice t len parts,some d=>match T t with
  | some tt=>match tt.desc with
   | .slice e=>match T e,oR G σ.env parts.toList with
    | some te,some ps=>match xa te.size 0 ps with
     | some els=>some (σ.H d=none/\ps.length=len/\0 < te.size/\len * te.size<=16777216,.own d 0 len,⟨σ.env,bk σ.H d (.sl e te.size els)⟩)
     | none=>none
    | _,_=>none
   | _=>none
  | none=>none
 | .call { callee:=.builtin .append,args,argTypes },some d=>match args.toList,argTypes.toList with
  | [x,y],[t,t']=>if t=t' then match T t with
   | some tt=>match tt.desc with
    | .slice e=>match T e,bJ G σ.env x,bJ G σ.env y with
     | some te,some (.own r off n),some v=>match σ.H r,nI σ.H r v with
      | some (.sl ty sz els),some news=>some (off=0/\Mv r/\ty=e/\sz=te.size/\n<=els.length/\(∀ el∈news,el.length=te.size)/\(∀ el∈news,∀ c∈el,D.one c=true)/\0 < te.size/\(gL te.zero).length=te.size/\n+news.length<=9223372036854775807/\(n+news.length) * te.bytes<=140737488355328,
        .own r 0 (n+news.length),⟨eJ r σ.env,bk (eK r σ.H) r (.sl e te.size (els.take n ++ news))⟩)
      | _,_=>none
     | some te,some (.d (.sl (some false) [])),some v=>match nI σ.H d v with
      | some news=>some (σ.H d=none/\Mv d/\(∀ el∈news,el.length=te.size)/\(∀ el∈news,∀ c∈el,D.one c=true)/\0 < te.size/\(gL te.zero).length=te.size/\news.length<=9223372036854775807/\news.length * te.bytes<=140737488355328,
        .own d 0 news.length,⟨σ.env,bk σ.H d (.sl e te.size news)⟩)
      | none=>none
     | _,_,_=>none
    | _=>none
   | none=>none
  else Pr T G Mv σ t t' x y
  | _,_=>none
 | .call { callee:=.builtin .copy,args,argTypes },some _=>match args.toList,argTypes.toList with
  | [x,y],[t,_]=>match T t with
   | some tt=>match tt.desc with
    | .slice e=>match T e,bJ G σ.env x,bJ G σ.env y with
     | some te,some (.own r off n),some v=>match σ.H r,FH σ.H v with
      | some (.sl ty sz els),some news=>some (ty=e/\sz=1/\te.size=1/\off+n<=els.length/\0 < els.length/\(∀ el∈news,el.length=1)/\(∀ el∈news,∀ c∈el,D.one c=true),
        .d (.v (.int .i64 ((news.take n).length:Nat))),⟨σ.env,bk σ.H r (.sl e 1 (oN els news off n))⟩)
      | _,_=>none
     | some te,some (.d (.sl _ [])),some v=>match FH σ.H v with
      | some news=>some ((∀ el∈news,el.length=te.size)/\0 < te.size/\(∀ el∈news,∀ c∈el,D.one c=true),.d (.v (.int .i64 0)),σ)
      | none=>none
     | _,_,_=>none
    | _=>none
   | none=>none
  | _,_=>none
 | .makeMap t none,some d=>some (σ.H d=none,.mp d,⟨σ.env,bk σ.H d (.mp t [])⟩)
 | .mapUpdate t m k v,none=>match bJ G σ.env m,bJ G σ.env k,bJ G σ.env v with
  | some (.mp r),some (.d (.v key)),some (.d x)=>match σ.H r with
   | some (.mp ty ents)=>match Fx T t ents key x with
    | some (c,oQ)=>some (c,.dead,⟨σ.env,bk σ.H r (.mp ty oQ)⟩)
    | none=>none
   | _=>none
  | _,_,_=>none
 | .insert t m k v,none=>match bJ G σ.env m,bJ G σ.env k,bJ G σ.env v with
  | some (.mp r),some (.d (.v key)),some (.d x)=>match σ.H r with
   | some (.mp ty ents)=>match Fx T t ents key x with
    | some (c,oQ)=>some (c,.dead,⟨σ.env,bk σ.H r (.mp ty oQ)⟩)
    | none=>none
   | _=>none
  | _,_,_=>none
 | _,_=>none
def aN (e:Env) (dst:Option Tmp) (x:AV):Env:=match dst with
 | some d=>iz e d x
 | none=>e
section
variable {P:Program} {T:Ty} {Mv X:Nat->Prop} {G:aB} {N:Fr} {w:World} {μ:Mu} {a:Act} {σ:St}
theorem In.put (hi:In w X G μ N a σ) {u:Value} {x:AV} (hx:RV w X μ u x) {dst:Option Tmp} (hd:∀ d,dst=some d->d < N.n):In w X G μ N (a.put dst u) ⟨aN σ.env dst x,σ.H⟩:=by
 cases dst with
 | none=>exact hi
 | some d=>
  have aG:d < a.tmps.size:=by rw[hi.env.size];exact hd d rfl
  refine⟨hi.bx,⟨hi.env.defers,by simp[Act.put,hi.env.size],fun i y hy=>?_⟩,hi.jA⟩;simp only[aN,iz]at hy;split at hy
  .rename_i e;subst e;obtain rfl:=AI hy;exact⟨u,by simp[Act.put,aG],hx⟩
  .rename_i e;obtain⟨v,hv,hr⟩:=hi.env.slot i y hy;exact⟨v,by simp only[Act.put];rw[anw (ann e)];exact hv,hr⟩
theorem In.pY (hi:In w X G μ N a σ):∀ {l:List Operand} {xs:List AV},pY G σ.env l=some xs->(l.map a.eval).length=xs.length/\∀ (i:Nat) (u:Value) (x:AV),(l.map a.eval)[i]? = some u->xs[i]? = some x->RV w X μ u x:=by
 intro l
 induction l with
 | nil=>intro xs h;simp only[Go.Av.pY,IT]at h;subst h;exact⟨rfl,ak⟩
 | cons o l ih=>
  intro xs h;simp only[Go.Av.pY]at h;split at h
  .rename_i x X7 h1 h2;obtain rfl:=AI h;obtain⟨hl,hr⟩:=ih h2;refine⟨by simpa using hl,fun i u y hu hy=>?_⟩
   cases i with
   | zero=>simp at hu hy;subst hu hy;exact hi.eval h1
   | succ i=>simp at hu hy;exact hr i u y (by simpa using hu) hy
  .cases h
theorem In.oR (hi:In w X G μ N a σ):∀ {l:List (Nat×Operand)} {xs:List (Nat×AV)},oR G σ.env l=some xs->(l.map fun p=>(p.1,a.eval p.2)).map (·.1)=xs.map (·.1)/\
  ∀ (i:Nat) (p:Nat×AV) (v:Nat×Value),xs[i]? = some p->(l.map fun p=>(p.1,a.eval p.2))[i]? = some v->RV w X μ v.2 p.2:=by
 intro l
 induction l with
 | nil=>intro xs h;simp only[Go.Av.oR,IT]at h;subst h;exact⟨rfl,ak⟩
 | cons o l ih=>
  intro xs h;obtain⟨k,o⟩:=o;simp only[Go.Av.oR]at h;split at h
  .rename_i x X7 h1 h2;obtain rfl:=AI h;obtain⟨hl,hr⟩:=ih h2;refine⟨by simpa using hl,fun i p v hp hv=>?_⟩
   cases i with
   | zero=>simp at hp hv;subst hp hv;exact hi.eval h1
   | succ i=>simp at hp hv;exact hr i p v hp (by simpa using hv)
  .cases h
theorem In.bound (hi:In w X G μ N a σ) {o:Option Operand} {l:Option Int} (h:bound G σ.env o=some l):(o.map a.eval=none/\l=none)\/∃ k n,o.map a.eval=some (.int k n)/\l=some n:=by
 unfold Go.Av.bound at h;split at h
 .obtain rfl:=AI h;exact .inl ⟨rfl,rfl⟩
 .split at h
  .rename_i k n he;obtain rfl:=AI h;exact .inr ⟨k,n,by simp[(hi.eval he).scalar],rfl⟩
  .cases h
theorem Je (hg:Good P T) (hi:In w X G μ N a σ) {o:Oper} {c:Prop} {x:AV} (h:rd T G σ o.op=some (c,x)) (hc:c):∃ v,(execOp a.eval o).run P w = .ok (.value v) w/\RV w X μ v x:=by
 have lift:∀ {s:Sem Value} ,(∃ v,s.run P w = .ok v w/\RV w X μ v x)->∃ v,(do pure (.value (<- s)):Sem Next).run P w = .ok (.value v) w/\RV w X μ v x:=by
  rintro s ⟨v,hv,hr⟩;exact⟨v,by simp[hv],hr⟩
 obtain⟨dst,op,type,pos,after,guard⟩:=o;dsimp only at h;unfold rd at h;split at h
 .obtain⟨y,hy,he⟩:=AS.1 h;simp only[amj]at he;obtain⟨rfl,rfl⟩:=he;exact⟨_,rfl,hi.eval hy⟩
 .obtain⟨y,hy,he⟩:=AS.1 h;simp only[amj]at he;obtain⟨rfl,rfl⟩:=he;exact⟨_,rfl,hi.eval hy⟩
 .split at h
  .rename_i h1 h2;exact lift (Zo hg hi h1 h2 h hc)
  .cases h
 .obtain⟨y,hy,he⟩:=amy.1 h;exact lift (aj6 he hc (hi.eval hy))
 .obtain⟨y,hy,he⟩:=amy.1 h;exact lift (UO hg hi.bx he hc (hi.eval hy))
 .obtain⟨y,hy,he⟩:=amy.1 h;exact lift (aaV hg he hc (hi.eval hy))
 .obtain⟨y,hy,he⟩:=amy.1 h;exact lift (aaU hg he hc (hi.eval hy))
 .split at h
  .rename_i h1 h2;exact lift (adt hg hi.bx h hc (hi.eval h1) (hi.eval h2))
  .cases h
 .split at h
  .rename_i h1 h2;exact lift (adx hg h hc (hi.eval h1) (hi.eval h2))
  .cases h
 .obtain⟨y,hy,he⟩:=amy.1 h;exact lift (aaS he (hi.eval hy))
 .obtain⟨y,hy,he⟩:=amy.1 h;exact lift (aeR hg he (hi.eval hy))
 .split at h
  .rename_i f first caps hf;obtain⟨y,hy,he⟩:=AS.1 h;simp only[amj]at he;obtain⟨rfl,rfl⟩:=he;obtain⟨hl,hr⟩:=hi.pY hy
   have Mb:first = #[]:=by simpa using hf
   subst Mb;refine⟨.func f #[] (caps.map a.eval),by simp[execOp,Instr.makeFunc],Ob (by simpa using hl) fun j u c hu hc=>hr j u c (by simpa using hu) hc⟩
  .split at h
   .rename_i x Md eU;obtain⟨y,hy,he⟩:=AS.1 h;simp only[amj]at he;obtain⟨rfl,rfl⟩:=he;obtain rfl:=amX.1 (show _=(#[x]:Array Operand).toList from Md);obtain rfl:=amX.1 (show _=(#[]:Array Operand).toList from eU);exact⟨_,by simp[execOp,Instr.makeFunc],.bm (hi.eval hy)⟩
   .cases h
 .split at h
  .rename_i b a1 a2 h0 h1 h2;obtain⟨rfl,rfl⟩:=eN h;have hb:=(hi.eval h0).scalar;refine⟨if b then a.eval _ else a.eval _,by simp[execOp,hb,asBool];cases b<;>rfl,?_⟩;cases b
   .exact hi.eval h2
   .exact hi.eval h1
  .cases h
 .obtain⟨y,hy,he⟩:=amy.1 h;obtain⟨⟨ad,SI⟩,hr⟩:=afe he (hi.eval hy);exact⟨.pointer (some ad),by simp[execOp,SI],by rw[<- SI];exact hr⟩
 .rename_i t parts;obtain⟨ps,fN,he⟩:=amy.1 h;obtain⟨h1,h2⟩:=hi.oR fN;refine lift (Zz (vs:=parts.map fun p=>(p.1,a.eval p.2)) hg he (by simpa using h1) fun i p v hp hv=>h2 i p v hp ?_);rw[<- ams]at hv;simpa using hv
 .split at h
  .rename_i hs;obtain⟨y,hy,he⟩:=amy.1 h;exact lift (Z7 hg hs he hc (hi.eval hy))
  .cases h
 .split at h
  .rename_i mx iq;split at h
   .rename_i v l hh h1 h2 h3
    cases mx with
    | some _=>simp at iq
    | none=>exact lift (ai6 hg hi.bx h hc (hi.eval h1) (hi.bound h2) (hi.bound h3))
   .cases h
  .cases h
 .obtain⟨y,hy,he⟩:=amy.1 h;exact lift (Y7 hg he (hi.eval hy))
 .split at h
  .rename_i h1 h2;exact lift (aeI hg hi.bx h hc (hi.eval h1) (hi.eval h2))
  .cases h
 .split at h
  .rename_i args argTypes _ _ x0 t ha ht;obtain⟨y,hy,he⟩:=amy.1 h;obtain⟨r,hr,iu⟩:=aet (ty:=type) hg he (hi.eval hy);have e1:args = #[x0]:=amX.1 ha;have e2:argTypes = #[t]:=amX.1 ht;subst e1 e2;exact⟨r,by simp[execOp,resolve,invoke,builtin,hr],iu⟩
  .cases h
 .split at h
  .rename_i args _ _ x0 y0 ha;split at h
   .rename_i k a0 k' b0 h1 h2;obtain⟨rfl,rfl⟩:=eN h;have e1:=(hi.eval h1).scalar;have e2:=(hi.eval h2).scalar;have e0:args = #[x0,y0]:=amX.1 ha;subst e0;exact⟨_,by simp[execOp,resolve,invoke,builtin,Builtin.max_,Builtin.max2,e1,e2],.d (.v _)⟩
   .cases h
  .cases h
 .split at h
  .rename_i args _ _ x0 y0 ha;split at h
   .rename_i k a0 k' b0 h1 h2;obtain⟨rfl,rfl⟩:=eN h;have e1:=(hi.eval h1).scalar;have e2:=(hi.eval h2).scalar;have e0:args = #[x0,y0]:=amX.1 ha;subst e0;exact⟨_,by simp[execOp,resolve,invoke,builtin,Builtin.min_,Builtin.min2,e1,e2],.d (.v _)⟩
   .cases h
  .cases h
 .cases h
theorem RV.IQ {u:Value} {x:AV} {r:Nat} (h:RV w X μ u x) (hr:μ r=none):x.kill r=x:=by
 have bg:∀ (l:List AV),(∀ c∈l,c.kill r=c)->l.map (AV.kill r)=l:=by
  intro l hl
  induction l with
  | nil=>rfl
  | cons c l ih=>simp only[amE];rw[hl c ak,ih fun c hc=>hl c (by simp[hc])]
 have arr:∀ (arr:Array Value) (cells:List AV),arr.size=cells.length->(∀ (j:Nat) (u:Value) (c:AV),arr[j]? = some u->cells[j]? = some c->c.kill r=c)->cells.map (AV.kill r)=cells:=by
  intro arr cells hn hh;refine bg cells fun c hc=>?_;obtain⟨j,hj,rfl⟩:=amz.1 hc;exact hh j arr[j] _ (by simp[hn,hj]) (by simp[hj])
 induction h with
 | d h=>rfl
 | own hm _=>
  rename_i u q off n m;unfold AV.kill;rw[if_neg];intro e;subst e;rw[hr]at hm;cases hm
 | ref hm _=>
  rename_i q e j b m;unfold AV.kill;rw[if_neg];intro e;subst e;rw[hr]at hm;cases hm
 | agg hn _ ih=>rw[AV.kill,AV.go_eq,arr _ _ hn ih]
 | bz hn _ ih=>rw[AV.kill,AV.go_eq,arr _ _ hn ih]
 | cC _ ih=>rw[AV.kill,ih]
 | bm _ ih=>rw[AV.kill,ih]
 | fn hn _ ih=>rw[AV.kill,AV.go_eq,arr _ _ hn ih]
 | mp hm _=>
  rename_i q b m;unfold AV.kill;rw[if_neg];intro e;subst e;rw[hr]at hm;cases hm
 | dead u=>rfl
theorem In.IQ (hi:In w X G μ N a σ) {r:Nat} (hr:σ.H r=none):eJ r σ.env=σ.env/\eK r σ.H=σ.H:=by
 have hn:=hi.bx.uZ hr;constructor
 .funext i;unfold eJ
  cases he:σ.env i with
  | none=>rfl
  | some x=>
   obtain⟨u,_,hx⟩:=hi.env.slot i x he;simp[hx.IQ hn]
 .funext q;unfold eK
  cases hq:σ.H q with
  | none=>rfl
  | some row=>
   obtain⟨m,hm,ok⟩:=hi.bx.rows q row hq
   cases ok with
   | nil=>rfl
   | sl=>rfl
   | mp=>rfl
   | it=>rfl
   | box hb bp hc hh lf mR Ca=>
    rename_i ty b cells cur
    have:cells.map (AV.kill r)=cells:=by
     have:=(RV.agg (w:=w) (X:=X) (μ:=μ) (arr:=(cur.toList.take cells.length).toArray) (cells:=cells) (by simp;omega) fun j u c hu hc=>mR j u c (by
      have iR:(cur.toList.take cells.length)[j]? = some u:=by simpa using hu
      rw[amv]at iR;split at iR
      .simpa using iR
      .cases iR) hc).IQ hn
     rw[AV.kill,AV.go_eq]at this;exact AV.agg.inj this
    simp[Row.kill,this]
theorem akI (hg:Good P T) (hi:In w X G μ N a σ) {o:Oper} {c:Prop} {x:AV} {ba:St} (h:wr T G Mv σ o=some (c,x,ba)) (hc:c) (hd:∀ d,o.dst=some d->d < N.n) :
  ∃ n v w' aI,(execOp a.eval o).run P w = .ok n w'/\(n = .value v\/(n = .skip/\v=undef))/\In w' X G aI N a ba/\RV w' X aI v x/\Ev Mv w μ w' aI:=by
 have lift:∀ {s:Sem Value} {x:AV} {ba:St},pc Mv X G N w μ a (s.run P w) x ba->∃ n v w' aI,(do pure (.value (<- s)):Sem Next).run P w = .ok n w'/\(n = .value v\/(n = .skip/\v=undef))/\In w' X G aI N a ba/\RV w' X aI v x/\Ev Mv w μ w' aI:=by
  rintro s x ba ⟨v,w',aI,hr,rest⟩;exact⟨.value v,v,w',aI,by simp[hr],.inl rfl,rest⟩
 obtain⟨dst,op,type,pos,after,guard⟩:=o;dsimp only at h hd;unfold wr at h;dsimp only at h;split at h
 .split at h
  .rename_i ti ht;obtain⟨rfl,rfl,rfl⟩:=nL h;exact lift (YG hg hi hc ht)
  .cases h
 .split at h
  .rename_i cs cY;obtain⟨y,hy,he⟩:=amy.1 cY;obtain⟨rfl,rfl,rfl⟩:=nL h;exact lift (Zw hi hc (hi.eval hy) he)
  .cases h
 .split at h
  .rename_i r e j v h1 h2;split at h
   .rename_i ty cells hH;split at h
    .rename_i he;subst he;split at h
     .rename_i c' xb hs;obtain⟨rfl,rfl,rfl⟩:=nL h;obtain⟨w',hr,aR,bd⟩:=aji (Mv:=Mv) hg hi hH hs hc (hi.eval h1) (hi.eval h2);exact⟨.skip,undef,w',μ,by simp[execOp,hr],.inr ⟨rfl,rfl⟩,aR,.dead _,bd⟩
     .cases h
    .cases h
   .rename_i ty sz els hH;split at h
    .rename_i c' pX hs;obtain⟨rfl,rfl,rfl⟩:=nL h;obtain⟨w',hr,aR,bd⟩:=ajj (Mv:=Mv) hg hi hH hs hc (hi.eval h1) (hi.eval h2);exact⟨.skip,undef,w',μ,by simp[execOp,hr],.inr ⟨rfl,rfl⟩,aR,.dead _,bd⟩
    .cases h
   .cases h
   .cases h
   .cases h
  .cases h
 .split at h
  .rename_i tt dP;split at h
   .rename_i e ea;split at h
    .rename_i te kn n km m c8 h1 h2;obtain⟨rfl,rfl,rfl⟩:=nL h;obtain⟨g1,g2,g3,g4,g5,g6,g7⟩:=hc;have:=aeQ (Mv:=Mv) hg hi g1 dP ea c8 (k1:=kn) (k2:=km) g2 g3 g4 g5 g6 g7;rw[<- (hi.eval h1).scalar,<- (hi.eval h2).scalar]at this;exact lift this
    .cases h
   .cases h
  .cases h
 .split at h
  .rename_i tt dP;split at h
   .rename_i e ea;split at h
    .rename_i te ps c8 fN;split at h
     .rename_i els zw;obtain⟨rfl,rfl,rfl⟩:=nL h;obtain⟨g1,g2,g3,g4⟩:=hc;obtain⟨hv,hr⟩:=hi.oR fN;exact lift (ZA (Mv:=Mv) hg hi g1 dP ea c8 zw g2 (by simpa using hv) (fun i p v h1 h2=>hr i p v h1 (by simpa using h2)) g3 g4)
     .cases h
    .cases h
   .cases h
  .cases h
 .split at h
  .rename_i args argTypes d _ _ x0 y0 t t' ha ht;have e1:args = #[x0,y0]:=amX.1 ha;have e2:argTypes = #[t,t']:=amX.1 ht;subst e1 e2;split at h
   .rename_i adf;subst adf
    have run_eq:∀ {x:AV} {ba:St},pc Mv X G N w μ a ((Builtin.append_ #[t,t] type #[a.eval x0,a.eval y0]).run P w) x ba->∃ n v w' aI,(execOp a.eval { dst:=some d,op:=.call { callee:=.builtin .append,args:=⟨[x0,y0]⟩,argTypes:=⟨[t,t]⟩ },type:=type,pos:=pos,after:=after,guard:=guard }).run P w = .ok n w'/\(n = .value v\/(n = .skip/\v=undef))/\In w' X G aI N a ba/\RV w' X aI v x/\Ev Mv w μ w' aI:=by
     rintro x ba ⟨v,w',aI,hr,rest⟩;exact⟨.value v,v,w',aI,by simp[execOp,resolve,invoke,builtin,hr],.inl rfl,rest⟩
    split at h
    .rename_i tt dP;split at h
     .rename_i e ea;split at h
      .rename_i te r off n v c8 h1 h2;split at h
       .rename_i ty sz els news hH hn;obtain⟨rfl,rfl,rfl⟩:=nL h;obtain⟨rfl,g1,rfl,rfl,g2,g3,g4,g5,g6,g7,g8⟩:=hc;exact run_eq (Kd (Mv:=Mv) hg hi g1 dP ea c8 hH g2 (hi.eval h1) (Fc hi.bx (hi.eval h2) hn g3 g5 g4) g5 g6 (by unfold maxLen;omega) g8)
       .cases h
      .rename_i te v c8 h1 h2;split at h
       .rename_i news hn;obtain⟨rfl,rfl,rfl⟩:=nL h;obtain⟨g0,g1,g3,g4,g5,g6,g7,g8⟩:=hc;obtain⟨aR,bd⟩:=hi.alloc (Mv:=Mv) g0 (cX.refl w) (m:=⟨none,te.size,0⟩) ak (row:=.sl e te.size []) fun _=>.nil rfl rfl
        have hu:RV w X (eG μ d ⟨none,te.size,0⟩) (a.eval x0) (.own d 0 0):=by
         have:=(hi.eval h1).data.sW
         rcases this with⟨hh,_⟩ | ⟨ad,cap,hh,hk,_⟩
         .rw[hh];exact .own (m:=⟨none,te.size,0⟩) (by simp[eG]) (.inl ⟨rfl,rfl,rfl,rfl⟩)
         .exact absurd rfl hk
        have lf:nI (bk σ.H d (.sl e te.size [])) d v=some news:=by
         unfold nI at hn ⊢
         split at hn<;>first | exact hn | skip
         rename_i q off n;split at hn
         .cases hn
         .rename_i hq;rw[if_neg hq];simpa[bk,hq]using hn
        have B7:RV w X (eG μ d ⟨none,te.size,0⟩) (a.eval y0) v:=by
         refine (hi.eval h2).same bd fun q m hq=>?_;unfold eG;split
         .rename_i e';subst e';rw[hi.bx.uZ g0]at hq;cases hq
         .exact hq
        have DX:=Kd (Mv:=Mv) (ty:=type) hg aR g1 dP ea c8 (r:=d) (n:=0) (els:=[]) (news:=news) (by simp[bk]) ak hu (Fc aR.bx B7 lf g3 g5 g4) g5 g6 (by unfold maxLen;omega) (by simpa using g8);obtain⟨v',w',aI,hr,BT,iu,nu⟩:=DX;refine run_eq ⟨v',w',aI,hr,?_,by simpa using iu,bd.trans nu⟩;obtain⟨k1,k2⟩:=hi.IQ g0
        have e1:eK d (bk σ.H d (.sl e te.size []))=bk σ.H d (.sl e te.size []):=by
         funext q;by_cases hq:q=d
         .simp[eK,bk,hq,Row.kill]
         .have:=congrFun k2 q;simpa[eK,bk,hq]using this
        have e2:bk (bk σ.H d (.sl e te.size [])) d (.sl e te.size ([].take 0 ++ news))=bk σ.H d (.sl e te.size news):=by
         funext q;by_cases hq:q=d<;>simp[bk,hq]
        dsimp only at BT;rw[k1,e1,e2]at BT;exact BT
       .cases h
      .cases h
     .cases h
    .cases h
   .unfold Pr at h;split at h
    .rename_i tt ts dP uM;split at h
     .rename_i e ea n5;split at h
      .rename_i te r off n s c8 h1 h2;split at h
       .rename_i ty sz els hH;obtain⟨rfl,rfl,rfl⟩:=nL h;obtain⟨rfl,g1,rfl,rfl,g2,g3,g4,g5,g6⟩:=hc;have hv:a.eval y0 = .string s:=(hi.eval h2).scalar;obtain⟨v,w',aI,hr,rest⟩:=YY (Mv:=Mv) (ty:=type) hg hi g1 dP ea uM n5 c8 hH g2 (hi.eval h1) g3 g4 g5 g6;exact⟨.value v,v,w',aI,by simp[execOp,resolve,invoke,builtin,hv,hr],.inl rfl,rest⟩
       .cases h
      .cases h
     .cases h
    .cases h
  .cases h
 .split at h
  .rename_i args argTypes d _ _ x0 y0 t t' ha ht;have e1:args = #[x0,y0]:=amX.1 ha;have e2:argTypes = #[t,t']:=amX.1 ht;subst e1 e2;split at h
   .rename_i tt dP;split at h
    .rename_i e ea;split at h
     .rename_i te r off n v c8 h1 h2;split at h
      .rename_i ty sz els news hH hn;obtain⟨rfl,rfl,rfl⟩:=nL h;obtain⟨rfl,rfl,g1,g2,g3,g4,g5⟩:=hc;obtain⟨v,w',aI,hr,rest⟩:=Z8 (Mv:=Mv) (ty:=type) (t':=t') hg hi dP ea c8 g1 hH g2 g3 (hi.eval h1) (Xi hi.bx (hi.eval h2) hn g4 aa g5);exact⟨.value v,v,w',aI,by simp[execOp,resolve,invoke,builtin,hr],.inl rfl,rest⟩
      .cases h
     .rename_i te kq v c8 h1 h2;split at h
      .rename_i news hn;obtain⟨rfl,rfl,rfl⟩:=nL h;obtain⟨g4,g5,g6⟩:=hc;obtain⟨v,w',aI,hr,rest⟩:=Z9 (Mv:=Mv) (ty:=type) (t':=t') hg hi dP ea c8 (hi.eval h1) (Xi hi.bx (hi.eval h2) hn g4 g5 g6);exact⟨.value v,v,w',aI,by simp[execOp,resolve,invoke,builtin,hr],.inl rfl,rest⟩
      .cases h
     .cases h
    .cases h
   .cases h
  .cases h
 .obtain⟨rfl,rfl,rfl⟩:=nL h;exact lift (aeS hi hc _)
 .split at h
  .rename_i r key x h1 h2 h3;split at h
   .rename_i ty ents hH;split at h
    .rename_i c' oQ hp;obtain⟨rfl,rfl,rfl⟩:=nL h;obtain⟨w',hr,aR,bd⟩:=UU (Mv:=Mv) hg hi hH hp hc (hi.eval h1) (hi.eval h2) (hi.eval h3);exact⟨.skip,undef,w',μ,by simp[execOp,hr],.inr ⟨rfl,rfl⟩,aR,.dead _,bd⟩
    .cases h
   .cases h
  .cases h
 .split at h
  .rename_i r key x h1 h2 h3;split at h
   .rename_i ty ents hH;split at h
    .rename_i c' oQ hp;obtain⟨rfl,rfl,rfl⟩:=nL h;obtain⟨w',hr,aR,bd⟩:=UU (Mv:=Mv) hg hi hH hp hc (hi.eval h1) (hi.eval h2) (hi.eval h3);exact⟨.skip,undef,w',μ,by simp[execOp,hr],.inr ⟨rfl,rfl⟩,aR,.dead _,bd⟩
    .cases h
   .cases h
  .cases h
 .cases h
end
end Go.Av
namespace Go.Av
def iV (P:Program) (g:FuncId):Prop:=∀ (args:Array Value) (w:World),(callFunc g args).run P w = .ok (.enter g args) w
theorem iV.of {P:Program} {g:FuncId} {fn:Func} {c:Code} (h:P.funcs[g]? = some fn) (hb:fn.body=some c) (hn:(fn.name == "runtime.NumGoroutine")=false):iV P g:=by
 intro args w;simp only[callFunc,Sem.run_bind,run_program,Result.andThen_ok,h,hn,amn,if_false];simp[hb]
def dI:AV:=.d (.v undef)
def GX (ops:Array Oper) (e:Env) (j:Nat):Option (Option Bool):=match (ops[j]?).bind (·.dst) with
 | some d=>match e d with
  | some (.d (.v (.bool b)))=>some (some b)
  | some (.d (.v (.tuple _)))=>some none
  | _=>none
 | none=>none
def jx (ops:Array Oper) (e:Env) (o:Oper):Option Bool:=match o.guard with
 | none=>some true
 | some (j,want)=>(GX ops e j).map (· == some want)
def kV (G:aB) (e:Env) (c:Call):Option (FuncId×List AV):=match c.callee with
 | .value f=>match bJ G e f,pY G e c.args.toList with
  | some (.d (.fn (.func g) caps)),some xs=>some (g,xs ++ caps.map .d)
  | some (.fn (.func g) caps),some xs=>some (g,xs ++ caps)
  | some (.bm g x),some xs=>some (g,x :: xs)
  | _,_=>none
 | _=>none
def np (P:Program) (Mv X:Nat->Prop) (G:aB) (N:Fr) (g:FuncId) (xs:List AV) (σ:St) (K:AV->St->Prop):Prop:=
 iV P g/\∀ w μ a (vs:Array Value),In w X G μ N a σ->vs.size=xs.length->(∀ (i:Nat) (u:Value) (x:AV),vs[i]? = some u->xs[i]? = some x->RV w X μ u x)->
  Calls P g vs w fun e w'=>∃ v x aH aI,e = .returned v/\K x aH/\In w' X G aI N a aH/\RV w' X aI v x/\Ev Mv w μ w' aI
theorem np.mono {P:Program} {Mv X:Nat->Prop} {G:aB} {N:Fr} {g:FuncId} {xs:List AV} {σ:St} {K K':AV->St->Prop} (h:np P Mv X G N g xs σ K) (hk:∀ x aH,K x aH->K' x aH):np P Mv X G N g xs σ K':=
 ⟨h.1,fun w μ a vs hi hn hv=>(h.2 w μ a vs hi hn hv).mono fun _ _ ⟨v,x,aH,aI,he,k,rest⟩=>⟨v,x,aH,aI,he,hk _ _ k,rest⟩⟩
def ic:Op->Bool
 | .alloc _=>true
 | .box _ _=>true
 | .store _ _ _=>true
 | .makeSlice _ _ _=>true
 | .buildSlice _ _ _=>true
 | .makeMap _ _=>true
 | .mapUpdate _ _ _ _=>true
 | .insert _ _ _ _=>true
 | .call { callee:=.builtin .append,.. }=>true
 | .call { callee:=.builtin .copy,.. }=>true
 | _=>false
def eD:Op->Option Call
 | .call { callee:=.value f,args,argTypes }=>some { callee:=.value f,args,argTypes }
 | _=>none
def rY (T:Ty) (G:aB) (Mv:Nat->Prop) (o:Oper) (σ:St) (K:St->Prop):Prop:=
 if ic o.op then match wr T G Mv σ o with
  | some (c,x,aH)=>c/\K ⟨aN aH.env o.dst x,aH.H⟩
  | none=>False
 else match rd T G σ o.op with
  | some (c,x)=>c/\K ⟨aN σ.env o.dst x,σ.H⟩
  | none=>False
def nR (P:Program) (T:Ty) (Mv X:Nat->Prop) (G:aB) (N:Fr) (o:Oper) (σ:St) (K:St->Prop):Prop:=match eD o.op with
 | some c=>match kV G σ.env c with
  | some (g,xs)=>np P Mv X G N g xs σ fun x aH=>K ⟨aN aH.env o.dst x,aH.H⟩
  | none=>False
 | none=>rY T G Mv o σ K
def fb (N:Fr) (o:Oper):Prop:=match o.dst with
 | some d=>d < N.n
 | none=>True
section
variable {P:Program} {T:Ty} {Mv X:Nat->Prop} {G:aB} {N:Fr} {w:World} {μ:Mu} {a:Act} {σ:St}
theorem u7 (hi:In w X G μ N a σ) {ops:Array Oper} {o:Oper} {b:Bool} (h:jx ops σ.env o=some b):Region.wanted o (yielded ops a.tmps)=b:=by
 unfold jx at h;unfold Region.wanted;split at h
 .rename_i hg;obtain rfl:=AI h;simp[hg]
 .rename_i j want hg;obtain⟨b',hb,rfl⟩:=AS.1 h;simp only[hg];unfold GX at hb;split at hb
  .rename_i d hd;split at hb
   .rename_i b2 he;obtain rfl:=AI hb;obtain⟨u,hu,hr⟩:=hi.env.slot d _ he;obtain rfl:=hr.scalar;simp[yielded,hd,hu]
   .rename_i he;obtain rfl:=AI hb;obtain⟨u,hu,hr⟩:=hi.env.slot d _ he;obtain rfl:=hr.scalar;simp[yielded,hd,hu]
   .cases hb
  .cases hb
theorem ajV (hi:In w X G μ N a σ) {o:Oper} {c:Call} {g:FuncId} {xs:List AV} (ho:o.op = .call c) (h:kV G σ.env c=some (g,xs)) :
  ∃ vs:Array Value,(execOp a.eval o).run P w=(callFunc g vs).run P w/\vs.size=xs.length/\∀ (i:Nat) (u:Value) (x:AV),vs[i]? = some u->xs[i]? = some x->RV w X μ u x:=by
 unfold kV at h;split at h
 .rename_i f hf
  have key:∀ (caps:List AV) (arr:Array Value) (ys:List AV),a.eval f = .func (.func g) #[] arr->arr.size=caps.length->(∀ (j:Nat) (u:Value) (c:AV),arr[j]? = some u->caps[j]? = some c->RV w X μ u c)->pY G σ.env c.args.toList=some ys->xs=ys ++ caps->
    ∃ vs:Array Value,(execOp a.eval o).run P w=(callFunc g vs).run P w/\vs.size=xs.length/\∀ (i:Nat) (u:Value) (x:AV),vs[i]? = some u->xs[i]? = some x->RV w X μ u x:=by
   intro caps arr ys zy hn hr hy hx;obtain⟨hl,hv⟩:=hi.pY hy;refine⟨c.args.map a.eval ++ arr,?_,?_,fun i u x hu rN=>?_⟩
   .simp[execOp,ho,resolve,hf,zy,Deferred.ofValue,invoke]
   .simp only[amT,amK]at hl;subst hx;simp[hl,hn]
   .subst hx
    have fh:(c.args.map a.eval).size=ys.length:=by simpa using hl
    rw[Array.getElem?_append]at hu;rw[anG]at rN;split at hu
    .rename_i h1;rw[if_pos aa]at rN;exact hv i u x (by rw[<- Array.toList_map,ams];exact hu) rN
    .rename_i h1;rw[if_neg aa]at rN;rw[fh]at hu;exact hr _ u x hu rN
  split at h
  .rename_i g' caps ys he hy;obtain⟨rfl,rfl⟩:=eN h;obtain⟨arr,zy,hn,hr⟩:=(hi.eval he).data.Bm;exact key (caps.map .d) arr ys zy (by simpa using hn) (RV.Cw hr) hy rfl
  .rename_i g' caps ys he hy;obtain⟨rfl,rfl⟩:=eN h;obtain⟨arr,zy,hn,hr⟩:=(hi.eval he).Bm;exact key caps arr ys zy hn hr hy rfl
  .rename_i g' y ys he hy;obtain⟨rfl,rfl⟩:=eN h;obtain⟨v,zy,hr⟩:=(hi.eval he).Zt;obtain⟨hl,hv⟩:=hi.pY hy;refine⟨#[v] ++ c.args.map a.eval,?_,?_,fun i u x hu rN=>?_⟩
   .simp[execOp,ho,resolve,hf,zy,Deferred.ofValue,invoke]
   .simp only[amT,amK]at hl;simp[hl];omega
   .cases i with
    | zero=>
     rw[amY ak]at hu;simp at hu rN;subst hu rN;exact hr
    | succ i=>
     rw[List.getElem?_cons_succ]at rN;rw[Array.getElem?_append_right ak]at hu;simp only[ans,amo,am2,amR,Nat.add_sub_cancel]at hu;exact hv i u x (by rw[<- Array.toList_map,ams];exact hu) rN
  .cases h
 .cases h
theorem Du (hg:Good P T) (hi:In w X G μ N a σ) {o:Oper} {K:St->Prop} (hd:∀ d,o.dst=some d->d < N.n) (h:nR P T Mv X G N o σ K) {Q:Exit->Act->World->Prop} {next:Act->World->Prop}
  (hk:∀ w' aI a' aH,K aH->In w' X G aI N a' aH->Ev Mv w μ w' aI->next a' w'):o.wpIn (wd N.ro) 0 P a w next Q:=by
 refine yG (fun c e=>by simp[nR,e,eD,rY,ic,rd]at h) ?_;unfold nR at h;split at h
 .rename_i c hc
  have ho:o.op = .call c:=by
   unfold eD at hc;split at hc
   .rename_i j9;rw[j9];obtain rfl:=AI hc;rfl
   .cases hc
  split at h
  .rename_i g xs ht;obtain⟨vs,hr,hn,hv⟩:=ajV (P:=P) hi ho ht;obtain⟨ack,fQ⟩:=h;unfold Oper.wp;rw[hr,ack vs w];refine (fQ w μ a vs hi hn hv).mono fun e w' ⟨v,x,aH,aI,he,k,aR,iu,bd⟩=>?_;subst he;exact hk _ aI _ _ k (aR.put iu hd) bd
  .exact h.elim
 .unfold rY at h;split at h
  .split at h
   .rename_i c x aH hw;obtain⟨hc,k⟩:=h;obtain⟨n,v,w',aI,hr,hn,aR,iu,bd⟩:=akI (Mv:=Mv) hg hi hw hc hd;unfold Oper.wp;rw[hr]
    rcases hn with rfl | ⟨rfl,rfl⟩
    .exact hk _ aI _ _ k (aR.put iu hd) bd
    .exact hk _ aI _ _ k (aR.put iu hd) bd
   .exact h.elim
  .split at h
   .rename_i c x hw;obtain⟨hc,k⟩:=h;obtain⟨v,hr,iu⟩:=Je hg hi hw hc;unfold Oper.wp;rw[hr];exact hk _ μ _ _ k (hi.put iu hd) (.refl _ w μ)
   .exact h.elim
def aD (P:Program) (G:aB) (g:FuncId) (ds:List D) (y:D):Prop:=
 iV P g/\∀ X,P3 P (fun _=>True) X G g (ds.map .d) ji fun x H'=>x = .d y/\H'=ji
theorem eT.none {X':Nat->Prop} (h:∀ b,X' b->b < w.heap.size):eT w X' (fun _=>.none) ji:=
 ⟨by simp[ji],ak,ak,ak,h⟩
theorem RD.sub {X X':Nat->Prop} (h:∀ b,X' b->X b) {u:Value} {x:D} (hr:RD w X u x):RD w X' u x:=hr.mono (amh _) fun b _ hb=>⟨rfl,fun e=>hb (h b e)⟩
theorem qv {X:Nat->Prop} {b:Nat}:XX X (fun _=>none) b↔X b:=⟨fun h=>h.elim id (fun ⟨_,_,h,_⟩=>(by cases h)),.inl⟩
theorem Ev.ry {Mv:Nat->Prop} {w w':World} {aI:Mu} (h:Ev Mv w (fun _=>none) w' aI):cX w w':=⟨h.size,h.os,h.tape,h.output,fun b hb=>(h.same b hb fun ⟨_,_,h,_⟩=>by cases h).1⟩
theorem np.pure {g:FuncId} {ds:List D} {y:D} (hc:aD P G g ds y) {K:AV->St->Prop} (h:K (.d y) σ):np P Mv X G N g (ds.map .d) σ K:=by
 refine⟨hc.1,fun w μ a vs hi hn hv=>?_⟩;refine (hc.2 (XX X μ) w (fun _=>none) vs (eT.none fun b hb=>hb.elim (hi.bx.fits b) hi.bx.nP) (fun g x hx=>(hi.jA g x hx).sub fun b=>qv.1) hn fun i u x hu hx=>?_).mono ?_
 .rw[amm]at hx;obtain⟨d,hd,rfl⟩:=AS.1 hx;exact .d ((hv i u (.d d) hu (by rw[amm,hd];rfl)).data.sub fun b=>qv.1)
 .rintro e w' ⟨v,x,H',aI,rfl,⟨rfl,rfl⟩,hr,hs,bd⟩;have hg:=bd.ry;obtain⟨aR,v7⟩:=hi.ry (Mv:=Mv) hg;refine⟨v,.d y,σ,μ,rfl,h,aR,.d (hr.data.sub fun b hb=>.inl hb),v7⟩
def ng (f:AV->Option D):List AV->Option (List D)
 | []=>some []
 | x :: l=>match f x,ng f l with
  | some y,some ys=>some (y :: ys)
  | _,_=>none
def pg:List (Value×D)->Option (List (Value×Value))
 | []=>some []
 | (k,.v x) :: l=>(pg l).map fun r=>(k,x) :: r
 | _ :: _=>none
theorem Qj:∀ {l:List (Value×D)} {r:List (Value×Value)},pg l=some r->l.length=r.length/\∀ (i:Nat) (p:Value×Value),r[i]? = some p->l[i]? = some (p.1,.v p.2)
 | [],r,h=>by simp only[pg,IT]at h;subst h;exact⟨rfl,ak⟩
 | (k,.v x) :: l,r,h=>by
  simp only[pg]at h;obtain⟨r',h1,rfl⟩:=AS.1 h;obtain⟨h2,h3⟩:=Qj h1;refine⟨by simp[h2],fun i p hp=>?_⟩
  cases i with
  | zero=>simp at hp;subst hp;rfl
  | succ i=>exact h3 i p (by simpa using hp)
 | (k,.sl _ _) :: l,r,h=>by simp[pg]at h
 | (k,.ip _) :: l,r,h=>by simp[pg]at h
 | (k,.agg _) :: l,r,h=>by simp[pg]at h
 | (k,.bz _) :: l,r,h=>by simp[pg]at h
 | (k,.cC _ _) :: l,r,h=>by simp[pg]at h
 | (k,.fn _ _) :: l,r,h=>by simp[pg]at h
 | (k,.ra _) :: l,r,h=>by simp[pg]at h
 | (k,.dm _ _) :: l,r,h=>by simp[pg]at h
def gG (H:Heap):Nat->AV->Option D
 | _,.d x=>some x
 | 0,_=>none
 | _+1,.own r off n=>match H r with
  | some (.sl _ _ els)=>if off+n<=els.length then some (.sl none ((els.drop off).take n)) else none
  | _=>none
 | k+1,.ref r e j=>match H r with
  | some (.box _ cells)=>if e=0 then (ng (gG H k) (cells.drop j)).map .ip else none
  | _=>none
 | k+1,.agg cells=>(ng (gG H k) cells).map .agg
 | k+1,.fn f caps=>(ng (gG H k) caps).map (.fn f)
 | k+1,.bz cells=>(ng (gG H k) cells).map .bz
 | k+1,.cC t x=>(gG H k x).map (.cC t)
 | _+1,.mp r=>match H r with
  | some (.mp _ ents)=>(pg ents).map (.dm false)
  | _=>none
 | _,_=>none
theorem RD.wV {u:Value} {k:Option Bool} {els:List (List D)} (h:RD w X u (.sl k els)):RD w X u (.sl none els):=by
 rcases h.sW with⟨rfl,rfl,_⟩ | ⟨a,cap,rfl,_,hc,hm,hr⟩
 .exact .nil ak
 .rcases hr with rfl | ⟨b,off,sz,f,rfl,hX,hz,hs,fJ,mR⟩
  .exact .empty ak hm
  .by_cases h0:els=[]
   .subst h0;exact .empty ak hm
   .exact .sl ak rfl hc hm hX hs hz (anc.2 h0) fJ mR
theorem Kf {f:AV->Option D}:∀ {l:List AV} {ds:List D},ng f l=some ds->l.length=ds.length/\∀ (j:Nat) (x:AV) (d:D),l[j]? = some x->ds[j]? = some d->f x=some d:=by
 intro l
 induction l with
 | nil=>intro ds h;simp only[ng,IT]at h;subst h;exact⟨rfl,ak⟩
 | cons x l ih=>
  intro ds h;simp only[ng]at h;split at h
  .rename_i y ys h1 h2;obtain rfl:=AI h;obtain⟨hl,hr⟩:=ih h2;refine⟨by simp[hl],fun j x' d hx hd=>?_⟩
   cases j with
   | zero=>simp at hx hd;subst hx hd;exact h1
   | succ j=>simp at hx hd;exact hr j x' d hx hd
  .cases h
theorem F8 {H:Heap} (hs:eT w X μ H):∀ (k:Nat) {x:AV} {d:D} {u:Value},gG H k x=some d->RV w X μ u x->RD w X u d:=by
 intro k
 induction k with
 | zero=>
  intro x d u h hu;cases x<;>simp only[gG,IT,reduceCtorEq]at h;subst h;exact hu.data.sub fun b hb=>.inl hb
 | succ k ih=>
  intro x d u h hu
  have many:∀ {l:List AV} {ds:List D} {arr:Array Value},ng (gG H k) l=some ds->arr.size=l.length->(∀ (j:Nat) (u:Value) (c:AV),arr[j]? = some u->l[j]? = some c->RV w X μ u c)->
    arr.size=ds.length/\∀ (j:Nat) (u:Value) (c:D),arr[j]? = some u->ds[j]? = some c->RD w X u c:=by
   intro l ds arr hd hn hr;obtain⟨hl,hf⟩:=Kf hd;refine⟨aa,fun j u c hu hc=>?_⟩;have hj:=(BY.1 hc).1
   have dG:j < l.length:=aa
   exact ih (hf j l[j] c (by simp[dG]) hc) (hr j u _ hu (by simp[dG]))
  cases x with
  | d x=>
   simp only[gG,IT]at h;subst h;exact hu.data.sub fun b hb=>.inl hb
  | own r off n=>
   simp only[gG]at h;split at h
   .rename_i ty sz els hr;split at h
    .rename_i hle;obtain rfl:=AI h;obtain⟨kk,bQ,_⟩:=I4 (σ:=⟨fun _=>none,H⟩) hs hr hle hu;exact (bQ.sub fun b hb=>.inl hb).wV
    .cases h
   .cases h
  | ref r e j=>
   simp only[gG]at h;split at h
   .rename_i ty cells hr;split at h
    .rename_i he;subst he;obtain⟨ds,hd,rfl⟩:=AS.1 h;obtain⟨m,b,hm,hb,rfl⟩:=hu.mo;obtain⟨m',cL,ok⟩:=hs.rows r _ hr;rw[hm]at cL;obtain rfl:=AI cL
     cases ok with
     | box br bp k8 hh hn mR Ca=>
      rename_i b' cur;rw[hb]at br;obtain rfl:=AI br;obtain⟨hl,hf⟩:=Kf hd;simp only[amF]at hl;simp only[anJ,amR];refine .ip (f:=fun i=>cur.getD (j+i) undef) (hs.frame r m b hm hb) (amf.1 hh).1 (fun i hi=>?_) fun i d fU=>?_
      .rw[cell_of_row w b (j+i) cur ty (0,0) hh];simp[amg,show j+i < cur.size by omega]
      .have hi:=(BY.1 fU).1
       have fK:j+i < cells.length:=aa
       have gx:j+i < cur.size:=aa
       refine ih (hf i cells[j+i] d (by rw[amM];simp[fK]) fU) (mR (j+i) _ _ ?_ (by simp[fK]));simp[amg,gx]
    .cases h
   .cases h
  | agg cells=>
   simp only[gG]at h;obtain⟨ds,hd,rfl⟩:=AS.1 h;obtain⟨arr,rfl,hn,hr⟩:=hu.ud;obtain⟨h1,h2⟩:=many hd hn hr;exact .agg h1 h2
  | fn f caps=>
   simp only[gG]at h;obtain⟨ds,hd,rfl⟩:=AS.1 h;obtain⟨arr,rfl,hn,hr⟩:=hu.Bm;obtain⟨h1,h2⟩:=many hd hn hr;exact .fn h1 h2
  | bz cells=>
   simp only[gG]at h;obtain⟨ds,hd,rfl⟩:=AS.1 h;obtain⟨arr,rfl,hn,hr⟩:=hu.CP;obtain⟨h1,h2⟩:=many hd hn hr;exact .bz h1 h2
  | cC t x=>
   simp only[gG]at h;obtain⟨d',hd,rfl⟩:=AS.1 h;obtain⟨v,rfl,hr⟩:=hu.uP;exact .cC (ih hd hr)
  | mp r=>
   simp only[gG]at h;split at h
   .rename_i ty ents hr;obtain⟨es,he,rfl⟩:=AS.1 h;obtain⟨m,b,hm,hb,rfl⟩:=hu.Oh;obtain⟨KV,hh,hn,zL,_⟩:=hs.N7 hr hm hb;obtain⟨hl,hv⟩:=Qj he
    have heq:KV=kD es:=by
     refine Array.ext (by rw[rW];omega) fun i h1 h2=>?_
     have hi:i < es.length:=by rw[rW]at h2;exact h2
     have h3:=hv i es[i] (by simp[hi]);obtain⟨k1,k2,k3⟩:=zL i KV[i] _ (by simp[h1]) h3;have k4:=k3.scalar;have h5:=Cn hi;rw[amA h2]at h5;rw[AI h5];generalize KV[i]=e at k1 k2 k4;cases e;simp only at k1 k2 k4;rw[k1,k2,k4]
    refine .dm (hs.frame r m b hm hb) ?_ (List.Perm.refl _) ak;rw[hh,heq,rW]
   .cases h
  | _=>simp[gG]at h
def D.scalar:D->Bool
 | .v _=>true
 | .bz l=>l.all fun | .v _=>true | _=>false
 | _=>false
theorem RD.aiU {X X':Nat->Prop} {w w':World} {u:Value} {x:D} (h:RD w X u x) (hs:x.scalar=true):RD w' X' u x:=by
 cases x with
 | v x=>obtain rfl:=h.scalar;exact .v _
 | bz l=>
  obtain⟨arr,rfl,hn,hr⟩:=h.CP;refine .bz hn fun j u c hu hc=>?_;have:=ane.1 hs c (amZ hc)
  cases c with
  | v x=>obtain rfl:=(hr j u _ hu hc).scalar;exact .v _
  | _=>cases this
 | _=>cases hs
theorem np.rT {g:FuncId} {xs:List AV} {ds:List D} {y:D} (hd:ng (gG σ.H 4) xs=some ds) (hc:aD P G g ds y) (hy:y.scalar=true) {K:AV->St->Prop} (h:K (.d y) σ):np P Mv X G N g xs σ K:=by
 refine⟨hc.1,fun w μ a vs hi hn hv=>?_⟩;obtain⟨hl,hf⟩:=Kf hd;refine (hc.2 X w (fun _=>none) vs (eT.none hi.bx.fits) (fun g x hx=>(hi.jA g x hx).sub fun b hb=>.inl (qv.1 hb)) (by rw[amT];omega) fun i u x hu hx=>?_).mono ?_
 .rw[amm]at hx;obtain⟨d,fU,rfl⟩:=AS.1 hx;have hj:=(BY.1 fU).1
  have dG:i < xs.length:=aa
  exact .d ((F8 hi.bx 4 (hf i xs[i] d (by simp[dG]) fU) (hv i u _ hu (by simp[dG]))).sub fun b=>qv.1)
 .rintro e w' ⟨v,x,H',aI,rfl,⟨rfl,rfl⟩,hr,hs,bd⟩;obtain⟨aR,v7⟩:=hi.ry (Mv:=Mv) bd.ry;exact⟨v,.d y,σ,μ,rfl,h,aR,.d (hr.data.aiU hy),v7⟩
end
theorem aol:type_of% @b9.eq_1:=@b9.eq_1
theorem aom:type_of% @b9.eq_2:=@b9.eq_2
theorem aon:type_of% @dk.eq_1:=@dk.eq_1
