/- Parts. -/
import Derived.Test.YtoohljflflnbeaaGreatDoorSt6
import Derived.Lib.AppendStr
set_option linter.unusedSectionVars false
set_option linter.unusedSimpArgs false
set_option linter.unusedVariables false
namespace Go.Av
def od (s:ByteArray):List (List D):=s.data.toList.map fun b=>[D.v (.int .u8 b.toNat)]
theorem Im (s:ByteArray):(od s).length=s.size:=by simp[od]
section
variable {P:Program} {T:Ty} {Mv X:Nat->Prop} {G:aF} {N:Fr} {w:World} {μ:Mu} {a:Act} {σ:St}
theorem Io (s:ByteArray):Rel w X μ 1 (Lib.strCells s) (od s):=by
 intro i j el c hi hj;unfold od at hi;rw[aa3]at hi;obtain⟨b,hb,rfl⟩:=AS.1 hi
 match j,hj with
 | 0,hj=>
  simp at hj;subst hj;exact⟨_,by simp[Lib.strCells,hb],.v _⟩
 | j+1,hj=>simp at hj
theorem Wy {t t' ty e:TypeId} {tt ts te:TI} (hg:Good P T) (dY:T t=some tt) (dM:tt.desc = .slice e) (qB:T t'=some ts) (ld:ts.desc = .string) (cH:T e=some te) (base:Option Addr) (n cap:Nat) (hn:n<=cap) {s:ByteArray} (gF:s.size=0) :
  (Builtin.append_ #[t,t'] ty #[.slice base n cap,.string s]).run P w = .ok (.slice base n cap) w:=by
 have hu:=hg.dA (w:=w) dY;have mO:=hg.dA (w:=w) qB;have bc:=hg.sizeOf (w:=w) cH;have hf:=Lib.run_firstCells_string (P:=P) w te.size s;have yH:Lib.strCells s=[]:=abx (by rw[Lib.strCells_length];exact gF);rw[gF,yH]at hf;cases base<;>simp[Builtin.append_,hu,dM,mO,ld,bc,Builtin.lenOf,hn,gF,hf,storeCells]
theorem OD (hg:Good P T) (hi:In w X G μ N a σ) {r n:Nat} (jn:Mv r) {t t' ty e:TypeId} {tt ts te:TI} (dY:T t=some tt) (dM:tt.desc = .slice e) (qB:T t'=some ts) (ld:ts.desc = .string) (cH:T e=some te) {els:List (List D)} {u:Value} {s:ByteArray}
  (hH:σ.H r=some (.sl e 1 els)) (hle:n<=els.length) (hu:RV w X μ u (.own r 0 n)) (wH:te.size=1) (fi:te.bytes=1) (y5:te.zero = .int .u8 0) (hb:n+s.size<=140737488355328) :
  mo Mv X G N w μ a ((Builtin.append_ #[t,t'] ty #[u,.string s]).run P w) (.own r 0 (n+s.size)) ⟨dN r σ.env,bk (dO r σ.H) r (.sl e 1 (els.take n ++ od s))⟩:=by
 obtain⟨m,hm,hh⟩:=hu.lp;obtain⟨m',cD,ok⟩:=hi.bo.rows r _ hH;rw[hm]at cD;obtain rfl:=AI cD;obtain⟨uO,i0,l8,gF,pC,oL,_⟩:=hg e te cH;have ht:=(hg t tt dY).1;rw[dM]at ht;have wA:=(hg t' ts qB).1;rw[ld]at wA
 have A9:n+s.size<=maxLen:=by unfold maxLen;omega
 have J7:n+s.size<=9223372036854775807:=aa
 have eG:=Im s
 have Sf:∀ el∈od s,el.length=1:=by
  intro el bu;obtain⟨b,_,rfl⟩:=abE.1 bu;rfl
 have uB:∀ el∈els,el.length=1:=by
  cases ok with
  | nil=>simp
  | sl _ _ _ _ _ _ hl=>exact hl
 have yz:∀ el∈els.take n ++ od s,el.length=1:=by
  intro el bu
  rcases abr.1 bu with h | h
  .exact uB el (abi h)
  .exact Sf el h
 by_cases bw:s.size=0
 .-- nothing is appended
  have Q3:od s=[]:=abx (by rw[eG];exact bw)
  have sZ:∃ base c,u = .slice base n c/\n<=c:=by
   rcases hh with⟨_,rfl,_,rfl⟩ | ⟨b,_,rfl,jl⟩
   .exact⟨_,_,rfl,aa8 _⟩
   .exact⟨_,_,rfl,aa⟩
  obtain⟨base,c',yX,E4⟩:=sZ;have e9:=Wy (P:=P) (w:=w) (ty:=ty) hg dY dM qB ld cH base n c' E4 bw;rw[yX,e9,Q3,bw]
  obtain⟨bn,br⟩:=hi.move (Mv:=Mv) (w':=w) (m':=m) hm jn (aa8 _) rfl rfl rfl (fun _ _ _=>rfl) (fun b hb=>.inr hb) (row:=.sl e 1 (els.take n ++ [])) fun ev=>by
   rw[abK]
   cases ok with
   | nil fi fW=>rw[List.take_nil];exact .nil fi fW
   | sl g1 g2 g3 g4 g5 g6 g7 g8 g9=>
    refine .sl g1 g2 g3 g4 (by simp;omega) g6 (fun el bu=>g7 el (abi bu)) g8 fun i j el c bu hc=>?_;rw[abf]at bu;split at bu
    .obtain⟨v,hv,cm⟩:=g9 i j el c bu hc;exact⟨v,hv,cm.ev ev⟩
    .cases bu
  refine⟨_,_,_,rfl,bn,.own (m:=m) (by simp[eo]) ?_,br⟩;rw[<- yX];exact hh
 .have JY:0 < s.size:=aa
  have dX:(Lib.strCells s).length=s.size:=Lib.strCells_length s
  have r0:te.zero.cells.size=1:=by rw[y5];rfl
  have zm:∀ (xs:List Value) (gG:Nat),xs.length=n->Rel w X μ 1 xs (els.take n)->n+s.size<=gG->gG<=maxLen->m.sz=1->
    mo Mv X G N w μ a (.ok (.slice (some ⟨w.heap.size,0,none⟩) (n+s.size) gG) (w.drew.alloc (.cells (xs.toArray ++ (Lib.strCells s).toArray ++ Builtin.zeroCells te.zero.cells (gG - (n+s.size))) e)))
     (.own r 0 (n+s.size)) ⟨dN r σ.env,bk (dO r σ.H) r (.sl e 1 (els.take n ++ od s))⟩:=by
   intro xs gG lQ rZ c8 eh yD
   have pE:cT w (w.drew.alloc (.cells (xs.toArray ++ (Lib.strCells s).toArray ++ Builtin.zeroCells te.zero.cells (gG - (n+s.size))) e)):=by
    have h1:=cT.alloc w.drew (.cells (xs.toArray ++ (Lib.strCells s).toArray ++ Builtin.zeroCells te.zero.cells (gG - (n+s.size))) e);exact⟨h1.size,h1.os,h1.tape,h1.output,h1.same⟩
   have bc:(xs.toArray ++ (Lib.strCells s).toArray ++ Builtin.zeroCells te.zero.cells (gG - (n+s.size))).size=gG * 1:=by
    simp only[Array.size_append,acp,size_zeroCells,r0,lQ,dX];omega
   obtain⟨bn,br⟩:=hi.move (Mv:=Mv) (w':=w.drew.alloc (.cells (xs.toArray ++ (Lib.strCells s).toArray ++ Builtin.zeroCells te.zero.cells (gG - (n+s.size))) e)) (m':=⟨some w.heap.size,1,gG⟩) hm jn pE.size pE.os pE.tape pE.output
    (fun k hk _=>pE.same k hk) (fun b hb=>by simp at hb;omega) (row:=.sl e 1 (els.take n ++ od s)) fun ev=>by
     refine .sl rfl rfl (by simpa using heap_alloc_new w.drew (.cells (xs.toArray ++ (Lib.strCells s).toArray ++ Builtin.zeroCells te.zero.cells (gG - (n+s.size))) e)) bc (by simp[eG];omega) eh yz bh fun i j el c hi hj=>?_;have hrel:=((rZ.append (by rw[lQ,abk,acA hle,ab3]) (fun el bu=>uB el (abi bu)) (Io s)).more (l':=(Builtin.zeroCells te.zero.cells (gG - (n+s.size))).toList)) i j el c hi hj;obtain⟨v,hv,cm⟩:=hrel;refine⟨v,?_,cm.ev ev⟩;rw[<- abc];simpa using hv
   exact⟨_,_,_,rfl,bn,.own (m:=⟨some w.heap.size,1,gG⟩) (by simp[eo]) (.inr ⟨w.heap.size,rfl,al,by simpa using c8⟩),br⟩
  have yD:m.sz=1:=by
   cases ok with
   | nil _ h=>exact h
   | sl _ h=>exact h
  rcases hh with⟨iJ,rfl,_,rfl⟩ | ⟨b,iJ,rfl,jl⟩
  .have hr:=run_append_nil_string (P:=P) w t t' ty e i0 te.zero ht wA l8 oL s aa aa (by rw[pC,fi];omega);rw[hr]
   have e1:(s.data.map fun b=>Value.int .u8 b.toNat)=(Lib.strCells s).toArray:=by
    apply Array.ext';simp[Lib.strCells]
   have:=zm [] (grownCap w s.size 0 e) al (by intro i j el c hi;simp at hi) (by have:=grownCap_ge w s.size 0 e;omega) (grownCap_le_maxLen w s.size 0 e (by unfold maxLen;omega)) yD;rw[e1];simpa using this
  .cases ok with
   | nil bp _=>rw[bp]at iJ;cases iJ
   | sl bp bc qs cK qw ix hl iX hr=>
    rename_i b' cur;rw[iJ]at bp;obtain rfl:=AI bp
    have El:n<=m.cap:=aa
    have Rq:cur.size=m.cap:=aa
    have lQ:(cur.toList.take n).length=n:=by rw[abk,abO,Rq,acA El]
    have rZ:Rel w X μ 1 (cur.toList.take n) (els.take n):=by
     intro i j el c bu hc;rw[abf]at bu;split at bu
     .rename_i bn;obtain⟨v,hv,cm⟩:=hr i j el c bu hc;have yh:el.length=1:=hl _ (abR bu)
      have hj:j < 1:=by rw[<- yh];exact (By.1 hc).1
      refine⟨v,?_,cm⟩;rw[abf,if_pos aa];simpa using hv
     .cases bu
    rw[yD,ab6,Nat.sub_zero];by_cases wu:n+s.size<=m.cap
    .have e9:=Lib.run_append_room_string (P:=P) w t t' ty e i0 ht wA l8 (by rw[gF,wH]) b n m.cap cur qs s wu aa;rw[e9]
     obtain⟨bn,br⟩:=hi.move (Mv:=Mv) (w':=w.setRow b (cur.toList.take n ++ Lib.strCells s ++ cur.toList.drop (n+s.size)).toArray) (m':=m) hm jn al rfl rfl rfl
      (fun k hk E6=>setRow_other w b k _ fun e'=>E6 (by rw[iJ,e'])) (fun b hb=>.inr hb) (row:=.sl e 1 (els.take n ++ od s)) fun ev=>by
       refine .sl iJ yD (setRow_heap w b cur _ e _ qs) ?_ (by simp[eG];omega) ix yz bh fun i j el c hi hj=>?_
       .simp only[acp,abb,abk,abp,abO,dX];omega
       .obtain⟨v,hv,cm⟩:=((rZ.append (by rw[lQ,abk,acA hle,ab3]) (fun el bu=>uB el (abi bu)) (Io s)).more (l':=cur.toList.drop (n+s.size))) i j el c hi hj;exact⟨v,by rw[<- abc];simpa using hv,cm.ev ev⟩
     refine⟨_,_,_,rfl,bn,.own (m:=m) (by simp[eo]) (.inr ⟨b,iJ,al,by simpa using wu⟩),br⟩
    .have e9:=Lib.run_append_grow_string (P:=P) w t t' ty e i0 te.zero ht wA l8 oL ⟨b,0,none⟩ n m.cap (cur.toList.take n) (by rw[lQ,gF,wH,ab3]) (fun j v hv=>by
      rw[addr_add,cell_of_row w b _ cur e (0,0) qs];rw[abf]at hv;split at hv
      .simpa using hv
      .cases hv) s aa aa (by rw[pC,fi];exact growslice_fits aa aa)
     rw[e9];exact zm _ _ lQ rZ (grownCap_ge _ _ _ _) (grownCap_le_maxLen w _ _ e A9) yD
end
end Go.Av
namespace Go.Av
def mC (G:aF) (e:Env):List Operand->Option (List AV)
 | []=>some []
 | o :: l=>match bG G e o,mC G e l with
  | some x,some xs=>some (x :: xs)
  | _,_=>none
def lG (G:aF) (e:Env):List (Nat×Operand)->Option (List (Nat×AV))
 | []=>some []
 | (i,o) :: l=>match bG G e o,lG G e l with
  | some x,some xs=>some ((i,x) :: xs)
  | _,_=>none
def aG (x:AV) (b:Bool):AV:=match x with
 | .d y=>.d (.bI [y,.v (.bool b)])
 | x=>.bI [x,.d (.v (.bool b))]
theorem GA {w:World} {X:Nat->Prop} {μ:Mu} {u:Value} {x:AV} {b:Bool} (hx:RV w X μ u x):RV w X μ (.tuple #[u,.bool b]) (aG x b):=by
 unfold aG;split
 .refine .d (.bI rfl fun j v c hv hc=>?_)
  match j,hv,hc with
  | 0,hv,hc=>simp at hv hc;subst hv hc;exact hx.data
  | 1,hv,hc=>simp at hv hc;subst hv hc;exact .v _
  | j+2,hv,hc=>simp at hv
 .refine .bI rfl fun j v c hv hc=>?_
  match j,hv,hc with
  | 0,hv,hc=>simp at hv hc;subst hv hc;exact hx
  | 1,hv,hc=>simp at hv hc;subst hv hc;exact .d (.v _)
  | j+2,hv,hc=>simp at hv
def aM (T:Ty) (asserted:TypeId) (nr:Bool) (x:AV):jy:=match T asserted with
 | none=>none
 | some ti=>match x with
  | .d (.v .nilIface)=>if nr then some (True,aG (b5 ti.zero) false) else none
  | .d (.b6 t y)=>if TypeDesc.isIface ti.desc then none else if t=asserted then some (True,if nr then aG (.d y) true else .d y) else if nr then some (True,aG (b5 ti.zero) false) else none
  | .b6 t y=>if TypeDesc.isIface ti.desc then none else if t=asserted then some (True,if nr then aG y true else y) else if nr then some (True,aG (b5 ti.zero) false) else none
  | _=>none
theorem OL {P:Program} {T:Ty} (hg:Good P T) {w:World} {X:Nat->Prop} {μ:Mu} {asserted xT:TypeId} {nr:Bool} {u:Value} {x z:AV} {c:Prop} (h:aM T asserted nr x=some (c,z)) (hx:RV w X μ u x) :
  ∃ r,(Instr.typeAssert u xT asserted nr).run P w = .ok r w/\RV w X μ r z:=by
 unfold aM at h;split at h
 .cases h
 .rename_i ti ht
  have one:∀ (t:TypeId) (v:Value) (y:AV),RV w X μ v y->(if TypeDesc.isIface ti.desc then none else if t=asserted then some (True,if nr then aG y true else y) else if nr then some (True,aG (b5 ti.zero) false) else none)=some (c,z)->
    ∃ r,(Instr.typeAssert (.iface t v) xT asserted nr).run P w = .ok r w/\RV w X μ r z:=by
   intro t v y hy h;by_cases wo:TypeDesc.isIface ti.desc=true
   .rw[if_pos wo]at h;cases h
   .rw[if_neg wo]at h;by_cases kh:t=asserted
    .rw[if_pos kh]at h;obtain⟨_,rfl⟩:=dI h;subst kh;refine⟨if nr then .tuple #[v,.bool true] else v,?_,?_⟩
     .cases hd:ti.desc<;>first | (rw[hd]at wo;exact absurd rfl wo) | (simp[Instr.typeAssert,hg.dA ht,hd])
     .cases nr
      .exact hy
      .exact GA hy
    .rw[if_neg kh]at h
     cases nr with
     | false=>cases h
     | true=>
      simp only[if_true,BY,aa4]at h;obtain⟨_,rfl⟩:=h;refine⟨.tuple #[ti.zero,.bool false],?_,GA (DB _)⟩
      cases hd:ti.desc<;>first | (rw[hd]at wo;exact absurd rfl wo) | (simp[Instr.typeAssert,hg.dA ht,hd,kh,hg.zero ht])
  split at h
  .split at h
   .rename_i eN;obtain⟨_,rfl⟩:=dI h;have:=hx.scalar;subst this;refine⟨.tuple #[ti.zero,.bool false],?_,GA (DB _)⟩;subst eN;cases hd:ti.desc<;>simp[Instr.typeAssert,hg.dA ht,hd,hg.zero ht]
   .cases h
  .rename_i t y;obtain⟨v,rfl,hv⟩:=hx.data.r4;exact one t v (.d y) (.d hv) h
  .rename_i t y;obtain⟨v,rfl,hv⟩:=hx.r4;exact one t v y hv h
  .cases h
def rd (T:Ty) (G:aF) (σ:St):Op->jy
 | .move x=>(bG G σ.env x).map fun v=>(True,v)
 | .assign x=>(bG G σ.env x).map fun v=>(True,v)
 | .binOp op t x y _=>match bG G σ.env x,bG G σ.env y with
  | some a,some b=>Al T op t y a b
  | _,_=>none
 | .unOp op _ x=>(bG G σ.env x).bind (CN op)
 | .load t x=>(bG G σ.env x).bind (mW T σ.H t)
 | .fieldAddr t x f=>(bG G σ.env x).bind (AO T t f)
 | .field t x f=>(bG G σ.env x).bind (AN T t f)
 | .indexAddr t x i=>match bG G σ.env x,bG G σ.env i with
  | some a,some b=>o8 T σ.H t a b
  | _,_=>none
 | .index t x i=>match bG G σ.env x,bG G σ.env i with
  | some a,some b=>BH T t a b
  | _,_=>none
 | .extract x i=>(bG G σ.env x).bind (AM i)
 | .makeInterface t x=>(bG G σ.env x).bind (B0 T t)
 | .makeFunc f first caps=>if first.isEmpty then (mC G σ.env caps.toList).map fun cs=>(True,zj f cs) else match f,first.toList,caps.toList with
  | .func g,[x],[]=>(bG G σ.env x).map fun v=>(True,.bm g v)
  | _,_,_=>none
 | .pick c x y=>match bG G σ.env c,bG G σ.env x,bG G σ.env y with
  | some (.d (.v (.bool b))),some a1,some a2=>some (True,if b then a1 else a2)
  | _,_,_=>none
 | .nilCheck x=>(bG G σ.env x).bind B7
 | .build t parts=>(lG G σ.env parts.toList).bind (Ao T t)
 | .convert src dst x=>if (T src).isSome then (bG G σ.env x).bind (Aw T dst) else none
 | .slice t x lo hi mx=>if mx.isNone then match bG G σ.env x,bound G σ.env lo,bound G σ.env hi with
   | some v,some l,some h=>p7 T σ.H t v l h
   | _,_,_=>none
  else none
 | .typeAssert x _ t b=>(bG G σ.env x).bind (aM T t b)
 | .lookup t x i b=>match bG G σ.env x,bG G σ.env i with
  | some a,some k=>mY T σ.H t b a k
  | _,_=>none
 | .call { callee:=.builtin .len,args,argTypes }=>match args.toList,argTypes.toList with
  | [x],[t]=>(bG G σ.env x).bind (BX T t)
  | _,_=>none
 | .call { callee:=.builtin .max,args,.. }=>match args.toList with
  | [x,y]=>match bG G σ.env x,bG G σ.env y with
   | some (.d (.v (.int k a))),some (.d (.v (.int k' b)))=>some (True,.d (.v (.int k (if b > a then b else a))))
   | _,_=>none
  | _=>none
 | .call { callee:=.builtin .min,args,.. }=>match args.toList with
  | [x,y]=>match bG G σ.env x,bG G σ.env y with
   | some (.d (.v (.int k a))),some (.d (.v (.int k' b)))=>some (True,.d (.v (.int k (if b < a then b else a))))
   | _,_=>none
  | _=>none
 | _=>none
def G6 (T:Ty) (G:aF) (Mv:Nat->Prop) (σ:St) (t t':TypeId) (x y:Operand):Option (Prop×AV×St):=match T t,T t' with
 | some tt,some ts=>match tt.desc,ts.desc with
  | .slice e,.string=>match T e,bG G σ.env x,bG G σ.env y with
   | some te,some (.own r off n),some (.d (.v (.string s)))=>match σ.H r with
    | some (.sl ty sz els)=>some (off=0/\Mv r/\ty=e/\sz=1/\n<=els.length/\te.size=1/\te.bytes=1/\te.zero = .int .u8 0/\n+s.size<=140737488355328,
      .own r 0 (n+s.size),⟨dN r σ.env,bk (dO r σ.H) r (.sl e 1 (els.take n ++ od s))⟩)
    | _=>none
   | _,_,_=>none
  | _,_=>none
 | _,_=>none
def wr (T:Ty) (G:aF) (Mv:Nat->Prop) (σ:St) (o:Oper):Option (Prop×AV×St):=match o.op,o.dst with
 | .alloc t,some d=>match T t with
  | some ti=>some (σ.H d=none,.ref d 0 0,⟨σ.env,bk σ.H d (.box t ((kY ti.zero).map .d))⟩)
  | none=>none
 | .box t x,some d=>match (bG G σ.env x).bind gU with
  | some cs=>some (σ.H d=none,.ref d 0 0,⟨σ.env,bk σ.H d (.box t cs)⟩)
  | none=>none
 | .store t x y,none=>match bG G σ.env x,bG G σ.env y with
  | some (.ref r e j),some v=>match σ.H r with
   | some (.box ty cells)=>if e=0 then match CE T t cells j v with
     | some (c,sD)=>some (c,.dead,⟨σ.env,bk σ.H r (.box ty sD)⟩)
     | none=>none
    else none
   | some (.sl ty sz els)=>match CF T t sz els e j v with
    | some (c,mB)=>some (c,.dead,⟨σ.env,bk σ.H r (.sl ty sz mB)⟩)
    | none=>none
   | some (.mp _ _)=>none
   | some (.it _ _)=>none
   | none=>none
  | _,_=>none
 | .makeSlice t l c,some d=>match T t with
  | some tt=>match tt.desc with
   | .slice e=>match T e,bG G σ.env l,bG G σ.env c with
    | some te,some (.d (.v (.int _ n))),some (.d (.v (.int _ m)))=>some (σ.H d=none/\0<=n/\n<=m/\te.bytes * m<=281474976710656/\m<=9223372036854775807/\0 < te.size/\(kY te.zero).length=te.size,.own d 0 n.toNat,⟨σ.env,bk σ.H d (.sl e te.size (r9 te n.toNat))⟩)
    | _,_,_=>none
   | _=>none
  | none=>none
 | .buildSlice t len parts,some d=>match T t with
  | some tt=>match tt.desc with
   | .slice e=>match T e,lG G σ.env parts.toList with
    | some te,some ps=>match sB te.size 0 ps with
     | some els=>some (σ.H d=none/\ps.length=len/\0 < te.size/\len * te.size<=16777216,.own d 0 len,⟨σ.env,bk σ.H d (.sl e te.size els)⟩)
     | none=>none
    | _,_=>none
   | _=>none
  | none=>none
 | .call { callee:=.builtin .append,args,argTypes },some d=>match args.toList,argTypes.toList with
  | [x,y],[t,t']=>if t=t' then match T t with
   | some tt=>match tt.desc with
    | .slice e=>match T e,bG G σ.env x,bG G σ.env y with
     | some te,some (.own r off n),some v=>match σ.H r,lk σ.H r v with
      | some (.sl ty sz els),some news=>some (off=0/\Mv r/\ty=e/\sz=te.size/\n<=els.length/\(∀ el∈news,el.length=te.size)/\(∀ el∈news,∀ c∈el,D.one c=true)/\0 < te.size/\(kY te.zero).length=te.size/\n+news.length<=9223372036854775807/\(n+news.length) * te.bytes<=140737488355328,
        .own r 0 (n+news.length),⟨dN r σ.env,bk (dO r σ.H) r (.sl e te.size (els.take n ++ news))⟩)
      | _,_=>none
     | some te,some (.d (.sl (some false) [])),some v=>match lk σ.H d v with
      | some news=>some (σ.H d=none/\Mv d/\(∀ el∈news,el.length=te.size)/\(∀ el∈news,∀ c∈el,D.one c=true)/\0 < te.size/\(kY te.zero).length=te.size/\news.length<=9223372036854775807/\news.length * te.bytes<=140737488355328,
        .own d 0 news.length,⟨σ.env,bk σ.H d (.sl e te.size news)⟩)
      | none=>none
     | _,_,_=>none
    | _=>none
   | none=>none
  else G6 T G Mv σ t t' x y
  | _,_=>none
 | .call { callee:=.builtin .copy,args,argTypes },some _=>match args.toList,argTypes.toList with
  | [x,y],[t,_]=>match T t with
   | some tt=>match tt.desc with
    | .slice e=>match T e,bG G σ.env x,bG G σ.env y with
     | some te,some (.own r off n),some v=>match σ.H r,zG σ.H v with
      | some (.sl ty sz els),some news=>some (ty=e/\sz=1/\te.size=1/\off+n<=els.length/\0 < els.length/\(∀ el∈news,el.length=1)/\(∀ el∈news,∀ c∈el,D.one c=true),
        .d (.v (.int .i64 ((news.take n).length:Nat))),⟨σ.env,bk σ.H r (.sl e 1 (om els news off n))⟩)
      | _,_=>none
     | some te,some (.d (.sl _ [])),some v=>match zG σ.H v with
      | some news=>some ((∀ el∈news,el.length=te.size)/\0 < te.size/\(∀ el∈news,∀ c∈el,D.one c=true),.d (.v (.int .i64 0)),σ)
      | none=>none
     | _,_,_=>none
    | _=>none
   | none=>none
  | _,_=>none
 | .makeMap t none,some d=>some (σ.H d=none,.mp d,⟨σ.env,bk σ.H d (.mp t [])⟩)
 | .mapUpdate t m k v,none=>match bG G σ.env m,bG G σ.env k,bG G σ.env v with
  | some (.mp r),some (.d (.v key)),some (.d x)=>match σ.H r with
   | some (.mp ty ents)=>match zy T t ents key x with
    | some (c,lF)=>some (c,.dead,⟨σ.env,bk σ.H r (.mp ty lF)⟩)
    | none=>none
   | _=>none
  | _,_,_=>none
 | .insert t m k v,none=>match bG G σ.env m,bG G σ.env k,bG G σ.env v with
  | some (.mp r),some (.d (.v key)),some (.d x)=>match σ.H r with
   | some (.mp ty ents)=>match zy T t ents key x with
    | some (c,lF)=>some (c,.dead,⟨σ.env,bk σ.H r (.mp ty lF)⟩)
    | none=>none
   | _=>none
  | _,_,_=>none
 | _,_=>none
def aR (e:Env) (dst:Option Tmp) (x:AV):Env:=match dst with
 | some d=>ik e d x
 | none=>e
section
variable {P:Program} {T:Ty} {Mv X:Nat->Prop} {G:aF} {N:Fr} {w:World} {μ:Mu} {a:Act} {σ:St}
theorem In.put (hi:In w X G μ N a σ) {u:Value} {x:AV} (hx:RV w X μ u x) {dst:Option Tmp} (hd:∀ d,dst=some d->d < N.n):In w X G μ N (a.put dst u) ⟨aR σ.env dst x,σ.H⟩:=by
 cases dst with
 | none=>exact hi
 | some d=>
  have bf:d < a.tmps.size:=by rw[hi.env.size];exact hd d rfl
  refine⟨hi.bo,⟨hi.env.defers,by simp[Act.put,hi.env.size],fun i y hy=>?_⟩,hi.iu⟩;simp only[aR,ik]at hy;split at hy
  .rename_i e;subst e;obtain rfl:=AI hy;exact⟨u,by simp[Act.put,bf],hx⟩
  .rename_i e;obtain⟨v,hv,hr⟩:=hi.env.slot i y hy;exact⟨v,by simp only[Act.put];rw[Array.getElem?_setIfInBounds_ne (abY e)];exact hv,hr⟩
theorem In.mC (hi:In w X G μ N a σ):∀ {l:List Operand} {xs:List AV},mC G σ.env l=some xs->(l.map a.eval).length=xs.length/\∀ (i:Nat) (u:Value) (x:AV),(l.map a.eval)[i]? = some u->xs[i]? = some x->RV w X μ u x:=by
 intro l
 induction l with
 | nil=>intro xs h;simp only[Go.Av.mC,BY]at h;subst h;exact⟨rfl,al⟩
 | cons o l ih=>
  intro xs h;simp only[Go.Av.mC]at h;split at h
  .rename_i x NI h1 h2;obtain rfl:=AI h;obtain⟨hl,hr⟩:=ih h2;refine⟨by simpa using hl,fun i u y hu hy=>?_⟩
   cases i with
   | zero=>simp at hu hy;subst hu hy;exact hi.eval h1
   | succ i=>simp at hu hy;exact hr i u y (by simpa using hu) hy
  .cases h
theorem In.lG (hi:In w X G μ N a σ):∀ {l:List (Nat×Operand)} {xs:List (Nat×AV)},lG G σ.env l=some xs->(l.map fun p=>(p.1,a.eval p.2)).map (·.1)=xs.map (·.1)/\
  ∀ (i:Nat) (p:Nat×AV) (v:Nat×Value),xs[i]? = some p->(l.map fun p=>(p.1,a.eval p.2))[i]? = some v->RV w X μ v.2 p.2:=by
 intro l
 induction l with
 | nil=>intro xs h;simp only[Go.Av.lG,BY]at h;subst h;exact⟨rfl,al⟩
 | cons o l ih=>
  intro xs h;obtain⟨k,o⟩:=o;simp only[Go.Av.lG]at h;split at h
  .rename_i x NI h1 h2;obtain rfl:=AI h;obtain⟨hl,hr⟩:=ih h2;refine⟨by simpa using hl,fun i p v hp hv=>?_⟩
   cases i with
   | zero=>simp at hp hv;subst hp hv;exact hi.eval h1
   | succ i=>simp at hp hv;exact hr i p v hp (by simpa using hv)
  .cases h
theorem In.bound (hi:In w X G μ N a σ) {o:Option Operand} {l:Option Int} (h:bound G σ.env o=some l):(o.map a.eval=none/\l=none)\/∃ k n,o.map a.eval=some (.int k n)/\l=some n:=by
 unfold Go.Av.bound at h;split at h
 .obtain rfl:=AI h;exact .inl ⟨rfl,rfl⟩
 .split at h
  .rename_i k n he;obtain rfl:=AI h;exact .inr ⟨k,n,by simp[(hi.eval he).scalar],rfl⟩
  .cases h
theorem Cm (hg:Good P T) (hi:In w X G μ N a σ) {o:Oper} {c:Prop} {x:AV} (h:rd T G σ o.op=some (c,x)) (hc:c):∃ v,(execOp a.eval o).run P w = .ok (.value v) w/\RV w X μ v x:=by
 have lift:∀ {s:Sem Value} ,(∃ v,s.run P w = .ok v w/\RV w X μ v x)->∃ v,(do pure (.value (<- s)):Sem Next).run P w = .ok (.value v) w/\RV w X μ v x:=by
  rintro s ⟨v,hv,hr⟩;exact⟨v,by simp[hv],hr⟩
 obtain⟨dst,op,type,pos,after,guard⟩:=o;dsimp only at h;unfold rd at h;split at h
 .obtain⟨y,hy,he⟩:=AS.1 h;simp only[aa4]at he;obtain⟨rfl,rfl⟩:=he;exact⟨_,rfl,hi.eval hy⟩
 .obtain⟨y,hy,he⟩:=AS.1 h;simp only[aa4]at he;obtain⟨rfl,rfl⟩:=he;exact⟨_,rfl,hi.eval hy⟩
 .split at h
  .rename_i h1 h2;exact lift (OU hg hi h1 h2 h hc)
  .cases h
 .obtain⟨y,hy,he⟩:=abd.1 h;exact lift (Ze he hc (hi.eval hy))
 .obtain⟨y,hy,he⟩:=abd.1 h;exact lift (Lg hg hi.bo he hc (hi.eval hy))
 .obtain⟨y,hy,he⟩:=abd.1 h;exact lift (Qk hg he hc (hi.eval hy))
 .obtain⟨y,hy,he⟩:=abd.1 h;exact lift (Qj hg he hc (hi.eval hy))
 .split at h
  .rename_i h1 h2;exact lift (Tj hg hi.bo h hc (hi.eval h1) (hi.eval h2))
  .cases h
 .split at h
  .rename_i h1 h2;exact lift (Tl hg h hc (hi.eval h1) (hi.eval h2))
  .cases h
 .obtain⟨y,hy,he⟩:=abd.1 h;exact lift (Qg he (hi.eval hy))
 .obtain⟨y,hy,he⟩:=abd.1 h;exact lift (Ux hg he (hi.eval hy))
 .split at h
  .rename_i f first caps hf;obtain⟨y,hy,he⟩:=AS.1 h;simp only[aa4]at he;obtain⟨rfl,rfl⟩:=he;obtain⟨hl,hr⟩:=hi.mC hy
   have EA:first = #[]:=by simpa using hf
   subst EA;refine⟨.func f #[] (caps.map a.eval),by simp[execOp,Instr.makeFunc],Gi (by simpa using hl) fun j u c hu hc=>hr j u c (by simpa using hu) hc⟩
  .split at h
   .rename_i x EC c8;obtain⟨y,hy,he⟩:=AS.1 h;simp only[aa4]at he;obtain⟨rfl,rfl⟩:=he;obtain rfl:=abI.1 (show _=(#[x]:Array Operand).toList from EC);obtain rfl:=abI.1 (show _=(#[]:Array Operand).toList from c8);exact⟨_,by simp[execOp,Instr.makeFunc],.bm (hi.eval hy)⟩
   .cases h
 .split at h
  .rename_i b a1 a2 h0 h1 h2;obtain⟨rfl,rfl⟩:=dI h;have hb:=(hi.eval h0).scalar;refine⟨if b then a.eval _ else a.eval _,by simp[execOp,hb,asBool];cases b<;>rfl,?_⟩;cases b
   .exact hi.eval h2
   .exact hi.eval h1
  .cases h
 .obtain⟨y,hy,he⟩:=abd.1 h;obtain⟨⟨ad,Jp⟩,hr⟩:=U2 he (hi.eval hy);exact⟨.pointer (some ad),by simp[execOp,Jp],by rw[<- Jp];exact hr⟩
 .rename_i t parts;obtain⟨ps,eY,he⟩:=abd.1 h;obtain⟨h1,h2⟩:=hi.lG eY;refine lift (O4 (vs:=parts.map fun p=>(p.1,a.eval p.2)) hg he (by simpa using h1) fun i p v hp hv=>h2 i p v hp ?_);rw[<- abc]at hv;simpa using hv
 .split at h
  .rename_i hs;obtain⟨y,hy,he⟩:=abd.1 h;exact lift (Pq hg hs he hc (hi.eval hy))
  .cases h
 .split at h
  .rename_i mx ix;split at h
   .rename_i v l hh h1 h2 h3
    cases mx with
    | some _=>simp at ix
    | none=>exact lift (WU hg hi.bo h hc (hi.eval h1) (hi.bound h2) (hi.bound h3))
   .cases h
  .cases h
 .obtain⟨y,hy,he⟩:=abd.1 h;exact lift (OL hg he (hi.eval hy))
 .split at h
  .rename_i h1 h2;exact lift (Us hg hi.bo h hc (hi.eval h1) (hi.eval h2))
  .cases h
 .split at h
  .rename_i args argTypes _ _ x0 t ha ht;obtain⟨y,hy,he⟩:=abd.1 h;obtain⟨r,hr,gp⟩:=Uj (ty:=type) hg he (hi.eval hy);have e1:args = #[x0]:=abI.1 ha;have e2:argTypes = #[t]:=abI.1 ht;subst e1 e2;exact⟨r,by simp[execOp,resolve,invoke,builtin,hr],gp⟩
  .cases h
 .split at h
  .rename_i args _ _ x0 y0 ha;split at h
   .rename_i k a0 k' b0 h1 h2;obtain⟨rfl,rfl⟩:=dI h;have e1:=(hi.eval h1).scalar;have e2:=(hi.eval h2).scalar;have e0:args = #[x0,y0]:=abI.1 ha;subst e0;exact⟨_,by simp[execOp,resolve,invoke,builtin,Builtin.max_,Builtin.max2,e1,e2],.d (.v _)⟩
   .cases h
  .cases h
 .split at h
  .rename_i args _ _ x0 y0 ha;split at h
   .rename_i k a0 k' b0 h1 h2;obtain⟨rfl,rfl⟩:=dI h;have e1:=(hi.eval h1).scalar;have e2:=(hi.eval h2).scalar;have e0:args = #[x0,y0]:=abI.1 ha;subst e0;exact⟨_,by simp[execOp,resolve,invoke,builtin,Builtin.min_,Builtin.min2,e1,e2],.d (.v _)⟩
   .cases h
  .cases h
 .cases h
theorem RV.Ca {u:Value} {x:AV} {r:Nat} (h:RV w X μ u x) (hr:μ r=none):x.kill r=x:=by
 have bl:∀ (l:List AV),(∀ c∈l,c.kill r=c)->l.map (AV.kill r)=l:=by
  intro l hl
  induction l with
  | nil=>rfl
  | cons c l ih=>simp only[abj];rw[hl c al,ih fun c hc=>hl c (by simp[hc])]
 have arr:∀ (arr:Array Value) (cells:List AV),arr.size=cells.length->(∀ (j:Nat) (u:Value) (c:AV),arr[j]? = some u->cells[j]? = some c->c.kill r=c)->cells.map (AV.kill r)=cells:=by
  intro arr cells hn hh;refine bl cells fun c hc=>?_;obtain⟨j,hj,rfl⟩:=abv.1 hc;exact hh j arr[j] _ (by simp[hn,hj]) (by simp[hj])
 induction h with
 | d h=>rfl
 | own hm _=>
  rename_i u q off n m;unfold AV.kill;rw[if_neg];intro e;subst e;rw[hr]at hm;cases hm
 | ref hm _=>
  rename_i q e j b m;unfold AV.kill;rw[if_neg];intro e;subst e;rw[hr]at hm;cases hm
 | agg hn _ ih=>rw[AV.kill,AV.go_eq,arr _ _ hn ih]
 | bI hn _ ih=>rw[AV.kill,AV.go_eq,arr _ _ hn ih]
 | b6 _ ih=>rw[AV.kill,ih]
 | bm _ ih=>rw[AV.kill,ih]
 | fn hn _ ih=>rw[AV.kill,AV.go_eq,arr _ _ hn ih]
 | mp hm _=>
  rename_i q b m;unfold AV.kill;rw[if_neg];intro e;subst e;rw[hr]at hm;cases hm
 | dead u=>rfl
theorem In.Ca (hi:In w X G μ N a σ) {r:Nat} (hr:σ.H r=none):dN r σ.env=σ.env/\dO r σ.H=σ.H:=by
 have hn:=hi.bo.u1 hr;constructor
 .funext i;unfold dN
  cases he:σ.env i with
  | none=>rfl
  | some x=>
   obtain⟨u,_,hx⟩:=hi.env.slot i x he;simp[hx.Ca hn]
 .funext q;unfold dO
  cases hq:σ.H q with
  | none=>rfl
  | some row=>
   obtain⟨m,hm,ok⟩:=hi.bo.rows q row hq
   cases ok with
   | nil=>rfl
   | sl=>rfl
   | mp=>rfl
   | it=>rfl
   | box hb bc hc hh qw jE wG=>
    rename_i ty b cells cur
    have:cells.map (AV.kill r)=cells:=by
     have:=(RV.agg (w:=w) (X:=X) (μ:=μ) (arr:=(cur.toList.take cells.length).toArray) (cells:=cells) (by simp;omega) fun j u c hu hc=>jE j u c (by
      have mO:(cur.toList.take cells.length)[j]? = some u:=by simpa using hu
      rw[abf]at mO;split at mO
      .simpa using mO
      .cases mO) hc).Ca hn
     rw[AV.kill,AV.go_eq]at this;exact AV.agg.inj this
    simp[Row.kill,this]
theorem ZH (hg:Good P T) (hi:In w X G μ N a σ) {o:Oper} {c:Prop} {x:AV} {bz:St} (h:wr T G Mv σ o=some (c,x,bz)) (hc:c) (hd:∀ d,o.dst=some d->d < N.n) :
  ∃ n v w' aK,(execOp a.eval o).run P w = .ok n w'/\(n = .value v\/(n = .skip/\v=undef))/\In w' X G aK N a bz/\RV w' X aK v x/\Ev Mv w μ w' aK:=by
 have lift:∀ {s:Sem Value} {x:AV} {bz:St},mo Mv X G N w μ a (s.run P w) x bz->∃ n v w' aK,(do pure (.value (<- s)):Sem Next).run P w = .ok n w'/\(n = .value v\/(n = .skip/\v=undef))/\In w' X G aK N a bz/\RV w' X aK v x/\Ev Mv w μ w' aK:=by
  rintro s x bz ⟨v,w',aK,hr,rest⟩;exact⟨.value v,v,w',aK,by simp[hr],.inl rfl,rest⟩
 obtain⟨dst,op,type,pos,after,guard⟩:=o;dsimp only at h hd;unfold wr at h;dsimp only at h;split at h
 .split at h
  .rename_i ti ht;obtain⟨rfl,rfl,rfl⟩:=lU h;exact lift (Oi hg hi hc ht)
  .cases h
 .split at h
  .rename_i cs cK;obtain⟨y,hy,he⟩:=abd.1 cK;obtain⟨rfl,rfl,rfl⟩:=lU h;exact lift (O3 hi hc (hi.eval hy) he)
  .cases h
 .split at h
  .rename_i r e j v h1 h2;split at h
   .rename_i ty cells hH;split at h
    .rename_i he;subst he;split at h
     .rename_i c' sD hs;obtain⟨rfl,rfl,rfl⟩:=lU h;obtain⟨w',hr,bn,br⟩:=YD (Mv:=Mv) hg hi hH hs hc (hi.eval h1) (hi.eval h2);exact⟨.skip,undef,w',μ,by simp[execOp,hr],.inr ⟨rfl,rfl⟩,bn,.dead _,br⟩
     .cases h
    .cases h
   .rename_i ty sz els hH;split at h
    .rename_i c' mB hs;obtain⟨rfl,rfl,rfl⟩:=lU h;obtain⟨w',hr,bn,br⟩:=YE (Mv:=Mv) hg hi hH hs hc (hi.eval h1) (hi.eval h2);exact⟨.skip,undef,w',μ,by simp[execOp,hr],.inr ⟨rfl,rfl⟩,bn,.dead _,br⟩
    .cases h
   .cases h
   .cases h
   .cases h
  .cases h
 .split at h
  .rename_i tt dY;split at h
   .rename_i e dM;split at h
    .rename_i te kn n km m cH h1 h2;obtain⟨rfl,rfl,rfl⟩:=lU h;obtain⟨g1,g2,g3,g4,g5,g6,g7⟩:=hc;have:=Uw (Mv:=Mv) hg hi g1 dY dM cH (k1:=kn) (k2:=km) g2 g3 g4 g5 g6 g7;rw[<- (hi.eval h1).scalar,<- (hi.eval h2).scalar]at this;exact lift this
    .cases h
   .cases h
  .cases h
 .split at h
  .rename_i tt dY;split at h
   .rename_i e dM;split at h
    .rename_i te ps cH eY;split at h
     .rename_i els rG;obtain⟨rfl,rfl,rfl⟩:=lU h;obtain⟨g1,g2,g3,g4⟩:=hc;obtain⟨hv,hr⟩:=hi.lG eY;exact lift (O5 (Mv:=Mv) hg hi g1 dY dM cH rG g2 (by simpa using hv) (fun i p v h1 h2=>hr i p v h1 (by simpa using h2)) g3 g4)
     .cases h
    .cases h
   .cases h
  .cases h
 .split at h
  .rename_i args argTypes d _ _ x0 y0 t t' ha ht;have e1:args = #[x0,y0]:=abI.1 ha;have e2:argTypes = #[t,t']:=abI.1 ht;subst e1 e2;split at h
   .rename_i S1;subst S1
    have run_eq:∀ {x:AV} {bz:St},mo Mv X G N w μ a ((Builtin.append_ #[t,t] type #[a.eval x0,a.eval y0]).run P w) x bz->∃ n v w' aK,(execOp a.eval { dst:=some d,op:=.call { callee:=.builtin .append,args:=⟨[x0,y0]⟩,argTypes:=⟨[t,t]⟩ },type:=type,pos:=pos,after:=after,guard:=guard }).run P w = .ok n w'/\(n = .value v\/(n = .skip/\v=undef))/\In w' X G aK N a bz/\RV w' X aK v x/\Ev Mv w μ w' aK:=by
     rintro x bz ⟨v,w',aK,hr,rest⟩;exact⟨.value v,v,w',aK,by simp[execOp,resolve,invoke,builtin,hr],.inl rfl,rest⟩
    split at h
    .rename_i tt dY;split at h
     .rename_i e dM;split at h
      .rename_i te r off n v cH h1 h2;split at h
       .rename_i ty sz els news hH hn;obtain⟨rfl,rfl,rfl⟩:=lU h;obtain⟨rfl,g1,rfl,rfl,g2,g3,g4,g5,g6,g7,g8⟩:=hc;exact run_eq (HW (Mv:=Mv) hg hi g1 dY dM cH hH g2 (hi.eval h1) (B4 hi.bo (hi.eval h2) hn g3 g5 g4) g5 g6 (by unfold maxLen;omega) g8)
       .cases h
      .rename_i te v cH h1 h2;split at h
       .rename_i news hn;obtain⟨rfl,rfl,rfl⟩:=lU h;obtain⟨g0,g1,g3,g4,g5,g6,g7,g8⟩:=hc;obtain⟨bn,br⟩:=hi.alloc (Mv:=Mv) g0 (cT.refl w) (m:=⟨none,te.size,0⟩) al (row:=.sl e te.size []) fun _=>.nil rfl rfl
        have hu:RV w X (eo μ d ⟨none,te.size,0⟩) (a.eval x0) (.own d 0 0):=by
         have:=(hi.eval h1).data.oT
         rcases this with⟨hh,_⟩ | ⟨ad,cap,hh,hk,_⟩
         .rw[hh];exact .own (m:=⟨none,te.size,0⟩) (by simp[eo]) (.inl ⟨rfl,rfl,rfl,rfl⟩)
         .exact absurd rfl hk
        have qw:lk (bk σ.H d (.sl e te.size [])) d v=some news:=by
         unfold lk at hn ⊢
         split at hn<;>first | exact hn | skip
         rename_i q off n;split at hn
         .cases hn
         .rename_i hq;rw[if_neg hq];simpa[bk,hq]using hn
        have wC:RV w X (eo μ d ⟨none,te.size,0⟩) (a.eval y0) v:=by
         refine (hi.eval h2).same br fun q m hq=>?_;unfold eo;split
         .rename_i e';subst e';rw[hi.bo.u1 g0]at hq;cases hq
         .exact hq
        have x6:=HW (Mv:=Mv) (ty:=type) hg bn g1 dY dM cH (r:=d) (n:=0) (els:=[]) (news:=news) (by simp[bk]) al hu (B4 bn.bo wC qw g3 g5 g4) g5 g6 (by unfold maxLen;omega) (by simpa using g8);obtain⟨v',w',aK,hr,v8,gp,oC⟩:=x6;refine run_eq ⟨v',w',aK,hr,?_,by simpa using gp,br.trans oC⟩;obtain⟨k1,k2⟩:=hi.Ca g0
        have e1:dO d (bk σ.H d (.sl e te.size []))=bk σ.H d (.sl e te.size []):=by
         funext q;by_cases hq:q=d
         .simp[dO,bk,hq,Row.kill]
         .have:=congrFun k2 q;simpa[dO,bk,hq]using this
        have e2:bk (bk σ.H d (.sl e te.size [])) d (.sl e te.size ([].take 0 ++ news))=bk σ.H d (.sl e te.size news):=by
         funext q;by_cases hq:q=d<;>simp[bk,hq]
        dsimp only at v8;rw[k1,e1,e2]at v8;exact v8
       .cases h
      .cases h
     .cases h
    .cases h
   .unfold G6 at h;split at h
    .rename_i tt ts dY qB;split at h
     .rename_i e dM ld;split at h
      .rename_i te r off n s cH h1 h2;split at h
       .rename_i ty sz els hH;obtain⟨rfl,rfl,rfl⟩:=lU h;obtain⟨rfl,g1,rfl,rfl,g2,g3,g4,g5,g6⟩:=hc;have hv:a.eval y0 = .string s:=(hi.eval h2).scalar;obtain⟨v,w',aK,hr,rest⟩:=OD (Mv:=Mv) (ty:=type) hg hi g1 dY dM qB ld cH hH g2 (hi.eval h1) g3 g4 g5 g6;exact⟨.value v,v,w',aK,by simp[execOp,resolve,invoke,builtin,hv,hr],.inl rfl,rest⟩
       .cases h
      .cases h
     .cases h
    .cases h
  .cases h
 .split at h
  .rename_i args argTypes d _ _ x0 y0 t t' ha ht;have e1:args = #[x0,y0]:=abI.1 ha;have e2:argTypes = #[t,t']:=abI.1 ht;subst e1 e2;split at h
   .rename_i tt dY;split at h
    .rename_i e dM;split at h
     .rename_i te r off n v cH h1 h2;split at h
      .rename_i ty sz els news hH hn;obtain⟨rfl,rfl,rfl⟩:=lU h;obtain⟨rfl,rfl,g1,g2,g3,g4,g5⟩:=hc;obtain⟨v,w',aK,hr,rest⟩:=Pr (Mv:=Mv) (ty:=type) (t':=t') hg hi dY dM cH g1 hH g2 g3 (hi.eval h1) (M4 hi.bo (hi.eval h2) hn g4 aa g5);exact⟨.value v,v,w',aK,by simp[execOp,resolve,invoke,builtin,hr],.inl rfl,rest⟩
      .cases h
     .rename_i te kq v cH h1 h2;split at h
      .rename_i news hn;obtain⟨rfl,rfl,rfl⟩:=lU h;obtain⟨g4,g5,g6⟩:=hc;obtain⟨v,w',aK,hr,rest⟩:=Ps (Mv:=Mv) (ty:=type) (t':=t') hg hi dY dM cH (hi.eval h1) (M4 hi.bo (hi.eval h2) hn g4 g5 g6);exact⟨.value v,v,w',aK,by simp[execOp,resolve,invoke,builtin,hr],.inl rfl,rest⟩
      .cases h
     .cases h
    .cases h
   .cases h
  .cases h
 .obtain⟨rfl,rfl,rfl⟩:=lU h;exact lift (Uy hi hc _)
 .split at h
  .rename_i r key x h1 h2 h3;split at h
   .rename_i ty ents hH;split at h
    .rename_i c' lF hp;obtain⟨rfl,rfl,rfl⟩:=lU h;obtain⟨w',hr,bn,br⟩:=Lk (Mv:=Mv) hg hi hH hp hc (hi.eval h1) (hi.eval h2) (hi.eval h3);exact⟨.skip,undef,w',μ,by simp[execOp,hr],.inr ⟨rfl,rfl⟩,bn,.dead _,br⟩
    .cases h
   .cases h
  .cases h
 .split at h
  .rename_i r key x h1 h2 h3;split at h
   .rename_i ty ents hH;split at h
    .rename_i c' lF hp;obtain⟨rfl,rfl,rfl⟩:=lU h;obtain⟨w',hr,bn,br⟩:=Lk (Mv:=Mv) hg hi hH hp hc (hi.eval h1) (hi.eval h2) (hi.eval h3);exact⟨.skip,undef,w',μ,by simp[execOp,hr],.inr ⟨rfl,rfl⟩,bn,.dead _,br⟩
    .cases h
   .cases h
  .cases h
 .cases h
end
end Go.Av
namespace Go.Av
def fU (P:Program) (g:FuncId):Prop:=∀ (args:Array Value) (w:World),(callFunc g args).run P w = .ok (.enter g args) w
theorem fU.of {P:Program} {g:FuncId} {fn:Func} {c:Code} (h:P.funcs[g]? = some fn) (hb:fn.body=some c) (hn:(fn.name == "runtime.NumGoroutine")=false):fU P g:=by
 intro args w;simp only[callFunc,Sem.run_bind,run_program,Result.andThen_ok,h,hn,abh,if_false];simp[hb]
def dA:AV:=.d (.v undef)
def A4 (ops:Array Oper) (e:Env) (j:Nat):Option (Option Bool):=match (ops[j]?).bind (·.dst) with
 | some d=>match e d with
  | some (.d (.v (.bool b)))=>some (some b)
  | some (.d (.v (.tuple _)))=>some none
  | _=>none
 | none=>none
def jK (ops:Array Oper) (e:Env) (o:Oper):Option Bool:=match o.guard with
 | none=>some true
 | some (j,want)=>(A4 ops e j).map (· == some want)
def lx (G:aF) (e:Env) (c:Call):Option (FuncId×List AV):=match c.callee with
 | .value f=>match bG G e f,mC G e c.args.toList with
  | some (.d (.fn (.func g) caps)),some xs=>some (g,xs ++ caps.map .d)
  | some (.fn (.func g) caps),some xs=>some (g,xs ++ caps)
  | some (.bm g x),some xs=>some (g,x :: xs)
  | _,_=>none
 | _=>none
def kD (P:Program) (Mv X:Nat->Prop) (G:aF) (N:Fr) (g:FuncId) (xs:List AV) (σ:St) (K:AV->St->Prop):Prop:=
 fU P g/\∀ w μ a (vs:Array Value),In w X G μ N a σ->vs.size=xs.length->(∀ (i:Nat) (u:Value) (x:AV),vs[i]? = some u->xs[i]? = some x->RV w X μ u x)->
  Calls P g vs w fun e w'=>∃ v x aP aK,e = .returned v/\K x aP/\In w' X G aK N a aP/\RV w' X aK v x/\Ev Mv w μ w' aK
theorem kD.mono {P:Program} {Mv X:Nat->Prop} {G:aF} {N:Fr} {g:FuncId} {xs:List AV} {σ:St} {K K':AV->St->Prop} (h:kD P Mv X G N g xs σ K) (hk:∀ x aP,K x aP->K' x aP):kD P Mv X G N g xs σ K':=
 ⟨h.1,fun w μ a vs hi hn hv=>(h.2 w μ a vs hi hn hv).mono fun _ _ ⟨v,x,aP,aK,he,k,rest⟩=>⟨v,x,aP,aK,he,hk _ _ k,rest⟩⟩
def gq:Op->Bool
 | .alloc _=>true
 | .box _ _=>true
 | .store _ _ _=>true
 | .makeSlice _ _ _=>true
 | .buildSlice _ _ _=>true
 | .makeMap _ _=>true
 | .mapUpdate _ _ _ _=>true
 | .insert _ _ _ _=>true
 | .call { callee:=.builtin .append,.. }=>true
 | .call { callee:=.builtin .copy,.. }=>true
 | _=>false
def eH:Op->Option Call
 | .call { callee:=.value f,args,argTypes }=>some { callee:=.value f,args,argTypes }
 | _=>none
def oQ (T:Ty) (G:aF) (Mv:Nat->Prop) (o:Oper) (σ:St) (K:St->Prop):Prop:=
 if gq o.op then match wr T G Mv σ o with
  | some (c,x,aP)=>c/\K ⟨aR aP.env o.dst x,aP.H⟩
  | none=>False
 else match rd T G σ o.op with
  | some (c,x)=>c/\K ⟨aR σ.env o.dst x,σ.H⟩
  | none=>False
def lH (P:Program) (T:Ty) (Mv X:Nat->Prop) (G:aF) (N:Fr) (o:Oper) (σ:St) (K:St->Prop):Prop:=match eH o.op with
 | some c=>match lx G σ.env c with
  | some (g,xs)=>kD P Mv X G N g xs σ fun x aP=>K ⟨aR aP.env o.dst x,aP.H⟩
  | none=>False
 | none=>oQ T G Mv o σ K
def iy (N:Fr) (o:Oper):Prop:=match o.dst with
 | some d=>d < N.n
 | none=>True
section
variable {P:Program} {T:Ty} {Mv X:Nat->Prop} {G:aF} {N:Fr} {w:World} {μ:Mu} {a:Act} {σ:St}
theorem vl (hi:In w X G μ N a σ) {ops:Array Oper} {o:Oper} {b:Bool} (h:jK ops σ.env o=some b):Region.wanted o (yielded ops a.tmps)=b:=by
 unfold jK at h;unfold Region.wanted;split at h
 .rename_i hg;obtain rfl:=AI h;simp[hg]
 .rename_i j want hg;obtain⟨b',hb,rfl⟩:=AS.1 h;simp only[hg];unfold A4 at hb;split at hb
  .rename_i d hd;split at hb
   .rename_i b2 he;obtain rfl:=AI hb;obtain⟨u,hu,hr⟩:=hi.env.slot d _ he;obtain rfl:=hr.scalar;simp[yielded,hd,hu]
   .rename_i he;obtain rfl:=AI hb;obtain⟨u,hu,hr⟩:=hi.env.slot d _ he;obtain rfl:=hr.scalar;simp[yielded,hd,hu]
   .cases hb
  .cases hb
theorem Y0 (hi:In w X G μ N a σ) {o:Oper} {c:Call} {g:FuncId} {xs:List AV} (ho:o.op = .call c) (h:lx G σ.env c=some (g,xs)) :
  ∃ vs:Array Value,(execOp a.eval o).run P w=(callFunc g vs).run P w/\vs.size=xs.length/\∀ (i:Nat) (u:Value) (x:AV),vs[i]? = some u->xs[i]? = some x->RV w X μ u x:=by
 unfold lx at h;split at h
 .rename_i f hf
  have key:∀ (caps:List AV) (arr:Array Value) (ys:List AV),a.eval f = .func (.func g) #[] arr->arr.size=caps.length->(∀ (j:Nat) (u:Value) (c:AV),arr[j]? = some u->caps[j]? = some c->RV w X μ u c)->mC G σ.env c.args.toList=some ys->xs=ys ++ caps->
    ∃ vs:Array Value,(execOp a.eval o).run P w=(callFunc g vs).run P w/\vs.size=xs.length/\∀ (i:Nat) (u:Value) (x:AV),vs[i]? = some u->xs[i]? = some x->RV w X μ u x:=by
   intro caps arr ys uj hn hr hy hx;obtain⟨hl,hv⟩:=hi.mC hy;refine⟨c.args.map a.eval ++ arr,?_,?_,fun i u x hu lP=>?_⟩
   .simp[execOp,ho,resolve,hf,uj,Deferred.ofValue,invoke]
   .simp only[abq,abO]at hl;subst hx;simp[hl,hn]
   .subst hx
    have eX:(c.args.map a.eval).size=ys.length:=by simpa using hl
    rw[Array.getElem?_append]at hu;rw[ach]at lP;split at hu
    .rename_i h1;rw[if_pos aa]at lP;exact hv i u x (by rw[<- Array.toList_map,abc];exact hu) lP
    .rename_i h1;rw[if_neg aa]at lP;rw[eX]at hu;exact hr _ u x hu lP
  split at h
  .rename_i g' caps ys he hy;obtain⟨rfl,rfl⟩:=dI h;obtain⟨arr,uj,hn,hr⟩:=(hi.eval he).data.vO;exact key (caps.map .d) arr ys uj (by simpa using hn) (RV.wV hr) hy rfl
  .rename_i g' caps ys he hy;obtain⟨rfl,rfl⟩:=dI h;obtain⟨arr,uj,hn,hr⟩:=(hi.eval he).vO;exact key caps arr ys uj hn hr hy rfl
  .rename_i g' y ys he hy;obtain⟨rfl,rfl⟩:=dI h;obtain⟨v,uj,hr⟩:=(hi.eval he).O0;obtain⟨hl,hv⟩:=hi.mC hy;refine⟨#[v] ++ c.args.map a.eval,?_,?_,fun i u x hu lP=>?_⟩
   .simp[execOp,ho,resolve,hf,uj,Deferred.ofValue,invoke]
   .simp only[abq,abO]at hl;simp[hl];omega
   .cases i with
    | zero=>
     rw[abM al]at hu;simp at hu lP;subst hu lP;exact hr
    | succ i=>
     rw[List.getElem?_cons_succ]at lP;rw[Array.getElem?_append_right al]at hu;simp only[acp,aa9,abX,abe,Nat.add_sub_cancel]at hu;exact hv i u x (by rw[<- Array.toList_map,abc];exact hu) lP
  .cases h
 .cases h
theorem xK (hg:Good P T) (hi:In w X G μ N a σ) {o:Oper} {K:St->Prop} (hd:∀ d,o.dst=some d->d < N.n) (h:lH P T Mv X G N o σ K) {Q:Exit->Act->World->Prop} {next:Act->World->Prop}
  (hk:∀ w' aK a' aP,K aP->In w' X G aK N a' aP->Ev Mv w μ w' aK->next a' w'):o.wpIn (wd N.ro) 0 P a w next Q:=by
 refine CY (fun c e=>by simp[lH,e,eH,oQ,gq,rd]at h) ?_;unfold lH at h;split at h
 .rename_i c hc
  have ho:o.op = .call c:=by
   unfold eH at hc;split at hc
   .rename_i jU;rw[jU];obtain rfl:=AI hc;rfl
   .cases hc
  split at h
  .rename_i g xs ht;obtain⟨vs,hr,hn,hv⟩:=Y0 (P:=P) hi ho ht;obtain⟨JD,eL⟩:=h;unfold Oper.wp;rw[hr,JD vs w];refine (eL w μ a vs hi hn hv).mono fun e w' ⟨v,x,aP,aK,he,k,bn,gp,br⟩=>?_;subst he;exact hk _ aK _ _ k (bn.put gp hd) br
  .exact h.elim
 .unfold oQ at h;split at h
  .split at h
   .rename_i c x aP hw;obtain⟨hc,k⟩:=h;obtain⟨n,v,w',aK,hr,hn,bn,gp,br⟩:=ZH (Mv:=Mv) hg hi hw hc hd;unfold Oper.wp;rw[hr]
    rcases hn with rfl | ⟨rfl,rfl⟩
    .exact hk _ aK _ _ k (bn.put gp hd) br
    .exact hk _ aK _ _ k (bn.put gp hd) br
   .exact h.elim
  .split at h
   .rename_i c x hw;obtain⟨hc,k⟩:=h;obtain⟨v,hr,gp⟩:=Cm hg hi hw hc;unfold Oper.wp;rw[hr];exact hk _ μ _ _ k (hi.put gp hd) (.refl _ w μ)
   .exact h.elim
def aH (P:Program) (G:aF) (g:FuncId) (ds:List D) (y:D):Prop:=
 fU P g/\∀ X,HB P (fun _=>True) X G g (ds.map .d) eQ fun x H'=>x = .d y/\H'=eQ
theorem eu.none {X':Nat->Prop} (h:∀ b,X' b->b < w.heap.size):eu w X' (fun _=>.none) eQ:=
 ⟨by simp[eQ],al,al,al,h⟩
theorem RD.sub {X X':Nat->Prop} (h:∀ b,X' b->X b) {u:Value} {x:D} (hr:RD w X u x):RD w X' u x:=hr.mono (aa8 _) fun b _ hb=>⟨rfl,fun e=>hb (h b e)⟩
theorem nj {X:Nat->Prop} {b:Nat}:XX X (fun _=>none) b↔X b:=⟨fun h=>h.elim id (fun ⟨_,_,h,_⟩=>(by cases h)),.inl⟩
theorem Ev.pA {Mv:Nat->Prop} {w w':World} {aK:Mu} (h:Ev Mv w (fun _=>none) w' aK):cT w w':=⟨h.size,h.os,h.tape,h.output,fun b hb=>(h.same b hb fun ⟨_,_,h,_⟩=>by cases h).1⟩
theorem kD.pure {g:FuncId} {ds:List D} {y:D} (hc:aH P G g ds y) {K:AV->St->Prop} (h:K (.d y) σ):kD P Mv X G N g (ds.map .d) σ K:=by
 refine⟨hc.1,fun w μ a vs hi hn hv=>?_⟩;refine (hc.2 (XX X μ) w (fun _=>none) vs (eu.none fun b hb=>hb.elim (hi.bo.fits b) hi.bo.lB) (fun g x hx=>(hi.iu g x hx).sub fun b=>nj.1) hn fun i u x hu hx=>?_).mono ?_
 .rw[aa3]at hx;obtain⟨d,hd,rfl⟩:=AS.1 hx;exact .d ((hv i u (.d d) hu (by rw[aa3,hd];rfl)).data.sub fun b=>nj.1)
 .rintro e w' ⟨v,x,H',aK,rfl,⟨rfl,rfl⟩,hr,hs,br⟩;have hg:=br.pA;obtain⟨bn,yi⟩:=hi.pA (Mv:=Mv) hg;refine⟨v,.d y,σ,μ,rfl,h,bn,.d (hr.data.sub fun b hb=>.inl hb),yi⟩
def kB (f:AV->Option D):List AV->Option (List D)
 | []=>some []
 | x :: l=>match f x,kB f l with
  | some y,some ys=>some (y :: ys)
  | _,_=>none
def np:List (Value×D)->Option (List (Value×Value))
 | []=>some []
 | (k,.v x) :: l=>(np l).map fun r=>(k,x) :: r
 | _ :: _=>none
theorem HV:∀ {l:List (Value×D)} {r:List (Value×Value)},np l=some r->l.length=r.length/\∀ (i:Nat) (p:Value×Value),r[i]? = some p->l[i]? = some (p.1,.v p.2)
 | [],r,h=>by simp only[np,BY]at h;subst h;exact⟨rfl,al⟩
 | (k,.v x) :: l,r,h=>by
  simp only[np]at h;obtain⟨r',h1,rfl⟩:=AS.1 h;obtain⟨h2,h3⟩:=HV h1;refine⟨by simp[h2],fun i p hp=>?_⟩
  cases i with
  | zero=>simp at hp;subst hp;rfl
  | succ i=>exact h3 i p (by simpa using hp)
 | (k,.sl _ _) :: l,r,h=>by simp[np]at h
 | (k,.ip _) :: l,r,h=>by simp[np]at h
 | (k,.agg _) :: l,r,h=>by simp[np]at h
 | (k,.bI _) :: l,r,h=>by simp[np]at h
 | (k,.b6 _ _) :: l,r,h=>by simp[np]at h
 | (k,.fn _ _) :: l,r,h=>by simp[np]at h
 | (k,.nW _) :: l,r,h=>by simp[np]at h
 | (k,.dm _ _) :: l,r,h=>by simp[np]at h
def fg (H:Heap):Nat->AV->Option D
 | _,.d x=>some x
 | 0,_=>none
 | _+1,.own r off n=>match H r with
  | some (.sl _ _ els)=>if off+n<=els.length then some (.sl none ((els.drop off).take n)) else none
  | _=>none
 | k+1,.ref r e j=>match H r with
  | some (.box _ cells)=>if e=0 then (kB (fg H k) (cells.drop j)).map .ip else none
  | _=>none
 | k+1,.agg cells=>(kB (fg H k) cells).map .agg
 | k+1,.fn f caps=>(kB (fg H k) caps).map (.fn f)
 | k+1,.bI cells=>(kB (fg H k) cells).map .bI
 | k+1,.b6 t x=>(fg H k x).map (.b6 t)
 | _+1,.mp r=>match H r with
  | some (.mp _ ents)=>(np ents).map (.dm false)
  | _=>none
 | _,_=>none
theorem RD.tJ {u:Value} {k:Option Bool} {els:List (List D)} (h:RD w X u (.sl k els)):RD w X u (.sl none els):=by
 rcases h.oT with⟨rfl,rfl,_⟩ | ⟨a,cap,rfl,_,hc,hm,hr⟩
 .exact .nil al
 .rcases hr with rfl | ⟨b,off,sz,f,rfl,hX,hz,hs,dW,jE⟩
  .exact .empty al hm
  .by_cases h0:els=[]
   .subst h0;exact .empty al hm
   .exact .sl al rfl hc hm hX hs hz (abG.2 h0) dW jE
theorem Dl {f:AV->Option D}:∀ {l:List AV} {ds:List D},kB f l=some ds->l.length=ds.length/\∀ (j:Nat) (x:AV) (d:D),l[j]? = some x->ds[j]? = some d->f x=some d:=by
 intro l
 induction l with
 | nil=>intro ds h;simp only[kB,BY]at h;subst h;exact⟨rfl,al⟩
 | cons x l ih=>
  intro ds h;simp only[kB]at h;split at h
  .rename_i y ys h1 h2;obtain rfl:=AI h;obtain⟨hl,hr⟩:=ih h2;refine⟨by simp[hl],fun j x' d hx hd=>?_⟩
   cases j with
   | zero=>simp at hx hd;subst hx hd;exact h1
   | succ j=>simp at hx hd;exact hr j x' d hx hd
  .cases h
theorem Dk {H:Heap} (hs:eu w X μ H):∀ (k:Nat) {x:AV} {d:D} {u:Value},fg H k x=some d->RV w X μ u x->RD w X u d:=by
 intro k
 induction k with
 | zero=>
  intro x d u h hu;cases x<;>simp only[fg,BY,reduceCtorEq]at h;subst h;exact hu.data.sub fun b hb=>.inl hb
 | succ k ih=>
  intro x d u h hu
  have many:∀ {l:List AV} {ds:List D} {arr:Array Value},kB (fg H k) l=some ds->arr.size=l.length->(∀ (j:Nat) (u:Value) (c:AV),arr[j]? = some u->l[j]? = some c->RV w X μ u c)->
    arr.size=ds.length/\∀ (j:Nat) (u:Value) (c:D),arr[j]? = some u->ds[j]? = some c->RD w X u c:=by
   intro l ds arr hd hn hr;obtain⟨hl,hf⟩:=Dl hd;refine⟨aa,fun j u c hu hc=>?_⟩;have hj:=(By.1 hc).1
   have fH:j < l.length:=aa
   exact ih (hf j l[j] c (by simp[fH]) hc) (hr j u _ hu (by simp[fH]))
  cases x with
  | d x=>
   simp only[fg,BY]at h;subst h;exact hu.data.sub fun b hb=>.inl hb
  | own r off n=>
   simp only[fg]at h;split at h
   .rename_i ty sz els hr;split at h
    .rename_i hle;obtain rfl:=AI h;obtain⟨kk,cm,_⟩:=Gz (σ:=⟨fun _=>none,H⟩) hs hr hle hu;exact (cm.sub fun b hb=>.inl hb).tJ
    .cases h
   .cases h
  | ref r e j=>
   simp only[fg]at h;split at h
   .rename_i ty cells hr;split at h
    .rename_i he;subst he;obtain⟨ds,hd,rfl⟩:=AS.1 h;obtain⟨m,b,hm,hb,rfl⟩:=hu.jd;obtain⟨m',cD,ok⟩:=hs.rows r _ hr;rw[hm]at cD;obtain rfl:=AI cD
     cases ok with
     | box bp bc jl hh hn jE wG=>
      rename_i b' cur;rw[hb]at bp;obtain rfl:=AI bp;obtain⟨hl,hf⟩:=Dl hd;simp only[abp]at hl;simp only[ab6,abe];refine .ip (f:=fun i=>cur.getD (j+i) undef) (hs.frame r m b hm hb) (aa1.1 hh).1 (fun i hi=>?_) fun i d iw=>?_
      .rw[cell_of_row w b (j+i) cur ty (0,0) hh];simp[aa2,show j+i < cur.size by omega]
      .have hi:=(By.1 iw).1
       have eO:j+i < cells.length:=aa
       have jB:j+i < cur.size:=aa
       refine ih (hf i cells[j+i] d (by rw[abB];simp[eO]) iw) (jE (j+i) _ _ ?_ (by simp[eO]));simp[aa2,jB]
    .cases h
   .cases h
  | agg cells=>
   simp only[fg]at h;obtain⟨ds,hd,rfl⟩:=AS.1 h;obtain⟨arr,rfl,hn,hr⟩:=hu.qc;obtain⟨h1,h2⟩:=many hd hn hr;exact .agg h1 h2
  | fn f caps=>
   simp only[fg]at h;obtain⟨ds,hd,rfl⟩:=AS.1 h;obtain⟨arr,rfl,hn,hr⟩:=hu.vO;obtain⟨h1,h2⟩:=many hd hn hr;exact .fn h1 h2
  | bI cells=>
   simp only[fg]at h;obtain⟨ds,hd,rfl⟩:=AS.1 h;obtain⟨arr,rfl,hn,hr⟩:=hu.xf;obtain⟨h1,h2⟩:=many hd hn hr;exact .bI h1 h2
  | b6 t x=>
   simp only[fg]at h;obtain⟨d',hd,rfl⟩:=AS.1 h;obtain⟨v,rfl,hr⟩:=hu.r4;exact .b6 (ih hd hr)
  | mp r=>
   simp only[fg]at h;split at h
   .rename_i ty ents hr;obtain⟨es,he,rfl⟩:=AS.1 h;obtain⟨m,b,hm,hb,rfl⟩:=hu.Gk;obtain⟨DQ,hh,hn,uJ,_⟩:=hs.Ge hr hm hb;obtain⟨hl,hv⟩:=HV he
    have heq:DQ=pY es:=by
     refine Array.ext (by rw[td];omega) fun i h1 h2=>?_
     have hi:i < es.length:=by rw[td]at h2;exact h2
     have h3:=hv i es[i] (by simp[hi]);obtain⟨k1,k2,k3⟩:=uJ i DQ[i] _ (by simp[h1]) h3;have k4:=k3.scalar;have h5:=Gh hi;rw[abn h2]at h5;rw[AI h5];generalize DQ[i]=e at k1 k2 k4;cases e;simp only at k1 k2 k4;rw[k1,k2,k4]
    refine .dm (hs.frame r m b hm hb) ?_ (List.Perm.refl _) al;rw[hh,heq,td]
   .cases h
  | _=>simp[fg]at h
def D.scalar:D->Bool
 | .v _=>true
 | .bI l=>l.all fun | .v _=>true | _=>false
 | _=>false
theorem RD.WI {X X':Nat->Prop} {w w':World} {u:Value} {x:D} (h:RD w X u x) (hs:x.scalar=true):RD w' X' u x:=by
 cases x with
 | v x=>obtain rfl:=h.scalar;exact .v _
 | bI l=>
  obtain⟨arr,rfl,hn,hr⟩:=h.xf;refine .bI hn fun j u c hu hc=>?_;have:=abP.1 hs c (abR hc)
  cases c with
  | v x=>obtain rfl:=(hr j u _ hu hc).scalar;exact .v _
  | _=>cases this
 | _=>cases hs
theorem kD.kU {g:FuncId} {xs:List AV} {ds:List D} {y:D} (hd:kB (fg σ.H 4) xs=some ds) (hc:aH P G g ds y) (hy:y.scalar=true) {K:AV->St->Prop} (h:K (.d y) σ):kD P Mv X G N g xs σ K:=by
 refine⟨hc.1,fun w μ a vs hi hn hv=>?_⟩;obtain⟨hl,hf⟩:=Dl hd;refine (hc.2 X w (fun _=>none) vs (eu.none hi.bo.fits) (fun g x hx=>(hi.iu g x hx).sub fun b hb=>.inl (nj.1 hb)) (by rw[abq];omega) fun i u x hu hx=>?_).mono ?_
 .rw[aa3]at hx;obtain⟨d,iw,rfl⟩:=AS.1 hx;have hj:=(By.1 iw).1
  have fH:i < xs.length:=aa
  exact .d ((Dk hi.bo 4 (hf i xs[i] d (by simp[fH]) iw) (hv i u _ hu (by simp[fH]))).sub fun b=>nj.1)
 .rintro e w' ⟨v,x,H',aK,rfl,⟨rfl,rfl⟩,hr,hs,br⟩;obtain⟨bn,yi⟩:=hi.pA (Mv:=Mv) br.pA;exact⟨v,.d y,σ,μ,rfl,h,bn,.d (hr.data.WI hy),yi⟩
end
theorem acI:type_of% @aM.eq_1:=@aM.eq_1
theorem acJ:type_of% @aG.eq_1:=@aG.eq_1
theorem acK:type_of% @aG.eq_2:=@aG.eq_2
