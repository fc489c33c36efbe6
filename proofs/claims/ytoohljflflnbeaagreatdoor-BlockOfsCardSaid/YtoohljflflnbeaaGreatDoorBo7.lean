/- Parts. -/
import Derived.Test.YtoohljflflnbeaaGreatDoorBo6
import Derived.Lib.AppendStr
set_option linter.unusedSectionVars false
set_option linter.unusedSimpArgs false
set_option linter.unusedVariables false
namespace Go.Av
def qs (s:ByteArray):List (List D):=s.data.toList.map fun b=>[D.v (.int .u8 b.toNat)]
theorem LO (s:ByteArray):(qs s).length=s.size:=by simp[qs]
section
variable {P:Program} {T:Ty} {Mv X:Nat->Prop} {G:aC} {N:Fr} {w:World} {μ:Mu} {a:Act} {σ:St}
theorem LP (s:ByteArray):Rel w X μ 1 (Lib.strCells s) (qs s):=by
 intro i j el c hi hj;unfold qs at hi;rw[agC]at hi;obtain⟨b,hb,rfl⟩:=AS.1 hi
 match j,hj with
 | 0,hj=>
  simp at hj;subst hj;exact⟨_,by simp[Lib.strCells,hb],.v _⟩
 | j+1,hj=>simp at hj
theorem adu {t t' ty e:TypeId} {tt ts te:TI} (hg:Good P T) (cL:T t=some tt) (ew:tt.desc = .slice e) (si:T t'=some ts) (mv:ts.desc = .string) (dh:T e=some te) (base:Option Addr) (n cap:Nat) (hn:n<=cap) {s:ByteArray} (gv:s.size=0) :
  (Builtin.append_ #[t,t'] ty #[.slice base n cap,.string s]).run P w = .ok (.slice base n cap) w:=by
 have hu:=hg.dN (w:=w) cL;have oQ:=hg.dN (w:=w) si;have bg:=hg.sizeOf (w:=w) dh;have hf:=Lib.run_firstCells_string (P:=P) w te.size s;have xc:Lib.strCells s=[]:=agZ (by rw[Lib.strCells_length];exact gv);rw[gv,xc]at hf;cases base<;>simp[Builtin.append_,hu,ew,oQ,mv,bg,Builtin.lenOf,hn,gv,hf,storeCells]
theorem Th (hg:Good P T) (hi:In w X G μ N a σ) {r n:Nat} (gu:Mv r) {t t' ty e:TypeId} {tt ts te:TI} (cL:T t=some tt) (ew:tt.desc = .slice e) (si:T t'=some ts) (mv:ts.desc = .string) (dh:T e=some te) {els:List (List D)} {u:Value} {s:ByteArray}
  (hH:σ.H r=some (.sl e 1 els)) (hle:n<=els.length) (hu:RV w X μ u (.own r 0 n)) (zx:te.size=1) (eM:te.bytes=1) (B3:te.zero = .int .u8 0) (hb:n+s.size<=140737488355328) :
  oo Mv X G N w μ a ((Builtin.append_ #[t,t'] ty #[u,.string s]).run P w) (.own r 0 (n+s.size)) ⟨ez r σ.env,aX (eA r σ.H) r (.sl e 1 (els.take n ++ qs s))⟩:=by
 obtain⟨m,hm,hh⟩:=hu.ma;obtain⟨m',cH,ok⟩:=hi.bu.rows r _ hH;rw[hm]at cH;obtain rfl:=AI cH;obtain⟨xn,i0,my,gv,iD,nW,_⟩:=hg e te dh;have ht:=(hg t tt cL).1;rw[ew]at ht;have vd:=(hg t' ts si).1;rw[mv]at vd
 have DZ:n+s.size<=maxLen:=by unfold maxLen;omega
 have Ol:n+s.size<=9223372036854775807:=aa
 have gX:=LO s
 have Za:∀ el∈qs s,el.length=1:=by
  intro el bz;obtain⟨b,_,rfl⟩:=ag3.1 bz;rfl
 have w6:∀ el∈els,el.length=1:=by
  cases ok with
  | nil=>simp
  | sl _ _ _ _ _ _ hl=>exact hl
 have Bx:∀ el∈els.take n ++ qs s,el.length=1:=by
  intro el bz
  rcases agN.1 bz with h | h
  .exact w6 el (agJ h)
  .exact Za el h
 by_cases bl:s.size=0
 .-- nothing is appended
  have X3:qs s=[]:=agZ (by rw[gX];exact bl)
  have oR:∃ base c,u = .slice base n c/\n<=c:=by
   rcases hh with⟨_,rfl,_,rfl⟩ | ⟨b,_,rfl,lH⟩
   .exact⟨_,_,rfl,agD _⟩
   .exact⟨_,_,rfl,aa⟩
  obtain⟨base,c',BW,Ii⟩:=oR;have dV:=adu (P:=P) (w:=w) (ty:=ty) hg cL ew si mv dh base n c' Ii bl;rw[BW,dV,X3,bl]
  obtain⟨aS,bp⟩:=hi.move (Mv:=Mv) (w':=w) (m':=m) hm gu (agD _) rfl rfl rfl (fun _ _ _=>rfl) (fun b hb=>.inr hb) (row:=.sl e 1 (els.take n ++ [])) fun ev=>by
   rw[ahm]
   cases ok with
   | nil eM dG=>rw[List.take_nil];exact .nil eM dG
   | sl g1 g2 g3 g4 g5 g6 g7 g8 g9=>
    refine .sl g1 g2 g3 g4 (by simp;omega) g6 (fun el bz=>g7 el (agJ bz)) g8 fun i j el c bz hc=>?_;rw[agP]at bz;split at bz
    .obtain⟨v,hv,cf⟩:=g9 i j el c bz hc;exact⟨v,hv,cf.ev ev⟩
    .cases bz
  refine⟨_,_,_,rfl,aS,.own (m:=m) (by simp[eB]) ?_,bp⟩;rw[<- BW];exact hh
 .have N5:0 < s.size:=aa
  have fN:(Lib.strCells s).length=s.size:=Lib.strCells_length s
  have uf:te.zero.cells.size=1:=by rw[B3];rfl
  have Ch:∀ (xs:List Value) (iU:Nat),xs.length=n->Rel w X μ 1 xs (els.take n)->n+s.size<=iU->iU<=maxLen->m.sz=1->
    oo Mv X G N w μ a (.ok (.slice (some ⟨w.heap.size,0,none⟩) (n+s.size) iU) (w.drew.alloc (.cells (xs.toArray ++ (Lib.strCells s).toArray ++ Builtin.zeroCells te.zero.cells (iU - (n+s.size))) e)))
     (.own r 0 (n+s.size)) ⟨ez r σ.env,aX (eA r σ.H) r (.sl e 1 (els.take n ++ qs s))⟩:=by
   intro xs iU jW ue gq gY BC
   have nO:cR w (w.drew.alloc (.cells (xs.toArray ++ (Lib.strCells s).toArray ++ Builtin.zeroCells te.zero.cells (iU - (n+s.size))) e)):=by
    have h1:=cR.alloc w.drew (.cells (xs.toArray ++ (Lib.strCells s).toArray ++ Builtin.zeroCells te.zero.cells (iU - (n+s.size))) e);exact⟨h1.size,h1.os,h1.tape,h1.output,h1.same⟩
   have bg:(xs.toArray ++ (Lib.strCells s).toArray ++ Builtin.zeroCells te.zero.cells (iU - (n+s.size))).size=iU * 1:=by
    simp only[Array.size_append,ahX,size_zeroCells,uf,jW,fN];omega
   obtain⟨aS,bp⟩:=hi.move (Mv:=Mv) (w':=w.drew.alloc (.cells (xs.toArray ++ (Lib.strCells s).toArray ++ Builtin.zeroCells te.zero.cells (iU - (n+s.size))) e)) (m':=⟨some w.heap.size,1,iU⟩) hm gu nO.size nO.os nO.tape nO.output
    (fun k hk _=>nO.same k hk) (fun b hb=>by simp at hb;omega) (row:=.sl e 1 (els.take n ++ qs s)) fun ev=>by
     refine .sl rfl rfl (by simpa using heap_alloc_new w.drew (.cells (xs.toArray ++ (Lib.strCells s).toArray ++ Builtin.zeroCells te.zero.cells (iU - (n+s.size))) e)) bg (by simp[gX];omega) gY Bx bO fun i j el c hi hj=>?_;have hrel:=((ue.append (by rw[jW,agM,aif hle,ahK]) (fun el bz=>w6 el (agJ bz)) (LP s)).more (l':=(Builtin.zeroCells te.zero.cells (iU - (n+s.size))).toList)) i j el c hi hj;obtain⟨v,hv,cf⟩:=hrel;refine⟨v,?_,cf.ev ev⟩;rw[<- agH];simpa using hv
   exact⟨_,_,_,rfl,aS,.own (m:=⟨some w.heap.size,1,iU⟩) (by simp[eB]) (.inr ⟨w.heap.size,rfl,ak,by simpa using gq⟩),bp⟩
  have BC:m.sz=1:=by
   cases ok with
   | nil _ h=>exact h
   | sl _ h=>exact h
  rcases hh with⟨kL,rfl,_,rfl⟩ | ⟨b,kL,rfl,lH⟩
  .have hr:=run_append_nil_string (P:=P) w t t' ty e i0 te.zero ht vd my nW s aa aa (by rw[iD,eM];omega);rw[hr]
   have e1:(s.data.map fun b=>Value.int .u8 b.toNat)=(Lib.strCells s).toArray:=by
    apply Array.ext';simp[Lib.strCells]
   have:=Ch [] (grownCap w s.size 0 e) ak (by intro i j el c hi;simp at hi) (by have:=grownCap_ge w s.size 0 e;omega) (grownCap_le_maxLen w s.size 0 e (by unfold maxLen;omega)) BC;rw[e1];simpa using this
  .cases ok with
   | nil bk _=>rw[bk]at kL;cases kL
   | sl bk bg r9 cX po gZ hl kf hr=>
    rename_i b' cur;rw[kL]at bk;obtain rfl:=AI bk
    have Hy:n<=m.cap:=aa
    have Yo:cur.size=m.cap:=aa
    have jW:(cur.toList.take n).length=n:=by rw[agM,ahk,Yo,aif Hy]
    have ue:Rel w X μ 1 (cur.toList.take n) (els.take n):=by
     intro i j el c bz hc;rw[agP]at bz;split at bz
     .rename_i aS;obtain⟨v,hv,cf⟩:=hr i j el c bz hc;have Bk:el.length=1:=hl _ (ahr bz)
      have hj:j < 1:=by rw[<- Bk];exact (BY.1 hc).1
      refine⟨v,?_,cf⟩;rw[agP,if_pos aa];simpa using hv
     .cases bz
    rw[BC,ahM,Nat.sub_zero];by_cases zl:n+s.size<=m.cap
    .have dV:=Lib.run_append_room_string (P:=P) w t t' ty e i0 ht vd my (by rw[gv,zx]) b n m.cap cur r9 s zl aa;rw[dV]
     obtain⟨aS,bp⟩:=hi.move (Mv:=Mv) (w':=w.setRow b (cur.toList.take n ++ Lib.strCells s ++ cur.toList.drop (n+s.size)).toArray) (m':=m) hm gu ak rfl rfl rfl
      (fun k hk Ik=>setRow_other w b k _ fun e'=>Ik (by rw[kL,e'])) (fun b hb=>.inr hb) (row:=.sl e 1 (els.take n ++ qs s)) fun ev=>by
       refine .sl kL BC (setRow_heap w b cur _ e _ r9) ?_ (by simp[gX];omega) gZ Bx bO fun i j el c hi hj=>?_
       .simp only[ahX,agU,agM,agX,ahk,fN];omega
       .obtain⟨v,hv,cf⟩:=((ue.append (by rw[jW,agM,aif hle,ahK]) (fun el bz=>w6 el (agJ bz)) (LP s)).more (l':=cur.toList.drop (n+s.size))) i j el c hi hj;exact⟨v,by rw[<- agH];simpa using hv,cf.ev ev⟩
     refine⟨_,_,_,rfl,aS,.own (m:=m) (by simp[eB]) (.inr ⟨b,kL,ak,by simpa using zl⟩),bp⟩
    .have dV:=Lib.run_append_grow_string (P:=P) w t t' ty e i0 te.zero ht vd my nW ⟨b,0,none⟩ n m.cap (cur.toList.take n) (by rw[jW,gv,zx,ahK]) (fun j v hv=>by
      rw[addr_add,cell_of_row w b _ cur e (0,0) r9];rw[agP]at hv;split at hv
      .simpa using hv
      .cases hv) s aa aa (by rw[iD,eM];exact growslice_fits aa aa)
     rw[dV];exact Ch _ _ jW ue (grownCap_ge _ _ _ _) (grownCap_le_maxLen w _ _ e DZ) BC
end
end Go.Av
namespace Go.Av
def oB (G:aC) (e:Env):List Operand->Option (List AV)
 | []=>some []
 | o :: l=>match bF G e o,oB G e l with
  | some x,some xs=>some (x :: xs)
  | _,_=>none
def mY (G:aC) (e:Env):List (Nat×Operand)->Option (List (Nat×AV))
 | []=>some []
 | (i,o) :: l=>match bF G e o,mY G e l with
  | some x,some xs=>some ((i,x) :: xs)
  | _,_=>none
def bT (x:AV) (b:Bool):AV:=match x with
 | .d y=>.d (.bx [y,.v (.bool b)])
 | x=>.bx [x,.d (.v (.bool b))]
theorem JY {w:World} {X:Nat->Prop} {μ:Mu} {u:Value} {x:AV} {b:Bool} (hx:RV w X μ u x):RV w X μ (.tuple #[u,.bool b]) (bT x b):=by
 unfold bT;split
 .refine .d (.bx rfl fun j v c hv hc=>?_)
  match j,hv,hc with
  | 0,hv,hc=>simp at hv hc;subst hv hc;exact hx.data
  | 1,hv,hc=>simp at hv hc;subst hv hc;exact .v _
  | j+2,hv,hc=>simp at hv
 .refine .bx rfl fun j v c hv hc=>?_
  match j,hv,hc with
  | 0,hv,hc=>simp at hv hc;subst hv hc;exact hx
  | 1,hv,hc=>simp at hv hc;subst hv hc;exact .d (.v _)
  | j+2,hv,hc=>simp at hv
def cT (T:Ty) (asserted:TypeId) (o9:Bool) (x:AV):kS:=match T asserted with
 | none=>none
 | some ti=>match x with
  | .d (.v .nilIface)=>if o9 then some (True,bT (gU ti.zero) false) else none
  | .d (.bZ t y)=>if TypeDesc.isIface ti.desc then none else if t=asserted then some (True,if o9 then bT (.d y) true else .d y) else if o9 then some (True,bT (gU ti.zero) false) else none
  | .bZ t y=>if TypeDesc.isIface ti.desc then none else if t=asserted then some (True,if o9 then bT y true else y) else if o9 then some (True,bT (gU ti.zero) false) else none
  | _=>none
theorem Tq {P:Program} {T:Ty} (hg:Good P T) {w:World} {X:Nat->Prop} {μ:Mu} {asserted xT:TypeId} {o9:Bool} {u:Value} {x z:AV} {c:Prop} (h:cT T asserted o9 x=some (c,z)) (hx:RV w X μ u x) :
  ∃ r,(Instr.typeAssert u xT asserted o9).run P w = .ok r w/\RV w X μ r z:=by
 unfold cT at h;split at h
 .cases h
 .rename_i ti ht
  have one:∀ (t:TypeId) (v:Value) (y:AV),RV w X μ v y->(if TypeDesc.isIface ti.desc then none else if t=asserted then some (True,if o9 then bT y true else y) else if o9 then some (True,bT (gU ti.zero) false) else none)=some (c,z)->
    ∃ r,(Instr.typeAssert (.iface t v) xT asserted o9).run P w = .ok r w/\RV w X μ r z:=by
   intro t v y hy h;by_cases oL:TypeDesc.isIface ti.desc=true
   .rw[if_pos oL]at h;cases h
   .rw[if_neg oL]at h;by_cases qH:t=asserted
    .rw[if_pos qH]at h;obtain⟨_,rfl⟩:=eo h;subst qH;refine⟨if o9 then .tuple #[v,.bool true] else v,?_,?_⟩
     .cases hd:ti.desc<;>first | (rw[hd]at oL;exact absurd rfl oL) | (simp[Instr.typeAssert,hg.dN ht,hd])
     .cases o9
      .exact hy
      .exact JY hy
    .rw[if_neg qH]at h
     cases o9 with
     | false=>cases h
     | true=>
      simp only[if_true,IT,agA]at h;obtain⟨_,rfl⟩:=h;refine⟨.tuple #[ti.zero,.bool false],?_,JY (GJ _)⟩
      cases hd:ti.desc<;>first | (rw[hd]at oL;exact absurd rfl oL) | (simp[Instr.typeAssert,hg.dN ht,hd,qH,hg.zero ht])
  split at h
  .split at h
   .rename_i aZ;obtain⟨_,rfl⟩:=eo h;have:=hx.scalar;subst this;refine⟨.tuple #[ti.zero,.bool false],?_,JY (GJ _)⟩;subst aZ;cases hd:ti.desc<;>simp[Instr.typeAssert,hg.dN ht,hd,hg.zero ht]
   .cases h
  .rename_i t y;obtain⟨v,rfl,hv⟩:=hx.data.sj;exact one t v (.d y) (.d hv) h
  .rename_i t y;obtain⟨v,rfl,hv⟩:=hx.sj;exact one t v y hv h
  .cases h
def rd (T:Ty) (G:aC) (σ:St):Op->kS
 | .move x=>(bF G σ.env x).map fun v=>(True,v)
 | .assign x=>(bF G σ.env x).map fun v=>(True,v)
 | .binOp op t x y _=>match bF G σ.env x,bF G σ.env y with
  | some a,some b=>Dk T op t y a b
  | _,_=>none
 | .unOp op _ x=>(bF G σ.env x).bind (F0 op)
 | .load t x=>(bF G σ.env x).bind (n5 T σ.H t)
 | .fieldAddr t x f=>(bF G σ.env x).bind (DJ T t f)
 | .field t x f=>(bF G σ.env x).bind (DI T t f)
 | .indexAddr t x i=>match bF G σ.env x,bF G σ.env i with
  | some a,some b=>qJ T σ.H t a b
  | _,_=>none
 | .index t x i=>match bF G σ.env x,bF G σ.env i with
  | some a,some b=>EK T t a b
  | _,_=>none
 | .extract x i=>(bF G σ.env x).bind (DH i)
 | .makeInterface t x=>(bF G σ.env x).bind (E7 T t)
 | .makeFunc f first caps=>if first.isEmpty then (oB G σ.env caps.toList).map fun cs=>(True,Ce f cs) else match f,first.toList,caps.toList with
  | .func g,[x],[]=>(bF G σ.env x).map fun v=>(True,.bm g v)
  | _,_,_=>none
 | .pick c x y=>match bF G σ.env c,bF G σ.env x,bF G σ.env y with
  | some (.d (.v (.bool b))),some a1,some a2=>some (True,if b then a1 else a2)
  | _,_,_=>none
 | .nilCheck x=>(bF G σ.env x).bind Ff
 | .build t parts=>(mY G σ.env parts.toList).bind (Dn T t)
 | .convert src dst x=>if (T src).isSome then (bF G σ.env x).bind (Du T dst) else none
 | .slice t x lo hi mx=>if mx.isNone then match bF G σ.env x,bound G σ.env lo,bound G σ.env hi with
   | some v,some l,some h=>rN T σ.H t v l h
   | _,_,_=>none
  else none
 | .typeAssert x _ t b=>(bF G σ.env x).bind (cT T t b)
 | .lookup t x i b=>match bF G σ.env x,bF G σ.env i with
  | some a,some k=>oV T σ.H t b a k
  | _,_=>none
 | .call { callee:=.builtin .len,args,argTypes }=>match args.toList,argTypes.toList with
  | [x],[t]=>(bF G σ.env x).bind (E5 T t)
  | _,_=>none
 | .call { callee:=.builtin .max,args,.. }=>match args.toList with
  | [x,y]=>match bF G σ.env x,bF G σ.env y with
   | some (.d (.v (.int k a))),some (.d (.v (.int k' b)))=>some (True,.d (.v (.int k (if b > a then b else a))))
   | _,_=>none
  | _=>none
 | .call { callee:=.builtin .min,args,.. }=>match args.toList with
  | [x,y]=>match bF G σ.env x,bF G σ.env y with
   | some (.d (.v (.int k a))),some (.d (.v (.int k' b)))=>some (True,.d (.v (.int k (if b < a then b else a))))
   | _,_=>none
  | _=>none
 | _=>none
def KB (T:Ty) (G:aC) (Mv:Nat->Prop) (σ:St) (t t':TypeId) (x y:Operand):Option (Prop×AV×St):=match T t,T t' with
 | some tt,some ts=>match tt.desc,ts.desc with
  | .slice e,.string=>match T e,bF G σ.env x,bF G σ.env y with
   | some te,some (.own r off n),some (.d (.v (.string s)))=>match σ.H r with
    | some (.sl ty sz els)=>some (off=0/\Mv r/\ty=e/\sz=1/\n<=els.length/\te.size=1/\te.bytes=1/\te.zero = .int .u8 0/\n+s.size<=140737488355328,
      .own r 0 (n+s.size),⟨ez r σ.env,aX (eA r σ.H) r (.sl e 1 (els.take n ++ qs s))⟩)
    | _=>none
   | _,_,_=>none
  | _,_=>none
 | _,_=>none
def wr (T:Ty) (G:aC) (Mv:Nat->Prop) (σ:St) (o:Oper):Option (Prop×AV×St):=match o.op,o.dst with
 | .alloc t,some d=>match T t with
  | some ti=>some (σ.H d=none,.ref d 0 0,⟨σ.env,aX σ.H d (.box t ((kz ti.zero).map .d))⟩)
  | none=>none
 | .box t x,some d=>match (bF G σ.env x).bind jn with
  | some cs=>some (σ.H d=none,.ref d 0 0,⟨σ.env,aX σ.H d (.box t cs)⟩)
  | none=>none
 | .store t x y,none=>match bF G σ.env x,bF G σ.env y with
  | some (.ref r e j),some v=>match σ.H r with
   | some (.box ty cells)=>if e=0 then match FR T t cells j v with
     | some (c,uJ)=>some (c,.dead,⟨σ.env,aX σ.H r (.box ty uJ)⟩)
     | none=>none
    else none
   | some (.sl ty sz els)=>match FT T t sz els e j v with
    | some (c,oA)=>some (c,.dead,⟨σ.env,aX σ.H r (.sl ty sz oA)⟩)
    | none=>none
   | some (.mp _ _)=>none
   | some (.it _ _)=>none
   | none=>none
  | _,_=>none
 | .makeSlice t l c,some d=>match T t with
  | some tt=>match tt.desc with
   | .slice e=>match T e,bF G σ.env l,bF G σ.env c with
    | some te,some (.d (.v (.int _ n))),some (.d (.v (.int _ m)))=>some (σ.H d=none/\0<=n/\n<=m/\te.bytes * m<=281474976710656/\m<=9223372036854775807/\0 < te.size/\(kz te.zero).length=te.size,.own d 0 n.toNat,⟨σ.env,aX σ.H d (.sl e te.size (qN te n.toNat))⟩)
    | _,_,_=>none
   | _=>none
  | none=>none
 | .buildSlice t len parts,some d=>match T t with
  | some tt=>match tt.desc with
   | .slice e=>match T e,mY G σ.env parts.toList with
    | some te,some ps=>match uI te.size 0 ps with
     | some els=>some (σ.H d=none/\ps.length=len/\0 < te.size/\len * te.size<=16777216,.own d 0 len,⟨σ.env,aX σ.H d (.sl e te.size els)⟩)
     | none=>none
    | _,_=>none
   | _=>none
  | none=>none
 | .call { callee:=.builtin .append,args,argTypes },some d=>match args.toList,argTypes.toList with
  | [x,y],[t,t']=>if t=t' then match T t with
   | some tt=>match tt.desc with
    | .slice e=>match T e,bF G σ.env x,bF G σ.env y with
     | some te,some (.own r off n),some v=>match σ.H r,mH σ.H r v with
      | some (.sl ty sz els),some news=>some (off=0/\Mv r/\ty=e/\sz=te.size/\n<=els.length/\(∀ el∈news,el.length=te.size)/\(∀ el∈news,∀ c∈el,D.one c=true)/\0 < te.size/\(kz te.zero).length=te.size/\n+news.length<=9223372036854775807/\(n+news.length) * te.bytes<=140737488355328,
        .own r 0 (n+news.length),⟨ez r σ.env,aX (eA r σ.H) r (.sl e te.size (els.take n ++ news))⟩)
      | _,_=>none
     | some te,some (.d (.sl (some false) [])),some v=>match mH σ.H d v with
      | some news=>some (σ.H d=none/\Mv d/\(∀ el∈news,el.length=te.size)/\(∀ el∈news,∀ c∈el,D.one c=true)/\0 < te.size/\(kz te.zero).length=te.size/\news.length<=9223372036854775807/\news.length * te.bytes<=140737488355328,
        .own d 0 news.length,⟨σ.env,aX σ.H d (.sl e te.size news)⟩)
      | none=>none
     | _,_,_=>none
    | _=>none
   | none=>none
  else KB T G Mv σ t t' x y
  | _,_=>none
 | .call { callee:=.builtin .copy,args,argTypes },some _=>match args.toList,argTypes.toList with
  | [x,y],[t,_]=>match T t with
   | some tt=>match tt.desc with
    | .slice e=>match T e,bF G σ.env x,bF G σ.env y with
     | some te,some (.own r off n),some v=>match σ.H r,CO σ.H v with
      | some (.sl ty sz els),some news=>some (ty=e/\sz=1/\te.size=1/\off+n<=els.length/\0 < els.length/\(∀ el∈news,el.length=1)/\(∀ el∈news,∀ c∈el,D.one c=true),
        .d (.v (.int .i64 ((news.take n).length:Nat))),⟨σ.env,aX σ.H r (.sl e 1 (pS els news off n))⟩)
      | _,_=>none
     | some te,some (.d (.sl _ [])),some v=>match CO σ.H v with
      | some news=>some ((∀ el∈news,el.length=te.size)/\0 < te.size/\(∀ el∈news,∀ c∈el,D.one c=true),.d (.v (.int .i64 0)),σ)
      | none=>none
     | _,_,_=>none
    | _=>none
   | none=>none
  | _,_=>none
 | .makeMap t none,some d=>some (σ.H d=none,.mp d,⟨σ.env,aX σ.H d (.mp t [])⟩)
 | .mapUpdate t m k v,none=>match bF G σ.env m,bF G σ.env k,bF G σ.env v with
  | some (.mp r),some (.d (.v key)),some (.d x)=>match σ.H r with
   | some (.mp ty ents)=>match CA T t ents key x with
    | some (c,mX)=>some (c,.dead,⟨σ.env,aX σ.H r (.mp ty mX)⟩)
    | none=>none
   | _=>none
  | _,_,_=>none
 | .insert t m k v,none=>match bF G σ.env m,bF G σ.env k,bF G σ.env v with
  | some (.mp r),some (.d (.v key)),some (.d x)=>match σ.H r with
   | some (.mp ty ents)=>match CA T t ents key x with
    | some (c,mX)=>some (c,.dead,⟨σ.env,aX σ.H r (.mp ty mX)⟩)
    | none=>none
   | _=>none
  | _,_,_=>none
 | _,_=>none
def aR (e:Env) (dst:Option Tmp) (x:AV):Env:=match dst with
 | some d=>gI e d x
 | none=>e
section
variable {P:Program} {T:Ty} {Mv X:Nat->Prop} {G:aC} {N:Fr} {w:World} {μ:Mu} {a:Act} {σ:St}
theorem In.put (hi:In w X G μ N a σ) {u:Value} {x:AV} (hx:RV w X μ u x) {dst:Option Tmp} (hd:∀ d,dst=some d->d < N.n):In w X G μ N (a.put dst u) ⟨aR σ.env dst x,σ.H⟩:=by
 cases dst with
 | none=>exact hi
 | some d=>
  have aG:d < a.tmps.size:=by rw[hi.env.size];exact hd d rfl
  refine⟨hi.bu,⟨hi.env.defers,by simp[Act.put,hi.env.size],fun i y hy=>?_⟩,hi.jq⟩;simp only[aR,gI]at hy;split at hy
  .rename_i e;subst e;obtain rfl:=AI hy;exact⟨u,by simp[Act.put,aG],hx⟩
  .rename_i e;obtain⟨v,hv,hr⟩:=hi.env.slot i y hy;exact⟨v,by simp only[Act.put];rw[ahJ (ahD e)];exact hv,hr⟩
theorem In.oB (hi:In w X G μ N a σ):∀ {l:List Operand} {xs:List AV},oB G σ.env l=some xs->(l.map a.eval).length=xs.length/\∀ (i:Nat) (u:Value) (x:AV),(l.map a.eval)[i]? = some u->xs[i]? = some x->RV w X μ u x:=by
 intro l
 induction l with
 | nil=>intro xs h;simp only[Go.Av.oB,IT]at h;subst h;exact⟨rfl,ak⟩
 | cons o l ih=>
  intro xs h;simp only[Go.Av.oB]at h;split at h
  .rename_i x Sq h1 h2;obtain rfl:=AI h;obtain⟨hl,hr⟩:=ih h2;refine⟨by simpa using hl,fun i u y hu hy=>?_⟩
   cases i with
   | zero=>simp at hu hy;subst hu hy;exact hi.eval h1
   | succ i=>simp at hu hy;exact hr i u y (by simpa using hu) hy
  .cases h
theorem In.mY (hi:In w X G μ N a σ):∀ {l:List (Nat×Operand)} {xs:List (Nat×AV)},mY G σ.env l=some xs->(l.map fun p=>(p.1,a.eval p.2)).map (·.1)=xs.map (·.1)/\
  ∀ (i:Nat) (p:Nat×AV) (v:Nat×Value),xs[i]? = some p->(l.map fun p=>(p.1,a.eval p.2))[i]? = some v->RV w X μ v.2 p.2:=by
 intro l
 induction l with
 | nil=>intro xs h;simp only[Go.Av.mY,IT]at h;subst h;exact⟨rfl,ak⟩
 | cons o l ih=>
  intro xs h;obtain⟨k,o⟩:=o;simp only[Go.Av.mY]at h;split at h
  .rename_i x Sq h1 h2;obtain rfl:=AI h;obtain⟨hl,hr⟩:=ih h2;refine⟨by simpa using hl,fun i p v hp hv=>?_⟩
   cases i with
   | zero=>simp at hp hv;subst hp hv;exact hi.eval h1
   | succ i=>simp at hp hv;exact hr i p v hp (by simpa using hv)
  .cases h
theorem In.bound (hi:In w X G μ N a σ) {o:Option Operand} {l:Option Int} (h:bound G σ.env o=some l):(o.map a.eval=none/\l=none)\/∃ k n,o.map a.eval=some (.int k n)/\l=some n:=by
 unfold Go.Av.bound at h;split at h
 .obtain rfl:=AI h;exact .inl ⟨rfl,rfl⟩
 .split at h
  .rename_i k n he;obtain rfl:=AI h;exact .inr ⟨k,n,by simp[(hi.eval he).scalar],rfl⟩
  .cases h
theorem Fy (hg:Good P T) (hi:In w X G μ N a σ) {o:Oper} {c:Prop} {x:AV} (h:rd T G σ o.op=some (c,x)) (hc:c):∃ v,(execOp a.eval o).run P w = .ok (.value v) w/\RV w X μ v x:=by
 have lift:∀ {s:Sem Value} ,(∃ v,s.run P w = .ok v w/\RV w X μ v x)->∃ v,(do pure (.value (<- s)):Sem Next).run P w = .ok (.value v) w/\RV w X μ v x:=by
  rintro s ⟨v,hv,hr⟩;exact⟨v,by simp[hv],hr⟩
 obtain⟨dst,op,type,pos,after,guard⟩:=o;dsimp only at h;unfold rd at h;split at h
 .obtain⟨y,hy,he⟩:=AS.1 h;simp only[agA]at he;obtain⟨rfl,rfl⟩:=he;exact⟨_,rfl,hi.eval hy⟩
 .obtain⟨y,hy,he⟩:=AS.1 h;simp only[agA]at he;obtain⟨rfl,rfl⟩:=he;exact⟨_,rfl,hi.eval hy⟩
 .split at h
  .rename_i h1 h2;exact lift (TJ hg hi h1 h2 h hc)
  .cases h
 .obtain⟨y,hy,he⟩:=agI.1 h;exact lift (aeE he hc (hi.eval hy))
 .obtain⟨y,hy,he⟩:=agI.1 h;exact lift (Pg hg hi.bu he hc (hi.eval hy))
 .obtain⟨y,hy,he⟩:=agI.1 h;exact lift (WR hg he hc (hi.eval hy))
 .obtain⟨y,hy,he⟩:=agI.1 h;exact lift (WQ hg he hc (hi.eval hy))
 .split at h
  .rename_i h1 h2;exact lift (aab hg hi.bu h hc (hi.eval h1) (hi.eval h2))
  .cases h
 .split at h
  .rename_i h1 h2;exact lift (aaf hg h hc (hi.eval h1) (hi.eval h2))
  .cases h
 .obtain⟨y,hy,he⟩:=agI.1 h;exact lift (WN he (hi.eval hy))
 .obtain⟨y,hy,he⟩:=agI.1 h;exact lift (abl hg he (hi.eval hy))
 .split at h
  .rename_i f first caps hf;obtain⟨y,hy,he⟩:=AS.1 h;simp only[agA]at he;obtain⟨rfl,rfl⟩:=he;obtain⟨hl,hr⟩:=hi.oB hy
   have HL:first = #[]:=by simpa using hf
   subst HL;refine⟨.func f #[] (caps.map a.eval),by simp[execOp,Instr.makeFunc],Jz (by simpa using hl) fun j u c hu hc=>hr j u c (by simpa using hu) hc⟩
  .split at h
   .rename_i x Bm gq;obtain⟨y,hy,he⟩:=AS.1 h;simp only[agA]at he;obtain⟨rfl,rfl⟩:=he;obtain rfl:=ahg.1 (show _=(#[x]:Array Operand).toList from Bm);obtain rfl:=ahg.1 (show _=(#[]:Array Operand).toList from gq);exact⟨_,by simp[execOp,Instr.makeFunc],.bm (hi.eval hy)⟩
   .cases h
 .split at h
  .rename_i b a1 a2 h0 h1 h2;obtain⟨rfl,rfl⟩:=eo h;have hb:=(hi.eval h0).scalar;refine⟨if b then a.eval _ else a.eval _,by simp[execOp,hb,asBool];cases b<;>rfl,?_⟩;cases b
   .exact hi.eval h2
   .exact hi.eval h1
  .cases h
 .obtain⟨y,hy,he⟩:=agI.1 h;obtain⟨⟨ad,Nn⟩,hr⟩:=abL he (hi.eval hy);exact⟨.pointer (some ad),by simp[execOp,Nn],by rw[<- Nn];exact hr⟩
 .rename_i t parts;obtain⟨ps,dJ,he⟩:=agI.1 h;obtain⟨h1,h2⟩:=hi.mY dJ;refine lift (Vs (vs:=parts.map fun p=>(p.1,a.eval p.2)) hg he (by simpa using h1) fun i p v hp hv=>h2 i p v hp ?_);rw[<- agH]at hv;simpa using hv
 .split at h
  .rename_i hs;obtain⟨y,hy,he⟩:=agI.1 h;exact lift (VV hg hs he hc (hi.eval hy))
  .cases h
 .split at h
  .rename_i mx gZ;split at h
   .rename_i v l hh h1 h2 h3
    cases mx with
    | some _=>simp at gZ
    | none=>exact lift (adP hg hi.bu h hc (hi.eval h1) (hi.bound h2) (hi.bound h3))
   .cases h
  .cases h
 .obtain⟨y,hy,he⟩:=agI.1 h;exact lift (Tq hg he (hi.eval hy))
 .split at h
  .rename_i h1 h2;exact lift (abb hg hi.bu h hc (hi.eval h1) (hi.eval h2))
  .cases h
 .split at h
  .rename_i args argTypes _ _ x0 t ha ht;obtain⟨y,hy,he⟩:=agI.1 h;obtain⟨r,hr,im⟩:=aa2 (ty:=type) hg he (hi.eval hy);have e1:args = #[x0]:=ahg.1 ha;have e2:argTypes = #[t]:=ahg.1 ht;subst e1 e2;exact⟨r,by simp[execOp,resolve,invoke,builtin,hr],im⟩
  .cases h
 .split at h
  .rename_i args _ _ x0 y0 ha;split at h
   .rename_i k a0 k' b0 h1 h2;obtain⟨rfl,rfl⟩:=eo h;have e1:=(hi.eval h1).scalar;have e2:=(hi.eval h2).scalar;have e0:args = #[x0,y0]:=ahg.1 ha;subst e0;exact⟨_,by simp[execOp,resolve,invoke,builtin,Builtin.max_,Builtin.max2,e1,e2],.d (.v _)⟩
   .cases h
  .cases h
 .split at h
  .rename_i args _ _ x0 y0 ha;split at h
   .rename_i k a0 k' b0 h1 h2;obtain⟨rfl,rfl⟩:=eo h;have e1:=(hi.eval h1).scalar;have e2:=(hi.eval h2).scalar;have e0:args = #[x0,y0]:=ahg.1 ha;subst e0;exact⟨_,by simp[execOp,resolve,invoke,builtin,Builtin.min_,Builtin.min2,e1,e2],.d (.v _)⟩
   .cases h
  .cases h
 .cases h
theorem RV.Fh {u:Value} {x:AV} {r:Nat} (h:RV w X μ u x) (hr:μ r=none):x.kill r=x:=by
 have bn:∀ (l:List AV),(∀ c∈l,c.kill r=c)->l.map (AV.kill r)=l:=by
  intro l hl
  induction l with
  | nil=>rfl
  | cons c l ih=>simp only[agW];rw[hl c ak,ih fun c hc=>hl c (by simp[hc])]
 have arr:∀ (arr:Array Value) (cells:List AV),arr.size=cells.length->(∀ (j:Nat) (u:Value) (c:AV),arr[j]? = some u->cells[j]? = some c->c.kill r=c)->cells.map (AV.kill r)=cells:=by
  intro arr cells hn hh;refine bn cells fun c hc=>?_;obtain⟨j,hj,rfl⟩:=agG.1 hc;exact hh j arr[j] _ (by simp[hn,hj]) (by simp[hj])
 induction h with
 | d h=>rfl
 | own hm _=>
  rename_i u q off n m;unfold AV.kill;rw[if_neg];intro e;subst e;rw[hr]at hm;cases hm
 | ref hm _=>
  rename_i q e j b m;unfold AV.kill;rw[if_neg];intro e;subst e;rw[hr]at hm;cases hm
 | agg hn _ ih=>rw[AV.kill,AV.go_eq,arr _ _ hn ih]
 | bx hn _ ih=>rw[AV.kill,AV.go_eq,arr _ _ hn ih]
 | bZ _ ih=>rw[AV.kill,ih]
 | bm _ ih=>rw[AV.kill,ih]
 | fn hn _ ih=>rw[AV.kill,AV.go_eq,arr _ _ hn ih]
 | mp hm _=>
  rename_i q b m;unfold AV.kill;rw[if_neg];intro e;subst e;rw[hr]at hm;cases hm
 | dead u=>rfl
theorem In.Fh (hi:In w X G μ N a σ) {r:Nat} (hr:σ.H r=none):ez r σ.env=σ.env/\eA r σ.H=σ.H:=by
 have hn:=hi.bu.xP hr;constructor
 .funext i;unfold ez
  cases he:σ.env i with
  | none=>rfl
  | some x=>
   obtain⟨u,_,hx⟩:=hi.env.slot i x he;simp[hx.Fh hn]
 .funext q;unfold eA
  cases hq:σ.H q with
  | none=>rfl
  | some row=>
   obtain⟨m,hm,ok⟩:=hi.bu.rows q row hq
   cases ok with
   | nil=>rfl
   | sl=>rfl
   | mp=>rfl
   | it=>rfl
   | box hb bg hc hh po lN zw=>
    rename_i ty b cells cur
    have:cells.map (AV.kill r)=cells:=by
     have:=(RV.agg (w:=w) (X:=X) (μ:=μ) (arr:=(cur.toList.take cells.length).toArray) (cells:=cells) (by simp;omega) fun j u c hu hc=>lN j u c (by
      have oQ:(cur.toList.take cells.length)[j]? = some u:=by simpa using hu
      rw[agP]at oQ;split at oQ
      .simpa using oQ
      .cases oQ) hc).Fh hn
     rw[AV.kill,AV.go_eq]at this;exact AV.agg.inj this
    simp[Row.kill,this]
theorem afb (hg:Good P T) (hi:In w X G μ N a σ) {o:Oper} {c:Prop} {x:AV} {bh:St} (h:wr T G Mv σ o=some (c,x,bh)) (hc:c) (hd:∀ d,o.dst=some d->d < N.n) :
  ∃ n v w' aH,(execOp a.eval o).run P w = .ok n w'/\(n = .value v\/(n = .skip/\v=undef))/\In w' X G aH N a bh/\RV w' X aH v x/\Ev Mv w μ w' aH:=by
 have lift:∀ {s:Sem Value} {x:AV} {bh:St},oo Mv X G N w μ a (s.run P w) x bh->∃ n v w' aH,(do pure (.value (<- s)):Sem Next).run P w = .ok n w'/\(n = .value v\/(n = .skip/\v=undef))/\In w' X G aH N a bh/\RV w' X aH v x/\Ev Mv w μ w' aH:=by
  rintro s x bh ⟨v,w',aH,hr,rest⟩;exact⟨.value v,v,w',aH,by simp[hr],.inl rfl,rest⟩
 obtain⟨dst,op,type,pos,after,guard⟩:=o;dsimp only at h hd;unfold wr at h;dsimp only at h;split at h
 .split at h
  .rename_i ti ht;obtain⟨rfl,rfl,rfl⟩:=nt h;exact lift (SW hg hi hc ht)
  .cases h
 .split at h
  .rename_i cs cX;obtain⟨y,hy,he⟩:=agI.1 cX;obtain⟨rfl,rfl,rfl⟩:=nt h;exact lift (Vp hi hc (hi.eval hy) he)
  .cases h
 .split at h
  .rename_i r e j v h1 h2;split at h
   .rename_i ty cells hH;split at h
    .rename_i he;subst he;split at h
     .rename_i c' uJ hs;obtain⟨rfl,rfl,rfl⟩:=nt h;obtain⟨w',hr,aS,bp⟩:=ad2 (Mv:=Mv) hg hi hH hs hc (hi.eval h1) (hi.eval h2);exact⟨.skip,undef,w',μ,by simp[execOp,hr],.inr ⟨rfl,rfl⟩,aS,.dead _,bp⟩
     .cases h
    .cases h
   .rename_i ty sz els hH;split at h
    .rename_i c' oA hs;obtain⟨rfl,rfl,rfl⟩:=nt h;obtain⟨w',hr,aS,bp⟩:=ad3 (Mv:=Mv) hg hi hH hs hc (hi.eval h1) (hi.eval h2);exact⟨.skip,undef,w',μ,by simp[execOp,hr],.inr ⟨rfl,rfl⟩,aS,.dead _,bp⟩
    .cases h
   .cases h
   .cases h
   .cases h
  .cases h
 .split at h
  .rename_i tt cL;split at h
   .rename_i e ew;split at h
    .rename_i te kn n km m dh h1 h2;obtain⟨rfl,rfl,rfl⟩:=nt h;obtain⟨g1,g2,g3,g4,g5,g6,g7⟩:=hc;have:=abk (Mv:=Mv) hg hi g1 cL ew dh (k1:=kn) (k2:=km) g2 g3 g4 g5 g6 g7;rw[<- (hi.eval h1).scalar,<- (hi.eval h2).scalar]at this;exact lift this
    .cases h
   .cases h
  .cases h
 .split at h
  .rename_i tt cL;split at h
   .rename_i e ew;split at h
    .rename_i te ps dh dJ;split at h
     .rename_i els wP;obtain⟨rfl,rfl,rfl⟩:=nt h;obtain⟨g1,g2,g3,g4⟩:=hc;obtain⟨hv,hr⟩:=hi.mY dJ;exact lift (Vt (Mv:=Mv) hg hi g1 cL ew dh wP g2 (by simpa using hv) (fun i p v h1 h2=>hr i p v h1 (by simpa using h2)) g3 g4)
     .cases h
    .cases h
   .cases h
  .cases h
 .split at h
  .rename_i args argTypes d _ _ x0 y0 t t' ha ht;have e1:args = #[x0,y0]:=ahg.1 ha;have e2:argTypes = #[t,t']:=ahg.1 ht;subst e1 e2;split at h
   .rename_i ZT;subst ZT
    have run_eq:∀ {x:AV} {bh:St},oo Mv X G N w μ a ((Builtin.append_ #[t,t] type #[a.eval x0,a.eval y0]).run P w) x bh->∃ n v w' aH,(execOp a.eval { dst:=some d,op:=.call { callee:=.builtin .append,args:=⟨[x0,y0]⟩,argTypes:=⟨[t,t]⟩ },type:=type,pos:=pos,after:=after,guard:=guard }).run P w = .ok n w'/\(n = .value v\/(n = .skip/\v=undef))/\In w' X G aH N a bh/\RV w' X aH v x/\Ev Mv w μ w' aH:=by
     rintro x bh ⟨v,w',aH,hr,rest⟩;exact⟨.value v,v,w',aH,by simp[execOp,resolve,invoke,builtin,hr],.inl rfl,rest⟩
    split at h
    .rename_i tt cL;split at h
     .rename_i e ew;split at h
      .rename_i te r off n v dh h1 h2;split at h
       .rename_i ty sz els news hH hn;obtain⟨rfl,rfl,rfl⟩:=nt h;obtain⟨rfl,g1,rfl,rfl,g2,g3,g4,g5,g6,g7,g8⟩:=hc;exact run_eq (Lw (Mv:=Mv) hg hi g1 cL ew dh hH g2 (hi.eval h1) (Fa hi.bu (hi.eval h2) hn g3 g5 g4) g5 g6 (by unfold maxLen;omega) g8)
       .cases h
      .rename_i te v dh h1 h2;split at h
       .rename_i news hn;obtain⟨rfl,rfl,rfl⟩:=nt h;obtain⟨g0,g1,g3,g4,g5,g6,g7,g8⟩:=hc;obtain⟨aS,bp⟩:=hi.alloc (Mv:=Mv) g0 (cR.refl w) (m:=⟨none,te.size,0⟩) ak (row:=.sl e te.size []) fun _=>.nil rfl rfl
        have hu:RV w X (eB μ d ⟨none,te.size,0⟩) (a.eval x0) (.own d 0 0):=by
         have:=(hi.eval h1).data.qT
         rcases this with⟨hh,_⟩ | ⟨ad,cap,hh,hk,_⟩
         .rw[hh];exact .own (m:=⟨none,te.size,0⟩) (by simp[eB]) (.inl ⟨rfl,rfl,rfl,rfl⟩)
         .exact absurd rfl hk
        have po:mH (aX σ.H d (.sl e te.size [])) d v=some news:=by
         unfold mH at hn ⊢
         split at hn<;>first | exact hn | skip
         rename_i q off n;split at hn
         .cases hn
         .rename_i hq;rw[if_neg hq];simpa[aX,hq]using hn
        have zq:RV w X (eB μ d ⟨none,te.size,0⟩) (a.eval y0) v:=by
         refine (hi.eval h2).same bp fun q m hq=>?_;unfold eB;split
         .rename_i e';subst e';rw[hi.bu.xP g0]at hq;cases hq
         .exact hq
        have Bg:=Lw (Mv:=Mv) (ty:=type) hg aS g1 cL ew dh (r:=d) (n:=0) (els:=[]) (news:=news) (by simp[aX]) ak hu (Fa aS.bu zq po g3 g5 g4) g5 g6 (by unfold maxLen;omega) (by simpa using g8);obtain⟨v',w',aH,hr,zc,im,p0⟩:=Bg;refine run_eq ⟨v',w',aH,hr,?_,by simpa using im,bp.trans p0⟩;obtain⟨k1,k2⟩:=hi.Fh g0
        have e1:eA d (aX σ.H d (.sl e te.size []))=aX σ.H d (.sl e te.size []):=by
         funext q;by_cases hq:q=d
         .simp[eA,aX,hq,Row.kill]
         .have:=congrFun k2 q;simpa[eA,aX,hq]using this
        have e2:aX (aX σ.H d (.sl e te.size [])) d (.sl e te.size ([].take 0 ++ news))=aX σ.H d (.sl e te.size news):=by
         funext q;by_cases hq:q=d<;>simp[aX,hq]
        dsimp only at zc;rw[k1,e1,e2]at zc;exact zc
       .cases h
      .cases h
     .cases h
    .cases h
   .unfold KB at h;split at h
    .rename_i tt ts cL si;split at h
     .rename_i e ew mv;split at h
      .rename_i te r off n s dh h1 h2;split at h
       .rename_i ty sz els hH;obtain⟨rfl,rfl,rfl⟩:=nt h;obtain⟨rfl,g1,rfl,rfl,g2,g3,g4,g5,g6⟩:=hc;have hv:a.eval y0 = .string s:=(hi.eval h2).scalar;obtain⟨v,w',aH,hr,rest⟩:=Th (Mv:=Mv) (ty:=type) hg hi g1 cL ew si mv dh hH g2 (hi.eval h1) g3 g4 g5 g6;exact⟨.value v,v,w',aH,by simp[execOp,resolve,invoke,builtin,hv,hr],.inl rfl,rest⟩
       .cases h
      .cases h
     .cases h
    .cases h
  .cases h
 .split at h
  .rename_i args argTypes d _ _ x0 y0 t t' ha ht;have e1:args = #[x0,y0]:=ahg.1 ha;have e2:argTypes = #[t,t']:=ahg.1 ht;subst e1 e2;split at h
   .rename_i tt cL;split at h
    .rename_i e ew;split at h
     .rename_i te r off n v dh h1 h2;split at h
      .rename_i ty sz els news hH hn;obtain⟨rfl,rfl,rfl⟩:=nt h;obtain⟨rfl,rfl,g1,g2,g3,g4,g5⟩:=hc;obtain⟨v,w',aH,hr,rest⟩:=VW (Mv:=Mv) (ty:=type) (t':=t') hg hi cL ew dh g1 hH g2 g3 (hi.eval h1) (RB hi.bu (hi.eval h2) hn g4 aa g5);exact⟨.value v,v,w',aH,by simp[execOp,resolve,invoke,builtin,hr],.inl rfl,rest⟩
      .cases h
     .rename_i te kq v dh h1 h2;split at h
      .rename_i news hn;obtain⟨rfl,rfl,rfl⟩:=nt h;obtain⟨g4,g5,g6⟩:=hc;obtain⟨v,w',aH,hr,rest⟩:=VX (Mv:=Mv) (ty:=type) (t':=t') hg hi cL ew dh (hi.eval h1) (RB hi.bu (hi.eval h2) hn g4 g5 g6);exact⟨.value v,v,w',aH,by simp[execOp,resolve,invoke,builtin,hr],.inl rfl,rest⟩
      .cases h
     .cases h
    .cases h
   .cases h
  .cases h
 .obtain⟨rfl,rfl,rfl⟩:=nt h;exact lift (abm hi hc _)
 .split at h
  .rename_i r key x h1 h2 h3;split at h
   .rename_i ty ents hH;split at h
    .rename_i c' mX hp;obtain⟨rfl,rfl,rfl⟩:=nt h;obtain⟨w',hr,aS,bp⟩:=Pp (Mv:=Mv) hg hi hH hp hc (hi.eval h1) (hi.eval h2) (hi.eval h3);exact⟨.skip,undef,w',μ,by simp[execOp,hr],.inr ⟨rfl,rfl⟩,aS,.dead _,bp⟩
    .cases h
   .cases h
  .cases h
 .split at h
  .rename_i r key x h1 h2 h3;split at h
   .rename_i ty ents hH;split at h
    .rename_i c' mX hp;obtain⟨rfl,rfl,rfl⟩:=nt h;obtain⟨w',hr,aS,bp⟩:=Pp (Mv:=Mv) hg hi hH hp hc (hi.eval h1) (hi.eval h2) (hi.eval h3);exact⟨.skip,undef,w',μ,by simp[execOp,hr],.inr ⟨rfl,rfl⟩,aS,.dead _,bp⟩
    .cases h
   .cases h
  .cases h
 .cases h
end
end Go.Av
namespace Go.Av
def gS (P:Program) (g:FuncId):Prop:=∀ (args:Array Value) (w:World),(callFunc g args).run P w = .ok (.enter g args) w
theorem gS.of {P:Program} {g:FuncId} {fn:Func} {c:Code} (h:P.funcs[g]? = some fn) (hb:fn.body=some c) (hn:(fn.name == "runtime.NumGoroutine")=false):gS P g:=by
 intro args w;simp only[callFunc,Sem.run_bind,run_program,Result.andThen_ok,h,hn,agE,if_false];simp[hb]
def dN:AV:=.d (.v undef)
def DU (ops:Array Oper) (e:Env) (j:Nat):Option (Option Bool):=match (ops[j]?).bind (·.dst) with
 | some d=>match e d with
  | some (.d (.v (.bool b)))=>some (some b)
  | some (.d (.v (.tuple _)))=>some none
  | _=>none
 | none=>none
def jM (ops:Array Oper) (e:Env) (o:Oper):Option Bool:=match o.guard with
 | none=>some true
 | some (j,want)=>(DU ops e j).map (· == some want)
def lz (G:aC) (e:Env) (c:Call):Option (FuncId×List AV):=match c.callee with
 | .value f=>match bF G e f,oB G e c.args.toList with
  | some (.d (.fn (.func g) caps)),some xs=>some (g,xs ++ caps.map .d)
  | some (.fn (.func g) caps),some xs=>some (g,xs ++ caps)
  | some (.bm g x),some xs=>some (g,x :: xs)
  | _,_=>none
 | _=>none
def lU (P:Program) (Mv X:Nat->Prop) (G:aC) (N:Fr) (g:FuncId) (xs:List AV) (σ:St) (K:AV->St->Prop):Prop:=
 gS P g/\∀ w μ a (vs:Array Value),In w X G μ N a σ->vs.size=xs.length->(∀ (i:Nat) (u:Value) (x:AV),vs[i]? = some u->xs[i]? = some x->RV w X μ u x)->
  Calls P g vs w fun e w'=>∃ v x aJ aH,e = .returned v/\K x aJ/\In w' X G aH N a aJ/\RV w' X aH v x/\Ev Mv w μ w' aH
theorem lU.mono {P:Program} {Mv X:Nat->Prop} {G:aC} {N:Fr} {g:FuncId} {xs:List AV} {σ:St} {K K':AV->St->Prop} (h:lU P Mv X G N g xs σ K) (hk:∀ x aJ,K x aJ->K' x aJ):lU P Mv X G N g xs σ K':=
 ⟨h.1,fun w μ a vs hi hn hv=>(h.2 w μ a vs hi hn hv).mono fun _ _ ⟨v,x,aJ,aH,he,k,rest⟩=>⟨v,x,aJ,aH,he,hk _ _ k,rest⟩⟩
def gD:Op->Bool
 | .alloc _=>true
 | .box _ _=>true
 | .store _ _ _=>true
 | .makeSlice _ _ _=>true
 | .buildSlice _ _ _=>true
 | .makeMap _ _=>true
 | .mapUpdate _ _ _ _=>true
 | .insert _ _ _ _=>true
 | .call { callee:=.builtin .append,.. }=>true
 | .call { callee:=.builtin .copy,.. }=>true
 | _=>false
def ey:Op->Option Call
 | .call { callee:=.value f,args,argTypes }=>some { callee:=.value f,args,argTypes }
 | _=>none
def qh (T:Ty) (G:aC) (Mv:Nat->Prop) (o:Oper) (σ:St) (K:St->Prop):Prop:=
 if gD o.op then match wr T G Mv σ o with
  | some (c,x,aJ)=>c/\K ⟨aR aJ.env o.dst x,aJ.H⟩
  | none=>False
 else match rd T G σ o.op with
  | some (c,x)=>c/\K ⟨aR σ.env o.dst x,σ.H⟩
  | none=>False
def mZ (P:Program) (T:Ty) (Mv X:Nat->Prop) (G:aC) (N:Fr) (o:Oper) (σ:St) (K:St->Prop):Prop:=match ey o.op with
 | some c=>match lz G σ.env c with
  | some (g,xs)=>lU P Mv X G N g xs σ fun x aJ=>K ⟨aR aJ.env o.dst x,aJ.H⟩
  | none=>False
 | none=>qh T G Mv o σ K
def gP (N:Fr) (o:Oper):Prop:=match o.dst with
 | some d=>d < N.n
 | none=>True
section
variable {P:Program} {T:Ty} {Mv X:Nat->Prop} {G:aC} {N:Fr} {w:World} {μ:Mu} {a:Act} {σ:St}
theorem x8 (hi:In w X G μ N a σ) {ops:Array Oper} {o:Oper} {b:Bool} (h:jM ops σ.env o=some b):Region.wanted o (yielded ops a.tmps)=b:=by
 unfold jM at h;unfold Region.wanted;split at h
 .rename_i hg;obtain rfl:=AI h;simp[hg]
 .rename_i j want hg;obtain⟨b',hb,rfl⟩:=AS.1 h;simp only[hg];unfold DU at hb;split at hb
  .rename_i d hd;split at hb
   .rename_i b2 he;obtain rfl:=AI hb;obtain⟨u,hu,hr⟩:=hi.env.slot d _ he;obtain rfl:=hr.scalar;simp[yielded,hd,hu]
   .rename_i he;obtain rfl:=AI hb;obtain⟨u,hu,hr⟩:=hi.env.slot d _ he;obtain rfl:=hr.scalar;simp[yielded,hd,hu]
   .cases hb
  .cases hb
theorem aeu (hi:In w X G μ N a σ) {o:Oper} {c:Call} {g:FuncId} {xs:List AV} (ho:o.op = .call c) (h:lz G σ.env c=some (g,xs)) :
  ∃ vs:Array Value,(execOp a.eval o).run P w=(callFunc g vs).run P w/\vs.size=xs.length/\∀ (i:Nat) (u:Value) (x:AV),vs[i]? = some u->xs[i]? = some x->RV w X μ u x:=by
 unfold lz at h;split at h
 .rename_i f hf
  have key:∀ (caps:List AV) (arr:Array Value) (ys:List AV),a.eval f = .func (.func g) #[] arr->arr.size=caps.length->(∀ (j:Nat) (u:Value) (c:AV),arr[j]? = some u->caps[j]? = some c->RV w X μ u c)->oB G σ.env c.args.toList=some ys->xs=ys ++ caps->
    ∃ vs:Array Value,(execOp a.eval o).run P w=(callFunc g vs).run P w/\vs.size=xs.length/\∀ (i:Nat) (u:Value) (x:AV),vs[i]? = some u->xs[i]? = some x->RV w X μ u x:=by
   intro caps arr ys wS hn hr hy hx;obtain⟨hl,hv⟩:=hi.oB hy;refine⟨c.args.map a.eval ++ arr,?_,?_,fun i u x hu qa=>?_⟩
   .simp[execOp,ho,resolve,hf,wS,Deferred.ofValue,invoke]
   .simp only[ag5,ahk]at hl;subst hx;simp[hl,hn]
   .subst hx
    have gr:(c.args.map a.eval).size=ys.length:=by simpa using hl
    rw[Array.getElem?_append]at hu;rw[ahT]at qa;split at hu
    .rename_i h1;rw[if_pos aa]at qa;exact hv i u x (by rw[<- Array.toList_map,agH];exact hu) qa
    .rename_i h1;rw[if_neg aa]at qa;rw[gr]at hu;exact hr _ u x hu qa
  split at h
  .rename_i g' caps ys he hy;obtain⟨rfl,rfl⟩:=eo h;obtain⟨arr,wS,hn,hr⟩:=(hi.eval he).data.yL;exact key (caps.map .d) arr ys wS (by simpa using hn) (RV.zP hr) hy rfl
  .rename_i g' caps ys he hy;obtain⟨rfl,rfl⟩:=eo h;obtain⟨arr,wS,hn,hr⟩:=(hi.eval he).yL;exact key caps arr ys wS hn hr hy rfl
  .rename_i g' y ys he hy;obtain⟨rfl,rfl⟩:=eo h;obtain⟨v,wS,hr⟩:=(hi.eval he).TP;obtain⟨hl,hv⟩:=hi.oB hy;refine⟨#[v] ++ c.args.map a.eval,?_,?_,fun i u x hu qa=>?_⟩
   .simp[execOp,ho,resolve,hf,wS,Deferred.ofValue,invoke]
   .simp only[ag5,ahk]at hl;simp[hl];omega
   .cases i with
    | zero=>
     rw[ag8 ak]at hu;simp at hu qa;subst hu qa;exact hr
    | succ i=>
     rw[List.getElem?_cons_succ]at qa;rw[Array.getElem?_append_right ak]at hu;simp only[ahX,agS,ahZ,ag4,Nat.add_sub_cancel]at hu;exact hv i u x (by rw[<- Array.toList_map,agH];exact hu) qa
  .cases h
 .cases h
theorem DG (hg:Good P T) (hi:In w X G μ N a σ) {o:Oper} {K:St->Prop} (hd:∀ d,o.dst=some d->d < N.n) (h:mZ P T Mv X G N o σ K) {Q:Exit->Act->World->Prop} {next:Act->World->Prop}
  (hk:∀ w' aH a' aJ,K aJ->In w' X G aH N a' aJ->Ev Mv w μ w' aH->next a' w'):o.wpIn (wd N.ro) 0 P a w next Q:=by
 refine Ad (fun c e=>by simp[mZ,e,ey,qh,gD,rd]at h) ?_;unfold mZ at h;split at h
 .rename_i c hc
  have ho:o.op = .call c:=by
   unfold ey at hc;split at hc
   .rename_i kb;rw[kb];obtain rfl:=AI hc;rfl
   .cases hc
  split at h
  .rename_i g xs ht;obtain⟨vs,hr,hn,hv⟩:=aeu (P:=P) hi ho ht;obtain⟨YI,fv⟩:=h;unfold Oper.wp;rw[hr,YI vs w];refine (fv w μ a vs hi hn hv).mono fun e w' ⟨v,x,aJ,aH,he,k,aS,im,bp⟩=>?_;subst he;exact hk _ aH _ _ k (aS.put im hd) bp
  .exact h.elim
 .unfold qh at h;split at h
  .split at h
   .rename_i c x aJ hw;obtain⟨hc,k⟩:=h;obtain⟨n,v,w',aH,hr,hn,aS,im,bp⟩:=afb (Mv:=Mv) hg hi hw hc hd;unfold Oper.wp;rw[hr]
    rcases hn with rfl | ⟨rfl,rfl⟩
    .exact hk _ aH _ _ k (aS.put im hd) bp
    .exact hk _ aH _ _ k (aS.put im hd) bp
   .exact h.elim
  .split at h
   .rename_i c x hw;obtain⟨hc,k⟩:=h;obtain⟨v,hr,im⟩:=Fy hg hi hw hc;unfold Oper.wp;rw[hr];exact hk _ μ _ _ k (hi.put im hd) (.refl _ w μ)
   .exact h.elim
def aD (P:Program) (G:aC) (g:FuncId) (ds:List D) (y:D):Prop:=
 gS P g/\∀ X,Lg P (fun _=>True) X G g (ds.map .d) jc fun x H'=>x = .d y/\H'=jc
theorem eF.none {X':Nat->Prop} (h:∀ b,X' b->b < w.heap.size):eF w X' (fun _=>.none) jc:=
 ⟨by simp[jc],ak,ak,ak,h⟩
theorem RD.sub {X X':Nat->Prop} (h:∀ b,X' b->X b) {u:Value} {x:D} (hr:RD w X u x):RD w X' u x:=hr.mono (agD _) fun b _ hb=>⟨rfl,fun e=>hb (h b e)⟩
theorem o6 {X:Nat->Prop} {b:Nat}:XX X (fun _=>none) b↔X b:=⟨fun h=>h.elim id (fun ⟨_,_,h,_⟩=>(by cases h)),.inl⟩
theorem Ev.qA {Mv:Nat->Prop} {w w':World} {aH:Mu} (h:Ev Mv w (fun _=>none) w' aH):cR w w':=⟨h.size,h.os,h.tape,h.output,fun b hb=>(h.same b hb fun ⟨_,_,h,_⟩=>by cases h).1⟩
theorem lU.pure {g:FuncId} {ds:List D} {y:D} (hc:aD P G g ds y) {K:AV->St->Prop} (h:K (.d y) σ):lU P Mv X G N g (ds.map .d) σ K:=by
 refine⟨hc.1,fun w μ a vs hi hn hv=>?_⟩;refine (hc.2 (XX X μ) w (fun _=>none) vs (eF.none fun b hb=>hb.elim (hi.bu.fits b) hi.bu.mg) (fun g x hx=>(hi.jq g x hx).sub fun b=>o6.1) hn fun i u x hu hx=>?_).mono ?_
 .rw[agC]at hx;obtain⟨d,hd,rfl⟩:=AS.1 hx;exact .d ((hv i u (.d d) hu (by rw[agC,hd];rfl)).data.sub fun b=>o6.1)
 .rintro e w' ⟨v,x,H',aH,rfl,⟨rfl,rfl⟩,hr,hs,bp⟩;have hg:=bp.qA;obtain⟨aS,Bl⟩:=hi.qA (Mv:=Mv) hg;refine⟨v,.d y,σ,μ,rfl,h,aS,.d (hr.data.sub fun b hb=>.inl hb),Bl⟩
def lS (f:AV->Option D):List AV->Option (List D)
 | []=>some []
 | x :: l=>match f x,lS f l with
  | some y,some ys=>some (y :: ys)
  | _,_=>none
def nF:List (Value×D)->Option (List (Value×Value))
 | []=>some []
 | (k,.v x) :: l=>(nF l).map fun r=>(k,x) :: r
 | _ :: _=>none
theorem Lv:∀ {l:List (Value×D)} {r:List (Value×Value)},nF l=some r->l.length=r.length/\∀ (i:Nat) (p:Value×Value),r[i]? = some p->l[i]? = some (p.1,.v p.2)
 | [],r,h=>by simp only[nF,IT]at h;subst h;exact⟨rfl,ak⟩
 | (k,.v x) :: l,r,h=>by
  simp only[nF]at h;obtain⟨r',h1,rfl⟩:=AS.1 h;obtain⟨h2,h3⟩:=Lv h1;refine⟨by simp[h2],fun i p hp=>?_⟩
  cases i with
  | zero=>simp at hp;subst hp;rfl
  | succ i=>exact h3 i p (by simpa using hp)
 | (k,.sl _ _) :: l,r,h=>by simp[nF]at h
 | (k,.ip _) :: l,r,h=>by simp[nF]at h
 | (k,.agg _) :: l,r,h=>by simp[nF]at h
 | (k,.bx _) :: l,r,h=>by simp[nF]at h
 | (k,.bZ _ _) :: l,r,h=>by simp[nF]at h
 | (k,.fn _ _) :: l,r,h=>by simp[nF]at h
 | (k,.pK _) :: l,r,h=>by simp[nF]at h
 | (k,.dm _ _) :: l,r,h=>by simp[nF]at h
def fL (H:Heap):Nat->AV->Option D
 | _,.d x=>some x
 | 0,_=>none
 | _+1,.own r off n=>match H r with
  | some (.sl _ _ els)=>if off+n<=els.length then some (.sl none ((els.drop off).take n)) else none
  | _=>none
 | k+1,.ref r e j=>match H r with
  | some (.box _ cells)=>if e=0 then (lS (fL H k) (cells.drop j)).map .ip else none
  | _=>none
 | k+1,.agg cells=>(lS (fL H k) cells).map .agg
 | k+1,.fn f caps=>(lS (fL H k) caps).map (.fn f)
 | k+1,.bx cells=>(lS (fL H k) cells).map .bx
 | k+1,.bZ t x=>(fL H k x).map (.bZ t)
 | _+1,.mp r=>match H r with
  | some (.mp _ ents)=>(nF ents).map (.dm false)
  | _=>none
 | _,_=>none
theorem RD.vL {u:Value} {k:Option Bool} {els:List (List D)} (h:RD w X u (.sl k els)):RD w X u (.sl none els):=by
 rcases h.qT with⟨rfl,rfl,_⟩ | ⟨a,cap,rfl,_,hc,hm,hr⟩
 .exact .nil ak
 .rcases hr with rfl | ⟨b,off,sz,f,rfl,hX,hz,hs,ea,lN⟩
  .exact .empty ak hm
  .by_cases h0:els=[]
   .subst h0;exact .empty ak hm
   .exact .sl ak rfl hc hm hX hs hz (ahu.2 h0) ea lN
theorem Gr {f:AV->Option D}:∀ {l:List AV} {ds:List D},lS f l=some ds->l.length=ds.length/\∀ (j:Nat) (x:AV) (d:D),l[j]? = some x->ds[j]? = some d->f x=some d:=by
 intro l
 induction l with
 | nil=>intro ds h;simp only[lS,IT]at h;subst h;exact⟨rfl,ak⟩
 | cons x l ih=>
  intro ds h;simp only[lS]at h;split at h
  .rename_i y ys h1 h2;obtain rfl:=AI h;obtain⟨hl,hr⟩:=ih h2;refine⟨by simp[hl],fun j x' d hx hd=>?_⟩
   cases j with
   | zero=>simp at hx hd;subst hx hd;exact h1
   | succ j=>simp at hx hd;exact hr j x' d hx hd
  .cases h
theorem Dg {H:Heap} (hs:eF w X μ H):∀ (k:Nat) {x:AV} {d:D} {u:Value},fL H k x=some d->RV w X μ u x->RD w X u d:=by
 intro k
 induction k with
 | zero=>
  intro x d u h hu;cases x<;>simp only[fL,IT,reduceCtorEq]at h;subst h;exact hu.data.sub fun b hb=>.inl hb
 | succ k ih=>
  intro x d u h hu
  have many:∀ {l:List AV} {ds:List D} {arr:Array Value},lS (fL H k) l=some ds->arr.size=l.length->(∀ (j:Nat) (u:Value) (c:AV),arr[j]? = some u->l[j]? = some c->RV w X μ u c)->
    arr.size=ds.length/\∀ (j:Nat) (u:Value) (c:D),arr[j]? = some u->ds[j]? = some c->RD w X u c:=by
   intro l ds arr hd hn hr;obtain⟨hl,hf⟩:=Gr hd;refine⟨aa,fun j u c hu hc=>?_⟩;have hj:=(BY.1 hc).1
   have eN:j < l.length:=aa
   exact ih (hf j l[j] c (by simp[eN]) hc) (hr j u _ hu (by simp[eN]))
  cases x with
  | d x=>
   simp only[fL,IT]at h;subst h;exact hu.data.sub fun b hb=>.inl hb
  | own r off n=>
   simp only[fL]at h;split at h
   .rename_i ty sz els hr;split at h
    .rename_i hle;obtain rfl:=AI h;obtain⟨kk,cf,_⟩:=JX (σ:=⟨fun _=>none,H⟩) hs hr hle hu;exact (cf.sub fun b hb=>.inl hb).vL
    .cases h
   .cases h
  | ref r e j=>
   simp only[fL]at h;split at h
   .rename_i ty cells hr;split at h
    .rename_i he;subst he;obtain⟨ds,hd,rfl⟩:=AS.1 h;obtain⟨m,b,hm,hb,rfl⟩:=hu.lu;obtain⟨m',cH,ok⟩:=hs.rows r _ hr;rw[hm]at cH;obtain rfl:=AI cH
     cases ok with
     | box bk bg lH hh hn lN zw=>
      rename_i b' cur;rw[hb]at bk;obtain rfl:=AI bk;obtain⟨hl,hf⟩:=Gr hd;simp only[agX]at hl;simp only[ahM,ag4];refine .ip (f:=fun i=>cur.getD (j+i) undef) (hs.frame r m b hm hb) (agx.1 hh).1 (fun i hi=>?_) fun i d jI=>?_
      .rw[cell_of_row w b (j+i) cur ty (0,0) hh];simp[agz,show j+i < cur.size by omega]
      .have hi:=(BY.1 jI).1
       have e9:j+i < cells.length:=aa
       have fZ:j+i < cur.size:=aa
       refine ih (hf i cells[j+i] d (by rw[ahd];simp[e9]) jI) (lN (j+i) _ _ ?_ (by simp[e9]));simp[agz,fZ]
    .cases h
   .cases h
  | agg cells=>
   simp only[fL]at h;obtain⟨ds,hd,rfl⟩:=AS.1 h;obtain⟨arr,rfl,hn,hr⟩:=hu.rR;obtain⟨h1,h2⟩:=many hd hn hr;exact .agg h1 h2
  | fn f caps=>
   simp only[fL]at h;obtain⟨ds,hd,rfl⟩:=AS.1 h;obtain⟨arr,rfl,hn,hr⟩:=hu.yL;obtain⟨h1,h2⟩:=many hd hn hr;exact .fn h1 h2
  | bx cells=>
   simp only[fL]at h;obtain⟨ds,hd,rfl⟩:=AS.1 h;obtain⟨arr,rfl,hn,hr⟩:=hu.Aa;obtain⟨h1,h2⟩:=many hd hn hr;exact .bx h1 h2
  | bZ t x=>
   simp only[fL]at h;obtain⟨d',hd,rfl⟩:=AS.1 h;obtain⟨v,rfl,hr⟩:=hu.sj;exact .bZ (ih hd hr)
  | mp r=>
   simp only[fL]at h;split at h
   .rename_i ty ents hr;obtain⟨es,he,rfl⟩:=AS.1 h;obtain⟨m,b,hm,hb,rfl⟩:=hu.JE;obtain⟨GZ,hh,hn,xe,_⟩:=hs.Ju hr hm hb;obtain⟨hl,hv⟩:=Lv he
    have heq:GZ=jL es:=by
     refine Array.ext (by rw[qg];omega) fun i h1 h2=>?_
     have hi:i < es.length:=by rw[qg]at h2;exact h2
     have h3:=hv i es[i] (by simp[hi]);obtain⟨k1,k2,k3⟩:=xe i GZ[i] _ (by simp[h1]) h3;have k4:=k3.scalar;have h5:=zI hi;rw[agL h2]at h5;rw[AI h5];generalize GZ[i]=e at k1 k2 k4;cases e;simp only at k1 k2 k4;rw[k1,k2,k4]
    refine .dm (hs.frame r m b hm hb) ?_ (List.Perm.refl _) ak;rw[hh,heq,qg]
   .cases h
  | _=>simp[fL]at h
def D.scalar:D->Bool
 | .v _=>true
 | .bx l=>l.all fun | .v _=>true | _=>false
 | _=>false
theorem RD.adD {X X':Nat->Prop} {w w':World} {u:Value} {x:D} (h:RD w X u x) (hs:x.scalar=true):RD w' X' u x:=by
 cases x with
 | v x=>obtain rfl:=h.scalar;exact .v _
 | bx l=>
  obtain⟨arr,rfl,hn,hr⟩:=h.Aa;refine .bx hn fun j u c hu hc=>?_;have:=ahl.1 hs c (ahr hc)
  cases c with
  | v x=>obtain rfl:=(hr j u _ hu hc).scalar;exact .v _
  | _=>cases this
 | _=>cases hs
theorem lU.rH {g:FuncId} {xs:List AV} {ds:List D} {y:D} (hd:lS (fL σ.H 4) xs=some ds) (hc:aD P G g ds y) (hy:y.scalar=true) {K:AV->St->Prop} (h:K (.d y) σ):lU P Mv X G N g xs σ K:=by
 refine⟨hc.1,fun w μ a vs hi hn hv=>?_⟩;obtain⟨hl,hf⟩:=Gr hd;refine (hc.2 X w (fun _=>none) vs (eF.none hi.bu.fits) (fun g x hx=>(hi.jq g x hx).sub fun b hb=>.inl (o6.1 hb)) (by rw[ag5];omega) fun i u x hu hx=>?_).mono ?_
 .rw[agC]at hx;obtain⟨d,jI,rfl⟩:=AS.1 hx;have hj:=(BY.1 jI).1
  have eN:i < xs.length:=aa
  exact .d ((Dg hi.bu 4 (hf i xs[i] d (by simp[eN]) jI) (hv i u _ hu (by simp[eN]))).sub fun b=>o6.1)
 .rintro e w' ⟨v,x,H',aH,rfl,⟨rfl,rfl⟩,hr,hs,bp⟩;obtain⟨aS,Bl⟩:=hi.qA (Mv:=Mv) bp.qA;exact⟨v,.d y,σ,μ,rfl,h,aS,.d (hr.data.adD hy),Bl⟩
end
theorem aiu:type_of% @bT.eq_1:=@bT.eq_1
theorem aiv:type_of% @bT.eq_2:=@bT.eq_2
theorem aiw:type_of% @cT.eq_1:=@cT.eq_1
