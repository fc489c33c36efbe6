/- Parts. -/
import Derived.Test.YtdigkhaofjmgkaaGreatDoorPs6
import Derived.Lib.AppendStr
set_option linter.unusedSectionVars false
set_option linter.unusedSimpArgs false
set_option linter.unusedVariables false
namespace Go.Av
def kF (s:ByteArray):List (List D):=s.data.toList.map fun b=>[D.v (.int .u8 b.toNat)]
theorem DN (s:ByteArray):(kF s).length=s.size:=by simp[kF]
section
variable {P:Program} {T:Ty} {Mv X:Nat->Prop} {G:Yt} {N:Fr} {w:World} {μ:Mu} {a:Act} {σ:St}
theorem DO (s:ByteArray):Rel w X μ 1 (Lib.strCells s) (kF s):=by
 intro i j el c hi hj;unfold kF at hi;rw[List.getElem?_map]at hi;obtain⟨b,hb,rfl⟩:=Option.map_eq_some_iff.1 hi
 match j,hj with
 | 0,hj=>
  simp at hj;subst hj;exact⟨_,by simp[Lib.strCells,hb],.v _⟩
 | j+1,hj=>simp at hj
theorem U9 {t t' ty e:TypeId} {tt ts te:TI} (hg:Good P T) (YO:T t=some tt) (YQ:tt.desc = .slice e) (l8:T t'=some ts) (Z6:ts.desc = .string) (bJ:T e=some te) (base:Option Addr) (n cap:Nat) (hn:n<=cap) {s:ByteArray} (c6:s.size=0) :
  (Builtin.append_ #[t,t'] ty #[.slice base n cap,.string s]).run P w = .ok (.slice base n cap) w:=by
 have hu:=hg.bX (w:=w) YO;have ZU:=hg.bX (w:=w) l8;have aK:=hg.sizeOf (w:=w) bJ;have hf:=Lib.run_firstCells_string (P:=P) w te.size s;have hn0:Lib.strCells s=[]:=List.eq_nil_of_length_eq_zero (by rw[Lib.strCells_length];exact c6);rw[c6,hn0]at hf;cases base<;>simp[Builtin.append_,hu,YQ,ZU,Z6,aK,Builtin.lenOf,hn,c6,hf,storeCells]
theorem adu (hg:Good P T) (hi:In w X G μ N a σ) {r n:Nat} (cW:Mv r) {t t' ty e:TypeId} {tt ts te:TI} (YO:T t=some tt) (YQ:tt.desc = .slice e) (l8:T t'=some ts) (Z6:ts.desc = .string) (bJ:T e=some te) {els:List (List D)} {u:Value} {s:ByteArray}
  (hH:σ.H r=some (.sl e 1 els)) (hle:n<=els.length) (hu:RV w X μ u (.own r 0 n)) (rq:te.size=1) (Y8:te.bytes=1) (tK:te.zero = .int .u8 0) (hb:n+s.size<=140737488355328) :
  iu Mv X G N w μ a ((Builtin.append_ #[t,t'] ty #[u,.string s]).run P w) (.own r 0 (n+s.size)) ⟨YT r σ.env,aF (cf r σ.H) r (.sl e 1 (els.take n ++ kF s))⟩:=by
 obtain⟨m,hm,hh⟩:=hu.gV;obtain⟨m',bA,ok⟩:=hi.aL.rows r _ hH;rw[hm]at bA;obtain rfl:=Option.some.inj bA;obtain⟨oH,i0,gN,c6,ZQ,ic,_⟩:=hg e te bJ;have ht:=(hg t tt YO).1;rw[YQ]at ht;have lK:=(hg t' ts l8).1;rw[Z6]at lK
 have h63:n+s.size<=maxLen:=by unfold maxLen;omega
 have A8:n+s.size<=9223372036854775807:=by omega
 have Zy:=DN s
 have O8:∀ el∈kF s,el.length=1:=by
  intro el aJ;obtain⟨b,_,rfl⟩:=List.mem_map.1 aJ;rfl
 have pU:∀ el∈els,el.length=1:=by
  cases ok with
  | nil=>simp
  | sl _ _ _ _ _ _ hl=>exact hl
 have ab8:∀ el∈els.take n ++ kF s,el.length=1:=by
  intro el aJ
  rcases List.mem_append.1 aJ with h | h
  .exact pU el (List.mem_of_mem_take h)
  .exact O8 el h
 by_cases aG:s.size=0
 .-- nothing is appended
  have N1:kF s=[]:=List.eq_nil_of_length_eq_zero (by rw[Zy];exact aG)
  have l9:∃ base c,u = .slice base n c/\n<=c:=by
   rcases hh with⟨_,rfl,_,rfl⟩ | ⟨b,_,rfl,fL⟩
   .exact⟨_,_,rfl,Nat.le_refl _⟩
   .exact⟨_,_,rfl,by omega⟩
  obtain⟨base,c',tD,AQ⟩:=l9;have bt:=U9 (P:=P) (w:=w) (ty:=ty) hg YO YQ l8 Z6 bJ base n c' AQ aG;rw[tD,bt,N1,aG]
  obtain⟨ax,aB⟩:=hi.move (Mv:=Mv) (w':=w) (m':=m) hm cW (Nat.le_refl _) rfl rfl rfl (fun _ _ _=>rfl) (fun b hb=>.inr hb) (row:=.sl e 1 (els.take n ++ [])) fun ev=>by
   rw[List.append_nil]
   cases ok with
   | nil Y8 dL=>rw[List.take_nil];exact .nil Y8 dL
   | sl g1 g2 g3 g4 g5 g6 g7 g8 g9=>
    refine .sl g1 g2 g3 g4 (by simp;omega) g6 (fun el aJ=>g7 el (List.mem_of_mem_take aJ)) g8 fun i j el c aJ hc=>?_;rw[List.getElem?_take]at aJ;split at aJ
    .obtain⟨v,hv,bq⟩:=g9 i j el c aJ hc;exact⟨v,hv,bq.ev ev⟩
    .cases aJ
  refine⟨_,_,_,rfl,ax,.own (m:=m) (by simp[cq]) ?_,aB⟩;rw[<- tD];exact hh
 .have ac4:0 < s.size:=by omega
  have eK:(Lib.strCells s).length=s.size:=Lib.strCells_length s
  have lM:te.zero.cells.size=1:=by rw[tK];rfl
  have ack:∀ (xs:List Value) (c8:Nat),xs.length=n->Rel w X μ 1 xs (els.take n)->n+s.size<=c8->c8<=maxLen->m.sz=1->
    iu Mv X G N w μ a (.ok (.slice (some ⟨w.heap.size,0,none⟩) (n+s.size) c8) (w.drew.alloc (.cells (xs.toArray ++ (Lib.strCells s).toArray ++ Builtin.zeroCells te.zero.cells (c8 - (n+s.size))) e)))
     (.own r 0 (n+s.size)) ⟨YT r σ.env,aF (cf r σ.H) r (.sl e 1 (els.take n ++ kF s))⟩:=by
   intro xs c8 eu hxr dJ Zf hms
   have hZ:bQ w (w.drew.alloc (.cells (xs.toArray ++ (Lib.strCells s).toArray ++ Builtin.zeroCells te.zero.cells (c8 - (n+s.size))) e)):=by
    have h1:=bQ.alloc w.drew (.cells (xs.toArray ++ (Lib.strCells s).toArray ++ Builtin.zeroCells te.zero.cells (c8 - (n+s.size))) e);exact⟨h1.size,h1.os,h1.tape,h1.output,h1.same⟩
   have aK:(xs.toArray ++ (Lib.strCells s).toArray ++ Builtin.zeroCells te.zero.cells (c8 - (n+s.size))).size=c8 * 1:=by
    simp only[Array.size_append,List.size_toArray,size_zeroCells,lM,eu,eK];omega
   obtain⟨ax,aB⟩:=hi.move (Mv:=Mv) (w':=w.drew.alloc (.cells (xs.toArray ++ (Lib.strCells s).toArray ++ Builtin.zeroCells te.zero.cells (c8 - (n+s.size))) e)) (m':=⟨some w.heap.size,1,c8⟩) hm cW hZ.size hZ.os hZ.tape hZ.output
    (fun k hk _=>hZ.same k hk) (fun b hb=>by simp at hb;omega) (row:=.sl e 1 (els.take n ++ kF s)) fun ev=>by
     refine .sl rfl rfl (by simpa using heap_alloc_new w.drew (.cells (xs.toArray ++ (Lib.strCells s).toArray ++ Builtin.zeroCells te.zero.cells (c8 - (n+s.size))) e)) aK (by simp[Zy];omega) Zf ab8 (by decide) fun i j el c hi hj=>?_;have hrel:=((hxr.append (by rw[eu,List.length_take,Nat.min_eq_left hle,Nat.mul_one]) (fun el aJ=>pU el (List.mem_of_mem_take aJ)) (DO s)).more (l':=(Builtin.zeroCells te.zero.cells (c8 - (n+s.size))).toList)) i j el c hi hj;obtain⟨v,hv,bq⟩:=hrel;refine⟨v,?_,bq.ev ev⟩;rw[<- Array.getElem?_toList];simpa using hv
   exact⟨_,_,_,rfl,ax,.own (m:=⟨some w.heap.size,1,c8⟩) (by simp[cq]) (.inr ⟨w.heap.size,rfl,by simp,by simpa using dJ⟩),aB⟩
  have hms:m.sz=1:=by
   cases ok with
   | nil _ h=>exact h
   | sl _ h=>exact h
  rcases hh with⟨Zv,rfl,_,rfl⟩ | ⟨b,Zv,rfl,fL⟩
  .have hr:=run_append_nil_string (P:=P) w t t' ty e i0 te.zero ht lK gN ic s (by omega) (by omega) (by rw[ZQ,Y8];omega);rw[hr]
   have e1:(s.data.map fun b=>Value.int .u8 b.toNat)=(Lib.strCells s).toArray:=by
    apply Array.ext';simp[Lib.strCells]
   have:=ack [] (grownCap w s.size 0 e) (by simp) (by intro i j el c hi;simp at hi) (by have:=grownCap_ge w s.size 0 e;omega) (grownCap_le_maxLen w s.size 0 e (by unfold maxLen;omega)) hms;rw[e1];simpa using this
  .cases ok with
   | nil aH _=>rw[aH]at Zv;cases Zv
   | sl aH aK ja bR iG dK hl tJ hr=>
    rename_i b' cur;rw[Zv]at aH;obtain rfl:=Option.some.inj aH
    have z8:n<=m.cap:=by omega
    have Ol:cur.size=m.cap:=by omega
    have eu:(cur.toList.take n).length=n:=by rw[List.length_take,Array.length_toList,Ol,Nat.min_eq_left z8]
    have hxr:Rel w X μ 1 (cur.toList.take n) (els.take n):=by
     intro i j el c aJ hc;rw[List.getElem?_take]at aJ;split at aJ
     .rename_i ax;obtain⟨v,hv,bq⟩:=hr i j el c aJ hc;have nd:el.length=1:=hl _ (List.mem_of_getElem? aJ)
      have hj:j < 1:=by rw[<- nd];exact (List.getElem?_eq_some_iff.1 hc).1
      refine⟨v,?_,bq⟩;rw[List.getElem?_take,if_pos (by omega)];simpa using hv
     .cases aJ
    rw[hms,Nat.zero_mul,Nat.sub_zero];by_cases l6:n+s.size<=m.cap
    .have bt:=Lib.run_append_room_string (P:=P) w t t' ty e i0 ht lK gN (by rw[c6,rq]) b n m.cap cur ja s l6 (by omega);rw[bt]
     obtain⟨ax,aB⟩:=hi.move (Mv:=Mv) (w':=w.setRow b (cur.toList.take n ++ Lib.strCells s ++ cur.toList.drop (n+s.size)).toArray) (m':=m) hm cW (by simp) rfl rfl rfl
      (fun k hk acb=>setRow_other w b k _ fun e'=>acb (by rw[Zv,e'])) (fun b hb=>.inr hb) (row:=.sl e 1 (els.take n ++ kF s)) fun ev=>by
       refine .sl Zv hms (setRow_heap w b cur _ e _ ja) ?_ (by simp[Zy];omega) dK ab8 (by decide) fun i j el c hi hj=>?_
       .simp only[List.size_toArray,List.length_append,List.length_take,List.length_drop,Array.length_toList,eK];omega
       .obtain⟨v,hv,bq⟩:=((hxr.append (by rw[eu,List.length_take,Nat.min_eq_left hle,Nat.mul_one]) (fun el aJ=>pU el (List.mem_of_mem_take aJ)) (DO s)).more (l':=cur.toList.drop (n+s.size))) i j el c hi hj;exact⟨v,by rw[<- Array.getElem?_toList];simpa using hv,bq.ev ev⟩
     refine⟨_,_,_,rfl,ax,.own (m:=m) (by simp[cq]) (.inr ⟨b,Zv,by simp,by simpa using l6⟩),aB⟩
    .have bt:=Lib.run_append_grow_string (P:=P) w t t' ty e i0 te.zero ht lK gN ic ⟨b,0,none⟩ n m.cap (cur.toList.take n) (by rw[eu,c6,rq,Nat.mul_one]) (fun j v hv=>by
      rw[addr_add,cell_of_row w b _ cur e (0,0) ja];rw[List.getElem?_take]at hv;split at hv
      .simpa using hv
      .cases hv) s (by omega) (by omega) (by rw[ZQ,Y8];exact growslice_fits (by omega) (by omega))
     rw[bt];exact ack _ _ eu hxr (grownCap_ge _ _ _ _) (grownCap_le_maxLen w _ _ e h63) hms
end
end Go.Av
namespace Go.Av
def iV (G:Yt) (e:Env):List Operand->Option (List AV)
 | []=>some []
 | o :: l=>match aT G e o,iV G e l with
  | some x,some xs=>some (x :: xs)
  | _,_=>none
def aal (G:Yt) (e:Env):List (Nat×Operand)->Option (List (Nat×AV))
 | []=>some []
 | (i,o) :: l=>match aT G e o,aal G e l with
  | some x,some xs=>some ((i,x) :: xs)
  | _,_=>none
def Yz (x:AV) (b:Bool):AV:=match x with
 | .d y=>.d (.aR [y,.v (.bool b)])
 | x=>.aR [x,.d (.v (.bool b))]
theorem Ch {w:World} {X:Nat->Prop} {μ:Mu} {u:Value} {x:AV} {b:Bool} (hx:RV w X μ u x):RV w X μ (.tuple #[u,.bool b]) (Yz x b):=by
 unfold Yz;split
 .refine .d (.aR rfl fun j v c hv hc=>?_)
  match j,hv,hc with
  | 0,hv,hc=>simp at hv hc;subst hv hc;exact hx.data
  | 1,hv,hc=>simp at hv hc;subst hv hc;exact .v _
  | j+2,hv,hc=>simp at hv
 .refine .aR rfl fun j v c hv hc=>?_
  match j,hv,hc with
  | 0,hv,hc=>simp at hv hc;subst hv hc;exact hx
  | 1,hv,hc=>simp at hv hc;subst hv hc;exact .d (.v _)
  | j+2,hv,hc=>simp at hv
def bH (T:Ty) (asserted:TypeId) (jr:Bool) (x:AV):fV:=match T asserted with
 | none=>none
 | some ti=>match x with
  | .d (.v .nilIface)=>if jr then some (True,Yz (dX ti.zero) false) else none
  | .d (.bg t y)=>if TypeDesc.isIface ti.desc then none else if t=asserted then some (True,if jr then Yz (.d y) true else .d y) else if jr then some (True,Yz (dX ti.zero) false) else none
  | .bg t y=>if TypeDesc.isIface ti.desc then none else if t=asserted then some (True,if jr then Yz y true else y) else if jr then some (True,Yz (dX ti.zero) false) else none
  | _=>none
theorem KR {P:Program} {T:Ty} (hg:Good P T) {w:World} {X:Nat->Prop} {μ:Mu} {asserted xT:TypeId} {jr:Bool} {u:Value} {x z:AV} {c:Prop} (h:bH T asserted jr x=some (c,z)) (hx:RV w X μ u x) :
  ∃ r,(Instr.typeAssert u xT asserted jr).run P w = .ok r w/\RV w X μ r z:=by
 unfold bH at h;split at h
 .cases h
 .rename_i ti ht
  have one:∀ (t:TypeId) (v:Value) (y:AV),RV w X μ v y->(if TypeDesc.isIface ti.desc then none else if t=asserted then some (True,if jr then Yz y true else y) else if jr then some (True,Yz (dX ti.zero) false) else none)=some (c,z)->
    ∃ r,(Instr.typeAssert (.iface t v) xT asserted jr).run P w = .ok r w/\RV w X μ r z:=by
   intro t v y hy h;by_cases hni:TypeDesc.isIface ti.desc=true
   .rw[if_pos hni]at h;cases h
   .rw[if_neg hni]at h;by_cases kS:t=asserted
    .rw[if_pos kS]at h;simp only[Option.some.injEq,Prod.mk.injEq]at h;obtain⟨_,rfl⟩:=h;subst kS;refine⟨if jr then .tuple #[v,.bool true] else v,?_,?_⟩
     .cases hd:ti.desc<;>first | (rw[hd]at hni;exact absurd rfl hni) | (simp[Instr.typeAssert,hg.bX ht,hd])
     .cases jr
      .exact hy
      .exact Ch hy
    .rw[if_neg kS]at h
     cases jr with
     | false=>cases h
     | true=>
      simp only[if_true,Option.some.injEq,Prod.mk.injEq]at h;obtain⟨_,rfl⟩:=h;refine⟨.tuple #[ti.zero,.bool false],?_,Ch (yX _)⟩
      cases hd:ti.desc<;>first | (rw[hd]at hni;exact absurd rfl hni) | (simp[Instr.typeAssert,hg.bX ht,hd,kS,hg.zero ht])
  split at h
  .split at h
   .rename_i aS;simp only[Option.some.injEq,Prod.mk.injEq]at h;obtain⟨_,rfl⟩:=h;have:=hx.scalar;subst this;refine⟨.tuple #[ti.zero,.bool false],?_,Ch (yX _)⟩;subst aS;cases hd:ti.desc<;>simp[Instr.typeAssert,hg.bX ht,hd,hg.zero ht]
   .cases h
  .rename_i t y;obtain⟨v,rfl,hv⟩:=hx.data.oL;exact one t v (.d y) (.d hv) h
  .rename_i t y;obtain⟨v,rfl,hv⟩:=hx.oL;exact one t v y hv h
  .cases h
def rd (T:Ty) (G:Yt) (σ:St):Op->fV
 | .move x=>(aT G σ.env x).map fun v=>(True,v)
 | .assign x=>(aT G σ.env x).map fun v=>(True,v)
 | .binOp op t x y _=>match aT G σ.env x,aT G σ.env y with
  | some a,some b=>vb T op t y a b
  | _,_=>none
 | .unOp op _ x=>(aT G σ.env x).bind (xZ op)
 | .load t x=>(aT G σ.env x).bind (iL T σ.H t)
 | .fieldAddr t x f=>(aT G σ.env x).bind (vC T t f)
 | .field t x f=>(aT G σ.env x).bind (vB T t f)
 | .indexAddr t x i=>match aT G σ.env x,aT G σ.env i with
  | some a,some b=>kV T σ.H t a b
  | _,_=>none
 | .index t x i=>match aT G σ.env x,aT G σ.env i with
  | some a,some b=>acF T t a b
  | _,_=>none
 | .extract x i=>(aT G σ.env x).bind (vz i)
 | .makeInterface t x=>(aT G σ.env x).bind (acJ T t)
 | .makeFunc f first caps=>if first.isEmpty then (iV G σ.env caps.toList).map fun cs=>(True,tX f cs) else match f,first.toList,caps.toList with
  | .func g,[x],[]=>(aT G σ.env x).map fun v=>(True,.bm g v)
  | _,_,_=>none
 | .pick c x y=>match aT G σ.env c,aT G σ.env x,aT G σ.env y with
  | some (.d (.v (.bool b))),some a1,some a2=>some (True,if b then a1 else a2)
  | _,_,_=>none
 | .nilCheck x=>(aT G σ.env x).bind xp
 | .build t parts=>(aal G σ.env parts.toList).bind (ve T t)
 | .convert src dst x=>if (T src).isSome then (aT G σ.env x).bind (vn T dst) else none
 | .slice t x lo hi mx=>if mx.isNone then match aT G σ.env x,bound G σ.env lo,bound G σ.env hi with
   | some v,some l,some h=>lQ T σ.H t v l h
   | _,_,_=>none
  else none
 | .typeAssert x _ t b=>(aT G σ.env x).bind (bH T t b)
 | .lookup t x i b=>match aT G σ.env x,aT G σ.env i with
  | some a,some k=>jh T σ.H t b a k
  | _,_=>none
 | .call { callee:=.builtin .len,args,argTypes }=>match args.toList,argTypes.toList with
  | [x],[t]=>(aT G σ.env x).bind (xe T t)
  | _,_=>none
 | .call { callee:=.builtin .max,args,.. }=>match args.toList with
  | [x,y]=>match aT G σ.env x,aT G σ.env y with
   | some (.d (.v (.int k a))),some (.d (.v (.int k' b)))=>some (True,.d (.v (.int k (if b > a then b else a))))
   | _,_=>none
  | _=>none
 | .call { callee:=.builtin .min,args,.. }=>match args.toList with
  | [x,y]=>match aT G σ.env x,aT G σ.env y with
   | some (.d (.v (.int k a))),some (.d (.v (.int k' b)))=>some (True,.d (.v (.int k (if b < a then b else a))))
   | _,_=>none
  | _=>none
 | _=>none
def ac7 (T:Ty) (G:Yt) (Mv:Nat->Prop) (σ:St) (t t':TypeId) (x y:Operand):Option (Prop×AV×St):=match T t,T t' with
 | some tt,some ts=>match tt.desc,ts.desc with
  | .slice e,.string=>match T e,aT G σ.env x,aT G σ.env y with
   | some te,some (.own r off n),some (.d (.v (.string s)))=>match σ.H r with
    | some (.sl ty sz els)=>some (off=0/\Mv r/\ty=e/\sz=1/\n<=els.length/\te.size=1/\te.bytes=1/\te.zero = .int .u8 0/\n+s.size<=140737488355328,
      .own r 0 (n+s.size),⟨YT r σ.env,aF (cf r σ.H) r (.sl e 1 (els.take n ++ kF s))⟩)
    | _=>none
   | _,_,_=>none
  | _,_=>none
 | _,_=>none
def wr (T:Ty) (G:Yt) (Mv:Nat->Prop) (σ:St) (o:Oper):Option (Prop×AV×St):=match o.op,o.dst with
 | .alloc t,some d=>match T t with
  | some ti=>some (σ.H d=none,.ref d 0 0,⟨σ.env,aF σ.H d (.box t ((dW ti.zero).map .d))⟩)
  | none=>none
 | .box t x,some d=>match (aT G σ.env x).bind eW with
  | some cs=>some (σ.H d=none,.ref d 0 0,⟨σ.env,aF σ.H d (.box t cs)⟩)
  | none=>none
 | .store t x y,none=>match aT G σ.env x,aT G σ.env y with
  | some (.ref r e j),some v=>match σ.H r with
   | some (.box ty cells)=>if e=0 then match xS T t cells j v with
     | some (c,abm)=>some (c,.dead,⟨σ.env,aF σ.H r (.box ty abm)⟩)
     | none=>none
    else none
   | some (.sl ty sz els)=>match xU T t sz els e j v with
    | some (c,iU)=>some (c,.dead,⟨σ.env,aF σ.H r (.sl ty sz iU)⟩)
    | none=>none
   | some (.mp _ _)=>none
   | some (.it _ _)=>none
   | none=>none
  | _,_=>none
 | .makeSlice t l c,some d=>match T t with
  | some tt=>match tt.desc with
   | .slice e=>match T e,aT G σ.env l,aT G σ.env c with
    | some te,some (.d (.v (.int _ n))),some (.d (.v (.int _ m)))=>some (σ.H d=none/\0<=n/\n<=m/\te.bytes * m<=281474976710656/\m<=9223372036854775807/\0 < te.size/\(dW te.zero).length=te.size,.own d 0 n.toNat,⟨σ.env,aF σ.H d (.sl e te.size (aad te n.toNat))⟩)
    | _,_,_=>none
   | _=>none
  | none=>none
 | .buildSlice t len parts,some d=>match T t with
  | some tt=>match tt.desc with
   | .slice e=>match T e,aal G σ.env parts.toList with
    | some te,some ps=>match abl te.size 0 ps with
     | some els=>some (σ.H d=none/\ps.length=len/\0 < te.size/\len * te.size<=16777216,.own d 0 len,⟨σ.env,aF σ.H d (.sl e te.size els)⟩)
     | none=>none
    | _,_=>none
   | _=>none
  | none=>none
 | .call { callee:=.builtin .append,args,argTypes },some d=>match args.toList,argTypes.toList with
  | [x,y],[t,t']=>if t=t' then match T t with
   | some tt=>match tt.desc with
    | .slice e=>match T e,aT G σ.env x,aT G σ.env y with
     | some te,some (.own r off n),some v=>match σ.H r,ZX σ.H r v with
      | some (.sl ty sz els),some news=>some (off=0/\Mv r/\ty=e/\sz=te.size/\n<=els.length/\(∀ el∈news,el.length=te.size)/\(∀ el∈news,∀ c∈el,D.one c=true)/\0 < te.size/\(dW te.zero).length=te.size/\n+news.length<=9223372036854775807/\(n+news.length) * te.bytes<=140737488355328,
        .own r 0 (n+news.length),⟨YT r σ.env,aF (cf r σ.H) r (.sl e te.size (els.take n ++ news))⟩)
      | _,_=>none
     | some te,some (.d (.sl (some false) [])),some v=>match ZX σ.H d v with
      | some news=>some (σ.H d=none/\Mv d/\(∀ el∈news,el.length=te.size)/\(∀ el∈news,∀ c∈el,D.one c=true)/\0 < te.size/\(dW te.zero).length=te.size/\news.length<=9223372036854775807/\news.length * te.bytes<=140737488355328,
        .own d 0 news.length,⟨σ.env,aF σ.H d (.sl e te.size news)⟩)
      | none=>none
     | _,_,_=>none
    | _=>none
   | none=>none
  else ac7 T G Mv σ t t' x y
  | _,_=>none
 | .call { callee:=.builtin .copy,args,argTypes },some _=>match args.toList,argTypes.toList with
  | [x,y],[t,_]=>match T t with
   | some tt=>match tt.desc with
    | .slice e=>match T e,aT G σ.env x,aT G σ.env y with
     | some te,some (.own r off n),some v=>match σ.H r,uC σ.H v with
      | some (.sl ty sz els),some news=>some (ty=e/\sz=1/\te.size=1/\off+n<=els.length/\0 < els.length/\(∀ el∈news,el.length=1)/\(∀ el∈news,∀ c∈el,D.one c=true),
        .d (.v (.int .i64 ((news.take n).length:Nat))),⟨σ.env,aF σ.H r (.sl e 1 (js els news off n))⟩)
      | _,_=>none
     | some te,some (.d (.sl _ [])),some v=>match uC σ.H v with
      | some news=>some ((∀ el∈news,el.length=te.size)/\0 < te.size/\(∀ el∈news,∀ c∈el,D.one c=true),.d (.v (.int .i64 0)),σ)
      | none=>none
     | _,_,_=>none
    | _=>none
   | none=>none
  | _,_=>none
 | .makeMap t none,some d=>some (σ.H d=none,.mp d,⟨σ.env,aF σ.H d (.mp t [])⟩)
 | .mapUpdate t m k v,none=>match aT G σ.env m,aT G σ.env k,aT G σ.env v with
  | some (.mp r),some (.d (.v key)),some (.d x)=>match σ.H r with
   | some (.mp ty ents)=>match uq T t ents key x with
    | some (c,ZO)=>some (c,.dead,⟨σ.env,aF σ.H r (.mp ty ZO)⟩)
    | none=>none
   | _=>none
  | _,_,_=>none
 | .insert t m k v,none=>match aT G σ.env m,aT G σ.env k,aT G σ.env v with
  | some (.mp r),some (.d (.v key)),some (.d x)=>match σ.H r with
   | some (.mp ty ents)=>match uq T t ents key x with
    | some (c,ZO)=>some (c,.dead,⟨σ.env,aF σ.H r (.mp ty ZO)⟩)
    | none=>none
   | _=>none
  | _,_,_=>none
 | _,_=>none
def aw (e:Env) (dst:Option Tmp) (x:AV):Env:=match dst with
 | some d=>fb e d x
 | none=>e
section
variable {P:Program} {T:Ty} {Mv X:Nat->Prop} {G:Yt} {N:Fr} {w:World} {μ:Mu} {a:Act} {σ:St}
theorem In.put (hi:In w X G μ N a σ) {u:Value} {x:AV} (hx:RV w X μ u x) {dst:Option Tmp} (hd:∀ d,dst=some d->d < N.n):In w X G μ N (a.put dst u) ⟨aw σ.env dst x,σ.H⟩:=by
 cases dst with
 | none=>exact hi
 | some d=>
  have Yv:d < a.tmps.size:=by rw[hi.env.size];exact hd d rfl
  refine⟨hi.aL,⟨hi.env.defers,by simp[Act.put,hi.env.size],fun i y hy=>?_⟩,hi.eZ⟩;simp only[aw,fb]at hy;split at hy
  .rename_i e;subst e;obtain rfl:=Option.some.inj hy;exact⟨u,by simp[Act.put,Yv],hx⟩
  .rename_i e;obtain⟨v,hv,hr⟩:=hi.env.slot i y hy;exact⟨v,by simp only[Act.put];rw[Array.getElem?_setIfInBounds_ne (Ne.symm e)];exact hv,hr⟩
theorem In.iV (hi:In w X G μ N a σ):∀ {l:List Operand} {xs:List AV},iV G σ.env l=some xs->(l.map a.eval).length=xs.length/\∀ (i:Nat) (u:Value) (x:AV),(l.map a.eval)[i]? = some u->xs[i]? = some x->RV w X μ u x:=by
 intro l
 induction l with
 | nil=>intro xs h;simp only[Go.Av.iV,Option.some.injEq]at h;subst h;exact⟨rfl,by simp⟩
 | cons o l ih=>
  intro xs h;simp only[Go.Av.iV]at h;split at h
  .rename_i x JM h1 h2;obtain rfl:=Option.some.inj h;obtain⟨hl,hr⟩:=ih h2;refine⟨by simpa using hl,fun i u y hu hy=>?_⟩
   cases i with
   | zero=>simp at hu hy;subst hu hy;exact hi.eval h1
   | succ i=>simp at hu hy;exact hr i u y (by simpa using hu) hy
  .cases h
theorem In.aal (hi:In w X G μ N a σ):∀ {l:List (Nat×Operand)} {xs:List (Nat×AV)},aal G σ.env l=some xs->(l.map fun p=>(p.1,a.eval p.2)).map (·.1)=xs.map (·.1)/\
  ∀ (i:Nat) (p:Nat×AV) (v:Nat×Value),xs[i]? = some p->(l.map fun p=>(p.1,a.eval p.2))[i]? = some v->RV w X μ v.2 p.2:=by
 intro l
 induction l with
 | nil=>intro xs h;simp only[Go.Av.aal,Option.some.injEq]at h;subst h;exact⟨rfl,by simp⟩
 | cons o l ih=>
  intro xs h;obtain⟨k,o⟩:=o;simp only[Go.Av.aal]at h;split at h
  .rename_i x JM h1 h2;obtain rfl:=Option.some.inj h;obtain⟨hl,hr⟩:=ih h2;refine⟨by simpa using hl,fun i p v hp hv=>?_⟩
   cases i with
   | zero=>simp at hp hv;subst hp hv;exact hi.eval h1
   | succ i=>simp at hp hv;exact hr i p v hp (by simpa using hv)
  .cases h
theorem In.bound (hi:In w X G μ N a σ) {o:Option Operand} {l:Option Int} (h:bound G σ.env o=some l):(o.map a.eval=none/\l=none)\/∃ k n,o.map a.eval=some (.int k n)/\l=some n:=by
 unfold Go.Av.bound at h;split at h
 .obtain rfl:=Option.some.inj h;exact .inl ⟨rfl,rfl⟩
 .split at h
  .rename_i k n he;obtain rfl:=Option.some.inj h;exact .inr ⟨k,n,by simp[(hi.eval he).scalar],rfl⟩
  .cases h
theorem Cq (hg:Good P T) (hi:In w X G μ N a σ) {o:Oper} {c:Prop} {x:AV} (h:rd T G σ o.op=some (c,x)) (hc:c):∃ v,(execOp a.eval o).run P w = .ok (.value v) w/\RV w X μ v x:=by
 have lift:∀ {s:Sem Value} ,(∃ v,s.run P w = .ok v w/\RV w X μ v x)->∃ v,(do pure (.value (<- s)):Sem Next).run P w = .ok (.value v) w/\RV w X μ v x:=by
  rintro s ⟨v,hv,hr⟩;exact⟨v,by simp[hv],hr⟩
 obtain⟨dst,op,type,pos,after,guard⟩:=o;dsimp only at h;unfold rd at h;split at h
 .obtain⟨y,hy,he⟩:=Option.map_eq_some_iff.1 h;simp only[Prod.mk.injEq]at he;obtain⟨rfl,rfl⟩:=he;exact⟨_,rfl,hi.eval hy⟩
 .obtain⟨y,hy,he⟩:=Option.map_eq_some_iff.1 h;simp only[Prod.mk.injEq]at he;obtain⟨rfl,rfl⟩:=he;exact⟨_,rfl,hi.eval hy⟩
 .split at h
  .rename_i h1 h2;exact lift (ady hg hi h1 h2 h hc)
  .cases h
 .obtain⟨y,hy,he⟩:=Option.bind_eq_some_iff.1 h;exact lift (Wo he hc (hi.eval hy))
 .obtain⟨y,hy,he⟩:=Option.bind_eq_some_iff.1 h;exact lift (He hg hi.aL he hc (hi.eval hy))
 .obtain⟨y,hy,he⟩:=Option.bind_eq_some_iff.1 h;exact lift (adH hg he hc (hi.eval hy))
 .obtain⟨y,hy,he⟩:=Option.bind_eq_some_iff.1 h;exact lift (Mt hg he hc (hi.eval hy))
 .split at h
  .rename_i h1 h2;exact lift (Qo hg hi.aL h hc (hi.eval h1) (hi.eval h2))
  .cases h
 .split at h
  .rename_i h1 h2;exact lift (Qs hg h hc (hi.eval h1) (hi.eval h2))
  .cases h
 .obtain⟨y,hy,he⟩:=Option.bind_eq_some_iff.1 h;exact lift (Mr he (hi.eval hy))
 .obtain⟨y,hy,he⟩:=Option.bind_eq_some_iff.1 h;exact lift (Ru hg he (hi.eval hy))
 .split at h
  .rename_i f first caps hf;obtain⟨y,hy,he⟩:=Option.map_eq_some_iff.1 h;simp only[Prod.mk.injEq]at he;obtain⟨rfl,rfl⟩:=he;obtain⟨hl,hr⟩:=hi.iV hy
   have Am:first = #[]:=by simpa using hf
   subst Am;refine⟨.func f #[] (caps.map a.eval),by simp[execOp,Instr.makeFunc],BT (by simpa using hl) fun j u c hu hc=>hr j u c (by simpa using hu) hc⟩
  .split at h
   .rename_i x Ao dJ;obtain⟨y,hy,he⟩:=Option.map_eq_some_iff.1 h;simp only[Prod.mk.injEq]at he;obtain⟨rfl,rfl⟩:=he;obtain rfl:=Array.toList_inj.1 (show _=(#[x]:Array Operand).toList from Ao);obtain rfl:=Array.toList_inj.1 (show _=(#[]:Array Operand).toList from dJ);exact⟨_,by simp[execOp,Instr.makeFunc],.bm (hi.eval hy)⟩
   .cases h
 .split at h
  .rename_i b a1 a2 h0 h1 h2;simp only[Option.some.injEq,Prod.mk.injEq]at h;obtain⟨rfl,rfl⟩:=h;have hb:=(hi.eval h0).scalar;refine⟨if b then a.eval _ else a.eval _,by simp[execOp,hb,asBool];cases b<;>rfl,?_⟩;cases b
   .exact hi.eval h2
   .exact hi.eval h1
  .cases h
 .obtain⟨y,hy,he⟩:=Option.bind_eq_some_iff.1 h;obtain⟨⟨ad,Fx⟩,hr⟩:=RX he (hi.eval hy);exact⟨.pointer (some ad),by simp[execOp,Fx],by rw[<- Fx];exact hr⟩
 .rename_i t parts;obtain⟨ps,Y0,he⟩:=Option.bind_eq_some_iff.1 h;obtain⟨h1,h2⟩:=hi.aal Y0;refine lift (Lc (vs:=parts.map fun p=>(p.1,a.eval p.2)) hg he (by simpa using h1) fun i p v hp hv=>h2 i p v hp ?_);rw[<- Array.getElem?_toList]at hv;simpa using hv
 .split at h
  .rename_i hs;obtain⟨y,hy,he⟩:=Option.bind_eq_some_iff.1 h;exact lift (LG hg hs he hc (hi.eval hy))
  .cases h
 .split at h
  .rename_i mx dK;split at h
   .rename_i v l hh h1 h2 h3
    cases mx with
    | some _=>simp at dK
    | none=>exact lift (Vw hg hi.aL h hc (hi.eval h1) (hi.bound h2) (hi.bound h3))
   .cases h
  .cases h
 .obtain⟨y,hy,he⟩:=Option.bind_eq_some_iff.1 h;exact lift (KR hg he (hi.eval hy))
 .split at h
  .rename_i h1 h2;exact lift (Rk hg hi.aL h hc (hi.eval h1) (hi.eval h2))
  .cases h
 .split at h
  .rename_i args argTypes _ _ x0 t ha ht;obtain⟨y,hy,he⟩:=Option.bind_eq_some_iff.1 h;obtain⟨r,hr,Zt⟩:=Rb (ty:=type) hg he (hi.eval hy);have e1:args = #[x0]:=Array.toList_inj.1 ha;have e2:argTypes = #[t]:=Array.toList_inj.1 ht;subst e1 e2;exact⟨r,by simp[execOp,resolve,invoke,builtin,hr],Zt⟩
  .cases h
 .split at h
  .rename_i args _ _ x0 y0 ha;split at h
   .rename_i k a0 k' b0 h1 h2;simp only[Option.some.injEq,Prod.mk.injEq]at h;obtain⟨rfl,rfl⟩:=h;have e1:=(hi.eval h1).scalar;have e2:=(hi.eval h2).scalar;have e0:args = #[x0,y0]:=Array.toList_inj.1 ha;subst e0;exact⟨_,by simp[execOp,resolve,invoke,builtin,Builtin.max_,Builtin.max2,e1,e2],.d (.v _)⟩
   .cases h
  .cases h
 .split at h
  .rename_i args _ _ x0 y0 ha;split at h
   .rename_i k a0 k' b0 h1 h2;simp only[Option.some.injEq,Prod.mk.injEq]at h;obtain⟨rfl,rfl⟩:=h;have e1:=(hi.eval h1).scalar;have e2:=(hi.eval h2).scalar;have e0:args = #[x0,y0]:=Array.toList_inj.1 ha;subst e0;exact⟨_,by simp[execOp,resolve,invoke,builtin,Builtin.min_,Builtin.min2,e1,e2],.d (.v _)⟩
   .cases h
  .cases h
 .cases h
theorem RV.xr {u:Value} {x:AV} {r:Nat} (h:RV w X μ u x) (hr:μ r=none):x.kill r=x:=by
 have YB:∀ (l:List AV),(∀ c∈l,c.kill r=c)->l.map (AV.kill r)=l:=by
  intro l hl
  induction l with
  | nil=>rfl
  | cons c l ih=>simp only[List.map_cons];rw[hl c (by simp),ih fun c hc=>hl c (by simp[hc])]
 have arr:∀ (arr:Array Value) (cells:List AV),arr.size=cells.length->(∀ (j:Nat) (u:Value) (c:AV),arr[j]? = some u->cells[j]? = some c->c.kill r=c)->cells.map (AV.kill r)=cells:=by
  intro arr cells hn hh;refine YB cells fun c hc=>?_;obtain⟨j,hj,rfl⟩:=List.mem_iff_getElem.1 hc;exact hh j arr[j] _ (by simp[hn,hj]) (by simp[hj])
 induction h with
 | d h=>rfl
 | own hm _=>
  rename_i u q off n m;unfold AV.kill;rw[if_neg];intro e;subst e;rw[hr]at hm;cases hm
 | ref hm _=>
  rename_i q e j b m;unfold AV.kill;rw[if_neg];intro e;subst e;rw[hr]at hm;cases hm
 | agg hn _ ih=>rw[AV.kill,AV.go_eq,arr _ _ hn ih]
 | aR hn _ ih=>rw[AV.kill,AV.go_eq,arr _ _ hn ih]
 | bg _ ih=>rw[AV.kill,ih]
 | bm _ ih=>rw[AV.kill,ih]
 | fn hn _ ih=>rw[AV.kill,AV.go_eq,arr _ _ hn ih]
 | mp hm _=>
  rename_i q b m;unfold AV.kill;rw[if_neg];intro e;subst e;rw[hr]at hm;cases hm
 | dead u=>rfl
theorem In.xr (hi:In w X G μ N a σ) {r:Nat} (hr:σ.H r=none):YT r σ.env=σ.env/\cf r σ.H=σ.H:=by
 have hn:=hi.aL.ml hr;constructor
 .funext i;unfold YT
  cases he:σ.env i with
  | none=>rfl
  | some x=>
   obtain⟨u,_,hx⟩:=hi.env.slot i x he;simp[hx.xr hn]
 .funext q;unfold cf
  cases hq:σ.H q with
  | none=>rfl
  | some row=>
   obtain⟨m,hm,ok⟩:=hi.aL.rows q row hq
   cases ok with
   | nil=>rfl
   | sl=>rfl
   | mp=>rfl
   | it=>rfl
   | box hb aK hc hh iG gR Bm=>
    rename_i ty b cells cur
    have:cells.map (AV.kill r)=cells:=by
     have:=(RV.agg (w:=w) (X:=X) (μ:=μ) (arr:=(cur.toList.take cells.length).toArray) (cells:=cells) (by simp;omega) fun j u c hu hc=>gR j u c (by
      have ZU:(cur.toList.take cells.length)[j]? = some u:=by simpa using hu
      rw[List.getElem?_take]at ZU;split at ZU
      .simpa using ZU
      .cases ZU) hc).xr hn
     rw[AV.kill,AV.go_eq]at this;exact AV.agg.inj this
    simp[Row.kill,this]
theorem ael (hg:Good P T) (hi:In w X G μ N a σ) {o:Oper} {c:Prop} {x:AV} {ay:St} (h:wr T G Mv σ o=some (c,x,ay)) (hc:c) (hd:∀ d,o.dst=some d->d < N.n) :
  ∃ n v w' ak,(execOp a.eval o).run P w = .ok n w'/\(n = .value v\/(n = .skip/\v=undef))/\In w' X G ak N a ay/\RV w' X ak v x/\Ev Mv w μ w' ak:=by
 have lift:∀ {s:Sem Value} {x:AV} {ay:St},iu Mv X G N w μ a (s.run P w) x ay->∃ n v w' ak,(do pure (.value (<- s)):Sem Next).run P w = .ok n w'/\(n = .value v\/(n = .skip/\v=undef))/\In w' X G ak N a ay/\RV w' X ak v x/\Ev Mv w μ w' ak:=by
  rintro s x ay ⟨v,w',ak,hr,rest⟩;exact⟨.value v,v,w',ak,by simp[hr],.inl rfl,rest⟩
 obtain⟨dst,op,type,pos,after,guard⟩:=o;dsimp only at h hd;unfold wr at h;dsimp only at h;split at h
 .split at h
  .rename_i ti ht;simp only[Option.some.injEq,Prod.mk.injEq]at h;obtain⟨rfl,rfl,rfl⟩:=h;exact lift (Kn hg hi hc ht)
  .cases h
 .split at h
  .rename_i cs bR;obtain⟨y,hy,he⟩:=Option.bind_eq_some_iff.1 bR;simp only[Option.some.injEq,Prod.mk.injEq]at h;obtain⟨rfl,rfl,rfl⟩:=h;exact lift (La hi hc (hi.eval hy) he)
  .cases h
 .split at h
  .rename_i r e j v h1 h2;split at h
   .rename_i ty cells hH;split at h
    .rename_i he;subst he;split at h
     .rename_i c' abm hs;simp only[Option.some.injEq,Prod.mk.injEq]at h;obtain⟨rfl,rfl,rfl⟩:=h;obtain⟨w',hr,ax,aB⟩:=VG (Mv:=Mv) hg hi hH hs hc (hi.eval h1) (hi.eval h2);exact⟨.skip,undef,w',μ,by simp[execOp,hr],.inr ⟨rfl,rfl⟩,ax,.dead _,aB⟩
     .cases h
    .cases h
   .rename_i ty sz els hH;split at h
    .rename_i c' iU hs;simp only[Option.some.injEq,Prod.mk.injEq]at h;obtain⟨rfl,rfl,rfl⟩:=h;obtain⟨w',hr,ax,aB⟩:=VH (Mv:=Mv) hg hi hH hs hc (hi.eval h1) (hi.eval h2);exact⟨.skip,undef,w',μ,by simp[execOp,hr],.inr ⟨rfl,rfl⟩,ax,.dead _,aB⟩
    .cases h
   .cases h
   .cases h
   .cases h
  .cases h
 .split at h
  .rename_i tt YO;split at h
   .rename_i e YQ;split at h
    .rename_i te kn n km m bJ h1 h2;simp only[Option.some.injEq,Prod.mk.injEq]at h;obtain⟨rfl,rfl,rfl⟩:=h;obtain⟨g1,g2,g3,g4,g5,g6,g7⟩:=hc;have:=Rt (Mv:=Mv) hg hi g1 YO YQ bJ (k1:=kn) (k2:=km) g2 g3 g4 g5 g6 g7;rw[<- (hi.eval h1).scalar,<- (hi.eval h2).scalar]at this;exact lift this
    .cases h
   .cases h
  .cases h
 .split at h
  .rename_i tt YO;split at h
   .rename_i e YQ;split at h
    .rename_i te ps bJ Y0;split at h
     .rename_i els pM;simp only[Option.some.injEq,Prod.mk.injEq]at h;obtain⟨rfl,rfl,rfl⟩:=h;obtain⟨g1,g2,g3,g4⟩:=hc;obtain⟨hv,hr⟩:=hi.aal Y0;exact lift (Ld (Mv:=Mv) hg hi g1 YO YQ bJ pM g2 (by simpa using hv) (fun i p v h1 h2=>hr i p v h1 (by simpa using h2)) g3 g4)
     .cases h
    .cases h
   .cases h
  .cases h
 .split at h
  .rename_i args argTypes d _ _ x0 y0 t t' ha ht;have e1:args = #[x0,y0]:=Array.toList_inj.1 ha;have e2:argTypes = #[t,t']:=Array.toList_inj.1 ht;subst e1 e2;split at h
   .rename_i P3;subst P3
    have run_eq:∀ {x:AV} {ay:St},iu Mv X G N w μ a ((Builtin.append_ #[t,t] type #[a.eval x0,a.eval y0]).run P w) x ay->∃ n v w' ak,(execOp a.eval { dst:=some d,op:=.call { callee:=.builtin .append,args:=⟨[x0,y0]⟩,argTypes:=⟨[t,t]⟩ },type:=type,pos:=pos,after:=after,guard:=guard }).run P w = .ok n w'/\(n = .value v\/(n = .skip/\v=undef))/\In w' X G ak N a ay/\RV w' X ak v x/\Ev Mv w μ w' ak:=by
     rintro x ay ⟨v,w',ak,hr,rest⟩;exact⟨.value v,v,w',ak,by simp[execOp,resolve,invoke,builtin,hr],.inl rfl,rest⟩
    split at h
    .rename_i tt YO;split at h
     .rename_i e YQ;split at h
      .rename_i te r off n v bJ h1 h2;split at h
       .rename_i ty sz els news hH hn;simp only[Option.some.injEq,Prod.mk.injEq]at h;obtain⟨rfl,rfl,rfl⟩:=h;obtain⟨rfl,g1,rfl,rfl,g2,g3,g4,g5,g6,g7,g8⟩:=hc;exact run_eq (yu (Mv:=Mv) hg hi g1 YO YQ bJ hH g2 (hi.eval h1) (ue hi.aL (hi.eval h2) hn g3 g5 g4) g5 g6 (by unfold maxLen;omega) g8)
       .cases h
      .rename_i te v bJ h1 h2;split at h
       .rename_i news hn;simp only[Option.some.injEq,Prod.mk.injEq]at h;obtain⟨rfl,rfl,rfl⟩:=h;obtain⟨g0,g1,g3,g4,g5,g6,g7,g8⟩:=hc;obtain⟨ax,aB⟩:=hi.alloc (Mv:=Mv) g0 (bQ.refl w) (m:=⟨none,te.size,0⟩) (by simp) (row:=.sl e te.size []) fun _=>.nil rfl rfl
        have hu:RV w X (cq μ d ⟨none,te.size,0⟩) (a.eval x0) (.own d 0 0):=by
         have:=(hi.eval h1).data.k8
         rcases this with⟨hh,_⟩ | ⟨ad,cap,hh,hk,_⟩
         .rw[hh];exact .own (m:=⟨none,te.size,0⟩) (by simp[cq]) (.inl ⟨rfl,rfl,rfl,rfl⟩)
         .exact absurd rfl hk
        have iG:ZX (aF σ.H d (.sl e te.size [])) d v=some news:=by
         unfold ZX at hn ⊢
         split at hn<;>first | exact hn | skip
         rename_i q off n;split at hn
         .cases hn
         .rename_i hq;rw[if_neg hq];simpa[aF,hq]using hn
        have wW:RV w X (cq μ d ⟨none,te.size,0⟩) (a.eval y0) v:=by
         refine (hi.eval h2).same aB fun q m hq=>?_;unfold cq;split
         .rename_i e';subst e';rw[hi.aL.ml g0]at hq;cases hq
         .exact hq
        have sW:=yu (Mv:=Mv) (ty:=type) hg ax g1 YO YQ bJ (r:=d) (n:=0) (els:=[]) (news:=news) (by simp[aF]) (by simp) hu (ue ax.aL wW iG g3 g5 g4) g5 g6 (by unfold maxLen;omega) (by simpa using g8);obtain⟨v',w',ak,hr,q8,Zt,aao⟩:=sW;refine run_eq ⟨v',w',ak,hr,?_,by simpa using Zt,aB.trans aao⟩;obtain⟨k1,k2⟩:=hi.xr g0
        have e1:cf d (aF σ.H d (.sl e te.size []))=aF σ.H d (.sl e te.size []):=by
         funext q;by_cases hq:q=d
         .simp[cf,aF,hq,Row.kill]
         .have:=congrFun k2 q;simpa[cf,aF,hq]using this
        have e2:aF (aF σ.H d (.sl e te.size [])) d (.sl e te.size ([].take 0 ++ news))=aF σ.H d (.sl e te.size news):=by
         funext q;by_cases hq:q=d<;>simp[aF,hq]
        dsimp only at q8;rw[k1,e1,e2]at q8;exact q8
       .cases h
      .cases h
     .cases h
    .cases h
   .unfold ac7 at h;split at h
    .rename_i tt ts YO l8;split at h
     .rename_i e YQ Z6;split at h
      .rename_i te r off n s bJ h1 h2;split at h
       .rename_i ty sz els hH;simp only[Option.some.injEq,Prod.mk.injEq]at h;obtain⟨rfl,rfl,rfl⟩:=h;obtain⟨rfl,g1,rfl,rfl,g2,g3,g4,g5,g6⟩:=hc;have hv:a.eval y0 = .string s:=(hi.eval h2).scalar;obtain⟨v,w',ak,hr,rest⟩:=adu (Mv:=Mv) (ty:=type) hg hi g1 YO YQ l8 Z6 bJ hH g2 (hi.eval h1) g3 g4 g5 g6;exact⟨.value v,v,w',ak,by simp[execOp,resolve,invoke,builtin,hv,hr],.inl rfl,rest⟩
       .cases h
      .cases h
     .cases h
    .cases h
  .cases h
 .split at h
  .rename_i args argTypes d _ _ x0 y0 t t' ha ht;have e1:args = #[x0,y0]:=Array.toList_inj.1 ha;have e2:argTypes = #[t,t']:=Array.toList_inj.1 ht;subst e1 e2;split at h
   .rename_i tt YO;split at h
    .rename_i e YQ;split at h
     .rename_i te r off n v bJ h1 h2;split at h
      .rename_i ty sz els news hH hn;simp only[Option.some.injEq,Prod.mk.injEq]at h;obtain⟨rfl,rfl,rfl⟩:=h;obtain⟨rfl,rfl,g1,g2,g3,g4,g5⟩:=hc;obtain⟨v,w',ak,hr,rest⟩:=LH (Mv:=Mv) (ty:=type) (t':=t') hg hi YO YQ bJ g1 hH g2 g3 (hi.eval h1) (Jc hi.aL (hi.eval h2) hn g4 (by omega) g5);exact⟨.value v,v,w',ak,by simp[execOp,resolve,invoke,builtin,hr],.inl rfl,rest⟩
      .cases h
     .rename_i te kq v bJ h1 h2;split at h
      .rename_i news hn;simp only[Option.some.injEq,Prod.mk.injEq]at h;obtain⟨rfl,rfl,rfl⟩:=h;obtain⟨g4,g5,g6⟩:=hc;obtain⟨v,w',ak,hr,rest⟩:=LI (Mv:=Mv) (ty:=type) (t':=t') hg hi YO YQ bJ (hi.eval h1) (Jc hi.aL (hi.eval h2) hn g4 g5 g6);exact⟨.value v,v,w',ak,by simp[execOp,resolve,invoke,builtin,hr],.inl rfl,rest⟩
      .cases h
     .cases h
    .cases h
   .cases h
  .cases h
 .simp only[Option.some.injEq,Prod.mk.injEq]at h;obtain⟨rfl,rfl,rfl⟩:=h;exact lift (Rv hi hc _)
 .split at h
  .rename_i r key x h1 h2 h3;split at h
   .rename_i ty ents hH;split at h
    .rename_i c' ZO hp;simp only[Option.some.injEq,Prod.mk.injEq]at h;obtain⟨rfl,rfl,rfl⟩:=h;obtain⟨w',hr,ax,aB⟩:=Hh (Mv:=Mv) hg hi hH hp hc (hi.eval h1) (hi.eval h2) (hi.eval h3);exact⟨.skip,undef,w',μ,by simp[execOp,hr],.inr ⟨rfl,rfl⟩,ax,.dead _,aB⟩
    .cases h
   .cases h
  .cases h
 .split at h
  .rename_i r key x h1 h2 h3;split at h
   .rename_i ty ents hH;split at h
    .rename_i c' ZO hp;simp only[Option.some.injEq,Prod.mk.injEq]at h;obtain⟨rfl,rfl,rfl⟩:=h;obtain⟨w',hr,ax,aB⟩:=Hh (Mv:=Mv) hg hi hH hp hc (hi.eval h1) (hi.eval h2) (hi.eval h3);exact⟨.skip,undef,w',μ,by simp[execOp,hr],.inr ⟨rfl,rfl⟩,ax,.dead _,aB⟩
    .cases h
   .cases h
  .cases h
 .cases h
end
end Go.Av
namespace Go.Av
def fm (P:Program) (g:FuncId):Prop:=∀ (args:Array Value) (w:World),(callFunc g args).run P w = .ok (.enter g args) w
theorem fm.of {P:Program} {g:FuncId} {fn:Func} {c:Code} (h:P.funcs[g]? = some fn) (hb:fn.body=some c) (hn:(fn.name == "runtime.NumGoroutine")=false):fm P g:=by
 intro args w;simp only[callFunc,Sem.run_bind,run_program,Result.andThen_ok,h,hn,Bool.false_eq_true,if_false];simp[hb]
def bX:AV:=.d (.v undef)
def vK (ops:Array Oper) (e:Env) (j:Nat):Option (Option Bool):=match (ops[j]?).bind (·.dst) with
 | some d=>match e d with
  | some (.d (.v (.bool b)))=>some (some b)
  | some (.d (.v (.tuple _)))=>some none
  | _=>none
 | none=>none
def fc (ops:Array Oper) (e:Env) (o:Oper):Option Bool:=match o.guard with
 | none=>some true
 | some (j,want)=>(vK ops e j).map (· == some want)
def ZC (G:Yt) (e:Env) (c:Call):Option (FuncId×List AV):=match c.callee with
 | .value f=>match aT G e f,iV G e c.args.toList with
  | some (.d (.fn (.func g) caps)),some xs=>some (g,xs ++ caps.map .d)
  | some (.fn (.func g) caps),some xs=>some (g,xs ++ caps)
  | some (.bm g x),some xs=>some (g,x :: xs)
  | _,_=>none
 | _=>none
def gI (P:Program) (Mv X:Nat->Prop) (G:Yt) (N:Fr) (g:FuncId) (xs:List AV) (σ:St) (K:AV->St->Prop):Prop:=
 fm P g/\∀ w μ a (vs:Array Value),In w X G μ N a σ->vs.size=xs.length->(∀ (i:Nat) (u:Value) (x:AV),vs[i]? = some u->xs[i]? = some x->RV w X μ u x)->
  Calls P g vs w fun e w'=>∃ v x af ak,e = .returned v/\K x af/\In w' X G ak N a af/\RV w' X ak v x/\Ev Mv w μ w' ak
theorem gI.mono {P:Program} {Mv X:Nat->Prop} {G:Yt} {N:Fr} {g:FuncId} {xs:List AV} {σ:St} {K K':AV->St->Prop} (h:gI P Mv X G N g xs σ K) (hk:∀ x af,K x af->K' x af):gI P Mv X G N g xs σ K':=
 ⟨h.1,fun w μ a vs hi hn hv=>(h.2 w μ a vs hi hn hv).mono fun _ _ ⟨v,x,af,ak,he,k,rest⟩=>⟨v,x,af,ak,he,hk _ _ k,rest⟩⟩
def dk:Op->Bool
 | .alloc _=>true
 | .box _ _=>true
 | .store _ _ _=>true
 | .makeSlice _ _ _=>true
 | .buildSlice _ _ _=>true
 | .makeMap _ _=>true
 | .mapUpdate _ _ _ _=>true
 | .insert _ _ _ _=>true
 | .call { callee:=.builtin .append,.. }=>true
 | .call { callee:=.builtin .copy,.. }=>true
 | _=>false
def YK:Op->Option Call
 | .call { callee:=.value f,args,argTypes }=>some { callee:=.value f,args,argTypes }
 | _=>none
def aaK (T:Ty) (G:Yt) (Mv:Nat->Prop) (o:Oper) (σ:St) (K:St->Prop):Prop:=
 if dk o.op then match wr T G Mv σ o with
  | some (c,x,af)=>c/\K ⟨aw af.env o.dst x,af.H⟩
  | none=>False
 else match rd T G σ o.op with
  | some (c,x)=>c/\K ⟨aw σ.env o.dst x,σ.H⟩
  | none=>False
def Z3 (P:Program) (T:Ty) (Mv X:Nat->Prop) (G:Yt) (N:Fr) (o:Oper) (σ:St) (K:St->Prop):Prop:=match YK o.op with
 | some c=>match ZC G σ.env c with
  | some (g,xs)=>gI P Mv X G N g xs σ fun x af=>K ⟨aw af.env o.dst x,af.H⟩
  | none=>False
 | none=>aaK T G Mv o σ K
def cZ (N:Fr) (o:Oper):Prop:=match o.dst with
 | some d=>d < N.n
 | none=>True
section
variable {P:Program} {T:Ty} {Mv X:Nat->Prop} {G:Yt} {N:Fr} {w:World} {μ:Mu} {a:Act} {σ:St}
theorem o9 (hi:In w X G μ N a σ) {ops:Array Oper} {o:Oper} {b:Bool} (h:fc ops σ.env o=some b):Region.wanted o (yielded ops a.tmps)=b:=by
 unfold fc at h;unfold Region.wanted;split at h
 .rename_i hg;obtain rfl:=Option.some.inj h;simp[hg]
 .rename_i j want hg;obtain⟨b',hb,rfl⟩:=Option.map_eq_some_iff.1 h;simp only[hg];unfold vK at hb;split at hb
  .rename_i d hd;split at hb
   .rename_i b2 he;obtain rfl:=Option.some.inj hb;obtain⟨u,hu,hr⟩:=hi.env.slot d _ he;obtain rfl:=hr.scalar;simp[yielded,hd,hu]
   .rename_i he;obtain rfl:=Option.some.inj hb;obtain⟨u,hu,hr⟩:=hi.env.slot d _ he;obtain rfl:=hr.scalar;simp[yielded,hd,hu]
   .cases hb
  .cases hb
theorem Wd (hi:In w X G μ N a σ) {o:Oper} {c:Call} {g:FuncId} {xs:List AV} (ho:o.op = .call c) (h:ZC G σ.env c=some (g,xs)) :
  ∃ vs:Array Value,(execOp a.eval o).run P w=(callFunc g vs).run P w/\vs.size=xs.length/\∀ (i:Nat) (u:Value) (x:AV),vs[i]? = some u->xs[i]? = some x->RV w X μ u x:=by
 unfold ZC at h;split at h
 .rename_i f hf
  have key:∀ (caps:List AV) (arr:Array Value) (ys:List AV),a.eval f = .func (.func g) #[] arr->arr.size=caps.length->(∀ (j:Nat) (u:Value) (c:AV),arr[j]? = some u->caps[j]? = some c->RV w X μ u c)->iV G σ.env c.args.toList=some ys->xs=ys ++ caps->
    ∃ vs:Array Value,(execOp a.eval o).run P w=(callFunc g vs).run P w/\vs.size=xs.length/\∀ (i:Nat) (u:Value) (x:AV),vs[i]? = some u->xs[i]? = some x->RV w X μ u x:=by
   intro caps arr ys pP hn hr hy hx;obtain⟨hl,hv⟩:=hi.iV hy;refine⟨c.args.map a.eval ++ arr,?_,?_,fun i u x hu hxi=>?_⟩
   .simp[execOp,ho,resolve,hf,pP,Deferred.ofValue,invoke]
   .simp only[List.length_map,Array.length_toList]at hl;subst hx;simp[hl,hn]
   .subst hx
    have fi:(c.args.map a.eval).size=ys.length:=by simpa using hl
    rw[Array.getElem?_append]at hu;rw[List.getElem?_append]at hxi;split at hu
    .rename_i h1;rw[if_pos (by omega)]at hxi;exact hv i u x (by rw[<- Array.toList_map,Array.getElem?_toList];exact hu) hxi
    .rename_i h1;rw[if_neg (by omega)]at hxi;rw[fi]at hu;exact hr _ u x hu hxi
  split at h
  .rename_i g' caps ys he hy;simp only[Option.some.injEq,Prod.mk.injEq]at h;obtain⟨rfl,rfl⟩:=h;obtain⟨arr,pP,hn,hr⟩:=(hi.eval he).data.qV;exact key (caps.map .d) arr ys pP (by simpa using hn) (RV.rE hr) hy rfl
  .rename_i g' caps ys he hy;simp only[Option.some.injEq,Prod.mk.injEq]at h;obtain⟨rfl,rfl⟩:=h;obtain⟨arr,pP,hn,hr⟩:=(hi.eval he).qV;exact key caps arr ys pP hn hr hy rfl
  .rename_i g' y ys he hy;simp only[Option.some.injEq,Prod.mk.injEq]at h;obtain⟨rfl,rfl⟩:=h;obtain⟨v,pP,hr⟩:=(hi.eval he).adD;obtain⟨hl,hv⟩:=hi.iV hy;refine⟨#[v] ++ c.args.map a.eval,?_,?_,fun i u x hu hxi=>?_⟩
   .simp[execOp,ho,resolve,hf,pP,Deferred.ofValue,invoke]
   .simp only[List.length_map,Array.length_toList]at hl;simp[hl];omega
   .cases i with
    | zero=>
     rw[Array.getElem?_append_left (by simp)]at hu;simp at hu hxi;subst hu hxi;exact hr
    | succ i=>
     rw[List.getElem?_cons_succ]at hxi;rw[Array.getElem?_append_right (by simp)]at hu;simp only[List.size_toArray,List.length_cons,List.length_nil,Nat.zero_add,Nat.add_sub_cancel]at hu;exact hv i u x (by rw[<- Array.toList_map,Array.getElem?_toList];exact hu) hxi
  .cases h
 .cases h
theorem sB (hg:Good P T) (hi:In w X G μ N a σ) {o:Oper} {K:St->Prop} (hd:∀ d,o.dst=some d->d < N.n) (h:Z3 P T Mv X G N o σ K) {Q:Exit->Act->World->Prop} {next:Act->World->Prop}
  (hk:∀ w' ak a' af,K af->In w' X G ak N a' af->Ev Mv w μ w' ak->next a' w'):o.wpIn (wd N.ro) 0 P a w next Q:=by
 refine x7 (fun c e=>by simp[Z3,e,YK,aaK,dk,rd]at h) ?_;unfold Z3 at h;split at h
 .rename_i c hc
  have ho:o.op = .call c:=by
   unfold YK at hc;split at hc
   .rename_i e6;rw[e6];obtain rfl:=Option.some.inj hc;rfl
   .cases hc
  split at h
  .rename_i g xs ht;obtain⟨vs,hr,hn,hv⟩:=Wd (P:=P) hi ho ht;obtain⟨OK,gq⟩:=h;unfold Oper.wp;rw[hr,OK vs w];refine (gq w μ a vs hi hn hv).mono fun e w' ⟨v,x,af,ak,he,k,ax,Zt,aB⟩=>?_;subst he;exact hk _ ak _ _ k (ax.put Zt hd) aB
  .exact h.elim
 .unfold aaK at h;split at h
  .split at h
   .rename_i c x af hw;obtain⟨hc,k⟩:=h;obtain⟨n,v,w',ak,hr,hn,ax,Zt,aB⟩:=ael (Mv:=Mv) hg hi hw hc hd;unfold Oper.wp;rw[hr]
    rcases hn with rfl | ⟨rfl,rfl⟩
    .exact hk _ ak _ _ k (ax.put Zt hd) aB
    .exact hk _ ak _ _ k (ax.put Zt hd) aB
   .exact h.elim
  .split at h
   .rename_i c x hw;obtain⟨hc,k⟩:=h;obtain⟨v,hr,Zt⟩:=Cq hg hi hw hc;unfold Oper.wp;rw[hr];exact hk _ μ _ _ k (hi.put Zt hd) (.refl _ w μ)
   .exact h.elim
def ao (P:Program) (G:Yt) (g:FuncId) (ds:List D) (y:D):Prop:=
 fm P g/\∀ X,pb P (fun _=>True) X G g (ds.map .d) ft fun x H'=>x = .d y/\H'=ft
theorem cw.none {X':Nat->Prop} (h:∀ b,X' b->b < w.heap.size):cw w X' (fun _=>.none) ft:=
 ⟨by simp[ft],by simp,by simp,by simp,h⟩
theorem RD.sub {X X':Nat->Prop} (h:∀ b,X' b->X b) {u:Value} {x:D} (hr:RD w X u x):RD w X' u x:=hr.mono (Nat.le_refl _) fun b _ hb=>⟨rfl,fun e=>hb (h b e)⟩
theorem jn {X:Nat->Prop} {b:Nat}:XX X (fun _=>none) b↔X b:=⟨fun h=>h.elim id (fun ⟨_,_,h,_⟩=>(by cases h)),.inl⟩
theorem Ev.iW {Mv:Nat->Prop} {w w':World} {ak:Mu} (h:Ev Mv w (fun _=>none) w' ak):bQ w w':=⟨h.size,h.os,h.tape,h.output,fun b hb=>(h.same b hb fun ⟨_,_,h,_⟩=>by cases h).1⟩
theorem gI.pure {g:FuncId} {ds:List D} {y:D} (hc:ao P G g ds y) {K:AV->St->Prop} (h:K (.d y) σ):gI P Mv X G N g (ds.map .d) σ K:=by
 refine⟨hc.1,fun w μ a vs hi hn hv=>?_⟩;refine (hc.2 (XX X μ) w (fun _=>none) vs (cw.none fun b hb=>hb.elim (hi.aL.fits b) hi.aL.ZZ) (fun g x hx=>(hi.eZ g x hx).sub fun b=>jn.1) hn fun i u x hu hx=>?_).mono ?_
 .rw[List.getElem?_map]at hx;obtain⟨d,hd,rfl⟩:=Option.map_eq_some_iff.1 hx;exact .d ((hv i u (.d d) hu (by rw[List.getElem?_map,hd];rfl)).data.sub fun b=>jn.1)
 .rintro e w' ⟨v,x,H',ak,rfl,⟨rfl,rfl⟩,hr,hs,aB⟩;have hg:=aB.iW;obtain⟨ax,pO⟩:=hi.iW (Mv:=Mv) hg;refine⟨v,.d y,σ,μ,rfl,h,ax,.d (hr.data.sub fun b hb=>.inl hb),pO⟩
def gG (f:AV->Option D):List AV->Option (List D)
 | []=>some []
 | x :: l=>match f x,gG f l with
  | some y,some ys=>some (y :: ys)
  | _,_=>none
def jo:List (Value×D)->Option (List (Value×Value))
 | []=>some []
 | (k,.v x) :: l=>(jo l).map fun r=>(k,x) :: r
 | _ :: _=>none
theorem Du:∀ {l:List (Value×D)} {r:List (Value×Value)},jo l=some r->l.length=r.length/\∀ (i:Nat) (p:Value×Value),r[i]? = some p->l[i]? = some (p.1,.v p.2)
 | [],r,h=>by simp only[jo,Option.some.injEq]at h;subst h;exact⟨rfl,by simp⟩
 | (k,.v x) :: l,r,h=>by
  simp only[jo]at h;obtain⟨r',h1,rfl⟩:=Option.map_eq_some_iff.1 h;obtain⟨h2,h3⟩:=Du h1;refine⟨by simp[h2],fun i p hp=>?_⟩
  cases i with
  | zero=>simp at hp;subst hp;rfl
  | succ i=>exact h3 i p (by simpa using hp)
 | (k,.sl _ _) :: l,r,h=>by simp[jo]at h
 | (k,.ip _) :: l,r,h=>by simp[jo]at h
 | (k,.agg _) :: l,r,h=>by simp[jo]at h
 | (k,.aR _) :: l,r,h=>by simp[jo]at h
 | (k,.bg _ _) :: l,r,h=>by simp[jo]at h
 | (k,.fn _ _) :: l,r,h=>by simp[jo]at h
 | (k,.jQ _) :: l,r,h=>by simp[jo]at h
 | (k,.dm _ _) :: l,r,h=>by simp[jo]at h
def Y7 (H:Heap):Nat->AV->Option D
 | _,.d x=>some x
 | 0,_=>none
 | _+1,.own r off n=>match H r with
  | some (.sl _ _ els)=>if off+n<=els.length then some (.sl none ((els.drop off).take n)) else none
  | _=>none
 | k+1,.ref r e j=>match H r with
  | some (.box _ cells)=>if e=0 then (gG (Y7 H k) (cells.drop j)).map .ip else none
  | _=>none
 | k+1,.agg cells=>(gG (Y7 H k) cells).map .agg
 | k+1,.fn f caps=>(gG (Y7 H k) caps).map (.fn f)
 | k+1,.aR cells=>(gG (Y7 H k) cells).map .aR
 | k+1,.bg t x=>(Y7 H k x).map (.bg t)
 | _+1,.mp r=>match H r with
  | some (.mp _ ents)=>(jo ents).map (.dm false)
  | _=>none
 | _,_=>none
theorem RD.lR {u:Value} {k:Option Bool} {els:List (List D)} (h:RD w X u (.sl k els)):RD w X u (.sl none els):=by
 rcases h.k8 with⟨rfl,rfl,_⟩ | ⟨a,cap,rfl,_,hc,hm,hr⟩
 .exact .nil (by simp)
 .rcases hr with rfl | ⟨b,off,sz,f,rfl,hX,hz,hs,YX,gR⟩
  .exact .empty (by simp) hm
  .by_cases h0:els=[]
   .subst h0;exact .empty (by simp) hm
   .exact .sl (by simp) rfl hc hm hX hs hz (List.length_pos_iff.2 h0) YX gR
theorem yx {f:AV->Option D}:∀ {l:List AV} {ds:List D},gG f l=some ds->l.length=ds.length/\∀ (j:Nat) (x:AV) (d:D),l[j]? = some x->ds[j]? = some d->f x=some d:=by
 intro l
 induction l with
 | nil=>intro ds h;simp only[gG,Option.some.injEq]at h;subst h;exact⟨rfl,by simp⟩
 | cons x l ih=>
  intro ds h;simp only[gG]at h;split at h
  .rename_i y ys h1 h2;obtain rfl:=Option.some.inj h;obtain⟨hl,hr⟩:=ih h2;refine⟨by simp[hl],fun j x' d hx hd=>?_⟩
   cases j with
   | zero=>simp at hx hd;subst hx hd;exact h1
   | succ j=>simp at hx hd;exact hr j x' d hx hd
  .cases h
theorem yw {H:Heap} (hs:cw w X μ H):∀ (k:Nat) {x:AV} {d:D} {u:Value},Y7 H k x=some d->RV w X μ u x->RD w X u d:=by
 intro k
 induction k with
 | zero=>
  intro x d u h hu;cases x<;>simp only[Y7,Option.some.injEq,reduceCtorEq]at h;subst h;exact hu.data.sub fun b hb=>.inl hb
 | succ k ih=>
  intro x d u h hu
  have many:∀ {l:List AV} {ds:List D} {arr:Array Value},gG (Y7 H k) l=some ds->arr.size=l.length->(∀ (j:Nat) (u:Value) (c:AV),arr[j]? = some u->l[j]? = some c->RV w X μ u c)->
    arr.size=ds.length/\∀ (j:Nat) (u:Value) (c:D),arr[j]? = some u->ds[j]? = some c->RD w X u c:=by
   intro l ds arr hd hn hr;obtain⟨hl,hf⟩:=yx hd;refine⟨by omega,fun j u c hu hc=>?_⟩;have hj:=(List.getElem?_eq_some_iff.1 hc).1
   have ef:j < l.length:=by omega
   exact ih (hf j l[j] c (by simp[ef]) hc) (hr j u _ hu (by simp[ef]))
  cases x with
  | d x=>
   simp only[Y7,Option.some.injEq]at h;subst h;exact hu.data.sub fun b hb=>.inl hb
  | own r off n=>
   simp only[Y7]at h;split at h
   .rename_i ty sz els hr;split at h
    .rename_i hle;obtain rfl:=Option.some.inj h;obtain⟨kk,bq,_⟩:=xy (σ:=⟨fun _=>none,H⟩) hs hr hle hu;exact (bq.sub fun b hb=>.inl hb).lR
    .cases h
   .cases h
  | ref r e j=>
   simp only[Y7]at h;split at h
   .rename_i ty cells hr;split at h
    .rename_i he;subst he;obtain⟨ds,hd,rfl⟩:=Option.map_eq_some_iff.1 h;obtain⟨m,b,hm,hb,rfl⟩:=hu.gC;obtain⟨m',bA,ok⟩:=hs.rows r _ hr;rw[hm]at bA;obtain rfl:=Option.some.inj bA
     cases ok with
     | box aH aK fL hh hn gR Bm=>
      rename_i b' cur;rw[hb]at aH;obtain rfl:=Option.some.inj aH;obtain⟨hl,hf⟩:=yx hd;simp only[List.length_drop]at hl;simp only[Nat.zero_mul,Nat.zero_add];refine .ip (f:=fun i=>cur.getD (j+i) undef) (hs.frame r m b hm hb) (Array.getElem?_eq_some_iff.1 hh).1 (fun i hi=>?_) fun i d dt=>?_
      .rw[cell_of_row w b (j+i) cur ty (0,0) hh];simp[Array.getD_eq_getD_getElem?,show j+i < cur.size by omega]
      .have hi:=(List.getElem?_eq_some_iff.1 dt).1
       have cz:j+i < cells.length:=by omega
       have dD:j+i < cur.size:=by omega
       refine ih (hf i cells[j+i] d (by rw[List.getElem?_drop];simp[cz]) dt) (gR (j+i) _ _ ?_ (by simp[cz]));simp[Array.getD_eq_getD_getElem?,dD]
    .cases h
   .cases h
  | agg cells=>
   simp only[Y7]at h;obtain⟨ds,hd,rfl⟩:=Option.map_eq_some_iff.1 h;obtain⟨arr,rfl,hn,hr⟩:=hu.lV;obtain⟨h1,h2⟩:=many hd hn hr;exact .agg h1 h2
  | fn f caps=>
   simp only[Y7]at h;obtain⟨ds,hd,rfl⟩:=Option.map_eq_some_iff.1 h;obtain⟨arr,rfl,hn,hr⟩:=hu.qV;obtain⟨h1,h2⟩:=many hd hn hr;exact .fn h1 h2
  | aR cells=>
   simp only[Y7]at h;obtain⟨ds,hd,rfl⟩:=Option.map_eq_some_iff.1 h;obtain⟨arr,rfl,hn,hr⟩:=hu.r0;obtain⟨h1,h2⟩:=many hd hn hr;exact .aR h1 h2
  | bg t x=>
   simp only[Y7]at h;obtain⟨d',hd,rfl⟩:=Option.map_eq_some_iff.1 h;obtain⟨v,rfl,hr⟩:=hu.oL;exact .bg (ih hd hr)
  | mp r=>
   simp only[Y7]at h;split at h
   .rename_i ty ents hr;obtain⟨es,he,rfl⟩:=Option.map_eq_some_iff.1 h;obtain⟨m,b,hm,hb,rfl⟩:=hu.BV;obtain⟨ze,hh,hn,lJ,_⟩:=hs.BP hr hm hb;obtain⟨hl,hv⟩:=Du he
    have heq:ze=lN es:=by
     refine Array.ext (by rw[oR];omega) fun i h1 h2=>?_
     have hi:i < es.length:=by rw[oR]at h2;exact h2
     have h3:=hv i es[i] (by simp[hi]);obtain⟨k1,k2,k3⟩:=lJ i ze[i] _ (by simp[h1]) h3;have k4:=k3.scalar;have h5:=BS hi;rw[Array.getElem?_eq_getElem h2]at h5;rw[Option.some.inj h5];generalize ze[i]=e at k1 k2 k4;cases e;simp only at k1 k2 k4;rw[k1,k2,k4]
    refine .dm (hs.frame r m b hm hb) ?_ (List.Perm.refl _) (by simp);rw[hh,heq,oR]
   .cases h
  | _=>simp[Y7]at h
def D.scalar:D->Bool
 | .v _=>true
 | .aR l=>l.all fun | .v _=>true | _=>false
 | _=>false
theorem RD.Vn {X X':Nat->Prop} {w w':World} {u:Value} {x:D} (h:RD w X u x) (hs:x.scalar=true):RD w' X' u x:=by
 cases x with
 | v x=>obtain rfl:=h.scalar;exact .v _
 | aR l=>
  obtain⟨arr,rfl,hn,hr⟩:=h.r0;refine .aR hn fun j u c hu hc=>?_;have:=List.all_eq_true.1 hs c (List.mem_of_getElem? hc)
  cases c with
  | v x=>obtain rfl:=(hr j u _ hu hc).scalar;exact .v _
  | _=>cases this
 | _=>cases hs
theorem gI.kX {g:FuncId} {xs:List AV} {ds:List D} {y:D} (hd:gG (Y7 σ.H 4) xs=some ds) (hc:ao P G g ds y) (hy:y.scalar=true) {K:AV->St->Prop} (h:K (.d y) σ):gI P Mv X G N g xs σ K:=by
 refine⟨hc.1,fun w μ a vs hi hn hv=>?_⟩;obtain⟨hl,hf⟩:=yx hd;refine (hc.2 X w (fun _=>none) vs (cw.none hi.aL.fits) (fun g x hx=>(hi.eZ g x hx).sub fun b hb=>.inl (jn.1 hb)) (by rw[List.length_map];omega) fun i u x hu hx=>?_).mono ?_
 .rw[List.getElem?_map]at hx;obtain⟨d,dt,rfl⟩:=Option.map_eq_some_iff.1 hx;have hj:=(List.getElem?_eq_some_iff.1 dt).1
  have ef:i < xs.length:=by omega
  exact .d ((yw hi.aL 4 (hf i xs[i] d (by simp[ef]) dt) (hv i u _ hu (by simp[ef]))).sub fun b=>jn.1)
 .rintro e w' ⟨v,x,H',ak,rfl,⟨rfl,rfl⟩,hr,hs,aB⟩;obtain⟨ax,pO⟩:=hi.iW (Mv:=Mv) aB.iW;exact⟨v,.d y,σ,μ,rfl,h,ax,.d (hr.data.Vn hy),pO⟩
end
