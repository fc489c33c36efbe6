/- Parts. -/
import Derived.Test.YtdigkhaofjmgkaaGreatDoorMs6
import Derived.Lib.AppendStr
set_option linter.unusedSectionVars false
set_option linter.unusedSimpArgs false
set_option linter.unusedVariables false
namespace Go.Av
def mb (s:ByteArray):List (List D):=s.data.toList.map fun b=>[D.v (.int .u8 b.toNat)]
theorem FO (s:ByteArray):(mb s).length=s.size:=by simp[mb]
section
variable {P:Program} {T:Ty} {Mv X:Nat->Prop} {G:ao} {N:Fr} {w:World} {μ:Mu} {a:Act} {σ:St}
theorem FP (s:ByteArray):Rel w X μ 1 (Lib.strCells s) (mb s):=by
 intro i j el c hi hj;unfold mb at hi;rw[List.getElem?_map]at hi;obtain⟨b,hb,rfl⟩:=Option.map_eq_some_iff.1 hi
 match j,hj with
 | 0,hj=>
  simp at hj;subst hj;exact⟨_,by simp[Lib.strCells,hb],.v _⟩
 | j+1,hj=>simp at hj
theorem WV {t t' ty e:TypeId} {tt ts te:TI} (hg:Good P T) (cJ:T t=some tt) (cN:tt.desc = .slice e) (nU:T t'=some ts) (jo:ts.desc = .string) (cg:T e=some te) (base:Option Addr) (n cap:Nat) (hn:n<=cap) {s:ByteArray} (eJ:s.size=0) :
  (Builtin.append_ #[t,t'] ty #[.slice base n cap,.string s]).run P w = .ok (.slice base n cap) w:=by
 have hu:=hg.cC (w:=w) cJ;have kN:=hg.cC (w:=w) nU;have aK:=hg.sizeOf (w:=w) cg;have hf:=Lib.run_firstCells_string (P:=P) w te.size s;have o9:Lib.strCells s=[]:=List.eq_nil_of_length_eq_zero (by rw[Lib.strCells_length];exact eJ);rw[eJ,o9]at hf;cases base<;>simp[Builtin.append_,hu,cN,kN,jo,aK,Builtin.lenOf,hn,eJ,hf,storeCells]
theorem My (hg:Good P T) (hi:In w X G μ N a σ) {r n:Nat} (eH:Mv r) {t t' ty e:TypeId} {tt ts te:TI} (cJ:T t=some tt) (cN:tt.desc = .slice e) (nU:T t'=some ts) (jo:ts.desc = .string) (cg:T e=some te) {els:List (List D)} {u:Value} {s:ByteArray}
  (hH:σ.H r=some (.sl e 1 els)) (hle:n<=els.length) (hu:RV w X μ u (.own r 0 n)) (uf:te.size=1) (cY:te.bytes=1) (wO:te.zero = .int .u8 0) (hb:n+s.size<=140737488355328) :
  ku Mv X G N w μ a ((Builtin.append_ #[t,t'] ty #[u,.string s]).run P w) (.own r 0 (n+s.size)) ⟨aa6 r σ.env,aL (cQ r σ.H) r (.sl e 1 (els.take n ++ mb s))⟩:=by
 obtain⟨m,hm,hh⟩:=hu.jd;obtain⟨m',bU,ok⟩:=hi.aY.rows r _ hH;rw[hm]at bU;obtain rfl:=Option.some.inj bU;obtain⟨r6,i0,js,eJ,eF,hz0,_⟩:=hg e te cg;have ht:=(hg t tt cJ).1;rw[cN]at ht;have qo:=(hg t' ts nU).1;rw[jo]at qo
 have yy:n+s.size<=maxLen:=by unfold maxLen;omega
 have HV:n+s.size<=9223372036854775807:=by omega
 have gK:=FO s
 have QQ:∀ el∈mb s,el.length=1:=by
  intro el hel;obtain⟨b,_,rfl⟩:=List.mem_map.1 hel;rfl
 have aei:∀ el∈els,el.length=1:=by
  cases ok with
  | nil=>simp
  | sl _ _ _ _ _ _ hl=>exact hl
 have aeY:∀ el∈els.take n ++ mb s,el.length=1:=by
  intro el hel
  rcases List.mem_append.1 hel with h | h
  .exact aei el (List.mem_of_mem_take h)
  .exact QQ el h
 by_cases aO:s.size=0
 .-- nothing is appended
  have PJ:mb s=[]:=List.eq_nil_of_length_eq_zero (by rw[gK];exact aO)
  have acS:∃ base c,u = .slice base n c/\n<=c:=by
   rcases hh with⟨_,rfl,_,rfl⟩ | ⟨b,_,rfl,acN⟩
   .exact⟨_,_,rfl,Nat.le_refl _⟩
   .exact⟨_,_,rfl,by omega⟩
  obtain⟨base,c',wH,CP⟩:=acS;have bR:=WV (P:=P) (w:=w) (ty:=ty) hg cJ cN nU jo cg base n c' CP aO;rw[wH,bR,PJ,aO]
  obtain⟨aF,aJ⟩:=hi.move (Mv:=Mv) (w':=w) (m':=m) hm eH (Nat.le_refl _) rfl rfl rfl (fun _ _ _=>rfl) (fun b hb=>.inr hb) (row:=.sl e 1 (els.take n ++ [])) fun ev=>by
   rw[List.append_nil]
   cases ok with
   | nil cY cm=>rw[List.take_nil];exact .nil cY cm
   | sl g1 g2 g3 g4 g5 g6 g7 g8 g9=>
    refine .sl g1 g2 g3 g4 (by simp;omega) g6 (fun el hel=>g7 el (List.mem_of_mem_take hel)) g8 fun i j el c hel hc=>?_;rw[List.getElem?_take]at hel;split at hel
    .obtain⟨v,hv,bC⟩:=g9 i j el c hel hc;exact⟨v,hv,bC.ev ev⟩
    .cases hel
  refine⟨_,_,_,rfl,aF,.own (m:=m) (by simp[cR]) ?_,aJ⟩;rw[<- wH];exact hh
 .have HJ:0 < s.size:=by omega
  have hnl:(Lib.strCells s).length=s.size:=Lib.strCells_length s
  have hzc:te.zero.cells.size=1:=by rw[wO];rfl
  have ae1:∀ (xs:List Value) (fO:Nat),xs.length=n->Rel w X μ 1 xs (els.take n)->n+s.size<=fO->fO<=maxLen->m.sz=1->
    ku Mv X G N w μ a (.ok (.slice (some ⟨w.heap.size,0,none⟩) (n+s.size) fO) (w.drew.alloc (.cells (xs.toArray ++ (Lib.strCells s).toArray ++ Builtin.zeroCells te.zero.cells (fO - (n+s.size))) e)))
     (.own r 0 (n+s.size)) ⟨aa6 r σ.env,aL (cQ r σ.H) r (.sl e 1 (els.take n ++ mb s))⟩:=by
   intro xs fO fZ pj fk fU lP
   have kf:bY w (w.drew.alloc (.cells (xs.toArray ++ (Lib.strCells s).toArray ++ Builtin.zeroCells te.zero.cells (fO - (n+s.size))) e)):=by
    have h1:=bY.alloc w.drew (.cells (xs.toArray ++ (Lib.strCells s).toArray ++ Builtin.zeroCells te.zero.cells (fO - (n+s.size))) e);exact⟨h1.size,h1.os,h1.tape,h1.output,h1.same⟩
   have aK:(xs.toArray ++ (Lib.strCells s).toArray ++ Builtin.zeroCells te.zero.cells (fO - (n+s.size))).size=fO * 1:=by
    simp only[Array.size_append,List.size_toArray,size_zeroCells,hzc,fZ,hnl];omega
   obtain⟨aF,aJ⟩:=hi.move (Mv:=Mv) (w':=w.drew.alloc (.cells (xs.toArray ++ (Lib.strCells s).toArray ++ Builtin.zeroCells te.zero.cells (fO - (n+s.size))) e)) (m':=⟨some w.heap.size,1,fO⟩) hm eH kf.size kf.os kf.tape kf.output
    (fun k hk _=>kf.same k hk) (fun b hb=>by simp at hb;omega) (row:=.sl e 1 (els.take n ++ mb s)) fun ev=>by
     refine .sl rfl rfl (by simpa using heap_alloc_new w.drew (.cells (xs.toArray ++ (Lib.strCells s).toArray ++ Builtin.zeroCells te.zero.cells (fO - (n+s.size))) e)) aK (by simp[gK];omega) fU aeY (by decide) fun i j el c hi hj=>?_;have hrel:=((pj.append (by rw[fZ,List.length_take,Nat.min_eq_left hle,Nat.mul_one]) (fun el hel=>aei el (List.mem_of_mem_take hel)) (FP s)).more (l':=(Builtin.zeroCells te.zero.cells (fO - (n+s.size))).toList)) i j el c hi hj;obtain⟨v,hv,bC⟩:=hrel;refine⟨v,?_,bC.ev ev⟩;rw[<- Array.getElem?_toList];simpa using hv
   exact⟨_,_,_,rfl,aF,.own (m:=⟨some w.heap.size,1,fO⟩) (by simp[cR]) (.inr ⟨w.heap.size,rfl,by simp,by simpa using fk⟩),aJ⟩
  have lP:m.sz=1:=by
   cases ok with
   | nil _ h=>exact h
   | sl _ h=>exact h
  rcases hh with⟨hbk,rfl,_,rfl⟩ | ⟨b,hbk,rfl,acN⟩
  .have hr:=run_append_nil_string (P:=P) w t t' ty e i0 te.zero ht qo js hz0 s (by omega) (by omega) (by rw[eF,cY];omega);rw[hr]
   have e1:(s.data.map fun b=>Value.int .u8 b.toNat)=(Lib.strCells s).toArray:=by
    apply Array.ext';simp[Lib.strCells]
   have:=ae1 [] (grownCap w s.size 0 e) (by simp) (by intro i j el c hi;simp at hi) (by have:=grownCap_ge w s.size 0 e;omega) (grownCap_le_maxLen w s.size 0 e (by unfold maxLen;omega)) lP;rw[e1];simpa using this
  .cases ok with
   | nil aT _=>rw[aT]at hbk;cases hbk
   | sl aT aK nM hcs kI fc hl hz' hr=>
    rename_i b' cur;rw[hbk]at aT;obtain rfl:=Option.some.inj aT
    have Cd:n<=m.cap:=by omega
    have P5:cur.size=m.cap:=by omega
    have fZ:(cur.toList.take n).length=n:=by rw[List.length_take,Array.length_toList,P5,Nat.min_eq_left Cd]
    have pj:Rel w X μ 1 (cur.toList.take n) (els.take n):=by
     intro i j el c hel hc;rw[List.getElem?_take]at hel;split at hel
     .rename_i aF;obtain⟨v,hv,bC⟩:=hr i j el c hel hc;have v7:el.length=1:=hl _ (List.mem_of_getElem? hel)
      have hj:j < 1:=by rw[<- v7];exact (List.getElem?_eq_some_iff.1 hc).1
      refine⟨v,?_,bC⟩;rw[List.getElem?_take,if_pos (by omega)];simpa using hv
     .cases hel
    rw[lP,Nat.zero_mul,Nat.sub_zero];by_cases tW:n+s.size<=m.cap
    .have bR:=Lib.run_append_room_string (P:=P) w t t' ty e i0 ht qo js (by rw[eJ,uf]) b n m.cap cur nM s tW (by omega);rw[bR]
     obtain⟨aF,aJ⟩:=hi.move (Mv:=Mv) (w':=w.setRow b (cur.toList.take n ++ Lib.strCells s ++ cur.toList.drop (n+s.size)).toArray) (m':=m) hm eH (by simp) rfl rfl rfl
      (fun k hk CQ=>setRow_other w b k _ fun e'=>CQ (by rw[hbk,e'])) (fun b hb=>.inr hb) (row:=.sl e 1 (els.take n ++ mb s)) fun ev=>by
       refine .sl hbk lP (setRow_heap w b cur _ e _ nM) ?_ (by simp[gK];omega) fc aeY (by decide) fun i j el c hi hj=>?_
       .simp only[List.size_toArray,List.length_append,List.length_take,List.length_drop,Array.length_toList,hnl];omega
       .obtain⟨v,hv,bC⟩:=((pj.append (by rw[fZ,List.length_take,Nat.min_eq_left hle,Nat.mul_one]) (fun el hel=>aei el (List.mem_of_mem_take hel)) (FP s)).more (l':=cur.toList.drop (n+s.size))) i j el c hi hj;exact⟨v,by rw[<- Array.getElem?_toList];simpa using hv,bC.ev ev⟩
     refine⟨_,_,_,rfl,aF,.own (m:=m) (by simp[cR]) (.inr ⟨b,hbk,by simp,by simpa using tW⟩),aJ⟩
    .have bR:=Lib.run_append_grow_string (P:=P) w t t' ty e i0 te.zero ht qo js hz0 ⟨b,0,none⟩ n m.cap (cur.toList.take n) (by rw[fZ,eJ,uf,Nat.mul_one]) (fun j v hv=>by
      rw[addr_add,cell_of_row w b _ cur e (0,0) nM];rw[List.getElem?_take]at hv;split at hv
      .simpa using hv
      .cases hv) s (by omega) (by omega) (by rw[eF,cY];exact growslice_fits (by omega) (by omega))
     rw[bR];exact ae1 _ _ fZ pj (grownCap_ge _ _ _ _) (grownCap_le_maxLen w _ _ e yy) lP
end
end Go.Av
namespace Go.Av
def kB (G:ao) (e:Env):List Operand->Option (List AV)
 | []=>some []
 | o :: l=>match bf G e o,kB G e l with
  | some x,some xs=>some (x :: xs)
  | _,_=>none
def jG (G:ao) (e:Env):List (Nat×Operand)->Option (List (Nat×AV))
 | []=>some []
 | (i,o) :: l=>match bf G e o,jG G e l with
  | some x,some xs=>some ((i,x) :: xs)
  | _,_=>none
def bp (x:AV) (b:Bool):AV:=match x with
 | .d y=>.d (.tup [y,.v (.bool b)])
 | x=>.tup [x,.d (.v (.bool b))]
theorem D6 {w:World} {X:Nat->Prop} {μ:Mu} {u:Value} {x:AV} {b:Bool} (hx:RV w X μ u x):RV w X μ (.tuple #[u,.bool b]) (bp x b):=by
 unfold bp;split
 .refine .d (.tup rfl fun j v c hv hc=>?_)
  match j,hv,hc with
  | 0,hv,hc=>simp at hv hc;subst hv hc;exact hx.data
  | 1,hv,hc=>simp at hv hc;subst hv hc;exact .v _
  | j+2,hv,hc=>simp at hv
 .refine .tup rfl fun j v c hv hc=>?_
  match j,hv,hc with
  | 0,hv,hc=>simp at hv hc;subst hv hc;exact hx
  | 1,hv,hc=>simp at hv hc;subst hv hc;exact .d (.v _)
  | j+2,hv,hc=>simp at hv
def aaS (T:Ty) (asserted:TypeId) (cok:Bool) (x:AV):Ans:=match T asserted with
 | none=>none
 | some ti=>match x with
  | .d (.v .nilIface)=>if cok then some (True,bp (cst ti.zero) false) else none
  | .d (.bA t y)=>if TypeDesc.isIface ti.desc then none else if t=asserted then some (True,if cok then bp (.d y) true else .d y) else if cok then some (True,bp (cst ti.zero) false) else none
  | .bA t y=>if TypeDesc.isIface ti.desc then none else if t=asserted then some (True,if cok then bp y true else y) else if cok then some (True,bp (cst ti.zero) false) else none
  | _=>none
theorem MH {P:Program} {T:Ty} (hg:Good P T) {w:World} {X:Nat->Prop} {μ:Mu} {asserted xT:TypeId} {cok:Bool} {u:Value} {x z:AV} {c:Prop} (h:aaS T asserted cok x=some (c,z)) (hx:RV w X μ u x) :
  ∃ r,(Instr.typeAssert u xT asserted cok).run P w = .ok r w/\RV w X μ r z:=by
 unfold aaS at h;split at h
 .cases h
 .rename_i ti ht
  have one:∀ (t:TypeId) (v:Value) (y:AV),RV w X μ v y->(if TypeDesc.isIface ti.desc then none else if t=asserted then some (True,if cok then bp y true else y) else if cok then some (True,bp (cst ti.zero) false) else none)=some (c,z)->
    ∃ r,(Instr.typeAssert (.iface t v) xT asserted cok).run P w = .ok r w/\RV w X μ r z:=by
   intro t v y hy h;by_cases kK:TypeDesc.isIface ti.desc=true
   .rw[if_pos kK]at h;cases h
   .rw[if_neg kK]at h;by_cases mo:t=asserted
    .rw[if_pos mo]at h;simp only[Option.some.injEq,Prod.mk.injEq]at h;obtain⟨_,rfl⟩:=h;subst mo;refine⟨if cok then .tuple #[v,.bool true] else v,?_,?_⟩
     .cases hd:ti.desc<;>first | (rw[hd]at kK;exact absurd rfl kK) | (simp[Instr.typeAssert,hg.cC ht,hd])
     .cases cok
      .exact hy
      .exact D6 hy
    .rw[if_neg mo]at h
     cases cok with
     | false=>cases h
     | true=>
      simp only[if_true,Option.some.injEq,Prod.mk.injEq]at h;obtain⟨_,rfl⟩:=h;refine⟨.tuple #[ti.zero,.bool false],?_,D6 (Bk _)⟩
      cases hd:ti.desc<;>first | (rw[hd]at kK;exact absurd rfl kK) | (simp[Instr.typeAssert,hg.cC ht,hd,mo,hg.zero ht])
  split at h
  .split at h
   .rename_i aN;simp only[Option.some.injEq,Prod.mk.injEq]at h;obtain⟨_,rfl⟩:=h;have:=hx.scalar;subst this;refine⟨.tuple #[ti.zero,.bool false],?_,D6 (Bk _)⟩;subst aN;cases hd:ti.desc<;>simp[Instr.typeAssert,hg.cC ht,hd,hg.zero ht]
   .cases h
  .rename_i t y;obtain⟨v,rfl,hv⟩:=hx.data.nV;exact one t v (.d y) (.d hv) h
  .rename_i t y;obtain⟨v,rfl,hv⟩:=hx.nV;exact one t v y hv h
  .cases h
def rd (T:Ty) (G:ao) (σ:St):Op->Ans
 | .move x=>(bf G σ.env x).map fun v=>(True,v)
 | .assign x=>(bf G σ.env x).map fun v=>(True,v)
 | .binOp op t x y _=>match bf G σ.env x,bf G σ.env y with
  | some a,some b=>xW T op t y a b
  | _,_=>none
 | .unOp op _ x=>(bf G σ.env x).bind (Ar op)
 | .load t x=>(bf G σ.env x).bind (ko T σ.H t)
 | .fieldAddr t x f=>(bf G σ.env x).bind (yj T t f)
 | .field t x f=>(bf G σ.env x).bind (yi T t f)
 | .indexAddr t x i=>match bf G σ.env x,bf G σ.env i with
  | some a,some b=>ado T σ.H t a b
  | _,_=>none
 | .index t x i=>match bf G σ.env x,bf G σ.env i with
  | some a,some b=>zc T t a b
  | _,_=>none
 | .extract x i=>(bf G σ.env x).bind (yh i)
 | .makeInterface t x=>(bf G σ.env x).bind (zz T t)
 | .makeFunc f first caps=>if first.isEmpty then (kB G σ.env caps.toList).map fun cs=>(True,wY f cs) else match f,first.toList,caps.toList with
  | .func g,[x],[]=>(bf G σ.env x).map fun v=>(True,.bm g v)
  | _,_,_=>none
 | .pick c x y=>match bf G σ.env c,bf G σ.env x,bf G σ.env y with
  | some (.d (.v (.bool b))),some a1,some a2=>some (True,if b then a1 else a2)
  | _,_,_=>none
 | .nilCheck x=>(bf G σ.env x).bind zF
 | .build t parts=>(jG G σ.env parts.toList).bind (xZ T t)
 | .convert src dst x=>if (T src).isSome then (bf G σ.env x).bind (x5 T dst) else none
 | .slice t x lo hi mx=>if mx.isNone then match bf G σ.env x,bound G σ.env lo,bound G σ.env hi with
   | some v,some l,some h=>nv T σ.H t v l h
   | _,_,_=>none
  else none
 | .typeAssert x _ t b=>(bf G σ.env x).bind (aaS T t b)
 | .lookup t x i b=>match bf G σ.env x,bf G σ.env i with
  | some a,some k=>ac6 T σ.H t b a k
  | _,_=>none
 | .call { callee:=.builtin .len,args,argTypes }=>match args.toList,argTypes.toList with
  | [x],[t]=>(bf G σ.env x).bind (zv T t)
  | _,_=>none
 | .call { callee:=.builtin .max,args,.. }=>match args.toList with
  | [x,y]=>match bf G σ.env x,bf G σ.env y with
   | some (.d (.v (.int k a))),some (.d (.v (.int k' b)))=>some (True,.d (.v (.int k (if b > a then b else a))))
   | _,_=>none
  | _=>none
 | .call { callee:=.builtin .min,args,.. }=>match args.toList with
  | [x,y]=>match bf G σ.env x,bf G σ.env y with
   | some (.d (.v (.int k a))),some (.d (.v (.int k' b)))=>some (True,.d (.v (.int k (if b < a then b else a))))
   | _,_=>none
  | _=>none
 | _=>none
def EN (T:Ty) (G:ao) (Mv:Nat->Prop) (σ:St) (t t':TypeId) (x y:Operand):Option (Prop×AV×St):=match T t,T t' with
 | some tt,some ts=>match tt.desc,ts.desc with
  | .slice e,.string=>match T e,bf G σ.env x,bf G σ.env y with
   | some te,some (.own r off n),some (.d (.v (.string s)))=>match σ.H r with
    | some (.sl ty sz els)=>some (off=0/\Mv r/\ty=e/\sz=1/\n<=els.length/\te.size=1/\te.bytes=1/\te.zero = .int .u8 0/\n+s.size<=140737488355328,
      .own r 0 (n+s.size),⟨aa6 r σ.env,aL (cQ r σ.H) r (.sl e 1 (els.take n ++ mb s))⟩)
    | _=>none
   | _,_,_=>none
  | _,_=>none
 | _,_=>none
def wr (T:Ty) (G:ao) (Mv:Nat->Prop) (σ:St) (o:Oper):Option (Prop×AV×St):=match o.op,o.dst with
 | .alloc t,some d=>match T t with
  | some ti=>some (σ.H d=none,.ref d 0 0,⟨σ.env,aL σ.H d (.box t ((ab9 ti.zero).map .d))⟩)
  | none=>none
 | .box t x,some d=>match (bf G σ.env x).bind gl with
  | some cs=>some (σ.H d=none,.ref d 0 0,⟨σ.env,aL σ.H d (.box t cs)⟩)
  | none=>none
 | .store t x y,none=>match bf G σ.env x,bf G σ.env y with
  | some (.ref r e j),some v=>match σ.H r with
   | some (.box ty cells)=>if e=0 then match Al T t cells j v with
     | some (c,pS)=>some (c,.dead,⟨σ.env,aL σ.H r (.box ty pS)⟩)
     | none=>none
    else none
   | some (.sl ty sz els)=>match Am T t sz els e j v with
    | some (c,kA)=>some (c,.dead,⟨σ.env,aL σ.H r (.sl ty sz kA)⟩)
    | none=>none
   | some (.mp _ _)=>none
   | some (.it _ _)=>none
   | none=>none
  | _,_=>none
 | .makeSlice t l c,some d=>match T t with
  | some tt=>match tt.desc with
   | .slice e=>match T e,bf G σ.env l,bf G σ.env c with
    | some te,some (.d (.v (.int _ n))),some (.d (.v (.int _ m)))=>some (σ.H d=none/\0<=n/\n<=m/\te.bytes * m<=281474976710656/\m<=9223372036854775807/\0 < te.size/\(ab9 te.zero).length=te.size,.own d 0 n.toNat,⟨σ.env,aL σ.H d (.sl e te.size (mz te n.toNat))⟩)
    | _,_,_=>none
   | _=>none
  | none=>none
 | .buildSlice t len parts,some d=>match T t with
  | some tt=>match tt.desc with
   | .slice e=>match T e,jG G σ.env parts.toList with
    | some te,some ps=>match ad0 te.size 0 ps with
     | some els=>some (σ.H d=none/\ps.length=len/\0 < te.size/\len * te.size<=16777216,.own d 0 len,⟨σ.env,aL σ.H d (.sl e te.size els)⟩)
     | none=>none
    | _,_=>none
   | _=>none
  | none=>none
 | .call { callee:=.builtin .append,args,argTypes },some d=>match args.toList,argTypes.toList with
  | [x,y],[t,t']=>if t=t' then match T t with
   | some tt=>match tt.desc with
    | .slice e=>match T e,bf G σ.env x,bf G σ.env y with
     | some te,some (.own r off n),some v=>match σ.H r,jz σ.H r v with
      | some (.sl ty sz els),some news=>some (off=0/\Mv r/\ty=e/\sz=te.size/\n<=els.length/\(∀ el∈news,el.length=te.size)/\(∀ el∈news,∀ c∈el,D.one c=true)/\0 < te.size/\(ab9 te.zero).length=te.size/\n+news.length<=9223372036854775807/\(n+news.length) * te.bytes<=140737488355328,
        .own r 0 (n+news.length),⟨aa6 r σ.env,aL (cQ r σ.H) r (.sl e te.size (els.take n ++ news))⟩)
      | _,_=>none
     | some te,some (.d (.sl (some false) [])),some v=>match jz σ.H d v with
      | some news=>some (σ.H d=none/\Mv d/\(∀ el∈news,el.length=te.size)/\(∀ el∈news,∀ c∈el,D.one c=true)/\0 < te.size/\(ab9 te.zero).length=te.size/\news.length<=9223372036854775807/\news.length * te.bytes<=140737488355328,
        .own d 0 news.length,⟨σ.env,aL σ.H d (.sl e te.size news)⟩)
      | none=>none
     | _,_,_=>none
    | _=>none
   | none=>none
  else EN T G Mv σ t t' x y
  | _,_=>none
 | .call { callee:=.builtin .copy,args,argTypes },some _=>match args.toList,argTypes.toList with
  | [x,y],[t,_]=>match T t with
   | some tt=>match tt.desc with
    | .slice e=>match T e,bf G σ.env x,bf G σ.env y with
     | some te,some (.own r off n),some v=>match σ.H r,xx σ.H v with
      | some (.sl ty sz els),some news=>some (ty=e/\sz=1/\te.size=1/\off+n<=els.length/\0 < els.length/\(∀ el∈news,el.length=1)/\(∀ el∈news,∀ c∈el,D.one c=true),
        .d (.v (.int .i64 ((news.take n).length:Nat))),⟨σ.env,aL σ.H r (.sl e 1 (lH els news off n))⟩)
      | _,_=>none
     | some te,some (.d (.sl _ [])),some v=>match xx σ.H v with
      | some news=>some ((∀ el∈news,el.length=te.size)/\0 < te.size/\(∀ el∈news,∀ c∈el,D.one c=true),.d (.v (.int .i64 0)),σ)
      | none=>none
     | _,_,_=>none
    | _=>none
   | none=>none
  | _,_=>none
 | .makeMap t none,some d=>some (σ.H d=none,.mp d,⟨σ.env,aL σ.H d (.mp t [])⟩)
 | .mapUpdate t m k v,none=>match bf G σ.env m,bf G σ.env k,bf G σ.env v with
  | some (.mp r),some (.d (.v key)),some (.d x)=>match σ.H r with
   | some (.mp ty ents)=>match xl T t ents key x with
    | some (c,iL)=>some (c,.dead,⟨σ.env,aL σ.H r (.mp ty iL)⟩)
    | none=>none
   | _=>none
  | _,_,_=>none
 | .insert t m k v,none=>match bf G σ.env m,bf G σ.env k,bf G σ.env v with
  | some (.mp r),some (.d (.v key)),some (.d x)=>match σ.H r with
   | some (.mp ty ents)=>match xl T t ents key x with
    | some (c,iL)=>some (c,.dead,⟨σ.env,aL σ.H r (.mp ty iL)⟩)
    | none=>none
   | _=>none
  | _,_,_=>none
 | _,_=>none
def aD (e:Env) (dst:Option Tmp) (x:AV):Env:=match dst with
 | some d=>eS e d x
 | none=>e
section
variable {P:Program} {T:Ty} {Mv X:Nat->Prop} {G:ao} {N:Fr} {w:World} {μ:Mu} {a:Act} {σ:St}
theorem In.put (hi:In w X G μ N a σ) {u:Value} {x:AV} (hx:RV w X μ u x) {dst:Option Tmp} (hd:∀ d,dst=some d->d < N.n):In w X G μ N (a.put dst u) ⟨aD σ.env dst x,σ.H⟩:=by
 cases dst with
 | none=>exact hi
 | some d=>
  have ay:d < a.tmps.size:=by rw[hi.env.size];exact hd d rfl
  refine⟨hi.aY,⟨hi.env.defers,by simp[Act.put,hi.env.size],fun i y hy=>?_⟩,hi.gq⟩;simp only[aD,eS]at hy;split at hy
  .rename_i e;subst e;obtain rfl:=Option.some.inj hy;exact⟨u,by simp[Act.put,ay],hx⟩
  .rename_i e;obtain⟨v,hv,hr⟩:=hi.env.slot i y hy;exact⟨v,by simp only[Act.put];rw[Array.getElem?_setIfInBounds_ne (Ne.symm e)];exact hv,hr⟩
theorem In.kB (hi:In w X G μ N a σ):∀ {l:List Operand} {xs:List AV},kB G σ.env l=some xs->(l.map a.eval).length=xs.length/\∀ (i:Nat) (u:Value) (x:AV),(l.map a.eval)[i]? = some u->xs[i]? = some x->RV w X μ u x:=by
 intro l
 induction l with
 | nil=>intro xs h;simp only[Go.Av.kB,Option.some.injEq]at h;subst h;exact⟨rfl,by simp⟩
 | cons o l ih=>
  intro xs h;simp only[Go.Av.kB]at h;split at h
  .rename_i x LJ h1 h2;obtain rfl:=Option.some.inj h;obtain⟨hl,hr⟩:=ih h2;refine⟨by simpa using hl,fun i u y hu hy=>?_⟩
   cases i with
   | zero=>simp at hu hy;subst hu hy;exact hi.eval h1
   | succ i=>simp at hu hy;exact hr i u y (by simpa using hu) hy
  .cases h
theorem In.jG (hi:In w X G μ N a σ):∀ {l:List (Nat×Operand)} {xs:List (Nat×AV)},jG G σ.env l=some xs->(l.map fun p=>(p.1,a.eval p.2)).map (·.1)=xs.map (·.1)/\
  ∀ (i:Nat) (p:Nat×AV) (v:Nat×Value),xs[i]? = some p->(l.map fun p=>(p.1,a.eval p.2))[i]? = some v->RV w X μ v.2 p.2:=by
 intro l
 induction l with
 | nil=>intro xs h;simp only[Go.Av.jG,Option.some.injEq]at h;subst h;exact⟨rfl,by simp⟩
 | cons o l ih=>
  intro xs h;obtain⟨k,o⟩:=o;simp only[Go.Av.jG]at h;split at h
  .rename_i x LJ h1 h2;obtain rfl:=Option.some.inj h;obtain⟨hl,hr⟩:=ih h2;refine⟨by simpa using hl,fun i p v hp hv=>?_⟩
   cases i with
   | zero=>simp at hp hv;subst hp hv;exact hi.eval h1
   | succ i=>simp at hp hv;exact hr i p v hp (by simpa using hv)
  .cases h
theorem In.bound (hi:In w X G μ N a σ) {o:Option Operand} {l:Option Int} (h:bound G σ.env o=some l):(o.map a.eval=none/\l=none)\/∃ k n,o.map a.eval=some (.int k n)/\l=some n:=by
 unfold Go.Av.bound at h;split at h
 .obtain rfl:=Option.some.inj h;exact .inl ⟨rfl,rfl⟩
 .split at h
  .rename_i k n he;obtain rfl:=Option.some.inj h;exact .inr ⟨k,n,by simp[(hi.eval he).scalar],rfl⟩
  .cases h
theorem zW (hg:Good P T) (hi:In w X G μ N a σ) {o:Oper} {c:Prop} {x:AV} (h:rd T G σ o.op=some (c,x)) (hc:c):∃ v,(execOp a.eval o).run P w = .ok (.value v) w/\RV w X μ v x:=by
 have lift:∀ {s:Sem Value} ,(∃ v,s.run P w = .ok v w/\RV w X μ v x)->∃ v,(do pure (.value (<- s)):Sem Next).run P w = .ok (.value v) w/\RV w X μ v x:=by
  rintro s ⟨v,hv,hr⟩;exact⟨v,by simp[hv],hr⟩
 obtain⟨dst,op,type,pos,after,guard⟩:=o;dsimp only at h;unfold rd at h;split at h
 .obtain⟨y,hy,he⟩:=Option.map_eq_some_iff.1 h;simp only[Prod.mk.injEq]at he;obtain⟨rfl,rfl⟩:=he;exact⟨_,rfl,hi.eval hy⟩
 .obtain⟨y,hy,he⟩:=Option.map_eq_some_iff.1 h;simp only[Prod.mk.injEq]at he;obtain⟨rfl,rfl⟩:=he;exact⟨_,rfl,hi.eval hy⟩
 .split at h
  .rename_i h1 h2;exact lift (MV hg hi h1 h2 h hc)
  .cases h
 .obtain⟨y,hy,he⟩:=Option.bind_eq_some_iff.1 h;exact lift (Ya he hc (hi.eval hy))
 .obtain⟨y,hy,he⟩:=Option.bind_eq_some_iff.1 h;exact lift (IX hg hi.aY he hc (hi.eval hy))
 .obtain⟨y,hy,he⟩:=Option.bind_eq_some_iff.1 h;exact lift (OB hg he hc (hi.eval hy))
 .obtain⟨y,hy,he⟩:=Option.bind_eq_some_iff.1 h;exact lift (OA hg he hc (hi.eval hy))
 .split at h
  .rename_i h1 h2;exact lift (RU hg hi.aY h hc (hi.eval h1) (hi.eval h2))
  .cases h
 .split at h
  .rename_i h1 h2;exact lift (RY hg h hc (hi.eval h1) (hi.eval h2))
  .cases h
 .obtain⟨y,hy,he⟩:=Option.bind_eq_some_iff.1 h;exact lift (Oy he (hi.eval hy))
 .obtain⟨y,hy,he⟩:=Option.bind_eq_some_iff.1 h;exact lift (Td hg he (hi.eval hy))
 .split at h
  .rename_i f first caps hf;obtain⟨y,hy,he⟩:=Option.map_eq_some_iff.1 h;simp only[Prod.mk.injEq]at he;obtain⟨rfl,rfl⟩:=he;obtain⟨hl,hr⟩:=hi.kB hy
   have Cs:first = #[]:=by simpa using hf
   subst Cs;refine⟨.func f #[] (caps.map a.eval),by simp[execOp,Instr.makeFunc],DN (by simpa using hl) fun j u c hu hc=>hr j u c (by simpa using hu) hc⟩
  .split at h
   .rename_i x Cu fk;obtain⟨y,hy,he⟩:=Option.map_eq_some_iff.1 h;simp only[Prod.mk.injEq]at he;obtain⟨rfl,rfl⟩:=he;obtain rfl:=Array.toList_inj.1 (show _=(#[x]:Array Operand).toList from Cu);obtain rfl:=Array.toList_inj.1 (show _=(#[]:Array Operand).toList from fk);exact⟨_,by simp[execOp,Instr.makeFunc],.bm (hi.eval hy)⟩
   .cases h
 .split at h
  .rename_i b a1 a2 h0 h1 h2;simp only[Option.some.injEq,Prod.mk.injEq]at h;obtain⟨rfl,rfl⟩:=h;have hb:=(hi.eval h0).scalar;refine⟨if b then a.eval _ else a.eval _,by simp[execOp,hb,asBool];cases b<;>rfl,?_⟩;cases b
   .exact hi.eval h2
   .exact hi.eval h1
  .cases h
 .obtain⟨y,hy,he⟩:=Option.bind_eq_some_iff.1 h;obtain⟨⟨ad,Hd⟩,hr⟩:=U7 he (hi.eval hy);exact⟨.pointer (some ad),by simp[execOp,Hd],by rw[<- Hd];exact hr⟩
 .rename_i t parts;obtain⟨ps,dB,he⟩:=Option.bind_eq_some_iff.1 h;obtain⟨h1,h2⟩:=hi.jG dB;refine lift (M8 (vs:=parts.map fun p=>(p.1,a.eval p.2)) hg he (by simpa using h1) fun i p v hp hv=>h2 i p v hp ?_);rw[<- Array.getElem?_toList]at hv;simpa using hv
 .split at h
  .rename_i hs;obtain⟨y,hy,he⟩:=Option.bind_eq_some_iff.1 h;exact lift (NB hg hs he hc (hi.eval hy))
  .cases h
 .split at h
  .rename_i mx fc;split at h
   .rename_i v l hh h1 h2 h3
    cases mx with
    | some _=>simp at fc
    | none=>exact lift (Xi hg hi.aY h hc (hi.eval h1) (hi.bound h2) (hi.bound h3))
   .cases h
  .cases h
 .obtain⟨y,hy,he⟩:=Option.bind_eq_some_iff.1 h;exact lift (MH hg he (hi.eval hy))
 .split at h
  .rename_i h1 h2;exact lift (S4 hg hi.aY h hc (hi.eval h1) (hi.eval h2))
  .cases h
 .split at h
  .rename_i args argTypes _ _ x0 t ha ht;obtain⟨y,hy,he⟩:=Option.bind_eq_some_iff.1 h;obtain⟨r,hr,ft⟩:=SV (ty:=type) hg he (hi.eval hy);have e1:args = #[x0]:=Array.toList_inj.1 ha;have e2:argTypes = #[t]:=Array.toList_inj.1 ht;subst e1 e2;exact⟨r,by simp[execOp,resolve,invoke,builtin,hr],ft⟩
  .cases h
 .split at h
  .rename_i args _ _ x0 y0 ha;split at h
   .rename_i k a0 k' b0 h1 h2;simp only[Option.some.injEq,Prod.mk.injEq]at h;obtain⟨rfl,rfl⟩:=h;have e1:=(hi.eval h1).scalar;have e2:=(hi.eval h2).scalar;have e0:args = #[x0,y0]:=Array.toList_inj.1 ha;subst e0;exact⟨_,by simp[execOp,resolve,invoke,builtin,Builtin.max_,Builtin.max2,e1,e2],.d (.v _)⟩
   .cases h
  .cases h
 .split at h
  .rename_i args _ _ x0 y0 ha;split at h
   .rename_i k a0 k' b0 h1 h2;simp only[Option.some.injEq,Prod.mk.injEq]at h;obtain⟨rfl,rfl⟩:=h;have e1:=(hi.eval h1).scalar;have e2:=(hi.eval h2).scalar;have e0:args = #[x0,y0]:=Array.toList_inj.1 ha;subst e0;exact⟨_,by simp[execOp,resolve,invoke,builtin,Builtin.min_,Builtin.min2,e1,e2],.d (.v _)⟩
   .cases h
  .cases h
 .cases h
theorem RV.zH {u:Value} {x:AV} {r:Nat} (h:RV w X μ u x) (hr:μ r=none):x.kill r=x:=by
 have lst:∀ (l:List AV),(∀ c∈l,c.kill r=c)->l.map (AV.kill r)=l:=by
  intro l hl
  induction l with
  | nil=>rfl
  | cons c l ih=>simp only[List.map_cons];rw[hl c (by simp),ih fun c hc=>hl c (by simp[hc])]
 have arr:∀ (arr:Array Value) (cells:List AV),arr.size=cells.length->(∀ (j:Nat) (u:Value) (c:AV),arr[j]? = some u->cells[j]? = some c->c.kill r=c)->cells.map (AV.kill r)=cells:=by
  intro arr cells hn hh;refine lst cells fun c hc=>?_;obtain⟨j,hj,rfl⟩:=List.mem_iff_getElem.1 hc;exact hh j arr[j] _ (by simp[hn,hj]) (by simp[hj])
 induction h with
 | d h=>rfl
 | own hm _=>
  rename_i u q off n m;unfold AV.kill;rw[if_neg];intro e;subst e;rw[hr]at hm;cases hm
 | ref hm _=>
  rename_i q e j b m;unfold AV.kill;rw[if_neg];intro e;subst e;rw[hr]at hm;cases hm
 | agg hn _ ih=>rw[AV.kill,AV.go_eq,arr _ _ hn ih]
 | tup hn _ ih=>rw[AV.kill,AV.go_eq,arr _ _ hn ih]
 | bA _ ih=>rw[AV.kill,ih]
 | bm _ ih=>rw[AV.kill,ih]
 | fn hn _ ih=>rw[AV.kill,AV.go_eq,arr _ _ hn ih]
 | mp hm _=>
  rename_i q b m;unfold AV.kill;rw[if_neg];intro e;subst e;rw[hr]at hm;cases hm
 | dead u=>rfl
theorem In.zH (hi:In w X G μ N a σ) {r:Nat} (hr:σ.H r=none):aa6 r σ.env=σ.env/\cQ r σ.H=σ.H:=by
 have hn:=hi.aY.sC hr;constructor
 .funext i;unfold aa6
  cases he:σ.env i with
  | none=>rfl
  | some x=>
   obtain⟨u,_,hx⟩:=hi.env.slot i x he;simp[hx.zH hn]
 .funext q;unfold cQ
  cases hq:σ.H q with
  | none=>rfl
  | some row=>
   obtain⟨m,hm,ok⟩:=hi.aY.rows q row hq
   cases ok with
   | nil=>rfl
   | sl=>rfl
   | mp=>rfl
   | it=>rfl
   | box hb aK hc hh kI iD ue=>
    rename_i ty b cells cur
    have:cells.map (AV.kill r)=cells:=by
     have:=(RV.agg (w:=w) (X:=X) (μ:=μ) (arr:=(cur.toList.take cells.length).toArray) (cells:=cells) (by simp;omega) fun j u c hu hc=>iD j u c (by
      have kN:(cur.toList.take cells.length)[j]? = some u:=by simpa using hu
      rw[List.getElem?_take]at kN;split at kN
      .simpa using kN
      .cases kN) hc).zH hn
     rw[AV.kill,AV.go_eq]at this;exact AV.agg.inj this
    simp[Row.kill,this]
theorem YI (hg:Good P T) (hi:In w X G μ N a σ) {o:Oper} {c:Prop} {x:AV} {aI:St} (h:wr T G Mv σ o=some (c,x,aI)) (hc:c) (hd:∀ d,o.dst=some d->d < N.n) :
  ∃ n v w' ax,(execOp a.eval o).run P w = .ok n w'/\(n = .value v\/(n = .skip/\v=undef))/\In w' X G ax N a aI/\RV w' X ax v x/\Ev Mv w μ w' ax:=by
 have lift:∀ {s:Sem Value} {x:AV} {aI:St},ku Mv X G N w μ a (s.run P w) x aI->∃ n v w' ax,(do pure (.value (<- s)):Sem Next).run P w = .ok n w'/\(n = .value v\/(n = .skip/\v=undef))/\In w' X G ax N a aI/\RV w' X ax v x/\Ev Mv w μ w' ax:=by
  rintro s x aI ⟨v,w',ax,hr,rest⟩;exact⟨.value v,v,w',ax,by simp[hr],.inl rfl,rest⟩
 obtain⟨dst,op,type,pos,after,guard⟩:=o;dsimp only at h hd;unfold wr at h;dsimp only at h;split at h
 .split at h
  .rename_i ti ht;simp only[Option.some.injEq,Prod.mk.injEq]at h;obtain⟨rfl,rfl,rfl⟩:=h;exact lift (Mb hg hi hc ht)
  .cases h
 .split at h
  .rename_i cs hcs;obtain⟨y,hy,he⟩:=Option.bind_eq_some_iff.1 hcs;simp only[Option.some.injEq,Prod.mk.injEq]at h;obtain⟨rfl,rfl,rfl⟩:=h;exact lift (M5 hi hc (hi.eval hy) he)
  .cases h
 .split at h
  .rename_i r e j v h1 h2;split at h
   .rename_i ty cells hH;split at h
    .rename_i he;subst he;split at h
     .rename_i c' pS hs;simp only[Option.some.injEq,Prod.mk.injEq]at h;obtain⟨rfl,rfl,rfl⟩:=h;obtain⟨w',hr,aF,aJ⟩:=Xv (Mv:=Mv) hg hi hH hs hc (hi.eval h1) (hi.eval h2);exact⟨.skip,undef,w',μ,by simp[execOp,hr],.inr ⟨rfl,rfl⟩,aF,.dead _,aJ⟩
     .cases h
    .cases h
   .rename_i ty sz els hH;split at h
    .rename_i c' kA hs;simp only[Option.some.injEq,Prod.mk.injEq]at h;obtain⟨rfl,rfl,rfl⟩:=h;obtain⟨w',hr,aF,aJ⟩:=Xw (Mv:=Mv) hg hi hH hs hc (hi.eval h1) (hi.eval h2);exact⟨.skip,undef,w',μ,by simp[execOp,hr],.inr ⟨rfl,rfl⟩,aF,.dead _,aJ⟩
    .cases h
   .cases h
   .cases h
   .cases h
  .cases h
 .split at h
  .rename_i tt cJ;split at h
   .rename_i e cN;split at h
    .rename_i te kn n km m cg h1 h2;simp only[Option.some.injEq,Prod.mk.injEq]at h;obtain⟨rfl,rfl,rfl⟩:=h;obtain⟨g1,g2,g3,g4,g5,g6,g7⟩:=hc;have:=Tc (Mv:=Mv) hg hi g1 cJ cN cg (k1:=kn) (k2:=km) g2 g3 g4 g5 g6 g7;rw[<- (hi.eval h1).scalar,<- (hi.eval h2).scalar]at this;exact lift this
    .cases h
   .cases h
  .cases h
 .split at h
  .rename_i tt cJ;split at h
   .rename_i e cN;split at h
    .rename_i te ps cg dB;split at h
     .rename_i els rG;simp only[Option.some.injEq,Prod.mk.injEq]at h;obtain⟨rfl,rfl,rfl⟩:=h;obtain⟨g1,g2,g3,g4⟩:=hc;obtain⟨hv,hr⟩:=hi.jG dB;exact lift (M9 (Mv:=Mv) hg hi g1 cJ cN cg rG g2 (by simpa using hv) (fun i p v h1 h2=>hr i p v h1 (by simpa using h2)) g3 g4)
     .cases h
    .cases h
   .cases h
  .cases h
 .split at h
  .rename_i args argTypes d _ _ x0 y0 t t' ha ht;have e1:args = #[x0,y0]:=Array.toList_inj.1 ha;have e2:argTypes = #[t,t']:=Array.toList_inj.1 ht;subst e1 e2;split at h
   .rename_i Rz;subst Rz
    have run_eq:∀ {x:AV} {aI:St},ku Mv X G N w μ a ((Builtin.append_ #[t,t] type #[a.eval x0,a.eval y0]).run P w) x aI->∃ n v w' ax,(execOp a.eval { dst:=some d,op:=.call { callee:=.builtin .append,args:=⟨[x0,y0]⟩,argTypes:=⟨[t,t]⟩ },type:=type,pos:=pos,after:=after,guard:=guard }).run P w = .ok n w'/\(n = .value v\/(n = .skip/\v=undef))/\In w' X G ax N a aI/\RV w' X ax v x/\Ev Mv w μ w' ax:=by
     rintro x aI ⟨v,w',ax,hr,rest⟩;exact⟨.value v,v,w',ax,by simp[execOp,resolve,invoke,builtin,hr],.inl rfl,rest⟩
    split at h
    .rename_i tt cJ;split at h
     .rename_i e cN;split at h
      .rename_i te r off n v cg h1 h2;split at h
       .rename_i ty sz els news hH hn;simp only[Option.some.injEq,Prod.mk.injEq]at h;obtain⟨rfl,rfl,rfl⟩:=h;obtain⟨rfl,g1,rfl,rfl,g2,g3,g4,g5,g6,g7,g8⟩:=hc;exact run_eq (FA (Mv:=Mv) hg hi g1 cJ cN cg hH g2 (hi.eval h1) (zC hi.aY (hi.eval h2) hn g3 g5 g4) g5 g6 (by unfold maxLen;omega) g8)
       .cases h
      .rename_i te v cg h1 h2;split at h
       .rename_i news hn;simp only[Option.some.injEq,Prod.mk.injEq]at h;obtain⟨rfl,rfl,rfl⟩:=h;obtain⟨g0,g1,g3,g4,g5,g6,g7,g8⟩:=hc;obtain⟨aF,aJ⟩:=hi.alloc (Mv:=Mv) g0 (bY.refl w) (m:=⟨none,te.size,0⟩) (by simp) (row:=.sl e te.size []) fun _=>.nil rfl rfl
        have hu:RV w X (cR μ d ⟨none,te.size,0⟩) (a.eval x0) (.own d 0 0):=by
         have:=(hi.eval h1).data.mD
         rcases this with⟨hh,_⟩ | ⟨ad,cap,hh,hk,_⟩
         .rw[hh];exact .own (m:=⟨none,te.size,0⟩) (by simp[cR]) (.inl ⟨rfl,rfl,rfl,rfl⟩)
         .exact absurd rfl hk
        have kI:jz (aL σ.H d (.sl e te.size [])) d v=some news:=by
         unfold jz at hn ⊢
         split at hn<;>first | exact hn | skip
         rename_i q off n;split at hn
         .cases hn
         .rename_i hq;rw[if_neg hq];simpa[aL,hq]using hn
        have ub:RV w X (cR μ d ⟨none,te.size,0⟩) (a.eval y0) v:=by
         refine (hi.eval h2).same aJ fun q m hq=>?_;unfold cR;split
         .rename_i e';subst e';rw[hi.aY.sC g0]at hq;cases hq
         .exact hq
        have vU:=FA (Mv:=Mv) (ty:=type) hg aF g1 cJ cN cg (r:=d) (n:=0) (els:=[]) (news:=news) (by simp[aL]) (by simp) hu (zC aF.aY ub kI g3 g5 g4) g5 g6 (by unfold maxLen;omega) (by simpa using g8);obtain⟨v',w',ax,hr,tM,ft,iP⟩:=vU;refine run_eq ⟨v',w',ax,hr,?_,by simpa using ft,aJ.trans iP⟩;obtain⟨k1,k2⟩:=hi.zH g0
        have e1:cQ d (aL σ.H d (.sl e te.size []))=aL σ.H d (.sl e te.size []):=by
         funext q;by_cases hq:q=d
         .simp[cQ,aL,hq,Row.kill]
         .have:=congrFun k2 q;simpa[cQ,aL,hq]using this
        have e2:aL (aL σ.H d (.sl e te.size [])) d (.sl e te.size ([].take 0 ++ news))=aL σ.H d (.sl e te.size news):=by
         funext q;by_cases hq:q=d<;>simp[aL,hq]
        dsimp only at tM;rw[k1,e1,e2]at tM;exact tM
       .cases h
      .cases h
     .cases h
    .cases h
   .unfold EN at h;split at h
    .rename_i tt ts cJ nU;split at h
     .rename_i e cN jo;split at h
      .rename_i te r off n s cg h1 h2;split at h
       .rename_i ty sz els hH;simp only[Option.some.injEq,Prod.mk.injEq]at h;obtain⟨rfl,rfl,rfl⟩:=h;obtain⟨rfl,g1,rfl,rfl,g2,g3,g4,g5,g6⟩:=hc;have hv:a.eval y0 = .string s:=(hi.eval h2).scalar;obtain⟨v,w',ax,hr,rest⟩:=My (Mv:=Mv) (ty:=type) hg hi g1 cJ cN nU jo cg hH g2 (hi.eval h1) g3 g4 g5 g6;exact⟨.value v,v,w',ax,by simp[execOp,resolve,invoke,builtin,hv,hr],.inl rfl,rest⟩
       .cases h
      .cases h
     .cases h
    .cases h
  .cases h
 .split at h
  .rename_i args argTypes d _ _ x0 y0 t t' ha ht;have e1:args = #[x0,y0]:=Array.toList_inj.1 ha;have e2:argTypes = #[t,t']:=Array.toList_inj.1 ht;subst e1 e2;split at h
   .rename_i tt cJ;split at h
    .rename_i e cN;split at h
     .rename_i te r off n v cg h1 h2;split at h
      .rename_i ty sz els news hH hn;simp only[Option.some.injEq,Prod.mk.injEq]at h;obtain⟨rfl,rfl,rfl⟩:=h;obtain⟨rfl,rfl,g1,g2,g3,g4,g5⟩:=hc;obtain⟨v,w',ax,hr,rest⟩:=NC (Mv:=Mv) (ty:=type) (t':=t') hg hi cJ cN cg g1 hH g2 g3 (hi.eval h1) (afQ hi.aY (hi.eval h2) hn g4 (by omega) g5);exact⟨.value v,v,w',ax,by simp[execOp,resolve,invoke,builtin,hr],.inl rfl,rest⟩
      .cases h
     .rename_i te kq v cg h1 h2;split at h
      .rename_i news hn;simp only[Option.some.injEq,Prod.mk.injEq]at h;obtain⟨rfl,rfl,rfl⟩:=h;obtain⟨g4,g5,g6⟩:=hc;obtain⟨v,w',ax,hr,rest⟩:=ND (Mv:=Mv) (ty:=type) (t':=t') hg hi cJ cN cg (hi.eval h1) (afQ hi.aY (hi.eval h2) hn g4 g5 g6);exact⟨.value v,v,w',ax,by simp[execOp,resolve,invoke,builtin,hr],.inl rfl,rest⟩
      .cases h
     .cases h
    .cases h
   .cases h
  .cases h
 .simp only[Option.some.injEq,Prod.mk.injEq]at h;obtain⟨rfl,rfl,rfl⟩:=h;exact lift (Te hi hc _)
 .split at h
  .rename_i r key x h1 h2 h3;split at h
   .rename_i ty ents hH;split at h
    .rename_i c' iL hp;simp only[Option.some.injEq,Prod.mk.injEq]at h;obtain⟨rfl,rfl,rfl⟩:=h;obtain⟨w',hr,aF,aJ⟩:=I3 (Mv:=Mv) hg hi hH hp hc (hi.eval h1) (hi.eval h2) (hi.eval h3);exact⟨.skip,undef,w',μ,by simp[execOp,hr],.inr ⟨rfl,rfl⟩,aF,.dead _,aJ⟩
    .cases h
   .cases h
  .cases h
 .split at h
  .rename_i r key x h1 h2 h3;split at h
   .rename_i ty ents hH;split at h
    .rename_i c' iL hp;simp only[Option.some.injEq,Prod.mk.injEq]at h;obtain⟨rfl,rfl,rfl⟩:=h;obtain⟨w',hr,aF,aJ⟩:=I3 (Mv:=Mv) hg hi hH hp hc (hi.eval h1) (hi.eval h2) (hi.eval h3);exact⟨.skip,undef,w',μ,by simp[execOp,hr],.inr ⟨rfl,rfl⟩,aF,.dead _,aJ⟩
    .cases h
   .cases h
  .cases h
 .cases h
end
end Go.Av
namespace Go.Av
def e7 (P:Program) (g:FuncId):Prop:=∀ (args:Array Value) (w:World),(callFunc g args).run P w = .ok (.enter g args) w
theorem e7.of {P:Program} {g:FuncId} {fn:Func} {c:Code} (h:P.funcs[g]? = some fn) (hb:fn.body=some c) (hn:(fn.name == "runtime.NumGoroutine")=false):e7 P g:=by
 intro args w;simp only[callFunc,Sem.run_bind,run_program,Result.andThen_ok,h,hn,Bool.false_eq_true,if_false];simp[hb]
def cC:AV:=.d (.v undef)
def afe (ops:Array Oper) (e:Env) (j:Nat):Option (Option Bool):=match (ops[j]?).bind (·.dst) with
 | some d=>match e d with
  | some (.d (.v (.bool b)))=>some (some b)
  | some (.d (.v (.tuple _)))=>some none
  | _=>none
 | none=>none
def fQ (ops:Array Oper) (e:Env) (o:Oper):Option Bool:=match o.guard with
 | none=>some true
 | some (j,want)=>(afe ops e j).map (· == some want)
def tgt (G:ao) (e:Env) (c:Call):Option (FuncId×List AV):=match c.callee with
 | .value f=>match bf G e f,kB G e c.args.toList with
  | some (.d (.fn (.func g) caps)),some xs=>some (g,xs ++ caps.map .d)
  | some (.fn (.func g) caps),some xs=>some (g,xs ++ caps)
  | some (.bm g x),some xs=>some (g,x :: xs)
  | _,_=>none
 | _=>none
def ir (P:Program) (Mv X:Nat->Prop) (G:ao) (N:Fr) (g:FuncId) (xs:List AV) (σ:St) (K:AV->St->Prop):Prop:=
 e7 P g/\∀ w μ a (vs:Array Value),In w X G μ N a σ->vs.size=xs.length->(∀ (i:Nat) (u:Value) (x:AV),vs[i]? = some u->xs[i]? = some x->RV w X μ u x)->
  Calls P g vs w fun e w'=>∃ v x aw ax,e = .returned v/\K x aw/\In w' X G ax N a aw/\RV w' X ax v x/\Ev Mv w μ w' ax
theorem ir.mono {P:Program} {Mv X:Nat->Prop} {G:ao} {N:Fr} {g:FuncId} {xs:List AV} {σ:St} {K K':AV->St->Prop} (h:ir P Mv X G N g xs σ K) (hk:∀ x aw,K x aw->K' x aw):ir P Mv X G N g xs σ K':=
 ⟨h.1,fun w μ a vs hi hn hv=>(h.2 w μ a vs hi hn hv).mono fun _ _ ⟨v,x,aw,ax,he,k,rest⟩=>⟨v,x,aw,ax,he,hk _ _ k,rest⟩⟩
def eD:Op->Bool
 | .alloc _=>true
 | .box _ _=>true
 | .store _ _ _=>true
 | .makeSlice _ _ _=>true
 | .buildSlice _ _ _=>true
 | .makeMap _ _=>true
 | .mapUpdate _ _ _ _=>true
 | .insert _ _ _ _=>true
 | .call { callee:=.builtin .append,.. }=>true
 | .call { callee:=.builtin .copy,.. }=>true
 | _=>false
def cz:Op->Option Call
 | .call { callee:=.value f,args,argTypes }=>some { callee:=.value f,args,argTypes }
 | _=>none
def adi (T:Ty) (G:ao) (Mv:Nat->Prop) (o:Oper) (σ:St) (K:St->Prop):Prop:=
 if eD o.op then match wr T G Mv σ o with
  | some (c,x,aw)=>c/\K ⟨aD aw.env o.dst x,aw.H⟩
  | none=>False
 else match rd T G σ o.op with
  | some (c,x)=>c/\K ⟨aD σ.env o.dst x,σ.H⟩
  | none=>False
def jH (P:Program) (T:Ty) (Mv X:Nat->Prop) (G:ao) (N:Fr) (o:Oper) (σ:St) (K:St->Prop):Prop:=match cz o.op with
 | some c=>match tgt G σ.env c with
  | some (g,xs)=>ir P Mv X G N g xs σ fun x aw=>K ⟨aD aw.env o.dst x,aw.H⟩
  | none=>False
 | none=>adi T G Mv o σ K
def abF (N:Fr) (o:Oper):Prop:=match o.dst with
 | some d=>d < N.n
 | none=>True
section
variable {P:Program} {T:Ty} {Mv X:Nat->Prop} {G:ao} {N:Fr} {w:World} {μ:Mu} {a:Act} {σ:St}
theorem sT (hi:In w X G μ N a σ) {ops:Array Oper} {o:Oper} {b:Bool} (h:fQ ops σ.env o=some b):Region.wanted o (yielded ops a.tmps)=b:=by
 unfold fQ at h;unfold Region.wanted;split at h
 .rename_i hg;obtain rfl:=Option.some.inj h;simp[hg]
 .rename_i j want hg;obtain⟨b',hb,rfl⟩:=Option.map_eq_some_iff.1 h;simp only[hg];unfold afe at hb;split at hb
  .rename_i d hd;split at hb
   .rename_i b2 he;obtain rfl:=Option.some.inj hb;obtain⟨u,hu,hr⟩:=hi.env.slot d _ he;obtain rfl:=hr.scalar;simp[yielded,hd,hu]
   .rename_i he;obtain rfl:=Option.some.inj hb;obtain⟨u,hu,hr⟩:=hi.env.slot d _ he;obtain rfl:=hr.scalar;simp[yielded,hd,hu]
   .cases hb
  .cases hb
theorem XZ (hi:In w X G μ N a σ) {o:Oper} {c:Call} {g:FuncId} {xs:List AV} (ho:o.op = .call c) (h:tgt G σ.env c=some (g,xs)) :
  ∃ vs:Array Value,(execOp a.eval o).run P w=(callFunc g vs).run P w/\vs.size=xs.length/\∀ (i:Nat) (u:Value) (x:AV),vs[i]? = some u->xs[i]? = some x->RV w X μ u x:=by
 unfold tgt at h;split at h
 .rename_i f hf
  have key:∀ (caps:List AV) (arr:Array Value) (ys:List AV),a.eval f = .func (.func g) #[] arr->arr.size=caps.length->(∀ (j:Nat) (u:Value) (c:AV),arr[j]? = some u->caps[j]? = some c->RV w X μ u c)->kB G σ.env c.args.toList=some ys->xs=ys ++ caps->
    ∃ vs:Array Value,(execOp a.eval o).run P w=(callFunc g vs).run P w/\vs.size=xs.length/\∀ (i:Nat) (u:Value) (x:AV),vs[i]? = some u->xs[i]? = some x->RV w X μ u x:=by
   intro caps arr ys rJ hn hr hy hx;obtain⟨hl,hv⟩:=hi.kB hy;refine⟨c.args.map a.eval ++ arr,?_,?_,fun i u x hu lV=>?_⟩
   .simp[execOp,ho,resolve,hf,rJ,Deferred.ofValue,invoke]
   .simp only[List.length_map,Array.length_toList]at hl;subst hx;simp[hl,hn]
   .subst hx
    have eG:(c.args.map a.eval).size=ys.length:=by simpa using hl
    rw[Array.getElem?_append]at hu;rw[List.getElem?_append]at lV;split at hu
    .rename_i h1;rw[if_pos (by omega)]at lV;exact hv i u x (by rw[<- Array.toList_map,Array.getElem?_toList];exact hu) lV
    .rename_i h1;rw[if_neg (by omega)]at lV;rw[eG]at hu;exact hr _ u x hu lV
  split at h
  .rename_i g' caps ys he hy;simp only[Option.some.injEq,Prod.mk.injEq]at h;obtain⟨rfl,rfl⟩:=h;obtain⟨arr,rJ,hn,hr⟩:=(hi.eval he).data.aeC;exact key (caps.map .d) arr ys rJ (by simpa using hn) (RV.uC hr) hy rfl
  .rename_i g' caps ys he hy;simp only[Option.some.injEq,Prod.mk.injEq]at h;obtain⟨rfl,rfl⟩:=h;obtain⟨arr,rJ,hn,hr⟩:=(hi.eval he).aeC;exact key caps arr ys rJ hn hr hy rfl
  .rename_i g' y ys he hy;simp only[Option.some.injEq,Prod.mk.injEq]at h;obtain⟨rfl,rfl⟩:=h;obtain⟨v,rJ,hr⟩:=(hi.eval he).M1;obtain⟨hl,hv⟩:=hi.kB hy;refine⟨#[v] ++ c.args.map a.eval,?_,?_,fun i u x hu lV=>?_⟩
   .simp[execOp,ho,resolve,hf,rJ,Deferred.ofValue,invoke]
   .simp only[List.length_map,Array.length_toList]at hl;simp[hl];omega
   .cases i with
    | zero=>
     rw[Array.getElem?_append_left (by simp)]at hu;simp at hu lV;subst hu lV;exact hr
    | succ i=>
     rw[List.getElem?_cons_succ]at lV;rw[Array.getElem?_append_right (by simp)]at hu;simp only[List.size_toArray,List.length_cons,List.length_nil,Nat.zero_add,Nat.add_sub_cancel]at hu;exact hv i u x (by rw[<- Array.toList_map,Array.getElem?_toList];exact hu) lV
  .cases h
 .cases h
theorem yg (hg:Good P T) (hi:In w X G μ N a σ) {o:Oper} {K:St->Prop} (hd:∀ d,o.dst=some d->d < N.n) (h:jH P T Mv X G N o σ K) {Q:Exit->Act->World->Prop} {next:Act->World->Prop}
  (hk:∀ w' ax a' aw,K aw->In w' X G ax N a' aw->Ev Mv w μ w' ax->next a' w'):o.wpIn (wd N.ro) 0 P a w next Q:=by
 refine wpR (fun c e=>by simp[jH,e,cz,adi,eD,rd]at h) ?_;unfold jH at h;split at h
 .rename_i c hc
  have ho:o.op = .call c:=by
   unfold cz at hc;split at hc
   .rename_i hop;rw[hop];obtain rfl:=Option.some.inj hc;rfl
   .cases hc
  split at h
  .rename_i g xs ht;obtain⟨vs,hr,hn,hv⟩:=XZ (P:=P) hi ho ht;obtain⟨Qn,dG⟩:=h;unfold Oper.wp;rw[hr,Qn vs w];refine (dG w μ a vs hi hn hv).mono fun e w' ⟨v,x,aw,ax,he,k,aF,ft,aJ⟩=>?_;subst he;exact hk _ ax _ _ k (aF.put ft hd) aJ
  .exact h.elim
 .unfold adi at h;split at h
  .split at h
   .rename_i c x aw hw;obtain⟨hc,k⟩:=h;obtain⟨n,v,w',ax,hr,hn,aF,ft,aJ⟩:=YI (Mv:=Mv) hg hi hw hc hd;unfold Oper.wp;rw[hr]
    rcases hn with rfl | ⟨rfl,rfl⟩
    .exact hk _ ax _ _ k (aF.put ft hd) aJ
    .exact hk _ ax _ _ k (aF.put ft hd) aJ
   .exact h.elim
  .split at h
   .rename_i c x hw;obtain⟨hc,k⟩:=h;obtain⟨v,hr,ft⟩:=zW hg hi hw hc;unfold Oper.wp;rw[hr];exact hk _ μ _ _ k (hi.put ft hd) (.refl _ w μ)
   .exact h.elim
def ar (P:Program) (G:ao) (g:FuncId) (ds:List D) (y:D):Prop:=
 e7 P g/\∀ X,qS P (fun _=>True) X G g (ds.map .d) fD fun x H'=>x = .d y/\H'=fD
theorem Sim.none {X':Nat->Prop} (h:∀ b,X' b->b < w.heap.size):Sim w X' (fun _=>.none) fD:=
 ⟨by simp[fD],by simp,by simp,by simp,h⟩
theorem RD.sub {X X':Nat->Prop} (h:∀ b,X' b->X b) {u:Value} {x:D} (hr:RD w X u x):RD w X' u x:=hr.mono (Nat.le_refl _) fun b _ hb=>⟨rfl,fun e=>hb (h b e)⟩
theorem ac8 {X:Nat->Prop} {b:Nat}:XX X (fun _=>none) b↔X b:=⟨fun h=>h.elim id (fun ⟨_,_,h,_⟩=>(by cases h)),.inl⟩
theorem Ev.j7 {Mv:Nat->Prop} {w w':World} {ax:Mu} (h:Ev Mv w (fun _=>none) w' ax):bY w w':=⟨h.size,h.os,h.tape,h.output,fun b hb=>(h.same b hb fun ⟨_,_,h,_⟩=>by cases h).1⟩
theorem ir.pure {g:FuncId} {ds:List D} {y:D} (hc:ar P G g ds y) {K:AV->St->Prop} (h:K (.d y) σ):ir P Mv X G N g (ds.map .d) σ K:=by
 refine⟨hc.1,fun w μ a vs hi hn hv=>?_⟩;refine (hc.2 (XX X μ) w (fun _=>none) vs (Sim.none fun b hb=>hb.elim (hi.aY.fits b) hi.aY.jj) (fun g x hx=>(hi.gq g x hx).sub fun b=>ac8.1) hn fun i u x hu hx=>?_).mono ?_
 .rw[List.getElem?_map]at hx;obtain⟨d,hd,rfl⟩:=Option.map_eq_some_iff.1 hx;exact .d ((hv i u (.d d) hu (by rw[List.getElem?_map,hd];rfl)).data.sub fun b=>ac8.1)
 .rintro e w' ⟨v,x,H',ax,rfl,⟨rfl,rfl⟩,hr,hs,aJ⟩;have hg:=aJ.j7;obtain⟨aF,Cr⟩:=hi.j7 (Mv:=Mv) hg;refine⟨v,.d y,σ,μ,rfl,h,aF,.d (hr.data.sub fun b hb=>.inl hb),Cr⟩
def iq (f:AV->Option D):List AV->Option (List D)
 | []=>some []
 | x :: l=>match f x,iq f l with
  | some y,some ys=>some (y :: ys)
  | _,_=>none
def j2:List (Value×D)->Option (List (Value×Value))
 | []=>some []
 | (k,.v x) :: l=>(j2 l).map fun r=>(k,x) :: r
 | _ :: _=>none
theorem Fz:∀ {l:List (Value×D)} {r:List (Value×Value)},j2 l=some r->l.length=r.length/\∀ (i:Nat) (p:Value×Value),r[i]? = some p->l[i]? = some (p.1,.v p.2)
 | [],r,h=>by simp only[j2,Option.some.injEq]at h;subst h;exact⟨rfl,by simp⟩
 | (k,.v x) :: l,r,h=>by
  simp only[j2]at h;obtain⟨r',h1,rfl⟩:=Option.map_eq_some_iff.1 h;obtain⟨h2,h3⟩:=Fz h1;refine⟨by simp[h2],fun i p hp=>?_⟩
  cases i with
  | zero=>simp at hp;subst hp;rfl
  | succ i=>exact h3 i p (by simpa using hp)
 | (k,.sl _ _) :: l,r,h=>by simp[j2]at h
 | (k,.ip _) :: l,r,h=>by simp[j2]at h
 | (k,.agg _) :: l,r,h=>by simp[j2]at h
 | (k,.tup _) :: l,r,h=>by simp[j2]at h
 | (k,.bA _ _) :: l,r,h=>by simp[j2]at h
 | (k,.fn _ _) :: l,r,h=>by simp[j2]at h
 | (k,.lA _) :: l,r,h=>by simp[j2]at h
 | (k,.dm _ _) :: l,r,h=>by simp[j2]at h
def dU (H:Heap):Nat->AV->Option D
 | _,.d x=>some x
 | 0,_=>none
 | _+1,.own r off n=>match H r with
  | some (.sl _ _ els)=>if off+n<=els.length then some (.sl none ((els.drop off).take n)) else none
  | _=>none
 | k+1,.ref r e j=>match H r with
  | some (.box _ cells)=>if e=0 then (iq (dU H k) (cells.drop j)).map .ip else none
  | _=>none
 | k+1,.agg cells=>(iq (dU H k) cells).map .agg
 | k+1,.fn f caps=>(iq (dU H k) caps).map (.fn f)
 | k+1,.tup cells=>(iq (dU H k) cells).map .tup
 | k+1,.bA t x=>(dU H k x).map (.bA t)
 | _+1,.mp r=>match H r with
  | some (.mp _ ents)=>(j2 ents).map (.dm false)
  | _=>none
 | _,_=>none
theorem RD.nw {u:Value} {k:Option Bool} {els:List (List D)} (h:RD w X u (.sl k els)):RD w X u (.sl none els):=by
 rcases h.mD with⟨rfl,rfl,_⟩ | ⟨a,cap,rfl,_,hc,hm,hr⟩
 .exact .nil (by simp)
 .rcases hr with rfl | ⟨b,off,sz,f,rfl,hX,hz,hs,abf,iD⟩
  .exact .empty (by simp) hm
  .by_cases h0:els=[]
   .subst h0;exact .empty (by simp) hm
   .exact .sl (by simp) rfl hc hm hX hs hz (List.length_pos_iff.2 h0) abf iD
theorem A0 {f:AV->Option D}:∀ {l:List AV} {ds:List D},iq f l=some ds->l.length=ds.length/\∀ (j:Nat) (x:AV) (d:D),l[j]? = some x->ds[j]? = some d->f x=some d:=by
 intro l
 induction l with
 | nil=>intro ds h;simp only[iq,Option.some.injEq]at h;subst h;exact⟨rfl,by simp⟩
 | cons x l ih=>
  intro ds h;simp only[iq]at h;split at h
  .rename_i y ys h1 h2;obtain rfl:=Option.some.inj h;obtain⟨hl,hr⟩:=ih h2;refine⟨by simp[hl],fun j x' d hx hd=>?_⟩
   cases j with
   | zero=>simp at hx hd;subst hx hd;exact h1
   | succ j=>simp at hx hd;exact hr j x' d hx hd
  .cases h
theorem xS {H:Heap} (hs:Sim w X μ H):∀ (k:Nat) {x:AV} {d:D} {u:Value},dU H k x=some d->RV w X μ u x->RD w X u d:=by
 intro k
 induction k with
 | zero=>
  intro x d u h hu;cases x<;>simp only[dU,Option.some.injEq,reduceCtorEq]at h;subst h;exact hu.data.sub fun b hb=>.inl hb
 | succ k ih=>
  intro x d u h hu
  have many:∀ {l:List AV} {ds:List D} {arr:Array Value},iq (dU H k) l=some ds->arr.size=l.length->(∀ (j:Nat) (u:Value) (c:AV),arr[j]? = some u->l[j]? = some c->RV w X μ u c)->
    arr.size=ds.length/\∀ (j:Nat) (u:Value) (c:D),arr[j]? = some u->ds[j]? = some c->RD w X u c:=by
   intro l ds arr hd hn hr;obtain⟨hl,hf⟩:=A0 hd;refine⟨by omega,fun j u c hu hc=>?_⟩;have hj:=(List.getElem?_eq_some_iff.1 hc).1
   have hj':j < l.length:=by omega
   exact ih (hf j l[j] c (by simp[hj']) hc) (hr j u _ hu (by simp[hj']))
  cases x with
  | d x=>
   simp only[dU,Option.some.injEq]at h;subst h;exact hu.data.sub fun b hb=>.inl hb
  | own r off n=>
   simp only[dU]at h;split at h
   .rename_i ty sz els hr;split at h
    .rename_i hle;obtain rfl:=Option.some.inj h;obtain⟨kk,bC,_⟩:=zP (σ:=⟨fun _=>none,H⟩) hs hr hle hu;exact (bC.sub fun b hb=>.inl hb).nw
    .cases h
   .cases h
  | ref r e j=>
   simp only[dU]at h;split at h
   .rename_i ty cells hr;split at h
    .rename_i he;subst he;obtain⟨ds,hd,rfl⟩:=Option.map_eq_some_iff.1 h;obtain⟨m,b,hm,hb,rfl⟩:=hu.ie;obtain⟨m',bU,ok⟩:=hs.rows r _ hr;rw[hm]at bU;obtain rfl:=Option.some.inj bU
     cases ok with
     | box aT aK acN hh hn iD ue=>
      rename_i b' cur;rw[hb]at aT;obtain rfl:=Option.some.inj aT;obtain⟨hl,hf⟩:=A0 hd;simp only[List.length_drop]at hl;simp only[Nat.zero_mul,Nat.zero_add];refine .ip (f:=fun i=>cur.getD (j+i) undef) (hs.frame r m b hm hb) (Array.getElem?_eq_some_iff.1 hh).1 (fun i hi=>?_) fun i d gL=>?_
      .rw[cell_of_row w b (j+i) cur ty (0,0) hh];simp[Array.getD_eq_getD_getElem?,show j+i < cur.size by omega]
      .have hi:=(List.getElem?_eq_some_iff.1 gL).1
       have hi':j+i < cells.length:=by omega
       have hi2:j+i < cur.size:=by omega
       refine ih (hf i cells[j+i] d (by rw[List.getElem?_drop];simp[hi']) gL) (iD (j+i) _ _ ?_ (by simp[hi']));simp[Array.getD_eq_getD_getElem?,hi2]
    .cases h
   .cases h
  | agg cells=>
   simp only[dU]at h;obtain⟨ds,hd,rfl⟩:=Option.map_eq_some_iff.1 h;obtain⟨arr,rfl,hn,hr⟩:=hu.nz;obtain⟨h1,h2⟩:=many hd hn hr;exact .agg h1 h2
  | fn f caps=>
   simp only[dU]at h;obtain⟨ds,hd,rfl⟩:=Option.map_eq_some_iff.1 h;obtain⟨arr,rfl,hn,hr⟩:=hu.aeC;obtain⟨h1,h2⟩:=many hd hn hr;exact .fn h1 h2
  | tup cells=>
   simp only[dU]at h;obtain⟨ds,hd,rfl⟩:=Option.map_eq_some_iff.1 h;obtain⟨arr,rfl,hn,hr⟩:=hu.u0;obtain⟨h1,h2⟩:=many hd hn hr;exact .tup h1 h2
  | bA t x=>
   simp only[dU]at h;obtain⟨d',hd,rfl⟩:=Option.map_eq_some_iff.1 h;obtain⟨v,rfl,hr⟩:=hu.nV;exact .bA (ih hd hr)
  | mp r=>
   simp only[dU]at h;split at h
   .rename_i ty ents hr;obtain⟨es,he,rfl⟩:=Option.map_eq_some_iff.1 h;obtain⟨m,b,hm,hb,rfl⟩:=hu.DS;obtain⟨BD,hh,hn,ni,_⟩:=hs.DJ hr hm hb;obtain⟨hl,hv⟩:=Fz he
    have heq:BD=gN es:=by
     refine Array.ext (by rw[adh];omega) fun i h1 h2=>?_
     have hi:i < es.length:=by rw[adh]at h2;exact h2
     have h3:=hv i es[i] (by simp[hi]);obtain⟨k1,k2,k3⟩:=ni i BD[i] _ (by simp[h1]) h3;have k4:=k3.scalar;have h5:=aeL hi;rw[Array.getElem?_eq_getElem h2]at h5;rw[Option.some.inj h5];generalize BD[i]=e at k1 k2 k4;cases e;simp only at k1 k2 k4;rw[k1,k2,k4]
    refine .dm (hs.frame r m b hm hb) ?_ (List.Perm.refl _) (by simp);rw[hh,heq,adh]
   .cases h
  | _=>simp[dU]at h
def D.scalar:D->Bool
 | .v _=>true
 | .tup l=>l.all fun | .v _=>true | _=>false
 | _=>false
theorem RD.W4 {X X':Nat->Prop} {w w':World} {u:Value} {x:D} (h:RD w X u x) (hs:x.scalar=true):RD w' X' u x:=by
 cases x with
 | v x=>obtain rfl:=h.scalar;exact .v _
 | tup l=>
  obtain⟨arr,rfl,hn,hr⟩:=h.u0;refine .tup hn fun j u c hu hc=>?_;have:=List.all_eq_true.1 hs c (List.mem_of_getElem? hc)
  cases c with
  | v x=>obtain rfl:=(hr j u _ hu hc).scalar;exact .v _
  | _=>cases this
 | _=>cases hs
theorem ir.mw {g:FuncId} {xs:List AV} {ds:List D} {y:D} (hd:iq (dU σ.H 4) xs=some ds) (hc:ar P G g ds y) (hy:y.scalar=true) {K:AV->St->Prop} (h:K (.d y) σ):ir P Mv X G N g xs σ K:=by
 refine⟨hc.1,fun w μ a vs hi hn hv=>?_⟩;obtain⟨hl,hf⟩:=A0 hd;refine (hc.2 X w (fun _=>none) vs (Sim.none hi.aY.fits) (fun g x hx=>(hi.gq g x hx).sub fun b hb=>.inl (ac8.1 hb)) (by rw[List.length_map];omega) fun i u x hu hx=>?_).mono ?_
 .rw[List.getElem?_map]at hx;obtain⟨d,gL,rfl⟩:=Option.map_eq_some_iff.1 hx;have hj:=(List.getElem?_eq_some_iff.1 gL).1
  have hj':i < xs.length:=by omega
  exact .d ((xS hi.aY 4 (hf i xs[i] d (by simp[hj']) gL) (hv i u _ hu (by simp[hj']))).sub fun b=>ac8.1)
 .rintro e w' ⟨v,x,H',ax,rfl,⟨rfl,rfl⟩,hr,hs,aJ⟩;obtain⟨aF,Cr⟩:=hi.j7 (Mv:=Mv) aJ.j7;exact⟨v,.d y,σ,μ,rfl,h,aF,.d (hr.data.W4 hy),Cr⟩
end
