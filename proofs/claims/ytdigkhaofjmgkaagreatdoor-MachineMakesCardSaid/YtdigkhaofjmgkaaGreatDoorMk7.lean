/-
  Texts that belong together,in one file: Av8s,Av9,Av10.
-/
import Derived.Test.YtdigkhaofjmgkaaGreatDoorMk6
import Derived.Lib.AppendStr
set_option linter.unusedSectionVars false
set_option linter.unusedSimpArgs false
set_option linter.unusedVariables false
namespace Go.Av
def lL (s:ByteArray):List (List D):=s.data.toList.map fun b=>[D.v (.int .u8 b.toNat)]
theorem FI (s:ByteArray):(lL s).length=s.size:=by simp [lL]
section
variable {P:Program} {T:Ty} {Mv X:Nat->Prop} {G:ao} {N:Fr} {w:World} {μ:Mu} {a:Act} {σ:St}
theorem FJ (s:ByteArray):Rel w X μ 1 (Lib.strCells s) (lL s):=by
 intro i j el c hi hj;unfold lL at hi;rw [List.getElem?_map] at hi;obtain ⟨b,hb,rfl⟩:=Option.map_eq_some_iff.1 hi
 match j,hj with
 | 0,hj=>
  simp at hj;subst hj;exact ⟨_,by simp [Lib.strCells,hb],.v _⟩
 | j+1,hj=>simp at hj
theorem Wl {t t' ty e:TypeId} {tt ts te:TI} (hg:Good P T) (htt:T t=some tt) (cE:tt.desc = .slice e) (hts:T t'=some ts) (iZ:ts.desc = .string) (b9:T e=some te) (base:Option Addr) (n cap:Nat) (hn:n<=cap) {s:ByteArray} (hs0:s.size=0) :
  (Builtin.append_ #[t,t'] ty #[.slice base n cap,.string s]).run P w = .ok (.slice base n cap) w:=by
 have hu:=hg.cu (w:=w) htt;have hu':=hg.cu (w:=w) hts;have aI:=hg.sizeOf (w:=w) b9;have hf:=Lib.run_firstCells_string (P:=P) w te.size s;have hn0:Lib.strCells s=[]:=List.eq_nil_of_length_eq_zero (by rw [Lib.strCells_length];exact hs0);rw [hs0,hn0] at hf;cases base<;>simp [Builtin.append_,hu,cE,hu',iZ,aI,Builtin.lenOf,hn,hs0,hf,storeCells]
theorem Mb (hg:Good P T) (hi:In w X G μ N a σ) {r n:Nat} (hmv:Mv r) {t t' ty e:TypeId} {tt ts te:TI} (htt:T t=some tt) (cE:tt.desc = .slice e) (hts:T t'=some ts) (iZ:ts.desc = .string) (b9:T e=some te) {els:List (List D)} {u:Value} {s:ByteArray}
  (hH:σ.H r=some (.sl e 1 els)) (hle:n<=els.length) (hu:RV w X μ u (.own r 0 n)) (tm:te.size=1) (c6:te.bytes=1) (wg:te.zero = .int .u8 0) (hb:n+s.size<=140737488355328) :
  ka Mv X G N w μ a ((Builtin.append_ #[t,t'] ty #[u,.string s]).run P w) (.own r 0 (n+s.size)) ⟨cF r σ.env,aJ (cG r σ.H) r (.sl e 1 (els.take n ++ lL s))⟩:=by
 obtain ⟨m,hm,hh⟩:=hu.iK;obtain ⟨m',bO,ok⟩:=hi.aS.rows r _ hH;rw [hm] at bO;obtain rfl:=Option.some.inj bO;obtain ⟨adE,i0,jc,hs0,hb0,j0,_⟩:=hg e te b9;have ht:=(hg t tt htt).1;rw [cE] at ht;have pL:=(hg t' ts hts).1;rw [iZ] at pL
 have yb:n+s.size<=maxLen:=by unfold maxLen;omega
 have HK:n+s.size<=9223372036854775807:=by omega
 have gr:=FI s
 have Qr:∀ el∈lL s,el.length=1:=by
  intro el ba;obtain ⟨b,_,rfl⟩:=List.mem_map.1 ba;rfl
 have adw:∀ el∈els,el.length=1:=by
  cases ok with
  | nil=>simp
  | sl _ _ _ _ _ _ hl=>exact hl
 have vD:∀ el∈els.take n ++ lL s,el.length=1:=by
  intro el ba
  rcases List.mem_append.1 ba with h | h
  .exact adw el (List.mem_of_mem_take h)
  .exact Qr el h
 by_cases aL:s.size=0
 .-- nothing is appended
  have Pn:lL s=[]:=List.eq_nil_of_length_eq_zero (by rw [gr];exact aL)
  have kQ:∃ base c,u = .slice base n c/\n<=c:=by
   rcases hh with ⟨_,rfl,_,rfl⟩ | ⟨b,_,rfl,ab6⟩
   .exact ⟨_,_,rfl,Nat.le_refl _⟩
   .exact ⟨_,_,rfl,by omega⟩
  obtain ⟨base,c',vX,CG⟩:=kQ;have bK:=Wl (P:=P) (w:=w) (ty:=ty) hg htt cE hts iZ b9 base n c' CG aL;rw [vX,bK,Pn,aL]
  obtain ⟨aC,aG⟩:=hi.move (Mv:=Mv) (w':=w) (m':=m) hm hmv (Nat.le_refl _) rfl rfl rfl (fun _ _ _=>rfl) (fun b hb=>.inr hb) (row:=.sl e 1 (els.take n ++ [])) fun ev=>by
   rw [List.append_nil]
   cases ok with
   | nil c6 cW=>rw [List.take_nil];exact .nil c6 cW
   | sl g1 g2 g3 g4 g5 g6 g7 g8 g9=>
    refine .sl g1 g2 g3 g4 (by simp;omega) g6 (fun el ba=>g7 el (List.mem_of_mem_take ba)) g8 fun i j el c ba hc=>?_;rw [List.getElem?_take] at ba;split at ba
    .obtain ⟨v,hv,bz⟩:=g9 i j el c ba hc;exact ⟨v,hv,bz.ev ev⟩
    .cases ba
  refine ⟨_,_,_,rfl,aC,.own (m:=m) (by simp [cH]) ?_,aG⟩;rw [<- vX];exact hh
 .have Hy:0 < s.size:=by omega
  have eg:(Lib.strCells s).length=s.size:=Lib.strCells_length s
  have oQ:te.zero.cells.size=1:=by rw [wg];rfl
  have wB:∀ (xs:List Value) (fy:Nat),xs.length=n->Rel w X μ 1 xs (els.take n)->n+s.size<=fy->fy<=maxLen->m.sz=1->
    ka Mv X G N w μ a (.ok (.slice (some ⟨w.heap.size,0,none⟩) (n+s.size) fy) (w.drew.alloc (.cells (xs.toArray ++ (Lib.strCells s).toArray ++ Builtin.zeroCells te.zero.cells (fy - (n+s.size))) e)))
     (.own r 0 (n+s.size)) ⟨cF r σ.env,aJ (cG r σ.H) r (.sl e 1 (els.take n ++ lL s))⟩:=by
   intro xs fy hxl oP fi fE vH
   have jV:bU w (w.drew.alloc (.cells (xs.toArray ++ (Lib.strCells s).toArray ++ Builtin.zeroCells te.zero.cells (fy - (n+s.size))) e)):=by
    have h1:=bU.alloc w.drew (.cells (xs.toArray ++ (Lib.strCells s).toArray ++ Builtin.zeroCells te.zero.cells (fy - (n+s.size))) e);exact ⟨h1.size,h1.os,h1.tape,h1.output,h1.same⟩
   have aI:(xs.toArray ++ (Lib.strCells s).toArray ++ Builtin.zeroCells te.zero.cells (fy - (n+s.size))).size=fy * 1:=by
    simp only [Array.size_append,List.size_toArray,size_zeroCells,oQ,hxl,eg];omega
   obtain ⟨aC,aG⟩:=hi.move (Mv:=Mv) (w':=w.drew.alloc (.cells (xs.toArray ++ (Lib.strCells s).toArray ++ Builtin.zeroCells te.zero.cells (fy - (n+s.size))) e)) (m':=⟨some w.heap.size,1,fy⟩) hm hmv jV.size jV.os jV.tape jV.output
    (fun k hk _=>jV.same k hk) (fun b hb=>by simp at hb;omega) (row:=.sl e 1 (els.take n ++ lL s)) fun ev=>by
     refine .sl rfl rfl (by simpa using heap_alloc_new w.drew (.cells (xs.toArray ++ (Lib.strCells s).toArray ++ Builtin.zeroCells te.zero.cells (fy - (n+s.size))) e)) aI (by simp [gr];omega) fE vD (by decide) fun i j el c hi hj=>?_;have oJ:=((oP.append (by rw [hxl,List.length_take,Nat.min_eq_left hle,Nat.mul_one]) (fun el ba=>adw el (List.mem_of_mem_take ba)) (FJ s)).more (l':=(Builtin.zeroCells te.zero.cells (fy - (n+s.size))).toList)) i j el c hi hj;obtain ⟨v,hv,bz⟩:=oJ;refine ⟨v,?_,bz.ev ev⟩;rw [<- Array.getElem?_toList];simpa using hv
   exact ⟨_,_,_,rfl,aC,.own (m:=⟨some w.heap.size,1,fy⟩) (by simp [cH]) (.inr ⟨w.heap.size,rfl,by simp,by simpa using fi⟩),aG⟩
  have vH:m.sz=1:=by
   cases ok with
   | nil _ h=>exact h
   | sl _ h=>exact h
  rcases hh with ⟨hbk,rfl,_,rfl⟩ | ⟨b,hbk,rfl,ab6⟩
  .have hr:=run_append_nil_string (P:=P) w t t' ty e i0 te.zero ht pL jc j0 s (by omega) (by omega) (by rw [hb0,c6];omega);rw [hr]
   have e1:(s.data.map fun b=>Value.int .u8 b.toNat)=(Lib.strCells s).toArray:=by
    apply Array.ext';simp [Lib.strCells]
   have:=wB [] (grownCap w s.size 0 e) (by simp) (by intro i j el c hi;simp at hi) (by have:=grownCap_ge w s.size 0 e;omega) (grownCap_le_maxLen w s.size 0 e (by unfold maxLen;omega)) vH;rw [e1];simpa using this
  .cases ok with
   | nil aO _=>rw [aO] at hbk;cases hbk
   | sl aO aI ni bW hn' eX hl gY hr=>
    rename_i b' cur;rw [hbk] at aO;obtain rfl:=Option.some.inj aO
    have B5:n<=m.cap:=by omega
    have PG:cur.size=m.cap:=by omega
    have hxl:(cur.toList.take n).length=n:=by rw [List.length_take,Array.length_toList,PG,Nat.min_eq_left B5]
    have oP:Rel w X μ 1 (cur.toList.take n) (els.take n):=by
     intro i j el c ba hc;rw [List.getElem?_take] at ba;split at ba
     .rename_i aC;obtain ⟨v,hv,bz⟩:=hr i j el c ba hc;have vt:el.length=1:=hl _ (List.mem_of_getElem? ba)
      have hj:j < 1:=by rw [<- vt];exact (List.getElem?_eq_some_iff.1 hc).1
      refine ⟨v,?_,bz⟩;rw [List.getElem?_take,if_pos (by omega)];simpa using hv
     .cases ba
    rw [vH,Nat.zero_mul,Nat.sub_zero];by_cases adS:n+s.size<=m.cap
    .have bK:=Lib.run_append_room_string (P:=P) w t t' ty e i0 ht pL jc (by rw [hs0,tm]) b n m.cap cur ni s adS (by omega);rw [bK]
     obtain ⟨aC,aG⟩:=hi.move (Mv:=Mv) (w':=w.setRow b (cur.toList.take n ++ Lib.strCells s ++ cur.toList.drop (n+s.size)).toArray) (m':=m) hm hmv (by simp) rfl rfl rfl
      (fun k hk CH=>setRow_other w b k _ fun e'=>CH (by rw [hbk,e'])) (fun b hb=>.inr hb) (row:=.sl e 1 (els.take n ++ lL s)) fun ev=>by
       refine .sl hbk vH (setRow_heap w b cur _ e _ ni) ?_ (by simp [gr];omega) eX vD (by decide) fun i j el c hi hj=>?_
       .simp only [List.size_toArray,List.length_append,List.length_take,List.length_drop,Array.length_toList,eg];omega
       .obtain ⟨v,hv,bz⟩:=((oP.append (by rw [hxl,List.length_take,Nat.min_eq_left hle,Nat.mul_one]) (fun el ba=>adw el (List.mem_of_mem_take ba)) (FJ s)).more (l':=cur.toList.drop (n+s.size))) i j el c hi hj;exact ⟨v,by rw [<- Array.getElem?_toList];simpa using hv,bz.ev ev⟩
     refine ⟨_,_,_,rfl,aC,.own (m:=m) (by simp [cH]) (.inr ⟨b,hbk,by simp,by simpa using adS⟩),aG⟩
    .have bK:=Lib.run_append_grow_string (P:=P) w t t' ty e i0 te.zero ht pL jc j0 ⟨b,0,none⟩ n m.cap (cur.toList.take n) (by rw [hxl,hs0,tm,Nat.mul_one]) (fun j v hv=>by
      rw [addr_add,cell_of_row w b _ cur e (0,0) ni];rw [List.getElem?_take] at hv;split at hv
      .simpa using hv
      .cases hv) s (by omega) (by omega) (by rw [hb0,c6];exact growslice_fits (by omega) (by omega))
     rw [bK];exact wB _ _ hxl oP (grownCap_ge _ _ _ _) (grownCap_le_maxLen w _ _ e yb) vH
end
end Go.Av
namespace Go.Av
def kg (G:ao) (e:Env):List Operand->Option (List AV)
 | []=>some []
 | o :: l=>match bd G e o,kg G e l with
  | some x,some xs=>some (x :: xs)
  | _,_=>none
def jq (G:ao) (e:Env):List (Nat×Operand)->Option (List (Nat×AV))
 | []=>some []
 | (i,o) :: l=>match bd G e o,jq G e l with
  | some x,some xs=>some ((i,x) :: xs)
  | _,_=>none
def bl (x:AV) (b:Bool):AV:=match x with
 | .d y=>.d (.Z4 [y,.v (.bool b)])
 | x=>.Z4 [x,.d (.v (.bool b))]
theorem D5 {w:World} {X:Nat->Prop} {μ:Mu} {u:Value} {x:AV} {b:Bool} (hx:RV w X μ u x):RV w X μ (.tuple #[u,.bool b]) (bl x b):=by
 unfold bl;split
 .refine .d (.Z4 rfl fun j v c hv hc=>?_)
  match j,hv,hc with
  | 0,hv,hc=>simp at hv hc;subst hv hc;exact hx.data
  | 1,hv,hc=>simp at hv hc;subst hv hc;exact .v _
  | j+2,hv,hc=>simp at hv
 .refine .Z4 rfl fun j v c hv hc=>?_
  match j,hv,hc with
  | 0,hv,hc=>simp at hv hc;subst hv hc;exact hx
  | 1,hv,hc=>simp at hv hc;subst hv hc;exact .d (.v _)
  | j+2,hv,hc=>simp at hv
def aai (T:Ty) (asserted:TypeId) (cok:Bool) (x:AV):Ans:=match T asserted with
 | none=>none
 | some ti=>match x with
  | .d (.v .nilIface)=>if cok then some (True,bl (eV ti.zero) false) else none
  | .d (.br t y)=>if TypeDesc.isIface ti.desc then none else if t=asserted then some (True,if cok then bl (.d y) true else .d y) else if cok then some (True,bl (eV ti.zero) false) else none
  | .br t y=>if TypeDesc.isIface ti.desc then none else if t=asserted then some (True,if cok then bl y true else y) else if cok then some (True,bl (eV ti.zero) false) else none
  | _=>none
theorem Mk {P:Program} {T:Ty} (hg:Good P T) {w:World} {X:Nat->Prop} {μ:Mu} {asserted xT:TypeId} {cok:Bool} {u:Value} {x z:AV} {c:Prop} (h:aai T asserted cok x=some (c,z)) (hx:RV w X μ u x) :
  ∃ r,(Instr.typeAssert u xT asserted cok).run P w = .ok r w/\RV w X μ r z:=by
 unfold aai at h;split at h
 .cases h
 .rename_i ti ht
  have one:∀ (t:TypeId) (v:Value) (y:AV),RV w X μ v y->(if TypeDesc.isIface ti.desc then none else if t=asserted then some (True,if cok then bl y true else y) else if cok then some (True,bl (eV ti.zero) false) else none)=some (c,z)->
    ∃ r,(Instr.typeAssert (.iface t v) xT asserted cok).run P w = .ok r w/\RV w X μ r z:=by
   intro t v y hy h;by_cases ko:TypeDesc.isIface ti.desc=true
   .rw [if_pos ko] at h;cases h
   .rw [if_neg ko] at h;by_cases lX:t=asserted
    .rw [if_pos lX] at h;simp only [Option.some.injEq,Prod.mk.injEq] at h;obtain ⟨_,rfl⟩:=h;subst lX;refine ⟨if cok then .tuple #[v,.bool true] else v,?_,?_⟩
     .cases hd:ti.desc<;>first | (rw [hd] at ko;exact absurd rfl ko) | (simp [Instr.typeAssert,hg.cu ht,hd])
     .cases cok
      .exact hy
      .exact D5 hy
    .rw [if_neg lX] at h
     cases cok with
     | false=>cases h
     | true=>
      simp only [if_true,Option.some.injEq,Prod.mk.injEq] at h;obtain ⟨_,rfl⟩:=h;refine ⟨.tuple #[ti.zero,.bool false],?_,D5 (A9 _)⟩
      cases hd:ti.desc<;>first | (rw [hd] at ko;exact absurd rfl ko) | (simp [Instr.typeAssert,hg.cu ht,hd,lX,hg.zero ht])
  split at h
  .split at h
   .rename_i aY;simp only [Option.some.injEq,Prod.mk.injEq] at h;obtain ⟨_,rfl⟩:=h;have:=hx.scalar;subst this;refine ⟨.tuple #[ti.zero,.bool false],?_,D5 (A9 _)⟩;subst aY;cases hd:ti.desc<;>simp [Instr.typeAssert,hg.cu ht,hd,hg.zero ht]
   .cases h
  .rename_i t y;obtain ⟨v,rfl,hv⟩:=hx.data.nt;exact one t v (.d y) (.d hv) h
  .rename_i t y;obtain ⟨v,rfl,hv⟩:=hx.nt;exact one t v y hv h
  .cases h
def rd (T:Ty) (G:ao) (σ:St):Op->Ans
 | .move x=>(bd G σ.env x).map fun v=>(True,v)
 | .assign x=>(bd G σ.env x).map fun v=>(True,v)
 | .binOp op t x y _=>match bd G σ.env x,bd G σ.env y with
  | some a,some b=>xy T op t y a b
  | _,_=>none
 | .unOp op _ x=>(bd G σ.env x).bind (Ag op)
 | .load t x=>(bd G σ.env x).bind (j3 T σ.H t)
 | .fieldAddr t x f=>(bd G σ.env x).bind (xW T t f)
 | .field t x f=>(bd G σ.env x).bind (xV T t f)
 | .indexAddr t x i=>match bd G σ.env x,bd G σ.env i with
  | some a,some b=>lZ T σ.H t a b
  | _,_=>none
 | .index t x i=>match bd G σ.env x,bd G σ.env i with
  | some a,some b=>yV T t a b
  | _,_=>none
 | .extract x i=>(bd G σ.env x).bind (xU i)
 | .makeInterface t x=>(bd G σ.env x).bind (zk T t)
 | .makeFunc f first caps=>if first.isEmpty then (kg G σ.env caps.toList).map fun cs=>(True,wy f cs) else match f,first.toList,caps.toList with
  | .func g,[x],[]=>(bd G σ.env x).map fun v=>(True,.bm g v)
  | _,_,_=>none
 | .pick c x y=>match bd G σ.env c,bd G σ.env x,bd G σ.env y with
  | some (.d (.v (.bool b))),some a1,some a2=>some (True,if b then a1 else a2)
  | _,_,_=>none
 | .nilCheck x=>(bd G σ.env x).bind zq
 | .build t parts=>(jq G σ.env parts.toList).bind (xB T t)
 | .convert src dst x=>if (T src).isSome then (bd G σ.env x).bind (xH T dst) else none
 | .slice t x lo hi mx=>if mx.isNone then match bd G σ.env x,bound G σ.env lo,bound G σ.env hi with
   | some v,some l,some h=>mQ T σ.H t v l h
   | _,_,_=>none
  else none
 | .typeAssert x _ t b=>(bd G σ.env x).bind (aai T t b)
 | .lookup t x i b=>match bd G σ.env x,bd G σ.env i with
  | some a,some k=>ku T σ.H t b a k
  | _,_=>none
 | .call { callee:=.builtin .len,args,argTypes }=>match args.toList,argTypes.toList with
  | [x],[t]=>(bd G σ.env x).bind (zf T t)
  | _,_=>none
 | .call { callee:=.builtin .max,args,.. }=>match args.toList with
  | [x,y]=>match bd G σ.env x,bd G σ.env y with
   | some (.d (.v (.int k a))),some (.d (.v (.int k' b)))=>some (True,.d (.v (.int k (if b > a then b else a))))
   | _,_=>none
  | _=>none
 | .call { callee:=.builtin .min,args,.. }=>match args.toList with
  | [x,y]=>match bd G σ.env x,bd G σ.env y with
   | some (.d (.v (.int k a))),some (.d (.v (.int k' b)))=>some (True,.d (.v (.int k (if b < a then b else a))))
   | _,_=>none
  | _=>none
 | _=>none
def EJ (T:Ty) (G:ao) (Mv:Nat->Prop) (σ:St) (t t':TypeId) (x y:Operand):Option (Prop×AV×St):=match T t,T t' with
 | some tt,some ts=>match tt.desc,ts.desc with
  | .slice e,.string=>match T e,bd G σ.env x,bd G σ.env y with
   | some te,some (.own r off n),some (.d (.v (.string s)))=>match σ.H r with
    | some (.sl ty sz els)=>some (off=0/\Mv r/\ty=e/\sz=1/\n<=els.length/\te.size=1/\te.bytes=1/\te.zero = .int .u8 0/\n+s.size<=140737488355328,
      .own r 0 (n+s.size),⟨cF r σ.env,aJ (cG r σ.H) r (.sl e 1 (els.take n ++ lL s))⟩)
    | _=>none
   | _,_,_=>none
  | _,_=>none
 | _,_=>none
def wr (T:Ty) (G:ao) (Mv:Nat->Prop) (σ:St) (o:Oper):Option (Prop×AV×St):=match o.op,o.dst with
 | .alloc t,some d=>match T t with
  | some ti=>some (σ.H d=none,.ref d 0 0,⟨σ.env,aJ σ.H d (.box t ((gB ti.zero).map .d))⟩)
  | none=>none
 | .box t x,some d=>match (bd G σ.env x).bind fS with
  | some cs=>some (σ.H d=none,.ref d 0 0,⟨σ.env,aJ σ.H d (.box t cs)⟩)
  | none=>none
 | .store t x y,none=>match bd G σ.env x,bd G σ.env y with
  | some (.ref r e j),some v=>match σ.H r with
   | some (.box ty cells)=>if e=0 then match Aa T t cells j v with
     | some (c,pa)=>some (c,.dead,⟨σ.env,aJ σ.H r (.box ty pa)⟩)
     | none=>none
    else none
   | some (.sl ty sz els)=>match Ab T t sz els e j v with
    | some (c,kf)=>some (c,.dead,⟨σ.env,aJ σ.H r (.sl ty sz kf)⟩)
    | none=>none
   | some (.mp _ _)=>none
   | some (.it _ _)=>none
   | none=>none
  | _,_=>none
 | .makeSlice t l c,some d=>match T t with
  | some tt=>match tt.desc with
   | .slice e=>match T e,bd G σ.env l,bd G σ.env c with
    | some te,some (.d (.v (.int _ n))),some (.d (.v (.int _ m)))=>some (σ.H d=none/\0<=n/\n<=m/\te.bytes * m<=281474976710656/\m<=9223372036854775807/\0 < te.size/\(gB te.zero).length=te.size,.own d 0 n.toNat,⟨σ.env,aJ σ.H d (.sl e te.size (lz te n.toNat))⟩)
    | _,_,_=>none
   | _=>none
  | none=>none
 | .buildSlice t len parts,some d=>match T t with
  | some tt=>match tt.desc with
   | .slice e=>match T e,jq G σ.env parts.toList with
    | some te,some ps=>match o9 te.size 0 ps with
     | some els=>some (σ.H d=none/\ps.length=len/\0 < te.size/\len * te.size<=16777216,.own d 0 len,⟨σ.env,aJ σ.H d (.sl e te.size els)⟩)
     | none=>none
    | _,_=>none
   | _=>none
  | none=>none
 | .call { callee:=.builtin .append,args,argTypes },some d=>match args.toList,argTypes.toList with
  | [x,y],[t,t']=>if t=t' then match T t with
   | some tt=>match tt.desc with
    | .slice e=>match T e,bd G σ.env x,bd G σ.env y with
     | some te,some (.own r off n),some v=>match σ.H r,ji σ.H r v with
      | some (.sl ty sz els),some news=>some (off=0/\Mv r/\ty=e/\sz=te.size/\n<=els.length/\(∀ el∈news,el.length=te.size)/\(∀ el∈news,∀ c∈el,D.one c=true)/\0 < te.size/\(gB te.zero).length=te.size/\n+news.length<=9223372036854775807/\(n+news.length) * te.bytes<=140737488355328,
        .own r 0 (n+news.length),⟨cF r σ.env,aJ (cG r σ.H) r (.sl e te.size (els.take n ++ news))⟩)
      | _,_=>none
     | some te,some (.d (.sl (some false) [])),some v=>match ji σ.H d v with
      | some news=>some (σ.H d=none/\Mv d/\(∀ el∈news,el.length=te.size)/\(∀ el∈news,∀ c∈el,D.one c=true)/\0 < te.size/\(gB te.zero).length=te.size/\news.length<=9223372036854775807/\news.length * te.bytes<=140737488355328,
        .own d 0 news.length,⟨σ.env,aJ σ.H d (.sl e te.size news)⟩)
      | none=>none
     | _,_,_=>none
    | _=>none
   | none=>none
  else EJ T G Mv σ t t' x y
  | _,_=>none
 | .call { callee:=.builtin .copy,args,argTypes },some _=>match args.toList,argTypes.toList with
  | [x,y],[t,_]=>match T t with
   | some tt=>match tt.desc with
    | .slice e=>match T e,bd G σ.env x,bd G σ.env y with
     | some te,some (.own r off n),some v=>match σ.H r,w5 σ.H v with
      | some (.sl ty sz els),some news=>some (ty=e/\sz=1/\te.size=1/\off+n<=els.length/\0 < els.length/\(∀ el∈news,el.length=1)/\(∀ el∈news,∀ c∈el,D.one c=true),
        .d (.v (.int .i64 ((news.take n).length:Nat))),⟨σ.env,aJ σ.H r (.sl e 1 (k9 els news off n))⟩)
      | _,_=>none
     | some te,some (.d (.sl _ [])),some v=>match w5 σ.H v with
      | some news=>some ((∀ el∈news,el.length=te.size)/\0 < te.size/\(∀ el∈news,∀ c∈el,D.one c=true),.d (.v (.int .i64 0)),σ)
      | none=>none
     | _,_,_=>none
    | _=>none
   | none=>none
  | _,_=>none
 | .makeMap t none,some d=>some (σ.H d=none,.mp d,⟨σ.env,aJ σ.H d (.mp t [])⟩)
 | .mapUpdate t m k v,none=>match bd G σ.env m,bd G σ.env k,bd G σ.env v with
  | some (.mp r),some (.d (.v key)),some (.d x)=>match σ.H r with
   | some (.mp ty ents)=>match wW T t ents key x with
    | some (c,ab9)=>some (c,.dead,⟨σ.env,aJ σ.H r (.mp ty ab9)⟩)
    | none=>none
   | _=>none
  | _,_,_=>none
 | .insert t m k v,none=>match bd G σ.env m,bd G σ.env k,bd G σ.env v with
  | some (.mp r),some (.d (.v key)),some (.d x)=>match σ.H r with
   | some (.mp ty ents)=>match wW T t ents key x with
    | some (c,ab9)=>some (c,.dead,⟨σ.env,aJ σ.H r (.mp ty ab9)⟩)
    | none=>none
   | _=>none
  | _,_,_=>none
 | _,_=>none
def Z2 (e:Env) (dst:Option Tmp) (x:AV):Env:=match dst with
 | some d=>eF e d x
 | none=>e
section
variable {P:Program} {T:Ty} {Mv X:Nat->Prop} {G:ao} {N:Fr} {w:World} {μ:Mu} {a:Act} {σ:St}
theorem In.put (hi:In w X G μ N a σ) {u:Value} {x:AV} (hx:RV w X μ u x) {dst:Option Tmp} (hd:∀ d,dst=some d->d < N.n):In w X G μ N (a.put dst u) ⟨Z2 σ.env dst x,σ.H⟩:=by
 cases dst with
 | none=>exact hi
 | some d=>
  have ax:d < a.tmps.size:=by rw [hi.env.size];exact hd d rfl
  refine ⟨hi.aS,⟨hi.env.defers,by simp [Act.put,hi.env.size],fun i y hy=>?_⟩,hi.fV⟩;simp only [Z2,eF] at hy;split at hy
  .rename_i e;subst e;obtain rfl:=Option.some.inj hy;exact ⟨u,by simp [Act.put,ax],hx⟩
  .rename_i e;obtain ⟨v,hv,hr⟩:=hi.env.slot i y hy;exact ⟨v,by simp only [Act.put];rw [Array.getElem?_setIfInBounds_ne (Ne.symm e)];exact hv,hr⟩
theorem In.kg (hi:In w X G μ N a σ):∀ {l:List Operand} {xs:List AV},kg G σ.env l=some xs->(l.map a.eval).length=xs.length/\∀ (i:Nat) (u:Value) (x:AV),(l.map a.eval)[i]? = some u->xs[i]? = some x->RV w X μ u x:=by
 intro l
 induction l with
 | nil=>intro xs h;simp only [Go.Av.kg,Option.some.injEq] at h;subst h;exact ⟨rfl,by simp⟩
 | cons o l ih=>
  intro xs h;simp only [Go.Av.kg] at h;split at h
  .rename_i x Ll h1 h2;obtain rfl:=Option.some.inj h;obtain ⟨hl,hr⟩:=ih h2;refine ⟨by simpa using hl,fun i u y hu hy=>?_⟩
   cases i with
   | zero=>simp at hu hy;subst hu hy;exact hi.eval h1
   | succ i=>simp at hu hy;exact hr i u y (by simpa using hu) hy
  .cases h
theorem In.jq (hi:In w X G μ N a σ):∀ {l:List (Nat×Operand)} {xs:List (Nat×AV)},jq G σ.env l=some xs->(l.map fun p=>(p.1,a.eval p.2)).map (·.1)=xs.map (·.1)/\
  ∀ (i:Nat) (p:Nat×AV) (v:Nat×Value),xs[i]? = some p->(l.map fun p=>(p.1,a.eval p.2))[i]? = some v->RV w X μ v.2 p.2:=by
 intro l
 induction l with
 | nil=>intro xs h;simp only [Go.Av.jq,Option.some.injEq] at h;subst h;exact ⟨rfl,by simp⟩
 | cons o l ih=>
  intro xs h;obtain ⟨k,o⟩:=o;simp only [Go.Av.jq] at h;split at h
  .rename_i x Ll h1 h2;obtain rfl:=Option.some.inj h;obtain ⟨hl,hr⟩:=ih h2;refine ⟨by simpa using hl,fun i p v hp hv=>?_⟩
   cases i with
   | zero=>simp at hp hv;subst hp hv;exact hi.eval h1
   | succ i=>simp at hp hv;exact hr i p v hp (by simpa using hv)
  .cases h
theorem In.bound (hi:In w X G μ N a σ) {o:Option Operand} {l:Option Int} (h:bound G σ.env o=some l):(o.map a.eval=none/\l=none)\/∃ k n,o.map a.eval=some (.int k n)/\l=some n:=by
 unfold Go.Av.bound at h;split at h
 .obtain rfl:=Option.some.inj h;exact .inl ⟨rfl,rfl⟩
 .split at h
  .rename_i k n he;obtain rfl:=Option.some.inj h;exact .inr ⟨k,n,by simp [(hi.eval he).scalar],rfl⟩
  .cases h
theorem zH (hg:Good P T) (hi:In w X G μ N a σ) {o:Oper} {c:Prop} {x:AV} (h:rd T G σ o.op=some (c,x)) (hc:c):∃ v,(execOp a.eval o).run P w = .ok (.value v) w/\RV w X μ v x:=by
 have lift:∀ {s:Sem Value} ,(∃ v,s.run P w = .ok v w/\RV w X μ v x)->∃ v,(do pure (.value (<- s)):Sem Next).run P w = .ok (.value v) w/\RV w X μ v x:=by
  rintro s ⟨v,hv,hr⟩;exact ⟨v,by simp [hv],hr⟩
 obtain ⟨dst,op,type,pos,after,guard⟩:=o;dsimp only at h;unfold rd at h;split at h
 .obtain ⟨y,hy,he⟩:=Option.map_eq_some_iff.1 h;simp only [Prod.mk.injEq] at he;obtain ⟨rfl,rfl⟩:=he;exact ⟨_,rfl,hi.eval hy⟩
 .obtain ⟨y,hy,he⟩:=Option.map_eq_some_iff.1 h;simp only [Prod.mk.injEq] at he;obtain ⟨rfl,rfl⟩:=he;exact ⟨_,rfl,hi.eval hy⟩
 .split at h
  .rename_i h1 h2;exact lift (Mz hg hi h1 h2 h hc)
  .cases h
 .obtain ⟨y,hy,he⟩:=Option.bind_eq_some_iff.1 h;exact lift (Xw he hc (hi.eval hy))
 .obtain ⟨y,hy,he⟩:=Option.bind_eq_some_iff.1 h;exact lift (IC hg hi.aS he hc (hi.eval hy))
 .obtain ⟨y,hy,he⟩:=Option.bind_eq_some_iff.1 h;exact lift (Oa hg he hc (hi.eval hy))
 .obtain ⟨y,hy,he⟩:=Option.bind_eq_some_iff.1 h;exact lift (N9 hg he hc (hi.eval hy))
 .split at h
  .rename_i h1 h2;exact lift (Rm hg hi.aS h hc (hi.eval h1) (hi.eval h2))
  .cases h
 .split at h
  .rename_i h1 h2;exact lift (Rq hg h hc (hi.eval h1) (hi.eval h2))
  .cases h
 .obtain ⟨y,hy,he⟩:=Option.bind_eq_some_iff.1 h;exact lift (N7 he (hi.eval hy))
 .obtain ⟨y,hy,he⟩:=Option.bind_eq_some_iff.1 h;exact lift (SD hg he (hi.eval hy))
 .split at h
  .rename_i f first caps hf;obtain ⟨y,hy,he⟩:=Option.map_eq_some_iff.1 h;simp only [Prod.mk.injEq] at he;obtain ⟨rfl,rfl⟩:=he;obtain ⟨hl,hr⟩:=hi.kg hy
   have Ck:first = #[]:=by simpa using hf
   subst Ck;refine ⟨.func f #[] (caps.map a.eval),by simp [execOp,Instr.makeFunc],DK (by simpa using hl) fun j u c hu hc=>hr j u c (by simpa using hu) hc⟩
  .split at h
   .rename_i x Cm fi;obtain ⟨y,hy,he⟩:=Option.map_eq_some_iff.1 h;simp only [Prod.mk.injEq] at he;obtain ⟨rfl,rfl⟩:=he;obtain rfl:=Array.toList_inj.1 (show _=(#[x]:Array Operand).toList from Cm);obtain rfl:=Array.toList_inj.1 (show _=(#[]:Array Operand).toList from fi);exact ⟨_,by simp [execOp,Instr.makeFunc],.bm (hi.eval hy)⟩
   .cases h
 .split at h
  .rename_i b a1 a2 h0 h1 h2;simp only [Option.some.injEq,Prod.mk.injEq] at h;obtain ⟨rfl,rfl⟩:=h;have hb:=(hi.eval h0).scalar;refine ⟨if b then a.eval _ else a.eval _,by simp [execOp,hb,asBool];cases b<;>rfl,?_⟩;cases b
   .exact hi.eval h2
   .exact hi.eval h1
  .cases h
 .obtain ⟨y,hy,he⟩:=Option.bind_eq_some_iff.1 h;obtain ⟨⟨ad,G2⟩,hr⟩:=UB he (hi.eval hy);exact ⟨.pointer (some ad),by simp [execOp,G2],by rw [<- G2];exact hr⟩
 .rename_i t parts;obtain ⟨ps,hps,he⟩:=Option.bind_eq_some_iff.1 h;obtain ⟨h1,h2⟩:=hi.jq hps;refine lift (ML (vs:=parts.map fun p=>(p.1,a.eval p.2)) hg he (by simpa using h1) fun i p v hp hv=>h2 i p v hp ?_);rw [<- Array.getElem?_toList] at hv;simpa using hv
 .split at h
  .rename_i hs;obtain ⟨y,hy,he⟩:=Option.bind_eq_some_iff.1 h;exact lift (Nc hg hs he hc (hi.eval hy))
  .cases h
 .split at h
  .rename_i mx eX;split at h
   .rename_i v l hh h1 h2 h3
    cases mx with
    | some _=>simp at eX
    | none=>exact lift (WE hg hi.aS h hc (hi.eval h1) (hi.bound h2) (hi.bound h3))
   .cases h
  .cases h
 .obtain ⟨y,hy,he⟩:=Option.bind_eq_some_iff.1 h;exact lift (Mk hg he (hi.eval hy))
 .split at h
  .rename_i h1 h2;exact lift (Sv hg hi.aS h hc (hi.eval h1) (hi.eval h2))
  .cases h
 .split at h
  .rename_i args argTypes _ _ x0 t ha ht;obtain ⟨y,hy,he⟩:=Option.bind_eq_some_iff.1 h;obtain ⟨r,hr,e9⟩:=Sl (ty:=type) hg he (hi.eval hy);have e1:args = #[x0]:=Array.toList_inj.1 ha;have e2:argTypes = #[t]:=Array.toList_inj.1 ht;subst e1 e2;exact ⟨r,by simp [execOp,resolve,invoke,builtin,hr],e9⟩
  .cases h
 .split at h
  .rename_i args _ _ x0 y0 ha;split at h
   .rename_i k a0 k' b0 h1 h2;simp only [Option.some.injEq,Prod.mk.injEq] at h;obtain ⟨rfl,rfl⟩:=h;have e1:=(hi.eval h1).scalar;have e2:=(hi.eval h2).scalar;have e0:args = #[x0,y0]:=Array.toList_inj.1 ha;subst e0;exact ⟨_,by simp [execOp,resolve,invoke,builtin,Builtin.max_,Builtin.max2,e1,e2],.d (.v _)⟩
   .cases h
  .cases h
 .split at h
  .rename_i args _ _ x0 y0 ha;split at h
   .rename_i k a0 k' b0 h1 h2;simp only [Option.some.injEq,Prod.mk.injEq] at h;obtain ⟨rfl,rfl⟩:=h;have e1:=(hi.eval h1).scalar;have e2:=(hi.eval h2).scalar;have e0:args = #[x0,y0]:=Array.toList_inj.1 ha;subst e0;exact ⟨_,by simp [execOp,resolve,invoke,builtin,Builtin.min_,Builtin.min2,e1,e2],.d (.v _)⟩
   .cases h
  .cases h
 .cases h
theorem RV.aeM {u:Value} {x:AV} {r:Nat} (h:RV w X μ u x) (hr:μ r=none):x.kill r=x:=by
 have aX:∀ (l:List AV),(∀ c∈l,c.kill r=c)->l.map (AV.kill r)=l:=by
  intro l hl
  induction l with
  | nil=>rfl
  | cons c l ih=>simp only [List.map_cons];rw [hl c (by simp),ih fun c hc=>hl c (by simp [hc])]
 have arr:∀ (arr:Array Value) (cells:List AV),arr.size=cells.length->(∀ (j:Nat) (u:Value) (c:AV),arr[j]? = some u->cells[j]? = some c->c.kill r=c)->cells.map (AV.kill r)=cells:=by
  intro arr cells hn hh;refine aX cells fun c hc=>?_;obtain ⟨j,hj,rfl⟩:=List.mem_iff_getElem.1 hc;exact hh j arr[j] _ (by simp [hn,hj]) (by simp [hj])
 induction h with
 | d h=>rfl
 | own hm _=>
  rename_i u q off n m;unfold AV.kill;rw [if_neg];intro e;subst e;rw [hr] at hm;cases hm
 | ref hm _=>
  rename_i q e j b m;unfold AV.kill;rw [if_neg];intro e;subst e;rw [hr] at hm;cases hm
 | agg hn _ ih=>rw [AV.kill,AV.go_eq,arr _ _ hn ih]
 | Z4 hn _ ih=>rw [AV.kill,AV.go_eq,arr _ _ hn ih]
 | br _ ih=>rw [AV.kill,ih]
 | bm _ ih=>rw [AV.kill,ih]
 | fn hn _ ih=>rw [AV.kill,AV.go_eq,arr _ _ hn ih]
 | mp hm _=>
  rename_i q b m;unfold AV.kill;rw [if_neg];intro e;subst e;rw [hr] at hm;cases hm
 | dead u=>rfl
theorem In.aeM (hi:In w X G μ N a σ) {r:Nat} (hr:σ.H r=none):cF r σ.env=σ.env/\cG r σ.H=σ.H:=by
 have hn:=hi.aS.rO hr;constructor
 .funext i;unfold cF
  cases he:σ.env i with
  | none=>rfl
  | some x=>
   obtain ⟨u,_,hx⟩:=hi.env.slot i x he;simp [hx.aeM hn]
 .funext q;unfold cG
  cases hq:σ.H q with
  | none=>rfl
  | some row=>
   obtain ⟨m,hm,ok⟩:=hi.aS.rows q row hq
   cases ok with
   | nil=>rfl
   | sl=>rfl
   | mp=>rfl
   | it=>rfl
   | box hb aI hc hh hn' hrr hx9=>
    rename_i ty b cells cur
    have:cells.map (AV.kill r)=cells:=by
     have:=(RV.agg (w:=w) (X:=X) (μ:=μ) (arr:=(cur.toList.take cells.length).toArray) (cells:=cells) (by simp;omega) fun j u c hu hc=>hrr j u c (by
      have hu':(cur.toList.take cells.length)[j]? = some u:=by simpa using hu
      rw [List.getElem?_take] at hu';split at hu'
      .simpa using hu'
      .cases hu') hc).aeM hn
     rw [AV.kill,AV.go_eq] at this;exact AV.agg.inj this
    simp [Row.kill,this]
theorem X2 (hg:Good P T) (hi:In w X G μ N a σ) {o:Oper} {c:Prop} {x:AV} {aH:St} (h:wr T G Mv σ o=some (c,x,aH)) (hc:c) (hd:∀ d,o.dst=some d->d < N.n) :
  ∃ n v w' au,(execOp a.eval o).run P w = .ok n w'/\(n = .value v\/(n = .skip/\v=undef))/\In w' X G au N a aH/\RV w' X au v x/\Ev Mv w μ w' au:=by
 have lift:∀ {s:Sem Value} {x:AV} {aH:St},ka Mv X G N w μ a (s.run P w) x aH->∃ n v w' au,(do pure (.value (<- s)):Sem Next).run P w = .ok n w'/\(n = .value v\/(n = .skip/\v=undef))/\In w' X G au N a aH/\RV w' X au v x/\Ev Mv w μ w' au:=by
  rintro s x aH ⟨v,w',au,hr,rest⟩;exact ⟨.value v,v,w',au,by simp [hr],.inl rfl,rest⟩
 obtain ⟨dst,op,type,pos,after,guard⟩:=o;dsimp only at h hd;unfold wr at h;dsimp only at h;split at h
 .split at h
  .rename_i ti ht;simp only [Option.some.injEq,Prod.mk.injEq] at h;obtain ⟨rfl,rfl,rfl⟩:=h;exact lift (LO hg hi hc ht)
  .cases h
 .split at h
  .rename_i cs bW;obtain ⟨y,hy,he⟩:=Option.bind_eq_some_iff.1 bW;simp only [Option.some.injEq,Prod.mk.injEq] at h;obtain ⟨rfl,rfl,rfl⟩:=h;exact lift (afu hi hc (hi.eval hy) he)
  .cases h
 .split at h
  .rename_i r e j v h1 h2;split at h
   .rename_i ty cells hH;split at h
    .rename_i he;subst he;split at h
     .rename_i c' pa hs;simp only [Option.some.injEq,Prod.mk.injEq] at h;obtain ⟨rfl,rfl,rfl⟩:=h;obtain ⟨w',hr,aC,aG⟩:=WT (Mv:=Mv) hg hi hH hs hc (hi.eval h1) (hi.eval h2);exact ⟨.skip,undef,w',μ,by simp [execOp,hr],.inr ⟨rfl,rfl⟩,aC,.dead _,aG⟩
     .cases h
    .cases h
   .rename_i ty sz els hH;split at h
    .rename_i c' kf hs;simp only [Option.some.injEq,Prod.mk.injEq] at h;obtain ⟨rfl,rfl,rfl⟩:=h;obtain ⟨w',hr,aC,aG⟩:=WU (Mv:=Mv) hg hi hH hs hc (hi.eval h1) (hi.eval h2);exact ⟨.skip,undef,w',μ,by simp [execOp,hr],.inr ⟨rfl,rfl⟩,aC,.dead _,aG⟩
    .cases h
   .cases h
   .cases h
   .cases h
  .cases h
 .split at h
  .rename_i tt htt;split at h
   .rename_i e cE;split at h
    .rename_i te kn n km m b9 h1 h2;simp only [Option.some.injEq,Prod.mk.injEq] at h;obtain ⟨rfl,rfl,rfl⟩:=h;obtain ⟨g1,g2,g3,g4,g5,g6,g7⟩:=hc;have:=SC (Mv:=Mv) hg hi g1 htt cE b9 (k1:=kn) (k2:=km) g2 g3 g4 g5 g6 g7;rw [<- (hi.eval h1).scalar,<- (hi.eval h2).scalar] at this;exact lift this
    .cases h
   .cases h
  .cases h
 .split at h
  .rename_i tt htt;split at h
   .rename_i e cE;split at h
    .rename_i te ps b9 hps;split at h
     .rename_i els qU;simp only [Option.some.injEq,Prod.mk.injEq] at h;obtain ⟨rfl,rfl,rfl⟩:=h;obtain ⟨g1,g2,g3,g4⟩:=hc;obtain ⟨hv,hr⟩:=hi.jq hps;exact lift (MM (Mv:=Mv) hg hi g1 htt cE b9 qU g2 (by simpa using hv) (fun i p v h1 h2=>hr i p v h1 (by simpa using h2)) g3 g4)
     .cases h
    .cases h
   .cases h
  .cases h
 .split at h
  .rename_i args argTypes d _ _ x0 y0 t t' ha ht;have e1:args = #[x0,y0]:=Array.toList_inj.1 ha;have e2:argTypes = #[t,t']:=Array.toList_inj.1 ht;subst e1 e2;split at h
   .rename_i afH;subst afH
    have run_eq:∀ {x:AV} {aH:St},ka Mv X G N w μ a ((Builtin.append_ #[t,t] type #[a.eval x0,a.eval y0]).run P w) x aH->∃ n v w' au,(execOp a.eval { dst:=some d,op:=.call { callee:=.builtin .append,args:=⟨[x0,y0]⟩,argTypes:=⟨[t,t]⟩ },type:=type,pos:=pos,after:=after,guard:=guard }).run P w = .ok n w'/\(n = .value v\/(n = .skip/\v=undef))/\In w' X G au N a aH/\RV w' X au v x/\Ev Mv w μ w' au:=by
     rintro x aH ⟨v,w',au,hr,rest⟩;exact ⟨.value v,v,w',au,by simp [execOp,resolve,invoke,builtin,hr],.inl rfl,rest⟩
    split at h
    .rename_i tt htt;split at h
     .rename_i e cE;split at h
      .rename_i te r off n v b9 h1 h2;split at h
       .rename_i ty sz els news hH hn;simp only [Option.some.injEq,Prod.mk.injEq] at h;obtain ⟨rfl,rfl,rfl⟩:=h;obtain ⟨rfl,g1,rfl,rfl,g2,g3,g4,g5,g6,g7,g8⟩:=hc;exact run_eq (Fv (Mv:=Mv) hg hi g1 htt cE b9 hH g2 (hi.eval h1) (zn hi.aS (hi.eval h2) hn g3 g5 g4) g5 g6 (by unfold maxLen;omega) g8)
       .cases h
      .rename_i te v b9 h1 h2;split at h
       .rename_i news hn;simp only [Option.some.injEq,Prod.mk.injEq] at h;obtain ⟨rfl,rfl,rfl⟩:=h;obtain ⟨g0,g1,g3,g4,g5,g6,g7,g8⟩:=hc;obtain ⟨aC,aG⟩:=hi.alloc (Mv:=Mv) g0 (bU.refl w) (m:=⟨none,te.size,0⟩) (by simp) (row:=.sl e te.size []) fun _=>.nil rfl rfl
        have hu:RV w X (cH μ d ⟨none,te.size,0⟩) (a.eval x0) (.own d 0 0):=by
         have:=(hi.eval h1).data.l8
         rcases this with ⟨hh,_⟩ | ⟨ad,cap,hh,hk,_⟩
         .rw [hh];exact .own (m:=⟨none,te.size,0⟩) (by simp [cH]) (.inl ⟨rfl,rfl,rfl,rfl⟩)
         .exact absurd rfl hk
        have hn':ji (aJ σ.H d (.sl e te.size [])) d v=some news:=by
         unfold ji at hn ⊢
         split at hn<;>first | exact hn | skip
         rename_i q off n;split at hn
         .cases hn
         .rename_i hq;rw [if_neg hq];simpa [aJ,hq] using hn
        have hv2:RV w X (cH μ d ⟨none,te.size,0⟩) (a.eval y0) v:=by
         refine (hi.eval h2).same aG fun q m hq=>?_;unfold cH;split
         .rename_i e';subst e';rw [hi.aS.rO g0] at hq;cases hq
         .exact hq
        have vm:=Fv (Mv:=Mv) (ty:=type) hg aC g1 htt cE b9 (r:=d) (n:=0) (els:=[]) (news:=news) (by simp [aJ]) (by simp) hu (zn aC.aS hv2 hn' g3 g5 g4) g5 g6 (by unfold maxLen;omega) (by simpa using g8);obtain ⟨v',w',au,hr,adQ,e9,iz⟩:=vm;refine run_eq ⟨v',w',au,hr,?_,by simpa using e9,aG.trans iz⟩;obtain ⟨k1,k2⟩:=hi.aeM g0
        have e1:cG d (aJ σ.H d (.sl e te.size []))=aJ σ.H d (.sl e te.size []):=by
         funext q;by_cases hq:q=d
         .simp [cG,aJ,hq,Row.kill]
         .have:=congrFun k2 q;simpa [cG,aJ,hq] using this
        have e2:aJ (aJ σ.H d (.sl e te.size [])) d (.sl e te.size ([].take 0 ++ news))=aJ σ.H d (.sl e te.size news):=by
         funext q;by_cases hq:q=d<;>simp [aJ,hq]
        dsimp only at adQ;rw [k1,e1,e2] at adQ;exact adQ
       .cases h
      .cases h
     .cases h
    .cases h
   .unfold EJ at h;split at h
    .rename_i tt ts htt hts;split at h
     .rename_i e cE iZ;split at h
      .rename_i te r off n s b9 h1 h2;split at h
       .rename_i ty sz els hH;simp only [Option.some.injEq,Prod.mk.injEq] at h;obtain ⟨rfl,rfl,rfl⟩:=h;obtain ⟨rfl,g1,rfl,rfl,g2,g3,g4,g5,g6⟩:=hc;have hv:a.eval y0 = .string s:=(hi.eval h2).scalar;obtain ⟨v,w',au,hr,rest⟩:=Mb (Mv:=Mv) (ty:=type) hg hi g1 htt cE hts iZ b9 hH g2 (hi.eval h1) g3 g4 g5 g6;exact ⟨.value v,v,w',au,by simp [execOp,resolve,invoke,builtin,hv,hr],.inl rfl,rest⟩
       .cases h
      .cases h
     .cases h
    .cases h
  .cases h
 .split at h
  .rename_i args argTypes d _ _ x0 y0 t t' ha ht;have e1:args = #[x0,y0]:=Array.toList_inj.1 ha;have e2:argTypes = #[t,t']:=Array.toList_inj.1 ht;subst e1 e2;split at h
   .rename_i tt htt;split at h
    .rename_i e cE;split at h
     .rename_i te r off n v b9 h1 h2;split at h
      .rename_i ty sz els news hH hn;simp only [Option.some.injEq,Prod.mk.injEq] at h;obtain ⟨rfl,rfl,rfl⟩:=h;obtain ⟨rfl,rfl,g1,g2,g3,g4,g5⟩:=hc;obtain ⟨v,w',au,hr,rest⟩:=Nd (Mv:=Mv) (ty:=type) (t':=t') hg hi htt cE b9 g1 hH g2 g3 (hi.eval h1) (KH hi.aS (hi.eval h2) hn g4 (by omega) g5);exact ⟨.value v,v,w',au,by simp [execOp,resolve,invoke,builtin,hr],.inl rfl,rest⟩
      .cases h
     .rename_i te kq v b9 h1 h2;split at h
      .rename_i news hn;simp only [Option.some.injEq,Prod.mk.injEq] at h;obtain ⟨rfl,rfl,rfl⟩:=h;obtain ⟨g4,g5,g6⟩:=hc;obtain ⟨v,w',au,hr,rest⟩:=Nf (Mv:=Mv) (ty:=type) (t':=t') hg hi htt cE b9 (hi.eval h1) (KH hi.aS (hi.eval h2) hn g4 g5 g6);exact ⟨.value v,v,w',au,by simp [execOp,resolve,invoke,builtin,hr],.inl rfl,rest⟩
      .cases h
     .cases h
    .cases h
   .cases h
  .cases h
 .simp only [Option.some.injEq,Prod.mk.injEq] at h;obtain ⟨rfl,rfl,rfl⟩:=h;exact lift (SE hi hc _)
 .split at h
  .rename_i r key x h1 h2 h3;split at h
   .rename_i ty ents hH;split at h
    .rename_i c' ab9 hp;simp only [Option.some.injEq,Prod.mk.injEq] at h;obtain ⟨rfl,rfl,rfl⟩:=h;obtain ⟨w',hr,aC,aG⟩:=II (Mv:=Mv) hg hi hH hp hc (hi.eval h1) (hi.eval h2) (hi.eval h3);exact ⟨.skip,undef,w',μ,by simp [execOp,hr],.inr ⟨rfl,rfl⟩,aC,.dead _,aG⟩
    .cases h
   .cases h
  .cases h
 .split at h
  .rename_i r key x h1 h2 h3;split at h
   .rename_i ty ents hH;split at h
    .rename_i c' ab9 hp;simp only [Option.some.injEq,Prod.mk.injEq] at h;obtain ⟨rfl,rfl,rfl⟩:=h;obtain ⟨w',hr,aC,aG⟩:=II (Mv:=Mv) hg hi hH hp hc (hi.eval h1) (hi.eval h2) (hi.eval h3);exact ⟨.skip,undef,w',μ,by simp [execOp,hr],.inr ⟨rfl,rfl⟩,aC,.dead _,aG⟩
    .cases h
   .cases h
  .cases h
 .cases h
end
end Go.Av
namespace Go.Av
def eU (P:Program) (g:FuncId):Prop:=∀ (args:Array Value) (w:World),(callFunc g args).run P w = .ok (.enter g args) w
theorem eU.of {P:Program} {g:FuncId} {fn:Func} {c:Code} (h:P.funcs[g]? = some fn) (hb:fn.body=some c) (hn:(fn.name == "runtime.NumGoroutine")=false):eU P g:=by
 intro args w;simp only [callFunc,Sem.run_bind,run_program,Result.andThen_ok,h,hn,Bool.false_eq_true,if_false];simp [hb]
def cu:AV:=.d (.v undef)
def x5 (ops:Array Oper) (e:Env) (j:Nat):Option (Option Bool):=match (ops[j]?).bind (·.dst) with
 | some d=>match e d with
  | some (.d (.v (.bool b)))=>some (some b)
  | some (.d (.v (.tuple _)))=>some none
  | _=>none
 | none=>none
def fA (ops:Array Oper) (e:Env) (o:Oper):Option Bool:=match o.guard with
 | none=>some true
 | some (j,want)=>(x5 ops e j).map (· == some want)
def tgt (G:ao) (e:Env) (c:Call):Option (FuncId×List AV):=match c.callee with
 | .value f=>match bd G e f,kg G e c.args.toList with
  | some (.d (.fn (.func g) caps)),some xs=>some (g,xs ++ caps.map .d)
  | some (.fn (.func g) caps),some xs=>some (g,xs ++ caps)
  | some (.bm g x),some xs=>some (g,x :: xs)
  | _,_=>none
 | _=>none
def ab2 (P:Program) (Mv X:Nat->Prop) (G:ao) (N:Fr) (g:FuncId) (xs:List AV) (σ:St) (K:AV->St->Prop):Prop:=
 eU P g/\∀ w μ a (vs:Array Value),In w X G μ N a σ->vs.size=xs.length->(∀ (i:Nat) (u:Value) (x:AV),vs[i]? = some u->xs[i]? = some x->RV w X μ u x)->
  Calls P g vs w fun e w'=>∃ v x ar au,e = .returned v/\K x ar/\In w' X G au N a ar/\RV w' X au v x/\Ev Mv w μ w' au
theorem ab2.mono {P:Program} {Mv X:Nat->Prop} {G:ao} {N:Fr} {g:FuncId} {xs:List AV} {σ:St} {K K':AV->St->Prop} (h:ab2 P Mv X G N g xs σ K) (hk:∀ x ar,K x ar->K' x ar):ab2 P Mv X G N g xs σ K':=
 ⟨h.1,fun w μ a vs hi hn hv=>(h.2 w μ a vs hi hn hv).mono fun _ _ ⟨v,x,ar,au,he,k,rest⟩=>⟨v,x,ar,au,he,hk _ _ k,rest⟩⟩
def aaU:Op->Bool
 | .alloc _=>true
 | .box _ _=>true
 | .store _ _ _=>true
 | .makeSlice _ _ _=>true
 | .buildSlice _ _ _=>true
 | .makeMap _ _=>true
 | .mapUpdate _ _ _ _=>true
 | .insert _ _ _ _=>true
 | .call { callee:=.builtin .append,.. }=>true
 | .call { callee:=.builtin .copy,.. }=>true
 | _=>false
def cr:Op->Option Call
 | .call { callee:=.value f,args,argTypes }=>some { callee:=.value f,args,argTypes }
 | _=>none
def lC (T:Ty) (G:ao) (Mv:Nat->Prop) (o:Oper) (σ:St) (K:St->Prop):Prop:=
 if aaU o.op then match wr T G Mv σ o with
  | some (c,x,ar)=>c/\K ⟨Z2 ar.env o.dst x,ar.H⟩
  | none=>False
 else match rd T G σ o.op with
  | some (c,x)=>c/\K ⟨Z2 σ.env o.dst x,σ.H⟩
  | none=>False
def jr (P:Program) (T:Ty) (Mv X:Nat->Prop) (G:ao) (N:Fr) (o:Oper) (σ:St) (K:St->Prop):Prop:=match cr o.op with
 | some c=>match tgt G σ.env c with
  | some (g,xs)=>ab2 P Mv X G N g xs σ fun x ar=>K ⟨Z2 ar.env o.dst x,ar.H⟩
  | none=>False
 | none=>lC T G Mv o σ K
def eQ (N:Fr) (o:Oper):Prop:=match o.dst with
 | some d=>d < N.n
 | none=>True
section
variable {P:Program} {T:Ty} {Mv X:Nat->Prop} {G:ao} {N:Fr} {w:World} {μ:Mu} {a:Act} {σ:St}
theorem r5 (hi:In w X G μ N a σ) {ops:Array Oper} {o:Oper} {b:Bool} (h:fA ops σ.env o=some b):Region.wanted o (yielded ops a.tmps)=b:=by
 unfold fA at h;unfold Region.wanted;split at h
 .rename_i hg;obtain rfl:=Option.some.inj h;simp [hg]
 .rename_i j want hg;obtain ⟨b',hb,rfl⟩:=Option.map_eq_some_iff.1 h;simp only [hg];unfold x5 at hb;split at hb
  .rename_i d hd;split at hb
   .rename_i b2 he;obtain rfl:=Option.some.inj hb;obtain ⟨u,hu,hr⟩:=hi.env.slot d _ he;obtain rfl:=hr.scalar;simp [yielded,hd,hu]
   .rename_i he;obtain rfl:=Option.some.inj hb;obtain ⟨u,hu,hr⟩:=hi.env.slot d _ he;obtain rfl:=hr.scalar;simp [yielded,hd,hu]
   .cases hb
  .cases hb
theorem Xl (hi:In w X G μ N a σ) {o:Oper} {c:Call} {g:FuncId} {xs:List AV} (ho:o.op = .call c) (h:tgt G σ.env c=some (g,xs)) :
  ∃ vs:Array Value,(execOp a.eval o).run P w=(callFunc g vs).run P w/\vs.size=xs.length/\∀ (i:Nat) (u:Value) (x:AV),vs[i]? = some u->xs[i]? = some x->RV w X μ u x:=by
 unfold tgt at h;split at h
 .rename_i f hf
  have key:∀ (caps:List AV) (arr:Array Value) (ys:List AV),a.eval f = .func (.func g) #[] arr->arr.size=caps.length->(∀ (j:Nat) (u:Value) (c:AV),arr[j]? = some u->caps[j]? = some c->RV w X μ u c)->kg G σ.env c.args.toList=some ys->xs=ys ++ caps->
    ∃ vs:Array Value,(execOp a.eval o).run P w=(callFunc g vs).run P w/\vs.size=xs.length/\∀ (i:Nat) (u:Value) (x:AV),vs[i]? = some u->xs[i]? = some x->RV w X μ u x:=by
   intro caps arr ys qX hn hr hy hx;obtain ⟨hl,hv⟩:=hi.kg hy;refine ⟨c.args.map a.eval ++ arr,?_,?_,fun i u x hu lu=>?_⟩
   .simp [execOp,ho,resolve,hf,qX,Deferred.ofValue,invoke]
   .simp only [List.length_map,Array.length_toList] at hl;subst hx;simp [hl,hn]
   .subst hx
    have ek:(c.args.map a.eval).size=ys.length:=by simpa using hl
    rw [Array.getElem?_append] at hu;rw [List.getElem?_append] at lu;split at hu
    .rename_i h1;rw [if_pos (by omega)] at lu;exact hv i u x (by rw [<- Array.toList_map,Array.getElem?_toList];exact hu) lu
    .rename_i h1;rw [if_neg (by omega)] at lu;rw [ek] at hu;exact hr _ u x hu lu
  split at h
  .rename_i g' caps ys he hy;simp only [Option.some.injEq,Prod.mk.injEq] at h;obtain ⟨rfl,rfl⟩:=h;obtain ⟨arr,qX,hn,hr⟩:=(hi.eval he).data.sE;exact key (caps.map .d) arr ys qX (by simpa using hn) (RV.tH hr) hy rfl
  .rename_i g' caps ys he hy;simp only [Option.some.injEq,Prod.mk.injEq] at h;obtain ⟨rfl,rfl⟩:=h;obtain ⟨arr,qX,hn,hr⟩:=(hi.eval he).sE;exact key caps arr ys qX hn hr hy rfl
  .rename_i g' y ys he hy;simp only [Option.some.injEq,Prod.mk.injEq] at h;obtain ⟨rfl,rfl⟩:=h;obtain ⟨v,qX,hr⟩:=(hi.eval he).MF;obtain ⟨hl,hv⟩:=hi.kg hy;refine ⟨#[v] ++ c.args.map a.eval,?_,?_,fun i u x hu lu=>?_⟩
   .simp [execOp,ho,resolve,hf,qX,Deferred.ofValue,invoke]
   .simp only [List.length_map,Array.length_toList] at hl;simp [hl];omega
   .cases i with
    | zero=>
     rw [Array.getElem?_append_left (by simp)] at hu;simp at hu lu;subst hu lu;exact hr
    | succ i=>
     rw [List.getElem?_cons_succ] at lu;rw [Array.getElem?_append_right (by simp)] at hu;simp only [List.size_toArray,List.length_cons,List.length_nil,Nat.zero_add,Nat.add_sub_cancel] at hu;exact hv i u x (by rw [<- Array.toList_map,Array.getElem?_toList];exact hu) lu
  .cases h
 .cases h
theorem xS (hg:Good P T) (hi:In w X G μ N a σ) {o:Oper} {K:St->Prop} (hd:∀ d,o.dst=some d->d < N.n) (h:jr P T Mv X G N o σ K) {Q:Exit->Act->World->Prop} {next:Act->World->Prop}
  (hk:∀ w' au a' ar,K ar->In w' X G au N a' ar->Ev Mv w μ w' au->next a' w'):o.wpIn (wd N.ro) 0 P a w next Q:=by
 refine uj (fun c e=>by simp [jr,e,cr,lC,aaU,rd] at h) ?_;unfold jr at h;split at h
 .rename_i c hc
  have ho:o.op = .call c:=by
   unfold cr at hc;split at hc
   .rename_i gW;rw [gW];obtain rfl:=Option.some.inj hc;rfl
   .cases hc
  split at h
  .rename_i g xs ht;obtain ⟨vs,hr,hn,hv⟩:=Xl (P:=P) hi ho ht;obtain ⟨P0,dA⟩:=h;unfold Oper.wp;rw [hr,P0 vs w];refine (dA w μ a vs hi hn hv).mono fun e w' ⟨v,x,ar,au,he,k,aC,e9,aG⟩=>?_;subst he;exact hk _ au _ _ k (aC.put e9 hd) aG
  .exact h.elim
 .unfold lC at h;split at h
  .split at h
   .rename_i c x ar hw;obtain ⟨hc,k⟩:=h;obtain ⟨n,v,w',au,hr,hn,aC,e9,aG⟩:=X2 (Mv:=Mv) hg hi hw hc hd;unfold Oper.wp;rw [hr]
    rcases hn with rfl | ⟨rfl,rfl⟩
    .exact hk _ au _ _ k (aC.put e9 hd) aG
    .exact hk _ au _ _ k (aC.put e9 hd) aG
   .exact h.elim
  .split at h
   .rename_i c x hw;obtain ⟨hc,k⟩:=h;obtain ⟨v,hr,e9⟩:=zH hg hi hw hc;unfold Oper.wp;rw [hr];exact hk _ μ _ _ k (hi.put e9 hd) (.refl _ w μ)
   .exact h.elim
def aw (P:Program) (G:ao) (g:FuncId) (ds:List D) (y:D):Prop:=
 eU P g/\∀ X,qg P (fun _=>True) X G g (ds.map .d) eA fun x H'=>x = .d y/\H'=eA
theorem cK.none {X':Nat->Prop} (h:∀ b,X' b->b < w.heap.size):cK w X' (fun _=>.none) eA:=
 ⟨by simp [eA],by simp,by simp,by simp,h⟩
theorem RD.sub {X X':Nat->Prop} (h:∀ b,X' b->X b) {u:Value} {x:D} (hr:RD w X u x):RD w X' u x:=hr.mono (Nat.le_refl _) fun b _ hb=>⟨rfl,fun e=>hb (h b e)⟩
theorem kD {X:Nat->Prop} {b:Nat}:XX X (fun _=>none) b↔X b:=⟨fun h=>h.elim id (fun ⟨_,_,h,_⟩=>(by cases h)),.inl⟩
theorem Ev.jR {Mv:Nat->Prop} {w w':World} {au:Mu} (h:Ev Mv w (fun _=>none) w' au):bU w w':=⟨h.size,h.os,h.tape,h.output,fun b hb=>(h.same b hb fun ⟨_,_,h,_⟩=>by cases h).1⟩
theorem ab2.pure {g:FuncId} {ds:List D} {y:D} (hc:aw P G g ds y) {K:AV->St->Prop} (h:K (.d y) σ):ab2 P Mv X G N g (ds.map .d) σ K:=by
 refine ⟨hc.1,fun w μ a vs hi hn hv=>?_⟩;refine (hc.2 (XX X μ) w (fun _=>none) vs (cK.none fun b hb=>hb.elim (hi.aS.fits b) hi.aS.iS) (fun g x hx=>(hi.fV g x hx).sub fun b=>kD.1) hn fun i u x hu hx=>?_).mono ?_
 .rw [List.getElem?_map] at hx;obtain ⟨d,hd,rfl⟩:=Option.map_eq_some_iff.1 hx;exact .d ((hv i u (.d d) hu (by rw [List.getElem?_map,hd];rfl)).data.sub fun b=>kD.1)
 .rintro e w' ⟨v,x,H',au,rfl,⟨rfl,rfl⟩,hr,hs,aG⟩;have hg:=aG.jR;obtain ⟨aC,Cj⟩:=hi.jR (Mv:=Mv) hg;refine ⟨v,.d y,σ,μ,rfl,h,aC,.d (hr.data.sub fun b hb=>.inl hb),Cj⟩
def ab1 (f:AV->Option D):List AV->Option (List D)
 | []=>some []
 | x :: l=>match f x,ab1 f l with
  | some y,some ys=>some (y :: ys)
  | _,_=>none
def jM:List (Value×D)->Option (List (Value×Value))
 | []=>some []
 | (k,.v x) :: l=>(jM l).map fun r=>(k,x) :: r
 | _ :: _=>none
theorem Fu:∀ {l:List (Value×D)} {r:List (Value×Value)},jM l=some r->l.length=r.length/\∀ (i:Nat) (p:Value×Value),r[i]? = some p->l[i]? = some (p.1,.v p.2)
 | [],r,h=>by simp only [jM,Option.some.injEq] at h;subst h;exact ⟨rfl,by simp⟩
 | (k,.v x) :: l,r,h=>by
  simp only [jM] at h;obtain ⟨r',h1,rfl⟩:=Option.map_eq_some_iff.1 h;obtain ⟨h2,h3⟩:=Fu h1;refine ⟨by simp [h2],fun i p hp=>?_⟩
  cases i with
  | zero=>simp at hp;subst hp;rfl
  | succ i=>exact h3 i p (by simpa using hp)
 | (k,.sl _ _) :: l,r,h=>by simp [jM] at h
 | (k,.ip _) :: l,r,h=>by simp [jM] at h
 | (k,.agg _) :: l,r,h=>by simp [jM] at h
 | (k,.Z4 _) :: l,r,h=>by simp [jM] at h
 | (k,.br _ _) :: l,r,h=>by simp [jM] at h
 | (k,.fn _ _) :: l,r,h=>by simp [jM] at h
 | (k,.tab _) :: l,r,h=>by simp [jM] at h
 | (k,.dm _ _) :: l,r,h=>by simp [jM] at h
def dM (H:Heap):Nat->AV->Option D
 | _,.d x=>some x
 | 0,_=>none
 | _+1,.own r off n=>match H r with
  | some (.sl _ _ els)=>if off+n<=els.length then some (.sl none ((els.drop off).take n)) else none
  | _=>none
 | k+1,.ref r e j=>match H r with
  | some (.box _ cells)=>if e=0 then (ab1 (dM H k) (cells.drop j)).map .ip else none
  | _=>none
 | k+1,.agg cells=>(ab1 (dM H k) cells).map .agg
 | k+1,.fn f caps=>(ab1 (dM H k) caps).map (.fn f)
 | k+1,.Z4 cells=>(ab1 (dM H k) cells).map .Z4
 | k+1,.br t x=>(dM H k x).map (.br t)
 | _+1,.mp r=>match H r with
  | some (.mp _ ents)=>(jM ents).map (.dm false)
  | _=>none
 | _,_=>none
theorem RD.mR {u:Value} {k:Option Bool} {els:List (List D)} (h:RD w X u (.sl k els)):RD w X u (.sl none els):=by
 rcases h.l8 with ⟨rfl,rfl,_⟩ | ⟨a,cap,rfl,_,hc,hm,hr⟩
 .exact .nil (by simp)
 .rcases hr with rfl | ⟨b,off,sz,f,rfl,hX,hz,hs,aaB,hrr⟩
  .exact .empty (by simp) hm
  .by_cases h0:els=[]
   .subst h0;exact .empty (by simp) hm
   .exact .sl (by simp) rfl hc hm hX hs hz (List.length_pos_iff.2 h0) aaB hrr
theorem AN {f:AV->Option D}:∀ {l:List AV} {ds:List D},ab1 f l=some ds->l.length=ds.length/\∀ (j:Nat) (x:AV) (d:D),l[j]? = some x->ds[j]? = some d->f x=some d:=by
 intro l
 induction l with
 | nil=>intro ds h;simp only [ab1,Option.some.injEq] at h;subst h;exact ⟨rfl,by simp⟩
 | cons x l ih=>
  intro ds h;simp only [ab1] at h;split at h
  .rename_i y ys h1 h2;obtain rfl:=Option.some.inj h;obtain ⟨hl,hr⟩:=ih h2;refine ⟨by simp [hl],fun j x' d hx hd=>?_⟩
   cases j with
   | zero=>simp at hx hd;subst hx hd;exact h1
   | succ j=>simp at hx hd;exact hr j x' d hx hd
  .cases h
theorem xu {H:Heap} (hs:cK w X μ H):∀ (k:Nat) {x:AV} {d:D} {u:Value},dM H k x=some d->RV w X μ u x->RD w X u d:=by
 intro k
 induction k with
 | zero=>
  intro x d u h hu;cases x<;>simp only [dM,Option.some.injEq,reduceCtorEq] at h;subst h;exact hu.data.sub fun b hb=>.inl hb
 | succ k ih=>
  intro x d u h hu
  have many:∀ {l:List AV} {ds:List D} {arr:Array Value},ab1 (dM H k) l=some ds->arr.size=l.length->(∀ (j:Nat) (u:Value) (c:AV),arr[j]? = some u->l[j]? = some c->RV w X μ u c)->
    arr.size=ds.length/\∀ (j:Nat) (u:Value) (c:D),arr[j]? = some u->ds[j]? = some c->RD w X u c:=by
   intro l ds arr hd hn hr;obtain ⟨hl,hf⟩:=AN hd;refine ⟨by omega,fun j u c hu hc=>?_⟩;have hj:=(List.getElem?_eq_some_iff.1 hc).1
   have cR:j < l.length:=by omega
   exact ih (hf j l[j] c (by simp [cR]) hc) (hr j u _ hu (by simp [cR]))
  cases x with
  | d x=>
   simp only [dM,Option.some.injEq] at h;subst h;exact hu.data.sub fun b hb=>.inl hb
  | own r off n=>
   simp only [dM] at h;split at h
   .rename_i ty sz els hr;split at h
    .rename_i hle;obtain rfl:=Option.some.inj h;obtain ⟨kk,bz,_⟩:=zA (σ:=⟨fun _=>none,H⟩) hs hr hle hu;exact (bz.sub fun b hb=>.inl hb).mR
    .cases h
   .cases h
  | ref r e j=>
   simp only [dM] at h;split at h
   .rename_i ty cells hr;split at h
    .rename_i he;subst he;obtain ⟨ds,hd,rfl⟩:=Option.map_eq_some_iff.1 h;obtain ⟨m,b,hm,hb,rfl⟩:=hu.abV;obtain ⟨m',bO,ok⟩:=hs.rows r _ hr;rw [hm] at bO;obtain rfl:=Option.some.inj bO
     cases ok with
     | box aO aI ab6 hh hn hrr hx9=>
      rename_i b' cur;rw [hb] at aO;obtain rfl:=Option.some.inj aO;obtain ⟨hl,hf⟩:=AN hd;simp only [List.length_drop] at hl;simp only [Nat.zero_mul,Nat.zero_add];refine .ip (f:=fun i=>cur.getD (j+i) undef) (hs.frame r m b hm hb) (Array.getElem?_eq_some_iff.1 hh).1 (fun i hi=>?_) fun i d gu=>?_
      .rw [cell_of_row w b (j+i) cur ty (0,0) hh];simp [Array.getD_eq_getD_getElem?,show j+i < cur.size by omega]
      .have hi:=(List.getElem?_eq_some_iff.1 gu).1
       have da:j+i < cells.length:=by omega
       have ea:j+i < cur.size:=by omega
       refine ih (hf i cells[j+i] d (by rw [List.getElem?_drop];simp [da]) gu) (hrr (j+i) _ _ ?_ (by simp [da]));simp [Array.getD_eq_getD_getElem?,ea]
    .cases h
   .cases h
  | agg cells=>
   simp only [dM] at h;obtain ⟨ds,hd,rfl⟩:=Option.map_eq_some_iff.1 h;obtain ⟨arr,rfl,hn,hr⟩:=hu.mT;obtain ⟨h1,h2⟩:=many hd hn hr;exact .agg h1 h2
  | fn f caps=>
   simp only [dM] at h;obtain ⟨ds,hd,rfl⟩:=Option.map_eq_some_iff.1 h;obtain ⟨arr,rfl,hn,hr⟩:=hu.sE;obtain ⟨h1,h2⟩:=many hd hn hr;exact .fn h1 h2
  | Z4 cells=>
   simp only [dM] at h;obtain ⟨ds,hd,rfl⟩:=Option.map_eq_some_iff.1 h;obtain ⟨arr,rfl,hn,hr⟩:=hu.ug;obtain ⟨h1,h2⟩:=many hd hn hr;exact .Z4 h1 h2
  | br t x=>
   simp only [dM] at h;obtain ⟨d',hd,rfl⟩:=Option.map_eq_some_iff.1 h;obtain ⟨v,rfl,hr⟩:=hu.nt;exact .br (ih hd hr)
  | mp r=>
   simp only [dM] at h;split at h
   .rename_i ty ents hr;obtain ⟨es,he,rfl⟩:=Option.map_eq_some_iff.1 h;obtain ⟨m,b,hm,hb,rfl⟩:=hu.DP;obtain ⟨Bq,hh,hn,hr2,_⟩:=hs.DG hr hm hb;obtain ⟨hl,hv⟩:=Fu he
    have heq:Bq=gy es:=by
     refine Array.ext (by rw [lB];omega) fun i h1 h2=>?_
     have hi:i < es.length:=by rw [lB] at h2;exact h2
     have h3:=hv i es[i] (by simp [hi]);obtain ⟨k1,k2,k3⟩:=hr2 i Bq[i] _ (by simp [h1]) h3;have k4:=k3.scalar;have h5:=ad5 hi;rw [Array.getElem?_eq_getElem h2] at h5;rw [Option.some.inj h5];generalize Bq[i]=e at k1 k2 k4;cases e;simp only at k1 k2 k4;rw [k1,k2,k4]
    refine .dm (hs.frame r m b hm hb) ?_ (List.Perm.refl _) (by simp);rw [hh,heq,lB]
   .cases h
  | _=>simp [dM] at h
def D.scalar:D->Bool
 | .v _=>true
 | .Z4 l=>l.all fun | .v _=>true | _=>false
 | _=>false
theorem RD.Wu {X X':Nat->Prop} {w w':World} {u:Value} {x:D} (h:RD w X u x) (hs:x.scalar=true):RD w' X' u x:=by
 cases x with
 | v x=>obtain rfl:=h.scalar;exact .v _
 | Z4 l=>
  obtain ⟨arr,rfl,hn,hr⟩:=h.ug;refine .Z4 hn fun j u c hu hc=>?_;have:=List.all_eq_true.1 hs c (List.mem_of_getElem? hc)
  cases c with
  | v x=>obtain rfl:=(hr j u _ hu hc).scalar;exact .v _
  | _=>cases this
 | _=>cases hs
theorem ab2.l3 {g:FuncId} {xs:List AV} {ds:List D} {y:D} (hd:ab1 (dM σ.H 4) xs=some ds) (hc:aw P G g ds y) (hy:y.scalar=true) {K:AV->St->Prop} (h:K (.d y) σ):ab2 P Mv X G N g xs σ K:=by
 refine ⟨hc.1,fun w μ a vs hi hn hv=>?_⟩;obtain ⟨hl,hf⟩:=AN hd;refine (hc.2 X w (fun _=>none) vs (cK.none hi.aS.fits) (fun g x hx=>(hi.fV g x hx).sub fun b hb=>.inl (kD.1 hb)) (by rw [List.length_map];omega) fun i u x hu hx=>?_).mono ?_
 .rw [List.getElem?_map] at hx;obtain ⟨d,gu,rfl⟩:=Option.map_eq_some_iff.1 hx;have hj:=(List.getElem?_eq_some_iff.1 gu).1
  have cR:i < xs.length:=by omega
  exact .d ((xu hi.aS 4 (hf i xs[i] d (by simp [cR]) gu) (hv i u _ hu (by simp [cR]))).sub fun b=>kD.1)
 .rintro e w' ⟨v,x,H',au,rfl,⟨rfl,rfl⟩,hr,hs,aG⟩;obtain ⟨aC,Cj⟩:=hi.jR (Mv:=Mv) aG.jR;exact ⟨v,.d y,σ,μ,rfl,h,aC,.d (hr.data.Wu hy),Cj⟩
end
end Go.Av
