/- Parts. -/
import Derived.Test.YtoohljflflnbeaaGreatDoorFr6
import Derived.Lib.AppendStr
set_option linter.unusedSectionVars false
set_option linter.unusedSimpArgs false
set_option linter.unusedVariables false
namespace Go.Av
def rf (s:ByteArray):List (List D):=s.data.toList.map fun b=>[D.v (.int .u8 b.toNat)]
theorem On (s:ByteArray):(rf s).length=s.size:=by simp[rf]
section
variable {P:Program} {T:Ty} {Mv X:Nat->Prop} {G:ay} {N:Fr} {w:World} {μ:Mu} {a:Act} {σ:St}
theorem Oo (s:ByteArray):Rel w X μ 1 (Lib.strCells s) (rf s):=by
 intro i j el c hi hj;unfold rf at hi;rw[ajK]at hi;obtain⟨b,hb,rfl⟩:=AS.1 hi
 match j,hj with
 | 0,hj=>
  simp at hj;subst hj;exact⟨_,by simp[Lib.strCells,hb],.v _⟩
 | j+1,hj=>simp at hj
theorem agp {t t' ty e:TypeId} {tt ts te:TI} (hg:Good P T) (du:T t=some tt) (dG:tt.desc = .slice e) (tq:T t'=some ts) (mM:ts.desc = .string) (cQ:T e=some te) (base:Option Addr) (n cap:Nat) (hn:n<=cap) {s:ByteArray} (eH:s.size=0) :
  (Builtin.append_ #[t,t'] ty #[.slice base n cap,.string s]).run P w = .ok (.slice base n cap) w:=by
 have hu:=hg.da (w:=w) du;have ir:=hg.da (w:=w) tq;have bd:=hg.sizeOf (w:=w) cQ;have hf:=Lib.run_firstCells_string (P:=P) w te.size s;have u4:Lib.strCells s=[]:=aj2 (by rw[Lib.strCells_length];exact eH);rw[eH,u4]at hf;cases base<;>simp[Builtin.append_,hu,dG,ir,mM,bd,Builtin.lenOf,hn,eH,hf,storeCells]
theorem V5 (hg:Good P T) (hi:In w X G μ N a σ) {r n:Nat} (fK:Mv r) {t t' ty e:TypeId} {tt ts te:TI} (du:T t=some tt) (dG:tt.desc = .slice e) (tq:T t'=some ts) (mM:ts.desc = .string) (cQ:T e=some te) {els:List (List D)} {u:Value} {s:ByteArray}
  (hH:σ.H r=some (.sl e 1 els)) (hle:n<=els.length) (hu:RV w X μ u (.own r 0 n)) (AO:te.size=1) (e9:te.bytes=1) (Di:te.zero = .int .u8 0) (hb:n+s.size<=140737488355328) :
  nQ Mv X G N w μ a ((Builtin.append_ #[t,t'] ty #[u,.string s]).run P w) (.own r 0 (n+s.size)) ⟨ef r σ.env,aY (eg r σ.H) r (.sl e 1 (els.take n ++ rf s))⟩:=by
 obtain⟨m,hm,hh⟩:=hu.lF;obtain⟨m',cF,ok⟩:=hi.bq.rows r _ hH;rw[hm]at cF;obtain rfl:=AI cF;obtain⟨wE,i0,lz,eH,ke,lY,_⟩:=hg e te cQ;have ht:=(hg t tt du).1;rw[dG]at ht;have qI:=(hg t' ts tq).1;rw[mM]at qI
 have vZ:n+s.size<=maxLen:=by unfold maxLen;omega
 have KT:n+s.size<=9223372036854775807:=aa
 have j3:=On s
 have aat:∀ el∈rf s,el.length=1:=by
  intro el ba;obtain⟨b,_,rfl⟩:=akh.1 ba;rfl
 have yc:∀ el∈els,el.length=1:=by
  cases ok with
  | nil=>simp
  | sl _ _ _ _ _ _ hl=>exact hl
 have CN:∀ el∈els.take n ++ rf s,el.length=1:=by
  intro el ba
  rcases ajR.1 ba with h | h
  .exact yc el (ajS h)
  .exact aat el h
 by_cases bf:s.size=0
 .-- nothing is appended
  have ZB:rf s=[]:=aj2 (by rw[j3];exact bf)
  have pa:∃ base c,u = .slice base n c/\n<=c:=by
   rcases hh with⟨_,rfl,_,rfl⟩ | ⟨b,_,rfl,kC⟩
   .exact⟨_,_,rfl,ajJ _⟩
   .exact⟨_,_,rfl,aa⟩
  obtain⟨base,c',Db,KA⟩:=pa;have dw:=agp (P:=P) (w:=w) (ty:=ty) hg du dG tq mM cQ base n c' KA bf;rw[Db,dw,ZB,bf]
  obtain⟨aO,aW⟩:=hi.move (Mv:=Mv) (w':=w) (m':=m) hm fK (ajJ _) rfl rfl rfl (fun _ _ _=>rfl) (fun b hb=>.inr hb) (row:=.sl e 1 (els.take n ++ [])) fun ev=>by
   rw[ako]
   cases ok with
   | nil e9 eZ=>rw[List.take_nil];exact .nil e9 eZ
   | sl g1 g2 g3 g4 g5 g6 g7 g8 g9=>
    refine .sl g1 g2 g3 g4 (by simp;omega) g6 (fun el ba=>g7 el (ajS ba)) g8 fun i j el c ba hc=>?_;rw[ajU]at ba;split at ba
    .obtain⟨v,hv,bY⟩:=g9 i j el c ba hc;exact⟨v,hv,bY.ev ev⟩
    .cases ba
  refine⟨_,_,_,rfl,aO,.own (m:=m) (by simp[dY]) ?_,aW⟩;rw[<- Db];exact hh
 .have KD:0 < s.size:=aa
  have fD:(Lib.strCells s).length=s.size:=Lib.strCells_length s
  have sA:te.zero.cells.size=1:=by rw[Di];rfl
  have DB:∀ (xs:List Value) (fS:Nat),xs.length=n->Rel w X μ 1 xs (els.take n)->n+s.size<=fS->fS<=maxLen->m.sz=1->
    nQ Mv X G N w μ a (.ok (.slice (some ⟨w.heap.size,0,none⟩) (n+s.size) fS) (w.drew.alloc (.cells (xs.toArray ++ (Lib.strCells s).toArray ++ Builtin.zeroCells te.zero.cells (fS - (n+s.size))) e)))
     (.own r 0 (n+s.size)) ⟨ef r σ.env,aY (eg r σ.H) r (.sl e 1 (els.take n ++ rf s))⟩:=by
   intro xs fS jt qO gI iV wx
   have lf:cN w (w.drew.alloc (.cells (xs.toArray ++ (Lib.strCells s).toArray ++ Builtin.zeroCells te.zero.cells (fS - (n+s.size))) e)):=by
    have h1:=cN.alloc w.drew (.cells (xs.toArray ++ (Lib.strCells s).toArray ++ Builtin.zeroCells te.zero.cells (fS - (n+s.size))) e);exact⟨h1.size,h1.os,h1.tape,h1.output,h1.same⟩
   have bd:(xs.toArray ++ (Lib.strCells s).toArray ++ Builtin.zeroCells te.zero.cells (fS - (n+s.size))).size=fS * 1:=by
    simp only[Array.size_append,akO,size_zeroCells,sA,jt,fD];omega
   obtain⟨aO,aW⟩:=hi.move (Mv:=Mv) (w':=w.drew.alloc (.cells (xs.toArray ++ (Lib.strCells s).toArray ++ Builtin.zeroCells te.zero.cells (fS - (n+s.size))) e)) (m':=⟨some w.heap.size,1,fS⟩) hm fK lf.size lf.os lf.tape lf.output
    (fun k hk _=>lf.same k hk) (fun b hb=>by simp at hb;omega) (row:=.sl e 1 (els.take n ++ rf s)) fun ev=>by
     refine .sl rfl rfl (by simpa using heap_alloc_new w.drew (.cells (xs.toArray ++ (Lib.strCells s).toArray ++ Builtin.zeroCells te.zero.cells (fS - (n+s.size))) e)) bd (by simp[j3];omega) iV CN bF fun i j el c hi hj=>?_;have hrel:=((qO.append (by rw[jt,ajW,ali hle,akV]) (fun el ba=>yc el (ajS ba)) (Oo s)).more (l':=(Builtin.zeroCells te.zero.cells (fS - (n+s.size))).toList)) i j el c hi hj;obtain⟨v,hv,bY⟩:=hrel;refine⟨v,?_,bY.ev ev⟩;rw[<- ajT];simpa using hv
   exact⟨_,_,_,rfl,aO,.own (m:=⟨some w.heap.size,1,fS⟩) (by simp[dY]) (.inr ⟨w.heap.size,rfl,ak,by simpa using gI⟩),aW⟩
  have wx:m.sz=1:=by
   cases ok with
   | nil _ h=>exact h
   | sl _ h=>exact h
  rcases hh with⟨jn,rfl,_,rfl⟩ | ⟨b,jn,rfl,kC⟩
  .have hr:=run_append_nil_string (P:=P) w t t' ty e i0 te.zero ht qI lz lY s aa aa (by rw[ke,e9];omega);rw[hr]
   have e1:(s.data.map fun b=>Value.int .u8 b.toNat)=(Lib.strCells s).toArray:=by
    apply Array.ext';simp[Lib.strCells]
   have:=DB [] (grownCap w s.size 0 e) ak (by intro i j el c hi;simp at hi) (by have:=grownCap_ge w s.size 0 e;omega) (grownCap_le_maxLen w s.size 0 e (by unfold maxLen;omega)) wx;rw[e1];simpa using this
  .cases ok with
   | nil bk _=>rw[bk]at jn;cases jn
   | sl bk bd oW cO lS gK hl jP hr=>
    rename_i b' cur;rw[jn]at bk;obtain rfl:=AI bk
    have JN:n<=m.cap:=aa
    have ZU:cur.size=m.cap:=aa
    have jt:(cur.toList.take n).length=n:=by rw[ajW,aj8,ZU,ali JN]
    have qO:Rel w X μ 1 (cur.toList.take n) (els.take n):=by
     intro i j el c ba hc;rw[ajU]at ba;split at ba
     .rename_i aO;obtain⟨v,hv,bY⟩:=hr i j el c ba hc;have uX:el.length=1:=hl _ (akn ba)
      have hj:j < 1:=by rw[<- uX];exact (BY.1 hc).1
      refine⟨v,?_,bY⟩;rw[ajU,if_pos aa];simpa using hv
     .cases ba
    rw[wx,ak5,Nat.sub_zero];by_cases tm:n+s.size<=m.cap
    .have dw:=Lib.run_append_room_string (P:=P) w t t' ty e i0 ht qI lz (by rw[eH,AO]) b n m.cap cur oW s tm aa;rw[dw]
     obtain⟨aO,aW⟩:=hi.move (Mv:=Mv) (w':=w.setRow b (cur.toList.take n ++ Lib.strCells s ++ cur.toList.drop (n+s.size)).toArray) (m':=m) hm fK ak rfl rfl rfl
      (fun k hk CU=>setRow_other w b k _ fun e'=>CU (by rw[jn,e'])) (fun b hb=>.inr hb) (row:=.sl e 1 (els.take n ++ rf s)) fun ev=>by
       refine .sl jn wx (setRow_heap w b cur _ e _ oW) ?_ (by simp[j3];omega) gK CN bF fun i j el c hi hj=>?_
       .simp only[akO,ajQ,ajW,aj5,aj8,fD];omega
       .obtain⟨v,hv,bY⟩:=((qO.append (by rw[jt,ajW,ali hle,akV]) (fun el ba=>yc el (ajS ba)) (Oo s)).more (l':=cur.toList.drop (n+s.size))) i j el c hi hj;exact⟨v,by rw[<- ajT];simpa using hv,bY.ev ev⟩
     refine⟨_,_,_,rfl,aO,.own (m:=m) (by simp[dY]) (.inr ⟨b,jn,ak,by simpa using tm⟩),aW⟩
    .have dw:=Lib.run_append_grow_string (P:=P) w t t' ty e i0 te.zero ht qI lz lY ⟨b,0,none⟩ n m.cap (cur.toList.take n) (by rw[jt,eH,AO,akV]) (fun j v hv=>by
      rw[addr_add,cell_of_row w b _ cur e (0,0) oW];rw[ajU]at hv;split at hv
      .simpa using hv
      .cases hv) s aa aa (by rw[ke,e9];exact growslice_fits aa aa)
     rw[dw];exact DB _ _ jt qO (grownCap_ge _ _ _ _) (grownCap_le_maxLen w _ _ e vZ) wx
end
end Go.Av
namespace Go.Av
def oR (G:ay) (e:Env):List Operand->Option (List AV)
 | []=>some []
 | o :: l=>match bC G e o,oR G e l with
  | some x,some xs=>some (x :: xs)
  | _,_=>none
def nw (G:ay) (e:Env):List (Nat×Operand)->Option (List (Nat×AV))
 | []=>some []
 | (i,o) :: l=>match bC G e o,nw G e l with
  | some x,some xs=>some ((i,x) :: xs)
  | _,_=>none
def bW (x:AV) (b:Bool):AV:=match x with
 | .d y=>.d (.bz [y,.v (.bool b)])
 | x=>.bz [x,.d (.v (.bool b))]
theorem Mo {w:World} {X:Nat->Prop} {μ:Mu} {u:Value} {x:AV} {b:Bool} (hx:RV w X μ u x):RV w X μ (.tuple #[u,.bool b]) (bW x b):=by
 unfold bW;split
 .refine .d (.bz rfl fun j v c hv hc=>?_)
  match j,hv,hc with
  | 0,hv,hc=>simp at hv hc;subst hv hc;exact hx.data
  | 1,hv,hc=>simp at hv hc;subst hv hc;exact .v _
  | j+2,hv,hc=>simp at hv
 .refine .bz rfl fun j v c hv hc=>?_
  match j,hv,hc with
  | 0,hv,hc=>simp at hv hc;subst hv hc;exact hx
  | 1,hv,hc=>simp at hv hc;subst hv hc;exact .d (.v _)
  | j+2,hv,hc=>simp at hv
def cT (T:Ty) (asserted:TypeId) (pC:Bool) (x:AV):k8:=match T asserted with
 | none=>none
 | some ti=>match x with
  | .d (.v .nilIface)=>if pC then some (True,bW (iD ti.zero) false) else none
  | .d (.cf t y)=>if TypeDesc.isIface ti.desc then none else if t=asserted then some (True,if pC then bW (.d y) true else .d y) else if pC then some (True,bW (iD ti.zero) false) else none
  | .cf t y=>if TypeDesc.isIface ti.desc then none else if t=asserted then some (True,if pC then bW y true else y) else if pC then some (True,bW (iD ti.zero) false) else none
  | _=>none
theorem Wf {P:Program} {T:Ty} (hg:Good P T) {w:World} {X:Nat->Prop} {μ:Mu} {asserted xT:TypeId} {pC:Bool} {u:Value} {x z:AV} {c:Prop} (h:cT T asserted pC x=some (c,z)) (hx:RV w X μ u x) :
  ∃ r,(Instr.typeAssert u xT asserted pC).run P w = .ok r w/\RV w X μ r z:=by
 unfold cT at h;split at h
 .cases h
 .rename_i ti ht
  have one:∀ (t:TypeId) (v:Value) (y:AV),RV w X μ v y->(if TypeDesc.isIface ti.desc then none else if t=asserted then some (True,if pC then bW y true else y) else if pC then some (True,bW (iD ti.zero) false) else none)=some (c,z)->
    ∃ r,(Instr.typeAssert (.iface t v) xT asserted pC).run P w = .ok r w/\RV w X μ r z:=by
   intro t v y hy h;by_cases o0:TypeDesc.isIface ti.desc=true
   .rw[if_pos o0]at h;cases h
   .rw[if_neg o0]at h;by_cases rI:t=asserted
    .rw[if_pos rI]at h;obtain⟨_,rfl⟩:=eh h;subst rI;refine⟨if pC then .tuple #[v,.bool true] else v,?_,?_⟩
     .cases hd:ti.desc<;>first | (rw[hd]at o0;exact absurd rfl o0) | (simp[Instr.typeAssert,hg.da ht,hd])
     .cases pC
      .exact hy
      .exact Mo hy
    .rw[if_neg rI]at h
     cases pC with
     | false=>cases h
     | true=>
      simp only[if_true,IS,ajH]at h;obtain⟨_,rfl⟩:=h;refine⟨.tuple #[ti.zero,.bool false],?_,Mo (II _)⟩
      cases hd:ti.desc<;>first | (rw[hd]at o0;exact absurd rfl o0) | (simp[Instr.typeAssert,hg.da ht,hd,rI,hg.zero ht])
  split at h
  .split at h
   .rename_i bn;obtain⟨_,rfl⟩:=eh h;have:=hx.scalar;subst this;refine⟨.tuple #[ti.zero,.bool false],?_,Mo (II _)⟩;subst bn;cases hd:ti.desc<;>simp[Instr.typeAssert,hg.da ht,hd,hg.zero ht]
   .cases h
  .rename_i t y;obtain⟨v,rfl,hv⟩:=hx.data.tv;exact one t v (.d y) (.d hv) h
  .rename_i t y;obtain⟨v,rfl,hv⟩:=hx.tv;exact one t v y hv h
  .cases h
def rd (T:Ty) (G:ay) (σ:St):Op->k8
 | .move x=>(bC G σ.env x).map fun v=>(True,v)
 | .assign x=>(bC G σ.env x).map fun v=>(True,v)
 | .binOp op t x y _=>match bC G σ.env x,bC G σ.env y with
  | some a,some b=>EE T op t y a b
  | _,_=>none
 | .unOp op _ x=>(bC G σ.env x).bind (HI op)
 | .load t x=>(bC G σ.env x).bind (oF T σ.H t)
 | .fieldAddr t x f=>(bC G σ.env x).bind (E9 T t f)
 | .field t x f=>(bC G σ.env x).bind (E8 T t f)
 | .indexAddr t x i=>match bC G σ.env x,bC G σ.env i with
  | some a,some b=>rM T σ.H t a b
  | _,_=>none
 | .index t x i=>match bC G σ.env x,bC G σ.env i with
  | some a,some b=>Gs T t a b
  | _,_=>none
 | .extract x i=>(bC G σ.env x).bind (E5 i)
 | .makeInterface t x=>(bC G σ.env x).bind (GP T t)
 | .makeFunc f first caps=>if first.isEmpty then (oR G σ.env caps.toList).map fun cs=>(True,Dy f cs) else match f,first.toList,caps.toList with
  | .func g,[x],[]=>(bC G σ.env x).map fun v=>(True,.bm g v)
  | _,_,_=>none
 | .pick c x y=>match bC G σ.env c,bC G σ.env x,bC G σ.env y with
  | some (.d (.v (.bool b))),some a1,some a2=>some (True,if b then a1 else a2)
  | _,_,_=>none
 | .nilCheck x=>(bC G σ.env x).bind GY
 | .build t parts=>(nw G σ.env parts.toList).bind (EH T t)
 | .convert src dst x=>if (T src).isSome then (bC G σ.env x).bind (EP T dst) else none
 | .slice t x lo hi mx=>if mx.isNone then match bC G σ.env x,bound G σ.env lo,bound G σ.env hi with
   | some v,some l,some h=>sI T σ.H t v l h
   | _,_,_=>none
  else none
 | .typeAssert x _ t b=>(bC G σ.env x).bind (cT T t b)
 | .lookup t x i b=>match bC G σ.env x,bC G σ.env i with
  | some a,some k=>pg T σ.H t b a k
  | _,_=>none
 | .call { callee:=.builtin .len,args,argTypes }=>match args.toList,argTypes.toList with
  | [x],[t]=>(bC G σ.env x).bind (GN T t)
  | _,_=>none
 | .call { callee:=.builtin .max,args,.. }=>match args.toList with
  | [x,y]=>match bC G σ.env x,bC G σ.env y with
   | some (.d (.v (.int k a))),some (.d (.v (.int k' b)))=>some (True,.d (.v (.int k (if b > a then b else a))))
   | _,_=>none
  | _=>none
 | .call { callee:=.builtin .min,args,.. }=>match args.toList with
  | [x,y]=>match bC G σ.env x,bC G σ.env y with
   | some (.d (.v (.int k a))),some (.d (.v (.int k' b)))=>some (True,.d (.v (.int k (if b < a then b else a))))
   | _,_=>none
  | _=>none
 | _=>none
def M8 (T:Ty) (G:ay) (Mv:Nat->Prop) (σ:St) (t t':TypeId) (x y:Operand):Option (Prop×AV×St):=match T t,T t' with
 | some tt,some ts=>match tt.desc,ts.desc with
  | .slice e,.string=>match T e,bC G σ.env x,bC G σ.env y with
   | some te,some (.own r off n),some (.d (.v (.string s)))=>match σ.H r with
    | some (.sl ty sz els)=>some (off=0/\Mv r/\ty=e/\sz=1/\n<=els.length/\te.size=1/\te.bytes=1/\te.zero = .int .u8 0/\n+s.size<=140737488355328,
      .own r 0 (n+s.size),⟨ef r σ.env,aY (eg r σ.H) r (.sl e 1 (els.take n ++ rf s))⟩)
    | _=>none
   | _,_,_=>none
  | _,_=>none
 | _,_=>none
def wr (T:Ty) (G:ay) (Mv:Nat->Prop) (σ:St) (o:Oper):Option (Prop×AV×St):=match o.op,o.dst with
 | .alloc t,some d=>match T t with
  | some ti=>some (σ.H d=none,.ref d 0 0,⟨σ.env,aY σ.H d (.box t ((gg ti.zero).map .d))⟩)
  | none=>none
 | .box t x,some d=>match (bC G σ.env x).bind jD with
  | some cs=>some (σ.H d=none,.ref d 0 0,⟨σ.env,aY σ.H d (.box t cs)⟩)
  | none=>none
 | .store t x y,none=>match bC G σ.env x,bC G σ.env y with
  | some (.ref r e j),some v=>match σ.H r with
   | some (.box ty cells)=>if e=0 then match HA T t cells j v with
     | some (c,vI)=>some (c,.dead,⟨σ.env,aY σ.H r (.box ty vI)⟩)
     | none=>none
    else none
   | some (.sl ty sz els)=>match HB T t sz els e j v with
    | some (c,oQ)=>some (c,.dead,⟨σ.env,aY σ.H r (.sl ty sz oQ)⟩)
    | none=>none
   | some (.mp _ _)=>none
   | some (.it _ _)=>none
   | none=>none
  | _,_=>none
 | .makeSlice t l c,some d=>match T t with
  | some tt=>match tt.desc with
   | .slice e=>match T e,bC G σ.env l,bC G σ.env c with
    | some te,some (.d (.v (.int _ n))),some (.d (.v (.int _ m)))=>some (σ.H d=none/\0<=n/\n<=m/\te.bytes * m<=281474976710656/\m<=9223372036854775807/\0 < te.size/\(gg te.zero).length=te.size,.own d 0 n.toNat,⟨σ.env,aY σ.H d (.sl e te.size (lZ te n.toNat))⟩)
    | _,_,_=>none
   | _=>none
  | none=>none
 | .buildSlice t len parts,some d=>match T t with
  | some tt=>match tt.desc with
   | .slice e=>match T e,nw G σ.env parts.toList with
    | some te,some ps=>match vH te.size 0 ps with
     | some els=>some (σ.H d=none/\ps.length=len/\0 < te.size/\len * te.size<=16777216,.own d 0 len,⟨σ.env,aY σ.H d (.sl e te.size els)⟩)
     | none=>none
    | _,_=>none
   | _=>none
  | none=>none
 | .call { callee:=.builtin .append,args,argTypes },some d=>match args.toList,argTypes.toList with
  | [x,y],[t,t']=>if t=t' then match T t with
   | some tt=>match tt.desc with
    | .slice e=>match T e,bC G σ.env x,bC G σ.env y with
     | some te,some (.own r off n),some v=>match σ.H r,my σ.H r v with
      | some (.sl ty sz els),some news=>some (off=0/\Mv r/\ty=e/\sz=te.size/\n<=els.length/\(∀ el∈news,el.length=te.size)/\(∀ el∈news,∀ c∈el,D.one c=true)/\0 < te.size/\(gg te.zero).length=te.size/\n+news.length<=9223372036854775807/\(n+news.length) * te.bytes<=140737488355328,
        .own r 0 (n+news.length),⟨ef r σ.env,aY (eg r σ.H) r (.sl e te.size (els.take n ++ news))⟩)
      | _,_=>none
     | some te,some (.d (.sl (some false) [])),some v=>match my σ.H d v with
      | some news=>some (σ.H d=none/\Mv d/\(∀ el∈news,el.length=te.size)/\(∀ el∈news,∀ c∈el,D.one c=true)/\0 < te.size/\(gg te.zero).length=te.size/\news.length<=9223372036854775807/\news.length * te.bytes<=140737488355328,
        .own d 0 news.length,⟨σ.env,aY σ.H d (.sl e te.size news)⟩)
      | none=>none
     | _,_,_=>none
    | _=>none
   | none=>none
  else M8 T G Mv σ t t' x y
  | _,_=>none
 | .call { callee:=.builtin .copy,args,argTypes },some _=>match args.toList,argTypes.toList with
  | [x,y],[t,_]=>match T t with
   | some tt=>match tt.desc with
    | .slice e=>match T e,bC G σ.env x,bC G σ.env y with
     | some te,some (.own r off n),some v=>match σ.H r,D7 σ.H v with
      | some (.sl ty sz els),some news=>some (ty=e/\sz=1/\te.size=1/\off+n<=els.length/\0 < els.length/\(∀ el∈news,el.length=1)/\(∀ el∈news,∀ c∈el,D.one c=true),
        .d (.v (.int .i64 ((news.take n).length:Nat))),⟨σ.env,aY σ.H r (.sl e 1 (nu els news off n))⟩)
      | _,_=>none
     | some te,some (.d (.sl _ [])),some v=>match D7 σ.H v with
      | some news=>some ((∀ el∈news,el.length=te.size)/\0 < te.size/\(∀ el∈news,∀ c∈el,D.one c=true),.d (.v (.int .i64 0)),σ)
      | none=>none
     | _,_,_=>none
    | _=>none
   | none=>none
  | _,_=>none
 | .makeMap t none,some d=>some (σ.H d=none,.mp d,⟨σ.env,aY σ.H d (.mp t [])⟩)
 | .mapUpdate t m k v,none=>match bC G σ.env m,bC G σ.env k,bC G σ.env v with
  | some (.mp r),some (.d (.v key)),some (.d x)=>match σ.H r with
   | some (.mp ty ents)=>match DX T t ents key x with
    | some (c,nv)=>some (c,.dead,⟨σ.env,aY σ.H r (.mp ty nv)⟩)
    | none=>none
   | _=>none
  | _,_,_=>none
 | .insert t m k v,none=>match bC G σ.env m,bC G σ.env k,bC G σ.env v with
  | some (.mp r),some (.d (.v key)),some (.d x)=>match σ.H r with
   | some (.mp ty ents)=>match DX T t ents key x with
    | some (c,nv)=>some (c,.dead,⟨σ.env,aY σ.H r (.mp ty nv)⟩)
    | none=>none
   | _=>none
  | _,_,_=>none
 | _,_=>none
def aL (e:Env) (dst:Option Tmp) (x:AV):Env:=match dst with
 | some d=>gS e d x
 | none=>e
section
variable {P:Program} {T:Ty} {Mv X:Nat->Prop} {G:ay} {N:Fr} {w:World} {μ:Mu} {a:Act} {σ:St}
theorem In.put (hi:In w X G μ N a σ) {u:Value} {x:AV} (hx:RV w X μ u x) {dst:Option Tmp} (hd:∀ d,dst=some d->d < N.n):In w X G μ N (a.put dst u) ⟨aL σ.env dst x,σ.H⟩:=by
 cases dst with
 | none=>exact hi
 | some d=>
  have aH:d < a.tmps.size:=by rw[hi.env.size];exact hd d rfl
  refine⟨hi.bq,⟨hi.env.defers,by simp[Act.put,hi.env.size],fun i y hy=>?_⟩,hi.jf⟩;simp only[aL,gS]at hy;split at hy
  .rename_i e;subst e;obtain rfl:=AI hy;exact⟨u,by simp[Act.put,aH],hx⟩
  .rename_i e;obtain⟨v,hv,hr⟩:=hi.env.slot i y hy;exact⟨v,by simp only[Act.put];rw[akU (akI e)];exact hv,hr⟩
theorem In.oR (hi:In w X G μ N a σ):∀ {l:List Operand} {xs:List AV},oR G σ.env l=some xs->(l.map a.eval).length=xs.length/\∀ (i:Nat) (u:Value) (x:AV),(l.map a.eval)[i]? = some u->xs[i]? = some x->RV w X μ u x:=by
 intro l
 induction l with
 | nil=>intro xs h;simp only[Go.Av.oR,IS]at h;subst h;exact⟨rfl,ak⟩
 | cons o l ih=>
  intro xs h;simp only[Go.Av.oR]at h;split at h
  .rename_i x Vf h1 h2;obtain rfl:=AI h;obtain⟨hl,hr⟩:=ih h2;refine⟨by simpa using hl,fun i u y hu hy=>?_⟩
   cases i with
   | zero=>simp at hu hy;subst hu hy;exact hi.eval h1
   | succ i=>simp at hu hy;exact hr i u y (by simpa using hu) hy
  .cases h
theorem In.nw (hi:In w X G μ N a σ):∀ {l:List (Nat×Operand)} {xs:List (Nat×AV)},nw G σ.env l=some xs->(l.map fun p=>(p.1,a.eval p.2)).map (·.1)=xs.map (·.1)/\
  ∀ (i:Nat) (p:Nat×AV) (v:Nat×Value),xs[i]? = some p->(l.map fun p=>(p.1,a.eval p.2))[i]? = some v->RV w X μ v.2 p.2:=by
 intro l
 induction l with
 | nil=>intro xs h;simp only[Go.Av.nw,IS]at h;subst h;exact⟨rfl,ak⟩
 | cons o l ih=>
  intro xs h;obtain⟨k,o⟩:=o;simp only[Go.Av.nw]at h;split at h
  .rename_i x Vf h1 h2;obtain rfl:=AI h;obtain⟨hl,hr⟩:=ih h2;refine⟨by simpa using hl,fun i p v hp hv=>?_⟩
   cases i with
   | zero=>simp at hp hv;subst hp hv;exact hi.eval h1
   | succ i=>simp at hp hv;exact hr i p v hp (by simpa using hv)
  .cases h
theorem In.bound (hi:In w X G μ N a σ) {o:Option Operand} {l:Option Int} (h:bound G σ.env o=some l):(o.map a.eval=none/\l=none)\/∃ k n,o.map a.eval=some (.int k n)/\l=some n:=by
 unfold Go.Av.bound at h;split at h
 .obtain rfl:=AI h;exact .inl ⟨rfl,rfl⟩
 .split at h
  .rename_i k n he;obtain rfl:=AI h;exact .inr ⟨k,n,by simp[(hi.eval he).scalar],rfl⟩
  .cases h
theorem Hh (hg:Good P T) (hi:In w X G μ N a σ) {o:Oper} {c:Prop} {x:AV} (h:rd T G σ o.op=some (c,x)) (hc:c):∃ v,(execOp a.eval o).run P w = .ok (.value v) w/\RV w X μ v x:=by
 have lift:∀ {s:Sem Value} ,(∃ v,s.run P w = .ok v w/\RV w X μ v x)->∃ v,(do pure (.value (<- s)):Sem Next).run P w = .ok (.value v) w/\RV w X μ v x:=by
  rintro s ⟨v,hv,hr⟩;exact⟨v,by simp[hv],hr⟩
 obtain⟨dst,op,type,pos,after,guard⟩:=o;dsimp only at h;unfold rd at h;split at h
 .obtain⟨y,hy,he⟩:=AS.1 h;simp only[ajH]at he;obtain⟨rfl,rfl⟩:=he;exact⟨_,rfl,hi.eval hy⟩
 .obtain⟨y,hy,he⟩:=AS.1 h;simp only[ajH]at he;obtain⟨rfl,rfl⟩:=he;exact⟨_,rfl,hi.eval hy⟩
 .split at h
  .rename_i h1 h2;exact lift (Wx hg hi h1 h2 h hc)
  .cases h
 .obtain⟨y,hy,he⟩:=ajY.1 h;exact lift (ahJ he hc (hi.eval hy))
 .obtain⟨y,hy,he⟩:=ajY.1 h;exact lift (R6 hg hi.bq he hc (hi.eval hy))
 .obtain⟨y,hy,he⟩:=ajY.1 h;exact lift (Yi hg he hc (hi.eval hy))
 .obtain⟨y,hy,he⟩:=ajY.1 h;exact lift (Yh hg he hc (hi.eval hy))
 .split at h
  .rename_i h1 h2;exact lift (aa9 hg hi.bq h hc (hi.eval h1) (hi.eval h2))
  .cases h
 .split at h
  .rename_i h1 h2;exact lift (abd hg h hc (hi.eval h1) (hi.eval h2))
  .cases h
 .obtain⟨y,hy,he⟩:=ajY.1 h;exact lift (Yf he (hi.eval hy))
 .obtain⟨y,hy,he⟩:=ajY.1 h;exact lift (acw hg he (hi.eval hy))
 .split at h
  .rename_i f first caps hf;obtain⟨y,hy,he⟩:=AS.1 h;simp only[ajH]at he;obtain⟨rfl,rfl⟩:=he;obtain⟨hl,hr⟩:=hi.oR hy
   have J3:first = #[]:=by simpa using hf
   subst J3;refine⟨.func f #[] (caps.map a.eval),by simp[execOp,Instr.makeFunc],LU (by simpa using hl) fun j u c hu hc=>hr j u c (by simpa using hu) hc⟩
  .split at h
   .rename_i x J5 gI;obtain⟨y,hy,he⟩:=AS.1 h;simp only[ajH]at he;obtain⟨rfl,rfl⟩:=he;obtain rfl:=akl.1 (show _=(#[x]:Array Operand).toList from J5);obtain rfl:=akl.1 (show _=(#[]:Array Operand).toList from gI);exact⟨_,by simp[execOp,Instr.makeFunc],.bm (hi.eval hy)⟩
   .cases h
 .split at h
  .rename_i b a1 a2 h0 h1 h2;obtain⟨rfl,rfl⟩:=eh h;have hb:=(hi.eval h0).scalar;refine⟨if b then a.eval _ else a.eval _,by simp[execOp,hb,asBool];cases b<;>rfl,?_⟩;cases b
   .exact hi.eval h2
   .exact hi.eval h1
  .cases h
 .obtain⟨y,hy,he⟩:=ajY.1 h;obtain⟨⟨ad,P2⟩,hr⟩:=acW he (hi.eval hy);exact⟨.pointer (some ad),by simp[execOp,P2],by rw[<- P2];exact hr⟩
 .rename_i t parts;obtain⟨ps,ff,he⟩:=ajY.1 h;obtain⟨h1,h2⟩:=hi.nw ff;refine lift (WK (vs:=parts.map fun p=>(p.1,a.eval p.2)) hg he (by simpa using h1) fun i p v hp hv=>h2 i p v hp ?_);rw[<- ajT]at hv;simpa using hv
 .split at h
  .rename_i hs;obtain⟨y,hy,he⟩:=ajY.1 h;exact lift (Xh hg hs he hc (hi.eval hy))
  .cases h
 .split at h
  .rename_i mx gK;split at h
   .rename_i v l hh h1 h2 h3
    cases mx with
    | some _=>simp at gK
    | none=>exact lift (agK hg hi.bq h hc (hi.eval h1) (hi.bound h2) (hi.bound h3))
   .cases h
  .cases h
 .obtain⟨y,hy,he⟩:=ajY.1 h;exact lift (Wf hg he (hi.eval hy))
 .split at h
  .rename_i h1 h2;exact lift (acn hg hi.bq h hc (hi.eval h1) (hi.eval h2))
  .cases h
 .split at h
  .rename_i args argTypes _ _ x0 t ha ht;obtain⟨y,hy,he⟩:=ajY.1 h;obtain⟨r,hr,gM⟩:=ab6 (ty:=type) hg he (hi.eval hy);have e1:args = #[x0]:=akl.1 ha;have e2:argTypes = #[t]:=akl.1 ht;subst e1 e2;exact⟨r,by simp[execOp,resolve,invoke,builtin,hr],gM⟩
  .cases h
 .split at h
  .rename_i args _ _ x0 y0 ha;split at h
   .rename_i k a0 k' b0 h1 h2;obtain⟨rfl,rfl⟩:=eh h;have e1:=(hi.eval h1).scalar;have e2:=(hi.eval h2).scalar;have e0:args = #[x0,y0]:=akl.1 ha;subst e0;exact⟨_,by simp[execOp,resolve,invoke,builtin,Builtin.max_,Builtin.max2,e1,e2],.d (.v _)⟩
   .cases h
  .cases h
 .split at h
  .rename_i args _ _ x0 y0 ha;split at h
   .rename_i k a0 k' b0 h1 h2;obtain⟨rfl,rfl⟩:=eh h;have e1:=(hi.eval h1).scalar;have e2:=(hi.eval h2).scalar;have e0:args = #[x0,y0]:=akl.1 ha;subst e0;exact⟨_,by simp[execOp,resolve,invoke,builtin,Builtin.min_,Builtin.min2,e1,e2],.d (.v _)⟩
   .cases h
  .cases h
 .cases h
theorem RV.G0 {u:Value} {x:AV} {r:Nat} (h:RV w X μ u x) (hr:μ r=none):x.kill r=x:=by
 have bp:∀ (l:List AV),(∀ c∈l,c.kill r=c)->l.map (AV.kill r)=l:=by
  intro l hl
  induction l with
  | nil=>rfl
  | cons c l ih=>simp only[aj6];rw[hl c ak,ih fun c hc=>hl c (by simp[hc])]
 have arr:∀ (arr:Array Value) (cells:List AV),arr.size=cells.length->(∀ (j:Nat) (u:Value) (c:AV),arr[j]? = some u->cells[j]? = some c->c.kill r=c)->cells.map (AV.kill r)=cells:=by
  intro arr cells hn hh;refine bp cells fun c hc=>?_;obtain⟨j,hj,rfl⟩:=aj1.1 hc;exact hh j arr[j] _ (by simp[hn,hj]) (by simp[hj])
 induction h with
 | d h=>rfl
 | own hm _=>
  rename_i u q off n m;unfold AV.kill;rw[if_neg];intro e;subst e;rw[hr]at hm;cases hm
 | ref hm _=>
  rename_i q e j b m;unfold AV.kill;rw[if_neg];intro e;subst e;rw[hr]at hm;cases hm
 | agg hn _ ih=>rw[AV.kill,AV.go_eq,arr _ _ hn ih]
 | bz hn _ ih=>rw[AV.kill,AV.go_eq,arr _ _ hn ih]
 | cf _ ih=>rw[AV.kill,ih]
 | bm _ ih=>rw[AV.kill,ih]
 | fn hn _ ih=>rw[AV.kill,AV.go_eq,arr _ _ hn ih]
 | mp hm _=>
  rename_i q b m;unfold AV.kill;rw[if_neg];intro e;subst e;rw[hr]at hm;cases hm
 | dead u=>rfl
theorem In.G0 (hi:In w X G μ N a σ) {r:Nat} (hr:σ.H r=none):ef r σ.env=σ.env/\eg r σ.H=σ.H:=by
 have hn:=hi.bq.tK hr;constructor
 .funext i;unfold ef
  cases he:σ.env i with
  | none=>rfl
  | some x=>
   obtain⟨u,_,hx⟩:=hi.env.slot i x he;simp[hx.G0 hn]
 .funext q;unfold eg
  cases hq:σ.H q with
  | none=>rfl
  | some row=>
   obtain⟨m,hm,ok⟩:=hi.bq.rows q row hq
   cases ok with
   | nil=>rfl
   | sl=>rfl
   | mp=>rfl
   | it=>rfl
   | box hb bd hc hh lS lV AN=>
    rename_i ty b cells cur
    have:cells.map (AV.kill r)=cells:=by
     have:=(RV.agg (w:=w) (X:=X) (μ:=μ) (arr:=(cur.toList.take cells.length).toArray) (cells:=cells) (by simp;omega) fun j u c hu hc=>lV j u c (by
      have ir:(cur.toList.take cells.length)[j]? = some u:=by simpa using hu
      rw[ajU]at ir;split at ir
      .simpa using ir
      .cases ir) hc).G0 hn
     rw[AV.kill,AV.go_eq]at this;exact AV.agg.inj this
    simp[Row.kill,this]
theorem aii (hg:Good P T) (hi:In w X G μ N a σ) {o:Oper} {c:Prop} {x:AV} {aT:St} (h:wr T G Mv σ o=some (c,x,aT)) (hc:c) (hd:∀ d,o.dst=some d->d < N.n) :
  ∃ n v w' aI,(execOp a.eval o).run P w = .ok n w'/\(n = .value v\/(n = .skip/\v=undef))/\In w' X G aI N a aT/\RV w' X aI v x/\Ev Mv w μ w' aI:=by
 have lift:∀ {s:Sem Value} {x:AV} {aT:St},nQ Mv X G N w μ a (s.run P w) x aT->∃ n v w' aI,(do pure (.value (<- s)):Sem Next).run P w = .ok n w'/\(n = .value v\/(n = .skip/\v=undef))/\In w' X G aI N a aT/\RV w' X aI v x/\Ev Mv w μ w' aI:=by
  rintro s x aT ⟨v,w',aI,hr,rest⟩;exact⟨.value v,v,w',aI,by simp[hr],.inl rfl,rest⟩
 obtain⟨dst,op,type,pos,after,guard⟩:=o;dsimp only at h hd;unfold wr at h;dsimp only at h;split at h
 .split at h
  .rename_i ti ht;obtain⟨rfl,rfl,rfl⟩:=mB h;exact lift (VN hg hi hc ht)
  .cases h
 .split at h
  .rename_i cs cO;obtain⟨y,hy,he⟩:=ajY.1 cO;obtain⟨rfl,rfl,rfl⟩:=mB h;exact lift (WH hi hc (hi.eval hy) he)
  .cases h
 .split at h
  .rename_i r e j v h1 h2;split at h
   .rename_i ty cells hH;split at h
    .rename_i he;subst he;split at h
     .rename_i c' vI hs;obtain⟨rfl,rfl,rfl⟩:=mB h;obtain⟨w',hr,aO,aW⟩:=agX (Mv:=Mv) hg hi hH hs hc (hi.eval h1) (hi.eval h2);exact⟨.skip,undef,w',μ,by simp[execOp,hr],.inr ⟨rfl,rfl⟩,aO,.dead _,aW⟩
     .cases h
    .cases h
   .rename_i ty sz els hH;split at h
    .rename_i c' oQ hs;obtain⟨rfl,rfl,rfl⟩:=mB h;obtain⟨w',hr,aO,aW⟩:=agY (Mv:=Mv) hg hi hH hs hc (hi.eval h1) (hi.eval h2);exact⟨.skip,undef,w',μ,by simp[execOp,hr],.inr ⟨rfl,rfl⟩,aO,.dead _,aW⟩
    .cases h
   .cases h
   .cases h
   .cases h
  .cases h
 .split at h
  .rename_i tt du;split at h
   .rename_i e dG;split at h
    .rename_i te kn n km m cQ h1 h2;obtain⟨rfl,rfl,rfl⟩:=mB h;obtain⟨g1,g2,g3,g4,g5,g6,g7⟩:=hc;have:=acv (Mv:=Mv) hg hi g1 du dG cQ (k1:=kn) (k2:=km) g2 g3 g4 g5 g6 g7;rw[<- (hi.eval h1).scalar,<- (hi.eval h2).scalar]at this;exact lift this
    .cases h
   .cases h
  .cases h
 .split at h
  .rename_i tt du;split at h
   .rename_i e dG;split at h
    .rename_i te ps cQ ff;split at h
     .rename_i els xX;obtain⟨rfl,rfl,rfl⟩:=mB h;obtain⟨g1,g2,g3,g4⟩:=hc;obtain⟨hv,hr⟩:=hi.nw ff;exact lift (WL (Mv:=Mv) hg hi g1 du dG cQ xX g2 (by simpa using hv) (fun i p v h1 h2=>hr i p v h1 (by simpa using h2)) g3 g4)
     .cases h
    .cases h
   .cases h
  .cases h
 .split at h
  .rename_i args argTypes d _ _ x0 y0 t t' ha ht;have e1:args = #[x0,y0]:=akl.1 ha;have e2:argTypes = #[t,t']:=akl.1 ht;subst e1 e2;split at h
   .rename_i aaZ;subst aaZ
    have run_eq:∀ {x:AV} {aT:St},nQ Mv X G N w μ a ((Builtin.append_ #[t,t] type #[a.eval x0,a.eval y0]).run P w) x aT->∃ n v w' aI,(execOp a.eval { dst:=some d,op:=.call { callee:=.builtin .append,args:=⟨[x0,y0]⟩,argTypes:=⟨[t,t]⟩ },type:=type,pos:=pos,after:=after,guard:=guard }).run P w = .ok n w'/\(n = .value v\/(n = .skip/\v=undef))/\In w' X G aI N a aT/\RV w' X aI v x/\Ev Mv w μ w' aI:=by
     rintro x aT ⟨v,w',aI,hr,rest⟩;exact⟨.value v,v,w',aI,by simp[execOp,resolve,invoke,builtin,hr],.inl rfl,rest⟩
    split at h
    .rename_i tt du;split at h
     .rename_i e dG;split at h
      .rename_i te r off n v cQ h1 h2;split at h
       .rename_i ty sz els news hH hn;obtain⟨rfl,rfl,rfl⟩:=mB h;obtain⟨rfl,g1,rfl,rfl,g2,g3,g4,g5,g6,g7,g8⟩:=hc;exact run_eq (Ik (Mv:=Mv) hg hi g1 du dG cQ hH g2 (hi.eval h1) (DG hi.bq (hi.eval h2) hn g3 g5 g4) g5 g6 (by unfold maxLen;omega) g8)
       .cases h
      .rename_i te v cQ h1 h2;split at h
       .rename_i news hn;obtain⟨rfl,rfl,rfl⟩:=mB h;obtain⟨g0,g1,g3,g4,g5,g6,g7,g8⟩:=hc;obtain⟨aO,aW⟩:=hi.alloc (Mv:=Mv) g0 (cN.refl w) (m:=⟨none,te.size,0⟩) ak (row:=.sl e te.size []) fun _=>.nil rfl rfl
        have hu:RV w X (dY μ d ⟨none,te.size,0⟩) (a.eval x0) (.own d 0 0):=by
         have:=(hi.eval h1).data.rY
         rcases this with⟨hh,_⟩ | ⟨ad,cap,hh,hk,_⟩
         .rw[hh];exact .own (m:=⟨none,te.size,0⟩) (by simp[dY]) (.inl ⟨rfl,rfl,rfl,rfl⟩)
         .exact absurd rfl hk
        have lS:my (aY σ.H d (.sl e te.size [])) d v=some news:=by
         unfold my at hn ⊢
         split at hn<;>first | exact hn | skip
         rename_i q off n;split at hn
         .cases hn
         .rename_i hq;rw[if_neg hq];simpa[aY,hq]using hn
        have AK:RV w X (dY μ d ⟨none,te.size,0⟩) (a.eval y0) v:=by
         refine (hi.eval h2).same aW fun q m hq=>?_;unfold dY;split
         .rename_i e';subst e';rw[hi.bq.tK g0]at hq;cases hq
         .exact hq
        have Cu:=Ik (Mv:=Mv) (ty:=type) hg aO g1 du dG cQ (r:=d) (n:=0) (els:=[]) (news:=news) (by simp[aY]) ak hu (DG aO.bq AK lS g3 g5 g4) g5 g6 (by unfold maxLen;omega) (by simpa using g8);obtain⟨v',w',aI,hr,Ar,gM,mb⟩:=Cu;refine run_eq ⟨v',w',aI,hr,?_,by simpa using gM,aW.trans mb⟩;obtain⟨k1,k2⟩:=hi.G0 g0
        have e1:eg d (aY σ.H d (.sl e te.size []))=aY σ.H d (.sl e te.size []):=by
         funext q;by_cases hq:q=d
         .simp[eg,aY,hq,Row.kill]
         .have:=congrFun k2 q;simpa[eg,aY,hq]using this
        have e2:aY (aY σ.H d (.sl e te.size [])) d (.sl e te.size ([].take 0 ++ news))=aY σ.H d (.sl e te.size news):=by
         funext q;by_cases hq:q=d<;>simp[aY,hq]
        dsimp only at Ar;rw[k1,e1,e2]at Ar;exact Ar
       .cases h
      .cases h
     .cases h
    .cases h
   .unfold M8 at h;split at h
    .rename_i tt ts du tq;split at h
     .rename_i e dG mM;split at h
      .rename_i te r off n s cQ h1 h2;split at h
       .rename_i ty sz els hH;obtain⟨rfl,rfl,rfl⟩:=mB h;obtain⟨rfl,g1,rfl,rfl,g2,g3,g4,g5,g6⟩:=hc;have hv:a.eval y0 = .string s:=(hi.eval h2).scalar;obtain⟨v,w',aI,hr,rest⟩:=V5 (Mv:=Mv) (ty:=type) hg hi g1 du dG tq mM cQ hH g2 (hi.eval h1) g3 g4 g5 g6;exact⟨.value v,v,w',aI,by simp[execOp,resolve,invoke,builtin,hv,hr],.inl rfl,rest⟩
       .cases h
      .cases h
     .cases h
    .cases h
  .cases h
 .split at h
  .rename_i args argTypes d _ _ x0 y0 t t' ha ht;have e1:args = #[x0,y0]:=akl.1 ha;have e2:argTypes = #[t,t']:=akl.1 ht;subst e1 e2;split at h
   .rename_i tt du;split at h
    .rename_i e dG;split at h
     .rename_i te r off n v cQ h1 h2;split at h
      .rename_i ty sz els news hH hn;obtain⟨rfl,rfl,rfl⟩:=mB h;obtain⟨rfl,rfl,g1,g2,g3,g4,g5⟩:=hc;obtain⟨v,w',aI,hr,rest⟩:=Xi (Mv:=Mv) (ty:=type) (t':=t') hg hi du dG cQ g1 hH g2 g3 (hi.eval h1) (Uu hi.bq (hi.eval h2) hn g4 aa g5);exact⟨.value v,v,w',aI,by simp[execOp,resolve,invoke,builtin,hr],.inl rfl,rest⟩
      .cases h
     .rename_i te kq v cQ h1 h2;split at h
      .rename_i news hn;obtain⟨rfl,rfl,rfl⟩:=mB h;obtain⟨g4,g5,g6⟩:=hc;obtain⟨v,w',aI,hr,rest⟩:=Xj (Mv:=Mv) (ty:=type) (t':=t') hg hi du dG cQ (hi.eval h1) (Uu hi.bq (hi.eval h2) hn g4 g5 g6);exact⟨.value v,v,w',aI,by simp[execOp,resolve,invoke,builtin,hr],.inl rfl,rest⟩
      .cases h
     .cases h
    .cases h
   .cases h
  .cases h
 .obtain⟨rfl,rfl,rfl⟩:=mB h;exact lift (acx hi hc _)
 .split at h
  .rename_i r key x h1 h2 h3;split at h
   .rename_i ty ents hH;split at h
    .rename_i c' nv hp;obtain⟨rfl,rfl,rfl⟩:=mB h;obtain⟨w',hr,aO,aW⟩:=Sd (Mv:=Mv) hg hi hH hp hc (hi.eval h1) (hi.eval h2) (hi.eval h3);exact⟨.skip,undef,w',μ,by simp[execOp,hr],.inr ⟨rfl,rfl⟩,aO,.dead _,aW⟩
    .cases h
   .cases h
  .cases h
 .split at h
  .rename_i r key x h1 h2 h3;split at h
   .rename_i ty ents hH;split at h
    .rename_i c' nv hp;obtain⟨rfl,rfl,rfl⟩:=mB h;obtain⟨w',hr,aO,aW⟩:=Sd (Mv:=Mv) hg hi hH hp hc (hi.eval h1) (hi.eval h2) (hi.eval h3);exact⟨.skip,undef,w',μ,by simp[execOp,hr],.inr ⟨rfl,rfl⟩,aO,.dead _,aW⟩
    .cases h
   .cases h
  .cases h
 .cases h
end
end Go.Av
namespace Go.Av
def iA (P:Program) (g:FuncId):Prop:=∀ (args:Array Value) (w:World),(callFunc g args).run P w = .ok (.enter g args) w
theorem iA.of {P:Program} {g:FuncId} {fn:Func} {c:Code} (h:P.funcs[g]? = some fn) (hb:fn.body=some c) (hn:(fn.name == "runtime.NumGoroutine")=false):iA P g:=by
 intro args w;simp only[callFunc,Sem.run_bind,run_program,Result.andThen_ok,h,hn,ajM,if_false];simp[hb]
def da:AV:=.d (.v undef)
def Fj (ops:Array Oper) (e:Env) (j:Nat):Option (Option Bool):=match (ops[j]?).bind (·.dst) with
 | some d=>match e d with
  | some (.d (.v (.bool b)))=>some (some b)
  | some (.d (.v (.tuple _)))=>some none
  | _=>none
 | none=>none
def jb (ops:Array Oper) (e:Env) (o:Oper):Option Bool:=match o.guard with
 | none=>some true
 | some (j,want)=>(Fj ops e j).map (· == some want)
def kr (G:ay) (e:Env) (c:Call):Option (FuncId×List AV):=match c.callee with
 | .value f=>match bC G e f,oR G e c.args.toList with
  | some (.d (.fn (.func g) caps)),some xs=>some (g,xs ++ caps.map .d)
  | some (.fn (.func g) caps),some xs=>some (g,xs ++ caps)
  | some (.bm g x),some xs=>some (g,x :: xs)
  | _,_=>none
 | _=>none
def l8 (P:Program) (Mv X:Nat->Prop) (G:ay) (N:Fr) (g:FuncId) (xs:List AV) (σ:St) (K:AV->St->Prop):Prop:=
 iA P g/\∀ w μ a (vs:Array Value),In w X G μ N a σ->vs.size=xs.length->(∀ (i:Nat) (u:Value) (x:AV),vs[i]? = some u->xs[i]? = some x->RV w X μ u x)->
  Calls P g vs w fun e w'=>∃ v x aG aI,e = .returned v/\K x aG/\In w' X G aI N a aG/\RV w' X aI v x/\Ev Mv w μ w' aI
theorem l8.mono {P:Program} {Mv X:Nat->Prop} {G:ay} {N:Fr} {g:FuncId} {xs:List AV} {σ:St} {K K':AV->St->Prop} (h:l8 P Mv X G N g xs σ K) (hk:∀ x aG,K x aG->K' x aG):l8 P Mv X G N g xs σ K':=
 ⟨h.1,fun w μ a vs hi hn hv=>(h.2 w μ a vs hi hn hv).mono fun _ _ ⟨v,x,aG,aI,he,k,rest⟩=>⟨v,x,aG,aI,he,hk _ _ k,rest⟩⟩
def gE:Op->Bool
 | .alloc _=>true
 | .box _ _=>true
 | .store _ _ _=>true
 | .makeSlice _ _ _=>true
 | .buildSlice _ _ _=>true
 | .makeMap _ _=>true
 | .mapUpdate _ _ _ _=>true
 | .insert _ _ _ _=>true
 | .call { callee:=.builtin .append,.. }=>true
 | .call { callee:=.builtin .copy,.. }=>true
 | _=>false
def dP:Op->Option Call
 | .call { callee:=.value f,args,argTypes }=>some { callee:=.value f,args,argTypes }
 | _=>none
def qT (T:Ty) (G:ay) (Mv:Nat->Prop) (o:Oper) (σ:St) (K:St->Prop):Prop:=
 if gE o.op then match wr T G Mv σ o with
  | some (c,x,aG)=>c/\K ⟨aL aG.env o.dst x,aG.H⟩
  | none=>False
 else match rd T G σ o.op with
  | some (c,x)=>c/\K ⟨aL σ.env o.dst x,σ.H⟩
  | none=>False
def mH (P:Program) (T:Ty) (Mv X:Nat->Prop) (G:ay) (N:Fr) (o:Oper) (σ:St) (K:St->Prop):Prop:=match dP o.op with
 | some c=>match kr G σ.env c with
  | some (g,xs)=>l8 P Mv X G N g xs σ fun x aG=>K ⟨aL aG.env o.dst x,aG.H⟩
  | none=>False
 | none=>qT T G Mv o σ K
def eI (N:Fr) (o:Oper):Prop:=match o.dst with
 | some d=>d < N.n
 | none=>True
section
variable {P:Program} {T:Ty} {Mv X:Nat->Prop} {G:ay} {N:Fr} {w:World} {μ:Mu} {a:Act} {σ:St}
theorem tS (hi:In w X G μ N a σ) {ops:Array Oper} {o:Oper} {b:Bool} (h:jb ops σ.env o=some b):Region.wanted o (yielded ops a.tmps)=b:=by
 unfold jb at h;unfold Region.wanted;split at h
 .rename_i hg;obtain rfl:=AI h;simp[hg]
 .rename_i j want hg;obtain⟨b',hb,rfl⟩:=AS.1 h;simp only[hg];unfold Fj at hb;split at hb
  .rename_i d hd;split at hb
   .rename_i b2 he;obtain rfl:=AI hb;obtain⟨u,hu,hr⟩:=hi.env.slot d _ he;obtain rfl:=hr.scalar;simp[yielded,hd,hu]
   .rename_i he;obtain rfl:=AI hb;obtain⟨u,hu,hr⟩:=hi.env.slot d _ he;obtain rfl:=hr.scalar;simp[yielded,hd,hu]
   .cases hb
  .cases hb
theorem ahy (hi:In w X G μ N a σ) {o:Oper} {c:Call} {g:FuncId} {xs:List AV} (ho:o.op = .call c) (h:kr G σ.env c=some (g,xs)) :
  ∃ vs:Array Value,(execOp a.eval o).run P w=(callFunc g vs).run P w/\vs.size=xs.length/\∀ (i:Nat) (u:Value) (x:AV),vs[i]? = some u->xs[i]? = some x->RV w X μ u x:=by
 unfold kr at h;split at h
 .rename_i f hf
  have key:∀ (caps:List AV) (arr:Array Value) (ys:List AV),a.eval f = .func (.func g) #[] arr->arr.size=caps.length->(∀ (j:Nat) (u:Value) (c:AV),arr[j]? = some u->caps[j]? = some c->RV w X μ u c)->oR G σ.env c.args.toList=some ys->xs=ys ++ caps->
    ∃ vs:Array Value,(execOp a.eval o).run P w=(callFunc g vs).run P w/\vs.size=xs.length/\∀ (i:Nat) (u:Value) (x:AV),vs[i]? = some u->xs[i]? = some x->RV w X μ u x:=by
   intro caps arr ys xZ hn hr hy hx;obtain⟨hl,hv⟩:=hi.oR hy;refine⟨c.args.map a.eval ++ arr,?_,?_,fun i u x hu qN=>?_⟩
   .simp[execOp,ho,resolve,hf,xZ,Deferred.ofValue,invoke]
   .simp only[aki,aj8]at hl;subst hx;simp[hl,hn]
   .subst hx
    have fo:(c.args.map a.eval).size=ys.length:=by simpa using hl
    rw[Array.getElem?_append]at hu;rw[ak2]at qN;split at hu
    .rename_i h1;rw[if_pos aa]at qN;exact hv i u x (by rw[<- Array.toList_map,ajT];exact hu) qN
    .rename_i h1;rw[if_neg aa]at qN;rw[fo]at hu;exact hr _ u x hu qN
  split at h
  .rename_i g' caps ys he hy;obtain⟨rfl,rfl⟩:=eh h;obtain⟨arr,xZ,hn,hr⟩:=(hi.eval he).data.zS;exact key (caps.map .d) arr ys xZ (by simpa using hn) (RV.Bd hr) hy rfl
  .rename_i g' caps ys he hy;obtain⟨rfl,rfl⟩:=eh h;obtain⟨arr,xZ,hn,hr⟩:=(hi.eval he).zS;exact key caps arr ys xZ hn hr hy rfl
  .rename_i g' y ys he hy;obtain⟨rfl,rfl⟩:=eh h;obtain⟨v,xZ,hr⟩:=(hi.eval he).WC;obtain⟨hl,hv⟩:=hi.oR hy;refine⟨#[v] ++ c.args.map a.eval,?_,?_,fun i u x hu qN=>?_⟩
   .simp[execOp,ho,resolve,hf,xZ,Deferred.ofValue,invoke]
   .simp only[aki,aj8]at hl;simp[hl];omega
   .cases i with
    | zero=>
     rw[akm ak]at hu;simp at hu qN;subst hu qN;exact hr
    | succ i=>
     rw[List.getElem?_cons_succ]at qN;rw[Array.getElem?_append_right ak]at hu;simp only[akO,ajP,akA,akg,Nat.add_sub_cancel]at hu;exact hv i u x (by rw[<- Array.toList_map,ajT];exact hu) qN
  .cases h
 .cases h
theorem B3 (hg:Good P T) (hi:In w X G μ N a σ) {o:Oper} {K:St->Prop} (hd:∀ d,o.dst=some d->d < N.n) (h:mH P T Mv X G N o σ K) {Q:Exit->Act->World->Prop} {next:Act->World->Prop}
  (hk:∀ w' aI a' aG,K aG->In w' X G aI N a' aG->Ev Mv w μ w' aI->next a' w'):o.wpIn (wd N.ro) 0 P a w next Q:=by
 refine xf (fun c e=>by simp[mH,e,dP,qT,gE,rd]at h) ?_;unfold mH at h;split at h
 .rename_i c hc
  have ho:o.op = .call c:=by
   unfold dP at hc;split at hc
   .rename_i jN;rw[jN];obtain rfl:=AI hc;rfl
   .cases hc
  split at h
  .rename_i g xs ht;obtain⟨vs,hr,hn,hv⟩:=ahy (P:=P) hi ho ht;obtain⟨aad,fh⟩:=h;unfold Oper.wp;rw[hr,aad vs w];refine (fh w μ a vs hi hn hv).mono fun e w' ⟨v,x,aG,aI,he,k,aO,gM,aW⟩=>?_;subst he;exact hk _ aI _ _ k (aO.put gM hd) aW
  .exact h.elim
 .unfold qT at h;split at h
  .split at h
   .rename_i c x aG hw;obtain⟨hc,k⟩:=h;obtain⟨n,v,w',aI,hr,hn,aO,gM,aW⟩:=aii (Mv:=Mv) hg hi hw hc hd;unfold Oper.wp;rw[hr]
    rcases hn with rfl | ⟨rfl,rfl⟩
    .exact hk _ aI _ _ k (aO.put gM hd) aW
    .exact hk _ aI _ _ k (aO.put gM hd) aW
   .exact h.elim
  .split at h
   .rename_i c x hw;obtain⟨hc,k⟩:=h;obtain⟨v,hr,gM⟩:=Hh hg hi hw hc;unfold Oper.wp;rw[hr];exact hk _ μ _ _ k (hi.put gM hd) (.refl _ w μ)
   .exact h.elim
def aD (P:Program) (G:ay) (g:FuncId) (ds:List D) (y:D):Prop:=
 iA P g/\∀ X,NH P (fun _=>True) X G g (ds.map .d) jj fun x H'=>x = .d y/\H'=jj
theorem eA.none {X':Nat->Prop} (h:∀ b,X' b->b < w.heap.size):eA w X' (fun _=>.none) jj:=
 ⟨by simp[jj],ak,ak,ak,h⟩
theorem RD.sub {X X':Nat->Prop} (h:∀ b,X' b->X b) {u:Value} {x:D} (hr:RD w X u x):RD w X' u x:=hr.mono (ajJ _) fun b _ hb=>⟨rfl,fun e=>hb (h b e)⟩
theorem pz {X:Nat->Prop} {b:Nat}:XX X (fun _=>none) b↔X b:=⟨fun h=>h.elim id (fun ⟨_,_,h,_⟩=>(by cases h)),.inl⟩
theorem Ev.qt {Mv:Nat->Prop} {w w':World} {aI:Mu} (h:Ev Mv w (fun _=>none) w' aI):cN w w':=⟨h.size,h.os,h.tape,h.output,fun b hb=>(h.same b hb fun ⟨_,_,h,_⟩=>by cases h).1⟩
theorem l8.pure {g:FuncId} {ds:List D} {y:D} (hc:aD P G g ds y) {K:AV->St->Prop} (h:K (.d y) σ):l8 P Mv X G N g (ds.map .d) σ K:=by
 refine⟨hc.1,fun w μ a vs hi hn hv=>?_⟩;refine (hc.2 (XX X μ) w (fun _=>none) vs (eA.none fun b hb=>hb.elim (hi.bq.fits b) hi.bq.mF) (fun g x hx=>(hi.jf g x hx).sub fun b=>pz.1) hn fun i u x hu hx=>?_).mono ?_
 .rw[ajK]at hx;obtain⟨d,hd,rfl⟩:=AS.1 hx;exact .d ((hv i u (.d d) hu (by rw[ajK,hd];rfl)).data.sub fun b=>pz.1)
 .rintro e w' ⟨v,x,H',aI,rfl,⟨rfl,rfl⟩,hr,hs,aW⟩;have hg:=aW.qt;obtain⟨aO,Cz⟩:=hi.qt (Mv:=Mv) hg;refine⟨v,.d y,σ,μ,rfl,h,aO,.d (hr.data.sub fun b hb=>.inl hb),Cz⟩
def l6 (f:AV->Option D):List AV->Option (List D)
 | []=>some []
 | x :: l=>match f x,l6 f l with
  | some y,some ys=>some (y :: ys)
  | _,_=>none
def nV:List (Value×D)->Option (List (Value×Value))
 | []=>some []
 | (k,.v x) :: l=>(nV l).map fun r=>(k,x) :: r
 | _ :: _=>none
theorem NZ:∀ {l:List (Value×D)} {r:List (Value×Value)},nV l=some r->l.length=r.length/\∀ (i:Nat) (p:Value×Value),r[i]? = some p->l[i]? = some (p.1,.v p.2)
 | [],r,h=>by simp only[nV,IS]at h;subst h;exact⟨rfl,ak⟩
 | (k,.v x) :: l,r,h=>by
  simp only[nV]at h;obtain⟨r',h1,rfl⟩:=AS.1 h;obtain⟨h2,h3⟩:=NZ h1;refine⟨by simp[h2],fun i p hp=>?_⟩
  cases i with
  | zero=>simp at hp;subst hp;rfl
  | succ i=>exact h3 i p (by simpa using hp)
 | (k,.sl _ _) :: l,r,h=>by simp[nV]at h
 | (k,.ip _) :: l,r,h=>by simp[nV]at h
 | (k,.agg _) :: l,r,h=>by simp[nV]at h
 | (k,.bz _) :: l,r,h=>by simp[nV]at h
 | (k,.cf _ _) :: l,r,h=>by simp[nV]at h
 | (k,.fn _ _) :: l,r,h=>by simp[nV]at h
 | (k,.qe _) :: l,r,h=>by simp[nV]at h
 | (k,.dm _ _) :: l,r,h=>by simp[nV]at h
def fW (H:Heap):Nat->AV->Option D
 | _,.d x=>some x
 | 0,_=>none
 | _+1,.own r off n=>match H r with
  | some (.sl _ _ els)=>if off+n<=els.length then some (.sl none ((els.drop off).take n)) else none
  | _=>none
 | k+1,.ref r e j=>match H r with
  | some (.box _ cells)=>if e=0 then (l6 (fW H k) (cells.drop j)).map .ip else none
  | _=>none
 | k+1,.agg cells=>(l6 (fW H k) cells).map .agg
 | k+1,.fn f caps=>(l6 (fW H k) caps).map (.fn f)
 | k+1,.bz cells=>(l6 (fW H k) cells).map .bz
 | k+1,.cf t x=>(fW H k x).map (.cf t)
 | _+1,.mp r=>match H r with
  | some (.mp _ ents)=>(nV ents).map (.dm false)
  | _=>none
 | _,_=>none
theorem RD.vx {u:Value} {k:Option Bool} {els:List (List D)} (h:RD w X u (.sl k els)):RD w X u (.sl none els):=by
 rcases h.rY with⟨rfl,rfl,_⟩ | ⟨a,cap,rfl,_,hc,hm,hr⟩
 .exact .nil ak
 .rcases hr with rfl | ⟨b,off,sz,f,rfl,hX,hz,hs,fb,lV⟩
  .exact .empty ak hm
  .by_cases h0:els=[]
   .subst h0;exact .empty ak hm
   .exact .sl ak rfl hc hm hX hs hz (aky.2 h0) fb lV
theorem Im {f:AV->Option D}:∀ {l:List AV} {ds:List D},l6 f l=some ds->l.length=ds.length/\∀ (j:Nat) (x:AV) (d:D),l[j]? = some x->ds[j]? = some d->f x=some d:=by
 intro l
 induction l with
 | nil=>intro ds h;simp only[l6,IS]at h;subst h;exact⟨rfl,ak⟩
 | cons x l ih=>
  intro ds h;simp only[l6]at h;split at h
  .rename_i y ys h1 h2;obtain rfl:=AI h;obtain⟨hl,hr⟩:=ih h2;refine⟨by simp[hl],fun j x' d hx hd=>?_⟩
   cases j with
   | zero=>simp at hx hd;subst hx hd;exact h1
   | succ j=>simp at hx hd;exact hr j x' d hx hd
  .cases h
theorem Ez {H:Heap} (hs:eA w X μ H):∀ (k:Nat) {x:AV} {d:D} {u:Value},fW H k x=some d->RV w X μ u x->RD w X u d:=by
 intro k
 induction k with
 | zero=>
  intro x d u h hu;cases x<;>simp only[fW,IS,reduceCtorEq]at h;subst h;exact hu.data.sub fun b hb=>.inl hb
 | succ k ih=>
  intro x d u h hu
  have many:∀ {l:List AV} {ds:List D} {arr:Array Value},l6 (fW H k) l=some ds->arr.size=l.length->(∀ (j:Nat) (u:Value) (c:AV),arr[j]? = some u->l[j]? = some c->RV w X μ u c)->
    arr.size=ds.length/\∀ (j:Nat) (u:Value) (c:D),arr[j]? = some u->ds[j]? = some c->RD w X u c:=by
   intro l ds arr hd hn hr;obtain⟨hl,hf⟩:=Im hd;refine⟨aa,fun j u c hu hc=>?_⟩;have hj:=(BY.1 hc).1
   have c6:j < l.length:=aa
   exact ih (hf j l[j] c (by simp[c6]) hc) (hr j u _ hu (by simp[c6]))
  cases x with
  | d x=>
   simp only[fW,IS]at h;subst h;exact hu.data.sub fun b hb=>.inl hb
  | own r off n=>
   simp only[fW]at h;split at h
   .rename_i ty sz els hr;split at h
    .rename_i hle;obtain rfl:=AI h;obtain⟨kk,bY,_⟩:=G8 (σ:=⟨fun _=>none,H⟩) hs hr hle hu;exact (bY.sub fun b hb=>.inl hb).vx
    .cases h
   .cases h
  | ref r e j=>
   simp only[fW]at h;split at h
   .rename_i ty cells hr;split at h
    .rename_i he;subst he;obtain⟨ds,hd,rfl⟩:=AS.1 h;obtain⟨m,b,hm,hb,rfl⟩:=hu.lG;obtain⟨m',cF,ok⟩:=hs.rows r _ hr;rw[hm]at cF;obtain rfl:=AI cF
     cases ok with
     | box bk bd kC hh hn lV AN=>
      rename_i b' cur;rw[hb]at bk;obtain rfl:=AI bk;obtain⟨hl,hf⟩:=Im hd;simp only[aj5]at hl;simp only[ak5,akg];refine .ip (f:=fun i=>cur.getD (j+i) undef) (hs.frame r m b hm hb) (abi.1 hh).1 (fun i hi=>?_) fun i d fm=>?_
      .rw[cell_of_row w b (j+i) cur ty (0,0) hh];simp[ajF,show j+i < cur.size by omega]
      .have hi:=(BY.1 fm).1
       have fc:j+i < cells.length:=aa
       have gJ:j+i < cur.size:=aa
       refine ih (hf i cells[j+i] d (by rw[akc];simp[fc]) fm) (lV (j+i) _ _ ?_ (by simp[fc]));simp[ajF,gJ]
    .cases h
   .cases h
  | agg cells=>
   simp only[fW]at h;obtain⟨ds,hd,rfl⟩:=AS.1 h;obtain⟨arr,rfl,hn,hr⟩:=hu.sN;obtain⟨h1,h2⟩:=many hd hn hr;exact .agg h1 h2
  | fn f caps=>
   simp only[fW]at h;obtain⟨ds,hd,rfl⟩:=AS.1 h;obtain⟨arr,rfl,hn,hr⟩:=hu.zS;obtain⟨h1,h2⟩:=many hd hn hr;exact .fn h1 h2
  | bz cells=>
   simp only[fW]at h;obtain⟨ds,hd,rfl⟩:=AS.1 h;obtain⟨arr,rfl,hn,hr⟩:=hu.Bw;obtain⟨h1,h2⟩:=many hd hn hr;exact .bz h1 h2
  | cf t x=>
   simp only[fW]at h;obtain⟨d',hd,rfl⟩:=AS.1 h;obtain⟨v,rfl,hr⟩:=hu.tv;exact .cf (ih hd hr)
  | mp r=>
   simp only[fW]at h;split at h
   .rename_i ty ents hr;obtain⟨es,he,rfl⟩:=AS.1 h;obtain⟨m,b,hm,hb,rfl⟩:=hu.LZ;obtain⟨I7,hh,hn,yl,_⟩:=hs.LP hr hm hb;obtain⟨hl,hv⟩:=NZ he
    have heq:I7=j6 es:=by
     refine Array.ext (by rw[qS];omega) fun i h1 h2=>?_
     have hi:i < es.length:=by rw[qS]at h2;exact h2
     have h3:=hv i es[i] (by simp[hi]);obtain⟨k1,k2,k3⟩:=yl i I7[i] _ (by simp[h1]) h3;have k4:=k3.scalar;have h5:=A5 hi;rw[ajZ h2]at h5;rw[AI h5];generalize I7[i]=e at k1 k2 k4;cases e;simp only at k1 k2 k4;rw[k1,k2,k4]
    refine .dm (hs.frame r m b hm hb) ?_ (List.Perm.refl _) ak;rw[hh,heq,qS]
   .cases h
  | _=>simp[fW]at h
def D.scalar:D->Bool
 | .v _=>true
 | .bz l=>l.all fun | .v _=>true | _=>false
 | _=>false
theorem RD.agz {X X':Nat->Prop} {w w':World} {u:Value} {x:D} (h:RD w X u x) (hs:x.scalar=true):RD w' X' u x:=by
 cases x with
 | v x=>obtain rfl:=h.scalar;exact .v _
 | bz l=>
  obtain⟨arr,rfl,hn,hr⟩:=h.Bw;refine .bz hn fun j u c hu hc=>?_;have:=akz.1 hs c (akn hc)
  cases c with
  | v x=>obtain rfl:=(hr j u _ hu hc).scalar;exact .v _
  | _=>cases this
 | _=>cases hs
theorem l8.sB {g:FuncId} {xs:List AV} {ds:List D} {y:D} (hd:l6 (fW σ.H 4) xs=some ds) (hc:aD P G g ds y) (hy:y.scalar=true) {K:AV->St->Prop} (h:K (.d y) σ):l8 P Mv X G N g xs σ K:=by
 refine⟨hc.1,fun w μ a vs hi hn hv=>?_⟩;obtain⟨hl,hf⟩:=Im hd;refine (hc.2 X w (fun _=>none) vs (eA.none hi.bq.fits) (fun g x hx=>(hi.jf g x hx).sub fun b hb=>.inl (pz.1 hb)) (by rw[aki];omega) fun i u x hu hx=>?_).mono ?_
 .rw[ajK]at hx;obtain⟨d,fm,rfl⟩:=AS.1 hx;have hj:=(BY.1 fm).1
  have c6:i < xs.length:=aa
  exact .d ((Ez hi.bq 4 (hf i xs[i] d (by simp[c6]) fm) (hv i u _ hu (by simp[c6]))).sub fun b=>pz.1)
 .rintro e w' ⟨v,x,H',aI,rfl,⟨rfl,rfl⟩,hr,hs,aW⟩;obtain⟨aO,Cz⟩:=hi.qt (Mv:=Mv) aW.qt;exact⟨v,.d y,σ,μ,rfl,h,aO,.d (hr.data.agz hy),Cz⟩
end
theorem alI:type_of% @bW.eq_1:=@bW.eq_1
theorem alJ:type_of% @bW.eq_2:=@bW.eq_2
theorem alK:type_of% @cT.eq_1:=@cT.eq_1
