/- Parts. -/
import Derived.Test.YtdigkhaofjmgkaaGreatDoorFx6
import Derived.Lib.AppendStr
set_option linter.unusedSectionVars false
set_option linter.unusedSimpArgs false
set_option linter.unusedVariables false
namespace Go.Av
def aeH (s:ByteArray):List (List D):=s.data.toList.map fun b=>[D.v (.int .u8 b.toNat)]
theorem G1 (s:ByteArray):(aeH s).length=s.size:=by simp[aeH]
section
variable {P:Program} {T:Ty} {Mv X:Nat->Prop} {G:aq} {N:Fr} {w:World} {μ:Mu} {a:Act} {σ:St}
theorem G2 (s:ByteArray):Rel w X μ 1 (Lib.strCells s) (aeH s):=by
 intro i j el c hi hj;unfold aeH at hi;rw[abM]at hi;obtain⟨b,hb,rfl⟩:=AT.1 hi
 match j,hj with
 | 0,hj=>
  simp at hj;subst hj;exact⟨_,by simp[Lib.strCells,hb],.v _⟩
 | j+1,hj=>simp at hj
theorem Yu {t t' ty e:TypeId} {tt ts te:TI} (hg:Good P T) (cC:T t=some tt) (cM:tt.desc = .slice e) (oB:T t'=some ts) (jo:ts.desc = .string) (cg:T e=some te) (base:Option Addr) (n cap:Nat) (hn:n<=cap) {s:ByteArray} (hs0:s.size=0) :
  (Builtin.append_ #[t,t'] ty #[.slice base n cap,.string s]).run P w = .ok (.slice base n cap) w:=by
 have hu:=hg.cy (w:=w) cC;have hu':=hg.cy (w:=w) oB;have aK:=hg.sizeOf (w:=w) cg;have hf:=Lib.run_firstCells_string (P:=P) w te.size s;have hn0:Lib.strCells s=[]:=acq (by rw[Lib.strCells_length];exact hs0);rw[hs0,hn0]at hf;cases base<;>simp[Builtin.append_,hu,cM,hu',jo,aK,Builtin.lenOf,hn,hs0,hf,storeCells]
theorem ahv (hg:Good P T) (hi:In w X G μ N a σ) {r n:Nat} (eG:Mv r) {t t' ty e:TypeId} {tt ts te:TI} (cC:T t=some tt) (cM:tt.desc = .slice e) (oB:T t'=some ts) (jo:ts.desc = .string) (cg:T e=some te) {els:List (List D)} {u:Value} {s:ByteArray}
  (hH:σ.H r=some (.sl e 1 els)) (hle:n<=els.length) (hu:RV w X μ u (.own r 0 n)) (uO:te.size=1) (hb1:te.bytes=1) (xv:te.zero = .int .u8 0) (hb:n+s.size<=140737488355328) :
  aej Mv X G N w μ a ((Builtin.append_ #[t,t'] ty #[u,.string s]).run P w) (.own r 0 (n+s.size)) ⟨cN r σ.env,aM (cO r σ.H) r (.sl e 1 (els.take n ++ aeH s))⟩:=by
 obtain⟨m,hm,hh⟩:=hu.je;obtain⟨m',bU,ok⟩:=hi.aX.rows r _ hH;rw[hm]at bU;obtain rfl:=AI bU;obtain⟨sI,i0,js,hs0,hb0,hz0,_⟩:=hg e te cg;have ht:=(hg t tt cC).1;rw[cM]at ht;have qY:=(hg t' ts oB).1;rw[jo]at qY
 have zl:n+s.size<=maxLen:=by unfold maxLen;omega
 have Jo:n+s.size<=9223372036854775807:=by omega
 have gM:=G1 s
 have Sh:∀ el∈aeH s,el.length=1:=by
  intro el hel;obtain⟨b,_,rfl⟩:=acD.1 hel;rfl
 have so:∀ el∈els,el.length=1:=by
  cases ok with
  | nil=>simp
  | sl _ _ _ _ _ _ hl=>exact hl
 have ago:∀ el∈els.take n ++ aeH s,el.length=1:=by
  intro el hel
  rcases ab4.1 hel with h | h
  .exact so el (acd h)
  .exact Sh el h
 by_cases aI:s.size=0
 .-- nothing is appended
  have Q9:aeH s=[]:=acq (by rw[gM];exact aI)
  have kQ:∃ base c,u = .slice base n c/\n<=c:=by
   rcases hh with⟨_,rfl,_,rfl⟩ | ⟨b,_,rfl,ad7⟩
   .exact⟨_,_,rfl,abL _⟩
   .exact⟨_,_,rfl,by omega⟩
  obtain⟨base,c',xl,DP⟩:=kQ;have ab6:=Yu (P:=P) (w:=w) (ty:=ty) hg cC cM oB jo cg base n c' DP aI;rw[xl,ab6,Q9,aI]
  obtain⟨aF,aH⟩:=hi.move (Mv:=Mv) (w':=w) (m':=m) hm eG (abL _) rfl rfl rfl (fun _ _ _=>rfl) (fun b hb=>.inr hb) (row:=.sl e 1 (els.take n ++ [])) fun ev=>by
   rw[adp]
   cases ok with
   | nil hb1 hs1=>rw[List.take_nil];exact .nil hb1 hs1
   | sl g1 g2 g3 g4 g5 g6 g7 g8 g9=>
    refine .sl g1 g2 g3 g4 (by simp;omega) g6 (fun el hel=>g7 el (acd hel)) g8 fun i j el c hel hc=>?_;rw[acu]at hel;split at hel
    .obtain⟨v,hv,bD⟩:=g9 i j el c hel hc;exact⟨v,hv,bD.ev ev⟩
    .cases hel
  refine⟨_,_,_,rfl,aF,.own (m:=m) (by simp[mup]) ?_,aH⟩;rw[<- xl];exact hh
 .have Jc:0 < s.size:=by omega
  have hnl:(Lib.strCells s).length=s.size:=Lib.strCells_length s
  have pW:te.zero.cells.size=1:=by rw[xv];rfl
  have xL:∀ (xs:List Value) (fP:Nat),xs.length=n->Rel w X μ 1 xs (els.take n)->n+s.size<=fP->fP<=maxLen->m.sz=1->
    aej Mv X G N w μ a (.ok (.slice (some ⟨w.heap.size,0,none⟩) (n+s.size) fP) (w.drew.alloc (.cells (xs.toArray ++ (Lib.strCells s).toArray ++ Builtin.zeroCells te.zero.cells (fP - (n+s.size))) e)))
     (.own r 0 (n+s.size)) ⟨cN r σ.env,aM (cO r σ.H) r (.sl e 1 (els.take n ++ aeH s))⟩:=by
   intro xs fP hxl pV dA fV dh
   have kf:bZ w (w.drew.alloc (.cells (xs.toArray ++ (Lib.strCells s).toArray ++ Builtin.zeroCells te.zero.cells (fP - (n+s.size))) e)):=by
    have h1:=bZ.alloc w.drew (.cells (xs.toArray ++ (Lib.strCells s).toArray ++ Builtin.zeroCells te.zero.cells (fP - (n+s.size))) e);exact⟨h1.size,h1.os,h1.tape,h1.output,h1.same⟩
   have aK:(xs.toArray ++ (Lib.strCells s).toArray ++ Builtin.zeroCells te.zero.cells (fP - (n+s.size))).size=fP * 1:=by
    simp only[Array.size_append,aey,size_zeroCells,pW,hxl,hnl];omega
   obtain⟨aF,aH⟩:=hi.move (Mv:=Mv) (w':=w.drew.alloc (.cells (xs.toArray ++ (Lib.strCells s).toArray ++ Builtin.zeroCells te.zero.cells (fP - (n+s.size))) e)) (m':=⟨some w.heap.size,1,fP⟩) hm eG kf.size kf.os kf.tape kf.output
    (fun k hk _=>kf.same k hk) (fun b hb=>by simp at hb;omega) (row:=.sl e 1 (els.take n ++ aeH s)) fun ev=>by
     refine .sl rfl rfl (by simpa using heap_alloc_new w.drew (.cells (xs.toArray ++ (Lib.strCells s).toArray ++ Builtin.zeroCells te.zero.cells (fP - (n+s.size))) e)) aK (by simp[gM];omega) fV ago (by decide) fun i j el c hi hj=>?_;have hrel:=((pV.append (by rw[hxl,acz,afa hle,aen]) (fun el hel=>so el (acd hel)) (G2 s)).more (l':=(Builtin.zeroCells te.zero.cells (fP - (n+s.size))).toList)) i j el c hi hj;obtain⟨v,hv,bD⟩:=hrel;refine⟨v,?_,bD.ev ev⟩;rw[<- ab2];simpa using hv
   exact⟨_,_,_,rfl,aF,.own (m:=⟨some w.heap.size,1,fP⟩) (by simp[mup]) (.inr ⟨w.heap.size,rfl,by simp,by simpa using dA⟩),aH⟩
  have dh:m.sz=1:=by
   cases ok with
   | nil _ h=>exact h
   | sl _ h=>exact h
  rcases hh with⟨iS,rfl,_,rfl⟩ | ⟨b,iS,rfl,ad7⟩
  .have hr:=run_append_nil_string (P:=P) w t t' ty e i0 te.zero ht qY js hz0 s (by omega) (by omega) (by rw[hb0,hb1];omega);rw[hr]
   have e1:(s.data.map fun b=>Value.int .u8 b.toNat)=(Lib.strCells s).toArray:=by
    apply Array.ext';simp[Lib.strCells]
   have:=xL [] (grownCap w s.size 0 e) (by simp) (by intro i j el c hi;simp at hi) (by have:=grownCap_ge w s.size 0 e;omega) (grownCap_le_maxLen w s.size 0 e (by unfold maxLen;omega)) dh;rw[e1];simpa using this
  .cases ok with
   | nil aU _=>rw[aU]at iS;cases iS
   | sl aU aK ot b8 mM fh hl hz' hr=>
    rename_i b' cur;rw[iS]at aU;obtain rfl:=AI aU
    have agV:n<=m.cap:=by omega
    have Ru:cur.size=m.cap:=by omega
    have hxl:(cur.toList.take n).length=n:=by rw[acz,ado,Ru,afa agV]
    have pV:Rel w X μ 1 (cur.toList.take n) (els.take n):=by
     intro i j el c hel hc;rw[acu]at hel;split at hel
     .rename_i aF;obtain⟨v,hv,bD⟩:=hr i j el c hel hc;have wR:el.length=1:=hl _ (adG hel)
      have hj:j < 1:=by rw[<- wR];exact (OF.1 hc).1
      refine⟨v,?_,bD⟩;rw[acu,if_pos (by omega)];simpa using hv
     .cases hel
    rw[dh,aea,Nat.sub_zero];by_cases uF:n+s.size<=m.cap
    .have ab6:=Lib.run_append_room_string (P:=P) w t t' ty e i0 ht qY js (by rw[hs0,uO]) b n m.cap cur ot s uF (by omega);rw[ab6]
     obtain⟨aF,aH⟩:=hi.move (Mv:=Mv) (w':=w.setRow b (cur.toList.take n ++ Lib.strCells s ++ cur.toList.drop (n+s.size)).toArray) (m':=m) hm eG (by simp) rfl rfl rfl
      (fun k hk DQ=>setRow_other w b k _ fun e'=>DQ (by rw[iS,e'])) (fun b hb=>.inr hb) (row:=.sl e 1 (els.take n ++ aeH s)) fun ev=>by
       refine .sl iS dh (setRow_heap w b cur _ e _ ot) ?_ (by simp[gM];omega) fh ago (by decide) fun i j el c hi hj=>?_
       .simp only[aey,acC,acz,acK,ado,hnl];omega
       .obtain⟨v,hv,bD⟩:=((pV.append (by rw[hxl,acz,afa hle,aen]) (fun el hel=>so el (acd hel)) (G2 s)).more (l':=cur.toList.drop (n+s.size))) i j el c hi hj;exact⟨v,by rw[<- ab2];simpa using hv,bD.ev ev⟩
     refine⟨_,_,_,rfl,aF,.own (m:=m) (by simp[mup]) (.inr ⟨b,iS,by simp,by simpa using uF⟩),aH⟩
    .have ab6:=Lib.run_append_grow_string (P:=P) w t t' ty e i0 te.zero ht qY js hz0 ⟨b,0,none⟩ n m.cap (cur.toList.take n) (by rw[hxl,hs0,uO,aen]) (fun j v hv=>by
      rw[addr_add,cell_of_row w b _ cur e (0,0) ot];rw[acu]at hv;split at hv
      .simpa using hv
      .cases hv) s (by omega) (by omega) (by rw[hb0,hb1];exact growslice_fits (by omega) (by omega))
     rw[ab6];exact xL _ _ hxl pV (grownCap_ge _ _ _ _) (grownCap_le_maxLen w _ _ e zl) dh
end
end Go.Av
namespace Go.Av
def kC (G:aq) (e:Env):List Operand->Option (List AV)
 | []=>some []
 | o :: l=>match bh G e o,kC G e l with
  | some x,some xs=>some (x :: xs)
  | _,_=>none
def jI (G:aq) (e:Env):List (Nat×Operand)->Option (List (Nat×AV))
 | []=>some []
 | (i,o) :: l=>match bh G e o,jI G e l with
  | some x,some xs=>some ((i,x) :: xs)
  | _,_=>none
def bo (x:AV) (b:Bool):AV:=match x with
 | .d y=>.d (.aW [y,.v (.bool b)])
 | x=>.aW [x,.d (.v (.bool b))]
theorem Ff {w:World} {X:Nat->Prop} {μ:Mu} {u:Value} {x:AV} {b:Bool} (hx:RV w X μ u x):RV w X μ (.tuple #[u,.bool b]) (bo x b):=by
 unfold bo;split
 .refine .d (.aW rfl fun j v c hv hc=>?_)
  match j,hv,hc with
  | 0,hv,hc=>simp at hv hc;subst hv hc;exact hx.data
  | 1,hv,hc=>simp at hv hc;subst hv hc;exact .v _
  | j+2,hv,hc=>simp at hv
 .refine .aW rfl fun j v c hv hc=>?_
  match j,hv,hc with
  | 0,hv,hc=>simp at hv hc;subst hv hc;exact hx
  | 1,hv,hc=>simp at hv hc;subst hv hc;exact .d (.v _)
  | j+2,hv,hc=>simp at hv
def b5 (T:Ty) (asserted:TypeId) (ld:Bool) (x:AV):hU:=match T asserted with
 | none=>none
 | some ti=>match x with
  | .d (.v .nilIface)=>if ld then some (True,bo (ff ti.zero) false) else none
  | .d (.bt t y)=>if TypeDesc.isIface ti.desc then none else if t=asserted then some (True,if ld then bo (.d y) true else .d y) else if ld then some (True,bo (ff ti.zero) false) else none
  | .bt t y=>if TypeDesc.isIface ti.desc then none else if t=asserted then some (True,if ld then bo y true else y) else if ld then some (True,bo (ff ti.zero) false) else none
  | _=>none
theorem NW {P:Program} {T:Ty} (hg:Good P T) {w:World} {X:Nat->Prop} {μ:Mu} {asserted xT:TypeId} {ld:Bool} {u:Value} {x z:AV} {c:Prop} (h:b5 T asserted ld x=some (c,z)) (hx:RV w X μ u x) :
  ∃ r,(Instr.typeAssert u xT asserted ld).run P w = .ok r w/\RV w X μ r z:=by
 unfold b5 at h;split at h
 .cases h
 .rename_i ti ht
  have one:∀ (t:TypeId) (v:Value) (y:AV),RV w X μ v y->(if TypeDesc.isIface ti.desc then none else if t=asserted then some (True,if ld then bo y true else y) else if ld then some (True,bo (ff ti.zero) false) else none)=some (c,z)->
    ∃ r,(Instr.typeAssert (.iface t v) xT asserted ld).run P w = .ok r w/\RV w X μ r z:=by
   intro t v y hy h;by_cases kM:TypeDesc.isIface ti.desc=true
   .rw[if_pos kM]at h;cases h
   .rw[if_neg kM]at h;by_cases mQ:t=asserted
    .rw[if_pos mQ]at h;simp only[AS,BY]at h;obtain⟨_,rfl⟩:=h;subst mQ;refine⟨if ld then .tuple #[v,.bool true] else v,?_,?_⟩
     .cases hd:ti.desc<;>first | (rw[hd]at kM;exact absurd rfl kM) | (simp[Instr.typeAssert,hg.cy ht,hd])
     .cases ld
      .exact hy
      .exact Ff hy
    .rw[if_neg mQ]at h
     cases ld with
     | false=>cases h
     | true=>
      simp only[if_true,AS,BY]at h;obtain⟨_,rfl⟩:=h;refine⟨.tuple #[ti.zero,.bool false],?_,Ff (Ck _)⟩
      cases hd:ti.desc<;>first | (rw[hd]at kM;exact absurd rfl kM) | (simp[Instr.typeAssert,hg.cy ht,hd,mQ,hg.zero ht])
  split at h
  .split at h
   .rename_i aP;simp only[AS,BY]at h;obtain⟨_,rfl⟩:=h;have:=hx.scalar;subst this;refine⟨.tuple #[ti.zero,.bool false],?_,Ff (Ck _)⟩;subst aP;cases hd:ti.desc<;>simp[Instr.typeAssert,hg.cy ht,hd,hg.zero ht]
   .cases h
  .rename_i t y;obtain⟨v,rfl,hv⟩:=hx.data.oC;exact one t v (.d y) (.d hv) h
  .rename_i t y;obtain⟨v,rfl,hv⟩:=hx.oC;exact one t v y hv h
  .cases h
def rd (T:Ty) (G:aq) (σ:St):Op->hU
 | .move x=>(bh G σ.env x).map fun v=>(True,v)
 | .assign x=>(bh G σ.env x).map fun v=>(True,v)
 | .binOp op t x y _=>match bh G σ.env x,bh G σ.env y with
  | some a,some b=>yJ T op t y a b
  | _,_=>none
 | .unOp op _ x=>(bh G σ.env x).bind (Br op)
 | .load t x=>(bh G σ.env x).bind (aef T σ.H t)
 | .fieldAddr t x f=>(bh G σ.env x).bind (y6 T t f)
 | .field t x f=>(bh G σ.env x).bind (y5 T t f)
 | .indexAddr t x i=>match bh G σ.env x,bh G σ.env i with
  | some a,some b=>mR T σ.H t a b
  | _,_=>none
 | .index t x i=>match bh G σ.env x,bh G σ.env i with
  | some a,some b=>z6 T t a b
  | _,_=>none
 | .extract x i=>(bh G σ.env x).bind (y4 i)
 | .makeInterface t x=>(bh G σ.env x).bind (Aw T t)
 | .makeFunc f first caps=>if first.isEmpty then (kC G σ.env caps.toList).map fun cs=>(True,xI f cs) else match f,first.toList,caps.toList with
  | .func g,[x],[]=>(bh G σ.env x).map fun v=>(True,.bm g v)
  | _,_,_=>none
 | .pick c x y=>match bh G σ.env c,bh G σ.env x,bh G σ.env y with
  | some (.d (.v (.bool b))),some a1,some a2=>some (True,if b then a1 else a2)
  | _,_,_=>none
 | .nilCheck x=>(bh G σ.env x).bind AD
 | .build t parts=>(jI G σ.env parts.toList).bind (yM T t)
 | .convert src dst x=>if (T src).isSome then (bh G σ.env x).bind (yS T dst) else none
 | .slice t x lo hi mx=>if mx.isNone then match bh G σ.env x,bound G σ.env lo,bound G σ.env hi with
   | some v,some l,some h=>nZ T σ.H t v l h
   | _,_,_=>none
  else none
 | .typeAssert x _ t b=>(bh G σ.env x).bind (b5 T t b)
 | .lookup t x i b=>match bh G σ.env x,bh G σ.env i with
  | some a,some k=>kU T σ.H t b a k
  | _,_=>none
 | .call { callee:=.builtin .len,args,argTypes }=>match args.toList,argTypes.toList with
  | [x],[t]=>(bh G σ.env x).bind (Ar T t)
  | _,_=>none
 | .call { callee:=.builtin .max,args,.. }=>match args.toList with
  | [x,y]=>match bh G σ.env x,bh G σ.env y with
   | some (.d (.v (.int k a))),some (.d (.v (.int k' b)))=>some (True,.d (.v (.int k (if b > a then b else a))))
   | _,_=>none
  | _=>none
 | .call { callee:=.builtin .min,args,.. }=>match args.toList with
  | [x,y]=>match bh G σ.env x,bh G σ.env y with
   | some (.d (.v (.int k a))),some (.d (.v (.int k' b)))=>some (True,.d (.v (.int k (if b < a then b else a))))
   | _,_=>none
  | _=>none
 | _=>none
def FX (T:Ty) (G:aq) (Mv:Nat->Prop) (σ:St) (t t':TypeId) (x y:Operand):Option (Prop×AV×St):=match T t,T t' with
 | some tt,some ts=>match tt.desc,ts.desc with
  | .slice e,.string=>match T e,bh G σ.env x,bh G σ.env y with
   | some te,some (.own r off n),some (.d (.v (.string s)))=>match σ.H r with
    | some (.sl ty sz els)=>some (off=0/\Mv r/\ty=e/\sz=1/\n<=els.length/\te.size=1/\te.bytes=1/\te.zero = .int .u8 0/\n+s.size<=140737488355328,
      .own r 0 (n+s.size),⟨cN r σ.env,aM (cO r σ.H) r (.sl e 1 (els.take n ++ aeH s))⟩)
    | _=>none
   | _,_,_=>none
  | _,_=>none
 | _,_=>none
def wr (T:Ty) (G:aq) (Mv:Nat->Prop) (σ:St) (o:Oper):Option (Prop×AV×St):=match o.op,o.dst with
 | .alloc t,some d=>match T t with
  | some ti=>some (σ.H d=none,.ref d 0 0,⟨σ.env,aM σ.H d (.box t ((adx ti.zero).map .d))⟩)
  | none=>none
 | .box t x,some d=>match (bh G σ.env x).bind gm with
  | some cs=>some (σ.H d=none,.ref d 0 0,⟨σ.env,aM σ.H d (.box t cs)⟩)
  | none=>none
 | .store t x y,none=>match bh G σ.env x,bh G σ.env y with
  | some (.ref r e j),some v=>match σ.H r with
   | some (.box ty cells)=>if e=0 then match Bl T t cells j v with
     | some (c,qm)=>some (c,.dead,⟨σ.env,aM σ.H r (.box ty qm)⟩)
     | none=>none
    else none
   | some (.sl ty sz els)=>match Bm T t sz els e j v with
    | some (c,kB)=>some (c,.dead,⟨σ.env,aM σ.H r (.sl ty sz kB)⟩)
    | none=>none
   | some (.mp _ _)=>none
   | some (.it _ _)=>none
   | none=>none
  | _,_=>none
 | .makeSlice t l c,some d=>match T t with
  | some tt=>match tt.desc with
   | .slice e=>match T e,bh G σ.env l,bh G σ.env c with
    | some te,some (.d (.v (.int _ n))),some (.d (.v (.int _ m)))=>some (σ.H d=none/\0<=n/\n<=m/\te.bytes * m<=281474976710656/\m<=9223372036854775807/\0 < te.size/\(adx te.zero).length=te.size,.own d 0 n.toNat,⟨σ.env,aM σ.H d (.sl e te.size (mW te n.toNat))⟩)
    | _,_,_=>none
   | _=>none
  | none=>none
 | .buildSlice t len parts,some d=>match T t with
  | some tt=>match tt.desc with
   | .slice e=>match T e,jI G σ.env parts.toList with
    | some te,some ps=>match ql te.size 0 ps with
     | some els=>some (σ.H d=none/\ps.length=len/\0 < te.size/\len * te.size<=16777216,.own d 0 len,⟨σ.env,aM σ.H d (.sl e te.size els)⟩)
     | none=>none
    | _,_=>none
   | _=>none
  | none=>none
 | .call { callee:=.builtin .append,args,argTypes },some d=>match args.toList,argTypes.toList with
  | [x,y],[t,t']=>if t=t' then match T t with
   | some tt=>match tt.desc with
    | .slice e=>match T e,bh G σ.env x,bh G σ.env y with
     | some te,some (.own r off n),some v=>match σ.H r,jA σ.H r v with
      | some (.sl ty sz els),some news=>some (off=0/\Mv r/\ty=e/\sz=te.size/\n<=els.length/\(∀ el∈news,el.length=te.size)/\(∀ el∈news,∀ c∈el,D.one c=true)/\0 < te.size/\(adx te.zero).length=te.size/\n+news.length<=9223372036854775807/\(n+news.length) * te.bytes<=140737488355328,
        .own r 0 (n+news.length),⟨cN r σ.env,aM (cO r σ.H) r (.sl e te.size (els.take n ++ news))⟩)
      | _,_=>none
     | some te,some (.d (.sl (some false) [])),some v=>match jA σ.H d v with
      | some news=>some (σ.H d=none/\Mv d/\(∀ el∈news,el.length=te.size)/\(∀ el∈news,∀ c∈el,D.one c=true)/\0 < te.size/\(adx te.zero).length=te.size/\news.length<=9223372036854775807/\news.length * te.bytes<=140737488355328,
        .own d 0 news.length,⟨σ.env,aM σ.H d (.sl e te.size news)⟩)
      | none=>none
     | _,_,_=>none
    | _=>none
   | none=>none
  else FX T G Mv σ t t' x y
  | _,_=>none
 | .call { callee:=.builtin .copy,args,argTypes },some _=>match args.toList,argTypes.toList with
  | [x,y],[t,_]=>match T t with
   | some tt=>match tt.desc with
    | .slice e=>match T e,bh G σ.env x,bh G σ.env y with
     | some te,some (.own r off n),some v=>match σ.H r,yf σ.H v with
      | some (.sl ty sz els),some news=>some (ty=e/\sz=1/\te.size=1/\off+n<=els.length/\0 < els.length/\(∀ el∈news,el.length=1)/\(∀ el∈news,∀ c∈el,D.one c=true),
        .d (.v (.int .i64 ((news.take n).length:Nat))),⟨σ.env,aM σ.H r (.sl e 1 (lV els news off n))⟩)
      | _,_=>none
     | some te,some (.d (.sl _ [])),some v=>match yf σ.H v with
      | some news=>some ((∀ el∈news,el.length=te.size)/\0 < te.size/\(∀ el∈news,∀ c∈el,D.one c=true),.d (.v (.int .i64 0)),σ)
      | none=>none
     | _,_,_=>none
    | _=>none
   | none=>none
  | _,_=>none
 | .makeMap t none,some d=>some (σ.H d=none,.mp d,⟨σ.env,aM σ.H d (.mp t [])⟩)
 | .mapUpdate t m k v,none=>match bh G σ.env m,bh G σ.env k,bh G σ.env v with
  | some (.mp r),some (.d (.v key)),some (.d x)=>match σ.H r with
   | some (.mp ty ents)=>match x5 T t ents key x with
    | some (c,iQ)=>some (c,.dead,⟨σ.env,aM σ.H r (.mp ty iQ)⟩)
    | none=>none
   | _=>none
  | _,_,_=>none
 | .insert t m k v,none=>match bh G σ.env m,bh G σ.env k,bh G σ.env v with
  | some (.mp r),some (.d (.v key)),some (.d x)=>match σ.H r with
   | some (.mp ty ents)=>match x5 T t ents key x with
    | some (c,iQ)=>some (c,.dead,⟨σ.env,aM σ.H r (.mp ty iQ)⟩)
    | none=>none
   | _=>none
  | _,_,_=>none
 | _,_=>none
def aD (e:Env) (dst:Option Tmp) (x:AV):Env:=match dst with
 | some d=>eW e d x
 | none=>e
section
variable {P:Program} {T:Ty} {Mv X:Nat->Prop} {G:aq} {N:Fr} {w:World} {μ:Mu} {a:Act} {σ:St}
theorem In.put (hi:In w X G μ N a σ) {u:Value} {x:AV} (hx:RV w X μ u x) {dst:Option Tmp} (hd:∀ d,dst=some d->d < N.n):In w X G μ N (a.put dst u) ⟨aD σ.env dst x,σ.H⟩:=by
 cases dst with
 | none=>exact hi
 | some d=>
  have au:d < a.tmps.size:=by rw[hi.env.size];exact hd d rfl
  refine⟨hi.aX,⟨hi.env.defers,by simp[Act.put,hi.env.size],fun i y hy=>?_⟩,hi.gr⟩;simp only[aD,eW]at hy;split at hy
  .rename_i e;subst e;obtain rfl:=AI hy;exact⟨u,by simp[Act.put,au],hx⟩
  .rename_i e;obtain⟨v,hv,hr⟩:=hi.env.slot i y hy;exact⟨v,by simp only[Act.put];rw[ad2 (adr e)];exact hv,hr⟩
theorem In.kC (hi:In w X G μ N a σ):∀ {l:List Operand} {xs:List AV},kC G σ.env l=some xs->(l.map a.eval).length=xs.length/\∀ (i:Nat) (u:Value) (x:AV),(l.map a.eval)[i]? = some u->xs[i]? = some x->RV w X μ u x:=by
 intro l
 induction l with
 | nil=>intro xs h;simp only[Go.Av.kC,AS]at h;subst h;exact⟨rfl,by simp⟩
 | cons o l ih=>
  intro xs h;simp only[Go.Av.kC]at h;split at h
  .rename_i x MU h1 h2;obtain rfl:=AI h;obtain⟨hl,hr⟩:=ih h2;refine⟨by simpa using hl,fun i u y hu hy=>?_⟩
   cases i with
   | zero=>simp at hu hy;subst hu hy;exact hi.eval h1
   | succ i=>simp at hu hy;exact hr i u y (by simpa using hu) hy
  .cases h
theorem In.jI (hi:In w X G μ N a σ):∀ {l:List (Nat×Operand)} {xs:List (Nat×AV)},jI G σ.env l=some xs->(l.map fun p=>(p.1,a.eval p.2)).map (·.1)=xs.map (·.1)/\
  ∀ (i:Nat) (p:Nat×AV) (v:Nat×Value),xs[i]? = some p->(l.map fun p=>(p.1,a.eval p.2))[i]? = some v->RV w X μ v.2 p.2:=by
 intro l
 induction l with
 | nil=>intro xs h;simp only[Go.Av.jI,AS]at h;subst h;exact⟨rfl,by simp⟩
 | cons o l ih=>
  intro xs h;obtain⟨k,o⟩:=o;simp only[Go.Av.jI]at h;split at h
  .rename_i x MU h1 h2;obtain rfl:=AI h;obtain⟨hl,hr⟩:=ih h2;refine⟨by simpa using hl,fun i p v hp hv=>?_⟩
   cases i with
   | zero=>simp at hp hv;subst hp hv;exact hi.eval h1
   | succ i=>simp at hp hv;exact hr i p v hp (by simpa using hv)
  .cases h
theorem In.bound (hi:In w X G μ N a σ) {o:Option Operand} {l:Option Int} (h:bound G σ.env o=some l):(o.map a.eval=none/\l=none)\/∃ k n,o.map a.eval=some (.int k n)/\l=some n:=by
 unfold Go.Av.bound at h;split at h
 .obtain rfl:=AI h;exact .inl ⟨rfl,rfl⟩
 .split at h
  .rename_i k n he;obtain rfl:=AI h;exact .inr ⟨k,n,by simp[(hi.eval he).scalar],rfl⟩
  .cases h
theorem agO (hg:Good P T) (hi:In w X G μ N a σ) {o:Oper} {c:Prop} {x:AV} (h:rd T G σ o.op=some (c,x)) (hc:c):∃ v,(execOp a.eval o).run P w = .ok (.value v) w/\RV w X μ v x:=by
 have lift:∀ {s:Sem Value} ,(∃ v,s.run P w = .ok v w/\RV w X μ v x)->∃ v,(do pure (.value (<- s)):Sem Next).run P w = .ok (.value v) w/\RV w X μ v x:=by
  rintro s ⟨v,hv,hr⟩;exact⟨v,by simp[hv],hr⟩
 obtain⟨dst,op,type,pos,after,guard⟩:=o;dsimp only at h;unfold rd at h;split at h
 .obtain⟨y,hy,he⟩:=AT.1 h;simp only[BY]at he;obtain⟨rfl,rfl⟩:=he;exact⟨_,rfl,hi.eval hy⟩
 .obtain⟨y,hy,he⟩:=AT.1 h;simp only[BY]at he;obtain⟨rfl,rfl⟩:=he;exact⟨_,rfl,hi.eval hy⟩
 .split at h
  .rename_i h1 h2;exact lift (Oa hg hi h1 h2 h hc)
  .cases h
 .obtain⟨y,hy,he⟩:=ab9.1 h;exact lift (ZP he hc (hi.eval hy))
 .obtain⟨y,hy,he⟩:=ab9.1 h;exact lift (Kf hg hi.aX he hc (hi.eval hy))
 .obtain⟨y,hy,he⟩:=ab9.1 h;exact lift (PS hg he hc (hi.eval hy))
 .obtain⟨y,hy,he⟩:=ab9.1 h;exact lift (PR hg he hc (hi.eval hy))
 .split at h
  .rename_i h1 h2;exact lift (Th hg hi.aX h hc (hi.eval h1) (hi.eval h2))
  .cases h
 .split at h
  .rename_i h1 h2;exact lift (Tm hg h hc (hi.eval h1) (hi.eval h2))
  .cases h
 .obtain⟨y,hy,he⟩:=ab9.1 h;exact lift (PO he (hi.eval hy))
 .obtain⟨y,hy,he⟩:=ab9.1 h;exact lift (UA hg he (hi.eval hy))
 .split at h
  .rename_i f first caps hf;obtain⟨y,hy,he⟩:=AT.1 h;simp only[BY]at he;obtain⟨rfl,rfl⟩:=he;obtain⟨hl,hr⟩:=hi.kC hy
   have Ds:first = #[]:=by simpa using hf
   subst Ds;refine⟨.func f #[] (caps.map a.eval),by simp[execOp,Instr.makeFunc],ES (by simpa using hl) fun j u c hu hc=>hr j u c (by simpa using hu) hc⟩
  .split at h
   .rename_i x wS dA;obtain⟨y,hy,he⟩:=AT.1 h;simp only[BY]at he;obtain⟨rfl,rfl⟩:=he;obtain rfl:=ada.1 (show _=(#[x]:Array Operand).toList from wS);obtain rfl:=ada.1 (show _=(#[]:Array Operand).toList from dA);exact⟨_,by simp[execOp,Instr.makeFunc],.bm (hi.eval hy)⟩
   .cases h
 .split at h
  .rename_i b a1 a2 h0 h1 h2;simp only[AS,BY]at h;obtain⟨rfl,rfl⟩:=h;have hb:=(hi.eval h0).scalar;refine⟨if b then a.eval _ else a.eval _,by simp[execOp,hb,asBool];cases b<;>rfl,?_⟩;cases b
   .exact hi.eval h2
   .exact hi.eval h1
  .cases h
 .obtain⟨y,hy,he⟩:=ab9.1 h;obtain⟨⟨ad,Iy⟩,hr⟩:=Vc he (hi.eval hy);exact⟨.pointer (some ad),by simp[execOp,Iy],by rw[<- Iy];exact hr⟩
 .rename_i t parts;obtain⟨ps,dB,he⟩:=ab9.1 h;obtain⟨h1,h2⟩:=hi.jI dB;refine lift (Oo (vs:=parts.map fun p=>(p.1,a.eval p.2)) hg he (by simpa using h1) fun i p v hp hv=>h2 i p v hp ?_);rw[<- ab2]at hv;simpa using hv
 .split at h
  .rename_i hs;obtain⟨y,hy,he⟩:=ab9.1 h;exact lift (OX hg hs he hc (hi.eval hy))
  .cases h
 .split at h
  .rename_i mx fh;split at h
   .rename_i v l hh h1 h2 h3
    cases mx with
    | some _=>simp at fh
    | none=>exact lift (YR hg hi.aX h hc (hi.eval h1) (hi.bound h2) (hi.bound h3))
   .cases h
  .cases h
 .obtain⟨y,hy,he⟩:=ab9.1 h;exact lift (NW hg he (hi.eval hy))
 .split at h
  .rename_i h1 h2;exact lift (Uq hg hi.aX h hc (hi.eval h1) (hi.eval h2))
  .cases h
 .split at h
  .rename_i args argTypes _ _ x0 t ha ht;obtain⟨y,hy,he⟩:=ab9.1 h;obtain⟨r,hr,fv⟩:=Uh (ty:=type) hg he (hi.eval hy);have e1:args = #[x0]:=ada.1 ha;have e2:argTypes = #[t]:=ada.1 ht;subst e1 e2;exact⟨r,by simp[execOp,resolve,invoke,builtin,hr],fv⟩
  .cases h
 .split at h
  .rename_i args _ _ x0 y0 ha;split at h
   .rename_i k a0 k' b0 h1 h2;simp only[AS,BY]at h;obtain⟨rfl,rfl⟩:=h;have e1:=(hi.eval h1).scalar;have e2:=(hi.eval h2).scalar;have e0:args = #[x0,y0]:=ada.1 ha;subst e0;exact⟨_,by simp[execOp,resolve,invoke,builtin,Builtin.max_,Builtin.max2,e1,e2],.d (.v _)⟩
   .cases h
  .cases h
 .split at h
  .rename_i args _ _ x0 y0 ha;split at h
   .rename_i k a0 k' b0 h1 h2;simp only[AS,BY]at h;obtain⟨rfl,rfl⟩:=h;have e1:=(hi.eval h1).scalar;have e2:=(hi.eval h2).scalar;have e0:args = #[x0,y0]:=ada.1 ha;subst e0;exact⟨_,by simp[execOp,resolve,invoke,builtin,Builtin.min_,Builtin.min2,e1,e2],.d (.v _)⟩
   .cases h
  .cases h
 .cases h
theorem RV.AF {u:Value} {x:AV} {r:Nat} (h:RV w X μ u x) (hr:μ r=none):x.kill r=x:=by
 have aV:∀ (l:List AV),(∀ c∈l,c.kill r=c)->l.map (AV.kill r)=l:=by
  intro l hl
  induction l with
  | nil=>rfl
  | cons c l ih=>simp only[acJ];rw[hl c (by simp),ih fun c hc=>hl c (by simp[hc])]
 have arr:∀ (arr:Array Value) (cells:List AV),arr.size=cells.length->(∀ (j:Nat) (u:Value) (c:AV),arr[j]? = some u->cells[j]? = some c->c.kill r=c)->cells.map (AV.kill r)=cells:=by
  intro arr cells hn hh;refine aV cells fun c hc=>?_;obtain⟨j,hj,rfl⟩:=aco.1 hc;exact hh j arr[j] _ (by simp[hn,hj]) (by simp[hj])
 induction h with
 | d h=>rfl
 | own hm _=>
  rename_i u q off n m;unfold AV.kill;rw[if_neg];intro e;subst e;rw[hr]at hm;cases hm
 | ref hm _=>
  rename_i q e j b m;unfold AV.kill;rw[if_neg];intro e;subst e;rw[hr]at hm;cases hm
 | agg hn _ ih=>rw[AV.kill,AV.go_eq,arr _ _ hn ih]
 | aW hn _ ih=>rw[AV.kill,AV.go_eq,arr _ _ hn ih]
 | bt _ ih=>rw[AV.kill,ih]
 | bm _ ih=>rw[AV.kill,ih]
 | fn hn _ ih=>rw[AV.kill,AV.go_eq,arr _ _ hn ih]
 | mp hm _=>
  rename_i q b m;unfold AV.kill;rw[if_neg];intro e;subst e;rw[hr]at hm;cases hm
 | dead u=>rfl
theorem In.AF (hi:In w X G μ N a σ) {r:Nat} (hr:σ.H r=none):cN r σ.env=σ.env/\cO r σ.H=σ.H:=by
 have hn:=hi.aX.s7 hr;constructor
 .funext i;unfold cN
  cases he:σ.env i with
  | none=>rfl
  | some x=>
   obtain⟨u,_,hx⟩:=hi.env.slot i x he;simp[hx.AF hn]
 .funext q;unfold cO
  cases hq:σ.H q with
  | none=>rfl
  | some row=>
   obtain⟨m,hm,ok⟩:=hi.aX.rows q row hq
   cases ok with
   | nil=>rfl
   | sl=>rfl
   | mp=>rfl
   | it=>rfl
   | box hb aK hc hh mM iF uN=>
    rename_i ty b cells cur
    have:cells.map (AV.kill r)=cells:=by
     have:=(RV.agg (w:=w) (X:=X) (μ:=μ) (arr:=(cur.toList.take cells.length).toArray) (cells:=cells) (by simp;omega) fun j u c hu hc=>iF j u c (by
      have hu':(cur.toList.take cells.length)[j]? = some u:=by simpa using hu
      rw[acu]at hu';split at hu'
      .simpa using hu'
      .cases hu') hc).AF hn
     rw[AV.kill,AV.go_eq]at this;exact AV.agg.inj this
    simp[Row.kill,this]
theorem aap (hg:Good P T) (hi:In w X G μ N a σ) {o:Oper} {c:Prop} {x:AV} {aG:St} (h:wr T G Mv σ o=some (c,x,aG)) (hc:c) (hd:∀ d,o.dst=some d->d < N.n) :
  ∃ n v w' ay,(execOp a.eval o).run P w = .ok n w'/\(n = .value v\/(n = .skip/\v=undef))/\In w' X G ay N a aG/\RV w' X ay v x/\Ev Mv w μ w' ay:=by
 have lift:∀ {s:Sem Value} {x:AV} {aG:St},aej Mv X G N w μ a (s.run P w) x aG->∃ n v w' ay,(do pure (.value (<- s)):Sem Next).run P w = .ok n w'/\(n = .value v\/(n = .skip/\v=undef))/\In w' X G ay N a aG/\RV w' X ay v x/\Ev Mv w μ w' ay:=by
  rintro s x aG ⟨v,w',ay,hr,rest⟩;exact⟨.value v,v,w',ay,by simp[hr],.inl rfl,rest⟩
 obtain⟨dst,op,type,pos,after,guard⟩:=o;dsimp only at h hd;unfold wr at h;dsimp only at h;split at h
 .split at h
  .rename_i ti ht;simp only[AS,BY]at h;obtain⟨rfl,rfl,rfl⟩:=h;exact lift (Nq hg hi hc ht)
  .cases h
 .split at h
  .rename_i cs b8;obtain⟨y,hy,he⟩:=ab9.1 b8;simp only[AS,BY]at h;obtain⟨rfl,rfl,rfl⟩:=h;exact lift (Ol hi hc (hi.eval hy) he)
  .cases h
 .split at h
  .rename_i r e j v h1 h2;split at h
   .rename_i ty cells hH;split at h
    .rename_i he;subst he;split at h
     .rename_i c' qm hs;simp only[AS,BY]at h;obtain⟨rfl,rfl,rfl⟩:=h;obtain⟨w',hr,aF,aH⟩:=Zb (Mv:=Mv) hg hi hH hs hc (hi.eval h1) (hi.eval h2);exact⟨.skip,undef,w',μ,by simp[execOp,hr],.inr ⟨rfl,rfl⟩,aF,.dead _,aH⟩
     .cases h
    .cases h
   .rename_i ty sz els hH;split at h
    .rename_i c' kB hs;simp only[AS,BY]at h;obtain⟨rfl,rfl,rfl⟩:=h;obtain⟨w',hr,aF,aH⟩:=Zc (Mv:=Mv) hg hi hH hs hc (hi.eval h1) (hi.eval h2);exact⟨.skip,undef,w',μ,by simp[execOp,hr],.inr ⟨rfl,rfl⟩,aF,.dead _,aH⟩
    .cases h
   .cases h
   .cases h
   .cases h
  .cases h
 .split at h
  .rename_i tt cC;split at h
   .rename_i e cM;split at h
    .rename_i te kn n km m cg h1 h2;simp only[AS,BY]at h;obtain⟨rfl,rfl,rfl⟩:=h;obtain⟨g1,g2,g3,g4,g5,g6,g7⟩:=hc;have:=Uz (Mv:=Mv) hg hi g1 cC cM cg (k1:=kn) (k2:=km) g2 g3 g4 g5 g6 g7;rw[<- (hi.eval h1).scalar,<- (hi.eval h2).scalar]at this;exact lift this
    .cases h
   .cases h
  .cases h
 .split at h
  .rename_i tt cC;split at h
   .rename_i e cM;split at h
    .rename_i te ps cg dB;split at h
     .rename_i els se;simp only[AS,BY]at h;obtain⟨rfl,rfl,rfl⟩:=h;obtain⟨g1,g2,g3,g4⟩:=hc;obtain⟨hv,hr⟩:=hi.jI dB;exact lift (Oq (Mv:=Mv) hg hi g1 cC cM cg se g2 (by simpa using hv) (fun i p v h1 h2=>hr i p v h1 (by simpa using h2)) g3 g4)
     .cases h
    .cases h
   .cases h
  .cases h
 .split at h
  .rename_i args argTypes d _ _ x0 y0 t t' ha ht;have e1:args = #[x0,y0]:=ada.1 ha;have e2:argTypes = #[t,t']:=ada.1 ht;subst e1 e2;split at h
   .rename_i SX;subst SX
    have run_eq:∀ {x:AV} {aG:St},aej Mv X G N w μ a ((Builtin.append_ #[t,t] type #[a.eval x0,a.eval y0]).run P w) x aG->∃ n v w' ay,(execOp a.eval { dst:=some d,op:=.call { callee:=.builtin .append,args:=⟨[x0,y0]⟩,argTypes:=⟨[t,t]⟩ },type:=type,pos:=pos,after:=after,guard:=guard }).run P w = .ok n w'/\(n = .value v\/(n = .skip/\v=undef))/\In w' X G ay N a aG/\RV w' X ay v x/\Ev Mv w μ w' ay:=by
     rintro x aG ⟨v,w',ay,hr,rest⟩;exact⟨.value v,v,w',ay,by simp[execOp,resolve,invoke,builtin,hr],.inl rfl,rest⟩
    split at h
    .rename_i tt cC;split at h
     .rename_i e cM;split at h
      .rename_i te r off n v cg h1 h2;split at h
       .rename_i ty sz els news hH hn;simp only[AS,BY]at h;obtain⟨rfl,rfl,rfl⟩:=h;obtain⟨rfl,g1,rfl,rfl,g2,g3,g4,g5,g6,g7,g8⟩:=hc;exact run_eq (GM (Mv:=Mv) hg hi g1 cC cM cg hH g2 (hi.eval h1) (Az hi.aX (hi.eval h2) hn g3 g5 g4) g5 g6 (by unfold maxLen;omega) g8)
       .cases h
      .rename_i te v cg h1 h2;split at h
       .rename_i news hn;simp only[AS,BY]at h;obtain⟨rfl,rfl,rfl⟩:=h;obtain⟨g0,g1,g3,g4,g5,g6,g7,g8⟩:=hc;obtain⟨aF,aH⟩:=hi.alloc (Mv:=Mv) g0 (bZ.refl w) (m:=⟨none,te.size,0⟩) (by simp) (row:=.sl e te.size []) fun _=>.nil rfl rfl
        have hu:RV w X (mup μ d ⟨none,te.size,0⟩) (a.eval x0) (.own d 0 0):=by
         have:=(hi.eval h1).data.na
         rcases this with⟨hh,_⟩ | ⟨ad,cap,hh,hk,_⟩
         .rw[hh];exact .own (m:=⟨none,te.size,0⟩) (by simp[mup]) (.inl ⟨rfl,rfl,rfl,rfl⟩)
         .exact absurd rfl hk
        have mM:jA (aM σ.H d (.sl e te.size [])) d v=some news:=by
         unfold jA at hn ⊢
         split at hn<;>first | exact hn | skip
         rename_i q off n;split at hn
         .cases hn
         .rename_i hq;rw[if_neg hq];simpa[aM,hq]using hn
        have uK:RV w X (mup μ d ⟨none,te.size,0⟩) (a.eval y0) v:=by
         refine (hi.eval h2).same aH fun q m hq=>?_;unfold mup;split
         .rename_i e';subst e';rw[hi.aX.s7 g0]at hq;cases hq
         .exact hq
        have wM:=GM (Mv:=Mv) (ty:=type) hg aF g1 cC cM cg (r:=d) (n:=0) (els:=[]) (news:=news) (by simp[aM]) (by simp) hu (Az aF.aX uK mM g3 g5 g4) g5 g6 (by unfold maxLen;omega) (by simpa using g8);obtain⟨v',w',ay,hr,ux,fv,iU⟩:=wM;refine run_eq ⟨v',w',ay,hr,?_,by simpa using fv,aH.trans iU⟩;obtain⟨k1,k2⟩:=hi.AF g0
        have e1:cO d (aM σ.H d (.sl e te.size []))=aM σ.H d (.sl e te.size []):=by
         funext q;by_cases hq:q=d
         .simp[cO,aM,hq,Row.kill]
         .have:=congrFun k2 q;simpa[cO,aM,hq]using this
        have e2:aM (aM σ.H d (.sl e te.size [])) d (.sl e te.size ([].take 0 ++ news))=aM σ.H d (.sl e te.size news):=by
         funext q;by_cases hq:q=d<;>simp[aM,hq]
        dsimp only at ux;rw[k1,e1,e2]at ux;exact ux
       .cases h
      .cases h
     .cases h
    .cases h
   .unfold FX at h;split at h
    .rename_i tt ts cC oB;split at h
     .rename_i e cM jo;split at h
      .rename_i te r off n s cg h1 h2;split at h
       .rename_i ty sz els hH;simp only[AS,BY]at h;obtain⟨rfl,rfl,rfl⟩:=h;obtain⟨rfl,g1,rfl,rfl,g2,g3,g4,g5,g6⟩:=hc;have hv:a.eval y0 = .string s:=(hi.eval h2).scalar;obtain⟨v,w',ay,hr,rest⟩:=ahv (Mv:=Mv) (ty:=type) hg hi g1 cC cM oB jo cg hH g2 (hi.eval h1) g3 g4 g5 g6;exact⟨.value v,v,w',ay,by simp[execOp,resolve,invoke,builtin,hv,hr],.inl rfl,rest⟩
       .cases h
      .cases h
     .cases h
    .cases h
  .cases h
 .split at h
  .rename_i args argTypes d _ _ x0 y0 t t' ha ht;have e1:args = #[x0,y0]:=ada.1 ha;have e2:argTypes = #[t,t']:=ada.1 ht;subst e1 e2;split at h
   .rename_i tt cC;split at h
    .rename_i e cM;split at h
     .rename_i te r off n v cg h1 h2;split at h
      .rename_i ty sz els news hH hn;simp only[AS,BY]at h;obtain⟨rfl,rfl,rfl⟩:=h;obtain⟨rfl,rfl,g1,g2,g3,g4,g5⟩:=hc;obtain⟨v,w',ay,hr,rest⟩:=OY (Mv:=Mv) (ty:=type) (t':=t') hg hi cC cM cg g1 hH g2 g3 (hi.eval h1) (Mf hi.aX (hi.eval h2) hn g4 (by omega) g5);exact⟨.value v,v,w',ay,by simp[execOp,resolve,invoke,builtin,hr],.inl rfl,rest⟩
      .cases h
     .rename_i te kq v cg h1 h2;split at h
      .rename_i news hn;simp only[AS,BY]at h;obtain⟨rfl,rfl,rfl⟩:=h;obtain⟨g4,g5,g6⟩:=hc;obtain⟨v,w',ay,hr,rest⟩:=OZ (Mv:=Mv) (ty:=type) (t':=t') hg hi cC cM cg (hi.eval h1) (Mf hi.aX (hi.eval h2) hn g4 g5 g6);exact⟨.value v,v,w',ay,by simp[execOp,resolve,invoke,builtin,hr],.inl rfl,rest⟩
      .cases h
     .cases h
    .cases h
   .cases h
  .cases h
 .simp only[AS,BY]at h;obtain⟨rfl,rfl,rfl⟩:=h;exact lift (UB hi hc _)
 .split at h
  .rename_i r key x h1 h2 h3;split at h
   .rename_i ty ents hH;split at h
    .rename_i c' iQ hp;simp only[AS,BY]at h;obtain⟨rfl,rfl,rfl⟩:=h;obtain⟨w',hr,aF,aH⟩:=Kl (Mv:=Mv) hg hi hH hp hc (hi.eval h1) (hi.eval h2) (hi.eval h3);exact⟨.skip,undef,w',μ,by simp[execOp,hr],.inr ⟨rfl,rfl⟩,aF,.dead _,aH⟩
    .cases h
   .cases h
  .cases h
 .split at h
  .rename_i r key x h1 h2 h3;split at h
   .rename_i ty ents hH;split at h
    .rename_i c' iQ hp;simp only[AS,BY]at h;obtain⟨rfl,rfl,rfl⟩:=h;obtain⟨w',hr,aF,aH⟩:=Kl (Mv:=Mv) hg hi hH hp hc (hi.eval h1) (hi.eval h2) (hi.eval h3);exact⟨.skip,undef,w',μ,by simp[execOp,hr],.inr ⟨rfl,rfl⟩,aF,.dead _,aH⟩
    .cases h
   .cases h
  .cases h
 .cases h
end
end Go.Av
namespace Go.Av
def fe (P:Program) (g:FuncId):Prop:=∀ (args:Array Value) (w:World),(callFunc g args).run P w = .ok (.enter g args) w
theorem fe.of {P:Program} {g:FuncId} {fn:Func} {c:Code} (h:P.funcs[g]? = some fn) (hb:fn.body=some c) (hn:(fn.name == "runtime.NumGoroutine")=false):fe P g:=by
 intro args w;simp only[callFunc,Sem.run_bind,run_program,Result.andThen_ok,h,hn,abT,if_false];simp[hb]
def cy:AV:=.d (.v undef)
def zf (ops:Array Oper) (e:Env) (j:Nat):Option (Option Bool):=match (ops[j]?).bind (·.dst) with
 | some d=>match e d with
  | some (.d (.v (.bool b)))=>some (some b)
  | some (.d (.v (.tuple _)))=>some none
  | _=>none
 | none=>none
def fR (ops:Array Oper) (e:Env) (o:Oper):Option Bool:=match o.guard with
 | none=>some true
 | some (j,want)=>(zf ops e j).map (· == some want)
def tgt (G:aq) (e:Env) (c:Call):Option (FuncId×List AV):=match c.callee with
 | .value f=>match bh G e f,kC G e c.args.toList with
  | some (.d (.fn (.func g) caps)),some xs=>some (g,xs ++ caps.map .d)
  | some (.fn (.func g) caps),some xs=>some (g,xs ++ caps)
  | some (.bm g x),some xs=>some (g,x :: xs)
  | _,_=>none
 | _=>none
def ad6 (P:Program) (Mv X:Nat->Prop) (G:aq) (N:Fr) (g:FuncId) (xs:List AV) (σ:St) (K:AV->St->Prop):Prop:=
 fe P g/\∀ w μ a (vs:Array Value),In w X G μ N a σ->vs.size=xs.length->(∀ (i:Nat) (u:Value) (x:AV),vs[i]? = some u->xs[i]? = some x->RV w X μ u x)->
  Calls P g vs w fun e w'=>∃ v x aw ay,e = .returned v/\K x aw/\In w' X G ay N a aw/\RV w' X ay v x/\Ev Mv w μ w' ay
theorem ad6.mono {P:Program} {Mv X:Nat->Prop} {G:aq} {N:Fr} {g:FuncId} {xs:List AV} {σ:St} {K K':AV->St->Prop} (h:ad6 P Mv X G N g xs σ K) (hk:∀ x aw,K x aw->K' x aw):ad6 P Mv X G N g xs σ K':=
 ⟨h.1,fun w μ a vs hi hn hv=>(h.2 w μ a vs hi hn hv).mono fun _ _ ⟨v,x,aw,ay,he,k,rest⟩=>⟨v,x,aw,ay,he,hk _ _ k,rest⟩⟩
def acS:Op->Bool
 | .alloc _=>true
 | .box _ _=>true
 | .store _ _ _=>true
 | .makeSlice _ _ _=>true
 | .buildSlice _ _ _=>true
 | .makeMap _ _=>true
 | .mapUpdate _ _ _ _=>true
 | .insert _ _ _ _=>true
 | .call { callee:=.builtin .append,.. }=>true
 | .call { callee:=.builtin .copy,.. }=>true
 | _=>false
def acm:Op->Option Call
 | .call { callee:=.value f,args,argTypes }=>some { callee:=.value f,args,argTypes }
 | _=>none
def mg (T:Ty) (G:aq) (Mv:Nat->Prop) (o:Oper) (σ:St) (K:St->Prop):Prop:=
 if acS o.op then match wr T G Mv σ o with
  | some (c,x,aw)=>c/\K ⟨aD aw.env o.dst x,aw.H⟩
  | none=>False
 else match rd T G σ o.op with
  | some (c,x)=>c/\K ⟨aD σ.env o.dst x,σ.H⟩
  | none=>False
def jJ (P:Program) (T:Ty) (Mv X:Nat->Prop) (G:aq) (N:Fr) (o:Oper) (σ:St) (K:St->Prop):Prop:=match acm o.op with
 | some c=>match tgt G σ.env c with
  | some (g,xs)=>ad6 P Mv X G N g xs σ fun x aw=>K ⟨aD aw.env o.dst x,aw.H⟩
  | none=>False
 | none=>mg T G Mv o σ K
def eU (N:Fr) (o:Oper):Prop:=match o.dst with
 | some d=>d < N.n
 | none=>True
section
variable {P:Program} {T:Ty} {Mv X:Nat->Prop} {G:aq} {N:Fr} {w:World} {μ:Mu} {a:Act} {σ:St}
theorem afU (hi:In w X G μ N a σ) {ops:Array Oper} {o:Oper} {b:Bool} (h:fR ops σ.env o=some b):Region.wanted o (yielded ops a.tmps)=b:=by
 unfold fR at h;unfold Region.wanted;split at h
 .rename_i hg;obtain rfl:=AI h;simp[hg]
 .rename_i j want hg;obtain⟨b',hb,rfl⟩:=AT.1 h;simp only[hg];unfold zf at hb;split at hb
  .rename_i d hd;split at hb
   .rename_i b2 he;obtain rfl:=AI hb;obtain⟨u,hu,hr⟩:=hi.env.slot d _ he;obtain rfl:=hr.scalar;simp[yielded,hd,hu]
   .rename_i he;obtain rfl:=AI hb;obtain⟨u,hu,hr⟩:=hi.env.slot d _ he;obtain rfl:=hr.scalar;simp[yielded,hd,hu]
   .cases hb
  .cases hb
theorem ZD (hi:In w X G μ N a σ) {o:Oper} {c:Call} {g:FuncId} {xs:List AV} (ho:o.op = .call c) (h:tgt G σ.env c=some (g,xs)) :
  ∃ vs:Array Value,(execOp a.eval o).run P w=(callFunc g vs).run P w/\vs.size=xs.length/\∀ (i:Nat) (u:Value) (x:AV),vs[i]? = some u->xs[i]? = some x->RV w X μ u x:=by
 unfold tgt at h;split at h
 .rename_i f hf
  have key:∀ (caps:List AV) (arr:Array Value) (ys:List AV),a.eval f = .func (.func g) #[] arr->arr.size=caps.length->(∀ (j:Nat) (u:Value) (c:AV),arr[j]? = some u->caps[j]? = some c->RV w X μ u c)->kC G σ.env c.args.toList=some ys->xs=ys ++ caps->
    ∃ vs:Array Value,(execOp a.eval o).run P w=(callFunc g vs).run P w/\vs.size=xs.length/\∀ (i:Nat) (u:Value) (x:AV),vs[i]? = some u->xs[i]? = some x->RV w X μ u x:=by
   intro caps arr ys sg hn hr hy hx;obtain⟨hl,hv⟩:=hi.kC hy;refine⟨c.args.map a.eval ++ arr,?_,?_,fun i u x hu l9=>?_⟩
   .simp[execOp,ho,resolve,hf,sg,Deferred.ofValue,invoke]
   .simp only[ac1,ado]at hl;subst hx;simp[hl,hn]
   .subst hx
    have eF:(c.args.map a.eval).size=ys.length:=by simpa using hl
    rw[Array.getElem?_append]at hu;rw[aer]at l9;split at hu
    .rename_i h1;rw[if_pos (by omega)]at l9;exact hv i u x (by rw[<- Array.toList_map,ab2];exact hu) l9
    .rename_i h1;rw[if_neg (by omega)]at l9;rw[eF]at hu;exact hr _ u x hu l9
  split at h
  .rename_i g' caps ys he hy;simp only[AS,BY]at h;obtain⟨rfl,rfl⟩:=h;obtain⟨arr,sg,hn,hr⟩:=(hi.eval he).data.tX;exact key (caps.map .d) arr ys sg (by simpa using hn) (RV.u9 hr) hy rfl
  .rename_i g' caps ys he hy;simp only[AS,BY]at h;obtain⟨rfl,rfl⟩:=h;obtain⟨arr,sg,hn,hr⟩:=(hi.eval he).tX;exact key caps arr ys sg hn hr hy rfl
  .rename_i g' y ys he hy;simp only[AS,BY]at h;obtain⟨rfl,rfl⟩:=h;obtain⟨v,sg,hr⟩:=(hi.eval he).Oh;obtain⟨hl,hv⟩:=hi.kC hy;refine⟨#[v] ++ c.args.map a.eval,?_,?_,fun i u x hu l9=>?_⟩
   .simp[execOp,ho,resolve,hf,sg,Deferred.ofValue,invoke]
   .simp only[ac1,ado]at hl;simp[hl];omega
   .cases i with
    | zero=>
     rw[acM (by simp)]at hu;simp at hu l9;subst hu l9;exact hr
    | succ i=>
     rw[List.getElem?_cons_succ]at l9;rw[Array.getElem?_append_right (by simp)]at hu;simp only[aey,acv,aeA,acR,Nat.add_sub_cancel]at hu;exact hv i u x (by rw[<- Array.toList_map,ab2];exact hu) l9
  .cases h
 .cases h
theorem y3 (hg:Good P T) (hi:In w X G μ N a σ) {o:Oper} {K:St->Prop} (hd:∀ d,o.dst=some d->d < N.n) (h:jJ P T Mv X G N o σ K) {Q:Exit->Act->World->Prop} {next:Act->World->Prop}
  (hk:∀ w' ay a' aw,K aw->In w' X G ay N a' aw->Ev Mv w μ w' ay->next a' w'):o.wpIn (wd N.ro) 0 P a w next Q:=by
 refine vD (fun c e=>by simp[jJ,e,acm,mg,acS,rd]at h) ?_;unfold jJ at h;split at h
 .rename_i c hc
  have ho:o.op = .call c:=by
   unfold acm at hc;split at hc
   .rename_i hop;rw[hop];obtain rfl:=AI hc;rfl
   .cases hc
  split at h
  .rename_i g xs ht;obtain⟨vs,hr,hn,hv⟩:=ZD (P:=P) hi ho ht;obtain⟨RO,dJ⟩:=h;unfold Oper.wp;rw[hr,RO vs w];refine (dJ w μ a vs hi hn hv).mono fun e w' ⟨v,x,aw,ay,he,k,aF,fv,aH⟩=>?_;subst he;exact hk _ ay _ _ k (aF.put fv hd) aH
  .exact h.elim
 .unfold mg at h;split at h
  .split at h
   .rename_i c x aw hw;obtain⟨hc,k⟩:=h;obtain⟨n,v,w',ay,hr,hn,aF,fv,aH⟩:=aap (Mv:=Mv) hg hi hw hc hd;unfold Oper.wp;rw[hr]
    rcases hn with rfl | ⟨rfl,rfl⟩
    .exact hk _ ay _ _ k (aF.put fv hd) aH
    .exact hk _ ay _ _ k (aF.put fv hd) aH
   .exact h.elim
  .split at h
   .rename_i c x hw;obtain⟨hc,k⟩:=h;obtain⟨v,hr,fv⟩:=agO hg hi hw hc;unfold Oper.wp;rw[hr];exact hk _ μ _ _ k (hi.put fv hd) (.refl _ w μ)
   .exact h.elim
def ar (P:Program) (G:aq) (g:FuncId) (ds:List D) (y:D):Prop:=
 fe P g/\∀ X,rC P (fun _=>True) X G g (ds.map .d) fD fun x H'=>x = .d y/\H'=fD
theorem Sim.none {X':Nat->Prop} (h:∀ b,X' b->b < w.heap.size):Sim w X' (fun _=>.none) fD:=
 ⟨by simp[fD],by simp,by simp,by simp,h⟩
theorem RD.sub {X X':Nat->Prop} (h:∀ b,X' b->X b) {u:Value} {x:D} (hr:RD w X u x):RD w X' u x:=hr.mono (abL _) fun b _ hb=>⟨rfl,fun e=>hb (h b e)⟩
theorem k8 {X:Nat->Prop} {b:Nat}:XX X (fun _=>none) b↔X b:=⟨fun h=>h.elim id (fun ⟨_,_,h,_⟩=>(by cases h)),.inl⟩
theorem Ev.j8 {Mv:Nat->Prop} {w w':World} {ay:Mu} (h:Ev Mv w (fun _=>none) w' ay):bZ w w':=⟨h.size,h.os,h.tape,h.output,fun b hb=>(h.same b hb fun ⟨_,_,h,_⟩=>by cases h).1⟩
theorem ad6.pure {g:FuncId} {ds:List D} {y:D} (hc:ar P G g ds y) {K:AV->St->Prop} (h:K (.d y) σ):ad6 P Mv X G N g (ds.map .d) σ K:=by
 refine⟨hc.1,fun w μ a vs hi hn hv=>?_⟩;refine (hc.2 (XX X μ) w (fun _=>none) vs (Sim.none fun b hb=>hb.elim (hi.aX.fits b) hi.aX.jl) (fun g x hx=>(hi.gr g x hx).sub fun b=>k8.1) hn fun i u x hu hx=>?_).mono ?_
 .rw[abM]at hx;obtain⟨d,hd,rfl⟩:=AT.1 hx;exact .d ((hv i u (.d d) hu (by rw[abM,hd];rfl)).data.sub fun b=>k8.1)
 .rintro e w' ⟨v,x,H',ay,rfl,⟨rfl,rfl⟩,hr,hs,aH⟩;have hg:=aH.j8;obtain⟨aF,Dr⟩:=hi.j8 (Mv:=Mv) hg;refine⟨v,.d y,σ,μ,rfl,h,aF,.d (hr.data.sub fun b hb=>.inl hb),Dr⟩
def iw (f:AV->Option D):List AV->Option (List D)
 | []=>some []
 | x :: l=>match f x,iw f l with
  | some y,some ys=>some (y :: ys)
  | _,_=>none
def j4:List (Value×D)->Option (List (Value×Value))
 | []=>some []
 | (k,.v x) :: l=>(j4 l).map fun r=>(k,x) :: r
 | _ :: _=>none
theorem GK:∀ {l:List (Value×D)} {r:List (Value×Value)},j4 l=some r->l.length=r.length/\∀ (i:Nat) (p:Value×Value),r[i]? = some p->l[i]? = some (p.1,.v p.2)
 | [],r,h=>by simp only[j4,AS]at h;subst h;exact⟨rfl,by simp⟩
 | (k,.v x) :: l,r,h=>by
  simp only[j4]at h;obtain⟨r',h1,rfl⟩:=AT.1 h;obtain⟨h2,h3⟩:=GK h1;refine⟨by simp[h2],fun i p hp=>?_⟩
  cases i with
  | zero=>simp at hp;subst hp;rfl
  | succ i=>exact h3 i p (by simpa using hp)
 | (k,.sl _ _) :: l,r,h=>by simp[j4]at h
 | (k,.ip _) :: l,r,h=>by simp[j4]at h
 | (k,.agg _) :: l,r,h=>by simp[j4]at h
 | (k,.aW _) :: l,r,h=>by simp[j4]at h
 | (k,.bt _ _) :: l,r,h=>by simp[j4]at h
 | (k,.fn _ _) :: l,r,h=>by simp[j4]at h
 | (k,.lN _) :: l,r,h=>by simp[j4]at h
 | (k,.dm _ _) :: l,r,h=>by simp[j4]at h
def dW (H:Heap):Nat->AV->Option D
 | _,.d x=>some x
 | 0,_=>none
 | _+1,.own r off n=>match H r with
  | some (.sl _ _ els)=>if off+n<=els.length then some (.sl none ((els.drop off).take n)) else none
  | _=>none
 | k+1,.ref r e j=>match H r with
  | some (.box _ cells)=>if e=0 then (iw (dW H k) (cells.drop j)).map .ip else none
  | _=>none
 | k+1,.agg cells=>(iw (dW H k) cells).map .agg
 | k+1,.fn f caps=>(iw (dW H k) caps).map (.fn f)
 | k+1,.aW cells=>(iw (dW H k) cells).map .aW
 | k+1,.bt t x=>(dW H k x).map (.bt t)
 | _+1,.mp r=>match H r with
  | some (.mp _ ents)=>(j4 ents).map (.dm false)
  | _=>none
 | _,_=>none
theorem RD.aeZ {u:Value} {k:Option Bool} {els:List (List D)} (h:RD w X u (.sl k els)):RD w X u (.sl none els):=by
 rcases h.na with⟨rfl,rfl,_⟩ | ⟨a,cap,rfl,_,hc,hm,hr⟩
 .exact .nil (by simp)
 .rcases hr with rfl | ⟨b,off,sz,f,rfl,hX,hz,hs,cI,iF⟩
  .exact .empty (by simp) hm
  .by_cases h0:els=[]
   .subst h0;exact .empty (by simp) hm
   .exact .sl (by simp) rfl hc hm hX hs hz (adM.2 h0) cI iF
theorem BW {f:AV->Option D}:∀ {l:List AV} {ds:List D},iw f l=some ds->l.length=ds.length/\∀ (j:Nat) (x:AV) (d:D),l[j]? = some x->ds[j]? = some d->f x=some d:=by
 intro l
 induction l with
 | nil=>intro ds h;simp only[iw,AS]at h;subst h;exact⟨rfl,by simp⟩
 | cons x l ih=>
  intro ds h;simp only[iw]at h;split at h
  .rename_i y ys h1 h2;obtain rfl:=AI h;obtain⟨hl,hr⟩:=ih h2;refine⟨by simp[hl],fun j x' d hx hd=>?_⟩
   cases j with
   | zero=>simp at hx hd;subst hx hd;exact h1
   | succ j=>simp at hx hd;exact hr j x' d hx hd
  .cases h
theorem agC {H:Heap} (hs:Sim w X μ H):∀ (k:Nat) {x:AV} {d:D} {u:Value},dW H k x=some d->RV w X μ u x->RD w X u d:=by
 intro k
 induction k with
 | zero=>
  intro x d u h hu;cases x<;>simp only[dW,AS,reduceCtorEq]at h;subst h;exact hu.data.sub fun b hb=>.inl hb
 | succ k ih=>
  intro x d u h hu
  have many:∀ {l:List AV} {ds:List D} {arr:Array Value},iw (dW H k) l=some ds->arr.size=l.length->(∀ (j:Nat) (u:Value) (c:AV),arr[j]? = some u->l[j]? = some c->RV w X μ u c)->
    arr.size=ds.length/\∀ (j:Nat) (u:Value) (c:D),arr[j]? = some u->ds[j]? = some c->RD w X u c:=by
   intro l ds arr hd hn hr;obtain⟨hl,hf⟩:=BW hd;refine⟨by omega,fun j u c hu hc=>?_⟩;have hj:=(OF.1 hc).1
   have hj':j < l.length:=by omega
   exact ih (hf j l[j] c (by simp[hj']) hc) (hr j u _ hu (by simp[hj']))
  cases x with
  | d x=>
   simp only[dW,AS]at h;subst h;exact hu.data.sub fun b hb=>.inl hb
  | own r off n=>
   simp only[dW]at h;split at h
   .rename_i ty sz els hr;split at h
    .rename_i hle;obtain rfl:=AI h;obtain⟨kk,bD,_⟩:=AR (σ:=⟨fun _=>none,H⟩) hs hr hle hu;exact (bD.sub fun b hb=>.inl hb).aeZ
    .cases h
   .cases h
  | ref r e j=>
   simp only[dW]at h;split at h
   .rename_i ty cells hr;split at h
    .rename_i he;subst he;obtain⟨ds,hd,rfl⟩:=AT.1 h;obtain⟨m,b,hm,hb,rfl⟩:=hu.ik;obtain⟨m',bU,ok⟩:=hs.rows r _ hr;rw[hm]at bU;obtain rfl:=AI bU
     cases ok with
     | box aU aK ad7 hh hn iF uN=>
      rename_i b' cur;rw[hb]at aU;obtain rfl:=AI aU;obtain⟨hl,hf⟩:=BW hd;simp only[acK]at hl;simp only[aea,acR];refine .ip (f:=fun i=>cur.getD (j+i) undef) (hs.frame r m b hm hb) (IS.1 hh).1 (fun i hi=>?_) fun i d gN=>?_
      .rw[cell_of_row w b (j+i) cur ty (0,0) hh];simp[IT,show j+i < cur.size by omega]
      .have hi:=(OF.1 gN).1
       have da:j+i < cells.length:=by omega
       have eE:j+i < cur.size:=by omega
       refine ih (hf i cells[j+i] d (by rw[ac3];simp[da]) gN) (iF (j+i) _ _ ?_ (by simp[da]));simp[IT,eE]
    .cases h
   .cases h
  | agg cells=>
   simp only[dW]at h;obtain⟨ds,hd,rfl⟩:=AT.1 h;obtain⟨arr,rfl,hn,hr⟩:=hu.n7;obtain⟨h1,h2⟩:=many hd hn hr;exact .agg h1 h2
  | fn f caps=>
   simp only[dW]at h;obtain⟨ds,hd,rfl⟩:=AT.1 h;obtain⟨arr,rfl,hn,hr⟩:=hu.tX;obtain⟨h1,h2⟩:=many hd hn hr;exact .fn h1 h2
  | aW cells=>
   simp only[dW]at h;obtain⟨ds,hd,rfl⟩:=AT.1 h;obtain⟨arr,rfl,hn,hr⟩:=hu.vz;obtain⟨h1,h2⟩:=many hd hn hr;exact .aW h1 h2
  | bt t x=>
   simp only[dW]at h;obtain⟨d',hd,rfl⟩:=AT.1 h;obtain⟨v,rfl,hr⟩:=hu.oC;exact .bt (ih hd hr)
  | mp r=>
   simp only[dW]at h;split at h
   .rename_i ty ents hr;obtain⟨es,he,rfl⟩:=AT.1 h;obtain⟨m,b,hm,hb,rfl⟩:=hu.E0;obtain⟨es2,hh,hn,nJ,_⟩:=hs.EJ hr hm hb;obtain⟨hl,hv⟩:=GK he
    have heq:es2=gR es:=by
     refine Array.ext (by rw[mf];omega) fun i h1 h2=>?_
     have hi:i < es.length:=by rw[mf]at h2;exact h2
     have h3:=hv i es[i] (by simp[hi]);obtain⟨k1,k2,k3⟩:=nJ i es2[i] _ (by simp[h1]) h3;have k4:=k3.scalar;have h5:=u0 hi;rw[acb h2]at h5;rw[AI h5];generalize es2[i]=e at k1 k2 k4;cases e;simp only at k1 k2 k4;rw[k1,k2,k4]
    refine .dm (hs.frame r m b hm hb) ?_ (List.Perm.refl _) (by simp);rw[hh,heq,mf]
   .cases h
  | _=>simp[dW]at h
def D.scalar:D->Bool
 | .v _=>true
 | .aW l=>l.all fun | .v _=>true | _=>false
 | _=>false
theorem RD.YF {X X':Nat->Prop} {w w':World} {u:Value} {x:D} (h:RD w X u x) (hs:x.scalar=true):RD w' X' u x:=by
 cases x with
 | v x=>obtain rfl:=h.scalar;exact .v _
 | aW l=>
  obtain⟨arr,rfl,hn,hr⟩:=h.vz;refine .aW hn fun j u c hu hc=>?_;have:=ack.1 hs c (adG hc)
  cases c with
  | v x=>obtain rfl:=(hr j u _ hu hc).scalar;exact .v _
  | _=>cases this
 | _=>cases hs
theorem ad6.aee {g:FuncId} {xs:List AV} {ds:List D} {y:D} (hd:iw (dW σ.H 4) xs=some ds) (hc:ar P G g ds y) (hy:y.scalar=true) {K:AV->St->Prop} (h:K (.d y) σ):ad6 P Mv X G N g xs σ K:=by
 refine⟨hc.1,fun w μ a vs hi hn hv=>?_⟩;obtain⟨hl,hf⟩:=BW hd;refine (hc.2 X w (fun _=>none) vs (Sim.none hi.aX.fits) (fun g x hx=>(hi.gr g x hx).sub fun b hb=>.inl (k8.1 hb)) (by rw[ac1];omega) fun i u x hu hx=>?_).mono ?_
 .rw[abM]at hx;obtain⟨d,gN,rfl⟩:=AT.1 hx;have hj:=(OF.1 gN).1
  have hj':i < xs.length:=by omega
  exact .d ((agC hi.aX 4 (hf i xs[i] d (by simp[hj']) gN) (hv i u _ hu (by simp[hj']))).sub fun b=>k8.1)
 .rintro e w' ⟨v,x,H',ay,rfl,⟨rfl,rfl⟩,hr,hs,aH⟩;obtain⟨aF,Dr⟩:=hi.j8 (Mv:=Mv) aH.j8;exact⟨v,.d y,σ,μ,rfl,h,aF,.d (hr.data.YF hy),Dr⟩
end
theorem afM:type_of% @bo.eq_1:=@bo.eq_1
theorem afT:type_of% @bo.eq_2:=@bo.eq_2
theorem afW:type_of% @b5.eq_1:=@b5.eq_1
