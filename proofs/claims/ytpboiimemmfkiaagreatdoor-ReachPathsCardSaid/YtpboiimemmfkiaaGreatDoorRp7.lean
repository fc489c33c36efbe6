/-
  Texts that belong together,in one file: Av8s,Av9,Av10.
-/
import Derived.Test.YtpboiimemmfkiaaGreatDoorRp6
import Derived.Lib.AppendStr
set_option linter.unusedSectionVars false
set_option linter.unusedSimpArgs false
set_option linter.unusedVariables false
namespace Go.Av
def byteEls (s:ByteArray):List (List D):=s.data.toList.map fun b=>[D.v (.int .u8 b.toNat)]
theorem byteEls_len (s:ByteArray):(byteEls s).length=s.size:=by simp [byteEls]
section
variable {P:Program} {T:Ty} {Mv X:Nat→Prop} {G:Glob} {N:Fr} {w:World} {μ:Mu} {a:Act} {σ:St}
theorem byteEls_rel (s:ByteArray):Rel w X μ 1 (Lib.strCells s) (byteEls s):=by
 intro i j el c hi hj
 unfold byteEls at hi;rw [List.getElem?_map] at hi
 obtain ⟨b,hb,rfl⟩:=Option.map_eq_some_iff.1 hi
 match j,hj with
 | 0,hj=>
  simp at hj;subst hj;exact ⟨_,by simp [Lib.strCells,hb],.v _⟩
 | j+1,hj=>simp at hj
theorem run_append_none_str {t t' ty e:TypeId} {tt ts te:TI} (hg:Good P T) (htt:T t=some tt) (hdd:tt.desc = .slice e) (hts:T t'=some ts) (hds:ts.desc = .string) (hte:T e=some te) (base:Option Addr) (n cap:Nat) (hn:n≤cap) {s:ByteArray} (hs0:s.size=0) :
  (Builtin.append_ #[t,t'] ty #[.slice base n cap,.string s]).run P w = .ok (.slice base n cap) w:=by
 have hu:=hg.und (w:=w) htt
 have hu':=hg.und (w:=w) hts
 have hsz:=hg.sizeOf (w:=w) hte
 have hf:=Lib.run_firstCells_string (P:=P) w te.size s
 have hn0:Lib.strCells s=[]:=List.eq_nil_of_length_eq_zero (by rw [Lib.strCells_length];exact hs0)
 rw [hs0,hn0] at hf
 cases base<;>simp [Builtin.append_,hu,hdd,hu',hds,hsz,Builtin.lenOf,hn,hs0,hf,storeCells]
theorem appendStr_ok (hg:Good P T) (hi:In w X G μ N a σ) {r n:Nat} (hmv:Mv r) {t t' ty e:TypeId} {tt ts te:TI} (htt:T t=some tt) (hdd:tt.desc = .slice e) (hts:T t'=some ts) (hds:ts.desc = .string) (hte:T e=some te) {els:List (List D)} {u:Value} {s:ByteArray}
  (hH:σ.H r=some (.sl e 1 els)) (hle:n≤els.length) (hu:RV w X μ u (.own r 0 n)) (hz1:te.size=1) (hb1:te.bytes=1) (hzv:te.zero = .int .u8 0) (hb:n+s.size≤140737488355328) :
  Does Mv X G N w μ a ((Builtin.append_ #[t,t'] ty #[u,.string s]).run P w) (.own r 0 (n+s.size)) ⟨killE r σ.env,hup (killH r σ.H) r (.sl e 1 (els.take n ++ byteEls s))⟩:=by
 obtain ⟨m,hm,hh⟩:=hu.own_inv
 obtain ⟨m',hm',ok⟩:=hi.sim.rows r _ hH
 rw [hm] at hm'
 obtain rfl:=Option.some.inj hm'
 obtain ⟨hund,i0,hii,hs0,hb0,hz0,_⟩:=hg e te hte
 have ht:=(hg t tt htt).1
 rw [hdd] at ht
 have ht':=(hg t' ts hts).1
 rw [hds] at ht'
 have h63:n+s.size≤maxLen:=by unfold maxLen;omega
 have hsmall:n+s.size≤9223372036854775807:=by omega
 have hbl:=byteEls_len s
 have hlenB:∀ el∈byteEls s,el.length=1:=by
  intro el hel
  obtain ⟨b,_,rfl⟩:=List.mem_map.1 hel
  rfl
 have hlenEls:∀ el∈els,el.length=1:=by
  cases ok with
  | nil=>simp
  | sl _ _ _ _ _ _ hl=>exact hl
 have hlenAll:∀ el∈els.take n ++ byteEls s,el.length=1:=by
  intro el hel
  rcases List.mem_append.1 hel with h | h
  ·exact hlenEls el (List.mem_of_mem_take h)
  ·exact hlenB el h
 by_cases hne:s.size=0
 ·-- nothing is appended
  have hb0':byteEls s=[]:=List.eq_nil_of_length_eq_zero (by rw [hbl];exact hne)
  have hval:∃ base c,u = .slice base n c∧n≤c:=by
   rcases hh with ⟨_,rfl,_,rfl⟩ | ⟨b,_,rfl,hcap⟩
   ·exact ⟨_,_,rfl,Nat.le_refl _⟩
   ·exact ⟨_,_,rfl,by omega⟩
  obtain ⟨base,c',hue,hnc⟩:=hval
  have hrun:=run_append_none_str (P:=P) (w:=w) (ty:=ty) hg htt hdd hts hds hte base n c' hnc hne
  rw [hue,hrun,hb0',hne]
  obtain ⟨hin,hev⟩:=hi.move (Mv:=Mv) (w':=w) (m':=m) hm hmv (Nat.le_refl _) rfl rfl rfl (fun _ _ _=>rfl) (fun b hb=>.inr hb) (row:=.sl e 1 (els.take n ++ [])) fun ev=>by
   rw [List.append_nil]
   cases ok with
   | nil hb1 hs1=>rw [List.take_nil];exact .nil hb1 hs1
   | sl g1 g2 g3 g4 g5 g6 g7 g8 g9=>
    refine .sl g1 g2 g3 g4 (by simp;omega) g6 (fun el hel=>g7 el (List.mem_of_mem_take hel)) g8 fun i j el c hel hc=>?_;rw [List.getElem?_take] at hel
    split at hel
    ·obtain ⟨v,hv,hrd⟩:=g9 i j el c hel hc
     exact ⟨v,hv,hrd.ev ev⟩
    ·cases hel
  refine ⟨_,_,_,rfl,hin,.own (m:=m) (by simp [mup]) ?_,hev⟩;rw [← hue];exact hh
 ·have hnpos:0 < s.size:=by omega
  have hnl:(Lib.strCells s).length=s.size:=Lib.strCells_length s
  have hzc:te.zero.cells.size=1:=by rw [hzv];rfl
  have moved:∀ (xs:List Value) (ncap:Nat),xs.length=n→Rel w X μ 1 xs (els.take n)→n+s.size≤ncap→ncap≤maxLen→m.sz=1→
    Does Mv X G N w μ a (.ok (.slice (some ⟨w.heap.size,0,none⟩) (n+s.size) ncap) (w.drew.alloc (.cells (xs.toArray ++ (Lib.strCells s).toArray ++ Builtin.zeroCells te.zero.cells (ncap - (n+s.size))) e)))
     (.own r 0 (n+s.size)) ⟨killE r σ.env,hup (killH r σ.H) r (.sl e 1 (els.take n ++ byteEls s))⟩:=by
   intro xs ncap hxl hxr hc1 hc2 hms
   have hgw:Grew w (w.drew.alloc (.cells (xs.toArray ++ (Lib.strCells s).toArray ++ Builtin.zeroCells te.zero.cells (ncap - (n+s.size))) e)):=by
    have h1:=Grew.alloc w.drew (.cells (xs.toArray ++ (Lib.strCells s).toArray ++ Builtin.zeroCells te.zero.cells (ncap - (n+s.size))) e)
    exact ⟨h1.size,h1.os,h1.tape,h1.output,h1.same⟩
   have hsz:(xs.toArray ++ (Lib.strCells s).toArray ++ Builtin.zeroCells te.zero.cells (ncap - (n+s.size))).size=ncap * 1:=by
    simp only [Array.size_append,List.size_toArray,size_zeroCells,hzc,hxl,hnl]
    omega
   obtain ⟨hin,hev⟩:=hi.move (Mv:=Mv) (w':=w.drew.alloc (.cells (xs.toArray ++ (Lib.strCells s).toArray ++ Builtin.zeroCells te.zero.cells (ncap - (n+s.size))) e)) (m':=⟨some w.heap.size,1,ncap⟩) hm hmv hgw.size hgw.os hgw.tape hgw.output
    (fun k hk _=>hgw.same k hk) (fun b hb=>by simp at hb;omega) (row:=.sl e 1 (els.take n ++ byteEls s)) fun ev=>by
     refine .sl rfl rfl (by simpa using heap_alloc_new w.drew (.cells (xs.toArray ++ (Lib.strCells s).toArray ++ Builtin.zeroCells te.zero.cells (ncap - (n+s.size))) e)) hsz (by simp [hbl];omega) hc2 hlenAll (by decide) fun i j el c hi hj=>?_
     have hrel:=((hxr.append (by rw [hxl,List.length_take,Nat.min_eq_left hle,Nat.mul_one]) (fun el hel=>hlenEls el (List.mem_of_mem_take hel)) (byteEls_rel s)).more (l':=(Builtin.zeroCells te.zero.cells (ncap - (n+s.size))).toList)) i j el c hi hj
     obtain ⟨v,hv,hrd⟩:=hrel
     refine ⟨v,?_,hrd.ev ev⟩;rw [← Array.getElem?_toList];simpa using hv
   exact ⟨_,_,_,rfl,hin,.own (m:=⟨some w.heap.size,1,ncap⟩) (by simp [mup]) (.inr ⟨w.heap.size,rfl,by simp,by simpa using hc1⟩),hev⟩
  have hms:m.sz=1:=by
   cases ok with
   | nil _ h=>exact h
   | sl _ h=>exact h
  rcases hh with ⟨hbk,rfl,_,rfl⟩ | ⟨b,hbk,rfl,hcap⟩
  ·have hr:=run_append_nil_string (P:=P) w t t' ty e i0 te.zero ht ht' hii hz0 s (by omega) (by omega) (by rw [hb0,hb1];omega)
   rw [hr]
   have e1:(s.data.map fun b=>Value.int .u8 b.toNat)=(Lib.strCells s).toArray:=by
    apply Array.ext'
    simp [Lib.strCells]
   have:=moved [] (grownCap w s.size 0 e) (by simp) (by intro i j el c hi;simp at hi) (by have:=grownCap_ge w s.size 0 e;omega) (grownCap_le_maxLen w s.size 0 e (by unfold maxLen;omega)) hms
   rw [e1];simpa using this
  ·cases ok with
   | nil hb' _=>rw [hb'] at hbk;cases hbk
   | sl hb' hsz hhp hcs hn' hmx hl hz' hr=>
    rename_i b' cur
    rw [hbk] at hb'
    obtain rfl:=Option.some.inj hb'
    have hcap':n≤m.cap:=by omega
    have hcs1:cur.size=m.cap:=by omega
    have hxl:(cur.toList.take n).length=n:=by rw [List.length_take,Array.length_toList,hcs1,Nat.min_eq_left hcap']
    have hxr:Rel w X μ 1 (cur.toList.take n) (els.take n):=by
     intro i j el c hel hc
     rw [List.getElem?_take] at hel
     split at hel
     ·rename_i hin
      obtain ⟨v,hv,hrd⟩:=hr i j el c hel hc
      have hel':el.length=1:=hl _ (List.mem_of_getElem? hel)
      have hj:j < 1:=by rw [← hel'];exact (List.getElem?_eq_some_iff.1 hc).1
      refine ⟨v,?_,hrd⟩;rw [List.getElem?_take,if_pos (by omega)];simpa using hv
     ·cases hel
    rw [hms,Nat.zero_mul,Nat.sub_zero]
    by_cases hroom:n+s.size≤m.cap
    ·have hrun:=Lib.run_append_room_string (P:=P) w t t' ty e i0 ht ht' hii (by rw [hs0,hz1]) b n m.cap cur hhp s hroom (by omega)
     rw [hrun]
     obtain ⟨hin,hev⟩:=hi.move (Mv:=Mv) (w':=w.setRow b (cur.toList.take n ++ Lib.strCells s ++ cur.toList.drop (n+s.size)).toArray) (m':=m) hm hmv (by simp) rfl rfl rfl
      (fun k hk hne'=>setRow_other w b k _ fun e'=>hne' (by rw [hbk,e'])) (fun b hb=>.inr hb) (row:=.sl e 1 (els.take n ++ byteEls s)) fun ev=>by
       refine .sl hbk hms (setRow_heap w b cur _ e _ hhp) ?_ (by simp [hbl];omega) hmx hlenAll (by decide) fun i j el c hi hj=>?_
       ·simp only [List.size_toArray,List.length_append,List.length_take,List.length_drop,Array.length_toList,hnl]
        omega
       ·obtain ⟨v,hv,hrd⟩:=((hxr.append (by rw [hxl,List.length_take,Nat.min_eq_left hle,Nat.mul_one]) (fun el hel=>hlenEls el (List.mem_of_mem_take hel)) (byteEls_rel s)).more (l':=cur.toList.drop (n+s.size))) i j el c hi hj
        exact ⟨v,by rw [← Array.getElem?_toList];simpa using hv,hrd.ev ev⟩
     refine ⟨_,_,_,rfl,hin,.own (m:=m) (by simp [mup]) (.inr ⟨b,hbk,by simp,by simpa using hroom⟩),hev⟩
    ·have hrun:=Lib.run_append_grow_string (P:=P) w t t' ty e i0 te.zero ht ht' hii hz0 ⟨b,0,none⟩ n m.cap (cur.toList.take n) (by rw [hxl,hs0,hz1,Nat.mul_one]) (fun j v hv=>by
      rw [addr_add,cell_of_row w b _ cur e (0,0) hhp];rw [List.getElem?_take] at hv
      split at hv
      ·simpa using hv
      ·cases hv) s (by omega) (by omega) (by rw [hb0,hb1];exact growslice_fits (by omega) (by omega))
     rw [hrun];exact moved _ _ hxl hxr (grownCap_ge _ _ _ _) (grownCap_le_maxLen w _ _ e h63) hms
end
end Go.Av
namespace Go.Av
def evalL (G:Glob) (e:Env):List Operand→Option (List AV)
 | []=>some []
 | o :: l=>match aeval G e o,evalL G e l with
  | some x,some xs=>some (x :: xs)
  | _,_=>none
def evalP (G:Glob) (e:Env):List (Nat×Operand)→Option (List (Nat×AV))
 | []=>some []
 | (i,o) :: l=>match aeval G e o,evalP G e l with
  | some x,some xs=>some ((i,x) :: xs)
  | _,_=>none
def pairA (x:AV) (b:Bool):AV:=match x with
 | .d y=>.d (.tup [y,.v (.bool b)])
 | x=>.tup [x,.d (.v (.bool b))]
theorem pairA_ok {w:World} {X:Nat→Prop} {μ:Mu} {u:Value} {x:AV} {b:Bool} (hx:RV w X μ u x):RV w X μ (.tuple #[u,.bool b]) (pairA x b):=by
 unfold pairA
 split
 ·refine .d (.tup rfl fun j v c hv hc=>?_)
  match j,hv,hc with
  | 0,hv,hc=>simp at hv hc;subst hv hc;exact hx.data
  | 1,hv,hc=>simp at hv hc;subst hv hc;exact .v _
  | j+2,hv,hc=>simp at hv
 ·refine .tup rfl fun j v c hv hc=>?_
  match j,hv,hc with
  | 0,hv,hc=>simp at hv hc;subst hv hc;exact hx
  | 1,hv,hc=>simp at hv hc;subst hv hc;exact .d (.v _)
  | j+2,hv,hc=>simp at hv
def assertA (T:Ty) (asserted:TypeId) (cok:Bool) (x:AV):Ans:=match T asserted with
 | none=>none
 | some ti=>match x with
  | .d (.v .nilIface)=>if cok then some (True,pairA (cst ti.zero) false) else none
  | .d (.ifc t y)=>if TypeDesc.isIface ti.desc then none else if t=asserted then some (True,if cok then pairA (.d y) true else .d y) else if cok then some (True,pairA (cst ti.zero) false) else none
  | .ifc t y=>if TypeDesc.isIface ti.desc then none else if t=asserted then some (True,if cok then pairA y true else y) else if cok then some (True,pairA (cst ti.zero) false) else none
  | _=>none
theorem assertA_ok {P:Program} {T:Ty} (hg:Good P T) {w:World} {X:Nat→Prop} {μ:Mu} {asserted xT:TypeId} {cok:Bool} {u:Value} {x z:AV} {c:Prop} (h:assertA T asserted cok x=some (c,z)) (hx:RV w X μ u x) :
  ∃ r,(Instr.typeAssert u xT asserted cok).run P w = .ok r w∧RV w X μ r z:=by
 unfold assertA at h
 split at h
 ·cases h
 ·rename_i ti ht
  have one:∀ (t:TypeId) (v:Value) (y:AV),RV w X μ v y→(if TypeDesc.isIface ti.desc then none else if t=asserted then some (True,if cok then pairA y true else y) else if cok then some (True,pairA (cst ti.zero) false) else none)=some (c,z)→
    ∃ r,(Instr.typeAssert (.iface t v) xT asserted cok).run P w = .ok r w∧RV w X μ r z:=by
   intro t v y hy h
   by_cases hni:TypeDesc.isIface ti.desc=true
   ·rw [if_pos hni] at h;cases h
   ·rw [if_neg hni] at h
    by_cases hta:t=asserted
    ·rw [if_pos hta] at h;simp only [Option.some.injEq,Prod.mk.injEq] at h
     obtain ⟨_,rfl⟩:=h
     subst hta;refine ⟨if cok then .tuple #[v,.bool true] else v,?_,?_⟩
     ·cases hd:ti.desc<;>first | (rw [hd] at hni;exact absurd rfl hni) | (simp [Instr.typeAssert,hg.und ht,hd])
     ·cases cok
      ·exact hy
      ·exact pairA_ok hy
    ·rw [if_neg hta] at h
     cases cok with
     | false=>cases h
     | true=>
      simp only [if_true,Option.some.injEq,Prod.mk.injEq] at h
      obtain ⟨_,rfl⟩:=h
      refine ⟨.tuple #[ti.zero,.bool false],?_,pairA_ok (cst_ok _)⟩
      cases hd:ti.desc<;>first | (rw [hd] at hni;exact absurd rfl hni) | (simp [Instr.typeAssert,hg.und ht,hd,hta,hg.zero ht])
  split at h
  ·split at h
   ·rename_i hck
    simp only [Option.some.injEq,Prod.mk.injEq] at h
    obtain ⟨_,rfl⟩:=h
    have:=hx.scalar
    subst this;refine ⟨.tuple #[ti.zero,.bool false],?_,pairA_ok (cst_ok _)⟩;subst hck
    cases hd:ti.desc<;>simp [Instr.typeAssert,hg.und ht,hd,hg.zero ht]
   ·cases h
  ·rename_i t y
   obtain ⟨v,rfl,hv⟩:=hx.data.ifc_inv
   exact one t v (.d y) (.d hv) h
  ·rename_i t y
   obtain ⟨v,rfl,hv⟩:=hx.ifc_inv
   exact one t v y hv h
  ·cases h
def rd (T:Ty) (G:Glob) (σ:St):Op→Ans
 | .move x=>(aeval G σ.env x).map fun v=>(True,v)
 | .assign x=>(aeval G σ.env x).map fun v=>(True,v)
 | .binOp op t x y _=>match aeval G σ.env x,aeval G σ.env y with
  | some a,some b=>binA T op t y a b
  | _,_=>none
 | .unOp op _ x=>(aeval G σ.env x).bind (unA op)
 | .load t x=>(aeval G σ.env x).bind (loadA T σ.H t)
 | .fieldAddr t x f=>(aeval G σ.env x).bind (fieldAddrA T t f)
 | .field t x f=>(aeval G σ.env x).bind (fieldA T t f)
 | .indexAddr t x i=>match aeval G σ.env x,aeval G σ.env i with
  | some a,some b=>indexA T σ.H t a b
  | _,_=>none
 | .index t x i=>match aeval G σ.env x,aeval G σ.env i with
  | some a,some b=>indexStrA T t a b
  | _,_=>none
 | .extract x i=>(aeval G σ.env x).bind (extractA i)
 | .makeInterface t x=>(aeval G σ.env x).bind (makeIfaceA T t)
 | .makeFunc f first caps=>if first.isEmpty then (evalL G σ.env caps.toList).map fun cs=>(True,mkFn f cs) else match f,first.toList,caps.toList with
  | .func g,[x],[]=>(aeval G σ.env x).map fun v=>(True,.bm g v)
  | _,_,_=>none
 | .pick c x y=>match aeval G σ.env c,aeval G σ.env x,aeval G σ.env y with
  | some (.d (.v (.bool b))),some a1,some a2=>some (True,if b then a1 else a2)
  | _,_,_=>none
 | .nilCheck x=>(aeval G σ.env x).bind nilCheckA
 | .build t parts=>(evalP G σ.env parts.toList).bind (buildA T t)
 | .convert src dst x=>if (T src).isSome then (aeval G σ.env x).bind (convA T dst) else none
 | .slice t x lo hi mx=>if mx.isNone then match aeval G σ.env x,bound G σ.env lo,bound G σ.env hi with
   | some v,some l,some h=>sliceA T σ.H t v l h
   | _,_,_=>none
  else none
 | .typeAssert x _ t b=>(aeval G σ.env x).bind (assertA T t b)
 | .lookup t x i b=>match aeval G σ.env x,aeval G σ.env i with
  | some a,some k=>lookA T σ.H t b a k
  | _,_=>none
 | .call { callee:=.builtin .len,args,argTypes }=>match args.toList,argTypes.toList with
  | [x],[t]=>(aeval G σ.env x).bind (lenA T t)
  | _,_=>none
 | .call { callee:=.builtin .max,args,.. }=>match args.toList with
  | [x,y]=>match aeval G σ.env x,aeval G σ.env y with
   | some (.d (.v (.int k a))),some (.d (.v (.int k' b)))=>some (True,.d (.v (.int k (if b > a then b else a))))
   | _,_=>none
  | _=>none
 | .call { callee:=.builtin .min,args,.. }=>match args.toList with
  | [x,y]=>match aeval G σ.env x,aeval G σ.env y with
   | some (.d (.v (.int k a))),some (.d (.v (.int k' b)))=>some (True,.d (.v (.int k (if b < a then b else a))))
   | _,_=>none
  | _=>none
 | _=>none
def strApp (T:Ty) (G:Glob) (Mv:Nat→Prop) (σ:St) (t t':TypeId) (x y:Operand):Option (Prop×AV×St):=match T t,T t' with
 | some tt,some ts=>match tt.desc,ts.desc with
  | .slice e,.string=>match T e,aeval G σ.env x,aeval G σ.env y with
   | some te,some (.own r off n),some (.d (.v (.string s)))=>match σ.H r with
    | some (.sl ty sz els)=>some (off=0∧Mv r∧ty=e∧sz=1∧n≤els.length∧te.size=1∧te.bytes=1∧te.zero = .int .u8 0∧n+s.size≤140737488355328,
      .own r 0 (n+s.size),⟨killE r σ.env,hup (killH r σ.H) r (.sl e 1 (els.take n ++ byteEls s))⟩)
    | _=>none
   | _,_,_=>none
  | _,_=>none
 | _,_=>none
def wr (T:Ty) (G:Glob) (Mv:Nat→Prop) (σ:St) (o:Oper):Option (Prop×AV×St):=match o.op,o.dst with
 | .alloc t,some d=>match T t with
  | some ti=>some (σ.H d=none,.ref d 0 0,⟨σ.env,hup σ.H d (.box t ((zeroD ti.zero).map .d))⟩)
  | none=>none
 | .box t x,some d=>match (aeval G σ.env x).bind valCells with
  | some cs=>some (σ.H d=none,.ref d 0 0,⟨σ.env,hup σ.H d (.box t cs)⟩)
  | none=>none
 | .store t x y,none=>match aeval G σ.env x,aeval G σ.env y with
  | some (.ref r e j),some v=>match σ.H r with
   | some (.box ty cells)=>if e=0 then match storeBox T t cells j v with
     | some (c,cells')=>some (c,.dead,⟨σ.env,hup σ.H r (.box ty cells')⟩)
     | none=>none
    else none
   | some (.sl ty sz els)=>match storeSl T t sz els e j v with
    | some (c,els')=>some (c,.dead,⟨σ.env,hup σ.H r (.sl ty sz els')⟩)
    | none=>none
   | some (.mp _ _)=>none
   | some (.it _ _)=>none
   | none=>none
  | _,_=>none
 | .makeSlice t l c,some d=>match T t with
  | some tt=>match tt.desc with
   | .slice e=>match T e,aeval G σ.env l,aeval G σ.env c with
    | some te,some (.d (.v (.int _ n))),some (.d (.v (.int _ m)))=>some (σ.H d=none∧0≤n∧n≤m∧te.bytes * m≤281474976710656∧m≤9223372036854775807∧0 < te.size∧(zeroD te.zero).length=te.size,.own d 0 n.toNat,⟨σ.env,hup σ.H d (.sl e te.size (makeEls te n.toNat))⟩)
    | _,_,_=>none
   | _=>none
  | none=>none
 | .buildSlice t len parts,some d=>match T t with
  | some tt=>match tt.desc with
   | .slice e=>match T e,evalP G σ.env parts.toList with
    | some te,some ps=>match catD te.size 0 ps with
     | some els=>some (σ.H d=none∧ps.length=len∧0 < te.size∧len * te.size≤16777216,.own d 0 len,⟨σ.env,hup σ.H d (.sl e te.size els)⟩)
     | none=>none
    | _,_=>none
   | _=>none
  | none=>none
 | .call { callee:=.builtin .append,args,argTypes },some d=>match args.toList,argTypes.toList with
  | [x,y],[t,t']=>if t=t' then match T t with
   | some tt=>match tt.desc with
    | .slice e=>match T e,aeval G σ.env x,aeval G σ.env y with
     | some te,some (.own r off n),some v=>match σ.H r,newsOf σ.H r v with
      | some (.sl ty sz els),some news=>some (off=0∧Mv r∧ty=e∧sz=te.size∧n≤els.length∧(∀ el∈news,el.length=te.size)∧(∀ el∈news,∀ c∈el,D.one c=true)∧0 < te.size∧(zeroD te.zero).length=te.size∧n+news.length≤9223372036854775807∧(n+news.length) * te.bytes≤140737488355328,
        .own r 0 (n+news.length),⟨killE r σ.env,hup (killH r σ.H) r (.sl e te.size (els.take n ++ news))⟩)
      | _,_=>none
     | some te,some (.d (.sl (some false) [])),some v=>match newsOf σ.H d v with
      | some news=>some (σ.H d=none∧Mv d∧(∀ el∈news,el.length=te.size)∧(∀ el∈news,∀ c∈el,D.one c=true)∧0 < te.size∧(zeroD te.zero).length=te.size∧news.length≤9223372036854775807∧news.length * te.bytes≤140737488355328,
        .own d 0 news.length,⟨σ.env,hup σ.H d (.sl e te.size news)⟩)
      | none=>none
     | _,_,_=>none
    | _=>none
   | none=>none
  else strApp T G Mv σ t t' x y
  | _,_=>none
 | .call { callee:=.builtin .copy,args,argTypes },some _=>match args.toList,argTypes.toList with
  | [x,y],[t,_]=>match T t with
   | some tt=>match tt.desc with
    | .slice e=>match T e,aeval G σ.env x,aeval G σ.env y with
     | some te,some (.own r off n),some v=>match σ.H r,srcOf σ.H v with
      | some (.sl ty sz els),some news=>some (ty=e∧sz=1∧te.size=1∧off+n≤els.length∧0 < els.length∧(∀ el∈news,el.length=1)∧(∀ el∈news,∀ c∈el,D.one c=true),
        .d (.v (.int .i64 ((news.take n).length:Nat))),⟨σ.env,hup σ.H r (.sl e 1 (copyEls els news off n))⟩)
      | _,_=>none
     | some te,some (.d (.sl _ [])),some v=>match srcOf σ.H v with
      | some news=>some ((∀ el∈news,el.length=te.size)∧0 < te.size∧(∀ el∈news,∀ c∈el,D.one c=true),.d (.v (.int .i64 0)),σ)
      | none=>none
     | _,_,_=>none
    | _=>none
   | none=>none
  | _,_=>none
 | .makeMap t none,some d=>some (σ.H d=none,.mp d,⟨σ.env,hup σ.H d (.mp t [])⟩)
 | .mapUpdate t m k v,none=>match aeval G σ.env m,aeval G σ.env k,aeval G σ.env v with
  | some (.mp r),some (.d (.v key)),some (.d x)=>match σ.H r with
   | some (.mp ty ents)=>match putM T t ents key x with
    | some (c,ents')=>some (c,.dead,⟨σ.env,hup σ.H r (.mp ty ents')⟩)
    | none=>none
   | _=>none
  | _,_,_=>none
 | .insert t m k v,none=>match aeval G σ.env m,aeval G σ.env k,aeval G σ.env v with
  | some (.mp r),some (.d (.v key)),some (.d x)=>match σ.H r with
   | some (.mp ty ents)=>match putM T t ents key x with
    | some (c,ents')=>some (c,.dead,⟨σ.env,hup σ.H r (.mp ty ents')⟩)
    | none=>none
   | _=>none
  | _,_,_=>none
 | _,_=>none
def putd (e:Env) (dst:Option Tmp) (x:AV):Env:=match dst with
 | some d=>upd e d x
 | none=>e
section
variable {P:Program} {T:Ty} {Mv X:Nat→Prop} {G:Glob} {N:Fr} {w:World} {μ:Mu} {a:Act} {σ:St}
theorem In.put (hi:In w X G μ N a σ) {u:Value} {x:AV} (hx:RV w X μ u x) {dst:Option Tmp} (hd:∀ d,dst=some d→d < N.n):In w X G μ N (a.put dst u) ⟨putd σ.env dst x,σ.H⟩:=by
 cases dst with
 | none=>exact hi
 | some d=>
  have hlt:d < a.tmps.size:=by rw [hi.env.size];exact hd d rfl
  refine ⟨hi.sim,⟨hi.env.defers,by simp [Act.put,hi.env.size],fun i y hy=>?_⟩,hi.glob⟩;simp only [putd,upd] at hy
  split at hy
  ·rename_i e
   subst e
   obtain rfl:=Option.some.inj hy
   exact ⟨u,by simp [Act.put,hlt],hx⟩
  ·rename_i e
   obtain ⟨v,hv,hr⟩:=hi.env.slot i y hy
   exact ⟨v,by simp only [Act.put];rw [Array.getElem?_setIfInBounds_ne (Ne.symm e)];exact hv,hr⟩
theorem In.evalL (hi:In w X G μ N a σ):∀ {l:List Operand} {xs:List AV},evalL G σ.env l=some xs→(l.map a.eval).length=xs.length∧∀ (i:Nat) (u:Value) (x:AV),(l.map a.eval)[i]? = some u→xs[i]? = some x→RV w X μ u x:=by
 intro l
 induction l with
 | nil=>intro xs h;simp only [Go.Av.evalL,Option.some.injEq] at h;subst h;exact ⟨rfl,by simp⟩
 | cons o l ih=>
  intro xs h
  simp only [Go.Av.evalL] at h
  split at h
  ·rename_i x xs' h1 h2
   obtain rfl:=Option.some.inj h
   obtain ⟨hl,hr⟩:=ih h2
   refine ⟨by simpa using hl,fun i u y hu hy=>?_⟩
   cases i with
   | zero=>simp at hu hy;subst hu hy;exact hi.eval h1
   | succ i=>simp at hu hy;exact hr i u y (by simpa using hu) hy
  ·cases h
theorem In.evalP (hi:In w X G μ N a σ):∀ {l:List (Nat×Operand)} {xs:List (Nat×AV)},evalP G σ.env l=some xs→(l.map fun p=>(p.1,a.eval p.2)).map (·.1)=xs.map (·.1)∧
  ∀ (i:Nat) (p:Nat×AV) (v:Nat×Value),xs[i]? = some p→(l.map fun p=>(p.1,a.eval p.2))[i]? = some v→RV w X μ v.2 p.2:=by
 intro l
 induction l with
 | nil=>intro xs h;simp only [Go.Av.evalP,Option.some.injEq] at h;subst h;exact ⟨rfl,by simp⟩
 | cons o l ih=>
  intro xs h
  obtain ⟨k,o⟩:=o
  simp only [Go.Av.evalP] at h
  split at h
  ·rename_i x xs' h1 h2
   obtain rfl:=Option.some.inj h
   obtain ⟨hl,hr⟩:=ih h2
   refine ⟨by simpa using hl,fun i p v hp hv=>?_⟩
   cases i with
   | zero=>simp at hp hv;subst hp hv;exact hi.eval h1
   | succ i=>simp at hp hv;exact hr i p v hp (by simpa using hv)
  ·cases h
theorem In.bound (hi:In w X G μ N a σ) {o:Option Operand} {l:Option Int} (h:bound G σ.env o=some l):(o.map a.eval=none∧l=none)∨∃ k n,o.map a.eval=some (.int k n)∧l=some n:=by
 unfold Go.Av.bound at h
 split at h
 ·obtain rfl:=Option.some.inj h;exact .inl ⟨rfl,rfl⟩
 ·split at h
  ·rename_i k n he
   obtain rfl:=Option.some.inj h
   exact .inr ⟨k,n,by simp [(hi.eval he).scalar],rfl⟩
  ·cases h
theorem rd_ok (hg:Good P T) (hi:In w X G μ N a σ) {o:Oper} {c:Prop} {x:AV} (h:rd T G σ o.op=some (c,x)) (hc:c):∃ v,(execOp a.eval o).run P w = .ok (.value v) w∧RV w X μ v x:=by
 have lift:∀ {s:Sem Value} ,(∃ v,s.run P w = .ok v w∧RV w X μ v x)→∃ v,(do pure (.value (← s)):Sem Next).run P w = .ok (.value v) w∧RV w X μ v x:=by
  rintro s ⟨v,hv,hr⟩
  exact ⟨v,by simp [hv],hr⟩
 obtain ⟨dst,op,type,pos,after,guard⟩:=o
 dsimp only at h
 unfold rd at h
 split at h
 ·obtain ⟨y,hy,he⟩:=Option.map_eq_some_iff.1 h
  simp only [Prod.mk.injEq] at he
  obtain ⟨rfl,rfl⟩:=he
  exact ⟨_,rfl,hi.eval hy⟩
 ·obtain ⟨y,hy,he⟩:=Option.map_eq_some_iff.1 h
  simp only [Prod.mk.injEq] at he
  obtain ⟨rfl,rfl⟩:=he
  exact ⟨_,rfl,hi.eval hy⟩
 ·split at h
  ·rename_i h1 h2
   exact lift (binA_ok hg hi h1 h2 h hc)
  ·cases h
 ·obtain ⟨y,hy,he⟩:=Option.bind_eq_some_iff.1 h
  exact lift (unA_ok he hc (hi.eval hy))
 ·obtain ⟨y,hy,he⟩:=Option.bind_eq_some_iff.1 h
  exact lift (loadA_ok hg hi.sim he hc (hi.eval hy))
 ·obtain ⟨y,hy,he⟩:=Option.bind_eq_some_iff.1 h
  exact lift (fieldAddrA_ok hg he hc (hi.eval hy))
 ·obtain ⟨y,hy,he⟩:=Option.bind_eq_some_iff.1 h
  exact lift (fieldA_ok hg he hc (hi.eval hy))
 ·split at h
  ·rename_i h1 h2
   exact lift (indexA_ok hg hi.sim h hc (hi.eval h1) (hi.eval h2))
  ·cases h
 ·split at h
  ·rename_i h1 h2
   exact lift (indexStrA_ok hg h hc (hi.eval h1) (hi.eval h2))
  ·cases h
 ·obtain ⟨y,hy,he⟩:=Option.bind_eq_some_iff.1 h
  exact lift (extractA_ok he (hi.eval hy))
 ·obtain ⟨y,hy,he⟩:=Option.bind_eq_some_iff.1 h
  exact lift (makeIfaceA_ok hg he (hi.eval hy))
 ·split at h
  ·rename_i f first caps hf
   obtain ⟨y,hy,he⟩:=Option.map_eq_some_iff.1 h
   simp only [Prod.mk.injEq] at he
   obtain ⟨rfl,rfl⟩:=he
   obtain ⟨hl,hr⟩:=hi.evalL hy
   have hf':first = #[]:=by simpa using hf
   subst hf';refine ⟨.func f #[] (caps.map a.eval),by simp [execOp,Instr.makeFunc],mkFn_ok (by simpa using hl) fun j u c hu hc=>hr j u c (by simpa using hu) hc⟩
  ·split at h
   ·rename_i x hf1 hc1
    obtain ⟨y,hy,he⟩:=Option.map_eq_some_iff.1 h
    simp only [Prod.mk.injEq] at he
    obtain ⟨rfl,rfl⟩:=he
    obtain rfl:=Array.toList_inj.1 (show _=(#[x]:Array Operand).toList from hf1)
    obtain rfl:=Array.toList_inj.1 (show _=(#[]:Array Operand).toList from hc1)
    exact ⟨_,by simp [execOp,Instr.makeFunc],.bm (hi.eval hy)⟩
   ·cases h
 ·split at h
  ·rename_i b a1 a2 h0 h1 h2
   simp only [Option.some.injEq,Prod.mk.injEq] at h
   obtain ⟨rfl,rfl⟩:=h
   have hb:=(hi.eval h0).scalar
   refine ⟨if b then a.eval _ else a.eval _,by simp [execOp,hb,asBool];cases b<;>rfl,?_⟩
   cases b
   ·exact hi.eval h2
   ·exact hi.eval h1
  ·cases h
 ·obtain ⟨y,hy,he⟩:=Option.bind_eq_some_iff.1 h
  obtain ⟨⟨ad,had⟩,hr⟩:=nilCheckA_ok he (hi.eval hy)
  exact ⟨.pointer (some ad),by simp [execOp,had],by rw [← had];exact hr⟩
 ·rename_i t parts
  obtain ⟨ps,hps,he⟩:=Option.bind_eq_some_iff.1 h
  obtain ⟨h1,h2⟩:=hi.evalP hps
  refine lift (buildA_ok (vs:=parts.map fun p=>(p.1,a.eval p.2)) hg he (by simpa using h1) fun i p v hp hv=>h2 i p v hp ?_);rw [← Array.getElem?_toList] at hv;simpa using hv
 ·split at h
  ·rename_i hs
   obtain ⟨y,hy,he⟩:=Option.bind_eq_some_iff.1 h
   exact lift (convA_ok hg hs he hc (hi.eval hy))
  ·cases h
 ·split at h
  ·rename_i mx hmx
   split at h
   ·rename_i v l hh h1 h2 h3
    cases mx with
    | some _=>simp at hmx
    | none=>exact lift (sliceA_ok hg hi.sim h hc (hi.eval h1) (hi.bound h2) (hi.bound h3))
   ·cases h
  ·cases h
 ·obtain ⟨y,hy,he⟩:=Option.bind_eq_some_iff.1 h
  exact lift (assertA_ok hg he (hi.eval hy))
 ·split at h
  ·rename_i h1 h2
   exact lift (lookA_ok hg hi.sim h hc (hi.eval h1) (hi.eval h2))
  ·cases h
 ·split at h
  ·rename_i args argTypes _ _ x0 t ha ht
   obtain ⟨y,hy,he⟩:=Option.bind_eq_some_iff.1 h
   obtain ⟨r,hr,hrv⟩:=lenA_ok (ty:=type) hg he (hi.eval hy)
   have e1:args = #[x0]:=Array.toList_inj.1 ha
   have e2:argTypes = #[t]:=Array.toList_inj.1 ht
   subst e1 e2;exact ⟨r,by simp [execOp,resolve,invoke,builtin,hr],hrv⟩
  ·cases h
 ·split at h
  ·rename_i args _ _ x0 y0 ha
   split at h
   ·rename_i k a0 k' b0 h1 h2
    simp only [Option.some.injEq,Prod.mk.injEq] at h
    obtain ⟨rfl,rfl⟩:=h
    have e1:=(hi.eval h1).scalar
    have e2:=(hi.eval h2).scalar
    have e0:args = #[x0,y0]:=Array.toList_inj.1 ha
    subst e0;exact ⟨_,by simp [execOp,resolve,invoke,builtin,Builtin.max_,Builtin.max2,e1,e2],.d (.v _)⟩
   ·cases h
  ·cases h
 ·split at h
  ·rename_i args _ _ x0 y0 ha
   split at h
   ·rename_i k a0 k' b0 h1 h2
    simp only [Option.some.injEq,Prod.mk.injEq] at h
    obtain ⟨rfl,rfl⟩:=h
    have e1:=(hi.eval h1).scalar
    have e2:=(hi.eval h2).scalar
    have e0:args = #[x0,y0]:=Array.toList_inj.1 ha
    subst e0;exact ⟨_,by simp [execOp,resolve,invoke,builtin,Builtin.min_,Builtin.min2,e1,e2],.d (.v _)⟩
   ·cases h
  ·cases h
 ·cases h
theorem RV.nokill {u:Value} {x:AV} {r:Nat} (h:RV w X μ u x) (hr:μ r=none):x.kill r=x:=by
 have lst:∀ (l:List AV),(∀ c∈l,c.kill r=c)→l.map (AV.kill r)=l:=by
  intro l hl
  induction l with
  | nil=>rfl
  | cons c l ih=>simp only [List.map_cons];rw [hl c (by simp),ih fun c hc=>hl c (by simp [hc])]
 have arr:∀ (arr:Array Value) (cells:List AV),arr.size=cells.length→(∀ (j:Nat) (u:Value) (c:AV),arr[j]? = some u→cells[j]? = some c→c.kill r=c)→cells.map (AV.kill r)=cells:=by
  intro arr cells hn hh
  refine lst cells fun c hc=>?_
  obtain ⟨j,hj,rfl⟩:=List.mem_iff_getElem.1 hc
  exact hh j arr[j] _ (by simp [hn,hj]) (by simp [hj])
 induction h with
 | d h=>rfl
 | own hm _=>
  rename_i u q off n m
  unfold AV.kill;rw [if_neg]
  intro e;subst e;rw [hr] at hm;cases hm
 | ref hm _=>
  rename_i q e j b m
  unfold AV.kill;rw [if_neg]
  intro e;subst e;rw [hr] at hm;cases hm
 | agg hn _ ih=>rw [AV.kill,AV.go_eq,arr _ _ hn ih]
 | tup hn _ ih=>rw [AV.kill,AV.go_eq,arr _ _ hn ih]
 | ifc _ ih=>rw [AV.kill,ih]
 | bm _ ih=>rw [AV.kill,ih]
 | fn hn _ ih=>rw [AV.kill,AV.go_eq,arr _ _ hn ih]
 | mp hm _=>
  rename_i q b m
  unfold AV.kill;rw [if_neg]
  intro e;subst e;rw [hr] at hm;cases hm
 | dead u=>rfl
theorem In.nokill (hi:In w X G μ N a σ) {r:Nat} (hr:σ.H r=none):killE r σ.env=σ.env∧killH r σ.H=σ.H:=by
 have hn:=hi.sim.none_of hr
 constructor
 ·funext i
  unfold killE
  cases he:σ.env i with
  | none=>rfl
  | some x=>
   obtain ⟨u,_,hx⟩:=hi.env.slot i x he
   simp [hx.nokill hn]
 ·funext q
  unfold killH
  cases hq:σ.H q with
  | none=>rfl
  | some row=>
   obtain ⟨m,hm,ok⟩:=hi.sim.rows q row hq
   cases ok with
   | nil=>rfl
   | sl=>rfl
   | mp=>rfl
   | it=>rfl
   | box hb hsz hc hh hn' hrr hx9=>
    rename_i ty b cells cur
    have:cells.map (AV.kill r)=cells:=by
     have:=(RV.agg (w:=w) (X:=X) (μ:=μ) (arr:=(cur.toList.take cells.length).toArray) (cells:=cells) (by simp;omega) fun j u c hu hc=>hrr j u c (by
      have hu':(cur.toList.take cells.length)[j]? = some u:=by simpa using hu
      rw [List.getElem?_take] at hu'
      split at hu'
      ·simpa using hu'
      ·cases hu') hc).nokill hn
     rw [AV.kill,AV.go_eq] at this;exact AV.agg.inj this
    simp [Row.kill,this]
theorem wr_ok (hg:Good P T) (hi:In w X G μ N a σ) {o:Oper} {c:Prop} {x:AV} {σ1:St} (h:wr T G Mv σ o=some (c,x,σ1)) (hc:c) (hd:∀ d,o.dst=some d→d < N.n) :
  ∃ n v w' μ',(execOp a.eval o).run P w = .ok n w'∧(n = .value v∨(n = .skip∧v=undef))∧In w' X G μ' N a σ1∧RV w' X μ' v x∧Ev Mv w μ w' μ':=by
 have lift:∀ {s:Sem Value} {x:AV} {σ1:St},Does Mv X G N w μ a (s.run P w) x σ1→∃ n v w' μ',(do pure (.value (← s)):Sem Next).run P w = .ok n w'∧(n = .value v∨(n = .skip∧v=undef))∧In w' X G μ' N a σ1∧RV w' X μ' v x∧Ev Mv w μ w' μ':=by
  rintro s x σ1 ⟨v,w',μ',hr,rest⟩
  exact ⟨.value v,v,w',μ',by simp [hr],.inl rfl,rest⟩
 obtain ⟨dst,op,type,pos,after,guard⟩:=o
 dsimp only at h hd
 unfold wr at h
 dsimp only at h
 split at h
 ·split at h
  ·rename_i ti ht
   simp only [Option.some.injEq,Prod.mk.injEq] at h
   obtain ⟨rfl,rfl,rfl⟩:=h
   exact lift (allocA_ok hg hi hc ht)
  ·cases h
 ·split at h
  ·rename_i cs hcs
   obtain ⟨y,hy,he⟩:=Option.bind_eq_some_iff.1 hcs
   simp only [Option.some.injEq,Prod.mk.injEq] at h
   obtain ⟨rfl,rfl,rfl⟩:=h
   exact lift (boxA_ok hi hc (hi.eval hy) he)
  ·cases h
 ·split at h
  ·rename_i r e j v h1 h2
   split at h
   ·rename_i ty cells hH
    split at h
    ·rename_i he
     subst he
     split at h
     ·rename_i c' cells' hs
      simp only [Option.some.injEq,Prod.mk.injEq] at h
      obtain ⟨rfl,rfl,rfl⟩:=h
      obtain ⟨w',hr,hin,hev⟩:=storeBox_ok (Mv:=Mv) hg hi hH hs hc (hi.eval h1) (hi.eval h2)
      exact ⟨.skip,undef,w',μ,by simp [execOp,hr],.inr ⟨rfl,rfl⟩,hin,.dead _,hev⟩
     ·cases h
    ·cases h
   ·rename_i ty sz els hH
    split at h
    ·rename_i c' els' hs
     simp only [Option.some.injEq,Prod.mk.injEq] at h
     obtain ⟨rfl,rfl,rfl⟩:=h
     obtain ⟨w',hr,hin,hev⟩:=storeSl_ok (Mv:=Mv) hg hi hH hs hc (hi.eval h1) (hi.eval h2)
     exact ⟨.skip,undef,w',μ,by simp [execOp,hr],.inr ⟨rfl,rfl⟩,hin,.dead _,hev⟩
    ·cases h
   ·cases h
   ·cases h
   ·cases h
  ·cases h
 ·split at h
  ·rename_i tt htt
   split at h
   ·rename_i e hdd
    split at h
    ·rename_i te kn n km m hte h1 h2
     simp only [Option.some.injEq,Prod.mk.injEq] at h
     obtain ⟨rfl,rfl,rfl⟩:=h
     obtain ⟨g1,g2,g3,g4,g5,g6,g7⟩:=hc
     have:=makeA_ok (Mv:=Mv) hg hi g1 htt hdd hte (k1:=kn) (k2:=km) g2 g3 g4 g5 g6 g7
     rw [← (hi.eval h1).scalar,← (hi.eval h2).scalar] at this;exact lift this
    ·cases h
   ·cases h
  ·cases h
 ·split at h
  ·rename_i tt htt
   split at h
   ·rename_i e hdd
    split at h
    ·rename_i te ps hte hps
     split at h
     ·rename_i els hels
      simp only [Option.some.injEq,Prod.mk.injEq] at h
      obtain ⟨rfl,rfl,rfl⟩:=h
      obtain ⟨g1,g2,g3,g4⟩:=hc
      obtain ⟨hv,hr⟩:=hi.evalP hps
      exact lift (buildSliceA_ok (Mv:=Mv) hg hi g1 htt hdd hte hels g2 (by simpa using hv) (fun i p v h1 h2=>hr i p v h1 (by simpa using h2)) g3 g4)
     ·cases h
    ·cases h
   ·cases h
  ·cases h
 ·split at h
  ·rename_i args argTypes d _ _ x0 y0 t t' ha ht
   have e1:args = #[x0,y0]:=Array.toList_inj.1 ha
   have e2:argTypes = #[t,t']:=Array.toList_inj.1 ht
   subst e1 e2
   split at h
   ·rename_i htt'
    subst htt'
    have run_eq:∀ {x:AV} {σ1:St},Does Mv X G N w μ a ((Builtin.append_ #[t,t] type #[a.eval x0,a.eval y0]).run P w) x σ1→∃ n v w' μ',(execOp a.eval { dst:=some d,op:=.call { callee:=.builtin .append,args:=⟨[x0,y0]⟩,argTypes:=⟨[t,t]⟩ },type:=type,pos:=pos,after:=after,guard:=guard }).run P w = .ok n w'∧(n = .value v∨(n = .skip∧v=undef))∧In w' X G μ' N a σ1∧RV w' X μ' v x∧Ev Mv w μ w' μ':=by
     rintro x σ1 ⟨v,w',μ',hr,rest⟩
     exact ⟨.value v,v,w',μ',by simp [execOp,resolve,invoke,builtin,hr],.inl rfl,rest⟩
    split at h
    ·rename_i tt htt
     split at h
     ·rename_i e hdd
      split at h
      ·rename_i te r off n v hte h1 h2
       split at h
       ·rename_i ty sz els news hH hn
        simp only [Option.some.injEq,Prod.mk.injEq] at h
        obtain ⟨rfl,rfl,rfl⟩:=h
        obtain ⟨rfl,g1,rfl,rfl,g2,g3,g4,g5,g6,g7,g8⟩:=hc
        exact run_eq (appendA_ok (Mv:=Mv) hg hi g1 htt hdd hte hH g2 (hi.eval h1) (newsOf_ok hi.sim (hi.eval h2) hn g3 g5 g4) g5 g6 (by unfold maxLen;omega) g8)
       ·cases h
      ·rename_i te v hte h1 h2
       split at h
       ·rename_i news hn
        simp only [Option.some.injEq,Prod.mk.injEq] at h
        obtain ⟨rfl,rfl,rfl⟩:=h
        obtain ⟨g0,g1,g3,g4,g5,g6,g7,g8⟩:=hc
        obtain ⟨hin,hev⟩:=hi.alloc (Mv:=Mv) g0 (Grew.refl w) (m:=⟨none,te.size,0⟩) (by simp) (row:=.sl e te.size []) fun _=>.nil rfl rfl
        have hu:RV w X (mup μ d ⟨none,te.size,0⟩) (a.eval x0) (.own d 0 0):=by
         have:=(hi.eval h1).data.sl_inv
         rcases this with ⟨hh,_⟩ | ⟨ad,cap,hh,hk,_⟩
         ·rw [hh];exact .own (m:=⟨none,te.size,0⟩) (by simp [mup]) (.inl ⟨rfl,rfl,rfl,rfl⟩)
         ·exact absurd rfl hk
        have hn':newsOf (hup σ.H d (.sl e te.size [])) d v=some news:=by
         unfold newsOf at hn ⊢
         split at hn<;>first | exact hn | skip
         rename_i q off n
         split at hn
         ·cases hn
         ·rename_i hq
          rw [if_neg hq];simpa [hup,hq] using hn
        have hv2:RV w X (mup μ d ⟨none,te.size,0⟩) (a.eval y0) v:=by
         refine (hi.eval h2).same hev fun q m hq=>?_;unfold mup
         split
         ·rename_i e';subst e';rw [hi.sim.none_of g0] at hq;cases hq
         ·exact hq
        have happ:=appendA_ok (Mv:=Mv) (ty:=type) hg hin g1 htt hdd hte (r:=d) (n:=0) (els:=[]) (news:=news) (by simp [hup]) (by simp) hu (newsOf_ok hin.sim hv2 hn' g3 g5 g4) g5 g6 (by unfold maxLen;omega) (by simpa using g8)
        obtain ⟨v',w',μ',hr,hin',hrv,hev'⟩:=happ
        refine run_eq ⟨v',w',μ',hr,?_,by simpa using hrv,hev.trans hev'⟩
        obtain ⟨k1,k2⟩:=hi.nokill g0
        have e1:killH d (hup σ.H d (.sl e te.size []))=hup σ.H d (.sl e te.size []):=by
         funext q
         by_cases hq:q=d
         ·simp [killH,hup,hq,Row.kill]
         ·have:=congrFun k2 q
          simpa [killH,hup,hq] using this
        have e2:hup (hup σ.H d (.sl e te.size [])) d (.sl e te.size ([].take 0 ++ news))=hup σ.H d (.sl e te.size news):=by
         funext q
         by_cases hq:q=d<;>simp [hup,hq]
        dsimp only at hin'
        rw [k1,e1,e2] at hin';exact hin'
       ·cases h
      ·cases h
     ·cases h
    ·cases h
   ·unfold strApp at h
    split at h
    ·rename_i tt ts htt hts
     split at h
     ·rename_i e hdd hds
      split at h
      ·rename_i te r off n s hte h1 h2
       split at h
       ·rename_i ty sz els hH
        simp only [Option.some.injEq,Prod.mk.injEq] at h
        obtain ⟨rfl,rfl,rfl⟩:=h
        obtain ⟨rfl,g1,rfl,rfl,g2,g3,g4,g5,g6⟩:=hc
        have hv:a.eval y0 = .string s:=(hi.eval h2).scalar
        obtain ⟨v,w',μ',hr,rest⟩:=appendStr_ok (Mv:=Mv) (ty:=type) hg hi g1 htt hdd hts hds hte hH g2 (hi.eval h1) g3 g4 g5 g6
        exact ⟨.value v,v,w',μ',by simp [execOp,resolve,invoke,builtin,hv,hr],.inl rfl,rest⟩
       ·cases h
      ·cases h
     ·cases h
    ·cases h
  ·cases h
 ·split at h
  ·rename_i args argTypes d _ _ x0 y0 t t' ha ht
   have e1:args = #[x0,y0]:=Array.toList_inj.1 ha
   have e2:argTypes = #[t,t']:=Array.toList_inj.1 ht
   subst e1 e2
   split at h
   ·rename_i tt htt
    split at h
    ·rename_i e hdd
     split at h
     ·rename_i te r off n v hte h1 h2
      split at h
      ·rename_i ty sz els news hH hn
       simp only [Option.some.injEq,Prod.mk.injEq] at h
       obtain ⟨rfl,rfl,rfl⟩:=h
       obtain ⟨rfl,rfl,g1,g2,g3,g4,g5⟩:=hc
       obtain ⟨v,w',μ',hr,rest⟩:=copyA_ok (Mv:=Mv) (ty:=type) (t':=t') hg hi htt hdd hte g1 hH g2 g3 (hi.eval h1) (srcOf_ok hi.sim (hi.eval h2) hn g4 (by omega) g5)
       exact ⟨.value v,v,w',μ',by simp [execOp,resolve,invoke,builtin,hr],.inl rfl,rest⟩
      ·cases h
     ·rename_i te kq v hte h1 h2
      split at h
      ·rename_i news hn
       simp only [Option.some.injEq,Prod.mk.injEq] at h
       obtain ⟨rfl,rfl,rfl⟩:=h
       obtain ⟨g4,g5,g6⟩:=hc
       obtain ⟨v,w',μ',hr,rest⟩:=copyN_ok (Mv:=Mv) (ty:=type) (t':=t') hg hi htt hdd hte (hi.eval h1) (srcOf_ok hi.sim (hi.eval h2) hn g4 g5 g6)
       exact ⟨.value v,v,w',μ',by simp [execOp,resolve,invoke,builtin,hr],.inl rfl,rest⟩
      ·cases h
     ·cases h
    ·cases h
   ·cases h
  ·cases h
 ·simp only [Option.some.injEq,Prod.mk.injEq] at h
  obtain ⟨rfl,rfl,rfl⟩:=h
  exact lift (makeMapA_ok hi hc _)
 ·split at h
  ·rename_i r key x h1 h2 h3
   split at h
   ·rename_i ty ents hH
    split at h
    ·rename_i c' ents' hp
     simp only [Option.some.injEq,Prod.mk.injEq] at h
     obtain ⟨rfl,rfl,rfl⟩:=h
     obtain ⟨w',hr,hin,hev⟩:=mapUpdateA_ok (Mv:=Mv) hg hi hH hp hc (hi.eval h1) (hi.eval h2) (hi.eval h3)
     exact ⟨.skip,undef,w',μ,by simp [execOp,hr],.inr ⟨rfl,rfl⟩,hin,.dead _,hev⟩
    ·cases h
   ·cases h
  ·cases h
 ·split at h
  ·rename_i r key x h1 h2 h3
   split at h
   ·rename_i ty ents hH
    split at h
    ·rename_i c' ents' hp
     simp only [Option.some.injEq,Prod.mk.injEq] at h
     obtain ⟨rfl,rfl,rfl⟩:=h
     obtain ⟨w',hr,hin,hev⟩:=mapUpdateA_ok (Mv:=Mv) hg hi hH hp hc (hi.eval h1) (hi.eval h2) (hi.eval h3)
     exact ⟨.skip,undef,w',μ,by simp [execOp,hr],.inr ⟨rfl,rfl⟩,hin,.dead _,hev⟩
    ·cases h
   ·cases h
  ·cases h
 ·cases h
end
end Go.Av
namespace Go.Av
def Fun (P:Program) (g:FuncId):Prop:=∀ (args:Array Value) (w:World),(callFunc g args).run P w = .ok (.enter g args) w
theorem Fun.of {P:Program} {g:FuncId} {fn:Func} {c:Code} (h:P.funcs[g]? = some fn) (hb:fn.body=some c) (hn:(fn.name == "runtime.NumGoroutine")=false):Fun P g:=by
 intro args w
 simp only [callFunc,Sem.run_bind,run_program,Result.andThen_ok,h,hn,Bool.false_eq_true,if_false];simp [hb]
def und:AV:=.d (.v undef)
def gval (ops:Array Oper) (e:Env) (j:Nat):Option (Option Bool):=match (ops[j]?).bind (·.dst) with
 | some d=>match e d with
  | some (.d (.v (.bool b)))=>some (some b)
  | some (.d (.v (.tuple _)))=>some none
  | _=>none
 | none=>none
def wantedS (ops:Array Oper) (e:Env) (o:Oper):Option Bool:=match o.guard with
 | none=>some true
 | some (j,want)=>(gval ops e j).map (· == some want)
def tgt (G:Glob) (e:Env) (c:Call):Option (FuncId×List AV):=match c.callee with
 | .value f=>match aeval G e f,evalL G e c.args.toList with
  | some (.d (.fn (.func g) caps)),some xs=>some (g,xs ++ caps.map .d)
  | some (.fn (.func g) caps),some xs=>some (g,xs ++ caps)
  | some (.bm g x),some xs=>some (g,x :: xs)
  | _,_=>none
 | _=>none
def callS (P:Program) (Mv X:Nat→Prop) (G:Glob) (N:Fr) (g:FuncId) (xs:List AV) (σ:St) (K:AV→St→Prop):Prop:=
 Fun P g∧∀ w μ a (vs:Array Value),In w X G μ N a σ→vs.size=xs.length→(∀ (i:Nat) (u:Value) (x:AV),vs[i]? = some u→xs[i]? = some x→RV w X μ u x)→
  Calls P g vs w fun e w'=>∃ v x σ' μ',e = .returned v∧K x σ'∧In w' X G μ' N a σ'∧RV w' X μ' v x∧Ev Mv w μ w' μ'
theorem callS.mono {P:Program} {Mv X:Nat→Prop} {G:Glob} {N:Fr} {g:FuncId} {xs:List AV} {σ:St} {K K':AV→St→Prop} (h:callS P Mv X G N g xs σ K) (hk:∀ x σ',K x σ'→K' x σ'):callS P Mv X G N g xs σ K':=
 ⟨h.1,fun w μ a vs hi hn hv=>(h.2 w μ a vs hi hn hv).mono fun _ _ ⟨v,x,σ',μ',he,k,rest⟩=>⟨v,x,σ',μ',he,hk _ _ k,rest⟩⟩
def isWr:Op→Bool
 | .alloc _=>true
 | .box _ _=>true
 | .store _ _ _=>true
 | .makeSlice _ _ _=>true
 | .buildSlice _ _ _=>true
 | .makeMap _ _=>true
 | .mapUpdate _ _ _ _=>true
 | .insert _ _ _ _=>true
 | .call { callee:=.builtin .append,.. }=>true
 | .call { callee:=.builtin .copy,.. }=>true
 | _=>false
def isCall:Op→Option Call
 | .call { callee:=.value f,args,argTypes }=>some { callee:=.value f,args,argTypes }
 | _=>none
def plainS (T:Ty) (G:Glob) (Mv:Nat→Prop) (o:Oper) (σ:St) (K:St→Prop):Prop:=
 if isWr o.op then match wr T G Mv σ o with
  | some (c,x,σ')=>c∧K ⟨putd σ'.env o.dst x,σ'.H⟩
  | none=>False
 else match rd T G σ o.op with
  | some (c,x)=>c∧K ⟨putd σ.env o.dst x,σ.H⟩
  | none=>False
def ex1 (P:Program) (T:Ty) (Mv X:Nat→Prop) (G:Glob) (N:Fr) (o:Oper) (σ:St) (K:St→Prop):Prop:=match isCall o.op with
 | some c=>match tgt G σ.env c with
  | some (g,xs)=>callS P Mv X G N g xs σ fun x σ'=>K ⟨putd σ'.env o.dst x,σ'.H⟩
  | none=>False
 | none=>plainS T G Mv o σ K
def okDst (N:Fr) (o:Oper):Prop:=match o.dst with
 | some d=>d < N.n
 | none=>True
section
variable {P:Program} {T:Ty} {Mv X:Nat→Prop} {G:Glob} {N:Fr} {w:World} {μ:Mu} {a:Act} {σ:St}
theorem wantedS_ok (hi:In w X G μ N a σ) {ops:Array Oper} {o:Oper} {b:Bool} (h:wantedS ops σ.env o=some b):Region.wanted o (yielded ops a.tmps)=b:=by
 unfold wantedS at h;unfold Region.wanted
 split at h
 ·rename_i hg
  obtain rfl:=Option.some.inj h
  simp [hg]
 ·rename_i j want hg
  obtain ⟨b',hb,rfl⟩:=Option.map_eq_some_iff.1 h
  simp only [hg];unfold gval at hb
  split at hb
  ·rename_i d hd
   split at hb
   ·rename_i b2 he
    obtain rfl:=Option.some.inj hb
    obtain ⟨u,hu,hr⟩:=hi.env.slot d _ he
    obtain rfl:=hr.scalar
    simp [yielded,hd,hu]
   ·rename_i he
    obtain rfl:=Option.some.inj hb
    obtain ⟨u,hu,hr⟩:=hi.env.slot d _ he
    obtain rfl:=hr.scalar
    simp [yielded,hd,hu]
   ·cases hb
  ·cases hb
theorem tgt_ok (hi:In w X G μ N a σ) {o:Oper} {c:Call} {g:FuncId} {xs:List AV} (ho:o.op = .call c) (h:tgt G σ.env c=some (g,xs)) :
  ∃ vs:Array Value,(execOp a.eval o).run P w=(callFunc g vs).run P w∧vs.size=xs.length∧∀ (i:Nat) (u:Value) (x:AV),vs[i]? = some u→xs[i]? = some x→RV w X μ u x:=by
 unfold tgt at h
 split at h
 ·rename_i f hf
  have key:∀ (caps:List AV) (arr:Array Value) (ys:List AV),a.eval f = .func (.func g) #[] arr→arr.size=caps.length→(∀ (j:Nat) (u:Value) (c:AV),arr[j]? = some u→caps[j]? = some c→RV w X μ u c)→evalL G σ.env c.args.toList=some ys→xs=ys ++ caps→
    ∃ vs:Array Value,(execOp a.eval o).run P w=(callFunc g vs).run P w∧vs.size=xs.length∧∀ (i:Nat) (u:Value) (x:AV),vs[i]? = some u→xs[i]? = some x→RV w X μ u x:=by
   intro caps arr ys hfe hn hr hy hx
   obtain ⟨hl,hv⟩:=hi.evalL hy
   refine ⟨c.args.map a.eval ++ arr,?_,?_,fun i u x hu hxi=>?_⟩
   ·simp [execOp,ho,resolve,hf,hfe,Deferred.ofValue,invoke]
   ·simp only [List.length_map,Array.length_toList] at hl;subst hx;simp [hl,hn]
   ·subst hx
    have hl':(c.args.map a.eval).size=ys.length:=by simpa using hl
    rw [Array.getElem?_append] at hu;rw [List.getElem?_append] at hxi
    split at hu
    ·rename_i h1
     rw [if_pos (by omega)] at hxi;exact hv i u x (by rw [← Array.toList_map,Array.getElem?_toList];exact hu) hxi
    ·rename_i h1
     rw [if_neg (by omega)] at hxi;rw [hl'] at hu;exact hr _ u x hu hxi
  split at h
  ·rename_i g' caps ys he hy
   simp only [Option.some.injEq,Prod.mk.injEq] at h
   obtain ⟨rfl,rfl⟩:=h
   obtain ⟨arr,hfe,hn,hr⟩:=(hi.eval he).data.fn_inv
   exact key (caps.map .d) arr ys hfe (by simpa using hn) (RV.of_data hr) hy rfl
  ·rename_i g' caps ys he hy
   simp only [Option.some.injEq,Prod.mk.injEq] at h
   obtain ⟨rfl,rfl⟩:=h
   obtain ⟨arr,hfe,hn,hr⟩:=(hi.eval he).fn_inv
   exact key caps arr ys hfe hn hr hy rfl
  ·rename_i g' y ys he hy
   simp only [Option.some.injEq,Prod.mk.injEq] at h
   obtain ⟨rfl,rfl⟩:=h
   obtain ⟨v,hfe,hr⟩:=(hi.eval he).bm_inv
   obtain ⟨hl,hv⟩:=hi.evalL hy
   refine ⟨#[v] ++ c.args.map a.eval,?_,?_,fun i u x hu hxi=>?_⟩
   ·simp [execOp,ho,resolve,hf,hfe,Deferred.ofValue,invoke]
   ·simp only [List.length_map,Array.length_toList] at hl;simp [hl];omega
   ·cases i with
    | zero=>
     rw [Array.getElem?_append_left (by simp)] at hu;simp at hu hxi;subst hu hxi;exact hr
    | succ i=>
     rw [List.getElem?_cons_succ] at hxi;rw [Array.getElem?_append_right (by simp)] at hu;simp only [List.size_toArray,List.length_cons,List.length_nil,Nat.zero_add,Nat.add_sub_cancel] at hu;exact hv i u x (by rw [← Array.toList_map,Array.getElem?_toList];exact hu) hxi
  ·cases h
 ·cases h
theorem ex1_ok (hg:Good P T) (hi:In w X G μ N a σ) {o:Oper} {K:St→Prop} (hd:∀ d,o.dst=some d→d < N.n) (h:ex1 P T Mv X G N o σ K) {Q:Exit→Act→World→Prop} {next:Act→World→Prop}
  (hk:∀ w' μ' a' σ',K σ'→In w' X G μ' N a' σ'→Ev Mv w μ w' μ'→next a' w'):o.wpIn (wd N.ro) 0 P a w next Q:=by
 refine wpR (fun c e=>by simp [ex1,e,isCall,plainS,isWr,rd] at h) ?_;unfold ex1 at h
 split at h
 ·rename_i c hc
  have ho:o.op = .call c:=by
   unfold isCall at hc
   split at hc
   ·rename_i hop;rw [hop];obtain rfl:=Option.some.inj hc;rfl
   ·cases hc
  split at h
  ·rename_i g xs ht
   obtain ⟨vs,hr,hn,hv⟩:=tgt_ok (P:=P) hi ho ht
   obtain ⟨hfun,hcall⟩:=h
   unfold Oper.wp;rw [hr,hfun vs w];refine (hcall w μ a vs hi hn hv).mono fun e w' ⟨v,x,σ',μ',he,k,hin,hrv,hev⟩=>?_;subst he;exact hk _ μ' _ _ k (hin.put hrv hd) hev
  ·exact h.elim
 ·unfold plainS at h
  split at h
  ·split at h
   ·rename_i c x σ' hw
    obtain ⟨hc,k⟩:=h
    obtain ⟨n,v,w',μ',hr,hn,hin,hrv,hev⟩:=wr_ok (Mv:=Mv) hg hi hw hc hd
    unfold Oper.wp;rw [hr]
    rcases hn with rfl | ⟨rfl,rfl⟩
    ·exact hk _ μ' _ _ k (hin.put hrv hd) hev
    ·exact hk _ μ' _ _ k (hin.put hrv hd) hev
   ·exact h.elim
  ·split at h
   ·rename_i c x hw
    obtain ⟨hc,k⟩:=h
    obtain ⟨v,hr,hrv⟩:=rd_ok hg hi hw hc
    unfold Oper.wp;rw [hr];exact hk _ μ _ _ k (hi.put hrv hd) (.refl _ w μ)
   ·exact h.elim
def PureC (P:Program) (G:Glob) (g:FuncId) (ds:List D) (y:D):Prop:=
 Fun P g∧∀ X,ACalls P (fun _=>True) X G g (ds.map .d) hno fun x H'=>x = .d y∧H'=hno
theorem Sim.none {X':Nat→Prop} (h:∀ b,X' b→b < w.heap.size):Sim w X' (fun _=>.none) hno:=
 ⟨by simp [hno],by simp,by simp,by simp,h⟩
theorem RD.sub {X X':Nat→Prop} (h:∀ b,X' b→X b) {u:Value} {x:D} (hr:RD w X u x):RD w X' u x:=hr.mono (Nat.le_refl _) fun b _ hb=>⟨rfl,fun e=>hb (h b e)⟩
theorem XX_none {X:Nat→Prop} {b:Nat}:XX X (fun _=>none) b↔X b:=⟨fun h=>h.elim id (fun ⟨_,_,h,_⟩=>(by cases h)),.inl⟩
theorem Ev.grew {Mv:Nat→Prop} {w w':World} {μ':Mu} (h:Ev Mv w (fun _=>none) w' μ'):Grew w w':=⟨h.size,h.os,h.tape,h.output,fun b hb=>(h.same b hb fun ⟨_,_,h,_⟩=>by cases h).1⟩
theorem callS.pure {g:FuncId} {ds:List D} {y:D} (hc:PureC P G g ds y) {K:AV→St→Prop} (h:K (.d y) σ):callS P Mv X G N g (ds.map .d) σ K:=by
 refine ⟨hc.1,fun w μ a vs hi hn hv=>?_⟩;refine (hc.2 (XX X μ) w (fun _=>none) vs (Sim.none fun b hb=>hb.elim (hi.sim.fits b) hi.sim.blk_lt) (fun g x hx=>(hi.glob g x hx).sub fun b=>XX_none.1) hn fun i u x hu hx=>?_).mono ?_
 ·rw [List.getElem?_map] at hx
  obtain ⟨d,hd,rfl⟩:=Option.map_eq_some_iff.1 hx
  exact .d ((hv i u (.d d) hu (by rw [List.getElem?_map,hd];rfl)).data.sub fun b=>XX_none.1)
 ·rintro e w' ⟨v,x,H',μ',rfl,⟨rfl,rfl⟩,hr,hs,hev⟩
  have hg:=hev.grew
  obtain ⟨hin,hev2⟩:=hi.grew (Mv:=Mv) hg
  refine ⟨v,.d y,σ,μ,rfl,h,hin,.d (hr.data.sub fun b hb=>.inl hb),hev2⟩
def asDs (f:AV→Option D):List AV→Option (List D)
 | []=>some []
 | x :: l=>match f x,asDs f l with
  | some y,some ys=>some (y :: ys)
  | _,_=>none
def allV:List (Value×D)→Option (List (Value×Value))
 | []=>some []
 | (k,.v x) :: l=>(allV l).map fun r=>(k,x) :: r
 | _ :: _=>none
theorem allV_at:∀ {l:List (Value×D)} {r:List (Value×Value)},allV l=some r→l.length=r.length∧∀ (i:Nat) (p:Value×Value),r[i]? = some p→l[i]? = some (p.1,.v p.2)
 | [],r,h=>by simp only [allV,Option.some.injEq] at h;subst h;exact ⟨rfl,by simp⟩
 | (k,.v x) :: l,r,h=>by
  simp only [allV] at h
  obtain ⟨r',h1,rfl⟩:=Option.map_eq_some_iff.1 h
  obtain ⟨h2,h3⟩:=allV_at h1
  refine ⟨by simp [h2],fun i p hp=>?_⟩
  cases i with
  | zero=>simp at hp;subst hp;rfl
  | succ i=>exact h3 i p (by simpa using hp)
 | (k,.sl _ _) :: l,r,h=>by simp [allV] at h
 | (k,.ip _) :: l,r,h=>by simp [allV] at h
 | (k,.agg _) :: l,r,h=>by simp [allV] at h
 | (k,.tup _) :: l,r,h=>by simp [allV] at h
 | (k,.ifc _ _) :: l,r,h=>by simp [allV] at h
 | (k,.fn _ _) :: l,r,h=>by simp [allV] at h
 | (k,.tab _) :: l,r,h=>by simp [allV] at h
 | (k,.dm _ _) :: l,r,h=>by simp [allV] at h
def asD (H:Heap):Nat→AV→Option D
 | _,.d x=>some x
 | 0,_=>none
 | _+1,.own r off n=>match H r with
  | some (.sl _ _ els)=>if off+n≤els.length then some (.sl none ((els.drop off).take n)) else none
  | _=>none
 | k+1,.ref r e j=>match H r with
  | some (.box _ cells)=>if e=0 then (asDs (asD H k) (cells.drop j)).map .ip else none
  | _=>none
 | k+1,.agg cells=>(asDs (asD H k) cells).map .agg
 | k+1,.fn f caps=>(asDs (asD H k) caps).map (.fn f)
 | k+1,.tup cells=>(asDs (asD H k) cells).map .tup
 | k+1,.ifc t x=>(asD H k x).map (.ifc t)
 | _+1,.mp r=>match H r with
  | some (.mp _ ents)=>(allV ents).map (.dm false)
  | _=>none
 | _,_=>none
theorem RD.weak {u:Value} {k:Option Bool} {els:List (List D)} (h:RD w X u (.sl k els)):RD w X u (.sl none els):=by
 rcases h.sl_inv with ⟨rfl,rfl,_⟩ | ⟨a,cap,rfl,_,hc,hm,hr⟩
 ·exact .nil (by simp)
 ·rcases hr with rfl | ⟨b,off,sz,f,rfl,hX,hz,hs,hcell,hrr⟩
  ·exact .empty (by simp) hm
  ·by_cases h0:els=[]
   ·subst h0;exact .empty (by simp) hm
   ·exact .sl (by simp) rfl hc hm hX hs hz (List.length_pos_iff.2 h0) hcell hrr
theorem asDs_ok {f:AV→Option D}:∀ {l:List AV} {ds:List D},asDs f l=some ds→l.length=ds.length∧∀ (j:Nat) (x:AV) (d:D),l[j]? = some x→ds[j]? = some d→f x=some d:=by
 intro l
 induction l with
 | nil=>intro ds h;simp only [asDs,Option.some.injEq] at h;subst h;exact ⟨rfl,by simp⟩
 | cons x l ih=>
  intro ds h
  simp only [asDs] at h
  split at h
  ·rename_i y ys h1 h2
   obtain rfl:=Option.some.inj h
   obtain ⟨hl,hr⟩:=ih h2
   refine ⟨by simp [hl],fun j x' d hx hd=>?_⟩
   cases j with
   | zero=>simp at hx hd;subst hx hd;exact h1
   | succ j=>simp at hx hd;exact hr j x' d hx hd
  ·cases h
theorem asD_ok {H:Heap} (hs:Sim w X μ H):∀ (k:Nat) {x:AV} {d:D} {u:Value},asD H k x=some d→RV w X μ u x→RD w X u d:=by
 intro k
 induction k with
 | zero=>
  intro x d u h hu
  cases x<;>simp only [asD,Option.some.injEq,reduceCtorEq] at h
  subst h;exact hu.data.sub fun b hb=>.inl hb
 | succ k ih=>
  intro x d u h hu
  have many:∀ {l:List AV} {ds:List D} {arr:Array Value},asDs (asD H k) l=some ds→arr.size=l.length→(∀ (j:Nat) (u:Value) (c:AV),arr[j]? = some u→l[j]? = some c→RV w X μ u c)→
    arr.size=ds.length∧∀ (j:Nat) (u:Value) (c:D),arr[j]? = some u→ds[j]? = some c→RD w X u c:=by
   intro l ds arr hd hn hr
   obtain ⟨hl,hf⟩:=asDs_ok hd
   refine ⟨by omega,fun j u c hu hc=>?_⟩
   have hj:=(List.getElem?_eq_some_iff.1 hc).1
   have hj':j < l.length:=by omega
   exact ih (hf j l[j] c (by simp [hj']) hc) (hr j u _ hu (by simp [hj']))
  cases x with
  | d x=>
   simp only [asD,Option.some.injEq] at h;subst h;exact hu.data.sub fun b hb=>.inl hb
  | own r off n=>
   simp only [asD] at h
   split at h
   ·rename_i ty sz els hr
    split at h
    ·rename_i hle
     obtain rfl:=Option.some.inj h
     obtain ⟨kk,hrd,_⟩:=own_reads (σ:=⟨fun _=>none,H⟩) hs hr hle hu
     exact (hrd.sub fun b hb=>.inl hb).weak
    ·cases h
   ·cases h
  | ref r e j=>
   simp only [asD] at h
   split at h
   ·rename_i ty cells hr
    split at h
    ·rename_i he
     subst he
     obtain ⟨ds,hd,rfl⟩:=Option.map_eq_some_iff.1 h
     obtain ⟨m,b,hm,hb,rfl⟩:=hu.ref_inv
     obtain ⟨m',hm',ok⟩:=hs.rows r _ hr
     rw [hm] at hm'
     obtain rfl:=Option.some.inj hm'
     cases ok with
     | box hb' hsz hcap hh hn hrr hx9=>
      rename_i b' cur
      rw [hb] at hb'
      obtain rfl:=Option.some.inj hb'
      obtain ⟨hl,hf⟩:=asDs_ok hd
      simp only [List.length_drop] at hl;simp only [Nat.zero_mul,Nat.zero_add];refine .ip (f:=fun i=>cur.getD (j+i) undef) (hs.frame r m b hm hb) (Array.getElem?_eq_some_iff.1 hh).1 (fun i hi=>?_) fun i d hd'=>?_
      ·rw [cell_of_row w b (j+i) cur ty (0,0) hh];simp [Array.getD_eq_getD_getElem?,show j+i < cur.size by omega]
      ·have hi:=(List.getElem?_eq_some_iff.1 hd').1
       have hi':j+i < cells.length:=by omega
       have hi2:j+i < cur.size:=by omega
       refine ih (hf i cells[j+i] d (by rw [List.getElem?_drop];simp [hi']) hd') (hrr (j+i) _ _ ?_ (by simp [hi']));simp [Array.getD_eq_getD_getElem?,hi2]
    ·cases h
   ·cases h
  | agg cells=>
   simp only [asD] at h
   obtain ⟨ds,hd,rfl⟩:=Option.map_eq_some_iff.1 h
   obtain ⟨arr,rfl,hn,hr⟩:=hu.agg_inv
   obtain ⟨h1,h2⟩:=many hd hn hr
   exact .agg h1 h2
  | fn f caps=>
   simp only [asD] at h
   obtain ⟨ds,hd,rfl⟩:=Option.map_eq_some_iff.1 h
   obtain ⟨arr,rfl,hn,hr⟩:=hu.fn_inv
   obtain ⟨h1,h2⟩:=many hd hn hr
   exact .fn h1 h2
  | tup cells=>
   simp only [asD] at h
   obtain ⟨ds,hd,rfl⟩:=Option.map_eq_some_iff.1 h
   obtain ⟨arr,rfl,hn,hr⟩:=hu.tup_inv
   obtain ⟨h1,h2⟩:=many hd hn hr
   exact .tup h1 h2
  | ifc t x=>
   simp only [asD] at h
   obtain ⟨d',hd,rfl⟩:=Option.map_eq_some_iff.1 h
   obtain ⟨v,rfl,hr⟩:=hu.ifc_inv
   exact .ifc (ih hd hr)
  | mp r=>
   simp only [asD] at h
   split at h
   ·rename_i ty ents hr
    obtain ⟨es,he,rfl⟩:=Option.map_eq_some_iff.1 h
    obtain ⟨m,b,hm,hb,rfl⟩:=hu.mp_inv
    obtain ⟨es2,hh,hn,hr2,_⟩:=hs.map_at hr hm hb
    obtain ⟨hl,hv⟩:=allV_at he
    have heq:es2=mkEs es:=by
     refine Array.ext (by rw [mkEs_size];omega) fun i h1 h2=>?_
     have hi:i < es.length:=by rw [mkEs_size] at h2;exact h2
     have h3:=hv i es[i] (by simp [hi])
     obtain ⟨k1,k2,k3⟩:=hr2 i es2[i] _ (by simp [h1]) h3
     have k4:=k3.scalar
     have h5:=mkEs_at hi
     rw [Array.getElem?_eq_getElem h2] at h5;rw [Option.some.inj h5];generalize es2[i]=e at k1 k2 k4
     cases e
     simp only at k1 k2 k4;rw [k1,k2,k4]
    refine .dm (hs.frame r m b hm hb) ?_ (List.Perm.refl _) (by simp);rw [hh,heq,mkEs_size]
   ·cases h
  | _=>simp [asD] at h
def D.scalar:D→Bool
 | .v _=>true
 | .tup l=>l.all fun | .v _=>true | _=>false
 | _=>false
theorem RD.scal {X X':Nat→Prop} {w w':World} {u:Value} {x:D} (h:RD w X u x) (hs:x.scalar=true):RD w' X' u x:=by
 cases x with
 | v x=>obtain rfl:=h.scalar;exact .v _
 | tup l=>
  obtain ⟨arr,rfl,hn,hr⟩:=h.tup_inv
  refine .tup hn fun j u c hu hc=>?_
  have:=List.all_eq_true.1 hs c (List.mem_of_getElem? hc)
  cases c with
  | v x=>obtain rfl:=(hr j u _ hu hc).scalar;exact .v _
  | _=>cases this
 | _=>cases hs
theorem callS.lend {g:FuncId} {xs:List AV} {ds:List D} {y:D} (hd:asDs (asD σ.H 4) xs=some ds) (hc:PureC P G g ds y) (hy:y.scalar=true) {K:AV→St→Prop} (h:K (.d y) σ):callS P Mv X G N g xs σ K:=by
 refine ⟨hc.1,fun w μ a vs hi hn hv=>?_⟩
 obtain ⟨hl,hf⟩:=asDs_ok hd
 refine (hc.2 X w (fun _=>none) vs (Sim.none hi.sim.fits) (fun g x hx=>(hi.glob g x hx).sub fun b hb=>.inl (XX_none.1 hb)) (by rw [List.length_map];omega) fun i u x hu hx=>?_).mono ?_
 ·rw [List.getElem?_map] at hx
  obtain ⟨d,hd',rfl⟩:=Option.map_eq_some_iff.1 hx
  have hj:=(List.getElem?_eq_some_iff.1 hd').1
  have hj':i < xs.length:=by omega
  exact .d ((asD_ok hi.sim 4 (hf i xs[i] d (by simp [hj']) hd') (hv i u _ hu (by simp [hj']))).sub fun b=>XX_none.1)
 ·rintro e w' ⟨v,x,H',μ',rfl,⟨rfl,rfl⟩,hr,hs,hev⟩
  obtain ⟨hin,hev2⟩:=hi.grew (Mv:=Mv) hev.grew
  exact ⟨v,.d y,σ,μ,rfl,h,hin,.d (hr.data.scal hy),hev2⟩
end
end Go.Av
