/- Parts. -/
import Derived.Test.YtobejfcgcfdpfaaGreatDoorPc11
import Derived.Test.YtobejfcgcfdpfaaGreatDoorPc14
import Derived.LaidEql
import Derived.Stop.Asserts
import Derived.RowKitTokens
set_option linter.unusedSimpArgs false
set_option linter.unusedVariables false
set_option maxHeartbeats 8000000
open Go.Proofs.Tryz
namespace Go.Proofs.YtobejfcgcfdpfaaGreatDoor
open Go.RowKit Go.Extern.Stop Go.Stop Go.Extern
theorem Wt (t:Addr) (w:World):(ReflectliteValue.unpack (.iface 241 (.pointer (some t)))).run prog w
  = .ok (.agg #[.pointer (some ⟨12,241,none⟩),.pointer (some ⟨w.heap.size,0,none⟩),.int .u64 150]) (w.alloc (.cells #[.pointer (some t)] 241)):=ah
theorem Wr (a:Addr) (w:World):(ReflectliteValue.methodAny (ReflectliteValue.valueError "reflectlite.Value.Type" 0) (fun t _ _ _=>ReflectliteType.toType t) #[.agg #[.pointer (some ⟨12,241,none⟩),.pointer (some a),.int .u64 150]]).run prog w
  = .ok (.iface 302 (.agg #[.pointer (some ⟨12,241,none⟩)])) w:=ah
theorem Wn (h:Value) (w:World):(Go.method 465 302 (.agg #[h]) "Kind").run prog w = .ok (255,h) w:=by kernel_rfl
theorem Wj (w:World):((ReflectliteType.abiMethod fun t=>(fun a:Nat=>Value.int IntKind.u8 (a:Int)) <$> Rtype.kind t) #[.pointer (some ⟨12,241,none⟩)]).run prog w = .ok (.int .u8 22) w:=ah
theorem Wi (w:World):((ReflectliteType.abiMethod fun t=>(fun a:Nat=>Value.int IntKind.u8 (a:Int)) <$> Rtype.kind t) #[.pointer (some ⟨12,40,none⟩)]).run prog w = .ok (.int .u8 2) w:=ah
theorem Wu (z:Sem Value) (f:TypeId->Addr->Nat->Nat->Sem Value) (v:Value) :
  ReflectliteValue.method z f #[v]=(do match <- ReflectliteValue.parts v with | none=>z | some (t,a,fl)=>f t a fl (fl % 32)):=rfl
theorem Wo (a:Addr) (w:World):(ReflectliteValue.parts (.agg #[.pointer (some ⟨12,241,none⟩),.pointer (some a),.int .u64 150])).run prog w = .ok (some (241,a,150)) w:=ah
theorem Wh (a p:Addr) (W:World) (ha:W.cell? a=some (.pointer (some p))) :
  (ReflectliteValue.method (ReflectliteValue.valueError "reflectlite.Value.IsNil" 0) ReflectliteValue.isNil #[.agg #[.pointer (some ⟨12,241,none⟩),.pointer (some a),.int .u64 150]]).run prog W = .ok (.bool false) W:=by
 rw[Wu];simp only[Sem.run_bind,Wo,Result.andThen];simp[ReflectliteValue.isNil,loadVar,isAgg,underlying,underlying241,ha,Result.andThen]
theorem Wl (h:Value) (w:World):(Go.method 465 302 (.agg #[h]) "Elem").run prog w = .ok (280,.agg #[h]) w:=by kernel_rfl
theorem Wm (h:Value) (w:World):(Go.method 465 302 (.agg #[h]) "Implements").run prog w = .ok (281,.agg #[h]) w:=by kernel_rfl
theorem Wk (h:Value) (w:World):(Go.method 465 302 (.agg #[h]) "AssignableTo").run prog w = .ok (278,.agg #[h]) w:=by kernel_rfl
theorem We (w:World):(ReflectliteType.method ReflectliteType.elem #[.agg #[.pointer (some ⟨12,241,none⟩)]]).run prog w = .ok (.iface 302 (.agg #[.pointer (some ⟨12,40,none⟩)])) w:=ah
theorem Wg (w:World):(ReflectliteType.relation "Implements" ReflectliteType.implements_ #[.agg #[.pointer (some ⟨12,40,none⟩)],.iface 302 (.agg #[.pointer (some ⟨12,33,none⟩)])]).run prog w = .ok (.bool true) w:=by kernel_rfl
theorem Wq (v:Value) (w:World):(ReflectliteType.typeOf #[.iface 40 v]).run prog w = .ok (.iface 302 (.agg #[.pointer (some ⟨12,40,none⟩)])) w:=ah
theorem aiy (v:Value) (w:World):(ReflectliteType.typeOf #[.iface 178 v]).run prog w = .ok (.iface 302 (.agg #[.pointer (some ⟨12,178,none⟩)])) w:=ah
theorem Wd (w:World):(ReflectliteType.relation "AssignableTo" ReflectliteType.assignableTo #[.agg #[.pointer (some ⟨12,40,none⟩)],.iface 302 (.agg #[.pointer (some ⟨12,40,none⟩)])]).run prog w = .ok (.bool true) w:=by kernel_rfl
theorem aiq (w:World):(ReflectliteType.relation "AssignableTo" ReflectliteType.assignableTo #[.agg #[.pointer (some ⟨12,178,none⟩)],.iface 302 (.agg #[.pointer (some ⟨12,40,none⟩)])]).run prog w = .ok (.bool false) w:=by kernel_rfl
theorem Ws (n:Int) (w:World):(ReflectliteValue.unpack (.iface 40 (.int .i64 n))).run prog w
  = .ok (.agg #[.pointer (some ⟨12,40,none⟩),.pointer (some ⟨w.heap.size,0,none⟩),.int .u64 130]) (w.alloc (.cells #[.int .i64 n] 40)):=ah
theorem ais (w:World):(Rtype.elem? 241).run prog w = .ok (some 40) w:=ah
theorem aiu (p:Addr) (w:World):(ReflectliteValue.mk 40 p ReflectliteValue.flagAddr).run prog w = .ok (.agg #[.pointer (some ⟨12,40,none⟩),.pointer (some p),.int .u64 386]) w:=ah
theorem Wf (a p:Addr) (W:World) (ha:W.cell? a=some (.pointer (some p))) :
  (ReflectliteValue.method (ReflectliteValue.valueError "reflectlite.Value.Elem" 0) ReflectliteValue.elem #[.agg #[.pointer (some ⟨12,241,none⟩),.pointer (some a),.int .u64 150]]).run prog W
   = .ok (.agg #[.pointer (some ⟨12,40,none⟩),.pointer (some p),.int .u64 386]) W:=by
 rw[Wu];simp only[Sem.run_bind,Wo,Result.andThen];simp[ReflectliteValue.elem,loadVar,isAgg,underlying,underlying241,ha,Result.andThen,ais,aiu]
theorem rls (v x:Value):ReflectliteValue.set #[v,x]=(do
  let (some (dst,a,fl),some (src,b,_)):=(<- ReflectliteValue.parts v,<- ReflectliteValue.parts x)
   | unsupported (.noEntry "extern/(internal/reflectlite.Value).Set.zeroValue")
  if fl / ReflectliteValue.flagAddr % 2 == 0 then unsupported (.noEntry "extern/(internal/reflectlite.Value).Set.unaddressable")
  let val <- loadVar src b
  if <- Rtype.directlyAssignable dst src then storeVar dst a val
  else if <- Rtype.implements dst src then
   if (<- Rtype.kind src) == 20 then
    match val with
    | .nilIface=>unsupported (.noEntry "extern/reflectlite: a nil value of one interface type handed on as a value of another")
    | _=>storeVar dst a val
   else storeVar dst a (.iface src val)
  else panicString ("reflectlite.Set: value of type " ++ (<- Rtype.spelt src) ++ " is not assignable to type " ++ (<- Rtype.spelt dst))
  pure (.tuple #[])):=rfl
theorem aix (a:Addr) (w:World):(ReflectliteValue.parts (.agg #[.pointer (some ⟨12,40,none⟩),.pointer (some a),.int .u64 386])).run prog w = .ok (some (40,a,386)) w:=ah
theorem aiw (a:Addr) (w:World):(ReflectliteValue.parts (.agg #[.pointer (some ⟨12,40,none⟩),.pointer (some a),.int .u64 130])).run prog w = .ok (some (40,a,130)) w:=ah
theorem air (w:World):(Rtype.directlyAssignable 40 40).run prog w = .ok true w:=ah
theorem Wp (ta b:Addr) (n:Int) (gk:Value) (W:World) (hb:W.cell? b=some (.int .i64 n)) (ht:W.cell? ta=some gk) (hf:W.frozen? ta=false) :
  (ReflectliteValue.set #[.agg #[.pointer (some ⟨12,40,none⟩),.pointer (some ta),.int .u64 386],.agg #[.pointer (some ⟨12,40,none⟩),.pointer (some b),.int .u64 130]]).run prog W
   = .ok (.tuple #[]) (W.setCell ta (.int .i64 n)):=by
 rw[rls];simp only[Sem.run_bind,aix,aiw,Result.andThen];simp[ReflectliteValue.flagAddr,loadVar,isAgg,underlying,underlying40,hb,Result.andThen,air,storeVar,Value.cells,storeCells,Addr.add];rw[run_store prog W ta _ _ (by rfl)];simp[ht,hf]
def A6 (t:Addr) (n:Int) (w:World):World:=((((w.alloc (.cells #[.pointer (some t)] 241)).alloc (.cells #[.pointer (some ⟨12,241,none⟩),.pointer (some ⟨w.heap.size,0,none⟩),.int .u64 150] 271)).alloc (.cells #[.pointer (some ⟨12,241,none⟩),.pointer (some ⟨w.heap.size,0,none⟩),.int .u64 150] 271)).alloc (.cells #[.int .i64 n] 40)).setCell t (.int .i64 n)
theorem Y4 (n:Int) (t:Addr) (gk:Value) (w:World) (hg:w.cell? ⟨3,0,none⟩=some (.iface 302 (.agg #[.pointer (some ⟨12,33,none⟩)]))) (rJ:w.cell? t=some gk) (Mc:w.frozen? t=false) :
  Calls prog 156 #[.iface 40 (.int .i64 n),.iface 241 (.pointer (some t))] w fun ev w'=>ev = .returned (.bool true)/\w'=A6 t n w:=by
 have h6:=@run_callFunc_extern prog 193 _ (fun args=>ReflectliteValue.unpack (args.getD 0 (.tuple #[]))) func193 ah ah ah ah;have h7:=@run_callFunc_extern prog 194 _ (ReflectliteValue.methodAny (ReflectliteValue.valueError "reflectlite.Value.Type" 0) (fun t _ _ _=>ReflectliteType.toType t)) func194 ah ah ah ah;have h8:=@run_callFunc_extern prog 195 _ (ReflectliteValue.method (ReflectliteValue.valueError "reflectlite.Value.IsNil" 0) ReflectliteValue.isNil) func195 ah ah ah ah;have h27:=@run_callFunc_extern prog 255 _ (ReflectliteType.abiMethod fun t=>do pure (.int .u8 (<- Rtype.kind t))) func255 ah ah ah ah;have h37:=@run_callFunc_extern prog 280 _ (ReflectliteType.method ReflectliteType.elem) func280 ah ah ah ah;have h38:=@run_callFunc_extern prog 281 _ (ReflectliteType.relation "Implements" ReflectliteType.implements_) func281 ah ah ah ah;have G0:=@run_callFunc_extern prog 221 _ ReflectliteType.typeOf func221 ah ah ah ah;have h35:=@run_callFunc_extern prog 278 _ (ReflectliteType.relation "AssignableTo" ReflectliteType.assignableTo) func278 ah ah ah ah;have h11:=@run_callFunc_extern prog 222 _ (ReflectliteValue.method (ReflectliteValue.valueError "reflectlite.Value.Elem" 0) ReflectliteValue.elem) func222 ah ah ah ah;have h12:=@run_callFunc_extern prog 223 _ ReflectliteValue.set func223 ah ah ah ah;have mA:=Wk;have aE:=Wd;have vE:=Ws;have tE:=Wq;have f6:=Wt;have f7:=Wr;have mK:=Wn;have mE:=Wl;have mI:=Wm;have kP:=Wj;have kE:=Wi;have eP:=We;have iE:=Wg;have n8:=Wh ⟨w.heap.size,0,none⟩ t ((w.alloc (.cells #[.pointer (some t)] 241)).alloc (.cells #[.pointer (some ⟨12,241,none⟩),.pointer (some ⟨w.heap.size,0,none⟩),.int .u64 150] 271)) ak
 have aG:3 < w.heap.size:=by
  rcases anv 3 w.heap.size with h | h
  .exact h
  .simp[World.cell?,anp h]at hg
 have Hx:((w.alloc (.cells #[.pointer (some t)] 241)).alloc (.cells #[.pointer (some ⟨12,241,none⟩),.pointer (some ⟨w.heap.size,0,none⟩),.int .u64 150] 271)).cell? ⟨3,0,none⟩=some (.iface 302 (.agg #[.pointer (some ⟨12,33,none⟩)])):=by
  rw[World.cell?_alloc_lt _ _ ⟨3,0,none⟩ (by first | (simp;done) | (simp;omega)),World.cell?_alloc_lt _ _ ⟨3,0,none⟩ aG];exact hg
 have ia:t.block < w.heap.size:=by
  rcases anv t.block w.heap.size with h | h
  .exact h
  .simp[World.cell?,anp h]at rJ
 have el:=Wf ⟨w.heap.size,0,none⟩ t (((w.alloc (.cells #[.pointer (some t)] 241)).alloc (.cells #[.pointer (some ⟨12,241,none⟩),.pointer (some ⟨w.heap.size,0,none⟩),.int .u64 150] 271)).alloc (.cells #[.pointer (some ⟨12,241,none⟩),.pointer (some ⟨w.heap.size,0,none⟩),.int .u64 150] 271)) (by rw[World.cell?_alloc_lt _ _ ⟨w.heap.size,0,none⟩ (by simp;omega)];simp)
 have st:=Wp t ⟨w.heap.size+1+1+1,0,none⟩ n gk ((((w.alloc (.cells #[.pointer (some t)] 241)).alloc (.cells #[.pointer (some ⟨12,241,none⟩),.pointer (some ⟨w.heap.size,0,none⟩),.int .u64 150] 271)).alloc (.cells #[.pointer (some ⟨12,241,none⟩),.pointer (some ⟨w.heap.size,0,none⟩),.int .u64 150] 271)).alloc (.cells #[.int .i64 n] 40))
  (by rw[World.cell?_alloc_at _ _ _ _ ak];rfl)
  (by rw[World.cell?_alloc_lt _ _ t (by simp;omega),World.cell?_alloc_lt _ _ t (by simp;omega),World.cell?_alloc_lt _ _ t (by simp;omega),World.cell?_alloc_lt _ _ t ia];exact rJ)
  (by rw[World.frozen?_alloc_old _ _ t (by simp;omega),World.frozen?_alloc_old _ _ t (by simp;omega),World.frozen?_alloc_old _ _ t (by simp;omega),World.frozen?_alloc_old _ _ t (Nat.ne_of_lt ia)];exact Mc)
 go_enter func156,ntmps156
 go_wp2
 refine wp_loop_rounds 1 ?_;rw[rounds_succ]
 go_wp2
 go_ret
 exact⟨rfl,rfl⟩
theorem aj8 (a:Addr) (n:Int) (w:World) (ha:w.cell? a=some (.int .i64 n)):Calls prog 270 #[.pointer (some a)] w fun e w'=>e = .returned (.iface 40 (.int .i64 n))/\w'=w:=by
 go_enter func270,ntmps270
 go_wp2
 go_ret
 exact⟨rfl,rfl⟩
theorem ait (h:Value) (w:World):(Go.method 465 178 h "Unwrap").run prog w = .ok (270,h) w:=by kernel_rfl
theorem aiv (v:Value) (xT:TypeId) (w:World):(Instr.typeAssert (.iface 178 v) xT 307 true).run prog w = .ok (.tuple #[.nilIface,.bool false]) w:=run_typeAssert_lacksB underlying307 ah ah v xT w
theorem aiz (v:Value) (xT:TypeId) (w:World):(Instr.typeAssert (.iface 178 v) xT 202 true).run prog w = .ok (.tuple #[.iface 178 v,.bool true]) w:=run_typeAssert_hasB underlying202 ah v xT w
theorem Y3 (n:Int) (a t:Addr) (gk:Value) (w:World) (hg:w.cell? ⟨3,0,none⟩=some (.iface 302 (.agg #[.pointer (some ⟨12,33,none⟩)]))) (ha:w.cell? a=some (.int .i64 n)) (rJ:w.cell? t=some gk) (Mc:w.frozen? t=false) :
  Calls prog 156 #[.iface 178 (.pointer (some a)),.iface 241 (.pointer (some t))] w fun ev w'=>ev = .returned (.bool true)/\w'=A6 t n w:=by
 have h6:=@run_callFunc_extern prog 193 _ (fun args=>ReflectliteValue.unpack (args.getD 0 (.tuple #[]))) func193 ah ah ah ah;have h7:=@run_callFunc_extern prog 194 _ (ReflectliteValue.methodAny (ReflectliteValue.valueError "reflectlite.Value.Type" 0) (fun t _ _ _=>ReflectliteType.toType t)) func194 ah ah ah ah;have h8:=@run_callFunc_extern prog 195 _ (ReflectliteValue.method (ReflectliteValue.valueError "reflectlite.Value.IsNil" 0) ReflectliteValue.isNil) func195 ah ah ah ah;have h27:=@run_callFunc_extern prog 255 _ (ReflectliteType.abiMethod fun t=>do pure (.int .u8 (<- Rtype.kind t))) func255 ah ah ah ah;have h37:=@run_callFunc_extern prog 280 _ (ReflectliteType.method ReflectliteType.elem) func280 ah ah ah ah;have h38:=@run_callFunc_extern prog 281 _ (ReflectliteType.relation "Implements" ReflectliteType.implements_) func281 ah ah ah ah;have G0:=@run_callFunc_extern prog 221 _ ReflectliteType.typeOf func221 ah ah ah ah;have h35:=@run_callFunc_extern prog 278 _ (ReflectliteType.relation "AssignableTo" ReflectliteType.assignableTo) func278 ah ah ah ah;have h11:=@run_callFunc_extern prog 222 _ (ReflectliteValue.method (ReflectliteValue.valueError "reflectlite.Value.Elem" 0) ReflectliteValue.elem) func222 ah ah ah ah;have h12:=@run_callFunc_extern prog 223 _ ReflectliteValue.set func223 ah ah ah ah;have mA:=Wk;have aE:=Wd;have vE:=Ws;have tE:=Wq;have f6:=Wt;have f7:=Wr;have mK:=Wn;have mE:=Wl;have mI:=Wm;have kP:=Wj;have kE:=Wi;have eP:=We;have iE:=Wg;have n8:=Wh ⟨w.heap.size,0,none⟩ t ((w.alloc (.cells #[.pointer (some t)] 241)).alloc (.cells #[.pointer (some ⟨12,241,none⟩),.pointer (some ⟨w.heap.size,0,none⟩),.int .u64 150] 271)) ak
 have aG:3 < w.heap.size:=by
  rcases anv 3 w.heap.size with h | h
  .exact h
  .simp[World.cell?,anp h]at hg
 have Hx:((w.alloc (.cells #[.pointer (some t)] 241)).alloc (.cells #[.pointer (some ⟨12,241,none⟩),.pointer (some ⟨w.heap.size,0,none⟩),.int .u64 150] 271)).cell? ⟨3,0,none⟩=some (.iface 302 (.agg #[.pointer (some ⟨12,33,none⟩)])):=by
  rw[World.cell?_alloc_lt _ _ ⟨3,0,none⟩ (by first | (simp;done) | (simp;omega)),World.cell?_alloc_lt _ _ ⟨3,0,none⟩ aG];exact hg
 have ia:t.block < w.heap.size:=by
  rcases anv t.block w.heap.size with h | h
  .exact h
  .simp[World.cell?,anp h]at rJ
 have el:=Wf ⟨w.heap.size,0,none⟩ t (((w.alloc (.cells #[.pointer (some t)] 241)).alloc (.cells #[.pointer (some ⟨12,241,none⟩),.pointer (some ⟨w.heap.size,0,none⟩),.int .u64 150] 271)).alloc (.cells #[.pointer (some ⟨12,241,none⟩),.pointer (some ⟨w.heap.size,0,none⟩),.int .u64 150] 271)) (by rw[World.cell?_alloc_lt _ _ ⟨w.heap.size,0,none⟩ (by simp;omega)];simp)
 have st:=Wp t ⟨w.heap.size+1+1+1,0,none⟩ n gk ((((w.alloc (.cells #[.pointer (some t)] 241)).alloc (.cells #[.pointer (some ⟨12,241,none⟩),.pointer (some ⟨w.heap.size,0,none⟩),.int .u64 150] 271)).alloc (.cells #[.pointer (some ⟨12,241,none⟩),.pointer (some ⟨w.heap.size,0,none⟩),.int .u64 150] 271)).alloc (.cells #[.int .i64 n] 40))
  (by rw[World.cell?_alloc_at _ _ _ _ ak];rfl)
  (by rw[World.cell?_alloc_lt _ _ t (by simp;omega),World.cell?_alloc_lt _ _ t (by simp;omega),World.cell?_alloc_lt _ _ t (by simp;omega),World.cell?_alloc_lt _ _ t ia];exact rJ)
  (by rw[World.frozen?_alloc_old _ _ t (by simp;omega),World.frozen?_alloc_old _ _ t (by simp;omega),World.frozen?_alloc_old _ _ t (by simp;omega),World.frozen?_alloc_old _ _ t (Nat.ne_of_lt ia)];exact Mc)
 have tA:=aiy;have aA:=aiq;have nA:=aiv;have uA:=aiz;have mU:=ait
 have vL:a.block < w.heap.size:=by
  rcases anv a.block w.heap.size with h | h
  .exact h
  .simp[World.cell?,anp h]at ha
 have ha3:(((w.alloc (.cells #[.pointer (some t)] 241)).alloc (.cells #[.pointer (some ⟨12,241,none⟩),.pointer (some ⟨w.heap.size,0,none⟩),.int .u64 150] 271)).alloc (.cells #[.pointer (some ⟨12,241,none⟩),.pointer (some ⟨w.heap.size,0,none⟩),.int .u64 150] 271)).cell? a=some (.int .i64 n):=by
  rw[World.cell?_alloc_lt _ _ a (by simp;omega),World.cell?_alloc_lt _ _ a (by simp;omega),World.cell?_alloc_lt _ _ a vL];exact ha
 go_enter func156,ntmps156
 go_wp2
 refine wp_loop_rounds 2 ?_;rw[rounds_succ]
 go_wp2_with (go_at_call 270;refine (aj8 a n _ ha3).mono ?_;rintro e w' ⟨rfl,rfl⟩)
 rw[rounds_succ]
 go_wp2
 go_ret
 exact⟨rfl,rfl⟩
end Go.Proofs.YtobejfcgcfdpfaaGreatDoor
namespace Go.Proofs.YtobejfcgcfdpfaaGreatDoor
open Go.Av
def ab (n:Int):D:=.v (.int .i64 n)
def afn (st:List (List Int)×List Int) (l:List Int):List (List Int)×List Int:=
 if idx (fun x=>x == l) st.1 < 0 then (st.1 ++ [l],st.2 ++ [(st.1.length:Int)]) else (st.1,st.2 ++ [idx (fun x=>x == l) st.1])
def afm (L:List (List Int)) (n:Nat):List (List Int)×List Int:=(L.take n).foldl afn ([],[])
structure yV where
 next:List (List Int)
 ajU:List (List Int)
def bG:Option (Int×Option Nat)->D
 | none=>.v .nilIface
 | some (c,none)=>.cC 40 (.v (.int .i64 c))
 | some (c,some s)=>.cC 178 (.ip [.v (.int .i64 c),.v (.int .i64 s)])
open Go.Extern Go.Extern.Stop Go.RowKit Go.Stop
def rv:Value:=.iface 302 (.agg #[.pointer (some ⟨12,33,none⟩)])
theorem Qp (n:Int) (w:World):cX w (A6 ⟨w.heap.size,0,none⟩ n (w.alloc (.cells #[.int .i64 0] 40))):=by
 unfold A6;refine⟨by simp<;>omega,rfl,rfl,rfl,fun b hb=>?_⟩;rw[Below.heap_setCell _ _ _ _ (by simp;omega)];(repeat rw[Below.heap_alloc _ _ _ (by simp;omega)]);exact Below.heap_alloc _ _ _ hb
theorem Qo (n:Int) (w:World):(A6 ⟨w.heap.size,0,none⟩ n (w.alloc (.cells #[.int .i64 0] 40))).cell? ⟨w.heap.size,0,none⟩=some (.int .i64 n):=by
 unfold A6
 have hm:((((w.alloc (.cells #[.int .i64 0] 40)).alloc (.cells #[.pointer (some ⟨w.heap.size,0,none⟩)] 241)).alloc (.cells #[.pointer (some ⟨12,241,none⟩),.pointer (some ⟨(w.alloc (.cells #[.int .i64 0] 40)).heap.size,0,none⟩),.int .u64 150] 271)).alloc (.cells #[.pointer (some ⟨12,241,none⟩),.pointer (some ⟨(w.alloc (.cells #[.int .i64 0] 40)).heap.size,0,none⟩),.int .u64 150] 271) |>.alloc (.cells #[.int .i64 n] 40)).cell? ⟨w.heap.size,0,none⟩=some (.int .i64 0):=by
  rw[World.cell?_alloc_lt _ _ _ (by simp;omega),World.cell?_alloc_lt _ _ _ (by simp;omega),World.cell?_alloc_lt _ _ _ (by simp;omega),World.cell?_alloc_lt _ _ _ ak];simp
 exact World.cell?_setCell_same _ _ _ hm
theorem XE (w:World):Calls prog 120 #[.nilIface] w fun e w'=>e = .returned (.int .i64 0)/\w'=w:=by
 go_enter func120,ntmps120
 go_wp2
 go_ret
 exact⟨rfl,rfl⟩
theorem XC (n:Int) (w:World) (hg:w.cell? ⟨3,0,none⟩=some rv):Calls prog 120 #[.iface 40 (.int .i64 n)] w fun e w'=>e = .returned (.int .i64 n)/\cX w w':=by
 have aG:3 < w.heap.size:=by
  rcases anv 3 w.heap.size with h | h
  .exact h
  .simp[World.cell?,anp h]at hg
 have Ml:(w.alloc (.cells #[.int .i64 0] 40)).cell? ⟨3,0,none⟩=some rv:=by rw[World.cell?_alloc_lt _ _ ⟨3,0,none⟩ aG];exact hg
 have Nf:(w.alloc (.cells #[.int .i64 0] 40)).cell? ⟨w.heap.size,0,none⟩=some (.int .i64 0):=ak
 have Me:(w.alloc (.cells #[.int .i64 0] 40)).frozen? ⟨w.heap.size,0,none⟩=false:=ak
 have hc:=Qo n w;have gm:=Qp n w
 go_enter func120,ntmps120
 go_wp2_with (go_at_call 156;refine (Y4 n _ (.int .i64 0) _ Ml Nf Me).mono ?_;rintro e w' ⟨rfl,rfl⟩)
 go_ret
 exact⟨rfl,gm⟩
theorem XB (n:Int) (a:Addr) (w:World) (hg:w.cell? ⟨3,0,none⟩=some rv) (ha:w.cell? a=some (.int .i64 n)):Calls prog 120 #[.iface 178 (.pointer (some a))] w fun e w'=>e = .returned (.int .i64 n)/\cX w w':=by
 have aG:3 < w.heap.size:=by
  rcases anv 3 w.heap.size with h | h
  .exact h
  .simp[World.cell?,anp h]at hg
 have vL:a.block < w.heap.size:=yY ha
 have Ml:(w.alloc (.cells #[.int .i64 0] 40)).cell? ⟨3,0,none⟩=some rv:=by rw[World.cell?_alloc_lt _ _ ⟨3,0,none⟩ aG];exact hg
 have haA:(w.alloc (.cells #[.int .i64 0] 40)).cell? a=some (.int .i64 n):=by rw[World.cell?_alloc_lt _ _ a vL];exact ha
 have Nf:(w.alloc (.cells #[.int .i64 0] 40)).cell? ⟨w.heap.size,0,none⟩=some (.int .i64 0):=ak
 have Me:(w.alloc (.cells #[.int .i64 0] 40)).frozen? ⟨w.heap.size,0,none⟩=false:=ak
 have hc:=Qo n w;have gm:=Qp n w
 go_enter func120,ntmps120
 go_wp2_with (go_at_call 156;refine (Y3 n a _ (.int .i64 0) _ Ml haA Nf Me).mono ?_;rintro e w' ⟨rfl,rfl⟩)
 go_ret
 exact⟨rfl,gm⟩
def codeF:Option (Int×Option Nat)->Int
 | none=>0
 | some (c,_)=>c
def cz:Option (Int×Option Nat)->Int
 | some (_,some s)=>s
 | _=>-1
def r7 (G:aB):Prop:=G 3=some (.ip [.v rv])
theorem r7.cell {G:aB} (h:r7 G) {w:World} {X:Nat->Prop} (hg:∀ g x,G g=some x->RD w X (.pointer (some ⟨g,0,none⟩)) x):w.cell? ⟨3,0,none⟩=some rv:=by
 have:=hg _ _ h;obtain⟨b,off,f,hb,_,_,hc,hr⟩:=this.sO;simp only[Value.pointer.injEq,IT,Addr.mk.injEq,and_true]at hb;obtain⟨rfl,rfl⟩:=hb;have h1:=hc 0 ak;have h2:=(hr 0 _ rfl).scalar;rw[h2]at h1;exact h1
theorem ajT (G:aB) (hG:r7 G) (e:Option (Int×Option Nat)):aD prog G 120 [bG e] (.v (.int .i64 (codeF e))):=by
 refine aD.tS (iV.of func120 rfl rfl) fun X w vs bp bQ cW=>?_;have hg:=hG.cell cW;obtain⟨v,rfl⟩:∃ v,vs = #[v]:=Array.size_eq_one_iff.1 bp;have hv:=bQ 0 v _ rfl rfl
 match e,hv with
 | none,hv=>
  have:=hv.scalar;subst this;exact (XE w).mono fun e w' ⟨he,hw⟩=>⟨_,he,by rw[hw];exact cX.refl w,.v _⟩
 | some (c,none),hv=>
  obtain⟨u,rfl,hu⟩:=hv.uP;have:=hu.scalar;subst this;exact (XC c w hg).mono fun e w' ⟨he,hw⟩=>⟨_,he,hw,.v _⟩
 | some (c,some s),hv=>
  obtain⟨u,rfl,hu⟩:=hv.uP;obtain⟨b,off,f,rfl,_,_,hc,hr⟩:=hu.sO;have h1:=hc 0 ak;have h2:=(hr 0 _ rfl).scalar;rw[h2]at h1;exact (XB c ⟨b,off,none⟩ w hg h1).mono fun e w' ⟨he,hw⟩=>⟨_,he,hw,.v _⟩
theorem an8:type_of% @ab.eq_1:=@ab.eq_1
theorem aoe:type_of% @codeF.eq_1:=@codeF.eq_1
theorem aof:type_of% @codeF.eq_2:=@codeF.eq_2
theorem aog:type_of% @cz.eq_1:=@cz.eq_1
theorem aoh:type_of% @cz.eq_2:=@cz.eq_2
theorem aoi:type_of% @bG.eq_1:=@bG.eq_1
theorem aoj:type_of% @bG.eq_2:=@bG.eq_2
theorem aok:type_of% @bG.eq_3:=@bG.eq_3
