/- Parts. -/
import Derived.Test.YtoohljflflnbeaaGreatDoorSt19
import Derived.LaidEql
import Derived.Stop.Asserts
import Derived.RowKitTokens
import Derived.RegionTactic
import Derived.ChangeAlike
set_option linter.unusedSimpArgs false
set_option linter.unusedVariables false
set_option maxHeartbeats 8000000
open Go.Proofs.Tryz
namespace Go.Proofs.YtoohljflflnbeaaGreatDoor
open Go.RowKit Go.Extern.Stop Go.Stop Go.Extern
theorem MB (t:Addr) (w:World):(ReflectliteValue.unpack (.iface 238 (.pointer (some t)))).run prog w
  = .ok (.agg #[.pointer (some ⟨13,238,none⟩),.pointer (some ⟨w.heap.size,0,none⟩),.int .u64 150]) (w.alloc (.cells #[.pointer (some t)] 238)):=ag
theorem Mz (a:Addr) (w:World):(ReflectliteValue.methodAny (ReflectliteValue.valueError "reflectlite.Value.Type" 0) (fun t _ _ _=>ReflectliteType.toType t) #[.agg #[.pointer (some ⟨13,238,none⟩),.pointer (some a),.int .u64 150]]).run prog w
  = .ok (.iface 363 (.agg #[.pointer (some ⟨13,238,none⟩)])) w:=ag
theorem Mt (h:Value) (w:World):(Go.method 580 363 (.agg #[h]) "Kind").run prog w = .ok (352,h) w:=by kernel_rfl
theorem Mp (w:World):((ReflectliteType.abiMethod fun t=>(fun a:Nat=>Value.int IntKind.u8 (a:Int)) <$> Rtype.kind t) #[.pointer (some ⟨13,238,none⟩)]).run prog w = .ok (.int .u8 22) w:=ag
theorem Mo (w:World):((ReflectliteType.abiMethod fun t=>(fun a:Nat=>Value.int IntKind.u8 (a:Int)) <$> Rtype.kind t) #[.pointer (some ⟨13,50,none⟩)]).run prog w = .ok (.int .u8 2) w:=ag
theorem MD (z:Sem Value) (f:TypeId->Addr->Nat->Nat->Sem Value) (v:Value) :
  ReflectliteValue.method z f #[v]=(do match <- ReflectliteValue.parts v with | none=>z | some (t,a,fl)=>f t a fl (fl % 32)):=rfl
theorem Mw (a:Addr) (w:World):(ReflectliteValue.parts (.agg #[.pointer (some ⟨13,238,none⟩),.pointer (some a),.int .u64 150])).run prog w = .ok (some (238,a,150)) w:=ag
theorem Mn (a p:Addr) (W:World) (ha:W.cell? a=some (.pointer (some p))) :
  (ReflectliteValue.method (ReflectliteValue.valueError "reflectlite.Value.IsNil" 0) ReflectliteValue.isNil #[.agg #[.pointer (some ⟨13,238,none⟩),.pointer (some a),.int .u64 150]]).run prog W = .ok (.bool false) W:=by
 rw[MD];simp only[Sem.run_bind,Mw,Result.andThen];simp[ReflectliteValue.isNil,loadVar,isAgg,underlying,underlying238,ha,Result.andThen]
theorem Mr (h:Value) (w:World):(Go.method 580 363 (.agg #[h]) "Elem").run prog w = .ok (376,.agg #[h]) w:=by kernel_rfl
theorem Ms (h:Value) (w:World):(Go.method 580 363 (.agg #[h]) "Implements").run prog w = .ok (377,.agg #[h]) w:=by kernel_rfl
theorem Mq (h:Value) (w:World):(Go.method 580 363 (.agg #[h]) "AssignableTo").run prog w = .ok (374,.agg #[h]) w:=by kernel_rfl
theorem Mk (w:World):(ReflectliteType.method ReflectliteType.elem #[.agg #[.pointer (some ⟨13,238,none⟩)]]).run prog w = .ok (.iface 363 (.agg #[.pointer (some ⟨13,50,none⟩)])) w:=ag
theorem Mm (w:World):(ReflectliteType.relation "Implements" ReflectliteType.implements_ #[.agg #[.pointer (some ⟨13,50,none⟩)],.iface 363 (.agg #[.pointer (some ⟨13,30,none⟩)])]).run prog w = .ok (.bool true) w:=by kernel_rfl
theorem My (v:Value) (w:World):(ReflectliteType.typeOf #[.iface 50 v]).run prog w = .ok (.iface 363 (.agg #[.pointer (some ⟨13,50,none⟩)])) w:=ag
theorem Wf (v:Value) (w:World):(ReflectliteType.typeOf #[.iface 269 v]).run prog w = .ok (.iface 363 (.agg #[.pointer (some ⟨13,269,none⟩)])) w:=ag
theorem Mj (w:World):(ReflectliteType.relation "AssignableTo" ReflectliteType.assignableTo #[.agg #[.pointer (some ⟨13,50,none⟩)],.iface 363 (.agg #[.pointer (some ⟨13,50,none⟩)])]).run prog w = .ok (.bool true) w:=by kernel_rfl
theorem V7 (w:World):(ReflectliteType.relation "AssignableTo" ReflectliteType.assignableTo #[.agg #[.pointer (some ⟨13,269,none⟩)],.iface 363 (.agg #[.pointer (some ⟨13,50,none⟩)])]).run prog w = .ok (.bool false) w:=by kernel_rfl
theorem MA (n:Int) (w:World):(ReflectliteValue.unpack (.iface 50 (.int .i64 n))).run prog w
  = .ok (.agg #[.pointer (some ⟨13,50,none⟩),.pointer (some ⟨w.heap.size,0,none⟩),.int .u64 130]) (w.alloc (.cells #[.int .i64 n] 50)):=ag
theorem V9 (w:World):(Rtype.elem? 238).run prog w = .ok (some 50) w:=ag
theorem Wb (p:Addr) (w:World):(ReflectliteValue.mk 50 p ReflectliteValue.flagAddr).run prog w = .ok (.agg #[.pointer (some ⟨13,50,none⟩),.pointer (some p),.int .u64 386]) w:=ag
theorem Ml (a p:Addr) (W:World) (ha:W.cell? a=some (.pointer (some p))) :
  (ReflectliteValue.method (ReflectliteValue.valueError "reflectlite.Value.Elem" 0) ReflectliteValue.elem #[.agg #[.pointer (some ⟨13,238,none⟩),.pointer (some a),.int .u64 150]]).run prog W
   = .ok (.agg #[.pointer (some ⟨13,50,none⟩),.pointer (some p),.int .u64 386]) W:=by
 rw[MD];simp only[Sem.run_bind,Mw,Result.andThen];simp[ReflectliteValue.elem,loadVar,isAgg,underlying,underlying238,ha,Result.andThen,V9,Wb]
theorem Wh (v x:Value):ReflectliteValue.set #[v,x]=(do
  let (some (dst,a,fl),some (src,b,_)):=(<- ReflectliteValue.parts v,<- ReflectliteValue.parts x)
   | unsupported (.noEntry "extern/(internal/reflectlite.Value).Set.zeroValue")
  if fl / ReflectliteValue.flagAddr % 2 == 0 then unsupported (.noEntry "extern/(internal/reflectlite.Value).Set.unaddressable")
  let val <- loadVar src b
  if <- Rtype.directlyAssignable dst src then storeVar dst a val
  else if <- Rtype.implements dst src then
   if (<- Rtype.kind src) == 20 then
    match val with
    | .nilIface=>unsupported (.noEntry "extern/reflectlite: a nil value of one interface type handed on as a value of another")
    | _=>storeVar dst a val
   else storeVar dst a (.iface src val)
  else panicString ("reflectlite.Set: value of type " ++ (<- Rtype.spelt src) ++ " is not assignable to type " ++ (<- Rtype.spelt dst))
  pure (.tuple #[])):=rfl
theorem We (a:Addr) (w:World):(ReflectliteValue.parts (.agg #[.pointer (some ⟨13,50,none⟩),.pointer (some a),.int .u64 386])).run prog w = .ok (some (50,a,386)) w:=ag
theorem Wd (a:Addr) (w:World):(ReflectliteValue.parts (.agg #[.pointer (some ⟨13,50,none⟩),.pointer (some a),.int .u64 130])).run prog w = .ok (some (50,a,130)) w:=ag
theorem V8 (w:World):(Rtype.directlyAssignable 50 50).run prog w = .ok true w:=ag
theorem Mx (ta b:Addr) (n:Int) (sc:Value) (W:World) (hb:W.cell? b=some (.int .i64 n)) (ht:W.cell? ta=some sc) (hf:W.frozen? ta=false) :
  (ReflectliteValue.set #[.agg #[.pointer (some ⟨13,50,none⟩),.pointer (some ta),.int .u64 386],.agg #[.pointer (some ⟨13,50,none⟩),.pointer (some b),.int .u64 130]]).run prog W
   = .ok (.tuple #[]) (W.setCell ta (.int .i64 n)):=by
 rw[Wh];simp only[Sem.run_bind,We,Wd,Result.andThen];simp[ReflectliteValue.flagAddr,loadVar,isAgg,underlying,underlying50,hb,Result.andThen,V8,storeVar,Value.cells,storeCells,Addr.add];rw[run_store prog W ta _ _ (by rfl)];simp[ht,hf]
def vA (t:Addr) (n:Int) (w:World):World:=((((w.alloc (.cells #[.pointer (some t)] 238)).alloc (.cells #[.pointer (some ⟨13,238,none⟩),.pointer (some ⟨w.heap.size,0,none⟩),.int .u64 150] 310)).alloc (.cells #[.pointer (some ⟨13,238,none⟩),.pointer (some ⟨w.heap.size,0,none⟩),.int .u64 150] 310)).alloc (.cells #[.int .i64 n] 50)).setCell t (.int .i64 n)
theorem OK (n:Int) (t:Addr) (sc:Value) (w:World) (hg:w.cell? ⟨4,0,none⟩=some (.iface 363 (.agg #[.pointer (some ⟨13,30,none⟩)]))) (yS:w.cell? t=some sc) (EB:w.frozen? t=false) :
  Calls prog 127 #[.iface 50 (.int .i64 n),.iface 238 (.pointer (some t))] w fun ev w'=>ev = .returned (.bool true)/\w'=vA t n w:=by
 have h6:=@run_callFunc_extern prog 197 _ (fun args=>ReflectliteValue.unpack (args.getD 0 (.tuple #[]))) func197 ag ag ag ag;have h7:=@run_callFunc_extern prog 198 _ (ReflectliteValue.methodAny (ReflectliteValue.valueError "reflectlite.Value.Type" 0) (fun t _ _ _=>ReflectliteType.toType t)) func198 ag ag ag ag;have h8:=@run_callFunc_extern prog 199 _ (ReflectliteValue.method (ReflectliteValue.valueError "reflectlite.Value.IsNil" 0) ReflectliteValue.isNil) func199 ag ag ag ag;have QD:=@run_callFunc_extern prog 352 _ (ReflectliteType.abiMethod fun t=>do pure (.int .u8 (<- Rtype.kind t))) func352 ag ag ag ag;have QF:=@run_callFunc_extern prog 376 _ (ReflectliteType.method ReflectliteType.elem) func376 ag ag ag ag;have QG:=@run_callFunc_extern prog 377 _ (ReflectliteType.relation "Implements" ReflectliteType.implements_) func377 ag ag ag ag;have A6:=@run_callFunc_extern prog 249 _ ReflectliteType.typeOf func249 ag ag ag ag;have QE:=@run_callFunc_extern prog 374 _ (ReflectliteType.relation "AssignableTo" ReflectliteType.assignableTo) func374 ag ag ag ag;have QB:=@run_callFunc_extern prog 250 _ (ReflectliteValue.method (ReflectliteValue.valueError "reflectlite.Value.Elem" 0) ReflectliteValue.elem) func250 ag ag ag ag;have D0:=@run_callFunc_extern prog 251 _ ReflectliteValue.set func251 ag ag ag ag;have mA:=Mq;have aE:=Mj;have vE:=MA;have tE:=My;have f6:=MB;have f7:=Mz;have mK:=Mt;have mE:=Mr;have mI:=Ms;have kP:=Mp;have kE:=Mo;have eP:=Mk;have iE:=Mm;have n8:=Mn ⟨w.heap.size,0,none⟩ t ((w.alloc (.cells #[.pointer (some t)] 238)).alloc (.cells #[.pointer (some ⟨13,238,none⟩),.pointer (some ⟨w.heap.size,0,none⟩),.int .u64 150] 310)) al
 have bf:4 < w.heap.size:=by
  rcases ab7 4 w.heap.size with h | h
  .exact h
  .simp[World.cell?,abW h]at hg
 have ym:((w.alloc (.cells #[.pointer (some t)] 238)).alloc (.cells #[.pointer (some ⟨13,238,none⟩),.pointer (some ⟨w.heap.size,0,none⟩),.int .u64 150] 310)).cell? ⟨4,0,none⟩=some (.iface 363 (.agg #[.pointer (some ⟨13,30,none⟩)])):=by
  rw[World.cell?_alloc_lt _ _ ⟨4,0,none⟩ (by first | (simp;done) | (simp;omega)),World.cell?_alloc_lt _ _ ⟨4,0,none⟩ bf];exact hg
 have gR:t.block < w.heap.size:=by
  rcases ab7 t.block w.heap.size with h | h
  .exact h
  .simp[World.cell?,abW h]at yS
 have el:=Ml ⟨w.heap.size,0,none⟩ t (((w.alloc (.cells #[.pointer (some t)] 238)).alloc (.cells #[.pointer (some ⟨13,238,none⟩),.pointer (some ⟨w.heap.size,0,none⟩),.int .u64 150] 310)).alloc (.cells #[.pointer (some ⟨13,238,none⟩),.pointer (some ⟨w.heap.size,0,none⟩),.int .u64 150] 310)) (by rw[World.cell?_alloc_lt _ _ ⟨w.heap.size,0,none⟩ (by simp;omega)];simp)
 have st:=Mx t ⟨w.heap.size+1+1+1,0,none⟩ n sc ((((w.alloc (.cells #[.pointer (some t)] 238)).alloc (.cells #[.pointer (some ⟨13,238,none⟩),.pointer (some ⟨w.heap.size,0,none⟩),.int .u64 150] 310)).alloc (.cells #[.pointer (some ⟨13,238,none⟩),.pointer (some ⟨w.heap.size,0,none⟩),.int .u64 150] 310)).alloc (.cells #[.int .i64 n] 50))
  (by rw[World.cell?_alloc_at _ _ _ _ al];rfl)
  (by rw[World.cell?_alloc_lt _ _ t (by simp;omega),World.cell?_alloc_lt _ _ t (by simp;omega),World.cell?_alloc_lt _ _ t (by simp;omega),World.cell?_alloc_lt _ _ t gR];exact yS)
  (by rw[World.frozen?_alloc_old _ _ t (by simp;omega),World.frozen?_alloc_old _ _ t (by simp;omega),World.frozen?_alloc_old _ _ t (by simp;omega),World.frozen?_alloc_old _ _ t (Nat.ne_of_lt gR)];exact EB)
 go_enter func127,ntmps127
 go_wp2
 refine wp_loop_rounds 1 ?_;rw[rounds_succ]
 go_wp2
 go_ret
 exact⟨rfl,rfl⟩
theorem Zg (a:Addr) (n:Int) (w:World) (ha:w.cell? a=some (.int .i64 n)):Calls prog 369 #[.pointer (some a)] w fun e w'=>e = .returned (.iface 50 (.int .i64 n))/\w'=w:=by
 go_enter func369,ntmps369
 go_wp2
 go_ret
 exact⟨rfl,rfl⟩
theorem Wa (h:Value) (w:World):(Go.method 580 269 h "Unwrap").run prog w = .ok (369,h) w:=by kernel_rfl
theorem Wc (v:Value) (xT:TypeId) (w:World):(Instr.typeAssert (.iface 269 v) xT 368 true).run prog w = .ok (.tuple #[.nilIface,.bool false]) w:=run_typeAssert_lacksB underlying368 ag ag v xT w
theorem Wg (v:Value) (xT:TypeId) (w:World):(Instr.typeAssert (.iface 269 v) xT 276 true).run prog w = .ok (.tuple #[.iface 269 v,.bool true]) w:=run_typeAssert_hasB underlying276 ag v xT w
theorem OJ (n:Int) (a t:Addr) (sc:Value) (w:World) (hg:w.cell? ⟨4,0,none⟩=some (.iface 363 (.agg #[.pointer (some ⟨13,30,none⟩)]))) (ha:w.cell? a=some (.int .i64 n)) (yS:w.cell? t=some sc) (EB:w.frozen? t=false) :
  Calls prog 127 #[.iface 269 (.pointer (some a)),.iface 238 (.pointer (some t))] w fun ev w'=>ev = .returned (.bool true)/\w'=vA t n w:=by
 have h6:=@run_callFunc_extern prog 197 _ (fun args=>ReflectliteValue.unpack (args.getD 0 (.tuple #[]))) func197 ag ag ag ag;have h7:=@run_callFunc_extern prog 198 _ (ReflectliteValue.methodAny (ReflectliteValue.valueError "reflectlite.Value.Type" 0) (fun t _ _ _=>ReflectliteType.toType t)) func198 ag ag ag ag;have h8:=@run_callFunc_extern prog 199 _ (ReflectliteValue.method (ReflectliteValue.valueError "reflectlite.Value.IsNil" 0) ReflectliteValue.isNil) func199 ag ag ag ag;have QD:=@run_callFunc_extern prog 352 _ (ReflectliteType.abiMethod fun t=>do pure (.int .u8 (<- Rtype.kind t))) func352 ag ag ag ag;have QF:=@run_callFunc_extern prog 376 _ (ReflectliteType.method ReflectliteType.elem) func376 ag ag ag ag;have QG:=@run_callFunc_extern prog 377 _ (ReflectliteType.relation "Implements" ReflectliteType.implements_) func377 ag ag ag ag;have A6:=@run_callFunc_extern prog 249 _ ReflectliteType.typeOf func249 ag ag ag ag;have QE:=@run_callFunc_extern prog 374 _ (ReflectliteType.relation "AssignableTo" ReflectliteType.assignableTo) func374 ag ag ag ag;have QB:=@run_callFunc_extern prog 250 _ (ReflectliteValue.method (ReflectliteValue.valueError "reflectlite.Value.Elem" 0) ReflectliteValue.elem) func250 ag ag ag ag;have D0:=@run_callFunc_extern prog 251 _ ReflectliteValue.set func251 ag ag ag ag;have mA:=Mq;have aE:=Mj;have vE:=MA;have tE:=My;have f6:=MB;have f7:=Mz;have mK:=Mt;have mE:=Mr;have mI:=Ms;have kP:=Mp;have kE:=Mo;have eP:=Mk;have iE:=Mm;have n8:=Mn ⟨w.heap.size,0,none⟩ t ((w.alloc (.cells #[.pointer (some t)] 238)).alloc (.cells #[.pointer (some ⟨13,238,none⟩),.pointer (some ⟨w.heap.size,0,none⟩),.int .u64 150] 310)) al
 have bf:4 < w.heap.size:=by
  rcases ab7 4 w.heap.size with h | h
  .exact h
  .simp[World.cell?,abW h]at hg
 have ym:((w.alloc (.cells #[.pointer (some t)] 238)).alloc (.cells #[.pointer (some ⟨13,238,none⟩),.pointer (some ⟨w.heap.size,0,none⟩),.int .u64 150] 310)).cell? ⟨4,0,none⟩=some (.iface 363 (.agg #[.pointer (some ⟨13,30,none⟩)])):=by
  rw[World.cell?_alloc_lt _ _ ⟨4,0,none⟩ (by first | (simp;done) | (simp;omega)),World.cell?_alloc_lt _ _ ⟨4,0,none⟩ bf];exact hg
 have gR:t.block < w.heap.size:=by
  rcases ab7 t.block w.heap.size with h | h
  .exact h
  .simp[World.cell?,abW h]at yS
 have el:=Ml ⟨w.heap.size,0,none⟩ t (((w.alloc (.cells #[.pointer (some t)] 238)).alloc (.cells #[.pointer (some ⟨13,238,none⟩),.pointer (some ⟨w.heap.size,0,none⟩),.int .u64 150] 310)).alloc (.cells #[.pointer (some ⟨13,238,none⟩),.pointer (some ⟨w.heap.size,0,none⟩),.int .u64 150] 310)) (by rw[World.cell?_alloc_lt _ _ ⟨w.heap.size,0,none⟩ (by simp;omega)];simp)
 have st:=Mx t ⟨w.heap.size+1+1+1,0,none⟩ n sc ((((w.alloc (.cells #[.pointer (some t)] 238)).alloc (.cells #[.pointer (some ⟨13,238,none⟩),.pointer (some ⟨w.heap.size,0,none⟩),.int .u64 150] 310)).alloc (.cells #[.pointer (some ⟨13,238,none⟩),.pointer (some ⟨w.heap.size,0,none⟩),.int .u64 150] 310)).alloc (.cells #[.int .i64 n] 50))
  (by rw[World.cell?_alloc_at _ _ _ _ al];rfl)
  (by rw[World.cell?_alloc_lt _ _ t (by simp;omega),World.cell?_alloc_lt _ _ t (by simp;omega),World.cell?_alloc_lt _ _ t (by simp;omega),World.cell?_alloc_lt _ _ t gR];exact yS)
  (by rw[World.frozen?_alloc_old _ _ t (by simp;omega),World.frozen?_alloc_old _ _ t (by simp;omega),World.frozen?_alloc_old _ _ t (by simp;omega),World.frozen?_alloc_old _ _ t (Nat.ne_of_lt gR)];exact EB)
 have tA:=Wf;have aA:=V7;have nA:=Wc;have uA:=Wg;have mU:=Wa
 have rB:a.block < w.heap.size:=by
  rcases ab7 a.block w.heap.size with h | h
  .exact h
  .simp[World.cell?,abW h]at ha
 have QT:(((w.alloc (.cells #[.pointer (some t)] 238)).alloc (.cells #[.pointer (some ⟨13,238,none⟩),.pointer (some ⟨w.heap.size,0,none⟩),.int .u64 150] 310)).alloc (.cells #[.pointer (some ⟨13,238,none⟩),.pointer (some ⟨w.heap.size,0,none⟩),.int .u64 150] 310)).cell? a=some (.int .i64 n):=by
  rw[World.cell?_alloc_lt _ _ a (by simp;omega),World.cell?_alloc_lt _ _ a (by simp;omega),World.cell?_alloc_lt _ _ a rB];exact ha
 go_enter func127,ntmps127
 go_wp2
 refine wp_loop_rounds 2 ?_;rw[rounds_succ]
 go_wp2_with (go_at_call 369;refine (Zg a n _ QT).mono ?_;rintro e w' ⟨rfl,rfl⟩)
 rw[rounds_succ]
 go_wp2
 go_ret
 exact⟨rfl,rfl⟩
end Go.Proofs.YtoohljflflnbeaaGreatDoor
namespace Go.Proofs.YtoohljflflnbeaaGreatDoor
open Go.Av
def ab (n:Int):D:=.v (.int .i64 n)
def U7 (st:List (List Int)×List Int) (l:List Int):List (List Int)×List Int:=
 if idx (fun x=>x == l) st.1 < 0 then (st.1 ++ [l],st.2 ++ [(st.1.length:Int)]) else (st.1,st.2 ++ [idx (fun x=>x == l) st.1])
def U6 (L:List (List Int)) (n:Nat):List (List Int)×List Int:=(L.take n).foldl U7 ([],[])
structure C9 where
 next:List (List Int)
 YZ:List (List Int)
def bC:Option (Int×Option Nat)->D
 | none=>.v .nilIface
 | some (c,none)=>.b6 50 (.v (.int .i64 c))
 | some (c,some s)=>.b6 269 (.ip [.v (.int .i64 c),.v (.int .i64 s)])
open Go.Extern Go.Extern.Stop Go.RowKit Go.Stop
def px:Value:=.iface 363 (.agg #[.pointer (some ⟨13,30,none⟩)])
theorem H6 (n:Int) (w:World):cT w (vA ⟨w.heap.size,0,none⟩ n (w.alloc (.cells #[.int .i64 0] 50))):=by
 unfold vA;refine⟨by simp<;>omega,rfl,rfl,rfl,fun b hb=>?_⟩;rw[Below.heap_setCell _ _ _ _ (by simp;omega)];(repeat rw[Below.heap_alloc _ _ _ (by simp;omega)]);exact Below.heap_alloc _ _ _ hb
theorem H5 (n:Int) (w:World):(vA ⟨w.heap.size,0,none⟩ n (w.alloc (.cells #[.int .i64 0] 50))).cell? ⟨w.heap.size,0,none⟩=some (.int .i64 n):=by
 unfold vA
 have hm:((((w.alloc (.cells #[.int .i64 0] 50)).alloc (.cells #[.pointer (some ⟨w.heap.size,0,none⟩)] 238)).alloc (.cells #[.pointer (some ⟨13,238,none⟩),.pointer (some ⟨(w.alloc (.cells #[.int .i64 0] 50)).heap.size,0,none⟩),.int .u64 150] 310)).alloc (.cells #[.pointer (some ⟨13,238,none⟩),.pointer (some ⟨(w.alloc (.cells #[.int .i64 0] 50)).heap.size,0,none⟩),.int .u64 150] 310) |>.alloc (.cells #[.int .i64 n] 50)).cell? ⟨w.heap.size,0,none⟩=some (.int .i64 0):=by
  rw[World.cell?_alloc_lt _ _ _ (by simp;omega),World.cell?_alloc_lt _ _ _ (by simp;omega),World.cell?_alloc_lt _ _ _ (by simp;omega),World.cell?_alloc_lt _ _ _ al];simp
 exact World.cell?_setCell_same _ _ _ hm
theorem YX (w:World):Calls prog 52 #[.nilIface] w fun e w'=>e = .returned (.int .i64 0)/\w'=w:=by
 go_enter func52,ntmps52
 go_wp2
 go_ret
 exact⟨rfl,rfl⟩
theorem YW (n:Int) (w:World) (hg:w.cell? ⟨4,0,none⟩=some px):Calls prog 52 #[.iface 50 (.int .i64 n)] w fun e w'=>e = .returned (.int .i64 n)/\cT w w':=by
 have bf:4 < w.heap.size:=by
  rcases ab7 4 w.heap.size with h | h
  .exact h
  .simp[World.cell?,abW h]at hg
 have EI:(w.alloc (.cells #[.int .i64 0] 50)).cell? ⟨4,0,none⟩=some px:=by rw[World.cell?_alloc_lt _ _ ⟨4,0,none⟩ bf];exact hg
 have Ft:(w.alloc (.cells #[.int .i64 0] 50)).cell? ⟨w.heap.size,0,none⟩=some (.int .i64 0):=al
 have ED:(w.alloc (.cells #[.int .i64 0] 50)).frozen? ⟨w.heap.size,0,none⟩=false:=al
 have hc:=H5 n w;have gP:=H6 n w
 go_enter func52,ntmps52
 go_wp2_with (go_at_call 127;refine (OK n _ (.int .i64 0) _ EI Ft ED).mono ?_;rintro e w' ⟨rfl,rfl⟩)
 go_ret
 exact⟨rfl,gP⟩
theorem YV (n:Int) (a:Addr) (w:World) (hg:w.cell? ⟨4,0,none⟩=some px) (ha:w.cell? a=some (.int .i64 n)):Calls prog 52 #[.iface 269 (.pointer (some a))] w fun e w'=>e = .returned (.int .i64 n)/\cT w w':=by
 have bf:4 < w.heap.size:=by
  rcases ab7 4 w.heap.size with h | h
  .exact h
  .simp[World.cell?,abW h]at hg
 have rB:a.block < w.heap.size:=sC ha
 have EI:(w.alloc (.cells #[.int .i64 0] 50)).cell? ⟨4,0,none⟩=some px:=by rw[World.cell?_alloc_lt _ _ ⟨4,0,none⟩ bf];exact hg
 have QU:(w.alloc (.cells #[.int .i64 0] 50)).cell? a=some (.int .i64 n):=by rw[World.cell?_alloc_lt _ _ a rB];exact ha
 have Ft:(w.alloc (.cells #[.int .i64 0] 50)).cell? ⟨w.heap.size,0,none⟩=some (.int .i64 0):=al
 have ED:(w.alloc (.cells #[.int .i64 0] 50)).frozen? ⟨w.heap.size,0,none⟩=false:=al
 have hc:=H5 n w;have gP:=H6 n w
 go_enter func52,ntmps52
 go_wp2_with (go_at_call 127;refine (OJ n a _ (.int .i64 0) _ EI QU Ft ED).mono ?_;rintro e w' ⟨rfl,rfl⟩)
 go_ret
 exact⟨rfl,gP⟩
def codeF:Option (Int×Option Nat)->Int
 | none=>0
 | some (c,_)=>c
def cr:Option (Int×Option Nat)->Int
 | some (_,some s)=>s
 | _=>-1
def tR (G:aF):Prop:=G 4=some (.ip [.v px])
theorem tR.cell {G:aF} (h:tR G) {w:World} {X:Nat->Prop} (hg:∀ g x,G g=some x->RD w X (.pointer (some ⟨g,0,none⟩)) x):w.cell? ⟨4,0,none⟩=some px:=by
 have:=hg _ _ h;obtain⟨b,off,f,hb,_,_,hc,hr⟩:=this.pV;simp only[Value.pointer.injEq,BY,Addr.mk.injEq,and_true]at hb;obtain⟨rfl,rfl⟩:=hb;have h1:=hc 0 al;have h2:=(hr 0 _ rfl).scalar;rw[h2]at h1;exact h1
theorem YY (G:aF) (hG:tR G) (e:Option (Int×Option Nat)):aH prog G 52 [bC e] (.v (.int .i64 (codeF e))):=by
 refine aH.pa (fU.of func52 rfl rfl) fun X w vs bc cm cY=>?_;have hg:=hG.cell cY;obtain⟨v,rfl⟩:∃ v,vs = #[v]:=Array.size_eq_one_iff.1 bc;have hv:=cm 0 v _ rfl rfl
 match e,hv with
 | none,hv=>
  have:=hv.scalar;subst this;exact (YX w).mono fun e w' ⟨he,hw⟩=>⟨_,he,by rw[hw];exact cT.refl w,.v _⟩
 | some (c,none),hv=>
  obtain⟨u,rfl,hu⟩:=hv.r4;have:=hu.scalar;subst this;exact (YW c w hg).mono fun e w' ⟨he,hw⟩=>⟨_,he,hw,.v _⟩
 | some (c,some s),hv=>
  obtain⟨u,rfl,hu⟩:=hv.r4;obtain⟨b,off,f,rfl,_,_,hc,hr⟩:=hu.pV;have h1:=hc 0 al;have h2:=(hr 0 _ rfl).scalar;rw[h2]at h1;exact (YV c ⟨b,off,none⟩ w hg h1).mono fun e w' ⟨he,hw⟩=>⟨_,he,hw,.v _⟩
end Go.Proofs.YtoohljflflnbeaaGreatDoor
namespace Go.Proofs.YtoohljflflnbeaaGreatDoor
open Go.Av
def dv (e:Option (Int×Option Nat)):D:=.agg [ab (codeF e),ab (cr e)]
def tS (G:aF):Prop:=G 0=some (.ip [ab 0,ab (-1)])
theorem Ds (G:aF) (c:Int):aH prog G 91 [ab c] (.agg [ab c,ab (-1)]):=by
 refine aH.aU (aw _) func91 rfl rfl (rs:=[.cell 2 52]) results91 (by simp[ntmps91]) fun X=>?_;simp only[ntmps91,List.map];refine af @ab.eq_1 [0,2] [2] ?_;refine af @ab.eq_1 [2] [2] ?_;exact bg @ab.eq_1
theorem Ho (G:aF) (n lo hi:Int):aH prog G 90 [ab n,ab lo,ab hi] (.v (.bool (decide (lo<=n) && decide (n<=hi)))):=by
 refine aH.aU (aw _) func90 rfl rfl (rs:=[.tmp 6]) results90 (by simp[ntmps90]) fun X=>?_;simp only[ntmps90,List.map];refine af @ab.eq_1 [0,1,2] [] ?_;by_cases h1:lo<=n
 .have qf:=@h1;refine aC [6] [] ?_;exact bg @h1
 .have qf:=@h1;refine aC [6] [] ?_;exact bg @h1
inductive Fm where
 | nil
 | mk (kind:Int) (name:List UInt8) (of:List Fm)
def Va {α:Type} (l:List α):Option Bool:=match l with
 | []=>some false
 | _=>none
mutual
def dF:Fm->D
 | .nil=>.v (.pointer none)
 | .mk k s l=>.ip [ab k,dS s,.sl (Va l) (ID l)]
def ID:List Fm->List (List D)
 | []=>[]
 | f :: l=>[dF f] :: ID l
end
end Go.Proofs.YtoohljflflnbeaaGreatDoor
namespace Go.Proofs.YtoohljflflnbeaaGreatDoor
theorem Tf {α:Type} {p:α->Bool} {l:List α} (h:idx p l < 0):∀ x∈l,p x=false:=by
 unfold idx at h;split at h
 .omega
 .rename_i hn;rw[List.findIdx?_eq_none_iff]at hn;intro x hx;simpa using hn x hx
theorem wI {α:Type} {p:α->Bool} {l:List α} (h:¬ idx p l < 0):∃ k,∃ hk:k < l.length,idx p l=(k:Int)/\p l[k]=true:=by
 unfold idx at h ⊢;split
 .rename_i i hi;rw[abF]at hi;obtain⟨h1,h2,_⟩:=hi;exact⟨i,h1,rfl,h2⟩
 .rename_i hn;simp[hn]at h
def dn (L:List (List Int)) (n:Nat):Nat:=(U6 L n).1.length
def nx (t:C9) (s c:Nat):Nat:=((t.next.getD s []).getD c 0).toNat
def te (t:C9) (s c:Nat):Int:=(t.YZ.getD s []).getD c 0
def wd (t:C9):Nat:=(t.next.getD 0 []).length
open Go.Av
def pre (l row:List Int) (i:Nat):List Int:=(row.take i).map fun x=>l.getD x.toNat 0
theorem zp {l:List UInt8} {i:Nat} (h:p0 l i=true) (hi:i < l.length) (hc:lT i l[i]=true):p0 l (i+1)=true:=by
 unfold p0 at h ⊢;rw[List.range_succ,List.all_append,h];simp only[List.all_cons,List.all_nil,Bool.and_true,Bool.true_and];rw[aa5,IN hi];exact hc
theorem wW {l:List UInt8} {i:Nat} (hi:i < l.length) (hc:lT i l[i]=false):pq l=false:=by
 have:p0 l l.length=false:=by
  unfold p0;rw[List.all_eq_false];refine⟨i,acu.2 hi,?_⟩;rw[aa5,IN hi];simp[hc]
 unfold pq;rw[this];rfl
theorem qS {l:List UInt8} (h:(([] :: kX).any fun x=>l == x)=true):pq l=false:=by
 unfold pq;rw[h];simp
theorem ZD {l:List UInt8} (h:p0 l l.length=true) (hw:(([] :: kX).any fun x=>l == x)=false):decide ((l.length:Int)<=8)=pq l:=by
 unfold pq;rw[h,hw];simp only[ab8,Bool.true_and];by_cases h8:l.length<=8
 .simp[h8];omega
 .simp[h8];omega
theorem eZ (l:List UInt8):(⟨l.toArray⟩:ByteArray)=bs l:=rfl
theorem Lr (G:aF) (l:List UInt8) (hl:l.length < 2^60):aH prog G 227 [dS l] (.v (.bool (pq l))):=by
 refine aH.aU (aw _) func227 rfl rfl (rs:=[.tmp 2]) results227 (by simp[ntmps227]) fun X=>?_;simp only[ntmps227,List.map];refine af @acB [0] [] ?_;refine ah fun K1 aI=>?_;have qf:=@bD;refine aC [0,7,8] [] ?_;refine eD (S:=Nat) (fun i=>i<=l.length/\p0 l i=true) (fun i=>⟨bl [(0,.d (dS l)),(7,int l.length),(8,int i)],au []⟩) (fun i=>l.length - i) 0 ?_ (by simp[p0]) ?_
 .refine bL @acB
 .rintro i ⟨nz,cG⟩;refine af @acB [0,7,8,9] [] ?_;refine ah fun K2 ak=>ga (b:=i < l.length) (by simp[D.le,D.le.go,aL]) (fun hc=>?_) (fun hc=>?_)
  .have hi:i < l.length:=hc;refine ax (ak _ (ah fun K3 bF=>bd (aO [0,3,7,8] [] ?_)));have qf:=(Aq @bD (Aq @cU @hi));refine aC [0,3,4,7,8] [] ?_;by_cases ha:(97:Int)<=(l[i].toNat:Int)
   .by_cases hb:(l[i].toNat:Int)<=122
    .have qf:=(Aq @ha @hb);refine aC [0,3,4,5,7,8] [] ?_;have qf:=(Aq @ha @hb);refine aC [0,7,8,38] [] ?_;refine aj (ax (bF _ ?_));refine fK ?_;(try simp only[bY,b9]);refine cC.mk (i+1) ⟨aa,zp cG hi (by simp only[lT,mi,nO,abD,OF,decide_eq_true_eq];omega)⟩ aa ?_;refine bL @acB
    .by_cases hz:(i:Int)=0
     .have iX:i=0:=aa
      subst iX;have qf:=(Aq @ha @hb);refine aC [0,3,4,5,7,8] [] ?_;have qf:=(Aq @ha @hb);refine aC [0,7,8,38] [] ?_;refine aD (aO [2] [] ?_);refine bt ?_;simp[D.le,D.le.go,aL];exact wW hi (by simp only[lT,mi,nO,ack,acd,decide_eq_false_iff_not];omega)
     .have iX:¬ i=0:=aa
      by_cases hd:(48:Int)<=(l[i].toNat:Int)
      .by_cases he:(l[i].toNat:Int)<=57
       .have qf:=(Aq @ha (Aq @hb (Aq @hz (Aq @iX (Aq @hd @he)))));refine aC [0,3,4,5,7,8] [] ?_;have qf:=(Aq @ha (Aq @hb (Aq @hz (Aq @iX (Aq @hd @he)))));refine aC [0,7,8,38] [] ?_;refine aj (ax (bF _ ?_));refine fK ?_;(try simp only[bY,b9]);refine cC.mk (i+1) ⟨aa,zp cG hi (by simp only[lT,mi,nO,abD,OF,decide_eq_true_eq];omega)⟩ aa ?_;refine bL @acB
       .by_cases hu:(l[i].toNat:Int)=95
        .have qf:=(Aq @ha (Aq @hb (Aq @hz (Aq @iX (Aq @hd (Aq @he @hu))))));refine aC [0,3,4,5,7,8] [] ?_;have qf:=(Aq @ha (Aq @hb (Aq @hz (Aq @iX (Aq @hd (Aq @he @hu))))));refine aC [0,7,8,38] [] ?_;refine aj (ax (bF _ ?_));refine fK ?_;(try simp only[bY,b9]);refine cC.mk (i+1) ⟨aa,zp cG hi (by simp only[lT,mi,nO,abD,OF,decide_eq_true_eq];omega)⟩ aa ?_;refine bL @acB
        .have qf:=(Aq @ha (Aq @hb (Aq @hz (Aq @iX (Aq @hd (Aq @he @hu))))));refine aC [0,3,4,5,7,8] [] ?_;have qf:=(Aq @ha (Aq @hb (Aq @hz (Aq @iX (Aq @hd (Aq @he @hu))))));refine aC [0,7,8,38] [] ?_;refine aD (aO [2] [] ?_);refine bt ?_;simp[D.le,D.le.go,aL];exact wW hi (by simp only[lT,mi,nO,ack,acd,decide_eq_false_iff_not];omega)
      .have hu:¬ (l[i].toNat:Int)=95:=aa
       have qf:=(Aq @ha (Aq @hb (Aq @hz (Aq @iX (Aq @hd @hu)))));refine aC [0,3,4,5,7,8] [] ?_;have qf:=(Aq @ha (Aq @hb (Aq @hz (Aq @iX (Aq @hd @hu)))));refine aC [0,7,8,38] [] ?_;refine aD (aO [2] [] ?_);refine bt ?_;simp[D.le,D.le.go,aL];exact wW hi (by simp only[lT,mi,nO,ack,acd,decide_eq_false_iff_not];omega)
   .by_cases hz:(i:Int)=0
    .have iX:i=0:=aa
     subst iX;have qf:=@ha;refine aC [0,3,4,5,7,8] [] ?_;have qf:=@ha;refine aC [0,7,8,38] [] ?_;refine aD (aO [2] [] ?_);refine bt ?_;simp[D.le,D.le.go,aL];exact wW hi (by simp only[lT,mi,nO,ack,acd,decide_eq_false_iff_not];omega)
    .have iX:¬ i=0:=aa
     by_cases hd:(48:Int)<=(l[i].toNat:Int)
     .by_cases he:(l[i].toNat:Int)<=57
      .have qf:=(Aq @ha (Aq @hz (Aq @iX (Aq @hd @he))));refine aC [0,3,4,5,7,8] [] ?_;have qf:=(Aq @ha (Aq @hz (Aq @iX (Aq @hd @he))));refine aC [0,7,8,38] [] ?_;refine aj (ax (bF _ ?_));refine fK ?_;(try simp only[bY,b9]);refine cC.mk (i+1) ⟨aa,zp cG hi (by simp only[lT,mi,nO,abD,OF,decide_eq_true_eq];omega)⟩ aa ?_;refine bL @acB
      .by_cases hu:(l[i].toNat:Int)=95
       .have qf:=(Aq @ha (Aq @hz (Aq @iX (Aq @hd (Aq @he @hu)))));refine aC [0,3,4,5,7,8] [] ?_;have qf:=(Aq @ha (Aq @hz (Aq @iX (Aq @hd (Aq @he @hu)))));refine aC [0,7,8,38] [] ?_;refine aj (ax (bF _ ?_));refine fK ?_;(try simp only[bY,b9]);refine cC.mk (i+1) ⟨aa,zp cG hi (by simp only[lT,mi,nO,abD,OF,decide_eq_true_eq];omega)⟩ aa ?_;refine bL @acB
       .have qf:=(Aq @ha (Aq @hz (Aq @iX (Aq @hd (Aq @he @hu)))));refine aC [0,3,4,5,7,8] [] ?_;have qf:=(Aq @ha (Aq @hz (Aq @iX (Aq @hd (Aq @he @hu)))));refine aC [0,7,8,38] [] ?_;refine aD (aO [2] [] ?_);refine bt ?_;simp[D.le,D.le.go,aL];exact wW hi (by simp only[lT,mi,nO,ack,acd,decide_eq_false_iff_not];omega)
     .have hu:¬ (l[i].toNat:Int)=95:=aa
      have qf:=(Aq @ha (Aq @hz (Aq @iX (Aq @hd @hu))));refine aC [0,3,4,5,7,8] [] ?_;have qf:=(Aq @ha (Aq @hz (Aq @iX (Aq @hd @hu))));refine aC [0,7,8,38] [] ?_;refine aD (aO [2] [] ?_);refine bt ?_;simp[D.le,D.le.go,aL];exact wW hi (by simp only[lT,mi,nO,ack,acd,decide_eq_false_iff_not];omega)
  .have dG:i=l.length:=aa
   subst dG;refine cX (aI _ (ah fun K4 cF=>aO [0,40] [] ?_));refine bd ?_;refine ah fun K5 cI=>?_;by_cases nH:l=[]
   .refine rg [0,40,41] [] aT fun K' ai=>?_;(repeat refine aq fun Kq ae=>?_;simp[bM,aJ,ay,dS,eZ,nH];(repeat refine⟨aa,?_⟩);refine ae _ ?_);refine aZ (ai _ (AW.st (by simp[bM,aJ,ay,dS,eZ,nH];rfl) ?_));refine aD (ax (cI _ ?_));refine aD (aO [2] [] ?_);refine bt ?_;simp[D.le,D.le.go,aL];exact qS (by simp[nH,kX])
   have wE:l.isEmpty=false:=by simpa using nH
   refine rg [0,40,41] [] aT fun K' ai=>?_;(repeat refine aq fun Kq ae=>?_;simp[bM,aJ,ay,dS,eZ,nH,wE];(repeat refine⟨aa,?_⟩);refine ae _ ?_);refine aZ (ai _ (AW.st (by simp[bM,aJ,ay,dS,eZ,nH,wE];rfl) ?_));refine aj ?_;by_cases hU:l=[105,110,112,117,116]
   .refine rg [0,40,41] [] aT fun K' ai=>?_;(repeat refine aq fun Kq ae=>?_;simp[bM,aJ,ay,dS,eZ,hU];(repeat refine⟨aa,?_⟩);refine ae _ ?_);refine aZ (ai _ (AW.st (by simp[bM,aJ,ay,dS,eZ,hU];rfl) ?_));refine aD (ax (cI _ ?_));refine aD (aO [2] [] ?_);refine bt ?_;simp[D.le,D.le.go,aL];exact qS (by simp[hU,kX])
   have wF:(l == [105,110,112,117,116])=false:=by simpa using hU
   refine rg [0,40,41] [] aT fun K' ai=>?_;(repeat refine aq fun Kq ae=>?_;simp[bM,aJ,ay,dS,eZ,hU,wF];(repeat refine⟨aa,?_⟩);refine ae _ ?_);refine aZ (ai _ (AW.st (by simp[bM,aJ,ay,dS,eZ,hU,wF];rfl) ?_));refine aj ?_;by_cases mh:l=[99,111,105,108]
   .refine rg [0,40,41] [] aT fun K' ai=>?_;(repeat refine aq fun Kq ae=>?_;simp[bM,aJ,ay,dS,eZ,mh];(repeat refine⟨aa,?_⟩);refine ae _ ?_);refine aZ (ai _ (AW.st (by simp[bM,aJ,ay,dS,eZ,mh];rfl) ?_));refine aD (ax (cI _ ?_));refine aD (aO [2] [] ?_);refine bt ?_;simp[D.le,D.le.go,aL];exact qS (by simp[mh,kX])
   have qC:(l == [99,111,105,108])=false:=by simpa using mh
   refine rg [0,40,41] [] aT fun K' ai=>?_;(repeat refine aq fun Kq ae=>?_;simp[bM,aJ,ay,dS,eZ,mh,qC];(repeat refine⟨aa,?_⟩);refine ae _ ?_);refine aZ (ai _ (AW.st (by simp[bM,aJ,ay,dS,eZ,mh,qC];rfl) ?_));refine aj ?_;by_cases pS:l=[116,105,109,101,114]
   .refine rg [0,40,41] [] aT fun K' ai=>?_;(repeat refine aq fun Kq ae=>?_;simp[bM,aJ,ay,dS,eZ,pS];(repeat refine⟨aa,?_⟩);refine ae _ ?_);refine aZ (ai _ (AW.st (by simp[bM,aJ,ay,dS,eZ,pS];rfl) ?_));refine aD (ax (cI _ ?_));refine aD (aO [2] [] ?_);refine bt ?_;simp[D.le,D.le.go,aL];exact qS (by simp[pS,kX])
   have Kf:(l == [116,105,109,101,114])=false:=by simpa using pS
   refine rg [0,40,41] [] aT fun K' ai=>?_;(repeat refine aq fun Kq ae=>?_;simp[bM,aJ,ay,dS,eZ,pS,Kf];(repeat refine⟨aa,?_⟩);refine ae _ ?_);refine aZ (ai _ (AW.st (by simp[bM,aJ,ay,dS,eZ,pS,Kf];rfl) ?_));refine aj ?_;by_cases uQ:l=[99,111,117,110,116,101,114]
   .refine rg [0,40,41] [] aT fun K' ai=>?_;(repeat refine aq fun Kq ae=>?_;simp[bM,aJ,ay,dS,eZ,uQ];(repeat refine⟨aa,?_⟩);refine ae _ ?_);refine aZ (ai _ (AW.st (by simp[bM,aJ,ay,dS,eZ,uQ];rfl) ?_));refine aD (ax (cI _ ?_));refine aD (aO [2] [] ?_);refine bt ?_;simp[D.le,D.le.go,aL];exact qS (by simp[uQ,kX])
   have Kg:(l == [99,111,117,110,116,101,114])=false:=by simpa using uQ
   refine rg [0,40,41] [] aT fun K' ai=>?_;(repeat refine aq fun Kq ae=>?_;simp[bM,aJ,ay,dS,eZ,uQ,Kg];(repeat refine⟨aa,?_⟩);refine ae _ ?_);refine aZ (ai _ (AW.st (by simp[bM,aJ,ay,dS,eZ,uQ,Kg];rfl) ?_));refine aj ?_;by_cases uR:l=[115,101,116]
   .refine rg [0,40,41] [] aT fun K' ai=>?_;(repeat refine aq fun Kq ae=>?_;simp[bM,aJ,ay,dS,eZ,uR];(repeat refine⟨aa,?_⟩);refine ae _ ?_);refine aZ (ai _ (AW.st (by simp[bM,aJ,ay,dS,eZ,uR];rfl) ?_));refine aD (ax (cI _ ?_));refine aD (aO [2] [] ?_);refine bt ?_;simp[D.le,D.le.go,aL];exact qS (by simp[uR,kX])
   have Kh:(l == [115,101,116])=false:=by simpa using uR
   refine rg [0,40,41] [] aT fun K' ai=>?_;(repeat refine aq fun Kq ae=>?_;simp[bM,aJ,ay,dS,eZ,uR,Kh];(repeat refine⟨aa,?_⟩);refine ae _ ?_);refine aZ (ai _ (AW.st (by simp[bM,aJ,ay,dS,eZ,uR,Kh];rfl) ?_));refine aj ?_;by_cases uS:l=[114,101,115,101,116]
   .refine rg [0,40,41] [] aT fun K' ai=>?_;(repeat refine aq fun Kq ae=>?_;simp[bM,aJ,ay,dS,eZ,uS];(repeat refine⟨aa,?_⟩);refine ae _ ?_);refine aZ (ai _ (AW.st (by simp[bM,aJ,ay,dS,eZ,uS];rfl) ?_));refine aD (ax (cI _ ?_));refine aD (aO [2] [] ?_);refine bt ?_;simp[D.le,D.le.go,aL];exact qS (by simp[uS,kX])
   have Ki:(l == [114,101,115,101,116])=false:=by simpa using uS
   refine rg [0,40,41] [] aT fun K' ai=>?_;(repeat refine aq fun Kq ae=>?_;simp[bM,aJ,ay,dS,eZ,uS,Ki];(repeat refine⟨aa,?_⟩);refine ae _ ?_);refine aZ (ai _ (AW.st (by simp[bM,aJ,ay,dS,eZ,uS,Ki];rfl) ?_));refine aj ?_;by_cases uT:l=[114,117,110]
   .refine rg [0,40,41] [] aT fun K' ai=>?_;(repeat refine aq fun Kq ae=>?_;simp[bM,aJ,ay,dS,eZ,uT];(repeat refine⟨aa,?_⟩);refine ae _ ?_);refine aZ (ai _ (AW.st (by simp[bM,aJ,ay,dS,eZ,uT];rfl) ?_));refine aD (ax (cI _ ?_));refine aD (aO [2] [] ?_);refine bt ?_;simp[D.le,D.le.go,aL];exact qS (by simp[uT,kX])
   have Kj:(l == [114,117,110])=false:=by simpa using uT
   refine rg [0,40,41] [] aT fun K' ai=>?_;(repeat refine aq fun Kq ae=>?_;simp[bM,aJ,ay,dS,eZ,uT,Kj];(repeat refine⟨aa,?_⟩);refine ae _ ?_);refine aZ (ai _ (AW.st (by simp[bM,aJ,ay,dS,eZ,uT,Kj];rfl) ?_));refine aj ?_;by_cases uU:l=[99,111,117,110,116]
   .refine rg [0,40,41] [] aT fun K' ai=>?_;(repeat refine aq fun Kq ae=>?_;simp[bM,aJ,ay,dS,eZ,uU];(repeat refine⟨aa,?_⟩);refine ae _ ?_);refine aZ (ai _ (AW.st (by simp[bM,aJ,ay,dS,eZ,uU];rfl) ?_));refine aD (ax (cI _ ?_));refine aD (aO [2] [] ?_);refine bt ?_;simp[D.le,D.le.go,aL];exact qS (by simp[uU,kX])
   have Kk:(l == [99,111,117,110,116])=false:=by simpa using uU
   refine rg [0,40,41] [] aT fun K' ai=>?_;(repeat refine aq fun Kq ae=>?_;simp[bM,aJ,ay,dS,eZ,uU,Kk];(repeat refine⟨aa,?_⟩);refine ae _ ?_);refine aZ (ai _ (AW.st (by simp[bM,aJ,ay,dS,eZ,uU,Kk];rfl) ?_));refine aj ?_;by_cases uV:l=[122,101,114,111]
   .refine ea (aw _) fun K' ai=>?_;(repeat refine aq fun Kq ae=>?_;simp[bM,aJ,ay,dS,eZ,uV];(repeat refine⟨aa,?_⟩);refine ae _ ?_);refine aZ (ai _ ?_);refine cI _ (AW.norm [0,41] [] aT (AW.st (by simp[bM,aJ,ay,dS,eZ,uV];rfl) ?_));refine aD (aO [2] [] ?_);refine bt ?_;simp[D.le,D.le.go,aL];exact qS (by simp[uV,kX])
   have wG:(l == [122,101,114,111])=false:=by simpa using uV
   refine ea (aw _) fun K' ai=>?_;(repeat refine aq fun Kq ae=>?_;simp[bM,aJ,ay,dS,eZ,uV,wG];(repeat refine⟨aa,?_⟩);refine ae _ ?_);refine aZ (ai _ ?_);refine cI _ (AW.norm [0,41] [] aT (AW.st (by simp[bM,aJ,ay,dS,eZ,uV,wG];rfl) ?_));refine aj (ax (cF _ ?_));have qf:=(Aq @acB @bD);refine aC [2] [] ?_;refine bt ?_;simp[D.le,D.le.go,aL];exact ZD cG (by simp[kX,nH,hU,mh,pS,uQ,uR,uS,uT,uU,uV])
def tr:Fm:=.mk 2 [] []
def Dn (n:Int) (many:Nat):Nat:=((n % 18446744073709551616) % many).toNat
structure N9 where
 kind:Int
 a:Int
 b:Int
 name:List UInt8
def G4 (all:List Fm) (x:N9):Fm:=
 if x.kind=2 then .mk 2 [] []
 else if x.kind=3\/x.kind=6\/x.kind=9\/x.kind=10 then .mk x.kind [] [all.getD (Dn x.a all.length) .nil]
 else if x.kind=4\/x.kind=5\/x.kind=7\/x.kind=8 then .mk x.kind [] [all.getD (Dn x.a all.length) .nil,all.getD (Dn x.b all.length) .nil]
 else .mk 1 x.name []
abbrev Oa:=List (List (List UInt8))
end Go.Proofs.YtoohljflflnbeaaGreatDoor
namespace Go.Proofs.YtoohljflflnbeaaGreatDoor
section
variable (f g:Fm)
def tl:Fm:=.mk 3 [] [f]
end
section
variable (a r:Oa) (hr:0 < r.length) (f g:Fm)
include hr
end
theorem acC:type_of% @ab.eq_1:=@ab.eq_1
theorem acD:type_of% @dv.eq_1:=@dv.eq_1
theorem acE:type_of% @codeF.eq_1:=@codeF.eq_1
theorem acF:type_of% @codeF.eq_2:=@codeF.eq_2
theorem acG:type_of% @cr.eq_1:=@cr.eq_1
theorem acH:type_of% @cr.eq_2:=@cr.eq_2
theorem acL:type_of% @bC.eq_1:=@bC.eq_1
theorem acM:type_of% @bC.eq_2:=@bC.eq_2
theorem acN:type_of% @bC.eq_3:=@bC.eq_3
