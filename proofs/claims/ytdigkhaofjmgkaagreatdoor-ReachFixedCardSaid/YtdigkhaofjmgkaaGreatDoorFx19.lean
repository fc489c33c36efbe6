/- Parts. -/
import Derived.Test.YtdigkhaofjmgkaaGreatDoorFx11
import Derived.Test.YtdigkhaofjmgkaaGreatDoorFx14
import Derived.LaidEql
import Derived.Stop.Asserts
import Derived.RowKitTokens
set_option linter.unusedSimpArgs false
set_option linter.unusedVariables false
set_option maxHeartbeats 8000000
open Go.Proofs.Tryz
namespace Go.Proofs.YtdigkhaofjmgkaaGreatDoor
open Go.RowKit Go.Extern.Stop Go.Stop Go.Extern
theorem LF (t:Addr) (w:World):(ReflectliteValue.unpack (.iface 161 (.pointer (some t)))).run prog w
  = .ok (.agg #[.pointer (some ⟨12,161,none⟩),.pointer (some ⟨w.heap.size,0,none⟩),.int .u64 150]) (w.alloc (.cells #[.pointer (some t)] 161)):=by kernel_rfl
theorem LC (a:Addr) (w:World):(ReflectliteValue.methodAny (ReflectliteValue.valueError "reflectlite.Value.Type" 0) (fun t _ _ _=>ReflectliteType.toType t) #[.agg #[.pointer (some ⟨12,161,none⟩),.pointer (some a),.int .u64 150]]).run prog w
  = .ok (.iface 289 (.agg #[.pointer (some ⟨12,161,none⟩)])) w:=by kernel_rfl
theorem Ly (h:Value) (w:World):(Go.method 512 289 (.agg #[h]) "Kind").run prog w = .ok (296,h) w:=by kernel_rfl
theorem Lu (w:World):((ReflectliteType.abiMethod fun t=>(fun a:Nat=>Value.int IntKind.u8 (a:Int)) <$> Rtype.kind t) #[.pointer (some ⟨12,161,none⟩)]).run prog w = .ok (.int .u8 22) w:=by kernel_rfl
theorem Lt (w:World):((ReflectliteType.abiMethod fun t=>(fun a:Nat=>Value.int IntKind.u8 (a:Int)) <$> Rtype.kind t) #[.pointer (some ⟨12,40,none⟩)]).run prog w = .ok (.int .u8 2) w:=by kernel_rfl
theorem LG (z:Sem Value) (f:TypeId->Addr->Nat->Nat->Sem Value) (v:Value) :
  ReflectliteValue.method z f #[v]=(do match <- ReflectliteValue.parts v with | none=>z | some (t,a,fl)=>f t a fl (fl % 32)):=rfl
theorem Lz (a:Addr) (w:World):(ReflectliteValue.parts (.agg #[.pointer (some ⟨12,161,none⟩),.pointer (some a),.int .u64 150])).run prog w = .ok (some (161,a,150)) w:=by kernel_rfl
theorem Ls (a p:Addr) (W:World) (ha:W.cell? a=some (.pointer (some p))) :
  (ReflectliteValue.method (ReflectliteValue.valueError "reflectlite.Value.IsNil" 0) ReflectliteValue.isNil #[.agg #[.pointer (some ⟨12,161,none⟩),.pointer (some a),.int .u64 150]]).run prog W = .ok (.bool false) W:=by
 rw[LG];simp only[Sem.run_bind,Lz,Result.andThen];simp[ReflectliteValue.isNil,loadVar,isAgg,underlying,underlying161,ha,Result.andThen]
theorem Lw (h:Value) (w:World):(Go.method 512 289 (.agg #[h]) "Elem").run prog w = .ok (317,.agg #[h]) w:=by kernel_rfl
theorem Lx (h:Value) (w:World):(Go.method 512 289 (.agg #[h]) "Implements").run prog w = .ok (318,.agg #[h]) w:=by kernel_rfl
theorem Lv (h:Value) (w:World):(Go.method 512 289 (.agg #[h]) "AssignableTo").run prog w = .ok (315,.agg #[h]) w:=by kernel_rfl
theorem Lp (w:World):(ReflectliteType.method ReflectliteType.elem #[.agg #[.pointer (some ⟨12,161,none⟩)]]).run prog w = .ok (.iface 289 (.agg #[.pointer (some ⟨12,40,none⟩)])) w:=by kernel_rfl
theorem Lr (w:World):(ReflectliteType.relation "Implements" ReflectliteType.implements_ #[.agg #[.pointer (some ⟨12,40,none⟩)],.iface 289 (.agg #[.pointer (some ⟨12,36,none⟩)])]).run prog w = .ok (.bool true) w:=by kernel_rfl
theorem LB (v:Value) (w:World):(ReflectliteType.typeOf #[.iface 40 v]).run prog w = .ok (.iface 289 (.agg #[.pointer (some ⟨12,40,none⟩)])) w:=by kernel_rfl
theorem X9 (v:Value) (w:World):(ReflectliteType.typeOf #[.iface 213 v]).run prog w = .ok (.iface 289 (.agg #[.pointer (some ⟨12,213,none⟩)])) w:=by kernel_rfl
theorem Lo (w:World):(ReflectliteType.relation "AssignableTo" ReflectliteType.assignableTo #[.agg #[.pointer (some ⟨12,40,none⟩)],.iface 289 (.agg #[.pointer (some ⟨12,40,none⟩)])]).run prog w = .ok (.bool true) w:=by kernel_rfl
theorem ah5 (w:World):(ReflectliteType.relation "AssignableTo" ReflectliteType.assignableTo #[.agg #[.pointer (some ⟨12,213,none⟩)],.iface 289 (.agg #[.pointer (some ⟨12,40,none⟩)])]).run prog w = .ok (.bool false) w:=by kernel_rfl
theorem LD (n:Int) (w:World):(ReflectliteValue.unpack (.iface 40 (.int .i64 n))).run prog w
  = .ok (.agg #[.pointer (some ⟨12,40,none⟩),.pointer (some ⟨w.heap.size,0,none⟩),.int .u64 130]) (w.alloc (.cells #[.int .i64 n] 40)):=by kernel_rfl
theorem ah7 (w:World):(Rtype.elem? 161).run prog w = .ok (some 40) w:=by kernel_rfl
theorem X5 (p:Addr) (w:World):(ReflectliteValue.mk 40 p ReflectliteValue.flagAddr).run prog w = .ok (.agg #[.pointer (some ⟨12,40,none⟩),.pointer (some p),.int .u64 386]) w:=by kernel_rfl
theorem Lq (a p:Addr) (W:World) (ha:W.cell? a=some (.pointer (some p))) :
  (ReflectliteValue.method (ReflectliteValue.valueError "reflectlite.Value.Elem" 0) ReflectliteValue.elem #[.agg #[.pointer (some ⟨12,161,none⟩),.pointer (some a),.int .u64 150]]).run prog W
   = .ok (.agg #[.pointer (some ⟨12,40,none⟩),.pointer (some p),.int .u64 386]) W:=by
 rw[LG];simp only[Sem.run_bind,Lz,Result.andThen];simp[ReflectliteValue.elem,loadVar,isAgg,underlying,underlying161,ha,Result.andThen,ah7,X5]
theorem Yb (v x:Value):ReflectliteValue.set #[v,x]=(do
  let (some (dst,a,fl),some (src,b,_)):=(<- ReflectliteValue.parts v,<- ReflectliteValue.parts x)
   | unsupported (.noEntry "extern/(internal/reflectlite.Value).Set.zeroValue")
  if fl / ReflectliteValue.flagAddr % 2 == 0 then unsupported (.noEntry "extern/(internal/reflectlite.Value).Set.unaddressable")
  let val <- loadVar src b
  if <- Rtype.directlyAssignable dst src then storeVar dst a val
  else if <- Rtype.implements dst src then
   if (<- Rtype.kind src) == 20 then
    match val with
    | .nilIface=>unsupported (.noEntry "extern/reflectlite: a nil value of one interface type handed on as a value of another")
    | _=>storeVar dst a val
   else storeVar dst a (.iface src val)
  else panicString ("reflectlite.Set: value of type " ++ (<- Rtype.spelt src) ++ " is not assignable to type " ++ (<- Rtype.spelt dst))
  pure (.tuple #[])):=rfl
theorem X8 (a:Addr) (w:World):(ReflectliteValue.parts (.agg #[.pointer (some ⟨12,40,none⟩),.pointer (some a),.int .u64 386])).run prog w = .ok (some (40,a,386)) w:=by kernel_rfl
theorem X7 (a:Addr) (w:World):(ReflectliteValue.parts (.agg #[.pointer (some ⟨12,40,none⟩),.pointer (some a),.int .u64 130])).run prog w = .ok (some (40,a,130)) w:=by kernel_rfl
theorem ah6 (w:World):(Rtype.directlyAssignable 40 40).run prog w = .ok true w:=by kernel_rfl
theorem LA (ta b:Addr) (n:Int) (dM:Value) (W:World) (hb:W.cell? b=some (.int .i64 n)) (ht:W.cell? ta=some dM) (hf:W.frozen? ta=false) :
  (ReflectliteValue.set #[.agg #[.pointer (some ⟨12,40,none⟩),.pointer (some ta),.int .u64 386],.agg #[.pointer (some ⟨12,40,none⟩),.pointer (some b),.int .u64 130]]).run prog W
   = .ok (.tuple #[]) (W.setCell ta (.int .i64 n)):=by
 rw[Yb];simp only[Sem.run_bind,X8,X7,Result.andThen];simp[ReflectliteValue.flagAddr,loadVar,isAgg,underlying,underlying40,hb,Result.andThen,ah6,storeVar,Value.cells,storeCells,Addr.add];rw[run_store prog W ta _ _ (by rfl)];simp[ht,hf]
def tG (t:Addr) (n:Int) (w:World):World:=((((w.alloc (.cells #[.pointer (some t)] 161)).alloc (.cells #[.pointer (some ⟨12,161,none⟩),.pointer (some ⟨w.heap.size,0,none⟩),.int .u64 150] 234)).alloc (.cells #[.pointer (some ⟨12,161,none⟩),.pointer (some ⟨w.heap.size,0,none⟩),.int .u64 150] 234)).alloc (.cells #[.int .i64 n] 40)).setCell t (.int .i64 n)
theorem NS (n:Int) (t:Addr) (dM:Value) (w:World) (hg:w.cell? ⟨3,0,none⟩=some (.iface 289 (.agg #[.pointer (some ⟨12,36,none⟩)]))) (l4:w.cell? t=some dM) (Dt:w.frozen? t=false) :
  Calls prog 87 #[.iface 40 (.int .i64 n),.iface 161 (.pointer (some t))] w fun ev w'=>ev = .returned (.bool true)/\w'=tG t n w:=by
 have h6:=@run_callFunc_extern prog 139 _ (fun args=>ReflectliteValue.unpack (args.getD 0 (.tuple #[]))) func139 (by kernel_rfl) (by kernel_rfl) (by kernel_rfl) (by kernel_rfl);have h7:=@run_callFunc_extern prog 140 _ (ReflectliteValue.methodAny (ReflectliteValue.valueError "reflectlite.Value.Type" 0) (fun t _ _ _=>ReflectliteType.toType t)) func140 (by kernel_rfl) (by kernel_rfl) (by kernel_rfl) (by kernel_rfl);have h8:=@run_callFunc_extern prog 141 _ (ReflectliteValue.method (ReflectliteValue.valueError "reflectlite.Value.IsNil" 0) ReflectliteValue.isNil) func141 (by kernel_rfl) (by kernel_rfl) (by kernel_rfl) (by kernel_rfl);have Qi:=@run_callFunc_extern prog 296 _ (ReflectliteType.abiMethod fun t=>do pure (.int .u8 (<- Rtype.kind t))) func296 (by kernel_rfl) (by kernel_rfl) (by kernel_rfl) (by kernel_rfl);have Ql:=@run_callFunc_extern prog 317 _ (ReflectliteType.method ReflectliteType.elem) func317 (by kernel_rfl) (by kernel_rfl) (by kernel_rfl) (by kernel_rfl);have Qm:=@run_callFunc_extern prog 318 _ (ReflectliteType.relation "Implements" ReflectliteType.implements_) func318 (by kernel_rfl) (by kernel_rfl) (by kernel_rfl) (by kernel_rfl);have zh:=@run_callFunc_extern prog 185 _ ReflectliteType.typeOf func185 (by kernel_rfl) (by kernel_rfl) (by kernel_rfl) (by kernel_rfl);have Qk:=@run_callFunc_extern prog 315 _ (ReflectliteType.relation "AssignableTo" ReflectliteType.assignableTo) func315 (by kernel_rfl) (by kernel_rfl) (by kernel_rfl) (by kernel_rfl);have Qg:=@run_callFunc_extern prog 186 _ (ReflectliteValue.method (ReflectliteValue.valueError "reflectlite.Value.Elem" 0) ReflectliteValue.elem) func186 (by kernel_rfl) (by kernel_rfl) (by kernel_rfl) (by kernel_rfl);have Qh:=@run_callFunc_extern prog 187 _ ReflectliteValue.set func187 (by kernel_rfl) (by kernel_rfl) (by kernel_rfl) (by kernel_rfl);have mA:=Lv;have aE:=Lo;have vE:=LD;have tE:=LB;have f6:=LF;have f7:=LC;have mK:=Ly;have mE:=Lw;have mI:=Lx;have kP:=Lu;have kE:=Lt;have eP:=Lp;have iE:=Lr;have n8:=Ls ⟨w.heap.size,0,none⟩ t ((w.alloc (.cells #[.pointer (some t)] 161)).alloc (.cells #[.pointer (some ⟨12,161,none⟩),.pointer (some ⟨w.heap.size,0,none⟩),.int .u64 150] 234)) (by simp)
 have au:3 < w.heap.size:=by
  rcases adY 3 w.heap.size with h | h
  .exact h
  .simp[World.cell?,adS h]at hg
 have RQ:((w.alloc (.cells #[.pointer (some t)] 161)).alloc (.cells #[.pointer (some ⟨12,161,none⟩),.pointer (some ⟨w.heap.size,0,none⟩),.int .u64 150] 234)).cell? ⟨3,0,none⟩=some (.iface 289 (.agg #[.pointer (some ⟨12,36,none⟩)])):=by
  rw[World.cell?_alloc_lt _ _ ⟨3,0,none⟩ (by first | (simp;done) | (simp;omega)),World.cell?_alloc_lt _ _ ⟨3,0,none⟩ au];exact hg
 have iI:t.block < w.heap.size:=by
  rcases adY t.block w.heap.size with h | h
  .exact h
  .simp[World.cell?,adS h]at l4
 have el:=Lq ⟨w.heap.size,0,none⟩ t (((w.alloc (.cells #[.pointer (some t)] 161)).alloc (.cells #[.pointer (some ⟨12,161,none⟩),.pointer (some ⟨w.heap.size,0,none⟩),.int .u64 150] 234)).alloc (.cells #[.pointer (some ⟨12,161,none⟩),.pointer (some ⟨w.heap.size,0,none⟩),.int .u64 150] 234)) (by rw[World.cell?_alloc_lt _ _ ⟨w.heap.size,0,none⟩ (by simp;omega)];simp)
 have st:=LA t ⟨w.heap.size+1+1+1,0,none⟩ n dM ((((w.alloc (.cells #[.pointer (some t)] 161)).alloc (.cells #[.pointer (some ⟨12,161,none⟩),.pointer (some ⟨w.heap.size,0,none⟩),.int .u64 150] 234)).alloc (.cells #[.pointer (some ⟨12,161,none⟩),.pointer (some ⟨w.heap.size,0,none⟩),.int .u64 150] 234)).alloc (.cells #[.int .i64 n] 40))
  (by rw[World.cell?_alloc_at _ _ _ _ (by simp)];rfl)
  (by rw[World.cell?_alloc_lt _ _ t (by simp;omega),World.cell?_alloc_lt _ _ t (by simp;omega),World.cell?_alloc_lt _ _ t (by simp;omega),World.cell?_alloc_lt _ _ t iI];exact l4)
  (by rw[World.frozen?_alloc_old _ _ t (by simp;omega),World.frozen?_alloc_old _ _ t (by simp;omega),World.frozen?_alloc_old _ _ t (by simp;omega),World.frozen?_alloc_old _ _ t (Nat.ne_of_lt iI)];exact Dt)
 go_enter func87,ntmps87
 go_wp2
 refine wp_loop_rounds 1 ?_;rw[rounds_succ]
 go_wp2
 go_ret
 exact⟨rfl,rfl⟩
theorem ZR (a:Addr) (n:Int) (w:World) (ha:w.cell? a=some (.int .i64 n)):Calls prog 310 #[.pointer (some a)] w fun e w'=>e = .returned (.iface 40 (.int .i64 n))/\w'=w:=by
 go_enter func310,ntmps310
 go_wp2
 go_ret
 exact⟨rfl,rfl⟩
theorem X4 (h:Value) (w:World):(Go.method 512 213 h "Unwrap").run prog w = .ok (310,h) w:=by kernel_rfl
theorem X6 (v:Value) (xT:TypeId) (w:World):(Instr.typeAssert (.iface 213 v) xT 294 true).run prog w = .ok (.tuple #[.nilIface,.bool false]) w:=run_typeAssert_lacksB underlying294 (by kernel_rfl) (by kernel_rfl) v xT w
theorem Ya (v:Value) (xT:TypeId) (w:World):(Instr.typeAssert (.iface 213 v) xT 285 true).run prog w = .ok (.tuple #[.iface 213 v,.bool true]) w:=run_typeAssert_hasB underlying285 (by kernel_rfl) v xT w
theorem NR (n:Int) (a t:Addr) (dM:Value) (w:World) (hg:w.cell? ⟨3,0,none⟩=some (.iface 289 (.agg #[.pointer (some ⟨12,36,none⟩)]))) (ha:w.cell? a=some (.int .i64 n)) (l4:w.cell? t=some dM) (Dt:w.frozen? t=false) :
  Calls prog 87 #[.iface 213 (.pointer (some a)),.iface 161 (.pointer (some t))] w fun ev w'=>ev = .returned (.bool true)/\w'=tG t n w:=by
 have h6:=@run_callFunc_extern prog 139 _ (fun args=>ReflectliteValue.unpack (args.getD 0 (.tuple #[]))) func139 (by kernel_rfl) (by kernel_rfl) (by kernel_rfl) (by kernel_rfl);have h7:=@run_callFunc_extern prog 140 _ (ReflectliteValue.methodAny (ReflectliteValue.valueError "reflectlite.Value.Type" 0) (fun t _ _ _=>ReflectliteType.toType t)) func140 (by kernel_rfl) (by kernel_rfl) (by kernel_rfl) (by kernel_rfl);have h8:=@run_callFunc_extern prog 141 _ (ReflectliteValue.method (ReflectliteValue.valueError "reflectlite.Value.IsNil" 0) ReflectliteValue.isNil) func141 (by kernel_rfl) (by kernel_rfl) (by kernel_rfl) (by kernel_rfl);have Qi:=@run_callFunc_extern prog 296 _ (ReflectliteType.abiMethod fun t=>do pure (.int .u8 (<- Rtype.kind t))) func296 (by kernel_rfl) (by kernel_rfl) (by kernel_rfl) (by kernel_rfl);have Ql:=@run_callFunc_extern prog 317 _ (ReflectliteType.method ReflectliteType.elem) func317 (by kernel_rfl) (by kernel_rfl) (by kernel_rfl) (by kernel_rfl);have Qm:=@run_callFunc_extern prog 318 _ (ReflectliteType.relation "Implements" ReflectliteType.implements_) func318 (by kernel_rfl) (by kernel_rfl) (by kernel_rfl) (by kernel_rfl);have zh:=@run_callFunc_extern prog 185 _ ReflectliteType.typeOf func185 (by kernel_rfl) (by kernel_rfl) (by kernel_rfl) (by kernel_rfl);have Qk:=@run_callFunc_extern prog 315 _ (ReflectliteType.relation "AssignableTo" ReflectliteType.assignableTo) func315 (by kernel_rfl) (by kernel_rfl) (by kernel_rfl) (by kernel_rfl);have Qg:=@run_callFunc_extern prog 186 _ (ReflectliteValue.method (ReflectliteValue.valueError "reflectlite.Value.Elem" 0) ReflectliteValue.elem) func186 (by kernel_rfl) (by kernel_rfl) (by kernel_rfl) (by kernel_rfl);have Qh:=@run_callFunc_extern prog 187 _ ReflectliteValue.set func187 (by kernel_rfl) (by kernel_rfl) (by kernel_rfl) (by kernel_rfl);have mA:=Lv;have aE:=Lo;have vE:=LD;have tE:=LB;have f6:=LF;have f7:=LC;have mK:=Ly;have mE:=Lw;have mI:=Lx;have kP:=Lu;have kE:=Lt;have eP:=Lp;have iE:=Lr;have n8:=Ls ⟨w.heap.size,0,none⟩ t ((w.alloc (.cells #[.pointer (some t)] 161)).alloc (.cells #[.pointer (some ⟨12,161,none⟩),.pointer (some ⟨w.heap.size,0,none⟩),.int .u64 150] 234)) (by simp)
 have au:3 < w.heap.size:=by
  rcases adY 3 w.heap.size with h | h
  .exact h
  .simp[World.cell?,adS h]at hg
 have RQ:((w.alloc (.cells #[.pointer (some t)] 161)).alloc (.cells #[.pointer (some ⟨12,161,none⟩),.pointer (some ⟨w.heap.size,0,none⟩),.int .u64 150] 234)).cell? ⟨3,0,none⟩=some (.iface 289 (.agg #[.pointer (some ⟨12,36,none⟩)])):=by
  rw[World.cell?_alloc_lt _ _ ⟨3,0,none⟩ (by first | (simp;done) | (simp;omega)),World.cell?_alloc_lt _ _ ⟨3,0,none⟩ au];exact hg
 have iI:t.block < w.heap.size:=by
  rcases adY t.block w.heap.size with h | h
  .exact h
  .simp[World.cell?,adS h]at l4
 have el:=Lq ⟨w.heap.size,0,none⟩ t (((w.alloc (.cells #[.pointer (some t)] 161)).alloc (.cells #[.pointer (some ⟨12,161,none⟩),.pointer (some ⟨w.heap.size,0,none⟩),.int .u64 150] 234)).alloc (.cells #[.pointer (some ⟨12,161,none⟩),.pointer (some ⟨w.heap.size,0,none⟩),.int .u64 150] 234)) (by rw[World.cell?_alloc_lt _ _ ⟨w.heap.size,0,none⟩ (by simp;omega)];simp)
 have st:=LA t ⟨w.heap.size+1+1+1,0,none⟩ n dM ((((w.alloc (.cells #[.pointer (some t)] 161)).alloc (.cells #[.pointer (some ⟨12,161,none⟩),.pointer (some ⟨w.heap.size,0,none⟩),.int .u64 150] 234)).alloc (.cells #[.pointer (some ⟨12,161,none⟩),.pointer (some ⟨w.heap.size,0,none⟩),.int .u64 150] 234)).alloc (.cells #[.int .i64 n] 40))
  (by rw[World.cell?_alloc_at _ _ _ _ (by simp)];rfl)
  (by rw[World.cell?_alloc_lt _ _ t (by simp;omega),World.cell?_alloc_lt _ _ t (by simp;omega),World.cell?_alloc_lt _ _ t (by simp;omega),World.cell?_alloc_lt _ _ t iI];exact l4)
  (by rw[World.frozen?_alloc_old _ _ t (by simp;omega),World.frozen?_alloc_old _ _ t (by simp;omega),World.frozen?_alloc_old _ _ t (by simp;omega),World.frozen?_alloc_old _ _ t (Nat.ne_of_lt iI)];exact Dt)
 have tA:=X9;have aA:=ah5;have nA:=X6;have uA:=Ya;have mU:=X4
 have hal:a.block < w.heap.size:=by
  rcases adY a.block w.heap.size with h | h
  .exact h
  .simp[World.cell?,adS h]at ha
 have ha3:(((w.alloc (.cells #[.pointer (some t)] 161)).alloc (.cells #[.pointer (some ⟨12,161,none⟩),.pointer (some ⟨w.heap.size,0,none⟩),.int .u64 150] 234)).alloc (.cells #[.pointer (some ⟨12,161,none⟩),.pointer (some ⟨w.heap.size,0,none⟩),.int .u64 150] 234)).cell? a=some (.int .i64 n):=by
  rw[World.cell?_alloc_lt _ _ a (by simp;omega),World.cell?_alloc_lt _ _ a (by simp;omega),World.cell?_alloc_lt _ _ a hal];exact ha
 go_enter func87,ntmps87
 go_wp2
 refine wp_loop_rounds 2 ?_;rw[rounds_succ]
 go_wp2_with (go_at_call 310;refine (ZR a n _ ha3).mono ?_;rintro e w' ⟨rfl,rfl⟩)
 rw[rounds_succ]
 go_wp2
 go_ret
 exact⟨rfl,rfl⟩
end Go.Proofs.YtdigkhaofjmgkaaGreatDoor
namespace Go.Proofs.YtdigkhaofjmgkaaGreatDoor
open Go.Av
def ab (n:Int):D:=.v (.int .i64 n)
def Vk (st:List (List Int)×List Int) (l:List Int):List (List Int)×List Int:=
 if idx (fun x=>x == l) st.1 < 0 then (st.1 ++ [l],st.2 ++ [(st.1.length:Int)]) else (st.1,st.2 ++ [idx (fun x=>x == l) st.1])
def Vj (L:List (List Int)) (n:Nat):List (List Int)×List Int:=(L.take n).foldl Vk ([],[])
structure vM where
 next:List (List Int)
 ZC:List (List Int)
def bd:Option (Int×Option Nat)->D
 | none=>.v .nilIface
 | some (c,none)=>.bt 40 (.v (.int .i64 c))
 | some (c,some s)=>.bt 213 (.ip [.v (.int .i64 c),.v (.int .i64 s)])
open Go.Extern Go.Extern.Stop Go.RowKit Go.Stop
def lZ:Value:=.iface 289 (.agg #[.pointer (some ⟨12,36,none⟩)])
theorem GS (n:Int) (w:World):bZ w (tG ⟨w.heap.size,0,none⟩ n (w.alloc (.cells #[.int .i64 0] 40))):=by
 unfold tG;refine⟨by simp<;>omega,rfl,rfl,rfl,fun b hb=>?_⟩;rw[Below.heap_setCell _ _ _ _ (by simp;omega)];(repeat rw[Below.heap_alloc _ _ _ (by simp;omega)]);exact Below.heap_alloc _ _ _ hb
theorem GR (n:Int) (w:World):(tG ⟨w.heap.size,0,none⟩ n (w.alloc (.cells #[.int .i64 0] 40))).cell? ⟨w.heap.size,0,none⟩=some (.int .i64 n):=by
 unfold tG
 have hm:((((w.alloc (.cells #[.int .i64 0] 40)).alloc (.cells #[.pointer (some ⟨w.heap.size,0,none⟩)] 161)).alloc (.cells #[.pointer (some ⟨12,161,none⟩),.pointer (some ⟨(w.alloc (.cells #[.int .i64 0] 40)).heap.size,0,none⟩),.int .u64 150] 234)).alloc (.cells #[.pointer (some ⟨12,161,none⟩),.pointer (some ⟨(w.alloc (.cells #[.int .i64 0] 40)).heap.size,0,none⟩),.int .u64 150] 234) |>.alloc (.cells #[.int .i64 n] 40)).cell? ⟨w.heap.size,0,none⟩=some (.int .i64 0):=by
  rw[World.cell?_alloc_lt _ _ _ (by simp;omega),World.cell?_alloc_lt _ _ _ (by simp;omega),World.cell?_alloc_lt _ _ _ (by simp;omega),World.cell?_alloc_lt _ _ _ (by simp)];simp
 exact World.cell?_setCell_same _ _ _ hm
theorem My (w:World):Calls prog 37 #[.nilIface] w fun e w'=>e = .returned (.int .i64 0)/\w'=w:=by
 go_enter func37,ntmps37
 go_wp2
 go_ret
 exact⟨rfl,rfl⟩
theorem Mx (n:Int) (w:World) (hg:w.cell? ⟨3,0,none⟩=some lZ):Calls prog 37 #[.iface 40 (.int .i64 n)] w fun e w'=>e = .returned (.int .i64 n)/\bZ w w':=by
 have au:3 < w.heap.size:=by
  rcases adY 3 w.heap.size with h | h
  .exact h
  .simp[World.cell?,adS h]at hg
 have Dz:(w.alloc (.cells #[.int .i64 0] 40)).cell? ⟨3,0,none⟩=some lZ:=by rw[World.cell?_alloc_lt _ _ ⟨3,0,none⟩ au];exact hg
 have D5:(w.alloc (.cells #[.int .i64 0] 40)).cell? ⟨w.heap.size,0,none⟩=some (.int .i64 0):=by simp
 have Du:(w.alloc (.cells #[.int .i64 0] 40)).frozen? ⟨w.heap.size,0,none⟩=false:=by simp
 have hc:=GR n w;have hgr:=GS n w
 go_enter func37,ntmps37
 go_wp2_with (go_at_call 87;refine (NS n _ (.int .i64 0) _ Dz D5 Du).mono ?_;rintro e w' ⟨rfl,rfl⟩)
 go_ret
 exact⟨rfl,hgr⟩
theorem Mw (n:Int) (a:Addr) (w:World) (hg:w.cell? ⟨3,0,none⟩=some lZ) (ha:w.cell? a=some (.int .i64 n)):Calls prog 37 #[.iface 213 (.pointer (some a))] w fun e w'=>e = .returned (.int .i64 n)/\bZ w w':=by
 have au:3 < w.heap.size:=by
  rcases adY 3 w.heap.size with h | h
  .exact h
  .simp[World.cell?,adS h]at hg
 have hal:a.block < w.heap.size:=rM ha
 have Dz:(w.alloc (.cells #[.int .i64 0] 40)).cell? ⟨3,0,none⟩=some lZ:=by rw[World.cell?_alloc_lt _ _ ⟨3,0,none⟩ au];exact hg
 have Q3:(w.alloc (.cells #[.int .i64 0] 40)).cell? a=some (.int .i64 n):=by rw[World.cell?_alloc_lt _ _ a hal];exact ha
 have D5:(w.alloc (.cells #[.int .i64 0] 40)).cell? ⟨w.heap.size,0,none⟩=some (.int .i64 0):=by simp
 have Du:(w.alloc (.cells #[.int .i64 0] 40)).frozen? ⟨w.heap.size,0,none⟩=false:=by simp
 have hc:=GR n w;have hgr:=GS n w
 go_enter func37,ntmps37
 go_wp2_with (go_at_call 87;refine (NR n a _ (.int .i64 0) _ Dz Q3 D5 Du).mono ?_;rintro e w' ⟨rfl,rfl⟩)
 go_ret
 exact⟨rfl,hgr⟩
def codeF:Option (Int×Option Nat)->Int
 | none=>0
 | some (c,_)=>c
def bw:Option (Int×Option Nat)->Int
 | some (_,some s)=>s
 | _=>-1
def mo (G:aq):Prop:=G 3=some (.ip [.v lZ])
theorem mo.cell {G:aq} (h:mo G) {w:World} {X:Nat->Prop} (hg:∀ g x,G g=some x->RD w X (.pointer (some ⟨g,0,none⟩)) x):w.cell? ⟨3,0,none⟩=some lZ:=by
 have:=hg _ _ h;obtain⟨b,off,f,hb,_,_,hc,hr⟩:=this.aeN;simp only[Value.pointer.injEq,AS,Addr.mk.injEq,and_true]at hb;obtain⟨rfl,rfl⟩:=hb;have h1:=hc 0 (by simp);have h2:=(hr 0 _ rfl).scalar;rw[h2]at h1;exact h1
theorem ZB (G:aq) (hG:mo G) (e:Option (Int×Option Nat)):ar prog G 37 [bd e] (.v (.int .i64 (codeF e))):=by
 refine ar.nV (fe.of func37 rfl rfl) fun X w vs aK bD hgl=>?_;have hg:=hG.cell hgl;obtain⟨v,rfl⟩:∃ v,vs = #[v]:=Array.size_eq_one_iff.1 aK;have hv:=bD 0 v _ rfl rfl
 match e,hv with
 | none,hv=>
  have:=hv.scalar;subst this;exact (My w).mono fun e w' ⟨he,hw⟩=>⟨_,he,by rw[hw];exact bZ.refl w,.v _⟩
 | some (c,none),hv=>
  obtain⟨u,rfl,hu⟩:=hv.oC;have:=hu.scalar;subst this;exact (Mx c w hg).mono fun e w' ⟨he,hw⟩=>⟨_,he,hw,.v _⟩
 | some (c,some s),hv=>
  obtain⟨u,rfl,hu⟩:=hv.oC;obtain⟨b,off,f,rfl,_,_,hc,hr⟩:=hu.aeN;have h1:=hc 0 (by simp);have h2:=(hr 0 _ rfl).scalar;rw[h2]at h1;exact (Mw c ⟨b,off,none⟩ w hg h1).mono fun e w' ⟨he,hw⟩=>⟨_,he,hw,.v _⟩
theorem afg:type_of% @ab.eq_1:=@ab.eq_1
theorem afm:type_of% @codeF.eq_1:=@codeF.eq_1
theorem afn:type_of% @codeF.eq_2:=@codeF.eq_2
theorem afo:type_of% @bw.eq_1:=@bw.eq_1
theorem afs:type_of% @bw.eq_2:=@bw.eq_2
theorem afG:type_of% @bd.eq_1:=@bd.eq_1
theorem afH:type_of% @bd.eq_2:=@bd.eq_2
theorem afI:type_of% @bd.eq_3:=@bd.eq_3
