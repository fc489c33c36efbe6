/- Parts. -/
import Derived.Test.YtdigkhaofjmgkaaGreatDoorIs18
import Derived.LaidEql
import Derived.Stop.Asserts
import Derived.RowKitTokens
import Derived.RegionTactic
import Derived.ChangeAlike
set_option linter.unusedSimpArgs false
set_option linter.unusedVariables false
set_option maxHeartbeats 8000000
open Go.Proofs.Tryz
namespace Go.Proofs.YtdigkhaofjmgkaaGreatDoor
open Go.RowKit Go.Extern.Stop Go.Stop Go.Extern
theorem I5 (t:Addr) (w:World):(ReflectliteValue.unpack (.iface 161 (.pointer (some t)))).run prog w
  = .ok (.agg #[.pointer (some ⟨12,161,none⟩),.pointer (some ⟨w.heap.size,0,none⟩),.int .u64 150]) (w.alloc (.cells #[.pointer (some t)] 161)):=by kernel_rfl
theorem I3 (a:Addr) (w:World):(ReflectliteValue.methodAny (ReflectliteValue.valueError "reflectlite.Value.Type" 0) (fun t _ _ _=>ReflectliteType.toType t) #[.agg #[.pointer (some ⟨12,161,none⟩),.pointer (some a),.int .u64 150]]).run prog w
  = .ok (.iface 289 (.agg #[.pointer (some ⟨12,161,none⟩)])) w:=by kernel_rfl
theorem IZ (h:Value) (w:World):(Go.method 512 289 (.agg #[h]) "Kind").run prog w = .ok (296,h) w:=by kernel_rfl
theorem IV (w:World):((ReflectliteType.abiMethod fun t=>(fun a:Nat=>Value.int IntKind.u8 (a:Int)) <$> Rtype.kind t) #[.pointer (some ⟨12,161,none⟩)]).run prog w = .ok (.int .u8 22) w:=by kernel_rfl
theorem IU (w:World):((ReflectliteType.abiMethod fun t=>(fun a:Nat=>Value.int IntKind.u8 (a:Int)) <$> Rtype.kind t) #[.pointer (some ⟨12,40,none⟩)]).run prog w = .ok (.int .u8 2) w:=by kernel_rfl
theorem I6 (z:Sem Value) (f:TypeId->Addr->Nat->Nat->Sem Value) (v:Value) :
  ReflectliteValue.method z f #[v]=(do match <- ReflectliteValue.parts v with | none=>z | some (t,a,fl)=>f t a fl (fl % 32)):=rfl
theorem I0 (a:Addr) (w:World):(ReflectliteValue.parts (.agg #[.pointer (some ⟨12,161,none⟩),.pointer (some a),.int .u64 150])).run prog w = .ok (some (161,a,150)) w:=by kernel_rfl
theorem IQ (a p:Addr) (W:World) (ha:W.cell? a=some (.pointer (some p))) :
  (ReflectliteValue.method (ReflectliteValue.valueError "reflectlite.Value.IsNil" 0) ReflectliteValue.isNil #[.agg #[.pointer (some ⟨12,161,none⟩),.pointer (some a),.int .u64 150]]).run prog W = .ok (.bool false) W:=by
 rw[I6];simp only[Sem.run_bind,I0,Result.andThen];simp[ReflectliteValue.isNil,loadVar,isAgg,underlying,underlying161,ha,Result.andThen]
theorem IX (h:Value) (w:World):(Go.method 512 289 (.agg #[h]) "Elem").run prog w = .ok (317,.agg #[h]) w:=by kernel_rfl
theorem IY (h:Value) (w:World):(Go.method 512 289 (.agg #[h]) "Implements").run prog w = .ok (318,.agg #[h]) w:=by kernel_rfl
theorem IW (h:Value) (w:World):(Go.method 512 289 (.agg #[h]) "AssignableTo").run prog w = .ok (315,.agg #[h]) w:=by kernel_rfl
theorem IL (w:World):(ReflectliteType.method ReflectliteType.elem #[.agg #[.pointer (some ⟨12,161,none⟩)]]).run prog w = .ok (.iface 289 (.agg #[.pointer (some ⟨12,40,none⟩)])) w:=by kernel_rfl
theorem IP (w:World):(ReflectliteType.relation "Implements" ReflectliteType.implements_ #[.agg #[.pointer (some ⟨12,40,none⟩)],.iface 289 (.agg #[.pointer (some ⟨12,36,none⟩)])]).run prog w = .ok (.bool true) w:=by kernel_rfl
theorem adO (v:Value) (w:World):(ReflectliteType.typeOf #[.iface 40 v]).run prog w = .ok (.iface 289 (.agg #[.pointer (some ⟨12,40,none⟩)])) w:=by kernel_rfl
theorem Va (v:Value) (w:World):(ReflectliteType.typeOf #[.iface 213 v]).run prog w = .ok (.iface 289 (.agg #[.pointer (some ⟨12,213,none⟩)])) w:=by kernel_rfl
theorem adM (w:World):(ReflectliteType.relation "AssignableTo" ReflectliteType.assignableTo #[.agg #[.pointer (some ⟨12,40,none⟩)],.iface 289 (.agg #[.pointer (some ⟨12,40,none⟩)])]).run prog w = .ok (.bool true) w:=by kernel_rfl
theorem U2 (w:World):(ReflectliteType.relation "AssignableTo" ReflectliteType.assignableTo #[.agg #[.pointer (some ⟨12,213,none⟩)],.iface 289 (.agg #[.pointer (some ⟨12,40,none⟩)])]).run prog w = .ok (.bool false) w:=by kernel_rfl
theorem I4 (n:Int) (w:World):(ReflectliteValue.unpack (.iface 40 (.int .i64 n))).run prog w
  = .ok (.agg #[.pointer (some ⟨12,40,none⟩),.pointer (some ⟨w.heap.size,0,none⟩),.int .u64 130]) (w.alloc (.cells #[.int .i64 n] 40)):=by kernel_rfl
theorem U4 (w:World):(Rtype.elem? 161).run prog w = .ok (some 40) w:=by kernel_rfl
theorem U6 (p:Addr) (w:World):(ReflectliteValue.mk 40 p ReflectliteValue.flagAddr).run prog w = .ok (.agg #[.pointer (some ⟨12,40,none⟩),.pointer (some p),.int .u64 386]) w:=by kernel_rfl
theorem IM (a p:Addr) (W:World) (ha:W.cell? a=some (.pointer (some p))) :
  (ReflectliteValue.method (ReflectliteValue.valueError "reflectlite.Value.Elem" 0) ReflectliteValue.elem #[.agg #[.pointer (some ⟨12,161,none⟩),.pointer (some a),.int .u64 150]]).run prog W
   = .ok (.agg #[.pointer (some ⟨12,40,none⟩),.pointer (some p),.int .u64 386]) W:=by
 rw[I6];simp only[Sem.run_bind,I0,Result.andThen];simp[ReflectliteValue.elem,loadVar,isAgg,underlying,underlying161,ha,Result.andThen,U4,U6]
theorem Vc (v x:Value):ReflectliteValue.set #[v,x]=(do
  let (some (dst,a,fl),some (src,b,_)):=(<- ReflectliteValue.parts v,<- ReflectliteValue.parts x)
   | unsupported (.noEntry "extern/(internal/reflectlite.Value).Set.zeroValue")
  if fl / ReflectliteValue.flagAddr % 2 == 0 then unsupported (.noEntry "extern/(internal/reflectlite.Value).Set.unaddressable")
  let val <- loadVar src b
  if <- Rtype.directlyAssignable dst src then storeVar dst a val
  else if <- Rtype.implements dst src then
   if (<- Rtype.kind src) == 20 then
    match val with
    | .nilIface=>unsupported (.noEntry "extern/reflectlite: a nil value of one interface type handed on as a value of another")
    | _=>storeVar dst a val
   else storeVar dst a (.iface src val)
  else panicString ("reflectlite.Set: value of type " ++ (<- Rtype.spelt src) ++ " is not assignable to type " ++ (<- Rtype.spelt dst))
  pure (.tuple #[])):=rfl
theorem U9 (a:Addr) (w:World):(ReflectliteValue.parts (.agg #[.pointer (some ⟨12,40,none⟩),.pointer (some a),.int .u64 386])).run prog w = .ok (some (40,a,386)) w:=by kernel_rfl
theorem U8 (a:Addr) (w:World):(ReflectliteValue.parts (.agg #[.pointer (some ⟨12,40,none⟩),.pointer (some a),.int .u64 130])).run prog w = .ok (some (40,a,130)) w:=by kernel_rfl
theorem U3 (w:World):(Rtype.directlyAssignable 40 40).run prog w = .ok true w:=by kernel_rfl
theorem adN (ta b:Addr) (n:Int) (im:Value) (W:World) (hb:W.cell? b=some (.int .i64 n)) (ht:W.cell? ta=some im) (hf:W.frozen? ta=false) :
  (ReflectliteValue.set #[.agg #[.pointer (some ⟨12,40,none⟩),.pointer (some ta),.int .u64 386],.agg #[.pointer (some ⟨12,40,none⟩),.pointer (some b),.int .u64 130]]).run prog W
   = .ok (.tuple #[]) (W.setCell ta (.int .i64 n)):=by
 rw[Vc];simp only[Sem.run_bind,U9,U8,Result.andThen];simp[ReflectliteValue.flagAddr,loadVar,isAgg,underlying,underlying40,hb,Result.andThen,U3,storeVar,Value.cells,storeCells,Addr.add];rw[run_store prog W ta _ _ (by rfl)];simp[ht,hf]
def qZ (t:Addr) (n:Int) (w:World):World:=((((w.alloc (.cells #[.pointer (some t)] 161)).alloc (.cells #[.pointer (some ⟨12,161,none⟩),.pointer (some ⟨w.heap.size,0,none⟩),.int .u64 150] 234)).alloc (.cells #[.pointer (some ⟨12,161,none⟩),.pointer (some ⟨w.heap.size,0,none⟩),.int .u64 150] 234)).alloc (.cells #[.int .i64 n] 40)).setCell t (.int .i64 n)
theorem Lb (n:Int) (t:Addr) (im:Value) (w:World) (hg:w.cell? ⟨3,0,none⟩=some (.iface 289 (.agg #[.pointer (some ⟨12,36,none⟩)]))) (nI:w.cell? t=some im) (hf0:w.frozen? t=false) :
  Calls prog 87 #[.iface 40 (.int .i64 n),.iface 161 (.pointer (some t))] w fun ev w'=>ev = .returned (.bool true)/\w'=qZ t n w:=by
 have h6:=@run_callFunc_extern prog 139 _ (fun args=>ReflectliteValue.unpack (args.getD 0 (.tuple #[]))) func139 (by kernel_rfl) (by kernel_rfl) (by kernel_rfl) (by kernel_rfl);have h7:=@run_callFunc_extern prog 140 _ (ReflectliteValue.methodAny (ReflectliteValue.valueError "reflectlite.Value.Type" 0) (fun t _ _ _=>ReflectliteType.toType t)) func140 (by kernel_rfl) (by kernel_rfl) (by kernel_rfl) (by kernel_rfl);have h8:=@run_callFunc_extern prog 141 _ (ReflectliteValue.method (ReflectliteValue.valueError "reflectlite.Value.IsNil" 0) ReflectliteValue.isNil) func141 (by kernel_rfl) (by kernel_rfl) (by kernel_rfl) (by kernel_rfl);have Np:=@run_callFunc_extern prog 296 _ (ReflectliteType.abiMethod fun t=>do pure (.int .u8 (<- Rtype.kind t))) func296 (by kernel_rfl) (by kernel_rfl) (by kernel_rfl) (by kernel_rfl);have Ns:=@run_callFunc_extern prog 317 _ (ReflectliteType.method ReflectliteType.elem) func317 (by kernel_rfl) (by kernel_rfl) (by kernel_rfl) (by kernel_rfl);have Nt:=@run_callFunc_extern prog 318 _ (ReflectliteType.relation "Implements" ReflectliteType.implements_) func318 (by kernel_rfl) (by kernel_rfl) (by kernel_rfl) (by kernel_rfl);have pO:=@run_callFunc_extern prog 185 _ ReflectliteType.typeOf func185 (by kernel_rfl) (by kernel_rfl) (by kernel_rfl) (by kernel_rfl);have Nr:=@run_callFunc_extern prog 315 _ (ReflectliteType.relation "AssignableTo" ReflectliteType.assignableTo) func315 (by kernel_rfl) (by kernel_rfl) (by kernel_rfl) (by kernel_rfl);have Nl:=@run_callFunc_extern prog 186 _ (ReflectliteValue.method (ReflectliteValue.valueError "reflectlite.Value.Elem" 0) ReflectliteValue.elem) func186 (by kernel_rfl) (by kernel_rfl) (by kernel_rfl) (by kernel_rfl);have zR:=@run_callFunc_extern prog 187 _ ReflectliteValue.set func187 (by kernel_rfl) (by kernel_rfl) (by kernel_rfl) (by kernel_rfl);have mA:=IW;have aE:=adM;have vE:=I4;have tE:=adO;have f6:=I5;have f7:=I3;have mK:=IZ;have mE:=IX;have mI:=IY;have kP:=IV;have kE:=IU;have eP:=IL;have iE:=IP;have n8:=IQ ⟨w.heap.size,0,none⟩ t ((w.alloc (.cells #[.pointer (some t)] 161)).alloc (.cells #[.pointer (some ⟨12,161,none⟩),.pointer (some ⟨w.heap.size,0,none⟩),.int .u64 150] 234)) (by simp)
 have YJ:3 < w.heap.size:=by
  rcases Nat.lt_or_ge 3 w.heap.size with h | h
  .exact h
  .simp[World.cell?,Array.getElem?_eq_none h]at hg
 have wL:((w.alloc (.cells #[.pointer (some t)] 161)).alloc (.cells #[.pointer (some ⟨12,161,none⟩),.pointer (some ⟨w.heap.size,0,none⟩),.int .u64 150] 234)).cell? ⟨3,0,none⟩=some (.iface 289 (.agg #[.pointer (some ⟨12,36,none⟩)])):=by
  rw[World.cell?_alloc_lt _ _ ⟨3,0,none⟩ (by first | (simp;done) | (simp;omega)),World.cell?_alloc_lt _ _ ⟨3,0,none⟩ YJ];exact hg
 have e7:t.block < w.heap.size:=by
  rcases Nat.lt_or_ge t.block w.heap.size with h | h
  .exact h
  .simp[World.cell?,Array.getElem?_eq_none h]at nI
 have el:=IM ⟨w.heap.size,0,none⟩ t (((w.alloc (.cells #[.pointer (some t)] 161)).alloc (.cells #[.pointer (some ⟨12,161,none⟩),.pointer (some ⟨w.heap.size,0,none⟩),.int .u64 150] 234)).alloc (.cells #[.pointer (some ⟨12,161,none⟩),.pointer (some ⟨w.heap.size,0,none⟩),.int .u64 150] 234)) (by rw[World.cell?_alloc_lt _ _ ⟨w.heap.size,0,none⟩ (by simp;omega)];simp)
 have st:=adN t ⟨w.heap.size+1+1+1,0,none⟩ n im ((((w.alloc (.cells #[.pointer (some t)] 161)).alloc (.cells #[.pointer (some ⟨12,161,none⟩),.pointer (some ⟨w.heap.size,0,none⟩),.int .u64 150] 234)).alloc (.cells #[.pointer (some ⟨12,161,none⟩),.pointer (some ⟨w.heap.size,0,none⟩),.int .u64 150] 234)).alloc (.cells #[.int .i64 n] 40))
  (by rw[World.cell?_alloc_at _ _ _ _ (by simp)];rfl)
  (by rw[World.cell?_alloc_lt _ _ t (by simp;omega),World.cell?_alloc_lt _ _ t (by simp;omega),World.cell?_alloc_lt _ _ t (by simp;omega),World.cell?_alloc_lt _ _ t e7];exact nI)
  (by rw[World.frozen?_alloc_old _ _ t (by simp;omega),World.frozen?_alloc_old _ _ t (by simp;omega),World.frozen?_alloc_old _ _ t (by simp;omega),World.frozen?_alloc_old _ _ t (Nat.ne_of_lt e7)];exact hf0)
 go_enter func87,ntmps87
 go_wp2
 refine wp_loop_rounds 1 ?_;rw[rounds_succ]
 go_wp2
 go_ret
 exact⟨rfl,rfl⟩
theorem WH (a:Addr) (n:Int) (w:World) (ha:w.cell? a=some (.int .i64 n)):Calls prog 310 #[.pointer (some a)] w fun e w'=>e = .returned (.iface 40 (.int .i64 n))/\w'=w:=by
 go_enter func310,ntmps310
 go_wp2
 go_ret
 exact⟨rfl,rfl⟩
theorem U5 (h:Value) (w:World):(Go.method 512 213 h "Unwrap").run prog w = .ok (310,h) w:=by kernel_rfl
theorem U7 (v:Value) (xT:TypeId) (w:World):(Instr.typeAssert (.iface 213 v) xT 294 true).run prog w = .ok (.tuple #[.nilIface,.bool false]) w:=run_typeAssert_lacksB underlying294 (by kernel_rfl) (by kernel_rfl) v xT w
theorem Vb (v:Value) (xT:TypeId) (w:World):(Instr.typeAssert (.iface 213 v) xT 285 true).run prog w = .ok (.tuple #[.iface 213 v,.bool true]) w:=run_typeAssert_hasB underlying285 (by kernel_rfl) v xT w
theorem La (n:Int) (a t:Addr) (im:Value) (w:World) (hg:w.cell? ⟨3,0,none⟩=some (.iface 289 (.agg #[.pointer (some ⟨12,36,none⟩)]))) (ha:w.cell? a=some (.int .i64 n)) (nI:w.cell? t=some im) (hf0:w.frozen? t=false) :
  Calls prog 87 #[.iface 213 (.pointer (some a)),.iface 161 (.pointer (some t))] w fun ev w'=>ev = .returned (.bool true)/\w'=qZ t n w:=by
 have h6:=@run_callFunc_extern prog 139 _ (fun args=>ReflectliteValue.unpack (args.getD 0 (.tuple #[]))) func139 (by kernel_rfl) (by kernel_rfl) (by kernel_rfl) (by kernel_rfl);have h7:=@run_callFunc_extern prog 140 _ (ReflectliteValue.methodAny (ReflectliteValue.valueError "reflectlite.Value.Type" 0) (fun t _ _ _=>ReflectliteType.toType t)) func140 (by kernel_rfl) (by kernel_rfl) (by kernel_rfl) (by kernel_rfl);have h8:=@run_callFunc_extern prog 141 _ (ReflectliteValue.method (ReflectliteValue.valueError "reflectlite.Value.IsNil" 0) ReflectliteValue.isNil) func141 (by kernel_rfl) (by kernel_rfl) (by kernel_rfl) (by kernel_rfl);have Np:=@run_callFunc_extern prog 296 _ (ReflectliteType.abiMethod fun t=>do pure (.int .u8 (<- Rtype.kind t))) func296 (by kernel_rfl) (by kernel_rfl) (by kernel_rfl) (by kernel_rfl);have Ns:=@run_callFunc_extern prog 317 _ (ReflectliteType.method ReflectliteType.elem) func317 (by kernel_rfl) (by kernel_rfl) (by kernel_rfl) (by kernel_rfl);have Nt:=@run_callFunc_extern prog 318 _ (ReflectliteType.relation "Implements" ReflectliteType.implements_) func318 (by kernel_rfl) (by kernel_rfl) (by kernel_rfl) (by kernel_rfl);have pO:=@run_callFunc_extern prog 185 _ ReflectliteType.typeOf func185 (by kernel_rfl) (by kernel_rfl) (by kernel_rfl) (by kernel_rfl);have Nr:=@run_callFunc_extern prog 315 _ (ReflectliteType.relation "AssignableTo" ReflectliteType.assignableTo) func315 (by kernel_rfl) (by kernel_rfl) (by kernel_rfl) (by kernel_rfl);have Nl:=@run_callFunc_extern prog 186 _ (ReflectliteValue.method (ReflectliteValue.valueError "reflectlite.Value.Elem" 0) ReflectliteValue.elem) func186 (by kernel_rfl) (by kernel_rfl) (by kernel_rfl) (by kernel_rfl);have zR:=@run_callFunc_extern prog 187 _ ReflectliteValue.set func187 (by kernel_rfl) (by kernel_rfl) (by kernel_rfl) (by kernel_rfl);have mA:=IW;have aE:=adM;have vE:=I4;have tE:=adO;have f6:=I5;have f7:=I3;have mK:=IZ;have mE:=IX;have mI:=IY;have kP:=IV;have kE:=IU;have eP:=IL;have iE:=IP;have n8:=IQ ⟨w.heap.size,0,none⟩ t ((w.alloc (.cells #[.pointer (some t)] 161)).alloc (.cells #[.pointer (some ⟨12,161,none⟩),.pointer (some ⟨w.heap.size,0,none⟩),.int .u64 150] 234)) (by simp)
 have YJ:3 < w.heap.size:=by
  rcases Nat.lt_or_ge 3 w.heap.size with h | h
  .exact h
  .simp[World.cell?,Array.getElem?_eq_none h]at hg
 have wL:((w.alloc (.cells #[.pointer (some t)] 161)).alloc (.cells #[.pointer (some ⟨12,161,none⟩),.pointer (some ⟨w.heap.size,0,none⟩),.int .u64 150] 234)).cell? ⟨3,0,none⟩=some (.iface 289 (.agg #[.pointer (some ⟨12,36,none⟩)])):=by
  rw[World.cell?_alloc_lt _ _ ⟨3,0,none⟩ (by first | (simp;done) | (simp;omega)),World.cell?_alloc_lt _ _ ⟨3,0,none⟩ YJ];exact hg
 have e7:t.block < w.heap.size:=by
  rcases Nat.lt_or_ge t.block w.heap.size with h | h
  .exact h
  .simp[World.cell?,Array.getElem?_eq_none h]at nI
 have el:=IM ⟨w.heap.size,0,none⟩ t (((w.alloc (.cells #[.pointer (some t)] 161)).alloc (.cells #[.pointer (some ⟨12,161,none⟩),.pointer (some ⟨w.heap.size,0,none⟩),.int .u64 150] 234)).alloc (.cells #[.pointer (some ⟨12,161,none⟩),.pointer (some ⟨w.heap.size,0,none⟩),.int .u64 150] 234)) (by rw[World.cell?_alloc_lt _ _ ⟨w.heap.size,0,none⟩ (by simp;omega)];simp)
 have st:=adN t ⟨w.heap.size+1+1+1,0,none⟩ n im ((((w.alloc (.cells #[.pointer (some t)] 161)).alloc (.cells #[.pointer (some ⟨12,161,none⟩),.pointer (some ⟨w.heap.size,0,none⟩),.int .u64 150] 234)).alloc (.cells #[.pointer (some ⟨12,161,none⟩),.pointer (some ⟨w.heap.size,0,none⟩),.int .u64 150] 234)).alloc (.cells #[.int .i64 n] 40))
  (by rw[World.cell?_alloc_at _ _ _ _ (by simp)];rfl)
  (by rw[World.cell?_alloc_lt _ _ t (by simp;omega),World.cell?_alloc_lt _ _ t (by simp;omega),World.cell?_alloc_lt _ _ t (by simp;omega),World.cell?_alloc_lt _ _ t e7];exact nI)
  (by rw[World.frozen?_alloc_old _ _ t (by simp;omega),World.frozen?_alloc_old _ _ t (by simp;omega),World.frozen?_alloc_old _ _ t (by simp;omega),World.frozen?_alloc_old _ _ t (Nat.ne_of_lt e7)];exact hf0)
 have tA:=Va;have aA:=U2;have nA:=U7;have uA:=Vb;have mU:=U5
 have hal:a.block < w.heap.size:=by
  rcases Nat.lt_or_ge a.block w.heap.size with h | h
  .exact h
  .simp[World.cell?,Array.getElem?_eq_none h]at ha
 have Oj:(((w.alloc (.cells #[.pointer (some t)] 161)).alloc (.cells #[.pointer (some ⟨12,161,none⟩),.pointer (some ⟨w.heap.size,0,none⟩),.int .u64 150] 234)).alloc (.cells #[.pointer (some ⟨12,161,none⟩),.pointer (some ⟨w.heap.size,0,none⟩),.int .u64 150] 234)).cell? a=some (.int .i64 n):=by
  rw[World.cell?_alloc_lt _ _ a (by simp;omega),World.cell?_alloc_lt _ _ a (by simp;omega),World.cell?_alloc_lt _ _ a hal];exact ha
 go_enter func87,ntmps87
 go_wp2
 refine wp_loop_rounds 2 ?_;rw[rounds_succ]
 go_wp2_with (go_at_call 310;refine (WH a n _ Oj).mono ?_;rintro e w' ⟨rfl,rfl⟩)
 rw[rounds_succ]
 go_wp2
 go_ret
 exact⟨rfl,rfl⟩
end Go.Proofs.YtdigkhaofjmgkaaGreatDoor
namespace Go.Proofs.YtdigkhaofjmgkaaGreatDoor
open Go.Av
def YG (n:Int):D:=.v (.int .i64 n)
def TX (st:List (List Int)×List Int) (l:List Int):List (List Int)×List Int:=
 if idx (fun x=>x == l) st.1 < 0 then (st.1 ++ [l],st.2 ++ [(st.1.length:Int)]) else (st.1,st.2 ++ [idx (fun x=>x == l) st.1])
def TW (L:List (List Int)) (n:Nat):List (List Int)×List Int:=(L.take n).foldl TX ([],[])
structure sq where
 next:List (List Int)
 Ws:List (List Int)
def aR:Option (Int×Option Nat)->D
 | none=>.v .nilIface
 | some (c,none)=>.bh 40 (.v (.int .i64 c))
 | some (c,some s)=>.bh 213 (.ip [.v (.int .i64 c),.v (.int .i64 s)])
open Go.Extern Go.Extern.Stop Go.RowKit Go.Stop
def lB:Value:=.iface 289 (.agg #[.pointer (some ⟨12,36,none⟩)])
theorem DS (n:Int) (w:World):bT w (qZ ⟨w.heap.size,0,none⟩ n (w.alloc (.cells #[.int .i64 0] 40))):=by
 unfold qZ;refine⟨by simp<;>omega,rfl,rfl,rfl,fun b hb=>?_⟩;rw[Below.heap_setCell _ _ _ _ (by simp;omega)];(repeat rw[Below.heap_alloc _ _ _ (by simp;omega)]);exact Below.heap_alloc _ _ _ hb
theorem DR (n:Int) (w:World):(qZ ⟨w.heap.size,0,none⟩ n (w.alloc (.cells #[.int .i64 0] 40))).cell? ⟨w.heap.size,0,none⟩=some (.int .i64 n):=by
 unfold qZ
 have hm:((((w.alloc (.cells #[.int .i64 0] 40)).alloc (.cells #[.pointer (some ⟨w.heap.size,0,none⟩)] 161)).alloc (.cells #[.pointer (some ⟨12,161,none⟩),.pointer (some ⟨(w.alloc (.cells #[.int .i64 0] 40)).heap.size,0,none⟩),.int .u64 150] 234)).alloc (.cells #[.pointer (some ⟨12,161,none⟩),.pointer (some ⟨(w.alloc (.cells #[.int .i64 0] 40)).heap.size,0,none⟩),.int .u64 150] 234) |>.alloc (.cells #[.int .i64 n] 40)).cell? ⟨w.heap.size,0,none⟩=some (.int .i64 0):=by
  rw[World.cell?_alloc_lt _ _ _ (by simp;omega),World.cell?_alloc_lt _ _ _ (by simp;omega),World.cell?_alloc_lt _ _ _ (by simp;omega),World.cell?_alloc_lt _ _ _ (by simp)];simp
 exact World.cell?_setCell_same _ _ _ hm
theorem Wr (w:World):Calls prog 37 #[.nilIface] w fun e w'=>e = .returned (.int .i64 0)/\w'=w:=by
 go_enter func37,ntmps37
 go_wp2
 go_ret
 exact⟨rfl,rfl⟩
theorem Wq (n:Int) (w:World) (hg:w.cell? ⟨3,0,none⟩=some lB):Calls prog 37 #[.iface 40 (.int .i64 n)] w fun e w'=>e = .returned (.int .i64 n)/\bT w w':=by
 have YJ:3 < w.heap.size:=by
  rcases Nat.lt_or_ge 3 w.heap.size with h | h
  .exact h
  .simp[World.cell?,Array.getElem?_eq_none h]at hg
 have AH:(w.alloc (.cells #[.int .i64 0] 40)).cell? ⟨3,0,none⟩=some lB:=by rw[World.cell?_alloc_lt _ _ ⟨3,0,none⟩ YJ];exact hg
 have Bs:(w.alloc (.cells #[.int .i64 0] 40)).cell? ⟨w.heap.size,0,none⟩=some (.int .i64 0):=by simp
 have AF:(w.alloc (.cells #[.int .i64 0] 40)).frozen? ⟨w.heap.size,0,none⟩=false:=by simp
 have hc:=DR n w;have gX:=DS n w
 go_enter func37,ntmps37
 go_wp2_with (go_at_call 87;refine (Lb n _ (.int .i64 0) _ AH Bs AF).mono ?_;rintro e w' ⟨rfl,rfl⟩)
 go_ret
 exact⟨rfl,gX⟩
theorem Wp (n:Int) (a:Addr) (w:World) (hg:w.cell? ⟨3,0,none⟩=some lB) (ha:w.cell? a=some (.int .i64 n)):Calls prog 37 #[.iface 213 (.pointer (some a))] w fun e w'=>e = .returned (.int .i64 n)/\bT w w':=by
 have YJ:3 < w.heap.size:=by
  rcases Nat.lt_or_ge 3 w.heap.size with h | h
  .exact h
  .simp[World.cell?,Array.getElem?_eq_none h]at hg
 have hal:a.block < w.heap.size:=vF ha
 have AH:(w.alloc (.cells #[.int .i64 0] 40)).cell? ⟨3,0,none⟩=some lB:=by rw[World.cell?_alloc_lt _ _ ⟨3,0,none⟩ YJ];exact hg
 have Ol:(w.alloc (.cells #[.int .i64 0] 40)).cell? a=some (.int .i64 n):=by rw[World.cell?_alloc_lt _ _ a hal];exact ha
 have Bs:(w.alloc (.cells #[.int .i64 0] 40)).cell? ⟨w.heap.size,0,none⟩=some (.int .i64 0):=by simp
 have AF:(w.alloc (.cells #[.int .i64 0] 40)).frozen? ⟨w.heap.size,0,none⟩=false:=by simp
 have hc:=DR n w;have gX:=DS n w
 go_enter func37,ntmps37
 go_wp2_with (go_at_call 87;refine (La n a _ (.int .i64 0) _ AH Ol Bs AF).mono ?_;rintro e w' ⟨rfl,rfl⟩)
 go_ret
 exact⟨rfl,gX⟩
def codeF:Option (Int×Option Nat)->Int
 | none=>0
 | some (c,_)=>c
def mO (G:YI):Prop:=G 3=some (.ip [.v lB])
theorem mO.cell {G:YI} (h:mO G) {w:World} {X:Nat->Prop} (hg:∀ g x,G g=some x->RD w X (.pointer (some ⟨g,0,none⟩)) x):w.cell? ⟨3,0,none⟩=some lB:=by
 have:=hg _ _ h;obtain⟨b,off,f,hb,_,_,hc,hr⟩:=this.abj;simp only[Value.pointer.injEq,Option.some.injEq,Addr.mk.injEq,and_true]at hb;obtain⟨rfl,rfl⟩:=hb;have h1:=hc 0 (by simp);have h2:=(hr 0 _ rfl).scalar;rw[h2]at h1;exact h1
theorem JM (G:YI) (hG:mO G) (e:Option (Int×Option Nat)):aq prog G 37 [aR e] (.v (.int .i64 (codeF e))):=by
 refine aq.rT (fo.of func37 rfl rfl) fun X w vs aK bq Y7=>?_;have hg:=hG.cell Y7;obtain⟨v,rfl⟩:∃ v,vs = #[v]:=Array.size_eq_one_iff.1 aK;have hv:=bq 0 v _ rfl rfl
 match e,hv with
 | none,hv=>
  have:=hv.scalar;subst this;exact (Wr w).mono fun e w' ⟨he,hw⟩=>⟨_,he,by rw[hw];exact bT.refl w,.v _⟩
 | some (c,none),hv=>
  obtain⟨u,rfl,hu⟩:=hv.oY;have:=hu.scalar;subst this;exact (Wq c w hg).mono fun e w' ⟨he,hw⟩=>⟨_,he,hw,.v _⟩
 | some (c,some s),hv=>
  obtain⟨u,rfl,hu⟩:=hv.oY;obtain⟨b,off,f,rfl,_,_,hc,hr⟩:=hu.abj;have h1:=hc 0 (by simp);have h2:=(hr 0 _ rfl).scalar;rw[h2]at h1;exact (Wp c ⟨b,off,none⟩ w hg h1).mono fun e w' ⟨he,hw⟩=>⟨_,he,hw,.v _⟩
end Go.Proofs.YtdigkhaofjmgkaaGreatDoor
namespace Go.Proofs.YtdigkhaofjmgkaaGreatDoor
open Go.Av
inductive Fm where
 | nil
 | mk (kind:Int) (name:List UInt8) (of:List Fm)
def TY {α:Type} (l:List α):Option Bool:=match l with
 | []=>some false
 | _=>none
mutual
def dF:Fm->D
 | .nil=>.v (.pointer none)
 | .mk k s l=>.ip [YG k,dS s,.sl (TY l) (Eh l)]
def Eh:List Fm->List (List D)
 | []=>[]
 | f :: l=>[dF f] :: Eh l
end
def sq.n (t:sq):Nat:=t.next.length
end Go.Proofs.YtdigkhaofjmgkaaGreatDoor
namespace Go.Proofs.YtdigkhaofjmgkaaGreatDoor
theorem BI {α:Type} {p:α->Bool} {l:List α} (h:idx p l < 0):∀ x∈l,p x=false:=by
 unfold idx at h;split at h
 .omega
 .rename_i hn;rw[List.findIdx?_eq_none_iff]at hn;intro x hx;simpa using hn x hx
theorem oX {α:Type} {p:α->Bool} {l:List α} (h:¬ idx p l < 0):∃ k,∃ hk:k < l.length,idx p l=(k:Int)/\p l[k]=true:=by
 unfold idx at h ⊢;split
 .rename_i i hi;rw[List.findIdx?_eq_some_iff_getElem]at hi;obtain⟨h1,h2,_⟩:=hi;exact⟨i,h1,rfl,h2⟩
 .rename_i hn;simp[hn]at h
def dn (L:List (List Int)) (n:Nat):Nat:=(TW L n).1.length
def nx (t:sq) (s c:Nat):Nat:=((t.next.getD s []).getD c 0).toNat
def te (t:sq) (s c:Nat):Int:=(t.Ws.getD s []).getD c 0
def wd (t:sq):Nat:=(t.next.getD 0 []).length
open Go.Av
def pre (l row:List Int) (i:Nat):List Int:=(row.take i).map fun x=>l.getD x.toNat 0
theorem wrap_u64 (n:Int):IntKind.u64.wrap n=n % 18446744073709551616:=by
 simp[IntKind.wrap,IntKind.signed,IntKind.bits]
def tr:Fm:=.mk 2 [] []
def yZ (n:Int) (many:Nat):Nat:=((n % 18446744073709551616) % many).toNat
structure KD where
 kind:Int
 a:Int
 b:Int
 name:List UInt8
def C0 (all:List Fm) (x:KD):Fm:=
 if x.kind=2 then .mk 2 [] []
 else if x.kind=3\/x.kind=6\/x.kind=9\/x.kind=10 then .mk x.kind [] [all.getD (yZ x.a all.length) .nil]
 else if x.kind=4\/x.kind=5\/x.kind=7\/x.kind=8 then .mk x.kind [] [all.getD (yZ x.a all.length) .nil,all.getD (yZ x.b all.length) .nil]
 else .mk 1 x.name []
def DA (f:Fm):Prop:=∃ k s l,f = .mk k s l
theorem DA.ip {f:Fm} (h:DA f):∃ c,dF f = .ip c:=by
 obtain⟨k,s,l,rfl⟩:=h;exact⟨_,rfl⟩
abbrev KE:=List (List (List UInt8))
end Go.Proofs.YtdigkhaofjmgkaaGreatDoor
namespace Go.Proofs.YtdigkhaofjmgkaaGreatDoor
section
variable (f g:Fm)
def o5:Fm:=.mk 3 [] [f]
end
section
variable (a r:KE) (hr:0 < r.length) (f g:Fm)
include hr
end
