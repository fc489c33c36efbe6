/-
  Texts that belong together,in one file: E1,E2,F3,F4,F5,F6,E3,B1,F7,P1,P2,F10,F16,B2,B4,B6,P10.
-/
import Derived.Test.YtdigkhaofjmgkaaGreatDoorIs18
import Derived.LaidEql
import Derived.Stop.Asserts
import Derived.RowKitTokens
import Derived.RegionTactic
import Derived.ChangeAlike
set_option linter.unusedSimpArgs false
set_option linter.unusedVariables false
namespace Go.Proofs.YtdigkhaofjmgkaaGreatDoor
open Go.RowKit Go.Extern.Stop Go.Stop Go.Extern
theorem I6 (t:Addr) (w:World):(ReflectliteValue.unpack (.iface 161 (.pointer (some t)))).run Tryz.prog w
  = .ok (.agg #[.pointer (some ⟨12,161,none⟩),.pointer (some ⟨w.heap.size,0,none⟩),.int .u64 150]) (w.alloc (.cells #[.pointer (some t)] 161)):=by kernel_rfl
theorem I4 (a:Addr) (w:World):(ReflectliteValue.methodAny (ReflectliteValue.valueError "reflectlite.Value.Type" 0) (fun t _ _ _=>ReflectliteType.toType t) #[.agg #[.pointer (some ⟨12,161,none⟩),.pointer (some a),.int .u64 150]]).run Tryz.prog w
  = .ok (.iface 289 (.agg #[.pointer (some ⟨12,161,none⟩)])) w:=by kernel_rfl
theorem I0 (h:Value) (w:World):(Go.method 512 289 (.agg #[h]) "Kind").run Tryz.prog w = .ok (296,h) w:=by kernel_rfl
theorem IW (w:World):((ReflectliteType.abiMethod fun t=>(fun a:Nat=>Value.int IntKind.u8 (a:Int)) <$> Rtype.kind t) #[.pointer (some ⟨12,161,none⟩)]).run Tryz.prog w = .ok (.int .u8 22) w:=by kernel_rfl
theorem IV (w:World):((ReflectliteType.abiMethod fun t=>(fun a:Nat=>Value.int IntKind.u8 (a:Int)) <$> Rtype.kind t) #[.pointer (some ⟨12,40,none⟩)]).run Tryz.prog w = .ok (.int .u8 2) w:=by kernel_rfl
theorem I7 (z:Sem Value) (f:TypeId->Addr->Nat->Nat->Sem Value) (v:Value) :
  ReflectliteValue.method z f #[v]=(do match <- ReflectliteValue.parts v with | none=>z | some (t,a,fl)=>f t a fl (fl % 32)):=rfl
theorem adO (a:Addr) (w:World):(ReflectliteValue.parts (.agg #[.pointer (some ⟨12,161,none⟩),.pointer (some a),.int .u64 150])).run Tryz.prog w = .ok (some (161,a,150)) w:=by kernel_rfl
theorem IU (a p:Addr) (W:World) (ha:W.cell? a=some (.pointer (some p))) :
  (ReflectliteValue.method (ReflectliteValue.valueError "reflectlite.Value.IsNil" 0) ReflectliteValue.isNil #[.agg #[.pointer (some ⟨12,161,none⟩),.pointer (some a),.int .u64 150]]).run Tryz.prog W = .ok (.bool false) W:=by
 rw [I7];simp only [Sem.run_bind,adO,Result.andThen];simp [ReflectliteValue.isNil,loadVar,isAgg,underlying,Tryz.underlying161,ha,Result.andThen]
theorem IY (h:Value) (w:World):(Go.method 512 289 (.agg #[h]) "Elem").run Tryz.prog w = .ok (317,.agg #[h]) w:=by kernel_rfl
theorem IZ (h:Value) (w:World):(Go.method 512 289 (.agg #[h]) "Implements").run Tryz.prog w = .ok (318,.agg #[h]) w:=by kernel_rfl
theorem IX (h:Value) (w:World):(Go.method 512 289 (.agg #[h]) "AssignableTo").run Tryz.prog w = .ok (315,.agg #[h]) w:=by kernel_rfl
theorem IM (w:World):(ReflectliteType.method ReflectliteType.elem #[.agg #[.pointer (some ⟨12,161,none⟩)]]).run Tryz.prog w = .ok (.iface 289 (.agg #[.pointer (some ⟨12,40,none⟩)])) w:=by kernel_rfl
theorem IQ (w:World):(ReflectliteType.relation "Implements" ReflectliteType.implements_ #[.agg #[.pointer (some ⟨12,40,none⟩)],.iface 289 (.agg #[.pointer (some ⟨12,36,none⟩)])]).run Tryz.prog w = .ok (.bool true) w:=by kernel_rfl
theorem I3 (v:Value) (w:World):(ReflectliteType.typeOf #[.iface 40 v]).run Tryz.prog w = .ok (.iface 289 (.agg #[.pointer (some ⟨12,40,none⟩)])) w:=by kernel_rfl
theorem Vb (v:Value) (w:World):(ReflectliteType.typeOf #[.iface 213 v]).run Tryz.prog w = .ok (.iface 289 (.agg #[.pointer (some ⟨12,213,none⟩)])) w:=by kernel_rfl
theorem IL (w:World):(ReflectliteType.relation "AssignableTo" ReflectliteType.assignableTo #[.agg #[.pointer (some ⟨12,40,none⟩)],.iface 289 (.agg #[.pointer (some ⟨12,40,none⟩)])]).run Tryz.prog w = .ok (.bool true) w:=by kernel_rfl
theorem U3 (w:World):(ReflectliteType.relation "AssignableTo" ReflectliteType.assignableTo #[.agg #[.pointer (some ⟨12,213,none⟩)],.iface 289 (.agg #[.pointer (some ⟨12,40,none⟩)])]).run Tryz.prog w = .ok (.bool false) w:=by kernel_rfl
theorem I5 (n:Int) (w:World):(ReflectliteValue.unpack (.iface 40 (.int .i64 n))).run Tryz.prog w
  = .ok (.agg #[.pointer (some ⟨12,40,none⟩),.pointer (some ⟨w.heap.size,0,none⟩),.int .u64 130]) (w.alloc (.cells #[.int .i64 n] 40)):=by kernel_rfl
theorem U5 (w:World):(Rtype.elem? 161).run Tryz.prog w = .ok (some 40) w:=by kernel_rfl
theorem U7 (p:Addr) (w:World):(ReflectliteValue.mk 40 p ReflectliteValue.flagAddr).run Tryz.prog w = .ok (.agg #[.pointer (some ⟨12,40,none⟩),.pointer (some p),.int .u64 386]) w:=by kernel_rfl
theorem IP (a p:Addr) (W:World) (ha:W.cell? a=some (.pointer (some p))) :
  (ReflectliteValue.method (ReflectliteValue.valueError "reflectlite.Value.Elem" 0) ReflectliteValue.elem #[.agg #[.pointer (some ⟨12,161,none⟩),.pointer (some a),.int .u64 150]]).run Tryz.prog W
   = .ok (.agg #[.pointer (some ⟨12,40,none⟩),.pointer (some p),.int .u64 386]) W:=by
 rw [I7];simp only [Sem.run_bind,adO,Result.andThen];simp [ReflectliteValue.elem,loadVar,isAgg,underlying,Tryz.underlying161,ha,Result.andThen,U5,U7]
theorem Vd (v x:Value):ReflectliteValue.set #[v,x]=(do
  let (some (dst,a,fl),some (src,b,_)):=(<- ReflectliteValue.parts v,<- ReflectliteValue.parts x)
   | unsupported (.noEntry "extern/(internal/reflectlite.Value).Set.zeroValue")
  if fl / ReflectliteValue.flagAddr % 2 == 0 then unsupported (.noEntry "extern/(internal/reflectlite.Value).Set.unaddressable")
  let val <- loadVar src b
  if <- Rtype.directlyAssignable dst src then storeVar dst a val
  else if <- Rtype.implements dst src then
   if (<- Rtype.kind src) == 20 then
    match val with
    | .nilIface=>unsupported (.noEntry "extern/reflectlite: a nil value of one interface type handed on as a value of another")
    | _=>storeVar dst a val
   else storeVar dst a (.iface src val)
  else panicString ("reflectlite.Set: value of type " ++ (<- Rtype.spelt src) ++ " is not assignable to type " ++ (<- Rtype.spelt dst))
  pure (.tuple #[])):=rfl
theorem Va (a:Addr) (w:World):(ReflectliteValue.parts (.agg #[.pointer (some ⟨12,40,none⟩),.pointer (some a),.int .u64 386])).run Tryz.prog w = .ok (some (40,a,386)) w:=by kernel_rfl
theorem U9 (a:Addr) (w:World):(ReflectliteValue.parts (.agg #[.pointer (some ⟨12,40,none⟩),.pointer (some a),.int .u64 130])).run Tryz.prog w = .ok (some (40,a,130)) w:=by kernel_rfl
theorem U4 (w:World):(Rtype.directlyAssignable 40 40).run Tryz.prog w = .ok true w:=by kernel_rfl
theorem adP (ta b:Addr) (n:Int) (im:Value) (W:World) (hb:W.cell? b=some (.int .i64 n)) (ht:W.cell? ta=some im) (hf:W.frozen? ta=false) :
  (ReflectliteValue.set #[.agg #[.pointer (some ⟨12,40,none⟩),.pointer (some ta),.int .u64 386],.agg #[.pointer (some ⟨12,40,none⟩),.pointer (some b),.int .u64 130]]).run Tryz.prog W
   = .ok (.tuple #[]) (W.setCell ta (.int .i64 n)):=by
 rw [Vd];simp only [Sem.run_bind,Va,U9,Result.andThen];simp [ReflectliteValue.flagAddr,loadVar,isAgg,underlying,Tryz.underlying40,hb,Result.andThen,U4,storeVar,Value.cells,storeCells,Addr.add];rw [run_store Tryz.prog W ta _ _ (by rfl)];simp [ht,hf]
def qZ (t:Addr) (n:Int) (w:World):World:=((((w.alloc (.cells #[.pointer (some t)] 161)).alloc (.cells #[.pointer (some ⟨12,161,none⟩),.pointer (some ⟨w.heap.size,0,none⟩),.int .u64 150] 234)).alloc (.cells #[.pointer (some ⟨12,161,none⟩),.pointer (some ⟨w.heap.size,0,none⟩),.int .u64 150] 234)).alloc (.cells #[.int .i64 n] 40)).setCell t (.int .i64 n)
set_option maxHeartbeats 4000000 in
theorem Lc (n:Int) (t:Addr) (im:Value) (w:World) (hg:w.cell? ⟨3,0,none⟩=some (.iface 289 (.agg #[.pointer (some ⟨12,36,none⟩)]))) (nI:w.cell? t=some im) (tp:w.frozen? t=false) :
  Calls Tryz.prog 87 #[.iface 40 (.int .i64 n),.iface 161 (.pointer (some t))] w fun ev w'=>ev = .returned (.bool true)/\w'=qZ t n w:=by
 have h6:=@run_callFunc_extern Tryz.prog 139 _ (fun args=>ReflectliteValue.unpack (args.getD 0 (.tuple #[]))) Tryz.func139 (by kernel_rfl) (by kernel_rfl) (by kernel_rfl) (by kernel_rfl);have h7:=@run_callFunc_extern Tryz.prog 140 _ (ReflectliteValue.methodAny (ReflectliteValue.valueError "reflectlite.Value.Type" 0) (fun t _ _ _=>ReflectliteType.toType t)) Tryz.func140 (by kernel_rfl) (by kernel_rfl) (by kernel_rfl) (by kernel_rfl);have h8:=@run_callFunc_extern Tryz.prog 141 _ (ReflectliteValue.method (ReflectliteValue.valueError "reflectlite.Value.IsNil" 0) ReflectliteValue.isNil) Tryz.func141 (by kernel_rfl) (by kernel_rfl) (by kernel_rfl) (by kernel_rfl);have Nq:=@run_callFunc_extern Tryz.prog 296 _ (ReflectliteType.abiMethod fun t=>do pure (.int .u8 (<- Rtype.kind t))) Tryz.func296 (by kernel_rfl) (by kernel_rfl) (by kernel_rfl) (by kernel_rfl);have Nt:=@run_callFunc_extern Tryz.prog 317 _ (ReflectliteType.method ReflectliteType.elem) Tryz.func317 (by kernel_rfl) (by kernel_rfl) (by kernel_rfl) (by kernel_rfl);have Nu:=@run_callFunc_extern Tryz.prog 318 _ (ReflectliteType.relation "Implements" ReflectliteType.implements_) Tryz.func318 (by kernel_rfl) (by kernel_rfl) (by kernel_rfl) (by kernel_rfl);have pO:=@run_callFunc_extern Tryz.prog 185 _ ReflectliteType.typeOf Tryz.func185 (by kernel_rfl) (by kernel_rfl) (by kernel_rfl) (by kernel_rfl);have Ns:=@run_callFunc_extern Tryz.prog 315 _ (ReflectliteType.relation "AssignableTo" ReflectliteType.assignableTo) Tryz.func315 (by kernel_rfl) (by kernel_rfl) (by kernel_rfl) (by kernel_rfl);have Nn:=@run_callFunc_extern Tryz.prog 186 _ (ReflectliteValue.method (ReflectliteValue.valueError "reflectlite.Value.Elem" 0) ReflectliteValue.elem) Tryz.func186 (by kernel_rfl) (by kernel_rfl) (by kernel_rfl) (by kernel_rfl);have zS:=@run_callFunc_extern Tryz.prog 187 _ ReflectliteValue.set Tryz.func187 (by kernel_rfl) (by kernel_rfl) (by kernel_rfl) (by kernel_rfl);have mA:=IX;have aE:=IL;have vE:=I5;have tE:=I3;have f6:=I6;have f7:=I4;have mK:=I0;have mE:=IY;have mI:=IZ;have kP:=IW;have kE:=IV;have eP:=IM;have iE:=IQ;have n8:=IU ⟨w.heap.size,0,none⟩ t ((w.alloc (.cells #[.pointer (some t)] 161)).alloc (.cells #[.pointer (some ⟨12,161,none⟩),.pointer (some ⟨w.heap.size,0,none⟩),.int .u64 150] 234)) (by simp)
 have YK:3 < w.heap.size:=by
  rcases Nat.lt_or_ge 3 w.heap.size with h | h
  .exact h
  .simp [World.cell?,Array.getElem?_eq_none h] at hg
 have wM:((w.alloc (.cells #[.pointer (some t)] 161)).alloc (.cells #[.pointer (some ⟨12,161,none⟩),.pointer (some ⟨w.heap.size,0,none⟩),.int .u64 150] 234)).cell? ⟨3,0,none⟩=some (.iface 289 (.agg #[.pointer (some ⟨12,36,none⟩)])):=by
  rw [World.cell?_alloc_lt _ _ ⟨3,0,none⟩ (by first | (simp;done) | (simp;omega)),World.cell?_alloc_lt _ _ ⟨3,0,none⟩ YK];exact hg
 have e7:t.block < w.heap.size:=by
  rcases Nat.lt_or_ge t.block w.heap.size with h | h
  .exact h
  .simp [World.cell?,Array.getElem?_eq_none h] at nI
 have el:=IP ⟨w.heap.size,0,none⟩ t (((w.alloc (.cells #[.pointer (some t)] 161)).alloc (.cells #[.pointer (some ⟨12,161,none⟩),.pointer (some ⟨w.heap.size,0,none⟩),.int .u64 150] 234)).alloc (.cells #[.pointer (some ⟨12,161,none⟩),.pointer (some ⟨w.heap.size,0,none⟩),.int .u64 150] 234)) (by rw [World.cell?_alloc_lt _ _ ⟨w.heap.size,0,none⟩ (by simp;omega)];simp)
 have st:=adP t ⟨w.heap.size+1+1+1,0,none⟩ n im ((((w.alloc (.cells #[.pointer (some t)] 161)).alloc (.cells #[.pointer (some ⟨12,161,none⟩),.pointer (some ⟨w.heap.size,0,none⟩),.int .u64 150] 234)).alloc (.cells #[.pointer (some ⟨12,161,none⟩),.pointer (some ⟨w.heap.size,0,none⟩),.int .u64 150] 234)).alloc (.cells #[.int .i64 n] 40))
  (by rw [World.cell?_alloc_at _ _ _ _ (by simp)];rfl)
  (by rw [World.cell?_alloc_lt _ _ t (by simp;omega),World.cell?_alloc_lt _ _ t (by simp;omega),World.cell?_alloc_lt _ _ t (by simp;omega),World.cell?_alloc_lt _ _ t e7];exact nI)
  (by rw [World.frozen?_alloc_old _ _ t (by simp;omega),World.frozen?_alloc_old _ _ t (by simp;omega),World.frozen?_alloc_old _ _ t (by simp;omega),World.frozen?_alloc_old _ _ t (Nat.ne_of_lt e7)];exact tp)
 go_enter Tryz.func87,Tryz.ntmps87
 go_wp2
 refine wp_loop_rounds 1 ?_;rw [rounds_succ]
 go_wp2
 go_ret
 exact ⟨rfl,rfl⟩
theorem WI (a:Addr) (n:Int) (w:World) (ha:w.cell? a=some (.int .i64 n)):Calls Tryz.prog 310 #[.pointer (some a)] w fun e w'=>e = .returned (.iface 40 (.int .i64 n))/\w'=w:=by
 go_enter Tryz.func310,Tryz.ntmps310
 go_wp2
 go_ret
 exact ⟨rfl,rfl⟩
theorem U6 (h:Value) (w:World):(Go.method 512 213 h "Unwrap").run Tryz.prog w = .ok (310,h) w:=by kernel_rfl
theorem U8 (v:Value) (xT:TypeId) (w:World):(Instr.typeAssert (.iface 213 v) xT 294 true).run Tryz.prog w = .ok (.tuple #[.nilIface,.bool false]) w:=run_typeAssert_lacksB Tryz.underlying294 (by kernel_rfl) (by kernel_rfl) v xT w
theorem Vc (v:Value) (xT:TypeId) (w:World):(Instr.typeAssert (.iface 213 v) xT 285 true).run Tryz.prog w = .ok (.tuple #[.iface 213 v,.bool true]) w:=run_typeAssert_hasB Tryz.underlying285 (by kernel_rfl) v xT w
set_option maxHeartbeats 8000000 in
theorem Lb (n:Int) (a t:Addr) (im:Value) (w:World) (hg:w.cell? ⟨3,0,none⟩=some (.iface 289 (.agg #[.pointer (some ⟨12,36,none⟩)]))) (ha:w.cell? a=some (.int .i64 n)) (nI:w.cell? t=some im) (tp:w.frozen? t=false) :
  Calls Tryz.prog 87 #[.iface 213 (.pointer (some a)),.iface 161 (.pointer (some t))] w fun ev w'=>ev = .returned (.bool true)/\w'=qZ t n w:=by
 have h6:=@run_callFunc_extern Tryz.prog 139 _ (fun args=>ReflectliteValue.unpack (args.getD 0 (.tuple #[]))) Tryz.func139 (by kernel_rfl) (by kernel_rfl) (by kernel_rfl) (by kernel_rfl);have h7:=@run_callFunc_extern Tryz.prog 140 _ (ReflectliteValue.methodAny (ReflectliteValue.valueError "reflectlite.Value.Type" 0) (fun t _ _ _=>ReflectliteType.toType t)) Tryz.func140 (by kernel_rfl) (by kernel_rfl) (by kernel_rfl) (by kernel_rfl);have h8:=@run_callFunc_extern Tryz.prog 141 _ (ReflectliteValue.method (ReflectliteValue.valueError "reflectlite.Value.IsNil" 0) ReflectliteValue.isNil) Tryz.func141 (by kernel_rfl) (by kernel_rfl) (by kernel_rfl) (by kernel_rfl);have Nq:=@run_callFunc_extern Tryz.prog 296 _ (ReflectliteType.abiMethod fun t=>do pure (.int .u8 (<- Rtype.kind t))) Tryz.func296 (by kernel_rfl) (by kernel_rfl) (by kernel_rfl) (by kernel_rfl);have Nt:=@run_callFunc_extern Tryz.prog 317 _ (ReflectliteType.method ReflectliteType.elem) Tryz.func317 (by kernel_rfl) (by kernel_rfl) (by kernel_rfl) (by kernel_rfl);have Nu:=@run_callFunc_extern Tryz.prog 318 _ (ReflectliteType.relation "Implements" ReflectliteType.implements_) Tryz.func318 (by kernel_rfl) (by kernel_rfl) (by kernel_rfl) (by kernel_rfl);have pO:=@run_callFunc_extern Tryz.prog 185 _ ReflectliteType.typeOf Tryz.func185 (by kernel_rfl) (by kernel_rfl) (by kernel_rfl) (by kernel_rfl);have Ns:=@run_callFunc_extern Tryz.prog 315 _ (ReflectliteType.relation "AssignableTo" ReflectliteType.assignableTo) Tryz.func315 (by kernel_rfl) (by kernel_rfl) (by kernel_rfl) (by kernel_rfl);have Nn:=@run_callFunc_extern Tryz.prog 186 _ (ReflectliteValue.method (ReflectliteValue.valueError "reflectlite.Value.Elem" 0) ReflectliteValue.elem) Tryz.func186 (by kernel_rfl) (by kernel_rfl) (by kernel_rfl) (by kernel_rfl);have zS:=@run_callFunc_extern Tryz.prog 187 _ ReflectliteValue.set Tryz.func187 (by kernel_rfl) (by kernel_rfl) (by kernel_rfl) (by kernel_rfl);have mA:=IX;have aE:=IL;have vE:=I5;have tE:=I3;have f6:=I6;have f7:=I4;have mK:=I0;have mE:=IY;have mI:=IZ;have kP:=IW;have kE:=IV;have eP:=IM;have iE:=IQ;have n8:=IU ⟨w.heap.size,0,none⟩ t ((w.alloc (.cells #[.pointer (some t)] 161)).alloc (.cells #[.pointer (some ⟨12,161,none⟩),.pointer (some ⟨w.heap.size,0,none⟩),.int .u64 150] 234)) (by simp)
 have YK:3 < w.heap.size:=by
  rcases Nat.lt_or_ge 3 w.heap.size with h | h
  .exact h
  .simp [World.cell?,Array.getElem?_eq_none h] at hg
 have wM:((w.alloc (.cells #[.pointer (some t)] 161)).alloc (.cells #[.pointer (some ⟨12,161,none⟩),.pointer (some ⟨w.heap.size,0,none⟩),.int .u64 150] 234)).cell? ⟨3,0,none⟩=some (.iface 289 (.agg #[.pointer (some ⟨12,36,none⟩)])):=by
  rw [World.cell?_alloc_lt _ _ ⟨3,0,none⟩ (by first | (simp;done) | (simp;omega)),World.cell?_alloc_lt _ _ ⟨3,0,none⟩ YK];exact hg
 have e7:t.block < w.heap.size:=by
  rcases Nat.lt_or_ge t.block w.heap.size with h | h
  .exact h
  .simp [World.cell?,Array.getElem?_eq_none h] at nI
 have el:=IP ⟨w.heap.size,0,none⟩ t (((w.alloc (.cells #[.pointer (some t)] 161)).alloc (.cells #[.pointer (some ⟨12,161,none⟩),.pointer (some ⟨w.heap.size,0,none⟩),.int .u64 150] 234)).alloc (.cells #[.pointer (some ⟨12,161,none⟩),.pointer (some ⟨w.heap.size,0,none⟩),.int .u64 150] 234)) (by rw [World.cell?_alloc_lt _ _ ⟨w.heap.size,0,none⟩ (by simp;omega)];simp)
 have st:=adP t ⟨w.heap.size+1+1+1,0,none⟩ n im ((((w.alloc (.cells #[.pointer (some t)] 161)).alloc (.cells #[.pointer (some ⟨12,161,none⟩),.pointer (some ⟨w.heap.size,0,none⟩),.int .u64 150] 234)).alloc (.cells #[.pointer (some ⟨12,161,none⟩),.pointer (some ⟨w.heap.size,0,none⟩),.int .u64 150] 234)).alloc (.cells #[.int .i64 n] 40))
  (by rw [World.cell?_alloc_at _ _ _ _ (by simp)];rfl)
  (by rw [World.cell?_alloc_lt _ _ t (by simp;omega),World.cell?_alloc_lt _ _ t (by simp;omega),World.cell?_alloc_lt _ _ t (by simp;omega),World.cell?_alloc_lt _ _ t e7];exact nI)
  (by rw [World.frozen?_alloc_old _ _ t (by simp;omega),World.frozen?_alloc_old _ _ t (by simp;omega),World.frozen?_alloc_old _ _ t (by simp;omega),World.frozen?_alloc_old _ _ t (Nat.ne_of_lt e7)];exact tp)
 have tA:=Vb;have aA:=U3;have nA:=U8;have uA:=Vc;have mU:=U6
 have hal:a.block < w.heap.size:=by
  rcases Nat.lt_or_ge a.block w.heap.size with h | h
  .exact h
  .simp [World.cell?,Array.getElem?_eq_none h] at ha
 have Ol:(((w.alloc (.cells #[.pointer (some t)] 161)).alloc (.cells #[.pointer (some ⟨12,161,none⟩),.pointer (some ⟨w.heap.size,0,none⟩),.int .u64 150] 234)).alloc (.cells #[.pointer (some ⟨12,161,none⟩),.pointer (some ⟨w.heap.size,0,none⟩),.int .u64 150] 234)).cell? a=some (.int .i64 n):=by
  rw [World.cell?_alloc_lt _ _ a (by simp;omega),World.cell?_alloc_lt _ _ a (by simp;omega),World.cell?_alloc_lt _ _ a hal];exact ha
 go_enter Tryz.func87,Tryz.ntmps87
 go_wp2
 refine wp_loop_rounds 2 ?_;rw [rounds_succ]
 go_wp2_with (go_at_call 310;refine (WI a n _ Ol).mono ?_;rintro e w' ⟨rfl,rfl⟩)
 rw [rounds_succ]
 go_wp2
 go_ret
 exact ⟨rfl,rfl⟩
end Go.Proofs.YtdigkhaofjmgkaaGreatDoor
namespace Go.Proofs.YtdigkhaofjmgkaaGreatDoor
open Go.Av
def YH (n:Int):D:=.v (.int .i64 n)
def TY (st:List (List Int)×List Int) (l:List Int):List (List Int)×List Int:=
 if idx (fun x=>x == l) st.1 < 0 then (st.1 ++ [l],st.2 ++ [(st.1.length:Int)]) else (st.1,st.2 ++ [idx (fun x=>x == l) st.1])
def TX (L:List (List Int)) (n:Nat):List (List Int)×List Int:=(L.take n).foldl TY ([],[])
structure sr where
 next:List (List Int)
 Wt:List (List Int)
def aR:Option (Int×Option Nat)->D
 | none=>.v .nilIface
 | some (c,none)=>.bh 40 (.v (.int .i64 c))
 | some (c,some s)=>.bh 213 (.ip [.v (.int .i64 c),.v (.int .i64 s)])
open Go.Extern Go.Extern.Stop Go.RowKit Go.Stop
def lB:Value:=.iface 289 (.agg #[.pointer (some ⟨12,36,none⟩)])
theorem DT (n:Int) (w:World):bT w (qZ ⟨w.heap.size,0,none⟩ n (w.alloc (.cells #[.int .i64 0] 40))):=by
 unfold qZ;refine ⟨by simp<;>omega,rfl,rfl,rfl,fun b hb=>?_⟩;rw [Below.heap_setCell _ _ _ _ (by simp;omega)];(repeat rw [Below.heap_alloc _ _ _ (by simp;omega)]);exact Below.heap_alloc _ _ _ hb
theorem DS (n:Int) (w:World):(qZ ⟨w.heap.size,0,none⟩ n (w.alloc (.cells #[.int .i64 0] 40))).cell? ⟨w.heap.size,0,none⟩=some (.int .i64 n):=by
 unfold qZ
 have hm:((((w.alloc (.cells #[.int .i64 0] 40)).alloc (.cells #[.pointer (some ⟨w.heap.size,0,none⟩)] 161)).alloc (.cells #[.pointer (some ⟨12,161,none⟩),.pointer (some ⟨(w.alloc (.cells #[.int .i64 0] 40)).heap.size,0,none⟩),.int .u64 150] 234)).alloc (.cells #[.pointer (some ⟨12,161,none⟩),.pointer (some ⟨(w.alloc (.cells #[.int .i64 0] 40)).heap.size,0,none⟩),.int .u64 150] 234) |>.alloc (.cells #[.int .i64 n] 40)).cell? ⟨w.heap.size,0,none⟩=some (.int .i64 0):=by
  rw [World.cell?_alloc_lt _ _ _ (by simp;omega),World.cell?_alloc_lt _ _ _ (by simp;omega),World.cell?_alloc_lt _ _ _ (by simp;omega),World.cell?_alloc_lt _ _ _ (by simp)];simp
 exact World.cell?_setCell_same _ _ _ hm
theorem Ws (w:World):Calls Tryz.prog 37 #[.nilIface] w fun e w'=>e = .returned (.int .i64 0)/\w'=w:=by
 go_enter Tryz.func37,Tryz.ntmps37
 go_wp2
 go_ret
 exact ⟨rfl,rfl⟩
set_option maxHeartbeats 1000000 in
theorem Wr (n:Int) (w:World) (hg:w.cell? ⟨3,0,none⟩=some lB):Calls Tryz.prog 37 #[.iface 40 (.int .i64 n)] w fun e w'=>e = .returned (.int .i64 n)/\bT w w':=by
 have YK:3 < w.heap.size:=by
  rcases Nat.lt_or_ge 3 w.heap.size with h | h
  .exact h
  .simp [World.cell?,Array.getElem?_eq_none h] at hg
 have AJ:(w.alloc (.cells #[.int .i64 0] 40)).cell? ⟨3,0,none⟩=some lB:=by rw [World.cell?_alloc_lt _ _ ⟨3,0,none⟩ YK];exact hg
 have Bt:(w.alloc (.cells #[.int .i64 0] 40)).cell? ⟨w.heap.size,0,none⟩=some (.int .i64 0):=by simp
 have AG:(w.alloc (.cells #[.int .i64 0] 40)).frozen? ⟨w.heap.size,0,none⟩=false:=by simp
 have hc:=DS n w;have gX:=DT n w
 go_enter Tryz.func37,Tryz.ntmps37
 go_wp2_with (go_at_call 87;refine (Lc n _ (.int .i64 0) _ AJ Bt AG).mono ?_;rintro e w' ⟨rfl,rfl⟩)
 go_ret
 exact ⟨rfl,gX⟩
set_option maxHeartbeats 1000000 in
theorem Wq (n:Int) (a:Addr) (w:World) (hg:w.cell? ⟨3,0,none⟩=some lB) (ha:w.cell? a=some (.int .i64 n)):Calls Tryz.prog 37 #[.iface 213 (.pointer (some a))] w fun e w'=>e = .returned (.int .i64 n)/\bT w w':=by
 have YK:3 < w.heap.size:=by
  rcases Nat.lt_or_ge 3 w.heap.size with h | h
  .exact h
  .simp [World.cell?,Array.getElem?_eq_none h] at hg
 have hal:a.block < w.heap.size:=vG ha
 have AJ:(w.alloc (.cells #[.int .i64 0] 40)).cell? ⟨3,0,none⟩=some lB:=by rw [World.cell?_alloc_lt _ _ ⟨3,0,none⟩ YK];exact hg
 have Om:(w.alloc (.cells #[.int .i64 0] 40)).cell? a=some (.int .i64 n):=by rw [World.cell?_alloc_lt _ _ a hal];exact ha
 have Bt:(w.alloc (.cells #[.int .i64 0] 40)).cell? ⟨w.heap.size,0,none⟩=some (.int .i64 0):=by simp
 have AG:(w.alloc (.cells #[.int .i64 0] 40)).frozen? ⟨w.heap.size,0,none⟩=false:=by simp
 have hc:=DS n w;have gX:=DT n w
 go_enter Tryz.func37,Tryz.ntmps37
 go_wp2_with (go_at_call 87;refine (Lb n a _ (.int .i64 0) _ AJ Om Bt AG).mono ?_;rintro e w' ⟨rfl,rfl⟩)
 go_ret
 exact ⟨rfl,gX⟩
def codeF:Option (Int×Option Nat)->Int
 | none=>0
 | some (c,_)=>c
def mO (G:YJ):Prop:=G 3=some (.ip [.v lB])
theorem mO.cell {G:YJ} (h:mO G) {w:World} {X:Nat->Prop} (hg:∀ g x,G g=some x->RD w X (.pointer (some ⟨g,0,none⟩)) x):w.cell? ⟨3,0,none⟩=some lB:=by
 have:=hg _ _ h;obtain ⟨b,off,f,hb,_,_,hc,hr⟩:=this.abk;simp only [Value.pointer.injEq,Option.some.injEq,Addr.mk.injEq,and_true] at hb;obtain ⟨rfl,rfl⟩:=hb;have h1:=hc 0 (by simp);have h2:=(hr 0 _ rfl).scalar;rw [h2] at h1;exact h1
theorem JN (G:YJ) (hG:mO G) (e:Option (Int×Option Nat)):aq Tryz.prog G 37 [aR e] (.v (.int .i64 (codeF e))):=by
 refine aq.rU (fo.of Tryz.func37 rfl rfl) fun X w vs aK bq Y8=>?_;have hg:=hG.cell Y8;obtain ⟨v,rfl⟩:∃ v,vs = #[v]:=Array.size_eq_one_iff.1 aK;have hv:=bq 0 v _ rfl rfl
 match e,hv with
 | none,hv=>
  have:=hv.scalar;subst this;exact (Ws w).mono fun e w' ⟨he,hw⟩=>⟨_,he,by rw [hw];exact bT.refl w,.v _⟩
 | some (c,none),hv=>
  obtain ⟨u,rfl,hu⟩:=hv.oY;have:=hu.scalar;subst this;exact (Wr c w hg).mono fun e w' ⟨he,hw⟩=>⟨_,he,hw,.v _⟩
 | some (c,some s),hv=>
  obtain ⟨u,rfl,hu⟩:=hv.oY;obtain ⟨b,off,f,rfl,_,_,hc,hr⟩:=hu.abk;have h1:=hc 0 (by simp);have h2:=(hr 0 _ rfl).scalar;rw [h2] at h1;exact (Wq c ⟨b,off,none⟩ w hg h1).mono fun e w' ⟨he,hw⟩=>⟨_,he,hw,.v _⟩
end Go.Proofs.YtdigkhaofjmgkaaGreatDoor
namespace Go.Proofs.YtdigkhaofjmgkaaGreatDoor
open Go.Av
inductive Fm where
 | nil
 | mk (kind:Int) (name:List UInt8) (of:List Fm)
def TZ {α:Type} (l:List α):Option Bool:=match l with
 | []=>some false
 | _=>none
mutual
def dF:Fm->D
 | .nil=>.v (.pointer none)
 | .mk k s l=>.ip [YH k,dS s,.sl (TZ l) (Ei l)]
def Ei:List Fm->List (List D)
 | []=>[]
 | f :: l=>[dF f] :: Ei l
end
def sr.n (t:sr):Nat:=t.next.length
end Go.Proofs.YtdigkhaofjmgkaaGreatDoor
namespace Go.Proofs.YtdigkhaofjmgkaaGreatDoor
theorem BJ {α:Type} {p:α->Bool} {l:List α} (h:idx p l < 0):∀ x∈l,p x=false:=by
 unfold idx at h;split at h
 .omega
 .rename_i hn;rw [List.findIdx?_eq_none_iff] at hn;intro x hx;simpa using hn x hx
theorem oX {α:Type} {p:α->Bool} {l:List α} (h:¬ idx p l < 0):∃ k,∃ hk:k < l.length,idx p l=(k:Int)/\p l[k]=true:=by
 unfold idx at h ⊢;split
 .rename_i i hi;rw [List.findIdx?_eq_some_iff_getElem] at hi;obtain ⟨h1,h2,_⟩:=hi;exact ⟨i,h1,rfl,h2⟩
 .rename_i hn;simp [hn] at h
def dn (L:List (List Int)) (n:Nat):Nat:=(TX L n).1.length
def nx (t:sr) (s c:Nat):Nat:=((t.next.getD s []).getD c 0).toNat
def te (t:sr) (s c:Nat):Int:=(t.Wt.getD s []).getD c 0
def wd (t:sr):Nat:=(t.next.getD 0 []).length
open Go.Av
def pre (l row:List Int) (i:Nat):List Int:=(row.take i).map fun x=>l.getD x.toNat 0
theorem wrap_u64 (n:Int):IntKind.u64.wrap n=n % 18446744073709551616:=by
 simp [IntKind.wrap,IntKind.signed,IntKind.bits]
def tr:Fm:=.mk 2 [] []
def atF (n:Int) (many:Nat):Nat:=((n % 18446744073709551616) % many).toNat
structure KE where
 kind:Int
 a:Int
 b:Int
 name:List UInt8
def adu (all:List Fm) (x:KE):Fm:=
 if x.kind=2 then .mk 2 [] []
 else if x.kind=3\/x.kind=6\/x.kind=9\/x.kind=10 then .mk x.kind [] [all.getD (atF x.a all.length) .nil]
 else if x.kind=4\/x.kind=5\/x.kind=7\/x.kind=8 then .mk x.kind [] [all.getD (atF x.a all.length) .nil,all.getD (atF x.b all.length) .nil]
 else .mk 1 x.name []
def DB (f:Fm):Prop:=∃ k s l,f = .mk k s l
theorem DB.ip {f:Fm} (h:DB f):∃ c,dF f = .ip c:=by
 obtain ⟨k,s,l,rfl⟩:=h;exact ⟨_,rfl⟩
abbrev KF:=List (List (List UInt8))
end Go.Proofs.YtdigkhaofjmgkaaGreatDoor
namespace Go.Proofs.YtdigkhaofjmgkaaGreatDoor
section
variable (f g:Fm)
def o5:Fm:=.mk 3 [] [f]
end
section
variable (a r:KF) (hr:0 < r.length) (f g:Fm)
include hr
end
end Go.Proofs.YtdigkhaofjmgkaaGreatDoor
