/- Parts. -/
import Derived.Test.YtdigkhaofjmgkaaGreatDoorMs11
import Derived.Test.YtdigkhaofjmgkaaGreatDoorMs14
import Derived.LaidEql
import Derived.Stop.Asserts
import Derived.RowKitTokens
set_option linter.unusedSimpArgs false
set_option linter.unusedVariables false
set_option maxHeartbeats 8000000
open Go.Proofs.Tryz
namespace Go.Proofs.YtdigkhaofjmgkaaGreatDoor
open Go.RowKit Go.Extern.Stop Go.Stop Go.Extern
theorem Ks (t:Addr) (w:World):(ReflectliteValue.unpack (.iface 161 (.pointer (some t)))).run prog w
  = .ok (.agg #[.pointer (some ⟨12,161,none⟩),.pointer (some ⟨w.heap.size,0,none⟩),.int .u64 150]) (w.alloc (.cells #[.pointer (some t)] 161)):=by kernel_rfl
theorem Kq (a:Addr) (w:World):(ReflectliteValue.methodAny (ReflectliteValue.valueError "reflectlite.Value.Type" 0) (fun t _ _ _=>ReflectliteType.toType t) #[.agg #[.pointer (some ⟨12,161,none⟩),.pointer (some a),.int .u64 150]]).run prog w
  = .ok (.iface 289 (.agg #[.pointer (some ⟨12,161,none⟩)])) w:=by kernel_rfl
theorem Km (h:Value) (w:World):(Go.method 512 289 (.agg #[h]) "Kind").run prog w = .ok (296,h) w:=by kernel_rfl
theorem Ki (w:World):((ReflectliteType.abiMethod fun t=>(fun a:Nat=>Value.int IntKind.u8 (a:Int)) <$> Rtype.kind t) #[.pointer (some ⟨12,161,none⟩)]).run prog w = .ok (.int .u8 22) w:=by kernel_rfl
theorem Kh (w:World):((ReflectliteType.abiMethod fun t=>(fun a:Nat=>Value.int IntKind.u8 (a:Int)) <$> Rtype.kind t) #[.pointer (some ⟨12,40,none⟩)]).run prog w = .ok (.int .u8 2) w:=by kernel_rfl
theorem Kt (z:Sem Value) (f:TypeId->Addr->Nat->Nat->Sem Value) (v:Value) :
  ReflectliteValue.method z f #[v]=(do match <- ReflectliteValue.parts v with | none=>z | some (t,a,fl)=>f t a fl (fl % 32)):=rfl
theorem Kn (a:Addr) (w:World):(ReflectliteValue.parts (.agg #[.pointer (some ⟨12,161,none⟩),.pointer (some a),.int .u64 150])).run prog w = .ok (some (161,a,150)) w:=by kernel_rfl
theorem Kg (a p:Addr) (W:World) (ha:W.cell? a=some (.pointer (some p))) :
  (ReflectliteValue.method (ReflectliteValue.valueError "reflectlite.Value.IsNil" 0) ReflectliteValue.isNil #[.agg #[.pointer (some ⟨12,161,none⟩),.pointer (some a),.int .u64 150]]).run prog W = .ok (.bool false) W:=by
 rw[Kt];simp only[Sem.run_bind,Kn,Result.andThen];simp[ReflectliteValue.isNil,loadVar,isAgg,underlying,underlying161,ha,Result.andThen]
theorem Kk (h:Value) (w:World):(Go.method 512 289 (.agg #[h]) "Elem").run prog w = .ok (317,.agg #[h]) w:=by kernel_rfl
theorem Kl (h:Value) (w:World):(Go.method 512 289 (.agg #[h]) "Implements").run prog w = .ok (318,.agg #[h]) w:=by kernel_rfl
theorem Kj (h:Value) (w:World):(Go.method 512 289 (.agg #[h]) "AssignableTo").run prog w = .ok (315,.agg #[h]) w:=by kernel_rfl
theorem Kd (w:World):(ReflectliteType.method ReflectliteType.elem #[.agg #[.pointer (some ⟨12,161,none⟩)]]).run prog w = .ok (.iface 289 (.agg #[.pointer (some ⟨12,40,none⟩)])) w:=by kernel_rfl
theorem Kf (w:World):(ReflectliteType.relation "Implements" ReflectliteType.implements_ #[.agg #[.pointer (some ⟨12,40,none⟩)],.iface 289 (.agg #[.pointer (some ⟨12,36,none⟩)])]).run prog w = .ok (.bool true) w:=by kernel_rfl
theorem Kp (v:Value) (w:World):(ReflectliteType.typeOf #[.iface 40 v]).run prog w = .ok (.iface 289 (.agg #[.pointer (some ⟨12,40,none⟩)])) w:=by kernel_rfl
theorem WA (v:Value) (w:World):(ReflectliteType.typeOf #[.iface 213 v]).run prog w = .ok (.iface 289 (.agg #[.pointer (some ⟨12,213,none⟩)])) w:=by kernel_rfl
theorem Kc (w:World):(ReflectliteType.relation "AssignableTo" ReflectliteType.assignableTo #[.agg #[.pointer (some ⟨12,40,none⟩)],.iface 289 (.agg #[.pointer (some ⟨12,40,none⟩)])]).run prog w = .ok (.bool true) w:=by kernel_rfl
theorem Ws (w:World):(ReflectliteType.relation "AssignableTo" ReflectliteType.assignableTo #[.agg #[.pointer (some ⟨12,213,none⟩)],.iface 289 (.agg #[.pointer (some ⟨12,40,none⟩)])]).run prog w = .ok (.bool false) w:=by kernel_rfl
theorem Kr (n:Int) (w:World):(ReflectliteValue.unpack (.iface 40 (.int .i64 n))).run prog w
  = .ok (.agg #[.pointer (some ⟨12,40,none⟩),.pointer (some ⟨w.heap.size,0,none⟩),.int .u64 130]) (w.alloc (.cells #[.int .i64 n] 40)):=by kernel_rfl
theorem Wu (w:World):(Rtype.elem? 161).run prog w = .ok (some 40) w:=by kernel_rfl
theorem Ww (p:Addr) (w:World):(ReflectliteValue.mk 40 p ReflectliteValue.flagAddr).run prog w = .ok (.agg #[.pointer (some ⟨12,40,none⟩),.pointer (some p),.int .u64 386]) w:=by kernel_rfl
theorem Ke (a p:Addr) (W:World) (ha:W.cell? a=some (.pointer (some p))) :
  (ReflectliteValue.method (ReflectliteValue.valueError "reflectlite.Value.Elem" 0) ReflectliteValue.elem #[.agg #[.pointer (some ⟨12,161,none⟩),.pointer (some a),.int .u64 150]]).run prog W
   = .ok (.agg #[.pointer (some ⟨12,40,none⟩),.pointer (some p),.int .u64 386]) W:=by
 rw[Kt];simp only[Sem.run_bind,Kn,Result.andThen];simp[ReflectliteValue.elem,loadVar,isAgg,underlying,underlying161,ha,Result.andThen,Wu,Ww]
theorem WC (v x:Value):ReflectliteValue.set #[v,x]=(do
  let (some (dst,a,fl),some (src,b,_)):=(<- ReflectliteValue.parts v,<- ReflectliteValue.parts x)
   | unsupported (.noEntry "extern/(internal/reflectlite.Value).Set.zeroValue")
  if fl / ReflectliteValue.flagAddr % 2 == 0 then unsupported (.noEntry "extern/(internal/reflectlite.Value).Set.unaddressable")
  let val <- loadVar src b
  if <- Rtype.directlyAssignable dst src then storeVar dst a val
  else if <- Rtype.implements dst src then
   if (<- Rtype.kind src) == 20 then
    match val with
    | .nilIface=>unsupported (.noEntry "extern/reflectlite: a nil value of one interface type handed on as a value of another")
    | _=>storeVar dst a val
   else storeVar dst a (.iface src val)
  else panicString ("reflectlite.Set: value of type " ++ (<- Rtype.spelt src) ++ " is not assignable to type " ++ (<- Rtype.spelt dst))
  pure (.tuple #[])):=rfl
theorem Wz (a:Addr) (w:World):(ReflectliteValue.parts (.agg #[.pointer (some ⟨12,40,none⟩),.pointer (some a),.int .u64 386])).run prog w = .ok (some (40,a,386)) w:=by kernel_rfl
theorem Wy (a:Addr) (w:World):(ReflectliteValue.parts (.agg #[.pointer (some ⟨12,40,none⟩),.pointer (some a),.int .u64 130])).run prog w = .ok (some (40,a,130)) w:=by kernel_rfl
theorem Wt (w:World):(Rtype.directlyAssignable 40 40).run prog w = .ok true w:=by kernel_rfl
theorem Ko (ta b:Addr) (n:Int) (dJ:Value) (W:World) (hb:W.cell? b=some (.int .i64 n)) (ht:W.cell? ta=some dJ) (hf:W.frozen? ta=false) :
  (ReflectliteValue.set #[.agg #[.pointer (some ⟨12,40,none⟩),.pointer (some ta),.int .u64 386],.agg #[.pointer (some ⟨12,40,none⟩),.pointer (some b),.int .u64 130]]).run prog W
   = .ok (.tuple #[]) (W.setCell ta (.int .i64 n)):=by
 rw[WC];simp only[Sem.run_bind,Wz,Wy,Result.andThen];simp[ReflectliteValue.flagAddr,loadVar,isAgg,underlying,underlying40,hb,Result.andThen,Wt,storeVar,Value.cells,storeCells,Addr.add];rw[run_store prog W ta _ _ (by rfl)];simp[ht,hf]
def s9 (t:Addr) (n:Int) (w:World):World:=((((w.alloc (.cells #[.pointer (some t)] 161)).alloc (.cells #[.pointer (some ⟨12,161,none⟩),.pointer (some ⟨w.heap.size,0,none⟩),.int .u64 150] 234)).alloc (.cells #[.pointer (some ⟨12,161,none⟩),.pointer (some ⟨w.heap.size,0,none⟩),.int .u64 150] 234)).alloc (.cells #[.int .i64 n] 40)).setCell t (.int .i64 n)
theorem MD (n:Int) (t:Addr) (dJ:Value) (w:World) (hg:w.cell? ⟨3,0,none⟩=some (.iface 289 (.agg #[.pointer (some ⟨12,36,none⟩)]))) (lR:w.cell? t=some dJ) (Ct:w.frozen? t=false) :
  Calls prog 87 #[.iface 40 (.int .i64 n),.iface 161 (.pointer (some t))] w fun ev w'=>ev = .returned (.bool true)/\w'=s9 t n w:=by
 have h6:=@run_callFunc_extern prog 139 _ (fun args=>ReflectliteValue.unpack (args.getD 0 (.tuple #[]))) func139 (by kernel_rfl) (by kernel_rfl) (by kernel_rfl) (by kernel_rfl);have h7:=@run_callFunc_extern prog 140 _ (ReflectliteValue.methodAny (ReflectliteValue.valueError "reflectlite.Value.Type" 0) (fun t _ _ _=>ReflectliteType.toType t)) func140 (by kernel_rfl) (by kernel_rfl) (by kernel_rfl) (by kernel_rfl);have h8:=@run_callFunc_extern prog 141 _ (ReflectliteValue.method (ReflectliteValue.valueError "reflectlite.Value.IsNil" 0) ReflectliteValue.isNil) func141 (by kernel_rfl) (by kernel_rfl) (by kernel_rfl) (by kernel_rfl);have OW:=@run_callFunc_extern prog 296 _ (ReflectliteType.abiMethod fun t=>do pure (.int .u8 (<- Rtype.kind t))) func296 (by kernel_rfl) (by kernel_rfl) (by kernel_rfl) (by kernel_rfl);have OY:=@run_callFunc_extern prog 317 _ (ReflectliteType.method ReflectliteType.elem) func317 (by kernel_rfl) (by kernel_rfl) (by kernel_rfl) (by kernel_rfl);have OZ:=@run_callFunc_extern prog 318 _ (ReflectliteType.relation "Implements" ReflectliteType.implements_) func318 (by kernel_rfl) (by kernel_rfl) (by kernel_rfl) (by kernel_rfl);have yu:=@run_callFunc_extern prog 185 _ ReflectliteType.typeOf func185 (by kernel_rfl) (by kernel_rfl) (by kernel_rfl) (by kernel_rfl);have OX:=@run_callFunc_extern prog 315 _ (ReflectliteType.relation "AssignableTo" ReflectliteType.assignableTo) func315 (by kernel_rfl) (by kernel_rfl) (by kernel_rfl) (by kernel_rfl);have OT:=@run_callFunc_extern prog 186 _ (ReflectliteValue.method (ReflectliteValue.valueError "reflectlite.Value.Elem" 0) ReflectliteValue.elem) func186 (by kernel_rfl) (by kernel_rfl) (by kernel_rfl) (by kernel_rfl);have OU:=@run_callFunc_extern prog 187 _ ReflectliteValue.set func187 (by kernel_rfl) (by kernel_rfl) (by kernel_rfl) (by kernel_rfl);have mA:=Kj;have aE:=Kc;have vE:=Kr;have tE:=Kp;have f6:=Ks;have f7:=Kq;have mK:=Km;have mE:=Kk;have mI:=Kl;have kP:=Ki;have kE:=Kh;have eP:=Kd;have iE:=Kf;have n8:=Kg ⟨w.heap.size,0,none⟩ t ((w.alloc (.cells #[.pointer (some t)] 161)).alloc (.cells #[.pointer (some ⟨12,161,none⟩),.pointer (some ⟨w.heap.size,0,none⟩),.int .u64 150] 234)) (by simp)
 have ay:3 < w.heap.size:=by
  rcases Nat.lt_or_ge 3 w.heap.size with h | h
  .exact h
  .simp[World.cell?,Array.getElem?_eq_none h]at hg
 have Qp:((w.alloc (.cells #[.pointer (some t)] 161)).alloc (.cells #[.pointer (some ⟨12,161,none⟩),.pointer (some ⟨w.heap.size,0,none⟩),.int .u64 150] 234)).cell? ⟨3,0,none⟩=some (.iface 289 (.agg #[.pointer (some ⟨12,36,none⟩)])):=by
  rw[World.cell?_alloc_lt _ _ ⟨3,0,none⟩ (by first | (simp;done) | (simp;omega)),World.cell?_alloc_lt _ _ ⟨3,0,none⟩ ay];exact hg
 have htl:t.block < w.heap.size:=by
  rcases Nat.lt_or_ge t.block w.heap.size with h | h
  .exact h
  .simp[World.cell?,Array.getElem?_eq_none h]at lR
 have el:=Ke ⟨w.heap.size,0,none⟩ t (((w.alloc (.cells #[.pointer (some t)] 161)).alloc (.cells #[.pointer (some ⟨12,161,none⟩),.pointer (some ⟨w.heap.size,0,none⟩),.int .u64 150] 234)).alloc (.cells #[.pointer (some ⟨12,161,none⟩),.pointer (some ⟨w.heap.size,0,none⟩),.int .u64 150] 234)) (by rw[World.cell?_alloc_lt _ _ ⟨w.heap.size,0,none⟩ (by simp;omega)];simp)
 have st:=Ko t ⟨w.heap.size+1+1+1,0,none⟩ n dJ ((((w.alloc (.cells #[.pointer (some t)] 161)).alloc (.cells #[.pointer (some ⟨12,161,none⟩),.pointer (some ⟨w.heap.size,0,none⟩),.int .u64 150] 234)).alloc (.cells #[.pointer (some ⟨12,161,none⟩),.pointer (some ⟨w.heap.size,0,none⟩),.int .u64 150] 234)).alloc (.cells #[.int .i64 n] 40))
  (by rw[World.cell?_alloc_at _ _ _ _ (by simp)];rfl)
  (by rw[World.cell?_alloc_lt _ _ t (by simp;omega),World.cell?_alloc_lt _ _ t (by simp;omega),World.cell?_alloc_lt _ _ t (by simp;omega),World.cell?_alloc_lt _ _ t htl];exact lR)
  (by rw[World.frozen?_alloc_old _ _ t (by simp;omega),World.frozen?_alloc_old _ _ t (by simp;omega),World.frozen?_alloc_old _ _ t (by simp;omega),World.frozen?_alloc_old _ _ t (Nat.ne_of_lt htl)];exact Ct)
 go_enter func87,ntmps87
 go_wp2
 refine wp_loop_rounds 1 ?_;rw[rounds_succ]
 go_wp2
 go_ret
 exact⟨rfl,rfl⟩
theorem Yc (a:Addr) (n:Int) (w:World) (ha:w.cell? a=some (.int .i64 n)):Calls prog 310 #[.pointer (some a)] w fun e w'=>e = .returned (.iface 40 (.int .i64 n))/\w'=w:=by
 go_enter func310,ntmps310
 go_wp2
 go_ret
 exact⟨rfl,rfl⟩
theorem Wv (h:Value) (w:World):(Go.method 512 213 h "Unwrap").run prog w = .ok (310,h) w:=by kernel_rfl
theorem Wx (v:Value) (xT:TypeId) (w:World):(Instr.typeAssert (.iface 213 v) xT 294 true).run prog w = .ok (.tuple #[.nilIface,.bool false]) w:=run_typeAssert_lacksB underlying294 (by kernel_rfl) (by kernel_rfl) v xT w
theorem WB (v:Value) (xT:TypeId) (w:World):(Instr.typeAssert (.iface 213 v) xT 285 true).run prog w = .ok (.tuple #[.iface 213 v,.bool true]) w:=run_typeAssert_hasB underlying285 (by kernel_rfl) v xT w
theorem af6 (n:Int) (a t:Addr) (dJ:Value) (w:World) (hg:w.cell? ⟨3,0,none⟩=some (.iface 289 (.agg #[.pointer (some ⟨12,36,none⟩)]))) (ha:w.cell? a=some (.int .i64 n)) (lR:w.cell? t=some dJ) (Ct:w.frozen? t=false) :
  Calls prog 87 #[.iface 213 (.pointer (some a)),.iface 161 (.pointer (some t))] w fun ev w'=>ev = .returned (.bool true)/\w'=s9 t n w:=by
 have h6:=@run_callFunc_extern prog 139 _ (fun args=>ReflectliteValue.unpack (args.getD 0 (.tuple #[]))) func139 (by kernel_rfl) (by kernel_rfl) (by kernel_rfl) (by kernel_rfl);have h7:=@run_callFunc_extern prog 140 _ (ReflectliteValue.methodAny (ReflectliteValue.valueError "reflectlite.Value.Type" 0) (fun t _ _ _=>ReflectliteType.toType t)) func140 (by kernel_rfl) (by kernel_rfl) (by kernel_rfl) (by kernel_rfl);have h8:=@run_callFunc_extern prog 141 _ (ReflectliteValue.method (ReflectliteValue.valueError "reflectlite.Value.IsNil" 0) ReflectliteValue.isNil) func141 (by kernel_rfl) (by kernel_rfl) (by kernel_rfl) (by kernel_rfl);have OW:=@run_callFunc_extern prog 296 _ (ReflectliteType.abiMethod fun t=>do pure (.int .u8 (<- Rtype.kind t))) func296 (by kernel_rfl) (by kernel_rfl) (by kernel_rfl) (by kernel_rfl);have OY:=@run_callFunc_extern prog 317 _ (ReflectliteType.method ReflectliteType.elem) func317 (by kernel_rfl) (by kernel_rfl) (by kernel_rfl) (by kernel_rfl);have OZ:=@run_callFunc_extern prog 318 _ (ReflectliteType.relation "Implements" ReflectliteType.implements_) func318 (by kernel_rfl) (by kernel_rfl) (by kernel_rfl) (by kernel_rfl);have yu:=@run_callFunc_extern prog 185 _ ReflectliteType.typeOf func185 (by kernel_rfl) (by kernel_rfl) (by kernel_rfl) (by kernel_rfl);have OX:=@run_callFunc_extern prog 315 _ (ReflectliteType.relation "AssignableTo" ReflectliteType.assignableTo) func315 (by kernel_rfl) (by kernel_rfl) (by kernel_rfl) (by kernel_rfl);have OT:=@run_callFunc_extern prog 186 _ (ReflectliteValue.method (ReflectliteValue.valueError "reflectlite.Value.Elem" 0) ReflectliteValue.elem) func186 (by kernel_rfl) (by kernel_rfl) (by kernel_rfl) (by kernel_rfl);have OU:=@run_callFunc_extern prog 187 _ ReflectliteValue.set func187 (by kernel_rfl) (by kernel_rfl) (by kernel_rfl) (by kernel_rfl);have mA:=Kj;have aE:=Kc;have vE:=Kr;have tE:=Kp;have f6:=Ks;have f7:=Kq;have mK:=Km;have mE:=Kk;have mI:=Kl;have kP:=Ki;have kE:=Kh;have eP:=Kd;have iE:=Kf;have n8:=Kg ⟨w.heap.size,0,none⟩ t ((w.alloc (.cells #[.pointer (some t)] 161)).alloc (.cells #[.pointer (some ⟨12,161,none⟩),.pointer (some ⟨w.heap.size,0,none⟩),.int .u64 150] 234)) (by simp)
 have ay:3 < w.heap.size:=by
  rcases Nat.lt_or_ge 3 w.heap.size with h | h
  .exact h
  .simp[World.cell?,Array.getElem?_eq_none h]at hg
 have Qp:((w.alloc (.cells #[.pointer (some t)] 161)).alloc (.cells #[.pointer (some ⟨12,161,none⟩),.pointer (some ⟨w.heap.size,0,none⟩),.int .u64 150] 234)).cell? ⟨3,0,none⟩=some (.iface 289 (.agg #[.pointer (some ⟨12,36,none⟩)])):=by
  rw[World.cell?_alloc_lt _ _ ⟨3,0,none⟩ (by first | (simp;done) | (simp;omega)),World.cell?_alloc_lt _ _ ⟨3,0,none⟩ ay];exact hg
 have htl:t.block < w.heap.size:=by
  rcases Nat.lt_or_ge t.block w.heap.size with h | h
  .exact h
  .simp[World.cell?,Array.getElem?_eq_none h]at lR
 have el:=Ke ⟨w.heap.size,0,none⟩ t (((w.alloc (.cells #[.pointer (some t)] 161)).alloc (.cells #[.pointer (some ⟨12,161,none⟩),.pointer (some ⟨w.heap.size,0,none⟩),.int .u64 150] 234)).alloc (.cells #[.pointer (some ⟨12,161,none⟩),.pointer (some ⟨w.heap.size,0,none⟩),.int .u64 150] 234)) (by rw[World.cell?_alloc_lt _ _ ⟨w.heap.size,0,none⟩ (by simp;omega)];simp)
 have st:=Ko t ⟨w.heap.size+1+1+1,0,none⟩ n dJ ((((w.alloc (.cells #[.pointer (some t)] 161)).alloc (.cells #[.pointer (some ⟨12,161,none⟩),.pointer (some ⟨w.heap.size,0,none⟩),.int .u64 150] 234)).alloc (.cells #[.pointer (some ⟨12,161,none⟩),.pointer (some ⟨w.heap.size,0,none⟩),.int .u64 150] 234)).alloc (.cells #[.int .i64 n] 40))
  (by rw[World.cell?_alloc_at _ _ _ _ (by simp)];rfl)
  (by rw[World.cell?_alloc_lt _ _ t (by simp;omega),World.cell?_alloc_lt _ _ t (by simp;omega),World.cell?_alloc_lt _ _ t (by simp;omega),World.cell?_alloc_lt _ _ t htl];exact lR)
  (by rw[World.frozen?_alloc_old _ _ t (by simp;omega),World.frozen?_alloc_old _ _ t (by simp;omega),World.frozen?_alloc_old _ _ t (by simp;omega),World.frozen?_alloc_old _ _ t (Nat.ne_of_lt htl)];exact Ct)
 have tA:=WA;have aA:=Ws;have nA:=Wx;have uA:=WB;have mU:=Wv
 have oP:a.block < w.heap.size:=by
  rcases Nat.lt_or_ge a.block w.heap.size with h | h
  .exact h
  .simp[World.cell?,Array.getElem?_eq_none h]at ha
 have PD:(((w.alloc (.cells #[.pointer (some t)] 161)).alloc (.cells #[.pointer (some ⟨12,161,none⟩),.pointer (some ⟨w.heap.size,0,none⟩),.int .u64 150] 234)).alloc (.cells #[.pointer (some ⟨12,161,none⟩),.pointer (some ⟨w.heap.size,0,none⟩),.int .u64 150] 234)).cell? a=some (.int .i64 n):=by
  rw[World.cell?_alloc_lt _ _ a (by simp;omega),World.cell?_alloc_lt _ _ a (by simp;omega),World.cell?_alloc_lt _ _ a oP];exact ha
 go_enter func87,ntmps87
 go_wp2
 refine wp_loop_rounds 2 ?_;rw[rounds_succ]
 go_wp2_with (go_at_call 310;refine (Yc a n _ PD).mono ?_;rintro e w' ⟨rfl,rfl⟩)
 rw[rounds_succ]
 go_wp2
 go_ret
 exact⟨rfl,rfl⟩
end Go.Proofs.YtdigkhaofjmgkaaGreatDoor
namespace Go.Proofs.YtdigkhaofjmgkaaGreatDoor
open Go.Av
def ab (n:Int):D:=.v (.int .i64 n)
def Vf (st:List (List Int)×List Int) (l:List Int):List (List Int)×List Int:=
 if idx (fun x=>x == l) st.1 < 0 then (st.1 ++ [l],st.2 ++ [(st.1.length:Int)]) else (st.1,st.2 ++ [idx (fun x=>x == l) st.1])
def Ve (L:List (List Int)) (n:Nat):List (List Int)×List Int:=(L.take n).foldl Vf ([],[])
structure ve where
 next:List (List Int)
 XY:List (List Int)
def ba:Option (Int×Option Nat)->D
 | none=>.v .nilIface
 | some (c,none)=>.bA 40 (.v (.int .i64 c))
 | some (c,some s)=>.bA 213 (.ip [.v (.int .i64 c),.v (.int .i64 s)])
open Go.Extern Go.Extern.Stop Go.RowKit Go.Stop
def lK:Value:=.iface 289 (.agg #[.pointer (some ⟨12,36,none⟩)])
theorem FG (n:Int) (w:World):bY w (s9 ⟨w.heap.size,0,none⟩ n (w.alloc (.cells #[.int .i64 0] 40))):=by
 unfold s9;refine⟨by simp<;>omega,rfl,rfl,rfl,fun b hb=>?_⟩;rw[Below.heap_setCell _ _ _ _ (by simp;omega)];(repeat rw[Below.heap_alloc _ _ _ (by simp;omega)]);exact Below.heap_alloc _ _ _ hb
theorem FF (n:Int) (w:World):(s9 ⟨w.heap.size,0,none⟩ n (w.alloc (.cells #[.int .i64 0] 40))).cell? ⟨w.heap.size,0,none⟩=some (.int .i64 n):=by
 unfold s9
 have hm:((((w.alloc (.cells #[.int .i64 0] 40)).alloc (.cells #[.pointer (some ⟨w.heap.size,0,none⟩)] 161)).alloc (.cells #[.pointer (some ⟨12,161,none⟩),.pointer (some ⟨(w.alloc (.cells #[.int .i64 0] 40)).heap.size,0,none⟩),.int .u64 150] 234)).alloc (.cells #[.pointer (some ⟨12,161,none⟩),.pointer (some ⟨(w.alloc (.cells #[.int .i64 0] 40)).heap.size,0,none⟩),.int .u64 150] 234) |>.alloc (.cells #[.int .i64 n] 40)).cell? ⟨w.heap.size,0,none⟩=some (.int .i64 0):=by
  rw[World.cell?_alloc_lt _ _ _ (by simp;omega),World.cell?_alloc_lt _ _ _ (by simp;omega),World.cell?_alloc_lt _ _ _ (by simp;omega),World.cell?_alloc_lt _ _ _ (by simp)];simp
 exact World.cell?_setCell_same _ _ _ hm
theorem Ln (w:World):Calls prog 37 #[.nilIface] w fun e w'=>e = .returned (.int .i64 0)/\w'=w:=by
 go_enter func37,ntmps37
 go_wp2
 go_ret
 exact⟨rfl,rfl⟩
theorem Lm (n:Int) (w:World) (hg:w.cell? ⟨3,0,none⟩=some lK):Calls prog 37 #[.iface 40 (.int .i64 n)] w fun e w'=>e = .returned (.int .i64 n)/\bY w w':=by
 have ay:3 < w.heap.size:=by
  rcases Nat.lt_or_ge 3 w.heap.size with h | h
  .exact h
  .simp[World.cell?,Array.getElem?_eq_none h]at hg
 have CA:(w.alloc (.cells #[.int .i64 0] 40)).cell? ⟨3,0,none⟩=some lK:=by rw[World.cell?_alloc_lt _ _ ⟨3,0,none⟩ ay];exact hg
 have C5:(w.alloc (.cells #[.int .i64 0] 40)).cell? ⟨w.heap.size,0,none⟩=some (.int .i64 0):=by simp
 have Cv:(w.alloc (.cells #[.int .i64 0] 40)).frozen? ⟨w.heap.size,0,none⟩=false:=by simp
 have hc:=FF n w;have dP:=FG n w
 go_enter func37,ntmps37
 go_wp2_with (go_at_call 87;refine (MD n _ (.int .i64 0) _ CA C5 Cv).mono ?_;rintro e w' ⟨rfl,rfl⟩)
 go_ret
 exact⟨rfl,dP⟩
theorem Ll (n:Int) (a:Addr) (w:World) (hg:w.cell? ⟨3,0,none⟩=some lK) (ha:w.cell? a=some (.int .i64 n)):Calls prog 37 #[.iface 213 (.pointer (some a))] w fun e w'=>e = .returned (.int .i64 n)/\bY w w':=by
 have ay:3 < w.heap.size:=by
  rcases Nat.lt_or_ge 3 w.heap.size with h | h
  .exact h
  .simp[World.cell?,Array.getElem?_eq_none h]at hg
 have oP:a.block < w.heap.size:=ad7 ha
 have CA:(w.alloc (.cells #[.int .i64 0] 40)).cell? ⟨3,0,none⟩=some lK:=by rw[World.cell?_alloc_lt _ _ ⟨3,0,none⟩ ay];exact hg
 have PE:(w.alloc (.cells #[.int .i64 0] 40)).cell? a=some (.int .i64 n):=by rw[World.cell?_alloc_lt _ _ a oP];exact ha
 have C5:(w.alloc (.cells #[.int .i64 0] 40)).cell? ⟨w.heap.size,0,none⟩=some (.int .i64 0):=by simp
 have Cv:(w.alloc (.cells #[.int .i64 0] 40)).frozen? ⟨w.heap.size,0,none⟩=false:=by simp
 have hc:=FF n w;have dP:=FG n w
 go_enter func37,ntmps37
 go_wp2_with (go_at_call 87;refine (af6 n a _ (.int .i64 0) _ CA PE C5 Cv).mono ?_;rintro e w' ⟨rfl,rfl⟩)
 go_ret
 exact⟨rfl,dP⟩
def codeF:Option (Int×Option Nat)->Int
 | none=>0
 | some (c,_)=>c
def bx:Option (Int×Option Nat)->Int
 | some (_,some s)=>s
 | _=>-1
def l8 (G:ao):Prop:=G 3=some (.ip [.v lK])
theorem l8.cell {G:ao} (h:l8 G) {w:World} {X:Nat->Prop} (hg:∀ g x,G g=some x->RD w X (.pointer (some ⟨g,0,none⟩)) x):w.cell? ⟨3,0,none⟩=some lK:=by
 have:=hg _ _ h;obtain⟨b,off,f,hb,_,_,hc,hr⟩:=this.adp;simp only[Value.pointer.injEq,Option.some.injEq,Addr.mk.injEq,and_true]at hb;obtain⟨rfl,rfl⟩:=hb;have h1:=hc 0 (by simp);have h2:=(hr 0 _ rfl).scalar;rw[h2]at h1;exact h1
theorem agP (G:ao) (hG:l8 G) (e:Option (Int×Option Nat)):ar prog G 37 [ba e] (.v (.int .i64 (codeF e))):=by
 refine ar.nr (e7.of func37 rfl rfl) fun X w vs aK bC cq=>?_;have hg:=hG.cell cq;obtain⟨v,rfl⟩:∃ v,vs = #[v]:=Array.size_eq_one_iff.1 aK;have hv:=bC 0 v _ rfl rfl
 match e,hv with
 | none,hv=>
  have:=hv.scalar;subst this;exact (Ln w).mono fun e w' ⟨he,hw⟩=>⟨_,he,by rw[hw];exact bY.refl w,.v _⟩
 | some (c,none),hv=>
  obtain⟨u,rfl,hu⟩:=hv.nV;have:=hu.scalar;subst this;exact (Lm c w hg).mono fun e w' ⟨he,hw⟩=>⟨_,he,hw,.v _⟩
 | some (c,some s),hv=>
  obtain⟨u,rfl,hu⟩:=hv.nV;obtain⟨b,off,f,rfl,_,_,hc,hr⟩:=hu.adp;have h1:=hc 0 (by simp);have h2:=(hr 0 _ rfl).scalar;rw[h2]at h1;exact (Ll c ⟨b,off,none⟩ w hg h1).mono fun e w' ⟨he,hw⟩=>⟨_,he,hw,.v _⟩
