/-
  Texts that belong together,in one file: E1,E2,F3,F4,F5,F6,E3.
-/
import Derived.Test.YtdigkhaofjmgkaaGreatDoorMk11
import Derived.Test.YtdigkhaofjmgkaaGreatDoorMk14
import Derived.LaidEql
import Derived.Stop.Asserts
import Derived.RowKitTokens
set_option linter.unusedSimpArgs false
set_option linter.unusedVariables false
namespace Go.Proofs.YtdigkhaofjmgkaaGreatDoor
open Go.RowKit Go.Extern.Stop Go.Stop Go.Extern
theorem J7 (t:Addr) (w:World):(ReflectliteValue.unpack (.iface 161 (.pointer (some t)))).run Tryz.prog w
  = .ok (.agg #[.pointer (some ⟨12,161,none⟩),.pointer (some ⟨w.heap.size,0,none⟩),.int .u64 150]) (w.alloc (.cells #[.pointer (some t)] 161)):=by kernel_rfl
theorem J5 (a:Addr) (w:World):(ReflectliteValue.methodAny (ReflectliteValue.valueError "reflectlite.Value.Type" 0) (fun t _ _ _=>ReflectliteType.toType t) #[.agg #[.pointer (some ⟨12,161,none⟩),.pointer (some a),.int .u64 150]]).run Tryz.prog w
  = .ok (.iface 289 (.agg #[.pointer (some ⟨12,161,none⟩)])) w:=by kernel_rfl
theorem J1 (h:Value) (w:World):(Go.method 512 289 (.agg #[h]) "Kind").run Tryz.prog w = .ok (296,h) w:=by kernel_rfl
theorem JX (w:World):((ReflectliteType.abiMethod fun t=>(fun a:Nat=>Value.int IntKind.u8 (a:Int)) <$> Rtype.kind t) #[.pointer (some ⟨12,161,none⟩)]).run Tryz.prog w = .ok (.int .u8 22) w:=by kernel_rfl
theorem JW (w:World):((ReflectliteType.abiMethod fun t=>(fun a:Nat=>Value.int IntKind.u8 (a:Int)) <$> Rtype.kind t) #[.pointer (some ⟨12,40,none⟩)]).run Tryz.prog w = .ok (.int .u8 2) w:=by kernel_rfl
theorem J8 (z:Sem Value) (f:TypeId->Addr->Nat->Nat->Sem Value) (v:Value) :
  ReflectliteValue.method z f #[v]=(do match <- ReflectliteValue.parts v with | none=>z | some (t,a,fl)=>f t a fl (fl % 32)):=rfl
theorem J2 (a:Addr) (w:World):(ReflectliteValue.parts (.agg #[.pointer (some ⟨12,161,none⟩),.pointer (some a),.int .u64 150])).run Tryz.prog w = .ok (some (161,a,150)) w:=by kernel_rfl
theorem JV (a p:Addr) (W:World) (ha:W.cell? a=some (.pointer (some p))) :
  (ReflectliteValue.method (ReflectliteValue.valueError "reflectlite.Value.IsNil" 0) ReflectliteValue.isNil #[.agg #[.pointer (some ⟨12,161,none⟩),.pointer (some a),.int .u64 150]]).run Tryz.prog W = .ok (.bool false) W:=by
 rw [J8];simp only [Sem.run_bind,J2,Result.andThen];simp [ReflectliteValue.isNil,loadVar,isAgg,underlying,Tryz.underlying161,ha,Result.andThen]
theorem JZ (h:Value) (w:World):(Go.method 512 289 (.agg #[h]) "Elem").run Tryz.prog w = .ok (317,.agg #[h]) w:=by kernel_rfl
theorem J0 (h:Value) (w:World):(Go.method 512 289 (.agg #[h]) "Implements").run Tryz.prog w = .ok (318,.agg #[h]) w:=by kernel_rfl
theorem JY (h:Value) (w:World):(Go.method 512 289 (.agg #[h]) "AssignableTo").run Tryz.prog w = .ok (315,.agg #[h]) w:=by kernel_rfl
theorem JS (w:World):(ReflectliteType.method ReflectliteType.elem #[.agg #[.pointer (some ⟨12,161,none⟩)]]).run Tryz.prog w = .ok (.iface 289 (.agg #[.pointer (some ⟨12,40,none⟩)])) w:=by kernel_rfl
theorem JU (w:World):(ReflectliteType.relation "Implements" ReflectliteType.implements_ #[.agg #[.pointer (some ⟨12,40,none⟩)],.iface 289 (.agg #[.pointer (some ⟨12,36,none⟩)])]).run Tryz.prog w = .ok (.bool true) w:=by kernel_rfl
theorem J4 (v:Value) (w:World):(ReflectliteType.typeOf #[.iface 40 v]).run Tryz.prog w = .ok (.iface 289 (.agg #[.pointer (some ⟨12,40,none⟩)])) w:=by kernel_rfl
theorem V1 (v:Value) (w:World):(ReflectliteType.typeOf #[.iface 213 v]).run Tryz.prog w = .ok (.iface 289 (.agg #[.pointer (some ⟨12,213,none⟩)])) w:=by kernel_rfl
theorem JR (w:World):(ReflectliteType.relation "AssignableTo" ReflectliteType.assignableTo #[.agg #[.pointer (some ⟨12,40,none⟩)],.iface 289 (.agg #[.pointer (some ⟨12,40,none⟩)])]).run Tryz.prog w = .ok (.bool true) w:=by kernel_rfl
theorem VT (w:World):(ReflectliteType.relation "AssignableTo" ReflectliteType.assignableTo #[.agg #[.pointer (some ⟨12,213,none⟩)],.iface 289 (.agg #[.pointer (some ⟨12,40,none⟩)])]).run Tryz.prog w = .ok (.bool false) w:=by kernel_rfl
theorem J6 (n:Int) (w:World):(ReflectliteValue.unpack (.iface 40 (.int .i64 n))).run Tryz.prog w
  = .ok (.agg #[.pointer (some ⟨12,40,none⟩),.pointer (some ⟨w.heap.size,0,none⟩),.int .u64 130]) (w.alloc (.cells #[.int .i64 n] 40)):=by kernel_rfl
theorem VV (w:World):(Rtype.elem? 161).run Tryz.prog w = .ok (some 40) w:=by kernel_rfl
theorem VX (p:Addr) (w:World):(ReflectliteValue.mk 40 p ReflectliteValue.flagAddr).run Tryz.prog w = .ok (.agg #[.pointer (some ⟨12,40,none⟩),.pointer (some p),.int .u64 386]) w:=by kernel_rfl
theorem JT (a p:Addr) (W:World) (ha:W.cell? a=some (.pointer (some p))) :
  (ReflectliteValue.method (ReflectliteValue.valueError "reflectlite.Value.Elem" 0) ReflectliteValue.elem #[.agg #[.pointer (some ⟨12,161,none⟩),.pointer (some a),.int .u64 150]]).run Tryz.prog W
   = .ok (.agg #[.pointer (some ⟨12,40,none⟩),.pointer (some p),.int .u64 386]) W:=by
 rw [J8];simp only [Sem.run_bind,J2,Result.andThen];simp [ReflectliteValue.elem,loadVar,isAgg,underlying,Tryz.underlying161,ha,Result.andThen,VV,VX]
theorem V3 (v x:Value):ReflectliteValue.set #[v,x]=(do
  let (some (dst,a,fl),some (src,b,_)):=(<- ReflectliteValue.parts v,<- ReflectliteValue.parts x)
   | unsupported (.noEntry "extern/(internal/reflectlite.Value).Set.zeroValue")
  if fl / ReflectliteValue.flagAddr % 2 == 0 then unsupported (.noEntry "extern/(internal/reflectlite.Value).Set.unaddressable")
  let val <- loadVar src b
  if <- Rtype.directlyAssignable dst src then storeVar dst a val
  else if <- Rtype.implements dst src then
   if (<- Rtype.kind src) == 20 then
    match val with
    | .nilIface=>unsupported (.noEntry "extern/reflectlite: a nil value of one interface type handed on as a value of another")
    | _=>storeVar dst a val
   else storeVar dst a (.iface src val)
  else panicString ("reflectlite.Set: value of type " ++ (<- Rtype.spelt src) ++ " is not assignable to type " ++ (<- Rtype.spelt dst))
  pure (.tuple #[])):=rfl
theorem V0 (a:Addr) (w:World):(ReflectliteValue.parts (.agg #[.pointer (some ⟨12,40,none⟩),.pointer (some a),.int .u64 386])).run Tryz.prog w = .ok (some (40,a,386)) w:=by kernel_rfl
theorem VZ (a:Addr) (w:World):(ReflectliteValue.parts (.agg #[.pointer (some ⟨12,40,none⟩),.pointer (some a),.int .u64 130])).run Tryz.prog w = .ok (some (40,a,130)) w:=by kernel_rfl
theorem VU (w:World):(Rtype.directlyAssignable 40 40).run Tryz.prog w = .ok true w:=by kernel_rfl
theorem J3 (ta b:Addr) (n:Int) (old:Value) (W:World) (hb:W.cell? b=some (.int .i64 n)) (ht:W.cell? ta=some old) (hf:W.frozen? ta=false) :
  (ReflectliteValue.set #[.agg #[.pointer (some ⟨12,40,none⟩),.pointer (some ta),.int .u64 386],.agg #[.pointer (some ⟨12,40,none⟩),.pointer (some b),.int .u64 130]]).run Tryz.prog W
   = .ok (.tuple #[]) (W.setCell ta (.int .i64 n)):=by
 rw [V3];simp only [Sem.run_bind,V0,VZ,Result.andThen];simp [ReflectliteValue.flagAddr,loadVar,isAgg,underlying,Tryz.underlying40,hb,Result.andThen,VU,storeVar,Value.cells,storeCells,Addr.add];rw [run_store Tryz.prog W ta _ _ (by rfl)];simp [ht,hf]
def sk (t:Addr) (n:Int) (w:World):World:=((((w.alloc (.cells #[.pointer (some t)] 161)).alloc (.cells #[.pointer (some ⟨12,161,none⟩),.pointer (some ⟨w.heap.size,0,none⟩),.int .u64 150] 234)).alloc (.cells #[.pointer (some ⟨12,161,none⟩),.pointer (some ⟨w.heap.size,0,none⟩),.int .u64 150] 234)).alloc (.cells #[.int .i64 n] 40)).setCell t (.int .i64 n)
set_option maxHeartbeats 4000000 in
theorem Mg (n:Int) (t:Addr) (old:Value) (w:World) (hg:w.cell? ⟨3,0,none⟩=some (.iface 289 (.agg #[.pointer (some ⟨12,36,none⟩)]))) (lp:w.cell? t=some old) (Cl:w.frozen? t=false) :
  Calls Tryz.prog 87 #[.iface 40 (.int .i64 n),.iface 161 (.pointer (some t))] w fun ev w'=>ev = .returned (.bool true)/\w'=sk t n w:=by
 have h6:=@run_callFunc_extern Tryz.prog 139 _ (fun args=>ReflectliteValue.unpack (args.getD 0 (.tuple #[]))) Tryz.func139 (by kernel_rfl) (by kernel_rfl) (by kernel_rfl) (by kernel_rfl);have h7:=@run_callFunc_extern Tryz.prog 140 _ (ReflectliteValue.methodAny (ReflectliteValue.valueError "reflectlite.Value.Type" 0) (fun t _ _ _=>ReflectliteType.toType t)) Tryz.func140 (by kernel_rfl) (by kernel_rfl) (by kernel_rfl) (by kernel_rfl);have h8:=@run_callFunc_extern Tryz.prog 141 _ (ReflectliteValue.method (ReflectliteValue.valueError "reflectlite.Value.IsNil" 0) ReflectliteValue.isNil) Tryz.func141 (by kernel_rfl) (by kernel_rfl) (by kernel_rfl) (by kernel_rfl);have Oy:=@run_callFunc_extern Tryz.prog 296 _ (ReflectliteType.abiMethod fun t=>do pure (.int .u8 (<- Rtype.kind t))) Tryz.func296 (by kernel_rfl) (by kernel_rfl) (by kernel_rfl) (by kernel_rfl);have OA:=@run_callFunc_extern Tryz.prog 317 _ (ReflectliteType.method ReflectliteType.elem) Tryz.func317 (by kernel_rfl) (by kernel_rfl) (by kernel_rfl) (by kernel_rfl);have OB:=@run_callFunc_extern Tryz.prog 318 _ (ReflectliteType.relation "Implements" ReflectliteType.implements_) Tryz.func318 (by kernel_rfl) (by kernel_rfl) (by kernel_rfl) (by kernel_rfl);have x7:=@run_callFunc_extern Tryz.prog 185 _ ReflectliteType.typeOf Tryz.func185 (by kernel_rfl) (by kernel_rfl) (by kernel_rfl) (by kernel_rfl);have Oz:=@run_callFunc_extern Tryz.prog 315 _ (ReflectliteType.relation "AssignableTo" ReflectliteType.assignableTo) Tryz.func315 (by kernel_rfl) (by kernel_rfl) (by kernel_rfl) (by kernel_rfl);have Ow:=@run_callFunc_extern Tryz.prog 186 _ (ReflectliteValue.method (ReflectliteValue.valueError "reflectlite.Value.Elem" 0) ReflectliteValue.elem) Tryz.func186 (by kernel_rfl) (by kernel_rfl) (by kernel_rfl) (by kernel_rfl);have Ox:=@run_callFunc_extern Tryz.prog 187 _ ReflectliteValue.set Tryz.func187 (by kernel_rfl) (by kernel_rfl) (by kernel_rfl) (by kernel_rfl);have mA:=JY;have aE:=JR;have vE:=J6;have tE:=J4;have f6:=J7;have f7:=J5;have mK:=J1;have mE:=JZ;have mI:=J0;have kP:=JX;have kE:=JW;have eP:=JS;have iE:=JU;have n8:=JV ⟨w.heap.size,0,none⟩ t ((w.alloc (.cells #[.pointer (some t)] 161)).alloc (.cells #[.pointer (some ⟨12,161,none⟩),.pointer (some ⟨w.heap.size,0,none⟩),.int .u64 150] 234)) (by simp)
 have ax:3 < w.heap.size:=by
  rcases Nat.lt_or_ge 3 w.heap.size with h | h
  .exact h
  .simp [World.cell?,Array.getElem?_eq_none h] at hg
 have P2:((w.alloc (.cells #[.pointer (some t)] 161)).alloc (.cells #[.pointer (some ⟨12,161,none⟩),.pointer (some ⟨w.heap.size,0,none⟩),.int .u64 150] 234)).cell? ⟨3,0,none⟩=some (.iface 289 (.agg #[.pointer (some ⟨12,36,none⟩)])):=by
  rw [World.cell?_alloc_lt _ _ ⟨3,0,none⟩ (by first | (simp;done) | (simp;omega)),World.cell?_alloc_lt _ _ ⟨3,0,none⟩ ax];exact hg
 have ik:t.block < w.heap.size:=by
  rcases Nat.lt_or_ge t.block w.heap.size with h | h
  .exact h
  .simp [World.cell?,Array.getElem?_eq_none h] at lp
 have el:=JT ⟨w.heap.size,0,none⟩ t (((w.alloc (.cells #[.pointer (some t)] 161)).alloc (.cells #[.pointer (some ⟨12,161,none⟩),.pointer (some ⟨w.heap.size,0,none⟩),.int .u64 150] 234)).alloc (.cells #[.pointer (some ⟨12,161,none⟩),.pointer (some ⟨w.heap.size,0,none⟩),.int .u64 150] 234)) (by rw [World.cell?_alloc_lt _ _ ⟨w.heap.size,0,none⟩ (by simp;omega)];simp)
 have st:=J3 t ⟨w.heap.size+1+1+1,0,none⟩ n old ((((w.alloc (.cells #[.pointer (some t)] 161)).alloc (.cells #[.pointer (some ⟨12,161,none⟩),.pointer (some ⟨w.heap.size,0,none⟩),.int .u64 150] 234)).alloc (.cells #[.pointer (some ⟨12,161,none⟩),.pointer (some ⟨w.heap.size,0,none⟩),.int .u64 150] 234)).alloc (.cells #[.int .i64 n] 40))
  (by rw [World.cell?_alloc_at _ _ _ _ (by simp)];rfl)
  (by rw [World.cell?_alloc_lt _ _ t (by simp;omega),World.cell?_alloc_lt _ _ t (by simp;omega),World.cell?_alloc_lt _ _ t (by simp;omega),World.cell?_alloc_lt _ _ t ik];exact lp)
  (by rw [World.frozen?_alloc_old _ _ t (by simp;omega),World.frozen?_alloc_old _ _ t (by simp;omega),World.frozen?_alloc_old _ _ t (by simp;omega),World.frozen?_alloc_old _ _ t (Nat.ne_of_lt ik)];exact Cl)
 go_enter Tryz.func87,Tryz.ntmps87
 go_wp2
 refine wp_loop_rounds 1 ?_;rw [rounds_succ]
 go_wp2
 go_ret
 exact ⟨rfl,rfl⟩
theorem Xy (a:Addr) (n:Int) (w:World) (ha:w.cell? a=some (.int .i64 n)):Calls Tryz.prog 310 #[.pointer (some a)] w fun e w'=>e = .returned (.iface 40 (.int .i64 n))/\w'=w:=by
 go_enter Tryz.func310,Tryz.ntmps310
 go_wp2
 go_ret
 exact ⟨rfl,rfl⟩
theorem VW (h:Value) (w:World):(Go.method 512 213 h "Unwrap").run Tryz.prog w = .ok (310,h) w:=by kernel_rfl
theorem VY (v:Value) (xT:TypeId) (w:World):(Instr.typeAssert (.iface 213 v) xT 294 true).run Tryz.prog w = .ok (.tuple #[.nilIface,.bool false]) w:=run_typeAssert_lacksB Tryz.underlying294 (by kernel_rfl) (by kernel_rfl) v xT w
theorem V2 (v:Value) (xT:TypeId) (w:World):(Instr.typeAssert (.iface 213 v) xT 285 true).run Tryz.prog w = .ok (.tuple #[.iface 213 v,.bool true]) w:=run_typeAssert_hasB Tryz.underlying285 (by kernel_rfl) v xT w
set_option maxHeartbeats 8000000 in
theorem Mf (n:Int) (a t:Addr) (old:Value) (w:World) (hg:w.cell? ⟨3,0,none⟩=some (.iface 289 (.agg #[.pointer (some ⟨12,36,none⟩)]))) (ha:w.cell? a=some (.int .i64 n)) (lp:w.cell? t=some old) (Cl:w.frozen? t=false) :
  Calls Tryz.prog 87 #[.iface 213 (.pointer (some a)),.iface 161 (.pointer (some t))] w fun ev w'=>ev = .returned (.bool true)/\w'=sk t n w:=by
 have h6:=@run_callFunc_extern Tryz.prog 139 _ (fun args=>ReflectliteValue.unpack (args.getD 0 (.tuple #[]))) Tryz.func139 (by kernel_rfl) (by kernel_rfl) (by kernel_rfl) (by kernel_rfl);have h7:=@run_callFunc_extern Tryz.prog 140 _ (ReflectliteValue.methodAny (ReflectliteValue.valueError "reflectlite.Value.Type" 0) (fun t _ _ _=>ReflectliteType.toType t)) Tryz.func140 (by kernel_rfl) (by kernel_rfl) (by kernel_rfl) (by kernel_rfl);have h8:=@run_callFunc_extern Tryz.prog 141 _ (ReflectliteValue.method (ReflectliteValue.valueError "reflectlite.Value.IsNil" 0) ReflectliteValue.isNil) Tryz.func141 (by kernel_rfl) (by kernel_rfl) (by kernel_rfl) (by kernel_rfl);have Oy:=@run_callFunc_extern Tryz.prog 296 _ (ReflectliteType.abiMethod fun t=>do pure (.int .u8 (<- Rtype.kind t))) Tryz.func296 (by kernel_rfl) (by kernel_rfl) (by kernel_rfl) (by kernel_rfl);have OA:=@run_callFunc_extern Tryz.prog 317 _ (ReflectliteType.method ReflectliteType.elem) Tryz.func317 (by kernel_rfl) (by kernel_rfl) (by kernel_rfl) (by kernel_rfl);have OB:=@run_callFunc_extern Tryz.prog 318 _ (ReflectliteType.relation "Implements" ReflectliteType.implements_) Tryz.func318 (by kernel_rfl) (by kernel_rfl) (by kernel_rfl) (by kernel_rfl);have x7:=@run_callFunc_extern Tryz.prog 185 _ ReflectliteType.typeOf Tryz.func185 (by kernel_rfl) (by kernel_rfl) (by kernel_rfl) (by kernel_rfl);have Oz:=@run_callFunc_extern Tryz.prog 315 _ (ReflectliteType.relation "AssignableTo" ReflectliteType.assignableTo) Tryz.func315 (by kernel_rfl) (by kernel_rfl) (by kernel_rfl) (by kernel_rfl);have Ow:=@run_callFunc_extern Tryz.prog 186 _ (ReflectliteValue.method (ReflectliteValue.valueError "reflectlite.Value.Elem" 0) ReflectliteValue.elem) Tryz.func186 (by kernel_rfl) (by kernel_rfl) (by kernel_rfl) (by kernel_rfl);have Ox:=@run_callFunc_extern Tryz.prog 187 _ ReflectliteValue.set Tryz.func187 (by kernel_rfl) (by kernel_rfl) (by kernel_rfl) (by kernel_rfl);have mA:=JY;have aE:=JR;have vE:=J6;have tE:=J4;have f6:=J7;have f7:=J5;have mK:=J1;have mE:=JZ;have mI:=J0;have kP:=JX;have kE:=JW;have eP:=JS;have iE:=JU;have n8:=JV ⟨w.heap.size,0,none⟩ t ((w.alloc (.cells #[.pointer (some t)] 161)).alloc (.cells #[.pointer (some ⟨12,161,none⟩),.pointer (some ⟨w.heap.size,0,none⟩),.int .u64 150] 234)) (by simp)
 have ax:3 < w.heap.size:=by
  rcases Nat.lt_or_ge 3 w.heap.size with h | h
  .exact h
  .simp [World.cell?,Array.getElem?_eq_none h] at hg
 have P2:((w.alloc (.cells #[.pointer (some t)] 161)).alloc (.cells #[.pointer (some ⟨12,161,none⟩),.pointer (some ⟨w.heap.size,0,none⟩),.int .u64 150] 234)).cell? ⟨3,0,none⟩=some (.iface 289 (.agg #[.pointer (some ⟨12,36,none⟩)])):=by
  rw [World.cell?_alloc_lt _ _ ⟨3,0,none⟩ (by first | (simp;done) | (simp;omega)),World.cell?_alloc_lt _ _ ⟨3,0,none⟩ ax];exact hg
 have ik:t.block < w.heap.size:=by
  rcases Nat.lt_or_ge t.block w.heap.size with h | h
  .exact h
  .simp [World.cell?,Array.getElem?_eq_none h] at lp
 have el:=JT ⟨w.heap.size,0,none⟩ t (((w.alloc (.cells #[.pointer (some t)] 161)).alloc (.cells #[.pointer (some ⟨12,161,none⟩),.pointer (some ⟨w.heap.size,0,none⟩),.int .u64 150] 234)).alloc (.cells #[.pointer (some ⟨12,161,none⟩),.pointer (some ⟨w.heap.size,0,none⟩),.int .u64 150] 234)) (by rw [World.cell?_alloc_lt _ _ ⟨w.heap.size,0,none⟩ (by simp;omega)];simp)
 have st:=J3 t ⟨w.heap.size+1+1+1,0,none⟩ n old ((((w.alloc (.cells #[.pointer (some t)] 161)).alloc (.cells #[.pointer (some ⟨12,161,none⟩),.pointer (some ⟨w.heap.size,0,none⟩),.int .u64 150] 234)).alloc (.cells #[.pointer (some ⟨12,161,none⟩),.pointer (some ⟨w.heap.size,0,none⟩),.int .u64 150] 234)).alloc (.cells #[.int .i64 n] 40))
  (by rw [World.cell?_alloc_at _ _ _ _ (by simp)];rfl)
  (by rw [World.cell?_alloc_lt _ _ t (by simp;omega),World.cell?_alloc_lt _ _ t (by simp;omega),World.cell?_alloc_lt _ _ t (by simp;omega),World.cell?_alloc_lt _ _ t ik];exact lp)
  (by rw [World.frozen?_alloc_old _ _ t (by simp;omega),World.frozen?_alloc_old _ _ t (by simp;omega),World.frozen?_alloc_old _ _ t (by simp;omega),World.frozen?_alloc_old _ _ t (Nat.ne_of_lt ik)];exact Cl)
 have tA:=V1;have aA:=VT;have nA:=VY;have uA:=V2;have mU:=VW
 have om:a.block < w.heap.size:=by
  rcases Nat.lt_or_ge a.block w.heap.size with h | h
  .exact h
  .simp [World.cell?,Array.getElem?_eq_none h] at ha
 have Pf:(((w.alloc (.cells #[.pointer (some t)] 161)).alloc (.cells #[.pointer (some ⟨12,161,none⟩),.pointer (some ⟨w.heap.size,0,none⟩),.int .u64 150] 234)).alloc (.cells #[.pointer (some ⟨12,161,none⟩),.pointer (some ⟨w.heap.size,0,none⟩),.int .u64 150] 234)).cell? a=some (.int .i64 n):=by
  rw [World.cell?_alloc_lt _ _ a (by simp;omega),World.cell?_alloc_lt _ _ a (by simp;omega),World.cell?_alloc_lt _ _ a om];exact ha
 go_enter Tryz.func87,Tryz.ntmps87
 go_wp2
 refine wp_loop_rounds 2 ?_;rw [rounds_succ]
 go_wp2_with (go_at_call 310;refine (Xy a n _ Pf).mono ?_;rintro e w' ⟨rfl,rfl⟩)
 rw [rounds_succ]
 go_wp2
 go_ret
 exact ⟨rfl,rfl⟩
end Go.Proofs.YtdigkhaofjmgkaaGreatDoor
namespace Go.Proofs.YtdigkhaofjmgkaaGreatDoor
open Go.Av
def ab (n:Int):D:=.v (.int .i64 n)
def Np (r:List Int):D:=acJ none r
def acK (l:List (List Int)):D:=.sl none (l.map fun r=>[Np r])
def UI (st:List (List Int)×List Int) (l:List Int):List (List Int)×List Int:=
 if idx (fun x=>x == l) st.1 < 0 then (st.1 ++ [l],st.2 ++ [(st.1.length:Int)]) else (st.1,st.2 ++ [idx (fun x=>x == l) st.1])
def UH (L:List (List Int)) (n:Nat):List (List Int)×List Int:=(L.take n).foldl UI ([],[])
structure uy where
 next:List (List Int)
 Xk:List (List Int)
def Z5:Option (Int×Option Nat)->D
 | none=>.v .nilIface
 | some (c,none)=>.br 40 (.v (.int .i64 c))
 | some (c,some s)=>.br 213 (.ip [.v (.int .i64 c),.v (.int .i64 s)])
open Go.Extern Go.Extern.Stop Go.RowKit Go.Stop
def lf:Value:=.iface 289 (.agg #[.pointer (some ⟨12,36,none⟩)])
theorem FB (n:Int) (w:World):bU w (sk ⟨w.heap.size,0,none⟩ n (w.alloc (.cells #[.int .i64 0] 40))):=by
 unfold sk;refine ⟨by simp<;>omega,rfl,rfl,rfl,fun b hb=>?_⟩;rw [Below.heap_setCell _ _ _ _ (by simp;omega)];(repeat rw [Below.heap_alloc _ _ _ (by simp;omega)]);exact Below.heap_alloc _ _ _ hb
theorem FA (n:Int) (w:World):(sk ⟨w.heap.size,0,none⟩ n (w.alloc (.cells #[.int .i64 0] 40))).cell? ⟨w.heap.size,0,none⟩=some (.int .i64 n):=by
 unfold sk
 have hm:((((w.alloc (.cells #[.int .i64 0] 40)).alloc (.cells #[.pointer (some ⟨w.heap.size,0,none⟩)] 161)).alloc (.cells #[.pointer (some ⟨12,161,none⟩),.pointer (some ⟨(w.alloc (.cells #[.int .i64 0] 40)).heap.size,0,none⟩),.int .u64 150] 234)).alloc (.cells #[.pointer (some ⟨12,161,none⟩),.pointer (some ⟨(w.alloc (.cells #[.int .i64 0] 40)).heap.size,0,none⟩),.int .u64 150] 234) |>.alloc (.cells #[.int .i64 n] 40)).cell? ⟨w.heap.size,0,none⟩=some (.int .i64 0):=by
  rw [World.cell?_alloc_lt _ _ _ (by simp;omega),World.cell?_alloc_lt _ _ _ (by simp;omega),World.cell?_alloc_lt _ _ _ (by simp;omega),World.cell?_alloc_lt _ _ _ (by simp)];simp
 exact World.cell?_setCell_same _ _ _ hm
theorem KZ (w:World):Calls Tryz.prog 37 #[.nilIface] w fun e w'=>e = .returned (.int .i64 0)/\w'=w:=by
 go_enter Tryz.func37,Tryz.ntmps37
 go_wp2
 go_ret
 exact ⟨rfl,rfl⟩
set_option maxHeartbeats 1000000 in
theorem KY (n:Int) (w:World) (hg:w.cell? ⟨3,0,none⟩=some lf):Calls Tryz.prog 37 #[.iface 40 (.int .i64 n)] w fun e w'=>e = .returned (.int .i64 n)/\bU w w':=by
 have ax:3 < w.heap.size:=by
  rcases Nat.lt_or_ge 3 w.heap.size with h | h
  .exact h
  .simp [World.cell?,Array.getElem?_eq_none h] at hg
 have Cs:(w.alloc (.cells #[.int .i64 0] 40)).cell? ⟨3,0,none⟩=some lf:=by rw [World.cell?_alloc_lt _ _ ⟨3,0,none⟩ ax];exact hg
 have htA:(w.alloc (.cells #[.int .i64 0] 40)).cell? ⟨w.heap.size,0,none⟩=some (.int .i64 0):=by simp
 have Cn:(w.alloc (.cells #[.int .i64 0] 40)).frozen? ⟨w.heap.size,0,none⟩=false:=by simp
 have hc:=FA n w;have dI:=FB n w
 go_enter Tryz.func37,Tryz.ntmps37
 go_wp2_with (go_at_call 87;refine (Mg n _ (.int .i64 0) _ Cs htA Cn).mono ?_;rintro e w' ⟨rfl,rfl⟩)
 go_ret
 exact ⟨rfl,dI⟩
set_option maxHeartbeats 1000000 in
theorem KX (n:Int) (a:Addr) (w:World) (hg:w.cell? ⟨3,0,none⟩=some lf) (ha:w.cell? a=some (.int .i64 n)):Calls Tryz.prog 37 #[.iface 213 (.pointer (some a))] w fun e w'=>e = .returned (.int .i64 n)/\bU w w':=by
 have ax:3 < w.heap.size:=by
  rcases Nat.lt_or_ge 3 w.heap.size with h | h
  .exact h
  .simp [World.cell?,Array.getElem?_eq_none h] at hg
 have om:a.block < w.heap.size:=qs ha
 have Cs:(w.alloc (.cells #[.int .i64 0] 40)).cell? ⟨3,0,none⟩=some lf:=by rw [World.cell?_alloc_lt _ _ ⟨3,0,none⟩ ax];exact hg
 have Pg:(w.alloc (.cells #[.int .i64 0] 40)).cell? a=some (.int .i64 n):=by rw [World.cell?_alloc_lt _ _ a om];exact ha
 have htA:(w.alloc (.cells #[.int .i64 0] 40)).cell? ⟨w.heap.size,0,none⟩=some (.int .i64 0):=by simp
 have Cn:(w.alloc (.cells #[.int .i64 0] 40)).frozen? ⟨w.heap.size,0,none⟩=false:=by simp
 have hc:=FA n w;have dI:=FB n w
 go_enter Tryz.func37,Tryz.ntmps37
 go_wp2_with (go_at_call 87;refine (Mf n a _ (.int .i64 0) _ Cs Pg htA Cn).mono ?_;rintro e w' ⟨rfl,rfl⟩)
 go_ret
 exact ⟨rfl,dI⟩
def codeF:Option (Int×Option Nat)->Int
 | none=>0
 | some (c,_)=>c
def aab:Option (Int×Option Nat)->Int
 | some (_,some s)=>s
 | _=>-1
def mf (G:ao):Prop:=G 3=some (.ip [.v lf])
theorem mf.cell {G:ao} (h:mf G) {w:World} {X:Nat->Prop} (hg:∀ g x,G g=some x->RD w X (.pointer (some ⟨g,0,none⟩)) x):w.cell? ⟨3,0,none⟩=some lf:=by
 have:=hg _ _ h;obtain ⟨b,off,f,hb,_,_,hc,hr⟩:=this.acF;simp only [Value.pointer.injEq,Option.some.injEq,Addr.mk.injEq,and_true] at hb;obtain ⟨rfl,rfl⟩:=hb;have h1:=hc 0 (by simp);have h2:=(hr 0 _ rfl).scalar;rw [h2] at h1;exact h1
theorem Xj (G:ao) (hG:mf G) (e:Option (Int×Option Nat)):aw Tryz.prog G 37 [Z5 e] (.v (.int .i64 (codeF e))):=by
 refine aw.mM (eU.of Tryz.func37 rfl rfl) fun X w vs aI bz b8=>?_;have hg:=hG.cell b8;obtain ⟨v,rfl⟩:∃ v,vs = #[v]:=Array.size_eq_one_iff.1 aI;have hv:=bz 0 v _ rfl rfl
 match e,hv with
 | none,hv=>
  have:=hv.scalar;subst this;exact (KZ w).mono fun e w' ⟨he,hw⟩=>⟨_,he,by rw [hw];exact bU.refl w,.v _⟩
 | some (c,none),hv=>
  obtain ⟨u,rfl,hu⟩:=hv.nt;have:=hu.scalar;subst this;exact (KY c w hg).mono fun e w' ⟨he,hw⟩=>⟨_,he,hw,.v _⟩
 | some (c,some s),hv=>
  obtain ⟨u,rfl,hu⟩:=hv.nt;obtain ⟨b,off,f,rfl,_,_,hc,hr⟩:=hu.acF;have h1:=hc 0 (by simp);have h2:=(hr 0 _ rfl).scalar;rw [h2] at h1;exact (KX c ⟨b,off,none⟩ w hg h1).mono fun e w' ⟨he,hw⟩=>⟨_,he,hw,.v _⟩
end Go.Proofs.YtdigkhaofjmgkaaGreatDoor
