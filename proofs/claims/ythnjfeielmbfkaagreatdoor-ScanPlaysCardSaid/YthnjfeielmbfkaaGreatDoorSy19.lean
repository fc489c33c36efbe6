/-
  Texts that belong together,in one file: E1,E2,F3,F4,F5,F6,E3.
-/
import Derived.Test.YthnjfeielmbfkaaGreatDoorSy18
import Derived.Test.YthnjfeielmbfkaaGreatDoorProg
import Derived.WalkKit
import Derived.LaidEql
import Derived.Stop.Asserts
import Derived.RowKitTokens
set_option linter.unusedSimpArgs false
set_option linter.unusedVariables false
namespace Go.Proofs.YthnjfeielmbfkaaGreatDoor
open Go.RowKit Go.Extern.Stop Go.Stop Go.Extern
theorem rl_valueOfP (t:Addr) (w:World):(ReflectliteValue.unpack (.iface 267 (.pointer (some t)))).run Tryz.prog w
  = .ok (.agg #[.pointer (some ⟨13,267,none⟩),.pointer (some ⟨w.heap.size,0,none⟩),.int .u64 150]) (w.alloc (.cells #[.pointer (some t)] 267)):=by kernel_rfl
theorem rl_typeP (a:Addr) (w:World):(ReflectliteValue.methodAny (ReflectliteValue.valueError "reflectlite.Value.Type" 0) (fun t _ _ _=>ReflectliteType.toType t) #[.agg #[.pointer (some ⟨13,267,none⟩),.pointer (some a),.int .u64 150]]).run Tryz.prog w
  = .ok (.iface 344 (.agg #[.pointer (some ⟨13,267,none⟩)])) w:=by kernel_rfl
theorem rl_methodKind (h:Value) (w:World):(Go.method 512 344 (.agg #[h]) "Kind").run Tryz.prog w = .ok (296,h) w:=by kernel_rfl
theorem rl_kindP (w:World):((ReflectliteType.abiMethod fun t=>(fun a:Nat=>Value.int IntKind.u8 (a:Int)) <$> Rtype.kind t) #[.pointer (some ⟨13,267,none⟩)]).run Tryz.prog w = .ok (.int .u8 22) w:=by kernel_rfl
theorem rl_kindE (w:World):((ReflectliteType.abiMethod fun t=>(fun a:Nat=>Value.int IntKind.u8 (a:Int)) <$> Rtype.kind t) #[.pointer (some ⟨13,62,none⟩)]).run Tryz.prog w = .ok (.int .u8 2) w:=by kernel_rfl
theorem rlm (z:Sem Value) (f:TypeId→Addr→Nat→Nat→Sem Value) (v:Value) :
  ReflectliteValue.method z f #[v]=(do match ← ReflectliteValue.parts v with | none=>z | some (t,a,fl)=>f t a fl (fl % 32)):=rfl
theorem rl_partsP (a:Addr) (w:World):(ReflectliteValue.parts (.agg #[.pointer (some ⟨13,267,none⟩),.pointer (some a),.int .u64 150])).run Tryz.prog w = .ok (some (267,a,150)) w:=by kernel_rfl
theorem rl_isNilP (a p:Addr) (W:World) (ha:W.cell? a=some (.pointer (some p))) :
  (ReflectliteValue.method (ReflectliteValue.valueError "reflectlite.Value.IsNil" 0) ReflectliteValue.isNil #[.agg #[.pointer (some ⟨13,267,none⟩),.pointer (some a),.int .u64 150]]).run Tryz.prog W = .ok (.bool false) W:=by
 rw [rlm];simp only [Sem.run_bind,rl_partsP,Result.andThen];simp [ReflectliteValue.isNil,loadVar,isAgg,underlying,Tryz.underlying267,ha,Result.andThen]
theorem rl_methodElem (h:Value) (w:World):(Go.method 512 344 (.agg #[h]) "Elem").run Tryz.prog w = .ok (322,.agg #[h]) w:=by kernel_rfl
theorem rl_methodImplements (h:Value) (w:World):(Go.method 512 344 (.agg #[h]) "Implements").run Tryz.prog w = .ok (323,.agg #[h]) w:=by kernel_rfl
theorem rl_methodAssignableTo (h:Value) (w:World):(Go.method 512 344 (.agg #[h]) "AssignableTo").run Tryz.prog w = .ok (320,.agg #[h]) w:=by kernel_rfl
theorem rl_elemP (w:World):(ReflectliteType.method ReflectliteType.elem #[.agg #[.pointer (some ⟨13,267,none⟩)]]).run Tryz.prog w = .ok (.iface 344 (.agg #[.pointer (some ⟨13,62,none⟩)])) w:=by kernel_rfl
theorem rl_implementsE (w:World):(ReflectliteType.relation "Implements" ReflectliteType.implements_ #[.agg #[.pointer (some ⟨13,62,none⟩)],.iface 344 (.agg #[.pointer (some ⟨13,31,none⟩)])]).run Tryz.prog w = .ok (.bool true) w:=by kernel_rfl
theorem rl_typeOfE (v:Value) (w:World):(ReflectliteType.typeOf #[.iface 62 v]).run Tryz.prog w = .ok (.iface 344 (.agg #[.pointer (some ⟨13,62,none⟩)])) w:=by kernel_rfl
theorem rl_typeOfA (v:Value) (w:World):(ReflectliteType.typeOf #[.iface 194 v]).run Tryz.prog w = .ok (.iface 344 (.agg #[.pointer (some ⟨13,194,none⟩)])) w:=by kernel_rfl
theorem rl_assignableE (w:World):(ReflectliteType.relation "AssignableTo" ReflectliteType.assignableTo #[.agg #[.pointer (some ⟨13,62,none⟩)],.iface 344 (.agg #[.pointer (some ⟨13,62,none⟩)])]).run Tryz.prog w = .ok (.bool true) w:=by kernel_rfl
theorem rl_assignableA (w:World):(ReflectliteType.relation "AssignableTo" ReflectliteType.assignableTo #[.agg #[.pointer (some ⟨13,194,none⟩)],.iface 344 (.agg #[.pointer (some ⟨13,62,none⟩)])]).run Tryz.prog w = .ok (.bool false) w:=by kernel_rfl
theorem rl_valueOfE (n:Int) (w:World):(ReflectliteValue.unpack (.iface 62 (.int .i64 n))).run Tryz.prog w
  = .ok (.agg #[.pointer (some ⟨13,62,none⟩),.pointer (some ⟨w.heap.size,0,none⟩),.int .u64 130]) (w.alloc (.cells #[.int .i64 n] 62)):=by kernel_rfl
theorem rl_elemOfP (w:World):(Rtype.elem? 267).run Tryz.prog w = .ok (some 62) w:=by kernel_rfl
theorem rl_mkE (p:Addr) (w:World):(ReflectliteValue.mk 62 p ReflectliteValue.flagAddr).run Tryz.prog w = .ok (.agg #[.pointer (some ⟨13,62,none⟩),.pointer (some p),.int .u64 386]) w:=by kernel_rfl
theorem rl_elemVP (a p:Addr) (W:World) (ha:W.cell? a=some (.pointer (some p))) :
  (ReflectliteValue.method (ReflectliteValue.valueError "reflectlite.Value.Elem" 0) ReflectliteValue.elem #[.agg #[.pointer (some ⟨13,267,none⟩),.pointer (some a),.int .u64 150]]).run Tryz.prog W
   = .ok (.agg #[.pointer (some ⟨13,62,none⟩),.pointer (some p),.int .u64 386]) W:=by
 rw [rlm];simp only [Sem.run_bind,rl_partsP,Result.andThen];simp [ReflectliteValue.elem,loadVar,isAgg,underlying,Tryz.underlying267,ha,Result.andThen,rl_elemOfP,rl_mkE]
theorem rls (v x:Value):ReflectliteValue.set #[v,x]=(do
  let (some (dst,a,fl),some (src,b,_)):=(← ReflectliteValue.parts v,← ReflectliteValue.parts x)
   | unsupported (.noEntry "extern/(internal/reflectlite.Value).Set.zeroValue")
  if fl / ReflectliteValue.flagAddr % 2 == 0 then unsupported (.noEntry "extern/(internal/reflectlite.Value).Set.unaddressable")
  let val ← loadVar src b
  if ← Rtype.directlyAssignable dst src then storeVar dst a val
  else if ← Rtype.implements dst src then
   if (← Rtype.kind src) == 20 then
    match val with
    | .nilIface=>unsupported (.noEntry "extern/reflectlite: a nil value of one interface type handed on as a value of another")
    | _=>storeVar dst a val
   else storeVar dst a (.iface src val)
  else panicString ("reflectlite.Set: value of type " ++ (← Rtype.spelt src) ++ " is not assignable to type " ++ (← Rtype.spelt dst))
  pure (.tuple #[])):=rfl
theorem rl_partsEa (a:Addr) (w:World):(ReflectliteValue.parts (.agg #[.pointer (some ⟨13,62,none⟩),.pointer (some a),.int .u64 386])).run Tryz.prog w = .ok (some (62,a,386)) w:=by kernel_rfl
theorem rl_partsE (a:Addr) (w:World):(ReflectliteValue.parts (.agg #[.pointer (some ⟨13,62,none⟩),.pointer (some a),.int .u64 130])).run Tryz.prog w = .ok (some (62,a,130)) w:=by kernel_rfl
theorem rl_directE (w:World):(Rtype.directlyAssignable 62 62).run Tryz.prog w = .ok true w:=by kernel_rfl
theorem rl_setE (ta b:Addr) (n:Int) (old:Value) (W:World) (hb:W.cell? b=some (.int .i64 n)) (ht:W.cell? ta=some old) (hf:W.frozen? ta=false) :
  (ReflectliteValue.set #[.agg #[.pointer (some ⟨13,62,none⟩),.pointer (some ta),.int .u64 386],.agg #[.pointer (some ⟨13,62,none⟩),.pointer (some b),.int .u64 130]]).run Tryz.prog W
   = .ok (.tuple #[]) (W.setCell ta (.int .i64 n)):=by
 rw [rls];simp only [Sem.run_bind,rl_partsEa,rl_partsE,Result.andThen];simp [ReflectliteValue.flagAddr,loadVar,isAgg,underlying,Tryz.underlying62,hb,Result.andThen,rl_directE,storeVar,Value.cells,storeCells,Addr.add];rw [run_store Tryz.prog W ta _ _ (by rfl)];simp [ht,hf]
def asWorld (t:Addr) (n:Int) (w:World):World:=((((w.alloc (.cells #[.pointer (some t)] 267)).alloc (.cells #[.pointer (some ⟨13,267,none⟩),.pointer (some ⟨w.heap.size,0,none⟩),.int .u64 150] 313)).alloc (.cells #[.pointer (some ⟨13,267,none⟩),.pointer (some ⟨w.heap.size,0,none⟩),.int .u64 150] 313)).alloc (.cells #[.int .i64 n] 62)).setCell t (.int .i64 n)
set_option maxHeartbeats 4000000 in
theorem as_errno (n:Int) (t:Addr) (old:Value) (w:World) (hg:w.cell? ⟨4,0,none⟩=some (.iface 344 (.agg #[.pointer (some ⟨13,31,none⟩)]))) (ht0:w.cell? t=some old) (hf0:w.frozen? t=false) :
  Calls Tryz.prog 174 #[.iface 62 (.int .i64 n),.iface 267 (.pointer (some t))] w fun ev w'=>ev = .returned (.bool true)∧w'=asWorld t n w:=by
 have h6:=@run_callFunc_extern Tryz.prog 221 _ (fun args=>ReflectliteValue.unpack (args.getD 0 (.tuple #[]))) Tryz.func221 (by kernel_rfl) (by kernel_rfl) (by kernel_rfl) (by kernel_rfl)
 have h7:=@run_callFunc_extern Tryz.prog 222 _ (ReflectliteValue.methodAny (ReflectliteValue.valueError "reflectlite.Value.Type" 0) (fun t _ _ _=>ReflectliteType.toType t)) Tryz.func222 (by kernel_rfl) (by kernel_rfl) (by kernel_rfl) (by kernel_rfl)
 have h8:=@run_callFunc_extern Tryz.prog 223 _ (ReflectliteValue.method (ReflectliteValue.valueError "reflectlite.Value.IsNil" 0) ReflectliteValue.isNil) Tryz.func223 (by kernel_rfl) (by kernel_rfl) (by kernel_rfl) (by kernel_rfl)
 have h27:=@run_callFunc_extern Tryz.prog 296 _ (ReflectliteType.abiMethod fun t=>do pure (.int .u8 (← Rtype.kind t))) Tryz.func296 (by kernel_rfl) (by kernel_rfl) (by kernel_rfl) (by kernel_rfl)
 have h37:=@run_callFunc_extern Tryz.prog 322 _ (ReflectliteType.method ReflectliteType.elem) Tryz.func322 (by kernel_rfl) (by kernel_rfl) (by kernel_rfl) (by kernel_rfl)
 have h38:=@run_callFunc_extern Tryz.prog 323 _ (ReflectliteType.relation "Implements" ReflectliteType.implements_) Tryz.func323 (by kernel_rfl) (by kernel_rfl) (by kernel_rfl) (by kernel_rfl)
 have h10:=@run_callFunc_extern Tryz.prog 253 _ ReflectliteType.typeOf Tryz.func253 (by kernel_rfl) (by kernel_rfl) (by kernel_rfl) (by kernel_rfl)
 have h35:=@run_callFunc_extern Tryz.prog 320 _ (ReflectliteType.relation "AssignableTo" ReflectliteType.assignableTo) Tryz.func320 (by kernel_rfl) (by kernel_rfl) (by kernel_rfl) (by kernel_rfl)
 have h11:=@run_callFunc_extern Tryz.prog 254 _ (ReflectliteValue.method (ReflectliteValue.valueError "reflectlite.Value.Elem" 0) ReflectliteValue.elem) Tryz.func254 (by kernel_rfl) (by kernel_rfl) (by kernel_rfl) (by kernel_rfl)
 have h12:=@run_callFunc_extern Tryz.prog 255 _ ReflectliteValue.set Tryz.func255 (by kernel_rfl) (by kernel_rfl) (by kernel_rfl) (by kernel_rfl)
 have mA:=rl_methodAssignableTo
 have aE:=rl_assignableE
 have vE:=rl_valueOfE
 have tE:=rl_typeOfE
 have f6:=rl_valueOfP
 have f7:=rl_typeP
 have mK:=rl_methodKind
 have mE:=rl_methodElem
 have mI:=rl_methodImplements
 have kP:=rl_kindP
 have kE:=rl_kindE
 have eP:=rl_elemP
 have iE:=rl_implementsE
 have n8:=rl_isNilP ⟨w.heap.size,0,none⟩ t ((w.alloc (.cells #[.pointer (some t)] 267)).alloc (.cells #[.pointer (some ⟨13,267,none⟩),.pointer (some ⟨w.heap.size,0,none⟩),.int .u64 150] 313)) (by simp)
 have hlt:4 < w.heap.size:=by
  rcases Nat.lt_or_ge 4 w.heap.size with h | h
  ·exact h
  ·simp [World.cell?,Array.getElem?_eq_none h] at hg
 have hg2:((w.alloc (.cells #[.pointer (some t)] 267)).alloc (.cells #[.pointer (some ⟨13,267,none⟩),.pointer (some ⟨w.heap.size,0,none⟩),.int .u64 150] 313)).cell? ⟨4,0,none⟩=some (.iface 344 (.agg #[.pointer (some ⟨13,31,none⟩)])):=by
  rw [World.cell?_alloc_lt _ _ ⟨4,0,none⟩ (by first | (simp;done) | (simp;omega)),World.cell?_alloc_lt _ _ ⟨4,0,none⟩ hlt];exact hg
 have htl:t.block < w.heap.size:=by
  rcases Nat.lt_or_ge t.block w.heap.size with h | h
  ·exact h
  ·simp [World.cell?,Array.getElem?_eq_none h] at ht0
 have el:=rl_elemVP ⟨w.heap.size,0,none⟩ t (((w.alloc (.cells #[.pointer (some t)] 267)).alloc (.cells #[.pointer (some ⟨13,267,none⟩),.pointer (some ⟨w.heap.size,0,none⟩),.int .u64 150] 313)).alloc (.cells #[.pointer (some ⟨13,267,none⟩),.pointer (some ⟨w.heap.size,0,none⟩),.int .u64 150] 313)) (by rw [World.cell?_alloc_lt _ _ ⟨w.heap.size,0,none⟩ (by simp;omega)];simp)
 have st:=rl_setE t ⟨w.heap.size+1+1+1,0,none⟩ n old ((((w.alloc (.cells #[.pointer (some t)] 267)).alloc (.cells #[.pointer (some ⟨13,267,none⟩),.pointer (some ⟨w.heap.size,0,none⟩),.int .u64 150] 313)).alloc (.cells #[.pointer (some ⟨13,267,none⟩),.pointer (some ⟨w.heap.size,0,none⟩),.int .u64 150] 313)).alloc (.cells #[.int .i64 n] 62))
  (by rw [World.cell?_alloc_at _ _ _ _ (by simp)];rfl)
  (by rw [World.cell?_alloc_lt _ _ t (by simp;omega),World.cell?_alloc_lt _ _ t (by simp;omega),World.cell?_alloc_lt _ _ t (by simp;omega),World.cell?_alloc_lt _ _ t htl];exact ht0)
  (by rw [World.frozen?_alloc_old _ _ t (by simp;omega),World.frozen?_alloc_old _ _ t (by simp;omega),World.frozen?_alloc_old _ _ t (by simp;omega),World.frozen?_alloc_old _ _ t (Nat.ne_of_lt htl)];exact hf0)
 go_enter Tryz.func174,Tryz.ntmps174
 go_wp2
 refine wp_loop_rounds 1 ?_;rw [rounds_succ]
 go_wp2
 go_ret
 exact ⟨rfl,rfl⟩
theorem unwrap_at (a:Addr) (n:Int) (w:World) (ha:w.cell? a=some (.int .i64 n)):Calls Tryz.prog 312 #[.pointer (some a)] w fun e w'=>e = .returned (.iface 62 (.int .i64 n))∧w'=w:=by
 go_enter Tryz.func312,Tryz.ntmps312
 go_wp2
 go_ret
 exact ⟨rfl,rfl⟩
theorem rl_methodUnwrap (h:Value) (w:World):(Go.method 512 194 h "Unwrap").run Tryz.prog w = .ok (312,h) w:=by kernel_rfl
theorem rl_noAs (v:Value) (xT:TypeId) (w:World):(Instr.typeAssert (.iface 194 v) xT 349 true).run Tryz.prog w = .ok (.tuple #[.nilIface,.bool false]) w:=run_typeAssert_lacksB Tryz.underlying349 (by kernel_rfl) (by kernel_rfl) v xT w
theorem rl_unwraps (v:Value) (xT:TypeId) (w:World):(Instr.typeAssert (.iface 194 v) xT 219 true).run Tryz.prog w = .ok (.tuple #[.iface 194 v,.bool true]) w:=run_typeAssert_hasB Tryz.underlying219 (by kernel_rfl) v xT w
end Go.Proofs.YthnjfeielmbfkaaGreatDoor
namespace Go.Proofs.YthnjfeielmbfkaaGreatDoor
open Go.RowKit Go.Extern.Stop Go.Stop Go.Extern
set_option maxHeartbeats 8000000 in
theorem as_at (n:Int) (a t:Addr) (old:Value) (w:World) (hg:w.cell? ⟨4,0,none⟩=some (.iface 344 (.agg #[.pointer (some ⟨13,31,none⟩)]))) (ha:w.cell? a=some (.int .i64 n)) (ht0:w.cell? t=some old) (hf0:w.frozen? t=false) :
  Calls Tryz.prog 174 #[.iface 194 (.pointer (some a)),.iface 267 (.pointer (some t))] w fun ev w'=>ev = .returned (.bool true)∧w'=asWorld t n w:=by
 have h6:=@run_callFunc_extern Tryz.prog 221 _ (fun args=>ReflectliteValue.unpack (args.getD 0 (.tuple #[]))) Tryz.func221 (by kernel_rfl) (by kernel_rfl) (by kernel_rfl) (by kernel_rfl)
 have h7:=@run_callFunc_extern Tryz.prog 222 _ (ReflectliteValue.methodAny (ReflectliteValue.valueError "reflectlite.Value.Type" 0) (fun t _ _ _=>ReflectliteType.toType t)) Tryz.func222 (by kernel_rfl) (by kernel_rfl) (by kernel_rfl) (by kernel_rfl)
 have h8:=@run_callFunc_extern Tryz.prog 223 _ (ReflectliteValue.method (ReflectliteValue.valueError "reflectlite.Value.IsNil" 0) ReflectliteValue.isNil) Tryz.func223 (by kernel_rfl) (by kernel_rfl) (by kernel_rfl) (by kernel_rfl)
 have h27:=@run_callFunc_extern Tryz.prog 296 _ (ReflectliteType.abiMethod fun t=>do pure (.int .u8 (← Rtype.kind t))) Tryz.func296 (by kernel_rfl) (by kernel_rfl) (by kernel_rfl) (by kernel_rfl)
 have h37:=@run_callFunc_extern Tryz.prog 322 _ (ReflectliteType.method ReflectliteType.elem) Tryz.func322 (by kernel_rfl) (by kernel_rfl) (by kernel_rfl) (by kernel_rfl)
 have h38:=@run_callFunc_extern Tryz.prog 323 _ (ReflectliteType.relation "Implements" ReflectliteType.implements_) Tryz.func323 (by kernel_rfl) (by kernel_rfl) (by kernel_rfl) (by kernel_rfl)
 have h10:=@run_callFunc_extern Tryz.prog 253 _ ReflectliteType.typeOf Tryz.func253 (by kernel_rfl) (by kernel_rfl) (by kernel_rfl) (by kernel_rfl)
 have h35:=@run_callFunc_extern Tryz.prog 320 _ (ReflectliteType.relation "AssignableTo" ReflectliteType.assignableTo) Tryz.func320 (by kernel_rfl) (by kernel_rfl) (by kernel_rfl) (by kernel_rfl)
 have h11:=@run_callFunc_extern Tryz.prog 254 _ (ReflectliteValue.method (ReflectliteValue.valueError "reflectlite.Value.Elem" 0) ReflectliteValue.elem) Tryz.func254 (by kernel_rfl) (by kernel_rfl) (by kernel_rfl) (by kernel_rfl)
 have h12:=@run_callFunc_extern Tryz.prog 255 _ ReflectliteValue.set Tryz.func255 (by kernel_rfl) (by kernel_rfl) (by kernel_rfl) (by kernel_rfl)
 have mA:=rl_methodAssignableTo
 have aE:=rl_assignableE
 have vE:=rl_valueOfE
 have tE:=rl_typeOfE
 have f6:=rl_valueOfP
 have f7:=rl_typeP
 have mK:=rl_methodKind
 have mE:=rl_methodElem
 have mI:=rl_methodImplements
 have kP:=rl_kindP
 have kE:=rl_kindE
 have eP:=rl_elemP
 have iE:=rl_implementsE
 have n8:=rl_isNilP ⟨w.heap.size,0,none⟩ t ((w.alloc (.cells #[.pointer (some t)] 267)).alloc (.cells #[.pointer (some ⟨13,267,none⟩),.pointer (some ⟨w.heap.size,0,none⟩),.int .u64 150] 313)) (by simp)
 have hlt:4 < w.heap.size:=by
  rcases Nat.lt_or_ge 4 w.heap.size with h | h
  ·exact h
  ·simp [World.cell?,Array.getElem?_eq_none h] at hg
 have hg2:((w.alloc (.cells #[.pointer (some t)] 267)).alloc (.cells #[.pointer (some ⟨13,267,none⟩),.pointer (some ⟨w.heap.size,0,none⟩),.int .u64 150] 313)).cell? ⟨4,0,none⟩=some (.iface 344 (.agg #[.pointer (some ⟨13,31,none⟩)])):=by
  rw [World.cell?_alloc_lt _ _ ⟨4,0,none⟩ (by first | (simp;done) | (simp;omega)),World.cell?_alloc_lt _ _ ⟨4,0,none⟩ hlt];exact hg
 have htl:t.block < w.heap.size:=by
  rcases Nat.lt_or_ge t.block w.heap.size with h | h
  ·exact h
  ·simp [World.cell?,Array.getElem?_eq_none h] at ht0
 have el:=rl_elemVP ⟨w.heap.size,0,none⟩ t (((w.alloc (.cells #[.pointer (some t)] 267)).alloc (.cells #[.pointer (some ⟨13,267,none⟩),.pointer (some ⟨w.heap.size,0,none⟩),.int .u64 150] 313)).alloc (.cells #[.pointer (some ⟨13,267,none⟩),.pointer (some ⟨w.heap.size,0,none⟩),.int .u64 150] 313)) (by rw [World.cell?_alloc_lt _ _ ⟨w.heap.size,0,none⟩ (by simp;omega)];simp)
 have st:=rl_setE t ⟨w.heap.size+1+1+1,0,none⟩ n old ((((w.alloc (.cells #[.pointer (some t)] 267)).alloc (.cells #[.pointer (some ⟨13,267,none⟩),.pointer (some ⟨w.heap.size,0,none⟩),.int .u64 150] 313)).alloc (.cells #[.pointer (some ⟨13,267,none⟩),.pointer (some ⟨w.heap.size,0,none⟩),.int .u64 150] 313)).alloc (.cells #[.int .i64 n] 62))
  (by rw [World.cell?_alloc_at _ _ _ _ (by simp)];rfl)
  (by rw [World.cell?_alloc_lt _ _ t (by simp;omega),World.cell?_alloc_lt _ _ t (by simp;omega),World.cell?_alloc_lt _ _ t (by simp;omega),World.cell?_alloc_lt _ _ t htl];exact ht0)
  (by rw [World.frozen?_alloc_old _ _ t (by simp;omega),World.frozen?_alloc_old _ _ t (by simp;omega),World.frozen?_alloc_old _ _ t (by simp;omega),World.frozen?_alloc_old _ _ t (Nat.ne_of_lt htl)];exact hf0)
 have tA:=rl_typeOfA
 have aA:=rl_assignableA
 have nA:=rl_noAs
 have uA:=rl_unwraps
 have mU:=rl_methodUnwrap
 have hal:a.block < w.heap.size:=by
  rcases Nat.lt_or_ge a.block w.heap.size with h | h
  ·exact h
  ·simp [World.cell?,Array.getElem?_eq_none h] at ha
 have ha3:(((w.alloc (.cells #[.pointer (some t)] 267)).alloc (.cells #[.pointer (some ⟨13,267,none⟩),.pointer (some ⟨w.heap.size,0,none⟩),.int .u64 150] 313)).alloc (.cells #[.pointer (some ⟨13,267,none⟩),.pointer (some ⟨w.heap.size,0,none⟩),.int .u64 150] 313)).cell? a=some (.int .i64 n):=by
  rw [World.cell?_alloc_lt _ _ a (by simp;omega),World.cell?_alloc_lt _ _ a (by simp;omega),World.cell?_alloc_lt _ _ a hal];exact ha
 go_enter Tryz.func174,Tryz.ntmps174
 go_wp2
 refine wp_loop_rounds 2 ?_;rw [rounds_succ]
 go_wp2_with (go_at_call 312;refine (unwrap_at a n _ ha3).mono ?_;rintro e w' ⟨rfl,rfl⟩)
 rw [rounds_succ]
 go_wp2
 go_ret
 exact ⟨rfl,rfl⟩
end Go.Proofs.YthnjfeielmbfkaaGreatDoor
namespace Go.Proofs.YthnjfeielmbfkaaGreatDoor
open Go.Av
def dNum (n:Int):D:=.v (.int .i64 n)
def dRow (r:List Int):D:=dInts none r
end Go.Proofs.YthnjfeielmbfkaaGreatDoor
namespace Go.Proofs.YthnjfeielmbfkaaGreatDoor
open Go.Av
def numStep (st:List (List Int)×List Int) (l:List Int):List (List Int)×List Int:=
 if idx (fun x=>x == l) st.1 < 0 then (st.1 ++ [l],st.2 ++ [(st.1.length:Int)]) else (st.1,st.2 ++ [idx (fun x=>x == l) st.1])
def numSt (L:List (List Int)) (n:Nat):List (List Int)×List Int:=(L.take n).foldl numStep ([],[])
def numberF (L:List (List Int)):List Int:=(numSt L L.length).2
end Go.Proofs.YthnjfeielmbfkaaGreatDoor
namespace Go.Proofs.YthnjfeielmbfkaaGreatDoor
open Go.Av
structure Tab where
 next:List (List Int)
 tells:List (List Int)
end Go.Proofs.YthnjfeielmbfkaaGreatDoor
namespace Go.Proofs.YthnjfeielmbfkaaGreatDoor
open Go.Av
def dErr:Option (Int×Option Nat)→D
 | none=>.v .nilIface
 | some (c,none)=>.ifc 62 (.v (.int .i64 c))
 | some (c,some s)=>.ifc 194 (.ip [.v (.int .i64 c),.v (.int .i64 s)])
end Go.Proofs.YthnjfeielmbfkaaGreatDoor
namespace Go.Proofs.YthnjfeielmbfkaaGreatDoor
open Go.RowKit Go.Extern.Stop Go.Stop Go.Extern
open Go.Av
def errType:Value:=.iface 344 (.agg #[.pointer (some ⟨13,31,none⟩)])
theorem asWorld_grew (n:Int) (w:World):Grew w (asWorld ⟨w.heap.size,0,none⟩ n (w.alloc (.cells #[.int .i64 0] 62))):=by
 unfold asWorld;refine ⟨by simp<;>omega,rfl,rfl,rfl,fun b hb=>?_⟩;rw [Below.heap_setCell _ _ _ _ (by simp;omega)];(repeat rw [Below.heap_alloc _ _ _ (by simp;omega)]);exact Below.heap_alloc _ _ _ hb
theorem asWorld_cell (n:Int) (w:World):(asWorld ⟨w.heap.size,0,none⟩ n (w.alloc (.cells #[.int .i64 0] 62))).cell? ⟨w.heap.size,0,none⟩=some (.int .i64 n):=by
 unfold asWorld
 have hm:((((w.alloc (.cells #[.int .i64 0] 62)).alloc (.cells #[.pointer (some ⟨w.heap.size,0,none⟩)] 267)).alloc (.cells #[.pointer (some ⟨13,267,none⟩),.pointer (some ⟨(w.alloc (.cells #[.int .i64 0] 62)).heap.size,0,none⟩),.int .u64 150] 313)).alloc (.cells #[.pointer (some ⟨13,267,none⟩),.pointer (some ⟨(w.alloc (.cells #[.int .i64 0] 62)).heap.size,0,none⟩),.int .u64 150] 313) |>.alloc (.cells #[.int .i64 n] 62)).cell? ⟨w.heap.size,0,none⟩=some (.int .i64 0):=by
  rw [World.cell?_alloc_lt _ _ _ (by simp;omega),World.cell?_alloc_lt _ _ _ (by simp;omega),World.cell?_alloc_lt _ _ _ (by simp;omega),World.cell?_alloc_lt _ _ _ (by simp)];simp
 exact World.cell?_setCell_same _ _ _ hm
theorem tell_nil (w:World):Calls Tryz.prog 126 #[.nilIface] w fun e w'=>e = .returned (.int .i64 0)∧w'=w:=by
 go_enter Tryz.func126,Tryz.ntmps126
 go_wp2
 go_ret
 exact ⟨rfl,rfl⟩
set_option maxHeartbeats 1000000 in
theorem tell_errno (n:Int) (w:World) (hg:w.cell? ⟨4,0,none⟩=some errType):Calls Tryz.prog 126 #[.iface 62 (.int .i64 n)] w fun e w'=>e = .returned (.int .i64 n)∧Grew w w':=by
 have hlt:4 < w.heap.size:=by
  rcases Nat.lt_or_ge 4 w.heap.size with h | h
  ·exact h
  ·simp [World.cell?,Array.getElem?_eq_none h] at hg
 have hgA:(w.alloc (.cells #[.int .i64 0] 62)).cell? ⟨4,0,none⟩=some errType:=by rw [World.cell?_alloc_lt _ _ ⟨4,0,none⟩ hlt];exact hg
 have htA:(w.alloc (.cells #[.int .i64 0] 62)).cell? ⟨w.heap.size,0,none⟩=some (.int .i64 0):=by simp
 have hfA:(w.alloc (.cells #[.int .i64 0] 62)).frozen? ⟨w.heap.size,0,none⟩=false:=by simp
 have hc:=asWorld_cell n w
 have hgr:=asWorld_grew n w
 go_enter Tryz.func126,Tryz.ntmps126
 go_wp2_with (go_at_call 174;refine (as_errno n _ (.int .i64 0) _ hgA htA hfA).mono ?_;rintro e w' ⟨rfl,rfl⟩)
 go_ret
 exact ⟨rfl,hgr⟩
set_option maxHeartbeats 1000000 in
theorem tell_at (n:Int) (a:Addr) (w:World) (hg:w.cell? ⟨4,0,none⟩=some errType) (ha:w.cell? a=some (.int .i64 n)):Calls Tryz.prog 126 #[.iface 194 (.pointer (some a))] w fun e w'=>e = .returned (.int .i64 n)∧Grew w w':=by
 have hlt:4 < w.heap.size:=by
  rcases Nat.lt_or_ge 4 w.heap.size with h | h
  ·exact h
  ·simp [World.cell?,Array.getElem?_eq_none h] at hg
 have hal:a.block < w.heap.size:=cell_lt ha
 have hgA:(w.alloc (.cells #[.int .i64 0] 62)).cell? ⟨4,0,none⟩=some errType:=by rw [World.cell?_alloc_lt _ _ ⟨4,0,none⟩ hlt];exact hg
 have haA:(w.alloc (.cells #[.int .i64 0] 62)).cell? a=some (.int .i64 n):=by rw [World.cell?_alloc_lt _ _ a hal];exact ha
 have htA:(w.alloc (.cells #[.int .i64 0] 62)).cell? ⟨w.heap.size,0,none⟩=some (.int .i64 0):=by simp
 have hfA:(w.alloc (.cells #[.int .i64 0] 62)).frozen? ⟨w.heap.size,0,none⟩=false:=by simp
 have hc:=asWorld_cell n w
 have hgr:=asWorld_grew n w
 go_enter Tryz.func126,Tryz.ntmps126
 go_wp2_with (go_at_call 174;refine (as_at n a _ (.int .i64 0) _ hgA haA htA hfA).mono ?_;rintro e w' ⟨rfl,rfl⟩)
 go_ret
 exact ⟨rfl,hgr⟩
def codeF:Option (Int×Option Nat)→Int
 | none=>0
 | some (c,_)=>c
def placeF:Option (Int×Option Nat)→Int
 | some (_,some s)=>s
 | _=>-1
def HasErr (G:Glob):Prop:=G 4=some (.ip [.v errType])
theorem HasErr.cell {G:Glob} (h:HasErr G) {w:World} {X:Nat→Prop} (hg:∀ g x,G g=some x→RD w X (.pointer (some ⟨g,0,none⟩)) x):w.cell? ⟨4,0,none⟩=some errType:=by
 have:=hg _ _ h
 obtain ⟨b,off,f,hb,_,_,hc,hr⟩:=this.ip_inv
 simp only [Value.pointer.injEq,Option.some.injEq,Addr.mk.injEq,and_true] at hb
 obtain ⟨rfl,rfl⟩:=hb
 have h1:=hc 0 (by simp)
 have h2:=(hr 0 _ rfl).scalar
 rw [h2] at h1;exact h1
theorem tell_spec (G:Glob) (hG:HasErr G) (e:Option (Int×Option Nat)):PureC Tryz.prog G 126 [dErr e] (.v (.int .i64 (codeF e))):=by
 refine PureC.of_calls (Fun.of Tryz.func126 rfl rfl) fun X w vs hsz hrd hgl=>?_
 have hg:=hG.cell hgl
 obtain ⟨v,rfl⟩:∃ v,vs = #[v]:=Array.size_eq_one_iff.1 hsz
 have hv:=hrd 0 v _ rfl rfl
 match e,hv with
 | none,hv=>
  have:=hv.scalar
  subst this;exact (tell_nil w).mono fun e w' ⟨he,hw⟩=>⟨_,he,by rw [hw];exact Grew.refl w,.v _⟩
 | some (c,none),hv=>
  obtain ⟨u,rfl,hu⟩:=hv.ifc_inv
  have:=hu.scalar
  subst this;exact (tell_errno c w hg).mono fun e w' ⟨he,hw⟩=>⟨_,he,hw,.v _⟩
 | some (c,some s),hv=>
  obtain ⟨u,rfl,hu⟩:=hv.ifc_inv
  obtain ⟨b,off,f,rfl,_,_,hc,hr⟩:=hu.ip_inv
  have h1:=hc 0 (by simp)
  have h2:=(hr 0 _ rfl).scalar
  rw [h2] at h1;exact (tell_at c ⟨b,off,none⟩ w hg h1).mono fun e w' ⟨he,hw⟩=>⟨_,he,hw,.v _⟩
end Go.Proofs.YthnjfeielmbfkaaGreatDoor
