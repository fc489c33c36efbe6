/-
  Texts that belong together,in one file: E1,E2,F3,F4,F5,F6,E3,B1,F7,P1,P2,F10,F16,B2,B4,B5,B6,P10,B8.
-/
import Derived.Test.YtpboiimemmfkiaaGreatDoorRp19
import Derived.Test.YtpboiimemmfkiaaGreatDoorProg
import Derived.WalkKit
import Derived.LaidEql
import Derived.Stop.Asserts
import Derived.RowKitTokens
set_option linter.unusedSimpArgs false
set_option linter.unusedVariables false
namespace Go.Proofs.YtpboiimemmfkiaaGreatDoor
open Go.RowKit Go.Extern.Stop Go.Stop Go.Extern
theorem rl_valueOfP (t:Addr) (w:World):(ReflectliteValue.unpack (.iface 203 (.pointer (some t)))).run Tryz.prog w
  = .ok (.agg #[.pointer (some ⟨13,203,none⟩),.pointer (some ⟨w.heap.size,0,none⟩),.int .u64 150]) (w.alloc (.cells #[.pointer (some t)] 203)):=by kernel_rfl
theorem rl_typeP (a:Addr) (w:World):(ReflectliteValue.methodAny (ReflectliteValue.valueError "reflectlite.Value.Type" 0) (fun t _ _ _=>ReflectliteType.toType t) #[.agg #[.pointer (some ⟨13,203,none⟩),.pointer (some a),.int .u64 150]]).run Tryz.prog w
  = .ok (.iface 314 (.agg #[.pointer (some ⟨13,203,none⟩)])) w:=by kernel_rfl
theorem rl_methodKind (h:Value) (w:World):(Go.method 542 314 (.agg #[h]) "Kind").run Tryz.prog w = .ok (335,h) w:=by kernel_rfl
theorem rl_kindP (w:World):((ReflectliteType.abiMethod fun t=>(fun a:Nat=>Value.int IntKind.u8 (a:Int)) <$> Rtype.kind t) #[.pointer (some ⟨13,203,none⟩)]).run Tryz.prog w = .ok (.int .u8 22) w:=by kernel_rfl
theorem rl_kindE (w:World):((ReflectliteType.abiMethod fun t=>(fun a:Nat=>Value.int IntKind.u8 (a:Int)) <$> Rtype.kind t) #[.pointer (some ⟨13,30,none⟩)]).run Tryz.prog w = .ok (.int .u8 2) w:=by kernel_rfl
theorem rlm (z:Sem Value) (f:TypeId→Addr→Nat→Nat→Sem Value) (v:Value) :
  ReflectliteValue.method z f #[v]=(do match ← ReflectliteValue.parts v with | none=>z | some (t,a,fl)=>f t a fl (fl % 32)):=rfl
theorem rl_partsP (a:Addr) (w:World):(ReflectliteValue.parts (.agg #[.pointer (some ⟨13,203,none⟩),.pointer (some a),.int .u64 150])).run Tryz.prog w = .ok (some (203,a,150)) w:=by kernel_rfl
theorem rl_isNilP (a p:Addr) (W:World) (ha:W.cell? a=some (.pointer (some p))) :
  (ReflectliteValue.method (ReflectliteValue.valueError "reflectlite.Value.IsNil" 0) ReflectliteValue.isNil #[.agg #[.pointer (some ⟨13,203,none⟩),.pointer (some a),.int .u64 150]]).run Tryz.prog W = .ok (.bool false) W:=by
 rw [rlm];simp only [Sem.run_bind,rl_partsP,Result.andThen];simp [ReflectliteValue.isNil,loadVar,isAgg,underlying,Tryz.underlying203,ha,Result.andThen]
theorem rl_methodElem (h:Value) (w:World):(Go.method 542 314 (.agg #[h]) "Elem").run Tryz.prog w = .ok (358,.agg #[h]) w:=by kernel_rfl
theorem rl_methodImplements (h:Value) (w:World):(Go.method 542 314 (.agg #[h]) "Implements").run Tryz.prog w = .ok (359,.agg #[h]) w:=by kernel_rfl
theorem rl_methodAssignableTo (h:Value) (w:World):(Go.method 542 314 (.agg #[h]) "AssignableTo").run Tryz.prog w = .ok (356,.agg #[h]) w:=by kernel_rfl
theorem rl_elemP (w:World):(ReflectliteType.method ReflectliteType.elem #[.agg #[.pointer (some ⟨13,203,none⟩)]]).run Tryz.prog w = .ok (.iface 314 (.agg #[.pointer (some ⟨13,30,none⟩)])) w:=by kernel_rfl
theorem rl_implementsE (w:World):(ReflectliteType.relation "Implements" ReflectliteType.implements_ #[.agg #[.pointer (some ⟨13,30,none⟩)],.iface 314 (.agg #[.pointer (some ⟨13,39,none⟩)])]).run Tryz.prog w = .ok (.bool true) w:=by kernel_rfl
theorem rl_typeOfE (v:Value) (w:World):(ReflectliteType.typeOf #[.iface 30 v]).run Tryz.prog w = .ok (.iface 314 (.agg #[.pointer (some ⟨13,30,none⟩)])) w:=by kernel_rfl
theorem rl_typeOfA (v:Value) (w:World):(ReflectliteType.typeOf #[.iface 222 v]).run Tryz.prog w = .ok (.iface 314 (.agg #[.pointer (some ⟨13,222,none⟩)])) w:=by kernel_rfl
theorem rl_assignableE (w:World):(ReflectliteType.relation "AssignableTo" ReflectliteType.assignableTo #[.agg #[.pointer (some ⟨13,30,none⟩)],.iface 314 (.agg #[.pointer (some ⟨13,30,none⟩)])]).run Tryz.prog w = .ok (.bool true) w:=by kernel_rfl
theorem rl_assignableA (w:World):(ReflectliteType.relation "AssignableTo" ReflectliteType.assignableTo #[.agg #[.pointer (some ⟨13,222,none⟩)],.iface 314 (.agg #[.pointer (some ⟨13,30,none⟩)])]).run Tryz.prog w = .ok (.bool false) w:=by kernel_rfl
theorem rl_valueOfE (n:Int) (w:World):(ReflectliteValue.unpack (.iface 30 (.int .i64 n))).run Tryz.prog w
  = .ok (.agg #[.pointer (some ⟨13,30,none⟩),.pointer (some ⟨w.heap.size,0,none⟩),.int .u64 130]) (w.alloc (.cells #[.int .i64 n] 30)):=by kernel_rfl
theorem rl_elemOfP (w:World):(Rtype.elem? 203).run Tryz.prog w = .ok (some 30) w:=by kernel_rfl
theorem rl_mkE (p:Addr) (w:World):(ReflectliteValue.mk 30 p ReflectliteValue.flagAddr).run Tryz.prog w = .ok (.agg #[.pointer (some ⟨13,30,none⟩),.pointer (some p),.int .u64 386]) w:=by kernel_rfl
theorem rl_elemVP (a p:Addr) (W:World) (ha:W.cell? a=some (.pointer (some p))) :
  (ReflectliteValue.method (ReflectliteValue.valueError "reflectlite.Value.Elem" 0) ReflectliteValue.elem #[.agg #[.pointer (some ⟨13,203,none⟩),.pointer (some a),.int .u64 150]]).run Tryz.prog W
   = .ok (.agg #[.pointer (some ⟨13,30,none⟩),.pointer (some p),.int .u64 386]) W:=by
 rw [rlm];simp only [Sem.run_bind,rl_partsP,Result.andThen];simp [ReflectliteValue.elem,loadVar,isAgg,underlying,Tryz.underlying203,ha,Result.andThen,rl_elemOfP,rl_mkE]
theorem rls (v x:Value):ReflectliteValue.set #[v,x]=(do
  let (some (dst,a,fl),some (src,b,_)):=(← ReflectliteValue.parts v,← ReflectliteValue.parts x)
   | unsupported (.noEntry "extern/(internal/reflectlite.Value).Set.zeroValue")
  if fl / ReflectliteValue.flagAddr % 2 == 0 then unsupported (.noEntry "extern/(internal/reflectlite.Value).Set.unaddressable")
  let val ← loadVar src b
  if ← Rtype.directlyAssignable dst src then storeVar dst a val
  else if ← Rtype.implements dst src then
   if (← Rtype.kind src) == 20 then
    match val with
    | .nilIface=>unsupported (.noEntry "extern/reflectlite: a nil value of one interface type handed on as a value of another")
    | _=>storeVar dst a val
   else storeVar dst a (.iface src val)
  else panicString ("reflectlite.Set: value of type " ++ (← Rtype.spelt src) ++ " is not assignable to type " ++ (← Rtype.spelt dst))
  pure (.tuple #[])):=rfl
theorem rl_partsEa (a:Addr) (w:World):(ReflectliteValue.parts (.agg #[.pointer (some ⟨13,30,none⟩),.pointer (some a),.int .u64 386])).run Tryz.prog w = .ok (some (30,a,386)) w:=by kernel_rfl
theorem rl_partsE (a:Addr) (w:World):(ReflectliteValue.parts (.agg #[.pointer (some ⟨13,30,none⟩),.pointer (some a),.int .u64 130])).run Tryz.prog w = .ok (some (30,a,130)) w:=by kernel_rfl
theorem rl_directE (w:World):(Rtype.directlyAssignable 30 30).run Tryz.prog w = .ok true w:=by kernel_rfl
theorem rl_setE (ta b:Addr) (n:Int) (old:Value) (W:World) (hb:W.cell? b=some (.int .i64 n)) (ht:W.cell? ta=some old) (hf:W.frozen? ta=false) :
  (ReflectliteValue.set #[.agg #[.pointer (some ⟨13,30,none⟩),.pointer (some ta),.int .u64 386],.agg #[.pointer (some ⟨13,30,none⟩),.pointer (some b),.int .u64 130]]).run Tryz.prog W
   = .ok (.tuple #[]) (W.setCell ta (.int .i64 n)):=by
 rw [rls];simp only [Sem.run_bind,rl_partsEa,rl_partsE,Result.andThen];simp [ReflectliteValue.flagAddr,loadVar,isAgg,underlying,Tryz.underlying30,hb,Result.andThen,rl_directE,storeVar,Value.cells,storeCells,Addr.add];rw [run_store Tryz.prog W ta _ _ (by rfl)];simp [ht,hf]
def asWorld (t:Addr) (n:Int) (w:World):World:=((((w.alloc (.cells #[.pointer (some t)] 203)).alloc (.cells #[.pointer (some ⟨13,203,none⟩),.pointer (some ⟨w.heap.size,0,none⟩),.int .u64 150] 260)).alloc (.cells #[.pointer (some ⟨13,203,none⟩),.pointer (some ⟨w.heap.size,0,none⟩),.int .u64 150] 260)).alloc (.cells #[.int .i64 n] 30)).setCell t (.int .i64 n)
set_option maxHeartbeats 4000000 in
theorem as_errno (n:Int) (t:Addr) (old:Value) (w:World) (hg:w.cell? ⟨4,0,none⟩=some (.iface 314 (.agg #[.pointer (some ⟨13,39,none⟩)]))) (ht0:w.cell? t=some old) (hf0:w.frozen? t=false) :
  Calls Tryz.prog 112 #[.iface 30 (.int .i64 n),.iface 203 (.pointer (some t))] w fun ev w'=>ev = .returned (.bool true)∧w'=asWorld t n w:=by
 have h6:=@run_callFunc_extern Tryz.prog 167 _ (fun args=>ReflectliteValue.unpack (args.getD 0 (.tuple #[]))) Tryz.func167 (by kernel_rfl) (by kernel_rfl) (by kernel_rfl) (by kernel_rfl)
 have h7:=@run_callFunc_extern Tryz.prog 168 _ (ReflectliteValue.methodAny (ReflectliteValue.valueError "reflectlite.Value.Type" 0) (fun t _ _ _=>ReflectliteType.toType t)) Tryz.func168 (by kernel_rfl) (by kernel_rfl) (by kernel_rfl) (by kernel_rfl)
 have h8:=@run_callFunc_extern Tryz.prog 169 _ (ReflectliteValue.method (ReflectliteValue.valueError "reflectlite.Value.IsNil" 0) ReflectliteValue.isNil) Tryz.func169 (by kernel_rfl) (by kernel_rfl) (by kernel_rfl) (by kernel_rfl)
 have h27:=@run_callFunc_extern Tryz.prog 335 _ (ReflectliteType.abiMethod fun t=>do pure (.int .u8 (← Rtype.kind t))) Tryz.func335 (by kernel_rfl) (by kernel_rfl) (by kernel_rfl) (by kernel_rfl)
 have h37:=@run_callFunc_extern Tryz.prog 358 _ (ReflectliteType.method ReflectliteType.elem) Tryz.func358 (by kernel_rfl) (by kernel_rfl) (by kernel_rfl) (by kernel_rfl)
 have h38:=@run_callFunc_extern Tryz.prog 359 _ (ReflectliteType.relation "Implements" ReflectliteType.implements_) Tryz.func359 (by kernel_rfl) (by kernel_rfl) (by kernel_rfl) (by kernel_rfl)
 have h10:=@run_callFunc_extern Tryz.prog 219 _ ReflectliteType.typeOf Tryz.func219 (by kernel_rfl) (by kernel_rfl) (by kernel_rfl) (by kernel_rfl)
 have h35:=@run_callFunc_extern Tryz.prog 356 _ (ReflectliteType.relation "AssignableTo" ReflectliteType.assignableTo) Tryz.func356 (by kernel_rfl) (by kernel_rfl) (by kernel_rfl) (by kernel_rfl)
 have h11:=@run_callFunc_extern Tryz.prog 220 _ (ReflectliteValue.method (ReflectliteValue.valueError "reflectlite.Value.Elem" 0) ReflectliteValue.elem) Tryz.func220 (by kernel_rfl) (by kernel_rfl) (by kernel_rfl) (by kernel_rfl)
 have h12:=@run_callFunc_extern Tryz.prog 221 _ ReflectliteValue.set Tryz.func221 (by kernel_rfl) (by kernel_rfl) (by kernel_rfl) (by kernel_rfl)
 have mA:=rl_methodAssignableTo
 have aE:=rl_assignableE
 have vE:=rl_valueOfE
 have tE:=rl_typeOfE
 have f6:=rl_valueOfP
 have f7:=rl_typeP
 have mK:=rl_methodKind
 have mE:=rl_methodElem
 have mI:=rl_methodImplements
 have kP:=rl_kindP
 have kE:=rl_kindE
 have eP:=rl_elemP
 have iE:=rl_implementsE
 have n8:=rl_isNilP ⟨w.heap.size,0,none⟩ t ((w.alloc (.cells #[.pointer (some t)] 203)).alloc (.cells #[.pointer (some ⟨13,203,none⟩),.pointer (some ⟨w.heap.size,0,none⟩),.int .u64 150] 260)) (by simp)
 have hlt:4 < w.heap.size:=by
  rcases Nat.lt_or_ge 4 w.heap.size with h | h
  ·exact h
  ·simp [World.cell?,Array.getElem?_eq_none h] at hg
 have hg2:((w.alloc (.cells #[.pointer (some t)] 203)).alloc (.cells #[.pointer (some ⟨13,203,none⟩),.pointer (some ⟨w.heap.size,0,none⟩),.int .u64 150] 260)).cell? ⟨4,0,none⟩=some (.iface 314 (.agg #[.pointer (some ⟨13,39,none⟩)])):=by
  rw [World.cell?_alloc_lt _ _ ⟨4,0,none⟩ (by first | (simp;done) | (simp;omega)),World.cell?_alloc_lt _ _ ⟨4,0,none⟩ hlt];exact hg
 have htl:t.block < w.heap.size:=by
  rcases Nat.lt_or_ge t.block w.heap.size with h | h
  ·exact h
  ·simp [World.cell?,Array.getElem?_eq_none h] at ht0
 have el:=rl_elemVP ⟨w.heap.size,0,none⟩ t (((w.alloc (.cells #[.pointer (some t)] 203)).alloc (.cells #[.pointer (some ⟨13,203,none⟩),.pointer (some ⟨w.heap.size,0,none⟩),.int .u64 150] 260)).alloc (.cells #[.pointer (some ⟨13,203,none⟩),.pointer (some ⟨w.heap.size,0,none⟩),.int .u64 150] 260)) (by rw [World.cell?_alloc_lt _ _ ⟨w.heap.size,0,none⟩ (by simp;omega)];simp)
 have st:=rl_setE t ⟨w.heap.size+1+1+1,0,none⟩ n old ((((w.alloc (.cells #[.pointer (some t)] 203)).alloc (.cells #[.pointer (some ⟨13,203,none⟩),.pointer (some ⟨w.heap.size,0,none⟩),.int .u64 150] 260)).alloc (.cells #[.pointer (some ⟨13,203,none⟩),.pointer (some ⟨w.heap.size,0,none⟩),.int .u64 150] 260)).alloc (.cells #[.int .i64 n] 30))
  (by rw [World.cell?_alloc_at _ _ _ _ (by simp)];rfl)
  (by rw [World.cell?_alloc_lt _ _ t (by simp;omega),World.cell?_alloc_lt _ _ t (by simp;omega),World.cell?_alloc_lt _ _ t (by simp;omega),World.cell?_alloc_lt _ _ t htl];exact ht0)
  (by rw [World.frozen?_alloc_old _ _ t (by simp;omega),World.frozen?_alloc_old _ _ t (by simp;omega),World.frozen?_alloc_old _ _ t (by simp;omega),World.frozen?_alloc_old _ _ t (Nat.ne_of_lt htl)];exact hf0)
 go_enter Tryz.func112,Tryz.ntmps112
 go_wp2
 refine wp_loop_rounds 1 ?_;rw [rounds_succ]
 go_wp2
 go_ret
 exact ⟨rfl,rfl⟩
theorem unwrap_at (a:Addr) (n:Int) (w:World) (ha:w.cell? a=some (.int .i64 n)):Calls Tryz.prog 351 #[.pointer (some a)] w fun e w'=>e = .returned (.iface 30 (.int .i64 n))∧w'=w:=by
 go_enter Tryz.func351,Tryz.ntmps351
 go_wp2
 go_ret
 exact ⟨rfl,rfl⟩
theorem rl_methodUnwrap (h:Value) (w:World):(Go.method 542 222 h "Unwrap").run Tryz.prog w = .ok (351,h) w:=by kernel_rfl
theorem rl_noAs (v:Value) (xT:TypeId) (w:World):(Instr.typeAssert (.iface 222 v) xT 319 true).run Tryz.prog w = .ok (.tuple #[.nilIface,.bool false]) w:=run_typeAssert_lacksB Tryz.underlying319 (by kernel_rfl) (by kernel_rfl) v xT w
theorem rl_unwraps (v:Value) (xT:TypeId) (w:World):(Instr.typeAssert (.iface 222 v) xT 227 true).run Tryz.prog w = .ok (.tuple #[.iface 222 v,.bool true]) w:=run_typeAssert_hasB Tryz.underlying227 (by kernel_rfl) v xT w
end Go.Proofs.YtpboiimemmfkiaaGreatDoor
namespace Go.Proofs.YtpboiimemmfkiaaGreatDoor
open Go.RowKit Go.Extern.Stop Go.Stop Go.Extern
set_option maxHeartbeats 8000000 in
theorem as_at (n:Int) (a t:Addr) (old:Value) (w:World) (hg:w.cell? ⟨4,0,none⟩=some (.iface 314 (.agg #[.pointer (some ⟨13,39,none⟩)]))) (ha:w.cell? a=some (.int .i64 n)) (ht0:w.cell? t=some old) (hf0:w.frozen? t=false) :
  Calls Tryz.prog 112 #[.iface 222 (.pointer (some a)),.iface 203 (.pointer (some t))] w fun ev w'=>ev = .returned (.bool true)∧w'=asWorld t n w:=by
 have h6:=@run_callFunc_extern Tryz.prog 167 _ (fun args=>ReflectliteValue.unpack (args.getD 0 (.tuple #[]))) Tryz.func167 (by kernel_rfl) (by kernel_rfl) (by kernel_rfl) (by kernel_rfl)
 have h7:=@run_callFunc_extern Tryz.prog 168 _ (ReflectliteValue.methodAny (ReflectliteValue.valueError "reflectlite.Value.Type" 0) (fun t _ _ _=>ReflectliteType.toType t)) Tryz.func168 (by kernel_rfl) (by kernel_rfl) (by kernel_rfl) (by kernel_rfl)
 have h8:=@run_callFunc_extern Tryz.prog 169 _ (ReflectliteValue.method (ReflectliteValue.valueError "reflectlite.Value.IsNil" 0) ReflectliteValue.isNil) Tryz.func169 (by kernel_rfl) (by kernel_rfl) (by kernel_rfl) (by kernel_rfl)
 have h27:=@run_callFunc_extern Tryz.prog 335 _ (ReflectliteType.abiMethod fun t=>do pure (.int .u8 (← Rtype.kind t))) Tryz.func335 (by kernel_rfl) (by kernel_rfl) (by kernel_rfl) (by kernel_rfl)
 have h37:=@run_callFunc_extern Tryz.prog 358 _ (ReflectliteType.method ReflectliteType.elem) Tryz.func358 (by kernel_rfl) (by kernel_rfl) (by kernel_rfl) (by kernel_rfl)
 have h38:=@run_callFunc_extern Tryz.prog 359 _ (ReflectliteType.relation "Implements" ReflectliteType.implements_) Tryz.func359 (by kernel_rfl) (by kernel_rfl) (by kernel_rfl) (by kernel_rfl)
 have h10:=@run_callFunc_extern Tryz.prog 219 _ ReflectliteType.typeOf Tryz.func219 (by kernel_rfl) (by kernel_rfl) (by kernel_rfl) (by kernel_rfl)
 have h35:=@run_callFunc_extern Tryz.prog 356 _ (ReflectliteType.relation "AssignableTo" ReflectliteType.assignableTo) Tryz.func356 (by kernel_rfl) (by kernel_rfl) (by kernel_rfl) (by kernel_rfl)
 have h11:=@run_callFunc_extern Tryz.prog 220 _ (ReflectliteValue.method (ReflectliteValue.valueError "reflectlite.Value.Elem" 0) ReflectliteValue.elem) Tryz.func220 (by kernel_rfl) (by kernel_rfl) (by kernel_rfl) (by kernel_rfl)
 have h12:=@run_callFunc_extern Tryz.prog 221 _ ReflectliteValue.set Tryz.func221 (by kernel_rfl) (by kernel_rfl) (by kernel_rfl) (by kernel_rfl)
 have mA:=rl_methodAssignableTo
 have aE:=rl_assignableE
 have vE:=rl_valueOfE
 have tE:=rl_typeOfE
 have f6:=rl_valueOfP
 have f7:=rl_typeP
 have mK:=rl_methodKind
 have mE:=rl_methodElem
 have mI:=rl_methodImplements
 have kP:=rl_kindP
 have kE:=rl_kindE
 have eP:=rl_elemP
 have iE:=rl_implementsE
 have n8:=rl_isNilP ⟨w.heap.size,0,none⟩ t ((w.alloc (.cells #[.pointer (some t)] 203)).alloc (.cells #[.pointer (some ⟨13,203,none⟩),.pointer (some ⟨w.heap.size,0,none⟩),.int .u64 150] 260)) (by simp)
 have hlt:4 < w.heap.size:=by
  rcases Nat.lt_or_ge 4 w.heap.size with h | h
  ·exact h
  ·simp [World.cell?,Array.getElem?_eq_none h] at hg
 have hg2:((w.alloc (.cells #[.pointer (some t)] 203)).alloc (.cells #[.pointer (some ⟨13,203,none⟩),.pointer (some ⟨w.heap.size,0,none⟩),.int .u64 150] 260)).cell? ⟨4,0,none⟩=some (.iface 314 (.agg #[.pointer (some ⟨13,39,none⟩)])):=by
  rw [World.cell?_alloc_lt _ _ ⟨4,0,none⟩ (by first | (simp;done) | (simp;omega)),World.cell?_alloc_lt _ _ ⟨4,0,none⟩ hlt];exact hg
 have htl:t.block < w.heap.size:=by
  rcases Nat.lt_or_ge t.block w.heap.size with h | h
  ·exact h
  ·simp [World.cell?,Array.getElem?_eq_none h] at ht0
 have el:=rl_elemVP ⟨w.heap.size,0,none⟩ t (((w.alloc (.cells #[.pointer (some t)] 203)).alloc (.cells #[.pointer (some ⟨13,203,none⟩),.pointer (some ⟨w.heap.size,0,none⟩),.int .u64 150] 260)).alloc (.cells #[.pointer (some ⟨13,203,none⟩),.pointer (some ⟨w.heap.size,0,none⟩),.int .u64 150] 260)) (by rw [World.cell?_alloc_lt _ _ ⟨w.heap.size,0,none⟩ (by simp;omega)];simp)
 have st:=rl_setE t ⟨w.heap.size+1+1+1,0,none⟩ n old ((((w.alloc (.cells #[.pointer (some t)] 203)).alloc (.cells #[.pointer (some ⟨13,203,none⟩),.pointer (some ⟨w.heap.size,0,none⟩),.int .u64 150] 260)).alloc (.cells #[.pointer (some ⟨13,203,none⟩),.pointer (some ⟨w.heap.size,0,none⟩),.int .u64 150] 260)).alloc (.cells #[.int .i64 n] 30))
  (by rw [World.cell?_alloc_at _ _ _ _ (by simp)];rfl)
  (by rw [World.cell?_alloc_lt _ _ t (by simp;omega),World.cell?_alloc_lt _ _ t (by simp;omega),World.cell?_alloc_lt _ _ t (by simp;omega),World.cell?_alloc_lt _ _ t htl];exact ht0)
  (by rw [World.frozen?_alloc_old _ _ t (by simp;omega),World.frozen?_alloc_old _ _ t (by simp;omega),World.frozen?_alloc_old _ _ t (by simp;omega),World.frozen?_alloc_old _ _ t (Nat.ne_of_lt htl)];exact hf0)
 have tA:=rl_typeOfA
 have aA:=rl_assignableA
 have nA:=rl_noAs
 have uA:=rl_unwraps
 have mU:=rl_methodUnwrap
 have hal:a.block < w.heap.size:=by
  rcases Nat.lt_or_ge a.block w.heap.size with h | h
  ·exact h
  ·simp [World.cell?,Array.getElem?_eq_none h] at ha
 have ha3:(((w.alloc (.cells #[.pointer (some t)] 203)).alloc (.cells #[.pointer (some ⟨13,203,none⟩),.pointer (some ⟨w.heap.size,0,none⟩),.int .u64 150] 260)).alloc (.cells #[.pointer (some ⟨13,203,none⟩),.pointer (some ⟨w.heap.size,0,none⟩),.int .u64 150] 260)).cell? a=some (.int .i64 n):=by
  rw [World.cell?_alloc_lt _ _ a (by simp;omega),World.cell?_alloc_lt _ _ a (by simp;omega),World.cell?_alloc_lt _ _ a hal];exact ha
 go_enter Tryz.func112,Tryz.ntmps112
 go_wp2
 refine wp_loop_rounds 2 ?_;rw [rounds_succ]
 go_wp2_with (go_at_call 351;refine (unwrap_at a n _ ha3).mono ?_;rintro e w' ⟨rfl,rfl⟩)
 rw [rounds_succ]
 go_wp2
 go_ret
 exact ⟨rfl,rfl⟩
end Go.Proofs.YtpboiimemmfkiaaGreatDoor
namespace Go.Proofs.YtpboiimemmfkiaaGreatDoor
open Go.Av
def dNum (n:Int):D:=.v (.int .i64 n)
end Go.Proofs.YtpboiimemmfkiaaGreatDoor
namespace Go.Proofs.YtpboiimemmfkiaaGreatDoor
open Go.Av
def numStep (st:List (List Int)×List Int) (l:List Int):List (List Int)×List Int:=
 if idx (fun x=>x == l) st.1 < 0 then (st.1 ++ [l],st.2 ++ [(st.1.length:Int)]) else (st.1,st.2 ++ [idx (fun x=>x == l) st.1])
def numSt (L:List (List Int)) (n:Nat):List (List Int)×List Int:=(L.take n).foldl numStep ([],[])
end Go.Proofs.YtpboiimemmfkiaaGreatDoor
namespace Go.Proofs.YtpboiimemmfkiaaGreatDoor
open Go.Av
structure Tab where
 next:List (List Int)
 tells:List (List Int)
end Go.Proofs.YtpboiimemmfkiaaGreatDoor
namespace Go.Proofs.YtpboiimemmfkiaaGreatDoor
open Go.Av
def dErr:Option (Int×Option Nat)→D
 | none=>.v .nilIface
 | some (c,none)=>.ifc 30 (.v (.int .i64 c))
 | some (c,some s)=>.ifc 222 (.ip [.v (.int .i64 c),.v (.int .i64 s)])
end Go.Proofs.YtpboiimemmfkiaaGreatDoor
namespace Go.Proofs.YtpboiimemmfkiaaGreatDoor
open Go.RowKit Go.Extern.Stop Go.Stop Go.Extern
open Go.Av
def errType:Value:=.iface 314 (.agg #[.pointer (some ⟨13,39,none⟩)])
theorem asWorld_grew (n:Int) (w:World):Grew w (asWorld ⟨w.heap.size,0,none⟩ n (w.alloc (.cells #[.int .i64 0] 30))):=by
 unfold asWorld;refine ⟨by simp<;>omega,rfl,rfl,rfl,fun b hb=>?_⟩;rw [Below.heap_setCell _ _ _ _ (by simp;omega)];(repeat rw [Below.heap_alloc _ _ _ (by simp;omega)]);exact Below.heap_alloc _ _ _ hb
theorem asWorld_cell (n:Int) (w:World):(asWorld ⟨w.heap.size,0,none⟩ n (w.alloc (.cells #[.int .i64 0] 30))).cell? ⟨w.heap.size,0,none⟩=some (.int .i64 n):=by
 unfold asWorld
 have hm:((((w.alloc (.cells #[.int .i64 0] 30)).alloc (.cells #[.pointer (some ⟨w.heap.size,0,none⟩)] 203)).alloc (.cells #[.pointer (some ⟨13,203,none⟩),.pointer (some ⟨(w.alloc (.cells #[.int .i64 0] 30)).heap.size,0,none⟩),.int .u64 150] 260)).alloc (.cells #[.pointer (some ⟨13,203,none⟩),.pointer (some ⟨(w.alloc (.cells #[.int .i64 0] 30)).heap.size,0,none⟩),.int .u64 150] 260) |>.alloc (.cells #[.int .i64 n] 30)).cell? ⟨w.heap.size,0,none⟩=some (.int .i64 0):=by
  rw [World.cell?_alloc_lt _ _ _ (by simp;omega),World.cell?_alloc_lt _ _ _ (by simp;omega),World.cell?_alloc_lt _ _ _ (by simp;omega),World.cell?_alloc_lt _ _ _ (by simp)];simp
 exact World.cell?_setCell_same _ _ _ hm
theorem tell_nil (w:World):Calls Tryz.prog 52 #[.nilIface] w fun e w'=>e = .returned (.int .i64 0)∧w'=w:=by
 go_enter Tryz.func52,Tryz.ntmps52
 go_wp2
 go_ret
 exact ⟨rfl,rfl⟩
set_option maxHeartbeats 1000000 in
theorem tell_errno (n:Int) (w:World) (hg:w.cell? ⟨4,0,none⟩=some errType):Calls Tryz.prog 52 #[.iface 30 (.int .i64 n)] w fun e w'=>e = .returned (.int .i64 n)∧Grew w w':=by
 have hlt:4 < w.heap.size:=by
  rcases Nat.lt_or_ge 4 w.heap.size with h | h
  ·exact h
  ·simp [World.cell?,Array.getElem?_eq_none h] at hg
 have hgA:(w.alloc (.cells #[.int .i64 0] 30)).cell? ⟨4,0,none⟩=some errType:=by rw [World.cell?_alloc_lt _ _ ⟨4,0,none⟩ hlt];exact hg
 have htA:(w.alloc (.cells #[.int .i64 0] 30)).cell? ⟨w.heap.size,0,none⟩=some (.int .i64 0):=by simp
 have hfA:(w.alloc (.cells #[.int .i64 0] 30)).frozen? ⟨w.heap.size,0,none⟩=false:=by simp
 have hc:=asWorld_cell n w
 have hgr:=asWorld_grew n w
 go_enter Tryz.func52,Tryz.ntmps52
 go_wp2_with (go_at_call 112;refine (as_errno n _ (.int .i64 0) _ hgA htA hfA).mono ?_;rintro e w' ⟨rfl,rfl⟩)
 go_ret
 exact ⟨rfl,hgr⟩
set_option maxHeartbeats 1000000 in
theorem tell_at (n:Int) (a:Addr) (w:World) (hg:w.cell? ⟨4,0,none⟩=some errType) (ha:w.cell? a=some (.int .i64 n)):Calls Tryz.prog 52 #[.iface 222 (.pointer (some a))] w fun e w'=>e = .returned (.int .i64 n)∧Grew w w':=by
 have hlt:4 < w.heap.size:=by
  rcases Nat.lt_or_ge 4 w.heap.size with h | h
  ·exact h
  ·simp [World.cell?,Array.getElem?_eq_none h] at hg
 have hal:a.block < w.heap.size:=cell_lt ha
 have hgA:(w.alloc (.cells #[.int .i64 0] 30)).cell? ⟨4,0,none⟩=some errType:=by rw [World.cell?_alloc_lt _ _ ⟨4,0,none⟩ hlt];exact hg
 have haA:(w.alloc (.cells #[.int .i64 0] 30)).cell? a=some (.int .i64 n):=by rw [World.cell?_alloc_lt _ _ a hal];exact ha
 have htA:(w.alloc (.cells #[.int .i64 0] 30)).cell? ⟨w.heap.size,0,none⟩=some (.int .i64 0):=by simp
 have hfA:(w.alloc (.cells #[.int .i64 0] 30)).frozen? ⟨w.heap.size,0,none⟩=false:=by simp
 have hc:=asWorld_cell n w
 have hgr:=asWorld_grew n w
 go_enter Tryz.func52,Tryz.ntmps52
 go_wp2_with (go_at_call 112;refine (as_at n a _ (.int .i64 0) _ hgA haA htA hfA).mono ?_;rintro e w' ⟨rfl,rfl⟩)
 go_ret
 exact ⟨rfl,hgr⟩
def codeF:Option (Int×Option Nat)→Int
 | none=>0
 | some (c,_)=>c
def HasErr (G:Glob):Prop:=G 4=some (.ip [.v errType])
theorem HasErr.cell {G:Glob} (h:HasErr G) {w:World} {X:Nat→Prop} (hg:∀ g x,G g=some x→RD w X (.pointer (some ⟨g,0,none⟩)) x):w.cell? ⟨4,0,none⟩=some errType:=by
 have:=hg _ _ h
 obtain ⟨b,off,f,hb,_,_,hc,hr⟩:=this.ip_inv
 simp only [Value.pointer.injEq,Option.some.injEq,Addr.mk.injEq,and_true] at hb
 obtain ⟨rfl,rfl⟩:=hb
 have h1:=hc 0 (by simp)
 have h2:=(hr 0 _ rfl).scalar
 rw [h2] at h1;exact h1
theorem tell_spec (G:Glob) (hG:HasErr G) (e:Option (Int×Option Nat)):PureC Tryz.prog G 52 [dErr e] (.v (.int .i64 (codeF e))):=by
 refine PureC.of_calls (Fun.of Tryz.func52 rfl rfl) fun X w vs hsz hrd hgl=>?_
 have hg:=hG.cell hgl
 obtain ⟨v,rfl⟩:∃ v,vs = #[v]:=Array.size_eq_one_iff.1 hsz
 have hv:=hrd 0 v _ rfl rfl
 match e,hv with
 | none,hv=>
  have:=hv.scalar
  subst this;exact (tell_nil w).mono fun e w' ⟨he,hw⟩=>⟨_,he,by rw [hw];exact Grew.refl w,.v _⟩
 | some (c,none),hv=>
  obtain ⟨u,rfl,hu⟩:=hv.ifc_inv
  have:=hu.scalar
  subst this;exact (tell_errno c w hg).mono fun e w' ⟨he,hw⟩=>⟨_,he,hw,.v _⟩
 | some (c,some s),hv=>
  obtain ⟨u,rfl,hu⟩:=hv.ifc_inv
  obtain ⟨b,off,f,rfl,_,_,hc,hr⟩:=hu.ip_inv
  have h1:=hc 0 (by simp)
  have h2:=(hr 0 _ rfl).scalar
  rw [h2] at h1;exact (tell_at c ⟨b,off,none⟩ w hg h1).mono fun e w' ⟨he,hw⟩=>⟨_,he,hw,.v _⟩
end Go.Proofs.YtpboiimemmfkiaaGreatDoor
namespace Go.Proofs.YtpboiimemmfkiaaGreatDoor
open Go.Av
inductive Fm where
 | nil
 | mk (kind:Int) (name:List UInt8) (of:List Fm)
def ofK {α:Type} (l:List α):Option Bool:=match l with
 | []=>some false
 | _=>none
mutual
def dF:Fm→D
 | .nil=>.v (.pointer none)
 | .mk k s l=>.ip [dNum k,dS s,.sl (ofK l) (dFs l)]
def dFs:List Fm→List (List D)
 | []=>[]
 | f :: l=>[dF f] :: dFs l
end
end Go.Proofs.YtpboiimemmfkiaaGreatDoor
namespace Go.Proofs.YtpboiimemmfkiaaGreatDoor
open Go.Av
def Tab.n (t:Tab):Nat:=t.next.length
end Go.Proofs.YtpboiimemmfkiaaGreatDoor
namespace Go.Proofs.YtpboiimemmfkiaaGreatDoor
theorem idx_neg {α:Type} {p:α→Bool} {l:List α} (h:idx p l < 0):∀ x∈l,p x=false:=by
 unfold idx at h
 split at h
 ·omega
 ·rename_i hn
  rw [List.findIdx?_eq_none_iff] at hn
  intro x hx
  simpa using hn x hx
theorem idx_pos {α:Type} {p:α→Bool} {l:List α} (h:¬ idx p l < 0):∃ k,∃ hk:k < l.length,idx p l=(k:Int)∧p l[k]=true:=by
 unfold idx at h ⊢
 split
 ·rename_i i hi
  rw [List.findIdx?_eq_some_iff_getElem] at hi
  obtain ⟨h1,h2,_⟩:=hi
  exact ⟨i,h1,rfl,h2⟩
 ·rename_i hn
  simp [hn] at h
def dn (L:List (List Int)) (n:Nat):Nat:=(numSt L n).1.length
end Go.Proofs.YtpboiimemmfkiaaGreatDoor
namespace Go.Proofs.YtpboiimemmfkiaaGreatDoor
def nx (t:Tab) (s c:Nat):Nat:=((t.next.getD s []).getD c 0).toNat
def te (t:Tab) (s c:Nat):Int:=(t.tells.getD s []).getD c 0
def wd (t:Tab):Nat:=(t.next.getD 0 []).length
end Go.Proofs.YtpboiimemmfkiaaGreatDoor
namespace Go.Proofs.YtpboiimemmfkiaaGreatDoor
open Go.Av
def pre (l row:List Int) (i:Nat):List Int:=(row.take i).map fun x=>l.getD x.toNat 0
end Go.Proofs.YtpboiimemmfkiaaGreatDoor
namespace Go.Proofs.YtpboiimemmfkiaaGreatDoor
open Go.Av
theorem wrap_u64 (n:Int):IntKind.u64.wrap n=n % 18446744073709551616:=by
 simp [IntKind.wrap,IntKind.signed,IntKind.bits]
end Go.Proofs.YtpboiimemmfkiaaGreatDoor
namespace Go.Proofs.YtpboiimemmfkiaaGreatDoor
open Go.Av
def tr:Fm:=.mk 2 [] []
end Go.Proofs.YtpboiimemmfkiaaGreatDoor
namespace Go.Proofs.YtpboiimemmfkiaaGreatDoor
open Go.Av
def atF (n:Int) (many:Nat):Nat:=((n % 18446744073709551616) % many).toNat
structure Stp where
 kind:Int
 a:Int
 b:Int
 name:List UInt8
def stepF (all:List Fm) (x:Stp):Fm:=
 if x.kind=2 then .mk 2 [] []
 else if x.kind=3∨x.kind=6∨x.kind=9∨x.kind=10 then .mk x.kind [] [all.getD (atF x.a all.length) .nil]
 else if x.kind=4∨x.kind=5∨x.kind=7∨x.kind=8 then .mk x.kind [] [all.getD (atF x.a all.length) .nil,all.getD (atF x.b all.length) .nil]
 else .mk 1 x.name []
def IsMk (f:Fm):Prop:=∃ k s l,f = .mk k s l
theorem IsMk.ip {f:Fm} (h:IsMk f):∃ c,dF f = .ip c:=by
 obtain ⟨k,s,l,rfl⟩:=h
 exact ⟨_,rfl⟩
end Go.Proofs.YtpboiimemmfkiaaGreatDoor
namespace Go.Proofs.YtpboiimemmfkiaaGreatDoor
open Go.Av
def dB (b:Bool):D:=.v (.bool b)
def dBs (l:List Bool):D:=.sl none (l.map fun b=>[dB b])
end Go.Proofs.YtpboiimemmfkiaaGreatDoor
namespace Go.Proofs.YtpboiimemmfkiaaGreatDoor
open Go.Av
abbrev Times:=List (List (List UInt8))
end Go.Proofs.YtpboiimemmfkiaaGreatDoor
namespace Go.Proofs.YtpboiimemmfkiaaGreatDoor
section
variable (f g:Fm)
def notF:Fm:=.mk 3 [] [f]
end
section
variable (a r:Times) (hr:0 < r.length) (f g:Fm)
include hr
end
end Go.Proofs.YtpboiimemmfkiaaGreatDoor
namespace Go.Proofs.YtpboiimemmfkiaaGreatDoor
open Go.Av
theorem takeB_step {l l':List Bool} {n:Nat} (ht:l.take n=l'.take n) (h:n < l.length) (h':n < l'.length) (he:l[n]=l'[n]):l.take (n+1)=l'.take (n+1):=by
 rw [List.take_succ_eq_append_getElem h,List.take_succ_eq_append_getElem h',ht,he]
theorem takeB_all {l l':List Bool} (hl:l.length=l'.length) (ht:l.take l.length=l'.take l.length):l=l':=by
 rw [List.take_length,hl,List.take_length] at ht;exact ht
set_option maxHeartbeats 1000000 in
theorem sameBools_spec (G:Glob) (l l':List Bool) (h:l.length < 2^63):PureC Tryz.prog G 31 [dBs l,dBs l'] (.v (.bool (l == l'))):=by
 refine PureC.of_body (tyOf_good _) Tryz.func31 rfl rfl (rs:=[.tmp 4]) Tryz.results31 (by simp [Tryz.ntmps31]) fun X=>?_;simp only [Tryz.ntmps31,List.map]
 have fw:=@dB.eq_1
 refine rgq fw [0,1] [] ?_;refine AW_then fun K1 hK1=>?_;refine rgq (Aq fw @dBs.eq_1) [0,1,10] [] ?_;refine AW_cond' (b:=l.length≠l'.length) (by simp [D.le,D.le.go,takeMap,dB]) (fun hc=>?_) (fun hc=>?_)
 ·refine rgq fw [4] [] ?_;refine AW_ret ?_;simp [D.le,D.le.go,takeMap,dB]
  intro e;subst e;simp at hc
 ·refine AW_skip (hK1 _ ?_)
  have hl:l.length=l'.length:=by simpa using hc
  refine AW_then fun K2 hK2=>?_;refine rgq (Aq fw @dBs.eq_1) [0,1,5] [] ?_;refine AW_for (S:=Nat) (fun n=>n≤l.length∧l.take n=l'.take n) (fun n=>⟨lst [(0,.d (dBs l)),(1,.d (dBs l')),(5,int n)],hlst []⟩) (fun n=>l.length - n) 0 ?_ (by simp) ?_
  ·refine Imp.to' (fun _ _=>trivial) (by simp [dB,dBs]) (by simp [dB,dBs])
  ·rintro n ⟨hn,ht⟩
   refine AW_then fun K3 hK3=>?_;refine rgq (Aq fw @dBs.eq_1) [0,1,5,14] [] ?_;refine AW_cond' (b:=n < l.length) (by simp [D.le,D.le.go,takeMap,dB]) (fun hc=>?_) (fun hc=>?_)
   ·refine AW_skip (hK3 _ ?_);refine AW_then fun K4 hK4=>?_;refine AW_block ?_
    have hnl:n < l.length:=hc
    have hn':n < l'.length:=by omega
    cases he:(l[n] == l'[n]) with
    | false=>
     have qf:=(Aq fw (Aq @dBs.eq_1 (Aq @hnl (Aq @hn' @he))))
     refine rdqv [0,1,5,25] [] ?_;refine AW_tt rfl ?_;refine rgq fw [4] [] ?_;refine AW_ret ?_;simp [D.le,D.le.go,takeMap,dB]
     intro e;subst e;simp at he
    | true=>
     have he2:l[n]=l'[n]:=by simpa using he
     have qf:=(Aq fw (Aq @dBs.eq_1 (Aq @hnl (Aq @hn' @he2))))
     refine rdqv [0,1,5,25] [] ?_;refine AW_ff rfl ?_;refine AW_skip ?_;refine hK4 _ (AW.norm [0,1,5] [] (fun _ _=>trivial) (AW.st (by simp [dB];rfl) ?_));refine AW_re (tyOf_good _) fun K' hK'=>?_;(repeat (refine sxn fun K2 hK2=>?_;simp [dB];(repeat (refine ⟨by omega,?_⟩));refine hK2 _ ?_;clear hK2 K2));refine sxz (hK' _ ?_);clear hK' K';(try simp only [thn,inb]);refine Again.mk (n+1) ⟨by omega,takeB_step ht hnl hn' he2⟩ (by omega) ?_;refine Imp.to' (fun _ _=>trivial) (by simp [dB,dBs]) (by simp [dB,dBs])
   ·refine AW_exit (hK2 _ ?_);refine rgq fw [4] [] ?_;refine AW_ret ?_;simp [D.le,D.le.go,takeMap,dB]
    have hnn:n=l.length:=by omega
    subst hnn;exact takeB_all hl ht
end Go.Proofs.YtpboiimemmfkiaaGreatDoor
