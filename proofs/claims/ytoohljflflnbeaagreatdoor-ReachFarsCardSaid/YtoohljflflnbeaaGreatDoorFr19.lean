/- Parts. -/
import Derived.Test.YtoohljflflnbeaaGreatDoorFr11
import Derived.Test.YtoohljflflnbeaaGreatDoorFr14
import Derived.LaidEql
import Derived.Stop.Asserts
import Derived.RowKitTokens
set_option linter.unusedSimpArgs false
set_option linter.unusedVariables false
set_option maxHeartbeats 8000000
open Go.Proofs.Tryz
namespace Go.Proofs.YtoohljflflnbeaaGreatDoor
open Go.RowKit Go.Extern.Stop Go.Stop Go.Extern
theorem TO (t:Addr) (w:World):(ReflectliteValue.unpack (.iface 238 (.pointer (some t)))).run prog w
  = .ok (.agg #[.pointer (some ⟨13,238,none⟩),.pointer (some ⟨w.heap.size,0,none⟩),.int .u64 150]) (w.alloc (.cells #[.pointer (some t)] 238)):=ah
theorem TL (a:Addr) (w:World):(ReflectliteValue.methodAny (ReflectliteValue.valueError "reflectlite.Value.Type" 0) (fun t _ _ _=>ReflectliteType.toType t) #[.agg #[.pointer (some ⟨13,238,none⟩),.pointer (some a),.int .u64 150]]).run prog w
  = .ok (.iface 363 (.agg #[.pointer (some ⟨13,238,none⟩)])) w:=ah
theorem TG (h:Value) (w:World):(Go.method 580 363 (.agg #[h]) "Kind").run prog w = .ok (352,h) w:=by kernel_rfl
theorem TB (w:World):((ReflectliteType.abiMethod fun t=>(fun a:Nat=>Value.int IntKind.u8 (a:Int)) <$> Rtype.kind t) #[.pointer (some ⟨13,238,none⟩)]).run prog w = .ok (.int .u8 22) w:=ah
theorem TA (w:World):((ReflectliteType.abiMethod fun t=>(fun a:Nat=>Value.int IntKind.u8 (a:Int)) <$> Rtype.kind t) #[.pointer (some ⟨13,50,none⟩)]).run prog w = .ok (.int .u8 2) w:=ah
theorem TP (z:Sem Value) (f:TypeId->Addr->Nat->Nat->Sem Value) (v:Value) :
  ReflectliteValue.method z f #[v]=(do match <- ReflectliteValue.parts v with | none=>z | some (t,a,fl)=>f t a fl (fl % 32)):=rfl
theorem TH (a:Addr) (w:World):(ReflectliteValue.parts (.agg #[.pointer (some ⟨13,238,none⟩),.pointer (some a),.int .u64 150])).run prog w = .ok (some (238,a,150)) w:=ah
theorem Tz (a p:Addr) (W:World) (ha:W.cell? a=some (.pointer (some p))) :
  (ReflectliteValue.method (ReflectliteValue.valueError "reflectlite.Value.IsNil" 0) ReflectliteValue.isNil #[.agg #[.pointer (some ⟨13,238,none⟩),.pointer (some a),.int .u64 150]]).run prog W = .ok (.bool false) W:=by
 rw[TP];simp only[Sem.run_bind,TH,Result.andThen];simp[ReflectliteValue.isNil,loadVar,isAgg,underlying,underlying238,ha,Result.andThen]
theorem TE (h:Value) (w:World):(Go.method 580 363 (.agg #[h]) "Elem").run prog w = .ok (376,.agg #[h]) w:=by kernel_rfl
theorem TF (h:Value) (w:World):(Go.method 580 363 (.agg #[h]) "Implements").run prog w = .ok (377,.agg #[h]) w:=by kernel_rfl
theorem TD (h:Value) (w:World):(Go.method 580 363 (.agg #[h]) "AssignableTo").run prog w = .ok (374,.agg #[h]) w:=by kernel_rfl
theorem Tu (w:World):(ReflectliteType.method ReflectliteType.elem #[.agg #[.pointer (some ⟨13,238,none⟩)]]).run prog w = .ok (.iface 363 (.agg #[.pointer (some ⟨13,50,none⟩)])) w:=ah
theorem Tw (w:World):(ReflectliteType.relation "Implements" ReflectliteType.implements_ #[.agg #[.pointer (some ⟨13,50,none⟩)],.iface 363 (.agg #[.pointer (some ⟨13,30,none⟩)])]).run prog w = .ok (.bool true) w:=by kernel_rfl
theorem TK (v:Value) (w:World):(ReflectliteType.typeOf #[.iface 50 v]).run prog w = .ok (.iface 363 (.agg #[.pointer (some ⟨13,50,none⟩)])) w:=ah
theorem aga (v:Value) (w:World):(ReflectliteType.typeOf #[.iface 269 v]).run prog w = .ok (.iface 363 (.agg #[.pointer (some ⟨13,269,none⟩)])) w:=ah
theorem Tt (w:World):(ReflectliteType.relation "AssignableTo" ReflectliteType.assignableTo #[.agg #[.pointer (some ⟨13,50,none⟩)],.iface 363 (.agg #[.pointer (some ⟨13,50,none⟩)])]).run prog w = .ok (.bool true) w:=by kernel_rfl
theorem af2 (w:World):(ReflectliteType.relation "AssignableTo" ReflectliteType.assignableTo #[.agg #[.pointer (some ⟨13,269,none⟩)],.iface 363 (.agg #[.pointer (some ⟨13,50,none⟩)])]).run prog w = .ok (.bool false) w:=by kernel_rfl
theorem TM (n:Int) (w:World):(ReflectliteValue.unpack (.iface 50 (.int .i64 n))).run prog w
  = .ok (.agg #[.pointer (some ⟨13,50,none⟩),.pointer (some ⟨w.heap.size,0,none⟩),.int .u64 130]) (w.alloc (.cells #[.int .i64 n] 50)):=ah
theorem af4 (w:World):(Rtype.elem? 238).run prog w = .ok (some 50) w:=ah
theorem af6 (p:Addr) (w:World):(ReflectliteValue.mk 50 p ReflectliteValue.flagAddr).run prog w = .ok (.agg #[.pointer (some ⟨13,50,none⟩),.pointer (some p),.int .u64 386]) w:=ah
theorem Tv (a p:Addr) (W:World) (ha:W.cell? a=some (.pointer (some p))) :
  (ReflectliteValue.method (ReflectliteValue.valueError "reflectlite.Value.Elem" 0) ReflectliteValue.elem #[.agg #[.pointer (some ⟨13,238,none⟩),.pointer (some a),.int .u64 150]]).run prog W
   = .ok (.agg #[.pointer (some ⟨13,50,none⟩),.pointer (some p),.int .u64 386]) W:=by
 rw[TP];simp only[Sem.run_bind,TH,Result.andThen];simp[ReflectliteValue.elem,loadVar,isAgg,underlying,underlying238,ha,Result.andThen,af4,af6]
theorem rls (v x:Value):ReflectliteValue.set #[v,x]=(do
  let (some (dst,a,fl),some (src,b,_)):=(<- ReflectliteValue.parts v,<- ReflectliteValue.parts x)
   | unsupported (.noEntry "extern/(internal/reflectlite.Value).Set.zeroValue")
  if fl / ReflectliteValue.flagAddr % 2 == 0 then unsupported (.noEntry "extern/(internal/reflectlite.Value).Set.unaddressable")
  let val <- loadVar src b
  if <- Rtype.directlyAssignable dst src then storeVar dst a val
  else if <- Rtype.implements dst src then
   if (<- Rtype.kind src) == 20 then
    match val with
    | .nilIface=>unsupported (.noEntry "extern/reflectlite: a nil value of one interface type handed on as a value of another")
    | _=>storeVar dst a val
   else storeVar dst a (.iface src val)
  else panicString ("reflectlite.Set: value of type " ++ (<- Rtype.spelt src) ++ " is not assignable to type " ++ (<- Rtype.spelt dst))
  pure (.tuple #[])):=rfl
theorem af9 (a:Addr) (w:World):(ReflectliteValue.parts (.agg #[.pointer (some ⟨13,50,none⟩),.pointer (some a),.int .u64 386])).run prog w = .ok (some (50,a,386)) w:=ah
theorem af8 (a:Addr) (w:World):(ReflectliteValue.parts (.agg #[.pointer (some ⟨13,50,none⟩),.pointer (some a),.int .u64 130])).run prog w = .ok (some (50,a,130)) w:=ah
theorem af3 (w:World):(Rtype.directlyAssignable 50 50).run prog w = .ok true w:=ah
theorem TJ (ta b:Addr) (n:Int) (fF:Value) (W:World) (hb:W.cell? b=some (.int .i64 n)) (ht:W.cell? ta=some fF) (hf:W.frozen? ta=false) :
  (ReflectliteValue.set #[.agg #[.pointer (some ⟨13,50,none⟩),.pointer (some ta),.int .u64 386],.agg #[.pointer (some ⟨13,50,none⟩),.pointer (some b),.int .u64 130]]).run prog W
   = .ok (.tuple #[]) (W.setCell ta (.int .i64 n)):=by
 rw[rls];simp only[Sem.run_bind,af9,af8,Result.andThen];simp[ReflectliteValue.flagAddr,loadVar,isAgg,underlying,underlying50,hb,Result.andThen,af3,storeVar,Value.cells,storeCells,Addr.add];rw[run_store prog W ta _ _ (by rfl)];simp[ht,hf]
def zz (t:Addr) (n:Int) (w:World):World:=((((w.alloc (.cells #[.pointer (some t)] 238)).alloc (.cells #[.pointer (some ⟨13,238,none⟩),.pointer (some ⟨w.heap.size,0,none⟩),.int .u64 150] 310)).alloc (.cells #[.pointer (some ⟨13,238,none⟩),.pointer (some ⟨w.heap.size,0,none⟩),.int .u64 150] 310)).alloc (.cells #[.int .i64 n] 50)).setCell t (.int .i64 n)
theorem Wb (n:Int) (t:Addr) (fF:Value) (w:World) (hg:w.cell? ⟨4,0,none⟩=some (.iface 363 (.agg #[.pointer (some ⟨13,30,none⟩)]))) (qJ:w.cell? t=some fF) (J4:w.frozen? t=false) :
  Calls prog 127 #[.iface 50 (.int .i64 n),.iface 238 (.pointer (some t))] w fun ev w'=>ev = .returned (.bool true)/\w'=zz t n w:=by
 have h6:=@run_callFunc_extern prog 197 _ (fun args=>ReflectliteValue.unpack (args.getD 0 (.tuple #[]))) func197 ah ah ah ah;have h7:=@run_callFunc_extern prog 198 _ (ReflectliteValue.methodAny (ReflectliteValue.valueError "reflectlite.Value.Type" 0) (fun t _ _ _=>ReflectliteType.toType t)) func198 ah ah ah ah;have h8:=@run_callFunc_extern prog 199 _ (ReflectliteValue.method (ReflectliteValue.valueError "reflectlite.Value.IsNil" 0) ReflectliteValue.isNil) func199 ah ah ah ah;have YG:=@run_callFunc_extern prog 352 _ (ReflectliteType.abiMethod fun t=>do pure (.int .u8 (<- Rtype.kind t))) func352 ah ah ah ah;have YI:=@run_callFunc_extern prog 376 _ (ReflectliteType.method ReflectliteType.elem) func376 ah ah ah ah;have YJ:=@run_callFunc_extern prog 377 _ (ReflectliteType.relation "Implements" ReflectliteType.implements_) func377 ah ah ah ah;have Fl:=@run_callFunc_extern prog 249 _ ReflectliteType.typeOf func249 ah ah ah ah;have YH:=@run_callFunc_extern prog 374 _ (ReflectliteType.relation "AssignableTo" ReflectliteType.assignableTo) func374 ah ah ah ah;have YE:=@run_callFunc_extern prog 250 _ (ReflectliteValue.method (ReflectliteValue.valueError "reflectlite.Value.Elem" 0) ReflectliteValue.elem) func250 ah ah ah ah;have YF:=@run_callFunc_extern prog 251 _ ReflectliteValue.set func251 ah ah ah ah;have mA:=TD;have aE:=Tt;have vE:=TM;have tE:=TK;have f6:=TO;have f7:=TL;have mK:=TG;have mE:=TE;have mI:=TF;have kP:=TB;have kE:=TA;have eP:=Tu;have iE:=Tw;have n8:=Tz ⟨w.heap.size,0,none⟩ t ((w.alloc (.cells #[.pointer (some t)] 238)).alloc (.cells #[.pointer (some ⟨13,238,none⟩),.pointer (some ⟨w.heap.size,0,none⟩),.int .u64 150] 310)) ak
 have aH:4 < w.heap.size:=by
  rcases akS 4 w.heap.size with h | h
  .exact h
  .simp[World.cell?,akK h]at hg
 have FQ:((w.alloc (.cells #[.pointer (some t)] 238)).alloc (.cells #[.pointer (some ⟨13,238,none⟩),.pointer (some ⟨w.heap.size,0,none⟩),.int .u64 150] 310)).cell? ⟨4,0,none⟩=some (.iface 363 (.agg #[.pointer (some ⟨13,30,none⟩)])):=by
  rw[World.cell?_alloc_lt _ _ ⟨4,0,none⟩ (by first | (simp;done) | (simp;omega)),World.cell?_alloc_lt _ _ ⟨4,0,none⟩ aH];exact hg
 have gD:t.block < w.heap.size:=by
  rcases akS t.block w.heap.size with h | h
  .exact h
  .simp[World.cell?,akK h]at qJ
 have el:=Tv ⟨w.heap.size,0,none⟩ t (((w.alloc (.cells #[.pointer (some t)] 238)).alloc (.cells #[.pointer (some ⟨13,238,none⟩),.pointer (some ⟨w.heap.size,0,none⟩),.int .u64 150] 310)).alloc (.cells #[.pointer (some ⟨13,238,none⟩),.pointer (some ⟨w.heap.size,0,none⟩),.int .u64 150] 310)) (by rw[World.cell?_alloc_lt _ _ ⟨w.heap.size,0,none⟩ (by simp;omega)];simp)
 have st:=TJ t ⟨w.heap.size+1+1+1,0,none⟩ n fF ((((w.alloc (.cells #[.pointer (some t)] 238)).alloc (.cells #[.pointer (some ⟨13,238,none⟩),.pointer (some ⟨w.heap.size,0,none⟩),.int .u64 150] 310)).alloc (.cells #[.pointer (some ⟨13,238,none⟩),.pointer (some ⟨w.heap.size,0,none⟩),.int .u64 150] 310)).alloc (.cells #[.int .i64 n] 50))
  (by rw[World.cell?_alloc_at _ _ _ _ ak];rfl)
  (by rw[World.cell?_alloc_lt _ _ t (by simp;omega),World.cell?_alloc_lt _ _ t (by simp;omega),World.cell?_alloc_lt _ _ t (by simp;omega),World.cell?_alloc_lt _ _ t gD];exact qJ)
  (by rw[World.frozen?_alloc_old _ _ t (by simp;omega),World.frozen?_alloc_old _ _ t (by simp;omega),World.frozen?_alloc_old _ _ t (by simp;omega),World.frozen?_alloc_old _ _ t (Nat.ne_of_lt gD)];exact J4)
 go_enter func127,ntmps127
 go_wp2
 refine wp_loop_rounds 1 ?_;rw[rounds_succ]
 go_wp2
 go_ret
 exact⟨rfl,rfl⟩
theorem ahL (a:Addr) (n:Int) (w:World) (ha:w.cell? a=some (.int .i64 n)):Calls prog 369 #[.pointer (some a)] w fun e w'=>e = .returned (.iface 50 (.int .i64 n))/\w'=w:=by
 go_enter func369,ntmps369
 go_wp2
 go_ret
 exact⟨rfl,rfl⟩
theorem af5 (h:Value) (w:World):(Go.method 580 269 h "Unwrap").run prog w = .ok (369,h) w:=by kernel_rfl
theorem af7 (v:Value) (xT:TypeId) (w:World):(Instr.typeAssert (.iface 269 v) xT 368 true).run prog w = .ok (.tuple #[.nilIface,.bool false]) w:=run_typeAssert_lacksB underlying368 ah ah v xT w
theorem agb (v:Value) (xT:TypeId) (w:World):(Instr.typeAssert (.iface 269 v) xT 276 true).run prog w = .ok (.tuple #[.iface 269 v,.bool true]) w:=run_typeAssert_hasB underlying276 ah v xT w
theorem Wa (n:Int) (a t:Addr) (fF:Value) (w:World) (hg:w.cell? ⟨4,0,none⟩=some (.iface 363 (.agg #[.pointer (some ⟨13,30,none⟩)]))) (ha:w.cell? a=some (.int .i64 n)) (qJ:w.cell? t=some fF) (J4:w.frozen? t=false) :
  Calls prog 127 #[.iface 269 (.pointer (some a)),.iface 238 (.pointer (some t))] w fun ev w'=>ev = .returned (.bool true)/\w'=zz t n w:=by
 have h6:=@run_callFunc_extern prog 197 _ (fun args=>ReflectliteValue.unpack (args.getD 0 (.tuple #[]))) func197 ah ah ah ah;have h7:=@run_callFunc_extern prog 198 _ (ReflectliteValue.methodAny (ReflectliteValue.valueError "reflectlite.Value.Type" 0) (fun t _ _ _=>ReflectliteType.toType t)) func198 ah ah ah ah;have h8:=@run_callFunc_extern prog 199 _ (ReflectliteValue.method (ReflectliteValue.valueError "reflectlite.Value.IsNil" 0) ReflectliteValue.isNil) func199 ah ah ah ah;have YG:=@run_callFunc_extern prog 352 _ (ReflectliteType.abiMethod fun t=>do pure (.int .u8 (<- Rtype.kind t))) func352 ah ah ah ah;have YI:=@run_callFunc_extern prog 376 _ (ReflectliteType.method ReflectliteType.elem) func376 ah ah ah ah;have YJ:=@run_callFunc_extern prog 377 _ (ReflectliteType.relation "Implements" ReflectliteType.implements_) func377 ah ah ah ah;have Fl:=@run_callFunc_extern prog 249 _ ReflectliteType.typeOf func249 ah ah ah ah;have YH:=@run_callFunc_extern prog 374 _ (ReflectliteType.relation "AssignableTo" ReflectliteType.assignableTo) func374 ah ah ah ah;have YE:=@run_callFunc_extern prog 250 _ (ReflectliteValue.method (ReflectliteValue.valueError "reflectlite.Value.Elem" 0) ReflectliteValue.elem) func250 ah ah ah ah;have YF:=@run_callFunc_extern prog 251 _ ReflectliteValue.set func251 ah ah ah ah;have mA:=TD;have aE:=Tt;have vE:=TM;have tE:=TK;have f6:=TO;have f7:=TL;have mK:=TG;have mE:=TE;have mI:=TF;have kP:=TB;have kE:=TA;have eP:=Tu;have iE:=Tw;have n8:=Tz ⟨w.heap.size,0,none⟩ t ((w.alloc (.cells #[.pointer (some t)] 238)).alloc (.cells #[.pointer (some ⟨13,238,none⟩),.pointer (some ⟨w.heap.size,0,none⟩),.int .u64 150] 310)) ak
 have aH:4 < w.heap.size:=by
  rcases akS 4 w.heap.size with h | h
  .exact h
  .simp[World.cell?,akK h]at hg
 have FQ:((w.alloc (.cells #[.pointer (some t)] 238)).alloc (.cells #[.pointer (some ⟨13,238,none⟩),.pointer (some ⟨w.heap.size,0,none⟩),.int .u64 150] 310)).cell? ⟨4,0,none⟩=some (.iface 363 (.agg #[.pointer (some ⟨13,30,none⟩)])):=by
  rw[World.cell?_alloc_lt _ _ ⟨4,0,none⟩ (by first | (simp;done) | (simp;omega)),World.cell?_alloc_lt _ _ ⟨4,0,none⟩ aH];exact hg
 have gD:t.block < w.heap.size:=by
  rcases akS t.block w.heap.size with h | h
  .exact h
  .simp[World.cell?,akK h]at qJ
 have el:=Tv ⟨w.heap.size,0,none⟩ t (((w.alloc (.cells #[.pointer (some t)] 238)).alloc (.cells #[.pointer (some ⟨13,238,none⟩),.pointer (some ⟨w.heap.size,0,none⟩),.int .u64 150] 310)).alloc (.cells #[.pointer (some ⟨13,238,none⟩),.pointer (some ⟨w.heap.size,0,none⟩),.int .u64 150] 310)) (by rw[World.cell?_alloc_lt _ _ ⟨w.heap.size,0,none⟩ (by simp;omega)];simp)
 have st:=TJ t ⟨w.heap.size+1+1+1,0,none⟩ n fF ((((w.alloc (.cells #[.pointer (some t)] 238)).alloc (.cells #[.pointer (some ⟨13,238,none⟩),.pointer (some ⟨w.heap.size,0,none⟩),.int .u64 150] 310)).alloc (.cells #[.pointer (some ⟨13,238,none⟩),.pointer (some ⟨w.heap.size,0,none⟩),.int .u64 150] 310)).alloc (.cells #[.int .i64 n] 50))
  (by rw[World.cell?_alloc_at _ _ _ _ ak];rfl)
  (by rw[World.cell?_alloc_lt _ _ t (by simp;omega),World.cell?_alloc_lt _ _ t (by simp;omega),World.cell?_alloc_lt _ _ t (by simp;omega),World.cell?_alloc_lt _ _ t gD];exact qJ)
  (by rw[World.frozen?_alloc_old _ _ t (by simp;omega),World.frozen?_alloc_old _ _ t (by simp;omega),World.frozen?_alloc_old _ _ t (by simp;omega),World.frozen?_alloc_old _ _ t (Nat.ne_of_lt gD)];exact J4)
 have tA:=aga;have aA:=af2;have nA:=af7;have uA:=agb;have mU:=af5
 have uN:a.block < w.heap.size:=by
  rcases akS a.block w.heap.size with h | h
  .exact h
  .simp[World.cell?,akK h]at ha
 have Zu:(((w.alloc (.cells #[.pointer (some t)] 238)).alloc (.cells #[.pointer (some ⟨13,238,none⟩),.pointer (some ⟨w.heap.size,0,none⟩),.int .u64 150] 310)).alloc (.cells #[.pointer (some ⟨13,238,none⟩),.pointer (some ⟨w.heap.size,0,none⟩),.int .u64 150] 310)).cell? a=some (.int .i64 n):=by
  rw[World.cell?_alloc_lt _ _ a (by simp;omega),World.cell?_alloc_lt _ _ a (by simp;omega),World.cell?_alloc_lt _ _ a uN];exact ha
 go_enter func127,ntmps127
 go_wp2
 refine wp_loop_rounds 2 ?_;rw[rounds_succ]
 go_wp2_with (go_at_call 369;refine (ahL a n _ Zu).mono ?_;rintro e w' ⟨rfl,rfl⟩)
 rw[rounds_succ]
 go_wp2
 go_ret
 exact⟨rfl,rfl⟩
end Go.Proofs.YtoohljflflnbeaaGreatDoor
namespace Go.Proofs.YtoohljflflnbeaaGreatDoor
open Go.Av
def ab (n:Int):D:=.v (.int .i64 n)
def ac5 (st:List (List Int)×List Int) (l:List Int):List (List Int)×List Int:=
 if idx (fun x=>x == l) st.1 < 0 then (st.1 ++ [l],st.2 ++ [(st.1.length:Int)]) else (st.1,st.2 ++ [idx (fun x=>x == l) st.1])
def ac4 (L:List (List Int)) (n:Nat):List (List Int)×List Int:=(L.take n).foldl ac5 ([],[])
structure xu where
 next:List (List Int)
 ahx:List (List Int)
def bD:Option (Int×Option Nat)->D
 | none=>.v .nilIface
 | some (c,none)=>.cf 50 (.v (.int .i64 c))
 | some (c,some s)=>.cf 269 (.ip [.v (.int .i64 c),.v (.int .i64 s)])
open Go.Extern Go.Extern.Stop Go.RowKit Go.Stop
def qs:Value:=.iface 363 (.agg #[.pointer (some ⟨13,30,none⟩)])
theorem N7 (n:Int) (w:World):cN w (zz ⟨w.heap.size,0,none⟩ n (w.alloc (.cells #[.int .i64 0] 50))):=by
 unfold zz;refine⟨by simp<;>omega,rfl,rfl,rfl,fun b hb=>?_⟩;rw[Below.heap_setCell _ _ _ _ (by simp;omega)];(repeat rw[Below.heap_alloc _ _ _ (by simp;omega)]);exact Below.heap_alloc _ _ _ hb
theorem N6 (n:Int) (w:World):(zz ⟨w.heap.size,0,none⟩ n (w.alloc (.cells #[.int .i64 0] 50))).cell? ⟨w.heap.size,0,none⟩=some (.int .i64 n):=by
 unfold zz
 have hm:((((w.alloc (.cells #[.int .i64 0] 50)).alloc (.cells #[.pointer (some ⟨w.heap.size,0,none⟩)] 238)).alloc (.cells #[.pointer (some ⟨13,238,none⟩),.pointer (some ⟨(w.alloc (.cells #[.int .i64 0] 50)).heap.size,0,none⟩),.int .u64 150] 310)).alloc (.cells #[.pointer (some ⟨13,238,none⟩),.pointer (some ⟨(w.alloc (.cells #[.int .i64 0] 50)).heap.size,0,none⟩),.int .u64 150] 310) |>.alloc (.cells #[.int .i64 n] 50)).cell? ⟨w.heap.size,0,none⟩=some (.int .i64 0):=by
  rw[World.cell?_alloc_lt _ _ _ (by simp;omega),World.cell?_alloc_lt _ _ _ (by simp;omega),World.cell?_alloc_lt _ _ _ (by simp;omega),World.cell?_alloc_lt _ _ _ ak];simp
 exact World.cell?_setCell_same _ _ _ hm
theorem UO (w:World):Calls prog 52 #[.nilIface] w fun e w'=>e = .returned (.int .i64 0)/\w'=w:=by
 go_enter func52,ntmps52
 go_wp2
 go_ret
 exact⟨rfl,rfl⟩
theorem UN (n:Int) (w:World) (hg:w.cell? ⟨4,0,none⟩=some qs):Calls prog 52 #[.iface 50 (.int .i64 n)] w fun e w'=>e = .returned (.int .i64 n)/\cN w w':=by
 have aH:4 < w.heap.size:=by
  rcases akS 4 w.heap.size with h | h
  .exact h
  .simp[World.cell?,akK h]at hg
 have Kd:(w.alloc (.cells #[.int .i64 0] 50)).cell? ⟨4,0,none⟩=some qs:=by rw[World.cell?_alloc_lt _ _ ⟨4,0,none⟩ aH];exact hg
 have KY:(w.alloc (.cells #[.int .i64 0] 50)).cell? ⟨w.heap.size,0,none⟩=some (.int .i64 0):=ak
 have J6:(w.alloc (.cells #[.int .i64 0] 50)).frozen? ⟨w.heap.size,0,none⟩=false:=ak
 have hc:=N6 n w;have fJ:=N7 n w
 go_enter func52,ntmps52
 go_wp2_with (go_at_call 127;refine (Wb n _ (.int .i64 0) _ Kd KY J6).mono ?_;rintro e w' ⟨rfl,rfl⟩)
 go_ret
 exact⟨rfl,fJ⟩
theorem UM (n:Int) (a:Addr) (w:World) (hg:w.cell? ⟨4,0,none⟩=some qs) (ha:w.cell? a=some (.int .i64 n)):Calls prog 52 #[.iface 269 (.pointer (some a))] w fun e w'=>e = .returned (.int .i64 n)/\cN w w':=by
 have aH:4 < w.heap.size:=by
  rcases akS 4 w.heap.size with h | h
  .exact h
  .simp[World.cell?,akK h]at hg
 have uN:a.block < w.heap.size:=xx ha
 have Kd:(w.alloc (.cells #[.int .i64 0] 50)).cell? ⟨4,0,none⟩=some qs:=by rw[World.cell?_alloc_lt _ _ ⟨4,0,none⟩ aH];exact hg
 have Zv:(w.alloc (.cells #[.int .i64 0] 50)).cell? a=some (.int .i64 n):=by rw[World.cell?_alloc_lt _ _ a uN];exact ha
 have KY:(w.alloc (.cells #[.int .i64 0] 50)).cell? ⟨w.heap.size,0,none⟩=some (.int .i64 0):=ak
 have J6:(w.alloc (.cells #[.int .i64 0] 50)).frozen? ⟨w.heap.size,0,none⟩=false:=ak
 have hc:=N6 n w;have fJ:=N7 n w
 go_enter func52,ntmps52
 go_wp2_with (go_at_call 127;refine (Wa n a _ (.int .i64 0) _ Kd Zv KY J6).mono ?_;rintro e w' ⟨rfl,rfl⟩)
 go_ret
 exact⟨rfl,fJ⟩
def codeF:Option (Int×Option Nat)->Int
 | none=>0
 | some (c,_)=>c
def ch:Option (Int×Option Nat)->Int
 | some (_,some s)=>s
 | _=>-1
def ra (G:ay):Prop:=G 4=some (.ip [.v qs])
theorem ra.cell {G:ay} (h:ra G) {w:World} {X:Nat->Prop} (hg:∀ g x,G g=some x->RD w X (.pointer (some ⟨g,0,none⟩)) x):w.cell? ⟨4,0,none⟩=some qs:=by
 have:=hg _ _ h;obtain⟨b,off,f,hb,_,_,hc,hr⟩:=this.rN;simp only[Value.pointer.injEq,IS,Addr.mk.injEq,and_true]at hb;obtain⟨rfl,rfl⟩:=hb;have h1:=hc 0 ak;have h2:=(hr 0 _ rfl).scalar;rw[h2]at h1;exact h1
theorem ahw (G:ay) (hG:ra G) (e:Option (Int×Option Nat)):aD prog G 52 [bD e] (.v (.int .i64 (codeF e))):=by
 refine aD.sE (iA.of func52 rfl rfl) fun X w vs bd bY dt=>?_;have hg:=hG.cell dt;obtain⟨v,rfl⟩:∃ v,vs = #[v]:=Array.size_eq_one_iff.1 bd;have hv:=bY 0 v _ rfl rfl
 match e,hv with
 | none,hv=>
  have:=hv.scalar;subst this;exact (UO w).mono fun e w' ⟨he,hw⟩=>⟨_,he,by rw[hw];exact cN.refl w,.v _⟩
 | some (c,none),hv=>
  obtain⟨u,rfl,hu⟩:=hv.tv;have:=hu.scalar;subst this;exact (UN c w hg).mono fun e w' ⟨he,hw⟩=>⟨_,he,hw,.v _⟩
 | some (c,some s),hv=>
  obtain⟨u,rfl,hu⟩:=hv.tv;obtain⟨b,off,f,rfl,_,_,hc,hr⟩:=hu.rN;have h1:=hc 0 ak;have h2:=(hr 0 _ rfl).scalar;rw[h2]at h1;exact (UM c ⟨b,off,none⟩ w hg h1).mono fun e w' ⟨he,hw⟩=>⟨_,he,hw,.v _⟩
theorem alv:type_of% @ab.eq_1:=@ab.eq_1
theorem aly:type_of% @codeF.eq_1:=@codeF.eq_1
theorem alz:type_of% @codeF.eq_2:=@codeF.eq_2
theorem alA:type_of% @ch.eq_1:=@ch.eq_1
theorem alB:type_of% @ch.eq_2:=@ch.eq_2
theorem alF:type_of% @bD.eq_1:=@bD.eq_1
theorem alG:type_of% @bD.eq_2:=@bD.eq_2
theorem alH:type_of% @bD.eq_3:=@bD.eq_3
