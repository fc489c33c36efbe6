/- Parts. -/
import Derived.Test.YtoohljflflnbeaaGreatDoorBo11
import Derived.Test.YtoohljflflnbeaaGreatDoorBo14
import Derived.LaidEql
import Derived.Stop.Asserts
import Derived.RowKitTokens
set_option linter.unusedSimpArgs false
set_option linter.unusedVariables false
set_option maxHeartbeats 8000000
open Go.Proofs.Tryz
namespace Go.Proofs.YtoohljflflnbeaaGreatDoor
open Go.RowKit Go.Extern.Stop Go.Stop Go.Extern
theorem QS (t:Addr) (w:World):(ReflectliteValue.unpack (.iface 238 (.pointer (some t)))).run prog w
  = .ok (.agg #[.pointer (some ⟨13,238,none⟩),.pointer (some ⟨w.heap.size,0,none⟩),.int .u64 150]) (w.alloc (.cells #[.pointer (some t)] 238)):=ah
theorem QQ (a:Addr) (w:World):(ReflectliteValue.methodAny (ReflectliteValue.valueError "reflectlite.Value.Type" 0) (fun t _ _ _=>ReflectliteType.toType t) #[.agg #[.pointer (some ⟨13,238,none⟩),.pointer (some a),.int .u64 150]]).run prog w
  = .ok (.iface 363 (.agg #[.pointer (some ⟨13,238,none⟩)])) w:=ah
theorem QM (h:Value) (w:World):(Go.method 580 363 (.agg #[h]) "Kind").run prog w = .ok (352,h) w:=by kernel_rfl
theorem QI (w:World):((ReflectliteType.abiMethod fun t=>(fun a:Nat=>Value.int IntKind.u8 (a:Int)) <$> Rtype.kind t) #[.pointer (some ⟨13,238,none⟩)]).run prog w = .ok (.int .u8 22) w:=ah
theorem QH (w:World):((ReflectliteType.abiMethod fun t=>(fun a:Nat=>Value.int IntKind.u8 (a:Int)) <$> Rtype.kind t) #[.pointer (some ⟨13,50,none⟩)]).run prog w = .ok (.int .u8 2) w:=ah
theorem QT (z:Sem Value) (f:TypeId->Addr->Nat->Nat->Sem Value) (v:Value) :
  ReflectliteValue.method z f #[v]=(do match <- ReflectliteValue.parts v with | none=>z | some (t,a,fl)=>f t a fl (fl % 32)):=rfl
theorem QN (a:Addr) (w:World):(ReflectliteValue.parts (.agg #[.pointer (some ⟨13,238,none⟩),.pointer (some a),.int .u64 150])).run prog w = .ok (some (238,a,150)) w:=ah
theorem QG (a p:Addr) (W:World) (ha:W.cell? a=some (.pointer (some p))) :
  (ReflectliteValue.method (ReflectliteValue.valueError "reflectlite.Value.IsNil" 0) ReflectliteValue.isNil #[.agg #[.pointer (some ⟨13,238,none⟩),.pointer (some a),.int .u64 150]]).run prog W = .ok (.bool false) W:=by
 rw[QT];simp only[Sem.run_bind,QN,Result.andThen];simp[ReflectliteValue.isNil,loadVar,isAgg,underlying,underlying238,ha,Result.andThen]
theorem QK (h:Value) (w:World):(Go.method 580 363 (.agg #[h]) "Elem").run prog w = .ok (376,.agg #[h]) w:=by kernel_rfl
theorem QL (h:Value) (w:World):(Go.method 580 363 (.agg #[h]) "Implements").run prog w = .ok (377,.agg #[h]) w:=by kernel_rfl
theorem QJ (h:Value) (w:World):(Go.method 580 363 (.agg #[h]) "AssignableTo").run prog w = .ok (374,.agg #[h]) w:=by kernel_rfl
theorem QD (w:World):(ReflectliteType.method ReflectliteType.elem #[.agg #[.pointer (some ⟨13,238,none⟩)]]).run prog w = .ok (.iface 363 (.agg #[.pointer (some ⟨13,50,none⟩)])) w:=ah
theorem QF (w:World):(ReflectliteType.relation "Implements" ReflectliteType.implements_ #[.agg #[.pointer (some ⟨13,50,none⟩)],.iface 363 (.agg #[.pointer (some ⟨13,30,none⟩)])]).run prog w = .ok (.bool true) w:=by kernel_rfl
theorem QP (v:Value) (w:World):(ReflectliteType.typeOf #[.iface 50 v]).run prog w = .ok (.iface 363 (.agg #[.pointer (some ⟨13,50,none⟩)])) w:=ah
theorem adh (v:Value) (w:World):(ReflectliteType.typeOf #[.iface 269 v]).run prog w = .ok (.iface 363 (.agg #[.pointer (some ⟨13,269,none⟩)])) w:=ah
theorem QC (w:World):(ReflectliteType.relation "AssignableTo" ReflectliteType.assignableTo #[.agg #[.pointer (some ⟨13,50,none⟩)],.iface 363 (.agg #[.pointer (some ⟨13,50,none⟩)])]).run prog w = .ok (.bool true) w:=by kernel_rfl
theorem ac7 (w:World):(ReflectliteType.relation "AssignableTo" ReflectliteType.assignableTo #[.agg #[.pointer (some ⟨13,269,none⟩)],.iface 363 (.agg #[.pointer (some ⟨13,50,none⟩)])]).run prog w = .ok (.bool false) w:=by kernel_rfl
theorem QR (n:Int) (w:World):(ReflectliteValue.unpack (.iface 50 (.int .i64 n))).run prog w
  = .ok (.agg #[.pointer (some ⟨13,50,none⟩),.pointer (some ⟨w.heap.size,0,none⟩),.int .u64 130]) (w.alloc (.cells #[.int .i64 n] 50)):=ah
theorem ac9 (w:World):(Rtype.elem? 238).run prog w = .ok (some 50) w:=ah
theorem adb (p:Addr) (w:World):(ReflectliteValue.mk 50 p ReflectliteValue.flagAddr).run prog w = .ok (.agg #[.pointer (some ⟨13,50,none⟩),.pointer (some p),.int .u64 386]) w:=ah
theorem QE (a p:Addr) (W:World) (ha:W.cell? a=some (.pointer (some p))) :
  (ReflectliteValue.method (ReflectliteValue.valueError "reflectlite.Value.Elem" 0) ReflectliteValue.elem #[.agg #[.pointer (some ⟨13,238,none⟩),.pointer (some a),.int .u64 150]]).run prog W
   = .ok (.agg #[.pointer (some ⟨13,50,none⟩),.pointer (some p),.int .u64 386]) W:=by
 rw[QT];simp only[Sem.run_bind,QN,Result.andThen];simp[ReflectliteValue.elem,loadVar,isAgg,underlying,underlying238,ha,Result.andThen,ac9,adb]
theorem rls (v x:Value):ReflectliteValue.set #[v,x]=(do
  let (some (dst,a,fl),some (src,b,_)):=(<- ReflectliteValue.parts v,<- ReflectliteValue.parts x)
   | unsupported (.noEntry "extern/(internal/reflectlite.Value).Set.zeroValue")
  if fl / ReflectliteValue.flagAddr % 2 == 0 then unsupported (.noEntry "extern/(internal/reflectlite.Value).Set.unaddressable")
  let val <- loadVar src b
  if <- Rtype.directlyAssignable dst src then storeVar dst a val
  else if <- Rtype.implements dst src then
   if (<- Rtype.kind src) == 20 then
    match val with
    | .nilIface=>unsupported (.noEntry "extern/reflectlite: a nil value of one interface type handed on as a value of another")
    | _=>storeVar dst a val
   else storeVar dst a (.iface src val)
  else panicString ("reflectlite.Set: value of type " ++ (<- Rtype.spelt src) ++ " is not assignable to type " ++ (<- Rtype.spelt dst))
  pure (.tuple #[])):=rfl
theorem adg (a:Addr) (w:World):(ReflectliteValue.parts (.agg #[.pointer (some ⟨13,50,none⟩),.pointer (some a),.int .u64 386])).run prog w = .ok (some (50,a,386)) w:=ah
theorem adf (a:Addr) (w:World):(ReflectliteValue.parts (.agg #[.pointer (some ⟨13,50,none⟩),.pointer (some a),.int .u64 130])).run prog w = .ok (some (50,a,130)) w:=ah
theorem ac8 (w:World):(Rtype.directlyAssignable 50 50).run prog w = .ok true w:=ah
theorem QO (ta b:Addr) (n:Int) (fz:Value) (W:World) (hb:W.cell? b=some (.int .i64 n)) (ht:W.cell? ta=some fz) (hf:W.frozen? ta=false) :
  (ReflectliteValue.set #[.agg #[.pointer (some ⟨13,50,none⟩),.pointer (some ta),.int .u64 386],.agg #[.pointer (some ⟨13,50,none⟩),.pointer (some b),.int .u64 130]]).run prog W
   = .ok (.tuple #[]) (W.setCell ta (.int .i64 n)):=by
 rw[rls];simp only[Sem.run_bind,adg,adf,Result.andThen];simp[ReflectliteValue.flagAddr,loadVar,isAgg,underlying,underlying50,hb,Result.andThen,ac8,storeVar,Value.cells,storeCells,Addr.add];rw[run_store prog W ta _ _ (by rfl)];simp[ht,hf]
def yn (t:Addr) (n:Int) (w:World):World:=((((w.alloc (.cells #[.pointer (some t)] 238)).alloc (.cells #[.pointer (some ⟨13,238,none⟩),.pointer (some ⟨w.heap.size,0,none⟩),.int .u64 150] 310)).alloc (.cells #[.pointer (some ⟨13,238,none⟩),.pointer (some ⟨w.heap.size,0,none⟩),.int .u64 150] 310)).alloc (.cells #[.int .i64 n] 50)).setCell t (.int .i64 n)
theorem Tm (n:Int) (t:Addr) (fz:Value) (w:World) (hg:w.cell? ⟨4,0,none⟩=some (.iface 363 (.agg #[.pointer (some ⟨13,30,none⟩)]))) (p6:w.cell? t=some fz) (HM:w.frozen? t=false) :
  Calls prog 127 #[.iface 50 (.int .i64 n),.iface 238 (.pointer (some t))] w fun ev w'=>ev = .returned (.bool true)/\w'=yn t n w:=by
 have h6:=@run_callFunc_extern prog 197 _ (fun args=>ReflectliteValue.unpack (args.getD 0 (.tuple #[]))) func197 ah ah ah ah;have h7:=@run_callFunc_extern prog 198 _ (ReflectliteValue.methodAny (ReflectliteValue.valueError "reflectlite.Value.Type" 0) (fun t _ _ _=>ReflectliteType.toType t)) func198 ah ah ah ah;have h8:=@run_callFunc_extern prog 199 _ (ReflectliteValue.method (ReflectliteValue.valueError "reflectlite.Value.IsNil" 0) ReflectliteValue.isNil) func199 ah ah ah ah;have Xe:=@run_callFunc_extern prog 352 _ (ReflectliteType.abiMethod fun t=>do pure (.int .u8 (<- Rtype.kind t))) func352 ah ah ah ah;have Xg:=@run_callFunc_extern prog 376 _ (ReflectliteType.method ReflectliteType.elem) func376 ah ah ah ah;have Xh:=@run_callFunc_extern prog 377 _ (ReflectliteType.relation "Implements" ReflectliteType.implements_) func377 ah ah ah ah;have DV:=@run_callFunc_extern prog 249 _ ReflectliteType.typeOf func249 ah ah ah ah;have Xf:=@run_callFunc_extern prog 374 _ (ReflectliteType.relation "AssignableTo" ReflectliteType.assignableTo) func374 ah ah ah ah;have Xc:=@run_callFunc_extern prog 250 _ (ReflectliteValue.method (ReflectliteValue.valueError "reflectlite.Value.Elem" 0) ReflectliteValue.elem) func250 ah ah ah ah;have MK:=@run_callFunc_extern prog 251 _ ReflectliteValue.set func251 ah ah ah ah;have mA:=QJ;have aE:=QC;have vE:=QR;have tE:=QP;have f6:=QS;have f7:=QQ;have mK:=QM;have mE:=QK;have mI:=QL;have kP:=QI;have kE:=QH;have eP:=QD;have iE:=QF;have n8:=QG ⟨w.heap.size,0,none⟩ t ((w.alloc (.cells #[.pointer (some t)] 238)).alloc (.cells #[.pointer (some ⟨13,238,none⟩),.pointer (some ⟨w.heap.size,0,none⟩),.int .u64 150] 310)) ak
 have aG:4 < w.heap.size:=by
  rcases ahH 4 w.heap.size with h | h
  .exact h
  .simp[World.cell?,ahz h]at hg
 have YK:((w.alloc (.cells #[.pointer (some t)] 238)).alloc (.cells #[.pointer (some ⟨13,238,none⟩),.pointer (some ⟨w.heap.size,0,none⟩),.int .u64 150] 310)).cell? ⟨4,0,none⟩=some (.iface 363 (.agg #[.pointer (some ⟨13,30,none⟩)])):=by
  rw[World.cell?_alloc_lt _ _ ⟨4,0,none⟩ (by first | (simp;done) | (simp;omega)),World.cell?_alloc_lt _ _ ⟨4,0,none⟩ aG];exact hg
 have kW:t.block < w.heap.size:=by
  rcases ahH t.block w.heap.size with h | h
  .exact h
  .simp[World.cell?,ahz h]at p6
 have el:=QE ⟨w.heap.size,0,none⟩ t (((w.alloc (.cells #[.pointer (some t)] 238)).alloc (.cells #[.pointer (some ⟨13,238,none⟩),.pointer (some ⟨w.heap.size,0,none⟩),.int .u64 150] 310)).alloc (.cells #[.pointer (some ⟨13,238,none⟩),.pointer (some ⟨w.heap.size,0,none⟩),.int .u64 150] 310)) (by rw[World.cell?_alloc_lt _ _ ⟨w.heap.size,0,none⟩ (by simp;omega)];simp)
 have st:=QO t ⟨w.heap.size+1+1+1,0,none⟩ n fz ((((w.alloc (.cells #[.pointer (some t)] 238)).alloc (.cells #[.pointer (some ⟨13,238,none⟩),.pointer (some ⟨w.heap.size,0,none⟩),.int .u64 150] 310)).alloc (.cells #[.pointer (some ⟨13,238,none⟩),.pointer (some ⟨w.heap.size,0,none⟩),.int .u64 150] 310)).alloc (.cells #[.int .i64 n] 50))
  (by rw[World.cell?_alloc_at _ _ _ _ ak];rfl)
  (by rw[World.cell?_alloc_lt _ _ t (by simp;omega),World.cell?_alloc_lt _ _ t (by simp;omega),World.cell?_alloc_lt _ _ t (by simp;omega),World.cell?_alloc_lt _ _ t kW];exact p6)
  (by rw[World.frozen?_alloc_old _ _ t (by simp;omega),World.frozen?_alloc_old _ _ t (by simp;omega),World.frozen?_alloc_old _ _ t (by simp;omega),World.frozen?_alloc_old _ _ t (Nat.ne_of_lt kW)];exact HM)
 go_enter func127,ntmps127
 go_wp2
 refine wp_loop_rounds 1 ?_;rw[rounds_succ]
 go_wp2
 go_ret
 exact⟨rfl,rfl⟩
theorem aeG (a:Addr) (n:Int) (w:World) (ha:w.cell? a=some (.int .i64 n)):Calls prog 369 #[.pointer (some a)] w fun e w'=>e = .returned (.iface 50 (.int .i64 n))/\w'=w:=by
 go_enter func369,ntmps369
 go_wp2
 go_ret
 exact⟨rfl,rfl⟩
theorem ada (h:Value) (w:World):(Go.method 580 269 h "Unwrap").run prog w = .ok (369,h) w:=by kernel_rfl
theorem ade (v:Value) (xT:TypeId) (w:World):(Instr.typeAssert (.iface 269 v) xT 368 true).run prog w = .ok (.tuple #[.nilIface,.bool false]) w:=run_typeAssert_lacksB underlying368 ah ah v xT w
theorem adi (v:Value) (xT:TypeId) (w:World):(Instr.typeAssert (.iface 269 v) xT 276 true).run prog w = .ok (.tuple #[.iface 269 v,.bool true]) w:=run_typeAssert_hasB underlying276 ah v xT w
theorem Tl (n:Int) (a t:Addr) (fz:Value) (w:World) (hg:w.cell? ⟨4,0,none⟩=some (.iface 363 (.agg #[.pointer (some ⟨13,30,none⟩)]))) (ha:w.cell? a=some (.int .i64 n)) (p6:w.cell? t=some fz) (HM:w.frozen? t=false) :
  Calls prog 127 #[.iface 269 (.pointer (some a)),.iface 238 (.pointer (some t))] w fun ev w'=>ev = .returned (.bool true)/\w'=yn t n w:=by
 have h6:=@run_callFunc_extern prog 197 _ (fun args=>ReflectliteValue.unpack (args.getD 0 (.tuple #[]))) func197 ah ah ah ah;have h7:=@run_callFunc_extern prog 198 _ (ReflectliteValue.methodAny (ReflectliteValue.valueError "reflectlite.Value.Type" 0) (fun t _ _ _=>ReflectliteType.toType t)) func198 ah ah ah ah;have h8:=@run_callFunc_extern prog 199 _ (ReflectliteValue.method (ReflectliteValue.valueError "reflectlite.Value.IsNil" 0) ReflectliteValue.isNil) func199 ah ah ah ah;have Xe:=@run_callFunc_extern prog 352 _ (ReflectliteType.abiMethod fun t=>do pure (.int .u8 (<- Rtype.kind t))) func352 ah ah ah ah;have Xg:=@run_callFunc_extern prog 376 _ (ReflectliteType.method ReflectliteType.elem) func376 ah ah ah ah;have Xh:=@run_callFunc_extern prog 377 _ (ReflectliteType.relation "Implements" ReflectliteType.implements_) func377 ah ah ah ah;have DV:=@run_callFunc_extern prog 249 _ ReflectliteType.typeOf func249 ah ah ah ah;have Xf:=@run_callFunc_extern prog 374 _ (ReflectliteType.relation "AssignableTo" ReflectliteType.assignableTo) func374 ah ah ah ah;have Xc:=@run_callFunc_extern prog 250 _ (ReflectliteValue.method (ReflectliteValue.valueError "reflectlite.Value.Elem" 0) ReflectliteValue.elem) func250 ah ah ah ah;have MK:=@run_callFunc_extern prog 251 _ ReflectliteValue.set func251 ah ah ah ah;have mA:=QJ;have aE:=QC;have vE:=QR;have tE:=QP;have f6:=QS;have f7:=QQ;have mK:=QM;have mE:=QK;have mI:=QL;have kP:=QI;have kE:=QH;have eP:=QD;have iE:=QF;have n8:=QG ⟨w.heap.size,0,none⟩ t ((w.alloc (.cells #[.pointer (some t)] 238)).alloc (.cells #[.pointer (some ⟨13,238,none⟩),.pointer (some ⟨w.heap.size,0,none⟩),.int .u64 150] 310)) ak
 have aG:4 < w.heap.size:=by
  rcases ahH 4 w.heap.size with h | h
  .exact h
  .simp[World.cell?,ahz h]at hg
 have YK:((w.alloc (.cells #[.pointer (some t)] 238)).alloc (.cells #[.pointer (some ⟨13,238,none⟩),.pointer (some ⟨w.heap.size,0,none⟩),.int .u64 150] 310)).cell? ⟨4,0,none⟩=some (.iface 363 (.agg #[.pointer (some ⟨13,30,none⟩)])):=by
  rw[World.cell?_alloc_lt _ _ ⟨4,0,none⟩ (by first | (simp;done) | (simp;omega)),World.cell?_alloc_lt _ _ ⟨4,0,none⟩ aG];exact hg
 have kW:t.block < w.heap.size:=by
  rcases ahH t.block w.heap.size with h | h
  .exact h
  .simp[World.cell?,ahz h]at p6
 have el:=QE ⟨w.heap.size,0,none⟩ t (((w.alloc (.cells #[.pointer (some t)] 238)).alloc (.cells #[.pointer (some ⟨13,238,none⟩),.pointer (some ⟨w.heap.size,0,none⟩),.int .u64 150] 310)).alloc (.cells #[.pointer (some ⟨13,238,none⟩),.pointer (some ⟨w.heap.size,0,none⟩),.int .u64 150] 310)) (by rw[World.cell?_alloc_lt _ _ ⟨w.heap.size,0,none⟩ (by simp;omega)];simp)
 have st:=QO t ⟨w.heap.size+1+1+1,0,none⟩ n fz ((((w.alloc (.cells #[.pointer (some t)] 238)).alloc (.cells #[.pointer (some ⟨13,238,none⟩),.pointer (some ⟨w.heap.size,0,none⟩),.int .u64 150] 310)).alloc (.cells #[.pointer (some ⟨13,238,none⟩),.pointer (some ⟨w.heap.size,0,none⟩),.int .u64 150] 310)).alloc (.cells #[.int .i64 n] 50))
  (by rw[World.cell?_alloc_at _ _ _ _ ak];rfl)
  (by rw[World.cell?_alloc_lt _ _ t (by simp;omega),World.cell?_alloc_lt _ _ t (by simp;omega),World.cell?_alloc_lt _ _ t (by simp;omega),World.cell?_alloc_lt _ _ t kW];exact p6)
  (by rw[World.frozen?_alloc_old _ _ t (by simp;omega),World.frozen?_alloc_old _ _ t (by simp;omega),World.frozen?_alloc_old _ _ t (by simp;omega),World.frozen?_alloc_old _ _ t (Nat.ne_of_lt kW)];exact HM)
 have tA:=adh;have aA:=ac7;have nA:=ade;have uA:=adi;have mU:=ada
 have pX:a.block < w.heap.size:=by
  rcases ahH a.block w.heap.size with h | h
  .exact h
  .simp[World.cell?,ahz h]at ha
 have XV:(((w.alloc (.cells #[.pointer (some t)] 238)).alloc (.cells #[.pointer (some ⟨13,238,none⟩),.pointer (some ⟨w.heap.size,0,none⟩),.int .u64 150] 310)).alloc (.cells #[.pointer (some ⟨13,238,none⟩),.pointer (some ⟨w.heap.size,0,none⟩),.int .u64 150] 310)).cell? a=some (.int .i64 n):=by
  rw[World.cell?_alloc_lt _ _ a (by simp;omega),World.cell?_alloc_lt _ _ a (by simp;omega),World.cell?_alloc_lt _ _ a pX];exact ha
 go_enter func127,ntmps127
 go_wp2
 refine wp_loop_rounds 2 ?_;rw[rounds_succ]
 go_wp2_with (go_at_call 369;refine (aeG a n _ XV).mono ?_;rintro e w' ⟨rfl,rfl⟩)
 rw[rounds_succ]
 go_wp2
 go_ret
 exact⟨rfl,rfl⟩
end Go.Proofs.YtoohljflflnbeaaGreatDoor
namespace Go.Proofs.YtoohljflflnbeaaGreatDoor
open Go.Av
def ab (n:Int):D:=.v (.int .i64 n)
def s7 (r:List Int):D:=mh none r
def qv (l:List (List Int)):D:=.sl none (l.map fun r=>[s7 r])
theorem VE (G:aC) (l:List Int) (h:l.length < 2^40):aD prog G 117 [s7 l] (s7 l):=by
 refine aD.aQ (aB _) func117 rfl rfl (rs:=[.tmp 2]) results117 (by simp[ntmps117]) fun X=>?_;simp only[ntmps117,List.map];refine AW.JK 0 rfl ?_ fun hl=>?_
 .refine aq [0] [] ?_;refine ag fun K1 aF=>ae (Aq @s7.eq_1 @mh.eq_1) [0,4] [] ?_;refine pO false rfl (fun hc=>?_) (fun hc=>?_)
  .cases hc
  refine ar (aF _ (ae (Aq @s7.eq_1 @mh.eq_1) [2] [5,7] ?_));exact aW (Aq @s7.eq_1 @mh.eq_1)
 .refine aq [0] [] ?_;refine ag fun K1 aF=>ae (Aq @s7.eq_1 @mh.eq_1) [0,4] [] ?_;refine pO true rfl (fun hc=>?_) (fun hc=>?_)
  .refine aq [2] [] ?_;refine bR ?_;simp[D.le,D.le.go,aL,s7,mh];simpa using hl
  .cases hc
def abS (st:List (List Int)×List Int) (l:List Int):List (List Int)×List Int:=
 if idx (fun x=>x == l) st.1 < 0 then (st.1 ++ [l],st.2 ++ [(st.1.length:Int)]) else (st.1,st.2 ++ [idx (fun x=>x == l) st.1])
def abR (L:List (List Int)) (n:Nat):List (List Int)×List Int:=(L.take n).foldl abS ([],[])
structure Gj where
 next:List (List Int)
 aes:List (List Int)
def bB:Option (Int×Option Nat)->D
 | none=>.v .nilIface
 | some (c,none)=>.bZ 50 (.v (.int .i64 c))
 | some (c,some s)=>.bZ 269 (.ip [.v (.int .i64 c),.v (.int .i64 s)])
open Go.Extern Go.Extern.Stop Go.RowKit Go.Stop
def pW:Value:=.iface 363 (.agg #[.pointer (some ⟨13,30,none⟩)])
theorem LC (n:Int) (w:World):cR w (yn ⟨w.heap.size,0,none⟩ n (w.alloc (.cells #[.int .i64 0] 50))):=by
 unfold yn;refine⟨by simp<;>omega,rfl,rfl,rfl,fun b hb=>?_⟩;rw[Below.heap_setCell _ _ _ _ (by simp;omega)];(repeat rw[Below.heap_alloc _ _ _ (by simp;omega)]);exact Below.heap_alloc _ _ _ hb
theorem LB (n:Int) (w:World):(yn ⟨w.heap.size,0,none⟩ n (w.alloc (.cells #[.int .i64 0] 50))).cell? ⟨w.heap.size,0,none⟩=some (.int .i64 n):=by
 unfold yn
 have hm:((((w.alloc (.cells #[.int .i64 0] 50)).alloc (.cells #[.pointer (some ⟨w.heap.size,0,none⟩)] 238)).alloc (.cells #[.pointer (some ⟨13,238,none⟩),.pointer (some ⟨(w.alloc (.cells #[.int .i64 0] 50)).heap.size,0,none⟩),.int .u64 150] 310)).alloc (.cells #[.pointer (some ⟨13,238,none⟩),.pointer (some ⟨(w.alloc (.cells #[.int .i64 0] 50)).heap.size,0,none⟩),.int .u64 150] 310) |>.alloc (.cells #[.int .i64 n] 50)).cell? ⟨w.heap.size,0,none⟩=some (.int .i64 0):=by
  rw[World.cell?_alloc_lt _ _ _ (by simp;omega),World.cell?_alloc_lt _ _ _ (by simp;omega),World.cell?_alloc_lt _ _ _ (by simp;omega),World.cell?_alloc_lt _ _ _ ak];simp
 exact World.cell?_setCell_same _ _ _ hm
theorem R6 (w:World):Calls prog 52 #[.nilIface] w fun e w'=>e = .returned (.int .i64 0)/\w'=w:=by
 go_enter func52,ntmps52
 go_wp2
 go_ret
 exact⟨rfl,rfl⟩
theorem R5 (n:Int) (w:World) (hg:w.cell? ⟨4,0,none⟩=some pW):Calls prog 52 #[.iface 50 (.int .i64 n)] w fun e w'=>e = .returned (.int .i64 n)/\cR w w':=by
 have aG:4 < w.heap.size:=by
  rcases ahH 4 w.heap.size with h | h
  .exact h
  .simp[World.cell?,ahz h]at hg
 have HT:(w.alloc (.cells #[.int .i64 0] 50)).cell? ⟨4,0,none⟩=some pW:=by rw[World.cell?_alloc_lt _ _ ⟨4,0,none⟩ aG];exact hg
 have IH:(w.alloc (.cells #[.int .i64 0] 50)).cell? ⟨w.heap.size,0,none⟩=some (.int .i64 0):=ak
 have HN:(w.alloc (.cells #[.int .i64 0] 50)).frozen? ⟨w.heap.size,0,none⟩=false:=ak
 have hc:=LB n w;have fC:=LC n w
 go_enter func52,ntmps52
 go_wp2_with (go_at_call 127;refine (Tm n _ (.int .i64 0) _ HT IH HN).mono ?_;rintro e w' ⟨rfl,rfl⟩)
 go_ret
 exact⟨rfl,fC⟩
theorem R4 (n:Int) (a:Addr) (w:World) (hg:w.cell? ⟨4,0,none⟩=some pW) (ha:w.cell? a=some (.int .i64 n)):Calls prog 52 #[.iface 269 (.pointer (some a))] w fun e w'=>e = .returned (.int .i64 n)/\cR w w':=by
 have aG:4 < w.heap.size:=by
  rcases ahH 4 w.heap.size with h | h
  .exact h
  .simp[World.cell?,ahz h]at hg
 have pX:a.block < w.heap.size:=wc ha
 have HT:(w.alloc (.cells #[.int .i64 0] 50)).cell? ⟨4,0,none⟩=some pW:=by rw[World.cell?_alloc_lt _ _ ⟨4,0,none⟩ aG];exact hg
 have XW:(w.alloc (.cells #[.int .i64 0] 50)).cell? a=some (.int .i64 n):=by rw[World.cell?_alloc_lt _ _ a pX];exact ha
 have IH:(w.alloc (.cells #[.int .i64 0] 50)).cell? ⟨w.heap.size,0,none⟩=some (.int .i64 0):=ak
 have HN:(w.alloc (.cells #[.int .i64 0] 50)).frozen? ⟨w.heap.size,0,none⟩=false:=ak
 have hc:=LB n w;have fC:=LC n w
 go_enter func52,ntmps52
 go_wp2_with (go_at_call 127;refine (Tl n a _ (.int .i64 0) _ HT XW IH HN).mono ?_;rintro e w' ⟨rfl,rfl⟩)
 go_ret
 exact⟨rfl,fC⟩
def codeF:Option (Int×Option Nat)->Int
 | none=>0
 | some (c,_)=>c
def b7:Option (Int×Option Nat)->Int
 | some (_,some s)=>s
 | _=>-1
def qm (G:aC):Prop:=G 4=some (.ip [.v pW])
theorem qm.cell {G:aC} (h:qm G) {w:World} {X:Nat->Prop} (hg:∀ g x,G g=some x->RD w X (.pointer (some ⟨g,0,none⟩)) x):w.cell? ⟨4,0,none⟩=some pW:=by
 have:=hg _ _ h;obtain⟨b,off,f,hb,_,_,hc,hr⟩:=this.qK;simp only[Value.pointer.injEq,IT,Addr.mk.injEq,and_true]at hb;obtain⟨rfl,rfl⟩:=hb;have h1:=hc 0 ak;have h2:=(hr 0 _ rfl).scalar;rw[h2]at h1;exact h1
theorem aer (G:aC) (hG:qm G) (e:Option (Int×Option Nat)):aD prog G 52 [bB e] (.v (.int .i64 (codeF e))):=by
 refine aD.rJ (gS.of func52 rfl rfl) fun X w vs bg cf dz=>?_;have hg:=hG.cell dz;obtain⟨v,rfl⟩:∃ v,vs = #[v]:=Array.size_eq_one_iff.1 bg;have hv:=cf 0 v _ rfl rfl
 match e,hv with
 | none,hv=>
  have:=hv.scalar;subst this;exact (R6 w).mono fun e w' ⟨he,hw⟩=>⟨_,he,by rw[hw];exact cR.refl w,.v _⟩
 | some (c,none),hv=>
  obtain⟨u,rfl,hu⟩:=hv.sj;have:=hu.scalar;subst this;exact (R5 c w hg).mono fun e w' ⟨he,hw⟩=>⟨_,he,hw,.v _⟩
 | some (c,some s),hv=>
  obtain⟨u,rfl,hu⟩:=hv.sj;obtain⟨b,off,f,rfl,_,_,hc,hr⟩:=hu.qK;have h1:=hc 0 ak;have h2:=(hr 0 _ rfl).scalar;rw[h2]at h1;exact (R4 c ⟨b,off,none⟩ w hg h1).mono fun e w' ⟨he,hw⟩=>⟨_,he,hw,.v _⟩
theorem aih:type_of% @ab.eq_1:=@ab.eq_1
theorem aik:type_of% @codeF.eq_1:=@codeF.eq_1
theorem ail:type_of% @codeF.eq_2:=@codeF.eq_2
theorem aim:type_of% @b7.eq_1:=@b7.eq_1
theorem ain:type_of% @b7.eq_2:=@b7.eq_2
theorem air:type_of% @bB.eq_1:=@bB.eq_1
theorem ais:type_of% @bB.eq_2:=@bB.eq_2
theorem ait:type_of% @bB.eq_3:=@bB.eq_3
