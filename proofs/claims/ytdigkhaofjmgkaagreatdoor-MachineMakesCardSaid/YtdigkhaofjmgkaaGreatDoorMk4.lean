/-
  Texts that belong together,in one file: Av4,Av5,Av6,Av7,Av8.
-/
import Derived.Test.YtdigkhaofjmgkaaGreatDoorMk3
import Derived.Laws.StructEq
set_option linter.unusedSectionVars false
set_option linter.unusedSimpArgs false
set_option linter.unusedVariables false
namespace Go.Av
def nY (op:BinOp) (k:IntKind) (x y:Int):Int:=
 let a:=BitVec.ofInt k.bits x
 let b:=BitVec.ofInt k.bits y
 match op with
 | .and=>k.wrap (a &&& b).toNat
 | .or=>k.wrap (a ||| b).toNat
 | .xor=>k.wrap (a ^^^ b).toNat
 | _=>k.wrap (a &&& ~~~b).toNat
def pq (k:IntKind) (n:Int):Option (Prop×Value):=match k with
 | .i64=>some (-9223372036854775808<=n/\n<=9223372036854775807,.int .i64 n)
 | k=>some (True,.int k (k.wrap n))
def xz (op:BinOp) (k:IntKind) (a b:Int):Option (Prop×Value):=match op with
 | .add=>pq k (a+b)
 | .sub=>pq k (a - b)
 | .mul=>pq k (a * b)
 | .quo=>some (b≠0,.int k (k.wrap (a.tdiv b)))
 | .rem=>some (b≠0,.int k (a.tmod b))
 | .and=>some (True,.int k (nY .and k a b))
 | .or=>some (True,.int k (nY .or k a b))
 | .xor=>some (True,.int k (nY .xor k a b))
 | .andNot=>some (True,.int k (nY .andNot k a b))
 | .eql=>some (True,.bool (a == b))
 | .neq=>some (True,.bool (a != b))
 | .lss=>some (True,.bool (decide (a < b)))
 | .leq=>some (True,.bool (decide (a<=b)))
 | .gtr=>some (True,.bool (decide (a > b)))
 | .geq=>some (True,.bool (decide (a >= b)))
 | _=>none
def shI (op:BinOp) (k:IntKind) (a b:Int):Option (Prop×Value):=match op with
 | .shl=>some (0<=b,.int k (k.wrap (a * 2 ^ (min b.toNat k.bits))))
 | .shr=>some (0<=b,.int k (a.fdiv (2 ^ (min b.toNat k.bits))))
 | _=>none
def Di:BinOp->Bool
 | .shl | .shr=>true
 | _=>false
def aN (op:BinOp) (a b:ByteArray):Option (Prop×Value):=match op with
 | .add=>some (a.size+b.size<=9223372036854775807,.string (a ++ b))
 | .eql=>some (True,.bool (a.toList == b.toList))
 | .neq=>some (True,.bool (!(a.toList == b.toList)))
 | .lss=>some (True,.bool (Op.bytesLess a.toList b.toList))
 | .leq=>some (True,.bool (Op.bytesLess a.toList b.toList || a.toList == b.toList))
 | .gtr=>some (True,.bool (!(Op.bytesLess a.toList b.toList || a.toList == b.toList)))
 | .geq=>some (True,.bool (!Op.bytesLess a.toList b.toList))
 | _=>none
theorem Ar {n:Int} (h:-9223372036854775808<=n/\n<=9223372036854775807):IntKind.i64.wrap n=n:=by rw [IntKind.wrap_i64];omega
theorem Bu {k:IntKind} {n:Int} {c:Prop} {v:Value} (h:pq k n=some (c,v)) (hc:c):v = .int k (k.wrap n):=by
 cases k<;>simp only [pq,Option.some.injEq,Prod.mk.injEq] at h<;>obtain ⟨rfl,rfl⟩:=h
 all_goals first | rfl | (rw [Ar hc])
theorem MA {P:Program} {op:BinOp} (gW:Di op=false) {k:IntKind} {a b:Int} {c:Prop} {v:Value} (h:xz op k a b=some (c,v)) (hc:c) (t:TypeId) (w:World):(binOp op t (.int k a) (.int k b)).run P w = .ok v w:=by
 unfold xz at h;cases op<;>simp only [Option.some.injEq,Prod.mk.injEq] at h
 all_goals first
  | (exact absurd gW (by decide))
  | (have:=Bu h hc;subst this;simp [binOp,Op.intArith])
  | (obtain ⟨rfl,rfl⟩:=h;simp [binOp,Op.intCmp];done)
  | (obtain ⟨rfl,rfl⟩:=h;simp [binOp,Op.intBits,nY];done)
  | (obtain ⟨rfl,rfl⟩:=h;simp [binOp,Op.intDiv,hc];done)
theorem Wz {P:Program} {op:BinOp} {k yk:IntKind} {a b:Int} {c:Prop} {v:Value} (h:shI op k a b=some (c,v)) (hc:c) (t:TypeId) (w:World):(binOp op t (.int k a) (.int yk b)).run P w = .ok v w:=by
 unfold shI at h;cases op<;>simp only [Option.some.injEq,Prod.mk.injEq,reduceCtorEq] at h
 all_goals
  obtain ⟨rfl,rfl⟩:=h
  have:¬ b < 0:=by omega
  simp [binOp,Op.shift,this]
theorem MB {P:Program} {op:BinOp} {a b:ByteArray} {c:Prop} {v:Value} (h:aN op a b=some (c,v)) (hc:c) (t:TypeId) (w:World):(binOp op t (.string a) (.string b)).run P w = .ok v w:=by
 unfold aN at h;cases op<;>simp only [Option.some.injEq,Prod.mk.injEq,reduceCtorEq] at h
 all_goals obtain ⟨rfl,rfl⟩:=h
 case add=>
  have:¬ (((a.size+b.size:Nat):Int) > IntKind.i64.max):=by simp [IntKind.max,IntKind.signed,IntKind.bits];omega
  simp [binOp,Op.stringOp,this]
  try omega
 all_goals simp [binOp,Op.stringOp]
def eqv (op:BinOp) (c:Prop) (b:Bool):Ans:=match op with
 | .eql=>some (c,bool b)
 | .neq=>some (c,bool !b)
 | _=>none
def lN (T:Ty) (t:TypeId) (p:TypeDesc->Bool):Bool:=match T t with
 | some ti=>p ti.desc
 | none=>false
def TypeDesc.isIface:TypeDesc->Bool | .interface _=>true | _=>false
def TypeDesc.isSlice:TypeDesc->Bool | .slice _=>true | _=>false
def TypeDesc.isBool:TypeDesc->Bool | .bool=>true | _=>false
def TypeDesc.isStr:TypeDesc->Bool | .string=>true | _=>false
def zr:TypeDesc->Value->Bool
 | .interface _,.nilIface | .pointer _,.pointer none | .func _ _ _,.nilFunc | .slice _,.slice none 0 0=>true
 | _,_=>false
def zp:AV->Value->Option (Prop×Bool)
 | .d (.br _ _),.nilIface=>some (True,false)
 | .br _ _,.nilIface=>some (True,false)
 | .d (.v .nilIface),.nilIface=>some (True,true)
 | .d (.ip _),.pointer none=>some (True,false)
 | .ref _ _ _,.pointer none=>some (True,false)
 | .d (.v (.pointer none)),.pointer none=>some (True,true)
 | .d (.fn _ _),.nilFunc=>some (True,false)
 | .fn _ _,.nilFunc=>some (True,false)
 | .d (.v .nilFunc),.nilFunc=>some (True,true)
 | .d (.sl (some b) _),.slice none 0 0=>some (True,!b)
 | .d (.sl none els),.slice none 0 0=>some (els≠[],false)
 | .own _ _ n,.slice none 0 0=>some (0 < n,false)
 | _,_=>none
def A8:Operand->Option Value
 | .const v=>some v
 | _=>none
def DU (T:Ty) (op:BinOp) (t:TypeId) (oy:Operand) (x:AV):Ans:=match A8 oy with
 | some v=>if lN T t (zr · v) then (zp x v).bind fun (c,b)=>eqv op c b else none
 | none=>none
def Bn (d:TypeDesc) (a b:Value):Option Bool:=match d,a,b with
 | .int _,.int k a,.int k' b=>if k=k' then some (a == b) else none
 | .string,.string a,.string b=>some (a.toList == b.toList)
 | .bool,.bool a,.bool b=>some (a == b)
 | _,_,_=>none
def xP (T:Ty) (xs ys:List D):List Field->Option Bool
 | []=>some true
 | f :: l=>if f.name = "_" then none else match T f.type,xs[f.offset]?,ys[f.offset]? with
  | some tf,some (.v a),some (.v b)=>match Bn tf.desc a b,xP T xs ys l with
   | some r,some r2=>some (r && r2)
   | _,_=>none
  | _,_,_=>none
def xy (T:Ty) (op:BinOp) (t:TypeId) (oy:Operand) (x y:AV):Ans:=match x,y with
 | .d (.v (.int k a)),.d (.v (.int k' b))=>
  if Di op then (shI op k a b).map fun (c,v)=>(c,.d (.v v)) else if k=k' then (xz op k a b).map fun (c,v)=>(c,.d (.v v)) else none
 | .d (.v (.string a)),.d (.v (.string b))=>(aN op a b).map fun (c,v)=>(c,.d (.v v))
 | .d (.v (.bool a)),.d (.v (.bool b))=>if lN T t TypeDesc.isBool then eqv op True (a == b) else none
 | .d (.agg xs),.d (.agg ys)=>match T t with
  | some ti=>match ti.desc with
   | .struct fs=>if ti.pe then (match xP T xs ys fs.toList with
    | some b=>eqv op True b
    | none=>none) else none
   | _=>none
  | none=>none
 | x,_=>DU T op t oy x
theorem Es {P:Program} {w:World} {op:BinOp} {t:TypeId} {u v:Value} {c:Prop} {b:Bool} {z:AV} {X:Nat->Prop} {μ:Mu} (h:eqv op c b=some (c,z)) (hb:(binOp .eql t u v).run P w = .ok (.bool b) w)
  (hn:(binOp .neq t u v).run P w = .ok (.bool !b) w):∃ r,(binOp op t u v).run P w = .ok r w/\RV w X μ r z:=by
 unfold eqv at h;split at h
 .simp only [Option.some.injEq,Prod.mk.injEq,true_and] at h;subst h;exact ⟨_,hb,.d (.v _)⟩
 .simp only [Option.some.injEq,Prod.mk.injEq,true_and] at h;subst h;exact ⟨_,hn,.d (.v _)⟩
 .cases h
theorem adm {T:Ty} {t:TypeId} {p:TypeDesc->Bool} (h:lN T t p=true):∃ ti,T t=some ti/\p ti.desc=true:=by
 unfold lN at h;split at h
 .rename_i ti ht;exact ⟨ti,ht,h⟩
 .cases h
theorem Bp {op:BinOp} {c c':Prop} {b:Bool} {z:AV} (h:eqv op c b=some (c',z)):c'=c:=by
 unfold eqv at h;split at h<;>simp only [Option.some.injEq,Prod.mk.injEq,reduceCtorEq] at h
 .exact h.1.symm
 .exact h.1.symm
section
variable {P:Program} {w:World} {t:TypeId}
theorem Gh {ms:Array (String×TypeId)} (h:P.underlying t=some (.interface ms)) (d:Nat) (t':TypeId) (x:Value):(Op.equalIn (d+1) t (.iface t' x) .nilIface).run P w = .ok false w:=by
 simp [Op.equalIn,run_underlying h]
theorem NU {ms:Array (String×TypeId)} (h:P.underlying t=some (.interface ms)) (d:Nat):(Op.equalIn (d+1) t .nilIface .nilIface).run P w = .ok true w:=by
 simp [Op.equalIn,run_underlying h]
theorem Gi {e:TypeId} (h:P.underlying t=some (.pointer e)) (d:Nat) (a:Addr):(Op.equalIn (d+1) t (.pointer (some a)) (.pointer none)).run P w = .ok false w:=by
 simp [Op.equalIn,run_underlying h]
theorem NV {e:TypeId} (h:P.underlying t=some (.pointer e)) (d:Nat):(Op.equalIn (d+1) t (.pointer none) (.pointer none)).run P w = .ok true w:=by
 simp [Op.equalIn,run_underlying h]
theorem Gg {a b:Array TypeId} {c:Bool} (h:P.underlying t=some (.func a b c)) (d:Nat) (f:Fn) (x y:Array Value):(Op.equalIn (d+1) t (.func f x y) .nilFunc).run P w = .ok false w:=by
 simp [Op.equalIn,run_underlying h]
theorem NT {a b:Array TypeId} {c:Bool} (h:P.underlying t=some (.func a b c)) (d:Nat):(Op.equalIn (d+1) t .nilFunc .nilFunc).run P w = .ok true w:=by
 simp [Op.equalIn,run_underlying h]
theorem Bo {e:TypeId} (h:P.underlying t=some (.slice e)) (d:Nat) (a:Addr) (n c:Nat):(Op.equalIn (d+1) t (.slice (some a) n c) (.slice none 0 0)).run P w = .ok false w:=by
 simp [Op.equalIn,run_underlying h]
theorem NW {e:TypeId} (h:P.underlying t=some (.slice e)) (d:Nat):(Op.equalIn (d+1) t (.slice none 0 0) (.slice none 0 0)).run P w = .ok true w:=by
 simp [Op.equalIn,run_underlying h]
theorem NS (h:P.underlying t=some .bool) (d:Nat) (a b:Bool):(Op.equalIn (d+1) t (.bool a) (.bool b)).run P w = .ok (a == b) w:=by
 simp [Op.equalIn,run_underlying h]
end
def FH:Value->Bool
 | .int _ _ | .string _ | .float _ _ | .complex _ _ _=>false
 | _=>true
theorem acr {P:Program} {w:World} {t:TypeId} {u v:Value} {b:Bool} (hu:FH u=true) (h:(Op.equalIn (9999+1) t u v).run P w = .ok b w) :
  (binOp .eql t u v).run P w = .ok (.bool b) w/\(binOp .neq t u v).run P w = .ok (.bool !b) w:=by
 have h':(Op.equal t u v).run P w = .ok b w:=h;cases u<;>simp [FH] at hu<;>constructor<;>simp [binOp,h']
theorem Gy {P:Program} {w:World} {op:BinOp} {t:TypeId} {ox oy:Operand} {u v:Value} (h:¬ (u = .nilIface/\v = .nilIface)\/(∃ c,ox = .const c)\/∃ c,oy = .const c) (ha:∀ a,u≠.agg a) :
  (eqGuard op t ox oy u v).run P w = .ok () w:=by
 unfold eqGuard
 cases op<;>first | rfl | skip
 all_goals
  cases u<;>cases v<;>first | rfl | skip
  .rcases h with h | ⟨c,rfl⟩ | ⟨c,rfl⟩
   .simp at h
   .rfl
   .cases ox<;>rfl
  .exact absurd rfl (ha _)
theorem UA {P:Program} {T:Ty} (hg:Good P T) {w:World} {X:Nat->Prop} {μ:Mu} {t:TypeId} {u v:Value} {x:AV} {c:Prop} {b:Bool} (h:zp x v=some (c,b)) (hc:c) (hx:RV w X μ u x)
  (hf:lN T t (zr · v)=true):((binOp .eql t u v).run P w = .ok (.bool b) w/\(binOp .neq t u v).run P w = .ok (.bool !b) w)/\∀ a,u≠.agg a:=by
 obtain ⟨ti,ht,hp⟩:=adm hf;have hu:=(hg t ti ht).1;unfold zp at h
 split at h<;>first | cases h;done | skip
 all_goals
  simp only [Option.some.injEq,Prod.mk.injEq] at h;obtain ⟨rfl,rfl⟩:=h;cases cE:ti.desc<;>simp [cE,zr] at hp;rw [cE] at hu
 .obtain ⟨v',rfl,_⟩:=hx.data.nt;exact ⟨acr rfl (Gh hu _ _ _),by simp⟩
 .obtain ⟨v',rfl,_⟩:=hx.nt;exact ⟨acr rfl (Gh hu _ _ _),by simp⟩
 .obtain rfl:=hx.scalar;exact ⟨acr rfl (NU hu _),by simp⟩
 .obtain ⟨b,off,f,rfl,_⟩:=hx.data.acF;exact ⟨acr rfl (Gi hu _ _),by simp⟩
 .obtain ⟨m,b,_,_,rfl⟩:=hx.abV;exact ⟨acr rfl (Gi hu _ _),by simp⟩
 .obtain rfl:=hx.scalar;exact ⟨acr rfl (NV hu _),by simp⟩
 .obtain ⟨arr,rfl,_⟩:=hx.data.sE;exact ⟨acr rfl (Gg hu _ _ _ _),by simp⟩
 .obtain ⟨arr,rfl,_⟩:=hx.sE;exact ⟨acr rfl (Gg hu _ _ _ _),by simp⟩
 .obtain rfl:=hx.scalar;exact ⟨acr rfl (NT hu _),by simp⟩
 .rename_i bb els e
  rcases hx.data.l8 with ⟨rfl,_,hk⟩ | ⟨a,cap,rfl,hk,_⟩
  .cases bb
   .exact ⟨acr rfl (NW hu _),by simp⟩
   .exact absurd rfl hk
  .cases bb
   .exact absurd rfl hk
   .exact ⟨acr rfl (Bo hu _ _ _ _),by simp⟩
 .rcases hx.data.l8 with ⟨rfl,he,hk⟩ | ⟨a,cap,rfl,hk,_⟩
  .exact absurd he hc
  .exact ⟨acr rfl (Bo hu _ _ _ _),by simp⟩
 .obtain ⟨m,_,hh⟩:=hx.iK
  rcases hh with ⟨_,_,_,rfl⟩ | ⟨b,_,rfl,_⟩
  .omega
  .exact ⟨acr rfl (Bo hu _ _ _ _),by simp⟩
theorem NR {P:Program} {t:TypeId} {d:TypeDesc} (hu:P.underlying t=some d) {a b:Value} {r:Bool} (h:Bn d a b=some r) (n:Nat) (w:World):(Op.equalIn (n+1) t a b).run P w = .ok r w/\TypeDesc.isAgg d=false:=by
 unfold Bn at h;split at h
 .split at h
  .rename_i hk;subst hk;obtain rfl:=Option.some.inj h;exact ⟨run_equalIn_int w n t _ _ _ _ hu,rfl⟩
  .cases h
 .obtain rfl:=Option.some.inj h;exact ⟨run_equalIn_string w n t _ _ hu,rfl⟩
 .obtain rfl:=Option.some.inj h;exact ⟨run_equalIn_bool' w n t _ _ hu,rfl⟩
 .cases h
theorem FM {w:World} {X:Nat->Prop} {arr:Array Value} {xs:List D} (hn:arr.size=xs.length) (hr:∀ (j:Nat) (u:Value) (c:D),arr[j]? = some u->xs[j]? = some c->RD w X u c) {j:Nat} {a:Value} (h:xs[j]? = some (.v a)):arr[j]? = some a:=by
 have hj:j < arr.size:=by rw [hn];exact (List.getElem?_eq_some_iff.1 h).1
 have:=(hr j _ _ (Array.getElem?_eq_getElem hj) h).scalar;rw [Array.getElem?_eq_getElem hj,this]
theorem Gf {P:Program} {T:Ty} (hg:Good P T) {w:World} {X:Nat->Prop} {ab0 nV:Array Value} {xs ys:List D} (n1:ab0.size=xs.length) (h1:∀ (j:Nat) (u:Value) (c:D),ab0[j]? = some u->xs[j]? = some c->RD w X u c) (n2:nV.size=ys.length) (h2:∀ (j:Nat) (u:Value) (c:D),nV[j]? = some u->ys[j]? = some c->RD w X u c) :
  ∀ (fs:List Field) (b:Bool),xP T xs ys fs=some b->(Op.eqFields (9998+1) ab0 nV fs).run P w = .ok b w
 | [],b,h=>by
  obtain rfl:=Option.some.inj h;simp [Op.eqFields]
 | f :: l,b,h=>by
  rw [xP] at h;split at h
  .cases h
  .rename_i ez;split at h
   .rename_i tf a1 b1 ht hx hy;split at h
    .rename_i r r2 hr hr2;obtain rfl:=Option.some.inj h;obtain ⟨e1,e2⟩:=NR (hg _ _ ht).1 hr 9998 w
     have ha:(Go.isAgg f.type).run P w = .ok false w:=by rw [hg.isAgg ht,e2]
     have p1:(part f.type ab0 f.offset).run P w = .ok a1 w:=by simp [part,ha,FM n1 h1 hx]
     have p2:(part f.type nV f.offset).run P w = .ok b1 w:=by simp [part,ha,FM n2 h2 hy]
     have ih:=Gf hg n1 h1 n2 h2 l r2 hr2;rw [Op.eqFields,if_pos ez];simp only [Sem.run_bind,p1,p2,e1,Result.andThen_ok,Sem.run_ite];cases r
     .simp
     .simpa using ih
    .cases h
   .cases h
theorem Mz {P:Program} {T:Ty} {G:ao} {N:Fr} (hg:Good P T) {w:World} {X:Nat->Prop} {μ:Mu} {a:Act} {σ:St} (hi:In w X G μ N a σ) {op:BinOp} {t:TypeId} {ox oy:Operand} {x y z:AV} {c:Prop}
  (hx:bd G σ.env ox=some x) (hy:bd G σ.env oy=some y) (h:xy T op t oy x y=some (c,z)) (hc:c) :
  ∃ r,(do eqGuard op t ox oy (a.eval ox) (a.eval oy);binOp op t (a.eval ox) (a.eval oy):Sem Value).run P w = .ok r w/\RV w X μ r z:=by
 have wc:=hi.eval hx;have yT:=hi.eval hy
 have plain:∀ (u v:Value),a.eval ox=u->a.eval oy=v->(∀ b,u≠.agg b)->u≠.nilIface->(∃ r,(binOp op t u v).run P w = .ok r w/\RV w X μ r z)->
   ∃ r,(do eqGuard op t ox oy (a.eval ox) (a.eval oy);binOp op t (a.eval ox) (a.eval oy):Sem Value).run P w = .ok r w/\RV w X μ r z:=by
  rintro u v hu hv h1 h2 ⟨r,hr,CS⟩;refine ⟨r,?_,CS⟩;rw [hu,hv,Sem.run_bind,Gy (.inl fun e=>h2 e.1) h1];exact hr
 unfold xy at h;split at h
 .rename_i k a1 k' b1;have e1:=wc.scalar;have e2:=yT.scalar;refine plain _ _ e1 e2 (by simp) (by simp) ?_;split at h
  .obtain ⟨⟨c',v'⟩,hs,he⟩:=Option.map_eq_some_iff.1 h;simp only [Prod.mk.injEq] at he;obtain ⟨rfl,rfl⟩:=he;exact ⟨_,Wz hs hc _ _,.d (.v _)⟩
  .rename_i oL;split at h
   .rename_i hk;subst hk;obtain ⟨⟨c',v'⟩,hs,he⟩:=Option.map_eq_some_iff.1 h;simp only [Prod.mk.injEq] at he;obtain ⟨rfl,rfl⟩:=he;exact ⟨_,MA (by simpa using oL) hs hc _ _,.d (.v _)⟩
   .cases h
 .obtain ⟨⟨c',v'⟩,hs,he⟩:=Option.map_eq_some_iff.1 h;simp only [Prod.mk.injEq] at he;obtain ⟨rfl,rfl⟩:=he;exact plain _ _ wc.scalar yT.scalar (by simp) (by simp) ⟨_,MB hs hc _ _,.d (.v _)⟩
 .rename_i b1 b2;split at h
  .rename_i hb;obtain ⟨ti,ht,hp⟩:=adm hb;cases cE:ti.desc<;>simp [cE,TypeDesc.isBool] at hp;have hu:=(hg t ti ht).1;rw [cE] at hu;have:=acr (P:=P) (w:=w) (u:=.bool b1) (v:=.bool b2) rfl (NS hu 9999 _ _);obtain rfl:=Bp h;exact plain _ _ wc.scalar yT.scalar (by simp) (by simp) (Es h this.1 this.2)
  .cases h
 .rename_i xs ys;split at h
  .rename_i ti ht;split at h
   .rename_i fs cE;split at h
    .rename_i dD;split at h
     .rename_i b hb;obtain ⟨ab0,Q3,n1,r1⟩:=wc.data.mT;obtain ⟨nV,rj,n2,r2⟩:=yT.data.mT;obtain ⟨adE,i0,_,_,_,_,hp⟩:=hg t ti ht;obtain ⟨gv,eZ⟩:=hp dD;rw [cE] at adE
      have Hc:P.fieldsOf t=fs:=by simp [Program.fieldsOf,adE]
      have Q5:P.underlying t=some (.struct (P.fieldsOf t)):=by rw [Hc];exact adE
      have he:(Op.equalIn 10000 t (.agg ab0) (.agg nV)).run P w = .ok b w:=by
       rw [show (10000:Nat)=9999+1 from rfl,run_equalIn_struct w 9999 t ab0 nV Q5 gv,Hc];exact Gf hg n1 r1 n2 r2 fs.toList b hb
      obtain rfl:=Bp h;obtain ⟨r,hr,CS⟩:=Es (X:=X) (μ:=μ) h (P:=P) (w:=w) (t:=t) (u:=.agg ab0) (v:=.agg nV) (by rw [run_eql_struct,he];rfl) (by rw [run_neq_struct,he];rfl);refine ⟨r,?_,CS⟩;rw [Q3,rj,Sem.run_bind,run_eqGuard_agg w op t ox oy ab0 nV eZ];exact hr
     .cases h
    .cases h
   .cases h
  .cases h
 .unfold DU at h;split at h
  .rename_i v hv
   cases oy with
   | const v'=>
    simp only [A8,Option.some.injEq] at hv;subst hv;split at h
    .rename_i hf;obtain ⟨⟨c',b'⟩,hn,he⟩:=Option.bind_eq_some_iff.1 h;dsimp only at he;obtain rfl:=Bp he;obtain ⟨hr,ha⟩:=UA hg hn hc wc hf;obtain ⟨r,jY,hz⟩:=Es (X:=X) (μ:=μ) he hr.1 hr.2;refine ⟨r,?_,hz⟩;rw [Sem.run_bind,Gy (.inr (.inr ⟨_,rfl⟩)) ha];exact jY
    .cases h
   | _=>cases hv
  .cases h
end Go.Av
namespace Go.Av
def zf (T:Ty) (t:TypeId):AV->Ans
 | .d (.v (.string s))=>if lN T t TypeDesc.isStr then some (True,int s.size) else none
 | .d (.sl _ els)=>if lN T t TypeDesc.isSlice then some (True,int els.length) else none
 | .own _ _ n=>if lN T t TypeDesc.isSlice then some (True,int n) else none
 | _=>none
theorem Ic {d:TypeDesc} (h:TypeDesc.isSlice d=true):∃ e,d = .slice e:=by cases d<;>simp [TypeDesc.isSlice] at h;exact ⟨_,rfl⟩
theorem yY {d:TypeDesc} (h:TypeDesc.isStr d=true):d = .string:=by cases d<;>simp [TypeDesc.isStr] at h;rfl
section
variable {P:Program} {T:Ty} (hg:Good P T) {w:World} {X:Nat->Prop} {μ:Mu} {H:Heap}
include hg
theorem Sl {t ty:TypeId} {u:Value} {x z:AV} {c:Prop} (h:zf T t x=some (c,z)) (hx:RV w X μ u x):∃ r,(Builtin.len_ #[t] ty #[u]).run P w = .ok r w/\RV w X μ r z:=by
 unfold zf at h;split at h
 .split at h
  .rename_i hd;obtain ⟨ti,ht,hp⟩:=adm hd;simp only [Option.some.injEq,Prod.mk.injEq] at h;obtain ⟨rfl,rfl⟩:=h;obtain rfl:=hx.scalar;exact ⟨_,by simp [Builtin.len_,hg.cu ht,yY hp,goInt],.d (.v _)⟩
  .cases h
 .split at h
  .rename_i hd;obtain ⟨ti,ht,hp⟩:=adm hd;obtain ⟨e,he⟩:=Ic hp;simp only [Option.some.injEq,Prod.mk.injEq] at h;obtain ⟨rfl,rfl⟩:=h
   rcases hx.data.l8 with ⟨rfl,rfl,_⟩ | ⟨a,cap,rfl,_⟩
   .exact ⟨_,by simp [Builtin.len_,hg.cu ht,he,goInt],.d (.v _)⟩
   .exact ⟨_,by simp [Builtin.len_,hg.cu ht,he,goInt],.d (.v _)⟩
  .cases h
 .split at h
  .rename_i hd;obtain ⟨ti,ht,hp⟩:=adm hd;obtain ⟨e,he⟩:=Ic hp;simp only [Option.some.injEq,Prod.mk.injEq] at h;obtain ⟨rfl,rfl⟩:=h;obtain ⟨m,_,hh⟩:=hx.iK
   rcases hh with ⟨_,rfl,_,rfl⟩ | ⟨b,_,rfl,_⟩
   .exact ⟨_,by simp [Builtin.len_,hg.cu ht,he,goInt],.d (.v _)⟩
   .exact ⟨_,by simp [Builtin.len_,hg.cu ht,he,goInt],.d (.v _)⟩
  .cases h
 .cases h
def AM (T:Ty) (t:TypeId):Option (Nat×TypeId×Nat):=match T t with
 | some ti=>match ti.desc with
  | .array n e=>(T e).map fun te=>(n,e,te.size)
  | _=>none
 | none=>none
def yV (T:Ty) (t:TypeId):AV->AV->Ans
 | .d (.v (.string s)),.d (.v (.int _ i))=>if lN T t TypeDesc.isStr then some (0<=i/\i < s.size,.d (.v (.int .u8 (s.data.toList.getD i.toNat 0).toNat))) else none
 | .d (.agg cells),.d (.v (.int _ i))=>match AM T t with
  | some (n,e,sz)=>(nW T e (cells.drop (i.toNat * sz))).map fun (c,z)=>((0<=i/\i < n)/\c,z)
  | none=>none
 | _,_=>none
omit hg in
theorem Ms (s:ByteArray) (n:Nat) (h:n < s.size):s[n]? = some (s.data.toList.getD n 0):=by
 have:s[n]? = some s[n]:=by simp [h]
 rw [this]
 have h2:n < s.data.toList.length:=by simpa using h
 simp [List.getD_eq_getElem?_getD,List.getElem?_eq_getElem h2];rfl
theorem Rq {t:TypeId} {u v:Value} {x y z:AV} {c:Prop} (h:yV T t x y=some (c,z)) (hc:c) (hx:RV w X μ u x) (hy:RV w X μ v y):∃ r,(Instr.index t u v).run P w = .ok r w/\RV w X μ r z:=by
 unfold yV at h;split at h
 .split at h
  .rename_i s kk i hd;obtain ⟨ti,ht,hp⟩:=adm hd;simp only [Option.some.injEq,Prod.mk.injEq] at h;obtain ⟨rfl,rfl⟩:=h;obtain rfl:=hx.scalar;obtain rfl:=hy.scalar;obtain ⟨h0,h1⟩:=hc;obtain ⟨n,rfl⟩:=Int.eq_ofNat_of_zero_le h0;simp only [Int.toNat_natCast]
   have hn:n < s.size:=by omega
   exact ⟨_,by simp [Instr.index,asIntOf,hg.cu ht,yY hp,Ms s n hn],.d (.v _)⟩
  .cases h
 .rename_i cells kk i;split at h
  .rename_i n e sz ha;obtain ⟨⟨c',z'⟩,hv,he⟩:=Option.map_eq_some_iff.1 h;simp only [Prod.mk.injEq] at he;obtain ⟨rfl,rfl⟩:=he;obtain ⟨⟨h0,h1⟩,cA⟩:=hc;obtain rfl:=hy.scalar;obtain ⟨arr,rfl,hn,hr⟩:=hx.data.mT;obtain ⟨c2,hv2,fE⟩:=Fx T e _ hv cA;rw [List.map_drop] at hv2;obtain ⟨v,jg,e9⟩:=Fz (P:=P) (w:=w) (X:=X) (μ:=μ) hg hv2 fE (by simpa using hn) (RV.tH hr);unfold AM at ha;split at ha
   .rename_i ti ht;split at ha
    .rename_i n' e' hd;obtain ⟨te,b9,he⟩:=Option.map_eq_some_iff.1 ha;simp only [Prod.mk.injEq] at he;obtain ⟨rfl,rfl,rfl⟩:=he;exact ⟨v,by simp [Instr.index,asIntOf,hg.cu ht,hd,h0,h1,hg.sizeOf b9,jg],e9⟩
    .cases ha
   .cases ha
  .cases h
 .cases h
def wz (t:TypeId):AV->AV
 | .d x=>.d (.br t x)
 | x=>.br t x
omit hg in
theorem DL {u:Value} {x:AV} {t:TypeId} (hx:RV w X μ u x):RV w X μ (.iface t u) (wz t x):=by
 unfold wz;split
 .exact .d (.br hx.data)
 .exact .br hx
def zk (T:Ty) (t:TypeId) (x:AV):Ans:=match T t with
 | some ti=>if TypeDesc.isIface ti.desc then none else some (True,wz t x)
 | none=>none
theorem SD {t:TypeId} {u:Value} {x z:AV} {c:Prop} (h:zk T t x=some (c,z)) (hx:RV w X μ u x):∃ r,(Instr.makeInterface t u).run P w = .ok r w/\RV w X μ r z:=by
 unfold zk at h;split at h
 .rename_i ti ht;split at h
  .cases h
  .rename_i hd;simp only [Option.some.injEq,Prod.mk.injEq] at h;obtain ⟨rfl,rfl⟩:=h;refine ⟨_,?_,DL hx⟩;simp only [Instr.makeInterface,Sem.run_bind,hg.cu ht,Result.andThen_ok];cases cE:ti.desc<;>simp [cE,TypeDesc.isIface] at hd ⊢
 .cases h
def xU (i:Nat):AV->Ans
 | .d (.Z4 vs)=>vs[i]?.map fun x=>(True,.d x)
 | .Z4 vs=>vs[i]?.map fun x=>(True,x)
 | _=>none
omit hg in
theorem N7 {i:Nat} {u:Value} {x z:AV} {c:Prop} (h:xU i x=some (c,z)) (hx:RV w X μ u x):∃ r,(Instr.extract u i).run P w = .ok r w/\RV w X μ r z:=by
 unfold xU at h;split at h
 .obtain ⟨y,hy,he⟩:=Option.map_eq_some_iff.1 h;simp only [Prod.mk.injEq] at he;obtain ⟨rfl,rfl⟩:=he;obtain ⟨arr,rfl,hn,hr⟩:=hx.data.ug;have ax:=(List.getElem?_eq_some_iff.1 hy).1
  have:arr[i]? = some arr[i]:=by simp
  exact ⟨arr[i],by simp [Instr.extract,this],.d (hr i _ y this hy)⟩
 .obtain ⟨y,hy,he⟩:=Option.map_eq_some_iff.1 h;simp only [Prod.mk.injEq] at he;obtain ⟨rfl,rfl⟩:=he;obtain ⟨arr,rfl,hn,hr⟩:=hx.ug;have ax:=(List.getElem?_eq_some_iff.1 hy).1
  have:arr[i]? = some arr[i]:=by simp
  exact ⟨arr[i],by simp [Instr.extract,this],hr i _ y this hy⟩
 .cases h
def wy (f:Fn) (caps:List AV):AV:=match iq caps with
 | some ds=>.d (.fn f ds)
 | none=>.fn f caps
omit hg in
theorem DK {f:Fn} {arr:Array Value} {caps:List AV} (hn:arr.size=caps.length) (hr:∀ (j:Nat) (u:Value) (c:AV),arr[j]? = some u->caps[j]? = some c->RV w X μ u c):RV w X μ (.func f #[] arr) (wy f caps):=by
 unfold wy;split
 .rename_i ds hd;rw [k7 hd] at hn hr;exact .d (.fn (by simpa using hn) fun j u c hu hc=>(hr j u (.d c) hu (by rw [List.getElem?_map,hc];rfl)).data)
 .exact .fn hn hr
def Ag (op:UnOp):AV->Ans
 | .d (.v (.bool b))=>match op with | .not=>some (True,bool !b) | _=>none
 | .d (.v (.int k n))=>match op with | .neg=>(pq k (0 - n)).map fun (c,v)=>(c,.d (.v v)) | _=>none
 | _=>none
omit hg in
theorem Xw {op:UnOp} {u:Value} {x z:AV} {c:Prop} (h:Ag op x=some (c,z)) (hc:c) (hx:RV w X μ u x):∃ r,(Op.unary op u).run P w = .ok r w/\RV w X μ r z:=by
 unfold Ag at h;split at h
 .split at h
  .simp only [Option.some.injEq,Prod.mk.injEq] at h;obtain ⟨rfl,rfl⟩:=h;obtain rfl:=hx.scalar;exact ⟨_,by simp [Op.unary],.d (.v _)⟩
  .cases h
 .split at h
  .obtain ⟨⟨c',v⟩,hf,he⟩:=Option.map_eq_some_iff.1 h;simp only [Prod.mk.injEq] at he;obtain ⟨rfl,rfl⟩:=he;obtain rfl:=hx.scalar;have:=Bu hf hc;subst this;exact ⟨_,by simp [Op.unary,Op.intArith],.d (.v _)⟩
  .cases h
 .cases h
def xH (T:Ty) (dst:TypeId):AV->Ans
 | .d (.v (.int _ n))=>match T dst with
  | some ti=>match ti.desc with
   | .int k=>(pq k n).map fun (c,v)=>(c,.d (.v v))
   | .string=>some (True,.d (.v (.string (Utf8.encode n))))
   | _=>none
  | none=>none
 | .d (.v (.string s))=>if lN T dst TypeDesc.isStr then some (True,.d (.v (.string s))) else none
 | _=>none
theorem Nc {src dst:TypeId} (QZ:(T src).isSome) {u:Value} {x z:AV} {c:Prop} (h:xH T dst x=some (c,z)) (hc:c) (hx:RV w X μ u x):∃ r,(convert src dst u).run P w = .ok r w/\RV w X μ r z:=by
 obtain ⟨Y0,hts⟩:=Option.isSome_iff_exists.1 QZ;unfold xH at h;split at h
 .split at h
  .rename_i ti ht;split at h
   .rename_i k hd;obtain ⟨⟨c',v⟩,hf,he⟩:=Option.map_eq_some_iff.1 h;simp only [Prod.mk.injEq] at he;obtain ⟨rfl,rfl⟩:=he;obtain rfl:=hx.scalar;have:=Bu hf hc;subst this;exact ⟨_,by simp [convert,hg.cu hts,hg.cu ht,hd,Conv.intToInt],.d (.v _)⟩
   .rename_i hd;simp only [Option.some.injEq,Prod.mk.injEq] at h;obtain ⟨rfl,rfl⟩:=h;obtain rfl:=hx.scalar;exact ⟨_,by simp [convert,hg.cu hts,hg.cu ht,hd,Conv.intToString],.d (.v _)⟩
   .cases h
  .cases h
 .split at h
  .rename_i hd;obtain ⟨ti,ht,hp⟩:=adm hd;simp only [Option.some.injEq,Prod.mk.injEq] at h;obtain ⟨rfl,rfl⟩:=h;obtain rfl:=hx.scalar;exact ⟨_,by simp [convert,hg.cu hts,hg.cu ht,yY hp],.d (.v _)⟩
  .cases h
 .cases h
def zq:AV->Ans
 | .d (.ip c)=>some (True,.d (.ip c))
 | .ref r e j=>some (True,.ref r e j)
 | _=>none
omit hg in
theorem UB {u:Value} {x z:AV} {c:Prop} (h:zq x=some (c,z)) (hx:RV w X μ u x):(∃ a,u = .pointer (some a))/\RV w X μ u z:=by
 unfold zq at h;split at h
 .simp only [Option.some.injEq,Prod.mk.injEq] at h;obtain ⟨rfl,rfl⟩:=h;obtain ⟨b,off,f,rfl,_⟩:=hx.data.acF;exact ⟨⟨_,rfl⟩,hx⟩
 .simp only [Option.some.injEq,Prod.mk.injEq] at h;obtain ⟨rfl,rfl⟩:=h;obtain ⟨m,b,_,_,rfl⟩:=hx.abV;exact ⟨⟨_,rfl⟩,hx⟩
 .cases h
def bound (G:ao) (e:Env):Option Operand->Option (Option Int)
 | none=>some none
 | some o=>match bd G e o with
  | some (.d (.v (.int _ i)))=>some (some i)
  | _=>none
def mQ (T:Ty) (H:Heap) (t:TypeId) (x:AV) (lo hi:Option Int):Ans:=
 let l:=lo.getD 0
 match x with
 | .d (.v (.string s))=>if lN T t TypeDesc.isStr then
   let h:=hi.getD s.size
   some (0<=l/\l<=h/\h<=s.size,.d (.v (.string (s.extract l.toNat h.toNat)))) else none
 | .d (.sl k els)=>match ld T t with
  | some s=>
   let h:=hi.getD els.length
   some (0<=l/\l<=h/\h<=els.length/\(l=0\/∀ el∈els,el.length=s),.d (.sl k ((els.drop l.toNat).take (h - l).toNat)))
  | none=>none
 | .own r off n=>match ld T t,H r with
  | some s,some (.sl _ sz _)=>
   let h:=hi.getD n
   some (0<=l/\l<=h/\h<=n/\sz=s,if l=n/\¬ l=0 then .d (.sl none []) else .own r (off+l.toNat) (h - l).toNat)
  | _,_=>none
 | _=>none
omit hg in
theorem tX {isS:Bool} {len cap:Nat} {lo hi:Option Value} {l h:Int} (hl:(lo=none/\l=0)\/∃ k,lo=some (.int k l)) (hh:(hi=none/\h=len)\/∃ k,hi=some (.int k h)) (h0:0<=l) (h1:l<=h) (h2:h<=cap) :
  (Instr.sliceBounds isS len cap lo hi none).run P w = .ok (l.toNat,h.toNat,cap) w:=by
 have e1:0<=h:=by omega
 rcases hh with ⟨rfl,rfl⟩ | ⟨k,rfl⟩<;>rcases hl with ⟨rfl,rfl⟩ | ⟨k',rfl⟩
 .simp [Instr.sliceBounds]
 .simp [Instr.sliceBounds,Instr.sliceBound,asIntOf,h0,h1]
 .simp [Instr.sliceBounds,Instr.sliceBound,asIntOf,e1,h2]
 .have e3:l<=max h 0:=by omega
  simp [Instr.sliceBounds,Instr.sliceBound,asIntOf,e1,h2,h0,e3]
theorem WE (hs:cK w X μ H) {t:TypeId} {u:Value} {x z:AV} {c:Prop} {lo hi:Option Int} {vlo xh:Option Value} (h:mQ T H t x lo hi=some (c,z)) (hc:c) (hx:RV w X μ u x)
  (hlo:(vlo=none/\lo=none)\/∃ k l,vlo=some (.int k l)/\lo=some l) (sY:(xh=none/\hi=none)\/∃ k l,xh=some (.int k l)/\hi=some l) :
  ∃ r,(Instr.sliceAt t u vlo xh none).run P w = .ok r w/\RV w X μ r z:=by
 have hL:(vlo=none/\lo.getD 0=0)\/∃ k,vlo=some (.int k (lo.getD 0)):=by
  rcases hlo with ⟨rfl,rfl⟩ | ⟨k,l,rfl,rfl⟩
  .exact .inl ⟨rfl,rfl⟩
  .exact .inr ⟨k,rfl⟩
 have hH:∀ n:Nat,(xh=none/\hi.getD n=n)\/∃ k,xh=some (.int k (hi.getD n)):=by
  intro n
  rcases sY with ⟨rfl,rfl⟩ | ⟨k,l,rfl,rfl⟩
  .exact .inl ⟨rfl,rfl⟩
  .exact .inr ⟨k,rfl⟩
 unfold mQ at h;dsimp only at h;split at h
 .rename_i s;split at h
  .rename_i hd;obtain ⟨ti,ht,hp⟩:=adm hd;simp only [Option.some.injEq,Prod.mk.injEq] at h;obtain ⟨rfl,rfl⟩:=h;obtain rfl:=hx.scalar;obtain ⟨h0,h1,h2⟩:=hc;exact ⟨_,by simp [Instr.sliceAt,hg.cu ht,yY hp,Instr.slice,tX (P:=P) (w:=w) hL (hH s.size) h0 h1 h2],.d (.v _)⟩
  .cases h
 .rename_i k els;split at h
  .rename_i s he;simp only [Option.some.injEq,Prod.mk.injEq] at h;obtain ⟨rfl,rfl⟩:=h;obtain ⟨h0,h1,h2,h3⟩:=hc;unfold ld at he;split at he
   .rename_i ti ht;split at he
    .rename_i e hd;obtain ⟨te,b9,rfl⟩:=Option.map_eq_some_iff.1 he;generalize lo.getD 0=l at *;have od:=hH els.length;generalize hi.getD ↑els.length=hh at *;obtain ⟨l,rfl⟩:=Int.eq_ofNat_of_zero_le h0;obtain ⟨hh,rfl⟩:=Int.eq_ofNat_of_zero_le (show 0<=hh by omega)
     have e1:((hh:Int) - l).toNat=hh - l:=by omega
     simp only [Int.toNat_natCast,e1]
     rcases hx.data.l8 with ⟨rfl,rfl,hk⟩ | ⟨a,cap,rfl,hk,ab6,hm,hr⟩
     .have l0:l=0:=by simp at h2;omega
      have Ct:hh=0:=by simp at h2;omega
      subst l0 Ct;have:=tX (P:=P) (w:=w) (isS:=true) (cap:=0) hL od h0 h1 (by simp);refine ⟨.slice none 0 0,?_,.d (by simpa using .nil hk)⟩;simp at this;simp [Instr.sliceAt,hg.cu ht,hd,Instr.slice,this,hg.sizeOf b9]
     .have:=tX (P:=P) (w:=w) (isS:=true) (cap:=cap) hL od h0 h1 (by omega);refine ⟨.slice (some (if cap=l then a else a.add (l * te.size))) (hh - l) (cap - l),?_,.d ?_⟩
      .simp [Instr.sliceAt,hg.cu ht,hd,Instr.slice,this,hg.sizeOf b9];split<;>rfl
      .by_cases hz:hh - l=0
       .rw [hz,List.take_zero];exact .empty hk (by unfold maxLen at *;omega)
       .rcases hr with rfl | ⟨b,off,sz,f,rfl,hX,aI,bx,aaB,hrr⟩
        .simp at h2;omega
        .have hcl:¬ cap=l:=by omega
         rw [if_neg hcl,addr_add]
         have gL:l * te.size=l * sz:=by
          rcases h3 with h3 | h3
          .have:l=0:=by omega
           simp [this]
          .have aL:els≠[]:=by intro e;simp [e] at h2;omega
           obtain ⟨el,ba⟩:=List.exists_mem_of_ne_nil _ aL;rw [<- h3 el ba,bx el ba]
         rw [gL];refine .sl (sz:=sz) (f:=fun i j=>f (l+i) j) hk ?_ (by omega) (by unfold maxLen at *;omega) hX ?_ aI (by omega) ?_ ?_
         .simp;omega
         .intro el ba;exact bx el (List.mem_of_mem_drop (List.mem_of_mem_take ba))
         .intro i j hi hj;have:=aaB (l+i) j (by omega) hj;rw [Nat.add_mul] at this;rw [<- this];congr 2;omega
         .intro i j el c ba hc;rw [List.getElem?_take] at ba;split at ba
          .rw [List.getElem?_drop] at ba;exact hrr _ j el c ba hc
          .cases ba
    .cases he
   .cases he
  .cases h
 .rename_i r off n;split at h
  .rename_i s ty sz els he yf;simp only [Option.some.injEq,Prod.mk.injEq] at h;obtain ⟨rfl,rfl⟩:=h;obtain ⟨h0,h1,h2,rfl⟩:=hc;unfold ld at he;split at he
   .rename_i ti ht;split at he
    .rename_i e hd;obtain ⟨te,b9,rfl⟩:=Option.map_eq_some_iff.1 he;generalize lo.getD 0=l at *;have od:=hH n;generalize hi.getD ↑n=hh at *;obtain ⟨l,rfl⟩:=Int.eq_ofNat_of_zero_le h0;obtain ⟨hh,rfl⟩:=Int.eq_ofNat_of_zero_le (show 0<=hh by omega)
     have e1:((hh:Int) - l).toNat=hh - l:=by omega
     simp only [Int.toNat_natCast,e1];obtain ⟨m,hm,hu⟩:=hx.iK;obtain ⟨m',bO,ok⟩:=hs.rows r _ yf;rw [hm] at bO;obtain rfl:=Option.some.inj bO
     have aI:m.sz=te.size:=by cases ok<;>assumption
     by_cases hz:(l:Int)=n/\¬ (l:Int)=0
     .rw [if_pos hz]
      rcases hu with ⟨hb,rfl,rfl,rfl⟩ | ⟨b,hb,rfl,hle⟩
      .omega
      .have YB:m.cap<=maxLen:=by
        cases ok with
        | nil aO _=>rw [hb] at aO;cases aO
        | sl aO _ _ _ _ bO=>exact bO
       have:=tX (P:=P) (w:=w) (isS:=true) (cap:=m.cap - off) hL od h0 h1 (by omega);refine ⟨.slice (some (if m.cap - off=l then ⟨b,off * m.sz,none⟩ else (⟨b,off * m.sz,none⟩:Addr).add (l * te.size))) (hh - l) (m.cap - off - l),?_,?_⟩
       .simp [Instr.sliceAt,hg.cu ht,hd,Instr.slice,this,hg.sizeOf b9];split<;>rfl
       .rw [show hh - l=0 by omega];exact .d (.empty (by simp) (by omega))
     rw [if_neg hz]
     have h3:(l:Int)=0\/(l:Int) < n:=by omega
     rcases hu with ⟨hb,rfl,rfl,rfl⟩ | ⟨b,hb,rfl,hle⟩
     .have l0:l=0:=by omega
      have Ct:hh=0:=by omega
      subst l0 Ct;have:=tX (P:=P) (w:=w) (isS:=true) (cap:=0) hL od h0 h1 (by simp);refine ⟨.slice none 0 0,?_,.own hm (.inl ⟨hb,rfl,rfl,rfl⟩)⟩;simp [Instr.sliceAt,hg.cu ht,hd,Instr.slice,hg.sizeOf b9];simp at this;simp [this]
     .have:=tX (P:=P) (w:=w) (isS:=true) (cap:=m.cap - off) hL od h0 h1 (by omega);refine ⟨.slice (some (if m.cap - off=l then ⟨b,off * m.sz,none⟩ else (⟨b,off * m.sz,none⟩:Addr).add (l * te.size))) (hh - l) (m.cap - off - l),?_,.own hm (.inr ⟨b,hb,?_,by omega⟩)⟩
      .simp [Instr.sliceAt,hg.cu ht,hd,Instr.slice,this,hg.sizeOf b9];split<;>rfl
      .rw [addr_add,<- aI,<- Nat.add_mul]
       have e3:m.cap - off - l=m.cap - (off+l):=by omega
       rw [e3];split
       .have:l=0:=by omega
        subst this;simp
       .rfl
    .cases he
   .cases he
  .cases h
 .cases h
end
end Go.Av
namespace Go.Av
def cH (μ:Mu) (r:Nat) (m:fU):Mu:=fun q=>if q=r then some m else μ q
def cF (r:Nat) (e:Env):Env:=fun i=>(e i).map (AV.kill r)
def cG (r:Nat) (H:Heap):Heap:=fun q=>(H q).map (Row.kill r)
theorem gS.same {w w':World} {Mv X:Nat->Prop} {μ au:Mu} (h:Ev Mv w μ w' au) (eb:∀ q m,μ q=some m->au q=some m) {m:fU} (hb:∀ b,m.blk=some b->w'.heap[b]? = w.heap[b]?) {row:Row} (ok:gS w X μ m row):gS w' X au m row:=by
 cases ok with
 | nil h1 h2=>exact .nil h1 h2
 | sl h1 h2 h3 h4 h5 h6 h7 h8 h9=>
  exact .sl h1 h2 ((hb _ h1).trans h3) h4 h5 h6 h7 h8 fun i j el c he hc=>let ⟨u,hu,hr⟩:=h9 i j el c he hc;⟨u,hu,hr.ev h⟩
 | box h1 h2 h3 h4 h5 h6 h7=>exact .box h1 h2 h3 ((hb _ h1).trans h4) h5 (fun j u c hu hc=>(h6 j u c hu hc).same h eb) h7
 | mp h1 h2 h3 h4=>exact .mp h1 ((hb _ h1).trans h2) h3 fun i e p he hp=>let ⟨a,b,c⟩:=h4 i e p he hp;⟨a,b,c.ev h⟩
 | it h1 h2 h3=>exact .it h1 ((hb _ h1).trans h2) (h3.ev h)
theorem gS.keep {w w':World} {Mv X:Nat->Prop} {μ au:Mu} (h:Ev Mv w μ w' au) {r:Nat} (eb:∀ q,q≠r->au q=μ q) {m:fU} (hb:∀ b,m.blk=some b->w'.heap[b]? = w.heap[b]?) {row:Row} (ok:gS w X μ m row):gS w' X au m (row.kill r):=by
 cases ok with
 | nil h1 h2=>exact .nil h1 h2
 | sl h1 h2 h3 h4 h5 h6 h7 h8 h9=>
  exact .sl h1 h2 ((hb _ h1).trans h3) h4 h5 h6 h7 h8 fun i j el c he hc=>let ⟨u,hu,hr⟩:=h9 i j el c he hc;⟨u,hu,hr.ev h⟩
 | box h1 h2 h3 h4 h5 h6 h7=>
  refine .box h1 rfl h3 ((hb _ h1).trans h4) (by simpa using h5) (fun j u c hu hc=>?_) (by simpa using h7);rw [List.getElem?_map] at hc;obtain ⟨c',cA,rfl⟩:=Option.map_eq_some_iff.1 hc;exact (h6 j u c' hu cA).keep h eb
 | mp h1 h2 h3 h4=>exact .mp h1 ((hb _ h1).trans h2) h3 fun i e p he hp=>let ⟨a,b,c⟩:=h4 i e p he hp;⟨a,b,c.ev h⟩
 | it h1 h2 h3=>exact .it h1 ((hb _ h1).trans h2) (h3.ev h)
section
variable {Mv X:Nat->Prop} {G:ao} {N:Fr} {w w':World} {μ:Mu} {a:Act} {σ:St}
theorem gS.iS {m:fU} {row:Row} {b:Nat} (ok:gS w X μ m row) (hb:m.blk=some b):b < w.heap.size:=by
 cases ok with
 | nil aO _=>rw [aO] at hb;cases hb
 | sl aO _ hh=>rw [aO] at hb;obtain rfl:=Option.some.inj hb;exact (Array.getElem?_eq_some_iff.1 hh).1
 | box aO _ _ hh=>rw [aO] at hb;obtain rfl:=Option.some.inj hb;exact (Array.getElem?_eq_some_iff.1 hh).1
 | mp aO hh=>rw [aO] at hb;obtain rfl:=Option.some.inj hb;exact (Array.getElem?_eq_some_iff.1 hh).1
 | it aO hh=>rw [aO] at hb;obtain rfl:=Option.some.inj hb;exact (Array.getElem?_eq_some_iff.1 hh).1
theorem cK.rO {H:Heap} (h:cK w X μ H) {r:Nat} (hr:H r=none):μ r=none:=by
 cases hm:μ r with
 | none=>rfl
 | some m=>obtain ⟨row,jY⟩:=h.dom r m hm;rw [hr] at jY;cases jY
structure bU (w w':World):Prop where
 size:w.heap.size<=w'.heap.size
 os:w'.os=w.os
 tape:w'.tape=w.tape
 output:w'.output=w.output
 same:∀ b,b < w.heap.size->w'.heap[b]? = w.heap[b]?
theorem bU.refl (w:World):bU w w:=⟨Nat.le_refl _,rfl,rfl,rfl,fun _ _=>rfl⟩
theorem bU.alloc (w:World) (o:Obj):bU w (w.alloc o):=⟨by simp,rfl,rfl,rfl,fun b hb=>by rw [<- World.alloc_eq];simp [Array.getElem?_push,Nat.ne_of_lt hb]⟩
theorem bU.drew (w:World):bU w w.drew:=⟨Nat.le_refl _,rfl,rfl,rfl,fun _ _=>rfl⟩
theorem In.jR (hi:In w X G μ N a σ) (hg:bU w w'):In w' X G μ N a σ/\Ev Mv w μ w' μ:=by
 have ev:Ev Mv w μ w' μ:=⟨hg.size,hg.os,hg.tape,hg.output,fun b hb hr=>⟨hg.same b hb,hr⟩,fun _ _ h _=>h⟩;refine ⟨⟨⟨fun r row hr=>?_,hi.aS.dom,hi.aS.inj,hi.aS.frame,fun b hb=>Nat.lt_of_lt_of_le (hi.aS.fits b hb) hg.size⟩,⟨hi.env.defers,hi.env.size,fun i x hx=>?_⟩,fun g x hx=>(hi.fV g x hx).ev ev⟩,ev⟩
 .obtain ⟨m,hm,ok⟩:=hi.aS.rows r row hr;exact ⟨m,hm,ok.same ev (fun _ _ h=>h) fun b hb=>hg.same b (ok.iS hb)⟩
 .obtain ⟨u,hu,hr⟩:=hi.env.slot i x hx;exact ⟨u,hu,hr.same ev fun _ _ h=>h⟩
theorem In.alloc (hi:In w X G μ N a σ) {d:Nat} (hd:σ.H d=none) (hg:bU w w') {m:fU} (hm:∀ b,m.blk=some b->w.heap.size<=b) {row:Row}
  (ok:Ev Mv w μ w' (cH μ d m)->gS w' X (cH μ d m) m row):In w' X G (cH μ d m) N a ⟨σ.env,aJ σ.H d row⟩/\Ev Mv w μ w' (cH μ d m):=by
 have vM:=hi.aS.rO hd
 have eb:∀ q m',μ q=some m'->cH μ d m q=some m':=by
  intro q m' hq;unfold cH;split
  .rename_i e;subst e;rw [vM] at hq;cases hq
  .exact hq
 have ev:Ev Mv w μ w' (cH μ d m):=by
  refine ⟨hg.size,hg.os,hg.tape,hg.output,fun b hb hr=>⟨hg.same b hb,?_⟩,fun _ _ h _=>eb _ _ h⟩;rintro ⟨q,m',hq,aO⟩;unfold cH at hq;split at hq
  .obtain rfl:=Option.some.inj hq;have:=hm b aO;omega
  .exact hr ⟨q,m',hq,aO⟩
 have ok:=ok ev;refine ⟨⟨⟨fun r fb hr=>?_,fun r m' hr=>?_,fun r r' m1 m2 b h1 h2 c6 ey=>?_,fun r m' b hr hb=>?_,fun b hb=>Nat.lt_of_lt_of_le (hi.aS.fits b hb) hg.size⟩,⟨hi.env.defers,hi.env.size,fun i x hx=>?_⟩,fun g x hx=>(hi.fV g x hx).ev ev⟩,ev⟩
 .dsimp only [aJ] at hr;split at hr
  .rename_i e;subst e;obtain rfl:=Option.some.inj hr;exact ⟨m,by simp [cH],ok⟩
  .rename_i e;obtain ⟨m',bO,ok'⟩:=hi.aS.rows r fb hr;exact ⟨m',eb r m' bO,ok'.same ev eb fun b hb=>hg.same b (ok'.iS hb)⟩
 .unfold cH at hr;split at hr
  .rename_i e;exact ⟨row,by simp [aJ,e]⟩
  .rename_i e;obtain ⟨fb,jY⟩:=hi.aS.dom r m' hr;exact ⟨fb,by simp [aJ,e,jY]⟩
 .have lt:∀ q m',μ q=some m'->m'.blk=some b->b < w.heap.size:=fun q m' hq hb=>hi.aS.iS ⟨q,m',hq,hb⟩;unfold cH at h1 h2;split at h1<;>split at h2
  .rename_i e1 e2;rw [e1,e2]
  .obtain rfl:=Option.some.inj h1;have:=hm b c6;have:=lt r' m2 h2 ey;omega
  .obtain rfl:=Option.some.inj h2;have:=hm b ey;have:=lt r m1 h1 c6;omega
  .exact hi.aS.inj r r' m1 m2 b h1 h2 c6 ey
 .unfold cH at hr;split at hr
  .obtain rfl:=Option.some.inj hr;intro hX;have:=hm b hb;have:=hi.aS.fits b hX;omega
  .exact hi.aS.frame r m' b hr hb
 .obtain ⟨u,hu,hr⟩:=hi.env.slot i x hx;exact ⟨u,hu,hr.same ev eb⟩
theorem In.write (hi:In w X G μ N a σ) {r b:Nat} {m:fU} (hm:μ r=some m) (hb:m.blk=some b) (hs:w'.heap.size=w.heap.size) (ho:w'.os=w.os) (ht:w'.tape=w.tape) (acY:w'.output=w.output)
  (nq:∀ k,k≠b->w'.heap[k]? = w.heap[k]?) {row:Row} (ok:Ev Mv w μ w' μ->gS w' X μ m row):In w' X G μ N a ⟨σ.env,aJ σ.H r row⟩/\Ev Mv w μ w' μ:=by
 have ev:Ev Mv w μ w' μ:=⟨by omega,ho,ht,acY,fun k hk hr=>⟨nq k fun e=>hr ⟨r,m,hm,e ▸ hb⟩,hr⟩,fun _ _ h _=>h⟩;have ok:=ok ev;refine ⟨⟨⟨fun q fb hq=>?_,fun q m' hq=>?_,hi.aS.inj,hi.aS.frame,fun b hb=>by have:=hi.aS.fits b hb;omega⟩,⟨hi.env.defers,hi.env.size,fun i x hx=>?_⟩,fun g x hx=>(hi.fV g x hx).ev ev⟩,ev⟩
 .dsimp only [aJ] at hq;split at hq
  .rename_i e;subst e;obtain rfl:=Option.some.inj hq;exact ⟨m,hm,ok⟩
  .rename_i e;obtain ⟨m',bO,ok'⟩:=hi.aS.rows q fb hq;exact ⟨m',bO,ok'.same ev (fun _ _ h=>h) fun k hk=>nq k fun e'=>e (hi.aS.inj q r m' m k bO hm hk (e' ▸ hb))⟩
 .by_cases e:q=r
  .exact ⟨row,by simp [aJ,e]⟩
  .obtain ⟨fb,jY⟩:=hi.aS.dom q m' hq;exact ⟨fb,by simp [aJ,e,jY]⟩
 .obtain ⟨u,hu,hr⟩:=hi.env.slot i x hx;exact ⟨u,hu,hr.same ev fun _ _ h=>h⟩
theorem In.move (hi:In w X G μ N a σ) {r:Nat} {m m':fU} (hm:μ r=some m) (hmv:Mv r) (hs:w.heap.size<=w'.heap.size) (ho:w'.os=w.os) (ht:w'.tape=w.tape) (acY:w'.output=w.output)
  (nq:∀ k,k < w.heap.size->m.blk≠some k->w'.heap[k]? = w.heap[k]?) (je:∀ b,m'.blk=some b->w.heap.size<=b\/m.blk=some b) {row:Row}
  (ok:Ev Mv w μ w' (cH μ r m')->gS w' X (cH μ r m') m' row):In w' X G (cH μ r m') N a ⟨cF r σ.env,aJ (cG r σ.H) r row⟩/\Ev Mv w μ w' (cH μ r m'):=by
 have eb:∀ q,q≠r->cH μ r m' q=μ q:=fun q hq=>by simp [cH,hq]
 have ev:Ev Mv w μ w' (cH μ r m'):=by
  refine ⟨hs,ho,ht,acY,fun b hb hr=>⟨nq b hb fun e=>hr ⟨r,m,hm,e⟩,?_⟩,fun q mq hq hn=>?_⟩
  .rintro ⟨q,mq,hq,hbq⟩;unfold cH at hq;split at hq
   .obtain rfl:=Option.some.inj hq
    rcases je b hbq with h | h
    .omega
    .exact hr ⟨r,m,hm,h⟩
   .exact hr ⟨q,mq,hq,hbq⟩
  .have:q≠r:=fun e=>hn (e ▸ hmv);rw [eb q this];exact hq
 have ok:=ok ev;refine ⟨⟨⟨fun q fb hq=>?_,fun q mq hq=>?_,fun q q' m1 m2 b h1 h2 c6 ey=>?_,fun q mq b hq hb=>?_,fun b hb=>Nat.lt_of_lt_of_le (hi.aS.fits b hb) hs⟩,⟨hi.env.defers,hi.env.size,fun i x hx=>?_⟩,fun g x hx=>(hi.fV g x hx).ev ev⟩,ev⟩
 .dsimp only [aJ] at hq;split at hq
  .rename_i e;subst e;obtain rfl:=Option.some.inj hq;exact ⟨m',by simp [cH],ok⟩
  .rename_i e;unfold cG at hq;obtain ⟨acq,h0,rfl⟩:=Option.map_eq_some_iff.1 hq;obtain ⟨mq,s5,ok'⟩:=hi.aS.rows q acq h0;exact ⟨mq,(eb q e).trans s5,ok'.keep ev eb fun k hk=>nq k (ok'.iS hk) fun e'=>e (hi.aS.inj q r mq m k s5 hm hk e')⟩
 .by_cases e:q=r
  .exact ⟨row,by simp [aJ,e]⟩
  .rw [eb q e] at hq;obtain ⟨fb,jY⟩:=hi.aS.dom q mq hq;exact ⟨fb.kill r,by simp [aJ,e,cG,jY]⟩
 .have lt:∀ q mq,μ q=some mq->mq.blk=some b->b < w.heap.size:=fun q mq hq hb=>hi.aS.iS ⟨q,mq,hq,hb⟩;by_cases e1:q=r<;>by_cases e2:q'=r
  .rw [e1,e2]
  .rw [eb q' e2] at h2;simp only [cH,e1,if_true,Option.some.injEq] at h1;subst h1
   rcases je b c6 with h | h
   .have:=lt q' m2 h2 ey;omega
   .exact absurd (hi.aS.inj q' r m2 m b h2 hm ey h) e2
  .rw [eb q e1] at h1;simp only [cH,e2,if_true,Option.some.injEq] at h2;subst h2
   rcases je b ey with h | h
   .have:=lt q m1 h1 c6;omega
   .exact absurd (hi.aS.inj q r m1 m b h1 hm c6 h) e1
  .rw [eb q e1] at h1;rw [eb q' e2] at h2;exact hi.aS.inj q q' m1 m2 b h1 h2 c6 ey
 .by_cases e:q=r
  .simp only [cH,e,if_true,Option.some.injEq] at hq;subst hq
   rcases je b hb with h | h
   .intro hX;have:=hi.aS.fits b hX;omega
   .exact hi.aS.frame r m b hm h
  .rw [eb q e] at hq;exact hi.aS.frame q mq b hq hb
 .unfold cF at hx;obtain ⟨x0,h0,rfl⟩:=Option.map_eq_some_iff.1 hx;obtain ⟨u,hu,hr⟩:=hi.env.slot i x0 h0;exact ⟨u,hu,hr.keep ev eb⟩
theorem zA (hs:cK w X μ σ.H) {r off n ty sz:Nat} {els:List (List D)} (hH:σ.H r=some (.sl ty sz els)) (hle:off+n<=els.length) {u:Value} (hu:RV w X μ u (.own r off n)) :
  ∃ k,RD w (XX X (fun q=>if q=r then none else μ q)) u (.sl k ((els.drop off).take n))/\(0 < n->k=some true)/\k≠some false:=by
 obtain ⟨m,hm,hh⟩:=hu.iK;obtain ⟨m',bO,ok⟩:=hs.rows r _ hH;rw [hm] at bO;obtain rfl:=Option.some.inj bO
 have hX:∀ b,m.blk=some b->¬ XX X (fun q=>if q=r then none else μ q) b:=by
  rintro b hb (h | ⟨q,mq,hq,hbq⟩)
  .exact hs.frame r m b hm hb h
  .dsimp only at hq;split at hq
   .cases hq
   .rename_i e;exact e (hs.inj q r mq m b hq hm hbq hb)
 rcases hh with ⟨hb,rfl,rfl,rfl⟩ | ⟨b,hb,rfl,ab6⟩
 .exact ⟨none,by simpa using .nil (by simp),by omega,by simp⟩
 .cases ok with
  | nil aO _=>rw [aO] at hb;cases hb
  | sl aO aI hh bW hn eX hl hz hr=>
   rename_i b' cur;rw [hb] at aO;obtain rfl:=Option.some.inj aO;subst aI;by_cases h0:n=0
   .subst h0;exact ⟨some true,by rw [List.take_zero];exact .empty (by simp) (by unfold maxLen at *;omega),by omega,by simp⟩
   .refine ⟨some true,.sl (sz:=m.sz) (f:=fun i j=>cur.getD ((off+i) * m.sz+j) undef) (by simp) (by simp;omega) (by omega) (by unfold maxLen at *;omega) (hX b hb) (fun el ba=>hl el (List.mem_of_mem_drop (List.mem_of_mem_take ba))) hz (by omega) ?_ ?_,by simp,by simp⟩
    .intro i j hi hj
     have ax:(off+i) * m.sz+j < cur.size:=by
      rw [bW];have:(off+i+1) * m.sz<=m.cap * m.sz:=Nat.mul_le_mul_right _ (by omega);rw [Nat.add_mul] at this;omega
     have e1:off * m.sz+(i * m.sz+j)=(off+i) * m.sz+j:=by rw [Nat.add_mul];omega
     rw [e1,cell_of_row w b _ cur ty (0,0) hh];simp [Array.getD_eq_getD_getElem?,ax]
    .intro i j el c ba hc;rw [List.getElem?_take] at ba;split at ba
     .rw [List.getElem?_drop] at ba;obtain ⟨u',hu',bz⟩:=hr (off+i) j el c ba hc;rw [Array.getD_eq_getD_getElem?,hu'];refine bz.mono (Nat.le_refl _) fun b hb sR=>⟨rfl,?_⟩;rintro (h | ⟨q,mq,hq,hbq⟩)
      .exact sR (.inl h)
      .dsimp only at hq;split at hq
       .cases hq
       .exact sR (.inr ⟨q,mq,hq,hbq⟩)
     .cases ba
end
end Go.Av
namespace Go.Av
def D.one:D->Bool
 | .v x=>x.oneCell'
 | .agg _ | .Z4 _=>false
 | _=>true
def AV.one:AV->Bool
 | .d x=>x.one
 | .own _ _ _ | .ref _ _ _ | .br _ _ | .fn _ _ | .mp _=>true
 | _=>false
section
variable {w:World} {X:Nat->Prop} {μ:Mu}
theorem RD.tN {u:Value} {x:D} (h:RD w X u x) (h1:x.one=true):u.oneCell'=true:=by
 cases h<;>first | rfl | exact h1 | cases h1
theorem RV.tN {u:Value} {x:AV} (h:RV w X μ u x) (h1:x.one=true):u.oneCell'=true:=by
 cases h with
 | d h=>exact h.tN h1
 | own _ h=>rcases h with ⟨_,rfl,_⟩ | ⟨b,_,rfl,_⟩<;>rfl
 | ref _ _=>rfl
 | br _=>rfl
 | fn _ _=>rfl
 | mp _ _=>rfl
 | _=>cases h1
theorem cells_one {u:Value} (h:u.oneCell'=true):u.cells = #[u]:=by cases u<;>first | rfl | cases h
structure ux (w:World) (X:Nat->Prop) (μ:Mu) (arr:Array Value) (cells:List AV):Prop where
 size:arr.size=cells.length
 at_:∀ (j:Nat) (u:Value) (c:AV),arr[j]? = some u->cells[j]? = some c->RV w X μ u c
def fS:AV->Option (List AV)
 | .d (.agg cs)=>some (cs.map .d)
 | .agg cs=>some cs
 | x=>if x.one then some [x] else none
theorem ui {u:Value} {x:AV} {cs:List AV} (hx:RV w X μ u x) (h:fS x=some cs):ux w X μ u.cells cs:=by
 unfold fS at h;split at h
 .obtain rfl:=Option.some.inj h;obtain ⟨arr,rfl,hn,hr⟩:=hx.data.mT;exact ⟨by simpa [Value.cells] using hn,RV.tH hr⟩
 .obtain rfl:=Option.some.inj h;obtain ⟨arr,rfl,hn,hr⟩:=hx.mT;exact ⟨hn,hr⟩
 .split at h
  .rename_i h1;obtain rfl:=Option.some.inj h;rw [cells_one (hx.tN h1)];refine ⟨rfl,fun j v c hv hc=>?_⟩
   match j,hv,hc with
   | 0,hv,hc=>simp at hv hc;subst hv hc;exact hx
   | j+1,hv,hc=>simp at hc
  .cases h
def gB:Value->List D
 | .agg arr=>arr.toList.map ac6
 | v=>[ac6 v]
theorem aea (v:Value):v.cells.size=(gB v).length/\∀ (j:Nat) (u:Value) (c:D),v.cells[j]? = some u->(gB v)[j]? = some c->RD w X u c:=by
 cases v with
 | agg arr=>
  refine ⟨by simp [Value.cells,gB],fun j u c hu hc=>?_⟩;simp only [gB,List.getElem?_map] at hc;obtain ⟨c',cA,rfl⟩:=Option.map_eq_some_iff.1 hc;rw [Array.getElem?_toList] at cA;simp only [Value.cells] at hu;rw [hu] at cA;obtain rfl:=Option.some.inj cA;exact sq _
 | _=>
  refine ⟨rfl,fun j u c hu hc=>?_⟩
  match j,hu,hc with
  | 0,hu,hc=>simp [Value.cells,gB] at hu hc;subst hu hc;exact sq _
  | j+1,hu,hc=>simp [gB] at hc
end
def ka (Mv X:Nat->Prop) (G:ao) (N:Fr) (w:World) (μ:Mu) (a:Act) (run:Result Value) (x:AV) (aH:St):Prop:=
 ∃ v w' au,run = .ok v w'/\In w' X G au N a aH/\RV w' X au v x/\Ev Mv w μ w' au
section
variable {P:Program} {T:Ty} {Mv X:Nat->Prop} {G:ao} {N:Fr} {w:World} {μ:Mu} {a:Act} {σ:St}
theorem ae9 (hi:In w X G μ N a σ) {d:Nat} (hd:σ.H d=none) (t:TypeId) {cur:Array Value} {cells:List AV} (hp:ux w X μ cur cells) :
  ka Mv X G N w μ a (.ok (.pointer (some ⟨w.heap.size,0,none⟩)) (w.alloc (.cells cur t))) (.ref d 0 0) ⟨σ.env,aJ σ.H d (.box t cells)⟩:=by
 have vM:=hi.aS.rO hd
 have hm:cH μ d ⟨some w.heap.size,cells.length,1⟩ d=some ⟨some w.heap.size,cells.length,1⟩:=by simp [cH]
 obtain ⟨h1,h2⟩:=hi.alloc (Mv:=Mv) hd (bU.alloc w (.cells cur t)) (m:=⟨some w.heap.size,cells.length,1⟩) (fun b hb=>by simp at hb;omega) (row:=.box t cells) fun ev=>
  .box rfl rfl (show 1<=maxLen by decide) (by simpa using heap_alloc_new w (.cells cur t)) (Nat.le_of_eq hp.size.symm) (hx:=fun _=>hp.size.symm) fun j u c hu hc=>(hp.at_ j u c hu hc).same ev fun q m' hq=>by
   unfold cH;split
   .rename_i e;subst e;rw [vM] at hq;cases hq
   .exact hq
 refine ⟨_,_,_,rfl,h1,?_,h2⟩;have:=RV.ref (w:=w.alloc (.cells cur t)) (X:=X) (μ:=cH μ d ⟨some w.heap.size,cells.length,1⟩) (e:=0) (j:=0) (b:=w.heap.size) hm rfl;simpa using this
structure LD (w:World) (X:Nat->Prop) (cur:Array Value) (sz:Nat) (els:List (List D)):Prop where
 len:∀ el∈els,el.length=sz
 at_:∀ (i j:Nat) (el:List D) (c:D),els[i]? = some el->el[j]? = some c->∃ u,cur[i * sz+j]? = some u/\RD w X u c
theorem I3 (hi:In w X G μ N a σ) {d:Nat} (hd:σ.H d=none) (t:TypeId) {cur:Array Value} {sz n cap:Nat} {els:List (List D)} (he:LD w (XX X μ) cur sz els) (hz:0 < sz) (hc:cur.size=cap * sz) (hn:els.length=n) (ab6:n<=cap) (Qv:cap<=maxLen) :
  ka Mv X G N w μ a (.ok (.slice (some ⟨w.heap.size,0,none⟩) n cap) (w.alloc (.cells cur t))) (.own d 0 n) ⟨σ.env,aJ σ.H d (.sl t sz els)⟩:=by
 have hm:cH μ d ⟨some w.heap.size,sz,cap⟩ d=some ⟨some w.heap.size,sz,cap⟩:=by simp [cH]
 obtain ⟨h1,h2⟩:=hi.alloc (Mv:=Mv) hd (bU.alloc w (.cells cur t)) (m:=⟨some w.heap.size,sz,cap⟩) (fun b hb=>by simp at hb;omega) (row:=.sl t sz els) fun ev=>
  .sl rfl rfl (by simpa using heap_alloc_new w (.cells cur t)) hc (by simp;omega) Qv he.len hz fun i j el c h1 h2=>let ⟨u,hu,hr⟩:=he.at_ i j el c h1 h2;⟨u,hu,hr.ev ev⟩
 exact ⟨_,_,_,rfl,h1,.own hm (.inr ⟨w.heap.size,rfl,by simp,by simpa using ab6⟩),h2⟩
theorem LO (hg:Good P T) (hi:In w X G μ N a σ) {d:Nat} (hd:σ.H d=none) {t:TypeId} {ti:TI} (ht:T t=some ti) :
  ka Mv X G N w μ a ((Instr.alloc t true (.tuple #[])).run P w) (.ref d 0 0) ⟨σ.env,aJ σ.H d (.box t ((gB ti.zero).map .d))⟩:=by
 have:=ae9 (Mv:=Mv) hi hd t (cur:=ti.zero.cells) (cells:=(gB ti.zero).map .d) ⟨by simpa using (aea (w:=w) (X:=X) ti.zero).1,RV.tH (aea ti.zero).2⟩;simpa [Instr.alloc,hg.zero ht,newVar,newRow] using this
theorem afu (hi:In w X G μ N a σ) {d:Nat} (hd:σ.H d=none) {t:TypeId} {u:Value} {x:AV} {cs:List AV} (hx:RV w X μ u x) (hc:fS x=some cs) :
  ka Mv X G N w μ a ((Instr.box t u).run P w) (.ref d 0 0) ⟨σ.env,aJ σ.H d (.box t cs)⟩:=by
 have:=ae9 (Mv:=Mv) hi hd t (ui hx hc);simpa [Instr.box,newVar,newRow] using this
theorem tZ {α:Type} (l cs:List α) (j i:Nat) (hj:j+cs.length<=l.length):(l.take j ++ cs ++ l.drop (j+cs.length))[i]? = if j<=i/\i < j+cs.length then cs[i - j]? else l[i]?:=by
 rw [List.append_assoc,List.getElem?_append];simp only [List.length_take]
 have e1:min j l.length=j:=by omega
 rw [e1];split
 .rename_i h;rw [if_neg (by omega),List.getElem?_take,if_pos h]
 .rename_i h;rw [List.getElem?_append];split
  .rename_i h2;rw [if_pos (by omega)]
  .rename_i h2;rw [if_neg (by omega),List.getElem?_drop];congr 1;omega
theorem Km {ti:TI} {t:TypeId} (hg:Good P T) (ht:T t=some ti) {b o:Nat} {ty:TypeId} {cur:Array Value} {u:Value} (hh:w.heap[b]? = some (.cells cur ty (0,0))) (hs:u.cells.size=ti.size) (ic:o+ti.size<=cur.size) (h1:∀ v∈u.cells.toList,v.oneCell'=true) :
  (storeVar t ⟨b,o,none⟩ u).run P w = .ok () (w.setRow b (cur.toList.take o ++ u.cells.toList ++ cur.toList.drop (o+u.cells.toList.length)).toArray):=by
 have:=run_storeCells_at P b o ty u.cells.toList 0 cur w hh (by simp;omega) h1;simp only [Nat.add_zero] at this;simp [storeVar,hg.sizeOf ht,hs,this]
def Aa (T:Ty) (t:TypeId) (cells:List AV) (j:Nat) (x:AV):Option (Prop×List AV):=match T t,fS x with
 | some ti,some cs=>some (cs.length=ti.size/\j+cs.length<=cells.length/\cs.all AV.one=true,cells.take j ++ cs ++ cells.drop (j+cs.length))
 | _,_=>none
theorem WT (hg:Good P T) (hi:In w X G μ N a σ) {t ty:TypeId} {r j:Nat} {cells pa:List AV} {ua u:Value} {x:AV} {c:Prop} (hH:σ.H r=some (.box ty cells)) (h:Aa T t cells j x=some (c,pa)) (hc:c)
  (ha:RV w X μ ua (.ref r 0 j)) (hx:RV w X μ u x):∃ w',(Instr.storeAt t ua u).run P w = .ok () w'/\In w' X G μ N a ⟨σ.env,aJ σ.H r (.box ty pa)⟩/\Ev Mv w μ w' μ:=by
 unfold Aa at h;split at h
 .rename_i ti cs ht bW;simp only [Option.some.injEq,Prod.mk.injEq] at h;obtain ⟨rfl,rfl⟩:=h;obtain ⟨h1,h2,h3⟩:=hc;obtain ⟨m,b,hm,hb,rfl⟩:=ha.abV;obtain ⟨m',bO,ok⟩:=hi.aS.rows r _ hH;rw [hm] at bO;obtain rfl:=Option.some.inj bO;have hp:=ui hx bW
  cases ok with
  | box aO aI ab6 hh hn hr pP=>
   rename_i b' cur;rw [hb] at aO;obtain rfl:=Option.some.inj aO
   have abx:∀ v∈u.cells.toList,v.oneCell'=true:=by
    intro v hv;obtain ⟨i,da,rfl⟩:=List.mem_iff_getElem.1 hv
    have ea:i < cs.length:=by rw [<- hp.size];simpa using da
    refine (hp.at_ i _ cs[i] (by rw [<- Array.getElem?_toList,List.getElem?_eq_getElem da]) (by simp [ea])).tN ?_;exact List.all_eq_true.1 h3 _ (List.getElem_mem ea)
   have bK:=Km (P:=P) hg ht (o:=j) hh (by rw [hp.size,h1]) (by omega) abx
   have nr:u.cells.toList.length=cs.length:=by simpa using hp.size
   obtain ⟨aC,aG⟩:=hi.write (Mv:=Mv) (w':=w.setRow b (cur.toList.take j ++ u.cells.toList ++ cur.toList.drop (j+u.cells.toList.length)).toArray) hm hb (by simp) rfl rfl rfl (fun k hk=>setRow_other w b k _ hk)
    (row:=.box ty (cells.take j ++ cs ++ cells.drop (j+cs.length))) fun ev=>by
     refine .box hb rfl ab6 (setRow_heap w b cur _ ty _ hh) ?_ (hx:=fun e=>?_) fun i v c hv hc=>?_
     .simp [nr];omega
     rotate_left
     .have:=pP e;simp [nr];omega
     .rw [tZ _ _ _ _ h2] at hc;rw [<- Array.getElem?_toList] at hv;simp only at hv;rw [tZ _ _ _ _ (by rw [nr];simp;omega),nr] at hv;refine RV.same ev (fun _ _ h=>h) ?_;split at hv
      .rename_i kL;rw [if_pos kL] at hc;exact hp.at_ _ v c (by simpa using hv) hc
      .rename_i kL;rw [if_neg kL] at hc;exact hr i v c (by simpa using hv) hc
   refine ⟨_,?_,aC,aG⟩;simp only [Nat.zero_mul,Nat.zero_add];simpa [Instr.storeAt,Instr.sureAddr] using bK
 .cases h
def Ab (T:Ty) (t:TypeId) (sz:Nat) (els:List (List D)) (e j:Nat) (x:AV):Option (Prop×List (List D)):=match T t,(fS x).bind iq with
 | some ti,some cs=>some (cs.length=ti.size/\e < els.length/\j+cs.length<=sz/\cs.all D.one=true,els.set e ((els.getD e []).take j ++ cs ++ (els.getD e []).drop (j+cs.length)))
 | _,_=>none
theorem WU (hg:Good P T) (hi:In w X G μ N a σ) {t ty:TypeId} {r e j sz:Nat} {els kf:List (List D)} {ua u:Value} {x:AV} {c:Prop} (hH:σ.H r=some (.sl ty sz els)) (h:Ab T t sz els e j x=some (c,kf)) (hc:c)
  (ha:RV w X μ ua (.ref r e j)) (hx:RV w X μ u x):∃ w',(Instr.storeAt t ua u).run P w = .ok () w'/\In w' X G μ N a ⟨σ.env,aJ σ.H r (.sl ty sz kf)⟩/\Ev Mv w μ w' μ:=by
 unfold Ab at h;split at h
 .rename_i ti ds ht bW;obtain ⟨cs,bW,iZ⟩:=Option.bind_eq_some_iff.1 bW;simp only [Option.some.injEq,Prod.mk.injEq] at h;obtain ⟨rfl,rfl⟩:=h;obtain ⟨h1,h2,h3,h4⟩:=hc;obtain ⟨m,b,hm,hb,rfl⟩:=ha.abV;obtain ⟨m',bO,ok⟩:=hi.aS.rows r _ hH;rw [hm] at bO;obtain rfl:=Option.some.inj bO;have hp:=ui hx bW;rw [k7 iZ] at hp
  have df:u.cells.size=ds.length:=by simpa using hp.size
  have yH:∀ (i:Nat) (v:Value) (c:D),u.cells[i]? = some v->ds[i]? = some c->RD w (XX X μ) v c:=fun i v c hv hc=>(hp.at_ i v (.d c) hv (by rw [List.getElem?_map,hc];rfl)).data
  cases ok with
  | nil aO _=>rw [hb] at aO;cases aO
  | sl aO aI hh B8 hn eX hl hz hr=>
   rename_i b' cur;rw [hb] at aO;obtain rfl:=Option.some.inj aO;subst aI
   have abx:∀ v∈u.cells.toList,v.oneCell'=true:=by
    intro v hv;obtain ⟨i,da,rfl⟩:=List.mem_iff_getElem.1 hv
    have ea:i < ds.length:=by rw [<- df];simpa using da
    refine (yH i _ ds[i] (by rw [<- Array.getElem?_toList,List.getElem?_eq_getElem da]) (by simp [ea])).tN ?_;exact List.all_eq_true.1 h4 _ (List.getElem_mem ea)
   have ba:els.getD e []=els[e]:=by simp [List.getD_eq_getElem?_getD,h2]
   have hlen:(els[e]).length=m.sz:=hl _ (List.getElem_mem h2);have hE:(e+1) * m.sz<=m.cap * m.sz:=Nat.mul_le_mul_right _ (by omega);rw [Nat.add_mul] at hE;have bK:=Km (P:=P) hg ht (o:=e * m.sz+j) hh (by rw [df,h1]) (by rw [B8];omega) abx
   have nr:u.cells.toList.length=ds.length:=by simpa using df
   rw [ba]
   obtain ⟨aC,aG⟩:=hi.write (Mv:=Mv) (w':=w.setRow b (cur.toList.take (e * m.sz+j) ++ u.cells.toList ++ cur.toList.drop (e * m.sz+j+u.cells.toList.length)).toArray) hm hb (by simp) rfl rfl rfl (fun k hk=>setRow_other w b k _ hk)
    (row:=.sl ty m.sz (els.set e ((els[e]).take j ++ ds ++ (els[e]).drop (j+ds.length)))) fun ev=>by
     refine .sl hb rfl (setRow_heap w b cur _ ty _ hh) ?_ (by simpa using hn) eX ?_ hz ?_
     .simp [nr,B8];omega
     .intro el vt
      rcases List.mem_or_eq_of_mem_set vt with h | rfl
      .exact hl el h
      .simp [hlen];omega
     .intro i k el c da hk
      have key:∀ idx,((cur.toList.take (e * m.sz+j) ++ u.cells.toList ++ cur.toList.drop (e * m.sz+j+u.cells.toList.length)).toArray)[idx]? = if e * m.sz+j<=idx/\idx < e * m.sz+j+ds.length then u.cells[idx - (e * m.sz+j)]? else cur[idx]?:=by
       intro idx;rw [<- Array.getElem?_toList];simp only;rw [tZ _ _ _ _ (by rw [nr];simp [B8];omega),nr];simp
      rw [key]
      have cj:k < m.sz:=by
       have bO:el∈els.set e ((els[e]).take j ++ ds ++ (els[e]).drop (j+ds.length)):=List.mem_of_getElem? da
       have:el.length=m.sz:=by
        rcases List.mem_or_eq_of_mem_set bO with h | rfl
        .exact hl el h
        .simp [hlen];omega
       have:=(List.getElem?_eq_some_iff.1 hk).1;omega
      rw [List.getElem?_set] at da;split at da
      .rename_i Ce;subst Ce
       try rw [if_pos h2] at da
       obtain rfl:=Option.some.inj da;rw [tZ _ _ _ _ (by omega)] at hk;split at hk
       .rename_i hjk;rw [if_pos (by omega)]
        have e1:e * m.sz+k - (e * m.sz+j)=k - j:=by omega
        rw [e1]
        have ax:k - j < u.cells.size:=by omega
        exact ⟨u.cells[k - j],by simp [ax],(yH (k - j) _ c (by simp [ax]) hk).ev ev⟩
       .rename_i hjk;rw [if_neg (by omega)];obtain ⟨v,hv,bz⟩:=hr e k _ c (List.getElem?_eq_getElem h2) hk;exact ⟨v,hv,bz.ev ev⟩
      .rename_i Ce
       have aL:¬ (e * m.sz+j<=i * m.sz+k/\i * m.sz+k < e * m.sz+j+ds.length):=by
        rintro ⟨g1,g2⟩
        rcases Nat.lt_or_gt_of_ne Ce with h | h
        .have:(e+1) * m.sz<=i * m.sz:=Nat.mul_le_mul_right _ h;rw [Nat.add_mul] at this;omega
        .have:(i+1) * m.sz<=e * m.sz:=Nat.mul_le_mul_right _ h;rw [Nat.add_mul] at this;omega
       rw [if_neg aL];obtain ⟨v,hv,bz⟩:=hr i k el c da hk;exact ⟨v,hv,bz.ev ev⟩
   refine ⟨_,?_,aC,aG⟩;simpa [Instr.storeAt,Instr.sureAddr] using bK
 .cases h
def lz (ti:TI) (n:Nat):List (List D):=List.replicate n (gB ti.zero)
theorem SC (hg:Good P T) (hi:In w X G μ N a σ) {d:Nat} (hd:σ.H d=none) {t e:TypeId} {tt te:TI} (htt:T t=some tt) (cE:tt.desc = .slice e) (b9:T e=some te) {k1 k2:IntKind} {l c:Int} (h0:0<=l) (h1:l<=c) (h2:te.bytes * c<=281474976710656) (h3:c<=9223372036854775807)
  (hz:0 < te.size) (oR:(gB te.zero).length=te.size) :
  ka Mv X G N w μ a ((Instr.makeSlice t (.int k1 l) (.int k2 c)).run P w) (.own d 0 l.toNat) ⟨σ.env,aJ σ.H d (.sl e te.size (lz te l.toNat))⟩:=by
 obtain ⟨hu,i0,jc,hs0,hb0,j0,_⟩:=hg e te b9;have ht:=(hg t tt htt).1;rw [cE] at ht;rw [run_make (P:=P) w t e i0 te.zero ht jc j0 k1 k2 l c h0 h1 (by rw [hb0];exact h2) h3,hs0];refine I3 (Mv:=Mv) hi hd e ⟨fun el ba=>?_,fun i j el d ba hd=>?_⟩ hz (size_madeCells _ _) (by simp [lz]) (by omega) (by unfold maxLen;omega)
 .rw [List.eq_of_mem_replicate ba,oR]
 .unfold lz at ba;rw [List.getElem?_replicate] at ba;split at ba
  .rename_i ax;obtain rfl:=Option.some.inj ba
   have hj:j < te.size:=by rw [<- oR];exact (List.getElem?_eq_some_iff.1 hd).1
   have oQ:=aea (w:=w) (X:=XX X μ) te.zero
   have bW:te.zero.cells.size=te.size:=by rw [oQ.1,oR]
   have vy:j < te.zero.cells.size:=by omega
   refine ⟨te.zero.cells[j],?_,oQ.2 j _ d (by simp [vy]) hd⟩
   have hb:i * te.size+j < c.toNat * te.size:=by
    have:(i+1) * te.size<=c.toNat * te.size:=Nat.mul_le_mul_right _ (by omega);rw [Nat.add_mul] at this;omega
   have kN:(i * te.size+j) % te.size=j:=by rw [Nat.mul_comm,Nat.mul_add_mod,Nat.mod_eq_of_lt hj]
   simp [madeCells,hb,bW,kN];exact getElem!_pos te.zero.cells j vy
  .cases ba
end
end Go.Av
namespace Go.Av
section
variable {P:Program} {T:Ty} {Mv X:Nat->Prop} {G:ao} {N:Fr} {w:World} {μ:Mu} {a:Act} {σ:St}
def o9 (sz:Nat):Nat->List (Nat×AV)->Option (List (List D))
 | _,[]=>some []
 | k,(i,x) :: rest=>if i=k then match (fS x).bind iq with
   | some ds=>if ds.length=sz then (o9 sz (k+1) rest).map (ds :: ·) else none
   | none=>none
  else none
theorem JI (vs:List Value):∀ (n off:Nat) (arr:Array Value) (k:Nat),off+n+vs.length<=arr.size->
  ((vs.zipIdx n).foldl (fun cs (p:Value×Nat)=>cs.setIfInBounds (off+p.2) p.1) arr)[k]? = if off+n<=k/\k < off+n+vs.length then vs[k - (off+n)]? else arr[k]?:=by
 induction vs with
 | nil=>
  intro n off arr k _;simp only [List.zipIdx_nil,List.foldl_nil,List.length_nil];rw [if_neg (by omega)]
 | cons v vs ih=>
  intro n off arr k hk;simp only [List.length_cons] at hk;rw [List.zipIdx_cons,List.foldl_cons,ih (n+1) off _ k (by simp;omega)];simp only [List.length_cons];by_cases h1:k=off+n
  .subst h1;rw [if_neg (by omega),if_pos (by omega)];simp [Array.getElem?_setIfInBounds,show off+n < arr.size by omega]
  .by_cases h2:off+(n+1)<=k/\k < off+(n+1)+vs.length
   .rw [if_pos h2,if_pos (by omega)]
    have:k - (off+n)=(k - (off+(n+1)))+1:=by omega
    rw [this];rfl
   .rw [if_neg h2,if_neg (by omega)];exact Array.getElem?_setIfInBounds_ne (by omega)
theorem JJ (vs:List Value):∀ (n off:Nat) (arr:Array Value),((vs.zipIdx n).foldl (fun cs (p:Value×Nat)=>cs.setIfInBounds (off+p.2) p.1) arr).size=arr.size:=by
 induction vs with
 | nil=>intros;rfl
 | cons v vs ih=>intro n off arr;rw [List.zipIdx_cons,List.foldl_cons,ih];simp
theorem Gr {sz:Nat}:∀ (ps:List (Nat×AV)) (vs:List (Nat×Value)) (k:Nat) (els:List (List D)) (arr:Array Value),o9 sz k ps=some els->vs.map (·.1)=ps.map (·.1)->
  (∀ (i:Nat) (p:Nat×AV) (v:Nat×Value),ps[i]? = some p->vs[i]? = some v->RV w X μ v.2 p.2)->(k+ps.length) * sz<=arr.size->
  ∃ abK,Instr.fill (fun i=>some (i * sz,sz)) arr vs=some abK/\abK.size=arr.size/\(∀ idx,idx < k * sz->abK[idx]? = arr[idx]?)/\els.length=ps.length/\(∀ el∈els,el.length=sz)/\
   ∀ (i j:Nat) (el:List D) (c:D),els[i]? = some el->el[j]? = some c->∃ u,abK[(k+i) * sz+j]? = some u/\RD w (XX X μ) u c:=by
 intro ps
 induction ps with
 | nil=>
  intro vs k els arr h hv _ _
  cases vs with
  | cons _ _=>simp at hv
  | nil=>
   simp only [o9,Option.some.injEq] at h;subst h;exact ⟨arr,rfl,rfl,fun _ _=>rfl,rfl,by simp,by simp⟩
 | cons p ps ih=>
  intro vs k els arr h hv hr hs;obtain ⟨i,x⟩:=p
  cases vs with
  | nil=>simp at hv
  | cons v vs=>
   obtain ⟨i',u⟩:=v;simp only [List.map_cons,List.cons.injEq] at hv;obtain ⟨rfl,hv⟩:=hv;simp only [o9] at h;split at h
   case isFalse=>cases h
   rename_i vx;subst vx;split at h
   case h_2=>cases h
   rename_i ds iZ;split at h
   case isFalse=>cases h
   rename_i hlen;obtain ⟨kf,qU,rfl⟩:=Option.map_eq_some_iff.1 h;obtain ⟨cs,bW,bx⟩:=Option.bind_eq_some_iff.1 iZ;have hp:=ui (hr 0 (i',x) (i',u) rfl rfl) bW;rw [k7 bx] at hp
   have df:u.cells.size=sz:=by have:=hp.size;simp at this;omega
   have yH:∀ (j:Nat) (v:Value) (c:D),u.cells[j]? = some v->ds[j]? = some c->RD w (XX X μ) v c:=fun j v c hv hc=>(hp.at_ j v (.d c) hv (by rw [List.getElem?_map,hc];rfl)).data
   have ic:i' * sz+sz<=arr.size:=by
    simp only [List.length_cons] at hs;have:(i'+1) * sz<=(i'+(ps.length+1)) * sz:=Nat.mul_le_mul_right _ (by omega);rw [Nat.add_mul] at this;omega
   let ab0:=(u.cells.zipIdx.foldl (fun cs (p:Value×Nat)=>cs.setIfInBounds (i' * sz+p.2) p.1) arr)
   have vn:ab0=((u.cells.toList.zipIdx 0).foldl (fun cs (p:Value×Nat)=>cs.setIfInBounds (i' * sz+p.2) p.1) arr):=by
    show Array.foldl _ _ _=_;rw [<- Array.foldl_toList,Array.toList_zipIdx]
   have yN:ab0.size=arr.size:=by rw [vn];exact JJ _ _ _ _
   have aeE:∀ k,ab0[k]? = if i' * sz<=k/\k < i' * sz+sz then u.cells[k - i' * sz]? else arr[k]?:=by
    intro k;rw [vn,JI _ 0 _ _ _ (by simp [df];omega)];simp [df]
   obtain ⟨abK,hf,pK,hold,hlen',BV,je⟩:=ih vs (i'+1) kf ab0 qU hv (fun i p v h1 h2=>hr (i+1) p v (by simpa using h1) (by simpa using h2)) (by rw [yN];simp only [List.length_cons] at hs;rw [show i'+1+ps.length=i'+(ps.length+1) by omega];exact hs);refine ⟨abK,?_,pK.trans yN,fun idx yu=>?_,by simp [hlen'],fun el ba=>?_,fun i j el c hi hj=>?_⟩
   .simp only [Instr.fill]
    have:¬ (u.cells.size≠sz\/i' * sz+u.cells.size > arr.size):=by omega
    simp only [df,ne_eq,not_true_eq_false,decide_false,Bool.false_or,decide_eq_true_eq];rw [if_neg (by omega)];exact hf
   .rw [hold idx (by rw [Nat.add_mul];omega),aeE,if_neg (by omega)]
   .rcases List.mem_cons.1 ba with rfl | h
    .exact hlen
    .exact BV el h
   .cases i with
    | zero=>
     simp at hi;subst hi
     have cR:j < sz:=by rw [<- hlen];exact (List.getElem?_eq_some_iff.1 hj).1
     have Hl:j < u.cells.size:=by omega
     refine ⟨u.cells[j],?_,yH j _ c (by simp [Hl]) hj⟩;rw [Nat.add_zero,hold _ (by rw [Nat.add_mul];omega),aeE,if_pos (by omega)];simp [Hl]
    | succ i=>
     simp at hi;have:=je i j el c hi hj
     rwa [show i'+1+i=i'+(i+1) by omega] at this
theorem MM (hg:Good P T) (hi:In w X G μ N a σ) {d:Nat} (hd:σ.H d=none) {t e:TypeId} {tt te:TI} (htt:T t=some tt) (cE:tt.desc = .slice e) (b9:T e=some te) {len:Nat} {ps:List (Nat×AV)} {vs:Array (Nat×Value)} {els:List (List D)}
  (Px:o9 te.size 0 ps=some els) (hlen:ps.length=len) (hv:vs.toList.map (·.1)=ps.map (·.1)) (hr:∀ (i:Nat) (p:Nat×AV) (v:Nat×Value),ps[i]? = some p->vs[i]? = some v->RV w X μ v.2 p.2)
  (hz:0 < te.size) (HK:len * te.size<=16777216) :
  ka Mv X G N w μ a ((Instr.buildSlice t len vs).run P w) (.own d 0 len) ⟨σ.env,aJ σ.H d (.sl e te.size els)⟩:=by
 have hu:=hg.cu (w:=w) htt;have aI:=hg.sizeOf (w:=w) b9;have wg:=hg.zero (w:=w) b9
 obtain ⟨abK,hf,pK,_,hl,bx,je⟩:=Gr (w:=w) (X:=X) (μ:=μ) (sz:=te.size) ps vs.toList 0 els ((Array.range (len * te.size)).map ((if len * te.size=0 then #[] else te.zero.cells)[· % (if len * te.size=0 then #[] else te.zero.cells).size]!)) Px hv
  (fun i p v h1 h2=>hr i p v h1 (by rwa [Array.getElem?_toList] at h2)) (by simp [hlen])
 have:=I3 (Mv:=Mv) hi hd e (cur:=abK) (sz:=te.size) (n:=len) (cap:=len) (els:=els) ⟨bx,fun i j el c h1 h2=>by simpa using je i j el c h1 h2⟩ hz (by rw [pK];simp) (by omega) (Nat.le_refl _) (by
  have:len<=len * te.size:=Nat.le_mul_of_pos_right _ hz
  unfold maxLen;omega)
 have hn:¬ len * te.size > 2 ^ 24:=by omega
 have e0:∀ f:Nat->Value,(Array.range 0).map f = #[]:=fun f=>by apply Array.ext<;>simp
 by_cases h0:len * te.size=0
 .simp only [h0,if_true,e0] at hf;simp only [Instr.buildSlice,Sem.run_bind,hu,cE,Result.andThen_ok,aI,hn,if_false,h0,if_true,Sem.run_pure,e0];simp [hf,newRow];exact this
 .simp only [h0,if_false] at hf;simp only [Instr.buildSlice,Sem.run_bind,hu,cE,Result.andThen_ok,aI,hn,if_false,h0,Sem.run_pure,wg];simp [hf,newRow];exact this
def sD (pl:Nat->Option (Nat×Nat)):List AV->List (Nat×AV)->Option (List AV)
 | cs,[]=>some cs
 | cs,(i,x) :: rest=>match pl i,fS x with
  | some (off,sz),some xs=>if xs.length=sz/\off+sz<=cs.length then sD pl (cs.take off ++ xs ++ cs.drop (off+sz)) rest else none
  | _,_=>none
theorem Ob {pl:Nat->Option (Nat×Nat)}:∀ (ps:List (Nat×AV)) (vs:List (Nat×Value)) (cs uJ:List AV) (arr:Array Value),sD pl cs ps=some uJ->vs.map (·.1)=ps.map (·.1)->
  (∀ (i:Nat) (p:Nat×AV) (v:Nat×Value),ps[i]? = some p->vs[i]? = some v->RV w X μ v.2 p.2)->ux w X μ arr cs->∃ abK,Instr.fill pl arr vs=some abK/\ux w X μ abK uJ:=by
 intro ps
 induction ps with
 | nil=>
  intro vs cs uJ arr h hv _ hp
  cases vs with
  | cons _ _=>simp at hv
  | nil=>
   simp only [sD,Option.some.injEq] at h;subst h;exact ⟨arr,rfl,hp⟩
 | cons p ps ih=>
  intro vs cs uJ arr h hv hr hp;obtain ⟨i,x⟩:=p
  cases vs with
  | nil=>simp at hv
  | cons v vs=>
   obtain ⟨i',u⟩:=v;simp only [List.map_cons,List.cons.injEq] at hv;obtain ⟨rfl,hv⟩:=hv;simp only [sD] at h;split at h
   case h_2=>cases h
   rename_i off sz xs df Re;split at h
   case isFalse=>cases h
   rename_i hc;obtain ⟨hxl,ic⟩:=hc;have HA:=ui (hr 0 (i',x) (i',u) rfl rfl) Re
   have C6:u.cells.size=sz:=by rw [HA.size,hxl]
   have Yq:arr.size=cs.length:=hp.size
   let ab0:=(u.cells.zipIdx.foldl (fun cs (p:Value×Nat)=>cs.setIfInBounds (off+p.2) p.1) arr)
   have vn:ab0=((u.cells.toList.zipIdx 0).foldl (fun cs (p:Value×Nat)=>cs.setIfInBounds (off+p.2) p.1) arr):=by
    show Array.foldl _ _ _=_;rw [<- Array.foldl_toList,Array.toList_zipIdx]
   have yN:ab0.size=arr.size:=by rw [vn];exact JJ _ _ _ _
   have aeE:∀ k,ab0[k]? = if off<=k/\k < off+sz then u.cells[k - off]? else arr[k]?:=by
    intro k;rw [vn,JI _ 0 _ _ _ (by simp [C6];omega)];simp [C6]
   have gv:ux w X μ ab0 (cs.take off ++ xs ++ cs.drop (off+sz)):=by
    refine ⟨by rw [yN];simp;omega,fun j v c hv' hc=>?_⟩;rw [aeE] at hv'
    have gU:(List.take off cs).length=off:=by simp;omega
    rw [List.append_assoc,List.getElem?_append,gU] at hc;split at hc
    .rename_i hj;rw [if_neg (by omega)] at hv';rw [List.getElem?_take,if_pos hj] at hc;exact hp.at_ j v c hv' hc
    .rename_i hj;rw [List.getElem?_append,hxl] at hc;split at hc
     .rename_i hC;rw [if_pos (by omega)] at hv';exact HA.at_ _ v c hv' hc
     .rename_i hC;rw [if_neg (by omega)] at hv';rw [List.getElem?_drop] at hc;refine hp.at_ j v c hv' ?_;rw [<- hc];congr 1;omega
   obtain ⟨abK,hf,QK⟩:=ih vs _ uJ ab0 h hv (fun i p v h1 h2=>hr (i+1) p v (by simpa using h1) (by simpa using h2)) gv;refine ⟨abK,?_,QK⟩;simp only [Instr.fill,df,C6,ne_eq,not_true_eq_false,decide_false,Bool.false_or,decide_eq_true_eq];rw [if_neg (by omega)];exact hf
def Ee (T:Ty) (t:TypeId):Option (Nat->Option (Nat×Nat)):=match T t with
 | some ti=>match ti.desc with
  | .struct fs=>if fs.toList.all (fun f=>(T f.type).isSome) then some fun i=>(fs[i]?).bind fun (f:Field)=>(T f.type).map fun tf=>(f.offset,tf.size) else none
  | .array _ e=>(T e).map fun te=>fun i=>some (i * te.size,te.size)
  | _=>none
 | none=>none
def xB (T:Ty) (t:TypeId) (ps:List (Nat×AV)):Ans:=match T t,Ee T t with
 | some ti,some pl=>(sD pl ((gB ti.zero).map .d) ps).map fun cs=>(True,lA cs)
 | _,_=>none
theorem run_places (hg:Good P T):∀ (l:List Field),l.all (fun f=>(T f.type).isSome)=true->
  (l.mapM (m:=Sem) fun (f:Field)=>do pure (f.offset,<- Go.sizeOf f.type)).run P w = .ok (l.map fun (f:Field)=>(f.offset,((T f.type).map (·.size)).getD 0)) w:=by
 intro l
 induction l with
 | nil=>intro _;simp
 | cons f l ih=>
  intro h;simp only [List.all_cons,Bool.and_eq_true] at h;obtain ⟨ti,C3⟩:=Option.isSome_iff_exists.1 h.1;simp only [List.mapM_cons,Sem.run_bind,hg.sizeOf C3,Result.andThen_ok,Sem.run_pure,ih h.2,List.map_cons,C3,Option.map_some,Option.getD_some]
theorem ML (hg:Good P T) {t:TypeId} {ps:List (Nat×AV)} {vs:Array (Nat×Value)} {c:Prop} {x:AV} (h:xB T t ps=some (c,x)) (hv:vs.toList.map (·.1)=ps.map (·.1))
  (hr:∀ (i:Nat) (p:Nat×AV) (v:Nat×Value),ps[i]? = some p->vs[i]? = some v->RV w X μ v.2 p.2):∃ u,(Instr.build t vs).run P w = .ok u w/\RV w X μ u x:=by
 unfold xB at h;split at h
 case h_2=>cases h
 rename_i ti pl ht df;obtain ⟨cs,bW,he⟩:=Option.map_eq_some_iff.1 h;simp only [Prod.mk.injEq] at he;obtain ⟨_,rfl⟩:=he;have hz:=aea (w:=w) (X:=XX X μ) ti.zero;obtain ⟨abK,hf,hp⟩:=Ob (w:=w) (X:=X) (μ:=μ) ps vs.toList _ cs ti.zero.cells bW hv (fun i p v h1 h2=>hr i p v h1 (by rwa [Array.getElem?_toList] at h2)) ⟨by simpa using hz.1,RV.tH hz.2⟩;refine ⟨.agg abK,?_,wx (.agg hp.size hp.at_)⟩;unfold Ee at df;rw [ht] at df;dsimp only at df;split at df
 .rename_i fs PZ;split at df
  .rename_i bx;obtain rfl:=Option.some.inj df;have hm:=run_places (P:=P) (w:=w) hg fs.toList bx
   have QM:(fun (i:Nat)=>((fs.toList.map fun (f:Field)=>(f.offset,((T f.type).map (·.size)).getD 0)).toArray)[i]?)=fun (i:Nat)=>(fs[i]?).bind fun (f:Field)=>(T f.type).map fun tf=>(f.offset,tf.size):=by
    funext i;simp only [List.getElem?_toArray,List.getElem?_map,Array.getElem?_toList]
    cases hi:fs[i]? with
    | none=>rfl
    | some f=>
     have jz:f∈fs.toList:=by rw [<- Array.getElem?_toList] at hi;exact List.mem_of_getElem? hi
     obtain ⟨tf,htf⟩:=Option.isSome_iff_exists.1 (List.all_eq_true.1 bx f jz);simp [htf]
   simp only [Instr.build,Sem.run_bind,hg.zero ht,hg.cu ht,PZ,Result.andThen_ok,Array.mapM_eq_mapM_toList,map_eq_pure_bind,hm,Sem.run_pure];rw [<- QM] at hf;simp only [hf,Sem.run_pure]
  .cases df
 .rename_i n e he;obtain ⟨te,b9,df⟩:=Option.map_eq_some_iff.1 df;subst df;simp [Instr.build,Sem.run_bind,hg.zero ht,hg.cu ht,he,Result.andThen_ok,hg.sizeOf b9,hf]
 .cases df
structure nU (w:World) (X:Nat->Prop) (μ:Mu) (sz:Nat) (u:Value) (els:List (List D)):Prop where
 len:∀ el∈els,el.length=sz
 at_:(els=[]/\∃ (ad:Option Addr) (cap:Nat),u = .slice ad 0 cap)\/∃ (ad:Addr) (cap:Nat) (news:List Value),u = .slice (some ad) els.length cap/\news.length=els.length * sz/\(∀ (j:Nat) (v:Value),news[j]? = some v->w.cell? (ad.add j)=some v)/\(∀ v∈news,v.oneCell'=true)/\
  ∀ (i j:Nat) (el:List D) (c:D),els[i]? = some el->el[j]? = some c->∃ v,news[i * sz+j]? = some v/\RD w (XX X μ) v c
theorem nU.D0 {sz:Nat} {els:List (List D)} {b off cap:Nat} (f:Nat->Nat->Value) (hl:∀ el∈els,el.length=sz) (hz:0 < sz) (h1:∀ el∈els,∀ c∈el,D.one c=true)
  (aaB:∀ i j,i < els.length->j < sz->w.cell? ⟨b,off+(i * sz+j),none⟩=some (f i j)) (hr:∀ (i j:Nat) (el:List D) (c:D),els[i]? = some el->el[j]? = some c->RD w (XX X μ) (f i j) c) :
  nU w X μ sz (.slice (some ⟨b,off,none⟩) els.length cap) els:=by
 refine ⟨hl,.inr ⟨_,_,(List.range (els.length * sz)).map fun k=>f (k / sz) (k % sz),rfl,by simp,fun j v hv=>?_,fun v hv=>?_,fun i j el c hi hj=>?_⟩⟩
 .rw [List.getElem?_map] at hv;obtain ⟨k,hk,rfl⟩:=Option.map_eq_some_iff.1 hv;rw [List.getElem?_range] at hk
  .obtain rfl:=Option.some.inj hk
   have Qg:j < els.length * sz:=by
    rcases Nat.lt_or_ge j (els.length * sz) with h | h
    .exact h
    .rw [List.getElem?_eq_none (by simpa using h)] at hv;cases hv
   have h2:j / sz < els.length:=(Nat.div_lt_iff_lt_mul hz).2 Qg;have h3:j % sz < sz:=Nat.mod_lt _ hz;rw [addr_add,<- aaB (j / sz) (j % sz) h2 h3,Nat.div_add_mod']
  .rcases Nat.lt_or_ge j (els.length * sz) with h | h
   .exact h
   .rw [List.getElem?_eq_none (by simpa using h)] at hv;cases hv
 .obtain ⟨k,hk,rfl⟩:=List.mem_map.1 hv;have hk:=List.mem_range.1 hk;have h2:k / sz < els.length:=(Nat.div_lt_iff_lt_mul hz).2 hk
  have h3:k % sz < (els[k / sz]).length:=by rw [hl _ (List.getElem_mem h2)];exact Nat.mod_lt _ hz
  exact (hr (k / sz) (k % sz) _ _ (List.getElem?_eq_getElem h2) (List.getElem?_eq_getElem h3)).tN (h1 _ (List.getElem_mem h2) _ (List.getElem_mem h3))
 .have da:=(List.getElem?_eq_some_iff.1 hi).1;have ba:el.length=sz:=hl _ (List.mem_of_getElem? hi)
  have cR:j < sz:=by rw [<- ba];exact (List.getElem?_eq_some_iff.1 hj).1
  have hb:i * sz+j < els.length * sz:=by
   have:(i+1) * sz<=els.length * sz:=Nat.mul_le_mul_right _ da;rw [Nat.add_mul] at this;omega
  have e1:(i * sz+j) / sz=i:=by rw [Nat.mul_comm,Nat.mul_add_div hz,Nat.div_eq_of_lt cR];rfl
  have e2:(i * sz+j) % sz=j:=by rw [Nat.mul_comm,Nat.mul_add_mod,Nat.mod_eq_of_lt cR]
  refine ⟨f i j,?_,hr i j el c hi hj⟩;rw [List.getElem?_map,List.getElem?_range hb];simp [e1,e2]
def ji (H:Heap) (r:Nat):AV->Option (List (List D))
 | .d (.sl _ els)=>some els
 | .own q off n=>if q=r then none else match H q with
  | some (.sl _ _ els)=>if off+n<=els.length then some ((els.drop off).take n) else none
  | _=>none
 | _=>none
theorem zn (hs:cK w X μ σ.H) {r sz:Nat} {u:Value} {x:AV} {els:List (List D)} (hx:RV w X μ u x) (h:ji σ.H r x=some els) (hl:∀ el∈els,el.length=sz) (hz:0 < sz) (h1:∀ el∈els,∀ c∈el,D.one c=true):nU w X μ sz u els:=by
 unfold ji at h;split at h
 .rename_i k0 NB;obtain rfl:=Option.some.inj h
  rcases hx.data.l8 with ⟨rfl,rfl,_⟩ | ⟨ad,cap,rfl,_,_,_,hr⟩
  .exact ⟨by simp,.inl ⟨rfl,_,_,rfl⟩⟩
  .rcases hr with rfl | ⟨b,off,Ac,f,rfl,hX,gY,bx,aaB,hrr⟩
   .exact ⟨by simp,.inl ⟨rfl,_,_,rfl⟩⟩
   .by_cases he:NB=[]
    .subst he;exact ⟨by simp,.inl ⟨rfl,_,_,rfl⟩⟩
    .obtain ⟨el,ba⟩:=List.exists_mem_of_ne_nil _ he
     have:Ac=sz:=by rw [<- bx el ba,hl el ba]
     subst this;exact nU.D0 f hl hz h1 aaB hrr
 .rename_i q off n;split at h
  .cases h
  .split at h
   .rename_i ty YY xN hq;split at h
    .rename_i hle;obtain rfl:=Option.some.inj h;obtain ⟨m,hm,hh⟩:=hx.iK;obtain ⟨m',bO,ok⟩:=hs.rows q _ hq;rw [hm] at bO;obtain rfl:=Option.some.inj bO
     rcases hh with ⟨hb,rfl,rfl,rfl⟩ | ⟨b,hb,rfl,ab6⟩
     .exact ⟨by simp,.inl ⟨by simp,_,_,rfl⟩⟩
     .cases ok with
      | nil aO _=>rw [aO] at hb;cases hb
      | sl aO aI hh bW hn eX hll YM hr=>
       rename_i b' cur;rw [hb] at aO;obtain rfl:=Option.some.inj aO;subst aI;by_cases h0:n=0
       .subst h0;exact ⟨by simp,.inl ⟨by simp,_,_,rfl⟩⟩
       .have hlen:((xN.drop off).take n).length=n:=by simp;omega
        have jz:∀ el∈(xN.drop off).take n,el∈xN:=fun el ba=>List.mem_of_mem_drop (List.mem_of_mem_take ba)
        have aL:(xN.drop off).take n≠[]:=by intro e;rw [e] at hlen;simp at hlen;omega
        obtain ⟨Bk,Hb⟩:=List.exists_mem_of_ne_nil _ aL
        have Q0:sz=m.sz:=by rw [<- hl Bk Hb,hll Bk (jz Bk Hb)]
        subst Q0
        have:=nU.D0 (w:=w) (X:=X) (μ:=μ) (b:=b) (off:=off * m.sz) (cap:=m.cap - off) (fun i j=>cur.getD ((off+i) * m.sz+j) undef) hl hz h1 (fun i j hi hj=>by
         rw [hlen] at hi
         have ax:(off+i) * m.sz+j < cur.size:=by
          rw [bW];have:(off+i+1) * m.sz<=m.cap * m.sz:=Nat.mul_le_mul_right _ (by omega);rw [Nat.add_mul] at this;omega
         have e1:off * m.sz+(i * m.sz+j)=(off+i) * m.sz+j:=by rw [Nat.add_mul];omega
         rw [e1,cell_of_row w b _ cur ty (0,0) hh]
         simp [Array.getD_eq_getD_getElem?,ax]) (fun i j el c ba hc=>by
         rw [List.getElem?_take] at ba;split at ba
         .rw [List.getElem?_drop] at ba;obtain ⟨u',hu',bz⟩:=hr (off+i) j el c ba hc;simpa [Array.getD_eq_getD_getElem?,hu'] using bz
         .cases ba)
        rwa [hlen] at this
    .cases h
   .cases h
 .cases h
theorem Wk {t ty e:TypeId} {tt te:TI} (hg:Good P T) (htt:T t=some tt) (cE:tt.desc = .slice e) (b9:T e=some te) (base ad:Option Addr) (n cap c:Nat) (hn:n<=cap) :
  (Builtin.append_ #[t,t] ty #[.slice base n cap,.slice ad 0 c]).run P w = .ok (.slice base n cap) w:=by
 have hu:=hg.cu (w:=w) htt;have aI:=hg.sizeOf (w:=w) b9;cases ad<;>cases base<;>simp [Builtin.append_,hu,cE,aI,Builtin.lenOf,hn,Builtin.firstCells,loadCells,loadCellsFrom,storeCells]
def Rel (w:World) (X:Nat->Prop) (μ:Mu) (sz:Nat) (l:List Value) (els:List (List D)):Prop:=
 ∀ (i j:Nat) (el:List D) (c:D),els[i]? = some el->el[j]? = some c->∃ v,l[i * sz+j]? = some v/\RD w (XX X μ) v c
theorem Rel.append {sz:Nat} {l l':List Value} {A B:List (List D)} (h:Rel w X μ sz l A) (hl:l.length=A.length * sz) (hA:∀ el∈A,el.length=sz) (h':Rel w X μ sz l' B):Rel w X μ sz (l ++ l') (A ++ B):=by
 intro i j el c hi hj;rw [List.getElem?_append] at hi;split at hi
 .rename_i ax;obtain ⟨v,hv,hr⟩:=h i j el c hi hj;exact ⟨v,by rw [List.getElem?_append_left (List.getElem?_eq_some_iff.1 hv).1];exact hv,hr⟩
 .rename_i pz;obtain ⟨v,hv,hr⟩:=h' _ j el c hi hj;refine ⟨v,?_,hr⟩
  have e1:(i - A.length) * sz+j=i * sz+j - l.length:=by
   have:A.length * sz<=i * sz:=Nat.mul_le_mul_right _ (by omega);rw [hl,Nat.sub_mul];omega
  rw [List.getElem?_append_right,<- e1]
  .exact hv
  .have:A.length * sz<=i * sz:=Nat.mul_le_mul_right _ (by omega);omega
theorem Rel.more {sz:Nat} {l l':List Value} {A:List (List D)} (h:Rel w X μ sz l A):Rel w X μ sz (l ++ l') A:=by
 intro i j el c hi hj;obtain ⟨v,hv,hr⟩:=h i j el c hi hj;exact ⟨v,by rw [List.getElem?_append_left (List.getElem?_eq_some_iff.1 hv).1];exact hv,hr⟩
theorem Fv (hg:Good P T) (hi:In w X G μ N a σ) {r n:Nat} (hmv:Mv r) {t ty e:TypeId} {tt te:TI} (htt:T t=some tt) (cE:tt.desc = .slice e) (b9:T e=some te) {els news:List (List D)} {u v:Value}
  (hH:σ.H r=some (.sl e te.size els)) (hle:n<=els.length) (hu:RV w X μ u (.own r 0 n)) (hn:nU w X μ te.size v news) (hz:0 < te.size) (oR:(gB te.zero).length=te.size)
  (yb:n+news.length<=maxLen) (hb:(n+news.length) * te.bytes<=140737488355328) :
  ka Mv X G N w μ a ((Builtin.append_ #[t,t] ty #[u,v]).run P w) (.own r 0 (n+news.length)) ⟨cF r σ.env,aJ (cG r σ.H) r (.sl e te.size (els.take n ++ news))⟩:=by
 obtain ⟨m,hm,hh⟩:=hu.iK;obtain ⟨m',bO,ok⟩:=hi.aS.rows r _ hH;rw [hm] at bO;obtain rfl:=Option.some.inj bO;obtain ⟨adE,i0,jc,hs0,hb0,j0,_⟩:=hg e te b9;have ht:=(hg t tt htt).1;rw [cE] at ht;have oQ:=aea (w:=w) (X:=XX X μ) te.zero
 have PF:te.zero.cells.size=te.size:=by rw [oQ.1,oR]
 have adw:∀ el∈els,el.length=te.size:=by
  cases ok with
  | nil=>simp
  | sl _ _ _ _ _ _ hl=>exact hl
 have vD:∀ el∈els.take n ++ news,el.length=te.size:=by
  intro el ba
  rcases List.mem_append.1 ba with h | h
  .exact adw el (List.mem_of_mem_take h)
  .exact hn.len el h
 by_cases aL:news=[]
 .-- nothing is appended
  subst aL
  have hv:∃ ad c,v = .slice ad 0 c:=by
   rcases hn.at_ with ⟨_,ad,cap,rfl⟩ | ⟨ad,cap,nws,rfl,_⟩
   .exact ⟨_,_,rfl⟩
   .exact ⟨_,_,rfl⟩
  obtain ⟨ad,c,rfl⟩:=hv
  have kQ:∃ base c,u = .slice base n c/\n<=c:=by
   rcases hh with ⟨_,rfl,_,rfl⟩ | ⟨b,_,rfl,ab6⟩
   .exact ⟨_,_,rfl,Nat.le_refl _⟩
   .exact ⟨_,_,rfl,by omega⟩
  obtain ⟨base,c',vX,CG⟩:=kQ;have bK:=Wk (P:=P) (w:=w) (ty:=ty) hg htt cE b9 base ad n c' c CG;rw [vX,bK]
  obtain ⟨aC,aG⟩:=hi.move (Mv:=Mv) (w':=w) (m':=m) hm hmv (Nat.le_refl _) rfl rfl rfl (fun _ _ _=>rfl) (fun b hb=>.inr hb) (row:=.sl e te.size (els.take n ++ [])) fun ev=>by
   rw [List.append_nil]
   cases ok with
   | nil c6 cW=>rw [List.take_nil];exact .nil c6 cW
   | sl g1 g2 g3 g4 g5 g6 g7 g8 g9=>
    refine .sl g1 g2 g3 g4 (by simp;omega) g6 (fun el ba=>g7 el (List.mem_of_mem_take ba)) g8 fun i j el c ba hc=>?_;rw [List.getElem?_take] at ba;split at ba
    .obtain ⟨v,hv,bz⟩:=g9 i j el c ba hc;exact ⟨v,hv,bz.ev ev⟩
    .cases ba
  refine ⟨_,_,_,rfl,aC,.own (m:=m) (by simp [cH]) ?_,aG⟩;rw [<- vX];exact hh
 .have Hy:0 < news.length:=List.length_pos_iff.2 aL
  rcases hn.at_ with ⟨h,_⟩ | ⟨ad,cap,nws,rfl,eg,vK,vJ,hnr⟩
  .exact absurd h aL
  have HK:n+news.length<=9223372036854775807:=by simp only [maxLen] at yb;omega
  have wB:∀ (xs:List Value) (fy:Nat),xs.length=n * te.size->Rel w X μ te.size xs (els.take n)->n+news.length<=fy->fy<=maxLen->
    ka Mv X G N w μ a (.ok (.slice (some ⟨w.heap.size,0,none⟩) (n+news.length) fy) (w.drew.alloc (.cells (xs.toArray ++ nws.toArray ++ Builtin.zeroCells te.zero.cells (fy - (n+news.length))) e)))
     (.own r 0 (n+news.length)) ⟨cF r σ.env,aJ (cG r σ.H) r (.sl e te.size (els.take n ++ news))⟩:=by
   intro xs fy hxl oP fi fE
   have jV:bU w (w.drew.alloc (.cells (xs.toArray ++ nws.toArray ++ Builtin.zeroCells te.zero.cells (fy - (n+news.length))) e)):=by
    have h1:=bU.alloc w.drew (.cells (xs.toArray ++ nws.toArray ++ Builtin.zeroCells te.zero.cells (fy - (n+news.length))) e);exact ⟨h1.size,h1.os,h1.tape,h1.output,h1.same⟩
   have aI:(xs.toArray ++ nws.toArray ++ Builtin.zeroCells te.zero.cells (fy - (n+news.length))).size=fy * te.size:=by
    simp only [Array.size_append,List.size_toArray,size_zeroCells,PF,hxl,eg,<- Nat.add_mul];congr 1;omega
   obtain ⟨aC,aG⟩:=hi.move (Mv:=Mv) (w':=w.drew.alloc (.cells (xs.toArray ++ nws.toArray ++ Builtin.zeroCells te.zero.cells (fy - (n+news.length))) e)) (m':=⟨some w.heap.size,te.size,fy⟩) hm hmv jV.size jV.os jV.tape jV.output
    (fun k hk _=>jV.same k hk) (fun b hb=>by simp at hb;omega) (row:=.sl e te.size (els.take n ++ news)) fun ev=>by
     refine .sl rfl rfl (by simpa using heap_alloc_new w.drew (.cells (xs.toArray ++ nws.toArray ++ Builtin.zeroCells te.zero.cells (fy - (n+news.length))) e)) aI (by simp;omega) fE vD hz fun i j el c hi hj=>?_;have oJ:=((oP.append (by rw [hxl,List.length_take,Nat.min_eq_left hle]) (fun el ba=>adw el (List.mem_of_mem_take ba)) hnr).more (l':=(Builtin.zeroCells te.zero.cells (fy - (n+news.length))).toList)) i j el c hi hj;obtain ⟨v,hv,bz⟩:=oJ;refine ⟨v,?_,bz.ev ev⟩;rw [<- Array.getElem?_toList];simpa using hv
   exact ⟨_,_,_,rfl,aC,.own (m:=⟨some w.heap.size,te.size,fy⟩) (by simp [cH]) (.inr ⟨w.heap.size,rfl,by simp,by simpa using fi⟩),aG⟩
  rcases hh with ⟨hbk,rfl,_,rfl⟩ | ⟨b,hbk,rfl,ab6⟩
  .have hr:=run_append_nil (P:=P) w t ty e i0 te.zero ht jc j0 ad news.length cap nws (by rw [eg,hs0]) vK Hy (by omega) (by rw [hb0];simp only [Nat.zero_add] at hb;omega);rw [hr];have:=wB [] (grownCap w news.length 0 e) (by simp) (by intro i j el c hi;simp at hi) (by have:=grownCap_ge w news.length 0 e;omega) (grownCap_le_maxLen w news.length 0 e (by unfold maxLen;omega));simpa using this
  .cases ok with
   | nil aO _=>rw [aO] at hbk;cases hbk
   | sl aO aI ni bW hn' eX hl gY hr=>
    rename_i b' cur;rw [hbk] at aO;obtain rfl:=Option.some.inj aO
    have B5:n<=m.cap:=by omega
    have hmul:n * te.size<=m.cap * te.size:=Nat.mul_le_mul_right _ B5
    have hxl:(cur.toList.take (n * te.size)).length=n * te.size:=by rw [List.length_take,Array.length_toList,bW,Nat.min_eq_left hmul]
    have oP:Rel w X μ te.size (cur.toList.take (n * te.size)) (els.take n):=by
     intro i j el c ba hc;rw [List.getElem?_take] at ba;split at ba
     .rename_i aC;obtain ⟨v,hv,bz⟩:=hr i j el c ba hc;have vt:el.length=te.size:=hl _ (List.mem_of_getElem? ba)
      have hj:j < te.size:=by rw [<- vt];exact (List.getElem?_eq_some_iff.1 hc).1
      refine ⟨v,?_,bz⟩;rw [List.getElem?_take,if_pos]
      .simpa using hv
      .have:(i+1) * te.size<=n * te.size:=Nat.mul_le_mul_right _ aC;rw [Nat.add_mul] at this;omega
     .cases ba
    by_cases adS:n+news.length<=m.cap
    .have ic:n * te.size+nws.length<=cur.size:=by rw [eg,bW,<- Nat.add_mul];exact Nat.mul_le_mul_right _ adS
     have bK:=run_append_room (P:=P) w t ty e i0 ht jc b n m.cap cur ni ad news.length cap nws (by rw [eg,hs0]) vK vJ adS (by rw [hs0];exact ic);simp only [Nat.zero_mul,Nat.sub_zero];rw [bK,hs0]
     obtain ⟨aC,aG⟩:=hi.move (Mv:=Mv) (w':=w.setRow b (cur.toList.take (n * te.size) ++ nws ++ cur.toList.drop (n * te.size+nws.length)).toArray) (m':=m) hm hmv (by simp) rfl rfl rfl
      (fun k hk CH=>setRow_other w b k _ fun e'=>CH (by rw [hbk,e'])) (fun b hb=>.inr hb) (row:=.sl e te.size (els.take n ++ news)) fun ev=>by
       refine .sl hbk aI (setRow_heap w b cur _ e _ ni) ?_ (by simp;omega) eX vD hz fun i j el c hi hj=>?_
       .simp only [List.size_toArray,List.length_append,List.length_take,List.length_drop,Array.length_toList];omega
       .obtain ⟨v,hv,bz⟩:=((oP.append (by rw [hxl,List.length_take,Nat.min_eq_left hle]) (fun el ba=>adw el (List.mem_of_mem_take ba)) hnr).more (l':=cur.toList.drop (n * te.size+nws.length))) i j el c hi hj;exact ⟨v,by rw [<- Array.getElem?_toList];simpa using hv,bz.ev ev⟩
     refine ⟨_,_,_,rfl,aC,.own (m:=m) (by simp [cH]) (.inr ⟨b,hbk,by simp,by simpa using adS⟩),aG⟩
    .have bK:=run_append_grow (P:=P) w t ty e i0 te.zero ht jc j0 ⟨b,0,none⟩ n m.cap (cur.toList.take (n * te.size)) (by rw [hxl,hs0]) (fun j v hv=>by
      rw [addr_add,cell_of_row w b _ cur e (0,0) ni];rw [List.getElem?_take] at hv;split at hv
      .simpa using hv
      .cases hv) ad news.length cap nws (by rw [eg,hs0]) vK (by omega) (by omega) (by rw [hb0];exact growslice_fits (by omega) hb)
     simp only [Nat.zero_mul,Nat.sub_zero];rw [bK];exact wB _ _ hxl oP (grownCap_ge _ _ _ _) (grownCap_le_maxLen w _ _ e yb)
end
end Go.Av
