/- Parts. -/
import Derived.Test.YtdigkhaofjmgkaaGreatDoorMs3
import Derived.Laws.StructEq
set_option linter.unusedSectionVars false
set_option linter.unusedSimpArgs false
set_option linter.unusedVariables false
namespace Go.Av
def adF (op:BinOp) (k:IntKind) (x y:Int):Int:=
 let a:=BitVec.ofInt k.bits x
 let b:=BitVec.ofInt k.bits y
 match op with
 | .and=>k.wrap (a &&& b).toNat
 | .or=>k.wrap (a ||| b).toNat
 | .xor=>k.wrap (a ^^^ b).toNat
 | _=>k.wrap (a &&& ~~~b).toNat
def ad2 (k:IntKind) (n:Int):Option (Prop×Value):=match k with
 | .i64=>some (-9223372036854775808<=n/\n<=9223372036854775807,.int .i64 n)
 | k=>some (True,.int k (k.wrap n))
def xX (op:BinOp) (k:IntKind) (a b:Int):Option (Prop×Value):=match op with
 | .add=>ad2 k (a+b)
 | .sub=>ad2 k (a - b)
 | .mul=>ad2 k (a * b)
 | .quo=>some (b≠0,.int k (k.wrap (a.tdiv b)))
 | .rem=>some (b≠0,.int k (a.tmod b))
 | .and=>some (True,.int k (adF .and k a b))
 | .or=>some (True,.int k (adF .or k a b))
 | .xor=>some (True,.int k (adF .xor k a b))
 | .andNot=>some (True,.int k (adF .andNot k a b))
 | .eql=>some (True,.bool (a == b))
 | .neq=>some (True,.bool (a != b))
 | .lss=>some (True,.bool (decide (a < b)))
 | .leq=>some (True,.bool (decide (a<=b)))
 | .gtr=>some (True,.bool (decide (a > b)))
 | .geq=>some (True,.bool (decide (a >= b)))
 | _=>none
def shI (op:BinOp) (k:IntKind) (a b:Int):Option (Prop×Value):=match op with
 | .shl=>some (0<=b,.int k (k.wrap (a * 2 ^ (min b.toNat k.bits))))
 | .shr=>some (0<=b,.int k (a.fdiv (2 ^ (min b.toNat k.bits))))
 | _=>none
def Dl:BinOp->Bool
 | .shl | .shr=>true
 | _=>false
def aS (op:BinOp) (a b:ByteArray):Option (Prop×Value):=match op with
 | .add=>some (a.size+b.size<=9223372036854775807,.string (a ++ b))
 | .eql=>some (True,.bool (a.toList == b.toList))
 | .neq=>some (True,.bool (!(a.toList == b.toList)))
 | .lss=>some (True,.bool (Op.bytesLess a.toList b.toList))
 | .leq=>some (True,.bool (Op.bytesLess a.toList b.toList || a.toList == b.toList))
 | .gtr=>some (True,.bool (!(Op.bytesLess a.toList b.toList || a.toList == b.toList)))
 | .geq=>some (True,.bool (!Op.bytesLess a.toList b.toList))
 | _=>none
theorem sW {n:Int} (h:-9223372036854775808<=n/\n<=9223372036854775807):IntKind.i64.wrap n=n:=by rw[IntKind.wrap_i64];omega
theorem BH {k:IntKind} {n:Int} {c:Prop} {v:Value} (h:ad2 k n=some (c,v)) (hc:c):v = .int k (k.wrap n):=by
 cases k<;>simp only[ad2,Option.some.injEq,Prod.mk.injEq]at h<;>obtain⟨rfl,rfl⟩:=h
 all_goals first | rfl | (rw[sW hc])
theorem MW {P:Program} {op:BinOp} (hop:Dl op=false) {k:IntKind} {a b:Int} {c:Prop} {v:Value} (h:xX op k a b=some (c,v)) (hc:c) (t:TypeId) (w:World):(binOp op t (.int k a) (.int k b)).run P w = .ok v w:=by
 unfold xX at h;cases op<;>simp only[Option.some.injEq,Prod.mk.injEq]at h
 all_goals first
  | (exact absurd hop (by decide))
  | (have:=BH h hc;subst this;simp[binOp,Op.intArith])
  | (obtain⟨rfl,rfl⟩:=h;simp[binOp,Op.intCmp];done)
  | (obtain⟨rfl,rfl⟩:=h;simp[binOp,Op.intBits,adF];done)
  | (obtain⟨rfl,rfl⟩:=h;simp[binOp,Op.intDiv,hc];done)
theorem Xd {P:Program} {op:BinOp} {k yk:IntKind} {a b:Int} {c:Prop} {v:Value} (h:shI op k a b=some (c,v)) (hc:c) (t:TypeId) (w:World):(binOp op t (.int k a) (.int yk b)).run P w = .ok v w:=by
 unfold shI at h;cases op<;>simp only[Option.some.injEq,Prod.mk.injEq,reduceCtorEq]at h
 all_goals
  obtain⟨rfl,rfl⟩:=h
  have:¬ b < 0:=by omega
  simp[binOp,Op.shift,this]
theorem MX {P:Program} {op:BinOp} {a b:ByteArray} {c:Prop} {v:Value} (h:aS op a b=some (c,v)) (hc:c) (t:TypeId) (w:World):(binOp op t (.string a) (.string b)).run P w = .ok v w:=by
 unfold aS at h;cases op<;>simp only[Option.some.injEq,Prod.mk.injEq,reduceCtorEq]at h
 all_goals obtain⟨rfl,rfl⟩:=h
 case add=>
  have:¬ (((a.size+b.size:Nat):Int) > IntKind.i64.max):=by simp[IntKind.max,IntKind.signed,IntKind.bits];omega
  simp[binOp,Op.stringOp,this]
  try omega
 all_goals simp[binOp,Op.stringOp]
def eqv (op:BinOp) (c:Prop) (b:Bool):Ans:=match op with
 | .eql=>some (c,bool b)
 | .neq=>some (c,bool !b)
 | _=>none
def adk (T:Ty) (t:TypeId) (p:TypeDesc->Bool):Bool:=match T t with
 | some ti=>p ti.desc
 | none=>false
def TypeDesc.isIface:TypeDesc->Bool | .interface _=>true | _=>false
def TypeDesc.isSlice:TypeDesc->Bool | .slice _=>true | _=>false
def TypeDesc.isBool:TypeDesc->Bool | .bool=>true | _=>false
def TypeDesc.isStr:TypeDesc->Bool | .string=>true | _=>false
def zG:TypeDesc->Value->Bool
 | .interface _,.nilIface | .pointer _,.pointer none | .func _ _ _,.nilFunc | .slice _,.slice none 0 0=>true
 | _,_=>false
def zE:AV->Value->Option (Prop×Bool)
 | .d (.bA _ _),.nilIface=>some (True,false)
 | .bA _ _,.nilIface=>some (True,false)
 | .d (.v .nilIface),.nilIface=>some (True,true)
 | .d (.ip _),.pointer none=>some (True,false)
 | .ref _ _ _,.pointer none=>some (True,false)
 | .d (.v (.pointer none)),.pointer none=>some (True,true)
 | .d (.fn _ _),.nilFunc=>some (True,false)
 | .fn _ _,.nilFunc=>some (True,false)
 | .d (.v .nilFunc),.nilFunc=>some (True,true)
 | .d (.sl (some b) _),.slice none 0 0=>some (True,!b)
 | .d (.sl none els),.slice none 0 0=>some (els≠[],false)
 | .own _ _ n,.slice none 0 0=>some (0 < n,false)
 | _,_=>none
def Bj:Operand->Option Value
 | .const v=>some v
 | _=>none
def DW (T:Ty) (op:BinOp) (t:TypeId) (oy:Operand) (x:AV):Ans:=match Bj oy with
 | some v=>if adk T t (zG · v) then (zE x v).bind fun (c,b)=>eqv op c b else none
 | none=>none
def BA (d:TypeDesc) (a b:Value):Option Bool:=match d,a,b with
 | .int _,.int k a,.int k' b=>if k=k' then some (a == b) else none
 | .string,.string a,.string b=>some (a.toList == b.toList)
 | .bool,.bool a,.bool b=>some (a == b)
 | _,_,_=>none
def afb (T:Ty) (xs ys:List D):List Field->Option Bool
 | []=>some true
 | f :: l=>if f.name = "_" then none else match T f.type,xs[f.offset]?,ys[f.offset]? with
  | some tf,some (.v a),some (.v b)=>match BA tf.desc a b,afb T xs ys l with
   | some r,some r2=>some (r && r2)
   | _,_=>none
  | _,_,_=>none
def xW (T:Ty) (op:BinOp) (t:TypeId) (oy:Operand) (x y:AV):Ans:=match x,y with
 | .d (.v (.int k a)),.d (.v (.int k' b))=>
  if Dl op then (shI op k a b).map fun (c,v)=>(c,.d (.v v)) else if k=k' then (xX op k a b).map fun (c,v)=>(c,.d (.v v)) else none
 | .d (.v (.string a)),.d (.v (.string b))=>(aS op a b).map fun (c,v)=>(c,.d (.v v))
 | .d (.v (.bool a)),.d (.v (.bool b))=>if adk T t TypeDesc.isBool then eqv op True (a == b) else none
 | .d (.agg xs),.d (.agg ys)=>match T t with
  | some ti=>match ti.desc with
   | .struct fs=>if ti.pe then (match afb T xs ys fs.toList with
    | some b=>eqv op True b
    | none=>none) else none
   | _=>none
  | none=>none
 | x,_=>DW T op t oy x
theorem afD {P:Program} {w:World} {op:BinOp} {t:TypeId} {u v:Value} {c:Prop} {b:Bool} {z:AV} {X:Nat->Prop} {μ:Mu} (h:eqv op c b=some (c,z)) (hb:(binOp .eql t u v).run P w = .ok (.bool b) w)
  (hn:(binOp .neq t u v).run P w = .ok (.bool !b) w):∃ r,(binOp op t u v).run P w = .ok r w/\RV w X μ r z:=by
 unfold eqv at h;split at h
 .simp only[Option.some.injEq,Prod.mk.injEq,true_and]at h;subst h;exact⟨_,hb,.d (.v _)⟩
 .simp only[Option.some.injEq,Prod.mk.injEq,true_and]at h;subst h;exact⟨_,hn,.d (.v _)⟩
 .cases h
theorem pV {T:Ty} {t:TypeId} {p:TypeDesc->Bool} (h:adk T t p=true):∃ ti,T t=some ti/\p ti.desc=true:=by
 unfold adk at h;split at h
 .rename_i ti ht;exact⟨ti,ht,h⟩
 .cases h
theorem BC {op:BinOp} {c c':Prop} {b:Bool} {z:AV} (h:eqv op c b=some (c',z)):c'=c:=by
 unfold eqv at h;split at h<;>simp only[Option.some.injEq,Prod.mk.injEq,reduceCtorEq]at h
 .exact h.1.symm
 .exact h.1.symm
section
variable {P:Program} {w:World} {t:TypeId}
theorem Gl {ms:Array (String×TypeId)} (h:P.underlying t=some (.interface ms)) (d:Nat) (t':TypeId) (x:Value):(Op.equalIn (d+1) t (.iface t' x) .nilIface).run P w = .ok false w:=by
 simp[Op.equalIn,run_underlying h]
theorem Oh {ms:Array (String×TypeId)} (h:P.underlying t=some (.interface ms)) (d:Nat):(Op.equalIn (d+1) t .nilIface .nilIface).run P w = .ok true w:=by
 simp[Op.equalIn,run_underlying h]
theorem Gm {e:TypeId} (h:P.underlying t=some (.pointer e)) (d:Nat) (a:Addr):(Op.equalIn (d+1) t (.pointer (some a)) (.pointer none)).run P w = .ok false w:=by
 simp[Op.equalIn,run_underlying h]
theorem Oi {e:TypeId} (h:P.underlying t=some (.pointer e)) (d:Nat):(Op.equalIn (d+1) t (.pointer none) (.pointer none)).run P w = .ok true w:=by
 simp[Op.equalIn,run_underlying h]
theorem Gk {a b:Array TypeId} {c:Bool} (h:P.underlying t=some (.func a b c)) (d:Nat) (f:Fn) (x y:Array Value):(Op.equalIn (d+1) t (.func f x y) .nilFunc).run P w = .ok false w:=by
 simp[Op.equalIn,run_underlying h]
theorem Og {a b:Array TypeId} {c:Bool} (h:P.underlying t=some (.func a b c)) (d:Nat):(Op.equalIn (d+1) t .nilFunc .nilFunc).run P w = .ok true w:=by
 simp[Op.equalIn,run_underlying h]
theorem BB {e:TypeId} (h:P.underlying t=some (.slice e)) (d:Nat) (a:Addr) (n c:Nat):(Op.equalIn (d+1) t (.slice (some a) n c) (.slice none 0 0)).run P w = .ok false w:=by
 simp[Op.equalIn,run_underlying h]
theorem Oj {e:TypeId} (h:P.underlying t=some (.slice e)) (d:Nat):(Op.equalIn (d+1) t (.slice none 0 0) (.slice none 0 0)).run P w = .ok true w:=by
 simp[Op.equalIn,run_underlying h]
theorem Oe (h:P.underlying t=some .bool) (d:Nat) (a b:Bool):(Op.equalIn (d+1) t (.bool a) (.bool b)).run P w = .ok (a == b) w:=by
 simp[Op.equalIn,run_underlying h]
end
def FN:Value->Bool
 | .int _ _ | .string _ | .float _ _ | .complex _ _ _=>false
 | _=>true
theorem ac9 {P:Program} {w:World} {t:TypeId} {u v:Value} {b:Bool} (hu:FN u=true) (h:(Op.equalIn (9999+1) t u v).run P w = .ok b w) :
  (binOp .eql t u v).run P w = .ok (.bool b) w/\(binOp .neq t u v).run P w = .ok (.bool !b) w:=by
 have h':(Op.equal t u v).run P w = .ok b w:=h;cases u<;>simp[FN]at hu<;>constructor<;>simp[binOp,h']
theorem GC {P:Program} {w:World} {op:BinOp} {t:TypeId} {ox oy:Operand} {u v:Value} (h:¬ (u = .nilIface/\v = .nilIface)\/(∃ c,ox = .const c)\/∃ c,oy = .const c) (ha:∀ a,u≠.agg a) :
  (eqGuard op t ox oy u v).run P w = .ok () w:=by
 unfold eqGuard
 cases op<;>first | rfl | skip
 all_goals
  cases u<;>cases v<;>first | rfl | skip
  .rcases h with h | ⟨c,rfl⟩ | ⟨c,rfl⟩
   .simp at h
   .rfl
   .cases ox<;>rfl
  .exact absurd rfl (ha _)
theorem U6 {P:Program} {T:Ty} (hg:Good P T) {w:World} {X:Nat->Prop} {μ:Mu} {t:TypeId} {u v:Value} {x:AV} {c:Prop} {b:Bool} (h:zE x v=some (c,b)) (hc:c) (hx:RV w X μ u x)
  (hf:adk T t (zG · v)=true):((binOp .eql t u v).run P w = .ok (.bool b) w/\(binOp .neq t u v).run P w = .ok (.bool !b) w)/\∀ a,u≠.agg a:=by
 obtain⟨ti,ht,hp⟩:=pV hf;have hu:=(hg t ti ht).1;unfold zE at h
 split at h<;>first | cases h;done | skip
 all_goals
  simp only[Option.some.injEq,Prod.mk.injEq]at h;obtain⟨rfl,rfl⟩:=h;cases cN:ti.desc<;>simp[cN,zG]at hp;rw[cN]at hu
 .obtain⟨v',rfl,_⟩:=hx.data.nV;exact⟨ac9 rfl (Gl hu _ _ _),by simp⟩
 .obtain⟨v',rfl,_⟩:=hx.nV;exact⟨ac9 rfl (Gl hu _ _ _),by simp⟩
 .obtain rfl:=hx.scalar;exact⟨ac9 rfl (Oh hu _),by simp⟩
 .obtain⟨b,off,f,rfl,_⟩:=hx.data.adp;exact⟨ac9 rfl (Gm hu _ _),by simp⟩
 .obtain⟨m,b,_,_,rfl⟩:=hx.ie;exact⟨ac9 rfl (Gm hu _ _),by simp⟩
 .obtain rfl:=hx.scalar;exact⟨ac9 rfl (Oi hu _),by simp⟩
 .obtain⟨arr,rfl,_⟩:=hx.data.aeC;exact⟨ac9 rfl (Gk hu _ _ _ _),by simp⟩
 .obtain⟨arr,rfl,_⟩:=hx.aeC;exact⟨ac9 rfl (Gk hu _ _ _ _),by simp⟩
 .obtain rfl:=hx.scalar;exact⟨ac9 rfl (Og hu _),by simp⟩
 .rename_i bb els e
  rcases hx.data.mD with⟨rfl,_,hk⟩ | ⟨a,cap,rfl,hk,_⟩
  .cases bb
   .exact⟨ac9 rfl (Oj hu _),by simp⟩
   .exact absurd rfl hk
  .cases bb
   .exact absurd rfl hk
   .exact⟨ac9 rfl (BB hu _ _ _ _),by simp⟩
 .rcases hx.data.mD with⟨rfl,he,hk⟩ | ⟨a,cap,rfl,hk,_⟩
  .exact absurd he hc
  .exact⟨ac9 rfl (BB hu _ _ _ _),by simp⟩
 .obtain⟨m,_,hh⟩:=hx.jd
  rcases hh with⟨_,_,_,rfl⟩ | ⟨b,_,rfl,_⟩
  .omega
  .exact⟨ac9 rfl (BB hu _ _ _ _),by simp⟩
theorem Od {P:Program} {t:TypeId} {d:TypeDesc} (hu:P.underlying t=some d) {a b:Value} {r:Bool} (h:BA d a b=some r) (n:Nat) (w:World):(Op.equalIn (n+1) t a b).run P w = .ok r w/\TypeDesc.isAgg d=false:=by
 unfold BA at h;split at h
 .split at h
  .rename_i hk;subst hk;obtain rfl:=Option.some.inj h;exact⟨run_equalIn_int w n t _ _ _ _ hu,rfl⟩
  .cases h
 .obtain rfl:=Option.some.inj h;exact⟨run_equalIn_string w n t _ _ hu,rfl⟩
 .obtain rfl:=Option.some.inj h;exact⟨run_equalIn_bool' w n t _ _ hu,rfl⟩
 .cases h
theorem FT {w:World} {X:Nat->Prop} {arr:Array Value} {xs:List D} (hn:arr.size=xs.length) (hr:∀ (j:Nat) (u:Value) (c:D),arr[j]? = some u->xs[j]? = some c->RD w X u c) {j:Nat} {a:Value} (h:xs[j]? = some (.v a)):arr[j]? = some a:=by
 have hj:j < arr.size:=by rw[hn];exact (List.getElem?_eq_some_iff.1 h).1
 have:=(hr j _ _ (Array.getElem?_eq_getElem hj) h).scalar;rw[Array.getElem?_eq_getElem hj,this]
theorem Gj {P:Program} {T:Ty} (hg:Good P T) {w:World} {X:Nat->Prop} {im ou:Array Value} {xs ys:List D} (n1:im.size=xs.length) (h1:∀ (j:Nat) (u:Value) (c:D),im[j]? = some u->xs[j]? = some c->RD w X u c) (n2:ou.size=ys.length) (h2:∀ (j:Nat) (u:Value) (c:D),ou[j]? = some u->ys[j]? = some c->RD w X u c) :
  ∀ (fs:List Field) (b:Bool),afb T xs ys fs=some b->(Op.eqFields (9998+1) im ou fs).run P w = .ok b w
 | [],b,h=>by
  obtain rfl:=Option.some.inj h;simp[Op.eqFields]
 | f :: l,b,h=>by
  rw[afb]at h;split at h
  .cases h
  .rename_i dX;split at h
   .rename_i tf a1 b1 ht hx hy;split at h
    .rename_i r r2 hr ni;obtain rfl:=Option.some.inj h;obtain⟨e1,e2⟩:=Od (hg _ _ ht).1 hr 9998 w
     have ha:(Go.isAgg f.type).run P w = .ok false w:=by rw[hg.isAgg ht,e2]
     have p1:(part f.type im f.offset).run P w = .ok a1 w:=by simp[part,ha,FT n1 h1 hx]
     have p2:(part f.type ou f.offset).run P w = .ok b1 w:=by simp[part,ha,FT n2 h2 hy]
     have ih:=Gj hg n1 h1 n2 h2 l r2 ni;rw[Op.eqFields,if_pos dX];simp only[Sem.run_bind,p1,p2,e1,Result.andThen_ok,Sem.run_ite];cases r
     .simp
     .simpa using ih
    .cases h
   .cases h
theorem MV {P:Program} {T:Ty} {G:ao} {N:Fr} (hg:Good P T) {w:World} {X:Nat->Prop} {μ:Mu} {a:Act} {σ:St} (hi:In w X G μ N a σ) {op:BinOp} {t:TypeId} {ox oy:Operand} {x y z:AV} {c:Prop}
  (hx:bf G σ.env ox=some x) (hy:bf G σ.env oy=some y) (h:xW T op t oy x y=some (c,z)) (hc:c) :
  ∃ r,(do eqGuard op t ox oy (a.eval ox) (a.eval oy);binOp op t (a.eval ox) (a.eval oy):Sem Value).run P w = .ok r w/\RV w X μ r z:=by
 have wM:=hi.eval hx;have za:=hi.eval hy
 have plain:∀ (u v:Value),a.eval ox=u->a.eval oy=v->(∀ b,u≠.agg b)->u≠.nilIface->(∃ r,(binOp op t u v).run P w = .ok r w/\RV w X μ r z)->
   ∃ r,(do eqGuard op t ox oy (a.eval ox) (a.eval oy);binOp op t (a.eval ox) (a.eval oy):Sem Value).run P w = .ok r w/\RV w X μ r z:=by
  rintro u v hu hv h1 h2 ⟨r,hr,hrz⟩;refine⟨r,?_,hrz⟩;rw[hu,hv,Sem.run_bind,GC (.inl fun e=>h2 e.1) h1];exact hr
 unfold xW at h;split at h
 .rename_i k a1 k' b1;have e1:=wM.scalar;have e2:=za.scalar;refine plain _ _ e1 e2 (by simp) (by simp) ?_;split at h
  .obtain⟨⟨c',v'⟩,hs,he⟩:=Option.map_eq_some_iff.1 h;simp only[Prod.mk.injEq]at he;obtain⟨rfl,rfl⟩:=he;exact⟨_,Xd hs hc _ _,.d (.v _)⟩
  .rename_i hsh;split at h
   .rename_i hk;subst hk;obtain⟨⟨c',v'⟩,hs,he⟩:=Option.map_eq_some_iff.1 h;simp only[Prod.mk.injEq]at he;obtain⟨rfl,rfl⟩:=he;exact⟨_,MW (by simpa using hsh) hs hc _ _,.d (.v _)⟩
   .cases h
 .obtain⟨⟨c',v'⟩,hs,he⟩:=Option.map_eq_some_iff.1 h;simp only[Prod.mk.injEq]at he;obtain⟨rfl,rfl⟩:=he;exact plain _ _ wM.scalar za.scalar (by simp) (by simp) ⟨_,MX hs hc _ _,.d (.v _)⟩
 .rename_i b1 b2;split at h
  .rename_i hb;obtain⟨ti,ht,hp⟩:=pV hb;cases cN:ti.desc<;>simp[cN,TypeDesc.isBool]at hp;have hu:=(hg t ti ht).1;rw[cN]at hu;have:=ac9 (P:=P) (w:=w) (u:=.bool b1) (v:=.bool b2) rfl (Oe hu 9999 _ _);obtain rfl:=BC h;exact plain _ _ wM.scalar za.scalar (by simp) (by simp) (afD h this.1 this.2)
  .cases h
 .rename_i xs ys;split at h
  .rename_i ti ht;split at h
   .rename_i fs cN;split at h
    .rename_i dI;split at h
     .rename_i b hb;obtain⟨im,hu1,n1,r1⟩:=wM.data.nz;obtain⟨ou,r5,n2,r2⟩:=za.data.nz;obtain⟨r6,i0,_,_,_,_,hp⟩:=hg t ti ht;obtain⟨eh,hp2⟩:=hp dI;rw[cN]at r6
      have Hn:P.fieldsOf t=fs:=by simp[Program.fieldsOf,r6]
      have RC:P.underlying t=some (.struct (P.fieldsOf t)):=by rw[Hn];exact r6
      have he:(Op.equalIn 10000 t (.agg im) (.agg ou)).run P w = .ok b w:=by
       rw[show (10000:Nat)=9999+1 from rfl,run_equalIn_struct w 9999 t im ou RC eh,Hn];exact Gj hg n1 r1 n2 r2 fs.toList b hb
      obtain rfl:=BC h;obtain⟨r,hr,hrz⟩:=afD (X:=X) (μ:=μ) h (P:=P) (w:=w) (t:=t) (u:=.agg im) (v:=.agg ou) (by rw[run_eql_struct,he];rfl) (by rw[run_neq_struct,he];rfl);refine⟨r,?_,hrz⟩;rw[hu1,r5,Sem.run_bind,run_eqGuard_agg w op t ox oy im ou hp2];exact hr
     .cases h
    .cases h
   .cases h
  .cases h
 .unfold DW at h;split at h
  .rename_i v hv
   cases oy with
   | const v'=>
    simp only[Bj,Option.some.injEq]at hv;subst hv;split at h
    .rename_i hf;obtain⟨⟨c',b'⟩,hn,he⟩:=Option.bind_eq_some_iff.1 h;dsimp only at he;obtain rfl:=BC he;obtain⟨hr,ha⟩:=U6 hg hn hc wM hf;obtain⟨r,hr',hz⟩:=afD (X:=X) (μ:=μ) he hr.1 hr.2;refine⟨r,?_,hz⟩;rw[Sem.run_bind,GC (.inr (.inr ⟨_,rfl⟩)) ha];exact hr'
    .cases h
   | _=>cases hv
  .cases h
end Go.Av
namespace Go.Av
def zv (T:Ty) (t:TypeId):AV->Ans
 | .d (.v (.string s))=>if adk T t TypeDesc.isStr then some (True,int s.size) else none
 | .d (.sl _ els)=>if adk T t TypeDesc.isSlice then some (True,int els.length) else none
 | .own _ _ n=>if adk T t TypeDesc.isSlice then some (True,int n) else none
 | _=>none
theorem Iv {d:TypeDesc} (h:TypeDesc.isSlice d=true):∃ e,d = .slice e:=by cases d<;>simp[TypeDesc.isSlice]at h;exact⟨_,rfl⟩
theorem zf {d:TypeDesc} (h:TypeDesc.isStr d=true):d = .string:=by cases d<;>simp[TypeDesc.isStr]at h;rfl
section
variable {P:Program} {T:Ty} (hg:Good P T) {w:World} {X:Nat->Prop} {μ:Mu} {H:Heap}
include hg
theorem SV {t ty:TypeId} {u:Value} {x z:AV} {c:Prop} (h:zv T t x=some (c,z)) (hx:RV w X μ u x):∃ r,(Builtin.len_ #[t] ty #[u]).run P w = .ok r w/\RV w X μ r z:=by
 unfold zv at h;split at h
 .split at h
  .rename_i hd;obtain⟨ti,ht,hp⟩:=pV hd;simp only[Option.some.injEq,Prod.mk.injEq]at h;obtain⟨rfl,rfl⟩:=h;obtain rfl:=hx.scalar;exact⟨_,by simp[Builtin.len_,hg.cC ht,zf hp,goInt],.d (.v _)⟩
  .cases h
 .split at h
  .rename_i hd;obtain⟨ti,ht,hp⟩:=pV hd;obtain⟨e,he⟩:=Iv hp;simp only[Option.some.injEq,Prod.mk.injEq]at h;obtain⟨rfl,rfl⟩:=h
   rcases hx.data.mD with⟨rfl,rfl,_⟩ | ⟨a,cap,rfl,_⟩
   .exact⟨_,by simp[Builtin.len_,hg.cC ht,he,goInt],.d (.v _)⟩
   .exact⟨_,by simp[Builtin.len_,hg.cC ht,he,goInt],.d (.v _)⟩
  .cases h
 .split at h
  .rename_i hd;obtain⟨ti,ht,hp⟩:=pV hd;obtain⟨e,he⟩:=Iv hp;simp only[Option.some.injEq,Prod.mk.injEq]at h;obtain⟨rfl,rfl⟩:=h;obtain⟨m,_,hh⟩:=hx.jd
   rcases hh with⟨_,rfl,_,rfl⟩ | ⟨b,_,rfl,_⟩
   .exact⟨_,by simp[Builtin.len_,hg.cC ht,he,goInt],.d (.v _)⟩
   .exact⟨_,by simp[Builtin.len_,hg.cC ht,he,goInt],.d (.v _)⟩
  .cases h
 .cases h
def AZ (T:Ty) (t:TypeId):Option (Nat×TypeId×Nat):=match T t with
 | some ti=>match ti.desc with
  | .array n e=>(T e).map fun te=>(n,e,te.size)
  | _=>none
 | none=>none
def zc (T:Ty) (t:TypeId):AV->AV->Ans
 | .d (.v (.string s)),.d (.v (.int _ i))=>if adk T t TypeDesc.isStr then some (0<=i/\i < s.size,.d (.v (.int .u8 (s.data.toList.getD i.toNat 0).toNat))) else none
 | .d (.agg cells),.d (.v (.int _ i))=>match AZ T t with
  | some (n,e,sz)=>(ov T e (cells.drop (i.toNat * sz))).map fun (c,z)=>((0<=i/\i < n)/\c,z)
  | none=>none
 | _,_=>none
omit hg in
theorem MQ (s:ByteArray) (n:Nat) (h:n < s.size):s[n]? = some (s.data.toList.getD n 0):=by
 have:s[n]? = some s[n]:=by simp[h]
 rw[this]
 have h2:n < s.data.toList.length:=by simpa using h
 simp[List.getD_eq_getElem?_getD,List.getElem?_eq_getElem h2];rfl
theorem RY {t:TypeId} {u v:Value} {x y z:AV} {c:Prop} (h:zc T t x y=some (c,z)) (hc:c) (hx:RV w X μ u x) (hy:RV w X μ v y):∃ r,(Instr.index t u v).run P w = .ok r w/\RV w X μ r z:=by
 unfold zc at h;split at h
 .split at h
  .rename_i s kk i hd;obtain⟨ti,ht,hp⟩:=pV hd;simp only[Option.some.injEq,Prod.mk.injEq]at h;obtain⟨rfl,rfl⟩:=h;obtain rfl:=hx.scalar;obtain rfl:=hy.scalar;obtain⟨h0,h1⟩:=hc;obtain⟨n,rfl⟩:=Int.eq_ofNat_of_zero_le h0;simp only[Int.toNat_natCast]
   have hn:n < s.size:=by omega
   exact⟨_,by simp[Instr.index,asIntOf,hg.cC ht,zf hp,MQ s n hn],.d (.v _)⟩
  .cases h
 .rename_i cells kk i;split at h
  .rename_i n e sz ha;obtain⟨⟨c',z'⟩,hv,he⟩:=Option.map_eq_some_iff.1 h;simp only[Prod.mk.injEq]at he;obtain⟨rfl,rfl⟩:=he;obtain⟨⟨h0,h1⟩,cI⟩:=hc;obtain rfl:=hy.scalar;obtain⟨arr,rfl,hn,hr⟩:=hx.data.nz;obtain⟨c2,ub,fU⟩:=FC T e _ hv cI;rw[List.map_drop]at ub;obtain⟨v,jx,ft⟩:=FE (P:=P) (w:=w) (X:=X) (μ:=μ) hg ub fU (by simpa using hn) (RV.uC hr);unfold AZ at ha;split at ha
   .rename_i ti ht;split at ha
    .rename_i n' e' hd;obtain⟨te,cg,he⟩:=Option.map_eq_some_iff.1 ha;simp only[Prod.mk.injEq]at he;obtain⟨rfl,rfl,rfl⟩:=he;exact⟨v,by simp[Instr.index,asIntOf,hg.cC ht,hd,h0,h1,hg.sizeOf cg,jx],ft⟩
    .cases ha
   .cases ha
  .cases h
 .cases h
def wZ (t:TypeId):AV->AV
 | .d x=>.d (.bA t x)
 | x=>.bA t x
omit hg in
theorem DO {u:Value} {x:AV} {t:TypeId} (hx:RV w X μ u x):RV w X μ (.iface t u) (wZ t x):=by
 unfold wZ;split
 .exact .d (.bA hx.data)
 .exact .bA hx
def zz (T:Ty) (t:TypeId) (x:AV):Ans:=match T t with
 | some ti=>if TypeDesc.isIface ti.desc then none else some (True,wZ t x)
 | none=>none
theorem Td {t:TypeId} {u:Value} {x z:AV} {c:Prop} (h:zz T t x=some (c,z)) (hx:RV w X μ u x):∃ r,(Instr.makeInterface t u).run P w = .ok r w/\RV w X μ r z:=by
 unfold zz at h;split at h
 .rename_i ti ht;split at h
  .cases h
  .rename_i hd;simp only[Option.some.injEq,Prod.mk.injEq]at h;obtain⟨rfl,rfl⟩:=h;refine⟨_,?_,DO hx⟩;simp only[Instr.makeInterface,Sem.run_bind,hg.cC ht,Result.andThen_ok];cases cN:ti.desc<;>simp[cN,TypeDesc.isIface]at hd ⊢
 .cases h
def yh (i:Nat):AV->Ans
 | .d (.tup vs)=>vs[i]?.map fun x=>(True,.d x)
 | .tup vs=>vs[i]?.map fun x=>(True,x)
 | _=>none
omit hg in
theorem Oy {i:Nat} {u:Value} {x z:AV} {c:Prop} (h:yh i x=some (c,z)) (hx:RV w X μ u x):∃ r,(Instr.extract u i).run P w = .ok r w/\RV w X μ r z:=by
 unfold yh at h;split at h
 .obtain⟨y,hy,he⟩:=Option.map_eq_some_iff.1 h;simp only[Prod.mk.injEq]at he;obtain⟨rfl,rfl⟩:=he;obtain⟨arr,rfl,hn,hr⟩:=hx.data.u0;have ay:=(List.getElem?_eq_some_iff.1 hy).1
  have:arr[i]? = some arr[i]:=by simp
  exact⟨arr[i],by simp[Instr.extract,this],.d (hr i _ y this hy)⟩
 .obtain⟨y,hy,he⟩:=Option.map_eq_some_iff.1 h;simp only[Prod.mk.injEq]at he;obtain⟨rfl,rfl⟩:=he;obtain⟨arr,rfl,hn,hr⟩:=hx.u0;have ay:=(List.getElem?_eq_some_iff.1 hy).1
  have:arr[i]? = some arr[i]:=by simp
  exact⟨arr[i],by simp[Instr.extract,this],hr i _ y this hy⟩
 .cases h
def wY (f:Fn) (caps:List AV):AV:=match iI caps with
 | some ds=>.d (.fn f ds)
 | none=>.fn f caps
omit hg in
theorem DN {f:Fn} {arr:Array Value} {caps:List AV} (hn:arr.size=caps.length) (hr:∀ (j:Nat) (u:Value) (c:AV),arr[j]? = some u->caps[j]? = some c->RV w X μ u c):RV w X μ (.func f #[] arr) (wY f caps):=by
 unfold wY;split
 .rename_i ds hd;rw[lF hd]at hn hr;exact .d (.fn (by simpa using hn) fun j u c hu hc=>(hr j u (.d c) hu (by rw[List.getElem?_map,hc];rfl)).data)
 .exact .fn hn hr
def Ar (op:UnOp):AV->Ans
 | .d (.v (.bool b))=>match op with | .not=>some (True,bool !b) | _=>none
 | .d (.v (.int k n))=>match op with | .neg=>(ad2 k (0 - n)).map fun (c,v)=>(c,.d (.v v)) | _=>none
 | _=>none
omit hg in
theorem Ya {op:UnOp} {u:Value} {x z:AV} {c:Prop} (h:Ar op x=some (c,z)) (hc:c) (hx:RV w X μ u x):∃ r,(Op.unary op u).run P w = .ok r w/\RV w X μ r z:=by
 unfold Ar at h;split at h
 .split at h
  .simp only[Option.some.injEq,Prod.mk.injEq]at h;obtain⟨rfl,rfl⟩:=h;obtain rfl:=hx.scalar;exact⟨_,by simp[Op.unary],.d (.v _)⟩
  .cases h
 .split at h
  .obtain⟨⟨c',v⟩,hf,he⟩:=Option.map_eq_some_iff.1 h;simp only[Prod.mk.injEq]at he;obtain⟨rfl,rfl⟩:=he;obtain rfl:=hx.scalar;have:=BH hf hc;subst this;exact⟨_,by simp[Op.unary,Op.intArith],.d (.v _)⟩
  .cases h
 .cases h
def x5 (T:Ty) (dst:TypeId):AV->Ans
 | .d (.v (.int _ n))=>match T dst with
  | some ti=>match ti.desc with
   | .int k=>(ad2 k n).map fun (c,v)=>(c,.d (.v v))
   | .string=>some (True,.d (.v (.string (Utf8.encode n))))
   | _=>none
  | none=>none
 | .d (.v (.string s))=>if adk T dst TypeDesc.isStr then some (True,.d (.v (.string s))) else none
 | _=>none
theorem NB {src dst:TypeId} (Rw:(T src).isSome) {u:Value} {x z:AV} {c:Prop} (h:x5 T dst x=some (c,z)) (hc:c) (hx:RV w X μ u x):∃ r,(convert src dst u).run P w = .ok r w/\RV w X μ r z:=by
 obtain⟨ZC,nU⟩:=Option.isSome_iff_exists.1 Rw;unfold x5 at h;split at h
 .split at h
  .rename_i ti ht;split at h
   .rename_i k hd;obtain⟨⟨c',v⟩,hf,he⟩:=Option.map_eq_some_iff.1 h;simp only[Prod.mk.injEq]at he;obtain⟨rfl,rfl⟩:=he;obtain rfl:=hx.scalar;have:=BH hf hc;subst this;exact⟨_,by simp[convert,hg.cC nU,hg.cC ht,hd,Conv.intToInt],.d (.v _)⟩
   .rename_i hd;simp only[Option.some.injEq,Prod.mk.injEq]at h;obtain⟨rfl,rfl⟩:=h;obtain rfl:=hx.scalar;exact⟨_,by simp[convert,hg.cC nU,hg.cC ht,hd,Conv.intToString],.d (.v _)⟩
   .cases h
  .cases h
 .split at h
  .rename_i hd;obtain⟨ti,ht,hp⟩:=pV hd;simp only[Option.some.injEq,Prod.mk.injEq]at h;obtain⟨rfl,rfl⟩:=h;obtain rfl:=hx.scalar;exact⟨_,by simp[convert,hg.cC nU,hg.cC ht,zf hp],.d (.v _)⟩
  .cases h
 .cases h
def zF:AV->Ans
 | .d (.ip c)=>some (True,.d (.ip c))
 | .ref r e j=>some (True,.ref r e j)
 | _=>none
omit hg in
theorem U7 {u:Value} {x z:AV} {c:Prop} (h:zF x=some (c,z)) (hx:RV w X μ u x):(∃ a,u = .pointer (some a))/\RV w X μ u z:=by
 unfold zF at h;split at h
 .simp only[Option.some.injEq,Prod.mk.injEq]at h;obtain⟨rfl,rfl⟩:=h;obtain⟨b,off,f,rfl,_⟩:=hx.data.adp;exact⟨⟨_,rfl⟩,hx⟩
 .simp only[Option.some.injEq,Prod.mk.injEq]at h;obtain⟨rfl,rfl⟩:=h;obtain⟨m,b,_,_,rfl⟩:=hx.ie;exact⟨⟨_,rfl⟩,hx⟩
 .cases h
def bound (G:ao) (e:Env):Option Operand->Option (Option Int)
 | none=>some none
 | some o=>match bf G e o with
  | some (.d (.v (.int _ i)))=>some (some i)
  | _=>none
def nv (T:Ty) (H:Heap) (t:TypeId) (x:AV) (lo hi:Option Int):Ans:=
 let l:=lo.getD 0
 match x with
 | .d (.v (.string s))=>if adk T t TypeDesc.isStr then
   let h:=hi.getD s.size
   some (0<=l/\l<=h/\h<=s.size,.d (.v (.string (s.extract l.toNat h.toNat)))) else none
 | .d (.sl k els)=>match lJ T t with
  | some s=>
   let h:=hi.getD els.length
   some (0<=l/\l<=h/\h<=els.length/\(l=0\/∀ el∈els,el.length=s),.d (.sl k ((els.drop l.toNat).take (h - l).toNat)))
  | none=>none
 | .own r off n=>match lJ T t,H r with
  | some s,some (.sl _ sz _)=>
   let h:=hi.getD n
   some (0<=l/\l<=h/\h<=n/\sz=s,if l=n/\¬ l=0 then .d (.sl none []) else .own r (off+l.toNat) (h - l).toNat)
  | _,_=>none
 | _=>none
omit hg in
theorem uU {isS:Bool} {len cap:Nat} {lo hi:Option Value} {l h:Int} (hl:(lo=none/\l=0)\/∃ k,lo=some (.int k l)) (hh:(hi=none/\h=len)\/∃ k,hi=some (.int k h)) (h0:0<=l) (h1:l<=h) (h2:h<=cap) :
  (Instr.sliceBounds isS len cap lo hi none).run P w = .ok (l.toNat,h.toNat,cap) w:=by
 have e1:0<=h:=by omega
 rcases hh with⟨rfl,rfl⟩ | ⟨k,rfl⟩<;>rcases hl with⟨rfl,rfl⟩ | ⟨k',rfl⟩
 .simp[Instr.sliceBounds]
 .simp[Instr.sliceBounds,Instr.sliceBound,asIntOf,h0,h1]
 .simp[Instr.sliceBounds,Instr.sliceBound,asIntOf,e1,h2]
 .have e3:l<=max h 0:=by omega
  simp[Instr.sliceBounds,Instr.sliceBound,asIntOf,e1,h2,h0,e3]
theorem Xi (hs:Sim w X μ H) {t:TypeId} {u:Value} {x z:AV} {c:Prop} {lo hi:Option Int} {xJ xI:Option Value} (h:nv T H t x lo hi=some (c,z)) (hc:c) (hx:RV w X μ u x)
  (rU:(xJ=none/\lo=none)\/∃ k l,xJ=some (.int k l)/\lo=some l) (tK:(xI=none/\hi=none)\/∃ k l,xI=some (.int k l)/\hi=some l) :
  ∃ r,(Instr.sliceAt t u xJ xI none).run P w = .ok r w/\RV w X μ r z:=by
 have hL:(xJ=none/\lo.getD 0=0)\/∃ k,xJ=some (.int k (lo.getD 0)):=by
  rcases rU with⟨rfl,rfl⟩ | ⟨k,l,rfl,rfl⟩
  .exact .inl ⟨rfl,rfl⟩
  .exact .inr ⟨k,rfl⟩
 have hH:∀ n:Nat,(xI=none/\hi.getD n=n)\/∃ k,xI=some (.int k (hi.getD n)):=by
  intro n
  rcases tK with⟨rfl,rfl⟩ | ⟨k,l,rfl,rfl⟩
  .exact .inl ⟨rfl,rfl⟩
  .exact .inr ⟨k,rfl⟩
 unfold nv at h;dsimp only at h;split at h
 .rename_i s;split at h
  .rename_i hd;obtain⟨ti,ht,hp⟩:=pV hd;simp only[Option.some.injEq,Prod.mk.injEq]at h;obtain⟨rfl,rfl⟩:=h;obtain rfl:=hx.scalar;obtain⟨h0,h1,h2⟩:=hc;exact⟨_,by simp[Instr.sliceAt,hg.cC ht,zf hp,Instr.slice,uU (P:=P) (w:=w) hL (hH s.size) h0 h1 h2],.d (.v _)⟩
  .cases h
 .rename_i k els;split at h
  .rename_i s he;simp only[Option.some.injEq,Prod.mk.injEq]at h;obtain⟨rfl,rfl⟩:=h;obtain⟨h0,h1,h2,h3⟩:=hc;unfold lJ at he;split at he
   .rename_i ti ht;split at he
    .rename_i e hd;obtain⟨te,cg,rfl⟩:=Option.map_eq_some_iff.1 he;generalize lo.getD 0=l at *;have oL:=hH els.length;generalize hi.getD ↑els.length=hh at *;obtain⟨l,rfl⟩:=Int.eq_ofNat_of_zero_le h0;obtain⟨hh,rfl⟩:=Int.eq_ofNat_of_zero_le (show 0<=hh by omega)
     have e1:((hh:Int) - l).toNat=hh - l:=by omega
     simp only[Int.toNat_natCast,e1]
     rcases hx.data.mD with⟨rfl,rfl,hk⟩ | ⟨a,cap,rfl,hk,acN,hm,hr⟩
     .have l0:l=0:=by simp at h2;omega
      have CB:hh=0:=by simp at h2;omega
      subst l0 CB;have:=uU (P:=P) (w:=w) (isS:=true) (cap:=0) hL oL h0 h1 (by simp);refine⟨.slice none 0 0,?_,.d (by simpa using .nil hk)⟩;simp at this;simp[Instr.sliceAt,hg.cC ht,hd,Instr.slice,this,hg.sizeOf cg]
     .have:=uU (P:=P) (w:=w) (isS:=true) (cap:=cap) hL oL h0 h1 (by omega);refine⟨.slice (some (if cap=l then a else a.add (l * te.size))) (hh - l) (cap - l),?_,.d ?_⟩
      .simp[Instr.sliceAt,hg.cC ht,hd,Instr.slice,this,hg.sizeOf cg];split<;>rfl
      .by_cases hz:hh - l=0
       .rw[hz,List.take_zero];exact .empty hk (by unfold maxLen at *;omega)
       .rcases hr with rfl | ⟨b,off,sz,f,rfl,hX,aK,bB,abf,iD⟩
        .simp at h2;omega
        .have hcl:¬ cap=l:=by omega
         rw[if_neg hcl,addr_add]
         have gX:l * te.size=l * sz:=by
          rcases h3 with h3 | h3
          .have:l=0:=by omega
           simp[this]
          .have aO:els≠[]:=by intro e;simp[e]at h2;omega
           obtain⟨el,hel⟩:=List.exists_mem_of_ne_nil _ aO;rw[<- h3 el hel,bB el hel]
         rw[gX];refine .sl (sz:=sz) (f:=fun i j=>f (l+i) j) hk ?_ (by omega) (by unfold maxLen at *;omega) hX ?_ aK (by omega) ?_ ?_
         .simp;omega
         .intro el hel;exact bB el (List.mem_of_mem_drop (List.mem_of_mem_take hel))
         .intro i j hi hj;have:=abf (l+i) j (by omega) hj;rw[Nat.add_mul]at this;rw[<- this];congr 2;omega
         .intro i j el c hel hc;rw[List.getElem?_take]at hel;split at hel
          .rw[List.getElem?_drop]at hel;exact iD _ j el c hel hc
          .cases hel
    .cases he
   .cases he
  .cases h
 .rename_i r off n;split at h
  .rename_i s ty sz els he yC;simp only[Option.some.injEq,Prod.mk.injEq]at h;obtain⟨rfl,rfl⟩:=h;obtain⟨h0,h1,h2,rfl⟩:=hc;unfold lJ at he;split at he
   .rename_i ti ht;split at he
    .rename_i e hd;obtain⟨te,cg,rfl⟩:=Option.map_eq_some_iff.1 he;generalize lo.getD 0=l at *;have oL:=hH n;generalize hi.getD ↑n=hh at *;obtain⟨l,rfl⟩:=Int.eq_ofNat_of_zero_le h0;obtain⟨hh,rfl⟩:=Int.eq_ofNat_of_zero_le (show 0<=hh by omega)
     have e1:((hh:Int) - l).toNat=hh - l:=by omega
     simp only[Int.toNat_natCast,e1];obtain⟨m,hm,hu⟩:=hx.jd;obtain⟨m',bU,ok⟩:=hs.rows r _ yC;rw[hm]at bU;obtain rfl:=Option.some.inj bU
     have aK:m.sz=te.size:=by cases ok<;>assumption
     by_cases hz:(l:Int)=n/\¬ (l:Int)=0
     .rw[if_pos hz]
      rcases hu with⟨hb,rfl,rfl,rfl⟩ | ⟨b,hb,rfl,hle⟩
      .omega
      .have Zf:m.cap<=maxLen:=by
        cases ok with
        | nil aT _=>rw[hb]at aT;cases aT
        | sl aT _ _ _ _ bU=>exact bU
       have:=uU (P:=P) (w:=w) (isS:=true) (cap:=m.cap - off) hL oL h0 h1 (by omega);refine⟨.slice (some (if m.cap - off=l then ⟨b,off * m.sz,none⟩ else (⟨b,off * m.sz,none⟩:Addr).add (l * te.size))) (hh - l) (m.cap - off - l),?_,?_⟩
       .simp[Instr.sliceAt,hg.cC ht,hd,Instr.slice,this,hg.sizeOf cg];split<;>rfl
       .rw[show hh - l=0 by omega];exact .d (.empty (by simp) (by omega))
     rw[if_neg hz]
     have h3:(l:Int)=0\/(l:Int) < n:=by omega
     rcases hu with⟨hb,rfl,rfl,rfl⟩ | ⟨b,hb,rfl,hle⟩
     .have l0:l=0:=by omega
      have CB:hh=0:=by omega
      subst l0 CB;have:=uU (P:=P) (w:=w) (isS:=true) (cap:=0) hL oL h0 h1 (by simp);refine⟨.slice none 0 0,?_,.own hm (.inl ⟨hb,rfl,rfl,rfl⟩)⟩;simp[Instr.sliceAt,hg.cC ht,hd,Instr.slice,hg.sizeOf cg];simp at this;simp[this]
     .have:=uU (P:=P) (w:=w) (isS:=true) (cap:=m.cap - off) hL oL h0 h1 (by omega);refine⟨.slice (some (if m.cap - off=l then ⟨b,off * m.sz,none⟩ else (⟨b,off * m.sz,none⟩:Addr).add (l * te.size))) (hh - l) (m.cap - off - l),?_,.own hm (.inr ⟨b,hb,?_,by omega⟩)⟩
      .simp[Instr.sliceAt,hg.cC ht,hd,Instr.slice,this,hg.sizeOf cg];split<;>rfl
      .rw[addr_add,<- aK,<- Nat.add_mul]
       have e3:m.cap - off - l=m.cap - (off+l):=by omega
       rw[e3];split
       .have:l=0:=by omega
        subst this;simp
       .rfl
    .cases he
   .cases he
  .cases h
 .cases h
end
end Go.Av
namespace Go.Av
def cR (μ:Mu) (r:Nat) (m:gn):Mu:=fun q=>if q=r then some m else μ q
def aa6 (r:Nat) (e:Env):Env:=fun i=>(e i).map (AV.kill r)
def cQ (r:Nat) (H:Heap):Heap:=fun q=>(H q).map (Row.kill r)
theorem abV.same {w w':World} {Mv X:Nat->Prop} {μ ax:Mu} (h:Ev Mv w μ w' ax) (hμ:∀ q m,μ q=some m->ax q=some m) {m:gn} (hb:∀ b,m.dy=some b->w'.heap[b]? = w.heap[b]?) {row:Row} (ok:abV w X μ m row):abV w' X ax m row:=by
 cases ok with
 | nil h1 h2=>exact .nil h1 h2
 | sl h1 h2 h3 h4 h5 h6 h7 h8 h9=>
  exact .sl h1 h2 ((hb _ h1).trans h3) h4 h5 h6 h7 h8 fun i j el c he hc=>let ⟨u,hu,hr⟩:=h9 i j el c he hc;⟨u,hu,hr.ev h⟩
 | box h1 h2 h3 h4 h5 h6 h7=>exact .box h1 h2 h3 ((hb _ h1).trans h4) h5 (fun j u c hu hc=>(h6 j u c hu hc).same h hμ) h7
 | mp h1 h2 h3 h4=>exact .mp h1 ((hb _ h1).trans h2) h3 fun i e p he hp=>let ⟨a,b,c⟩:=h4 i e p he hp;⟨a,b,c.ev h⟩
 | it h1 h2 h3=>exact .it h1 ((hb _ h1).trans h2) (h3.ev h)
theorem abV.keep {w w':World} {Mv X:Nat->Prop} {μ ax:Mu} (h:Ev Mv w μ w' ax) {r:Nat} (hμ:∀ q,q≠r->ax q=μ q) {m:gn} (hb:∀ b,m.dy=some b->w'.heap[b]? = w.heap[b]?) {row:Row} (ok:abV w X μ m row):abV w' X ax m (row.kill r):=by
 cases ok with
 | nil h1 h2=>exact .nil h1 h2
 | sl h1 h2 h3 h4 h5 h6 h7 h8 h9=>
  exact .sl h1 h2 ((hb _ h1).trans h3) h4 h5 h6 h7 h8 fun i j el c he hc=>let ⟨u,hu,hr⟩:=h9 i j el c he hc;⟨u,hu,hr.ev h⟩
 | box h1 h2 h3 h4 h5 h6 h7=>
  refine .box h1 rfl h3 ((hb _ h1).trans h4) (by simpa using h5) (fun j u c hu hc=>?_) (by simpa using h7);rw[List.getElem?_map]at hc;obtain⟨c',cI,rfl⟩:=Option.map_eq_some_iff.1 hc;exact (h6 j u c' hu cI).keep h hμ
 | mp h1 h2 h3 h4=>exact .mp h1 ((hb _ h1).trans h2) h3 fun i e p he hp=>let ⟨a,b,c⟩:=h4 i e p he hp;⟨a,b,c.ev h⟩
 | it h1 h2 h3=>exact .it h1 ((hb _ h1).trans h2) (h3.ev h)
section
variable {Mv X:Nat->Prop} {G:ao} {N:Fr} {w w':World} {μ:Mu} {a:Act} {σ:St}
theorem abV.jj {m:gn} {row:Row} {b:Nat} (ok:abV w X μ m row) (hb:m.dy=some b):b < w.heap.size:=by
 cases ok with
 | nil aT _=>rw[aT]at hb;cases hb
 | sl aT _ hh=>rw[aT]at hb;obtain rfl:=Option.some.inj hb;exact (Array.getElem?_eq_some_iff.1 hh).1
 | box aT _ _ hh=>rw[aT]at hb;obtain rfl:=Option.some.inj hb;exact (Array.getElem?_eq_some_iff.1 hh).1
 | mp aT hh=>rw[aT]at hb;obtain rfl:=Option.some.inj hb;exact (Array.getElem?_eq_some_iff.1 hh).1
 | it aT hh=>rw[aT]at hb;obtain rfl:=Option.some.inj hb;exact (Array.getElem?_eq_some_iff.1 hh).1
theorem Sim.sC {H:Heap} (h:Sim w X μ H) {r:Nat} (hr:H r=none):μ r=none:=by
 cases hm:μ r with
 | none=>rfl
 | some m=>obtain⟨row,hr'⟩:=h.iu r m hm;rw[hr]at hr';cases hr'
structure bY (w w':World):Prop where
 size:w.heap.size<=w'.heap.size
 os:w'.os=w.os
 tape:w'.tape=w.tape
 output:w'.output=w.output
 same:∀ b,b < w.heap.size->w'.heap[b]? = w.heap[b]?
theorem bY.refl (w:World):bY w w:=⟨Nat.le_refl _,rfl,rfl,rfl,fun _ _=>rfl⟩
theorem bY.alloc (w:World) (o:Obj):bY w (w.alloc o):=⟨by simp,rfl,rfl,rfl,fun b hb=>by rw[<- World.alloc_eq];simp[Array.getElem?_push,Nat.ne_of_lt hb]⟩
theorem bY.drew (w:World):bY w w.drew:=⟨Nat.le_refl _,rfl,rfl,rfl,fun _ _=>rfl⟩
theorem In.j7 (hi:In w X G μ N a σ) (hg:bY w w'):In w' X G μ N a σ/\Ev Mv w μ w' μ:=by
 have ev:Ev Mv w μ w' μ:=⟨hg.size,hg.os,hg.tape,hg.output,fun b hb hr=>⟨hg.same b hb,hr⟩,fun _ _ h _=>h⟩;refine⟨⟨⟨fun r row hr=>?_,hi.aY.iu,hi.aY.inj,hi.aY.frame,fun b hb=>Nat.lt_of_lt_of_le (hi.aY.fits b hb) hg.size⟩,⟨hi.env.defers,hi.env.size,fun i x hx=>?_⟩,fun g x hx=>(hi.gq g x hx).ev ev⟩,ev⟩
 .obtain⟨m,hm,ok⟩:=hi.aY.rows r row hr;exact⟨m,hm,ok.same ev (fun _ _ h=>h) fun b hb=>hg.same b (ok.jj hb)⟩
 .obtain⟨u,hu,hr⟩:=hi.env.slot i x hx;exact⟨u,hu,hr.same ev fun _ _ h=>h⟩
theorem In.alloc (hi:In w X G μ N a σ) {d:Nat} (hd:σ.H d=none) (hg:bY w w') {m:gn} (hm:∀ b,m.dy=some b->w.heap.size<=b) {row:Row}
  (ok:Ev Mv w μ w' (cR μ d m)->abV w' X (cR μ d m) m row):In w' X G (cR μ d m) N a ⟨σ.env,aL σ.H d row⟩/\Ev Mv w μ w' (cR μ d m):=by
 have wy:=hi.aY.sC hd
 have hμ:∀ q m',μ q=some m'->cR μ d m q=some m':=by
  intro q m' hq;unfold cR;split
  .rename_i e;subst e;rw[wy]at hq;cases hq
  .exact hq
 have ev:Ev Mv w μ w' (cR μ d m):=by
  refine⟨hg.size,hg.os,hg.tape,hg.output,fun b hb hr=>⟨hg.same b hb,?_⟩,fun _ _ h _=>hμ _ _ h⟩;rintro⟨q,m',hq,aT⟩;unfold cR at hq;split at hq
  .obtain rfl:=Option.some.inj hq;have:=hm b aT;omega
  .exact hr ⟨q,m',hq,aT⟩
 have ok:=ok ev;refine⟨⟨⟨fun r agQ hr=>?_,fun r m' hr=>?_,fun r r' m1 m2 b h1 h2 cY dA=>?_,fun r m' b hr hb=>?_,fun b hb=>Nat.lt_of_lt_of_le (hi.aY.fits b hb) hg.size⟩,⟨hi.env.defers,hi.env.size,fun i x hx=>?_⟩,fun g x hx=>(hi.gq g x hx).ev ev⟩,ev⟩
 .dsimp only[aL]at hr;split at hr
  .rename_i e;subst e;obtain rfl:=Option.some.inj hr;exact⟨m,by simp[cR],ok⟩
  .rename_i e;obtain⟨m',bU,sG⟩:=hi.aY.rows r agQ hr;exact⟨m',hμ r m' bU,sG.same ev hμ fun b hb=>hg.same b (sG.jj hb)⟩
 .unfold cR at hr;split at hr
  .rename_i e;exact⟨row,by simp[aL,e]⟩
  .rename_i e;obtain⟨agQ,hr'⟩:=hi.aY.iu r m' hr;exact⟨agQ,by simp[aL,e,hr']⟩
 .have lt:∀ q m',μ q=some m'->m'.dy=some b->b < w.heap.size:=fun q m' hq hb=>hi.aY.jj ⟨q,m',hq,hb⟩;unfold cR at h1 h2;split at h1<;>split at h2
  .rename_i e1 e2;rw[e1,e2]
  .obtain rfl:=Option.some.inj h1;have:=hm b cY;have:=lt r' m2 h2 dA;omega
  .obtain rfl:=Option.some.inj h2;have:=hm b dA;have:=lt r m1 h1 cY;omega
  .exact hi.aY.inj r r' m1 m2 b h1 h2 cY dA
 .unfold cR at hr;split at hr
  .obtain rfl:=Option.some.inj hr;intro hX;have:=hm b hb;have:=hi.aY.fits b hX;omega
  .exact hi.aY.frame r m' b hr hb
 .obtain⟨u,hu,hr⟩:=hi.env.slot i x hx;exact⟨u,hu,hr.same ev hμ⟩
theorem In.write (hi:In w X G μ N a σ) {r b:Nat} {m:gn} (hm:μ r=some m) (hb:m.dy=some b) (hs:w'.heap.size=w.heap.size) (ho:w'.os=w.os) (ht:w'.tape=w.tape) (nP:w'.output=w.output)
  (nS:∀ k,k≠b->w'.heap[k]? = w.heap[k]?) {row:Row} (ok:Ev Mv w μ w' μ->abV w' X μ m row):In w' X G μ N a ⟨σ.env,aL σ.H r row⟩/\Ev Mv w μ w' μ:=by
 have ev:Ev Mv w μ w' μ:=⟨by omega,ho,ht,nP,fun k hk hr=>⟨nS k fun e=>hr ⟨r,m,hm,e ▸ hb⟩,hr⟩,fun _ _ h _=>h⟩;have ok:=ok ev;refine⟨⟨⟨fun q agQ hq=>?_,fun q m' hq=>?_,hi.aY.inj,hi.aY.frame,fun b hb=>by have:=hi.aY.fits b hb;omega⟩,⟨hi.env.defers,hi.env.size,fun i x hx=>?_⟩,fun g x hx=>(hi.gq g x hx).ev ev⟩,ev⟩
 .dsimp only[aL]at hq;split at hq
  .rename_i e;subst e;obtain rfl:=Option.some.inj hq;exact⟨m,hm,ok⟩
  .rename_i e;obtain⟨m',bU,sG⟩:=hi.aY.rows q agQ hq;exact⟨m',bU,sG.same ev (fun _ _ h=>h) fun k hk=>nS k fun e'=>e (hi.aY.inj q r m' m k bU hm hk (e' ▸ hb))⟩
 .by_cases e:q=r
  .exact⟨row,by simp[aL,e]⟩
  .obtain⟨agQ,hr'⟩:=hi.aY.iu q m' hq;exact⟨agQ,by simp[aL,e,hr']⟩
 .obtain⟨u,hu,hr⟩:=hi.env.slot i x hx;exact⟨u,hu,hr.same ev fun _ _ h=>h⟩
theorem In.move (hi:In w X G μ N a σ) {r:Nat} {m m':gn} (hm:μ r=some m) (eH:Mv r) (hs:w.heap.size<=w'.heap.size) (ho:w'.os=w.os) (ht:w'.tape=w.tape) (nP:w'.output=w.output)
  (nS:∀ k,k < w.heap.size->m.dy≠some k->w'.heap[k]? = w.heap[k]?) (jv:∀ b,m'.dy=some b->w.heap.size<=b\/m.dy=some b) {row:Row}
  (ok:Ev Mv w μ w' (cR μ r m')->abV w' X (cR μ r m') m' row):In w' X G (cR μ r m') N a ⟨aa6 r σ.env,aL (cQ r σ.H) r row⟩/\Ev Mv w μ w' (cR μ r m'):=by
 have hμ:∀ q,q≠r->cR μ r m' q=μ q:=fun q hq=>by simp[cR,hq]
 have ev:Ev Mv w μ w' (cR μ r m'):=by
  refine⟨hs,ho,ht,nP,fun b hb hr=>⟨nS b hb fun e=>hr ⟨r,m,hm,e⟩,?_⟩,fun q mq hq hn=>?_⟩
  .rintro⟨q,mq,hq,hbq⟩;unfold cR at hq;split at hq
   .obtain rfl:=Option.some.inj hq
    rcases jv b hbq with h | h
    .omega
    .exact hr ⟨r,m,hm,h⟩
   .exact hr ⟨q,mq,hq,hbq⟩
  .have:q≠r:=fun e=>hn (e ▸ eH);rw[hμ q this];exact hq
 have ok:=ok ev;refine⟨⟨⟨fun q agQ hq=>?_,fun q mq hq=>?_,fun q q' m1 m2 b h1 h2 cY dA=>?_,fun q mq b hq hb=>?_,fun b hb=>Nat.lt_of_lt_of_le (hi.aY.fits b hb) hs⟩,⟨hi.env.defers,hi.env.size,fun i x hx=>?_⟩,fun g x hx=>(hi.gq g x hx).ev ev⟩,ev⟩
 .dsimp only[aL]at hq;split at hq
  .rename_i e;subst e;obtain rfl:=Option.some.inj hq;exact⟨m',by simp[cR],ok⟩
  .rename_i e;unfold cQ at hq;obtain⟨kU,h0,rfl⟩:=Option.map_eq_some_iff.1 hq;obtain⟨mq,tQ,sG⟩:=hi.aY.rows q kU h0;exact⟨mq,(hμ q e).trans tQ,sG.keep ev hμ fun k hk=>nS k (sG.jj hk) fun e'=>e (hi.aY.inj q r mq m k tQ hm hk e')⟩
 .by_cases e:q=r
  .exact⟨row,by simp[aL,e]⟩
  .rw[hμ q e]at hq;obtain⟨agQ,hr'⟩:=hi.aY.iu q mq hq;exact⟨agQ.kill r,by simp[aL,e,cQ,hr']⟩
 .have lt:∀ q mq,μ q=some mq->mq.dy=some b->b < w.heap.size:=fun q mq hq hb=>hi.aY.jj ⟨q,mq,hq,hb⟩;by_cases e1:q=r<;>by_cases e2:q'=r
  .rw[e1,e2]
  .rw[hμ q' e2]at h2;simp only[cR,e1,if_true,Option.some.injEq]at h1;subst h1
   rcases jv b cY with h | h
   .have:=lt q' m2 h2 dA;omega
   .exact absurd (hi.aY.inj q' r m2 m b h2 hm dA h) e2
  .rw[hμ q e1]at h1;simp only[cR,e2,if_true,Option.some.injEq]at h2;subst h2
   rcases jv b dA with h | h
   .have:=lt q m1 h1 cY;omega
   .exact absurd (hi.aY.inj q r m1 m b h1 hm cY h) e1
  .rw[hμ q e1]at h1;rw[hμ q' e2]at h2;exact hi.aY.inj q q' m1 m2 b h1 h2 cY dA
 .by_cases e:q=r
  .simp only[cR,e,if_true,Option.some.injEq]at hq;subst hq
   rcases jv b hb with h | h
   .intro hX;have:=hi.aY.fits b hX;omega
   .exact hi.aY.frame r m b hm h
  .rw[hμ q e]at hq;exact hi.aY.frame q mq b hq hb
 .unfold aa6 at hx;obtain⟨x0,h0,rfl⟩:=Option.map_eq_some_iff.1 hx;obtain⟨u,hu,hr⟩:=hi.env.slot i x0 h0;exact⟨u,hu,hr.keep ev hμ⟩
theorem zP (hs:Sim w X μ σ.H) {r off n ty sz:Nat} {els:List (List D)} (hH:σ.H r=some (.sl ty sz els)) (hle:off+n<=els.length) {u:Value} (hu:RV w X μ u (.own r off n)) :
  ∃ k,RD w (XX X (fun q=>if q=r then none else μ q)) u (.sl k ((els.drop off).take n))/\(0 < n->k=some true)/\k≠some false:=by
 obtain⟨m,hm,hh⟩:=hu.jd;obtain⟨m',bU,ok⟩:=hs.rows r _ hH;rw[hm]at bU;obtain rfl:=Option.some.inj bU
 have hX:∀ b,m.dy=some b->¬ XX X (fun q=>if q=r then none else μ q) b:=by
  rintro b hb (h | ⟨q,mq,hq,hbq⟩)
  .exact hs.frame r m b hm hb h
  .dsimp only at hq;split at hq
   .cases hq
   .rename_i e;exact e (hs.inj q r mq m b hq hm hbq hb)
 rcases hh with⟨hb,rfl,rfl,rfl⟩ | ⟨b,hb,rfl,acN⟩
 .exact⟨none,by simpa using .nil (by simp),by omega,by simp⟩
 .cases ok with
  | nil aT _=>rw[aT]at hb;cases hb
  | sl aT aK hh hcs hn fc hl hz hr=>
   rename_i b' cur;rw[hb]at aT;obtain rfl:=Option.some.inj aT;subst aK;by_cases h0:n=0
   .subst h0;exact⟨some true,by rw[List.take_zero];exact .empty (by simp) (by unfold maxLen at *;omega),by omega,by simp⟩
   .refine⟨some true,.sl (sz:=m.sz) (f:=fun i j=>cur.getD ((off+i) * m.sz+j) undef) (by simp) (by simp;omega) (by omega) (by unfold maxLen at *;omega) (hX b hb) (fun el hel=>hl el (List.mem_of_mem_drop (List.mem_of_mem_take hel))) hz (by omega) ?_ ?_,by simp,by simp⟩
    .intro i j hi hj
     have ay:(off+i) * m.sz+j < cur.size:=by
      rw[hcs];have:(off+i+1) * m.sz<=m.cap * m.sz:=Nat.mul_le_mul_right _ (by omega);rw[Nat.add_mul]at this;omega
     have e1:off * m.sz+(i * m.sz+j)=(off+i) * m.sz+j:=by rw[Nat.add_mul];omega
     rw[e1,cell_of_row w b _ cur ty (0,0) hh];simp[Array.getD_eq_getD_getElem?,ay]
    .intro i j el c hel hc;rw[List.getElem?_take]at hel;split at hel
     .rw[List.getElem?_drop]at hel;obtain⟨u',kN,bC⟩:=hr (off+i) j el c hel hc;rw[Array.getD_eq_getD_getElem?,kN];refine bC.mono (Nat.le_refl _) fun b hb hXX=>⟨rfl,?_⟩;rintro (h | ⟨q,mq,hq,hbq⟩)
      .exact hXX (.inl h)
      .dsimp only at hq;split at hq
       .cases hq
       .exact hXX (.inr ⟨q,mq,hq,hbq⟩)
     .cases hel
end
end Go.Av
namespace Go.Av
def D.one:D->Bool
 | .v x=>x.oneCell'
 | .agg _ | .tup _=>false
 | _=>true
def AV.one:AV->Bool
 | .d x=>x.one
 | .own _ _ _ | .ref _ _ _ | .bA _ _ | .fn _ _ | .mp _=>true
 | _=>false
section
variable {w:World} {X:Nat->Prop} {μ:Mu}
theorem RD.uI {u:Value} {x:D} (h:RD w X u x) (h1:x.one=true):u.oneCell'=true:=by
 cases h<;>first | rfl | exact h1 | cases h1
theorem RV.uI {u:Value} {x:AV} (h:RV w X μ u x) (h1:x.one=true):u.oneCell'=true:=by
 cases h with
 | d h=>exact h.uI h1
 | own _ h=>rcases h with⟨_,rfl,_⟩ | ⟨b,_,rfl,_⟩<;>rfl
 | ref _ _=>rfl
 | bA _=>rfl
 | fn _ _=>rfl
 | mp _ _=>rfl
 | _=>cases h1
theorem cells_one {u:Value} (h:u.oneCell'=true):u.cells = #[u]:=by cases u<;>first | rfl | cases h
structure vd (w:World) (X:Nat->Prop) (μ:Mu) (arr:Array Value) (cells:List AV):Prop where
 size:arr.size=cells.length
 at_:∀ (j:Nat) (u:Value) (c:AV),arr[j]? = some u->cells[j]? = some c->RV w X μ u c
def gl:AV->Option (List AV)
 | .d (.agg cs)=>some (cs.map .d)
 | .agg cs=>some cs
 | x=>if x.one then some [x] else none
theorem aeN {u:Value} {x:AV} {cs:List AV} (hx:RV w X μ u x) (h:gl x=some cs):vd w X μ u.cells cs:=by
 unfold gl at h;split at h
 .obtain rfl:=Option.some.inj h;obtain⟨arr,rfl,hn,hr⟩:=hx.data.nz;exact⟨by simpa[Value.cells]using hn,RV.uC hr⟩
 .obtain rfl:=Option.some.inj h;obtain⟨arr,rfl,hn,hr⟩:=hx.nz;exact⟨hn,hr⟩
 .split at h
  .rename_i h1;obtain rfl:=Option.some.inj h;rw[cells_one (hx.uI h1)];refine⟨rfl,fun j v c hv hc=>?_⟩
   match j,hv,hc with
   | 0,hv,hc=>simp at hv hc;subst hv hc;exact hx
   | j+1,hv,hc=>simp at hc
  .cases h
def ab9:Value->List D
 | .agg arr=>arr.toList.map oB
 | v=>[oB v]
theorem u5 (v:Value):v.cells.size=(ab9 v).length/\∀ (j:Nat) (u:Value) (c:D),v.cells[j]? = some u->(ab9 v)[j]? = some c->RD w X u c:=by
 cases v with
 | agg arr=>
  refine⟨by simp[Value.cells,ab9],fun j u c hu hc=>?_⟩;simp only[ab9,List.getElem?_map]at hc;obtain⟨c',cI,rfl⟩:=Option.map_eq_some_iff.1 hc;rw[Array.getElem?_toList]at cI;simp only[Value.cells]at hu;rw[hu]at cI;obtain rfl:=Option.some.inj cI;exact td _
 | _=>
  refine⟨rfl,fun j u c hu hc=>?_⟩
  match j,hu,hc with
  | 0,hu,hc=>simp[Value.cells,ab9]at hu hc;subst hu hc;exact td _
  | j+1,hu,hc=>simp[ab9]at hc
end
def ku (Mv X:Nat->Prop) (G:ao) (N:Fr) (w:World) (μ:Mu) (a:Act) (run:Result Value) (x:AV) (aI:St):Prop:=
 ∃ v w' ax,run = .ok v w'/\In w' X G ax N a aI/\RV w' X ax v x/\Ev Mv w μ w' ax
section
variable {P:Program} {T:Ty} {Mv X:Nat->Prop} {G:ao} {N:Fr} {w:World} {μ:Mu} {a:Act} {σ:St}
theorem Jm (hi:In w X G μ N a σ) {d:Nat} (hd:σ.H d=none) (t:TypeId) {cur:Array Value} {cells:List AV} (hp:vd w X μ cur cells) :
  ku Mv X G N w μ a (.ok (.pointer (some ⟨w.heap.size,0,none⟩)) (w.alloc (.cells cur t))) (.ref d 0 0) ⟨σ.env,aL σ.H d (.box t cells)⟩:=by
 have wy:=hi.aY.sC hd
 have hm:cR μ d ⟨some w.heap.size,cells.length,1⟩ d=some ⟨some w.heap.size,cells.length,1⟩:=by simp[cR]
 obtain⟨h1,h2⟩:=hi.alloc (Mv:=Mv) hd (bY.alloc w (.cells cur t)) (m:=⟨some w.heap.size,cells.length,1⟩) (fun b hb=>by simp at hb;omega) (row:=.box t cells) fun ev=>
  .box rfl rfl (show 1<=maxLen by decide) (by simpa using heap_alloc_new w (.cells cur t)) (Nat.le_of_eq hp.size.symm) (hx:=fun _=>hp.size.symm) fun j u c hu hc=>(hp.at_ j u c hu hc).same ev fun q m' hq=>by
   unfold cR;split
   .rename_i e;subst e;rw[wy]at hq;cases hq
   .exact hq
 refine⟨_,_,_,rfl,h1,?_,h2⟩;have:=RV.ref (w:=w.alloc (.cells cur t)) (X:=X) (μ:=cR μ d ⟨some w.heap.size,cells.length,1⟩) (e:=0) (j:=0) (b:=w.heap.size) hm rfl;simpa using this
structure Els (w:World) (X:Nat->Prop) (cur:Array Value) (sz:Nat) (els:List (List D)):Prop where
 len:∀ el∈els,el.length=sz
 at_:∀ (i j:Nat) (el:List D) (c:D),els[i]? = some el->el[j]? = some c->∃ u,cur[i * sz+j]? = some u/\RD w X u c
theorem Jn (hi:In w X G μ N a σ) {d:Nat} (hd:σ.H d=none) (t:TypeId) {cur:Array Value} {sz n cap:Nat} {els:List (List D)} (he:Els w (XX X μ) cur sz els) (hz:0 < sz) (hc:cur.size=cap * sz) (hn:els.length=n) (acN:n<=cap) (QV:cap<=maxLen) :
  ku Mv X G N w μ a (.ok (.slice (some ⟨w.heap.size,0,none⟩) n cap) (w.alloc (.cells cur t))) (.own d 0 n) ⟨σ.env,aL σ.H d (.sl t sz els)⟩:=by
 have hm:cR μ d ⟨some w.heap.size,sz,cap⟩ d=some ⟨some w.heap.size,sz,cap⟩:=by simp[cR]
 obtain⟨h1,h2⟩:=hi.alloc (Mv:=Mv) hd (bY.alloc w (.cells cur t)) (m:=⟨some w.heap.size,sz,cap⟩) (fun b hb=>by simp at hb;omega) (row:=.sl t sz els) fun ev=>
  .sl rfl rfl (by simpa using heap_alloc_new w (.cells cur t)) hc (by simp;omega) QV he.len hz fun i j el c h1 h2=>let ⟨u,hu,hr⟩:=he.at_ i j el c h1 h2;⟨u,hu,hr.ev ev⟩
 exact⟨_,_,_,rfl,h1,.own hm (.inr ⟨w.heap.size,rfl,by simp,by simpa using acN⟩),h2⟩
theorem Mb (hg:Good P T) (hi:In w X G μ N a σ) {d:Nat} (hd:σ.H d=none) {t:TypeId} {ti:TI} (ht:T t=some ti) :
  ku Mv X G N w μ a ((Instr.alloc t true (.tuple #[])).run P w) (.ref d 0 0) ⟨σ.env,aL σ.H d (.box t ((ab9 ti.zero).map .d))⟩:=by
 have:=Jm (Mv:=Mv) hi hd t (cur:=ti.zero.cells) (cells:=(ab9 ti.zero).map .d) ⟨by simpa using (u5 (w:=w) (X:=X) ti.zero).1,RV.uC (u5 ti.zero).2⟩;simpa[Instr.alloc,hg.zero ht,newVar,newRow]using this
theorem M5 (hi:In w X G μ N a σ) {d:Nat} (hd:σ.H d=none) {t:TypeId} {u:Value} {x:AV} {cs:List AV} (hx:RV w X μ u x) (hc:gl x=some cs) :
  ku Mv X G N w μ a ((Instr.box t u).run P w) (.ref d 0 0) ⟨σ.env,aL σ.H d (.box t cs)⟩:=by
 have:=Jm (Mv:=Mv) hi hd t (aeN hx hc);simpa[Instr.box,newVar,newRow]using this
theorem uV {α:Type} (l cs:List α) (j i:Nat) (hj:j+cs.length<=l.length):(l.take j ++ cs ++ l.drop (j+cs.length))[i]? = if j<=i/\i < j+cs.length then cs[i - j]? else l[i]?:=by
 rw[List.append_assoc,List.getElem?_append];simp only[List.length_take]
 have e1:min j l.length=j:=by omega
 rw[e1];split
 .rename_i h;rw[if_neg (by omega),List.getElem?_take,if_pos h]
 .rename_i h;rw[List.getElem?_append];split
  .rename_i h2;rw[if_pos (by omega)]
  .rename_i h2;rw[if_neg (by omega),List.getElem?_drop];congr 1;omega
theorem KH {ti:TI} {t:TypeId} (hg:Good P T) (ht:T t=some ti) {b o:Nat} {ty:TypeId} {cur:Array Value} {u:Value} (hh:w.heap[b]? = some (.cells cur ty (0,0))) (hs:u.cells.size=ti.size) (iz:o+ti.size<=cur.size) (h1:∀ v∈u.cells.toList,v.oneCell'=true) :
  (storeVar t ⟨b,o,none⟩ u).run P w = .ok () (w.setRow b (cur.toList.take o ++ u.cells.toList ++ cur.toList.drop (o+u.cells.toList.length)).toArray):=by
 have:=run_storeCells_at P b o ty u.cells.toList 0 cur w hh (by simp;omega) h1;simp only[Nat.add_zero]at this;simp[storeVar,hg.sizeOf ht,hs,this]
def Al (T:Ty) (t:TypeId) (cells:List AV) (j:Nat) (x:AV):Option (Prop×List AV):=match T t,gl x with
 | some ti,some cs=>some (cs.length=ti.size/\j+cs.length<=cells.length/\cs.all AV.one=true,cells.take j ++ cs ++ cells.drop (j+cs.length))
 | _,_=>none
theorem Xv (hg:Good P T) (hi:In w X G μ N a σ) {t ty:TypeId} {r j:Nat} {cells pS:List AV} {ua u:Value} {x:AV} {c:Prop} (hH:σ.H r=some (.box ty cells)) (h:Al T t cells j x=some (c,pS)) (hc:c)
  (ha:RV w X μ ua (.ref r 0 j)) (hx:RV w X μ u x):∃ w',(Instr.storeAt t ua u).run P w = .ok () w'/\In w' X G μ N a ⟨σ.env,aL σ.H r (.box ty pS)⟩/\Ev Mv w μ w' μ:=by
 unfold Al at h;split at h
 .rename_i ti cs ht hcs;simp only[Option.some.injEq,Prod.mk.injEq]at h;obtain⟨rfl,rfl⟩:=h;obtain⟨h1,h2,h3⟩:=hc;obtain⟨m,b,hm,hb,rfl⟩:=ha.ie;obtain⟨m',bU,ok⟩:=hi.aY.rows r _ hH;rw[hm]at bU;obtain rfl:=Option.some.inj bU;have hp:=aeN hx hcs
  cases ok with
  | box aT aK acN hh hn hr qs=>
   rename_i b' cur;rw[hb]at aT;obtain rfl:=Option.some.inj aT
   have acn:∀ v∈u.cells.toList,v.oneCell'=true:=by
    intro v hv;obtain⟨i,hi',rfl⟩:=List.mem_iff_getElem.1 hv
    have hi2:i < cs.length:=by rw[<- hp.size];simpa using hi'
    refine (hp.at_ i _ cs[i] (by rw[<- Array.getElem?_toList,List.getElem?_eq_getElem hi']) (by simp[hi2])).uI ?_;exact List.all_eq_true.1 h3 _ (List.getElem_mem hi2)
   have bR:=KH (P:=P) hg ht (o:=j) hh (by rw[hp.size,h1]) (by omega) acn
   have nT:u.cells.toList.length=cs.length:=by simpa using hp.size
   obtain⟨aF,aJ⟩:=hi.write (Mv:=Mv) (w':=w.setRow b (cur.toList.take j ++ u.cells.toList ++ cur.toList.drop (j+u.cells.toList.length)).toArray) hm hb (by simp) rfl rfl rfl (fun k hk=>setRow_other w b k _ hk)
    (row:=.box ty (cells.take j ++ cs ++ cells.drop (j+cs.length))) fun ev=>by
     refine .box hb rfl acN (setRow_heap w b cur _ ty _ hh) ?_ (hx:=fun e=>?_) fun i v c hv hc=>?_
     .simp[nT];omega
     rotate_left
     .have:=qs e;simp[nT];omega
     .rw[uV _ _ _ _ h2]at hc;rw[<- Array.getElem?_toList]at hv;simp only at hv;rw[uV _ _ _ _ (by rw[nT];simp;omega),nT]at hv;refine RV.same ev (fun _ _ h=>h) ?_;split at hv
      .rename_i hij;rw[if_pos hij]at hc;exact hp.at_ _ v c (by simpa using hv) hc
      .rename_i hij;rw[if_neg hij]at hc;exact hr i v c (by simpa using hv) hc
   refine⟨_,?_,aF,aJ⟩;simp only[Nat.zero_mul,Nat.zero_add];simpa[Instr.storeAt,Instr.sureAddr]using bR
 .cases h
def Am (T:Ty) (t:TypeId) (sz:Nat) (els:List (List D)) (e j:Nat) (x:AV):Option (Prop×List (List D)):=match T t,(gl x).bind iI with
 | some ti,some cs=>some (cs.length=ti.size/\e < els.length/\j+cs.length<=sz/\cs.all D.one=true,els.set e ((els.getD e []).take j ++ cs ++ (els.getD e []).drop (j+cs.length)))
 | _,_=>none
theorem Xw (hg:Good P T) (hi:In w X G μ N a σ) {t ty:TypeId} {r e j sz:Nat} {els kA:List (List D)} {ua u:Value} {x:AV} {c:Prop} (hH:σ.H r=some (.sl ty sz els)) (h:Am T t sz els e j x=some (c,kA)) (hc:c)
  (ha:RV w X μ ua (.ref r e j)) (hx:RV w X μ u x):∃ w',(Instr.storeAt t ua u).run P w = .ok () w'/\In w' X G μ N a ⟨σ.env,aL σ.H r (.sl ty sz kA)⟩/\Ev Mv w μ w' μ:=by
 unfold Am at h;split at h
 .rename_i ti ds ht hcs;obtain⟨cs,hcs,jo⟩:=Option.bind_eq_some_iff.1 hcs;simp only[Option.some.injEq,Prod.mk.injEq]at h;obtain⟨rfl,rfl⟩:=h;obtain⟨h1,h2,h3,h4⟩:=hc;obtain⟨m,b,hm,hb,rfl⟩:=ha.ie;obtain⟨m',bU,ok⟩:=hi.aY.rows r _ hH;rw[hm]at bU;obtain rfl:=Option.some.inj bU;have hp:=aeN hx hcs;rw[lF jo]at hp
  have de:u.cells.size=ds.length:=by simpa using hp.size
  have yZ:∀ (i:Nat) (v:Value) (c:D),u.cells[i]? = some v->ds[i]? = some c->RD w (XX X μ) v c:=fun i v c hv hc=>(hp.at_ i v (.d c) hv (by rw[List.getElem?_map,hc];rfl)).data
  cases ok with
  | nil aT _=>rw[hb]at aT;cases aT
  | sl aT aK hh Cg hn fc hl hz hr=>
   rename_i b' cur;rw[hb]at aT;obtain rfl:=Option.some.inj aT;subst aK
   have acn:∀ v∈u.cells.toList,v.oneCell'=true:=by
    intro v hv;obtain⟨i,hi',rfl⟩:=List.mem_iff_getElem.1 hv
    have hi2:i < ds.length:=by rw[<- de];simpa using hi'
    refine (yZ i _ ds[i] (by rw[<- Array.getElem?_toList,List.getElem?_eq_getElem hi']) (by simp[hi2])).uI ?_;exact List.all_eq_true.1 h4 _ (List.getElem_mem hi2)
   have hel:els.getD e []=els[e]:=by simp[List.getD_eq_getElem?_getD,h2]
   have hlen:(els[e]).length=m.sz:=hl _ (List.getElem_mem h2);have hE:(e+1) * m.sz<=m.cap * m.sz:=Nat.mul_le_mul_right _ (by omega);rw[Nat.add_mul]at hE;have bR:=KH (P:=P) hg ht (o:=e * m.sz+j) hh (by rw[de,h1]) (by rw[Cg];omega) acn
   have nT:u.cells.toList.length=ds.length:=by simpa using de
   rw[hel]
   obtain⟨aF,aJ⟩:=hi.write (Mv:=Mv) (w':=w.setRow b (cur.toList.take (e * m.sz+j) ++ u.cells.toList ++ cur.toList.drop (e * m.sz+j+u.cells.toList.length)).toArray) hm hb (by simp) rfl rfl rfl (fun k hk=>setRow_other w b k _ hk)
    (row:=.sl ty m.sz (els.set e ((els[e]).take j ++ ds ++ (els[e]).drop (j+ds.length)))) fun ev=>by
     refine .sl hb rfl (setRow_heap w b cur _ ty _ hh) ?_ (by simpa using hn) fc ?_ hz ?_
     .simp[nT,Cg];omega
     .intro el v7
      rcases List.mem_or_eq_of_mem_set v7 with h | rfl
      .exact hl el h
      .simp[hlen];omega
     .intro i k el c hi' hk
      have key:∀ idx,((cur.toList.take (e * m.sz+j) ++ u.cells.toList ++ cur.toList.drop (e * m.sz+j+u.cells.toList.length)).toArray)[idx]? = if e * m.sz+j<=idx/\idx < e * m.sz+j+ds.length then u.cells[idx - (e * m.sz+j)]? else cur[idx]?:=by
       intro idx;rw[<- Array.getElem?_toList];simp only;rw[uV _ _ _ _ (by rw[nT];simp[Cg];omega),nT];simp
      rw[key]
      have cr:k < m.sz:=by
       have bU:el∈els.set e ((els[e]).take j ++ ds ++ (els[e]).drop (j+ds.length)):=List.mem_of_getElem? hi'
       have:el.length=m.sz:=by
        rcases List.mem_or_eq_of_mem_set bU with h | rfl
        .exact hl el h
        .simp[hlen];omega
       have:=(List.getElem?_eq_some_iff.1 hk).1;omega
      rw[List.getElem?_set]at hi';split at hi'
      .rename_i Cm;subst Cm
       try rw[if_pos h2]at hi'
       obtain rfl:=Option.some.inj hi';rw[uV _ _ _ _ (by omega)]at hk;split at hk
       .rename_i rQ;rw[if_pos (by omega)]
        have e1:e * m.sz+k - (e * m.sz+j)=k - j:=by omega
        rw[e1]
        have ay:k - j < u.cells.size:=by omega
        exact⟨u.cells[k - j],by simp[ay],(yZ (k - j) _ c (by simp[ay]) hk).ev ev⟩
       .rename_i rQ;rw[if_neg (by omega)];obtain⟨v,hv,bC⟩:=hr e k _ c (List.getElem?_eq_getElem h2) hk;exact⟨v,hv,bC.ev ev⟩
      .rename_i Cm
       have aO:¬ (e * m.sz+j<=i * m.sz+k/\i * m.sz+k < e * m.sz+j+ds.length):=by
        rintro⟨g1,g2⟩
        rcases Nat.lt_or_gt_of_ne Cm with h | h
        .have:(e+1) * m.sz<=i * m.sz:=Nat.mul_le_mul_right _ h;rw[Nat.add_mul]at this;omega
        .have:(i+1) * m.sz<=e * m.sz:=Nat.mul_le_mul_right _ h;rw[Nat.add_mul]at this;omega
       rw[if_neg aO];obtain⟨v,hv,bC⟩:=hr i k el c hi' hk;exact⟨v,hv,bC.ev ev⟩
   refine⟨_,?_,aF,aJ⟩;simpa[Instr.storeAt,Instr.sureAddr]using bR
 .cases h
def mz (ti:TI) (n:Nat):List (List D):=List.replicate n (ab9 ti.zero)
theorem Tc (hg:Good P T) (hi:In w X G μ N a σ) {d:Nat} (hd:σ.H d=none) {t e:TypeId} {tt te:TI} (cJ:T t=some tt) (cN:tt.desc = .slice e) (cg:T e=some te) {k1 k2:IntKind} {l c:Int} (h0:0<=l) (h1:l<=c) (h2:te.bytes * c<=281474976710656) (h3:c<=9223372036854775807)
  (hz:0 < te.size) (pn:(ab9 te.zero).length=te.size) :
  ku Mv X G N w μ a ((Instr.makeSlice t (.int k1 l) (.int k2 c)).run P w) (.own d 0 l.toNat) ⟨σ.env,aL σ.H d (.sl e te.size (mz te l.toNat))⟩:=by
 obtain⟨hu,i0,js,eJ,eF,hz0,_⟩:=hg e te cg;have ht:=(hg t tt cJ).1;rw[cN]at ht;rw[run_make (P:=P) w t e i0 te.zero ht js hz0 k1 k2 l c h0 h1 (by rw[eF];exact h2) h3,eJ];refine Jn (Mv:=Mv) hi hd e ⟨fun el hel=>?_,fun i j el d hel hd=>?_⟩ hz (size_madeCells _ _) (by simp[mz]) (by omega) (by unfold maxLen;omega)
 .rw[List.eq_of_mem_replicate hel,pn]
 .unfold mz at hel;rw[List.getElem?_replicate]at hel;split at hel
  .rename_i ay;obtain rfl:=Option.some.inj hel
   have hj:j < te.size:=by rw[<- pn];exact (List.getElem?_eq_some_iff.1 hd).1
   have hzc:=u5 (w:=w) (X:=XX X μ) te.zero
   have hcs:te.zero.cells.size=te.size:=by rw[hzc.1,pn]
   have we:j < te.zero.cells.size:=by omega
   refine⟨te.zero.cells[j],?_,hzc.2 j _ d (by simp[we]) hd⟩
   have hb:i * te.size+j < c.toNat * te.size:=by
    have:(i+1) * te.size<=c.toNat * te.size:=Nat.mul_le_mul_right _ (by omega);rw[Nat.add_mul]at this;omega
   have gY:(i * te.size+j) % te.size=j:=by rw[Nat.mul_comm,Nat.mul_add_mod,Nat.mod_eq_of_lt hj]
   simp[madeCells,hb,hcs,gY];exact getElem!_pos te.zero.cells j we
  .cases hel
end
end Go.Av
namespace Go.Av
section
variable {P:Program} {T:Ty} {Mv X:Nat->Prop} {G:ao} {N:Fr} {w:World} {μ:Mu} {a:Act} {σ:St}
def ad0 (sz:Nat):Nat->List (Nat×AV)->Option (List (List D))
 | _,[]=>some []
 | k,(i,x) :: rest=>if i=k then match (gl x).bind iI with
   | some ds=>if ds.length=sz then (ad0 sz (k+1) rest).map (ds :: ·) else none
   | none=>none
  else none
theorem J2 (vs:List Value):∀ (n off:Nat) (arr:Array Value) (k:Nat),off+n+vs.length<=arr.size->
  ((vs.zipIdx n).foldl (fun cs (p:Value×Nat)=>cs.setIfInBounds (off+p.2) p.1) arr)[k]? = if off+n<=k/\k < off+n+vs.length then vs[k - (off+n)]? else arr[k]?:=by
 induction vs with
 | nil=>
  intro n off arr k _;simp only[List.zipIdx_nil,List.foldl_nil,List.length_nil];rw[if_neg (by omega)]
 | cons v vs ih=>
  intro n off arr k hk;simp only[List.length_cons]at hk;rw[List.zipIdx_cons,List.foldl_cons,ih (n+1) off _ k (by simp;omega)];simp only[List.length_cons];by_cases h1:k=off+n
  .subst h1;rw[if_neg (by omega),if_pos (by omega)];simp[Array.getElem?_setIfInBounds,show off+n < arr.size by omega]
  .by_cases h2:off+(n+1)<=k/\k < off+(n+1)+vs.length
   .rw[if_pos h2,if_pos (by omega)]
    have:k - (off+n)=(k - (off+(n+1)))+1:=by omega
    rw[this];rfl
   .rw[if_neg h2,if_neg (by omega)];exact Array.getElem?_setIfInBounds_ne (by omega)
theorem J3 (vs:List Value):∀ (n off:Nat) (arr:Array Value),((vs.zipIdx n).foldl (fun cs (p:Value×Nat)=>cs.setIfInBounds (off+p.2) p.1) arr).size=arr.size:=by
 induction vs with
 | nil=>intros;rfl
 | cons v vs ih=>intro n off arr;rw[List.zipIdx_cons,List.foldl_cons,ih];simp
theorem Gv {sz:Nat}:∀ (ps:List (Nat×AV)) (vs:List (Nat×Value)) (k:Nat) (els:List (List D)) (arr:Array Value),ad0 sz k ps=some els->vs.map (·.1)=ps.map (·.1)->
  (∀ (i:Nat) (p:Nat×AV) (v:Nat×Value),ps[i]? = some p->vs[i]? = some v->RV w X μ v.2 p.2)->(k+ps.length) * sz<=arr.size->
  ∃ acD,Instr.fill (fun i=>some (i * sz,sz)) arr vs=some acD/\acD.size=arr.size/\(∀ idx,idx < k * sz->acD[idx]? = arr[idx]?)/\els.length=ps.length/\(∀ el∈els,el.length=sz)/\
   ∀ (i j:Nat) (el:List D) (c:D),els[i]? = some el->el[j]? = some c->∃ u,acD[(k+i) * sz+j]? = some u/\RD w (XX X μ) u c:=by
 intro ps
 induction ps with
 | nil=>
  intro vs k els arr h hv _ _
  cases vs with
  | cons _ _=>simp at hv
  | nil=>
   simp only[ad0,Option.some.injEq]at h;subst h;exact⟨arr,rfl,rfl,fun _ _=>rfl,rfl,by simp,by simp⟩
 | cons p ps ih=>
  intro vs k els arr h hv hr hs;obtain⟨i,x⟩:=p
  cases vs with
  | nil=>simp at hv
  | cons v vs=>
   obtain⟨i',u⟩:=v;simp only[List.map_cons,List.cons.injEq]at hv;obtain⟨rfl,hv⟩:=hv;simp only[ad0]at h;split at h
   case isFalse=>cases h
   rename_i wb;subst wb;split at h
   case h_2=>cases h
   rename_i ds jo;split at h
   case isFalse=>cases h
   rename_i hlen;obtain⟨kA,rG,rfl⟩:=Option.map_eq_some_iff.1 h;obtain⟨cs,hcs,bB⟩:=Option.bind_eq_some_iff.1 jo;have hp:=aeN (hr 0 (i',x) (i',u) rfl rfl) hcs;rw[lF bB]at hp
   have de:u.cells.size=sz:=by have:=hp.size;simp at this;omega
   have yZ:∀ (j:Nat) (v:Value) (c:D),u.cells[j]? = some v->ds[j]? = some c->RD w (XX X μ) v c:=fun j v c hv hc=>(hp.at_ j v (.d c) hv (by rw[List.getElem?_map,hc];rfl)).data
   have iz:i' * sz+sz<=arr.size:=by
    simp only[List.length_cons]at hs;have:(i'+1) * sz<=(i'+(ps.length+1)) * sz:=Nat.mul_le_mul_right _ (by omega);rw[Nat.add_mul]at this;omega
   let im:=(u.cells.zipIdx.foldl (fun cs (p:Value×Nat)=>cs.setIfInBounds (i' * sz+p.2) p.1) arr)
   have aeV:im=((u.cells.toList.zipIdx 0).foldl (fun cs (p:Value×Nat)=>cs.setIfInBounds (i' * sz+p.2) p.1) arr):=by
    show Array.foldl _ _ _=_;rw[<- Array.foldl_toList,Array.toList_zipIdx]
   have y4:im.size=arr.size:=by rw[aeV];exact J3 _ _ _ _
   have afi:∀ k,im[k]? = if i' * sz<=k/\k < i' * sz+sz then u.cells[k - i' * sz]? else arr[k]?:=by
    intro k;rw[aeV,J2 _ 0 _ _ _ (by simp[de];omega)];simp[de]
   obtain⟨acD,hf,qn,hold,hlen',B5,jv⟩:=ih vs (i'+1) kA im rG hv (fun i p v h1 h2=>hr (i+1) p v (by simpa using h1) (by simpa using h2)) (by rw[y4];simp only[List.length_cons]at hs;rw[show i'+1+ps.length=i'+(ps.length+1) by omega];exact hs);refine⟨acD,?_,qn.trans y4,fun idx yQ=>?_,by simp[hlen'],fun el hel=>?_,fun i j el c hi hj=>?_⟩
   .simp only[Instr.fill]
    have:¬ (u.cells.size≠sz\/i' * sz+u.cells.size > arr.size):=by omega
    simp only[de,ne_eq,not_true_eq_false,decide_false,Bool.false_or,decide_eq_true_eq];rw[if_neg (by omega)];exact hf
   .rw[hold idx (by rw[Nat.add_mul];omega),afi,if_neg (by omega)]
   .rcases List.mem_cons.1 hel with rfl | h
    .exact hlen
    .exact B5 el h
   .cases i with
    | zero=>
     simp at hi;subst hi
     have hj':j < sz:=by rw[<- hlen];exact (List.getElem?_eq_some_iff.1 hj).1
     have Hv:j < u.cells.size:=by omega
     refine⟨u.cells[j],?_,yZ j _ c (by simp[Hv]) hj⟩;rw[Nat.add_zero,hold _ (by rw[Nat.add_mul];omega),afi,if_pos (by omega)];simp[Hv]
    | succ i=>
     simp at hi;have:=jv i j el c hi hj
     rwa [show i'+1+i=i'+(i+1) by omega]at this
theorem M9 (hg:Good P T) (hi:In w X G μ N a σ) {d:Nat} (hd:σ.H d=none) {t e:TypeId} {tt te:TI} (cJ:T t=some tt) (cN:tt.desc = .slice e) (cg:T e=some te) {len:Nat} {ps:List (Nat×AV)} {vs:Array (Nat×Value)} {els:List (List D)}
  (PW:ad0 te.size 0 ps=some els) (hlen:ps.length=len) (hv:vs.toList.map (·.1)=ps.map (·.1)) (hr:∀ (i:Nat) (p:Nat×AV) (v:Nat×Value),ps[i]? = some p->vs[i]? = some v->RV w X μ v.2 p.2)
  (hz:0 < te.size) (HV:len * te.size<=16777216) :
  ku Mv X G N w μ a ((Instr.buildSlice t len vs).run P w) (.own d 0 len) ⟨σ.env,aL σ.H d (.sl e te.size els)⟩:=by
 have hu:=hg.cC (w:=w) cJ;have aK:=hg.sizeOf (w:=w) cg;have wO:=hg.zero (w:=w) cg
 obtain⟨acD,hf,qn,_,hl,bB,jv⟩:=Gv (w:=w) (X:=X) (μ:=μ) (sz:=te.size) ps vs.toList 0 els ((Array.range (len * te.size)).map ((if len * te.size=0 then #[] else te.zero.cells)[· % (if len * te.size=0 then #[] else te.zero.cells).size]!)) PW hv
  (fun i p v h1 h2=>hr i p v h1 (by rwa [Array.getElem?_toList]at h2)) (by simp[hlen])
 have:=Jn (Mv:=Mv) hi hd e (cur:=acD) (sz:=te.size) (n:=len) (cap:=len) (els:=els) ⟨bB,fun i j el c h1 h2=>by simpa using jv i j el c h1 h2⟩ hz (by rw[qn];simp) (by omega) (Nat.le_refl _) (by
  have:len<=len * te.size:=Nat.le_mul_of_pos_right _ hz
  unfold maxLen;omega)
 have hn:¬ len * te.size > 2 ^ 24:=by omega
 have e0:∀ f:Nat->Value,(Array.range 0).map f = #[]:=fun f=>by apply Array.ext<;>simp
 by_cases h0:len * te.size=0
 .simp only[h0,if_true,e0]at hf;simp only[Instr.buildSlice,Sem.run_bind,hu,cN,Result.andThen_ok,aK,hn,if_false,h0,if_true,Sem.run_pure,e0];simp[hf,newRow];exact this
 .simp only[h0,if_false]at hf;simp only[Instr.buildSlice,Sem.run_bind,hu,cN,Result.andThen_ok,aK,hn,if_false,h0,Sem.run_pure,wO];simp[hf,newRow];exact this
def aeB (pl:Nat->Option (Nat×Nat)):List AV->List (Nat×AV)->Option (List AV)
 | cs,[]=>some cs
 | cs,(i,x) :: rest=>match pl i,gl x with
  | some (off,sz),some xs=>if xs.length=sz/\off+sz<=cs.length then aeB pl (cs.take off ++ xs ++ cs.drop (off+sz)) rest else none
  | _,_=>none
theorem OC {pl:Nat->Option (Nat×Nat)}:∀ (ps:List (Nat×AV)) (vs:List (Nat×Value)) (cs vp:List AV) (arr:Array Value),aeB pl cs ps=some vp->vs.map (·.1)=ps.map (·.1)->
  (∀ (i:Nat) (p:Nat×AV) (v:Nat×Value),ps[i]? = some p->vs[i]? = some v->RV w X μ v.2 p.2)->vd w X μ arr cs->∃ acD,Instr.fill pl arr vs=some acD/\vd w X μ acD vp:=by
 intro ps
 induction ps with
 | nil=>
  intro vs cs vp arr h hv _ hp
  cases vs with
  | cons _ _=>simp at hv
  | nil=>
   simp only[aeB,Option.some.injEq]at h;subst h;exact⟨arr,rfl,hp⟩
 | cons p ps ih=>
  intro vs cs vp arr h hv hr hp;obtain⟨i,x⟩:=p
  cases vs with
  | nil=>simp at hv
  | cons v vs=>
   obtain⟨i',u⟩:=v;simp only[List.map_cons,List.cons.injEq]at hv;obtain⟨rfl,hv⟩:=hv;simp only[aeB]at h;split at h
   case h_2=>cases h
   rename_i off sz xs de RN;split at h
   case isFalse=>cases h
   rename_i hc;obtain⟨fZ,iz⟩:=hc;have HM:=aeN (hr 0 (i',x) (i',u) rfl rfl) RN
   have Db:u.cells.size=sz:=by rw[HM.size,fZ]
   have Y8:arr.size=cs.length:=hp.size
   let im:=(u.cells.zipIdx.foldl (fun cs (p:Value×Nat)=>cs.setIfInBounds (off+p.2) p.1) arr)
   have aeV:im=((u.cells.toList.zipIdx 0).foldl (fun cs (p:Value×Nat)=>cs.setIfInBounds (off+p.2) p.1) arr):=by
    show Array.foldl _ _ _=_;rw[<- Array.foldl_toList,Array.toList_zipIdx]
   have y4:im.size=arr.size:=by rw[aeV];exact J3 _ _ _ _
   have afi:∀ k,im[k]? = if off<=k/\k < off+sz then u.cells[k - off]? else arr[k]?:=by
    intro k;rw[aeV,J2 _ 0 _ _ _ (by simp[Db];omega)];simp[Db]
   have eh:vd w X μ im (cs.take off ++ xs ++ cs.drop (off+sz)):=by
    refine⟨by rw[y4];simp;omega,fun j v c r7 hc=>?_⟩;rw[afi]at r7
    have fo:(List.take off cs).length=off:=by simp;omega
    rw[List.append_assoc,List.getElem?_append,fo]at hc;split at hc
    .rename_i hj;rw[if_neg (by omega)]at r7;rw[List.getElem?_take,if_pos hj]at hc;exact hp.at_ j v c r7 hc
    .rename_i hj;rw[List.getElem?_append,fZ]at hc;split at hc
     .rename_i hj2;rw[if_pos (by omega)]at r7;exact HM.at_ _ v c r7 hc
     .rename_i hj2;rw[if_neg (by omega)]at r7;rw[List.getElem?_drop]at hc;refine hp.at_ j v c r7 ?_;rw[<- hc];congr 1;omega
   obtain⟨acD,hf,Ra⟩:=ih vs _ vp im h hv (fun i p v h1 h2=>hr (i+1) p v (by simpa using h1) (by simpa using h2)) eh;refine⟨acD,?_,Ra⟩;simp only[Instr.fill,de,Db,ne_eq,not_true_eq_false,decide_false,Bool.false_or,decide_eq_true_eq];rw[if_neg (by omega)];exact hf
def Eh (T:Ty) (t:TypeId):Option (Nat->Option (Nat×Nat)):=match T t with
 | some ti=>match ti.desc with
  | .struct fs=>if fs.toList.all (fun f=>(T f.type).isSome) then some fun i=>(fs[i]?).bind fun (f:Field)=>(T f.type).map fun tf=>(f.offset,tf.size) else none
  | .array _ e=>(T e).map fun te=>fun i=>some (i * te.size,te.size)
  | _=>none
 | none=>none
def xZ (T:Ty) (t:TypeId) (ps:List (Nat×AV)):Ans:=match T t,Eh T t with
 | some ti,some pl=>(aeB pl ((ab9 ti.zero).map .d) ps).map fun cs=>(True,lZ cs)
 | _,_=>none
theorem run_places (hg:Good P T):∀ (l:List Field),l.all (fun f=>(T f.type).isSome)=true->
  (l.mapM (m:=Sem) fun (f:Field)=>do pure (f.offset,<- Go.sizeOf f.type)).run P w = .ok (l.map fun (f:Field)=>(f.offset,((T f.type).map (·.size)).getD 0)) w:=by
 intro l
 induction l with
 | nil=>intro _;simp
 | cons f l ih=>
  intro h;simp only[List.all_cons,Bool.and_eq_true]at h;obtain⟨ti,C8⟩:=Option.isSome_iff_exists.1 h.1;simp only[List.mapM_cons,Sem.run_bind,hg.sizeOf C8,Result.andThen_ok,Sem.run_pure,ih h.2,List.map_cons,C8,Option.map_some,Option.getD_some]
theorem M8 (hg:Good P T) {t:TypeId} {ps:List (Nat×AV)} {vs:Array (Nat×Value)} {c:Prop} {x:AV} (h:xZ T t ps=some (c,x)) (hv:vs.toList.map (·.1)=ps.map (·.1))
  (hr:∀ (i:Nat) (p:Nat×AV) (v:Nat×Value),ps[i]? = some p->vs[i]? = some v->RV w X μ v.2 p.2):∃ u,(Instr.build t vs).run P w = .ok u w/\RV w X μ u x:=by
 unfold xZ at h;split at h
 case h_2=>cases h
 rename_i ti pl ht de;obtain⟨cs,hcs,he⟩:=Option.map_eq_some_iff.1 h;simp only[Prod.mk.injEq]at he;obtain⟨_,rfl⟩:=he;have hz:=u5 (w:=w) (X:=XX X μ) ti.zero;obtain⟨acD,hf,hp⟩:=OC (w:=w) (X:=X) (μ:=μ) ps vs.toList _ cs ti.zero.cells hcs hv (fun i p v h1 h2=>hr i p v h1 (by rwa [Array.getElem?_toList]at h2)) ⟨by simpa using hz.1,RV.uC hz.2⟩;refine⟨.agg acD,?_,wX (.agg hp.size hp.at_)⟩;unfold Eh at de;rw[ht]at de;dsimp only at de;split at de
 .rename_i fs Qm;split at de
  .rename_i bB;obtain rfl:=Option.some.inj de;have hm:=run_places (P:=P) (w:=w) hg fs.toList bB
   have Rc:(fun (i:Nat)=>((fs.toList.map fun (f:Field)=>(f.offset,((T f.type).map (·.size)).getD 0)).toArray)[i]?)=fun (i:Nat)=>(fs[i]?).bind fun (f:Field)=>(T f.type).map fun tf=>(f.offset,tf.size):=by
    funext i;simp only[List.getElem?_toArray,List.getElem?_map,Array.getElem?_toList]
    cases hi:fs[i]? with
    | none=>rfl
    | some f=>
     have jP:f∈fs.toList:=by rw[<- Array.getElem?_toList]at hi;exact List.mem_of_getElem? hi
     obtain⟨tf,y5⟩:=Option.isSome_iff_exists.1 (List.all_eq_true.1 bB f jP);simp[y5]
   simp only[Instr.build,Sem.run_bind,hg.zero ht,hg.cC ht,Qm,Result.andThen_ok,Array.mapM_eq_mapM_toList,map_eq_pure_bind,hm,Sem.run_pure];rw[<- Rc]at hf;simp only[hf,Sem.run_pure]
  .cases de
 .rename_i n e he;obtain⟨te,cg,de⟩:=Option.map_eq_some_iff.1 de;subst de;simp[Instr.build,Sem.run_bind,hg.zero ht,hg.cC ht,he,Result.andThen_ok,hg.sizeOf cg,hf]
 .cases de
structure ot (w:World) (X:Nat->Prop) (μ:Mu) (sz:Nat) (u:Value) (els:List (List D)):Prop where
 len:∀ el∈els,el.length=sz
 at_:(els=[]/\∃ (ad:Option Addr) (cap:Nat),u = .slice ad 0 cap)\/∃ (ad:Addr) (cap:Nat) (news:List Value),u = .slice (some ad) els.length cap/\news.length=els.length * sz/\(∀ (j:Nat) (v:Value),news[j]? = some v->w.cell? (ad.add j)=some v)/\(∀ v∈news,v.oneCell'=true)/\
  ∀ (i j:Nat) (el:List D) (c:D),els[i]? = some el->el[j]? = some c->∃ v,news[i * sz+j]? = some v/\RD w (XX X μ) v c
theorem ot.D1 {sz:Nat} {els:List (List D)} {b off cap:Nat} (f:Nat->Nat->Value) (hl:∀ el∈els,el.length=sz) (hz:0 < sz) (h1:∀ el∈els,∀ c∈el,D.one c=true)
  (abf:∀ i j,i < els.length->j < sz->w.cell? ⟨b,off+(i * sz+j),none⟩=some (f i j)) (hr:∀ (i j:Nat) (el:List D) (c:D),els[i]? = some el->el[j]? = some c->RD w (XX X μ) (f i j) c) :
  ot w X μ sz (.slice (some ⟨b,off,none⟩) els.length cap) els:=by
 refine⟨hl,.inr ⟨_,_,(List.range (els.length * sz)).map fun k=>f (k / sz) (k % sz),rfl,by simp,fun j v hv=>?_,fun v hv=>?_,fun i j el c hi hj=>?_⟩⟩
 .rw[List.getElem?_map]at hv;obtain⟨k,hk,rfl⟩:=Option.map_eq_some_iff.1 hv;rw[List.getElem?_range]at hk
  .obtain rfl:=Option.some.inj hk
   have QE:j < els.length * sz:=by
    rcases Nat.lt_or_ge j (els.length * sz)with h | h
    .exact h
    .rw[List.getElem?_eq_none (by simpa using h)]at hv;cases hv
   have h2:j / sz < els.length:=(Nat.div_lt_iff_lt_mul hz).2 QE;have h3:j % sz < sz:=Nat.mod_lt _ hz;rw[addr_add,<- abf (j / sz) (j % sz) h2 h3,Nat.div_add_mod']
  .rcases Nat.lt_or_ge j (els.length * sz)with h | h
   .exact h
   .rw[List.getElem?_eq_none (by simpa using h)]at hv;cases hv
 .obtain⟨k,hk,rfl⟩:=List.mem_map.1 hv;have hk:=List.mem_range.1 hk;have h2:k / sz < els.length:=(Nat.div_lt_iff_lt_mul hz).2 hk
  have h3:k % sz < (els[k / sz]).length:=by rw[hl _ (List.getElem_mem h2)];exact Nat.mod_lt _ hz
  exact (hr (k / sz) (k % sz) _ _ (List.getElem?_eq_getElem h2) (List.getElem?_eq_getElem h3)).uI (h1 _ (List.getElem_mem h2) _ (List.getElem_mem h3))
 .have hi':=(List.getElem?_eq_some_iff.1 hi).1;have hel:el.length=sz:=hl _ (List.mem_of_getElem? hi)
  have hj':j < sz:=by rw[<- hel];exact (List.getElem?_eq_some_iff.1 hj).1
  have hb:i * sz+j < els.length * sz:=by
   have:(i+1) * sz<=els.length * sz:=Nat.mul_le_mul_right _ hi';rw[Nat.add_mul]at this;omega
  have e1:(i * sz+j) / sz=i:=by rw[Nat.mul_comm,Nat.mul_add_div hz,Nat.div_eq_of_lt hj'];rfl
  have e2:(i * sz+j) % sz=j:=by rw[Nat.mul_comm,Nat.mul_add_mod,Nat.mod_eq_of_lt hj']
  refine⟨f i j,?_,hr i j el c hi hj⟩;rw[List.getElem?_map,List.getElem?_range hb];simp[e1,e2]
def jz (H:Heap) (r:Nat):AV->Option (List (List D))
 | .d (.sl _ els)=>some els
 | .own q off n=>if q=r then none else match H q with
  | some (.sl _ _ els)=>if off+n<=els.length then some ((els.drop off).take n) else none
  | _=>none
 | _=>none
theorem zC (hs:Sim w X μ σ.H) {r sz:Nat} {u:Value} {x:AV} {els:List (List D)} (hx:RV w X μ u x) (h:jz σ.H r x=some els) (hl:∀ el∈els,el.length=sz) (hz:0 < sz) (h1:∀ el∈els,∀ c∈el,D.one c=true):ot w X μ sz u els:=by
 unfold jz at h;split at h
 .rename_i k0 NY;obtain rfl:=Option.some.inj h
  rcases hx.data.mD with⟨rfl,rfl,_⟩ | ⟨ad,cap,rfl,_,_,_,hr⟩
  .exact⟨by simp,.inl ⟨rfl,_,_,rfl⟩⟩
  .rcases hr with rfl | ⟨b,off,An,f,rfl,hX,hz',bB,abf,iD⟩
   .exact⟨by simp,.inl ⟨rfl,_,_,rfl⟩⟩
   .by_cases he:NY=[]
    .subst he;exact⟨by simp,.inl ⟨rfl,_,_,rfl⟩⟩
    .obtain⟨el,hel⟩:=List.exists_mem_of_ne_nil _ he
     have:An=sz:=by rw[<- bB el hel,hl el hel]
     subst this;exact ot.D1 f hl hz h1 abf iD
 .rename_i q off n;split at h
  .cases h
  .split at h
   .rename_i ty ZA yb hq;split at h
    .rename_i hle;obtain rfl:=Option.some.inj h;obtain⟨m,hm,hh⟩:=hx.jd;obtain⟨m',bU,ok⟩:=hs.rows q _ hq;rw[hm]at bU;obtain rfl:=Option.some.inj bU
     rcases hh with⟨hb,rfl,rfl,rfl⟩ | ⟨b,hb,rfl,acN⟩
     .exact⟨by simp,.inl ⟨by simp,_,_,rfl⟩⟩
     .cases ok with
      | nil aT _=>rw[aT]at hb;cases hb
      | sl aT aK hh hcs hn fc rT Zo hr=>
       rename_i b' cur;rw[hb]at aT;obtain rfl:=Option.some.inj aT;subst aK;by_cases h0:n=0
       .subst h0;exact⟨by simp,.inl ⟨by simp,_,_,rfl⟩⟩
       .have hlen:((yb.drop off).take n).length=n:=by simp;omega
        have jP:∀ el∈(yb.drop off).take n,el∈yb:=fun el hel=>List.mem_of_mem_drop (List.mem_of_mem_take hel)
        have aO:(yb.drop off).take n≠[]:=by intro e;rw[e]at hlen;simp at hlen;omega
        obtain⟨Bw,Hm⟩:=List.exists_mem_of_ne_nil _ aO
        have Rx:sz=m.sz:=by rw[<- hl Bw Hm,rT Bw (jP Bw Hm)]
        subst Rx
        have:=ot.D1 (w:=w) (X:=X) (μ:=μ) (b:=b) (off:=off * m.sz) (cap:=m.cap - off) (fun i j=>cur.getD ((off+i) * m.sz+j) undef) hl hz h1 (fun i j hi hj=>by
         rw[hlen]at hi
         have ay:(off+i) * m.sz+j < cur.size:=by
          rw[hcs];have:(off+i+1) * m.sz<=m.cap * m.sz:=Nat.mul_le_mul_right _ (by omega);rw[Nat.add_mul]at this;omega
         have e1:off * m.sz+(i * m.sz+j)=(off+i) * m.sz+j:=by rw[Nat.add_mul];omega
         rw[e1,cell_of_row w b _ cur ty (0,0) hh]
         simp[Array.getD_eq_getD_getElem?,ay]) (fun i j el c hel hc=>by
         rw[List.getElem?_take]at hel;split at hel
         .rw[List.getElem?_drop]at hel;obtain⟨u',kN,bC⟩:=hr (off+i) j el c hel hc;simpa[Array.getD_eq_getD_getElem?,kN]using bC
         .cases hel)
        rwa [hlen]at this
    .cases h
   .cases h
 .cases h
theorem WU {t ty e:TypeId} {tt te:TI} (hg:Good P T) (cJ:T t=some tt) (cN:tt.desc = .slice e) (cg:T e=some te) (base ad:Option Addr) (n cap c:Nat) (hn:n<=cap) :
  (Builtin.append_ #[t,t] ty #[.slice base n cap,.slice ad 0 c]).run P w = .ok (.slice base n cap) w:=by
 have hu:=hg.cC (w:=w) cJ;have aK:=hg.sizeOf (w:=w) cg;cases ad<;>cases base<;>simp[Builtin.append_,hu,cN,aK,Builtin.lenOf,hn,Builtin.firstCells,loadCells,loadCellsFrom,storeCells]
def Rel (w:World) (X:Nat->Prop) (μ:Mu) (sz:Nat) (l:List Value) (els:List (List D)):Prop:=
 ∀ (i j:Nat) (el:List D) (c:D),els[i]? = some el->el[j]? = some c->∃ v,l[i * sz+j]? = some v/\RD w (XX X μ) v c
theorem Rel.append {sz:Nat} {l l':List Value} {A B:List (List D)} (h:Rel w X μ sz l A) (hl:l.length=A.length * sz) (hA:∀ el∈A,el.length=sz) (h':Rel w X μ sz l' B):Rel w X μ sz (l ++ l') (A ++ B):=by
 intro i j el c hi hj;rw[List.getElem?_append]at hi;split at hi
 .rename_i ay;obtain⟨v,hv,hr⟩:=h i j el c hi hj;exact⟨v,by rw[List.getElem?_append_left (List.getElem?_eq_some_iff.1 hv).1];exact hv,hr⟩
 .rename_i qb;obtain⟨v,hv,hr⟩:=h' _ j el c hi hj;refine⟨v,?_,hr⟩
  have e1:(i - A.length) * sz+j=i * sz+j - l.length:=by
   have:A.length * sz<=i * sz:=Nat.mul_le_mul_right _ (by omega);rw[hl,Nat.sub_mul];omega
  rw[List.getElem?_append_right,<- e1]
  .exact hv
  .have:A.length * sz<=i * sz:=Nat.mul_le_mul_right _ (by omega);omega
theorem Rel.more {sz:Nat} {l l':List Value} {A:List (List D)} (h:Rel w X μ sz l A):Rel w X μ sz (l ++ l') A:=by
 intro i j el c hi hj;obtain⟨v,hv,hr⟩:=h i j el c hi hj;exact⟨v,by rw[List.getElem?_append_left (List.getElem?_eq_some_iff.1 hv).1];exact hv,hr⟩
theorem FA (hg:Good P T) (hi:In w X G μ N a σ) {r n:Nat} (eH:Mv r) {t ty e:TypeId} {tt te:TI} (cJ:T t=some tt) (cN:tt.desc = .slice e) (cg:T e=some te) {els news:List (List D)} {u v:Value}
  (hH:σ.H r=some (.sl e te.size els)) (hle:n<=els.length) (hu:RV w X μ u (.own r 0 n)) (hn:ot w X μ te.size v news) (hz:0 < te.size) (pn:(ab9 te.zero).length=te.size)
  (yy:n+news.length<=maxLen) (hb:(n+news.length) * te.bytes<=140737488355328) :
  ku Mv X G N w μ a ((Builtin.append_ #[t,t] ty #[u,v]).run P w) (.own r 0 (n+news.length)) ⟨aa6 r σ.env,aL (cQ r σ.H) r (.sl e te.size (els.take n ++ news))⟩:=by
 obtain⟨m,hm,hh⟩:=hu.jd;obtain⟨m',bU,ok⟩:=hi.aY.rows r _ hH;rw[hm]at bU;obtain rfl:=Option.some.inj bU;obtain⟨r6,i0,js,eJ,eF,hz0,_⟩:=hg e te cg;have ht:=(hg t tt cJ).1;rw[cN]at ht;have hzc:=u5 (w:=w) (X:=XX X μ) te.zero
 have P4:te.zero.cells.size=te.size:=by rw[hzc.1,pn]
 have aei:∀ el∈els,el.length=te.size:=by
  cases ok with
  | nil=>simp
  | sl _ _ _ _ _ _ hl=>exact hl
 have aeY:∀ el∈els.take n ++ news,el.length=te.size:=by
  intro el hel
  rcases List.mem_append.1 hel with h | h
  .exact aei el (List.mem_of_mem_take h)
  .exact hn.len el h
 by_cases aO:news=[]
 .-- nothing is appended
  subst aO
  have hv:∃ ad c,v = .slice ad 0 c:=by
   rcases hn.at_ with⟨_,ad,cap,rfl⟩ | ⟨ad,cap,nws,rfl,_⟩
   .exact⟨_,_,rfl⟩
   .exact⟨_,_,rfl⟩
  obtain⟨ad,c,rfl⟩:=hv
  have acS:∃ base c,u = .slice base n c/\n<=c:=by
   rcases hh with⟨_,rfl,_,rfl⟩ | ⟨b,_,rfl,acN⟩
   .exact⟨_,_,rfl,Nat.le_refl _⟩
   .exact⟨_,_,rfl,by omega⟩
  obtain⟨base,c',wH,CP⟩:=acS;have bR:=WU (P:=P) (w:=w) (ty:=ty) hg cJ cN cg base ad n c' c CP;rw[wH,bR]
  obtain⟨aF,aJ⟩:=hi.move (Mv:=Mv) (w':=w) (m':=m) hm eH (Nat.le_refl _) rfl rfl rfl (fun _ _ _=>rfl) (fun b hb=>.inr hb) (row:=.sl e te.size (els.take n ++ [])) fun ev=>by
   rw[List.append_nil]
   cases ok with
   | nil cY cm=>rw[List.take_nil];exact .nil cY cm
   | sl g1 g2 g3 g4 g5 g6 g7 g8 g9=>
    refine .sl g1 g2 g3 g4 (by simp;omega) g6 (fun el hel=>g7 el (List.mem_of_mem_take hel)) g8 fun i j el c hel hc=>?_;rw[List.getElem?_take]at hel;split at hel
    .obtain⟨v,hv,bC⟩:=g9 i j el c hel hc;exact⟨v,hv,bC.ev ev⟩
    .cases hel
  refine⟨_,_,_,rfl,aF,.own (m:=m) (by simp[cR]) ?_,aJ⟩;rw[<- wH];exact hh
 .have HJ:0 < news.length:=List.length_pos_iff.2 aO
  rcases hn.at_ with⟨h,_⟩ | ⟨ad,cap,nws,rfl,hnl,wv,wu,jQ⟩
  .exact absurd h aO
  have HV:n+news.length<=9223372036854775807:=by simp only[maxLen]at yy;omega
  have ae1:∀ (xs:List Value) (fO:Nat),xs.length=n * te.size->Rel w X μ te.size xs (els.take n)->n+news.length<=fO->fO<=maxLen->
    ku Mv X G N w μ a (.ok (.slice (some ⟨w.heap.size,0,none⟩) (n+news.length) fO) (w.drew.alloc (.cells (xs.toArray ++ nws.toArray ++ Builtin.zeroCells te.zero.cells (fO - (n+news.length))) e)))
     (.own r 0 (n+news.length)) ⟨aa6 r σ.env,aL (cQ r σ.H) r (.sl e te.size (els.take n ++ news))⟩:=by
   intro xs fO fZ pj fk fU
   have kf:bY w (w.drew.alloc (.cells (xs.toArray ++ nws.toArray ++ Builtin.zeroCells te.zero.cells (fO - (n+news.length))) e)):=by
    have h1:=bY.alloc w.drew (.cells (xs.toArray ++ nws.toArray ++ Builtin.zeroCells te.zero.cells (fO - (n+news.length))) e);exact⟨h1.size,h1.os,h1.tape,h1.output,h1.same⟩
   have aK:(xs.toArray ++ nws.toArray ++ Builtin.zeroCells te.zero.cells (fO - (n+news.length))).size=fO * te.size:=by
    simp only[Array.size_append,List.size_toArray,size_zeroCells,P4,fZ,hnl,<- Nat.add_mul];congr 1;omega
   obtain⟨aF,aJ⟩:=hi.move (Mv:=Mv) (w':=w.drew.alloc (.cells (xs.toArray ++ nws.toArray ++ Builtin.zeroCells te.zero.cells (fO - (n+news.length))) e)) (m':=⟨some w.heap.size,te.size,fO⟩) hm eH kf.size kf.os kf.tape kf.output
    (fun k hk _=>kf.same k hk) (fun b hb=>by simp at hb;omega) (row:=.sl e te.size (els.take n ++ news)) fun ev=>by
     refine .sl rfl rfl (by simpa using heap_alloc_new w.drew (.cells (xs.toArray ++ nws.toArray ++ Builtin.zeroCells te.zero.cells (fO - (n+news.length))) e)) aK (by simp;omega) fU aeY hz fun i j el c hi hj=>?_;have hrel:=((pj.append (by rw[fZ,List.length_take,Nat.min_eq_left hle]) (fun el hel=>aei el (List.mem_of_mem_take hel)) jQ).more (l':=(Builtin.zeroCells te.zero.cells (fO - (n+news.length))).toList)) i j el c hi hj;obtain⟨v,hv,bC⟩:=hrel;refine⟨v,?_,bC.ev ev⟩;rw[<- Array.getElem?_toList];simpa using hv
   exact⟨_,_,_,rfl,aF,.own (m:=⟨some w.heap.size,te.size,fO⟩) (by simp[cR]) (.inr ⟨w.heap.size,rfl,by simp,by simpa using fk⟩),aJ⟩
  rcases hh with⟨hbk,rfl,_,rfl⟩ | ⟨b,hbk,rfl,acN⟩
  .have hr:=run_append_nil (P:=P) w t ty e i0 te.zero ht js hz0 ad news.length cap nws (by rw[hnl,eJ]) wv HJ (by omega) (by rw[eF];simp only[Nat.zero_add]at hb;omega);rw[hr];have:=ae1 [] (grownCap w news.length 0 e) (by simp) (by intro i j el c hi;simp at hi) (by have:=grownCap_ge w news.length 0 e;omega) (grownCap_le_maxLen w news.length 0 e (by unfold maxLen;omega));simpa using this
  .cases ok with
   | nil aT _=>rw[aT]at hbk;cases hbk
   | sl aT aK nM hcs kI fc hl hz' hr=>
    rename_i b' cur;rw[hbk]at aT;obtain rfl:=Option.some.inj aT
    have Cd:n<=m.cap:=by omega
    have hmul:n * te.size<=m.cap * te.size:=Nat.mul_le_mul_right _ Cd
    have fZ:(cur.toList.take (n * te.size)).length=n * te.size:=by rw[List.length_take,Array.length_toList,hcs,Nat.min_eq_left hmul]
    have pj:Rel w X μ te.size (cur.toList.take (n * te.size)) (els.take n):=by
     intro i j el c hel hc;rw[List.getElem?_take]at hel;split at hel
     .rename_i aF;obtain⟨v,hv,bC⟩:=hr i j el c hel hc;have v7:el.length=te.size:=hl _ (List.mem_of_getElem? hel)
      have hj:j < te.size:=by rw[<- v7];exact (List.getElem?_eq_some_iff.1 hc).1
      refine⟨v,?_,bC⟩;rw[List.getElem?_take,if_pos]
      .simpa using hv
      .have:(i+1) * te.size<=n * te.size:=Nat.mul_le_mul_right _ aF;rw[Nat.add_mul]at this;omega
     .cases hel
    by_cases tW:n+news.length<=m.cap
    .have iz:n * te.size+nws.length<=cur.size:=by rw[hnl,hcs,<- Nat.add_mul];exact Nat.mul_le_mul_right _ tW
     have bR:=run_append_room (P:=P) w t ty e i0 ht js b n m.cap cur nM ad news.length cap nws (by rw[hnl,eJ]) wv wu tW (by rw[eJ];exact iz);simp only[Nat.zero_mul,Nat.sub_zero];rw[bR,eJ]
     obtain⟨aF,aJ⟩:=hi.move (Mv:=Mv) (w':=w.setRow b (cur.toList.take (n * te.size) ++ nws ++ cur.toList.drop (n * te.size+nws.length)).toArray) (m':=m) hm eH (by simp) rfl rfl rfl
      (fun k hk CQ=>setRow_other w b k _ fun e'=>CQ (by rw[hbk,e'])) (fun b hb=>.inr hb) (row:=.sl e te.size (els.take n ++ news)) fun ev=>by
       refine .sl hbk aK (setRow_heap w b cur _ e _ nM) ?_ (by simp;omega) fc aeY hz fun i j el c hi hj=>?_
       .simp only[List.size_toArray,List.length_append,List.length_take,List.length_drop,Array.length_toList];omega
       .obtain⟨v,hv,bC⟩:=((pj.append (by rw[fZ,List.length_take,Nat.min_eq_left hle]) (fun el hel=>aei el (List.mem_of_mem_take hel)) jQ).more (l':=cur.toList.drop (n * te.size+nws.length))) i j el c hi hj;exact⟨v,by rw[<- Array.getElem?_toList];simpa using hv,bC.ev ev⟩
     refine⟨_,_,_,rfl,aF,.own (m:=m) (by simp[cR]) (.inr ⟨b,hbk,by simp,by simpa using tW⟩),aJ⟩
    .have bR:=run_append_grow (P:=P) w t ty e i0 te.zero ht js hz0 ⟨b,0,none⟩ n m.cap (cur.toList.take (n * te.size)) (by rw[fZ,eJ]) (fun j v hv=>by
      rw[addr_add,cell_of_row w b _ cur e (0,0) nM];rw[List.getElem?_take]at hv;split at hv
      .simpa using hv
      .cases hv) ad news.length cap nws (by rw[hnl,eJ]) wv (by omega) (by omega) (by rw[eF];exact growslice_fits (by omega) hb)
     simp only[Nat.zero_mul,Nat.sub_zero];rw[bR];exact ae1 _ _ fZ pj (grownCap_ge _ _ _ _) (grownCap_le_maxLen w _ _ e yy)
end
