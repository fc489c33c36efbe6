/- Parts. -/
import Derived.Test.YtdigkhaofjmgkaaGreatDoorPs3
import Derived.Laws.StructEq
set_option linter.unusedSectionVars false
set_option linter.unusedSimpArgs false
set_option linter.unusedVariables false
namespace Go.Av
def j1 (op:BinOp) (k:IntKind) (x y:Int):Int:=
 let a:=BitVec.ofInt k.bits x
 let b:=BitVec.ofInt k.bits y
 match op with
 | .and=>k.wrap (a &&& b).toNat
 | .or=>k.wrap (a ||| b).toNat
 | .xor=>k.wrap (a ^^^ b).toNat
 | _=>k.wrap (a &&& ~~~b).toNat
def abq (k:IntKind) (n:Int):Option (Prop×Value):=match k with
 | .i64=>some (-9223372036854775808<=n/\n<=9223372036854775807,.int .i64 n)
 | k=>some (True,.int k (k.wrap n))
def vc (op:BinOp) (k:IntKind) (a b:Int):Option (Prop×Value):=match op with
 | .add=>abq k (a+b)
 | .sub=>abq k (a - b)
 | .mul=>abq k (a * b)
 | .quo=>some (b≠0,.int k (k.wrap (a.tdiv b)))
 | .rem=>some (b≠0,.int k (a.tmod b))
 | .and=>some (True,.int k (j1 .and k a b))
 | .or=>some (True,.int k (j1 .or k a b))
 | .xor=>some (True,.int k (j1 .xor k a b))
 | .andNot=>some (True,.int k (j1 .andNot k a b))
 | .eql=>some (True,.bool (a == b))
 | .neq=>some (True,.bool (a != b))
 | .lss=>some (True,.bool (decide (a < b)))
 | .leq=>some (True,.bool (decide (a<=b)))
 | .gtr=>some (True,.bool (decide (a > b)))
 | .geq=>some (True,.bool (decide (a >= b)))
 | _=>none
def shI (op:BinOp) (k:IntKind) (a b:Int):Option (Prop×Value):=match op with
 | .shl=>some (0<=b,.int k (k.wrap (a * 2 ^ (min b.toNat k.bits))))
 | .shr=>some (0<=b,.int k (a.fdiv (2 ^ (min b.toNat k.bits))))
 | _=>none
def Bx:BinOp->Bool
 | .shl | .shr=>true
 | _=>false
def bI (op:BinOp) (a b:ByteArray):Option (Prop×Value):=match op with
 | .add=>some (a.size+b.size<=9223372036854775807,.string (a ++ b))
 | .eql=>some (True,.bool (a.toList == b.toList))
 | .neq=>some (True,.bool (!(a.toList == b.toList)))
 | .lss=>some (True,.bool (Op.bytesLess a.toList b.toList))
 | .leq=>some (True,.bool (Op.bytesLess a.toList b.toList || a.toList == b.toList))
 | .gtr=>some (True,.bool (!(Op.bytesLess a.toList b.toList || a.toList == b.toList)))
 | .geq=>some (True,.bool (!Op.bytesLess a.toList b.toList))
 | _=>none
theorem Dc {n:Int} (h:-9223372036854775808<=n/\n<=9223372036854775807):IntKind.i64.wrap n=n:=by rw[IntKind.wrap_i64];omega
theorem zq {k:IntKind} {n:Int} {c:Prop} {v:Value} (h:abq k n=some (c,v)) (hc:c):v = .int k (k.wrap n):=by
 cases k<;>simp only[abq,Option.some.injEq,Prod.mk.injEq]at h<;>obtain⟨rfl,rfl⟩:=h
 all_goals first | rfl | (rw[Dc hc])
theorem adz {P:Program} {op:BinOp} (e6:Bx op=false) {k:IntKind} {a b:Int} {c:Prop} {v:Value} (h:vc op k a b=some (c,v)) (hc:c) (t:TypeId) (w:World):(binOp op t (.int k a) (.int k b)).run P w = .ok v w:=by
 unfold vc at h;cases op<;>simp only[Option.some.injEq,Prod.mk.injEq]at h
 all_goals first
  | (exact absurd e6 (by decide))
  | (have:=zq h hc;subst this;simp[binOp,Op.intArith])
  | (obtain⟨rfl,rfl⟩:=h;simp[binOp,Op.intCmp];done)
  | (obtain⟨rfl,rfl⟩:=h;simp[binOp,Op.intBits,j1];done)
  | (obtain⟨rfl,rfl⟩:=h;simp[binOp,Op.intDiv,hc];done)
theorem Vr {P:Program} {op:BinOp} {k yk:IntKind} {a b:Int} {c:Prop} {v:Value} (h:shI op k a b=some (c,v)) (hc:c) (t:TypeId) (w:World):(binOp op t (.int k a) (.int yk b)).run P w = .ok v w:=by
 unfold shI at h;cases op<;>simp only[Option.some.injEq,Prod.mk.injEq,reduceCtorEq]at h
 all_goals
  obtain⟨rfl,rfl⟩:=h
  have:¬ b < 0:=by omega
  simp[binOp,Op.shift,this]
theorem adA {P:Program} {op:BinOp} {a b:ByteArray} {c:Prop} {v:Value} (h:bI op a b=some (c,v)) (hc:c) (t:TypeId) (w:World):(binOp op t (.string a) (.string b)).run P w = .ok v w:=by
 unfold bI at h;cases op<;>simp only[Option.some.injEq,Prod.mk.injEq,reduceCtorEq]at h
 all_goals obtain⟨rfl,rfl⟩:=h
 case add=>
  have:¬ (((a.size+b.size:Nat):Int) > IntKind.i64.max):=by simp[IntKind.max,IntKind.signed,IntKind.bits];omega
  simp[binOp,Op.stringOp,this]
  try omega
 all_goals simp[binOp,Op.stringOp]
def eqv (op:BinOp) (c:Prop) (b:Bool):fV:=match op with
 | .eql=>some (c,bool b)
 | .neq=>some (c,bool !b)
 | _=>none
def kI (T:Ty) (t:TypeId) (p:TypeDesc->Bool):Bool:=match T t with
 | some ti=>p ti.desc
 | none=>false
def TypeDesc.isIface:TypeDesc->Bool | .interface _=>true | _=>false
def TypeDesc.isSlice:TypeDesc->Bool | .slice _=>true | _=>false
def TypeDesc.isBool:TypeDesc->Bool | .bool=>true | _=>false
def TypeDesc.isStr:TypeDesc->Bool | .string=>true | _=>false
def xq:TypeDesc->Value->Bool
 | .interface _,.nilIface | .pointer _,.pointer none | .func _ _ _,.nilFunc | .slice _,.slice none 0 0=>true
 | _,_=>false
def xo:AV->Value->Option (Prop×Bool)
 | .d (.bg _ _),.nilIface=>some (True,false)
 | .bg _ _,.nilIface=>some (True,false)
 | .d (.v .nilIface),.nilIface=>some (True,true)
 | .d (.ip _),.pointer none=>some (True,false)
 | .ref _ _ _,.pointer none=>some (True,false)
 | .d (.v (.pointer none)),.pointer none=>some (True,true)
 | .d (.fn _ _),.nilFunc=>some (True,false)
 | .fn _ _,.nilFunc=>some (True,false)
 | .d (.v .nilFunc),.nilFunc=>some (True,true)
 | .d (.sl (some b) _),.slice none 0 0=>some (True,!b)
 | .d (.sl none els),.slice none 0 0=>some (els≠[],false)
 | .own _ _ n,.slice none 0 0=>some (0 < n,false)
 | _,_=>none
def yT:Operand->Option Value
 | .const v=>some v
 | _=>none
def B5 (T:Ty) (op:BinOp) (t:TypeId) (oy:Operand) (x:AV):fV:=match yT oy with
 | some v=>if kI T t (xq · v) then (xo x v).bind fun (c,b)=>eqv op c b else none
 | none=>none
def zb (d:TypeDesc) (a b:Value):Option Bool:=match d,a,b with
 | .int _,.int k a,.int k' b=>if k=k' then some (a == b) else none
 | .string,.string a,.string b=>some (a.toList == b.toList)
 | .bool,.bool a,.bool b=>some (a == b)
 | _,_,_=>none
def vu (T:Ty) (xs ys:List D):List Field->Option Bool
 | []=>some true
 | f :: l=>if f.name = "_" then none else match T f.type,xs[f.offset]?,ys[f.offset]? with
  | some tf,some (.v a),some (.v b)=>match zb tf.desc a b,vu T xs ys l with
   | some r,some r2=>some (r && r2)
   | _,_=>none
  | _,_,_=>none
def vb (T:Ty) (op:BinOp) (t:TypeId) (oy:Operand) (x y:AV):fV:=match x,y with
 | .d (.v (.int k a)),.d (.v (.int k' b))=>
  if Bx op then (shI op k a b).map fun (c,v)=>(c,.d (.v v)) else if k=k' then (vc op k a b).map fun (c,v)=>(c,.d (.v v)) else none
 | .d (.v (.string a)),.d (.v (.string b))=>(bI op a b).map fun (c,v)=>(c,.d (.v v))
 | .d (.v (.bool a)),.d (.v (.bool b))=>if kI T t TypeDesc.isBool then eqv op True (a == b) else none
 | .d (.agg xs),.d (.agg ys)=>match T t with
  | some ti=>match ti.desc with
   | .struct fs=>if ti.pe then (match vu T xs ys fs.toList with
    | some b=>eqv op True b
    | none=>none) else none
   | _=>none
  | none=>none
 | x,_=>B5 T op t oy x
theorem Cx {P:Program} {w:World} {op:BinOp} {t:TypeId} {u v:Value} {c:Prop} {b:Bool} {z:AV} {X:Nat->Prop} {μ:Mu} (h:eqv op c b=some (c,z)) (hb:(binOp .eql t u v).run P w = .ok (.bool b) w)
  (hn:(binOp .neq t u v).run P w = .ok (.bool !b) w):∃ r,(binOp op t u v).run P w = .ok r w/\RV w X μ r z:=by
 unfold eqv at h;split at h
 .simp only[Option.some.injEq,Prod.mk.injEq,true_and]at h;subst h;exact⟨_,hb,.d (.v _)⟩
 .simp only[Option.some.injEq,Prod.mk.injEq,true_and]at h;subst h;exact⟨_,hn,.d (.v _)⟩
 .cases h
theorem n5 {T:Ty} {t:TypeId} {p:TypeDesc->Bool} (h:kI T t p=true):∃ ti,T t=some ti/\p ti.desc=true:=by
 unfold kI at h;split at h
 .rename_i ti ht;exact⟨ti,ht,h⟩
 .cases h
theorem zd {op:BinOp} {c c':Prop} {b:Bool} {z:AV} (h:eqv op c b=some (c',z)):c'=c:=by
 unfold eqv at h;split at h<;>simp only[Option.some.injEq,Prod.mk.injEq,reduceCtorEq]at h
 .exact h.1.symm
 .exact h.1.symm
section
variable {P:Program} {w:World} {t:TypeId}
theorem Em {ms:Array (String×TypeId)} (h:P.underlying t=some (.interface ms)) (d:Nat) (t':TypeId) (x:Value):(Op.equalIn (d+1) t (.iface t' x) .nilIface).run P w = .ok false w:=by
 simp[Op.equalIn,run_underlying h]
theorem Mb {ms:Array (String×TypeId)} (h:P.underlying t=some (.interface ms)) (d:Nat):(Op.equalIn (d+1) t .nilIface .nilIface).run P w = .ok true w:=by
 simp[Op.equalIn,run_underlying h]
theorem En {e:TypeId} (h:P.underlying t=some (.pointer e)) (d:Nat) (a:Addr):(Op.equalIn (d+1) t (.pointer (some a)) (.pointer none)).run P w = .ok false w:=by
 simp[Op.equalIn,run_underlying h]
theorem Mc {e:TypeId} (h:P.underlying t=some (.pointer e)) (d:Nat):(Op.equalIn (d+1) t (.pointer none) (.pointer none)).run P w = .ok true w:=by
 simp[Op.equalIn,run_underlying h]
theorem El {a b:Array TypeId} {c:Bool} (h:P.underlying t=some (.func a b c)) (d:Nat) (f:Fn) (x y:Array Value):(Op.equalIn (d+1) t (.func f x y) .nilFunc).run P w = .ok false w:=by
 simp[Op.equalIn,run_underlying h]
theorem Ma {a b:Array TypeId} {c:Bool} (h:P.underlying t=some (.func a b c)) (d:Nat):(Op.equalIn (d+1) t .nilFunc .nilFunc).run P w = .ok true w:=by
 simp[Op.equalIn,run_underlying h]
theorem zc {e:TypeId} (h:P.underlying t=some (.slice e)) (d:Nat) (a:Addr) (n c:Nat):(Op.equalIn (d+1) t (.slice (some a) n c) (.slice none 0 0)).run P w = .ok false w:=by
 simp[Op.equalIn,run_underlying h]
theorem Md {e:TypeId} (h:P.underlying t=some (.slice e)) (d:Nat):(Op.equalIn (d+1) t (.slice none 0 0) (.slice none 0 0)).run P w = .ok true w:=by
 simp[Op.equalIn,run_underlying h]
theorem L9 (h:P.underlying t=some .bool) (d:Nat) (a b:Bool):(Op.equalIn (d+1) t (.bool a) (.bool b)).run P w = .ok (a == b) w:=by
 simp[Op.equalIn,run_underlying h]
end
def DM:Value->Bool
 | .int _ _ | .string _ | .float _ _ | .complex _ _ _=>false
 | _=>true
theorem jq {P:Program} {w:World} {t:TypeId} {u v:Value} {b:Bool} (hu:DM u=true) (h:(Op.equalIn (9999+1) t u v).run P w = .ok b w) :
  (binOp .eql t u v).run P w = .ok (.bool b) w/\(binOp .neq t u v).run P w = .ok (.bool !b) w:=by
 have h':(Op.equal t u v).run P w = .ok b w:=h;cases u<;>simp[DM]at hu<;>constructor<;>simp[binOp,h']
theorem EP {P:Program} {w:World} {op:BinOp} {t:TypeId} {ox oy:Operand} {u v:Value} (h:¬ (u = .nilIface/\v = .nilIface)\/(∃ c,ox = .const c)\/∃ c,oy = .const c) (ha:∀ a,u≠.agg a) :
  (eqGuard op t ox oy u v).run P w = .ok () w:=by
 unfold eqGuard
 cases op<;>first | rfl | skip
 all_goals
  cases u<;>cases v<;>first | rfl | skip
  .rcases h with h | ⟨c,rfl⟩ | ⟨c,rfl⟩
   .simp at h
   .rfl
   .cases ox<;>rfl
  .exact absurd rfl (ha _)
theorem RW {P:Program} {T:Ty} (hg:Good P T) {w:World} {X:Nat->Prop} {μ:Mu} {t:TypeId} {u v:Value} {x:AV} {c:Prop} {b:Bool} (h:xo x v=some (c,b)) (hc:c) (hx:RV w X μ u x)
  (hf:kI T t (xq · v)=true):((binOp .eql t u v).run P w = .ok (.bool b) w/\(binOp .neq t u v).run P w = .ok (.bool !b) w)/\∀ a,u≠.agg a:=by
 obtain⟨ti,ht,hp⟩:=n5 hf;have hu:=(hg t ti ht).1;unfold xo at h
 split at h<;>first | cases h;done | skip
 all_goals
  simp only[Option.some.injEq,Prod.mk.injEq]at h;obtain⟨rfl,rfl⟩:=h;cases YQ:ti.desc<;>simp[YQ,xq]at hp;rw[YQ]at hu
 .obtain⟨v',rfl,_⟩:=hx.data.oL;exact⟨jq rfl (Em hu _ _ _),by simp⟩
 .obtain⟨v',rfl,_⟩:=hx.oL;exact⟨jq rfl (Em hu _ _ _),by simp⟩
 .obtain rfl:=hx.scalar;exact⟨jq rfl (Mb hu _),by simp⟩
 .obtain⟨b,off,f,rfl,_⟩:=hx.data.mb;exact⟨jq rfl (En hu _ _),by simp⟩
 .obtain⟨m,b,_,_,rfl⟩:=hx.gC;exact⟨jq rfl (En hu _ _),by simp⟩
 .obtain rfl:=hx.scalar;exact⟨jq rfl (Mc hu _),by simp⟩
 .obtain⟨arr,rfl,_⟩:=hx.data.qV;exact⟨jq rfl (El hu _ _ _ _),by simp⟩
 .obtain⟨arr,rfl,_⟩:=hx.qV;exact⟨jq rfl (El hu _ _ _ _),by simp⟩
 .obtain rfl:=hx.scalar;exact⟨jq rfl (Ma hu _),by simp⟩
 .rename_i bb els e
  rcases hx.data.k8 with⟨rfl,_,hk⟩ | ⟨a,cap,rfl,hk,_⟩
  .cases bb
   .exact⟨jq rfl (Md hu _),by simp⟩
   .exact absurd rfl hk
  .cases bb
   .exact absurd rfl hk
   .exact⟨jq rfl (zc hu _ _ _ _),by simp⟩
 .rcases hx.data.k8 with⟨rfl,he,hk⟩ | ⟨a,cap,rfl,hk,_⟩
  .exact absurd he hc
  .exact⟨jq rfl (zc hu _ _ _ _),by simp⟩
 .obtain⟨m,_,hh⟩:=hx.gV
  rcases hh with⟨_,_,_,rfl⟩ | ⟨b,_,rfl,_⟩
  .omega
  .exact⟨jq rfl (zc hu _ _ _ _),by simp⟩
theorem L8 {P:Program} {t:TypeId} {d:TypeDesc} (hu:P.underlying t=some d) {a b:Value} {r:Bool} (h:zb d a b=some r) (n:Nat) (w:World):(Op.equalIn (n+1) t a b).run P w = .ok r w/\TypeDesc.isAgg d=false:=by
 unfold zb at h;split at h
 .split at h
  .rename_i hk;subst hk;obtain rfl:=Option.some.inj h;exact⟨run_equalIn_int w n t _ _ _ _ hu,rfl⟩
  .cases h
 .obtain rfl:=Option.some.inj h;exact⟨run_equalIn_string w n t _ _ hu,rfl⟩
 .obtain rfl:=Option.some.inj h;exact⟨run_equalIn_bool' w n t _ _ hu,rfl⟩
 .cases h
theorem DS {w:World} {X:Nat->Prop} {arr:Array Value} {xs:List D} (hn:arr.size=xs.length) (hr:∀ (j:Nat) (u:Value) (c:D),arr[j]? = some u->xs[j]? = some c->RD w X u c) {j:Nat} {a:Value} (h:xs[j]? = some (.v a)):arr[j]? = some a:=by
 have hj:j < arr.size:=by rw[hn];exact (List.getElem?_eq_some_iff.1 h).1
 have:=(hr j _ _ (Array.getElem?_eq_getElem hj) h).scalar;rw[Array.getElem?_eq_getElem hj,this]
theorem Ek {P:Program} {T:Ty} (hg:Good P T) {w:World} {X:Nat->Prop} {gF mF:Array Value} {xs ys:List D} (n1:gF.size=xs.length) (h1:∀ (j:Nat) (u:Value) (c:D),gF[j]? = some u->xs[j]? = some c->RD w X u c) (n2:mF.size=ys.length) (h2:∀ (j:Nat) (u:Value) (c:D),mF[j]? = some u->ys[j]? = some c->RD w X u c) :
  ∀ (fs:List Field) (b:Bool),vu T xs ys fs=some b->(Op.eqFields (9998+1) gF mF fs).run P w = .ok b w
 | [],b,h=>by
  obtain rfl:=Option.some.inj h;simp[Op.eqFields]
 | f :: l,b,h=>by
  rw[vu]at h;split at h
  .cases h
  .rename_i gw;split at h
   .rename_i tf a1 b1 ht hx hy;split at h
    .rename_i r r2 hr lJ;obtain rfl:=Option.some.inj h;obtain⟨e1,e2⟩:=L8 (hg _ _ ht).1 hr 9998 w
     have ha:(Go.isAgg f.type).run P w = .ok false w:=by rw[hg.isAgg ht,e2]
     have p1:(part f.type gF f.offset).run P w = .ok a1 w:=by simp[part,ha,DS n1 h1 hx]
     have p2:(part f.type mF f.offset).run P w = .ok b1 w:=by simp[part,ha,DS n2 h2 hy]
     have ih:=Ek hg n1 h1 n2 h2 l r2 lJ;rw[Op.eqFields,if_pos gw];simp only[Sem.run_bind,p1,p2,e1,Result.andThen_ok,Sem.run_ite];cases r
     .simp
     .simpa using ih
    .cases h
   .cases h
theorem ady {P:Program} {T:Ty} {G:Yt} {N:Fr} (hg:Good P T) {w:World} {X:Nat->Prop} {μ:Mu} {a:Act} {σ:St} (hi:In w X G μ N a σ) {op:BinOp} {t:TypeId} {ox oy:Operand} {x y z:AV} {c:Prop}
  (hx:aT G σ.env ox=some x) (hy:aT G σ.env oy=some y) (h:vb T op t oy x y=some (c,z)) (hc:c) :
  ∃ r,(do eqGuard op t ox oy (a.eval ox) (a.eval oy);binOp op t (a.eval ox) (a.eval oy):Sem Value).run P w = .ok r w/\RV w X μ r z:=by
 have tH:=hi.eval hx;have wZ:=hi.eval hy
 have plain:∀ (u v:Value),a.eval ox=u->a.eval oy=v->(∀ b,u≠.agg b)->u≠.nilIface->(∃ r,(binOp op t u v).run P w = .ok r w/\RV w X μ r z)->
   ∃ r,(do eqGuard op t ox oy (a.eval ox) (a.eval oy);binOp op t (a.eval ox) (a.eval oy):Sem Value).run P w = .ok r w/\RV w X μ r z:=by
  rintro u v hu hv h1 h2 ⟨r,hr,A4⟩;refine⟨r,?_,A4⟩;rw[hu,hv,Sem.run_bind,EP (.inl fun e=>h2 e.1) h1];exact hr
 unfold vb at h;split at h
 .rename_i k a1 k' b1;have e1:=tH.scalar;have e2:=wZ.scalar;refine plain _ _ e1 e2 (by simp) (by simp) ?_;split at h
  .obtain⟨⟨c',v'⟩,hs,he⟩:=Option.map_eq_some_iff.1 h;simp only[Prod.mk.injEq]at he;obtain⟨rfl,rfl⟩:=he;exact⟨_,Vr hs hc _ _,.d (.v _)⟩
  .rename_i nu;split at h
   .rename_i hk;subst hk;obtain⟨⟨c',v'⟩,hs,he⟩:=Option.map_eq_some_iff.1 h;simp only[Prod.mk.injEq]at he;obtain⟨rfl,rfl⟩:=he;exact⟨_,adz (by simpa using nu) hs hc _ _,.d (.v _)⟩
   .cases h
 .obtain⟨⟨c',v'⟩,hs,he⟩:=Option.map_eq_some_iff.1 h;simp only[Prod.mk.injEq]at he;obtain⟨rfl,rfl⟩:=he;exact plain _ _ tH.scalar wZ.scalar (by simp) (by simp) ⟨_,adA hs hc _ _,.d (.v _)⟩
 .rename_i b1 b2;split at h
  .rename_i hb;obtain⟨ti,ht,hp⟩:=n5 hb;cases YQ:ti.desc<;>simp[YQ,TypeDesc.isBool]at hp;have hu:=(hg t ti ht).1;rw[YQ]at hu;have:=jq (P:=P) (w:=w) (u:=.bool b1) (v:=.bool b2) rfl (L9 hu 9999 _ _);obtain rfl:=zd h;exact plain _ _ tH.scalar wZ.scalar (by simp) (by simp) (Cx h this.1 this.2)
  .cases h
 .rename_i xs ys;split at h
  .rename_i ti ht;split at h
   .rename_i fs YQ;split at h
    .rename_i fz;split at h
     .rename_i b hb;obtain⟨gF,P4,n1,r1⟩:=tH.data.lV;obtain⟨mF,p5,n2,r2⟩:=wZ.data.lV;obtain⟨oH,i0,_,_,_,_,hp⟩:=hg t ti ht;obtain⟨eC,Zg⟩:=hp fz;rw[YQ]at oH
      have FN:P.fieldsOf t=fs:=by simp[Program.fieldsOf,oH]
      have P6:P.underlying t=some (.struct (P.fieldsOf t)):=by rw[FN];exact oH
      have he:(Op.equalIn 10000 t (.agg gF) (.agg mF)).run P w = .ok b w:=by
       rw[show (10000:Nat)=9999+1 from rfl,run_equalIn_struct w 9999 t gF mF P6 eC,FN];exact Ek hg n1 r1 n2 r2 fs.toList b hb
      obtain rfl:=zd h;obtain⟨r,hr,A4⟩:=Cx (X:=X) (μ:=μ) h (P:=P) (w:=w) (t:=t) (u:=.agg gF) (v:=.agg mF) (by rw[run_eql_struct,he];rfl) (by rw[run_neq_struct,he];rfl);refine⟨r,?_,A4⟩;rw[P4,p5,Sem.run_bind,run_eqGuard_agg w op t ox oy gF mF Zg];exact hr
     .cases h
    .cases h
   .cases h
  .cases h
 .unfold B5 at h;split at h
  .rename_i v hv
   cases oy with
   | const v'=>
    simp only[yT,Option.some.injEq]at hv;subst hv;split at h
    .rename_i hf;obtain⟨⟨c',b'⟩,hn,he⟩:=Option.bind_eq_some_iff.1 h;dsimp only at he;obtain rfl:=zd he;obtain⟨hr,ha⟩:=RW hg hn hc tH hf;obtain⟨r,hr',hz⟩:=Cx (X:=X) (μ:=μ) he hr.1 hr.2;refine⟨r,?_,hz⟩;rw[Sem.run_bind,EP (.inr (.inr ⟨_,rfl⟩)) ha];exact hr'
    .cases h
   | _=>cases hv
  .cases h
end Go.Av
namespace Go.Av
def xe (T:Ty) (t:TypeId):AV->fV
 | .d (.v (.string s))=>if kI T t TypeDesc.isStr then some (True,int s.size) else none
 | .d (.sl _ els)=>if kI T t TypeDesc.isSlice then some (True,int els.length) else none
 | .own _ _ n=>if kI T t TypeDesc.isSlice then some (True,int n) else none
 | _=>none
theorem GP {d:TypeDesc} (h:TypeDesc.isSlice d=true):∃ e,d = .slice e:=by cases d<;>simp[TypeDesc.isSlice]at h;exact⟨_,rfl⟩
theorem acH {d:TypeDesc} (h:TypeDesc.isStr d=true):d = .string:=by cases d<;>simp[TypeDesc.isStr]at h;rfl
section
variable {P:Program} {T:Ty} (hg:Good P T) {w:World} {X:Nat->Prop} {μ:Mu} {H:Heap}
include hg
theorem Rb {t ty:TypeId} {u:Value} {x z:AV} {c:Prop} (h:xe T t x=some (c,z)) (hx:RV w X μ u x):∃ r,(Builtin.len_ #[t] ty #[u]).run P w = .ok r w/\RV w X μ r z:=by
 unfold xe at h;split at h
 .split at h
  .rename_i hd;obtain⟨ti,ht,hp⟩:=n5 hd;simp only[Option.some.injEq,Prod.mk.injEq]at h;obtain⟨rfl,rfl⟩:=h;obtain rfl:=hx.scalar;exact⟨_,by simp[Builtin.len_,hg.bX ht,acH hp,goInt],.d (.v _)⟩
  .cases h
 .split at h
  .rename_i hd;obtain⟨ti,ht,hp⟩:=n5 hd;obtain⟨e,he⟩:=GP hp;simp only[Option.some.injEq,Prod.mk.injEq]at h;obtain⟨rfl,rfl⟩:=h
   rcases hx.data.k8 with⟨rfl,rfl,_⟩ | ⟨a,cap,rfl,_⟩
   .exact⟨_,by simp[Builtin.len_,hg.bX ht,he,goInt],.d (.v _)⟩
   .exact⟨_,by simp[Builtin.len_,hg.bX ht,he,goInt],.d (.v _)⟩
  .cases h
 .split at h
  .rename_i hd;obtain⟨ti,ht,hp⟩:=n5 hd;obtain⟨e,he⟩:=GP hp;simp only[Option.some.injEq,Prod.mk.injEq]at h;obtain⟨rfl,rfl⟩:=h;obtain⟨m,_,hh⟩:=hx.gV
   rcases hh with⟨_,rfl,_,rfl⟩ | ⟨b,_,rfl,_⟩
   .exact⟨_,by simp[Builtin.len_,hg.bX ht,he,goInt],.d (.v _)⟩
   .exact⟨_,by simp[Builtin.len_,hg.bX ht,he,goInt],.d (.v _)⟩
  .cases h
 .cases h
def acU (T:Ty) (t:TypeId):Option (Nat×TypeId×Nat):=match T t with
 | some ti=>match ti.desc with
  | .array n e=>(T e).map fun te=>(n,e,te.size)
  | _=>none
 | none=>none
def acF (T:Ty) (t:TypeId):AV->AV->fV
 | .d (.v (.string s)),.d (.v (.int _ i))=>if kI T t TypeDesc.isStr then some (0<=i/\i < s.size,.d (.v (.int .u8 (s.data.toList.getD i.toNat 0).toNat))) else none
 | .d (.agg cells),.d (.v (.int _ i))=>match acU T t with
  | some (n,e,sz)=>(mG T e (cells.drop (i.toNat * sz))).map fun (c,z)=>((0<=i/\i < n)/\c,z)
  | none=>none
 | _,_=>none
omit hg in
theorem KY (s:ByteArray) (n:Nat) (h:n < s.size):s[n]? = some (s.data.toList.getD n 0):=by
 have:s[n]? = some s[n]:=by simp[h]
 rw[this]
 have h2:n < s.data.toList.length:=by simpa using h
 simp[List.getD_eq_getElem?_getD,List.getElem?_eq_getElem h2];rfl
theorem Qs {t:TypeId} {u v:Value} {x y z:AV} {c:Prop} (h:acF T t x y=some (c,z)) (hc:c) (hx:RV w X μ u x) (hy:RV w X μ v y):∃ r,(Instr.index t u v).run P w = .ok r w/\RV w X μ r z:=by
 unfold acF at h;split at h
 .split at h
  .rename_i s kk i hd;obtain⟨ti,ht,hp⟩:=n5 hd;simp only[Option.some.injEq,Prod.mk.injEq]at h;obtain⟨rfl,rfl⟩:=h;obtain rfl:=hx.scalar;obtain rfl:=hy.scalar;obtain⟨h0,h1⟩:=hc;obtain⟨n,rfl⟩:=Int.eq_ofNat_of_zero_le h0;simp only[Int.toNat_natCast]
   have hn:n < s.size:=by omega
   exact⟨_,by simp[Instr.index,asIntOf,hg.bX ht,acH hp,KY s n hn],.d (.v _)⟩
  .cases h
 .rename_i cells kk i;split at h
  .rename_i n e sz ha;obtain⟨⟨c',z'⟩,hv,he⟩:=Option.map_eq_some_iff.1 h;simp only[Prod.mk.injEq]at he;obtain⟨rfl,rfl⟩:=he;obtain⟨⟨h0,h1⟩,YS⟩:=hc;obtain rfl:=hy.scalar;obtain⟨arr,rfl,hn,hr⟩:=hx.data.lV;obtain⟨c2,wW,Zf⟩:=Dw T e _ hv YS;rw[List.map_drop]at wW;obtain⟨v,hpv,Zt⟩:=Dy (P:=P) (w:=w) (X:=X) (μ:=μ) hg wW Zf (by simpa using hn) (RV.rE hr);unfold acU at ha;split at ha
   .rename_i ti ht;split at ha
    .rename_i n' e' hd;obtain⟨te,bJ,he⟩:=Option.map_eq_some_iff.1 ha;simp only[Prod.mk.injEq]at he;obtain⟨rfl,rfl,rfl⟩:=he;exact⟨v,by simp[Instr.index,asIntOf,hg.bX ht,hd,h0,h1,hg.sizeOf bJ,hpv],Zt⟩
    .cases ha
   .cases ha
  .cases h
 .cases h
def tY (t:TypeId):AV->AV
 | .d x=>.d (.bg t x)
 | x=>.bg t x
omit hg in
theorem BU {u:Value} {x:AV} {t:TypeId} (hx:RV w X μ u x):RV w X μ (.iface t u) (tY t x):=by
 unfold tY;split
 .exact .d (.bg hx.data)
 .exact .bg hx
def acJ (T:Ty) (t:TypeId) (x:AV):fV:=match T t with
 | some ti=>if TypeDesc.isIface ti.desc then none else some (True,tY t x)
 | none=>none
theorem Ru {t:TypeId} {u:Value} {x z:AV} {c:Prop} (h:acJ T t x=some (c,z)) (hx:RV w X μ u x):∃ r,(Instr.makeInterface t u).run P w = .ok r w/\RV w X μ r z:=by
 unfold acJ at h;split at h
 .rename_i ti ht;split at h
  .cases h
  .rename_i hd;simp only[Option.some.injEq,Prod.mk.injEq]at h;obtain⟨rfl,rfl⟩:=h;refine⟨_,?_,BU hx⟩;simp only[Instr.makeInterface,Sem.run_bind,hg.bX ht,Result.andThen_ok];cases YQ:ti.desc<;>simp[YQ,TypeDesc.isIface]at hd ⊢
 .cases h
def vz (i:Nat):AV->fV
 | .d (.aR vs)=>vs[i]?.map fun x=>(True,.d x)
 | .aR vs=>vs[i]?.map fun x=>(True,x)
 | _=>none
omit hg in
theorem Mr {i:Nat} {u:Value} {x z:AV} {c:Prop} (h:vz i x=some (c,z)) (hx:RV w X μ u x):∃ r,(Instr.extract u i).run P w = .ok r w/\RV w X μ r z:=by
 unfold vz at h;split at h
 .obtain⟨y,hy,he⟩:=Option.map_eq_some_iff.1 h;simp only[Prod.mk.injEq]at he;obtain⟨rfl,rfl⟩:=he;obtain⟨arr,rfl,hn,hr⟩:=hx.data.r0;have Yv:=(List.getElem?_eq_some_iff.1 hy).1
  have:arr[i]? = some arr[i]:=by simp
  exact⟨arr[i],by simp[Instr.extract,this],.d (hr i _ y this hy)⟩
 .obtain⟨y,hy,he⟩:=Option.map_eq_some_iff.1 h;simp only[Prod.mk.injEq]at he;obtain⟨rfl,rfl⟩:=he;obtain⟨arr,rfl,hn,hr⟩:=hx.r0;have Yv:=(List.getElem?_eq_some_iff.1 hy).1
  have:arr[i]? = some arr[i]:=by simp
  exact⟨arr[i],by simp[Instr.extract,this],hr i _ y this hy⟩
 .cases h
def tX (f:Fn) (caps:List AV):AV:=match ZM caps with
 | some ds=>.d (.fn f ds)
 | none=>.fn f caps
omit hg in
theorem BT {f:Fn} {arr:Array Value} {caps:List AV} (hn:arr.size=caps.length) (hr:∀ (j:Nat) (u:Value) (c:AV),arr[j]? = some u->caps[j]? = some c->RV w X μ u c):RV w X μ (.func f #[] arr) (tX f caps):=by
 unfold tX;split
 .rename_i ds hd;rw[jZ hd]at hn hr;exact .d (.fn (by simpa using hn) fun j u c hu hc=>(hr j u (.d c) hu (by rw[List.getElem?_map,hc];rfl)).data)
 .exact .fn hn hr
def xZ (op:UnOp):AV->fV
 | .d (.v (.bool b))=>match op with | .not=>some (True,bool !b) | _=>none
 | .d (.v (.int k n))=>match op with | .neg=>(abq k (0 - n)).map fun (c,v)=>(c,.d (.v v)) | _=>none
 | _=>none
omit hg in
theorem Wo {op:UnOp} {u:Value} {x z:AV} {c:Prop} (h:xZ op x=some (c,z)) (hc:c) (hx:RV w X μ u x):∃ r,(Op.unary op u).run P w = .ok r w/\RV w X μ r z:=by
 unfold xZ at h;split at h
 .split at h
  .simp only[Option.some.injEq,Prod.mk.injEq]at h;obtain⟨rfl,rfl⟩:=h;obtain rfl:=hx.scalar;exact⟨_,by simp[Op.unary],.d (.v _)⟩
  .cases h
 .split at h
  .obtain⟨⟨c',v⟩,hf,he⟩:=Option.map_eq_some_iff.1 h;simp only[Prod.mk.injEq]at he;obtain⟨rfl,rfl⟩:=he;obtain rfl:=hx.scalar;have:=zq hf hc;subst this;exact⟨_,by simp[Op.unary,Op.intArith],.d (.v _)⟩
  .cases h
 .cases h
def vn (T:Ty) (dst:TypeId):AV->fV
 | .d (.v (.int _ n))=>match T dst with
  | some ti=>match ti.desc with
   | .int k=>(abq k n).map fun (c,v)=>(c,.d (.v v))
   | .string=>some (True,.d (.v (.string (Utf8.encode n))))
   | _=>none
  | none=>none
 | .d (.v (.string s))=>if kI T dst TypeDesc.isStr then some (True,.d (.v (.string s))) else none
 | _=>none
theorem LG {src dst:TypeId} (PX:(T src).isSome) {u:Value} {x z:AV} {c:Prop} (h:vn T dst x=some (c,z)) (hc:c) (hx:RV w X μ u x):∃ r,(convert src dst u).run P w = .ok r w/\RV w X μ r z:=by
 obtain⟨XL,l8⟩:=Option.isSome_iff_exists.1 PX;unfold vn at h;split at h
 .split at h
  .rename_i ti ht;split at h
   .rename_i k hd;obtain⟨⟨c',v⟩,hf,he⟩:=Option.map_eq_some_iff.1 h;simp only[Prod.mk.injEq]at he;obtain⟨rfl,rfl⟩:=he;obtain rfl:=hx.scalar;have:=zq hf hc;subst this;exact⟨_,by simp[convert,hg.bX l8,hg.bX ht,hd,Conv.intToInt],.d (.v _)⟩
   .rename_i hd;simp only[Option.some.injEq,Prod.mk.injEq]at h;obtain⟨rfl,rfl⟩:=h;obtain rfl:=hx.scalar;exact⟨_,by simp[convert,hg.bX l8,hg.bX ht,hd,Conv.intToString],.d (.v _)⟩
   .cases h
  .cases h
 .split at h
  .rename_i hd;obtain⟨ti,ht,hp⟩:=n5 hd;simp only[Option.some.injEq,Prod.mk.injEq]at h;obtain⟨rfl,rfl⟩:=h;obtain rfl:=hx.scalar;exact⟨_,by simp[convert,hg.bX l8,hg.bX ht,acH hp],.d (.v _)⟩
  .cases h
 .cases h
def xp:AV->fV
 | .d (.ip c)=>some (True,.d (.ip c))
 | .ref r e j=>some (True,.ref r e j)
 | _=>none
omit hg in
theorem RX {u:Value} {x z:AV} {c:Prop} (h:xp x=some (c,z)) (hx:RV w X μ u x):(∃ a,u = .pointer (some a))/\RV w X μ u z:=by
 unfold xp at h;split at h
 .simp only[Option.some.injEq,Prod.mk.injEq]at h;obtain⟨rfl,rfl⟩:=h;obtain⟨b,off,f,rfl,_⟩:=hx.data.mb;exact⟨⟨_,rfl⟩,hx⟩
 .simp only[Option.some.injEq,Prod.mk.injEq]at h;obtain⟨rfl,rfl⟩:=h;obtain⟨m,b,_,_,rfl⟩:=hx.gC;exact⟨⟨_,rfl⟩,hx⟩
 .cases h
def bound (G:Yt) (e:Env):Option Operand->Option (Option Int)
 | none=>some none
 | some o=>match aT G e o with
  | some (.d (.v (.int _ i)))=>some (some i)
  | _=>none
def lQ (T:Ty) (H:Heap) (t:TypeId) (x:AV) (lo hi:Option Int):fV:=
 let l:=lo.getD 0
 match x with
 | .d (.v (.string s))=>if kI T t TypeDesc.isStr then
   let h:=hi.getD s.size
   some (0<=l/\l<=h/\h<=s.size,.d (.v (.string (s.extract l.toNat h.toNat)))) else none
 | .d (.sl k els)=>match j3 T t with
  | some s=>
   let h:=hi.getD els.length
   some (0<=l/\l<=h/\h<=els.length/\(l=0\/∀ el∈els,el.length=s),.d (.sl k ((els.drop l.toNat).take (h - l).toNat)))
  | none=>none
 | .own r off n=>match j3 T t,H r with
  | some s,some (.sl _ sz _)=>
   let h:=hi.getD n
   some (0<=l/\l<=h/\h<=n/\sz=s,if l=n/\¬ l=0 then .d (.sl none []) else .own r (off+l.toNat) (h - l).toNat)
  | _,_=>none
 | _=>none
omit hg in
theorem rU {isS:Bool} {len cap:Nat} {lo hi:Option Value} {l h:Int} (hl:(lo=none/\l=0)\/∃ k,lo=some (.int k l)) (hh:(hi=none/\h=len)\/∃ k,hi=some (.int k h)) (h0:0<=l) (h1:l<=h) (h2:h<=cap) :
  (Instr.sliceBounds isS len cap lo hi none).run P w = .ok (l.toNat,h.toNat,cap) w:=by
 have e1:0<=h:=by omega
 rcases hh with⟨rfl,rfl⟩ | ⟨k,rfl⟩<;>rcases hl with⟨rfl,rfl⟩ | ⟨k',rfl⟩
 .simp[Instr.sliceBounds]
 .simp[Instr.sliceBounds,Instr.sliceBound,asIntOf,h0,h1]
 .simp[Instr.sliceBounds,Instr.sliceBound,asIntOf,e1,h2]
 .have e3:l<=max h 0:=by omega
  simp[Instr.sliceBounds,Instr.sliceBound,asIntOf,e1,h2,h0,e3]
theorem Vw (hs:cw w X μ H) {t:TypeId} {u:Value} {x z:AV} {c:Prop} {lo hi:Option Int} {uN uM:Option Value} (h:lQ T H t x lo hi=some (c,z)) (hc:c) (hx:RV w X μ u x)
  (th:(uN=none/\lo=none)\/∃ k l,uN=some (.int k l)/\lo=some l) (wk:(uM=none/\hi=none)\/∃ k l,uM=some (.int k l)/\hi=some l) :
  ∃ r,(Instr.sliceAt t u uN uM none).run P w = .ok r w/\RV w X μ r z:=by
 have hL:(uN=none/\lo.getD 0=0)\/∃ k,uN=some (.int k (lo.getD 0)):=by
  rcases th with⟨rfl,rfl⟩ | ⟨k,l,rfl,rfl⟩
  .exact .inl ⟨rfl,rfl⟩
  .exact .inr ⟨k,rfl⟩
 have hH:∀ n:Nat,(uM=none/\hi.getD n=n)\/∃ k,uM=some (.int k (hi.getD n)):=by
  intro n
  rcases wk with⟨rfl,rfl⟩ | ⟨k,l,rfl,rfl⟩
  .exact .inl ⟨rfl,rfl⟩
  .exact .inr ⟨k,rfl⟩
 unfold lQ at h;dsimp only at h;split at h
 .rename_i s;split at h
  .rename_i hd;obtain⟨ti,ht,hp⟩:=n5 hd;simp only[Option.some.injEq,Prod.mk.injEq]at h;obtain⟨rfl,rfl⟩:=h;obtain rfl:=hx.scalar;obtain⟨h0,h1,h2⟩:=hc;exact⟨_,by simp[Instr.sliceAt,hg.bX ht,acH hp,Instr.slice,rU (P:=P) (w:=w) hL (hH s.size) h0 h1 h2],.d (.v _)⟩
  .cases h
 .rename_i k els;split at h
  .rename_i s he;simp only[Option.some.injEq,Prod.mk.injEq]at h;obtain⟨rfl,rfl⟩:=h;obtain⟨h0,h1,h2,h3⟩:=hc;unfold j3 at he;split at he
   .rename_i ti ht;split at he
    .rename_i e hd;obtain⟨te,bJ,rfl⟩:=Option.map_eq_some_iff.1 he;generalize lo.getD 0=l at *;have mR:=hH els.length;generalize hi.getD ↑els.length=hh at *;obtain⟨l,rfl⟩:=Int.eq_ofNat_of_zero_le h0;obtain⟨hh,rfl⟩:=Int.eq_ofNat_of_zero_le (show 0<=hh by omega)
     have e1:((hh:Int) - l).toNat=hh - l:=by omega
     simp only[Int.toNat_natCast,e1]
     rcases hx.data.k8 with⟨rfl,rfl,hk⟩ | ⟨a,cap,rfl,hk,fL,hm,hr⟩
     .have l0:l=0:=by simp at h2;omega
      have hh0:hh=0:=by simp at h2;omega
      subst l0 hh0;have:=rU (P:=P) (w:=w) (isS:=true) (cap:=0) hL mR h0 h1 (by simp);refine⟨.slice none 0 0,?_,.d (by simpa using .nil hk)⟩;simp at this;simp[Instr.sliceAt,hg.bX ht,hd,Instr.slice,this,hg.sizeOf bJ]
     .have:=rU (P:=P) (w:=w) (isS:=true) (cap:=cap) hL mR h0 h1 (by omega);refine⟨.slice (some (if cap=l then a else a.add (l * te.size))) (hh - l) (cap - l),?_,.d ?_⟩
      .simp[Instr.sliceAt,hg.bX ht,hd,Instr.slice,this,hg.sizeOf bJ];split<;>rfl
      .by_cases hz:hh - l=0
       .rw[hz,List.take_zero];exact .empty hk (by unfold maxLen at *;omega)
       .rcases hr with rfl | ⟨b,off,sz,f,rfl,hX,aK,bu,YX,gR⟩
        .simp at h2;omega
        .have bO:¬ cap=l:=by omega
         rw[if_neg bO,addr_add]
         have ZF:l * te.size=l * sz:=by
          rcases h3 with h3 | h3
          .have:l=0:=by omega
           simp[this]
          .have aG:els≠[]:=by intro e;simp[e]at h2;omega
           obtain⟨el,aJ⟩:=List.exists_mem_of_ne_nil _ aG;rw[<- h3 el aJ,bu el aJ]
         rw[ZF];refine .sl (sz:=sz) (f:=fun i j=>f (l+i) j) hk ?_ (by omega) (by unfold maxLen at *;omega) hX ?_ aK (by omega) ?_ ?_
         .simp;omega
         .intro el aJ;exact bu el (List.mem_of_mem_drop (List.mem_of_mem_take aJ))
         .intro i j hi hj;have:=YX (l+i) j (by omega) hj;rw[Nat.add_mul]at this;rw[<- this];congr 2;omega
         .intro i j el c aJ hc;rw[List.getElem?_take]at aJ;split at aJ
          .rw[List.getElem?_drop]at aJ;exact gR _ j el c aJ hc
          .cases aJ
    .cases he
   .cases he
  .cases h
 .rename_i r off n;split at h
  .rename_i s ty sz els he hHr;simp only[Option.some.injEq,Prod.mk.injEq]at h;obtain⟨rfl,rfl⟩:=h;obtain⟨h0,h1,h2,rfl⟩:=hc;unfold j3 at he;split at he
   .rename_i ti ht;split at he
    .rename_i e hd;obtain⟨te,bJ,rfl⟩:=Option.map_eq_some_iff.1 he;generalize lo.getD 0=l at *;have mR:=hH n;generalize hi.getD ↑n=hh at *;obtain⟨l,rfl⟩:=Int.eq_ofNat_of_zero_le h0;obtain⟨hh,rfl⟩:=Int.eq_ofNat_of_zero_le (show 0<=hh by omega)
     have e1:((hh:Int) - l).toNat=hh - l:=by omega
     simp only[Int.toNat_natCast,e1];obtain⟨m,hm,hu⟩:=hx.gV;obtain⟨m',bA,ok⟩:=hs.rows r _ hHr;rw[hm]at bA;obtain rfl:=Option.some.inj bA
     have aK:m.sz=te.size:=by cases ok<;>assumption
     by_cases hz:(l:Int)=n/\¬ (l:Int)=0
     .rw[if_pos hz]
      rcases hu with⟨hb,rfl,rfl,rfl⟩ | ⟨b,hb,rfl,hle⟩
      .omega
      .have Xu:m.cap<=maxLen:=by
        cases ok with
        | nil aH _=>rw[hb]at aH;cases aH
        | sl aH _ _ _ _ bA=>exact bA
       have:=rU (P:=P) (w:=w) (isS:=true) (cap:=m.cap - off) hL mR h0 h1 (by omega);refine⟨.slice (some (if m.cap - off=l then ⟨b,off * m.sz,none⟩ else (⟨b,off * m.sz,none⟩:Addr).add (l * te.size))) (hh - l) (m.cap - off - l),?_,?_⟩
       .simp[Instr.sliceAt,hg.bX ht,hd,Instr.slice,this,hg.sizeOf bJ];split<;>rfl
       .rw[show hh - l=0 by omega];exact .d (.empty (by simp) (by omega))
     rw[if_neg hz]
     have h3:(l:Int)=0\/(l:Int) < n:=by omega
     rcases hu with⟨hb,rfl,rfl,rfl⟩ | ⟨b,hb,rfl,hle⟩
     .have l0:l=0:=by omega
      have hh0:hh=0:=by omega
      subst l0 hh0;have:=rU (P:=P) (w:=w) (isS:=true) (cap:=0) hL mR h0 h1 (by simp);refine⟨.slice none 0 0,?_,.own hm (.inl ⟨hb,rfl,rfl,rfl⟩)⟩;simp[Instr.sliceAt,hg.bX ht,hd,Instr.slice,hg.sizeOf bJ];simp at this;simp[this]
     .have:=rU (P:=P) (w:=w) (isS:=true) (cap:=m.cap - off) hL mR h0 h1 (by omega);refine⟨.slice (some (if m.cap - off=l then ⟨b,off * m.sz,none⟩ else (⟨b,off * m.sz,none⟩:Addr).add (l * te.size))) (hh - l) (m.cap - off - l),?_,.own hm (.inr ⟨b,hb,?_,by omega⟩)⟩
      .simp[Instr.sliceAt,hg.bX ht,hd,Instr.slice,this,hg.sizeOf bJ];split<;>rfl
      .rw[addr_add,<- aK,<- Nat.add_mul]
       have e3:m.cap - off - l=m.cap - (off+l):=by omega
       rw[e3];split
       .have:l=0:=by omega
        subst this;simp
       .rfl
    .cases he
   .cases he
  .cases h
 .cases h
end
end Go.Av
namespace Go.Av
def cq (μ:Mu) (r:Nat) (m:ff):Mu:=fun q=>if q=r then some m else μ q
def YT (r:Nat) (e:Env):Env:=fun i=>(e i).map (AV.kill r)
def cf (r:Nat) (H:Heap):Heap:=fun q=>(H q).map (Row.kill r)
theorem aet.same {w w':World} {Mv X:Nat->Prop} {μ ak:Mu} (h:Ev Mv w μ w' ak) (du:∀ q m,μ q=some m->ak q=some m) {m:ff} (hb:∀ b,m.Y3=some b->w'.heap[b]? = w.heap[b]?) {row:Row} (ok:aet w X μ m row):aet w' X ak m row:=by
 cases ok with
 | nil h1 h2=>exact .nil h1 h2
 | sl h1 h2 h3 h4 h5 h6 h7 h8 h9=>
  exact .sl h1 h2 ((hb _ h1).trans h3) h4 h5 h6 h7 h8 fun i j el c he hc=>let ⟨u,hu,hr⟩:=h9 i j el c he hc;⟨u,hu,hr.ev h⟩
 | box h1 h2 h3 h4 h5 h6 h7=>exact .box h1 h2 h3 ((hb _ h1).trans h4) h5 (fun j u c hu hc=>(h6 j u c hu hc).same h du) h7
 | mp h1 h2 h3 h4=>exact .mp h1 ((hb _ h1).trans h2) h3 fun i e p he hp=>let ⟨a,b,c⟩:=h4 i e p he hp;⟨a,b,c.ev h⟩
 | it h1 h2 h3=>exact .it h1 ((hb _ h1).trans h2) (h3.ev h)
theorem aet.keep {w w':World} {Mv X:Nat->Prop} {μ ak:Mu} (h:Ev Mv w μ w' ak) {r:Nat} (du:∀ q,q≠r->ak q=μ q) {m:ff} (hb:∀ b,m.Y3=some b->w'.heap[b]? = w.heap[b]?) {row:Row} (ok:aet w X μ m row):aet w' X ak m (row.kill r):=by
 cases ok with
 | nil h1 h2=>exact .nil h1 h2
 | sl h1 h2 h3 h4 h5 h6 h7 h8 h9=>
  exact .sl h1 h2 ((hb _ h1).trans h3) h4 h5 h6 h7 h8 fun i j el c he hc=>let ⟨u,hu,hr⟩:=h9 i j el c he hc;⟨u,hu,hr.ev h⟩
 | box h1 h2 h3 h4 h5 h6 h7=>
  refine .box h1 rfl h3 ((hb _ h1).trans h4) (by simpa using h5) (fun j u c hu hc=>?_) (by simpa using h7);rw[List.getElem?_map]at hc;obtain⟨c',YS,rfl⟩:=Option.map_eq_some_iff.1 hc;exact (h6 j u c' hu YS).keep h du
 | mp h1 h2 h3 h4=>exact .mp h1 ((hb _ h1).trans h2) h3 fun i e p he hp=>let ⟨a,b,c⟩:=h4 i e p he hp;⟨a,b,c.ev h⟩
 | it h1 h2 h3=>exact .it h1 ((hb _ h1).trans h2) (h3.ev h)
section
variable {Mv X:Nat->Prop} {G:Yt} {N:Fr} {w w':World} {μ:Mu} {a:Act} {σ:St}
theorem aet.ZZ {m:ff} {row:Row} {b:Nat} (ok:aet w X μ m row) (hb:m.Y3=some b):b < w.heap.size:=by
 cases ok with
 | nil aH _=>rw[aH]at hb;cases hb
 | sl aH _ hh=>rw[aH]at hb;obtain rfl:=Option.some.inj hb;exact (Array.getElem?_eq_some_iff.1 hh).1
 | box aH _ _ hh=>rw[aH]at hb;obtain rfl:=Option.some.inj hb;exact (Array.getElem?_eq_some_iff.1 hh).1
 | mp aH hh=>rw[aH]at hb;obtain rfl:=Option.some.inj hb;exact (Array.getElem?_eq_some_iff.1 hh).1
 | it aH hh=>rw[aH]at hb;obtain rfl:=Option.some.inj hb;exact (Array.getElem?_eq_some_iff.1 hh).1
theorem cw.ml {H:Heap} (h:cw w X μ H) {r:Nat} (hr:H r=none):μ r=none:=by
 cases hm:μ r with
 | none=>rfl
 | some m=>obtain⟨row,hr'⟩:=h.gl r m hm;rw[hr]at hr';cases hr'
structure bQ (w w':World):Prop where
 size:w.heap.size<=w'.heap.size
 os:w'.os=w.os
 tape:w'.tape=w.tape
 output:w'.output=w.output
 same:∀ b,b < w.heap.size->w'.heap[b]? = w.heap[b]?
theorem bQ.refl (w:World):bQ w w:=⟨Nat.le_refl _,rfl,rfl,rfl,fun _ _=>rfl⟩
theorem bQ.alloc (w:World) (o:Obj):bQ w (w.alloc o):=⟨by simp,rfl,rfl,rfl,fun b hb=>by rw[<- World.alloc_eq];simp[Array.getElem?_push,Nat.ne_of_lt hb]⟩
theorem bQ.drew (w:World):bQ w w.drew:=⟨Nat.le_refl _,rfl,rfl,rfl,fun _ _=>rfl⟩
theorem In.iW (hi:In w X G μ N a σ) (hg:bQ w w'):In w' X G μ N a σ/\Ev Mv w μ w' μ:=by
 have ev:Ev Mv w μ w' μ:=⟨hg.size,hg.os,hg.tape,hg.output,fun b hb hr=>⟨hg.same b hb,hr⟩,fun _ _ h _=>h⟩;refine⟨⟨⟨fun r row hr=>?_,hi.aL.gl,hi.aL.inj,hi.aL.frame,fun b hb=>Nat.lt_of_lt_of_le (hi.aL.fits b hb) hg.size⟩,⟨hi.env.defers,hi.env.size,fun i x hx=>?_⟩,fun g x hx=>(hi.eZ g x hx).ev ev⟩,ev⟩
 .obtain⟨m,hm,ok⟩:=hi.aL.rows r row hr;exact⟨m,hm,ok.same ev (fun _ _ h=>h) fun b hb=>hg.same b (ok.ZZ hb)⟩
 .obtain⟨u,hu,hr⟩:=hi.env.slot i x hx;exact⟨u,hu,hr.same ev fun _ _ h=>h⟩
theorem In.alloc (hi:In w X G μ N a σ) {d:Nat} (hd:σ.H d=none) (hg:bQ w w') {m:ff} (hm:∀ b,m.Y3=some b->w.heap.size<=b) {row:Row}
  (ok:Ev Mv w μ w' (cq μ d m)->aet w' X (cq μ d m) m row):In w' X G (cq μ d m) N a ⟨σ.env,aF σ.H d row⟩/\Ev Mv w μ w' (cq μ d m):=by
 have tq:=hi.aL.ml hd
 have du:∀ q m',μ q=some m'->cq μ d m q=some m':=by
  intro q m' hq;unfold cq;split
  .rename_i e;subst e;rw[tq]at hq;cases hq
  .exact hq
 have ev:Ev Mv w μ w' (cq μ d m):=by
  refine⟨hg.size,hg.os,hg.tape,hg.output,fun b hb hr=>⟨hg.same b hb,?_⟩,fun _ _ h _=>du _ _ h⟩;rintro⟨q,m',hq,aH⟩;unfold cq at hq;split at hq
  .obtain rfl:=Option.some.inj hq;have:=hm b aH;omega
  .exact hr ⟨q,m',hq,aH⟩
 have ok:=ok ev;refine⟨⟨⟨fun r ey hr=>?_,fun r m' hr=>?_,fun r r' m1 m2 b h1 h2 Y8 Y4=>?_,fun r m' b hr hb=>?_,fun b hb=>Nat.lt_of_lt_of_le (hi.aL.fits b hb) hg.size⟩,⟨hi.env.defers,hi.env.size,fun i x hx=>?_⟩,fun g x hx=>(hi.eZ g x hx).ev ev⟩,ev⟩
 .dsimp only[aF]at hr;split at hr
  .rename_i e;subst e;obtain rfl:=Option.some.inj hr;exact⟨m,by simp[cq],ok⟩
  .rename_i e;obtain⟨m',bA,qh⟩:=hi.aL.rows r ey hr;exact⟨m',du r m' bA,qh.same ev du fun b hb=>hg.same b (qh.ZZ hb)⟩
 .unfold cq at hr;split at hr
  .rename_i e;exact⟨row,by simp[aF,e]⟩
  .rename_i e;obtain⟨ey,hr'⟩:=hi.aL.gl r m' hr;exact⟨ey,by simp[aF,e,hr']⟩
 .have lt:∀ q m',μ q=some m'->m'.Y3=some b->b < w.heap.size:=fun q m' hq hb=>hi.aL.ZZ ⟨q,m',hq,hb⟩;unfold cq at h1 h2;split at h1<;>split at h2
  .rename_i e1 e2;rw[e1,e2]
  .obtain rfl:=Option.some.inj h1;have:=hm b Y8;have:=lt r' m2 h2 Y4;omega
  .obtain rfl:=Option.some.inj h2;have:=hm b Y4;have:=lt r m1 h1 Y8;omega
  .exact hi.aL.inj r r' m1 m2 b h1 h2 Y8 Y4
 .unfold cq at hr;split at hr
  .obtain rfl:=Option.some.inj hr;intro hX;have:=hm b hb;have:=hi.aL.fits b hX;omega
  .exact hi.aL.frame r m' b hr hb
 .obtain⟨u,hu,hr⟩:=hi.env.slot i x hx;exact⟨u,hu,hr.same ev du⟩
theorem In.write (hi:In w X G μ N a σ) {r b:Nat} {m:ff} (hm:μ r=some m) (hb:m.Y3=some b) (hs:w'.heap.size=w.heap.size) (ho:w'.os=w.os) (ht:w'.tape=w.tape) (tu:w'.output=w.output)
  (abA:∀ k,k≠b->w'.heap[k]? = w.heap[k]?) {row:Row} (ok:Ev Mv w μ w' μ->aet w' X μ m row):In w' X G μ N a ⟨σ.env,aF σ.H r row⟩/\Ev Mv w μ w' μ:=by
 have ev:Ev Mv w μ w' μ:=⟨by omega,ho,ht,tu,fun k hk hr=>⟨abA k fun e=>hr ⟨r,m,hm,e ▸ hb⟩,hr⟩,fun _ _ h _=>h⟩;have ok:=ok ev;refine⟨⟨⟨fun q ey hq=>?_,fun q m' hq=>?_,hi.aL.inj,hi.aL.frame,fun b hb=>by have:=hi.aL.fits b hb;omega⟩,⟨hi.env.defers,hi.env.size,fun i x hx=>?_⟩,fun g x hx=>(hi.eZ g x hx).ev ev⟩,ev⟩
 .dsimp only[aF]at hq;split at hq
  .rename_i e;subst e;obtain rfl:=Option.some.inj hq;exact⟨m,hm,ok⟩
  .rename_i e;obtain⟨m',bA,qh⟩:=hi.aL.rows q ey hq;exact⟨m',bA,qh.same ev (fun _ _ h=>h) fun k hk=>abA k fun e'=>e (hi.aL.inj q r m' m k bA hm hk (e' ▸ hb))⟩
 .by_cases e:q=r
  .exact⟨row,by simp[aF,e]⟩
  .obtain⟨ey,hr'⟩:=hi.aL.gl q m' hq;exact⟨ey,by simp[aF,e,hr']⟩
 .obtain⟨u,hu,hr⟩:=hi.env.slot i x hx;exact⟨u,hu,hr.same ev fun _ _ h=>h⟩
theorem In.move (hi:In w X G μ N a σ) {r:Nat} {m m':ff} (hm:μ r=some m) (cW:Mv r) (hs:w.heap.size<=w'.heap.size) (ho:w'.os=w.os) (ht:w'.tape=w.tape) (tu:w'.output=w.output)
  (abA:∀ k,k < w.heap.size->m.Y3≠some k->w'.heap[k]? = w.heap[k]?) (iH:∀ b,m'.Y3=some b->w.heap.size<=b\/m.Y3=some b) {row:Row}
  (ok:Ev Mv w μ w' (cq μ r m')->aet w' X (cq μ r m') m' row):In w' X G (cq μ r m') N a ⟨YT r σ.env,aF (cf r σ.H) r row⟩/\Ev Mv w μ w' (cq μ r m'):=by
 have du:∀ q,q≠r->cq μ r m' q=μ q:=fun q hq=>by simp[cq,hq]
 have ev:Ev Mv w μ w' (cq μ r m'):=by
  refine⟨hs,ho,ht,tu,fun b hb hr=>⟨abA b hb fun e=>hr ⟨r,m,hm,e⟩,?_⟩,fun q mq hq hn=>?_⟩
  .rintro⟨q,mq,hq,gp⟩;unfold cq at hq;split at hq
   .obtain rfl:=Option.some.inj hq
    rcases iH b gp with h | h
    .omega
    .exact hr ⟨r,m,hm,h⟩
   .exact hr ⟨q,mq,hq,gp⟩
  .have:q≠r:=fun e=>hn (e ▸ cW);rw[du q this];exact hq
 have ok:=ok ev;refine⟨⟨⟨fun q ey hq=>?_,fun q mq hq=>?_,fun q q' m1 m2 b h1 h2 Y8 Y4=>?_,fun q mq b hq hb=>?_,fun b hb=>Nat.lt_of_lt_of_le (hi.aL.fits b hb) hs⟩,⟨hi.env.defers,hi.env.size,fun i x hx=>?_⟩,fun g x hx=>(hi.eZ g x hx).ev ev⟩,ev⟩
 .dsimp only[aF]at hq;split at hq
  .rename_i e;subst e;obtain rfl:=Option.some.inj hq;exact⟨m',by simp[cq],ok⟩
  .rename_i e;unfold cf at hq;obtain⟨jj,h0,rfl⟩:=Option.map_eq_some_iff.1 hq;obtain⟨mq,rh,qh⟩:=hi.aL.rows q jj h0;exact⟨mq,(du q e).trans rh,qh.keep ev du fun k hk=>abA k (qh.ZZ hk) fun e'=>e (hi.aL.inj q r mq m k rh hm hk e')⟩
 .by_cases e:q=r
  .exact⟨row,by simp[aF,e]⟩
  .rw[du q e]at hq;obtain⟨ey,hr'⟩:=hi.aL.gl q mq hq;exact⟨ey.kill r,by simp[aF,e,cf,hr']⟩
 .have lt:∀ q mq,μ q=some mq->mq.Y3=some b->b < w.heap.size:=fun q mq hq hb=>hi.aL.ZZ ⟨q,mq,hq,hb⟩;by_cases e1:q=r<;>by_cases e2:q'=r
  .rw[e1,e2]
  .rw[du q' e2]at h2;simp only[cq,e1,if_true,Option.some.injEq]at h1;subst h1
   rcases iH b Y8 with h | h
   .have:=lt q' m2 h2 Y4;omega
   .exact absurd (hi.aL.inj q' r m2 m b h2 hm Y4 h) e2
  .rw[du q e1]at h1;simp only[cq,e2,if_true,Option.some.injEq]at h2;subst h2
   rcases iH b Y4 with h | h
   .have:=lt q m1 h1 Y8;omega
   .exact absurd (hi.aL.inj q r m1 m b h1 hm Y8 h) e1
  .rw[du q e1]at h1;rw[du q' e2]at h2;exact hi.aL.inj q q' m1 m2 b h1 h2 Y8 Y4
 .by_cases e:q=r
  .simp only[cq,e,if_true,Option.some.injEq]at hq;subst hq
   rcases iH b hb with h | h
   .intro hX;have:=hi.aL.fits b hX;omega
   .exact hi.aL.frame r m b hm h
  .rw[du q e]at hq;exact hi.aL.frame q mq b hq hb
 .unfold YT at hx;obtain⟨x0,h0,rfl⟩:=Option.map_eq_some_iff.1 hx;obtain⟨u,hu,hr⟩:=hi.env.slot i x0 h0;exact⟨u,hu,hr.keep ev du⟩
theorem xy (hs:cw w X μ σ.H) {r off n ty sz:Nat} {els:List (List D)} (hH:σ.H r=some (.sl ty sz els)) (hle:off+n<=els.length) {u:Value} (hu:RV w X μ u (.own r off n)) :
  ∃ k,RD w (XX X (fun q=>if q=r then none else μ q)) u (.sl k ((els.drop off).take n))/\(0 < n->k=some true)/\k≠some false:=by
 obtain⟨m,hm,hh⟩:=hu.gV;obtain⟨m',bA,ok⟩:=hs.rows r _ hH;rw[hm]at bA;obtain rfl:=Option.some.inj bA
 have hX:∀ b,m.Y3=some b->¬ XX X (fun q=>if q=r then none else μ q) b:=by
  rintro b hb (h | ⟨q,mq,hq,gp⟩)
  .exact hs.frame r m b hm hb h
  .dsimp only at hq;split at hq
   .cases hq
   .rename_i e;exact e (hs.inj q r mq m b hq hm gp hb)
 rcases hh with⟨hb,rfl,rfl,rfl⟩ | ⟨b,hb,rfl,fL⟩
 .exact⟨none,by simpa using .nil (by simp),by omega,by simp⟩
 .cases ok with
  | nil aH _=>rw[aH]at hb;cases hb
  | sl aH aK hh bR hn dK hl hz hr=>
   rename_i b' cur;rw[hb]at aH;obtain rfl:=Option.some.inj aH;subst aK;by_cases h0:n=0
   .subst h0;exact⟨some true,by rw[List.take_zero];exact .empty (by simp) (by unfold maxLen at *;omega),by omega,by simp⟩
   .refine⟨some true,.sl (sz:=m.sz) (f:=fun i j=>cur.getD ((off+i) * m.sz+j) undef) (by simp) (by simp;omega) (by omega) (by unfold maxLen at *;omega) (hX b hb) (fun el aJ=>hl el (List.mem_of_mem_drop (List.mem_of_mem_take aJ))) hz (by omega) ?_ ?_,by simp,by simp⟩
    .intro i j hi hj
     have Yv:(off+i) * m.sz+j < cur.size:=by
      rw[bR];have:(off+i+1) * m.sz<=m.cap * m.sz:=Nat.mul_le_mul_right _ (by omega);rw[Nat.add_mul]at this;omega
     have e1:off * m.sz+(i * m.sz+j)=(off+i) * m.sz+j:=by rw[Nat.add_mul];omega
     rw[e1,cell_of_row w b _ cur ty (0,0) hh];simp[Array.getD_eq_getD_getElem?,Yv]
    .intro i j el c aJ hc;rw[List.getElem?_take]at aJ;split at aJ
     .rw[List.getElem?_drop]at aJ;obtain⟨u',ZU,bq⟩:=hr (off+i) j el c aJ hc;rw[Array.getD_eq_getD_getElem?,ZU];refine bq.mono (Nat.le_refl _) fun b hb hXX=>⟨rfl,?_⟩;rintro (h | ⟨q,mq,hq,gp⟩)
      .exact hXX (.inl h)
      .dsimp only at hq;split at hq
       .cases hq
       .exact hXX (.inr ⟨q,mq,hq,gp⟩)
     .cases aJ
end
end Go.Av
namespace Go.Av
def D.one:D->Bool
 | .v x=>x.oneCell'
 | .agg _ | .aR _=>false
 | _=>true
def AV.one:AV->Bool
 | .d x=>x.one
 | .own _ _ _ | .ref _ _ _ | .bg _ _ | .fn _ _ | .mp _=>true
 | _=>false
section
variable {w:World} {X:Nat->Prop} {μ:Mu}
theorem RD.rI {u:Value} {x:D} (h:RD w X u x) (h1:x.one=true):u.oneCell'=true:=by
 cases h<;>first | rfl | exact h1 | cases h1
theorem RV.rI {u:Value} {x:AV} (h:RV w X μ u x) (h1:x.one=true):u.oneCell'=true:=by
 cases h with
 | d h=>exact h.rI h1
 | own _ h=>rcases h with⟨_,rfl,_⟩ | ⟨b,_,rfl,_⟩<;>rfl
 | ref _ _=>rfl
 | bg _=>rfl
 | fn _ _=>rfl
 | mp _ _=>rfl
 | _=>cases h1
theorem cells_one {u:Value} (h:u.oneCell'=true):u.cells = #[u]:=by cases u<;>first | rfl | cases h
structure r6 (w:World) (X:Nat->Prop) (μ:Mu) (arr:Array Value) (cells:List AV):Prop where
 size:arr.size=cells.length
 at_:∀ (j:Nat) (u:Value) (c:AV),arr[j]? = some u->cells[j]? = some c->RV w X μ u c
def eW:AV->Option (List AV)
 | .d (.agg cs)=>some (cs.map .d)
 | .agg cs=>some cs
 | x=>if x.one then some [x] else none
theorem abW {u:Value} {x:AV} {cs:List AV} (hx:RV w X μ u x) (h:eW x=some cs):r6 w X μ u.cells cs:=by
 unfold eW at h;split at h
 .obtain rfl:=Option.some.inj h;obtain⟨arr,rfl,hn,hr⟩:=hx.data.lV;exact⟨by simpa[Value.cells]using hn,RV.rE hr⟩
 .obtain rfl:=Option.some.inj h;obtain⟨arr,rfl,hn,hr⟩:=hx.lV;exact⟨hn,hr⟩
 .split at h
  .rename_i h1;obtain rfl:=Option.some.inj h;rw[cells_one (hx.rI h1)];refine⟨rfl,fun j v c hv hc=>?_⟩
   match j,hv,hc with
   | 0,hv,hc=>simp at hv hc;subst hv hc;exact hx
   | j+1,hv,hc=>simp at hc
  .cases h
def dW:Value->List D
 | .agg arr=>arr.toList.map mJ
 | v=>[mJ v]
theorem qz (v:Value):v.cells.size=(dW v).length/\∀ (j:Nat) (u:Value) (c:D),v.cells[j]? = some u->(dW v)[j]? = some c->RD w X u c:=by
 cases v with
 | agg arr=>
  refine⟨by simp[Value.cells,dW],fun j u c hu hc=>?_⟩;simp only[dW,List.getElem?_map]at hc;obtain⟨c',YS,rfl⟩:=Option.map_eq_some_iff.1 hc;rw[Array.getElem?_toList]at YS;simp only[Value.cells]at hu;rw[hu]at YS;obtain rfl:=Option.some.inj YS;exact qO _
 | _=>
  refine⟨rfl,fun j u c hu hc=>?_⟩
  match j,hu,hc with
  | 0,hu,hc=>simp[Value.cells,dW]at hu hc;subst hu hc;exact qO _
  | j+1,hu,hc=>simp[dW]at hc
end
def iu (Mv X:Nat->Prop) (G:Yt) (N:Fr) (w:World) (μ:Mu) (a:Act) (run:Result Value) (x:AV) (ay:St):Prop:=
 ∃ v w' ak,run = .ok v w'/\In w' X G ak N a ay/\RV w' X ak v x/\Ev Mv w μ w' ak
section
variable {P:Program} {T:Ty} {Mv X:Nat->Prop} {G:Yt} {N:Fr} {w:World} {μ:Mu} {a:Act} {σ:St}
theorem Hv (hi:In w X G μ N a σ) {d:Nat} (hd:σ.H d=none) (t:TypeId) {cur:Array Value} {cells:List AV} (hp:r6 w X μ cur cells) :
  iu Mv X G N w μ a (.ok (.pointer (some ⟨w.heap.size,0,none⟩)) (w.alloc (.cells cur t))) (.ref d 0 0) ⟨σ.env,aF σ.H d (.box t cells)⟩:=by
 have tq:=hi.aL.ml hd
 have hm:cq μ d ⟨some w.heap.size,cells.length,1⟩ d=some ⟨some w.heap.size,cells.length,1⟩:=by simp[cq]
 obtain⟨h1,h2⟩:=hi.alloc (Mv:=Mv) hd (bQ.alloc w (.cells cur t)) (m:=⟨some w.heap.size,cells.length,1⟩) (fun b hb=>by simp at hb;omega) (row:=.box t cells) fun ev=>
  .box rfl rfl (show 1<=maxLen by decide) (by simpa using heap_alloc_new w (.cells cur t)) (Nat.le_of_eq hp.size.symm) (hx:=fun _=>hp.size.symm) fun j u c hu hc=>(hp.at_ j u c hu hc).same ev fun q m' hq=>by
   unfold cq;split
   .rename_i e;subst e;rw[tq]at hq;cases hq
   .exact hq
 refine⟨_,_,_,rfl,h1,?_,h2⟩;have:=RV.ref (w:=w.alloc (.cells cur t)) (X:=X) (μ:=cq μ d ⟨some w.heap.size,cells.length,1⟩) (e:=0) (j:=0) (b:=w.heap.size) hm rfl;simpa using this
structure Kc (w:World) (X:Nat->Prop) (cur:Array Value) (sz:Nat) (els:List (List D)):Prop where
 len:∀ el∈els,el.length=sz
 at_:∀ (i j:Nat) (el:List D) (c:D),els[i]? = some el->el[j]? = some c->∃ u,cur[i * sz+j]? = some u/\RD w X u c
theorem Hw (hi:In w X G μ N a σ) {d:Nat} (hd:σ.H d=none) (t:TypeId) {cur:Array Value} {sz n cap:Nat} {els:List (List D)} (he:Kc w (XX X μ) cur sz els) (hz:0 < sz) (hc:cur.size=cap * sz) (hn:els.length=n) (fL:n<=cap) (Pd:cap<=maxLen) :
  iu Mv X G N w μ a (.ok (.slice (some ⟨w.heap.size,0,none⟩) n cap) (w.alloc (.cells cur t))) (.own d 0 n) ⟨σ.env,aF σ.H d (.sl t sz els)⟩:=by
 have hm:cq μ d ⟨some w.heap.size,sz,cap⟩ d=some ⟨some w.heap.size,sz,cap⟩:=by simp[cq]
 obtain⟨h1,h2⟩:=hi.alloc (Mv:=Mv) hd (bQ.alloc w (.cells cur t)) (m:=⟨some w.heap.size,sz,cap⟩) (fun b hb=>by simp at hb;omega) (row:=.sl t sz els) fun ev=>
  .sl rfl rfl (by simpa using heap_alloc_new w (.cells cur t)) hc (by simp;omega) Pd he.len hz fun i j el c h1 h2=>let ⟨u,hu,hr⟩:=he.at_ i j el c h1 h2;⟨u,hu,hr.ev ev⟩
 exact⟨_,_,_,rfl,h1,.own hm (.inr ⟨w.heap.size,rfl,by simp,by simpa using fL⟩),h2⟩
theorem Kn (hg:Good P T) (hi:In w X G μ N a σ) {d:Nat} (hd:σ.H d=none) {t:TypeId} {ti:TI} (ht:T t=some ti) :
  iu Mv X G N w μ a ((Instr.alloc t true (.tuple #[])).run P w) (.ref d 0 0) ⟨σ.env,aF σ.H d (.box t ((dW ti.zero).map .d))⟩:=by
 have:=Hv (Mv:=Mv) hi hd t (cur:=ti.zero.cells) (cells:=(dW ti.zero).map .d) ⟨by simpa using (qz (w:=w) (X:=X) ti.zero).1,RV.rE (qz ti.zero).2⟩;simpa[Instr.alloc,hg.zero ht,newVar,newRow]using this
theorem La (hi:In w X G μ N a σ) {d:Nat} (hd:σ.H d=none) {t:TypeId} {u:Value} {x:AV} {cs:List AV} (hx:RV w X μ u x) (hc:eW x=some cs) :
  iu Mv X G N w μ a ((Instr.box t u).run P w) (.ref d 0 0) ⟨σ.env,aF σ.H d (.box t cs)⟩:=by
 have:=Hv (Mv:=Mv) hi hd t (abW hx hc);simpa[Instr.box,newVar,newRow]using this
theorem abV {α:Type} (l cs:List α) (j i:Nat) (hj:j+cs.length<=l.length):(l.take j ++ cs ++ l.drop (j+cs.length))[i]? = if j<=i/\i < j+cs.length then cs[i - j]? else l[i]?:=by
 rw[List.append_assoc,List.getElem?_append];simp only[List.length_take]
 have e1:min j l.length=j:=by omega
 rw[e1];split
 .rename_i h;rw[if_neg (by omega),List.getElem?_take,if_pos h]
 .rename_i h;rw[List.getElem?_append];split
  .rename_i h2;rw[if_pos (by omega)]
  .rename_i h2;rw[if_neg (by omega),List.getElem?_drop];congr 1;omega
theorem IY {ti:TI} {t:TypeId} (hg:Good P T) (ht:T t=some ti) {b o:Nat} {ty:TypeId} {cur:Array Value} {u:Value} (hh:w.heap[b]? = some (.cells cur ty (0,0))) (hs:u.cells.size=ti.size) (ZR:o+ti.size<=cur.size) (h1:∀ v∈u.cells.toList,v.oneCell'=true) :
  (storeVar t ⟨b,o,none⟩ u).run P w = .ok () (w.setRow b (cur.toList.take o ++ u.cells.toList ++ cur.toList.drop (o+u.cells.toList.length)).toArray):=by
 have:=run_storeCells_at P b o ty u.cells.toList 0 cur w hh (by simp;omega) h1;simp only[Nat.add_zero]at this;simp[storeVar,hg.sizeOf ht,hs,this]
def xS (T:Ty) (t:TypeId) (cells:List AV) (j:Nat) (x:AV):Option (Prop×List AV):=match T t,eW x with
 | some ti,some cs=>some (cs.length=ti.size/\j+cs.length<=cells.length/\cs.all AV.one=true,cells.take j ++ cs ++ cells.drop (j+cs.length))
 | _,_=>none
theorem VG (hg:Good P T) (hi:In w X G μ N a σ) {t ty:TypeId} {r j:Nat} {cells abm:List AV} {ua u:Value} {x:AV} {c:Prop} (hH:σ.H r=some (.box ty cells)) (h:xS T t cells j x=some (c,abm)) (hc:c)
  (ha:RV w X μ ua (.ref r 0 j)) (hx:RV w X μ u x):∃ w',(Instr.storeAt t ua u).run P w = .ok () w'/\In w' X G μ N a ⟨σ.env,aF σ.H r (.box ty abm)⟩/\Ev Mv w μ w' μ:=by
 unfold xS at h;split at h
 .rename_i ti cs ht bR;simp only[Option.some.injEq,Prod.mk.injEq]at h;obtain⟨rfl,rfl⟩:=h;obtain⟨h1,h2,h3⟩:=hc;obtain⟨m,b,hm,hb,rfl⟩:=ha.gC;obtain⟨m',bA,ok⟩:=hi.aL.rows r _ hH;rw[hm]at bA;obtain rfl:=Option.some.inj bA;have hp:=abW hx bR
  cases ok with
  | box aH aK fL hh hn hr tI=>
   rename_i b' cur;rw[hb]at aH;obtain rfl:=Option.some.inj aH
   have kQ:∀ v∈u.cells.toList,v.oneCell'=true:=by
    intro v hv;obtain⟨i,cz,rfl⟩:=List.mem_iff_getElem.1 hv
    have dD:i < cs.length:=by rw[<- hp.size];simpa using cz
    refine (hp.at_ i _ cs[i] (by rw[<- Array.getElem?_toList,List.getElem?_eq_getElem cz]) (by simp[dD])).rI ?_;exact List.all_eq_true.1 h3 _ (List.getElem_mem dD)
   have bt:=IY (P:=P) hg ht (o:=j) hh (by rw[hp.size,h1]) (by omega) kQ
   have kR:u.cells.toList.length=cs.length:=by simpa using hp.size
   obtain⟨ax,aB⟩:=hi.write (Mv:=Mv) (w':=w.setRow b (cur.toList.take j ++ u.cells.toList ++ cur.toList.drop (j+u.cells.toList.length)).toArray) hm hb (by simp) rfl rfl rfl (fun k hk=>setRow_other w b k _ hk)
    (row:=.box ty (cells.take j ++ cs ++ cells.drop (j+cs.length))) fun ev=>by
     refine .box hb rfl fL (setRow_heap w b cur _ ty _ hh) ?_ (hx:=fun e=>?_) fun i v c hv hc=>?_
     .simp[kR];omega
     rotate_left
     .have:=tI e;simp[kR];omega
     .rw[abV _ _ _ _ h2]at hc;rw[<- Array.getElem?_toList]at hv;simp only at hv;rw[abV _ _ _ _ (by rw[kR];simp;omega),kR]at hv;refine RV.same ev (fun _ _ h=>h) ?_;split at hv
      .rename_i ke;rw[if_pos ke]at hc;exact hp.at_ _ v c (by simpa using hv) hc
      .rename_i ke;rw[if_neg ke]at hc;exact hr i v c (by simpa using hv) hc
   refine⟨_,?_,ax,aB⟩;simp only[Nat.zero_mul,Nat.zero_add];simpa[Instr.storeAt,Instr.sureAddr]using bt
 .cases h
def xU (T:Ty) (t:TypeId) (sz:Nat) (els:List (List D)) (e j:Nat) (x:AV):Option (Prop×List (List D)):=match T t,(eW x).bind ZM with
 | some ti,some cs=>some (cs.length=ti.size/\e < els.length/\j+cs.length<=sz/\cs.all D.one=true,els.set e ((els.getD e []).take j ++ cs ++ (els.getD e []).drop (j+cs.length)))
 | _,_=>none
theorem VH (hg:Good P T) (hi:In w X G μ N a σ) {t ty:TypeId} {r e j sz:Nat} {els iU:List (List D)} {ua u:Value} {x:AV} {c:Prop} (hH:σ.H r=some (.sl ty sz els)) (h:xU T t sz els e j x=some (c,iU)) (hc:c)
  (ha:RV w X μ ua (.ref r e j)) (hx:RV w X μ u x):∃ w',(Instr.storeAt t ua u).run P w = .ok () w'/\In w' X G μ N a ⟨σ.env,aF σ.H r (.sl ty sz iU)⟩/\Ev Mv w μ w' μ:=by
 unfold xU at h;split at h
 .rename_i ti ds ht bR;obtain⟨cs,bR,Z6⟩:=Option.bind_eq_some_iff.1 bR;simp only[Option.some.injEq,Prod.mk.injEq]at h;obtain⟨rfl,rfl⟩:=h;obtain⟨h1,h2,h3,h4⟩:=hc;obtain⟨m,b,hm,hb,rfl⟩:=ha.gC;obtain⟨m',bA,ok⟩:=hi.aL.rows r _ hH;rw[hm]at bA;obtain rfl:=Option.some.inj bA;have hp:=abW hx bR;rw[jZ Z6]at hp
  have cX:u.cells.size=ds.length:=by simpa using hp.size
  have wF:∀ (i:Nat) (v:Value) (c:D),u.cells[i]? = some v->ds[i]? = some c->RD w (XX X μ) v c:=fun i v c hv hc=>(hp.at_ i v (.d c) hv (by rw[List.getElem?_map,hc];rfl)).data
  cases ok with
  | nil aH _=>rw[hb]at aH;cases aH
  | sl aH aK hh Ac hn dK hl hz hr=>
   rename_i b' cur;rw[hb]at aH;obtain rfl:=Option.some.inj aH;subst aK
   have kQ:∀ v∈u.cells.toList,v.oneCell'=true:=by
    intro v hv;obtain⟨i,cz,rfl⟩:=List.mem_iff_getElem.1 hv
    have dD:i < ds.length:=by rw[<- cX];simpa using cz
    refine (wF i _ ds[i] (by rw[<- Array.getElem?_toList,List.getElem?_eq_getElem cz]) (by simp[dD])).rI ?_;exact List.all_eq_true.1 h4 _ (List.getElem_mem dD)
   have aJ:els.getD e []=els[e]:=by simp[List.getD_eq_getElem?_getD,h2]
   have hlen:(els[e]).length=m.sz:=hl _ (List.getElem_mem h2);have hE:(e+1) * m.sz<=m.cap * m.sz:=Nat.mul_le_mul_right _ (by omega);rw[Nat.add_mul]at hE;have bt:=IY (P:=P) hg ht (o:=e * m.sz+j) hh (by rw[cX,h1]) (by rw[Ac];omega) kQ
   have kR:u.cells.toList.length=ds.length:=by simpa using cX
   rw[aJ]
   obtain⟨ax,aB⟩:=hi.write (Mv:=Mv) (w':=w.setRow b (cur.toList.take (e * m.sz+j) ++ u.cells.toList ++ cur.toList.drop (e * m.sz+j+u.cells.toList.length)).toArray) hm hb (by simp) rfl rfl rfl (fun k hk=>setRow_other w b k _ hk)
    (row:=.sl ty m.sz (els.set e ((els[e]).take j ++ ds ++ (els[e]).drop (j+ds.length)))) fun ev=>by
     refine .sl hb rfl (setRow_heap w b cur _ ty _ hh) ?_ (by simpa using hn) dK ?_ hz ?_
     .simp[kR,Ac];omega
     .intro el nd
      rcases List.mem_or_eq_of_mem_set nd with h | rfl
      .exact hl el h
      .simp[hlen];omega
     .intro i k el c cz hk
      have key:∀ idx,((cur.toList.take (e * m.sz+j) ++ u.cells.toList ++ cur.toList.drop (e * m.sz+j+u.cells.toList.length)).toArray)[idx]? = if e * m.sz+j<=idx/\idx < e * m.sz+j+ds.length then u.cells[idx - (e * m.sz+j)]? else cur[idx]?:=by
       intro idx;rw[<- Array.getElem?_toList];simp only;rw[abV _ _ _ _ (by rw[kR];simp[Ac];omega),kR];simp
      rw[key]
      have ZA:k < m.sz:=by
       have bA:el∈els.set e ((els[e]).take j ++ ds ++ (els[e]).drop (j+ds.length)):=List.mem_of_getElem? cz
       have:el.length=m.sz:=by
        rcases List.mem_or_eq_of_mem_set bA with h | rfl
        .exact hl el h
        .simp[hlen];omega
       have:=(List.getElem?_eq_some_iff.1 hk).1;omega
      rw[List.getElem?_set]at cz;split at cz
      .rename_i Ai;subst Ai
       try rw[if_pos h2]at cz
       obtain rfl:=Option.some.inj cz;rw[abV _ _ _ _ (by omega)]at hk;split at hk
       .rename_i ra;rw[if_pos (by omega)]
        have e1:e * m.sz+k - (e * m.sz+j)=k - j:=by omega
        rw[e1]
        have Yv:k - j < u.cells.size:=by omega
        exact⟨u.cells[k - j],by simp[Yv],(wF (k - j) _ c (by simp[Yv]) hk).ev ev⟩
       .rename_i ra;rw[if_neg (by omega)];obtain⟨v,hv,bq⟩:=hr e k _ c (List.getElem?_eq_getElem h2) hk;exact⟨v,hv,bq.ev ev⟩
      .rename_i Ai
       have aG:¬ (e * m.sz+j<=i * m.sz+k/\i * m.sz+k < e * m.sz+j+ds.length):=by
        rintro⟨g1,g2⟩
        rcases Nat.lt_or_gt_of_ne Ai with h | h
        .have:(e+1) * m.sz<=i * m.sz:=Nat.mul_le_mul_right _ h;rw[Nat.add_mul]at this;omega
        .have:(i+1) * m.sz<=e * m.sz:=Nat.mul_le_mul_right _ h;rw[Nat.add_mul]at this;omega
       rw[if_neg aG];obtain⟨v,hv,bq⟩:=hr i k el c cz hk;exact⟨v,hv,bq.ev ev⟩
   refine⟨_,?_,ax,aB⟩;simpa[Instr.storeAt,Instr.sureAddr]using bt
 .cases h
def aad (ti:TI) (n:Nat):List (List D):=List.replicate n (dW ti.zero)
theorem Rt (hg:Good P T) (hi:In w X G μ N a σ) {d:Nat} (hd:σ.H d=none) {t e:TypeId} {tt te:TI} (YO:T t=some tt) (YQ:tt.desc = .slice e) (bJ:T e=some te) {k1 k2:IntKind} {l c:Int} (h0:0<=l) (h1:l<=c) (h2:te.bytes * c<=281474976710656) (h3:c<=9223372036854775807)
  (hz:0 < te.size) (kU:(dW te.zero).length=te.size) :
  iu Mv X G N w μ a ((Instr.makeSlice t (.int k1 l) (.int k2 c)).run P w) (.own d 0 l.toNat) ⟨σ.env,aF σ.H d (.sl e te.size (aad te l.toNat))⟩:=by
 obtain⟨hu,i0,gN,c6,ZQ,ic,_⟩:=hg e te bJ;have ht:=(hg t tt YO).1;rw[YQ]at ht;rw[run_make (P:=P) w t e i0 te.zero ht gN ic k1 k2 l c h0 h1 (by rw[ZQ];exact h2) h3,c6];refine Hw (Mv:=Mv) hi hd e ⟨fun el aJ=>?_,fun i j el d aJ hd=>?_⟩ hz (size_madeCells _ _) (by simp[aad]) (by omega) (by unfold maxLen;omega)
 .rw[List.eq_of_mem_replicate aJ,kU]
 .unfold aad at aJ;rw[List.getElem?_replicate]at aJ;split at aJ
  .rename_i Yv;obtain rfl:=Option.some.inj aJ
   have hj:j < te.size:=by rw[<- kU];exact (List.getElem?_eq_some_iff.1 hd).1
   have lM:=qz (w:=w) (X:=XX X μ) te.zero
   have bR:te.zero.cells.size=te.size:=by rw[lM.1,kU]
   have hjc:j < te.zero.cells.size:=by omega
   refine⟨te.zero.cells[j],?_,lM.2 j _ d (by simp[hjc]) hd⟩
   have hb:i * te.size+j < c.toNat * te.size:=by
    have:(i+1) * te.size<=c.toNat * te.size:=Nat.mul_le_mul_right _ (by omega);rw[Nat.add_mul]at this;omega
   have pW:(i * te.size+j) % te.size=j:=by rw[Nat.mul_comm,Nat.mul_add_mod,Nat.mod_eq_of_lt hj]
   simp[madeCells,hb,bR,pW];exact getElem!_pos te.zero.cells j hjc
  .cases aJ
end
end Go.Av
namespace Go.Av
section
variable {P:Program} {T:Ty} {Mv X:Nat->Prop} {G:Yt} {N:Fr} {w:World} {μ:Mu} {a:Act} {σ:St}
def abl (sz:Nat):Nat->List (Nat×AV)->Option (List (List D))
 | _,[]=>some []
 | k,(i,x) :: rest=>if i=k then match (eW x).bind ZM with
   | some ds=>if ds.length=sz then (abl sz (k+1) rest).map (ds :: ·) else none
   | none=>none
  else none
theorem Ia (vs:List Value):∀ (n off:Nat) (arr:Array Value) (k:Nat),off+n+vs.length<=arr.size->
  ((vs.zipIdx n).foldl (fun cs (p:Value×Nat)=>cs.setIfInBounds (off+p.2) p.1) arr)[k]? = if off+n<=k/\k < off+n+vs.length then vs[k - (off+n)]? else arr[k]?:=by
 induction vs with
 | nil=>
  intro n off arr k _;simp only[List.zipIdx_nil,List.foldl_nil,List.length_nil];rw[if_neg (by omega)]
 | cons v vs ih=>
  intro n off arr k hk;simp only[List.length_cons]at hk;rw[List.zipIdx_cons,List.foldl_cons,ih (n+1) off _ k (by simp;omega)];simp only[List.length_cons];by_cases h1:k=off+n
  .subst h1;rw[if_neg (by omega),if_pos (by omega)];simp[Array.getElem?_setIfInBounds,show off+n < arr.size by omega]
  .by_cases h2:off+(n+1)<=k/\k < off+(n+1)+vs.length
   .rw[if_pos h2,if_pos (by omega)]
    have:k - (off+n)=(k - (off+(n+1)))+1:=by omega
    rw[this];rfl
   .rw[if_neg h2,if_neg (by omega)];exact Array.getElem?_setIfInBounds_ne (by omega)
theorem Ib (vs:List Value):∀ (n off:Nat) (arr:Array Value),((vs.zipIdx n).foldl (fun cs (p:Value×Nat)=>cs.setIfInBounds (off+p.2) p.1) arr).size=arr.size:=by
 induction vs with
 | nil=>intros;rfl
 | cons v vs ih=>intro n off arr;rw[List.zipIdx_cons,List.foldl_cons,ih];simp
theorem ED {sz:Nat}:∀ (ps:List (Nat×AV)) (vs:List (Nat×Value)) (k:Nat) (els:List (List D)) (arr:Array Value),abl sz k ps=some els->vs.map (·.1)=ps.map (·.1)->
  (∀ (i:Nat) (p:Nat×AV) (v:Nat×Value),ps[i]? = some p->vs[i]? = some v->RV w X μ v.2 p.2)->(k+ps.length) * sz<=arr.size->
  ∃ gh,Instr.fill (fun i=>some (i * sz,sz)) arr vs=some gh/\gh.size=arr.size/\(∀ idx,idx < k * sz->gh[idx]? = arr[idx]?)/\els.length=ps.length/\(∀ el∈els,el.length=sz)/\
   ∀ (i j:Nat) (el:List D) (c:D),els[i]? = some el->el[j]? = some c->∃ u,gh[(k+i) * sz+j]? = some u/\RD w (XX X μ) u c:=by
 intro ps
 induction ps with
 | nil=>
  intro vs k els arr h hv _ _
  cases vs with
  | cons _ _=>simp at hv
  | nil=>
   simp only[abl,Option.some.injEq]at h;subst h;exact⟨arr,rfl,rfl,fun _ _=>rfl,rfl,by simp,by simp⟩
 | cons p ps ih=>
  intro vs k els arr h hv hr hs;obtain⟨i,x⟩:=p
  cases vs with
  | nil=>simp at hv
  | cons v vs=>
   obtain⟨i',u⟩:=v;simp only[List.map_cons,List.cons.injEq]at hv;obtain⟨rfl,hv⟩:=hv;simp only[abl]at h;split at h
   case isFalse=>cases h
   rename_i Aw;subst Aw;split at h
   case h_2=>cases h
   rename_i ds Z6;split at h
   case isFalse=>cases h
   rename_i hlen;obtain⟨iU,pM,rfl⟩:=Option.map_eq_some_iff.1 h;obtain⟨cs,bR,bu⟩:=Option.bind_eq_some_iff.1 Z6;have hp:=abW (hr 0 (i',x) (i',u) rfl rfl) bR;rw[jZ bu]at hp
   have cX:u.cells.size=sz:=by have:=hp.size;simp at this;omega
   have wF:∀ (j:Nat) (v:Value) (c:D),u.cells[j]? = some v->ds[j]? = some c->RD w (XX X μ) v c:=fun j v c hv hc=>(hp.at_ j v (.d c) hv (by rw[List.getElem?_map,hc];rfl)).data
   have ZR:i' * sz+sz<=arr.size:=by
    simp only[List.length_cons]at hs;have:(i'+1) * sz<=(i'+(ps.length+1)) * sz:=Nat.mul_le_mul_right _ (by omega);rw[Nat.add_mul]at this;omega
   let gF:=(u.cells.zipIdx.foldl (fun cs (p:Value×Nat)=>cs.setIfInBounds (i' * sz+p.2) p.1) arr)
   have sX:gF=((u.cells.toList.zipIdx 0).foldl (fun cs (p:Value×Nat)=>cs.setIfInBounds (i' * sz+p.2) p.1) arr):=by
    show Array.foldl _ _ _=_;rw[<- Array.foldl_toList,Array.toList_zipIdx]
   have wO:gF.size=arr.size:=by rw[sX];exact Ib _ _ _ _
   have wg:∀ k,gF[k]? = if i' * sz<=k/\k < i' * sz+sz then u.cells[k - i' * sz]? else arr[k]?:=by
    intro k;rw[sX,Ia _ 0 _ _ _ (by simp[cX];omega)];simp[cX]
   obtain⟨gh,hf,oG,hold,hlen',zW,iH⟩:=ih vs (i'+1) iU gF pM hv (fun i p v h1 h2=>hr (i+1) p v (by simpa using h1) (by simpa using h2)) (by rw[wO];simp only[List.length_cons]at hs;rw[show i'+1+ps.length=i'+(ps.length+1) by omega];exact hs);refine⟨gh,?_,oG.trans wO,fun idx wm=>?_,by simp[hlen'],fun el aJ=>?_,fun i j el c hi hj=>?_⟩
   .simp only[Instr.fill]
    have:¬ (u.cells.size≠sz\/i' * sz+u.cells.size > arr.size):=by omega
    simp only[cX,ne_eq,not_true_eq_false,decide_false,Bool.false_or,decide_eq_true_eq];rw[if_neg (by omega)];exact hf
   .rw[hold idx (by rw[Nat.add_mul];omega),wg,if_neg (by omega)]
   .rcases List.mem_cons.1 aJ with rfl | h
    .exact hlen
    .exact zW el h
   .cases i with
    | zero=>
     simp at hi;subst hi
     have ef:j < sz:=by rw[<- hlen];exact (List.getElem?_eq_some_iff.1 hj).1
     have FU:j < u.cells.size:=by omega
     refine⟨u.cells[j],?_,wF j _ c (by simp[FU]) hj⟩;rw[Nat.add_zero,hold _ (by rw[Nat.add_mul];omega),wg,if_pos (by omega)];simp[FU]
    | succ i=>
     simp at hi;have:=iH i j el c hi hj
     rwa [show i'+1+i=i'+(i+1) by omega]at this
theorem Ld (hg:Good P T) (hi:In w X G μ N a σ) {d:Nat} (hd:σ.H d=none) {t e:TypeId} {tt te:TI} (YO:T t=some tt) (YQ:tt.desc = .slice e) (bJ:T e=some te) {len:Nat} {ps:List (Nat×AV)} {vs:Array (Nat×Value)} {els:List (List D)}
  (Ob:abl te.size 0 ps=some els) (hlen:ps.length=len) (hv:vs.toList.map (·.1)=ps.map (·.1)) (hr:∀ (i:Nat) (p:Nat×AV) (v:Nat×Value),ps[i]? = some p->vs[i]? = some v->RV w X μ v.2 p.2)
  (hz:0 < te.size) (A8:len * te.size<=16777216) :
  iu Mv X G N w μ a ((Instr.buildSlice t len vs).run P w) (.own d 0 len) ⟨σ.env,aF σ.H d (.sl e te.size els)⟩:=by
 have hu:=hg.bX (w:=w) YO;have aK:=hg.sizeOf (w:=w) bJ;have tK:=hg.zero (w:=w) bJ
 obtain⟨gh,hf,oG,_,hl,bu,iH⟩:=ED (w:=w) (X:=X) (μ:=μ) (sz:=te.size) ps vs.toList 0 els ((Array.range (len * te.size)).map ((if len * te.size=0 then #[] else te.zero.cells)[· % (if len * te.size=0 then #[] else te.zero.cells).size]!)) Ob hv
  (fun i p v h1 h2=>hr i p v h1 (by rwa [Array.getElem?_toList]at h2)) (by simp[hlen])
 have:=Hw (Mv:=Mv) hi hd e (cur:=gh) (sz:=te.size) (n:=len) (cap:=len) (els:=els) ⟨bu,fun i j el c h1 h2=>by simpa using iH i j el c h1 h2⟩ hz (by rw[oG];simp) (by omega) (Nat.le_refl _) (by
  have:len<=len * te.size:=Nat.le_mul_of_pos_right _ hz
  unfold maxLen;omega)
 have hn:¬ len * te.size > 2 ^ 24:=by omega
 have e0:∀ f:Nat->Value,(Array.range 0).map f = #[]:=fun f=>by apply Array.ext<;>simp
 by_cases h0:len * te.size=0
 .simp only[h0,if_true,e0]at hf;simp only[Instr.buildSlice,Sem.run_bind,hu,YQ,Result.andThen_ok,aK,hn,if_false,h0,if_true,Sem.run_pure,e0];simp[hf,newRow];exact this
 .simp only[h0,if_false]at hf;simp only[Instr.buildSlice,Sem.run_bind,hu,YQ,Result.andThen_ok,aK,hn,if_false,h0,Sem.run_pure,tK];simp[hf,newRow];exact this
def qT (pl:Nat->Option (Nat×Nat)):List AV->List (Nat×AV)->Option (List AV)
 | cs,[]=>some cs
 | cs,(i,x) :: rest=>match pl i,eW x with
  | some (off,sz),some xs=>if xs.length=sz/\off+sz<=cs.length then qT pl (cs.take off ++ xs ++ cs.drop (off+sz)) rest else none
  | _,_=>none
theorem Mw {pl:Nat->Option (Nat×Nat)}:∀ (ps:List (Nat×AV)) (vs:List (Nat×Value)) (cs kG:List AV) (arr:Array Value),qT pl cs ps=some kG->vs.map (·.1)=ps.map (·.1)->
  (∀ (i:Nat) (p:Nat×AV) (v:Nat×Value),ps[i]? = some p->vs[i]? = some v->RV w X μ v.2 p.2)->r6 w X μ arr cs->∃ gh,Instr.fill pl arr vs=some gh/\r6 w X μ gh kG:=by
 intro ps
 induction ps with
 | nil=>
  intro vs cs kG arr h hv _ hp
  cases vs with
  | cons _ _=>simp at hv
  | nil=>
   simp only[qT,Option.some.injEq]at h;subst h;exact⟨arr,rfl,hp⟩
 | cons p ps ih=>
  intro vs cs kG arr h hv hr hp;obtain⟨i,x⟩:=p
  cases vs with
  | nil=>simp at hv
  | cons v vs=>
   obtain⟨i',u⟩:=v;simp only[List.map_cons,List.cons.injEq]at hv;obtain⟨rfl,hv⟩:=hv;simp only[qT]at h;split at h
   case h_2=>cases h
   rename_i off sz xs cX Qi;split at h
   case isFalse=>cases h
   rename_i hc;obtain⟨eu,ZR⟩:=hc;have Gf:=abW (hr 0 (i',x) (i',u) rfl rfl) Qi
   have Bj:u.cells.size=sz:=by rw[Gf.size,eu]
   have Xj:arr.size=cs.length:=hp.size
   let gF:=(u.cells.zipIdx.foldl (fun cs (p:Value×Nat)=>cs.setIfInBounds (off+p.2) p.1) arr)
   have sX:gF=((u.cells.toList.zipIdx 0).foldl (fun cs (p:Value×Nat)=>cs.setIfInBounds (off+p.2) p.1) arr):=by
    show Array.foldl _ _ _=_;rw[<- Array.foldl_toList,Array.toList_zipIdx]
   have wO:gF.size=arr.size:=by rw[sX];exact Ib _ _ _ _
   have wg:∀ k,gF[k]? = if off<=k/\k < off+sz then u.cells[k - off]? else arr[k]?:=by
    intro k;rw[sX,Ia _ 0 _ _ _ (by simp[Bj];omega)];simp[Bj]
   have eC:r6 w X μ gF (cs.take off ++ xs ++ cs.drop (off+sz)):=by
    refine⟨by rw[wO];simp;omega,fun j v c kT hc=>?_⟩;rw[wg]at kT
    have gO:(List.take off cs).length=off:=by simp;omega
    rw[List.append_assoc,List.getElem?_append,gO]at hc;split at hc
    .rename_i hj;rw[if_neg (by omega)]at kT;rw[List.getElem?_take,if_pos hj]at hc;exact hp.at_ j v c kT hc
    .rename_i hj;rw[List.getElem?_append,eu]at hc;split at hc
     .rename_i fY;rw[if_pos (by omega)]at kT;exact Gf.at_ _ v c kT hc
     .rename_i fY;rw[if_neg (by omega)]at kT;rw[List.getElem?_drop]at hc;refine hp.at_ j v c kT ?_;rw[<- hc];congr 1;omega
   obtain⟨gh,hf,Pu⟩:=ih vs _ kG gF h hv (fun i p v h1 h2=>hr (i+1) p v (by simpa using h1) (by simpa using h2)) eC;refine⟨gh,?_,Pu⟩;simp only[Instr.fill,cX,Bj,ne_eq,not_true_eq_false,decide_false,Bool.false_or,decide_eq_true_eq];rw[if_neg (by omega)];exact hf
def Cm (T:Ty) (t:TypeId):Option (Nat->Option (Nat×Nat)):=match T t with
 | some ti=>match ti.desc with
  | .struct fs=>if fs.toList.all (fun f=>(T f.type).isSome) then some fun i=>(fs[i]?).bind fun (f:Field)=>(T f.type).map fun tf=>(f.offset,tf.size) else none
  | .array _ e=>(T e).map fun te=>fun i=>some (i * te.size,te.size)
  | _=>none
 | none=>none
def ve (T:Ty) (t:TypeId) (ps:List (Nat×AV)):fV:=match T t,Cm T t with
 | some ti,some pl=>(qT pl ((dW ti.zero).map .d) ps).map fun cs=>(True,kr cs)
 | _,_=>none
theorem run_places (hg:Good P T):∀ (l:List Field),l.all (fun f=>(T f.type).isSome)=true->
  (l.mapM (m:=Sem) fun (f:Field)=>do pure (f.offset,<- Go.sizeOf f.type)).run P w = .ok (l.map fun (f:Field)=>(f.offset,((T f.type).map (·.size)).getD 0)) w:=by
 intro l
 induction l with
 | nil=>intro _;simp
 | cons f l ih=>
  intro h;simp only[List.all_cons,Bool.and_eq_true]at h;obtain⟨ti,Bg⟩:=Option.isSome_iff_exists.1 h.1;simp only[List.mapM_cons,Sem.run_bind,hg.sizeOf Bg,Result.andThen_ok,Sem.run_pure,ih h.2,List.map_cons,Bg,Option.map_some,Option.getD_some]
theorem Lc (hg:Good P T) {t:TypeId} {ps:List (Nat×AV)} {vs:Array (Nat×Value)} {c:Prop} {x:AV} (h:ve T t ps=some (c,x)) (hv:vs.toList.map (·.1)=ps.map (·.1))
  (hr:∀ (i:Nat) (p:Nat×AV) (v:Nat×Value),ps[i]? = some p->vs[i]? = some v->RV w X μ v.2 p.2):∃ u,(Instr.build t vs).run P w = .ok u w/\RV w X μ u x:=by
 unfold ve at h;split at h
 case h_2=>cases h
 rename_i ti pl ht cX;obtain⟨cs,bR,he⟩:=Option.map_eq_some_iff.1 h;simp only[Prod.mk.injEq]at he;obtain⟨_,rfl⟩:=he;have hz:=qz (w:=w) (X:=XX X μ) ti.zero;obtain⟨gh,hf,hp⟩:=Mw (w:=w) (X:=X) (μ:=μ) ps vs.toList _ cs ti.zero.cells bR hv (fun i p v h1 h2=>hr i p v h1 (by rwa [Array.getElem?_toList]at h2)) ⟨by simpa using hz.1,RV.rE hz.2⟩;refine⟨.agg gh,?_,tW (.agg hp.size hp.at_)⟩;unfold Cm at cX;rw[ht]at cX;dsimp only at cX;split at cX
 .rename_i fs q7;split at cX
  .rename_i bu;obtain rfl:=Option.some.inj cX;have hm:=run_places (P:=P) (w:=w) hg fs.toList bu
   have Pw:(fun (i:Nat)=>((fs.toList.map fun (f:Field)=>(f.offset,((T f.type).map (·.size)).getD 0)).toArray)[i]?)=fun (i:Nat)=>(fs[i]?).bind fun (f:Field)=>(T f.type).map fun tf=>(f.offset,tf.size):=by
    funext i;simp only[List.getElem?_toArray,List.getElem?_map,Array.getElem?_toList]
    cases hi:fs[i]? with
    | none=>rfl
    | some f=>
     have abg:f∈fs.toList:=by rw[<- Array.getElem?_toList]at hi;exact List.mem_of_getElem? hi
     obtain⟨tf,wT⟩:=Option.isSome_iff_exists.1 (List.all_eq_true.1 bu f abg);simp[wT]
   simp only[Instr.build,Sem.run_bind,hg.zero ht,hg.bX ht,q7,Result.andThen_ok,Array.mapM_eq_mapM_toList,map_eq_pure_bind,hm,Sem.run_pure];rw[<- Pw]at hf;simp only[hf,Sem.run_pure]
  .cases cX
 .rename_i n e he;obtain⟨te,bJ,cX⟩:=Option.map_eq_some_iff.1 cX;subst cX;simp[Instr.build,Sem.run_bind,hg.zero ht,hg.bX ht,he,Result.andThen_ok,hg.sizeOf bJ,hf]
 .cases cX
structure lU (w:World) (X:Nat->Prop) (μ:Mu) (sz:Nat) (u:Value) (els:List (List D)):Prop where
 len:∀ el∈els,el.length=sz
 at_:(els=[]/\∃ (ad:Option Addr) (cap:Nat),u = .slice ad 0 cap)\/∃ (ad:Addr) (cap:Nat) (news:List Value),u = .slice (some ad) els.length cap/\news.length=els.length * sz/\(∀ (j:Nat) (v:Value),news[j]? = some v->w.cell? (ad.add j)=some v)/\(∀ v∈news,v.oneCell'=true)/\
  ∀ (i j:Nat) (el:List D) (c:D),els[i]? = some el->el[j]? = some c->∃ v,news[i * sz+j]? = some v/\RD w (XX X μ) v c
theorem lU.Cb {sz:Nat} {els:List (List D)} {b off cap:Nat} (f:Nat->Nat->Value) (hl:∀ el∈els,el.length=sz) (hz:0 < sz) (h1:∀ el∈els,∀ c∈el,D.one c=true)
  (YX:∀ i j,i < els.length->j < sz->w.cell? ⟨b,off+(i * sz+j),none⟩=some (f i j)) (hr:∀ (i j:Nat) (el:List D) (c:D),els[i]? = some el->el[j]? = some c->RD w (XX X μ) (f i j) c) :
  lU w X μ sz (.slice (some ⟨b,off,none⟩) els.length cap) els:=by
 refine⟨hl,.inr ⟨_,_,(List.range (els.length * sz)).map fun k=>f (k / sz) (k % sz),rfl,by simp,fun j v hv=>?_,fun v hv=>?_,fun i j el c hi hj=>?_⟩⟩
 .rw[List.getElem?_map]at hv;obtain⟨k,hk,rfl⟩:=Option.map_eq_some_iff.1 hv;rw[List.getElem?_range]at hk
  .obtain rfl:=Option.some.inj hk
   have OY:j < els.length * sz:=by
    rcases Nat.lt_or_ge j (els.length * sz)with h | h
    .exact h
    .rw[List.getElem?_eq_none (by simpa using h)]at hv;cases hv
   have h2:j / sz < els.length:=(Nat.div_lt_iff_lt_mul hz).2 OY;have h3:j % sz < sz:=Nat.mod_lt _ hz;rw[addr_add,<- YX (j / sz) (j % sz) h2 h3,Nat.div_add_mod']
  .rcases Nat.lt_or_ge j (els.length * sz)with h | h
   .exact h
   .rw[List.getElem?_eq_none (by simpa using h)]at hv;cases hv
 .obtain⟨k,hk,rfl⟩:=List.mem_map.1 hv;have hk:=List.mem_range.1 hk;have h2:k / sz < els.length:=(Nat.div_lt_iff_lt_mul hz).2 hk
  have h3:k % sz < (els[k / sz]).length:=by rw[hl _ (List.getElem_mem h2)];exact Nat.mod_lt _ hz
  exact (hr (k / sz) (k % sz) _ _ (List.getElem?_eq_getElem h2) (List.getElem?_eq_getElem h3)).rI (h1 _ (List.getElem_mem h2) _ (List.getElem_mem h3))
 .have cz:=(List.getElem?_eq_some_iff.1 hi).1;have aJ:el.length=sz:=hl _ (List.mem_of_getElem? hi)
  have ef:j < sz:=by rw[<- aJ];exact (List.getElem?_eq_some_iff.1 hj).1
  have hb:i * sz+j < els.length * sz:=by
   have:(i+1) * sz<=els.length * sz:=Nat.mul_le_mul_right _ cz;rw[Nat.add_mul]at this;omega
  have e1:(i * sz+j) / sz=i:=by rw[Nat.mul_comm,Nat.mul_add_div hz,Nat.div_eq_of_lt ef];rfl
  have e2:(i * sz+j) % sz=j:=by rw[Nat.mul_comm,Nat.mul_add_mod,Nat.mod_eq_of_lt ef]
  refine⟨f i j,?_,hr i j el c hi hj⟩;rw[List.getElem?_map,List.getElem?_range hb];simp[e1,e2]
def ZX (H:Heap) (r:Nat):AV->Option (List (List D))
 | .d (.sl _ els)=>some els
 | .own q off n=>if q=r then none else match H q with
  | some (.sl _ _ els)=>if off+n<=els.length then some ((els.drop off).take n) else none
  | _=>none
 | _=>none
theorem ue (hs:cw w X μ σ.H) {r sz:Nat} {u:Value} {x:AV} {els:List (List D)} (hx:RV w X μ u x) (h:ZX σ.H r x=some els) (hl:∀ el∈els,el.length=sz) (hz:0 < sz) (h1:∀ el∈els,∀ c∈el,D.one c=true):lU w X μ sz u els:=by
 unfold ZX at h;split at h
 .rename_i k0 L4;obtain rfl:=Option.some.inj h
  rcases hx.data.k8 with⟨rfl,rfl,_⟩ | ⟨ad,cap,rfl,_,_,_,hr⟩
  .exact⟨by simp,.inl ⟨rfl,_,_,rfl⟩⟩
  .rcases hr with rfl | ⟨b,off,xV,f,rfl,hX,tJ,bu,YX,gR⟩
   .exact⟨by simp,.inl ⟨rfl,_,_,rfl⟩⟩
   .by_cases he:L4=[]
    .subst he;exact⟨by simp,.inl ⟨rfl,_,_,rfl⟩⟩
    .obtain⟨el,aJ⟩:=List.exists_mem_of_ne_nil _ he
     have:xV=sz:=by rw[<- bu el aJ,hl el aJ]
     subst this;exact lU.Cb f hl hz h1 YX gR
 .rename_i q off n;split at h
  .cases h
  .split at h
   .rename_i ty XJ vr hq;split at h
    .rename_i hle;obtain rfl:=Option.some.inj h;obtain⟨m,hm,hh⟩:=hx.gV;obtain⟨m',bA,ok⟩:=hs.rows q _ hq;rw[hm]at bA;obtain rfl:=Option.some.inj bA
     rcases hh with⟨hb,rfl,rfl,rfl⟩ | ⟨b,hb,rfl,fL⟩
     .exact⟨by simp,.inl ⟨by simp,_,_,rfl⟩⟩
     .cases ok with
      | nil aH _=>rw[aH]at hb;cases hb
      | sl aH aK hh bR hn dK ou Xz hr=>
       rename_i b' cur;rw[hb]at aH;obtain rfl:=Option.some.inj aH;subst aK;by_cases h0:n=0
       .subst h0;exact⟨by simp,.inl ⟨by simp,_,_,rfl⟩⟩
       .have hlen:((vr.drop off).take n).length=n:=by simp;omega
        have abg:∀ el∈(vr.drop off).take n,el∈vr:=fun el aJ=>List.mem_of_mem_drop (List.mem_of_mem_take aJ)
        have aG:(vr.drop off).take n≠[]:=by intro e;rw[e]at hlen;simp at hlen;omega
        obtain⟨y8,FK⟩:=List.exists_mem_of_ne_nil _ aG
        have P0:sz=m.sz:=by rw[<- hl y8 FK,ou y8 (abg y8 FK)]
        subst P0
        have:=lU.Cb (w:=w) (X:=X) (μ:=μ) (b:=b) (off:=off * m.sz) (cap:=m.cap - off) (fun i j=>cur.getD ((off+i) * m.sz+j) undef) hl hz h1 (fun i j hi hj=>by
         rw[hlen]at hi
         have Yv:(off+i) * m.sz+j < cur.size:=by
          rw[bR];have:(off+i+1) * m.sz<=m.cap * m.sz:=Nat.mul_le_mul_right _ (by omega);rw[Nat.add_mul]at this;omega
         have e1:off * m.sz+(i * m.sz+j)=(off+i) * m.sz+j:=by rw[Nat.add_mul];omega
         rw[e1,cell_of_row w b _ cur ty (0,0) hh]
         simp[Array.getD_eq_getD_getElem?,Yv]) (fun i j el c aJ hc=>by
         rw[List.getElem?_take]at aJ;split at aJ
         .rw[List.getElem?_drop]at aJ;obtain⟨u',ZU,bq⟩:=hr (off+i) j el c aJ hc;simpa[Array.getD_eq_getD_getElem?,ZU]using bq
         .cases aJ)
        rwa [hlen]at this
    .cases h
   .cases h
 .cases h
theorem IU {t ty e:TypeId} {tt te:TI} (hg:Good P T) (YO:T t=some tt) (YQ:tt.desc = .slice e) (bJ:T e=some te) (base ad:Option Addr) (n cap c:Nat) (hn:n<=cap) :
  (Builtin.append_ #[t,t] ty #[.slice base n cap,.slice ad 0 c]).run P w = .ok (.slice base n cap) w:=by
 have hu:=hg.bX (w:=w) YO;have aK:=hg.sizeOf (w:=w) bJ;cases ad<;>cases base<;>simp[Builtin.append_,hu,YQ,aK,Builtin.lenOf,hn,Builtin.firstCells,loadCells,loadCellsFrom,storeCells]
def Rel (w:World) (X:Nat->Prop) (μ:Mu) (sz:Nat) (l:List Value) (els:List (List D)):Prop:=
 ∀ (i j:Nat) (el:List D) (c:D),els[i]? = some el->el[j]? = some c->∃ v,l[i * sz+j]? = some v/\RD w (XX X μ) v c
theorem Rel.append {sz:Nat} {l l':List Value} {A B:List (List D)} (h:Rel w X μ sz l A) (hl:l.length=A.length * sz) (hA:∀ el∈A,el.length=sz) (h':Rel w X μ sz l' B):Rel w X μ sz (l ++ l') (A ++ B):=by
 intro i j el c hi hj;rw[List.getElem?_append]at hi;split at hi
 .rename_i Yv;obtain⟨v,hv,hr⟩:=h i j el c hi hj;exact⟨v,by rw[List.getElem?_append_left (List.getElem?_eq_some_iff.1 hv).1];exact hv,hr⟩
 .rename_i hge;obtain⟨v,hv,hr⟩:=h' _ j el c hi hj;refine⟨v,?_,hr⟩
  have e1:(i - A.length) * sz+j=i * sz+j - l.length:=by
   have:A.length * sz<=i * sz:=Nat.mul_le_mul_right _ (by omega);rw[hl,Nat.sub_mul];omega
  rw[List.getElem?_append_right,<- e1]
  .exact hv
  .have:A.length * sz<=i * sz:=Nat.mul_le_mul_right _ (by omega);omega
theorem Rel.more {sz:Nat} {l l':List Value} {A:List (List D)} (h:Rel w X μ sz l A):Rel w X μ sz (l ++ l') A:=by
 intro i j el c hi hj;obtain⟨v,hv,hr⟩:=h i j el c hi hj;exact⟨v,by rw[List.getElem?_append_left (List.getElem?_eq_some_iff.1 hv).1];exact hv,hr⟩
theorem yu (hg:Good P T) (hi:In w X G μ N a σ) {r n:Nat} (cW:Mv r) {t ty e:TypeId} {tt te:TI} (YO:T t=some tt) (YQ:tt.desc = .slice e) (bJ:T e=some te) {els news:List (List D)} {u v:Value}
  (hH:σ.H r=some (.sl e te.size els)) (hle:n<=els.length) (hu:RV w X μ u (.own r 0 n)) (hn:lU w X μ te.size v news) (hz:0 < te.size) (kU:(dW te.zero).length=te.size)
  (h63:n+news.length<=maxLen) (hb:(n+news.length) * te.bytes<=140737488355328) :
  iu Mv X G N w μ a ((Builtin.append_ #[t,t] ty #[u,v]).run P w) (.own r 0 (n+news.length)) ⟨YT r σ.env,aF (cf r σ.H) r (.sl e te.size (els.take n ++ news))⟩:=by
 obtain⟨m,hm,hh⟩:=hu.gV;obtain⟨m',bA,ok⟩:=hi.aL.rows r _ hH;rw[hm]at bA;obtain rfl:=Option.some.inj bA;obtain⟨oH,i0,gN,c6,ZQ,ic,_⟩:=hg e te bJ;have ht:=(hg t tt YO).1;rw[YQ]at ht;have lM:=qz (w:=w) (X:=XX X μ) te.zero
 have Ad:te.zero.cells.size=te.size:=by rw[lM.1,kU]
 have pU:∀ el∈els,el.length=te.size:=by
  cases ok with
  | nil=>simp
  | sl _ _ _ _ _ _ hl=>exact hl
 have ab8:∀ el∈els.take n ++ news,el.length=te.size:=by
  intro el aJ
  rcases List.mem_append.1 aJ with h | h
  .exact pU el (List.mem_of_mem_take h)
  .exact hn.len el h
 by_cases aG:news=[]
 .-- nothing is appended
  subst aG
  have hv:∃ ad c,v = .slice ad 0 c:=by
   rcases hn.at_ with⟨_,ad,cap,rfl⟩ | ⟨ad,cap,dN,rfl,_⟩
   .exact⟨_,_,rfl⟩
   .exact⟨_,_,rfl⟩
  obtain⟨ad,c,rfl⟩:=hv
  have l9:∃ base c,u = .slice base n c/\n<=c:=by
   rcases hh with⟨_,rfl,_,rfl⟩ | ⟨b,_,rfl,fL⟩
   .exact⟨_,_,rfl,Nat.le_refl _⟩
   .exact⟨_,_,rfl,by omega⟩
  obtain⟨base,c',tD,AQ⟩:=l9;have bt:=IU (P:=P) (w:=w) (ty:=ty) hg YO YQ bJ base ad n c' c AQ;rw[tD,bt]
  obtain⟨ax,aB⟩:=hi.move (Mv:=Mv) (w':=w) (m':=m) hm cW (Nat.le_refl _) rfl rfl rfl (fun _ _ _=>rfl) (fun b hb=>.inr hb) (row:=.sl e te.size (els.take n ++ [])) fun ev=>by
   rw[List.append_nil]
   cases ok with
   | nil Y8 dL=>rw[List.take_nil];exact .nil Y8 dL
   | sl g1 g2 g3 g4 g5 g6 g7 g8 g9=>
    refine .sl g1 g2 g3 g4 (by simp;omega) g6 (fun el aJ=>g7 el (List.mem_of_mem_take aJ)) g8 fun i j el c aJ hc=>?_;rw[List.getElem?_take]at aJ;split at aJ
    .obtain⟨v,hv,bq⟩:=g9 i j el c aJ hc;exact⟨v,hv,bq.ev ev⟩
    .cases aJ
  refine⟨_,_,_,rfl,ax,.own (m:=m) (by simp[cq]) ?_,aB⟩;rw[<- tD];exact hh
 .have ac4:0 < news.length:=List.length_pos_iff.2 aG
  rcases hn.at_ with⟨h,_⟩ | ⟨ad,cap,dN,rfl,eK,oB,kh,fZ⟩
  .exact absurd h aG
  have A8:n+news.length<=9223372036854775807:=by simp only[maxLen]at h63;omega
  have ack:∀ (xs:List Value) (c8:Nat),xs.length=n * te.size->Rel w X μ te.size xs (els.take n)->n+news.length<=c8->c8<=maxLen->
    iu Mv X G N w μ a (.ok (.slice (some ⟨w.heap.size,0,none⟩) (n+news.length) c8) (w.drew.alloc (.cells (xs.toArray ++ dN.toArray ++ Builtin.zeroCells te.zero.cells (c8 - (n+news.length))) e)))
     (.own r 0 (n+news.length)) ⟨YT r σ.env,aF (cf r σ.H) r (.sl e te.size (els.take n ++ news))⟩:=by
   intro xs c8 eu hxr dJ Zf
   have hZ:bQ w (w.drew.alloc (.cells (xs.toArray ++ dN.toArray ++ Builtin.zeroCells te.zero.cells (c8 - (n+news.length))) e)):=by
    have h1:=bQ.alloc w.drew (.cells (xs.toArray ++ dN.toArray ++ Builtin.zeroCells te.zero.cells (c8 - (n+news.length))) e);exact⟨h1.size,h1.os,h1.tape,h1.output,h1.same⟩
   have aK:(xs.toArray ++ dN.toArray ++ Builtin.zeroCells te.zero.cells (c8 - (n+news.length))).size=c8 * te.size:=by
    simp only[Array.size_append,List.size_toArray,size_zeroCells,Ad,eu,eK,<- Nat.add_mul];congr 1;omega
   obtain⟨ax,aB⟩:=hi.move (Mv:=Mv) (w':=w.drew.alloc (.cells (xs.toArray ++ dN.toArray ++ Builtin.zeroCells te.zero.cells (c8 - (n+news.length))) e)) (m':=⟨some w.heap.size,te.size,c8⟩) hm cW hZ.size hZ.os hZ.tape hZ.output
    (fun k hk _=>hZ.same k hk) (fun b hb=>by simp at hb;omega) (row:=.sl e te.size (els.take n ++ news)) fun ev=>by
     refine .sl rfl rfl (by simpa using heap_alloc_new w.drew (.cells (xs.toArray ++ dN.toArray ++ Builtin.zeroCells te.zero.cells (c8 - (n+news.length))) e)) aK (by simp;omega) Zf ab8 hz fun i j el c hi hj=>?_;have hrel:=((hxr.append (by rw[eu,List.length_take,Nat.min_eq_left hle]) (fun el aJ=>pU el (List.mem_of_mem_take aJ)) fZ).more (l':=(Builtin.zeroCells te.zero.cells (c8 - (n+news.length))).toList)) i j el c hi hj;obtain⟨v,hv,bq⟩:=hrel;refine⟨v,?_,bq.ev ev⟩;rw[<- Array.getElem?_toList];simpa using hv
   exact⟨_,_,_,rfl,ax,.own (m:=⟨some w.heap.size,te.size,c8⟩) (by simp[cq]) (.inr ⟨w.heap.size,rfl,by simp,by simpa using dJ⟩),aB⟩
  rcases hh with⟨Zv,rfl,_,rfl⟩ | ⟨b,Zv,rfl,fL⟩
  .have hr:=run_append_nil (P:=P) w t ty e i0 te.zero ht gN ic ad news.length cap dN (by rw[eK,c6]) oB ac4 (by omega) (by rw[ZQ];simp only[Nat.zero_add]at hb;omega);rw[hr];have:=ack [] (grownCap w news.length 0 e) (by simp) (by intro i j el c hi;simp at hi) (by have:=grownCap_ge w news.length 0 e;omega) (grownCap_le_maxLen w news.length 0 e (by unfold maxLen;omega));simpa using this
  .cases ok with
   | nil aH _=>rw[aH]at Zv;cases Zv
   | sl aH aK ja bR iG dK hl tJ hr=>
    rename_i b' cur;rw[Zv]at aH;obtain rfl:=Option.some.inj aH
    have z8:n<=m.cap:=by omega
    have hmul:n * te.size<=m.cap * te.size:=Nat.mul_le_mul_right _ z8
    have eu:(cur.toList.take (n * te.size)).length=n * te.size:=by rw[List.length_take,Array.length_toList,bR,Nat.min_eq_left hmul]
    have hxr:Rel w X μ te.size (cur.toList.take (n * te.size)) (els.take n):=by
     intro i j el c aJ hc;rw[List.getElem?_take]at aJ;split at aJ
     .rename_i ax;obtain⟨v,hv,bq⟩:=hr i j el c aJ hc;have nd:el.length=te.size:=hl _ (List.mem_of_getElem? aJ)
      have hj:j < te.size:=by rw[<- nd];exact (List.getElem?_eq_some_iff.1 hc).1
      refine⟨v,?_,bq⟩;rw[List.getElem?_take,if_pos]
      .simpa using hv
      .have:(i+1) * te.size<=n * te.size:=Nat.mul_le_mul_right _ ax;rw[Nat.add_mul]at this;omega
     .cases aJ
    by_cases l6:n+news.length<=m.cap
    .have ZR:n * te.size+dN.length<=cur.size:=by rw[eK,bR,<- Nat.add_mul];exact Nat.mul_le_mul_right _ l6
     have bt:=run_append_room (P:=P) w t ty e i0 ht gN b n m.cap cur ja ad news.length cap dN (by rw[eK,c6]) oB kh l6 (by rw[c6];exact ZR);simp only[Nat.zero_mul,Nat.sub_zero];rw[bt,c6]
     obtain⟨ax,aB⟩:=hi.move (Mv:=Mv) (w':=w.setRow b (cur.toList.take (n * te.size) ++ dN ++ cur.toList.drop (n * te.size+dN.length)).toArray) (m':=m) hm cW (by simp) rfl rfl rfl
      (fun k hk acb=>setRow_other w b k _ fun e'=>acb (by rw[Zv,e'])) (fun b hb=>.inr hb) (row:=.sl e te.size (els.take n ++ news)) fun ev=>by
       refine .sl Zv aK (setRow_heap w b cur _ e _ ja) ?_ (by simp;omega) dK ab8 hz fun i j el c hi hj=>?_
       .simp only[List.size_toArray,List.length_append,List.length_take,List.length_drop,Array.length_toList];omega
       .obtain⟨v,hv,bq⟩:=((hxr.append (by rw[eu,List.length_take,Nat.min_eq_left hle]) (fun el aJ=>pU el (List.mem_of_mem_take aJ)) fZ).more (l':=cur.toList.drop (n * te.size+dN.length))) i j el c hi hj;exact⟨v,by rw[<- Array.getElem?_toList];simpa using hv,bq.ev ev⟩
     refine⟨_,_,_,rfl,ax,.own (m:=m) (by simp[cq]) (.inr ⟨b,Zv,by simp,by simpa using l6⟩),aB⟩
    .have bt:=run_append_grow (P:=P) w t ty e i0 te.zero ht gN ic ⟨b,0,none⟩ n m.cap (cur.toList.take (n * te.size)) (by rw[eu,c6]) (fun j v hv=>by
      rw[addr_add,cell_of_row w b _ cur e (0,0) ja];rw[List.getElem?_take]at hv;split at hv
      .simpa using hv
      .cases hv) ad news.length cap dN (by rw[eK,c6]) oB (by omega) (by omega) (by rw[ZQ];exact growslice_fits (by omega) hb)
     simp only[Nat.zero_mul,Nat.sub_zero];rw[bt];exact ack _ _ eu hxr (grownCap_ge _ _ _ _) (grownCap_le_maxLen w _ _ e h63)
end
