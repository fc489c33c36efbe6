/- Parts. -/
import Derived.Test.YtdigkhaofjmgkaaGreatDoorFx3
import Derived.Laws.StructEq
set_option linter.unusedSectionVars false
set_option linter.unusedSimpArgs false
set_option linter.unusedVariables false
namespace Go.Av
def k9 (op:BinOp) (k:IntKind) (x y:Int):Int:=
 let a:=BitVec.ofInt k.bits x
 let b:=BitVec.ofInt k.bits y
 match op with
 | .and=>k.wrap (a &&& b).toNat
 | .or=>k.wrap (a ||| b).toNat
 | .xor=>k.wrap (a ^^^ b).toNat
 | _=>k.wrap (a &&& ~~~b).toNat
def qx (k:IntKind) (n:Int):Option (Prop×Value):=match k with
 | .i64=>some (-9223372036854775808<=n/\n<=9223372036854775807,.int .i64 n)
 | k=>some (True,.int k (k.wrap n))
def yK (op:BinOp) (k:IntKind) (a b:Int):Option (Prop×Value):=match op with
 | .add=>qx k (a+b)
 | .sub=>qx k (a - b)
 | .mul=>qx k (a * b)
 | .quo=>some (b≠0,.int k (k.wrap (a.tdiv b)))
 | .rem=>some (b≠0,.int k (a.tmod b))
 | .and=>some (True,.int k (k9 .and k a b))
 | .or=>some (True,.int k (k9 .or k a b))
 | .xor=>some (True,.int k (k9 .xor k a b))
 | .andNot=>some (True,.int k (k9 .andNot k a b))
 | .eql=>some (True,.bool (a == b))
 | .neq=>some (True,.bool (a != b))
 | .lss=>some (True,.bool (decide (a < b)))
 | .leq=>some (True,.bool (decide (a<=b)))
 | .gtr=>some (True,.bool (decide (a > b)))
 | .geq=>some (True,.bool (decide (a >= b)))
 | _=>none
def nY (op:BinOp) (k:IntKind) (a b:Int):Option (Prop×Value):=match op with
 | .shl=>some (0<=b,.int k (k.wrap (a * 2 ^ (min b.toNat k.bits))))
 | .shr=>some (0<=b,.int k (a.fdiv (2 ^ (min b.toNat k.bits))))
 | _=>none
def Ej:BinOp->Bool
 | .shl | .shr=>true
 | _=>false
def aO (op:BinOp) (a b:ByteArray):Option (Prop×Value):=match op with
 | .add=>some (a.size+b.size<=9223372036854775807,.string (a ++ b))
 | .eql=>some (True,.bool (a.toList == b.toList))
 | .neq=>some (True,.bool (!(a.toList == b.toList)))
 | .lss=>some (True,.bool (Op.bytesLess a.toList b.toList))
 | .leq=>some (True,.bool (Op.bytesLess a.toList b.toList || a.toList == b.toList))
 | .gtr=>some (True,.bool (!(Op.bytesLess a.toList b.toList || a.toList == b.toList)))
 | .geq=>some (True,.bool (!Op.bytesLess a.toList b.toList))
 | _=>none
theorem BE {n:Int} (h:-9223372036854775808<=n/\n<=9223372036854775807):IntKind.i64.wrap n=n:=by rw[IntKind.wrap_i64];omega
theorem CF {k:IntKind} {n:Int} {c:Prop} {v:Value} (h:qx k n=some (c,v)) (hc:c):v = .int k (k.wrap n):=by
 cases k<;>simp only[qx,AS,BY]at h<;>obtain⟨rfl,rfl⟩:=h
 all_goals first | rfl | (rw[BE hc])
theorem Ob {P:Program} {op:BinOp} (hop:Ej op=false) {k:IntKind} {a b:Int} {c:Prop} {v:Value} (h:yK op k a b=some (c,v)) (hc:c) (t:TypeId) (w:World):(binOp op t (.int k a) (.int k b)).run P w = .ok v w:=by
 unfold yK at h;cases op<;>simp only[AS,BY]at h
 all_goals first
  | (exact absurd hop (by decide))
  | (have:=CF h hc;subst this;simp[binOp,Op.intArith])
  | (obtain⟨rfl,rfl⟩:=h;simp[binOp,Op.intCmp];done)
  | (obtain⟨rfl,rfl⟩:=h;simp[binOp,Op.intBits,k9];done)
  | (obtain⟨rfl,rfl⟩:=h;simp[binOp,Op.intDiv,hc];done)
theorem YL {P:Program} {op:BinOp} {k yk:IntKind} {a b:Int} {c:Prop} {v:Value} (h:nY op k a b=some (c,v)) (hc:c) (t:TypeId) (w:World):(binOp op t (.int k a) (.int yk b)).run P w = .ok v w:=by
 unfold nY at h;cases op<;>simp only[AS,BY,reduceCtorEq]at h
 all_goals
  obtain⟨rfl,rfl⟩:=h
  have:¬ b < 0:=by omega
  simp[binOp,Op.shift,this]
theorem Oc {P:Program} {op:BinOp} {a b:ByteArray} {c:Prop} {v:Value} (h:aO op a b=some (c,v)) (hc:c) (t:TypeId) (w:World):(binOp op t (.string a) (.string b)).run P w = .ok v w:=by
 unfold aO at h;cases op<;>simp only[AS,BY,reduceCtorEq]at h
 all_goals obtain⟨rfl,rfl⟩:=h
 case add=>
  have:¬ (((a.size+b.size:Nat):Int) > IntKind.i64.max):=by simp[IntKind.max,IntKind.signed,IntKind.bits];omega
  simp[binOp,Op.stringOp,this]
  try omega
 all_goals simp[binOp,Op.stringOp]
def eqv (op:BinOp) (c:Prop) (b:Bool):hU:=match op with
 | .eql=>some (c,bool b)
 | .neq=>some (c,bool !b)
 | _=>none
def my (T:Ty) (t:TypeId) (p:TypeDesc->Bool):Bool:=match T t with
 | some ti=>p ti.desc
 | none=>false
def TypeDesc.isIface:TypeDesc->Bool | .interface _=>true | _=>false
def TypeDesc.isSlice:TypeDesc->Bool | .slice _=>true | _=>false
def TypeDesc.isBool:TypeDesc->Bool | .bool=>true | _=>false
def TypeDesc.isStr:TypeDesc->Bool | .string=>true | _=>false
def AE:TypeDesc->Value->Bool
 | .interface _,.nilIface | .pointer _,.pointer none | .func _ _ _,.nilFunc | .slice _,.slice none 0 0=>true
 | _,_=>false
def AB:AV->Value->Option (Prop×Bool)
 | .d (.bt _ _),.nilIface=>some (True,false)
 | .bt _ _,.nilIface=>some (True,false)
 | .d (.v .nilIface),.nilIface=>some (True,true)
 | .d (.ip _),.pointer none=>some (True,false)
 | .ref _ _ _,.pointer none=>some (True,false)
 | .d (.v (.pointer none)),.pointer none=>some (True,true)
 | .d (.fn _ _),.nilFunc=>some (True,false)
 | .fn _ _,.nilFunc=>some (True,false)
 | .d (.v .nilFunc),.nilFunc=>some (True,true)
 | .d (.sl (some b) _),.slice none 0 0=>some (True,!b)
 | .d (.sl none els),.slice none 0 0=>some (els≠[],false)
 | .own _ _ n,.slice none 0 0=>some (0 < n,false)
 | _,_=>none
def Ci:Operand->Option Value
 | .const v=>some v
 | _=>none
def E4 (T:Ty) (op:BinOp) (t:TypeId) (oy:Operand) (x:AV):hU:=match Ci oy with
 | some v=>if my T t (AE · v) then (AB x v).bind fun (c,b)=>eqv op c b else none
 | none=>none
def Cy (d:TypeDesc) (a b:Value):Option Bool:=match d,a,b with
 | .int _,.int k a,.int k' b=>if k=k' then some (a == b) else none
 | .string,.string a,.string b=>some (a.toList == b.toList)
 | .bool,.bool a,.bool b=>some (a == b)
 | _,_,_=>none
def agE (T:Ty) (xs ys:List D):List Field->Option Bool
 | []=>some true
 | f :: l=>if f.name = "_" then none else match T f.type,xs[f.offset]?,ys[f.offset]? with
  | some tf,some (.v a),some (.v b)=>match Cy tf.desc a b,agE T xs ys l with
   | some r,some r2=>some (r && r2)
   | _,_=>none
  | _,_,_=>none
def yJ (T:Ty) (op:BinOp) (t:TypeId) (oy:Operand) (x y:AV):hU:=match x,y with
 | .d (.v (.int k a)),.d (.v (.int k' b))=>
  if Ej op then (nY op k a b).map fun (c,v)=>(c,.d (.v v)) else if k=k' then (yK op k a b).map fun (c,v)=>(c,.d (.v v)) else none
 | .d (.v (.string a)),.d (.v (.string b))=>(aO op a b).map fun (c,v)=>(c,.d (.v v))
 | .d (.v (.bool a)),.d (.v (.bool b))=>if my T t TypeDesc.isBool then eqv op True (a == b) else none
 | .d (.agg xs),.d (.agg ys)=>match T t with
  | some ti=>match ti.desc with
   | .struct fs=>if ti.pe then (match agE T xs ys fs.toList with
    | some b=>eqv op True b
    | none=>none) else none
   | _=>none
  | none=>none
 | x,_=>E4 T op t oy x
theorem FD {P:Program} {w:World} {op:BinOp} {t:TypeId} {u v:Value} {c:Prop} {b:Bool} {z:AV} {X:Nat->Prop} {μ:Mu} (h:eqv op c b=some (c,z)) (hb:(binOp .eql t u v).run P w = .ok (.bool b) w)
  (hn:(binOp .neq t u v).run P w = .ok (.bool !b) w):∃ r,(binOp op t u v).run P w = .ok r w/\RV w X μ r z:=by
 unfold eqv at h;split at h
 .simp only[AS,BY,true_and]at h;subst h;exact⟨_,hb,.d (.v _)⟩
 .simp only[AS,BY,true_and]at h;subst h;exact⟨_,hn,.d (.v _)⟩
 .cases h
theorem qp {T:Ty} {t:TypeId} {p:TypeDesc->Bool} (h:my T t p=true):∃ ti,T t=some ti/\p ti.desc=true:=by
 unfold my at h;split at h
 .rename_i ti ht;exact⟨ti,ht,h⟩
 .cases h
theorem CA {op:BinOp} {c c':Prop} {b:Bool} {z:AV} (h:eqv op c b=some (c',z)):c'=c:=by
 unfold eqv at h;split at h<;>simp only[AS,BY,reduceCtorEq]at h
 .exact h.1.symm
 .exact h.1.symm
section
variable {P:Program} {w:World} {t:TypeId}
theorem Hy {ms:Array (String×TypeId)} (h:P.underlying t=some (.interface ms)) (d:Nat) (t':TypeId) (x:Value):(Op.equalIn (d+1) t (.iface t' x) .nilIface).run P w = .ok false w:=by
 simp[Op.equalIn,run_underlying h]
theorem PC {ms:Array (String×TypeId)} (h:P.underlying t=some (.interface ms)) (d:Nat):(Op.equalIn (d+1) t .nilIface .nilIface).run P w = .ok true w:=by
 simp[Op.equalIn,run_underlying h]
theorem Hz {e:TypeId} (h:P.underlying t=some (.pointer e)) (d:Nat) (a:Addr):(Op.equalIn (d+1) t (.pointer (some a)) (.pointer none)).run P w = .ok false w:=by
 simp[Op.equalIn,run_underlying h]
theorem PD {e:TypeId} (h:P.underlying t=some (.pointer e)) (d:Nat):(Op.equalIn (d+1) t (.pointer none) (.pointer none)).run P w = .ok true w:=by
 simp[Op.equalIn,run_underlying h]
theorem Hx {a b:Array TypeId} {c:Bool} (h:P.underlying t=some (.func a b c)) (d:Nat) (f:Fn) (x y:Array Value):(Op.equalIn (d+1) t (.func f x y) .nilFunc).run P w = .ok false w:=by
 simp[Op.equalIn,run_underlying h]
theorem PB {a b:Array TypeId} {c:Bool} (h:P.underlying t=some (.func a b c)) (d:Nat):(Op.equalIn (d+1) t .nilFunc .nilFunc).run P w = .ok true w:=by
 simp[Op.equalIn,run_underlying h]
theorem Cz {e:TypeId} (h:P.underlying t=some (.slice e)) (d:Nat) (a:Addr) (n c:Nat):(Op.equalIn (d+1) t (.slice (some a) n c) (.slice none 0 0)).run P w = .ok false w:=by
 simp[Op.equalIn,run_underlying h]
theorem PE {e:TypeId} (h:P.underlying t=some (.slice e)) (d:Nat):(Op.equalIn (d+1) t (.slice none 0 0) (.slice none 0 0)).run P w = .ok true w:=by
 simp[Op.equalIn,run_underlying h]
theorem PA (h:P.underlying t=some .bool) (d:Nat) (a b:Bool):(Op.equalIn (d+1) t (.bool a) (.bool b)).run P w = .ok (a == b) w:=by
 simp[Op.equalIn,run_underlying h]
end
def G0:Value->Bool
 | .int _ _ | .string _ | .float _ _ | .complex _ _ _=>false
 | _=>true
theorem aev {P:Program} {w:World} {t:TypeId} {u v:Value} {b:Bool} (hu:G0 u=true) (h:(Op.equalIn (9999+1) t u v).run P w = .ok b w) :
  (binOp .eql t u v).run P w = .ok (.bool b) w/\(binOp .neq t u v).run P w = .ok (.bool !b) w:=by
 have h':(Op.equal t u v).run P w = .ok b w:=h;cases u<;>simp[G0]at hu<;>constructor<;>simp[binOp,h']
theorem HR {P:Program} {w:World} {op:BinOp} {t:TypeId} {ox oy:Operand} {u v:Value} (h:¬ (u = .nilIface/\v = .nilIface)\/(∃ c,ox = .const c)\/∃ c,oy = .const c) (ha:∀ a,u≠.agg a) :
  (eqGuard op t ox oy u v).run P w = .ok () w:=by
 unfold eqGuard
 cases op<;>first | rfl | skip
 all_goals
  cases u<;>cases v<;>first | rfl | skip
  .rcases h with h | ⟨c,rfl⟩ | ⟨c,rfl⟩
   .simp at h
   .rfl
   .cases ox<;>rfl
  .exact absurd rfl (ha _)
theorem Vb {P:Program} {T:Ty} (hg:Good P T) {w:World} {X:Nat->Prop} {μ:Mu} {t:TypeId} {u v:Value} {x:AV} {c:Prop} {b:Bool} (h:AB x v=some (c,b)) (hc:c) (hx:RV w X μ u x)
  (hf:my T t (AE · v)=true):((binOp .eql t u v).run P w = .ok (.bool b) w/\(binOp .neq t u v).run P w = .ok (.bool !b) w)/\∀ a,u≠.agg a:=by
 obtain⟨ti,ht,hp⟩:=qp hf;have hu:=(hg t ti ht).1;unfold AB at h
 split at h<;>first | cases h;done | skip
 all_goals
  simp only[AS,BY]at h;obtain⟨rfl,rfl⟩:=h;cases cM:ti.desc<;>simp[cM,AE]at hp;rw[cM]at hu
 .obtain⟨v',rfl,_⟩:=hx.data.oC;exact⟨aev rfl (Hy hu _ _ _),by simp⟩
 .obtain⟨v',rfl,_⟩:=hx.oC;exact⟨aev rfl (Hy hu _ _ _),by simp⟩
 .obtain rfl:=hx.scalar;exact⟨aev rfl (PC hu _),by simp⟩
 .obtain⟨b,off,f,rfl,_⟩:=hx.data.aeN;exact⟨aev rfl (Hz hu _ _),by simp⟩
 .obtain⟨m,b,_,_,rfl⟩:=hx.ik;exact⟨aev rfl (Hz hu _ _),by simp⟩
 .obtain rfl:=hx.scalar;exact⟨aev rfl (PD hu _),by simp⟩
 .obtain⟨arr,rfl,_⟩:=hx.data.tX;exact⟨aev rfl (Hx hu _ _ _ _),by simp⟩
 .obtain⟨arr,rfl,_⟩:=hx.tX;exact⟨aev rfl (Hx hu _ _ _ _),by simp⟩
 .obtain rfl:=hx.scalar;exact⟨aev rfl (PB hu _),by simp⟩
 .rename_i bb els e
  rcases hx.data.na with⟨rfl,_,hk⟩ | ⟨a,cap,rfl,hk,_⟩
  .cases bb
   .exact⟨aev rfl (PE hu _),by simp⟩
   .exact absurd rfl hk
  .cases bb
   .exact absurd rfl hk
   .exact⟨aev rfl (Cz hu _ _ _ _),by simp⟩
 .rcases hx.data.na with⟨rfl,he,hk⟩ | ⟨a,cap,rfl,hk,_⟩
  .exact absurd he hc
  .exact⟨aev rfl (Cz hu _ _ _ _),by simp⟩
 .obtain⟨m,_,hh⟩:=hx.je
  rcases hh with⟨_,_,_,rfl⟩ | ⟨b,_,rfl,_⟩
  .omega
  .exact⟨aev rfl (Cz hu _ _ _ _),by simp⟩
theorem Pz {P:Program} {t:TypeId} {d:TypeDesc} (hu:P.underlying t=some d) {a b:Value} {r:Bool} (h:Cy d a b=some r) (n:Nat) (w:World):(Op.equalIn (n+1) t a b).run P w = .ok r w/\TypeDesc.isAgg d=false:=by
 unfold Cy at h;split at h
 .split at h
  .rename_i hk;subst hk;obtain rfl:=AI h;exact⟨run_equalIn_int w n t _ _ _ _ hu,rfl⟩
  .cases h
 .obtain rfl:=AI h;exact⟨run_equalIn_string w n t _ _ hu,rfl⟩
 .obtain rfl:=AI h;exact⟨run_equalIn_bool' w n t _ _ hu,rfl⟩
 .cases h
theorem G5 {w:World} {X:Nat->Prop} {arr:Array Value} {xs:List D} (hn:arr.size=xs.length) (hr:∀ (j:Nat) (u:Value) (c:D),arr[j]? = some u->xs[j]? = some c->RD w X u c) {j:Nat} {a:Value} (h:xs[j]? = some (.v a)):arr[j]? = some a:=by
 have hj:j < arr.size:=by rw[hn];exact (OF.1 h).1
 have:=(hr j _ _ (acb hj) h).scalar;rw[acb hj,this]
theorem Hw {P:Program} {T:Ty} (hg:Good P T) {w:World} {X:Nat->Prop} {ad5 afe:Array Value} {xs ys:List D} (n1:ad5.size=xs.length) (h1:∀ (j:Nat) (u:Value) (c:D),ad5[j]? = some u->xs[j]? = some c->RD w X u c) (n2:afe.size=ys.length) (h2:∀ (j:Nat) (u:Value) (c:D),afe[j]? = some u->ys[j]? = some c->RD w X u c) :
  ∀ (fs:List Field) (b:Bool),agE T xs ys fs=some b->(Op.eqFields (9998+1) ad5 afe fs).run P w = .ok b w
 | [],b,h=>by
  obtain rfl:=AI h;simp[Op.eqFields]
 | f :: l,b,h=>by
  rw[agE]at h;split at h
  .cases h
  .rename_i fj;split at h
   .rename_i tf a1 b1 ht hx hy;split at h
    .rename_i r r2 hr nJ;obtain rfl:=AI h;obtain⟨e1,e2⟩:=Pz (hg _ _ ht).1 hr 9998 w
     have ha:(Go.isAgg f.type).run P w = .ok false w:=by rw[hg.isAgg ht,e2]
     have p1:(part f.type ad5 f.offset).run P w = .ok a1 w:=by simp[part,ha,G5 n1 h1 hx]
     have p2:(part f.type afe f.offset).run P w = .ok b1 w:=by simp[part,ha,G5 n2 h2 hy]
     have ih:=Hw hg n1 h1 n2 h2 l r2 nJ;rw[Op.eqFields,if_pos fj];simp only[Sem.run_bind,p1,p2,e1,Result.andThen_ok,Sem.run_ite];cases r
     .simp
     .simpa using ih
    .cases h
   .cases h
theorem Oa {P:Program} {T:Ty} {G:aq} {N:Fr} (hg:Good P T) {w:World} {X:Nat->Prop} {μ:Mu} {a:Act} {σ:St} (hi:In w X G μ N a σ) {op:BinOp} {t:TypeId} {ox oy:Operand} {x y z:AV} {c:Prop}
  (hx:bh G σ.env ox=some x) (hy:bh G σ.env oy=some y) (h:yJ T op t oy x y=some (c,z)) (hc:c) :
  ∃ r,(do eqGuard op t ox oy (a.eval ox) (a.eval oy);binOp op t (a.eval ox) (a.eval oy):Sem Value).run P w = .ok r w/\RV w X μ r z:=by
 have xt:=hi.eval hx;have zY:=hi.eval hy
 have plain:∀ (u v:Value),a.eval ox=u->a.eval oy=v->(∀ b,u≠.agg b)->u≠.nilIface->(∃ r,(binOp op t u v).run P w = .ok r w/\RV w X μ r z)->
   ∃ r,(do eqGuard op t ox oy (a.eval ox) (a.eval oy);binOp op t (a.eval ox) (a.eval oy):Sem Value).run P w = .ok r w/\RV w X μ r z:=by
  rintro u v hu hv h1 h2 ⟨r,hr,D0⟩;refine⟨r,?_,D0⟩;rw[hu,hv,Sem.run_bind,HR (.inl fun e=>h2 e.1) h1];exact hr
 unfold yJ at h;split at h
 .rename_i k a1 k' b1;have e1:=xt.scalar;have e2:=zY.scalar;refine plain _ _ e1 e2 (by simp) (by simp) ?_;split at h
  .obtain⟨⟨c',v'⟩,hs,he⟩:=AT.1 h;simp only[BY]at he;obtain⟨rfl,rfl⟩:=he;exact⟨_,YL hs hc _ _,.d (.v _)⟩
  .rename_i hsh;split at h
   .rename_i hk;subst hk;obtain⟨⟨c',v'⟩,hs,he⟩:=AT.1 h;simp only[BY]at he;obtain⟨rfl,rfl⟩:=he;exact⟨_,Ob (by simpa using hsh) hs hc _ _,.d (.v _)⟩
   .cases h
 .obtain⟨⟨c',v'⟩,hs,he⟩:=AT.1 h;simp only[BY]at he;obtain⟨rfl,rfl⟩:=he;exact plain _ _ xt.scalar zY.scalar (by simp) (by simp) ⟨_,Oc hs hc _ _,.d (.v _)⟩
 .rename_i b1 b2;split at h
  .rename_i hb;obtain⟨ti,ht,hp⟩:=qp hb;cases cM:ti.desc<;>simp[cM,TypeDesc.isBool]at hp;have hu:=(hg t ti ht).1;rw[cM]at hu;have:=aev (P:=P) (w:=w) (u:=.bool b1) (v:=.bool b2) rfl (PA hu 9999 _ _);obtain rfl:=CA h;exact plain _ _ xt.scalar zY.scalar (by simp) (by simp) (FD h this.1 this.2)
  .cases h
 .rename_i xs ys;split at h
  .rename_i ti ht;split at h
   .rename_i fs cM;split at h
    .rename_i dL;split at h
     .rename_i b hb;obtain⟨ad5,SY,n1,r1⟩:=xt.data.n7;obtain⟨afe,sH,n2,r2⟩:=zY.data.n7;obtain⟨sI,i0,_,_,_,_,hp⟩:=hg t ti ht;obtain⟨hp1,ey⟩:=hp dL;rw[cM]at sI
      have qH:P.fieldsOf t=fs:=by simp[Program.fieldsOf,sI]
      have S0:P.underlying t=some (.struct (P.fieldsOf t)):=by rw[qH];exact sI
      have he:(Op.equalIn 10000 t (.agg ad5) (.agg afe)).run P w = .ok b w:=by
       rw[show (10000:Nat)=9999+1 from rfl,run_equalIn_struct w 9999 t ad5 afe S0 hp1,qH];exact Hw hg n1 r1 n2 r2 fs.toList b hb
      obtain rfl:=CA h;obtain⟨r,hr,D0⟩:=FD (X:=X) (μ:=μ) h (P:=P) (w:=w) (t:=t) (u:=.agg ad5) (v:=.agg afe) (by rw[run_eql_struct,he];rfl) (by rw[run_neq_struct,he];rfl);refine⟨r,?_,D0⟩;rw[SY,sH,Sem.run_bind,run_eqGuard_agg w op t ox oy ad5 afe ey];exact hr
     .cases h
    .cases h
   .cases h
  .cases h
 .unfold E4 at h;split at h
  .rename_i v hv
   cases oy with
   | const v'=>
    simp only[Ci,AS]at hv;subst hv;split at h
    .rename_i hf;obtain⟨⟨c',b'⟩,hn,he⟩:=ab9.1 h;dsimp only at he;obtain rfl:=CA he;obtain⟨hr,ha⟩:=Vb hg hn hc xt hf;obtain⟨r,hr',hz⟩:=FD (X:=X) (μ:=μ) he hr.1 hr.2;refine⟨r,?_,hz⟩;rw[Sem.run_bind,HR (.inr (.inr ⟨_,rfl⟩)) ha];exact hr'
    .cases h
   | _=>cases hv
  .cases h
end Go.Av
namespace Go.Av
def Ar (T:Ty) (t:TypeId):AV->hU
 | .d (.v (.string s))=>if my T t TypeDesc.isStr then some (True,int s.size) else none
 | .d (.sl _ els)=>if my T t TypeDesc.isSlice then some (True,int els.length) else none
 | .own _ _ n=>if my T t TypeDesc.isSlice then some (True,int n) else none
 | _=>none
theorem JR {d:TypeDesc} (h:TypeDesc.isSlice d=true):∃ e,d = .slice e:=by cases d<;>simp[TypeDesc.isSlice]at h;exact⟨_,rfl⟩
theorem Aa {d:TypeDesc} (h:TypeDesc.isStr d=true):d = .string:=by cases d<;>simp[TypeDesc.isStr]at h;rfl
section
variable {P:Program} {T:Ty} (hg:Good P T) {w:World} {X:Nat->Prop} {μ:Mu} {H:Heap}
include hg
theorem Uh {t ty:TypeId} {u:Value} {x z:AV} {c:Prop} (h:Ar T t x=some (c,z)) (hx:RV w X μ u x):∃ r,(Builtin.len_ #[t] ty #[u]).run P w = .ok r w/\RV w X μ r z:=by
 unfold Ar at h;split at h
 .split at h
  .rename_i hd;obtain⟨ti,ht,hp⟩:=qp hd;simp only[AS,BY]at h;obtain⟨rfl,rfl⟩:=h;obtain rfl:=hx.scalar;exact⟨_,by simp[Builtin.len_,hg.cy ht,Aa hp,goInt],.d (.v _)⟩
  .cases h
 .split at h
  .rename_i hd;obtain⟨ti,ht,hp⟩:=qp hd;obtain⟨e,he⟩:=JR hp;simp only[AS,BY]at h;obtain⟨rfl,rfl⟩:=h
   rcases hx.data.na with⟨rfl,rfl,_⟩ | ⟨a,cap,rfl,_⟩
   .exact⟨_,by simp[Builtin.len_,hg.cy ht,he,goInt],.d (.v _)⟩
   .exact⟨_,by simp[Builtin.len_,hg.cy ht,he,goInt],.d (.v _)⟩
  .cases h
 .split at h
  .rename_i hd;obtain⟨ti,ht,hp⟩:=qp hd;obtain⟨e,he⟩:=JR hp;simp only[AS,BY]at h;obtain⟨rfl,rfl⟩:=h;obtain⟨m,_,hh⟩:=hx.je
   rcases hh with⟨_,rfl,_,rfl⟩ | ⟨b,_,rfl,_⟩
   .exact⟨_,by simp[Builtin.len_,hg.cy ht,he,goInt],.d (.v _)⟩
   .exact⟨_,by simp[Builtin.len_,hg.cy ht,he,goInt],.d (.v _)⟩
  .cases h
 .cases h
def BV (T:Ty) (t:TypeId):Option (Nat×TypeId×Nat):=match T t with
 | some ti=>match ti.desc with
  | .array n e=>(T e).map fun te=>(n,e,te.size)
  | _=>none
 | none=>none
def z6 (T:Ty) (t:TypeId):AV->AV->hU
 | .d (.v (.string s)),.d (.v (.int _ i))=>if my T t TypeDesc.isStr then some (0<=i/\i < s.size,.d (.v (.int .u8 (s.data.toList.getD i.toNat 0).toNat))) else none
 | .d (.agg cells),.d (.v (.int _ i))=>match BV T t with
  | some (n,e,sz)=>(aff T e (cells.drop (i.toNat * sz))).map fun (c,z)=>((0<=i/\i < n)/\c,z)
  | none=>none
 | _,_=>none
omit hg in
theorem N5 (s:ByteArray) (n:Nat) (h:n < s.size):s[n]? = some (s.data.toList.getD n 0):=by
 have:s[n]? = some s[n]:=by simp[h]
 rw[this]
 have h2:n < s.data.toList.length:=by simpa using h
 simp[abJ,By h2];rfl
theorem Tm {t:TypeId} {u v:Value} {x y z:AV} {c:Prop} (h:z6 T t x y=some (c,z)) (hc:c) (hx:RV w X μ u x) (hy:RV w X μ v y):∃ r,(Instr.index t u v).run P w = .ok r w/\RV w X μ r z:=by
 unfold z6 at h;split at h
 .split at h
  .rename_i s kk i hd;obtain⟨ti,ht,hp⟩:=qp hd;simp only[AS,BY]at h;obtain⟨rfl,rfl⟩:=h;obtain rfl:=hx.scalar;obtain rfl:=hy.scalar;obtain⟨h0,h1⟩:=hc;obtain⟨n,rfl⟩:=acn h0;simp only[abX]
   have hn:n < s.size:=by omega
   exact⟨_,by simp[Instr.index,asIntOf,hg.cy ht,Aa hp,N5 s n hn],.d (.v _)⟩
  .cases h
 .rename_i cells kk i;split at h
  .rename_i n e sz ha;obtain⟨⟨c',z'⟩,hv,he⟩:=AT.1 h;simp only[BY]at he;obtain⟨rfl,rfl⟩:=he;obtain⟨⟨h0,h1⟩,cH⟩:=hc;obtain rfl:=hy.scalar;obtain⟨arr,rfl,hn,hr⟩:=hx.data.n7;obtain⟨c2,uK,fV⟩:=GO T e _ hv cH;rw[List.map_drop]at uK;obtain⟨v,jy,fv⟩:=GQ (P:=P) (w:=w) (X:=X) (μ:=μ) hg uK fV (by simpa using hn) (RV.u9 hr);unfold BV at ha;split at ha
   .rename_i ti ht;split at ha
    .rename_i n' e' hd;obtain⟨te,cg,he⟩:=AT.1 ha;simp only[BY]at he;obtain⟨rfl,rfl,rfl⟩:=he;exact⟨v,by simp[Instr.index,asIntOf,hg.cy ht,hd,h0,h1,hg.sizeOf cg,jy],fv⟩
    .cases ha
   .cases ha
  .cases h
 .cases h
def xJ (t:TypeId):AV->AV
 | .d x=>.d (.bt t x)
 | x=>.bt t x
omit hg in
theorem ET {u:Value} {x:AV} {t:TypeId} (hx:RV w X μ u x):RV w X μ (.iface t u) (xJ t x):=by
 unfold xJ;split
 .exact .d (.bt hx.data)
 .exact .bt hx
def Aw (T:Ty) (t:TypeId) (x:AV):hU:=match T t with
 | some ti=>if TypeDesc.isIface ti.desc then none else some (True,xJ t x)
 | none=>none
theorem UA {t:TypeId} {u:Value} {x z:AV} {c:Prop} (h:Aw T t x=some (c,z)) (hx:RV w X μ u x):∃ r,(Instr.makeInterface t u).run P w = .ok r w/\RV w X μ r z:=by
 unfold Aw at h;split at h
 .rename_i ti ht;split at h
  .cases h
  .rename_i hd;simp only[AS,BY]at h;obtain⟨rfl,rfl⟩:=h;refine⟨_,?_,ET hx⟩;simp only[Instr.makeInterface,Sem.run_bind,hg.cy ht,Result.andThen_ok];cases cM:ti.desc<;>simp[cM,TypeDesc.isIface]at hd ⊢
 .cases h
def y4 (i:Nat):AV->hU
 | .d (.aW vs)=>vs[i]?.map fun x=>(True,.d x)
 | .aW vs=>vs[i]?.map fun x=>(True,x)
 | _=>none
omit hg in
theorem PO {i:Nat} {u:Value} {x z:AV} {c:Prop} (h:y4 i x=some (c,z)) (hx:RV w X μ u x):∃ r,(Instr.extract u i).run P w = .ok r w/\RV w X μ r z:=by
 unfold y4 at h;split at h
 .obtain⟨y,hy,he⟩:=AT.1 h;simp only[BY]at he;obtain⟨rfl,rfl⟩:=he;obtain⟨arr,rfl,hn,hr⟩:=hx.data.vz;have au:=(OF.1 hy).1
  have:arr[i]? = some arr[i]:=by simp
  exact⟨arr[i],by simp[Instr.extract,this],.d (hr i _ y this hy)⟩
 .obtain⟨y,hy,he⟩:=AT.1 h;simp only[BY]at he;obtain⟨rfl,rfl⟩:=he;obtain⟨arr,rfl,hn,hr⟩:=hx.vz;have au:=(OF.1 hy).1
  have:arr[i]? = some arr[i]:=by simp
  exact⟨arr[i],by simp[Instr.extract,this],hr i _ y this hy⟩
 .cases h
def xI (f:Fn) (caps:List AV):AV:=match iN caps with
 | some ds=>.d (.fn f ds)
 | none=>.fn f caps
omit hg in
theorem ES {f:Fn} {arr:Array Value} {caps:List AV} (hn:arr.size=caps.length) (hr:∀ (j:Nat) (u:Value) (c:AV),arr[j]? = some u->caps[j]? = some c->RV w X μ u c):RV w X μ (.func f #[] arr) (xI f caps):=by
 unfold xI;split
 .rename_i ds hd;rw[lT hd]at hn hr;exact .d (.fn (by simpa using hn) fun j u c hu hc=>(hr j u (.d c) hu (by rw[abM,hc];rfl)).data)
 .exact .fn hn hr
def Br (op:UnOp):AV->hU
 | .d (.v (.bool b))=>match op with | .not=>some (True,bool !b) | _=>none
 | .d (.v (.int k n))=>match op with | .neg=>(qx k (0 - n)).map fun (c,v)=>(c,.d (.v v)) | _=>none
 | _=>none
omit hg in
theorem ZP {op:UnOp} {u:Value} {x z:AV} {c:Prop} (h:Br op x=some (c,z)) (hc:c) (hx:RV w X μ u x):∃ r,(Op.unary op u).run P w = .ok r w/\RV w X μ r z:=by
 unfold Br at h;split at h
 .split at h
  .simp only[AS,BY]at h;obtain⟨rfl,rfl⟩:=h;obtain rfl:=hx.scalar;exact⟨_,by simp[Op.unary],.d (.v _)⟩
  .cases h
 .split at h
  .obtain⟨⟨c',v⟩,hf,he⟩:=AT.1 h;simp only[BY]at he;obtain⟨rfl,rfl⟩:=he;obtain rfl:=hx.scalar;have:=CF hf hc;subst this;exact⟨_,by simp[Op.unary,Op.intArith],.d (.v _)⟩
  .cases h
 .cases h
def yS (T:Ty) (dst:TypeId):AV->hU
 | .d (.v (.int _ n))=>match T dst with
  | some ti=>match ti.desc with
   | .int k=>(qx k n).map fun (c,v)=>(c,.d (.v v))
   | .string=>some (True,.d (.v (.string (Utf8.encode n))))
   | _=>none
  | none=>none
 | .d (.v (.string s))=>if my T dst TypeDesc.isStr then some (True,.d (.v (.string s))) else none
 | _=>none
theorem OX {src dst:TypeId} (SU:(T src).isSome) {u:Value} {x z:AV} {c:Prop} (h:yS T dst x=some (c,z)) (hc:c) (hx:RV w X μ u x):∃ r,(convert src dst u).run P w = .ok r w/\RV w X μ r z:=by
 obtain⟨tis,oB⟩:=adL.1 SU;unfold yS at h;split at h
 .split at h
  .rename_i ti ht;split at h
   .rename_i k hd;obtain⟨⟨c',v⟩,hf,he⟩:=AT.1 h;simp only[BY]at he;obtain⟨rfl,rfl⟩:=he;obtain rfl:=hx.scalar;have:=CF hf hc;subst this;exact⟨_,by simp[convert,hg.cy oB,hg.cy ht,hd,Conv.intToInt],.d (.v _)⟩
   .rename_i hd;simp only[AS,BY]at h;obtain⟨rfl,rfl⟩:=h;obtain rfl:=hx.scalar;exact⟨_,by simp[convert,hg.cy oB,hg.cy ht,hd,Conv.intToString],.d (.v _)⟩
   .cases h
  .cases h
 .split at h
  .rename_i hd;obtain⟨ti,ht,hp⟩:=qp hd;simp only[AS,BY]at h;obtain⟨rfl,rfl⟩:=h;obtain rfl:=hx.scalar;exact⟨_,by simp[convert,hg.cy oB,hg.cy ht,Aa hp],.d (.v _)⟩
  .cases h
 .cases h
def AD:AV->hU
 | .d (.ip c)=>some (True,.d (.ip c))
 | .ref r e j=>some (True,.ref r e j)
 | _=>none
omit hg in
theorem Vc {u:Value} {x z:AV} {c:Prop} (h:AD x=some (c,z)) (hx:RV w X μ u x):(∃ a,u = .pointer (some a))/\RV w X μ u z:=by
 unfold AD at h;split at h
 .simp only[AS,BY]at h;obtain⟨rfl,rfl⟩:=h;obtain⟨b,off,f,rfl,_⟩:=hx.data.aeN;exact⟨⟨_,rfl⟩,hx⟩
 .simp only[AS,BY]at h;obtain⟨rfl,rfl⟩:=h;obtain⟨m,b,_,_,rfl⟩:=hx.ik;exact⟨⟨_,rfl⟩,hx⟩
 .cases h
def bound (G:aq) (e:Env):Option Operand->Option (Option Int)
 | none=>some none
 | some o=>match bh G e o with
  | some (.d (.v (.int _ i)))=>some (some i)
  | _=>none
def nZ (T:Ty) (H:Heap) (t:TypeId) (x:AV) (lo hi:Option Int):hU:=
 let l:=lo.getD 0
 match x with
 | .d (.v (.string s))=>if my T t TypeDesc.isStr then
   let h:=hi.getD s.size
   some (0<=l/\l<=h/\h<=s.size,.d (.v (.string (s.extract l.toNat h.toNat)))) else none
 | .d (.sl k els)=>match lY T t with
  | some s=>
   let h:=hi.getD els.length
   some (0<=l/\l<=h/\h<=els.length/\(l=0\/∀ el∈els,el.length=s),.d (.sl k ((els.drop l.toNat).take (h - l).toNat)))
  | none=>none
 | .own r off n=>match lY T t,H r with
  | some s,some (.sl _ sz _)=>
   let h:=hi.getD n
   some (0<=l/\l<=h/\h<=n/\sz=s,if l=n/\¬ l=0 then .d (.sl none []) else .own r (off+l.toNat) (h - l).toNat)
  | _,_=>none
 | _=>none
omit hg in
theorem vr {isS:Bool} {len cap:Nat} {lo hi:Option Value} {l h:Int} (hl:(lo=none/\l=0)\/∃ k,lo=some (.int k l)) (hh:(hi=none/\h=len)\/∃ k,hi=some (.int k h)) (h0:0<=l) (h1:l<=h) (h2:h<=cap) :
  (Instr.sliceBounds isS len cap lo hi none).run P w = .ok (l.toNat,h.toNat,cap) w:=by
 have e1:0<=h:=by omega
 rcases hh with⟨rfl,rfl⟩ | ⟨k,rfl⟩<;>rcases hl with⟨rfl,rfl⟩ | ⟨k',rfl⟩
 .simp[Instr.sliceBounds]
 .simp[Instr.sliceBounds,Instr.sliceBound,asIntOf,h0,h1]
 .simp[Instr.sliceBounds,Instr.sliceBound,asIntOf,e1,h2]
 .have e3:l<=max h 0:=by omega
  simp[Instr.sliceBounds,Instr.sliceBound,asIntOf,e1,h2,h0,e3]
theorem YR (hs:Sim w X μ H) {t:TypeId} {u:Value} {x z:AV} {c:Prop} {lo hi:Option Int} {yu yt:Option Value} (h:nZ T H t x lo hi=some (c,z)) (hc:c) (hx:RV w X μ u x)
  (hlo:(yu=none/\lo=none)\/∃ k l,yu=some (.int k l)/\lo=some l) (hhi:(yt=none/\hi=none)\/∃ k l,yt=some (.int k l)/\hi=some l) :
  ∃ r,(Instr.sliceAt t u yu yt none).run P w = .ok r w/\RV w X μ r z:=by
 have hL:(yu=none/\lo.getD 0=0)\/∃ k,yu=some (.int k (lo.getD 0)):=by
  rcases hlo with⟨rfl,rfl⟩ | ⟨k,l,rfl,rfl⟩
  .exact .inl ⟨rfl,rfl⟩
  .exact .inr ⟨k,rfl⟩
 have hH:∀ n:Nat,(yt=none/\hi.getD n=n)\/∃ k,yt=some (.int k (hi.getD n)):=by
  intro n
  rcases hhi with⟨rfl,rfl⟩ | ⟨k,l,rfl,rfl⟩
  .exact .inl ⟨rfl,rfl⟩
  .exact .inr ⟨k,rfl⟩
 unfold nZ at h;dsimp only at h;split at h
 .rename_i s;split at h
  .rename_i hd;obtain⟨ti,ht,hp⟩:=qp hd;simp only[AS,BY]at h;obtain⟨rfl,rfl⟩:=h;obtain rfl:=hx.scalar;obtain⟨h0,h1,h2⟩:=hc;exact⟨_,by simp[Instr.sliceAt,hg.cy ht,Aa hp,Instr.slice,vr (P:=P) (w:=w) hL (hH s.size) h0 h1 h2],.d (.v _)⟩
  .cases h
 .rename_i k els;split at h
  .rename_i s he;simp only[AS,BY]at h;obtain⟨rfl,rfl⟩:=h;obtain⟨h0,h1,h2,h3⟩:=hc;unfold lY at he;split at he
   .rename_i ti ht;split at he
    .rename_i e hd;obtain⟨te,cg,rfl⟩:=AT.1 he;generalize lo.getD 0=l at *;have pn:=hH els.length;generalize hi.getD ↑els.length=hh at *;obtain⟨l,rfl⟩:=acn h0;obtain⟨hh,rfl⟩:=acn (show 0<=hh by omega)
     have e1:((hh:Int) - l).toNat=hh - l:=by omega
     simp only[abX,e1]
     rcases hx.data.na with⟨rfl,rfl,hk⟩ | ⟨a,cap,rfl,hk,ad7,hm,hr⟩
     .have l0:l=0:=by simp at h2;omega
      have DA:hh=0:=by simp at h2;omega
      subst l0 DA;have:=vr (P:=P) (w:=w) (isS:=true) (cap:=0) hL pn h0 h1 (by simp);refine⟨.slice none 0 0,?_,.d (by simpa using .nil hk)⟩;simp at this;simp[Instr.sliceAt,hg.cy ht,hd,Instr.slice,this,hg.sizeOf cg]
     .have:=vr (P:=P) (w:=w) (isS:=true) (cap:=cap) hL pn h0 h1 (by omega);refine⟨.slice (some (if cap=l then a else a.add (l * te.size))) (hh - l) (cap - l),?_,.d ?_⟩
      .simp[Instr.sliceAt,hg.cy ht,hd,Instr.slice,this,hg.sizeOf cg];split<;>rfl
      .by_cases hz:hh - l=0
       .rw[hz,List.take_zero];exact .empty hk (by unfold maxLen at *;omega)
       .rcases hr with rfl | ⟨b,off,sz,f,rfl,hX,aK,bC,cI,iF⟩
        .simp at h2;omega
        .have hcl:¬ cap=l:=by omega
         rw[if_neg hcl,addr_add]
         have fY:l * te.size=l * sz:=by
          rcases h3 with h3 | h3
          .have:l=0:=by omega
           simp[this]
          .have aI:els≠[]:=by intro e;simp[e]at h2;omega
           obtain⟨el,hel⟩:=List.exists_mem_of_ne_nil _ aI;rw[<- h3 el hel,bC el hel]
         rw[fY];refine .sl (sz:=sz) (f:=fun i j=>f (l+i) j) hk ?_ (by omega) (by unfold maxLen at *;omega) hX ?_ aK (by omega) ?_ ?_
         .simp;omega
         .intro el hel;exact bC el (ac7 (acd hel))
         .intro i j hi hj;have:=cI (l+i) j (by omega) hj;rw[ade]at this;rw[<- this];congr 2;omega
         .intro i j el c hel hc;rw[acu]at hel;split at hel
          .rw[ac3]at hel;exact iF _ j el c hel hc
          .cases hel
    .cases he
   .cases he
  .cases h
 .rename_i r off n;split at h
  .rename_i s ty sz els he zp;simp only[AS,BY]at h;obtain⟨rfl,rfl⟩:=h;obtain⟨h0,h1,h2,rfl⟩:=hc;unfold lY at he;split at he
   .rename_i ti ht;split at he
    .rename_i e hd;obtain⟨te,cg,rfl⟩:=AT.1 he;generalize lo.getD 0=l at *;have pn:=hH n;generalize hi.getD ↑n=hh at *;obtain⟨l,rfl⟩:=acn h0;obtain⟨hh,rfl⟩:=acn (show 0<=hh by omega)
     have e1:((hh:Int) - l).toNat=hh - l:=by omega
     simp only[abX,e1];obtain⟨m,hm,hu⟩:=hx.je;obtain⟨m',bU,ok⟩:=hs.rows r _ zp;rw[hm]at bU;obtain rfl:=AI bU
     have aK:m.sz=te.size:=by cases ok<;>assumption
     by_cases hz:(l:Int)=n/\¬ (l:Int)=0
     .rw[if_pos hz]
      rcases hu with⟨hb,rfl,rfl,rfl⟩ | ⟨b,hb,rfl,hle⟩
      .omega
      .have hmc:m.cap<=maxLen:=by
        cases ok with
        | nil aU _=>rw[hb]at aU;cases aU
        | sl aU _ _ _ _ bU=>exact bU
       have:=vr (P:=P) (w:=w) (isS:=true) (cap:=m.cap - off) hL pn h0 h1 (by omega);refine⟨.slice (some (if m.cap - off=l then ⟨b,off * m.sz,none⟩ else (⟨b,off * m.sz,none⟩:Addr).add (l * te.size))) (hh - l) (m.cap - off - l),?_,?_⟩
       .simp[Instr.sliceAt,hg.cy ht,hd,Instr.slice,this,hg.sizeOf cg];split<;>rfl
       .rw[show hh - l=0 by omega];exact .d (.empty (by simp) (by omega))
     rw[if_neg hz]
     have h3:(l:Int)=0\/(l:Int) < n:=by omega
     rcases hu with⟨hb,rfl,rfl,rfl⟩ | ⟨b,hb,rfl,hle⟩
     .have l0:l=0:=by omega
      have DA:hh=0:=by omega
      subst l0 DA;have:=vr (P:=P) (w:=w) (isS:=true) (cap:=0) hL pn h0 h1 (by simp);refine⟨.slice none 0 0,?_,.own hm (.inl ⟨hb,rfl,rfl,rfl⟩)⟩;simp[Instr.sliceAt,hg.cy ht,hd,Instr.slice,hg.sizeOf cg];simp at this;simp[this]
     .have:=vr (P:=P) (w:=w) (isS:=true) (cap:=m.cap - off) hL pn h0 h1 (by omega);refine⟨.slice (some (if m.cap - off=l then ⟨b,off * m.sz,none⟩ else (⟨b,off * m.sz,none⟩:Addr).add (l * te.size))) (hh - l) (m.cap - off - l),?_,.own hm (.inr ⟨b,hb,?_,by omega⟩)⟩
      .simp[Instr.sliceAt,hg.cy ht,hd,Instr.slice,this,hg.sizeOf cg];split<;>rfl
      .rw[addr_add,<- aK,<- ade]
       have e3:m.cap - off - l=m.cap - (off+l):=by omega
       rw[e3];split
       .have:l=0:=by omega
        subst this;simp
       .rfl
    .cases he
   .cases he
  .cases h
 .cases h
end
end Go.Av
namespace Go.Av
def mup (μ:Mu) (r:Nat) (m:gp):Mu:=fun q=>if q=r then some m else μ q
def cN (r:Nat) (e:Env):Env:=fun i=>(e i).map (AV.kill r)
def cO (r:Nat) (H:Heap):Heap:=fun q=>(H q).map (Row.kill r)
theorem adk.same {w w':World} {Mv X:Nat->Prop} {μ ay:Mu} (h:Ev Mv w μ w' ay) (eo:∀ q m,μ q=some m->ay q=some m) {m:gp} (hb:∀ b,m.blk=some b->w'.heap[b]? = w.heap[b]?) {row:Row} (ok:adk w X μ m row):adk w' X ay m row:=by
 cases ok with
 | nil h1 h2=>exact .nil h1 h2
 | sl h1 h2 h3 h4 h5 h6 h7 h8 h9=>
  exact .sl h1 h2 ((hb _ h1).trans h3) h4 h5 h6 h7 h8 fun i j el c he hc=>let ⟨u,hu,hr⟩:=h9 i j el c he hc;⟨u,hu,hr.ev h⟩
 | box h1 h2 h3 h4 h5 h6 h7=>exact .box h1 h2 h3 ((hb _ h1).trans h4) h5 (fun j u c hu hc=>(h6 j u c hu hc).same h eo) h7
 | mp h1 h2 h3 h4=>exact .mp h1 ((hb _ h1).trans h2) h3 fun i e p he hp=>let ⟨a,b,c⟩:=h4 i e p he hp;⟨a,b,c.ev h⟩
 | it h1 h2 h3=>exact .it h1 ((hb _ h1).trans h2) (h3.ev h)
theorem adk.keep {w w':World} {Mv X:Nat->Prop} {μ ay:Mu} (h:Ev Mv w μ w' ay) {r:Nat} (eo:∀ q,q≠r->ay q=μ q) {m:gp} (hb:∀ b,m.blk=some b->w'.heap[b]? = w.heap[b]?) {row:Row} (ok:adk w X μ m row):adk w' X ay m (row.kill r):=by
 cases ok with
 | nil h1 h2=>exact .nil h1 h2
 | sl h1 h2 h3 h4 h5 h6 h7 h8 h9=>
  exact .sl h1 h2 ((hb _ h1).trans h3) h4 h5 h6 h7 h8 fun i j el c he hc=>let ⟨u,hu,hr⟩:=h9 i j el c he hc;⟨u,hu,hr.ev h⟩
 | box h1 h2 h3 h4 h5 h6 h7=>
  refine .box h1 rfl h3 ((hb _ h1).trans h4) (by simpa using h5) (fun j u c hu hc=>?_) (by simpa using h7);rw[abM]at hc;obtain⟨c',cH,rfl⟩:=AT.1 hc;exact (h6 j u c' hu cH).keep h eo
 | mp h1 h2 h3 h4=>exact .mp h1 ((hb _ h1).trans h2) h3 fun i e p he hp=>let ⟨a,b,c⟩:=h4 i e p he hp;⟨a,b,c.ev h⟩
 | it h1 h2 h3=>exact .it h1 ((hb _ h1).trans h2) (h3.ev h)
section
variable {Mv X:Nat->Prop} {G:aq} {N:Fr} {w w':World} {μ:Mu} {a:Act} {σ:St}
theorem adk.jl {m:gp} {row:Row} {b:Nat} (ok:adk w X μ m row) (hb:m.blk=some b):b < w.heap.size:=by
 cases ok with
 | nil aU _=>rw[aU]at hb;cases hb
 | sl aU _ hh=>rw[aU]at hb;obtain rfl:=AI hb;exact (IS.1 hh).1
 | box aU _ _ hh=>rw[aU]at hb;obtain rfl:=AI hb;exact (IS.1 hh).1
 | mp aU hh=>rw[aU]at hb;obtain rfl:=AI hb;exact (IS.1 hh).1
 | it aU hh=>rw[aU]at hb;obtain rfl:=AI hb;exact (IS.1 hh).1
theorem Sim.s7 {H:Heap} (h:Sim w X μ H) {r:Nat} (hr:H r=none):μ r=none:=by
 cases hm:μ r with
 | none=>rfl
 | some m=>obtain⟨row,hr'⟩:=h.iy r m hm;rw[hr]at hr';cases hr'
structure bZ (w w':World):Prop where
 size:w.heap.size<=w'.heap.size
 os:w'.os=w.os
 tape:w'.tape=w.tape
 output:w'.output=w.output
 same:∀ b,b < w.heap.size->w'.heap[b]? = w.heap[b]?
theorem bZ.refl (w:World):bZ w w:=⟨abL _,rfl,rfl,rfl,fun _ _=>rfl⟩
theorem bZ.alloc (w:World) (o:Obj):bZ w (w.alloc o):=⟨by simp,rfl,rfl,rfl,fun b hb=>by rw[<- World.alloc_eq];simp[Array.getElem?_push,Nat.ne_of_lt hb]⟩
theorem bZ.drew (w:World):bZ w w.drew:=⟨abL _,rfl,rfl,rfl,fun _ _=>rfl⟩
theorem In.j8 (hi:In w X G μ N a σ) (hg:bZ w w'):In w' X G μ N a σ/\Ev Mv w μ w' μ:=by
 have ev:Ev Mv w μ w' μ:=⟨hg.size,hg.os,hg.tape,hg.output,fun b hb hr=>⟨hg.same b hb,hr⟩,fun _ _ h _=>h⟩;refine⟨⟨⟨fun r row hr=>?_,hi.aX.iy,hi.aX.inj,hi.aX.frame,fun b hb=>acP (hi.aX.fits b hb) hg.size⟩,⟨hi.env.defers,hi.env.size,fun i x hx=>?_⟩,fun g x hx=>(hi.gr g x hx).ev ev⟩,ev⟩
 .obtain⟨m,hm,ok⟩:=hi.aX.rows r row hr;exact⟨m,hm,ok.same ev (fun _ _ h=>h) fun b hb=>hg.same b (ok.jl hb)⟩
 .obtain⟨u,hu,hr⟩:=hi.env.slot i x hx;exact⟨u,hu,hr.same ev fun _ _ h=>h⟩
theorem In.alloc (hi:In w X G μ N a σ) {d:Nat} (hd:σ.H d=none) (hg:bZ w w') {m:gp} (hm:∀ b,m.blk=some b->w.heap.size<=b) {row:Row}
  (ok:Ev Mv w μ w' (mup μ d m)->adk w' X (mup μ d m) m row):In w' X G (mup μ d m) N a ⟨σ.env,aM σ.H d row⟩/\Ev Mv w μ w' (mup μ d m):=by
 have xc:=hi.aX.s7 hd
 have eo:∀ q m',μ q=some m'->mup μ d m q=some m':=by
  intro q m' hq;unfold mup;split
  .rename_i e;subst e;rw[xc]at hq;cases hq
  .exact hq
 have ev:Ev Mv w μ w' (mup μ d m):=by
  refine⟨hg.size,hg.os,hg.tape,hg.output,fun b hb hr=>⟨hg.same b hb,?_⟩,fun _ _ h _=>eo _ _ h⟩;rintro⟨q,m',hq,aU⟩;unfold mup at hq;split at hq
  .obtain rfl:=AI hq;have:=hm b aU;omega
  .exact hr ⟨q,m',hq,aU⟩
 have ok:=ok ev;refine⟨⟨⟨fun r ac9 hr=>?_,fun r m' hr=>?_,fun r r' m1 m2 b h1 h2 hb1 hb2=>?_,fun r m' b hr hb=>?_,fun b hb=>acP (hi.aX.fits b hb) hg.size⟩,⟨hi.env.defers,hi.env.size,fun i x hx=>?_⟩,fun g x hx=>(hi.gr g x hx).ev ev⟩,ev⟩
 .dsimp only[aM]at hr;split at hr
  .rename_i e;subst e;obtain rfl:=AI hr;exact⟨m,by simp[mup],ok⟩
  .rename_i e;obtain⟨m',bU,ok'⟩:=hi.aX.rows r ac9 hr;exact⟨m',eo r m' bU,ok'.same ev eo fun b hb=>hg.same b (ok'.jl hb)⟩
 .unfold mup at hr;split at hr
  .rename_i e;exact⟨row,by simp[aM,e]⟩
  .rename_i e;obtain⟨ac9,hr'⟩:=hi.aX.iy r m' hr;exact⟨ac9,by simp[aM,e,hr']⟩
 .have lt:∀ q m',μ q=some m'->m'.blk=some b->b < w.heap.size:=fun q m' hq hb=>hi.aX.jl ⟨q,m',hq,hb⟩;unfold mup at h1 h2;split at h1<;>split at h2
  .rename_i e1 e2;rw[e1,e2]
  .obtain rfl:=AI h1;have:=hm b hb1;have:=lt r' m2 h2 hb2;omega
  .obtain rfl:=AI h2;have:=hm b hb2;have:=lt r m1 h1 hb1;omega
  .exact hi.aX.inj r r' m1 m2 b h1 h2 hb1 hb2
 .unfold mup at hr;split at hr
  .obtain rfl:=AI hr;intro hX;have:=hm b hb;have:=hi.aX.fits b hX;omega
  .exact hi.aX.frame r m' b hr hb
 .obtain⟨u,hu,hr⟩:=hi.env.slot i x hx;exact⟨u,hu,hr.same ev eo⟩
theorem In.write (hi:In w X G μ N a σ) {r b:Nat} {m:gp} (hm:μ r=some m) (hb:m.blk=some b) (hs:w'.heap.size=w.heap.size) (ho:w'.os=w.os) (ht:w'.tape=w.tape) (ae9:w'.output=w.output)
  (afb:∀ k,k≠b->w'.heap[k]? = w.heap[k]?) {row:Row} (ok:Ev Mv w μ w' μ->adk w' X μ m row):In w' X G μ N a ⟨σ.env,aM σ.H r row⟩/\Ev Mv w μ w' μ:=by
 have ev:Ev Mv w μ w' μ:=⟨by omega,ho,ht,ae9,fun k hk hr=>⟨afb k fun e=>hr ⟨r,m,hm,e ▸ hb⟩,hr⟩,fun _ _ h _=>h⟩;have ok:=ok ev;refine⟨⟨⟨fun q ac9 hq=>?_,fun q m' hq=>?_,hi.aX.inj,hi.aX.frame,fun b hb=>by have:=hi.aX.fits b hb;omega⟩,⟨hi.env.defers,hi.env.size,fun i x hx=>?_⟩,fun g x hx=>(hi.gr g x hx).ev ev⟩,ev⟩
 .dsimp only[aM]at hq;split at hq
  .rename_i e;subst e;obtain rfl:=AI hq;exact⟨m,hm,ok⟩
  .rename_i e;obtain⟨m',bU,ok'⟩:=hi.aX.rows q ac9 hq;exact⟨m',bU,ok'.same ev (fun _ _ h=>h) fun k hk=>afb k fun e'=>e (hi.aX.inj q r m' m k bU hm hk (e' ▸ hb))⟩
 .by_cases e:q=r
  .exact⟨row,by simp[aM,e]⟩
  .obtain⟨ac9,hr'⟩:=hi.aX.iy q m' hq;exact⟨ac9,by simp[aM,e,hr']⟩
 .obtain⟨u,hu,hr⟩:=hi.env.slot i x hx;exact⟨u,hu,hr.same ev fun _ _ h=>h⟩
theorem In.move (hi:In w X G μ N a σ) {r:Nat} {m m':gp} (hm:μ r=some m) (eG:Mv r) (hs:w.heap.size<=w'.heap.size) (ho:w'.os=w.os) (ht:w'.tape=w.tape) (ae9:w'.output=w.output)
  (afb:∀ k,k < w.heap.size->m.blk≠some k->w'.heap[k]? = w.heap[k]?) (jw:∀ b,m'.blk=some b->w.heap.size<=b\/m.blk=some b) {row:Row}
  (ok:Ev Mv w μ w' (mup μ r m')->adk w' X (mup μ r m') m' row):In w' X G (mup μ r m') N a ⟨cN r σ.env,aM (cO r σ.H) r row⟩/\Ev Mv w μ w' (mup μ r m'):=by
 have eo:∀ q,q≠r->mup μ r m' q=μ q:=fun q hq=>by simp[mup,hq]
 have ev:Ev Mv w μ w' (mup μ r m'):=by
  refine⟨hs,ho,ht,ae9,fun b hb hr=>⟨afb b hb fun e=>hr ⟨r,m,hm,e⟩,?_⟩,fun q mq hq hn=>?_⟩
  .rintro⟨q,mq,hq,hbq⟩;unfold mup at hq;split at hq
   .obtain rfl:=AI hq
    rcases jw b hbq with h | h
    .omega
    .exact hr ⟨r,m,hm,h⟩
   .exact hr ⟨q,mq,hq,hbq⟩
  .have:q≠r:=fun e=>hn (e ▸ eG);rw[eo q this];exact hq
 have ok:=ok ev;refine⟨⟨⟨fun q ac9 hq=>?_,fun q mq hq=>?_,fun q q' m1 m2 b h1 h2 hb1 hb2=>?_,fun q mq b hq hb=>?_,fun b hb=>acP (hi.aX.fits b hb) hs⟩,⟨hi.env.defers,hi.env.size,fun i x hx=>?_⟩,fun g x hx=>(hi.gr g x hx).ev ev⟩,ev⟩
 .dsimp only[aM]at hq;split at hq
  .rename_i e;subst e;obtain rfl:=AI hq;exact⟨m',by simp[mup],ok⟩
  .rename_i e;unfold cO at hq;obtain⟨kY,h0,rfl⟩:=AT.1 hq;obtain⟨mq,hmq,ok'⟩:=hi.aX.rows q kY h0;exact⟨mq,(eo q e).trans hmq,ok'.keep ev eo fun k hk=>afb k (ok'.jl hk) fun e'=>e (hi.aX.inj q r mq m k hmq hm hk e')⟩
 .by_cases e:q=r
  .exact⟨row,by simp[aM,e]⟩
  .rw[eo q e]at hq;obtain⟨ac9,hr'⟩:=hi.aX.iy q mq hq;exact⟨ac9.kill r,by simp[aM,e,cO,hr']⟩
 .have lt:∀ q mq,μ q=some mq->mq.blk=some b->b < w.heap.size:=fun q mq hq hb=>hi.aX.jl ⟨q,mq,hq,hb⟩;by_cases e1:q=r<;>by_cases e2:q'=r
  .rw[e1,e2]
  .rw[eo q' e2]at h2;simp only[mup,e1,if_true,AS]at h1;subst h1
   rcases jw b hb1 with h | h
   .have:=lt q' m2 h2 hb2;omega
   .exact absurd (hi.aX.inj q' r m2 m b h2 hm hb2 h) e2
  .rw[eo q e1]at h1;simp only[mup,e2,if_true,AS]at h2;subst h2
   rcases jw b hb2 with h | h
   .have:=lt q m1 h1 hb1;omega
   .exact absurd (hi.aX.inj q r m1 m b h1 hm hb1 h) e1
  .rw[eo q e1]at h1;rw[eo q' e2]at h2;exact hi.aX.inj q q' m1 m2 b h1 h2 hb1 hb2
 .by_cases e:q=r
  .simp only[mup,e,if_true,AS]at hq;subst hq
   rcases jw b hb with h | h
   .intro hX;have:=hi.aX.fits b hX;omega
   .exact hi.aX.frame r m b hm h
  .rw[eo q e]at hq;exact hi.aX.frame q mq b hq hb
 .unfold cN at hx;obtain⟨x0,h0,rfl⟩:=AT.1 hx;obtain⟨u,hu,hr⟩:=hi.env.slot i x0 h0;exact⟨u,hu,hr.keep ev eo⟩
theorem AR (hs:Sim w X μ σ.H) {r off n ty sz:Nat} {els:List (List D)} (hH:σ.H r=some (.sl ty sz els)) (hle:off+n<=els.length) {u:Value} (hu:RV w X μ u (.own r off n)) :
  ∃ k,RD w (XX X (fun q=>if q=r then none else μ q)) u (.sl k ((els.drop off).take n))/\(0 < n->k=some true)/\k≠some false:=by
 obtain⟨m,hm,hh⟩:=hu.je;obtain⟨m',bU,ok⟩:=hs.rows r _ hH;rw[hm]at bU;obtain rfl:=AI bU
 have hX:∀ b,m.blk=some b->¬ XX X (fun q=>if q=r then none else μ q) b:=by
  rintro b hb (h | ⟨q,mq,hq,hbq⟩)
  .exact hs.frame r m b hm hb h
  .dsimp only at hq;split at hq
   .cases hq
   .rename_i e;exact e (hs.inj q r mq m b hq hm hbq hb)
 rcases hh with⟨hb,rfl,rfl,rfl⟩ | ⟨b,hb,rfl,ad7⟩
 .exact⟨none,by simpa using .nil (by simp),by omega,by simp⟩
 .cases ok with
  | nil aU _=>rw[aU]at hb;cases hb
  | sl aU aK hh b8 hn fh hl hz hr=>
   rename_i b' cur;rw[hb]at aU;obtain rfl:=AI aU;subst aK;by_cases h0:n=0
   .subst h0;exact⟨some true,by rw[List.take_zero];exact .empty (by simp) (by unfold maxLen at *;omega),by omega,by simp⟩
   .refine⟨some true,.sl (sz:=m.sz) (f:=fun i j=>cur.getD ((off+i) * m.sz+j) undef) (by simp) (by simp;omega) (by omega) (by unfold maxLen at *;omega) (hX b hb) (fun el hel=>hl el (ac7 (acd hel))) hz (by omega) ?_ ?_,by simp,by simp⟩
    .intro i j hi hj
     have au:(off+i) * m.sz+j < cur.size:=by
      rw[b8];have:(off+i+1) * m.sz<=m.cap * m.sz:=acB _ (by omega);rw[ade]at this;omega
     have e1:off * m.sz+(i * m.sz+j)=(off+i) * m.sz+j:=by rw[ade];omega
     rw[e1,cell_of_row w b _ cur ty (0,0) hh];simp[IT,au]
    .intro i j el c hel hc;rw[acu]at hel;split at hel
     .rw[ac3]at hel;obtain⟨u',hu',bD⟩:=hr (off+i) j el c hel hc;rw[IT,hu'];refine bD.mono (abL _) fun b hb hXX=>⟨rfl,?_⟩;rintro (h | ⟨q,mq,hq,hbq⟩)
      .exact hXX (.inl h)
      .dsimp only at hq;split at hq
       .cases hq
       .exact hXX (.inr ⟨q,mq,hq,hbq⟩)
     .cases hel
end
end Go.Av
namespace Go.Av
def D.one:D->Bool
 | .v x=>x.oneCell'
 | .agg _ | .aW _=>false
 | _=>true
def AV.one:AV->Bool
 | .d x=>x.one
 | .own _ _ _ | .ref _ _ _ | .bt _ _ | .fn _ _ | .mp _=>true
 | _=>false
section
variable {w:World} {X:Nat->Prop} {μ:Mu}
theorem RD.vf {u:Value} {x:D} (h:RD w X u x) (h1:x.one=true):u.oneCell'=true:=by
 cases h<;>first | rfl | exact h1 | cases h1
theorem RV.vf {u:Value} {x:AV} (h:RV w X μ u x) (h1:x.one=true):u.oneCell'=true:=by
 cases h with
 | d h=>exact h.vf h1
 | own _ h=>rcases h with⟨_,rfl,_⟩ | ⟨b,_,rfl,_⟩<;>rfl
 | ref _ _=>rfl
 | bt _=>rfl
 | fn _ _=>rfl
 | mp _ _=>rfl
 | _=>cases h1
theorem cells_one {u:Value} (h:u.oneCell'=true):u.cells = #[u]:=by cases u<;>first | rfl | cases h
structure vL (w:World) (X:Nat->Prop) (μ:Mu) (arr:Array Value) (cells:List AV):Prop where
 size:arr.size=cells.length
 at_:∀ (j:Nat) (u:Value) (c:AV),arr[j]? = some u->cells[j]? = some c->RV w X μ u c
def gm:AV->Option (List AV)
 | .d (.agg cs)=>some (cs.map .d)
 | .agg cs=>some cs
 | x=>if x.one then some [x] else none
theorem vB {u:Value} {x:AV} {cs:List AV} (hx:RV w X μ u x) (h:gm x=some cs):vL w X μ u.cells cs:=by
 unfold gm at h;split at h
 .obtain rfl:=AI h;obtain⟨arr,rfl,hn,hr⟩:=hx.data.n7;exact⟨by simpa[Value.cells]using hn,RV.u9 hr⟩
 .obtain rfl:=AI h;obtain⟨arr,rfl,hn,hr⟩:=hx.n7;exact⟨hn,hr⟩
 .split at h
  .rename_i h1;obtain rfl:=AI h;rw[cells_one (hx.vf h1)];refine⟨rfl,fun j v c hv hc=>?_⟩
   match j,hv,hc with
   | 0,hv,hc=>simp at hv hc;subst hv hc;exact hx
   | j+1,hv,hc=>simp at hc
  .cases h
def adx:Value->List D
 | .agg arr=>arr.toList.map pa
 | v=>[pa v]
theorem vF (v:Value):v.cells.size=(adx v).length/\∀ (j:Nat) (u:Value) (c:D),v.cells[j]? = some u->(adx v)[j]? = some c->RD w X u c:=by
 cases v with
 | agg arr=>
  refine⟨by simp[Value.cells,adx],fun j u c hu hc=>?_⟩;simp only[adx,abM]at hc;obtain⟨c',cH,rfl⟩:=AT.1 hc;rw[ab2]at cH;simp only[Value.cells]at hu;rw[hu]at cH;obtain rfl:=AI cH;exact tL _
 | _=>
  refine⟨rfl,fun j u c hu hc=>?_⟩
  match j,hu,hc with
  | 0,hu,hc=>simp[Value.cells,adx]at hu hc;subst hu hc;exact tL _
  | j+1,hu,hc=>simp[adx]at hc
end
def aej (Mv X:Nat->Prop) (G:aq) (N:Fr) (w:World) (μ:Mu) (a:Act) (run:Result Value) (x:AV) (aG:St):Prop:=
 ∃ v w' ay,run = .ok v w'/\In w' X G ay N a aG/\RV w' X ay v x/\Ev Mv w μ w' ay
section
variable {P:Program} {T:Ty} {Mv X:Nat->Prop} {G:aq} {N:Fr} {w:World} {μ:Mu} {a:Act} {σ:St}
theorem Kz (hi:In w X G μ N a σ) {d:Nat} (hd:σ.H d=none) (t:TypeId) {cur:Array Value} {cells:List AV} (hp:vL w X μ cur cells) :
  aej Mv X G N w μ a (.ok (.pointer (some ⟨w.heap.size,0,none⟩)) (w.alloc (.cells cur t))) (.ref d 0 0) ⟨σ.env,aM σ.H d (.box t cells)⟩:=by
 have xc:=hi.aX.s7 hd
 have hm:mup μ d ⟨some w.heap.size,cells.length,1⟩ d=some ⟨some w.heap.size,cells.length,1⟩:=by simp[mup]
 obtain⟨h1,h2⟩:=hi.alloc (Mv:=Mv) hd (bZ.alloc w (.cells cur t)) (m:=⟨some w.heap.size,cells.length,1⟩) (fun b hb=>by simp at hb;omega) (row:=.box t cells) fun ev=>
  .box rfl rfl (show 1<=maxLen by decide) (by simpa using heap_alloc_new w (.cells cur t)) (Nat.le_of_eq hp.size.symm) (hx:=fun _=>hp.size.symm) fun j u c hu hc=>(hp.at_ j u c hu hc).same ev fun q m' hq=>by
   unfold mup;split
   .rename_i e;subst e;rw[xc]at hq;cases hq
   .exact hq
 refine⟨_,_,_,rfl,h1,?_,h2⟩;have:=RV.ref (w:=w.alloc (.cells cur t)) (X:=X) (μ:=mup μ d ⟨some w.heap.size,cells.length,1⟩) (e:=0) (j:=0) (b:=w.heap.size) hm rfl;simpa using this
structure Nd (w:World) (X:Nat->Prop) (cur:Array Value) (sz:Nat) (els:List (List D)):Prop where
 len:∀ el∈els,el.length=sz
 at_:∀ (i j:Nat) (el:List D) (c:D),els[i]? = some el->el[j]? = some c->∃ u,cur[i * sz+j]? = some u/\RD w X u c
theorem KA (hi:In w X G μ N a σ) {d:Nat} (hd:σ.H d=none) (t:TypeId) {cur:Array Value} {sz n cap:Nat} {els:List (List D)} (he:Nd w (XX X μ) cur sz els) (hz:0 < sz) (hc:cur.size=cap * sz) (hn:els.length=n) (ad7:n<=cap) (Sl:cap<=maxLen) :
  aej Mv X G N w μ a (.ok (.slice (some ⟨w.heap.size,0,none⟩) n cap) (w.alloc (.cells cur t))) (.own d 0 n) ⟨σ.env,aM σ.H d (.sl t sz els)⟩:=by
 have hm:mup μ d ⟨some w.heap.size,sz,cap⟩ d=some ⟨some w.heap.size,sz,cap⟩:=by simp[mup]
 obtain⟨h1,h2⟩:=hi.alloc (Mv:=Mv) hd (bZ.alloc w (.cells cur t)) (m:=⟨some w.heap.size,sz,cap⟩) (fun b hb=>by simp at hb;omega) (row:=.sl t sz els) fun ev=>
  .sl rfl rfl (by simpa using heap_alloc_new w (.cells cur t)) hc (by simp;omega) Sl he.len hz fun i j el c h1 h2=>let ⟨u,hu,hr⟩:=he.at_ i j el c h1 h2;⟨u,hu,hr.ev ev⟩
 exact⟨_,_,_,rfl,h1,.own hm (.inr ⟨w.heap.size,rfl,by simp,by simpa using ad7⟩),h2⟩
theorem Nq (hg:Good P T) (hi:In w X G μ N a σ) {d:Nat} (hd:σ.H d=none) {t:TypeId} {ti:TI} (ht:T t=some ti) :
  aej Mv X G N w μ a ((Instr.alloc t true (.tuple #[])).run P w) (.ref d 0 0) ⟨σ.env,aM σ.H d (.box t ((adx ti.zero).map .d))⟩:=by
 have:=Kz (Mv:=Mv) hi hd t (cur:=ti.zero.cells) (cells:=(adx ti.zero).map .d) ⟨by simpa using (vF (w:=w) (X:=X) ti.zero).1,RV.u9 (vF ti.zero).2⟩;simpa[Instr.alloc,hg.zero ht,newVar,newRow]using this
theorem Ol (hi:In w X G μ N a σ) {d:Nat} (hd:σ.H d=none) {t:TypeId} {u:Value} {x:AV} {cs:List AV} (hx:RV w X μ u x) (hc:gm x=some cs) :
  aej Mv X G N w μ a ((Instr.box t u).run P w) (.ref d 0 0) ⟨σ.env,aM σ.H d (.box t cs)⟩:=by
 have:=Kz (Mv:=Mv) hi hd t (vB hx hc);simpa[Instr.box,newVar,newRow]using this
theorem vt {α:Type} (l cs:List α) (j i:Nat) (hj:j+cs.length<=l.length):(l.take j ++ cs ++ l.drop (j+cs.length))[i]? = if j<=i/\i < j+cs.length then cs[i - j]? else l[i]?:=by
 rw[adU,aer];simp only[acz]
 have e1:min j l.length=j:=by omega
 rw[e1];split
 .rename_i h;rw[if_neg (by omega),acu,if_pos h]
 .rename_i h;rw[aer];split
  .rename_i h2;rw[if_pos (by omega)]
  .rename_i h2;rw[if_neg (by omega),ac3];congr 1;omega
theorem LV {ti:TI} {t:TypeId} (hg:Good P T) (ht:T t=some ti) {b o:Nat} {ty:TypeId} {cur:Array Value} {u:Value} (hh:w.heap[b]? = some (.cells cur ty (0,0))) (hs:u.cells.size=ti.size) (iD:o+ti.size<=cur.size) (h1:∀ v∈u.cells.toList,v.oneCell'=true) :
  (storeVar t ⟨b,o,none⟩ u).run P w = .ok () (w.setRow b (cur.toList.take o ++ u.cells.toList ++ cur.toList.drop (o+u.cells.toList.length)).toArray):=by
 have:=run_storeCells_at P b o ty u.cells.toList 0 cur w hh (by simp;omega) h1;simp only[adF]at this;simp[storeVar,hg.sizeOf ht,hs,this]
def Bl (T:Ty) (t:TypeId) (cells:List AV) (j:Nat) (x:AV):Option (Prop×List AV):=match T t,gm x with
 | some ti,some cs=>some (cs.length=ti.size/\j+cs.length<=cells.length/\cs.all AV.one=true,cells.take j ++ cs ++ cells.drop (j+cs.length))
 | _,_=>none
theorem Zb (hg:Good P T) (hi:In w X G μ N a σ) {t ty:TypeId} {r j:Nat} {cells qm:List AV} {ua u:Value} {x:AV} {c:Prop} (hH:σ.H r=some (.box ty cells)) (h:Bl T t cells j x=some (c,qm)) (hc:c)
  (ha:RV w X μ ua (.ref r 0 j)) (hx:RV w X μ u x):∃ w',(Instr.storeAt t ua u).run P w = .ok () w'/\In w' X G μ N a ⟨σ.env,aM σ.H r (.box ty qm)⟩/\Ev Mv w μ w' μ:=by
 unfold Bl at h;split at h
 .rename_i ti cs ht b8;simp only[AS,BY]at h;obtain⟨rfl,rfl⟩:=h;obtain⟨h1,h2,h3⟩:=hc;obtain⟨m,b,hm,hb,rfl⟩:=ha.ik;obtain⟨m',bU,ok⟩:=hi.aX.rows r _ hH;rw[hm]at bU;obtain rfl:=AI bU;have hp:=vB hx b8
  cases ok with
  | box aU aK ad7 hh hn hr hx0=>
   rename_i b' cur;rw[hb]at aU;obtain rfl:=AI aU
   have adK:∀ v∈u.cells.toList,v.oneCell'=true:=by
    intro v hv;obtain⟨i,da,rfl⟩:=aco.1 hv
    have eE:i < cs.length:=by rw[<- hp.size];simpa using da
    refine (hp.at_ i _ cs[i] (by rw[<- ab2,By da]) (by simp[eE])).vf ?_;exact ack.1 h3 _ (abH eE)
   have ab6:=LV (P:=P) hg ht (o:=j) hh (by rw[hp.size,h1]) (by omega) adK
   have oA:u.cells.toList.length=cs.length:=by simpa using hp.size
   obtain⟨aF,aH⟩:=hi.write (Mv:=Mv) (w':=w.setRow b (cur.toList.take j ++ u.cells.toList ++ cur.toList.drop (j+u.cells.toList.length)).toArray) hm hb (by simp) rfl rfl rfl (fun k hk=>setRow_other w b k _ hk)
    (row:=.box ty (cells.take j ++ cs ++ cells.drop (j+cs.length))) fun ev=>by
     refine .box hb rfl ad7 (setRow_heap w b cur _ ty _ hh) ?_ (hx:=fun e=>?_) fun i v c hv hc=>?_
     .simp[oA];omega
     rotate_left
     .have:=hx0 e;simp[oA];omega
     .rw[vt _ _ _ _ h2]at hc;rw[<- ab2]at hv;simp only at hv;rw[vt _ _ _ _ (by rw[oA];simp;omega),oA]at hv;refine RV.same ev (fun _ _ h=>h) ?_;split at hv
      .rename_i lp;rw[if_pos lp]at hc;exact hp.at_ _ v c (by simpa using hv) hc
      .rename_i lp;rw[if_neg lp]at hc;exact hr i v c (by simpa using hv) hc
   refine⟨_,?_,aF,aH⟩;simp only[aea,acR];simpa[Instr.storeAt,Instr.sureAddr]using ab6
 .cases h
def Bm (T:Ty) (t:TypeId) (sz:Nat) (els:List (List D)) (e j:Nat) (x:AV):Option (Prop×List (List D)):=match T t,(gm x).bind iN with
 | some ti,some cs=>some (cs.length=ti.size/\e < els.length/\j+cs.length<=sz/\cs.all D.one=true,els.set e ((els.getD e []).take j ++ cs ++ (els.getD e []).drop (j+cs.length)))
 | _,_=>none
theorem Zc (hg:Good P T) (hi:In w X G μ N a σ) {t ty:TypeId} {r e j sz:Nat} {els kB:List (List D)} {ua u:Value} {x:AV} {c:Prop} (hH:σ.H r=some (.sl ty sz els)) (h:Bm T t sz els e j x=some (c,kB)) (hc:c)
  (ha:RV w X μ ua (.ref r e j)) (hx:RV w X μ u x):∃ w',(Instr.storeAt t ua u).run P w = .ok () w'/\In w' X G μ N a ⟨σ.env,aM σ.H r (.sl ty sz kB)⟩/\Ev Mv w μ w' μ:=by
 unfold Bm at h;split at h
 .rename_i ti ds ht b8;obtain⟨cs,b8,jo⟩:=ab9.1 b8;simp only[AS,BY]at h;obtain⟨rfl,rfl⟩:=h;obtain⟨h1,h2,h3,h4⟩:=hc;obtain⟨m,b,hm,hb,rfl⟩:=ha.ik;obtain⟨m',bU,ok⟩:=hi.aX.rows r _ hH;rw[hm]at bU;obtain rfl:=AI bU;have hp:=vB hx b8;rw[lT jo]at hp
  have dt:u.cells.size=ds.length:=by simpa using hp.size
  have zO:∀ (i:Nat) (v:Value) (c:D),u.cells[i]? = some v->ds[i]? = some c->RD w (XX X μ) v c:=fun i v c hv hc=>(hp.at_ i v (.d c) hv (by rw[abM,hc];rfl)).data
  cases ok with
  | nil aU _=>rw[hb]at aU;cases aU
  | sl aU aK hh Dg hn fh hl hz hr=>
   rename_i b' cur;rw[hb]at aU;obtain rfl:=AI aU;subst aK
   have adK:∀ v∈u.cells.toList,v.oneCell'=true:=by
    intro v hv;obtain⟨i,da,rfl⟩:=aco.1 hv
    have eE:i < ds.length:=by rw[<- dt];simpa using da
    refine (zO i _ ds[i] (by rw[<- ab2,By da]) (by simp[eE])).vf ?_;exact ack.1 h4 _ (abH eE)
   have hel:els.getD e []=els[e]:=by simp[abJ,h2]
   have hlen:(els[e]).length=m.sz:=hl _ (abH h2);have hE:(e+1) * m.sz<=m.cap * m.sz:=acB _ (by omega);rw[ade]at hE;have ab6:=LV (P:=P) hg ht (o:=e * m.sz+j) hh (by rw[dt,h1]) (by rw[Dg];omega) adK
   have oA:u.cells.toList.length=ds.length:=by simpa using dt
   rw[hel]
   obtain⟨aF,aH⟩:=hi.write (Mv:=Mv) (w':=w.setRow b (cur.toList.take (e * m.sz+j) ++ u.cells.toList ++ cur.toList.drop (e * m.sz+j+u.cells.toList.length)).toArray) hm hb (by simp) rfl rfl rfl (fun k hk=>setRow_other w b k _ hk)
    (row:=.sl ty m.sz (els.set e ((els[e]).take j ++ ds ++ (els[e]).drop (j+ds.length)))) fun ev=>by
     refine .sl hb rfl (setRow_heap w b cur _ ty _ hh) ?_ (by simpa using hn) fh ?_ hz ?_
     .simp[oA,Dg];omega
     .intro el wR
      rcases List.mem_or_eq_of_mem_set wR with h | rfl
      .exact hl el h
      .simp[hlen];omega
     .intro i k el c da hk
      have key:∀ idx,((cur.toList.take (e * m.sz+j) ++ u.cells.toList ++ cur.toList.drop (e * m.sz+j+u.cells.toList.length)).toArray)[idx]? = if e * m.sz+j<=idx/\idx < e * m.sz+j+ds.length then u.cells[idx - (e * m.sz+j)]? else cur[idx]?:=by
       intro idx;rw[<- ab2];simp only;rw[vt _ _ _ _ (by rw[oA];simp[Dg];omega),oA];simp
      rw[key]
      have hkl:k < m.sz:=by
       have bU:el∈els.set e ((els[e]).take j ++ ds ++ (els[e]).drop (j+ds.length)):=adG da
       have:el.length=m.sz:=by
        rcases List.mem_or_eq_of_mem_set bU with h | rfl
        .exact hl el h
        .simp[hlen];omega
       have:=(OF.1 hk).1;omega
      rw[List.getElem?_set]at da;split at da
      .rename_i Dl;subst Dl
       try rw[if_pos h2]at da
       obtain rfl:=AI da;rw[vt _ _ _ _ (by omega)]at hk;split at hk
       .rename_i hjk;rw[if_pos (by omega)]
        have e1:e * m.sz+k - (e * m.sz+j)=k - j:=by omega
        rw[e1]
        have au:k - j < u.cells.size:=by omega
        exact⟨u.cells[k - j],by simp[au],(zO (k - j) _ c (by simp[au]) hk).ev ev⟩
       .rename_i hjk;rw[if_neg (by omega)];obtain⟨v,hv,bD⟩:=hr e k _ c (By h2) hk;exact⟨v,hv,bD.ev ev⟩
      .rename_i Dl
       have aI:¬ (e * m.sz+j<=i * m.sz+k/\i * m.sz+k < e * m.sz+j+ds.length):=by
        rintro⟨g1,g2⟩
        rcases Nat.lt_or_gt_of_ne Dl with h | h
        .have:(e+1) * m.sz<=i * m.sz:=acB _ h;rw[ade]at this;omega
        .have:(i+1) * m.sz<=e * m.sz:=acB _ h;rw[ade]at this;omega
       rw[if_neg aI];obtain⟨v,hv,bD⟩:=hr i k el c da hk;exact⟨v,hv,bD.ev ev⟩
   refine⟨_,?_,aF,aH⟩;simpa[Instr.storeAt,Instr.sureAddr]using ab6
 .cases h
def mW (ti:TI) (n:Nat):List (List D):=List.replicate n (adx ti.zero)
theorem Uz (hg:Good P T) (hi:In w X G μ N a σ) {d:Nat} (hd:σ.H d=none) {t e:TypeId} {tt te:TI} (cC:T t=some tt) (cM:tt.desc = .slice e) (cg:T e=some te) {k1 k2:IntKind} {l c:Int} (h0:0<=l) (h1:l<=c) (h2:te.bytes * c<=281474976710656) (h3:c<=9223372036854775807)
  (hz:0 < te.size) (pX:(adx te.zero).length=te.size) :
  aej Mv X G N w μ a ((Instr.makeSlice t (.int k1 l) (.int k2 c)).run P w) (.own d 0 l.toNat) ⟨σ.env,aM σ.H d (.sl e te.size (mW te l.toNat))⟩:=by
 obtain⟨hu,i0,js,hs0,hb0,hz0,_⟩:=hg e te cg;have ht:=(hg t tt cC).1;rw[cM]at ht;rw[run_make (P:=P) w t e i0 te.zero ht js hz0 k1 k2 l c h0 h1 (by rw[hb0];exact h2) h3,hs0];refine KA (Mv:=Mv) hi hd e ⟨fun el hel=>?_,fun i j el d hel hd=>?_⟩ hz (size_madeCells _ _) (by simp[mW]) (by omega) (by unfold maxLen;omega)
 .rw[List.eq_of_mem_replicate hel,pX]
 .unfold mW at hel;rw[List.getElem?_replicate]at hel;split at hel
  .rename_i au;obtain rfl:=AI hel
   have hj:j < te.size:=by rw[<- pX];exact (OF.1 hd).1
   have pW:=vF (w:=w) (X:=XX X μ) te.zero
   have b8:te.zero.cells.size=te.size:=by rw[pW.1,pX]
   have wX:j < te.zero.cells.size:=by omega
   refine⟨te.zero.cells[j],?_,pW.2 j _ d (by simp[wX]) hd⟩
   have hb:i * te.size+j < c.toNat * te.size:=by
    have:(i+1) * te.size<=c.toNat * te.size:=acB _ (by omega);rw[ade]at this;omega
   have lv:(i * te.size+j) % te.size=j:=by rw[Nat.mul_comm,Nat.mul_add_mod,Nat.mod_eq_of_lt hj]
   simp[madeCells,hb,b8,lv];exact getElem!_pos te.zero.cells j wX
  .cases hel
end
end Go.Av
namespace Go.Av
section
variable {P:Program} {T:Ty} {Mv X:Nat->Prop} {G:aq} {N:Fr} {w:World} {μ:Mu} {a:Act} {σ:St}
def ql (sz:Nat):Nat->List (Nat×AV)->Option (List (List D))
 | _,[]=>some []
 | k,(i,x) :: rest=>if i=k then match (gm x).bind iN with
   | some ds=>if ds.length=sz then (ql sz (k+1) rest).map (ds :: ·) else none
   | none=>none
  else none
theorem Ld (vs:List Value):∀ (n off:Nat) (arr:Array Value) (k:Nat),off+n+vs.length<=arr.size->
  ((vs.zipIdx n).foldl (fun cs (p:Value×Nat)=>cs.setIfInBounds (off+p.2) p.1) arr)[k]? = if off+n<=k/\k < off+n+vs.length then vs[k - (off+n)]? else arr[k]?:=by
 induction vs with
 | nil=>
  intro n off arr k _;simp only[List.zipIdx_nil,List.foldl_nil,aeA];rw[if_neg (by omega)]
 | cons v vs ih=>
  intro n off arr k hk;simp only[acv]at hk;rw[List.zipIdx_cons,List.foldl_cons,ih (n+1) off _ k (by simp;omega)];simp only[acv];by_cases h1:k=off+n
  .subst h1;rw[if_neg (by omega),if_pos (by omega)];simp[Array.getElem?_setIfInBounds,show off+n < arr.size by omega]
  .by_cases h2:off+(n+1)<=k/\k < off+(n+1)+vs.length
   .rw[if_pos h2,if_pos (by omega)]
    have:k - (off+n)=(k - (off+(n+1)))+1:=by omega
    rw[this];rfl
   .rw[if_neg h2,if_neg (by omega)];exact ad2 (by omega)
theorem ahj (vs:List Value):∀ (n off:Nat) (arr:Array Value),((vs.zipIdx n).foldl (fun cs (p:Value×Nat)=>cs.setIfInBounds (off+p.2) p.1) arr).size=arr.size:=by
 induction vs with
 | nil=>intros;rfl
 | cons v vs ih=>intro n off arr;rw[List.zipIdx_cons,List.foldl_cons,ih];simp
theorem HI {sz:Nat}:∀ (ps:List (Nat×AV)) (vs:List (Nat×Value)) (k:Nat) (els:List (List D)) (arr:Array Value),ql sz k ps=some els->vs.map (·.1)=ps.map (·.1)->
  (∀ (i:Nat) (p:Nat×AV) (v:Nat×Value),ps[i]? = some p->vs[i]? = some v->RV w X μ v.2 p.2)->(k+ps.length) * sz<=arr.size->
  ∃ adZ,Instr.fill (fun i=>some (i * sz,sz)) arr vs=some adZ/\adZ.size=arr.size/\(∀ idx,idx < k * sz->adZ[idx]? = arr[idx]?)/\els.length=ps.length/\(∀ el∈els,el.length=sz)/\
   ∀ (i j:Nat) (el:List D) (c:D),els[i]? = some el->el[j]? = some c->∃ u,adZ[(k+i) * sz+j]? = some u/\RD w (XX X μ) u c:=by
 intro ps
 induction ps with
 | nil=>
  intro vs k els arr h hv _ _
  cases vs with
  | cons _ _=>simp at hv
  | nil=>
   simp only[ql,AS]at h;subst h;exact⟨arr,rfl,rfl,fun _ _=>rfl,rfl,by simp,by simp⟩
 | cons p ps ih=>
  intro vs k els arr h hv hr hs;obtain⟨i,x⟩:=p
  cases vs with
  | nil=>simp at hv
  | cons v vs=>
   obtain⟨i',u⟩:=v;simp only[acJ,aeV]at hv;obtain⟨rfl,hv⟩:=hv;simp only[ql]at h;split at h
   case isFalse=>cases h
   rename_i wW;subst wW;split at h
   case h_2=>cases h
   rename_i ds jo;split at h
   case isFalse=>cases h
   rename_i hlen;obtain⟨kB,se,rfl⟩:=AT.1 h;obtain⟨cs,b8,bC⟩:=ab9.1 jo;have hp:=vB (hr 0 (i',x) (i',u) rfl rfl) b8;rw[lT bC]at hp
   have dt:u.cells.size=sz:=by have:=hp.size;simp at this;omega
   have zO:∀ (j:Nat) (v:Value) (c:D),u.cells[j]? = some v->ds[j]? = some c->RD w (XX X μ) v c:=fun j v c hv hc=>(hp.at_ j v (.d c) hv (by rw[abM,hc];rfl)).data
   have iD:i' * sz+sz<=arr.size:=by
    simp only[acv]at hs;have:(i'+1) * sz<=(i'+(ps.length+1)) * sz:=acB _ (by omega);rw[ade]at this;omega
   let ad5:=(u.cells.zipIdx.foldl (fun cs (p:Value×Nat)=>cs.setIfInBounds (i' * sz+p.2) p.1) arr)
   have wN:ad5=((u.cells.toList.zipIdx 0).foldl (fun cs (p:Value×Nat)=>cs.setIfInBounds (i' * sz+p.2) p.1) arr):=by
    show Array.foldl _ _ _=_;rw[<- Array.foldl_toList,Array.toList_zipIdx]
   have zS:ad5.size=arr.size:=by rw[wN];exact ahj _ _ _ _
   have zC:∀ k,ad5[k]? = if i' * sz<=k/\k < i' * sz+sz then u.cells[k - i' * sz]? else arr[k]?:=by
    intro k;rw[wN,Ld _ 0 _ _ _ (by simp[dt];omega)];simp[dt]
   obtain⟨adZ,hf,qX,hold,hlen',C7,jw⟩:=ih vs (i'+1) kB ad5 se hv (fun i p v h1 h2=>hr (i+1) p v (by simpa using h1) (by simpa using h2)) (by rw[zS];simp only[acv]at hs;rw[show i'+1+ps.length=i'+(ps.length+1) by omega];exact hs);refine⟨adZ,?_,qX.trans zS,fun idx zE=>?_,by simp[hlen'],fun el hel=>?_,fun i j el c hi hj=>?_⟩
   .simp only[Instr.fill]
    have:¬ (u.cells.size≠sz\/i' * sz+u.cells.size > arr.size):=by omega
    simp only[dt,ne_eq,not_true_eq_false,decide_false,aeE,decide_eq_true_eq];rw[if_neg (by omega)];exact hf
   .rw[hold idx (by rw[ade];omega),zC,if_neg (by omega)]
   .rcases abV.1 hel with rfl | h
    .exact hlen
    .exact C7 el h
   .cases i with
    | zero=>
     simp at hi;subst hi
     have hj':j < sz:=by rw[<- hlen];exact (OF.1 hj).1
     have IV:j < u.cells.size:=by omega
     refine⟨u.cells[j],?_,zO j _ c (by simp[IV]) hj⟩;rw[adF,hold _ (by rw[ade];omega),zC,if_pos (by omega)];simp[IV]
    | succ i=>
     simp at hi;have:=jw i j el c hi hj
     rwa [show i'+1+i=i'+(i+1) by omega]at this
theorem Oq (hg:Good P T) (hi:In w X G μ N a σ) {d:Nat} (hd:σ.H d=none) {t e:TypeId} {tt te:TI} (cC:T t=some tt) (cM:tt.desc = .slice e) (cg:T e=some te) {len:Nat} {ps:List (Nat×AV)} {vs:Array (Nat×Value)} {els:List (List D)}
  (Rl:ql te.size 0 ps=some els) (hlen:ps.length=len) (hv:vs.toList.map (·.1)=ps.map (·.1)) (hr:∀ (i:Nat) (p:Nat×AV) (v:Nat×Value),ps[i]? = some p->vs[i]? = some v->RV w X μ v.2 p.2)
  (hz:0 < te.size) (Jo:len * te.size<=16777216) :
  aej Mv X G N w μ a ((Instr.buildSlice t len vs).run P w) (.own d 0 len) ⟨σ.env,aM σ.H d (.sl e te.size els)⟩:=by
 have hu:=hg.cy (w:=w) cC;have aK:=hg.sizeOf (w:=w) cg;have xv:=hg.zero (w:=w) cg
 obtain⟨adZ,hf,qX,_,hl,bC,jw⟩:=HI (w:=w) (X:=X) (μ:=μ) (sz:=te.size) ps vs.toList 0 els ((Array.range (len * te.size)).map ((if len * te.size=0 then #[] else te.zero.cells)[· % (if len * te.size=0 then #[] else te.zero.cells).size]!)) Rl hv
  (fun i p v h1 h2=>hr i p v h1 (by rwa [ab2]at h2)) (by simp[hlen])
 have:=KA (Mv:=Mv) hi hd e (cur:=adZ) (sz:=te.size) (n:=len) (cap:=len) (els:=els) ⟨bC,fun i j el c h1 h2=>by simpa using jw i j el c h1 h2⟩ hz (by rw[qX];simp) (by omega) (abL _) (by
  have:len<=len * te.size:=Nat.le_mul_of_pos_right _ hz
  unfold maxLen;omega)
 have hn:¬ len * te.size > 2 ^ 24:=by omega
 have e0:∀ f:Nat->Value,(Array.range 0).map f = #[]:=fun f=>by apply Array.ext<;>simp
 by_cases h0:len * te.size=0
 .simp only[h0,if_true,e0]at hf;simp only[Instr.buildSlice,Sem.run_bind,hu,cM,Result.andThen_ok,aK,hn,if_false,h0,if_true,Sem.run_pure,e0];simp[hf,newRow];exact this
 .simp only[h0,if_false]at hf;simp only[Instr.buildSlice,Sem.run_bind,hu,cM,Result.andThen_ok,aK,hn,if_false,h0,Sem.run_pure,xv];simp[hf,newRow];exact this
def tW (pl:Nat->Option (Nat×Nat)):List AV->List (Nat×AV)->Option (List AV)
 | cs,[]=>some cs
 | cs,(i,x) :: rest=>match pl i,gm x with
  | some (off,sz),some xs=>if xs.length=sz/\off+sz<=cs.length then tW pl (cs.take off ++ xs ++ cs.drop (off+sz)) rest else none
  | _,_=>none
theorem ahD {pl:Nat->Option (Nat×Nat)}:∀ (ps:List (Nat×AV)) (vs:List (Nat×Value)) (cs mw:List AV) (arr:Array Value),tW pl cs ps=some mw->vs.map (·.1)=ps.map (·.1)->
  (∀ (i:Nat) (p:Nat×AV) (v:Nat×Value),ps[i]? = some p->vs[i]? = some v->RV w X μ v.2 p.2)->vL w X μ arr cs->∃ adZ,Instr.fill pl arr vs=some adZ/\vL w X μ adZ mw:=by
 intro ps
 induction ps with
 | nil=>
  intro vs cs mw arr h hv _ hp
  cases vs with
  | cons _ _=>simp at hv
  | nil=>
   simp only[tW,AS]at h;subst h;exact⟨arr,rfl,hp⟩
 | cons p ps ih=>
  intro vs cs mw arr h hv hr hp;obtain⟨i,x⟩:=p
  cases vs with
  | nil=>simp at hv
  | cons v vs=>
   obtain⟨i',u⟩:=v;simp only[acJ,aeV]at hv;obtain⟨rfl,hv⟩:=hv;simp only[tW]at h;split at h
   case h_2=>cases h
   rename_i off sz xs dt S9;split at h
   case isFalse=>cases h
   rename_i hc;obtain⟨hxl,iD⟩:=hc;have Je:=vB (hr 0 (i',x) (i',u) rfl rfl) S9
   have Eb:u.cells.size=sz:=by rw[Je.size,hxl]
   have aaF:arr.size=cs.length:=hp.size
   let ad5:=(u.cells.zipIdx.foldl (fun cs (p:Value×Nat)=>cs.setIfInBounds (off+p.2) p.1) arr)
   have wN:ad5=((u.cells.toList.zipIdx 0).foldl (fun cs (p:Value×Nat)=>cs.setIfInBounds (off+p.2) p.1) arr):=by
    show Array.foldl _ _ _=_;rw[<- Array.foldl_toList,Array.toList_zipIdx]
   have zS:ad5.size=arr.size:=by rw[wN];exact ahj _ _ _ _
   have zC:∀ k,ad5[k]? = if off<=k/\k < off+sz then u.cells[k - off]? else arr[k]?:=by
    intro k;rw[wN,Ld _ 0 _ _ _ (by simp[Eb];omega)];simp[Eb]
   have hp1:vL w X μ ad5 (cs.take off ++ xs ++ cs.drop (off+sz)):=by
    refine⟨by rw[zS];simp;omega,fun j v c sJ hc=>?_⟩;rw[zC]at sJ
    have hl1:(List.take off cs).length=off:=by simp;omega
    rw[adU,aer,hl1]at hc;split at hc
    .rename_i hj;rw[if_neg (by omega)]at sJ;rw[acu,if_pos hj]at hc;exact hp.at_ j v c sJ hc
    .rename_i hj;rw[aer,hxl]at hc;split at hc
     .rename_i hj2;rw[if_pos (by omega)]at sJ;exact Je.at_ _ v c sJ hc
     .rename_i hj2;rw[if_neg (by omega)]at sJ;rw[ac3]at hc;refine hp.at_ j v c sJ ?_;rw[<- hc];congr 1;omega
   obtain⟨adZ,hf,Sz⟩:=ih vs _ mw ad5 h hv (fun i p v h1 h2=>hr (i+1) p v (by simpa using h1) (by simpa using h2)) hp1;refine⟨adZ,?_,Sz⟩;simp only[Instr.fill,dt,Eb,ne_eq,not_true_eq_false,decide_false,aeE,decide_eq_true_eq];rw[if_neg (by omega)];exact hf
def Fp (T:Ty) (t:TypeId):Option (Nat->Option (Nat×Nat)):=match T t with
 | some ti=>match ti.desc with
  | .struct fs=>if fs.toList.all (fun f=>(T f.type).isSome) then some fun i=>(fs[i]?).bind fun (f:Field)=>(T f.type).map fun tf=>(f.offset,tf.size) else none
  | .array _ e=>(T e).map fun te=>fun i=>some (i * te.size,te.size)
  | _=>none
 | none=>none
def yM (T:Ty) (t:TypeId) (ps:List (Nat×AV)):hU:=match T t,Fp T t with
 | some ti,some pl=>(tW pl ((adx ti.zero).map .d) ps).map fun cs=>(True,me cs)
 | _,_=>none
theorem run_places (hg:Good P T):∀ (l:List Field),l.all (fun f=>(T f.type).isSome)=true->
  (l.mapM (m:=Sem) fun (f:Field)=>do pure (f.offset,<- Go.sizeOf f.type)).run P w = .ok (l.map fun (f:Field)=>(f.offset,((T f.type).map (·.size)).getD 0)) w:=by
 intro l
 induction l with
 | nil=>intro _;simp
 | cons f l ih=>
  intro h;simp only[List.all_cons,abI]at h;obtain⟨ti,D8⟩:=adL.1 h.1;simp only[List.mapM_cons,Sem.run_bind,hg.sizeOf D8,Result.andThen_ok,Sem.run_pure,ih h.2,acJ,D8,acN,adW]
theorem Oo (hg:Good P T) {t:TypeId} {ps:List (Nat×AV)} {vs:Array (Nat×Value)} {c:Prop} {x:AV} (h:yM T t ps=some (c,x)) (hv:vs.toList.map (·.1)=ps.map (·.1))
  (hr:∀ (i:Nat) (p:Nat×AV) (v:Nat×Value),ps[i]? = some p->vs[i]? = some v->RV w X μ v.2 p.2):∃ u,(Instr.build t vs).run P w = .ok u w/\RV w X μ u x:=by
 unfold yM at h;split at h
 case h_2=>cases h
 rename_i ti pl ht dt;obtain⟨cs,b8,he⟩:=AT.1 h;simp only[BY]at he;obtain⟨_,rfl⟩:=he;have hz:=vF (w:=w) (X:=XX X μ) ti.zero;obtain⟨adZ,hf,hp⟩:=ahD (w:=w) (X:=X) (μ:=μ) ps vs.toList _ cs ti.zero.cells b8 hv (fun i p v h1 h2=>hr i p v h1 (by rwa [ab2]at h2)) ⟨by simpa using hz.1,RV.u9 hz.2⟩;refine⟨.agg adZ,?_,xH (.agg hp.size hp.at_)⟩;unfold Fp at dt;rw[ht]at dt;dsimp only at dt;split at dt
 .rename_i fs RN;split at dt
  .rename_i bC;obtain rfl:=AI dt;have hm:=run_places (P:=P) (w:=w) hg fs.toList bC
   have ahS:(fun (i:Nat)=>((fs.toList.map fun (f:Field)=>(f.offset,((T f.type).map (·.size)).getD 0)).toArray)[i]?)=fun (i:Nat)=>(fs[i]?).bind fun (f:Field)=>(T f.type).map fun tf=>(f.offset,tf.size):=by
    funext i;simp only[List.getElem?_toArray,abM,ab2]
    cases hi:fs[i]? with
    | none=>rfl
    | some f=>
     have adJ:f∈fs.toList:=by rw[<- ab2]at hi;exact adG hi
     obtain⟨tf,zT⟩:=adL.1 (ack.1 bC f adJ);simp[zT]
   simp only[Instr.build,Sem.run_bind,hg.zero ht,hg.cy ht,RN,Result.andThen_ok,Array.mapM_eq_mapM_toList,map_eq_pure_bind,hm,Sem.run_pure];rw[<- ahS]at hf;simp only[hf,Sem.run_pure]
  .cases dt
 .rename_i n e he;obtain⟨te,cg,dt⟩:=AT.1 dt;subst dt;simp[Instr.build,Sem.run_bind,hg.zero ht,hg.cy ht,he,Result.andThen_ok,hg.sizeOf cg,hf]
 .cases dt
structure afd (w:World) (X:Nat->Prop) (μ:Mu) (sz:Nat) (u:Value) (els:List (List D)):Prop where
 len:∀ el∈els,el.length=sz
 at_:(els=[]/\∃ (ad:Option Addr) (cap:Nat),u = .slice ad 0 cap)\/∃ (ad:Addr) (cap:Nat) (news:List Value),u = .slice (some ad) els.length cap/\news.length=els.length * sz/\(∀ (j:Nat) (v:Value),news[j]? = some v->w.cell? (ad.add j)=some v)/\(∀ v∈news,v.oneCell'=true)/\
  ∀ (i j:Nat) (el:List D) (c:D),els[i]? = some el->el[j]? = some c->∃ v,news[i * sz+j]? = some v/\RD w (XX X μ) v c
theorem afd.E9 {sz:Nat} {els:List (List D)} {b off cap:Nat} (f:Nat->Nat->Value) (hl:∀ el∈els,el.length=sz) (hz:0 < sz) (h1:∀ el∈els,∀ c∈el,D.one c=true)
  (cI:∀ i j,i < els.length->j < sz->w.cell? ⟨b,off+(i * sz+j),none⟩=some (f i j)) (hr:∀ (i j:Nat) (el:List D) (c:D),els[i]? = some el->el[j]? = some c->RD w (XX X μ) (f i j) c) :
  afd w X μ sz (.slice (some ⟨b,off,none⟩) els.length cap) els:=by
 refine⟨hl,.inr ⟨_,_,(List.range (els.length * sz)).map fun k=>f (k / sz) (k % sz),rfl,by simp,fun j v hv=>?_,fun v hv=>?_,fun i j el c hi hj=>?_⟩⟩
 .rw[abM]at hv;obtain⟨k,hk,rfl⟩:=AT.1 hv;rw[List.getElem?_range]at hk
  .obtain rfl:=AI hk
   have R4:j < els.length * sz:=by
    rcases adY j (els.length * sz)with h | h
    .exact h
    .rw[adh (by simpa using h)]at hv;cases hv
   have h2:j / sz < els.length:=(Nat.div_lt_iff_lt_mul hz).2 R4;have h3:j % sz < sz:=Nat.mod_lt _ hz;rw[addr_add,<- cI (j / sz) (j % sz) h2 h3,Nat.div_add_mod']
  .rcases adY j (els.length * sz)with h | h
   .exact h
   .rw[adh (by simpa using h)]at hv;cases hv
 .obtain⟨k,hk,rfl⟩:=acD.1 hv;have hk:=acW.1 hk;have h2:k / sz < els.length:=(Nat.div_lt_iff_lt_mul hz).2 hk
  have h3:k % sz < (els[k / sz]).length:=by rw[hl _ (abH h2)];exact Nat.mod_lt _ hz
  exact (hr (k / sz) (k % sz) _ _ (By h2) (By h3)).vf (h1 _ (abH h2) _ (abH h3))
 .have da:=(OF.1 hi).1;have hel:el.length=sz:=hl _ (adG hi)
  have hj':j < sz:=by rw[<- hel];exact (OF.1 hj).1
  have hb:i * sz+j < els.length * sz:=by
   have:(i+1) * sz<=els.length * sz:=acB _ da;rw[ade]at this;omega
  have e1:(i * sz+j) / sz=i:=by rw[Nat.mul_comm,Nat.mul_add_div hz,Nat.div_eq_of_lt hj'];rfl
  have e2:(i * sz+j) % sz=j:=by rw[Nat.mul_comm,Nat.mul_add_mod,Nat.mod_eq_of_lt hj']
  refine⟨f i j,?_,hr i j el c hi hj⟩;rw[abM,List.getElem?_range hb];simp[e1,e2]
def jA (H:Heap) (r:Nat):AV->Option (List (List D))
 | .d (.sl _ els)=>some els
 | .own q off n=>if q=r then none else match H q with
  | some (.sl _ _ els)=>if off+n<=els.length then some ((els.drop off).take n) else none
  | _=>none
 | _=>none
theorem Az (hs:Sim w X μ σ.H) {r sz:Nat} {u:Value} {x:AV} {els:List (List D)} (hx:RV w X μ u x) (h:jA σ.H r x=some els) (hl:∀ el∈els,el.length=sz) (hz:0 < sz) (h1:∀ el∈els,∀ c∈el,D.one c=true):afd w X μ sz u els:=by
 unfold jA at h;split at h
 .rename_i k0 Pk;obtain rfl:=AI h
  rcases hx.data.na with⟨rfl,rfl,_⟩ | ⟨ad,cap,rfl,_,_,_,hr⟩
  .exact⟨by simp,.inl ⟨rfl,_,_,rfl⟩⟩
  .rcases hr with rfl | ⟨b,off,Bn,f,rfl,hX,hz',bC,cI,iF⟩
   .exact⟨by simp,.inl ⟨rfl,_,_,rfl⟩⟩
   .by_cases he:Pk=[]
    .subst he;exact⟨by simp,.inl ⟨rfl,_,_,rfl⟩⟩
    .obtain⟨el,hel⟩:=List.exists_mem_of_ne_nil _ he
     have:Bn=sz:=by rw[<- bC el hel,hl el hel]
     subst this;exact afd.E9 f hl hz h1 cI iF
 .rename_i q off n;split at h
  .cases h
  .split at h
   .rename_i ty szq yY hq;split at h
    .rename_i hle;obtain rfl:=AI h;obtain⟨m,hm,hh⟩:=hx.je;obtain⟨m',bU,ok⟩:=hs.rows q _ hq;rw[hm]at bU;obtain rfl:=AI bU
     rcases hh with⟨hb,rfl,rfl,rfl⟩ | ⟨b,hb,rfl,ad7⟩
     .exact⟨by simp,.inl ⟨by simp,_,_,rfl⟩⟩
     .cases ok with
      | nil aU _=>rw[aU]at hb;cases hb
      | sl aU aK hh b8 hn fh sr hzz hr=>
       rename_i b' cur;rw[hb]at aU;obtain rfl:=AI aU;subst aK;by_cases h0:n=0
       .subst h0;exact⟨by simp,.inl ⟨by simp,_,_,rfl⟩⟩
       .have hlen:((yY.drop off).take n).length=n:=by simp;omega
        have adJ:∀ el∈(yY.drop off).take n,el∈yY:=fun el hel=>ac7 (acd hel)
        have aI:(yY.drop off).take n≠[]:=by intro e;rw[e]at hlen;simp at hlen;omega
        obtain⟨Cv,IH⟩:=List.exists_mem_of_ne_nil _ aI
        have SV:sz=m.sz:=by rw[<- hl Cv IH,sr Cv (adJ Cv IH)]
        subst SV
        have:=afd.E9 (w:=w) (X:=X) (μ:=μ) (b:=b) (off:=off * m.sz) (cap:=m.cap - off) (fun i j=>cur.getD ((off+i) * m.sz+j) undef) hl hz h1 (fun i j hi hj=>by
         rw[hlen]at hi
         have au:(off+i) * m.sz+j < cur.size:=by
          rw[b8];have:(off+i+1) * m.sz<=m.cap * m.sz:=acB _ (by omega);rw[ade]at this;omega
         have e1:off * m.sz+(i * m.sz+j)=(off+i) * m.sz+j:=by rw[ade];omega
         rw[e1,cell_of_row w b _ cur ty (0,0) hh]
         simp[IT,au]) (fun i j el c hel hc=>by
         rw[acu]at hel;split at hel
         .rw[ac3]at hel;obtain⟨u',hu',bD⟩:=hr (off+i) j el c hel hc;simpa[IT,hu']using bD
         .cases hel)
        rwa [hlen]at this
    .cases h
   .cases h
 .cases h
theorem Yt {t ty e:TypeId} {tt te:TI} (hg:Good P T) (cC:T t=some tt) (cM:tt.desc = .slice e) (cg:T e=some te) (base ad:Option Addr) (n cap c:Nat) (hn:n<=cap) :
  (Builtin.append_ #[t,t] ty #[.slice base n cap,.slice ad 0 c]).run P w = .ok (.slice base n cap) w:=by
 have hu:=hg.cy (w:=w) cC;have aK:=hg.sizeOf (w:=w) cg;cases ad<;>cases base<;>simp[Builtin.append_,hu,cM,aK,Builtin.lenOf,hn,Builtin.firstCells,loadCells,loadCellsFrom,storeCells]
def Rel (w:World) (X:Nat->Prop) (μ:Mu) (sz:Nat) (l:List Value) (els:List (List D)):Prop:=
 ∀ (i j:Nat) (el:List D) (c:D),els[i]? = some el->el[j]? = some c->∃ v,l[i * sz+j]? = some v/\RD w (XX X μ) v c
theorem Rel.append {sz:Nat} {l l':List Value} {A B:List (List D)} (h:Rel w X μ sz l A) (hl:l.length=A.length * sz) (hA:∀ el∈A,el.length=sz) (h':Rel w X μ sz l' B):Rel w X μ sz (l ++ l') (A ++ B):=by
 intro i j el c hi hj;rw[aer]at hi;split at hi
 .rename_i au;obtain⟨v,hv,hr⟩:=h i j el c hi hj;exact⟨v,by rw[adB (OF.1 hv).1];exact hv,hr⟩
 .rename_i qI;obtain⟨v,hv,hr⟩:=h' _ j el c hi hj;refine⟨v,?_,hr⟩
  have e1:(i - A.length) * sz+j=i * sz+j - l.length:=by
   have:A.length * sz<=i * sz:=acB _ (by omega);rw[hl,Nat.sub_mul];omega
  rw[List.getElem?_append_right,<- e1]
  .exact hv
  .have:A.length * sz<=i * sz:=acB _ (by omega);omega
theorem Rel.more {sz:Nat} {l l':List Value} {A:List (List D)} (h:Rel w X μ sz l A):Rel w X μ sz (l ++ l') A:=by
 intro i j el c hi hj;obtain⟨v,hv,hr⟩:=h i j el c hi hj;exact⟨v,by rw[adB (OF.1 hv).1];exact hv,hr⟩
theorem GM (hg:Good P T) (hi:In w X G μ N a σ) {r n:Nat} (eG:Mv r) {t ty e:TypeId} {tt te:TI} (cC:T t=some tt) (cM:tt.desc = .slice e) (cg:T e=some te) {els news:List (List D)} {u v:Value}
  (hH:σ.H r=some (.sl e te.size els)) (hle:n<=els.length) (hu:RV w X μ u (.own r 0 n)) (hn:afd w X μ te.size v news) (hz:0 < te.size) (pX:(adx te.zero).length=te.size)
  (zl:n+news.length<=maxLen) (hb:(n+news.length) * te.bytes<=140737488355328) :
  aej Mv X G N w μ a ((Builtin.append_ #[t,t] ty #[u,v]).run P w) (.own r 0 (n+news.length)) ⟨cN r σ.env,aM (cO r σ.H) r (.sl e te.size (els.take n ++ news))⟩:=by
 obtain⟨m,hm,hh⟩:=hu.je;obtain⟨m',bU,ok⟩:=hi.aX.rows r _ hH;rw[hm]at bU;obtain rfl:=AI bU;obtain⟨sI,i0,js,hs0,hb0,hz0,_⟩:=hg e te cg;have ht:=(hg t tt cC).1;rw[cM]at ht;have pW:=vF (w:=w) (X:=XX X μ) te.zero
 have Rt:te.zero.cells.size=te.size:=by rw[pW.1,pX]
 have so:∀ el∈els,el.length=te.size:=by
  cases ok with
  | nil=>simp
  | sl _ _ _ _ _ _ hl=>exact hl
 have ago:∀ el∈els.take n ++ news,el.length=te.size:=by
  intro el hel
  rcases ab4.1 hel with h | h
  .exact so el (acd h)
  .exact hn.len el h
 by_cases aI:news=[]
 .-- nothing is appended
  subst aI
  have hv:∃ ad c,v = .slice ad 0 c:=by
   rcases hn.at_ with⟨_,ad,cap,rfl⟩ | ⟨ad,cap,nws,rfl,_⟩
   .exact⟨_,_,rfl⟩
   .exact⟨_,_,rfl⟩
  obtain⟨ad,c,rfl⟩:=hv
  have kQ:∃ base c,u = .slice base n c/\n<=c:=by
   rcases hh with⟨_,rfl,_,rfl⟩ | ⟨b,_,rfl,ad7⟩
   .exact⟨_,_,rfl,abL _⟩
   .exact⟨_,_,rfl,by omega⟩
  obtain⟨base,c',xl,DP⟩:=kQ;have ab6:=Yt (P:=P) (w:=w) (ty:=ty) hg cC cM cg base ad n c' c DP;rw[xl,ab6]
  obtain⟨aF,aH⟩:=hi.move (Mv:=Mv) (w':=w) (m':=m) hm eG (abL _) rfl rfl rfl (fun _ _ _=>rfl) (fun b hb=>.inr hb) (row:=.sl e te.size (els.take n ++ [])) fun ev=>by
   rw[adp]
   cases ok with
   | nil hb1 hs1=>rw[List.take_nil];exact .nil hb1 hs1
   | sl g1 g2 g3 g4 g5 g6 g7 g8 g9=>
    refine .sl g1 g2 g3 g4 (by simp;omega) g6 (fun el hel=>g7 el (acd hel)) g8 fun i j el c hel hc=>?_;rw[acu]at hel;split at hel
    .obtain⟨v,hv,bD⟩:=g9 i j el c hel hc;exact⟨v,hv,bD.ev ev⟩
    .cases hel
  refine⟨_,_,_,rfl,aF,.own (m:=m) (by simp[mup]) ?_,aH⟩;rw[<- xl];exact hh
 .have Jc:0 < news.length:=adM.2 aI
  rcases hn.at_ with⟨h,_⟩ | ⟨ad,cap,nws,rfl,hnl,xa,w9,nE⟩
  .exact absurd h aI
  have Jo:n+news.length<=9223372036854775807:=by simp only[maxLen]at zl;omega
  have xL:∀ (xs:List Value) (fP:Nat),xs.length=n * te.size->Rel w X μ te.size xs (els.take n)->n+news.length<=fP->fP<=maxLen->
    aej Mv X G N w μ a (.ok (.slice (some ⟨w.heap.size,0,none⟩) (n+news.length) fP) (w.drew.alloc (.cells (xs.toArray ++ nws.toArray ++ Builtin.zeroCells te.zero.cells (fP - (n+news.length))) e)))
     (.own r 0 (n+news.length)) ⟨cN r σ.env,aM (cO r σ.H) r (.sl e te.size (els.take n ++ news))⟩:=by
   intro xs fP hxl pV dA fV
   have kf:bZ w (w.drew.alloc (.cells (xs.toArray ++ nws.toArray ++ Builtin.zeroCells te.zero.cells (fP - (n+news.length))) e)):=by
    have h1:=bZ.alloc w.drew (.cells (xs.toArray ++ nws.toArray ++ Builtin.zeroCells te.zero.cells (fP - (n+news.length))) e);exact⟨h1.size,h1.os,h1.tape,h1.output,h1.same⟩
   have aK:(xs.toArray ++ nws.toArray ++ Builtin.zeroCells te.zero.cells (fP - (n+news.length))).size=fP * te.size:=by
    simp only[Array.size_append,aey,size_zeroCells,Rt,hxl,hnl,<- ade];congr 1;omega
   obtain⟨aF,aH⟩:=hi.move (Mv:=Mv) (w':=w.drew.alloc (.cells (xs.toArray ++ nws.toArray ++ Builtin.zeroCells te.zero.cells (fP - (n+news.length))) e)) (m':=⟨some w.heap.size,te.size,fP⟩) hm eG kf.size kf.os kf.tape kf.output
    (fun k hk _=>kf.same k hk) (fun b hb=>by simp at hb;omega) (row:=.sl e te.size (els.take n ++ news)) fun ev=>by
     refine .sl rfl rfl (by simpa using heap_alloc_new w.drew (.cells (xs.toArray ++ nws.toArray ++ Builtin.zeroCells te.zero.cells (fP - (n+news.length))) e)) aK (by simp;omega) fV ago hz fun i j el c hi hj=>?_;have hrel:=((pV.append (by rw[hxl,acz,afa hle]) (fun el hel=>so el (acd hel)) nE).more (l':=(Builtin.zeroCells te.zero.cells (fP - (n+news.length))).toList)) i j el c hi hj;obtain⟨v,hv,bD⟩:=hrel;refine⟨v,?_,bD.ev ev⟩;rw[<- ab2];simpa using hv
   exact⟨_,_,_,rfl,aF,.own (m:=⟨some w.heap.size,te.size,fP⟩) (by simp[mup]) (.inr ⟨w.heap.size,rfl,by simp,by simpa using dA⟩),aH⟩
  rcases hh with⟨iS,rfl,_,rfl⟩ | ⟨b,iS,rfl,ad7⟩
  .have hr:=run_append_nil (P:=P) w t ty e i0 te.zero ht js hz0 ad news.length cap nws (by rw[hnl,hs0]) xa Jc (by omega) (by rw[hb0];simp only[acR]at hb;omega);rw[hr];have:=xL [] (grownCap w news.length 0 e) (by simp) (by intro i j el c hi;simp at hi) (by have:=grownCap_ge w news.length 0 e;omega) (grownCap_le_maxLen w news.length 0 e (by unfold maxLen;omega));simpa using this
  .cases ok with
   | nil aU _=>rw[aU]at iS;cases iS
   | sl aU aK ot b8 mM fh hl hz' hr=>
    rename_i b' cur;rw[iS]at aU;obtain rfl:=AI aU
    have agV:n<=m.cap:=by omega
    have hmul:n * te.size<=m.cap * te.size:=acB _ agV
    have hxl:(cur.toList.take (n * te.size)).length=n * te.size:=by rw[acz,ado,b8,afa hmul]
    have pV:Rel w X μ te.size (cur.toList.take (n * te.size)) (els.take n):=by
     intro i j el c hel hc;rw[acu]at hel;split at hel
     .rename_i aF;obtain⟨v,hv,bD⟩:=hr i j el c hel hc;have wR:el.length=te.size:=hl _ (adG hel)
      have hj:j < te.size:=by rw[<- wR];exact (OF.1 hc).1
      refine⟨v,?_,bD⟩;rw[acu,if_pos]
      .simpa using hv
      .have:(i+1) * te.size<=n * te.size:=acB _ aF;rw[ade]at this;omega
     .cases hel
    by_cases uF:n+news.length<=m.cap
    .have iD:n * te.size+nws.length<=cur.size:=by rw[hnl,b8,<- ade];exact acB _ uF
     have ab6:=run_append_room (P:=P) w t ty e i0 ht js b n m.cap cur ot ad news.length cap nws (by rw[hnl,hs0]) xa w9 uF (by rw[hs0];exact iD);simp only[aea,Nat.sub_zero];rw[ab6,hs0]
     obtain⟨aF,aH⟩:=hi.move (Mv:=Mv) (w':=w.setRow b (cur.toList.take (n * te.size) ++ nws ++ cur.toList.drop (n * te.size+nws.length)).toArray) (m':=m) hm eG (by simp) rfl rfl rfl
      (fun k hk DQ=>setRow_other w b k _ fun e'=>DQ (by rw[iS,e'])) (fun b hb=>.inr hb) (row:=.sl e te.size (els.take n ++ news)) fun ev=>by
       refine .sl iS aK (setRow_heap w b cur _ e _ ot) ?_ (by simp;omega) fh ago hz fun i j el c hi hj=>?_
       .simp only[aey,acC,acz,acK,ado];omega
       .obtain⟨v,hv,bD⟩:=((pV.append (by rw[hxl,acz,afa hle]) (fun el hel=>so el (acd hel)) nE).more (l':=cur.toList.drop (n * te.size+nws.length))) i j el c hi hj;exact⟨v,by rw[<- ab2];simpa using hv,bD.ev ev⟩
     refine⟨_,_,_,rfl,aF,.own (m:=m) (by simp[mup]) (.inr ⟨b,iS,by simp,by simpa using uF⟩),aH⟩
    .have ab6:=run_append_grow (P:=P) w t ty e i0 te.zero ht js hz0 ⟨b,0,none⟩ n m.cap (cur.toList.take (n * te.size)) (by rw[hxl,hs0]) (fun j v hv=>by
      rw[addr_add,cell_of_row w b _ cur e (0,0) ot];rw[acu]at hv;split at hv
      .simpa using hv
      .cases hv) ad news.length cap nws (by rw[hnl,hs0]) xa (by omega) (by omega) (by rw[hb0];exact growslice_fits (by omega) hb)
     simp only[aea,Nat.sub_zero];rw[ab6];exact xL _ _ hxl pV (grownCap_ge _ _ _ _) (grownCap_le_maxLen w _ _ e zl)
end
