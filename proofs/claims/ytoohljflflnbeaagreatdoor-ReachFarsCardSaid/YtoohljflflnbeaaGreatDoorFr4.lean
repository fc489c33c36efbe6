/- Parts. -/
import Derived.Test.YtoohljflflnbeaaGreatDoorFr3
import Derived.Laws.StructEq
set_option linter.unusedSectionVars false
set_option linter.unusedSimpArgs false
set_option linter.unusedVariables false
namespace Go.Av
def pA (op:BinOp) (k:IntKind) (x y:Int):Int:=
 let a:=BitVec.ofInt k.bits x
 let b:=BitVec.ofInt k.bits y
 match op with
 | .and=>k.wrap (a &&& b).toNat
 | .or=>k.wrap (a ||| b).toNat
 | .xor=>k.wrap (a ^^^ b).toNat
 | _=>k.wrap (a &&& ~~~b).toNat
def vT (k:IntKind) (n:Int):Option (Prop×Value):=match k with
 | .i64=>some (-9223372036854775808<=n/\n<=9223372036854775807,.int .i64 n)
 | k=>some (True,.int k (k.wrap n))
def EF (op:BinOp) (k:IntKind) (a b:Int):Option (Prop×Value):=match op with
 | .add=>vT k (a+b)
 | .sub=>vT k (a - b)
 | .mul=>vT k (a * b)
 | .quo=>some (b≠0,.int k (k.wrap (a.tdiv b)))
 | .rem=>some (b≠0,.int k (a.tmod b))
 | .and=>some (True,.int k (pA .and k a b))
 | .or=>some (True,.int k (pA .or k a b))
 | .xor=>some (True,.int k (pA .xor k a b))
 | .andNot=>some (True,.int k (pA .andNot k a b))
 | .eql=>some (True,.bool (a == b))
 | .neq=>some (True,.bool (a != b))
 | .lss=>some (True,.bool (decide (a < b)))
 | .leq=>some (True,.bool (decide (a<=b)))
 | .gtr=>some (True,.bool (decide (a > b)))
 | .geq=>some (True,.bool (decide (a >= b)))
 | _=>none
def sH (op:BinOp) (k:IntKind) (a b:Int):Option (Prop×Value):=match op with
 | .shl=>some (0<=b,.int k (k.wrap (a * 2 ^ (min b.toNat k.bits))))
 | .shr=>some (0<=b,.int k (a.fdiv (2 ^ (min b.toNat k.bits))))
 | _=>none
def Lr:BinOp->Bool
 | .shl | .shr=>true
 | _=>false
def bo (op:BinOp) (a b:ByteArray):Option (Prop×Value):=match op with
 | .add=>some (a.size+b.size<=9223372036854775807,.string (a ++ b))
 | .eql=>some (True,.bool (a.toList == b.toList))
 | .neq=>some (True,.bool (!(a.toList == b.toList)))
 | .lss=>some (True,.bool (Op.bytesLess a.toList b.toList))
 | .leq=>some (True,.bool (Op.bytesLess a.toList b.toList || a.toList == b.toList))
 | .gtr=>some (True,.bool (!(Op.bytesLess a.toList b.toList || a.toList == b.toList)))
 | .geq=>some (True,.bool (!Op.bytesLess a.toList b.toList))
 | _=>none
theorem HX {n:Int} (h:-9223372036854775808<=n/\n<=9223372036854775807):IntKind.i64.wrap n=n:=by rw[IntKind.wrap_i64];omega
theorem Je {k:IntKind} {n:Int} {c:Prop} {v:Value} (h:vT k n=some (c,v)) (hc:c):v = .int k (k.wrap n):=by
 cases k<;>simp only[vT,IS,ajH]at h<;>obtain⟨rfl,rfl⟩:=h
 all_goals first | rfl | (rw[HX hc])
theorem Wy {P:Program} {op:BinOp} (jN:Lr op=false) {k:IntKind} {a b:Int} {c:Prop} {v:Value} (h:EF op k a b=some (c,v)) (hc:c) (t:TypeId) (w:World):(binOp op t (.int k a) (.int k b)).run P w = .ok v w:=by
 unfold EF at h;cases op<;>simp only[IS,ajH]at h
 all_goals first
  | (exact absurd jN bF)
  | (have:=Je h hc;subst this;simp[binOp,Op.intArith])
  | (obtain⟨rfl,rfl⟩:=h;simp[binOp,Op.intCmp];done)
  | (obtain⟨rfl,rfl⟩:=h;simp[binOp,Op.intBits,pA];done)
  | (obtain⟨rfl,rfl⟩:=h;simp[binOp,Op.intDiv,hc];done)
theorem agF {P:Program} {op:BinOp} {k yk:IntKind} {a b:Int} {c:Prop} {v:Value} (h:sH op k a b=some (c,v)) (hc:c) (t:TypeId) (w:World):(binOp op t (.int k a) (.int yk b)).run P w = .ok v w:=by
 unfold sH at h;cases op<;>simp only[IS,ajH,reduceCtorEq]at h
 all_goals
  obtain⟨rfl,rfl⟩:=h
  have:¬ b < 0:=aa
  simp[binOp,Op.shift,this]
theorem Wz {P:Program} {op:BinOp} {a b:ByteArray} {c:Prop} {v:Value} (h:bo op a b=some (c,v)) (hc:c) (t:TypeId) (w:World):(binOp op t (.string a) (.string b)).run P w = .ok v w:=by
 unfold bo at h;cases op<;>simp only[IS,ajH,reduceCtorEq]at h
 all_goals obtain⟨rfl,rfl⟩:=h
 case add=>
  have:¬ (((a.size+b.size:Nat):Int) > IntKind.i64.max):=by simp[IntKind.max,IntKind.signed,IntKind.bits];omega
  simp[binOp,Op.stringOp,this]
  try omega
 all_goals simp[binOp,Op.stringOp]
def eqv (op:BinOp) (c:Prop) (b:Bool):k8:=match op with
 | .eql=>some (c,bool b)
 | .neq=>some (c,bool !b)
 | _=>none
def rj (T:Ty) (t:TypeId) (p:TypeDesc->Bool):Bool:=match T t with
 | some ti=>p ti.desc
 | none=>false
def TypeDesc.isIface:TypeDesc->Bool | .interface _=>true | _=>false
def TypeDesc.isSlice:TypeDesc->Bool | .slice _=>true | _=>false
def TypeDesc.isBool:TypeDesc->Bool | .bool=>true | _=>false
def TypeDesc.isStr:TypeDesc->Bool | .string=>true | _=>false
def GZ:TypeDesc->Value->Bool
 | .interface _,.nilIface | .pointer _,.pointer none | .func _ _ _,.nilFunc | .slice _,.slice none 0 0=>true
 | _,_=>false
def GX:AV->Value->Option (Prop×Bool)
 | .d (.cf _ _),.nilIface=>some (True,false)
 | .cf _ _,.nilIface=>some (True,false)
 | .d (.v .nilIface),.nilIface=>some (True,true)
 | .d (.ip _),.pointer none=>some (True,false)
 | .ref _ _ _,.pointer none=>some (True,false)
 | .d (.v (.pointer none)),.pointer none=>some (True,true)
 | .d (.fn _ _),.nilFunc=>some (True,false)
 | .fn _ _,.nilFunc=>some (True,false)
 | .d (.v .nilFunc),.nilFunc=>some (True,true)
 | .d (.sl (some b) _),.slice none 0 0=>some (True,!b)
 | .d (.sl none els),.slice none 0 0=>some (els≠[],false)
 | .own _ _ n,.slice none 0 0=>some (0 < n,false)
 | _,_=>none
def IG:Operand->Option Value
 | .const v=>some v
 | _=>none
def Ma (T:Ty) (op:BinOp) (t:TypeId) (oy:Operand) (x:AV):k8:=match IG oy with
 | some v=>if rj T t (GZ · v) then (GX x v).bind fun (c,b)=>eqv op c b else none
 | none=>none
def I4 (d:TypeDesc) (a b:Value):Option Bool:=match d,a,b with
 | .int _,.int k a,.int k' b=>if k=k' then some (a == b) else none
 | .string,.string a,.string b=>some (a.toList == b.toList)
 | .bool,.bool a,.bool b=>some (a == b)
 | _,_,_=>none
def EZ (T:Ty) (xs ys:List D):List Field->Option Bool
 | []=>some true
 | f :: l=>if f.name = "_" then none else match T f.type,xs[f.offset]?,ys[f.offset]? with
  | some tf,some (.v a),some (.v b)=>match I4 tf.desc a b,EZ T xs ys l with
   | some r,some r2=>some (r && r2)
   | _,_=>none
  | _,_,_=>none
def EE (T:Ty) (op:BinOp) (t:TypeId) (oy:Operand) (x y:AV):k8:=match x,y with
 | .d (.v (.int k a)),.d (.v (.int k' b))=>
  if Lr op then (sH op k a b).map fun (c,v)=>(c,.d (.v v)) else if k=k' then (EF op k a b).map fun (c,v)=>(c,.d (.v v)) else none
 | .d (.v (.string a)),.d (.v (.string b))=>(bo op a b).map fun (c,v)=>(c,.d (.v v))
 | .d (.v (.bool a)),.d (.v (.bool b))=>if rj T t TypeDesc.isBool then eqv op True (a == b) else none
 | .d (.agg xs),.d (.agg ys)=>match T t with
  | some ti=>match ti.desc with
   | .struct fs=>if ti.pe then (match EZ T xs ys fs.toList with
    | some b=>eqv op True b
    | none=>none) else none
   | _=>none
  | none=>none
 | x,_=>Ma T op t oy x
theorem MN {P:Program} {w:World} {op:BinOp} {t:TypeId} {u v:Value} {c:Prop} {b:Bool} {z:AV} {X:Nat->Prop} {μ:Mu} (h:eqv op c b=some (c,z)) (hb:(binOp .eql t u v).run P w = .ok (.bool b) w)
  (hn:(binOp .neq t u v).run P w = .ok (.bool !b) w):∃ r,(binOp op t u v).run P w = .ok r w/\RV w X μ r z:=by
 unfold eqv at h;split at h
 .simp only[IS,ajH,true_and]at h;subst h;exact⟨_,hb,.d (.v _)⟩
 .simp only[IS,ajH,true_and]at h;subst h;exact⟨_,hn,.d (.v _)⟩
 .cases h
theorem vK {T:Ty} {t:TypeId} {p:TypeDesc->Bool} (h:rj T t p=true):∃ ti,T t=some ti/\p ti.desc=true:=by
 unfold rj at h;split at h
 .rename_i ti ht;exact⟨ti,ht,h⟩
 .cases h
theorem I6 {op:BinOp} {c c':Prop} {b:Bool} {z:AV} (h:eqv op c b=some (c',z)):c'=c:=by
 unfold eqv at h;split at h<;>simp only[IS,ajH,reduceCtorEq]at h
 .exact h.1.symm
 .exact h.1.symm
section
variable {P:Program} {w:World} {t:TypeId}
theorem OV {ms:Array (String×TypeId)} (h:P.underlying t=some (.interface ms)) (d:Nat) (t':TypeId) (x:Value):(Op.equalIn (d+1) t (.iface t' x) .nilIface).run P w = .ok false w:=by
 simp[Op.equalIn,run_underlying h]
theorem X2 {ms:Array (String×TypeId)} (h:P.underlying t=some (.interface ms)) (d:Nat):(Op.equalIn (d+1) t .nilIface .nilIface).run P w = .ok true w:=by
 simp[Op.equalIn,run_underlying h]
theorem OW {e:TypeId} (h:P.underlying t=some (.pointer e)) (d:Nat) (a:Addr):(Op.equalIn (d+1) t (.pointer (some a)) (.pointer none)).run P w = .ok false w:=by
 simp[Op.equalIn,run_underlying h]
theorem X3 {e:TypeId} (h:P.underlying t=some (.pointer e)) (d:Nat):(Op.equalIn (d+1) t (.pointer none) (.pointer none)).run P w = .ok true w:=by
 simp[Op.equalIn,run_underlying h]
theorem OU {a b:Array TypeId} {c:Bool} (h:P.underlying t=some (.func a b c)) (d:Nat) (f:Fn) (x y:Array Value):(Op.equalIn (d+1) t (.func f x y) .nilFunc).run P w = .ok false w:=by
 simp[Op.equalIn,run_underlying h]
theorem X1 {a b:Array TypeId} {c:Bool} (h:P.underlying t=some (.func a b c)) (d:Nat):(Op.equalIn (d+1) t .nilFunc .nilFunc).run P w = .ok true w:=by
 simp[Op.equalIn,run_underlying h]
theorem I5 {e:TypeId} (h:P.underlying t=some (.slice e)) (d:Nat) (a:Addr) (n c:Nat):(Op.equalIn (d+1) t (.slice (some a) n c) (.slice none 0 0)).run P w = .ok false w:=by
 simp[Op.equalIn,run_underlying h]
theorem X4 {e:TypeId} (h:P.underlying t=some (.slice e)) (d:Nat):(Op.equalIn (d+1) t (.slice none 0 0) (.slice none 0 0)).run P w = .ok true w:=by
 simp[Op.equalIn,run_underlying h]
theorem X0 (h:P.underlying t=some .bool) (d:Nat) (a b:Bool):(Op.equalIn (d+1) t (.bool a) (.bool b)).run P w = .ok (a == b) w:=by
 simp[Op.equalIn,run_underlying h]
end
def Om:Value->Bool
 | .int _ _ | .string _ | .float _ _ | .complex _ _ _=>false
 | _=>true
theorem pB {P:Program} {w:World} {t:TypeId} {u v:Value} {b:Bool} (hu:Om u=true) (h:(Op.equalIn (9999+1) t u v).run P w = .ok b w) :
  (binOp .eql t u v).run P w = .ok (.bool b) w/\(binOp .neq t u v).run P w = .ok (.bool !b) w:=by
 have h':(Op.equal t u v).run P w = .ok b w:=h;cases u<;>simp[Om]at hu<;>constructor<;>simp[binOp,h']
theorem Ph {P:Program} {w:World} {op:BinOp} {t:TypeId} {ox oy:Operand} {u v:Value} (h:¬ (u = .nilIface/\v = .nilIface)\/(∃ c,ox = .const c)\/∃ c,oy = .const c) (ha:∀ a,u≠.agg a) :
  (eqGuard op t ox oy u v).run P w = .ok () w:=by
 unfold eqGuard
 cases op<;>first | rfl | skip
 all_goals
  cases u<;>cases v<;>first | rfl | skip
  .rcases h with h | ⟨c,rfl⟩ | ⟨c,rfl⟩
   .simp at h
   .rfl
   .cases ox<;>rfl
  .exact absurd rfl (ha _)
theorem acV {P:Program} {T:Ty} (hg:Good P T) {w:World} {X:Nat->Prop} {μ:Mu} {t:TypeId} {u v:Value} {x:AV} {c:Prop} {b:Bool} (h:GX x v=some (c,b)) (hc:c) (hx:RV w X μ u x)
  (hf:rj T t (GZ · v)=true):((binOp .eql t u v).run P w = .ok (.bool b) w/\(binOp .neq t u v).run P w = .ok (.bool !b) w)/\∀ a,u≠.agg a:=by
 obtain⟨ti,ht,hp⟩:=vK hf;have hu:=(hg t ti ht).1;unfold GX at h
 split at h<;>first | cases h;done | skip
 all_goals
  obtain⟨rfl,rfl⟩:=eh h;cases dG:ti.desc<;>simp[dG,GZ]at hp;rw[dG]at hu
 .obtain⟨v',rfl,_⟩:=hx.data.tv;exact⟨pB rfl (OV hu _ _ _),ak⟩
 .obtain⟨v',rfl,_⟩:=hx.tv;exact⟨pB rfl (OV hu _ _ _),ak⟩
 .obtain rfl:=hx.scalar;exact⟨pB rfl (X2 hu _),ak⟩
 .obtain⟨b,off,f,rfl,_⟩:=hx.data.rN;exact⟨pB rfl (OW hu _ _),ak⟩
 .obtain⟨m,b,_,_,rfl⟩:=hx.lG;exact⟨pB rfl (OW hu _ _),ak⟩
 .obtain rfl:=hx.scalar;exact⟨pB rfl (X3 hu _),ak⟩
 .obtain⟨arr,rfl,_⟩:=hx.data.zS;exact⟨pB rfl (OU hu _ _ _ _),ak⟩
 .obtain⟨arr,rfl,_⟩:=hx.zS;exact⟨pB rfl (OU hu _ _ _ _),ak⟩
 .obtain rfl:=hx.scalar;exact⟨pB rfl (X1 hu _),ak⟩
 .rename_i bb els e
  rcases hx.data.rY with⟨rfl,_,hk⟩ | ⟨a,cap,rfl,hk,_⟩
  .cases bb
   .exact⟨pB rfl (X4 hu _),ak⟩
   .exact absurd rfl hk
  .cases bb
   .exact absurd rfl hk
   .exact⟨pB rfl (I5 hu _ _ _ _),ak⟩
 .rcases hx.data.rY with⟨rfl,he,hk⟩ | ⟨a,cap,rfl,hk,_⟩
  .exact absurd he hc
  .exact⟨pB rfl (I5 hu _ _ _ _),ak⟩
 .obtain⟨m,_,hh⟩:=hx.lF
  rcases hh with⟨_,_,_,rfl⟩ | ⟨b,_,rfl,_⟩
  .omega
  .exact⟨pB rfl (I5 hu _ _ _ _),ak⟩
theorem XZ {P:Program} {t:TypeId} {d:TypeDesc} (hu:P.underlying t=some d) {a b:Value} {r:Bool} (h:I4 d a b=some r) (n:Nat) (w:World):(Op.equalIn (n+1) t a b).run P w = .ok r w/\TypeDesc.isAgg d=false:=by
 unfold I4 at h;split at h
 .split at h
  .rename_i hk;subst hk;obtain rfl:=AI h;exact⟨run_equalIn_int w n t _ _ _ _ hu,rfl⟩
  .cases h
 .obtain rfl:=AI h;exact⟨run_equalIn_string w n t _ _ hu,rfl⟩
 .obtain rfl:=AI h;exact⟨run_equalIn_bool' w n t _ _ hu,rfl⟩
 .cases h
theorem Ov {w:World} {X:Nat->Prop} {arr:Array Value} {xs:List D} (hn:arr.size=xs.length) (hr:∀ (j:Nat) (u:Value) (c:D),arr[j]? = some u->xs[j]? = some c->RD w X u c) {j:Nat} {a:Value} (h:xs[j]? = some (.v a)):arr[j]? = some a:=by
 have hj:j < arr.size:=by rw[hn];exact (BY.1 h).1
 have:=(hr j _ _ (ajZ hj) h).scalar;rw[ajZ hj,this]
theorem OT {P:Program} {T:Ty} (hg:Good P T) {w:World} {X:Nat->Prop} {lN ug:Array Value} {xs ys:List D} (n1:lN.size=xs.length) (h1:∀ (j:Nat) (u:Value) (c:D),lN[j]? = some u->xs[j]? = some c->RD w X u c) (n2:ug.size=ys.length) (h2:∀ (j:Nat) (u:Value) (c:D),ug[j]? = some u->ys[j]? = some c->RD w X u c) :
  ∀ (fs:List Field) (b:Bool),EZ T xs ys fs=some b->(Op.eqFields (9998+1) lN ug fs).run P w = .ok b w
 | [],b,h=>by
  obtain rfl:=AI h;simp[Op.eqFields]
 | f :: l,b,h=>by
  rw[EZ]at h;split at h
  .cases h
  .rename_i iF;split at h
   .rename_i tf a1 b1 ht hx hy;split at h
    .rename_i r r2 hr yl;obtain rfl:=AI h;obtain⟨e1,e2⟩:=XZ (hg _ _ ht).1 hr 9998 w
     have ha:(Go.isAgg f.type).run P w = .ok false w:=by rw[hg.isAgg ht,e2]
     have p1:(part f.type lN f.offset).run P w = .ok a1 w:=by simp[part,ha,Ov n1 h1 hx]
     have p2:(part f.type ug f.offset).run P w = .ok b1 w:=by simp[part,ha,Ov n2 h2 hy]
     have ih:=OT hg n1 h1 n2 h2 l r2 yl;rw[Op.eqFields,if_pos iF];simp only[Sem.run_bind,p1,p2,e1,Result.andThen_ok,Sem.run_ite];cases r
     .simp
     .simpa using ih
    .cases h
   .cases h
theorem Wx {P:Program} {T:Ty} {G:ay} {N:Fr} (hg:Good P T) {w:World} {X:Nat->Prop} {μ:Mu} {a:Act} {σ:St} (hi:In w X G μ N a σ) {op:BinOp} {t:TypeId} {ox oy:Operand} {x y z:AV} {c:Prop}
  (hx:bC G σ.env ox=some x) (hy:bC G σ.env oy=some y) (h:EE T op t oy x y=some (c,z)) (hc:c) :
  ∃ r,(do eqGuard op t ox oy (a.eval ox) (a.eval oy);binOp op t (a.eval ox) (a.eval oy):Sem Value).run P w = .ok r w/\RV w X μ r z:=by
 have Dg:=hi.eval hx;have Gm:=hi.eval hy
 have plain:∀ (u v:Value),a.eval ox=u->a.eval oy=v->(∀ b,u≠.agg b)->u≠.nilIface->(∃ r,(binOp op t u v).run P w = .ok r w/\RV w X μ r z)->
   ∃ r,(do eqGuard op t ox oy (a.eval ox) (a.eval oy);binOp op t (a.eval ox) (a.eval oy):Sem Value).run P w = .ok r w/\RV w X μ r z:=by
  rintro u v hu hv h1 h2 ⟨r,hr,KR⟩;refine⟨r,?_,KR⟩;rw[hu,hv,Sem.run_bind,Ph (.inl fun e=>h2 e.1) h1];exact hr
 unfold EE at h;split at h
 .rename_i k a1 k' b1;have e1:=Dg.scalar;have e2:=Gm.scalar;refine plain _ _ e1 e2 ak ak ?_;split at h
  .obtain⟨⟨c',v'⟩,hs,he⟩:=AS.1 h;simp only[ajH]at he;obtain⟨rfl,rfl⟩:=he;exact⟨_,agF hs hc _ _,.d (.v _)⟩
  .rename_i va;split at h
   .rename_i hk;subst hk;obtain⟨⟨c',v'⟩,hs,he⟩:=AS.1 h;simp only[ajH]at he;obtain⟨rfl,rfl⟩:=he;exact⟨_,Wy (by simpa using va) hs hc _ _,.d (.v _)⟩
   .cases h
 .obtain⟨⟨c',v'⟩,hs,he⟩:=AS.1 h;simp only[ajH]at he;obtain⟨rfl,rfl⟩:=he;exact plain _ _ Dg.scalar Gm.scalar ak ak ⟨_,Wz hs hc _ _,.d (.v _)⟩
 .rename_i b1 b2;split at h
  .rename_i hb;obtain⟨ti,ht,hp⟩:=vK hb;cases dG:ti.desc<;>simp[dG,TypeDesc.isBool]at hp;have hu:=(hg t ti ht).1;rw[dG]at hu;have:=pB (P:=P) (w:=w) (u:=.bool b1) (v:=.bool b2) rfl (X0 hu 9999 _ _);obtain rfl:=I6 h;exact plain _ _ Dg.scalar Gm.scalar ak ak (MN h this.1 this.2)
  .cases h
 .rename_i xs ys;split at h
  .rename_i ti ht;split at h
   .rename_i fs dG;split at h
    .rename_i fE;split at h
     .rename_i b hb;obtain⟨lN,Gi,n1,r1⟩:=Dg.data.sN;obtain⟨ug,Lf,n2,r2⟩:=Gm.data.sN;obtain⟨wE,i0,_,_,_,_,hp⟩:=hg t ti ht;obtain⟨iX,gB⟩:=hp fE;rw[dG]at wE
      have Qe:P.fieldsOf t=fs:=by simp[Program.fieldsOf,wE]
      have aa0:P.underlying t=some (.struct (P.fieldsOf t)):=by rw[Qe];exact wE
      have he:(Op.equalIn 10000 t (.agg lN) (.agg ug)).run P w = .ok b w:=by
       rw[show (10000:Nat)=9999+1 from rfl,run_equalIn_struct w 9999 t lN ug aa0 iX,Qe];exact OT hg n1 r1 n2 r2 fs.toList b hb
      obtain rfl:=I6 h;obtain⟨r,hr,KR⟩:=MN (X:=X) (μ:=μ) h (P:=P) (w:=w) (t:=t) (u:=.agg lN) (v:=.agg ug) (by rw[run_eql_struct,he];rfl) (by rw[run_neq_struct,he];rfl);refine⟨r,?_,KR⟩;rw[Gi,Lf,Sem.run_bind,run_eqGuard_agg w op t ox oy lN ug gB];exact hr
     .cases h
    .cases h
   .cases h
  .cases h
 .unfold Ma at h;split at h
  .rename_i v hv
   cases oy with
   | const v'=>
    simp only[IG,IS]at hv;subst hv;split at h
    .rename_i hf;obtain⟨⟨c',b'⟩,hn,he⟩:=ajY.1 h;dsimp only at he;obtain rfl:=I6 he;obtain⟨hr,ha⟩:=acV hg hn hc Dg hf;obtain⟨r,ow,hz⟩:=MN (X:=X) (μ:=μ) he hr.1 hr.2;refine⟨r,?_,hz⟩;rw[Sem.run_bind,Ph (.inr (.inr ⟨_,rfl⟩)) ha];exact ow
    .cases h
   | _=>cases hv
  .cases h
end Go.Av
namespace Go.Av
def GN (T:Ty) (t:TypeId):AV->k8
 | .d (.v (.string s))=>if rj T t TypeDesc.isStr then some (True,int s.size) else none
 | .d (.sl _ els)=>if rj T t TypeDesc.isSlice then some (True,int els.length) else none
 | .own _ _ n=>if rj T t TypeDesc.isSlice then some (True,int n) else none
 | _=>none
theorem Ru {d:TypeDesc} (h:TypeDesc.isSlice d=true):∃ e,d = .slice e:=by cases d<;>simp[TypeDesc.isSlice]at h;exact⟨_,rfl⟩
theorem Gv {d:TypeDesc} (h:TypeDesc.isStr d=true):d = .string:=by cases d<;>simp[TypeDesc.isStr]at h;rfl
section
variable {P:Program} {T:Ty} (hg:Good P T) {w:World} {X:Nat->Prop} {μ:Mu} {H:Heap}
include hg
theorem ab6 {t ty:TypeId} {u:Value} {x z:AV} {c:Prop} (h:GN T t x=some (c,z)) (hx:RV w X μ u x):∃ r,(Builtin.len_ #[t] ty #[u]).run P w = .ok r w/\RV w X μ r z:=by
 unfold GN at h;split at h
 .split at h
  .rename_i hd;obtain⟨ti,ht,hp⟩:=vK hd;obtain⟨rfl,rfl⟩:=eh h;obtain rfl:=hx.scalar;exact⟨_,by simp[Builtin.len_,hg.da ht,Gv hp,goInt],.d (.v _)⟩
  .cases h
 .split at h
  .rename_i hd;obtain⟨ti,ht,hp⟩:=vK hd;obtain⟨e,he⟩:=Ru hp;obtain⟨rfl,rfl⟩:=eh h
   rcases hx.data.rY with⟨rfl,rfl,_⟩ | ⟨a,cap,rfl,_⟩
   .exact⟨_,by simp[Builtin.len_,hg.da ht,he,goInt],.d (.v _)⟩
   .exact⟨_,by simp[Builtin.len_,hg.da ht,he,goInt],.d (.v _)⟩
  .cases h
 .split at h
  .rename_i hd;obtain⟨ti,ht,hp⟩:=vK hd;obtain⟨e,he⟩:=Ru hp;obtain⟨rfl,rfl⟩:=eh h;obtain⟨m,_,hh⟩:=hx.lF
   rcases hh with⟨_,rfl,_,rfl⟩ | ⟨b,_,rfl,_⟩
   .exact⟨_,by simp[Builtin.len_,hg.da ht,he,goInt],.d (.v _)⟩
   .exact⟨_,by simp[Builtin.len_,hg.da ht,he,goInt],.d (.v _)⟩
  .cases h
 .cases h
def Il (T:Ty) (t:TypeId):Option (Nat×TypeId×Nat):=match T t with
 | some ti=>match ti.desc with
  | .array n e=>(T e).map fun te=>(n,e,te.size)
  | _=>none
 | none=>none
def Gs (T:Ty) (t:TypeId):AV->AV->k8
 | .d (.v (.string s)),.d (.v (.int _ i))=>if rj T t TypeDesc.isStr then some (0<=i/\i < s.size,.d (.v (.int .u8 (s.data.toList.getD i.toNat 0).toNat))) else none
 | .d (.agg cells),.d (.v (.int _ i))=>match Il T t with
  | some (n,e,sz)=>(uh T e (cells.drop (i.toNat * sz))).map fun (c,z)=>((0<=i/\i < n)/\c,z)
  | none=>none
 | _,_=>none
omit hg in
theorem Wn (s:ByteArray) (n:Nat) (h:n < s.size):s[n]? = some (s.data.toList.getD n 0):=by
 have:s[n]? = some s[n]:=by simp[h]
 rw[this]
 have h2:n < s.data.toList.length:=by simpa using h
 simp[OF,AT h2];rfl
theorem abd {t:TypeId} {u v:Value} {x y z:AV} {c:Prop} (h:Gs T t x y=some (c,z)) (hc:c) (hx:RV w X μ u x) (hy:RV w X μ v y):∃ r,(Instr.index t u v).run P w = .ok r w/\RV w X μ r z:=by
 unfold Gs at h;split at h
 .split at h
  .rename_i s kk i hd;obtain⟨ti,ht,hp⟩:=vK hd;obtain⟨rfl,rfl⟩:=eh h;obtain rfl:=hx.scalar;obtain rfl:=hy.scalar;obtain⟨h0,h1⟩:=hc;obtain⟨n,rfl⟩:=ajL h0;simp only[ajI]
   have hn:n < s.size:=aa
   exact⟨_,by simp[Instr.index,asIntOf,hg.da ht,Gv hp,Wn s n hn],.d (.v _)⟩
  .cases h
 .rename_i cells kk i;split at h
  .rename_i n e sz ha;obtain⟨⟨c',z'⟩,hv,he⟩:=AS.1 h;simp only[ajH]at he;obtain⟨rfl,rfl⟩:=he;obtain⟨⟨h0,h1⟩,eb⟩:=hc;obtain rfl:=hy.scalar;obtain⟨arr,rfl,hn,hr⟩:=hx.data.sN;obtain⟨c2,AK,iV⟩:=N3 T e _ hv eb;rw[alk]at AK;obtain⟨v,mX,gM⟩:=N5 (P:=P) (w:=w) (X:=X) (μ:=μ) hg AK iV (by simpa using hn) (RV.Bd hr);unfold Il at ha;split at ha
   .rename_i ti ht;split at ha
    .rename_i n' e' hd;obtain⟨te,cQ,he⟩:=AS.1 ha;simp only[ajH]at he;obtain⟨rfl,rfl,rfl⟩:=he;exact⟨v,by simp[Instr.index,asIntOf,hg.da ht,hd,h0,h1,hg.sizeOf cQ,mX],gM⟩
    .cases ha
   .cases ha
  .cases h
 .cases h
def Dz (t:TypeId):AV->AV
 | .d x=>.d (.cf t x)
 | x=>.cf t x
omit hg in
theorem LV {u:Value} {x:AV} {t:TypeId} (hx:RV w X μ u x):RV w X μ (.iface t u) (Dz t x):=by
 unfold Dz;split
 .exact .d (.cf hx.data)
 .exact .cf hx
def GP (T:Ty) (t:TypeId) (x:AV):k8:=match T t with
 | some ti=>if TypeDesc.isIface ti.desc then none else some (True,Dz t x)
 | none=>none
theorem acw {t:TypeId} {u:Value} {x z:AV} {c:Prop} (h:GP T t x=some (c,z)) (hx:RV w X μ u x):∃ r,(Instr.makeInterface t u).run P w = .ok r w/\RV w X μ r z:=by
 unfold GP at h;split at h
 .rename_i ti ht;split at h
  .cases h
  .rename_i hd;obtain⟨rfl,rfl⟩:=eh h;refine⟨_,?_,LV hx⟩;simp only[Instr.makeInterface,Sem.run_bind,hg.da ht,Result.andThen_ok];cases dG:ti.desc<;>simp[dG,TypeDesc.isIface]at hd ⊢
 .cases h
def E5 (i:Nat):AV->k8
 | .d (.bz vs)=>vs[i]?.map fun x=>(True,.d x)
 | .bz vs=>vs[i]?.map fun x=>(True,x)
 | _=>none
omit hg in
theorem Yf {i:Nat} {u:Value} {x z:AV} {c:Prop} (h:E5 i x=some (c,z)) (hx:RV w X μ u x):∃ r,(Instr.extract u i).run P w = .ok r w/\RV w X μ r z:=by
 unfold E5 at h;split at h
 .obtain⟨y,hy,he⟩:=AS.1 h;simp only[ajH]at he;obtain⟨rfl,rfl⟩:=he;obtain⟨arr,rfl,hn,hr⟩:=hx.data.Bw;have aH:=(BY.1 hy).1
  have:arr[i]? = some arr[i]:=ak
  exact⟨arr[i],by simp[Instr.extract,this],.d (hr i _ y this hy)⟩
 .obtain⟨y,hy,he⟩:=AS.1 h;simp only[ajH]at he;obtain⟨rfl,rfl⟩:=he;obtain⟨arr,rfl,hn,hr⟩:=hx.Bw;have aH:=(BY.1 hy).1
  have:arr[i]? = some arr[i]:=ak
  exact⟨arr[i],by simp[Instr.extract,this],hr i _ y this hy⟩
 .cases h
def Dy (f:Fn) (caps:List AV):AV:=match l5 caps with
 | some ds=>.d (.fn f ds)
 | none=>.fn f caps
omit hg in
theorem LU {f:Fn} {arr:Array Value} {caps:List AV} (hn:arr.size=caps.length) (hr:∀ (j:Nat) (u:Value) (c:AV),arr[j]? = some u->caps[j]? = some c->RV w X μ u c):RV w X μ (.func f #[] arr) (Dy f caps):=by
 unfold Dy;split
 .rename_i ds hd;rw[re hd]at hn hr;exact .d (.fn (by simpa using hn) fun j u c hu hc=>(hr j u (.d c) hu (by rw[ajK,hc];rfl)).data)
 .exact .fn hn hr
def HI (op:UnOp):AV->k8
 | .d (.v (.bool b))=>match op with | .not=>some (True,bool !b) | _=>none
 | .d (.v (.int k n))=>match op with | .neg=>(vT k (0 - n)).map fun (c,v)=>(c,.d (.v v)) | _=>none
 | _=>none
omit hg in
theorem ahJ {op:UnOp} {u:Value} {x z:AV} {c:Prop} (h:HI op x=some (c,z)) (hc:c) (hx:RV w X μ u x):∃ r,(Op.unary op u).run P w = .ok r w/\RV w X μ r z:=by
 unfold HI at h;split at h
 .split at h
  .obtain⟨rfl,rfl⟩:=eh h;obtain rfl:=hx.scalar;exact⟨_,by simp[Op.unary],.d (.v _)⟩
  .cases h
 .split at h
  .obtain⟨⟨c',v⟩,hf,he⟩:=AS.1 h;simp only[ajH]at he;obtain⟨rfl,rfl⟩:=he;obtain rfl:=hx.scalar;have:=Je hf hc;subst this;exact⟨_,by simp[Op.unary,Op.intArith],.d (.v _)⟩
  .cases h
 .cases h
def EP (T:Ty) (dst:TypeId):AV->k8
 | .d (.v (.int _ n))=>match T dst with
  | some ti=>match ti.desc with
   | .int k=>(vT k n).map fun (c,v)=>(c,.d (.v v))
   | .string=>some (True,.d (.v (.string (Utf8.encode n))))
   | _=>none
  | none=>none
 | .d (.v (.string s))=>if rj T dst TypeDesc.isStr then some (True,.d (.v (.string s))) else none
 | _=>none
theorem Xh {src dst:TypeId} (aaV:(T src).isSome) {u:Value} {x z:AV} {c:Prop} (h:EP T dst x=some (c,z)) (hc:c) (hx:RV w X μ u x):∃ r,(convert src dst u).run P w = .ok r w/\RV w X μ r z:=by
 obtain⟨tis,tq⟩:=akw.1 aaV;unfold EP at h;split at h
 .split at h
  .rename_i ti ht;split at h
   .rename_i k hd;obtain⟨⟨c',v⟩,hf,he⟩:=AS.1 h;simp only[ajH]at he;obtain⟨rfl,rfl⟩:=he;obtain rfl:=hx.scalar;have:=Je hf hc;subst this;exact⟨_,by simp[convert,hg.da tq,hg.da ht,hd,Conv.intToInt],.d (.v _)⟩
   .rename_i hd;obtain⟨rfl,rfl⟩:=eh h;obtain rfl:=hx.scalar;exact⟨_,by simp[convert,hg.da tq,hg.da ht,hd,Conv.intToString],.d (.v _)⟩
   .cases h
  .cases h
 .split at h
  .rename_i hd;obtain⟨ti,ht,hp⟩:=vK hd;obtain⟨rfl,rfl⟩:=eh h;obtain rfl:=hx.scalar;exact⟨_,by simp[convert,hg.da tq,hg.da ht,Gv hp],.d (.v _)⟩
  .cases h
 .cases h
def GY:AV->k8
 | .d (.ip c)=>some (True,.d (.ip c))
 | .ref r e j=>some (True,.ref r e j)
 | _=>none
omit hg in
theorem acW {u:Value} {x z:AV} {c:Prop} (h:GY x=some (c,z)) (hx:RV w X μ u x):(∃ a,u = .pointer (some a))/\RV w X μ u z:=by
 unfold GY at h;split at h
 .obtain⟨rfl,rfl⟩:=eh h;obtain⟨b,off,f,rfl,_⟩:=hx.data.rN;exact⟨⟨_,rfl⟩,hx⟩
 .obtain⟨rfl,rfl⟩:=eh h;obtain⟨m,b,_,_,rfl⟩:=hx.lG;exact⟨⟨_,rfl⟩,hx⟩
 .cases h
def bound (G:ay) (e:Env):Option Operand->Option (Option Int)
 | none=>some none
 | some o=>match bC G e o with
  | some (.d (.v (.int _ i)))=>some (some i)
  | _=>none
def sI (T:Ty) (H:Heap) (t:TypeId) (x:AV) (lo hi:Option Int):k8:=
 let l:=lo.getD 0
 match x with
 | .d (.v (.string s))=>if rj T t TypeDesc.isStr then
   let h:=hi.getD s.size
   some (0<=l/\l<=h/\h<=s.size,.d (.v (.string (s.extract l.toNat h.toNat)))) else none
 | .d (.sl k els)=>match qq T t with
  | some s=>
   let h:=hi.getD els.length
   some (0<=l/\l<=h/\h<=els.length/\(l=0\/∀ el∈els,el.length=s),.d (.sl k ((els.drop l.toNat).take (h - l).toNat)))
  | none=>none
 | .own r off n=>match qq T t,H r with
  | some s,some (.sl _ sz _)=>
   let h:=hi.getD n
   some (0<=l/\l<=h/\h<=n/\sz=s,if l=n/\¬ l=0 then .d (.sl none []) else .own r (off+l.toNat) (h - l).toNat)
  | _,_=>none
 | _=>none
omit hg in
theorem Bp {isS:Bool} {len cap:Nat} {lo hi:Option Value} {l h:Int} (hl:(lo=none/\l=0)\/∃ k,lo=some (.int k l)) (hh:(hi=none/\h=len)\/∃ k,hi=some (.int k h)) (h0:0<=l) (h1:l<=h) (h2:h<=cap) :
  (Instr.sliceBounds isS len cap lo hi none).run P w = .ok (l.toNat,h.toNat,cap) w:=by
 have e1:0<=h:=aa
 rcases hh with⟨rfl,rfl⟩ | ⟨k,rfl⟩<;>rcases hl with⟨rfl,rfl⟩ | ⟨k',rfl⟩
 .simp[Instr.sliceBounds]
 .simp[Instr.sliceBounds,Instr.sliceBound,asIntOf,h0,h1]
 .simp[Instr.sliceBounds,Instr.sliceBound,asIntOf,e1,h2]
 .have e3:l<=max h 0:=aa
  simp[Instr.sliceBounds,Instr.sliceBound,asIntOf,e1,h2,h0,e3]
theorem agK (hs:eA w X μ H) {t:TypeId} {u:Value} {x z:AV} {c:Prop} {lo hi:Option Int} {Ej Ei:Option Value} (h:sI T H t x lo hi=some (c,z)) (hc:c) (hx:RV w X μ u x)
  (ye:(Ej=none/\lo=none)\/∃ k l,Ej=some (.int k l)/\lo=some l) (Ao:(Ei=none/\hi=none)\/∃ k l,Ei=some (.int k l)/\hi=some l) :
  ∃ r,(Instr.sliceAt t u Ej Ei none).run P w = .ok r w/\RV w X μ r z:=by
 have hL:(Ej=none/\lo.getD 0=0)\/∃ k,Ej=some (.int k (lo.getD 0)):=by
  rcases ye with⟨rfl,rfl⟩ | ⟨k,l,rfl,rfl⟩
  .exact .inl ⟨rfl,rfl⟩
  .exact .inr ⟨k,rfl⟩
 have hH:∀ n:Nat,(Ei=none/\hi.getD n=n)\/∃ k,Ei=some (.int k (hi.getD n)):=by
  intro n
  rcases Ao with⟨rfl,rfl⟩ | ⟨k,l,rfl,rfl⟩
  .exact .inl ⟨rfl,rfl⟩
  .exact .inr ⟨k,rfl⟩
 unfold sI at h;dsimp only at h;split at h
 .rename_i s;split at h
  .rename_i hd;obtain⟨ti,ht,hp⟩:=vK hd;obtain⟨rfl,rfl⟩:=eh h;obtain rfl:=hx.scalar;obtain⟨h0,h1,h2⟩:=hc;exact⟨_,by simp[Instr.sliceAt,hg.da ht,Gv hp,Instr.slice,Bp (P:=P) (w:=w) hL (hH s.size) h0 h1 h2],.d (.v _)⟩
  .cases h
 .rename_i k els;split at h
  .rename_i s he;obtain⟨rfl,rfl⟩:=eh h;obtain⟨h0,h1,h2,h3⟩:=hc;unfold qq at he;split at he
   .rename_i ti ht;split at he
    .rename_i e hd;obtain⟨te,cQ,rfl⟩:=AS.1 he;generalize lo.getD 0=l at *;have uH:=hH els.length;generalize hi.getD ↑els.length=hh at *;obtain⟨l,rfl⟩:=ajL h0;obtain⟨hh,rfl⟩:=ajL (show 0<=hh by omega)
     have e1:((hh:Int) - l).toNat=hh - l:=aa
     simp only[ajI,e1]
     rcases hx.data.rY with⟨rfl,rfl,hk⟩ | ⟨a,cap,rfl,hk,kC,hm,hr⟩
     .have l0:l=0:=by simp at h2;omega
      have Ke:hh=0:=by simp at h2;omega
      subst l0 Ke;have:=Bp (P:=P) (w:=w) (isS:=true) (cap:=0) hL uH h0 h1 ak;refine⟨.slice none 0 0,?_,.d (by simpa using .nil hk)⟩;simp at this;simp[Instr.sliceAt,hg.da ht,hd,Instr.slice,this,hg.sizeOf cQ]
     .have:=Bp (P:=P) (w:=w) (isS:=true) (cap:=cap) hL uH h0 h1 aa;refine⟨.slice (some (if cap=l then a else a.add (l * te.size))) (hh - l) (cap - l),?_,.d ?_⟩
      .simp[Instr.sliceAt,hg.da ht,hd,Instr.slice,this,hg.sizeOf cQ];split<;>rfl
      .by_cases hz:hh - l=0
       .rw[hz,List.take_zero];exact .empty hk (by unfold maxLen at *;omega)
       .rcases hr with rfl | ⟨b,off,sz,f,rfl,hX,bd,dA,fb,lV⟩
        .simp at h2;omega
        .have cA:¬ cap=l:=aa
         rw[if_neg cA,addr_add]
         have u3:l * te.size=l * sz:=by
          rcases h3 with h3 | h3
          .have:l=0:=aa
           simp[this]
          .have bf:els≠[]:=by intro e;simp[e]at h2;omega
           obtain⟨el,ba⟩:=List.exists_mem_of_ne_nil _ bf;rw[<- h3 el ba,dA el ba]
         rw[u3];refine .sl (sz:=sz) (f:=fun i j=>f (l+i) j) hk ?_ aa (by unfold maxLen at *;omega) hX ?_ bd aa ?_ ?_
         .simp;omega
         .intro el ba;exact dA el (aks (ajS ba))
         .intro i j hi hj;have:=fb (l+i) j aa hj;rw[aj7]at this;rw[<- this];congr 2;omega
         .intro i j el c ba hc;rw[ajU]at ba;split at ba
          .rw[akc]at ba;exact lV _ j el c ba hc
          .cases ba
    .cases he
   .cases he
  .cases h
 .rename_i r off n;split at h
  .rename_i s ty sz els he Fv;obtain⟨rfl,rfl⟩:=eh h;obtain⟨h0,h1,h2,rfl⟩:=hc;unfold qq at he;split at he
   .rename_i ti ht;split at he
    .rename_i e hd;obtain⟨te,cQ,rfl⟩:=AS.1 he;generalize lo.getD 0=l at *;have uH:=hH n;generalize hi.getD ↑n=hh at *;obtain⟨l,rfl⟩:=ajL h0;obtain⟨hh,rfl⟩:=ajL (show 0<=hh by omega)
     have e1:((hh:Int) - l).toNat=hh - l:=aa
     simp only[ajI,e1];obtain⟨m,hm,hu⟩:=hx.lF;obtain⟨m',cF,ok⟩:=hs.rows r _ Fv;rw[hm]at cF;obtain rfl:=AI cF
     have bd:m.sz=te.size:=by cases ok<;>assumption
     by_cases hz:(l:Int)=n/\¬ (l:Int)=0
     .rw[if_pos hz]
      rcases hu with⟨hb,rfl,rfl,rfl⟩ | ⟨b,hb,rfl,hle⟩
      .omega
      .have hmc:m.cap<=maxLen:=by
        cases ok with
        | nil bk _=>rw[hb]at bk;cases bk
        | sl bk _ _ _ _ cF=>exact cF
       have:=Bp (P:=P) (w:=w) (isS:=true) (cap:=m.cap - off) hL uH h0 h1 aa;refine⟨.slice (some (if m.cap - off=l then ⟨b,off * m.sz,none⟩ else (⟨b,off * m.sz,none⟩:Addr).add (l * te.size))) (hh - l) (m.cap - off - l),?_,?_⟩
       .simp[Instr.sliceAt,hg.da ht,hd,Instr.slice,this,hg.sizeOf cQ];split<;>rfl
       .rw[show hh - l=0 by omega];exact .d (.empty ak aa)
     rw[if_neg hz]
     have h3:(l:Int)=0\/(l:Int) < n:=aa
     rcases hu with⟨hb,rfl,rfl,rfl⟩ | ⟨b,hb,rfl,hle⟩
     .have l0:l=0:=aa
      have Ke:hh=0:=aa
      subst l0 Ke;have:=Bp (P:=P) (w:=w) (isS:=true) (cap:=0) hL uH h0 h1 ak;refine⟨.slice none 0 0,?_,.own hm (.inl ⟨hb,rfl,rfl,rfl⟩)⟩;simp[Instr.sliceAt,hg.da ht,hd,Instr.slice,hg.sizeOf cQ];simp at this;simp[this]
     .have:=Bp (P:=P) (w:=w) (isS:=true) (cap:=m.cap - off) hL uH h0 h1 aa;refine⟨.slice (some (if m.cap - off=l then ⟨b,off * m.sz,none⟩ else (⟨b,off * m.sz,none⟩:Addr).add (l * te.size))) (hh - l) (m.cap - off - l),?_,.own hm (.inr ⟨b,hb,?_,aa⟩)⟩
      .simp[Instr.sliceAt,hg.da ht,hd,Instr.slice,this,hg.sizeOf cQ];split<;>rfl
      .rw[addr_add,<- bd,<- aj7]
       have e3:m.cap - off - l=m.cap - (off+l):=aa
       rw[e3];split
       .have:l=0:=aa
        subst this;simp
       .rfl
    .cases he
   .cases he
  .cases h
 .cases h
end
end Go.Av
namespace Go.Av
def dY (μ:Mu) (r:Nat) (m:jE):Mu:=fun q=>if q=r then some m else μ q
def ef (r:Nat) (e:Env):Env:=fun i=>(e i).map (AV.kill r)
def eg (r:Nat) (H:Heap):Heap:=fun q=>(H q).map (Row.kill r)
theorem kz.same {w w':World} {Mv X:Nat->Prop} {μ aI:Mu} (h:Ev Mv w μ w' aI) (gm:∀ q m,μ q=some m->aI q=some m) {m:jE} (hb:∀ b,m.fk=some b->w'.heap[b]? = w.heap[b]?) {row:Row} (ok:kz w X μ m row):kz w' X aI m row:=by
 cases ok with
 | nil h1 h2=>exact .nil h1 h2
 | sl h1 h2 h3 h4 h5 h6 h7 h8 h9=>
  exact .sl h1 h2 ((hb _ h1).trans h3) h4 h5 h6 h7 h8 fun i j el c he hc=>let ⟨u,hu,hr⟩:=h9 i j el c he hc;⟨u,hu,hr.ev h⟩
 | box h1 h2 h3 h4 h5 h6 h7=>exact .box h1 h2 h3 ((hb _ h1).trans h4) h5 (fun j u c hu hc=>(h6 j u c hu hc).same h gm) h7
 | mp h1 h2 h3 h4=>exact .mp h1 ((hb _ h1).trans h2) h3 fun i e p he hp=>let ⟨a,b,c⟩:=h4 i e p he hp;⟨a,b,c.ev h⟩
 | it h1 h2 h3=>exact .it h1 ((hb _ h1).trans h2) (h3.ev h)
theorem kz.keep {w w':World} {Mv X:Nat->Prop} {μ aI:Mu} (h:Ev Mv w μ w' aI) {r:Nat} (gm:∀ q,q≠r->aI q=μ q) {m:jE} (hb:∀ b,m.fk=some b->w'.heap[b]? = w.heap[b]?) {row:Row} (ok:kz w X μ m row):kz w' X aI m (row.kill r):=by
 cases ok with
 | nil h1 h2=>exact .nil h1 h2
 | sl h1 h2 h3 h4 h5 h6 h7 h8 h9=>
  exact .sl h1 h2 ((hb _ h1).trans h3) h4 h5 h6 h7 h8 fun i j el c he hc=>let ⟨u,hu,hr⟩:=h9 i j el c he hc;⟨u,hu,hr.ev h⟩
 | box h1 h2 h3 h4 h5 h6 h7=>
  refine .box h1 rfl h3 ((hb _ h1).trans h4) (by simpa using h5) (fun j u c hu hc=>?_) (by simpa using h7);rw[ajK]at hc;obtain⟨c',eb,rfl⟩:=AS.1 hc;exact (h6 j u c' hu eb).keep h gm
 | mp h1 h2 h3 h4=>exact .mp h1 ((hb _ h1).trans h2) h3 fun i e p he hp=>let ⟨a,b,c⟩:=h4 i e p he hp;⟨a,b,c.ev h⟩
 | it h1 h2 h3=>exact .it h1 ((hb _ h1).trans h2) (h3.ev h)
section
variable {Mv X:Nat->Prop} {G:ay} {N:Fr} {w w':World} {μ:Mu} {a:Act} {σ:St}
theorem kz.mF {m:jE} {row:Row} {b:Nat} (ok:kz w X μ m row) (hb:m.fk=some b):b < w.heap.size:=by
 cases ok with
 | nil bk _=>rw[bk]at hb;cases hb
 | sl bk _ hh=>rw[bk]at hb;obtain rfl:=AI hb;exact (abi.1 hh).1
 | box bk _ _ hh=>rw[bk]at hb;obtain rfl:=AI hb;exact (abi.1 hh).1
 | mp bk hh=>rw[bk]at hb;obtain rfl:=AI hb;exact (abi.1 hh).1
 | it bk hh=>rw[bk]at hb;obtain rfl:=AI hb;exact (abi.1 hh).1
theorem eA.tK {H:Heap} (h:eA w X μ H) {r:Nat} (hr:H r=none):μ r=none:=by
 cases hm:μ r with
 | none=>rfl
 | some m=>obtain⟨row,ow⟩:=h.lq r m hm;rw[hr]at ow;cases ow
structure cN (w w':World):Prop where
 size:w.heap.size<=w'.heap.size
 os:w'.os=w.os
 tape:w'.tape=w.tape
 output:w'.output=w.output
 same:∀ b,b < w.heap.size->w'.heap[b]? = w.heap[b]?
theorem cN.refl (w:World):cN w w:=⟨ajJ _,rfl,rfl,rfl,fun _ _=>rfl⟩
theorem cN.alloc (w:World) (o:Obj):cN w (w.alloc o):=⟨ak,rfl,rfl,rfl,fun b hb=>by rw[<- World.alloc_eq];simp[Array.getElem?_push,Nat.ne_of_lt hb]⟩
theorem cN.drew (w:World):cN w w.drew:=⟨ajJ _,rfl,rfl,rfl,fun _ _=>rfl⟩
theorem In.qt (hi:In w X G μ N a σ) (hg:cN w w'):In w' X G μ N a σ/\Ev Mv w μ w' μ:=by
 have ev:Ev Mv w μ w' μ:=⟨hg.size,hg.os,hg.tape,hg.output,fun b hb hr=>⟨hg.same b hb,hr⟩,fun _ _ h _=>h⟩;refine⟨⟨⟨fun r row hr=>?_,hi.bq.lq,hi.bq.inj,hi.bq.frame,fun b hb=>akd (hi.bq.fits b hb) hg.size⟩,⟨hi.env.defers,hi.env.size,fun i x hx=>?_⟩,fun g x hx=>(hi.jf g x hx).ev ev⟩,ev⟩
 .obtain⟨m,hm,ok⟩:=hi.bq.rows r row hr;exact⟨m,hm,ok.same ev (fun _ _ h=>h) fun b hb=>hg.same b (ok.mF hb)⟩
 .obtain⟨u,hu,hr⟩:=hi.env.slot i x hx;exact⟨u,hu,hr.same ev fun _ _ h=>h⟩
theorem In.alloc (hi:In w X G μ N a σ) {d:Nat} (hd:σ.H d=none) (hg:cN w w') {m:jE} (hm:∀ b,m.fk=some b->w.heap.size<=b) {row:Row}
  (ok:Ev Mv w μ w' (dY μ d m)->kz w' X (dY μ d m) m row):In w' X G (dY μ d m) N a ⟨σ.env,aY σ.H d row⟩/\Ev Mv w μ w' (dY μ d m):=by
 have CW:=hi.bq.tK hd
 have gm:∀ q m',μ q=some m'->dY μ d m q=some m':=by
  intro q m' hq;unfold dY;split
  .rename_i e;subst e;rw[CW]at hq;cases hq
  .exact hq
 have ev:Ev Mv w μ w' (dY μ d m):=by
  refine⟨hg.size,hg.os,hg.tape,hg.output,fun b hb hr=>⟨hg.same b hb,?_⟩,fun _ _ h _=>gm _ _ h⟩;rintro⟨q,m',hq,bk⟩;unfold dY at hq;split at hq
  .obtain rfl:=AI hq;have:=hm b bk;omega
  .exact hr ⟨q,m',hq,bk⟩
 have ok:=ok ev;refine⟨⟨⟨fun r iR hr=>?_,fun r m' hr=>?_,fun r r' m1 m2 b h1 h2 e9 ea=>?_,fun r m' b hr hb=>?_,fun b hb=>akd (hi.bq.fits b hb) hg.size⟩,⟨hi.env.defers,hi.env.size,fun i x hx=>?_⟩,fun g x hx=>(hi.jf g x hx).ev ev⟩,ev⟩
 .dsimp only[aY]at hr;split at hr
  .rename_i e;subst e;obtain rfl:=AI hr;exact⟨m,by simp[dY],ok⟩
  .rename_i e;obtain⟨m',cF,yZ⟩:=hi.bq.rows r iR hr;exact⟨m',gm r m' cF,yZ.same ev gm fun b hb=>hg.same b (yZ.mF hb)⟩
 .unfold dY at hr;split at hr
  .rename_i e;exact⟨row,by simp[aY,e]⟩
  .rename_i e;obtain⟨iR,ow⟩:=hi.bq.lq r m' hr;exact⟨iR,by simp[aY,e,ow]⟩
 .have lt:∀ q m',μ q=some m'->m'.fk=some b->b < w.heap.size:=fun q m' hq hb=>hi.bq.mF ⟨q,m',hq,hb⟩;unfold dY at h1 h2;split at h1<;>split at h2
  .rename_i e1 e2;rw[e1,e2]
  .obtain rfl:=AI h1;have:=hm b e9;have:=lt r' m2 h2 ea;omega
  .obtain rfl:=AI h2;have:=hm b ea;have:=lt r m1 h1 e9;omega
  .exact hi.bq.inj r r' m1 m2 b h1 h2 e9 ea
 .unfold dY at hr;split at hr
  .obtain rfl:=AI hr;intro hX;have:=hm b hb;have:=hi.bq.fits b hX;omega
  .exact hi.bq.frame r m' b hr hb
 .obtain⟨u,hu,hr⟩:=hi.env.slot i x hx;exact⟨u,hu,hr.same ev gm⟩
theorem In.write (hi:In w X G μ N a σ) {r b:Nat} {m:jE} (hm:μ r=some m) (hb:m.fk=some b) (hs:w'.heap.size=w.heap.size) (ho:w'.os=w.os) (ht:w'.tape=w.tape) (td:w'.output=w.output)
  (tp:∀ k,k≠b->w'.heap[k]? = w.heap[k]?) {row:Row} (ok:Ev Mv w μ w' μ->kz w' X μ m row):In w' X G μ N a ⟨σ.env,aY σ.H r row⟩/\Ev Mv w μ w' μ:=by
 have ev:Ev Mv w μ w' μ:=⟨aa,ho,ht,td,fun k hk hr=>⟨tp k fun e=>hr ⟨r,m,hm,e ▸ hb⟩,hr⟩,fun _ _ h _=>h⟩;have ok:=ok ev;refine⟨⟨⟨fun q iR hq=>?_,fun q m' hq=>?_,hi.bq.inj,hi.bq.frame,fun b hb=>by have:=hi.bq.fits b hb;omega⟩,⟨hi.env.defers,hi.env.size,fun i x hx=>?_⟩,fun g x hx=>(hi.jf g x hx).ev ev⟩,ev⟩
 .dsimp only[aY]at hq;split at hq
  .rename_i e;subst e;obtain rfl:=AI hq;exact⟨m,hm,ok⟩
  .rename_i e;obtain⟨m',cF,yZ⟩:=hi.bq.rows q iR hq;exact⟨m',cF,yZ.same ev (fun _ _ h=>h) fun k hk=>tp k fun e'=>e (hi.bq.inj q r m' m k cF hm hk (e' ▸ hb))⟩
 .by_cases e:q=r
  .exact⟨row,by simp[aY,e]⟩
  .obtain⟨iR,ow⟩:=hi.bq.lq q m' hq;exact⟨iR,by simp[aY,e,ow]⟩
 .obtain⟨u,hu,hr⟩:=hi.env.slot i x hx;exact⟨u,hu,hr.same ev fun _ _ h=>h⟩
theorem In.move (hi:In w X G μ N a σ) {r:Nat} {m m':jE} (hm:μ r=some m) (fK:Mv r) (hs:w.heap.size<=w'.heap.size) (ho:w'.os=w.os) (ht:w'.tape=w.tape) (td:w'.output=w.output)
  (tp:∀ k,k < w.heap.size->m.fk≠some k->w'.heap[k]? = w.heap[k]?) (lU:∀ b,m'.fk=some b->w.heap.size<=b\/m.fk=some b) {row:Row}
  (ok:Ev Mv w μ w' (dY μ r m')->kz w' X (dY μ r m') m' row):In w' X G (dY μ r m') N a ⟨ef r σ.env,aY (eg r σ.H) r row⟩/\Ev Mv w μ w' (dY μ r m'):=by
 have gm:∀ q,q≠r->dY μ r m' q=μ q:=fun q hq=>by simp[dY,hq]
 have ev:Ev Mv w μ w' (dY μ r m'):=by
  refine⟨hs,ho,ht,td,fun b hb hr=>⟨tp b hb fun e=>hr ⟨r,m,hm,e⟩,?_⟩,fun q mq hq hn=>?_⟩
  .rintro⟨q,mq,hq,lx⟩;unfold dY at hq;split at hq
   .obtain rfl:=AI hq
    rcases lU b lx with h | h
    .omega
    .exact hr ⟨r,m,hm,h⟩
   .exact hr ⟨q,mq,hq,lx⟩
  .have:q≠r:=fun e=>hn (e ▸ fK);rw[gm q this];exact hq
 have ok:=ok ev;refine⟨⟨⟨fun q iR hq=>?_,fun q mq hq=>?_,fun q q' m1 m2 b h1 h2 e9 ea=>?_,fun q mq b hq hb=>?_,fun b hb=>akd (hi.bq.fits b hb) hs⟩,⟨hi.env.defers,hi.env.size,fun i x hx=>?_⟩,fun g x hx=>(hi.jf g x hx).ev ev⟩,ev⟩
 .dsimp only[aY]at hq;split at hq
  .rename_i e;subst e;obtain rfl:=AI hq;exact⟨m',by simp[dY],ok⟩
  .rename_i e;unfold eg at hq;obtain⟨pn,h0,rfl⟩:=AS.1 hq;obtain⟨mq,Au,yZ⟩:=hi.bq.rows q pn h0;exact⟨mq,(gm q e).trans Au,yZ.keep ev gm fun k hk=>tp k (yZ.mF hk) fun e'=>e (hi.bq.inj q r mq m k Au hm hk e')⟩
 .by_cases e:q=r
  .exact⟨row,by simp[aY,e]⟩
  .rw[gm q e]at hq;obtain⟨iR,ow⟩:=hi.bq.lq q mq hq;exact⟨iR.kill r,by simp[aY,e,eg,ow]⟩
 .have lt:∀ q mq,μ q=some mq->mq.fk=some b->b < w.heap.size:=fun q mq hq hb=>hi.bq.mF ⟨q,mq,hq,hb⟩;by_cases e1:q=r<;>by_cases e2:q'=r
  .rw[e1,e2]
  .rw[gm q' e2]at h2;simp only[dY,e1,if_true,IS]at h1;subst h1
   rcases lU b e9 with h | h
   .have:=lt q' m2 h2 ea;omega
   .exact absurd (hi.bq.inj q' r m2 m b h2 hm ea h) e2
  .rw[gm q e1]at h1;simp only[dY,e2,if_true,IS]at h2;subst h2
   rcases lU b ea with h | h
   .have:=lt q m1 h1 e9;omega
   .exact absurd (hi.bq.inj q r m1 m b h1 hm e9 h) e1
  .rw[gm q e1]at h1;rw[gm q' e2]at h2;exact hi.bq.inj q q' m1 m2 b h1 h2 e9 ea
 .by_cases e:q=r
  .simp only[dY,e,if_true,IS]at hq;subst hq
   rcases lU b hb with h | h
   .intro hX;have:=hi.bq.fits b hX;omega
   .exact hi.bq.frame r m b hm h
  .rw[gm q e]at hq;exact hi.bq.frame q mq b hq hb
 .unfold ef at hx;obtain⟨x0,h0,rfl⟩:=AS.1 hx;obtain⟨u,hu,hr⟩:=hi.env.slot i x0 h0;exact⟨u,hu,hr.keep ev gm⟩
theorem G8 (hs:eA w X μ σ.H) {r off n ty sz:Nat} {els:List (List D)} (hH:σ.H r=some (.sl ty sz els)) (hle:off+n<=els.length) {u:Value} (hu:RV w X μ u (.own r off n)) :
  ∃ k,RD w (XX X (fun q=>if q=r then none else μ q)) u (.sl k ((els.drop off).take n))/\(0 < n->k=some true)/\k≠some false:=by
 obtain⟨m,hm,hh⟩:=hu.lF;obtain⟨m',cF,ok⟩:=hs.rows r _ hH;rw[hm]at cF;obtain rfl:=AI cF
 have hX:∀ b,m.fk=some b->¬ XX X (fun q=>if q=r then none else μ q) b:=by
  rintro b hb (h | ⟨q,mq,hq,lx⟩)
  .exact hs.frame r m b hm hb h
  .dsimp only at hq;split at hq
   .cases hq
   .rename_i e;exact e (hs.inj q r mq m b hq hm lx hb)
 rcases hh with⟨hb,rfl,rfl,rfl⟩ | ⟨b,hb,rfl,kC⟩
 .exact⟨none,by simpa using .nil ak,aa,ak⟩
 .cases ok with
  | nil bk _=>rw[bk]at hb;cases hb
  | sl bk bd hh cO hn gK hl hz hr=>
   rename_i b' cur;rw[hb]at bk;obtain rfl:=AI bk;subst bd;by_cases h0:n=0
   .subst h0;exact⟨some true,by rw[List.take_zero];exact .empty ak (by unfold maxLen at *;omega),aa,ak⟩
   .refine⟨some true,.sl (sz:=m.sz) (f:=fun i j=>cur.getD ((off+i) * m.sz+j) undef) ak (by simp;omega) aa (by unfold maxLen at *;omega) (hX b hb) (fun el ba=>hl el (aks (ajS ba))) hz aa ?_ ?_,ak,ak⟩
    .intro i j hi hj
     have aH:(off+i) * m.sz+j < cur.size:=by
      rw[cO];have:(off+i+1) * m.sz<=m.cap * m.sz:=aj0 _ aa;rw[aj7]at this;omega
     have e1:off * m.sz+(i * m.sz+j)=(off+i) * m.sz+j:=by rw[aj7];omega
     rw[e1,cell_of_row w b _ cur ty (0,0) hh];simp[ajF,aH]
    .intro i j el c ba hc;rw[ajU]at ba;split at ba
     .rw[akc]at ba;obtain⟨u',ir,bY⟩:=hr (off+i) j el c ba hc;rw[ajF,ir];refine bY.mono (ajJ _) fun b hb Af=>⟨rfl,?_⟩;rintro (h | ⟨q,mq,hq,lx⟩)
      .exact Af (.inl h)
      .dsimp only at hq;split at hq
       .cases hq
       .exact Af (.inr ⟨q,mq,hq,lx⟩)
     .cases ba
end
end Go.Av
namespace Go.Av
def D.one:D->Bool
 | .v x=>x.oneCell'
 | .agg _ | .bz _=>false
 | _=>true
def AV.one:AV->Bool
 | .d x=>x.one
 | .own _ _ _ | .ref _ _ _ | .cf _ _ | .fn _ _ | .mp _=>true
 | _=>false
section
variable {w:World} {X:Nat->Prop} {μ:Mu}
theorem RD.Bg {u:Value} {x:D} (h:RD w X u x) (h1:x.one=true):u.oneCell'=true:=by
 cases h<;>first | rfl | exact h1 | cases h1
theorem RV.Bg {u:Value} {x:AV} (h:RV w X μ u x) (h1:x.one=true):u.oneCell'=true:=by
 cases h with
 | d h=>exact h.Bg h1
 | own _ h=>rcases h with⟨_,rfl,_⟩ | ⟨b,_,rfl,_⟩<;>rfl
 | ref _ _=>rfl
 | cf _=>rfl
 | fn _ _=>rfl
 | mp _ _=>rfl
 | _=>cases h1
theorem cells_one {u:Value} (h:u.oneCell'=true):u.cells = #[u]:=by cases u<;>first | rfl | cases h
structure BH (w:World) (X:Nat->Prop) (μ:Mu) (arr:Array Value) (cells:List AV):Prop where
 size:arr.size=cells.length
 at_:∀ (j:Nat) (u:Value) (c:AV),arr[j]? = some u->cells[j]? = some c->RV w X μ u c
def jD:AV->Option (List AV)
 | .d (.agg cs)=>some (cs.map .d)
 | .agg cs=>some cs
 | x=>if x.one then some [x] else none
theorem Bz {u:Value} {x:AV} {cs:List AV} (hx:RV w X μ u x) (h:jD x=some cs):BH w X μ u.cells cs:=by
 unfold jD at h;split at h
 .obtain rfl:=AI h;obtain⟨arr,rfl,hn,hr⟩:=hx.data.sN;exact⟨by simpa[Value.cells]using hn,RV.Bd hr⟩
 .obtain rfl:=AI h;obtain⟨arr,rfl,hn,hr⟩:=hx.sN;exact⟨hn,hr⟩
 .split at h
  .rename_i h1;obtain rfl:=AI h;rw[cells_one (hx.Bg h1)];refine⟨rfl,fun j v c hv hc=>?_⟩
   match j,hv,hc with
   | 0,hv,hc=>simp at hv hc;subst hv hc;exact hx
   | j+1,hv,hc=>simp at hc
  .cases h
def gg:Value->List D
 | .agg arr=>arr.toList.map uw
 | v=>[uw v]
theorem zo (v:Value):v.cells.size=(gg v).length/\∀ (j:Nat) (u:Value) (c:D),v.cells[j]? = some u->(gg v)[j]? = some c->RD w X u c:=by
 cases v with
 | agg arr=>
  refine⟨by simp[Value.cells,gg],fun j u c hu hc=>?_⟩;simp only[gg,ajK]at hc;obtain⟨c',eb,rfl⟩:=AS.1 hc;rw[ajT]at eb;simp only[Value.cells]at hu;rw[hu]at eb;obtain rfl:=AI eb;exact zE _
 | _=>
  refine⟨rfl,fun j u c hu hc=>?_⟩
  match j,hu,hc with
  | 0,hu,hc=>simp[Value.cells,gg]at hu hc;subst hu hc;exact zE _
  | j+1,hu,hc=>simp[gg]at hc
end
def nQ (Mv X:Nat->Prop) (G:ay) (N:Fr) (w:World) (μ:Mu) (a:Act) (run:Result Value) (x:AV) (aT:St):Prop:=
 ∃ v w' aI,run = .ok v w'/\In w' X G aI N a aT/\RV w' X aI v x/\Ev Mv w μ w' aI
section
variable {P:Program} {T:Ty} {Mv X:Nat->Prop} {G:ay} {N:Fr} {w:World} {μ:Mu} {a:Act} {σ:St}
theorem Sy (hi:In w X G μ N a σ) {d:Nat} (hd:σ.H d=none) (t:TypeId) {cur:Array Value} {cells:List AV} (hp:BH w X μ cur cells) :
  nQ Mv X G N w μ a (.ok (.pointer (some ⟨w.heap.size,0,none⟩)) (w.alloc (.cells cur t))) (.ref d 0 0) ⟨σ.env,aY σ.H d (.box t cells)⟩:=by
 have CW:=hi.bq.tK hd
 have hm:dY μ d ⟨some w.heap.size,cells.length,1⟩ d=some ⟨some w.heap.size,cells.length,1⟩:=by simp[dY]
 obtain⟨h1,h2⟩:=hi.alloc (Mv:=Mv) hd (cN.alloc w (.cells cur t)) (m:=⟨some w.heap.size,cells.length,1⟩) (fun b hb=>by simp at hb;omega) (row:=.box t cells) fun ev=>
  .box rfl rfl (show 1<=maxLen by decide) (by simpa using heap_alloc_new w (.cells cur t)) (Nat.le_of_eq hp.size.symm) (hx:=fun _=>hp.size.symm) fun j u c hu hc=>(hp.at_ j u c hu hc).same ev fun q m' hq=>by
   unfold dY;split
   .rename_i e;subst e;rw[CW]at hq;cases hq
   .exact hq
 refine⟨_,_,_,rfl,h1,?_,h2⟩;have:=RV.ref (w:=w.alloc (.cells cur t)) (X:=X) (μ:=dY μ d ⟨some w.heap.size,cells.length,1⟩) (e:=0) (j:=0) (b:=w.heap.size) hm rfl;simpa using this
structure VD (w:World) (X:Nat->Prop) (cur:Array Value) (sz:Nat) (els:List (List D)):Prop where
 len:∀ el∈els,el.length=sz
 at_:∀ (i j:Nat) (el:List D) (c:D),els[i]? = some el->el[j]? = some c->∃ u,cur[i * sz+j]? = some u/\RD w X u c
theorem Sz (hi:In w X G μ N a σ) {d:Nat} (hd:σ.H d=none) (t:TypeId) {cur:Array Value} {sz n cap:Nat} {els:List (List D)} (he:VD w (XX X μ) cur sz els) (hz:0 < sz) (hc:cur.size=cap * sz) (hn:els.length=n) (kC:n<=cap) (aax:cap<=maxLen) :
  nQ Mv X G N w μ a (.ok (.slice (some ⟨w.heap.size,0,none⟩) n cap) (w.alloc (.cells cur t))) (.own d 0 n) ⟨σ.env,aY σ.H d (.sl t sz els)⟩:=by
 have hm:dY μ d ⟨some w.heap.size,sz,cap⟩ d=some ⟨some w.heap.size,sz,cap⟩:=by simp[dY]
 obtain⟨h1,h2⟩:=hi.alloc (Mv:=Mv) hd (cN.alloc w (.cells cur t)) (m:=⟨some w.heap.size,sz,cap⟩) (fun b hb=>by simp at hb;omega) (row:=.sl t sz els) fun ev=>
  .sl rfl rfl (by simpa using heap_alloc_new w (.cells cur t)) hc (by simp;omega) aax he.len hz fun i j el c h1 h2=>let ⟨u,hu,hr⟩:=he.at_ i j el c h1 h2;⟨u,hu,hr.ev ev⟩
 exact⟨_,_,_,rfl,h1,.own hm (.inr ⟨w.heap.size,rfl,ak,by simpa using kC⟩),h2⟩
theorem VN (hg:Good P T) (hi:In w X G μ N a σ) {d:Nat} (hd:σ.H d=none) {t:TypeId} {ti:TI} (ht:T t=some ti) :
  nQ Mv X G N w μ a ((Instr.alloc t true (.tuple #[])).run P w) (.ref d 0 0) ⟨σ.env,aY σ.H d (.box t ((gg ti.zero).map .d))⟩:=by
 have:=Sy (Mv:=Mv) hi hd t (cur:=ti.zero.cells) (cells:=(gg ti.zero).map .d) ⟨by simpa using (zo (w:=w) (X:=X) ti.zero).1,RV.Bd (zo ti.zero).2⟩;simpa[Instr.alloc,hg.zero ht,newVar,newRow]using this
theorem WH (hi:In w X G μ N a σ) {d:Nat} (hd:σ.H d=none) {t:TypeId} {u:Value} {x:AV} {cs:List AV} (hx:RV w X μ u x) (hc:jD x=some cs) :
  nQ Mv X G N w μ a ((Instr.box t u).run P w) (.ref d 0 0) ⟨σ.env,aY σ.H d (.box t cs)⟩:=by
 have:=Sy (Mv:=Mv) hi hd t (Bz hx hc);simpa[Instr.box,newVar,newRow]using this
theorem Bq {α:Type} (l cs:List α) (j i:Nat) (hj:j+cs.length<=l.length):(l.take j ++ cs ++ l.drop (j+cs.length))[i]? = if j<=i/\i < j+cs.length then cs[i - j]? else l[i]?:=by
 rw[akt,ak2];simp only[ajW]
 have e1:min j l.length=j:=aa
 rw[e1];split
 .rename_i h;rw[if_neg aa,ajU,if_pos h]
 .rename_i h;rw[ak2];split
  .rename_i h2;rw[if_pos aa]
  .rename_i h2;rw[if_neg aa,akc];congr 1;omega
theorem Ua {ti:TI} {t:TypeId} (hg:Good P T) (ht:T t=some ti) {b o:Nat} {ty:TypeId} {cur:Array Value} {u:Value} (hh:w.heap[b]? = some (.cells cur ty (0,0))) (hs:u.cells.size=ti.size) (kD:o+ti.size<=cur.size) (h1:∀ v∈u.cells.toList,v.oneCell'=true) :
  (storeVar t ⟨b,o,none⟩ u).run P w = .ok () (w.setRow b (cur.toList.take o ++ u.cells.toList ++ cur.toList.drop (o+u.cells.toList.length)).toArray):=by
 have:=run_storeCells_at P b o ty u.cells.toList 0 cur w hh (by simp;omega) h1;simp only[akD]at this;simp[storeVar,hg.sizeOf ht,hs,this]
def HA (T:Ty) (t:TypeId) (cells:List AV) (j:Nat) (x:AV):Option (Prop×List AV):=match T t,jD x with
 | some ti,some cs=>some (cs.length=ti.size/\j+cs.length<=cells.length/\cs.all AV.one=true,cells.take j ++ cs ++ cells.drop (j+cs.length))
 | _,_=>none
theorem agX (hg:Good P T) (hi:In w X G μ N a σ) {t ty:TypeId} {r j:Nat} {cells vI:List AV} {ua u:Value} {x:AV} {c:Prop} (hH:σ.H r=some (.box ty cells)) (h:HA T t cells j x=some (c,vI)) (hc:c)
  (ha:RV w X μ ua (.ref r 0 j)) (hx:RV w X μ u x):∃ w',(Instr.storeAt t ua u).run P w = .ok () w'/\In w' X G μ N a ⟨σ.env,aY σ.H r (.box ty vI)⟩/\Ev Mv w μ w' μ:=by
 unfold HA at h;split at h
 .rename_i ti cs ht cO;obtain⟨rfl,rfl⟩:=eh h;obtain⟨h1,h2,h3⟩:=hc;obtain⟨m,b,hm,hb,rfl⟩:=ha.lG;obtain⟨m',cF,ok⟩:=hi.bq.rows r _ hH;rw[hm]at cF;obtain rfl:=AI cF;have hp:=Bz hx cO
  cases ok with
  | box bk bd kC hh hn hr wJ=>
   rename_i b' cur;rw[hb]at bk;obtain rfl:=AI bk
   have kY:∀ v∈u.cells.toList,v.oneCell'=true:=by
    intro v hv;obtain⟨i,fc,rfl⟩:=aj1.1 hv
    have gJ:i < cs.length:=by rw[<- hp.size];simpa using fc
    refine (hp.at_ i _ cs[i] (by rw[<- ajT,AT fc]) (by simp[gJ])).Bg ?_;exact akz.1 h3 _ (By gJ)
   have dw:=Ua (P:=P) hg ht (o:=j) hh (by rw[hp.size,h1]) aa kY
   have rH:u.cells.toList.length=cs.length:=by simpa using hp.size
   obtain⟨aO,aW⟩:=hi.write (Mv:=Mv) (w':=w.setRow b (cur.toList.take j ++ u.cells.toList ++ cur.toList.drop (j+u.cells.toList.length)).toArray) hm hb ak rfl rfl rfl (fun k hk=>setRow_other w b k _ hk)
    (row:=.box ty (cells.take j ++ cs ++ cells.drop (j+cs.length))) fun ev=>by
     refine .box hb rfl kC (setRow_heap w b cur _ ty _ hh) ?_ (hx:=fun e=>?_) fun i v c hv hc=>?_
     .simp[rH];omega
     rotate_left
     .have:=wJ e;simp[rH];omega
     .rw[Bq _ _ _ _ h2]at hc;rw[<- ajT]at hv;simp only at hv;rw[Bq _ _ _ _ (by rw[rH];simp;omega),rH]at hv;refine RV.same ev (fun _ _ h=>h) ?_;split at hv
      .rename_i pL;rw[if_pos pL]at hc;exact hp.at_ _ v c (by simpa using hv) hc
      .rename_i pL;rw[if_neg pL]at hc;exact hr i v c (by simpa using hv) hc
   refine⟨_,?_,aO,aW⟩;simp only[ak5,akg];simpa[Instr.storeAt,Instr.sureAddr]using dw
 .cases h
def HB (T:Ty) (t:TypeId) (sz:Nat) (els:List (List D)) (e j:Nat) (x:AV):Option (Prop×List (List D)):=match T t,(jD x).bind l5 with
 | some ti,some cs=>some (cs.length=ti.size/\e < els.length/\j+cs.length<=sz/\cs.all D.one=true,els.set e ((els.getD e []).take j ++ cs ++ (els.getD e []).drop (j+cs.length)))
 | _,_=>none
theorem agY (hg:Good P T) (hi:In w X G μ N a σ) {t ty:TypeId} {r e j sz:Nat} {els oQ:List (List D)} {ua u:Value} {x:AV} {c:Prop} (hH:σ.H r=some (.sl ty sz els)) (h:HB T t sz els e j x=some (c,oQ)) (hc:c)
  (ha:RV w X μ ua (.ref r e j)) (hx:RV w X μ u x):∃ w',(Instr.storeAt t ua u).run P w = .ok () w'/\In w' X G μ N a ⟨σ.env,aY σ.H r (.sl ty sz oQ)⟩/\Ev Mv w μ w' μ:=by
 unfold HB at h;split at h
 .rename_i ti ds ht cO;obtain⟨cs,cO,mM⟩:=ajY.1 cO;obtain⟨rfl,rfl⟩:=eh h;obtain⟨h1,h2,h3,h4⟩:=hc;obtain⟨m,b,hm,hb,rfl⟩:=ha.lG;obtain⟨m',cF,ok⟩:=hi.bq.rows r _ hH;rw[hm]at cF;obtain rfl:=AI cF;have hp:=Bz hx cO;rw[re mM]at hp
  have eY:u.cells.size=ds.length:=by simpa using hp.size
  have F9:∀ (i:Nat) (v:Value) (c:D),u.cells[i]? = some v->ds[i]? = some c->RD w (XX X μ) v c:=fun i v c hv hc=>(hp.at_ i v (.d c) hv (by rw[ajK,hc];rfl)).data
  cases ok with
  | nil bk _=>rw[hb]at bk;cases bk
  | sl bk bd hh JR hn gK hl hz hr=>
   rename_i b' cur;rw[hb]at bk;obtain rfl:=AI bk;subst bd
   have kY:∀ v∈u.cells.toList,v.oneCell'=true:=by
    intro v hv;obtain⟨i,fc,rfl⟩:=aj1.1 hv
    have gJ:i < ds.length:=by rw[<- eY];simpa using fc
    refine (F9 i _ ds[i] (by rw[<- ajT,AT fc]) (by simp[gJ])).Bg ?_;exact akz.1 h4 _ (By gJ)
   have ba:els.getD e []=els[e]:=by simp[OF,h2]
   have hlen:(els[e]).length=m.sz:=hl _ (By h2);have hE:(e+1) * m.sz<=m.cap * m.sz:=aj0 _ aa;rw[aj7]at hE;have dw:=Ua (P:=P) hg ht (o:=e * m.sz+j) hh (by rw[eY,h1]) (by rw[JR];omega) kY
   have rH:u.cells.toList.length=ds.length:=by simpa using eY
   rw[ba]
   obtain⟨aO,aW⟩:=hi.write (Mv:=Mv) (w':=w.setRow b (cur.toList.take (e * m.sz+j) ++ u.cells.toList ++ cur.toList.drop (e * m.sz+j+u.cells.toList.length)).toArray) hm hb ak rfl rfl rfl (fun k hk=>setRow_other w b k _ hk)
    (row:=.sl ty m.sz (els.set e ((els[e]).take j ++ ds ++ (els[e]).drop (j+ds.length)))) fun ev=>by
     refine .sl hb rfl (setRow_heap w b cur _ ty _ hh) ?_ (by simpa using hn) gK ?_ hz ?_
     .simp[rH,JR];omega
     .intro el uX
      rcases List.mem_or_eq_of_mem_set uX with h | rfl
      .exact hl el h
      .simp[hlen];omega
     .intro i k el c fc hk
      have key:∀ idx,((cur.toList.take (e * m.sz+j) ++ u.cells.toList ++ cur.toList.drop (e * m.sz+j+u.cells.toList.length)).toArray)[idx]? = if e * m.sz+j<=idx/\idx < e * m.sz+j+ds.length then u.cells[idx - (e * m.sz+j)]? else cur[idx]?:=by
       intro idx;rw[<- ajT];simp only;rw[Bq _ _ _ _ (by rw[rH];simp[JR];omega),rH];simp
      rw[key]
      have dB:k < m.sz:=by
       have cF:el∈els.set e ((els[e]).take j ++ ds ++ (els[e]).drop (j+ds.length)):=akn fc
       have:el.length=m.sz:=by
        rcases List.mem_or_eq_of_mem_set cF with h | rfl
        .exact hl el h
        .simp[hlen];omega
       have:=(BY.1 hk).1;omega
      rw[List.getElem?_set]at fc;split at fc
      .rename_i JZ;subst JZ
       try rw[if_pos h2]at fc
       obtain rfl:=AI fc;rw[Bq _ _ _ _ aa]at hk;split at hk
       .rename_i ya;rw[if_pos aa]
        have e1:e * m.sz+k - (e * m.sz+j)=k - j:=aa
        rw[e1]
        have aH:k - j < u.cells.size:=aa
        exact⟨u.cells[k - j],by simp[aH],(F9 (k - j) _ c (by simp[aH]) hk).ev ev⟩
       .rename_i ya;rw[if_neg aa];obtain⟨v,hv,bY⟩:=hr e k _ c (AT h2) hk;exact⟨v,hv,bY.ev ev⟩
      .rename_i JZ
       have bf:¬ (e * m.sz+j<=i * m.sz+k/\i * m.sz+k < e * m.sz+j+ds.length):=by
        rintro⟨g1,g2⟩
        rcases Nat.lt_or_gt_of_ne JZ with h | h
        .have:(e+1) * m.sz<=i * m.sz:=aj0 _ h;rw[aj7]at this;omega
        .have:(i+1) * m.sz<=e * m.sz:=aj0 _ h;rw[aj7]at this;omega
       rw[if_neg bf];obtain⟨v,hv,bY⟩:=hr i k el c fc hk;exact⟨v,hv,bY.ev ev⟩
   refine⟨_,?_,aO,aW⟩;simpa[Instr.storeAt,Instr.sureAddr]using dw
 .cases h
def lZ (ti:TI) (n:Nat):List (List D):=List.replicate n (gg ti.zero)
theorem acv (hg:Good P T) (hi:In w X G μ N a σ) {d:Nat} (hd:σ.H d=none) {t e:TypeId} {tt te:TI} (du:T t=some tt) (dG:tt.desc = .slice e) (cQ:T e=some te) {k1 k2:IntKind} {l c:Int} (h0:0<=l) (h1:l<=c) (h2:te.bytes * c<=281474976710656) (h3:c<=9223372036854775807)
  (hz:0 < te.size) (rL:(gg te.zero).length=te.size) :
  nQ Mv X G N w μ a ((Instr.makeSlice t (.int k1 l) (.int k2 c)).run P w) (.own d 0 l.toNat) ⟨σ.env,aY σ.H d (.sl e te.size (lZ te l.toNat))⟩:=by
 obtain⟨hu,i0,lz,eH,ke,lY,_⟩:=hg e te cQ;have ht:=(hg t tt du).1;rw[dG]at ht;rw[run_make (P:=P) w t e i0 te.zero ht lz lY k1 k2 l c h0 h1 (by rw[ke];exact h2) h3,eH];refine Sz (Mv:=Mv) hi hd e ⟨fun el ba=>?_,fun i j el d ba hd=>?_⟩ hz (size_madeCells _ _) (by simp[lZ]) aa (by unfold maxLen;omega)
 .rw[List.eq_of_mem_replicate ba,rL]
 .unfold lZ at ba;rw[List.getElem?_replicate]at ba;split at ba
  .rename_i aH;obtain rfl:=AI ba
   have hj:j < te.size:=by rw[<- rL];exact (BY.1 hd).1
   have sA:=zo (w:=w) (X:=XX X μ) te.zero
   have cO:te.zero.cells.size=te.size:=by rw[sA.1,rL]
   have CH:j < te.zero.cells.size:=aa
   refine⟨te.zero.cells[j],?_,sA.2 j _ d (by simp[CH]) hd⟩
   have hb:i * te.size+j < c.toNat * te.size:=by
    have:(i+1) * te.size<=c.toNat * te.size:=aj0 _ aa;rw[aj7]at this;omega
   have pP:(i * te.size+j) % te.size=j:=by rw[Nat.mul_comm,Nat.mul_add_mod,Nat.mod_eq_of_lt hj]
   simp[madeCells,hb,cO,pP];exact getElem!_pos te.zero.cells j CH
  .cases ba
end
end Go.Av
namespace Go.Av
section
variable {P:Program} {T:Ty} {Mv X:Nat->Prop} {G:ay} {N:Fr} {w:World} {μ:Mu} {a:Act} {σ:St}
def vH (sz:Nat):Nat->List (Nat×AV)->Option (List (List D))
 | _,[]=>some []
 | k,(i,x) :: rest=>if i=k then match (jD x).bind l5 with
   | some ds=>if ds.length=sz then (vH sz (k+1) rest).map (ds :: ·) else none
   | none=>none
  else none
theorem Tg (vs:List Value):∀ (n off:Nat) (arr:Array Value) (k:Nat),off+n+vs.length<=arr.size->
  ((vs.zipIdx n).foldl (fun cs (p:Value×Nat)=>cs.setIfInBounds (off+p.2) p.1) arr)[k]? = if off+n<=k/\k < off+n+vs.length then vs[k - (off+n)]? else arr[k]?:=by
 induction vs with
 | nil=>
  intro n off arr k _;simp only[List.zipIdx_nil,List.foldl_nil,akA];rw[if_neg aa]
 | cons v vs ih=>
  intro n off arr k hk;simp only[ajP]at hk;rw[List.zipIdx_cons,List.foldl_cons,ih (n+1) off _ k (by simp;omega)];simp only[ajP];by_cases h1:k=off+n
  .subst h1;rw[if_neg aa,if_pos aa];simp[Array.getElem?_setIfInBounds,show off+n < arr.size by omega]
  .by_cases h2:off+(n+1)<=k/\k < off+(n+1)+vs.length
   .rw[if_pos h2,if_pos aa]
    have:k - (off+n)=(k - (off+(n+1)))+1:=aa
    rw[this];rfl
   .rw[if_neg h2,if_neg aa];exact akU aa
theorem Th (vs:List Value):∀ (n off:Nat) (arr:Array Value),((vs.zipIdx n).foldl (fun cs (p:Value×Nat)=>cs.setIfInBounds (off+p.2) p.1) arr).size=arr.size:=by
 induction vs with
 | nil=>intros;rfl
 | cons v vs ih=>intro n off arr;rw[List.zipIdx_cons,List.foldl_cons,ih];simp
theorem O8 {sz:Nat}:∀ (ps:List (Nat×AV)) (vs:List (Nat×Value)) (k:Nat) (els:List (List D)) (arr:Array Value),vH sz k ps=some els->vs.map (·.1)=ps.map (·.1)->
  (∀ (i:Nat) (p:Nat×AV) (v:Nat×Value),ps[i]? = some p->vs[i]? = some v->RV w X μ v.2 p.2)->(k+ps.length) * sz<=arr.size->
  ∃ lk,Instr.fill (fun i=>some (i * sz,sz)) arr vs=some lk/\lk.size=arr.size/\(∀ idx,idx < k * sz->lk[idx]? = arr[idx]?)/\els.length=ps.length/\(∀ el∈els,el.length=sz)/\
   ∀ (i j:Nat) (el:List D) (c:D),els[i]? = some el->el[j]? = some c->∃ u,lk[(k+i) * sz+j]? = some u/\RD w (XX X μ) u c:=by
 intro ps
 induction ps with
 | nil=>
  intro vs k els arr h hv _ _
  cases vs with
  | cons _ _=>simp at hv
  | nil=>
   simp only[vH,IS]at h;subst h;exact⟨arr,rfl,rfl,fun _ _=>rfl,rfl,ak,ak⟩
 | cons p ps ih=>
  intro vs k els arr h hv hr hs;obtain⟨i,x⟩:=p
  cases vs with
  | nil=>simp at hv
  | cons v vs=>
   obtain⟨i',u⟩:=v;simp only[aj6,alh]at hv;obtain⟨rfl,hv⟩:=hv;simp only[vH]at h;split at h
   case isFalse=>cases h
   rename_i CF;subst CF;split at h
   case h_2=>cases h
   rename_i ds mM;split at h
   case isFalse=>cases h
   rename_i hlen;obtain⟨oQ,xX,rfl⟩:=AS.1 h;obtain⟨cs,cO,dA⟩:=ajY.1 mM;have hp:=Bz (hr 0 (i',x) (i',u) rfl rfl) cO;rw[re dA]at hp
   have eY:u.cells.size=sz:=by have:=hp.size;simp at this;omega
   have F9:∀ (j:Nat) (v:Value) (c:D),u.cells[j]? = some v->ds[j]? = some c->RD w (XX X μ) v c:=fun j v c hv hc=>(hp.at_ j v (.d c) hv (by rw[ajK,hc];rfl)).data
   have kD:i' * sz+sz<=arr.size:=by
    simp only[ajP]at hs;have:(i'+1) * sz<=(i'+(ps.length+1)) * sz:=aj0 _ aa;rw[aj7]at this;omega
   let lN:=(u.cells.zipIdx.foldl (fun cs (p:Value×Nat)=>cs.setIfInBounds (i' * sz+p.2) p.1) arr)
   have Cv:lN=((u.cells.toList.zipIdx 0).foldl (fun cs (p:Value×Nat)=>cs.setIfInBounds (i' * sz+p.2) p.1) arr):=by
    show Array.foldl _ _ _=_;rw[<- Array.foldl_toList,Array.toList_zipIdx]
   have Gf:lN.size=arr.size:=by rw[Cv];exact Th _ _ _ _
   have FR:∀ k,lN[k]? = if i' * sz<=k/\k < i' * sz+sz then u.cells[k - i' * sz]? else arr[k]?:=by
    intro k;rw[Cv,Tg _ 0 _ _ _ (by simp[eY];omega)];simp[eY]
   obtain⟨lk,hf,wD,hold,hlen',JF,lU⟩:=ih vs (i'+1) oQ lN xX hv (fun i p v h1 h2=>hr (i+1) p v (by simpa using h1) (by simpa using h2)) (by rw[Gf];simp only[ajP]at hs;rw[show i'+1+ps.length=i'+(ps.length+1) by omega];exact hs);refine⟨lk,?_,wD.trans Gf,fun idx FU=>?_,by simp[hlen'],fun el ba=>?_,fun i j el c hi hj=>?_⟩
   .simp only[Instr.fill]
    have:¬ (u.cells.size≠sz\/i' * sz+u.cells.size > arr.size):=aa
    simp only[eY,ne_eq,not_true_eq_false,decide_false,ak9,decide_eq_true_eq];rw[if_neg aa];exact hf
   .rw[hold idx (by rw[aj7];omega),FR,if_neg aa]
   .rcases ajX.1 ba with rfl | h
    .exact hlen
    .exact JF el h
   .cases i with
    | zero=>
     simp at hi;subst hi
     have c6:j < sz:=by rw[<- hlen];exact (BY.1 hj).1
     have Qp:j < u.cells.size:=aa
     refine⟨u.cells[j],?_,F9 j _ c (by simp[Qp]) hj⟩;rw[akD,hold _ (by rw[aj7];omega),FR,if_pos aa];simp[Qp]
    | succ i=>
     simp at hi;have:=lU i j el c hi hj
     rwa [show i'+1+i=i'+(i+1) by omega]at this
theorem WL (hg:Good P T) (hi:In w X G μ N a σ) {d:Nat} (hd:σ.H d=none) {t e:TypeId} {tt te:TI} (du:T t=some tt) (dG:tt.desc = .slice e) (cQ:T e=some te) {len:Nat} {ps:List (Nat×AV)} {vs:Array (Nat×Value)} {els:List (List D)}
  (ZM:vH te.size 0 ps=some els) (hlen:ps.length=len) (hv:vs.toList.map (·.1)=ps.map (·.1)) (hr:∀ (i:Nat) (p:Nat×AV) (v:Nat×Value),ps[i]? = some p->vs[i]? = some v->RV w X μ v.2 p.2)
  (hz:0 < te.size) (KT:len * te.size<=16777216) :
  nQ Mv X G N w μ a ((Instr.buildSlice t len vs).run P w) (.own d 0 len) ⟨σ.env,aY σ.H d (.sl e te.size els)⟩:=by
 have hu:=hg.da (w:=w) du;have bd:=hg.sizeOf (w:=w) cQ;have Di:=hg.zero (w:=w) cQ
 obtain⟨lk,hf,wD,_,hl,dA,lU⟩:=O8 (w:=w) (X:=X) (μ:=μ) (sz:=te.size) ps vs.toList 0 els ((Array.range (len * te.size)).map ((if len * te.size=0 then #[] else te.zero.cells)[· % (if len * te.size=0 then #[] else te.zero.cells).size]!)) ZM hv
  (fun i p v h1 h2=>hr i p v h1 (by rwa [ajT]at h2)) (by simp[hlen])
 have:=Sz (Mv:=Mv) hi hd e (cur:=lk) (sz:=te.size) (n:=len) (cap:=len) (els:=els) ⟨dA,fun i j el c h1 h2=>by simpa using lU i j el c h1 h2⟩ hz (by rw[wD];simp) aa (ajJ _) (by
  have:len<=len * te.size:=Nat.le_mul_of_pos_right _ hz
  unfold maxLen;omega)
 have hn:¬ len * te.size > 2 ^ 24:=aa
 have e0:∀ f:Nat->Value,(Array.range 0).map f = #[]:=fun f=>by apply Array.ext<;>simp
 by_cases h0:len * te.size=0
 .simp only[h0,if_true,e0]at hf;simp only[Instr.buildSlice,Sem.run_bind,hu,dG,Result.andThen_ok,bd,hn,if_false,h0,if_true,Sem.run_pure,e0];simp[hf,newRow];exact this
 .simp only[h0,if_false]at hf;simp only[Instr.buildSlice,Sem.run_bind,hu,dG,Result.andThen_ok,bd,hn,if_false,h0,Sem.run_pure,Di];simp[hf,newRow];exact this
def zQ (pl:Nat->Option (Nat×Nat)):List AV->List (Nat×AV)->Option (List AV)
 | cs,[]=>some cs
 | cs,(i,x) :: rest=>match pl i,jD x with
  | some (off,sz),some xs=>if xs.length=sz/\off+sz<=cs.length then zQ pl (cs.take off ++ xs ++ cs.drop (off+sz)) rest else none
  | _,_=>none
theorem Yk {pl:Nat->Option (Nat×Nat)}:∀ (ps:List (Nat×AV)) (vs:List (Nat×Value)) (cs BU:List AV) (arr:Array Value),zQ pl cs ps=some BU->vs.map (·.1)=ps.map (·.1)->
  (∀ (i:Nat) (p:Nat×AV) (v:Nat×Value),ps[i]? = some p->vs[i]? = some v->RV w X μ v.2 p.2)->BH w X μ arr cs->∃ lk,Instr.fill pl arr vs=some lk/\BH w X μ lk BU:=by
 intro ps
 induction ps with
 | nil=>
  intro vs cs BU arr h hv _ hp
  cases vs with
  | cons _ _=>simp at hv
  | nil=>
   simp only[zQ,IS]at h;subst h;exact⟨arr,rfl,hp⟩
 | cons p ps ih=>
  intro vs cs BU arr h hv hr hp;obtain⟨i,x⟩:=p
  cases vs with
  | nil=>simp at hv
  | cons v vs=>
   obtain⟨i',u⟩:=v;simp only[aj6,alh]at hv;obtain⟨rfl,hv⟩:=hv;simp only[zQ]at h;split at h
   case h_2=>cases h
   rename_i off sz xs eY hxs;split at h
   case isFalse=>cases h
   rename_i hc;obtain⟨jt,kD⟩:=hc;have QJ:=Bz (hr 0 (i',x) (i',u) rfl rfl) hxs
   have Lg:u.cells.size=sz:=by rw[QJ.size,jt]
   have aiA:arr.size=cs.length:=hp.size
   let lN:=(u.cells.zipIdx.foldl (fun cs (p:Value×Nat)=>cs.setIfInBounds (off+p.2) p.1) arr)
   have Cv:lN=((u.cells.toList.zipIdx 0).foldl (fun cs (p:Value×Nat)=>cs.setIfInBounds (off+p.2) p.1) arr):=by
    show Array.foldl _ _ _=_;rw[<- Array.foldl_toList,Array.toList_zipIdx]
   have Gf:lN.size=arr.size:=by rw[Cv];exact Th _ _ _ _
   have FR:∀ k,lN[k]? = if off<=k/\k < off+sz then u.cells[k - off]? else arr[k]?:=by
    intro k;rw[Cv,Tg _ 0 _ _ _ (by simp[Lg];omega)];simp[Lg]
   have iX:BH w X μ lN (cs.take off ++ xs ++ cs.drop (off+sz)):=by
    refine⟨by rw[Gf];simp;omega,fun j v c rJ hc=>?_⟩;rw[FR]at rJ
    have kG:(List.take off cs).length=off:=by simp;omega
    rw[akt,ak2,kG]at hc;split at hc
    .rename_i hj;rw[if_neg aa]at rJ;rw[ajU,if_pos hj]at hc;exact hp.at_ j v c rJ hc
    .rename_i hj;rw[ak2,jt]at hc;split at hc
     .rename_i pM;rw[if_pos aa]at rJ;exact QJ.at_ _ v c rJ hc
     .rename_i pM;rw[if_neg aa]at rJ;rw[akc]at hc;refine hp.at_ j v c rJ ?_;rw[<- hc];congr 1;omega
   obtain⟨lk,hf,hp'⟩:=ih vs _ BU lN h hv (fun i p v h1 h2=>hr (i+1) p v (by simpa using h1) (by simpa using h2)) iX;refine⟨lk,?_,hp'⟩;simp only[Instr.fill,eY,Lg,ne_eq,not_true_eq_false,decide_false,ak9,decide_eq_true_eq];rw[if_neg aa];exact hf
def Mz (T:Ty) (t:TypeId):Option (Nat->Option (Nat×Nat)):=match T t with
 | some ti=>match ti.desc with
  | .struct fs=>if fs.toList.all (fun f=>(T f.type).isSome) then some fun i=>(fs[i]?).bind fun (f:Field)=>(T f.type).map fun tf=>(f.offset,tf.size) else none
  | .array _ e=>(T e).map fun te=>fun i=>some (i * te.size,te.size)
  | _=>none
 | none=>none
def EH (T:Ty) (t:TypeId) (ps:List (Nat×AV)):k8:=match T t,Mz T t with
 | some ti,some pl=>(zQ pl ((gg ti.zero).map .d) ps).map fun cs=>(True,qR cs)
 | _,_=>none
theorem run_places (hg:Good P T):∀ (l:List Field),l.all (fun f=>(T f.type).isSome)=true->
  (l.mapM (m:=Sem) fun (f:Field)=>do pure (f.offset,<- Go.sizeOf f.type)).run P w = .ok (l.map fun (f:Field)=>(f.offset,((T f.type).map (·.size)).getD 0)) w:=by
 intro l
 induction l with
 | nil=>intro _;simp
 | cons f l ih=>
  intro h;simp only[List.all_cons,IT]at h;obtain⟨ti,Lb⟩:=akw.1 h.1;simp only[List.mapM_cons,Sem.run_bind,hg.sizeOf Lb,Result.andThen_ok,Sem.run_pure,ih h.2,aj6,Lb,akb,ak8]
theorem WK (hg:Good P T) {t:TypeId} {ps:List (Nat×AV)} {vs:Array (Nat×Value)} {c:Prop} {x:AV} (h:EH T t ps=some (c,x)) (hv:vs.toList.map (·.1)=ps.map (·.1))
  (hr:∀ (i:Nat) (p:Nat×AV) (v:Nat×Value),ps[i]? = some p->vs[i]? = some v->RV w X μ v.2 p.2):∃ u,(Instr.build t vs).run P w = .ok u w/\RV w X μ u x:=by
 unfold EH at h;split at h
 case h_2=>cases h
 rename_i ti pl ht eY;obtain⟨cs,cO,he⟩:=AS.1 h;simp only[ajH]at he;obtain⟨_,rfl⟩:=he;have hz:=zo (w:=w) (X:=XX X μ) ti.zero;obtain⟨lk,hf,hp⟩:=Yk (w:=w) (X:=X) (μ:=μ) ps vs.toList _ cs ti.zero.cells cO hv (fun i p v h1 h2=>hr i p v h1 (by rwa [ajT]at h2)) ⟨by simpa using hz.1,RV.Bd hz.2⟩;refine⟨.agg lk,?_,Dx (.agg hp.size hp.at_)⟩;unfold Mz at eY;rw[ht]at eY;dsimp only at eY;split at eY
 .rename_i fs wb;split at eY
  .rename_i dA;obtain rfl:=AI eY;have hm:=run_places (P:=P) (w:=w) hg fs.toList dA
   have aaJ:(fun (i:Nat)=>((fs.toList.map fun (f:Field)=>(f.offset,((T f.type).map (·.size)).getD 0)).toArray)[i]?)=fun (i:Nat)=>(fs[i]?).bind fun (f:Field)=>(T f.type).map fun tf=>(f.offset,tf.size):=by
    funext i;simp only[List.getElem?_toArray,ajK,ajT]
    cases hi:fs[i]? with
    | none=>rfl
    | some f=>
     have nE:f∈fs.toList:=by rw[<- ajT]at hi;exact akn hi
     obtain⟨tf,Gg⟩:=akw.1 (akz.1 dA f nE);simp[Gg]
   simp only[Instr.build,Sem.run_bind,hg.zero ht,hg.da ht,wb,Result.andThen_ok,Array.mapM_eq_mapM_toList,map_eq_pure_bind,hm,Sem.run_pure];rw[<- aaJ]at hf;simp only[hf,Sem.run_pure]
  .cases eY
 .rename_i n e he;obtain⟨te,cQ,eY⟩:=AS.1 eY;subst eY;simp[Instr.build,Sem.run_bind,hg.zero ht,hg.da ht,he,Result.andThen_ok,hg.sizeOf cQ,hf]
 .cases eY
structure sM (w:World) (X:Nat->Prop) (μ:Mu) (sz:Nat) (u:Value) (els:List (List D)):Prop where
 len:∀ el∈els,el.length=sz
 at_:(els=[]/\∃ (ad:Option Addr) (cap:Nat),u = .slice ad 0 cap)\/∃ (ad:Addr) (cap:Nat) (news:List Value),u = .slice (some ad) els.length cap/\news.length=els.length * sz/\(∀ (j:Nat) (v:Value),news[j]? = some v->w.cell? (ad.add j)=some v)/\(∀ v∈news,v.oneCell'=true)/\
  ∀ (i j:Nat) (el:List D) (c:D),els[i]? = some el->el[j]? = some c->∃ v,news[i * sz+j]? = some v/\RD w (XX X μ) v c
theorem sM.SI {sz:Nat} {els:List (List D)} {b off cap:Nat} (f:Nat->Nat->Value) (hl:∀ el∈els,el.length=sz) (hz:0 < sz) (h1:∀ el∈els,∀ c∈el,D.one c=true)
  (fb:∀ i j,i < els.length->j < sz->w.cell? ⟨b,off+(i * sz+j),none⟩=some (f i j)) (hr:∀ (i j:Nat) (el:List D) (c:D),els[i]? = some el->el[j]? = some c->RD w (XX X μ) (f i j) c) :
  sM w X μ sz (.slice (some ⟨b,off,none⟩) els.length cap) els:=by
 refine⟨hl,.inr ⟨_,_,(List.range (els.length * sz)).map fun k=>f (k / sz) (k % sz),rfl,ak,fun j v hv=>?_,fun v hv=>?_,fun i j el c hi hj=>?_⟩⟩
 .rw[ajK]at hv;obtain⟨k,hk,rfl⟩:=AS.1 hv;rw[List.getElem?_range]at hk
  .obtain rfl:=AI hk
   have aal:j < els.length * sz:=by
    rcases akS j (els.length * sz)with h | h
    .exact h
    .rw[akZ (by simpa using h)]at hv;cases hv
   have h2:j / sz < els.length:=(Nat.div_lt_iff_lt_mul hz).2 aal;have h3:j % sz < sz:=Nat.mod_lt _ hz;rw[addr_add,<- fb (j / sz) (j % sz) h2 h3,Nat.div_add_mod']
  .rcases akS j (els.length * sz)with h | h
   .exact h
   .rw[akZ (by simpa using h)]at hv;cases hv
 .obtain⟨k,hk,rfl⟩:=akh.1 hv;have hk:=akW.1 hk;have h2:k / sz < els.length:=(Nat.div_lt_iff_lt_mul hz).2 hk
  have h3:k % sz < (els[k / sz]).length:=by rw[hl _ (By h2)];exact Nat.mod_lt _ hz
  exact (hr (k / sz) (k % sz) _ _ (AT h2) (AT h3)).Bg (h1 _ (By h2) _ (By h3))
 .have fc:=(BY.1 hi).1;have ba:el.length=sz:=hl _ (akn hi)
  have c6:j < sz:=by rw[<- ba];exact (BY.1 hj).1
  have hb:i * sz+j < els.length * sz:=by
   have:(i+1) * sz<=els.length * sz:=aj0 _ fc;rw[aj7]at this;omega
  have e1:(i * sz+j) / sz=i:=by rw[Nat.mul_comm,Nat.mul_add_div hz,Nat.div_eq_of_lt c6];rfl
  have e2:(i * sz+j) % sz=j:=by rw[Nat.mul_comm,Nat.mul_add_mod,Nat.mod_eq_of_lt c6]
  refine⟨f i j,?_,hr i j el c hi hj⟩;rw[ajK,List.getElem?_range hb];simp[e1,e2]
def my (H:Heap) (r:Nat):AV->Option (List (List D))
 | .d (.sl _ els)=>some els
 | .own q off n=>if q=r then none else match H q with
  | some (.sl _ _ els)=>if off+n<=els.length then some ((els.drop off).take n) else none
  | _=>none
 | _=>none
theorem DG (hs:eA w X μ σ.H) {r sz:Nat} {u:Value} {x:AV} {els:List (List D)} (hx:RV w X μ u x) (h:my σ.H r x=some els) (hl:∀ el∈els,el.length=sz) (hz:0 < sz) (h1:∀ el∈els,∀ c∈el,D.one c=true):sM w X μ sz u els:=by
 unfold my at h;split at h
 .rename_i k0 XH;obtain rfl:=AI h
  rcases hx.data.rY with⟨rfl,rfl,_⟩ | ⟨ad,cap,rfl,_,_,_,hr⟩
  .exact⟨ak,.inl ⟨rfl,_,_,rfl⟩⟩
  .rcases hr with rfl | ⟨b,off,HD,f,rfl,hX,jP,dA,fb,lV⟩
   .exact⟨ak,.inl ⟨rfl,_,_,rfl⟩⟩
   .by_cases he:XH=[]
    .subst he;exact⟨ak,.inl ⟨rfl,_,_,rfl⟩⟩
    .obtain⟨el,ba⟩:=List.exists_mem_of_ne_nil _ he
     have:HD=sz:=by rw[<- dA el ba,hl el ba]
     subst this;exact sM.SI f hl hz h1 fb lV
 .rename_i q off n;split at h
  .cases h
  .split at h
   .rename_i ty szq EX hq;split at h
    .rename_i hle;obtain rfl:=AI h;obtain⟨m,hm,hh⟩:=hx.lF;obtain⟨m',cF,ok⟩:=hs.rows q _ hq;rw[hm]at cF;obtain rfl:=AI cF
     rcases hh with⟨hb,rfl,rfl,rfl⟩ | ⟨b,hb,rfl,kC⟩
     .exact⟨ak,.inl ⟨ak,_,_,rfl⟩⟩
     .cases ok with
      | nil bk _=>rw[bk]at hb;cases hb
      | sl bk bd hh cO hn gK u2 hzz hr=>
       rename_i b' cur;rw[hb]at bk;obtain rfl:=AI bk;subst bd;by_cases h0:n=0
       .subst h0;exact⟨ak,.inl ⟨ak,_,_,rfl⟩⟩
       .have hlen:((EX.drop off).take n).length=n:=by simp;omega
        have nE:∀ el∈(EX.drop off).take n,el∈EX:=fun el ba=>aks (ajS ba)
        have bf:(EX.drop off).take n≠[]:=by intro e;rw[e]at hlen;simp at hlen;omega
        obtain⟨IZ,Qc⟩:=List.exists_mem_of_ne_nil _ bf
        have aaX:sz=m.sz:=by rw[<- hl IZ Qc,u2 IZ (nE IZ Qc)]
        subst aaX
        have:=sM.SI (w:=w) (X:=X) (μ:=μ) (b:=b) (off:=off * m.sz) (cap:=m.cap - off) (fun i j=>cur.getD ((off+i) * m.sz+j) undef) hl hz h1 (fun i j hi hj=>by
         rw[hlen]at hi
         have aH:(off+i) * m.sz+j < cur.size:=by
          rw[cO];have:(off+i+1) * m.sz<=m.cap * m.sz:=aj0 _ aa;rw[aj7]at this;omega
         have e1:off * m.sz+(i * m.sz+j)=(off+i) * m.sz+j:=by rw[aj7];omega
         rw[e1,cell_of_row w b _ cur ty (0,0) hh]
         simp[ajF,aH]) (fun i j el c ba hc=>by
         rw[ajU]at ba;split at ba
         .rw[akc]at ba;obtain⟨u',ir,bY⟩:=hr (off+i) j el c ba hc;simpa[ajF,ir]using bY
         .cases ba)
        rwa [hlen]at this
    .cases h
   .cases h
 .cases h
theorem T6 {t ty e:TypeId} {tt te:TI} (hg:Good P T) (du:T t=some tt) (dG:tt.desc = .slice e) (cQ:T e=some te) (base ad:Option Addr) (n cap c:Nat) (hn:n<=cap) :
  (Builtin.append_ #[t,t] ty #[.slice base n cap,.slice ad 0 c]).run P w = .ok (.slice base n cap) w:=by
 have hu:=hg.da (w:=w) du;have bd:=hg.sizeOf (w:=w) cQ;cases ad<;>cases base<;>simp[Builtin.append_,hu,dG,bd,Builtin.lenOf,hn,Builtin.firstCells,loadCells,loadCellsFrom,storeCells]
def Rel (w:World) (X:Nat->Prop) (μ:Mu) (sz:Nat) (l:List Value) (els:List (List D)):Prop:=
 ∀ (i j:Nat) (el:List D) (c:D),els[i]? = some el->el[j]? = some c->∃ v,l[i * sz+j]? = some v/\RD w (XX X μ) v c
theorem Rel.append {sz:Nat} {l l':List Value} {A B:List (List D)} (h:Rel w X μ sz l A) (hl:l.length=A.length * sz) (hA:∀ el∈A,el.length=sz) (h':Rel w X μ sz l' B):Rel w X μ sz (l ++ l') (A ++ B):=by
 intro i j el c hi hj;rw[ak2]at hi;split at hi
 .rename_i aH;obtain⟨v,hv,hr⟩:=h i j el c hi hj;exact⟨v,by rw[akL (BY.1 hv).1];exact hv,hr⟩
 .rename_i we;obtain⟨v,hv,hr⟩:=h' _ j el c hi hj;refine⟨v,?_,hr⟩
  have e1:(i - A.length) * sz+j=i * sz+j - l.length:=by
   have:A.length * sz<=i * sz:=aj0 _ aa;rw[hl,Nat.sub_mul];omega
  rw[List.getElem?_append_right,<- e1]
  .exact hv
  .have:A.length * sz<=i * sz:=aj0 _ aa;omega
theorem Rel.more {sz:Nat} {l l':List Value} {A:List (List D)} (h:Rel w X μ sz l A):Rel w X μ sz (l ++ l') A:=by
 intro i j el c hi hj;obtain⟨v,hv,hr⟩:=h i j el c hi hj;exact⟨v,by rw[akL (BY.1 hv).1];exact hv,hr⟩
theorem Ik (hg:Good P T) (hi:In w X G μ N a σ) {r n:Nat} (fK:Mv r) {t ty e:TypeId} {tt te:TI} (du:T t=some tt) (dG:tt.desc = .slice e) (cQ:T e=some te) {els news:List (List D)} {u v:Value}
  (hH:σ.H r=some (.sl e te.size els)) (hle:n<=els.length) (hu:RV w X μ u (.own r 0 n)) (hn:sM w X μ te.size v news) (hz:0 < te.size) (rL:(gg te.zero).length=te.size)
  (vZ:n+news.length<=maxLen) (hb:(n+news.length) * te.bytes<=140737488355328) :
  nQ Mv X G N w μ a ((Builtin.append_ #[t,t] ty #[u,v]).run P w) (.own r 0 (n+news.length)) ⟨ef r σ.env,aY (eg r σ.H) r (.sl e te.size (els.take n ++ news))⟩:=by
 obtain⟨m,hm,hh⟩:=hu.lF;obtain⟨m',cF,ok⟩:=hi.bq.rows r _ hH;rw[hm]at cF;obtain rfl:=AI cF;obtain⟨wE,i0,lz,eH,ke,lY,_⟩:=hg e te cQ;have ht:=(hg t tt du).1;rw[dG]at ht;have sA:=zo (w:=w) (X:=XX X μ) te.zero
 have JS:te.zero.cells.size=te.size:=by rw[sA.1,rL]
 have yc:∀ el∈els,el.length=te.size:=by
  cases ok with
  | nil=>simp
  | sl _ _ _ _ _ _ hl=>exact hl
 have CN:∀ el∈els.take n ++ news,el.length=te.size:=by
  intro el ba
  rcases ajR.1 ba with h | h
  .exact yc el (ajS h)
  .exact hn.len el h
 by_cases bf:news=[]
 .-- nothing is appended
  subst bf
  have hv:∃ ad c,v = .slice ad 0 c:=by
   rcases hn.at_ with⟨_,ad,cap,rfl⟩ | ⟨ad,cap,gP,rfl,_⟩
   .exact⟨_,_,rfl⟩
   .exact⟨_,_,rfl⟩
  obtain⟨ad,c,rfl⟩:=hv
  have pa:∃ base c,u = .slice base n c/\n<=c:=by
   rcases hh with⟨_,rfl,_,rfl⟩ | ⟨b,_,rfl,kC⟩
   .exact⟨_,_,rfl,ajJ _⟩
   .exact⟨_,_,rfl,aa⟩
  obtain⟨base,c',Db,KA⟩:=pa;have dw:=T6 (P:=P) (w:=w) (ty:=ty) hg du dG cQ base ad n c' c KA;rw[Db,dw]
  obtain⟨aO,aW⟩:=hi.move (Mv:=Mv) (w':=w) (m':=m) hm fK (ajJ _) rfl rfl rfl (fun _ _ _=>rfl) (fun b hb=>.inr hb) (row:=.sl e te.size (els.take n ++ [])) fun ev=>by
   rw[ako]
   cases ok with
   | nil e9 eZ=>rw[List.take_nil];exact .nil e9 eZ
   | sl g1 g2 g3 g4 g5 g6 g7 g8 g9=>
    refine .sl g1 g2 g3 g4 (by simp;omega) g6 (fun el ba=>g7 el (ajS ba)) g8 fun i j el c ba hc=>?_;rw[ajU]at ba;split at ba
    .obtain⟨v,hv,bY⟩:=g9 i j el c ba hc;exact⟨v,hv,bY.ev ev⟩
    .cases ba
  refine⟨_,_,_,rfl,aO,.own (m:=m) (by simp[dY]) ?_,aW⟩;rw[<- Db];exact hh
 .have KD:0 < news.length:=aky.2 bf
  rcases hn.at_ with⟨h,_⟩ | ⟨ad,cap,gP,rfl,fD,wz,yg,pS⟩
  .exact absurd h bf
  have KT:n+news.length<=9223372036854775807:=by simp only[maxLen]at vZ;omega
  have DB:∀ (xs:List Value) (fS:Nat),xs.length=n * te.size->Rel w X μ te.size xs (els.take n)->n+news.length<=fS->fS<=maxLen->
    nQ Mv X G N w μ a (.ok (.slice (some ⟨w.heap.size,0,none⟩) (n+news.length) fS) (w.drew.alloc (.cells (xs.toArray ++ gP.toArray ++ Builtin.zeroCells te.zero.cells (fS - (n+news.length))) e)))
     (.own r 0 (n+news.length)) ⟨ef r σ.env,aY (eg r σ.H) r (.sl e te.size (els.take n ++ news))⟩:=by
   intro xs fS jt qO gI iV
   have lf:cN w (w.drew.alloc (.cells (xs.toArray ++ gP.toArray ++ Builtin.zeroCells te.zero.cells (fS - (n+news.length))) e)):=by
    have h1:=cN.alloc w.drew (.cells (xs.toArray ++ gP.toArray ++ Builtin.zeroCells te.zero.cells (fS - (n+news.length))) e);exact⟨h1.size,h1.os,h1.tape,h1.output,h1.same⟩
   have bd:(xs.toArray ++ gP.toArray ++ Builtin.zeroCells te.zero.cells (fS - (n+news.length))).size=fS * te.size:=by
    simp only[Array.size_append,akO,size_zeroCells,JS,jt,fD,<- aj7];congr 1;omega
   obtain⟨aO,aW⟩:=hi.move (Mv:=Mv) (w':=w.drew.alloc (.cells (xs.toArray ++ gP.toArray ++ Builtin.zeroCells te.zero.cells (fS - (n+news.length))) e)) (m':=⟨some w.heap.size,te.size,fS⟩) hm fK lf.size lf.os lf.tape lf.output
    (fun k hk _=>lf.same k hk) (fun b hb=>by simp at hb;omega) (row:=.sl e te.size (els.take n ++ news)) fun ev=>by
     refine .sl rfl rfl (by simpa using heap_alloc_new w.drew (.cells (xs.toArray ++ gP.toArray ++ Builtin.zeroCells te.zero.cells (fS - (n+news.length))) e)) bd (by simp;omega) iV CN hz fun i j el c hi hj=>?_;have hrel:=((qO.append (by rw[jt,ajW,ali hle]) (fun el ba=>yc el (ajS ba)) pS).more (l':=(Builtin.zeroCells te.zero.cells (fS - (n+news.length))).toList)) i j el c hi hj;obtain⟨v,hv,bY⟩:=hrel;refine⟨v,?_,bY.ev ev⟩;rw[<- ajT];simpa using hv
   exact⟨_,_,_,rfl,aO,.own (m:=⟨some w.heap.size,te.size,fS⟩) (by simp[dY]) (.inr ⟨w.heap.size,rfl,ak,by simpa using gI⟩),aW⟩
  rcases hh with⟨jn,rfl,_,rfl⟩ | ⟨b,jn,rfl,kC⟩
  .have hr:=run_append_nil (P:=P) w t ty e i0 te.zero ht lz lY ad news.length cap gP (by rw[fD,eH]) wz KD aa (by rw[ke];simp only[akg]at hb;omega);rw[hr];have:=DB [] (grownCap w news.length 0 e) ak (by intro i j el c hi;simp at hi) (by have:=grownCap_ge w news.length 0 e;omega) (grownCap_le_maxLen w news.length 0 e (by unfold maxLen;omega));simpa using this
  .cases ok with
   | nil bk _=>rw[bk]at jn;cases jn
   | sl bk bd oW cO lS gK hl jP hr=>
    rename_i b' cur;rw[jn]at bk;obtain rfl:=AI bk
    have JN:n<=m.cap:=aa
    have hmul:n * te.size<=m.cap * te.size:=aj0 _ JN
    have jt:(cur.toList.take (n * te.size)).length=n * te.size:=by rw[ajW,aj8,cO,ali hmul]
    have qO:Rel w X μ te.size (cur.toList.take (n * te.size)) (els.take n):=by
     intro i j el c ba hc;rw[ajU]at ba;split at ba
     .rename_i aO;obtain⟨v,hv,bY⟩:=hr i j el c ba hc;have uX:el.length=te.size:=hl _ (akn ba)
      have hj:j < te.size:=by rw[<- uX];exact (BY.1 hc).1
      refine⟨v,?_,bY⟩;rw[ajU,if_pos]
      .simpa using hv
      .have:(i+1) * te.size<=n * te.size:=aj0 _ aO;rw[aj7]at this;omega
     .cases ba
    by_cases tm:n+news.length<=m.cap
    .have kD:n * te.size+gP.length<=cur.size:=by rw[fD,cO,<- aj7];exact aj0 _ tm
     have dw:=run_append_room (P:=P) w t ty e i0 ht lz b n m.cap cur oW ad news.length cap gP (by rw[fD,eH]) wz yg tm (by rw[eH];exact kD);simp only[ak5,Nat.sub_zero];rw[dw,eH]
     obtain⟨aO,aW⟩:=hi.move (Mv:=Mv) (w':=w.setRow b (cur.toList.take (n * te.size) ++ gP ++ cur.toList.drop (n * te.size+gP.length)).toArray) (m':=m) hm fK ak rfl rfl rfl
      (fun k hk CU=>setRow_other w b k _ fun e'=>CU (by rw[jn,e'])) (fun b hb=>.inr hb) (row:=.sl e te.size (els.take n ++ news)) fun ev=>by
       refine .sl jn bd (setRow_heap w b cur _ e _ oW) ?_ (by simp;omega) gK CN hz fun i j el c hi hj=>?_
       .simp only[akO,ajQ,ajW,aj5,aj8];omega
       .obtain⟨v,hv,bY⟩:=((qO.append (by rw[jt,ajW,ali hle]) (fun el ba=>yc el (ajS ba)) pS).more (l':=cur.toList.drop (n * te.size+gP.length))) i j el c hi hj;exact⟨v,by rw[<- ajT];simpa using hv,bY.ev ev⟩
     refine⟨_,_,_,rfl,aO,.own (m:=m) (by simp[dY]) (.inr ⟨b,jn,ak,by simpa using tm⟩),aW⟩
    .have dw:=run_append_grow (P:=P) w t ty e i0 te.zero ht lz lY ⟨b,0,none⟩ n m.cap (cur.toList.take (n * te.size)) (by rw[jt,eH]) (fun j v hv=>by
      rw[addr_add,cell_of_row w b _ cur e (0,0) oW];rw[ajU]at hv;split at hv
      .simpa using hv
      .cases hv) ad news.length cap gP (by rw[fD,eH]) wz aa aa (by rw[ke];exact growslice_fits aa hb)
     simp only[ak5,Nat.sub_zero];rw[dw];exact DB _ _ jt qO (grownCap_ge _ _ _ _) (grownCap_le_maxLen w _ _ e vZ)
end
