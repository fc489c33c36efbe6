/- Parts. -/
import Derived.Test.YtoohljflflnbeaaGreatDoorSt3
import Derived.Laws.StructEq
set_option linter.unusedSectionVars false
set_option linter.unusedSimpArgs false
set_option linter.unusedVariables false
namespace Go.Av
def xw (op:BinOp) (k:IntKind) (x y:Int):Int:=
 let a:=BitVec.ofInt k.bits x
 let b:=BitVec.ofInt k.bits y
 match op with
 | .and=>k.wrap (a &&& b).toNat
 | .or=>k.wrap (a ||| b).toNat
 | .xor=>k.wrap (a ^^^ b).toNat
 | _=>k.wrap (a &&& ~~~b).toNat
def sH (k:IntKind) (n:Int):Option (Prop×Value):=match k with
 | .i64=>some (-9223372036854775808<=n/\n<=9223372036854775807,.int .i64 n)
 | k=>some (True,.int k (k.wrap n))
def Am (op:BinOp) (k:IntKind) (a b:Int):Option (Prop×Value):=match op with
 | .add=>sH k (a+b)
 | .sub=>sH k (a - b)
 | .mul=>sH k (a * b)
 | .quo=>some (b≠0,.int k (k.wrap (a.tdiv b)))
 | .rem=>some (b≠0,.int k (a.tmod b))
 | .and=>some (True,.int k (xw .and k a b))
 | .or=>some (True,.int k (xw .or k a b))
 | .xor=>some (True,.int k (xw .xor k a b))
 | .andNot=>some (True,.int k (xw .andNot k a b))
 | .eql=>some (True,.bool (a == b))
 | .neq=>some (True,.bool (a != b))
 | .lss=>some (True,.bool (decide (a < b)))
 | .leq=>some (True,.bool (decide (a<=b)))
 | .gtr=>some (True,.bool (decide (a > b)))
 | .geq=>some (True,.bool (decide (a >= b)))
 | _=>none
def G2 (op:BinOp) (k:IntKind) (a b:Int):Option (Prop×Value):=match op with
 | .shl=>some (0<=b,.int k (k.wrap (a * 2 ^ (min b.toNat k.bits))))
 | .shr=>some (0<=b,.int k (a.fdiv (2 ^ (min b.toNat k.bits))))
 | _=>none
def FL:BinOp->Bool
 | .shl | .shr=>true
 | _=>false
def ay (op:BinOp) (a b:ByteArray):Option (Prop×Value):=match op with
 | .add=>some (a.size+b.size<=9223372036854775807,.string (a ++ b))
 | .eql=>some (True,.bool (a.toList == b.toList))
 | .neq=>some (True,.bool (!(a.toList == b.toList)))
 | .lss=>some (True,.bool (Op.bytesLess a.toList b.toList))
 | .leq=>some (True,.bool (Op.bytesLess a.toList b.toList || a.toList == b.toList))
 | .gtr=>some (True,.bool (!(Op.bytesLess a.toList b.toList || a.toList == b.toList)))
 | .geq=>some (True,.bool (!Op.bytesLess a.toList b.toList))
 | _=>none
theorem ZK {n:Int} (h:-9223372036854775808<=n/\n<=9223372036854775807):IntKind.i64.wrap n=n:=by rw[IntKind.wrap_i64];omega
theorem DX {k:IntKind} {n:Int} {c:Prop} {v:Value} (h:sH k n=some (c,v)) (hc:c):v = .int k (k.wrap n):=by
 cases k<;>simp only[sH,BY,aa4]at h<;>obtain⟨rfl,rfl⟩:=h
 all_goals first | rfl | (rw[ZK hc])
theorem OV {P:Program} {op:BinOp} (jU:FL op=false) {k:IntKind} {a b:Int} {c:Prop} {v:Value} (h:Am op k a b=some (c,v)) (hc:c) (t:TypeId) (w:World):(binOp op t (.int k a) (.int k b)).run P w = .ok v w:=by
 unfold Am at h;cases op<;>simp only[BY,aa4]at h
 all_goals first
  | (exact absurd jU bh)
  | (have:=DX h hc;subst this;simp[binOp,Op.intArith])
  | (obtain⟨rfl,rfl⟩:=h;simp[binOp,Op.intCmp];done)
  | (obtain⟨rfl,rfl⟩:=h;simp[binOp,Op.intBits,xw];done)
  | (obtain⟨rfl,rfl⟩:=h;simp[binOp,Op.intDiv,hc];done)
theorem WN {P:Program} {op:BinOp} {k yk:IntKind} {a b:Int} {c:Prop} {v:Value} (h:G2 op k a b=some (c,v)) (hc:c) (t:TypeId) (w:World):(binOp op t (.int k a) (.int yk b)).run P w = .ok v w:=by
 unfold G2 at h;cases op<;>simp only[BY,aa4,reduceCtorEq]at h
 all_goals
  obtain⟨rfl,rfl⟩:=h
  have:¬ b < 0:=aa
  simp[binOp,Op.shift,this]
theorem OW {P:Program} {op:BinOp} {a b:ByteArray} {c:Prop} {v:Value} (h:ay op a b=some (c,v)) (hc:c) (t:TypeId) (w:World):(binOp op t (.string a) (.string b)).run P w = .ok v w:=by
 unfold ay at h;cases op<;>simp only[BY,aa4,reduceCtorEq]at h
 all_goals obtain⟨rfl,rfl⟩:=h
 case add=>
  have:¬ (((a.size+b.size:Nat):Int) > IntKind.i64.max):=by simp[IntKind.max,IntKind.signed,IntKind.bits];omega
  simp[binOp,Op.stringOp,this]
  try omega
 all_goals simp[binOp,Op.stringOp]
def eqv (op:BinOp) (c:Prop) (b:Bool):jy:=match op with
 | .eql=>some (c,bool b)
 | .neq=>some (c,bool !b)
 | _=>none
def oW (T:Ty) (t:TypeId) (p:TypeDesc->Bool):Bool:=match T t with
 | some ti=>p ti.desc
 | none=>false
def TypeDesc.isIface:TypeDesc->Bool | .interface _=>true | _=>false
def TypeDesc.isSlice:TypeDesc->Bool | .slice _=>true | _=>false
def TypeDesc.isBool:TypeDesc->Bool | .bool=>true | _=>false
def TypeDesc.isStr:TypeDesc->Bool | .string=>true | _=>false
def B8:TypeDesc->Value->Bool
 | .interface _,.nilIface | .pointer _,.pointer none | .func _ _ _,.nilFunc | .slice _,.slice none 0 0=>true
 | _,_=>false
def B6:AV->Value->Option (Prop×Bool)
 | .d (.b6 _ _),.nilIface=>some (True,false)
 | .b6 _ _,.nilIface=>some (True,false)
 | .d (.v .nilIface),.nilIface=>some (True,true)
 | .d (.ip _),.pointer none=>some (True,false)
 | .ref _ _ _,.pointer none=>some (True,false)
 | .d (.v (.pointer none)),.pointer none=>some (True,true)
 | .d (.fn _ _),.nilFunc=>some (True,false)
 | .fn _ _,.nilFunc=>some (True,false)
 | .d (.v .nilFunc),.nilFunc=>some (True,true)
 | .d (.sl (some b) _),.slice none 0 0=>some (True,!b)
 | .d (.sl none els),.slice none 0 0=>some (els≠[],false)
 | .own _ _ n,.slice none 0 0=>some (0 < n,false)
 | _,_=>none
def Dz:Operand->Option Value
 | .const v=>some v
 | _=>none
def Gq (T:Ty) (op:BinOp) (t:TypeId) (oy:Operand) (x:AV):jy:=match Dz oy with
 | some v=>if oW T t (B8 · v) then (B6 x v).bind fun (c,b)=>eqv op c b else none
 | none=>none
def DN (d:TypeDesc) (a b:Value):Option Bool:=match d,a,b with
 | .int _,.int k a,.int k' b=>if k=k' then some (a == b) else none
 | .string,.string a,.string b=>some (a.toList == b.toList)
 | .bool,.bool a,.bool b=>some (a == b)
 | _,_,_=>none
def AH (T:Ty) (xs ys:List D):List Field->Option Bool
 | []=>some true
 | f :: l=>if f.name = "_" then none else match T f.type,xs[f.offset]?,ys[f.offset]? with
  | some tf,some (.v a),some (.v b)=>match DN tf.desc a b,AH T xs ys l with
   | some r,some r2=>some (r && r2)
   | _,_=>none
  | _,_,_=>none
def Al (T:Ty) (op:BinOp) (t:TypeId) (oy:Operand) (x y:AV):jy:=match x,y with
 | .d (.v (.int k a)),.d (.v (.int k' b))=>
  if FL op then (G2 op k a b).map fun (c,v)=>(c,.d (.v v)) else if k=k' then (Am op k a b).map fun (c,v)=>(c,.d (.v v)) else none
 | .d (.v (.string a)),.d (.v (.string b))=>(ay op a b).map fun (c,v)=>(c,.d (.v v))
 | .d (.v (.bool a)),.d (.v (.bool b))=>if oW T t TypeDesc.isBool then eqv op True (a == b) else none
 | .d (.agg xs),.d (.agg ys)=>match T t with
  | some ti=>match ti.desc with
   | .struct fs=>if ti.pe then (match AH T xs ys fs.toList with
    | some b=>eqv op True b
    | none=>none) else none
   | _=>none
  | none=>none
 | x,_=>Gq T op t oy x
theorem GV {P:Program} {w:World} {op:BinOp} {t:TypeId} {u v:Value} {c:Prop} {b:Bool} {z:AV} {X:Nat->Prop} {μ:Mu} (h:eqv op c b=some (c,z)) (hb:(binOp .eql t u v).run P w = .ok (.bool b) w)
  (hn:(binOp .neq t u v).run P w = .ok (.bool !b) w):∃ r,(binOp op t u v).run P w = .ok r w/\RV w X μ r z:=by
 unfold eqv at h;split at h
 .simp only[BY,aa4,true_and]at h;subst h;exact⟨_,hb,.d (.v _)⟩
 .simp only[BY,aa4,true_and]at h;subst h;exact⟨_,hn,.d (.v _)⟩
 .cases h
theorem sE {T:Ty} {t:TypeId} {p:TypeDesc->Bool} (h:oW T t p=true):∃ ti,T t=some ti/\p ti.desc=true:=by
 unfold oW at h;split at h
 .rename_i ti ht;exact⟨ti,ht,h⟩
 .cases h
theorem DP {op:BinOp} {c c':Prop} {b:Bool} {z:AV} (h:eqv op c b=some (c',z)):c'=c:=by
 unfold eqv at h;split at h<;>simp only[BY,aa4,reduceCtorEq]at h
 .exact h.1.symm
 .exact h.1.symm
section
variable {P:Program} {w:World} {t:TypeId}
theorem IU {ms:Array (String×TypeId)} (h:P.underlying t=some (.interface ms)) (d:Nat) (t':TypeId) (x:Value):(Op.equalIn (d+1) t (.iface t' x) .nilIface).run P w = .ok false w:=by
 simp[Op.equalIn,run_underlying h]
theorem P4 {ms:Array (String×TypeId)} (h:P.underlying t=some (.interface ms)) (d:Nat):(Op.equalIn (d+1) t .nilIface .nilIface).run P w = .ok true w:=by
 simp[Op.equalIn,run_underlying h]
theorem IV {e:TypeId} (h:P.underlying t=some (.pointer e)) (d:Nat) (a:Addr):(Op.equalIn (d+1) t (.pointer (some a)) (.pointer none)).run P w = .ok false w:=by
 simp[Op.equalIn,run_underlying h]
theorem P5 {e:TypeId} (h:P.underlying t=some (.pointer e)) (d:Nat):(Op.equalIn (d+1) t (.pointer none) (.pointer none)).run P w = .ok true w:=by
 simp[Op.equalIn,run_underlying h]
theorem IQ {a b:Array TypeId} {c:Bool} (h:P.underlying t=some (.func a b c)) (d:Nat) (f:Fn) (x y:Array Value):(Op.equalIn (d+1) t (.func f x y) .nilFunc).run P w = .ok false w:=by
 simp[Op.equalIn,run_underlying h]
theorem P3 {a b:Array TypeId} {c:Bool} (h:P.underlying t=some (.func a b c)) (d:Nat):(Op.equalIn (d+1) t .nilFunc .nilFunc).run P w = .ok true w:=by
 simp[Op.equalIn,run_underlying h]
theorem DO {e:TypeId} (h:P.underlying t=some (.slice e)) (d:Nat) (a:Addr) (n c:Nat):(Op.equalIn (d+1) t (.slice (some a) n c) (.slice none 0 0)).run P w = .ok false w:=by
 simp[Op.equalIn,run_underlying h]
theorem P6 {e:TypeId} (h:P.underlying t=some (.slice e)) (d:Nat):(Op.equalIn (d+1) t (.slice none 0 0) (.slice none 0 0)).run P w = .ok true w:=by
 simp[Op.equalIn,run_underlying h]
theorem P2 (h:P.underlying t=some .bool) (d:Nat) (a b:Bool):(Op.equalIn (d+1) t (.bool a) (.bool b)).run P w = .ok (a == b) w:=by
 simp[Op.equalIn,run_underlying h]
end
def Ik:Value->Bool
 | .int _ _ | .string _ | .float _ _ | .complex _ _ _=>false
 | _=>true
theorem nq {P:Program} {w:World} {t:TypeId} {u v:Value} {b:Bool} (hu:Ik u=true) (h:(Op.equalIn (9999+1) t u v).run P w = .ok b w) :
  (binOp .eql t u v).run P w = .ok (.bool b) w/\(binOp .neq t u v).run P w = .ok (.bool !b) w:=by
 have h':(Op.equal t u v).run P w = .ok b w:=h;cases u<;>simp[Ik]at hu<;>constructor<;>simp[binOp,h']
theorem I8 {P:Program} {w:World} {op:BinOp} {t:TypeId} {ox oy:Operand} {u v:Value} (h:¬ (u = .nilIface/\v = .nilIface)\/(∃ c,ox = .const c)\/∃ c,oy = .const c) (ha:∀ a,u≠.agg a) :
  (eqGuard op t ox oy u v).run P w = .ok () w:=by
 unfold eqGuard
 cases op<;>first | rfl | skip
 all_goals
  cases u<;>cases v<;>first | rfl | skip
  .rcases h with h | ⟨c,rfl⟩ | ⟨c,rfl⟩
   .simp at h
   .rfl
   .cases ox<;>rfl
  .exact absurd rfl (ha _)
theorem U0 {P:Program} {T:Ty} (hg:Good P T) {w:World} {X:Nat->Prop} {μ:Mu} {t:TypeId} {u v:Value} {x:AV} {c:Prop} {b:Bool} (h:B6 x v=some (c,b)) (hc:c) (hx:RV w X μ u x)
  (hf:oW T t (B8 · v)=true):((binOp .eql t u v).run P w = .ok (.bool b) w/\(binOp .neq t u v).run P w = .ok (.bool !b) w)/\∀ a,u≠.agg a:=by
 obtain⟨ti,ht,hp⟩:=sE hf;have hu:=(hg t ti ht).1;unfold B6 at h
 split at h<;>first | cases h;done | skip
 all_goals
  obtain⟨rfl,rfl⟩:=dI h;cases dM:ti.desc<;>simp[dM,B8]at hp;rw[dM]at hu
 .obtain⟨v',rfl,_⟩:=hx.data.r4;exact⟨nq rfl (IU hu _ _ _),al⟩
 .obtain⟨v',rfl,_⟩:=hx.r4;exact⟨nq rfl (IU hu _ _ _),al⟩
 .obtain rfl:=hx.scalar;exact⟨nq rfl (P4 hu _),al⟩
 .obtain⟨b,off,f,rfl,_⟩:=hx.data.pV;exact⟨nq rfl (IV hu _ _),al⟩
 .obtain⟨m,b,_,_,rfl⟩:=hx.jd;exact⟨nq rfl (IV hu _ _),al⟩
 .obtain rfl:=hx.scalar;exact⟨nq rfl (P5 hu _),al⟩
 .obtain⟨arr,rfl,_⟩:=hx.data.vO;exact⟨nq rfl (IQ hu _ _ _ _),al⟩
 .obtain⟨arr,rfl,_⟩:=hx.vO;exact⟨nq rfl (IQ hu _ _ _ _),al⟩
 .obtain rfl:=hx.scalar;exact⟨nq rfl (P3 hu _),al⟩
 .rename_i bb els e
  rcases hx.data.oT with⟨rfl,_,hk⟩ | ⟨a,cap,rfl,hk,_⟩
  .cases bb
   .exact⟨nq rfl (P6 hu _),al⟩
   .exact absurd rfl hk
  .cases bb
   .exact absurd rfl hk
   .exact⟨nq rfl (DO hu _ _ _ _),al⟩
 .rcases hx.data.oT with⟨rfl,he,hk⟩ | ⟨a,cap,rfl,hk,_⟩
  .exact absurd he hc
  .exact⟨nq rfl (DO hu _ _ _ _),al⟩
 .obtain⟨m,_,hh⟩:=hx.lp
  rcases hh with⟨_,_,_,rfl⟩ | ⟨b,_,rfl,_⟩
  .omega
  .exact⟨nq rfl (DO hu _ _ _ _),al⟩
theorem P1 {P:Program} {t:TypeId} {d:TypeDesc} (hu:P.underlying t=some d) {a b:Value} {r:Bool} (h:DN d a b=some r) (n:Nat) (w:World):(Op.equalIn (n+1) t a b).run P w = .ok r w/\TypeDesc.isAgg d=false:=by
 unfold DN at h;split at h
 .split at h
  .rename_i hk;subst hk;obtain rfl:=AI h;exact⟨run_equalIn_int w n t _ _ _ _ hu,rfl⟩
  .cases h
 .obtain rfl:=AI h;exact⟨run_equalIn_string w n t _ _ hu,rfl⟩
 .obtain rfl:=AI h;exact⟨run_equalIn_bool' w n t _ _ hu,rfl⟩
 .cases h
theorem Ir {w:World} {X:Nat->Prop} {arr:Array Value} {xs:List D} (hn:arr.size=xs.length) (hr:∀ (j:Nat) (u:Value) (c:D),arr[j]? = some u->xs[j]? = some c->RD w X u c) {j:Nat} {a:Value} (h:xs[j]? = some (.v a)):arr[j]? = some a:=by
 have hj:j < arr.size:=by rw[hn];exact (By.1 h).1
 have:=(hr j _ _ (abn hj) h).scalar;rw[abn hj,this]
theorem IP {P:Program} {T:Ty} (hg:Good P T) {w:World} {X:Nat->Prop} {j2 qZ:Array Value} {xs ys:List D} (n1:j2.size=xs.length) (h1:∀ (j:Nat) (u:Value) (c:D),j2[j]? = some u->xs[j]? = some c->RD w X u c) (n2:qZ.size=ys.length) (h2:∀ (j:Nat) (u:Value) (c:D),qZ[j]? = some u->ys[j]? = some c->RD w X u c) :
  ∀ (fs:List Field) (b:Bool),AH T xs ys fs=some b->(Op.eqFields (9998+1) j2 qZ fs).run P w = .ok b w
 | [],b,h=>by
  obtain rfl:=AI h;simp[Op.eqFields]
 | f :: l,b,h=>by
  rw[AH]at h;split at h
  .cases h
  .rename_i jS;split at h
   .rename_i tf a1 b1 ht hx hy;split at h
    .rename_i r r2 hr uJ;obtain rfl:=AI h;obtain⟨e1,e2⟩:=P1 (hg _ _ ht).1 hr 9998 w
     have ha:(Go.isAgg f.type).run P w = .ok false w:=by rw[hg.isAgg ht,e2]
     have p1:(part f.type j2 f.offset).run P w = .ok a1 w:=by simp[part,ha,Ir n1 h1 hx]
     have p2:(part f.type qZ f.offset).run P w = .ok b1 w:=by simp[part,ha,Ir n2 h2 hy]
     have ih:=IP hg n1 h1 n2 h2 l r2 uJ;rw[Op.eqFields,if_pos jS];simp only[Sem.run_bind,p1,p2,e1,Result.andThen_ok,Sem.run_ite];cases r
     .simp
     .simpa using ih
    .cases h
   .cases h
theorem OU {P:Program} {T:Ty} {G:aF} {N:Fr} (hg:Good P T) {w:World} {X:Nat->Prop} {μ:Mu} {a:Act} {σ:St} (hi:In w X G μ N a σ) {op:BinOp} {t:TypeId} {ox oy:Operand} {x y z:AV} {c:Prop}
  (hx:bG G σ.env ox=some x) (hy:bG G σ.env oy=some y) (h:Al T op t oy x y=some (c,z)) (hc:c) :
  ∃ r,(do eqGuard op t ox oy (a.eval ox) (a.eval oy);binOp op t (a.eval ox) (a.eval oy):Sem Value).run P w = .ok r w/\RV w X μ r z:=by
 have y3:=hi.eval hx;have BF:=hi.eval hy
 have plain:∀ (u v:Value),a.eval ox=u->a.eval oy=v->(∀ b,u≠.agg b)->u≠.nilIface->(∃ r,(binOp op t u v).run P w = .ok r w/\RV w X μ r z)->
   ∃ r,(do eqGuard op t ox oy (a.eval ox) (a.eval oy);binOp op t (a.eval ox) (a.eval oy):Sem Value).run P w = .ok r w/\RV w X μ r z:=by
  rintro u v hu hv h1 h2 ⟨r,hr,Fp⟩;refine⟨r,?_,Fp⟩;rw[hu,hv,Sem.run_bind,I8 (.inl fun e=>h2 e.1) h1];exact hr
 unfold Al at h;split at h
 .rename_i k a1 k' b1;have e1:=y3.scalar;have e2:=BF.scalar;refine plain _ _ e1 e2 al al ?_;split at h
  .obtain⟨⟨c',v'⟩,hs,he⟩:=AS.1 h;simp only[aa4]at he;obtain⟨rfl,rfl⟩:=he;exact⟨_,WN hs hc _ _,.d (.v _)⟩
  .rename_i yQ;split at h
   .rename_i hk;subst hk;obtain⟨⟨c',v'⟩,hs,he⟩:=AS.1 h;simp only[aa4]at he;obtain⟨rfl,rfl⟩:=he;exact⟨_,OV (by simpa using yQ) hs hc _ _,.d (.v _)⟩
   .cases h
 .obtain⟨⟨c',v'⟩,hs,he⟩:=AS.1 h;simp only[aa4]at he;obtain⟨rfl,rfl⟩:=he;exact plain _ _ y3.scalar BF.scalar al al ⟨_,OW hs hc _ _,.d (.v _)⟩
 .rename_i b1 b2;split at h
  .rename_i hb;obtain⟨ti,ht,hp⟩:=sE hb;cases dM:ti.desc<;>simp[dM,TypeDesc.isBool]at hp;have hu:=(hg t ti ht).1;rw[dM]at hu;have:=nq (P:=P) (w:=w) (u:=.bool b1) (v:=.bool b2) rfl (P2 hu 9999 _ _);obtain rfl:=DP h;exact plain _ _ y3.scalar BF.scalar al al (GV h this.1 this.2)
  .cases h
 .rename_i xs ys;split at h
  .rename_i ti ht;split at h
   .rename_i fs dM;split at h
    .rename_i fB;split at h
     .rename_i b hb;obtain⟨j2,S2,n1,r1⟩:=y3.data.qc;obtain⟨qZ,Fy,n2,r2⟩:=BF.data.qc;obtain⟨uO,i0,_,_,_,_,hp⟩:=hg t ti ht;obtain⟨ke,jD⟩:=hp fB;rw[dM]at uO
      have JC:P.fieldsOf t=fs:=by simp[Program.fieldsOf,uO]
      have S3:P.underlying t=some (.struct (P.fieldsOf t)):=by rw[JC];exact uO
      have he:(Op.equalIn 10000 t (.agg j2) (.agg qZ)).run P w = .ok b w:=by
       rw[show (10000:Nat)=9999+1 from rfl,run_equalIn_struct w 9999 t j2 qZ S3 ke,JC];exact IP hg n1 r1 n2 r2 fs.toList b hb
      obtain rfl:=DP h;obtain⟨r,hr,Fp⟩:=GV (X:=X) (μ:=μ) h (P:=P) (w:=w) (t:=t) (u:=.agg j2) (v:=.agg qZ) (by rw[run_eql_struct,he];rfl) (by rw[run_neq_struct,he];rfl);refine⟨r,?_,Fp⟩;rw[S2,Fy,Sem.run_bind,run_eqGuard_agg w op t ox oy j2 qZ jD];exact hr
     .cases h
    .cases h
   .cases h
  .cases h
 .unfold Gq at h;split at h
  .rename_i v hv
   cases oy with
   | const v'=>
    simp only[Dz,BY]at hv;subst hv;split at h
    .rename_i hf;obtain⟨⟨c',b'⟩,hn,he⟩:=abd.1 h;dsimp only at he;obtain rfl:=DP he;obtain⟨hr,ha⟩:=U0 hg hn hc y3 hf;obtain⟨r,lg,hz⟩:=GV (X:=X) (μ:=μ) he hr.1 hr.2;refine⟨r,?_,hz⟩;rw[Sem.run_bind,I8 (.inr (.inr ⟨_,rfl⟩)) ha];exact lg
    .cases h
   | _=>cases hv
  .cases h
end Go.Av
namespace Go.Av
def BX (T:Ty) (t:TypeId):AV->jy
 | .d (.v (.string s))=>if oW T t TypeDesc.isStr then some (True,int s.size) else none
 | .d (.sl _ els)=>if oW T t TypeDesc.isSlice then some (True,int els.length) else none
 | .own _ _ n=>if oW T t TypeDesc.isSlice then some (True,int n) else none
 | _=>none
theorem KB {d:TypeDesc} (h:TypeDesc.isSlice d=true):∃ e,d = .slice e:=by cases d<;>simp[TypeDesc.isSlice]at h;exact⟨_,rfl⟩
theorem BJ {d:TypeDesc} (h:TypeDesc.isStr d=true):d = .string:=by cases d<;>simp[TypeDesc.isStr]at h;rfl
section
variable {P:Program} {T:Ty} (hg:Good P T) {w:World} {X:Nat->Prop} {μ:Mu} {H:Heap}
include hg
theorem Uj {t ty:TypeId} {u:Value} {x z:AV} {c:Prop} (h:BX T t x=some (c,z)) (hx:RV w X μ u x):∃ r,(Builtin.len_ #[t] ty #[u]).run P w = .ok r w/\RV w X μ r z:=by
 unfold BX at h;split at h
 .split at h
  .rename_i hd;obtain⟨ti,ht,hp⟩:=sE hd;obtain⟨rfl,rfl⟩:=dI h;obtain rfl:=hx.scalar;exact⟨_,by simp[Builtin.len_,hg.dA ht,BJ hp,goInt],.d (.v _)⟩
  .cases h
 .split at h
  .rename_i hd;obtain⟨ti,ht,hp⟩:=sE hd;obtain⟨e,he⟩:=KB hp;obtain⟨rfl,rfl⟩:=dI h
   rcases hx.data.oT with⟨rfl,rfl,_⟩ | ⟨a,cap,rfl,_⟩
   .exact⟨_,by simp[Builtin.len_,hg.dA ht,he,goInt],.d (.v _)⟩
   .exact⟨_,by simp[Builtin.len_,hg.dA ht,he,goInt],.d (.v _)⟩
  .cases h
 .split at h
  .rename_i hd;obtain⟨ti,ht,hp⟩:=sE hd;obtain⟨e,he⟩:=KB hp;obtain⟨rfl,rfl⟩:=dI h;obtain⟨m,_,hh⟩:=hx.lp
   rcases hh with⟨_,rfl,_,rfl⟩ | ⟨b,_,rfl,_⟩
   .exact⟨_,by simp[Builtin.len_,hg.dA ht,he,goInt],.d (.v _)⟩
   .exact⟨_,by simp[Builtin.len_,hg.dA ht,he,goInt],.d (.v _)⟩
  .cases h
 .cases h
def Dj (T:Ty) (t:TypeId):Option (Nat×TypeId×Nat):=match T t with
 | some ti=>match ti.desc with
  | .array n e=>(T e).map fun te=>(n,e,te.size)
  | _=>none
 | none=>none
def BH (T:Ty) (t:TypeId):AV->AV->jy
 | .d (.v (.string s)),.d (.v (.int _ i))=>if oW T t TypeDesc.isStr then some (0<=i/\i < s.size,.d (.v (.int .u8 (s.data.toList.getD i.toNat 0).toNat))) else none
 | .d (.agg cells),.d (.v (.int _ i))=>match Dj T t with
  | some (n,e,sz)=>(ra T e (cells.drop (i.toNat * sz))).map fun (c,z)=>((0<=i/\i < n)/\c,z)
  | none=>none
 | _,_=>none
omit hg in
theorem OO (s:ByteArray) (n:Nat) (h:n < s.size):s[n]? = some (s.data.toList.getD n 0):=by
 have:s[n]? = some s[n]:=by simp[h]
 rw[this]
 have h2:n < s.data.toList.length:=by simpa using h
 simp[aa5,IN h2];rfl
theorem Tl {t:TypeId} {u v:Value} {x y z:AV} {c:Prop} (h:BH T t x y=some (c,z)) (hc:c) (hx:RV w X μ u x) (hy:RV w X μ v y):∃ r,(Instr.index t u v).run P w = .ok r w/\RV w X μ r z:=by
 unfold BH at h;split at h
 .split at h
  .rename_i s kk i hd;obtain⟨ti,ht,hp⟩:=sE hd;obtain⟨rfl,rfl⟩:=dI h;obtain rfl:=hx.scalar;obtain rfl:=hy.scalar;obtain⟨h0,h1⟩:=hc;obtain⟨n,rfl⟩:=abz h0;simp only[ab0]
   have hn:n < s.size:=aa
   exact⟨_,by simp[Instr.index,asIntOf,hg.dA ht,BJ hp,OO s n hn],.d (.v _)⟩
  .cases h
 .rename_i cells kk i;split at h
  .rename_i n e sz ha;obtain⟨⟨c',z'⟩,hv,he⟩:=AS.1 h;simp only[aa4]at he;obtain⟨rfl,rfl⟩:=he;obtain⟨⟨h0,h1⟩,dD⟩:=hc;obtain rfl:=hy.scalar;obtain⟨arr,rfl,hn,hr⟩:=hx.data.qc;obtain⟨c2,wC,eh⟩:=HY T e _ hv dD;rw[List.map_drop]at wC;obtain⟨v,pL,gp⟩:=H4 (P:=P) (w:=w) (X:=X) (μ:=μ) hg wC eh (by simpa using hn) (RV.wV hr);unfold Dj at ha;split at ha
   .rename_i ti ht;split at ha
    .rename_i n' e' hd;obtain⟨te,cH,he⟩:=AS.1 ha;simp only[aa4]at he;obtain⟨rfl,rfl,rfl⟩:=he;exact⟨v,by simp[Instr.index,asIntOf,hg.dA ht,hd,h0,h1,hg.sizeOf cH,pL],gp⟩
    .cases ha
   .cases ha
  .cases h
 .cases h
def zk (t:TypeId):AV->AV
 | .d x=>.d (.b6 t x)
 | x=>.b6 t x
omit hg in
theorem Gj {u:Value} {x:AV} {t:TypeId} (hx:RV w X μ u x):RV w X μ (.iface t u) (zk t x):=by
 unfold zk;split
 .exact .d (.b6 hx.data)
 .exact .b6 hx
def B0 (T:Ty) (t:TypeId) (x:AV):jy:=match T t with
 | some ti=>if TypeDesc.isIface ti.desc then none else some (True,zk t x)
 | none=>none
theorem Ux {t:TypeId} {u:Value} {x z:AV} {c:Prop} (h:B0 T t x=some (c,z)) (hx:RV w X μ u x):∃ r,(Instr.makeInterface t u).run P w = .ok r w/\RV w X μ r z:=by
 unfold B0 at h;split at h
 .rename_i ti ht;split at h
  .cases h
  .rename_i hd;obtain⟨rfl,rfl⟩:=dI h;refine⟨_,?_,Gj hx⟩;simp only[Instr.makeInterface,Sem.run_bind,hg.dA ht,Result.andThen_ok];cases dM:ti.desc<;>simp[dM,TypeDesc.isIface]at hd ⊢
 .cases h
def AM (i:Nat):AV->jy
 | .d (.bI vs)=>vs[i]?.map fun x=>(True,.d x)
 | .bI vs=>vs[i]?.map fun x=>(True,x)
 | _=>none
omit hg in
theorem Qg {i:Nat} {u:Value} {x z:AV} {c:Prop} (h:AM i x=some (c,z)) (hx:RV w X μ u x):∃ r,(Instr.extract u i).run P w = .ok r w/\RV w X μ r z:=by
 unfold AM at h;split at h
 .obtain⟨y,hy,he⟩:=AS.1 h;simp only[aa4]at he;obtain⟨rfl,rfl⟩:=he;obtain⟨arr,rfl,hn,hr⟩:=hx.data.xf;have bf:=(By.1 hy).1
  have:arr[i]? = some arr[i]:=al
  exact⟨arr[i],by simp[Instr.extract,this],.d (hr i _ y this hy)⟩
 .obtain⟨y,hy,he⟩:=AS.1 h;simp only[aa4]at he;obtain⟨rfl,rfl⟩:=he;obtain⟨arr,rfl,hn,hr⟩:=hx.xf;have bf:=(By.1 hy).1
  have:arr[i]? = some arr[i]:=al
  exact⟨arr[i],by simp[Instr.extract,this],hr i _ y this hy⟩
 .cases h
def zj (f:Fn) (caps:List AV):AV:=match kA caps with
 | some ds=>.d (.fn f ds)
 | none=>.fn f caps
omit hg in
theorem Gi {f:Fn} {arr:Array Value} {caps:List AV} (hn:arr.size=caps.length) (hr:∀ (j:Nat) (u:Value) (c:AV),arr[j]? = some u->caps[j]? = some c->RV w X μ u c):RV w X μ (.func f #[] arr) (zj f caps):=by
 unfold zj;split
 .rename_i ds hd;rw[oV hd]at hn hr;exact .d (.fn (by simpa using hn) fun j u c hu hc=>(hr j u (.d c) hu (by rw[aa3,hc];rfl)).data)
 .exact .fn hn hr
def CN (op:UnOp):AV->jy
 | .d (.v (.bool b))=>match op with | .not=>some (True,bool !b) | _=>none
 | .d (.v (.int k n))=>match op with | .neg=>(sH k (0 - n)).map fun (c,v)=>(c,.d (.v v)) | _=>none
 | _=>none
omit hg in
theorem Ze {op:UnOp} {u:Value} {x z:AV} {c:Prop} (h:CN op x=some (c,z)) (hc:c) (hx:RV w X μ u x):∃ r,(Op.unary op u).run P w = .ok r w/\RV w X μ r z:=by
 unfold CN at h;split at h
 .split at h
  .obtain⟨rfl,rfl⟩:=dI h;obtain rfl:=hx.scalar;exact⟨_,by simp[Op.unary],.d (.v _)⟩
  .cases h
 .split at h
  .obtain⟨⟨c',v⟩,hf,he⟩:=AS.1 h;simp only[aa4]at he;obtain⟨rfl,rfl⟩:=he;obtain rfl:=hx.scalar;have:=DX hf hc;subst this;exact⟨_,by simp[Op.unary,Op.intArith],.d (.v _)⟩
  .cases h
 .cases h
def Aw (T:Ty) (dst:TypeId):AV->jy
 | .d (.v (.int _ n))=>match T dst with
  | some ti=>match ti.desc with
   | .int k=>(sH k n).map fun (c,v)=>(c,.d (.v v))
   | .string=>some (True,.d (.v (.string (Utf8.encode n))))
   | _=>none
  | none=>none
 | .d (.v (.string s))=>if oW T dst TypeDesc.isStr then some (True,.d (.v (.string s))) else none
 | _=>none
theorem Pq {src dst:TypeId} (SW:(T src).isSome) {u:Value} {x z:AV} {c:Prop} (h:Aw T dst x=some (c,z)) (hc:c) (hx:RV w X μ u x):∃ r,(convert src dst u).run P w = .ok r w/\RV w X μ r z:=by
 obtain⟨tis,qB⟩:=acf.1 SW;unfold Aw at h;split at h
 .split at h
  .rename_i ti ht;split at h
   .rename_i k hd;obtain⟨⟨c',v⟩,hf,he⟩:=AS.1 h;simp only[aa4]at he;obtain⟨rfl,rfl⟩:=he;obtain rfl:=hx.scalar;have:=DX hf hc;subst this;exact⟨_,by simp[convert,hg.dA qB,hg.dA ht,hd,Conv.intToInt],.d (.v _)⟩
   .rename_i hd;obtain⟨rfl,rfl⟩:=dI h;obtain rfl:=hx.scalar;exact⟨_,by simp[convert,hg.dA qB,hg.dA ht,hd,Conv.intToString],.d (.v _)⟩
   .cases h
  .cases h
 .split at h
  .rename_i hd;obtain⟨ti,ht,hp⟩:=sE hd;obtain⟨rfl,rfl⟩:=dI h;obtain rfl:=hx.scalar;exact⟨_,by simp[convert,hg.dA qB,hg.dA ht,BJ hp],.d (.v _)⟩
  .cases h
 .cases h
def B7:AV->jy
 | .d (.ip c)=>some (True,.d (.ip c))
 | .ref r e j=>some (True,.ref r e j)
 | _=>none
omit hg in
theorem U2 {u:Value} {x z:AV} {c:Prop} (h:B7 x=some (c,z)) (hx:RV w X μ u x):(∃ a,u = .pointer (some a))/\RV w X μ u z:=by
 unfold B7 at h;split at h
 .obtain⟨rfl,rfl⟩:=dI h;obtain⟨b,off,f,rfl,_⟩:=hx.data.pV;exact⟨⟨_,rfl⟩,hx⟩
 .obtain⟨rfl,rfl⟩:=dI h;obtain⟨m,b,_,_,rfl⟩:=hx.jd;exact⟨⟨_,rfl⟩,hx⟩
 .cases h
def bound (G:aF) (e:Env):Option Operand->Option (Option Int)
 | none=>some none
 | some o=>match bG G e o with
  | some (.d (.v (.int _ i)))=>some (some i)
  | _=>none
def p7 (T:Ty) (H:Heap) (t:TypeId) (x:AV) (lo hi:Option Int):jy:=
 let l:=lo.getD 0
 match x with
 | .d (.v (.string s))=>if oW T t TypeDesc.isStr then
   let h:=hi.getD s.size
   some (0<=l/\l<=h/\h<=s.size,.d (.v (.string (s.extract l.toNat h.toNat)))) else none
 | .d (.sl k els)=>match ot T t with
  | some s=>
   let h:=hi.getD els.length
   some (0<=l/\l<=h/\h<=els.length/\(l=0\/∀ el∈els,el.length=s),.d (.sl k ((els.drop l.toNat).take (h - l).toNat)))
  | none=>none
 | .own r off n=>match ot T t,H r with
  | some s,some (.sl _ sz _)=>
   let h:=hi.getD n
   some (0<=l/\l<=h/\h<=n/\sz=s,if l=n/\¬ l=0 then .d (.sl none []) else .own r (off+l.toNat) (h - l).toNat)
  | _,_=>none
 | _=>none
omit hg in
theorem w9 {isS:Bool} {len cap:Nat} {lo hi:Option Value} {l h:Int} (hl:(lo=none/\l=0)\/∃ k,lo=some (.int k l)) (hh:(hi=none/\h=len)\/∃ k,hi=some (.int k h)) (h0:0<=l) (h1:l<=h) (h2:h<=cap) :
  (Instr.sliceBounds isS len cap lo hi none).run P w = .ok (l.toNat,h.toNat,cap) w:=by
 have e1:0<=h:=aa
 rcases hh with⟨rfl,rfl⟩ | ⟨k,rfl⟩<;>rcases hl with⟨rfl,rfl⟩ | ⟨k',rfl⟩
 .simp[Instr.sliceBounds]
 .simp[Instr.sliceBounds,Instr.sliceBound,asIntOf,h0,h1]
 .simp[Instr.sliceBounds,Instr.sliceBound,asIntOf,e1,h2]
 .have e3:l<=max h 0:=aa
  simp[Instr.sliceBounds,Instr.sliceBound,asIntOf,e1,h2,h0,e3]
theorem WU (hs:eu w X μ H) {t:TypeId} {u:Value} {x z:AV} {c:Prop} {lo hi:Option Int} {zS zR:Option Value} (h:p7 T H t x lo hi=some (c,z)) (hc:c) (hx:RV w X μ u x)
  (uD:(zS=none/\lo=none)\/∃ k l,zS=some (.int k l)/\lo=some l) (Bm:(zR=none/\hi=none)\/∃ k l,zR=some (.int k l)/\hi=some l) :
  ∃ r,(Instr.sliceAt t u zS zR none).run P w = .ok r w/\RV w X μ r z:=by
 have hL:(zS=none/\lo.getD 0=0)\/∃ k,zS=some (.int k (lo.getD 0)):=by
  rcases uD with⟨rfl,rfl⟩ | ⟨k,l,rfl,rfl⟩
  .exact .inl ⟨rfl,rfl⟩
  .exact .inr ⟨k,rfl⟩
 have hH:∀ n:Nat,(zR=none/\hi.getD n=n)\/∃ k,zR=some (.int k (hi.getD n)):=by
  intro n
  rcases Bm with⟨rfl,rfl⟩ | ⟨k,l,rfl,rfl⟩
  .exact .inl ⟨rfl,rfl⟩
  .exact .inr ⟨k,rfl⟩
 unfold p7 at h;dsimp only at h;split at h
 .rename_i s;split at h
  .rename_i hd;obtain⟨ti,ht,hp⟩:=sE hd;obtain⟨rfl,rfl⟩:=dI h;obtain rfl:=hx.scalar;obtain⟨h0,h1,h2⟩:=hc;exact⟨_,by simp[Instr.sliceAt,hg.dA ht,BJ hp,Instr.slice,w9 (P:=P) (w:=w) hL (hH s.size) h0 h1 h2],.d (.v _)⟩
  .cases h
 .rename_i k els;split at h
  .rename_i s he;obtain⟨rfl,rfl⟩:=dI h;obtain⟨h0,h1,h2,h3⟩:=hc;unfold ot at he;split at he
   .rename_i ti ht;split at he
    .rename_i e hd;obtain⟨te,cH,rfl⟩:=AS.1 he;generalize lo.getD 0=l at *;have ru:=hH els.length;generalize hi.getD ↑els.length=hh at *;obtain⟨l,rfl⟩:=abz h0;obtain⟨hh,rfl⟩:=abz (show 0<=hh by omega)
     have e1:((hh:Int) - l).toNat=hh - l:=aa
     simp only[ab0,e1]
     rcases hx.data.oT with⟨rfl,rfl,hk⟩ | ⟨a,cap,rfl,hk,jl,hm,hr⟩
     .have l0:l=0:=by simp at h2;omega
      have EK:hh=0:=by simp at h2;omega
      subst l0 EK;have:=w9 (P:=P) (w:=w) (isS:=true) (cap:=0) hL ru h0 h1 al;refine⟨.slice none 0 0,?_,.d (by simpa using .nil hk)⟩;simp at this;simp[Instr.sliceAt,hg.dA ht,hd,Instr.slice,this,hg.sizeOf cH]
     .have:=w9 (P:=P) (w:=w) (isS:=true) (cap:=cap) hL ru h0 h1 aa;refine⟨.slice (some (if cap=l then a else a.add (l * te.size))) (hh - l) (cap - l),?_,.d ?_⟩
      .simp[Instr.sliceAt,hg.dA ht,hd,Instr.slice,this,hg.sizeOf cH];split<;>rfl
      .by_cases hz:hh - l=0
       .rw[hz,List.take_zero];exact .empty hk (by unfold maxLen at *;omega)
       .rcases hr with rfl | ⟨b,off,sz,f,rfl,hX,bc,dk,dW,jE⟩
        .simp at h2;omega
        .have e6:¬ cap=l:=aa
         rw[if_neg e6,addr_add]
         have rM:l * te.size=l * sz:=by
          rcases h3 with h3 | h3
          .have:l=0:=aa
           simp[this]
          .have bw:els≠[]:=by intro e;simp[e]at h2;omega
           obtain⟨el,bu⟩:=List.exists_mem_of_ne_nil _ bw;rw[<- h3 el bu,dk el bu]
         rw[rM];refine .sl (sz:=sz) (f:=fun i j=>f (l+i) j) hk ?_ aa (by unfold maxLen at *;omega) hX ?_ bc aa ?_ ?_
         .simp;omega
         .intro el bu;exact dk el (acg (abi bu))
         .intro i j hi hj;have:=dW (l+i) j aa hj;rw[abJ]at this;rw[<- this];congr 2;omega
         .intro i j el c bu hc;rw[abf]at bu;split at bu
          .rw[abB]at bu;exact jE _ j el c bu hc
          .cases bu
    .cases he
   .cases he
  .cases h
 .rename_i r off n;split at h
  .rename_i s ty sz els he Bb;obtain⟨rfl,rfl⟩:=dI h;obtain⟨h0,h1,h2,rfl⟩:=hc;unfold ot at he;split at he
   .rename_i ti ht;split at he
    .rename_i e hd;obtain⟨te,cH,rfl⟩:=AS.1 he;generalize lo.getD 0=l at *;have ru:=hH n;generalize hi.getD ↑n=hh at *;obtain⟨l,rfl⟩:=abz h0;obtain⟨hh,rfl⟩:=abz (show 0<=hh by omega)
     have e1:((hh:Int) - l).toNat=hh - l:=aa
     simp only[ab0,e1];obtain⟨m,hm,hu⟩:=hx.lp;obtain⟨m',cD,ok⟩:=hs.rows r _ Bb;rw[hm]at cD;obtain rfl:=AI cD
     have bc:m.sz=te.size:=by cases ok<;>assumption
     by_cases hz:(l:Int)=n/\¬ (l:Int)=0
     .rw[if_pos hz]
      rcases hu with⟨hb,rfl,rfl,rfl⟩ | ⟨b,hb,rfl,hle⟩
      .omega
      .have hmc:m.cap<=maxLen:=by
        cases ok with
        | nil bp _=>rw[hb]at bp;cases bp
        | sl bp _ _ _ _ cD=>exact cD
       have:=w9 (P:=P) (w:=w) (isS:=true) (cap:=m.cap - off) hL ru h0 h1 aa;refine⟨.slice (some (if m.cap - off=l then ⟨b,off * m.sz,none⟩ else (⟨b,off * m.sz,none⟩:Addr).add (l * te.size))) (hh - l) (m.cap - off - l),?_,?_⟩
       .simp[Instr.sliceAt,hg.dA ht,hd,Instr.slice,this,hg.sizeOf cH];split<;>rfl
       .rw[show hh - l=0 by omega];exact .d (.empty al aa)
     rw[if_neg hz]
     have h3:(l:Int)=0\/(l:Int) < n:=aa
     rcases hu with⟨hb,rfl,rfl,rfl⟩ | ⟨b,hb,rfl,hle⟩
     .have l0:l=0:=aa
      have EK:hh=0:=aa
      subst l0 EK;have:=w9 (P:=P) (w:=w) (isS:=true) (cap:=0) hL ru h0 h1 al;refine⟨.slice none 0 0,?_,.own hm (.inl ⟨hb,rfl,rfl,rfl⟩)⟩;simp[Instr.sliceAt,hg.dA ht,hd,Instr.slice,hg.sizeOf cH];simp at this;simp[this]
     .have:=w9 (P:=P) (w:=w) (isS:=true) (cap:=m.cap - off) hL ru h0 h1 aa;refine⟨.slice (some (if m.cap - off=l then ⟨b,off * m.sz,none⟩ else (⟨b,off * m.sz,none⟩:Addr).add (l * te.size))) (hh - l) (m.cap - off - l),?_,.own hm (.inr ⟨b,hb,?_,aa⟩)⟩
      .simp[Instr.sliceAt,hg.dA ht,hd,Instr.slice,this,hg.sizeOf cH];split<;>rfl
      .rw[addr_add,<- bc,<- abJ]
       have e3:m.cap - off - l=m.cap - (off+l):=aa
       rw[e3];split
       .have:l=0:=aa
        subst this;simp
       .rfl
    .cases he
   .cases he
  .cases h
 .cases h
end
end Go.Av
namespace Go.Av
def eo (μ:Mu) (r:Nat) (m:jh):Mu:=fun q=>if q=r then some m else μ q
def dN (r:Nat) (e:Env):Env:=fun i=>(e i).map (AV.kill r)
def dO (r:Nat) (H:Heap):Heap:=fun q=>(H q).map (Row.kill r)
theorem iH.same {w w':World} {Mv X:Nat->Prop} {μ aK:Mu} (h:Ev Mv w μ w' aK) (fk:∀ q m,μ q=some m->aK q=some m) {m:jh} (hb:∀ b,m.fh=some b->w'.heap[b]? = w.heap[b]?) {row:Row} (ok:iH w X μ m row):iH w' X aK m row:=by
 cases ok with
 | nil h1 h2=>exact .nil h1 h2
 | sl h1 h2 h3 h4 h5 h6 h7 h8 h9=>
  exact .sl h1 h2 ((hb _ h1).trans h3) h4 h5 h6 h7 h8 fun i j el c he hc=>let ⟨u,hu,hr⟩:=h9 i j el c he hc;⟨u,hu,hr.ev h⟩
 | box h1 h2 h3 h4 h5 h6 h7=>exact .box h1 h2 h3 ((hb _ h1).trans h4) h5 (fun j u c hu hc=>(h6 j u c hu hc).same h fk) h7
 | mp h1 h2 h3 h4=>exact .mp h1 ((hb _ h1).trans h2) h3 fun i e p he hp=>let ⟨a,b,c⟩:=h4 i e p he hp;⟨a,b,c.ev h⟩
 | it h1 h2 h3=>exact .it h1 ((hb _ h1).trans h2) (h3.ev h)
theorem iH.keep {w w':World} {Mv X:Nat->Prop} {μ aK:Mu} (h:Ev Mv w μ w' aK) {r:Nat} (fk:∀ q,q≠r->aK q=μ q) {m:jh} (hb:∀ b,m.fh=some b->w'.heap[b]? = w.heap[b]?) {row:Row} (ok:iH w X μ m row):iH w' X aK m (row.kill r):=by
 cases ok with
 | nil h1 h2=>exact .nil h1 h2
 | sl h1 h2 h3 h4 h5 h6 h7 h8 h9=>
  exact .sl h1 h2 ((hb _ h1).trans h3) h4 h5 h6 h7 h8 fun i j el c he hc=>let ⟨u,hu,hr⟩:=h9 i j el c he hc;⟨u,hu,hr.ev h⟩
 | box h1 h2 h3 h4 h5 h6 h7=>
  refine .box h1 rfl h3 ((hb _ h1).trans h4) (by simpa using h5) (fun j u c hu hc=>?_) (by simpa using h7);rw[aa3]at hc;obtain⟨c',dD,rfl⟩:=AS.1 hc;exact (h6 j u c' hu dD).keep h fk
 | mp h1 h2 h3 h4=>exact .mp h1 ((hb _ h1).trans h2) h3 fun i e p he hp=>let ⟨a,b,c⟩:=h4 i e p he hp;⟨a,b,c.ev h⟩
 | it h1 h2 h3=>exact .it h1 ((hb _ h1).trans h2) (h3.ev h)
section
variable {Mv X:Nat->Prop} {G:aF} {N:Fr} {w w':World} {μ:Mu} {a:Act} {σ:St}
theorem iH.lB {m:jh} {row:Row} {b:Nat} (ok:iH w X μ m row) (hb:m.fh=some b):b < w.heap.size:=by
 cases ok with
 | nil bp _=>rw[bp]at hb;cases hb
 | sl bp _ hh=>rw[bp]at hb;obtain rfl:=AI hb;exact (aa1.1 hh).1
 | box bp _ _ hh=>rw[bp]at hb;obtain rfl:=AI hb;exact (aa1.1 hh).1
 | mp bp hh=>rw[bp]at hb;obtain rfl:=AI hb;exact (aa1.1 hh).1
 | it bp hh=>rw[bp]at hb;obtain rfl:=AI hb;exact (aa1.1 hh).1
theorem eu.u1 {H:Heap} (h:eu w X μ H) {r:Nat} (hr:H r=none):μ r=none:=by
 cases hm:μ r with
 | none=>rfl
 | some m=>obtain⟨row,lg⟩:=h.j6 r m hm;rw[hr]at lg;cases lg
structure cT (w w':World):Prop where
 size:w.heap.size<=w'.heap.size
 os:w'.os=w.os
 tape:w'.tape=w.tape
 output:w'.output=w.output
 same:∀ b,b < w.heap.size->w'.heap[b]? = w.heap[b]?
theorem cT.refl (w:World):cT w w:=⟨aa8 _,rfl,rfl,rfl,fun _ _=>rfl⟩
theorem cT.alloc (w:World) (o:Obj):cT w (w.alloc o):=⟨al,rfl,rfl,rfl,fun b hb=>by rw[<- World.alloc_eq];simp[Array.getElem?_push,Nat.ne_of_lt hb]⟩
theorem cT.drew (w:World):cT w w.drew:=⟨aa8 _,rfl,rfl,rfl,fun _ _=>rfl⟩
theorem In.pA (hi:In w X G μ N a σ) (hg:cT w w'):In w' X G μ N a σ/\Ev Mv w μ w' μ:=by
 have ev:Ev Mv w μ w' μ:=⟨hg.size,hg.os,hg.tape,hg.output,fun b hb hr=>⟨hg.same b hb,hr⟩,fun _ _ h _=>h⟩;refine⟨⟨⟨fun r row hr=>?_,hi.bo.j6,hi.bo.inj,hi.bo.frame,fun b hb=>abu (hi.bo.fits b hb) hg.size⟩,⟨hi.env.defers,hi.env.size,fun i x hx=>?_⟩,fun g x hx=>(hi.iu g x hx).ev ev⟩,ev⟩
 .obtain⟨m,hm,ok⟩:=hi.bo.rows r row hr;exact⟨m,hm,ok.same ev (fun _ _ h=>h) fun b hb=>hg.same b (ok.lB hb)⟩
 .obtain⟨u,hu,hr⟩:=hi.env.slot i x hx;exact⟨u,hu,hr.same ev fun _ _ h=>h⟩
theorem In.alloc (hi:In w X G μ N a σ) {d:Nat} (hd:σ.H d=none) (hg:cT w w') {m:jh} (hm:∀ b,m.fh=some b->w.heap.size<=b) {row:Row}
  (ok:Ev Mv w μ w' (eo μ d m)->iH w' X (eo μ d m) m row):In w' X G (eo μ d m) N a ⟨σ.env,bk σ.H d row⟩/\Ev Mv w μ w' (eo μ d m):=by
 have rO:=hi.bo.u1 hd
 have fk:∀ q m',μ q=some m'->eo μ d m q=some m':=by
  intro q m' hq;unfold eo;split
  .rename_i e;subst e;rw[rO]at hq;cases hq
  .exact hq
 have ev:Ev Mv w μ w' (eo μ d m):=by
  refine⟨hg.size,hg.os,hg.tape,hg.output,fun b hb hr=>⟨hg.same b hb,?_⟩,fun _ _ h _=>fk _ _ h⟩;rintro⟨q,m',hq,bp⟩;unfold eo at hq;split at hq
  .obtain rfl:=AI hq;have:=hm b bp;omega
  .exact hr ⟨q,m',hq,bp⟩
 have ok:=ok ev;refine⟨⟨⟨fun r fL hr=>?_,fun r m' hr=>?_,fun r r' m1 m2 b h1 h2 fi eV=>?_,fun r m' b hr hb=>?_,fun b hb=>abu (hi.bo.fits b hb) hg.size⟩,⟨hi.env.defers,hi.env.size,fun i x hx=>?_⟩,fun g x hx=>(hi.iu g x hx).ev ev⟩,ev⟩
 .dsimp only[bk]at hr;split at hr
  .rename_i e;subst e;obtain rfl:=AI hr;exact⟨m,by simp[eo],ok⟩
  .rename_i e;obtain⟨m',cD,sb⟩:=hi.bo.rows r fL hr;exact⟨m',fk r m' cD,sb.same ev fk fun b hb=>hg.same b (sb.lB hb)⟩
 .unfold eo at hr;split at hr
  .rename_i e;exact⟨row,by simp[bk,e]⟩
  .rename_i e;obtain⟨fL,lg⟩:=hi.bo.j6 r m' hr;exact⟨fL,by simp[bk,e,lg]⟩
 .have lt:∀ q m',μ q=some m'->m'.fh=some b->b < w.heap.size:=fun q m' hq hb=>hi.bo.lB ⟨q,m',hq,hb⟩;unfold eo at h1 h2;split at h1<;>split at h2
  .rename_i e1 e2;rw[e1,e2]
  .obtain rfl:=AI h1;have:=hm b fi;have:=lt r' m2 h2 eV;omega
  .obtain rfl:=AI h2;have:=hm b eV;have:=lt r m1 h1 fi;omega
  .exact hi.bo.inj r r' m1 m2 b h1 h2 fi eV
 .unfold eo at hr;split at hr
  .obtain rfl:=AI hr;intro hX;have:=hm b hb;have:=hi.bo.fits b hX;omega
  .exact hi.bo.frame r m' b hr hb
 .obtain⟨u,hu,hr⟩:=hi.env.slot i x hx;exact⟨u,hu,hr.same ev fk⟩
theorem In.write (hi:In w X G μ N a σ) {r b:Nat} {m:jh} (hm:μ r=some m) (hb:m.fh=some b) (hs:w'.heap.size=w.heap.size) (ho:w'.os=w.os) (ht:w'.tape=w.tape) (nD:w'.output=w.output)
  (pM:∀ k,k≠b->w'.heap[k]? = w.heap[k]?) {row:Row} (ok:Ev Mv w μ w' μ->iH w' X μ m row):In w' X G μ N a ⟨σ.env,bk σ.H r row⟩/\Ev Mv w μ w' μ:=by
 have ev:Ev Mv w μ w' μ:=⟨aa,ho,ht,nD,fun k hk hr=>⟨pM k fun e=>hr ⟨r,m,hm,e ▸ hb⟩,hr⟩,fun _ _ h _=>h⟩;have ok:=ok ev;refine⟨⟨⟨fun q fL hq=>?_,fun q m' hq=>?_,hi.bo.inj,hi.bo.frame,fun b hb=>by have:=hi.bo.fits b hb;omega⟩,⟨hi.env.defers,hi.env.size,fun i x hx=>?_⟩,fun g x hx=>(hi.iu g x hx).ev ev⟩,ev⟩
 .dsimp only[bk]at hq;split at hq
  .rename_i e;subst e;obtain rfl:=AI hq;exact⟨m,hm,ok⟩
  .rename_i e;obtain⟨m',cD,sb⟩:=hi.bo.rows q fL hq;exact⟨m',cD,sb.same ev (fun _ _ h=>h) fun k hk=>pM k fun e'=>e (hi.bo.inj q r m' m k cD hm hk (e' ▸ hb))⟩
 .by_cases e:q=r
  .exact⟨row,by simp[bk,e]⟩
  .obtain⟨fL,lg⟩:=hi.bo.j6 q m' hq;exact⟨fL,by simp[bk,e,lg]⟩
 .obtain⟨u,hu,hr⟩:=hi.env.slot i x hx;exact⟨u,hu,hr.same ev fun _ _ h=>h⟩
theorem In.move (hi:In w X G μ N a σ) {r:Nat} {m m':jh} (hm:μ r=some m) (jn:Mv r) (hs:w.heap.size<=w'.heap.size) (ho:w'.os=w.os) (ht:w'.tape=w.tape) (nD:w'.output=w.output)
  (pM:∀ k,k < w.heap.size->m.fh≠some k->w'.heap[k]? = w.heap[k]?) (nC:∀ b,m'.fh=some b->w.heap.size<=b\/m.fh=some b) {row:Row}
  (ok:Ev Mv w μ w' (eo μ r m')->iH w' X (eo μ r m') m' row):In w' X G (eo μ r m') N a ⟨dN r σ.env,bk (dO r σ.H) r row⟩/\Ev Mv w μ w' (eo μ r m'):=by
 have fk:∀ q,q≠r->eo μ r m' q=μ q:=fun q hq=>by simp[eo,hq]
 have ev:Ev Mv w μ w' (eo μ r m'):=by
  refine⟨hs,ho,ht,nD,fun b hb hr=>⟨pM b hb fun e=>hr ⟨r,m,hm,e⟩,?_⟩,fun q mq hq hn=>?_⟩
  .rintro⟨q,mq,hq,jR⟩;unfold eo at hq;split at hq
   .obtain rfl:=AI hq
    rcases nC b jR with h | h
    .omega
    .exact hr ⟨r,m,hm,h⟩
   .exact hr ⟨q,mq,hq,jR⟩
  .have:q≠r:=fun e=>hn (e ▸ jn);rw[fk q this];exact hq
 have ok:=ok ev;refine⟨⟨⟨fun q fL hq=>?_,fun q mq hq=>?_,fun q q' m1 m2 b h1 h2 fi eV=>?_,fun q mq b hq hb=>?_,fun b hb=>abu (hi.bo.fits b hb) hs⟩,⟨hi.env.defers,hi.env.size,fun i x hx=>?_⟩,fun g x hx=>(hi.iu g x hx).ev ev⟩,ev⟩
 .dsimp only[bk]at hq;split at hq
  .rename_i e;subst e;obtain rfl:=AI hq;exact⟨m',by simp[eo],ok⟩
  .rename_i e;unfold dO at hq;obtain⟨nc,h0,rfl⟩:=AS.1 hq;obtain⟨mq,wg,sb⟩:=hi.bo.rows q nc h0;exact⟨mq,(fk q e).trans wg,sb.keep ev fk fun k hk=>pM k (sb.lB hk) fun e'=>e (hi.bo.inj q r mq m k wg hm hk e')⟩
 .by_cases e:q=r
  .exact⟨row,by simp[bk,e]⟩
  .rw[fk q e]at hq;obtain⟨fL,lg⟩:=hi.bo.j6 q mq hq;exact⟨fL.kill r,by simp[bk,e,dO,lg]⟩
 .have lt:∀ q mq,μ q=some mq->mq.fh=some b->b < w.heap.size:=fun q mq hq hb=>hi.bo.lB ⟨q,mq,hq,hb⟩;by_cases e1:q=r<;>by_cases e2:q'=r
  .rw[e1,e2]
  .rw[fk q' e2]at h2;simp only[eo,e1,if_true,BY]at h1;subst h1
   rcases nC b fi with h | h
   .have:=lt q' m2 h2 eV;omega
   .exact absurd (hi.bo.inj q' r m2 m b h2 hm eV h) e2
  .rw[fk q e1]at h1;simp only[eo,e2,if_true,BY]at h2;subst h2
   rcases nC b eV with h | h
   .have:=lt q m1 h1 fi;omega
   .exact absurd (hi.bo.inj q r m1 m b h1 hm fi h) e1
  .rw[fk q e1]at h1;rw[fk q' e2]at h2;exact hi.bo.inj q q' m1 m2 b h1 h2 fi eV
 .by_cases e:q=r
  .simp only[eo,e,if_true,BY]at hq;subst hq
   rcases nC b hb with h | h
   .intro hX;have:=hi.bo.fits b hX;omega
   .exact hi.bo.frame r m b hm h
  .rw[fk q e]at hq;exact hi.bo.frame q mq b hq hb
 .unfold dN at hx;obtain⟨x0,h0,rfl⟩:=AS.1 hx;obtain⟨u,hu,hr⟩:=hi.env.slot i x0 h0;exact⟨u,hu,hr.keep ev fk⟩
theorem Gz (hs:eu w X μ σ.H) {r off n ty sz:Nat} {els:List (List D)} (hH:σ.H r=some (.sl ty sz els)) (hle:off+n<=els.length) {u:Value} (hu:RV w X μ u (.own r off n)) :
  ∃ k,RD w (XX X (fun q=>if q=r then none else μ q)) u (.sl k ((els.drop off).take n))/\(0 < n->k=some true)/\k≠some false:=by
 obtain⟨m,hm,hh⟩:=hu.lp;obtain⟨m',cD,ok⟩:=hs.rows r _ hH;rw[hm]at cD;obtain rfl:=AI cD
 have hX:∀ b,m.fh=some b->¬ XX X (fun q=>if q=r then none else μ q) b:=by
  rintro b hb (h | ⟨q,mq,hq,jR⟩)
  .exact hs.frame r m b hm hb h
  .dsimp only at hq;split at hq
   .cases hq
   .rename_i e;exact e (hs.inj q r mq m b hq hm jR hb)
 rcases hh with⟨hb,rfl,rfl,rfl⟩ | ⟨b,hb,rfl,jl⟩
 .exact⟨none,by simpa using .nil al,aa,al⟩
 .cases ok with
  | nil bp _=>rw[bp]at hb;cases hb
  | sl bp bc hh cK hn ix hl hz hr=>
   rename_i b' cur;rw[hb]at bp;obtain rfl:=AI bp;subst bc;by_cases h0:n=0
   .subst h0;exact⟨some true,by rw[List.take_zero];exact .empty al (by unfold maxLen at *;omega),aa,al⟩
   .refine⟨some true,.sl (sz:=m.sz) (f:=fun i j=>cur.getD ((off+i) * m.sz+j) undef) al (by simp;omega) aa (by unfold maxLen at *;omega) (hX b hb) (fun el bu=>hl el (acg (abi bu))) hz aa ?_ ?_,al,al⟩
    .intro i j hi hj
     have bf:(off+i) * m.sz+j < cur.size:=by
      rw[cK];have:(off+i+1) * m.sz<=m.cap * m.sz:=abl _ aa;rw[abJ]at this;omega
     have e1:off * m.sz+(i * m.sz+j)=(off+i) * m.sz+j:=by rw[abJ];omega
     rw[e1,cell_of_row w b _ cur ty (0,0) hh];simp[aa2,bf]
    .intro i j el c bu hc;rw[abf]at bu;split at bu
     .rw[abB]at bu;obtain⟨u',mO,cm⟩:=hr (off+i) j el c bu hc;rw[aa2,mO];refine cm.mono (aa8 _) fun b hb vU=>⟨rfl,?_⟩;rintro (h | ⟨q,mq,hq,jR⟩)
      .exact vU (.inl h)
      .dsimp only at hq;split at hq
       .cases hq
       .exact vU (.inr ⟨q,mq,hq,jR⟩)
     .cases bu
end
end Go.Av
namespace Go.Av
def D.one:D->Bool
 | .v x=>x.oneCell'
 | .agg _ | .bI _=>false
 | _=>true
def AV.one:AV->Bool
 | .d x=>x.one
 | .own _ _ _ | .ref _ _ _ | .b6 _ _ | .fn _ _ | .mp _=>true
 | _=>false
section
variable {w:World} {X:Nat->Prop} {μ:Mu}
theorem RD.wX {u:Value} {x:D} (h:RD w X u x) (h1:x.one=true):u.oneCell'=true:=by
 cases h<;>first | rfl | exact h1 | cases h1
theorem RV.wX {u:Value} {x:AV} (h:RV w X μ u x) (h1:x.one=true):u.oneCell'=true:=by
 cases h with
 | d h=>exact h.wX h1
 | own _ h=>rcases h with⟨_,rfl,_⟩ | ⟨b,_,rfl,_⟩<;>rfl
 | ref _ _=>rfl
 | b6 _=>rfl
 | fn _ _=>rfl
 | mp _ _=>rfl
 | _=>cases h1
theorem cells_one {u:Value} (h:u.oneCell'=true):u.cells = #[u]:=by cases u<;>first | rfl | cases h
structure xp (w:World) (X:Nat->Prop) (μ:Mu) (arr:Array Value) (cells:List AV):Prop where
 size:arr.size=cells.length
 at_:∀ (j:Nat) (u:Value) (c:AV),arr[j]? = some u->cells[j]? = some c->RV w X μ u c
def gU:AV->Option (List AV)
 | .d (.agg cs)=>some (cs.map .d)
 | .agg cs=>some cs
 | x=>if x.one then some [x] else none
theorem xh {u:Value} {x:AV} {cs:List AV} (hx:RV w X μ u x) (h:gU x=some cs):xp w X μ u.cells cs:=by
 unfold gU at h;split at h
 .obtain rfl:=AI h;obtain⟨arr,rfl,hn,hr⟩:=hx.data.qc;exact⟨by simpa[Value.cells]using hn,RV.wV hr⟩
 .obtain rfl:=AI h;obtain⟨arr,rfl,hn,hr⟩:=hx.qc;exact⟨hn,hr⟩
 .split at h
  .rename_i h1;obtain rfl:=AI h;rw[cells_one (hx.wX h1)];refine⟨rfl,fun j v c hv hc=>?_⟩
   match j,hv,hc with
   | 0,hv,hc=>simp at hv hc;subst hv hc;exact hx
   | j+1,hv,hc=>simp at hc
  .cases h
def kY:Value->List D
 | .agg arr=>arr.toList.map rh
 | v=>[rh v]
theorem xi (v:Value):v.cells.size=(kY v).length/\∀ (j:Nat) (u:Value) (c:D),v.cells[j]? = some u->(kY v)[j]? = some c->RD w X u c:=by
 cases v with
 | agg arr=>
  refine⟨by simp[Value.cells,kY],fun j u c hu hc=>?_⟩;simp only[kY,aa3]at hc;obtain⟨c',dD,rfl⟩:=AS.1 hc;rw[abc]at dD;simp only[Value.cells]at hu;rw[hu]at dD;obtain rfl:=AI dD;exact vF _
 | _=>
  refine⟨rfl,fun j u c hu hc=>?_⟩
  match j,hu,hc with
  | 0,hu,hc=>simp[Value.cells,kY]at hu hc;subst hu hc;exact vF _
  | j+1,hu,hc=>simp[kY]at hc
end
def mo (Mv X:Nat->Prop) (G:aF) (N:Fr) (w:World) (μ:Mu) (a:Act) (run:Result Value) (x:AV) (bz:St):Prop:=
 ∃ v w' aK,run = .ok v w'/\In w' X G aK N a bz/\RV w' X aK v x/\Ev Mv w μ w' aK
section
variable {P:Program} {T:Ty} {Mv X:Nat->Prop} {G:aF} {N:Fr} {w:World} {μ:Mu} {a:Act} {σ:St}
theorem Ls (hi:In w X G μ N a σ) {d:Nat} (hd:σ.H d=none) (t:TypeId) {cur:Array Value} {cells:List AV} (hp:xp w X μ cur cells) :
  mo Mv X G N w μ a (.ok (.pointer (some ⟨w.heap.size,0,none⟩)) (w.alloc (.cells cur t))) (.ref d 0 0) ⟨σ.env,bk σ.H d (.box t cells)⟩:=by
 have rO:=hi.bo.u1 hd
 have hm:eo μ d ⟨some w.heap.size,cells.length,1⟩ d=some ⟨some w.heap.size,cells.length,1⟩:=by simp[eo]
 obtain⟨h1,h2⟩:=hi.alloc (Mv:=Mv) hd (cT.alloc w (.cells cur t)) (m:=⟨some w.heap.size,cells.length,1⟩) (fun b hb=>by simp at hb;omega) (row:=.box t cells) fun ev=>
  .box rfl rfl (show 1<=maxLen by decide) (by simpa using heap_alloc_new w (.cells cur t)) (Nat.le_of_eq hp.size.symm) (hx:=fun _=>hp.size.symm) fun j u c hu hc=>(hp.at_ j u c hu hc).same ev fun q m' hq=>by
   unfold eo;split
   .rename_i e;subst e;rw[rO]at hq;cases hq
   .exact hq
 refine⟨_,_,_,rfl,h1,?_,h2⟩;have:=RV.ref (w:=w.alloc (.cells cur t)) (X:=X) (μ:=eo μ d ⟨some w.heap.size,cells.length,1⟩) (e:=0) (j:=0) (b:=w.heap.size) hm rfl;simpa using this
structure NX (w:World) (X:Nat->Prop) (cur:Array Value) (sz:Nat) (els:List (List D)):Prop where
 len:∀ el∈els,el.length=sz
 at_:∀ (i j:Nat) (el:List D) (c:D),els[i]? = some el->el[j]? = some c->∃ u,cur[i * sz+j]? = some u/\RD w X u c
theorem Lt (hi:In w X G μ N a σ) {d:Nat} (hd:σ.H d=none) (t:TypeId) {cur:Array Value} {sz n cap:Nat} {els:List (List D)} (he:NX w (XX X μ) cur sz els) (hz:0 < sz) (hc:cur.size=cap * sz) (hn:els.length=n) (jl:n<=cap) (Sk:cap<=maxLen) :
  mo Mv X G N w μ a (.ok (.slice (some ⟨w.heap.size,0,none⟩) n cap) (w.alloc (.cells cur t))) (.own d 0 n) ⟨σ.env,bk σ.H d (.sl t sz els)⟩:=by
 have hm:eo μ d ⟨some w.heap.size,sz,cap⟩ d=some ⟨some w.heap.size,sz,cap⟩:=by simp[eo]
 obtain⟨h1,h2⟩:=hi.alloc (Mv:=Mv) hd (cT.alloc w (.cells cur t)) (m:=⟨some w.heap.size,sz,cap⟩) (fun b hb=>by simp at hb;omega) (row:=.sl t sz els) fun ev=>
  .sl rfl rfl (by simpa using heap_alloc_new w (.cells cur t)) hc (by simp;omega) Sk he.len hz fun i j el c h1 h2=>let ⟨u,hu,hr⟩:=he.at_ i j el c h1 h2;⟨u,hu,hr.ev ev⟩
 exact⟨_,_,_,rfl,h1,.own hm (.inr ⟨w.heap.size,rfl,al,by simpa using jl⟩),h2⟩
theorem Oi (hg:Good P T) (hi:In w X G μ N a σ) {d:Nat} (hd:σ.H d=none) {t:TypeId} {ti:TI} (ht:T t=some ti) :
  mo Mv X G N w μ a ((Instr.alloc t true (.tuple #[])).run P w) (.ref d 0 0) ⟨σ.env,bk σ.H d (.box t ((kY ti.zero).map .d))⟩:=by
 have:=Ls (Mv:=Mv) hi hd t (cur:=ti.zero.cells) (cells:=(kY ti.zero).map .d) ⟨by simpa using (xi (w:=w) (X:=X) ti.zero).1,RV.wV (xi ti.zero).2⟩;simpa[Instr.alloc,hg.zero ht,newVar,newRow]using this
theorem O3 (hi:In w X G μ N a σ) {d:Nat} (hd:σ.H d=none) {t:TypeId} {u:Value} {x:AV} {cs:List AV} (hx:RV w X μ u x) (hc:gU x=some cs) :
  mo Mv X G N w μ a ((Instr.box t u).run P w) (.ref d 0 0) ⟨σ.env,bk σ.H d (.box t cs)⟩:=by
 have:=Ls (Mv:=Mv) hi hd t (xh hx hc);simpa[Instr.box,newVar,newRow]using this
theorem xb {α:Type} (l cs:List α) (j i:Nat) (hj:j+cs.length<=l.length):(l.take j ++ cs ++ l.drop (j+cs.length))[i]? = if j<=i/\i < j+cs.length then cs[i - j]? else l[i]?:=by
 rw[aco,ach];simp only[abk]
 have e1:min j l.length=j:=aa
 rw[e1];split
 .rename_i h;rw[if_neg aa,abf,if_pos h]
 .rename_i h;rw[ach];split
  .rename_i h2;rw[if_pos aa]
  .rename_i h2;rw[if_neg aa,abB];congr 1;omega
theorem MP {ti:TI} {t:TypeId} (hg:Good P T) (ht:T t=some ti) {b o:Nat} {ty:TypeId} {cur:Array Value} {u:Value} (hh:w.heap[b]? = some (.cells cur ty (0,0))) (hs:u.cells.size=ti.size) (j8:o+ti.size<=cur.size) (h1:∀ v∈u.cells.toList,v.oneCell'=true) :
  (storeVar t ⟨b,o,none⟩ u).run P w = .ok () (w.setRow b (cur.toList.take o ++ u.cells.toList ++ cur.toList.drop (o+u.cells.toList.length)).toArray):=by
 have:=run_storeCells_at P b o ty u.cells.toList 0 cur w hh (by simp;omega) h1;simp only[abT]at this;simp[storeVar,hg.sizeOf ht,hs,this]
def CE (T:Ty) (t:TypeId) (cells:List AV) (j:Nat) (x:AV):Option (Prop×List AV):=match T t,gU x with
 | some ti,some cs=>some (cs.length=ti.size/\j+cs.length<=cells.length/\cs.all AV.one=true,cells.take j ++ cs ++ cells.drop (j+cs.length))
 | _,_=>none
theorem YD (hg:Good P T) (hi:In w X G μ N a σ) {t ty:TypeId} {r j:Nat} {cells sD:List AV} {ua u:Value} {x:AV} {c:Prop} (hH:σ.H r=some (.box ty cells)) (h:CE T t cells j x=some (c,sD)) (hc:c)
  (ha:RV w X μ ua (.ref r 0 j)) (hx:RV w X μ u x):∃ w',(Instr.storeAt t ua u).run P w = .ok () w'/\In w' X G μ N a ⟨σ.env,bk σ.H r (.box ty sD)⟩/\Ev Mv w μ w' μ:=by
 unfold CE at h;split at h
 .rename_i ti cs ht cK;obtain⟨rfl,rfl⟩:=dI h;obtain⟨h1,h2,h3⟩:=hc;obtain⟨m,b,hm,hb,rfl⟩:=ha.jd;obtain⟨m',cD,ok⟩:=hi.bo.rows r _ hH;rw[hm]at cD;obtain rfl:=AI cD;have hp:=xh hx cK
  cases ok with
  | box bp bc jl hh hn hr wE=>
   rename_i b' cur;rw[hb]at bp;obtain rfl:=AI bp
   have gn:∀ v∈u.cells.toList,v.oneCell'=true:=by
    intro v hv;obtain⟨i,eO,rfl⟩:=abv.1 hv
    have jB:i < cs.length:=by rw[<- hp.size];simpa using eO
    refine (hp.at_ i _ cs[i] (by rw[<- abc,IN eO]) (by simp[jB])).wX ?_;exact abP.1 h3 _ (aa6 jB)
   have e9:=MP (P:=P) hg ht (o:=j) hh (by rw[hp.size,h1]) aa gn
   have qz:u.cells.toList.length=cs.length:=by simpa using hp.size
   obtain⟨bn,br⟩:=hi.write (Mv:=Mv) (w':=w.setRow b (cur.toList.take j ++ u.cells.toList ++ cur.toList.drop (j+u.cells.toList.length)).toArray) hm hb al rfl rfl rfl (fun k hk=>setRow_other w b k _ hk)
    (row:=.box ty (cells.take j ++ cs ++ cells.drop (j+cs.length))) fun ev=>by
     refine .box hb rfl jl (setRow_heap w b cur _ ty _ hh) ?_ (hx:=fun e=>?_) fun i v c hv hc=>?_
     .simp[qz];omega
     rotate_left
     .have:=wE e;simp[qz];omega
     .rw[xb _ _ _ _ h2]at hc;rw[<- abc]at hv;simp only at hv;rw[xb _ _ _ _ (by rw[qz];simp;omega),qz]at hv;refine RV.same ev (fun _ _ h=>h) ?_;split at hv
      .rename_i oF;rw[if_pos oF]at hc;exact hp.at_ _ v c (by simpa using hv) hc
      .rename_i oF;rw[if_neg oF]at hc;exact hr i v c (by simpa using hv) hc
   refine⟨_,?_,bn,br⟩;simp only[ab6,abe];simpa[Instr.storeAt,Instr.sureAddr]using e9
 .cases h
def CF (T:Ty) (t:TypeId) (sz:Nat) (els:List (List D)) (e j:Nat) (x:AV):Option (Prop×List (List D)):=match T t,(gU x).bind kA with
 | some ti,some cs=>some (cs.length=ti.size/\e < els.length/\j+cs.length<=sz/\cs.all D.one=true,els.set e ((els.getD e []).take j ++ cs ++ (els.getD e []).drop (j+cs.length)))
 | _,_=>none
theorem YE (hg:Good P T) (hi:In w X G μ N a σ) {t ty:TypeId} {r e j sz:Nat} {els mB:List (List D)} {ua u:Value} {x:AV} {c:Prop} (hH:σ.H r=some (.sl ty sz els)) (h:CF T t sz els e j x=some (c,mB)) (hc:c)
  (ha:RV w X μ ua (.ref r e j)) (hx:RV w X μ u x):∃ w',(Instr.storeAt t ua u).run P w = .ok () w'/\In w' X G μ N a ⟨σ.env,bk σ.H r (.sl ty sz mB)⟩/\Ev Mv w μ w' μ:=by
 unfold CF at h;split at h
 .rename_i ti ds ht cK;obtain⟨cs,cK,ld⟩:=abd.1 cK;obtain⟨rfl,rfl⟩:=dI h;obtain⟨h1,h2,h3,h4⟩:=hc;obtain⟨m,b,hm,hb,rfl⟩:=ha.jd;obtain⟨m',cD,ok⟩:=hi.bo.rows r _ hH;rw[hm]at cD;obtain rfl:=AI cD;have hp:=xh hx cK;rw[oV ld]at hp
  have cR:u.cells.size=ds.length:=by simpa using hp.size
  have Bw:∀ (i:Nat) (v:Value) (c:D),u.cells[i]? = some v->ds[i]? = some c->RD w (XX X μ) v c:=fun i v c hv hc=>(hp.at_ i v (.d c) hv (by rw[aa3,hc];rfl)).data
  cases ok with
  | nil bp _=>rw[hb]at bp;cases bp
  | sl bp bc hh Er hn ix hl hz hr=>
   rename_i b' cur;rw[hb]at bp;obtain rfl:=AI bp;subst bc
   have gn:∀ v∈u.cells.toList,v.oneCell'=true:=by
    intro v hv;obtain⟨i,eO,rfl⟩:=abv.1 hv
    have jB:i < ds.length:=by rw[<- cR];simpa using eO
    refine (Bw i _ ds[i] (by rw[<- abc,IN eO]) (by simp[jB])).wX ?_;exact abP.1 h4 _ (aa6 jB)
   have bu:els.getD e []=els[e]:=by simp[aa5,h2]
   have hlen:(els[e]).length=m.sz:=hl _ (aa6 h2);have hE:(e+1) * m.sz<=m.cap * m.sz:=abl _ aa;rw[abJ]at hE;have e9:=MP (P:=P) hg ht (o:=e * m.sz+j) hh (by rw[cR,h1]) (by rw[Er];omega) gn
   have qz:u.cells.toList.length=ds.length:=by simpa using cR
   rw[bu]
   obtain⟨bn,br⟩:=hi.write (Mv:=Mv) (w':=w.setRow b (cur.toList.take (e * m.sz+j) ++ u.cells.toList ++ cur.toList.drop (e * m.sz+j+u.cells.toList.length)).toArray) hm hb al rfl rfl rfl (fun k hk=>setRow_other w b k _ hk)
    (row:=.sl ty m.sz (els.set e ((els[e]).take j ++ ds ++ (els[e]).drop (j+ds.length)))) fun ev=>by
     refine .sl hb rfl (setRow_heap w b cur _ ty _ hh) ?_ (by simpa using hn) ix ?_ hz ?_
     .simp[qz,Er];omega
     .intro el yh
      rcases List.mem_or_eq_of_mem_set yh with h | rfl
      .exact hl el h
      .simp[hlen];omega
     .intro i k el c eO hk
      have key:∀ idx,((cur.toList.take (e * m.sz+j) ++ u.cells.toList ++ cur.toList.drop (e * m.sz+j+u.cells.toList.length)).toArray)[idx]? = if e * m.sz+j<=idx/\idx < e * m.sz+j+ds.length then u.cells[idx - (e * m.sz+j)]? else cur[idx]?:=by
       intro idx;rw[<- abc];simp only;rw[xb _ _ _ _ (by rw[qz];simp[Er];omega),qz];simp
      rw[key]
      have de:k < m.sz:=by
       have cD:el∈els.set e ((els[e]).take j ++ ds ++ (els[e]).drop (j+ds.length)):=abR eO
       have:el.length=m.sz:=by
        rcases List.mem_or_eq_of_mem_set cD with h | rfl
        .exact hl el h
        .simp[hlen];omega
       have:=(By.1 hk).1;omega
      rw[List.getElem?_set]at eO;split at eO
      .rename_i Ew;subst Ew
       try rw[if_pos h2]at eO
       obtain rfl:=AI eO;rw[xb _ _ _ _ aa]at hk;split at hk
       .rename_i ur;rw[if_pos aa]
        have e1:e * m.sz+k - (e * m.sz+j)=k - j:=aa
        rw[e1]
        have bf:k - j < u.cells.size:=aa
        exact⟨u.cells[k - j],by simp[bf],(Bw (k - j) _ c (by simp[bf]) hk).ev ev⟩
       .rename_i ur;rw[if_neg aa];obtain⟨v,hv,cm⟩:=hr e k _ c (IN h2) hk;exact⟨v,hv,cm.ev ev⟩
      .rename_i Ew
       have bw:¬ (e * m.sz+j<=i * m.sz+k/\i * m.sz+k < e * m.sz+j+ds.length):=by
        rintro⟨g1,g2⟩
        rcases Nat.lt_or_gt_of_ne Ew with h | h
        .have:(e+1) * m.sz<=i * m.sz:=abl _ h;rw[abJ]at this;omega
        .have:(i+1) * m.sz<=e * m.sz:=abl _ h;rw[abJ]at this;omega
       rw[if_neg bw];obtain⟨v,hv,cm⟩:=hr i k el c eO hk;exact⟨v,hv,cm.ev ev⟩
   refine⟨_,?_,bn,br⟩;simpa[Instr.storeAt,Instr.sureAddr]using e9
 .cases h
def r9 (ti:TI) (n:Nat):List (List D):=List.replicate n (kY ti.zero)
theorem Uw (hg:Good P T) (hi:In w X G μ N a σ) {d:Nat} (hd:σ.H d=none) {t e:TypeId} {tt te:TI} (dY:T t=some tt) (dM:tt.desc = .slice e) (cH:T e=some te) {k1 k2:IntKind} {l c:Int} (h0:0<=l) (h1:l<=c) (h2:te.bytes * c<=281474976710656) (h3:c<=9223372036854775807)
  (hz:0 < te.size) (r3:(kY te.zero).length=te.size) :
  mo Mv X G N w μ a ((Instr.makeSlice t (.int k1 l) (.int k2 c)).run P w) (.own d 0 l.toNat) ⟨σ.env,bk σ.H d (.sl e te.size (r9 te l.toNat))⟩:=by
 obtain⟨hu,i0,l8,gF,pC,oL,_⟩:=hg e te cH;have ht:=(hg t tt dY).1;rw[dM]at ht;rw[run_make (P:=P) w t e i0 te.zero ht l8 oL k1 k2 l c h0 h1 (by rw[pC];exact h2) h3,gF];refine Lt (Mv:=Mv) hi hd e ⟨fun el bu=>?_,fun i j el d bu hd=>?_⟩ hz (size_madeCells _ _) (by simp[r9]) aa (by unfold maxLen;omega)
 .rw[List.eq_of_mem_replicate bu,r3]
 .unfold r9 at bu;rw[List.getElem?_replicate]at bu;split at bu
  .rename_i bf;obtain rfl:=AI bu
   have hj:j < te.size:=by rw[<- r3];exact (By.1 hd).1
   have r0:=xi (w:=w) (X:=XX X μ) te.zero
   have cK:te.zero.cells.size=te.size:=by rw[r0.1,r3]
   have yo:j < te.zero.cells.size:=aa
   refine⟨te.zero.cells[j],?_,r0.2 j _ d (by simp[yo]) hd⟩
   have hb:i * te.size+j < c.toNat * te.size:=by
    have:(i+1) * te.size<=c.toNat * te.size:=abl _ aa;rw[abJ]at this;omega
   have E2:(i * te.size+j) % te.size=j:=by rw[Nat.mul_comm,Nat.mul_add_mod,Nat.mod_eq_of_lt hj]
   simp[madeCells,hb,cK,E2];exact getElem!_pos te.zero.cells j yo
  .cases bu
end
end Go.Av
namespace Go.Av
section
variable {P:Program} {T:Ty} {Mv X:Nat->Prop} {G:aF} {N:Fr} {w:World} {μ:Mu} {a:Act} {σ:St}
def sB (sz:Nat):Nat->List (Nat×AV)->Option (List (List D))
 | _,[]=>some []
 | k,(i,x) :: rest=>if i=k then match (gU x).bind kA with
   | some ds=>if ds.length=sz then (sB sz (k+1) rest).map (ds :: ·) else none
   | none=>none
  else none
theorem Mc (vs:List Value):∀ (n off:Nat) (arr:Array Value) (k:Nat),off+n+vs.length<=arr.size->
  ((vs.zipIdx n).foldl (fun cs (p:Value×Nat)=>cs.setIfInBounds (off+p.2) p.1) arr)[k]? = if off+n<=k/\k < off+n+vs.length then vs[k - (off+n)]? else arr[k]?:=by
 induction vs with
 | nil=>
  intro n off arr k _;simp only[List.zipIdx_nil,List.foldl_nil,abX];rw[if_neg aa]
 | cons v vs ih=>
  intro n off arr k hk;simp only[aa9]at hk;rw[List.zipIdx_cons,List.foldl_cons,ih (n+1) off _ k (by simp;omega)];simp only[aa9];by_cases h1:k=off+n
  .subst h1;rw[if_neg aa,if_pos aa];simp[Array.getElem?_setIfInBounds,show off+n < arr.size by omega]
  .by_cases h2:off+(n+1)<=k/\k < off+(n+1)+vs.length
   .rw[if_pos h2,if_pos aa]
    have:k - (off+n)=(k - (off+(n+1)))+1:=aa
    rw[this];rfl
   .rw[if_neg h2,if_neg aa];exact Array.getElem?_setIfInBounds_ne aa
theorem Md (vs:List Value):∀ (n off:Nat) (arr:Array Value),((vs.zipIdx n).foldl (fun cs (p:Value×Nat)=>cs.setIfInBounds (off+p.2) p.1) arr).size=arr.size:=by
 induction vs with
 | nil=>intros;rfl
 | cons v vs ih=>intro n off arr;rw[List.zipIdx_cons,List.foldl_cons,ih];simp
theorem I0 {sz:Nat}:∀ (ps:List (Nat×AV)) (vs:List (Nat×Value)) (k:Nat) (els:List (List D)) (arr:Array Value),sB sz k ps=some els->vs.map (·.1)=ps.map (·.1)->
  (∀ (i:Nat) (p:Nat×AV) (v:Nat×Value),ps[i]? = some p->vs[i]? = some v->RV w X μ v.2 p.2)->(k+ps.length) * sz<=arr.size->
  ∃ jN,Instr.fill (fun i=>some (i * sz,sz)) arr vs=some jN/\jN.size=arr.size/\(∀ idx,idx < k * sz->jN[idx]? = arr[idx]?)/\els.length=ps.length/\(∀ el∈els,el.length=sz)/\
   ∀ (i j:Nat) (el:List D) (c:D),els[i]? = some el->el[j]? = some c->∃ u,jN[(k+i) * sz+j]? = some u/\RD w (XX X μ) u c:=by
 intro ps
 induction ps with
 | nil=>
  intro vs k els arr h hv _ _
  cases vs with
  | cons _ _=>simp at hv
  | nil=>
   simp only[sB,BY]at h;subst h;exact⟨arr,rfl,rfl,fun _ _=>rfl,rfl,al,al⟩
 | cons p ps ih=>
  intro vs k els arr h hv hr hs;obtain⟨i,x⟩:=p
  cases vs with
  | nil=>simp at hv
  | cons v vs=>
   obtain⟨i',u⟩:=v;simp only[abj,acw]at hv;obtain⟨rfl,hv⟩:=hv;simp only[sB]at h;split at h
   case isFalse=>cases h
   rename_i yn;subst yn;split at h
   case h_2=>cases h
   rename_i ds ld;split at h
   case isFalse=>cases h
   rename_i hlen;obtain⟨mB,rG,rfl⟩:=AS.1 h;obtain⟨cs,cK,dk⟩:=abd.1 ld;have hp:=xh (hr 0 (i',x) (i',u) rfl rfl) cK;rw[oV dk]at hp
   have cR:u.cells.size=sz:=by have:=hp.size;simp at this;omega
   have Bw:∀ (j:Nat) (v:Value) (c:D),u.cells[j]? = some v->ds[j]? = some c->RD w (XX X μ) v c:=fun j v c hv hc=>(hp.at_ j v (.d c) hv (by rw[aa3,hc];rfl)).data
   have j8:i' * sz+sz<=arr.size:=by
    simp only[aa9]at hs;have:(i'+1) * sz<=(i'+(ps.length+1)) * sz:=abl _ aa;rw[abJ]at this;omega
   let j2:=(u.cells.zipIdx.foldl (fun cs (p:Value×Nat)=>cs.setIfInBounds (i' * sz+p.2) p.1) arr)
   have x7:j2=((u.cells.toList.zipIdx 0).foldl (fun cs (p:Value×Nat)=>cs.setIfInBounds (i' * sz+p.2) p.1) arr):=by
    show Array.foldl _ _ _=_;rw[<- Array.foldl_toList,Array.toList_zipIdx]
   have Bz:j2.size=arr.size:=by rw[x7];exact Md _ _ _ _
   have Bj:∀ k,j2[k]? = if i' * sz<=k/\k < i' * sz+sz then u.cells[k - i' * sz]? else arr[k]?:=by
    intro k;rw[x7,Mc _ 0 _ _ _ (by simp[cR];omega)];simp[cR]
   obtain⟨jN,hf,sW,hold,hlen',Ee,nC⟩:=ih vs (i'+1) mB j2 rG hv (fun i p v h1 h2=>hr (i+1) p v (by simpa using h1) (by simpa using h2)) (by rw[Bz];simp only[aa9]at hs;rw[show i'+1+ps.length=i'+(ps.length+1) by omega];exact hs);refine⟨jN,?_,sW.trans Bz,fun idx Bn=>?_,by simp[hlen'],fun el bu=>?_,fun i j el c hi hj=>?_⟩
   .simp only[Instr.fill]
    have:¬ (u.cells.size≠sz\/i' * sz+u.cells.size > arr.size):=aa
    simp only[cR,ne_eq,not_true_eq_false,decide_false,Bool.false_or,decide_eq_true_eq];rw[if_neg aa];exact hf
   .rw[hold idx (by rw[abJ];omega),Bj,if_neg aa]
   .rcases abg.1 bu with rfl | h
    .exact hlen
    .exact Ee el h
   .cases i with
    | zero=>
     simp at hi;subst hi
     have fH:j < sz:=by rw[<- hlen];exact (By.1 hj).1
     have JL:j < u.cells.size:=aa
     refine⟨u.cells[j],?_,Bw j _ c (by simp[JL]) hj⟩;rw[abT,hold _ (by rw[abJ];omega),Bj,if_pos aa];simp[JL]
    | succ i=>
     simp at hi;have:=nC i j el c hi hj
     rwa [show i'+1+i=i'+(i+1) by omega]at this
theorem O5 (hg:Good P T) (hi:In w X G μ N a σ) {d:Nat} (hd:σ.H d=none) {t e:TypeId} {tt te:TI} (dY:T t=some tt) (dM:tt.desc = .slice e) (cH:T e=some te) {len:Nat} {ps:List (Nat×AV)} {vs:Array (Nat×Value)} {els:List (List D)}
  (Rh:sB te.size 0 ps=some els) (hlen:ps.length=len) (hv:vs.toList.map (·.1)=ps.map (·.1)) (hr:∀ (i:Nat) (p:Nat×AV) (v:Nat×Value),ps[i]? = some p->vs[i]? = some v->RV w X μ v.2 p.2)
  (hz:0 < te.size) (J7:len * te.size<=16777216) :
  mo Mv X G N w μ a ((Instr.buildSlice t len vs).run P w) (.own d 0 len) ⟨σ.env,bk σ.H d (.sl e te.size els)⟩:=by
 have hu:=hg.dA (w:=w) dY;have bc:=hg.sizeOf (w:=w) cH;have y5:=hg.zero (w:=w) cH
 obtain⟨jN,hf,sW,_,hl,dk,nC⟩:=I0 (w:=w) (X:=X) (μ:=μ) (sz:=te.size) ps vs.toList 0 els ((Array.range (len * te.size)).map ((if len * te.size=0 then #[] else te.zero.cells)[· % (if len * te.size=0 then #[] else te.zero.cells).size]!)) Rh hv
  (fun i p v h1 h2=>hr i p v h1 (by rwa [abc]at h2)) (by simp[hlen])
 have:=Lt (Mv:=Mv) hi hd e (cur:=jN) (sz:=te.size) (n:=len) (cap:=len) (els:=els) ⟨dk,fun i j el c h1 h2=>by simpa using nC i j el c h1 h2⟩ hz (by rw[sW];simp) aa (aa8 _) (by
  have:len<=len * te.size:=Nat.le_mul_of_pos_right _ hz
  unfold maxLen;omega)
 have hn:¬ len * te.size > 2 ^ 24:=aa
 have e0:∀ f:Nat->Value,(Array.range 0).map f = #[]:=fun f=>by apply Array.ext<;>simp
 by_cases h0:len * te.size=0
 .simp only[h0,if_true,e0]at hf;simp only[Instr.buildSlice,Sem.run_bind,hu,dM,Result.andThen_ok,bc,hn,if_false,h0,if_true,Sem.run_pure,e0];simp[hf,newRow];exact this
 .simp only[h0,if_false]at hf;simp only[Instr.buildSlice,Sem.run_bind,hu,dM,Result.andThen_ok,bc,hn,if_false,h0,Sem.run_pure,y5];simp[hf,newRow];exact this
def vN (pl:Nat->Option (Nat×Nat)):List AV->List (Nat×AV)->Option (List AV)
 | cs,[]=>some cs
 | cs,(i,x) :: rest=>match pl i,gU x with
  | some (off,sz),some xs=>if xs.length=sz/\off+sz<=cs.length then vN pl (cs.take off ++ xs ++ cs.drop (off+sz)) rest else none
  | _,_=>none
theorem Ql {pl:Nat->Option (Nat×Nat)}:∀ (ps:List (Nat×AV)) (vs:List (Nat×Value)) (cs xD:List AV) (arr:Array Value),vN pl cs ps=some xD->vs.map (·.1)=ps.map (·.1)->
  (∀ (i:Nat) (p:Nat×AV) (v:Nat×Value),ps[i]? = some p->vs[i]? = some v->RV w X μ v.2 p.2)->xp w X μ arr cs->∃ jN,Instr.fill pl arr vs=some jN/\xp w X μ jN xD:=by
 intro ps
 induction ps with
 | nil=>
  intro vs cs xD arr h hv _ hp
  cases vs with
  | cons _ _=>simp at hv
  | nil=>
   simp only[vN,BY]at h;subst h;exact⟨arr,rfl,hp⟩
 | cons p ps ih=>
  intro vs cs xD arr h hv hr hp;obtain⟨i,x⟩:=p
  cases vs with
  | nil=>simp at hv
  | cons v vs=>
   obtain⟨i',u⟩:=v;simp only[abj,acw]at hv;obtain⟨rfl,hv⟩:=hv;simp only[vN]at h;split at h
   case h_2=>cases h
   rename_i off sz xs cR Ta;split at h
   case isFalse=>cases h
   rename_i hc;obtain⟨lQ,j8⟩:=hc;have JZ:=xh (hr 0 (i',x) (i',u) rfl rfl) Ta
   have Fz:u.cells.size=sz:=by rw[JZ.size,lQ]
   have Z2:arr.size=cs.length:=hp.size
   let j2:=(u.cells.zipIdx.foldl (fun cs (p:Value×Nat)=>cs.setIfInBounds (off+p.2) p.1) arr)
   have x7:j2=((u.cells.toList.zipIdx 0).foldl (fun cs (p:Value×Nat)=>cs.setIfInBounds (off+p.2) p.1) arr):=by
    show Array.foldl _ _ _=_;rw[<- Array.foldl_toList,Array.toList_zipIdx]
   have Bz:j2.size=arr.size:=by rw[x7];exact Md _ _ _ _
   have Bj:∀ k,j2[k]? = if off<=k/\k < off+sz then u.cells[k - off]? else arr[k]?:=by
    intro k;rw[x7,Mc _ 0 _ _ _ (by simp[Fz];omega)];simp[Fz]
   have ke:xp w X μ j2 (cs.take off ++ xs ++ cs.drop (off+sz)):=by
    refine⟨by rw[Bz];simp;omega,fun j v c uP hc=>?_⟩;rw[Bj]at uP
    have iM:(List.take off cs).length=off:=by simp;omega
    rw[aco,ach,iM]at hc;split at hc
    .rename_i hj;rw[if_neg aa]at uP;rw[abf,if_pos hj]at hc;exact hp.at_ j v c uP hc
    .rename_i hj;rw[ach,lQ]at hc;split at hc
     .rename_i sQ;rw[if_pos aa]at uP;exact JZ.at_ _ v c uP hc
     .rename_i sQ;rw[if_neg aa]at uP;rw[abB]at hc;refine hp.at_ j v c uP ?_;rw[<- hc];congr 1;omega
   obtain⟨jN,hf,SD⟩:=ih vs _ xD j2 h hv (fun i p v h1 h2=>hr (i+1) p v (by simpa using h1) (by simpa using h2)) ke;refine⟨jN,?_,SD⟩;simp only[Instr.fill,cR,Fz,ne_eq,not_true_eq_false,decide_false,Bool.false_or,decide_eq_true_eq];rw[if_neg aa];exact hf
def GJ (T:Ty) (t:TypeId):Option (Nat->Option (Nat×Nat)):=match T t with
 | some ti=>match ti.desc with
  | .struct fs=>if fs.toList.all (fun f=>(T f.type).isSome) then some fun i=>(fs[i]?).bind fun (f:Field)=>(T f.type).map fun tf=>(f.offset,tf.size) else none
  | .array _ e=>(T e).map fun te=>fun i=>some (i * te.size,te.size)
  | _=>none
 | none=>none
def Ao (T:Ty) (t:TypeId) (ps:List (Nat×AV)):jy:=match T t,GJ T t with
 | some ti,some pl=>(vN pl ((kY ti.zero).map .d) ps).map fun cs=>(True,oO cs)
 | _,_=>none
theorem run_places (hg:Good P T):∀ (l:List Field),l.all (fun f=>(T f.type).isSome)=true->
  (l.mapM (m:=Sem) fun (f:Field)=>do pure (f.offset,<- Go.sizeOf f.type)).run P w = .ok (l.map fun (f:Field)=>(f.offset,((T f.type).map (·.size)).getD 0)) w:=by
 intro l
 induction l with
 | nil=>intro _;simp
 | cons f l ih=>
  intro h;simp only[List.all_cons,OF]at h;obtain⟨ti,Fv⟩:=acf.1 h.1;simp only[List.mapM_cons,Sem.run_bind,hg.sizeOf Fv,Result.andThen_ok,Sem.run_pure,ih h.2,abj,Fv,abC,acs]
theorem O4 (hg:Good P T) {t:TypeId} {ps:List (Nat×AV)} {vs:Array (Nat×Value)} {c:Prop} {x:AV} (h:Ao T t ps=some (c,x)) (hv:vs.toList.map (·.1)=ps.map (·.1))
  (hr:∀ (i:Nat) (p:Nat×AV) (v:Nat×Value),ps[i]? = some p->vs[i]? = some v->RV w X μ v.2 p.2):∃ u,(Instr.build t vs).run P w = .ok u w/\RV w X μ u x:=by
 unfold Ao at h;split at h
 case h_2=>cases h
 rename_i ti pl ht cR;obtain⟨cs,cK,he⟩:=AS.1 h;simp only[aa4]at he;obtain⟨_,rfl⟩:=he;have hz:=xi (w:=w) (X:=XX X μ) ti.zero;obtain⟨jN,hf,hp⟩:=Ql (w:=w) (X:=X) (μ:=μ) ps vs.toList _ cs ti.zero.cells cK hv (fun i p v h1 h2=>hr i p v h1 (by rwa [abc]at h2)) ⟨by simpa using hz.1,RV.wV hz.2⟩;refine⟨.agg jN,?_,zi (.agg hp.size hp.at_)⟩;unfold GJ at cR;rw[ht]at cR;dsimp only at cR;split at cR
 .rename_i fs RM;split at cR
  .rename_i dk;obtain rfl:=AI cR;have hm:=run_places (P:=P) (w:=w) hg fs.toList dk
   have SG:(fun (i:Nat)=>((fs.toList.map fun (f:Field)=>(f.offset,((T f.type).map (·.size)).getD 0)).toArray)[i]?)=fun (i:Nat)=>(fs[i]?).bind fun (f:Field)=>(T f.type).map fun tf=>(f.offset,tf.size):=by
    funext i;simp only[List.getElem?_toArray,aa3,abc]
    cases hi:fs[i]? with
    | none=>rfl
    | some f=>
     have o5:f∈fs.toList:=by rw[<- abc]at hi;exact abR hi
     obtain⟨tf,BA⟩:=acf.1 (abP.1 dk f o5);simp[BA]
   simp only[Instr.build,Sem.run_bind,hg.zero ht,hg.dA ht,RM,Result.andThen_ok,Array.mapM_eq_mapM_toList,map_eq_pure_bind,hm,Sem.run_pure];rw[<- SG]at hf;simp only[hf,Sem.run_pure]
  .cases cR
 .rename_i n e he;obtain⟨te,cH,cR⟩:=AS.1 cR;subst cR;simp[Instr.build,Sem.run_bind,hg.zero ht,hg.dA ht,he,Result.andThen_ok,hg.sizeOf cH,hf]
 .cases cR
structure qW (w:World) (X:Nat->Prop) (μ:Mu) (sz:Nat) (u:Value) (els:List (List D)):Prop where
 len:∀ el∈els,el.length=sz
 at_:(els=[]/\∃ (ad:Option Addr) (cap:Nat),u = .slice ad 0 cap)\/∃ (ad:Addr) (cap:Nat) (news:List Value),u = .slice (some ad) els.length cap/\news.length=els.length * sz/\(∀ (j:Nat) (v:Value),news[j]? = some v->w.cell? (ad.add j)=some v)/\(∀ v∈news,v.oneCell'=true)/\
  ∀ (i j:Nat) (el:List D) (c:D),els[i]? = some el->el[j]? = some c->∃ v,news[i * sz+j]? = some v/\RD w (XX X μ) v c
theorem qW.LA {sz:Nat} {els:List (List D)} {b off cap:Nat} (f:Nat->Nat->Value) (hl:∀ el∈els,el.length=sz) (hz:0 < sz) (h1:∀ el∈els,∀ c∈el,D.one c=true)
  (dW:∀ i j,i < els.length->j < sz->w.cell? ⟨b,off+(i * sz+j),none⟩=some (f i j)) (hr:∀ (i j:Nat) (el:List D) (c:D),els[i]? = some el->el[j]? = some c->RD w (XX X μ) (f i j) c) :
  qW w X μ sz (.slice (some ⟨b,off,none⟩) els.length cap) els:=by
 refine⟨hl,.inr ⟨_,_,(List.range (els.length * sz)).map fun k=>f (k / sz) (k % sz),rfl,al,fun j v hv=>?_,fun v hv=>?_,fun i j el c hi hj=>?_⟩⟩
 .rw[aa3]at hv;obtain⟨k,hk,rfl⟩:=AS.1 hv;rw[List.getElem?_range]at hk
  .obtain rfl:=AI hk
   have R3:j < els.length * sz:=by
    rcases ab7 j (els.length * sz)with h | h
    .exact h
    .rw[abS (by simpa using h)]at hv;cases hv
   have h2:j / sz < els.length:=(Nat.div_lt_iff_lt_mul hz).2 R3;have h3:j % sz < sz:=Nat.mod_lt _ hz;rw[addr_add,<- dW (j / sz) (j % sz) h2 h3,Nat.div_add_mod']
  .rcases ab7 j (els.length * sz)with h | h
   .exact h
   .rw[abS (by simpa using h)]at hv;cases hv
 .obtain⟨k,hk,rfl⟩:=abE.1 hv;have hk:=acu.1 hk;have h2:k / sz < els.length:=(Nat.div_lt_iff_lt_mul hz).2 hk
  have h3:k % sz < (els[k / sz]).length:=by rw[hl _ (aa6 h2)];exact Nat.mod_lt _ hz
  exact (hr (k / sz) (k % sz) _ _ (IN h2) (IN h3)).wX (h1 _ (aa6 h2) _ (aa6 h3))
 .have eO:=(By.1 hi).1;have bu:el.length=sz:=hl _ (abR hi)
  have fH:j < sz:=by rw[<- bu];exact (By.1 hj).1
  have hb:i * sz+j < els.length * sz:=by
   have:(i+1) * sz<=els.length * sz:=abl _ eO;rw[abJ]at this;omega
  have e1:(i * sz+j) / sz=i:=by rw[Nat.mul_comm,Nat.mul_add_div hz,Nat.div_eq_of_lt fH];rfl
  have e2:(i * sz+j) % sz=j:=by rw[Nat.mul_comm,Nat.mul_add_mod,Nat.mod_eq_of_lt fH]
  refine⟨f i j,?_,hr i j el c hi hj⟩;rw[aa3,List.getElem?_range hb];simp[e1,e2]
def lk (H:Heap) (r:Nat):AV->Option (List (List D))
 | .d (.sl _ els)=>some els
 | .own q off n=>if q=r then none else match H q with
  | some (.sl _ _ els)=>if off+n<=els.length then some ((els.drop off).take n) else none
  | _=>none
 | _=>none
theorem B4 (hs:eu w X μ σ.H) {r sz:Nat} {u:Value} {x:AV} {els:List (List D)} (hx:RV w X μ u x) (h:lk σ.H r x=some els) (hl:∀ el∈els,el.length=sz) (hz:0 < sz) (h1:∀ el∈els,∀ c∈el,D.one c=true):qW w X μ sz u els:=by
 unfold lk at h;split at h
 .rename_i k0 PM;obtain rfl:=AI h
  rcases hx.data.oT with⟨rfl,rfl,_⟩ | ⟨ad,cap,rfl,_,_,_,hr⟩
  .exact⟨al,.inl ⟨rfl,_,_,rfl⟩⟩
  .rcases hr with rfl | ⟨b,off,CG,f,rfl,hX,iX,dk,dW,jE⟩
   .exact⟨al,.inl ⟨rfl,_,_,rfl⟩⟩
   .by_cases he:PM=[]
    .subst he;exact⟨al,.inl ⟨rfl,_,_,rfl⟩⟩
    .obtain⟨el,bu⟩:=List.exists_mem_of_ne_nil _ he
     have:CG=sz:=by rw[<- dk el bu,hl el bu]
     subst this;exact qW.LA f hl hz h1 dW jE
 .rename_i q off n;split at h
  .cases h
  .split at h
   .rename_i ty szq AF hq;split at h
    .rename_i hle;obtain rfl:=AI h;obtain⟨m,hm,hh⟩:=hx.lp;obtain⟨m',cD,ok⟩:=hs.rows q _ hq;rw[hm]at cD;obtain rfl:=AI cD
     rcases hh with⟨hb,rfl,rfl,rfl⟩ | ⟨b,hb,rfl,jl⟩
     .exact⟨al,.inl ⟨al,_,_,rfl⟩⟩
     .cases ok with
      | nil bp _=>rw[bp]at hb;cases hb
      | sl bp bc hh cK hn ix uC hzz hr=>
       rename_i b' cur;rw[hb]at bp;obtain rfl:=AI bp;subst bc;by_cases h0:n=0
       .subst h0;exact⟨al,.inl ⟨al,_,_,rfl⟩⟩
       .have hlen:((AF.drop off).take n).length=n:=by simp;omega
        have o5:∀ el∈(AF.drop off).take n,el∈AF:=fun el bu=>acg (abi bu)
        have bw:(AF.drop off).take n≠[]:=by intro e;rw[e]at hlen;simp at hlen;omega
        obtain⟨DL,JB⟩:=List.exists_mem_of_ne_nil _ bw
        have S0:sz=m.sz:=by rw[<- hl DL JB,uC DL (o5 DL JB)]
        subst S0
        have:=qW.LA (w:=w) (X:=X) (μ:=μ) (b:=b) (off:=off * m.sz) (cap:=m.cap - off) (fun i j=>cur.getD ((off+i) * m.sz+j) undef) hl hz h1 (fun i j hi hj=>by
         rw[hlen]at hi
         have bf:(off+i) * m.sz+j < cur.size:=by
          rw[cK];have:(off+i+1) * m.sz<=m.cap * m.sz:=abl _ aa;rw[abJ]at this;omega
         have e1:off * m.sz+(i * m.sz+j)=(off+i) * m.sz+j:=by rw[abJ];omega
         rw[e1,cell_of_row w b _ cur ty (0,0) hh]
         simp[aa2,bf]) (fun i j el c bu hc=>by
         rw[abf]at bu;split at bu
         .rw[abB]at bu;obtain⟨u',mO,cm⟩:=hr (off+i) j el c bu hc;simpa[aa2,mO]using cm
         .cases bu)
        rwa [hlen]at this
    .cases h
   .cases h
 .cases h
theorem Wx {t ty e:TypeId} {tt te:TI} (hg:Good P T) (dY:T t=some tt) (dM:tt.desc = .slice e) (cH:T e=some te) (base ad:Option Addr) (n cap c:Nat) (hn:n<=cap) :
  (Builtin.append_ #[t,t] ty #[.slice base n cap,.slice ad 0 c]).run P w = .ok (.slice base n cap) w:=by
 have hu:=hg.dA (w:=w) dY;have bc:=hg.sizeOf (w:=w) cH;cases ad<;>cases base<;>simp[Builtin.append_,hu,dM,bc,Builtin.lenOf,hn,Builtin.firstCells,loadCells,loadCellsFrom,storeCells]
def Rel (w:World) (X:Nat->Prop) (μ:Mu) (sz:Nat) (l:List Value) (els:List (List D)):Prop:=
 ∀ (i j:Nat) (el:List D) (c:D),els[i]? = some el->el[j]? = some c->∃ v,l[i * sz+j]? = some v/\RD w (XX X μ) v c
theorem Rel.append {sz:Nat} {l l':List Value} {A B:List (List D)} (h:Rel w X μ sz l A) (hl:l.length=A.length * sz) (hA:∀ el∈A,el.length=sz) (h':Rel w X μ sz l' B):Rel w X μ sz (l ++ l') (A ++ B):=by
 intro i j el c hi hj;rw[ach]at hi;split at hi
 .rename_i bf;obtain⟨v,hv,hr⟩:=h i j el c hi hj;exact⟨v,by rw[abQ (By.1 hv).1];exact hv,hr⟩
 .rename_i Bi;obtain⟨v,hv,hr⟩:=h' _ j el c hi hj;refine⟨v,?_,hr⟩
  have e1:(i - A.length) * sz+j=i * sz+j - l.length:=by
   have:A.length * sz<=i * sz:=abl _ aa;rw[hl,Nat.sub_mul];omega
  rw[List.getElem?_append_right,<- e1]
  .exact hv
  .have:A.length * sz<=i * sz:=abl _ aa;omega
theorem Rel.more {sz:Nat} {l l':List Value} {A:List (List D)} (h:Rel w X μ sz l A):Rel w X μ sz (l ++ l') A:=by
 intro i j el c hi hj;obtain⟨v,hv,hr⟩:=h i j el c hi hj;exact⟨v,by rw[abQ (By.1 hv).1];exact hv,hr⟩
theorem HW (hg:Good P T) (hi:In w X G μ N a σ) {r n:Nat} (jn:Mv r) {t ty e:TypeId} {tt te:TI} (dY:T t=some tt) (dM:tt.desc = .slice e) (cH:T e=some te) {els news:List (List D)} {u v:Value}
  (hH:σ.H r=some (.sl e te.size els)) (hle:n<=els.length) (hu:RV w X μ u (.own r 0 n)) (hn:qW w X μ te.size v news) (hz:0 < te.size) (r3:(kY te.zero).length=te.size)
  (A9:n+news.length<=maxLen) (hb:(n+news.length) * te.bytes<=140737488355328) :
  mo Mv X G N w μ a ((Builtin.append_ #[t,t] ty #[u,v]).run P w) (.own r 0 (n+news.length)) ⟨dN r σ.env,bk (dO r σ.H) r (.sl e te.size (els.take n ++ news))⟩:=by
 obtain⟨m,hm,hh⟩:=hu.lp;obtain⟨m',cD,ok⟩:=hi.bo.rows r _ hH;rw[hm]at cD;obtain rfl:=AI cD;obtain⟨uO,i0,l8,gF,pC,oL,_⟩:=hg e te cH;have ht:=(hg t tt dY).1;rw[dM]at ht;have r0:=xi (w:=w) (X:=XX X μ) te.zero
 have Rp:te.zero.cells.size=te.size:=by rw[r0.1,r3]
 have uB:∀ el∈els,el.length=te.size:=by
  cases ok with
  | nil=>simp
  | sl _ _ _ _ _ _ hl=>exact hl
 have yz:∀ el∈els.take n ++ news,el.length=te.size:=by
  intro el bu
  rcases abr.1 bu with h | h
  .exact uB el (abi h)
  .exact hn.len el h
 by_cases bw:news=[]
 .-- nothing is appended
  subst bw
  have hv:∃ ad c,v = .slice ad 0 c:=by
   rcases hn.at_ with⟨_,ad,cap,rfl⟩ | ⟨ad,cap,jJ,rfl,_⟩
   .exact⟨_,_,rfl⟩
   .exact⟨_,_,rfl⟩
  obtain⟨ad,c,rfl⟩:=hv
  have sZ:∃ base c,u = .slice base n c/\n<=c:=by
   rcases hh with⟨_,rfl,_,rfl⟩ | ⟨b,_,rfl,jl⟩
   .exact⟨_,_,rfl,aa8 _⟩
   .exact⟨_,_,rfl,aa⟩
  obtain⟨base,c',yX,E4⟩:=sZ;have e9:=Wx (P:=P) (w:=w) (ty:=ty) hg dY dM cH base ad n c' c E4;rw[yX,e9]
  obtain⟨bn,br⟩:=hi.move (Mv:=Mv) (w':=w) (m':=m) hm jn (aa8 _) rfl rfl rfl (fun _ _ _=>rfl) (fun b hb=>.inr hb) (row:=.sl e te.size (els.take n ++ [])) fun ev=>by
   rw[abK]
   cases ok with
   | nil fi fW=>rw[List.take_nil];exact .nil fi fW
   | sl g1 g2 g3 g4 g5 g6 g7 g8 g9=>
    refine .sl g1 g2 g3 g4 (by simp;omega) g6 (fun el bu=>g7 el (abi bu)) g8 fun i j el c bu hc=>?_;rw[abf]at bu;split at bu
    .obtain⟨v,hv,cm⟩:=g9 i j el c bu hc;exact⟨v,hv,cm.ev ev⟩
    .cases bu
  refine⟨_,_,_,rfl,bn,.own (m:=m) (by simp[eo]) ?_,br⟩;rw[<- yX];exact hh
 .have JY:0 < news.length:=abG.2 bw
  rcases hn.at_ with⟨h,_⟩ | ⟨ad,cap,jJ,rfl,dX,yI,rN,qx⟩
  .exact absurd h bw
  have J7:n+news.length<=9223372036854775807:=by simp only[maxLen]at A9;omega
  have zm:∀ (xs:List Value) (gG:Nat),xs.length=n * te.size->Rel w X μ te.size xs (els.take n)->n+news.length<=gG->gG<=maxLen->
    mo Mv X G N w μ a (.ok (.slice (some ⟨w.heap.size,0,none⟩) (n+news.length) gG) (w.drew.alloc (.cells (xs.toArray ++ jJ.toArray ++ Builtin.zeroCells te.zero.cells (gG - (n+news.length))) e)))
     (.own r 0 (n+news.length)) ⟨dN r σ.env,bk (dO r σ.H) r (.sl e te.size (els.take n ++ news))⟩:=by
   intro xs gG lQ rZ c8 eh
   have pE:cT w (w.drew.alloc (.cells (xs.toArray ++ jJ.toArray ++ Builtin.zeroCells te.zero.cells (gG - (n+news.length))) e)):=by
    have h1:=cT.alloc w.drew (.cells (xs.toArray ++ jJ.toArray ++ Builtin.zeroCells te.zero.cells (gG - (n+news.length))) e);exact⟨h1.size,h1.os,h1.tape,h1.output,h1.same⟩
   have bc:(xs.toArray ++ jJ.toArray ++ Builtin.zeroCells te.zero.cells (gG - (n+news.length))).size=gG * te.size:=by
    simp only[Array.size_append,acp,size_zeroCells,Rp,lQ,dX,<- abJ];congr 1;omega
   obtain⟨bn,br⟩:=hi.move (Mv:=Mv) (w':=w.drew.alloc (.cells (xs.toArray ++ jJ.toArray ++ Builtin.zeroCells te.zero.cells (gG - (n+news.length))) e)) (m':=⟨some w.heap.size,te.size,gG⟩) hm jn pE.size pE.os pE.tape pE.output
    (fun k hk _=>pE.same k hk) (fun b hb=>by simp at hb;omega) (row:=.sl e te.size (els.take n ++ news)) fun ev=>by
     refine .sl rfl rfl (by simpa using heap_alloc_new w.drew (.cells (xs.toArray ++ jJ.toArray ++ Builtin.zeroCells te.zero.cells (gG - (n+news.length))) e)) bc (by simp;omega) eh yz hz fun i j el c hi hj=>?_;have hrel:=((rZ.append (by rw[lQ,abk,acA hle]) (fun el bu=>uB el (abi bu)) qx).more (l':=(Builtin.zeroCells te.zero.cells (gG - (n+news.length))).toList)) i j el c hi hj;obtain⟨v,hv,cm⟩:=hrel;refine⟨v,?_,cm.ev ev⟩;rw[<- abc];simpa using hv
   exact⟨_,_,_,rfl,bn,.own (m:=⟨some w.heap.size,te.size,gG⟩) (by simp[eo]) (.inr ⟨w.heap.size,rfl,al,by simpa using c8⟩),br⟩
  rcases hh with⟨iJ,rfl,_,rfl⟩ | ⟨b,iJ,rfl,jl⟩
  .have hr:=run_append_nil (P:=P) w t ty e i0 te.zero ht l8 oL ad news.length cap jJ (by rw[dX,gF]) yI JY aa (by rw[pC];simp only[abe]at hb;omega);rw[hr];have:=zm [] (grownCap w news.length 0 e) al (by intro i j el c hi;simp at hi) (by have:=grownCap_ge w news.length 0 e;omega) (grownCap_le_maxLen w news.length 0 e (by unfold maxLen;omega));simpa using this
  .cases ok with
   | nil bp _=>rw[bp]at iJ;cases iJ
   | sl bp bc qs cK qw ix hl iX hr=>
    rename_i b' cur;rw[iJ]at bp;obtain rfl:=AI bp
    have El:n<=m.cap:=aa
    have hmul:n * te.size<=m.cap * te.size:=abl _ El
    have lQ:(cur.toList.take (n * te.size)).length=n * te.size:=by rw[abk,abO,cK,acA hmul]
    have rZ:Rel w X μ te.size (cur.toList.take (n * te.size)) (els.take n):=by
     intro i j el c bu hc;rw[abf]at bu;split at bu
     .rename_i bn;obtain⟨v,hv,cm⟩:=hr i j el c bu hc;have yh:el.length=te.size:=hl _ (abR bu)
      have hj:j < te.size:=by rw[<- yh];exact (By.1 hc).1
      refine⟨v,?_,cm⟩;rw[abf,if_pos]
      .simpa using hv
      .have:(i+1) * te.size<=n * te.size:=abl _ bn;rw[abJ]at this;omega
     .cases bu
    by_cases wu:n+news.length<=m.cap
    .have j8:n * te.size+jJ.length<=cur.size:=by rw[dX,cK,<- abJ];exact abl _ wu
     have e9:=run_append_room (P:=P) w t ty e i0 ht l8 b n m.cap cur qs ad news.length cap jJ (by rw[dX,gF]) yI rN wu (by rw[gF];exact j8);simp only[ab6,Nat.sub_zero];rw[e9,gF]
     obtain⟨bn,br⟩:=hi.move (Mv:=Mv) (w':=w.setRow b (cur.toList.take (n * te.size) ++ jJ ++ cur.toList.drop (n * te.size+jJ.length)).toArray) (m':=m) hm jn al rfl rfl rfl
      (fun k hk E6=>setRow_other w b k _ fun e'=>E6 (by rw[iJ,e'])) (fun b hb=>.inr hb) (row:=.sl e te.size (els.take n ++ news)) fun ev=>by
       refine .sl iJ bc (setRow_heap w b cur _ e _ qs) ?_ (by simp;omega) ix yz hz fun i j el c hi hj=>?_
       .simp only[acp,abb,abk,abp,abO];omega
       .obtain⟨v,hv,cm⟩:=((rZ.append (by rw[lQ,abk,acA hle]) (fun el bu=>uB el (abi bu)) qx).more (l':=cur.toList.drop (n * te.size+jJ.length))) i j el c hi hj;exact⟨v,by rw[<- abc];simpa using hv,cm.ev ev⟩
     refine⟨_,_,_,rfl,bn,.own (m:=m) (by simp[eo]) (.inr ⟨b,iJ,al,by simpa using wu⟩),br⟩
    .have e9:=run_append_grow (P:=P) w t ty e i0 te.zero ht l8 oL ⟨b,0,none⟩ n m.cap (cur.toList.take (n * te.size)) (by rw[lQ,gF]) (fun j v hv=>by
      rw[addr_add,cell_of_row w b _ cur e (0,0) qs];rw[abf]at hv;split at hv
      .simpa using hv
      .cases hv) ad news.length cap jJ (by rw[dX,gF]) yI aa aa (by rw[pC];exact growslice_fits aa hb)
     simp only[ab6,Nat.sub_zero];rw[e9];exact zm _ _ lQ rZ (grownCap_ge _ _ _ _) (grownCap_le_maxLen w _ _ e A9)
end
