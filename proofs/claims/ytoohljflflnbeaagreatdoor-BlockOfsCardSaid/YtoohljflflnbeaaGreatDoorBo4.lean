/- Parts. -/
import Derived.Test.YtoohljflflnbeaaGreatDoorBo3
import Derived.Laws.StructEq
set_option linter.unusedSectionVars false
set_option linter.unusedSimpArgs false
set_option linter.unusedVariables false
namespace Go.Av
def qq (op:BinOp) (k:IntKind) (x y:Int):Int:=
 let a:=BitVec.ofInt k.bits x
 let b:=BitVec.ofInt k.bits y
 match op with
 | .and=>k.wrap (a &&& b).toNat
 | .or=>k.wrap (a ||| b).toNat
 | .xor=>k.wrap (a ^^^ b).toNat
 | _=>k.wrap (a &&& ~~~b).toNat
def uS (k:IntKind) (n:Int):Option (Prop×Value):=match k with
 | .i64=>some (-9223372036854775808<=n/\n<=9223372036854775807,.int .i64 n)
 | k=>some (True,.int k (k.wrap n))
def Dl (op:BinOp) (k:IntKind) (a b:Int):Option (Prop×Value):=match op with
 | .add=>uS k (a+b)
 | .sub=>uS k (a - b)
 | .mul=>uS k (a * b)
 | .quo=>some (b≠0,.int k (k.wrap (a.tdiv b)))
 | .rem=>some (b≠0,.int k (a.tmod b))
 | .and=>some (True,.int k (qq .and k a b))
 | .or=>some (True,.int k (qq .or k a b))
 | .xor=>some (True,.int k (qq .xor k a b))
 | .andNot=>some (True,.int k (qq .andNot k a b))
 | .eql=>some (True,.bool (a == b))
 | .neq=>some (True,.bool (a != b))
 | .lss=>some (True,.bool (decide (a < b)))
 | .leq=>some (True,.bool (decide (a<=b)))
 | .gtr=>some (True,.bool (decide (a > b)))
 | .geq=>some (True,.bool (decide (a >= b)))
 | _=>none
def od (op:BinOp) (k:IntKind) (a b:Int):Option (Prop×Value):=match op with
 | .shl=>some (0<=b,.int k (k.wrap (a * 2 ^ (min b.toNat k.bits))))
 | .shr=>some (0<=b,.int k (a.fdiv (2 ^ (min b.toNat k.bits))))
 | _=>none
def I7:BinOp->Bool
 | .shl | .shr=>true
 | _=>false
def bf (op:BinOp) (a b:ByteArray):Option (Prop×Value):=match op with
 | .add=>some (a.size+b.size<=9223372036854775807,.string (a ++ b))
 | .eql=>some (True,.bool (a.toList == b.toList))
 | .neq=>some (True,.bool (!(a.toList == b.toList)))
 | .lss=>some (True,.bool (Op.bytesLess a.toList b.toList))
 | .leq=>some (True,.bool (Op.bytesLess a.toList b.toList || a.toList == b.toList))
 | .gtr=>some (True,.bool (!(Op.bytesLess a.toList b.toList || a.toList == b.toList)))
 | .geq=>some (True,.bool (!Op.bytesLess a.toList b.toList))
 | _=>none
theorem vN {n:Int} (h:-9223372036854775808<=n/\n<=9223372036854775807):IntKind.i64.wrap n=n:=by rw[IntKind.wrap_i64];omega
theorem G3 {k:IntKind} {n:Int} {c:Prop} {v:Value} (h:uS k n=some (c,v)) (hc:c):v = .int k (k.wrap n):=by
 cases k<;>simp only[uS,IT,agA]at h<;>obtain⟨rfl,rfl⟩:=h
 all_goals first | rfl | (rw[vN hc])
theorem TK {P:Program} {op:BinOp} (kb:I7 op=false) {k:IntKind} {a b:Int} {c:Prop} {v:Value} (h:Dl op k a b=some (c,v)) (hc:c) (t:TypeId) (w:World):(binOp op t (.int k a) (.int k b)).run P w = .ok v w:=by
 unfold Dl at h;cases op<;>simp only[IT,agA]at h
 all_goals first
  | (exact absurd kb bO)
  | (have:=G3 h hc;subst this;simp[binOp,Op.intArith])
  | (obtain⟨rfl,rfl⟩:=h;simp[binOp,Op.intCmp];done)
  | (obtain⟨rfl,rfl⟩:=h;simp[binOp,Op.intBits,qq];done)
  | (obtain⟨rfl,rfl⟩:=h;simp[binOp,Op.intDiv,hc];done)
theorem adK {P:Program} {op:BinOp} {k yk:IntKind} {a b:Int} {c:Prop} {v:Value} (h:od op k a b=some (c,v)) (hc:c) (t:TypeId) (w:World):(binOp op t (.int k a) (.int yk b)).run P w = .ok v w:=by
 unfold od at h;cases op<;>simp only[IT,agA,reduceCtorEq]at h
 all_goals
  obtain⟨rfl,rfl⟩:=h
  have:¬ b < 0:=aa
  simp[binOp,Op.shift,this]
theorem TL {P:Program} {op:BinOp} {a b:ByteArray} {c:Prop} {v:Value} (h:bf op a b=some (c,v)) (hc:c) (t:TypeId) (w:World):(binOp op t (.string a) (.string b)).run P w = .ok v w:=by
 unfold bf at h;cases op<;>simp only[IT,agA,reduceCtorEq]at h
 all_goals obtain⟨rfl,rfl⟩:=h
 case add=>
  have:¬ (((a.size+b.size:Nat):Int) > IntKind.i64.max):=by simp[IntKind.max,IntKind.signed,IntKind.bits];omega
  simp[binOp,Op.stringOp,this]
  try omega
 all_goals simp[binOp,Op.stringOp]
def eqv (op:BinOp) (c:Prop) (b:Bool):kS:=match op with
 | .eql=>some (c,bool b)
 | .neq=>some (c,bool !b)
 | _=>none
def qx (T:Ty) (t:TypeId) (p:TypeDesc->Bool):Bool:=match T t with
 | some ti=>p ti.desc
 | none=>false
def TypeDesc.isIface:TypeDesc->Bool | .interface _=>true | _=>false
def TypeDesc.isSlice:TypeDesc->Bool | .slice _=>true | _=>false
def TypeDesc.isBool:TypeDesc->Bool | .bool=>true | _=>false
def TypeDesc.isStr:TypeDesc->Bool | .string=>true | _=>false
def Fg:TypeDesc->Value->Bool
 | .interface _,.nilIface | .pointer _,.pointer none | .func _ _ _,.nilFunc | .slice _,.slice none 0 0=>true
 | _,_=>false
def Fe:AV->Value->Option (Prop×Bool)
 | .d (.bZ _ _),.nilIface=>some (True,false)
 | .bZ _ _,.nilIface=>some (True,false)
 | .d (.v .nilIface),.nilIface=>some (True,true)
 | .d (.ip _),.pointer none=>some (True,false)
 | .ref _ _ _,.pointer none=>some (True,false)
 | .d (.v (.pointer none)),.pointer none=>some (True,true)
 | .d (.fn _ _),.nilFunc=>some (True,false)
 | .fn _ _,.nilFunc=>some (True,false)
 | .d (.v .nilFunc),.nilFunc=>some (True,true)
 | .d (.sl (some b) _),.slice none 0 0=>some (True,!b)
 | .d (.sl none els),.slice none 0 0=>some (els≠[],false)
 | .own _ _ n,.slice none 0 0=>some (0 < n,false)
 | _,_=>none
def GI:Operand->Option Value
 | .const v=>some v
 | _=>none
def JJ (T:Ty) (op:BinOp) (t:TypeId) (oy:Operand) (x:AV):kS:=match GI oy with
 | some v=>if qx T t (Fg · v) then (Fe x v).bind fun (c,b)=>eqv op c b else none
 | none=>none
def GW (d:TypeDesc) (a b:Value):Option Bool:=match d,a,b with
 | .int _,.int k a,.int k' b=>if k=k' then some (a == b) else none
 | .string,.string a,.string b=>some (a.toList == b.toList)
 | .bool,.bool a,.bool b=>some (a == b)
 | _,_,_=>none
def DD (T:Ty) (xs ys:List D):List Field->Option Bool
 | []=>some true
 | f :: l=>if f.name = "_" then none else match T f.type,xs[f.offset]?,ys[f.offset]? with
  | some tf,some (.v a),some (.v b)=>match GW tf.desc a b,DD T xs ys l with
   | some r,some r2=>some (r && r2)
   | _,_=>none
  | _,_,_=>none
def Dk (T:Ty) (op:BinOp) (t:TypeId) (oy:Operand) (x y:AV):kS:=match x,y with
 | .d (.v (.int k a)),.d (.v (.int k' b))=>
  if I7 op then (od op k a b).map fun (c,v)=>(c,.d (.v v)) else if k=k' then (Dl op k a b).map fun (c,v)=>(c,.d (.v v)) else none
 | .d (.v (.string a)),.d (.v (.string b))=>(bf op a b).map fun (c,v)=>(c,.d (.v v))
 | .d (.v (.bool a)),.d (.v (.bool b))=>if qx T t TypeDesc.isBool then eqv op True (a == b) else none
 | .d (.agg xs),.d (.agg ys)=>match T t with
  | some ti=>match ti.desc with
   | .struct fs=>if ti.pe then (match DD T xs ys fs.toList with
    | some b=>eqv op True b
    | none=>none) else none
   | _=>none
  | none=>none
 | x,_=>JJ T op t oy x
theorem Kk {P:Program} {w:World} {op:BinOp} {t:TypeId} {u v:Value} {c:Prop} {b:Bool} {z:AV} {X:Nat->Prop} {μ:Mu} (h:eqv op c b=some (c,z)) (hb:(binOp .eql t u v).run P w = .ok (.bool b) w)
  (hn:(binOp .neq t u v).run P w = .ok (.bool !b) w):∃ r,(binOp op t u v).run P w = .ok r w/\RV w X μ r z:=by
 unfold eqv at h;split at h
 .simp only[IT,agA,true_and]at h;subst h;exact⟨_,hb,.d (.v _)⟩
 .simp only[IT,agA,true_and]at h;subst h;exact⟨_,hn,.d (.v _)⟩
 .cases h
theorem uL {T:Ty} {t:TypeId} {p:TypeDesc->Bool} (h:qx T t p=true):∃ ti,T t=some ti/\p ti.desc=true:=by
 unfold qx at h;split at h
 .rename_i ti ht;exact⟨ti,ht,h⟩
 .cases h
theorem GY {op:BinOp} {c c':Prop} {b:Bool} {z:AV} (h:eqv op c b=some (c',z)):c'=c:=by
 unfold eqv at h;split at h<;>simp only[IT,agA,reduceCtorEq]at h
 .exact h.1.symm
 .exact h.1.symm
section
variable {P:Program} {w:World} {t:TypeId}
theorem Mp {ms:Array (String×TypeId)} (h:P.underlying t=some (.interface ms)) (d:Nat) (t':TypeId) (x:Value):(Op.equalIn (d+1) t (.iface t' x) .nilIface).run P w = .ok false w:=by
 simp[Op.equalIn,run_underlying h]
theorem Wz {ms:Array (String×TypeId)} (h:P.underlying t=some (.interface ms)) (d:Nat):(Op.equalIn (d+1) t .nilIface .nilIface).run P w = .ok true w:=by
 simp[Op.equalIn,run_underlying h]
theorem Mq {e:TypeId} (h:P.underlying t=some (.pointer e)) (d:Nat) (a:Addr):(Op.equalIn (d+1) t (.pointer (some a)) (.pointer none)).run P w = .ok false w:=by
 simp[Op.equalIn,run_underlying h]
theorem WA {e:TypeId} (h:P.underlying t=some (.pointer e)) (d:Nat):(Op.equalIn (d+1) t (.pointer none) (.pointer none)).run P w = .ok true w:=by
 simp[Op.equalIn,run_underlying h]
theorem Mo {a b:Array TypeId} {c:Bool} (h:P.underlying t=some (.func a b c)) (d:Nat) (f:Fn) (x y:Array Value):(Op.equalIn (d+1) t (.func f x y) .nilFunc).run P w = .ok false w:=by
 simp[Op.equalIn,run_underlying h]
theorem Wy {a b:Array TypeId} {c:Bool} (h:P.underlying t=some (.func a b c)) (d:Nat):(Op.equalIn (d+1) t .nilFunc .nilFunc).run P w = .ok true w:=by
 simp[Op.equalIn,run_underlying h]
theorem GX {e:TypeId} (h:P.underlying t=some (.slice e)) (d:Nat) (a:Addr) (n c:Nat):(Op.equalIn (d+1) t (.slice (some a) n c) (.slice none 0 0)).run P w = .ok false w:=by
 simp[Op.equalIn,run_underlying h]
theorem WB {e:TypeId} (h:P.underlying t=some (.slice e)) (d:Nat):(Op.equalIn (d+1) t (.slice none 0 0) (.slice none 0 0)).run P w = .ok true w:=by
 simp[Op.equalIn,run_underlying h]
theorem Wx (h:P.underlying t=some .bool) (d:Nat) (a b:Bool):(Op.equalIn (d+1) t (.bool a) (.bool b)).run P w = .ok (a == b) w:=by
 simp[Op.equalIn,run_underlying h]
end
def LN:Value->Bool
 | .int _ _ | .string _ | .float _ _ | .complex _ _ _=>false
 | _=>true
theorem o8 {P:Program} {w:World} {t:TypeId} {u v:Value} {b:Bool} (hu:LN u=true) (h:(Op.equalIn (9999+1) t u v).run P w = .ok b w) :
  (binOp .eql t u v).run P w = .ok (.bool b) w/\(binOp .neq t u v).run P w = .ok (.bool !b) w:=by
 have h':(Op.equal t u v).run P w = .ok b w:=h;cases u<;>simp[LN]at hu<;>constructor<;>simp[binOp,h']
theorem MJ {P:Program} {w:World} {op:BinOp} {t:TypeId} {ox oy:Operand} {u v:Value} (h:¬ (u = .nilIface/\v = .nilIface)\/(∃ c,ox = .const c)\/∃ c,oy = .const c) (ha:∀ a,u≠.agg a) :
  (eqGuard op t ox oy u v).run P w = .ok () w:=by
 unfold eqGuard
 cases op<;>first | rfl | skip
 all_goals
  cases u<;>cases v<;>first | rfl | skip
  .rcases h with h | ⟨c,rfl⟩ | ⟨c,rfl⟩
   .simp at h
   .rfl
   .cases ox<;>rfl
  .exact absurd rfl (ha _)
theorem abK {P:Program} {T:Ty} (hg:Good P T) {w:World} {X:Nat->Prop} {μ:Mu} {t:TypeId} {u v:Value} {x:AV} {c:Prop} {b:Bool} (h:Fe x v=some (c,b)) (hc:c) (hx:RV w X μ u x)
  (hf:qx T t (Fg · v)=true):((binOp .eql t u v).run P w = .ok (.bool b) w/\(binOp .neq t u v).run P w = .ok (.bool !b) w)/\∀ a,u≠.agg a:=by
 obtain⟨ti,ht,hp⟩:=uL hf;have hu:=(hg t ti ht).1;unfold Fe at h
 split at h<;>first | cases h;done | skip
 all_goals
  obtain⟨rfl,rfl⟩:=eo h;cases ew:ti.desc<;>simp[ew,Fg]at hp;rw[ew]at hu
 .obtain⟨v',rfl,_⟩:=hx.data.sj;exact⟨o8 rfl (Mp hu _ _ _),ak⟩
 .obtain⟨v',rfl,_⟩:=hx.sj;exact⟨o8 rfl (Mp hu _ _ _),ak⟩
 .obtain rfl:=hx.scalar;exact⟨o8 rfl (Wz hu _),ak⟩
 .obtain⟨b,off,f,rfl,_⟩:=hx.data.qK;exact⟨o8 rfl (Mq hu _ _),ak⟩
 .obtain⟨m,b,_,_,rfl⟩:=hx.lu;exact⟨o8 rfl (Mq hu _ _),ak⟩
 .obtain rfl:=hx.scalar;exact⟨o8 rfl (WA hu _),ak⟩
 .obtain⟨arr,rfl,_⟩:=hx.data.yL;exact⟨o8 rfl (Mo hu _ _ _ _),ak⟩
 .obtain⟨arr,rfl,_⟩:=hx.yL;exact⟨o8 rfl (Mo hu _ _ _ _),ak⟩
 .obtain rfl:=hx.scalar;exact⟨o8 rfl (Wy hu _),ak⟩
 .rename_i bb els e
  rcases hx.data.qT with⟨rfl,_,hk⟩ | ⟨a,cap,rfl,hk,_⟩
  .cases bb
   .exact⟨o8 rfl (WB hu _),ak⟩
   .exact absurd rfl hk
  .cases bb
   .exact absurd rfl hk
   .exact⟨o8 rfl (GX hu _ _ _ _),ak⟩
 .rcases hx.data.qT with⟨rfl,he,hk⟩ | ⟨a,cap,rfl,hk,_⟩
  .exact absurd he hc
  .exact⟨o8 rfl (GX hu _ _ _ _),ak⟩
 .obtain⟨m,_,hh⟩:=hx.ma
  rcases hh with⟨_,_,_,rfl⟩ | ⟨b,_,rfl,_⟩
  .omega
  .exact⟨o8 rfl (GX hu _ _ _ _),ak⟩
theorem Ww {P:Program} {t:TypeId} {d:TypeDesc} (hu:P.underlying t=some d) {a b:Value} {r:Bool} (h:GW d a b=some r) (n:Nat) (w:World):(Op.equalIn (n+1) t a b).run P w = .ok r w/\TypeDesc.isAgg d=false:=by
 unfold GW at h;split at h
 .split at h
  .rename_i hk;subst hk;obtain rfl:=AI h;exact⟨run_equalIn_int w n t _ _ _ _ hu,rfl⟩
  .cases h
 .obtain rfl:=AI h;exact⟨run_equalIn_string w n t _ _ hu,rfl⟩
 .obtain rfl:=AI h;exact⟨run_equalIn_bool' w n t _ _ hu,rfl⟩
 .cases h
theorem LS {w:World} {X:Nat->Prop} {arr:Array Value} {xs:List D} (hn:arr.size=xs.length) (hr:∀ (j:Nat) (u:Value) (c:D),arr[j]? = some u->xs[j]? = some c->RD w X u c) {j:Nat} {a:Value} (h:xs[j]? = some (.v a)):arr[j]? = some a:=by
 have hj:j < arr.size:=by rw[hn];exact (BY.1 h).1
 have:=(hr j _ _ (agL hj) h).scalar;rw[agL hj,this]
theorem Mn {P:Program} {T:Ty} (hg:Good P T) {w:World} {X:Nat->Prop} {lC sU:Array Value} {xs ys:List D} (n1:lC.size=xs.length) (h1:∀ (j:Nat) (u:Value) (c:D),lC[j]? = some u->xs[j]? = some c->RD w X u c) (n2:sU.size=ys.length) (h2:∀ (j:Nat) (u:Value) (c:D),sU[j]? = some u->ys[j]? = some c->RD w X u c) :
  ∀ (fs:List Field) (b:Bool),DD T xs ys fs=some b->(Op.eqFields (9998+1) lC sU fs).run P w = .ok b w
 | [],b,h=>by
  obtain rfl:=AI h;simp[Op.eqFields]
 | f :: l,b,h=>by
  rw[DD]at h;split at h
  .cases h
  .rename_i fy;split at h
   .rename_i tf a1 b1 ht hx hy;split at h
    .rename_i r r2 hr xe;obtain rfl:=AI h;obtain⟨e1,e2⟩:=Ww (hg _ _ ht).1 hr 9998 w
     have ha:(Go.isAgg f.type).run P w = .ok false w:=by rw[hg.isAgg ht,e2]
     have p1:(part f.type lC f.offset).run P w = .ok a1 w:=by simp[part,ha,LS n1 h1 hx]
     have p2:(part f.type sU f.offset).run P w = .ok b1 w:=by simp[part,ha,LS n2 h2 hy]
     have ih:=Mn hg n1 h1 n2 h2 l r2 xe;rw[Op.eqFields,if_pos fy];simp only[Sem.run_bind,p1,p2,e1,Result.andThen_ok,Sem.run_ite];cases r
     .simp
     .simpa using ih
    .cases h
   .cases h
theorem TJ {P:Program} {T:Ty} {G:aC} {N:Fr} (hg:Good P T) {w:World} {X:Nat->Prop} {μ:Mu} {a:Act} {σ:St} (hi:In w X G μ N a σ) {op:BinOp} {t:TypeId} {ox oy:Operand} {x y z:AV} {c:Prop}
  (hx:bF G σ.env ox=some x) (hy:bF G σ.env oy=some y) (h:Dk T op t oy x y=some (c,z)) (hc:c) :
  ∃ r,(do eqGuard op t ox oy (a.eval ox) (a.eval oy);binOp op t (a.eval ox) (a.eval oy):Sem Value).run P w = .ok r w/\RV w X μ r z:=by
 have B1:=hi.eval hx;have EI:=hi.eval hy
 have plain:∀ (u v:Value),a.eval ox=u->a.eval oy=v->(∀ b,u≠.agg b)->u≠.nilIface->(∃ r,(binOp op t u v).run P w = .ok r w/\RV w X μ r z)->
   ∃ r,(do eqGuard op t ox oy (a.eval ox) (a.eval oy);binOp op t (a.eval ox) (a.eval oy):Sem Value).run P w = .ok r w/\RV w X μ r z:=by
  rintro u v hu hv h1 h2 ⟨r,hr,IB⟩;refine⟨r,?_,IB⟩;rw[hu,hv,Sem.run_bind,MJ (.inl fun e=>h2 e.1) h1];exact hr
 unfold Dk at h;split at h
 .rename_i k a1 k' b1;have e1:=B1.scalar;have e2:=EI.scalar;refine plain _ _ e1 e2 ak ak ?_;split at h
  .obtain⟨⟨c',v'⟩,hs,he⟩:=AS.1 h;simp only[agA]at he;obtain⟨rfl,rfl⟩:=he;exact⟨_,adK hs hc _ _,.d (.v _)⟩
  .rename_i xk;split at h
   .rename_i hk;subst hk;obtain⟨⟨c',v'⟩,hs,he⟩:=AS.1 h;simp only[agA]at he;obtain⟨rfl,rfl⟩:=he;exact⟨_,TK (by simpa using xk) hs hc _ _,.d (.v _)⟩
   .cases h
 .obtain⟨⟨c',v'⟩,hs,he⟩:=AS.1 h;simp only[agA]at he;obtain⟨rfl,rfl⟩:=he;exact plain _ _ B1.scalar EI.scalar ak ak ⟨_,TL hs hc _ _,.d (.v _)⟩
 .rename_i b1 b2;split at h
  .rename_i hb;obtain⟨ti,ht,hp⟩:=uL hb;cases ew:ti.desc<;>simp[ew,TypeDesc.isBool]at hp;have hu:=(hg t ti ht).1;rw[ew]at hu;have:=o8 (P:=P) (w:=w) (u:=.bool b1) (v:=.bool b2) rfl (Wx hu 9999 _ _);obtain rfl:=GY h;exact plain _ _ B1.scalar EI.scalar ak ak (Kk h this.1 this.2)
  .cases h
 .rename_i xs ys;split at h
  .rename_i ti ht;split at h
   .rename_i fs ew;split at h
    .rename_i eI;split at h
     .rename_i b hb;obtain⟨lC,ZU,n1,r1⟩:=B1.data.rR;obtain⟨sU,IQ,n2,r2⟩:=EI.data.rR;obtain⟨xn,i0,_,_,_,_,hp⟩:=hg t ti ht;obtain⟨eb,fb⟩:=hp eI;rw[ew]at xn
      have NC:P.fieldsOf t=fs:=by simp[Program.fieldsOf,xn]
      have ZV:P.underlying t=some (.struct (P.fieldsOf t)):=by rw[NC];exact xn
      have he:(Op.equalIn 10000 t (.agg lC) (.agg sU)).run P w = .ok b w:=by
       rw[show (10000:Nat)=9999+1 from rfl,run_equalIn_struct w 9999 t lC sU ZV eb,NC];exact Mn hg n1 r1 n2 r2 fs.toList b hb
      obtain rfl:=GY h;obtain⟨r,hr,IB⟩:=Kk (X:=X) (μ:=μ) h (P:=P) (w:=w) (t:=t) (u:=.agg lC) (v:=.agg sU) (by rw[run_eql_struct,he];rfl) (by rw[run_neq_struct,he];rfl);refine⟨r,?_,IB⟩;rw[ZU,IQ,Sem.run_bind,run_eqGuard_agg w op t ox oy lC sU fb];exact hr
     .cases h
    .cases h
   .cases h
  .cases h
 .unfold JJ at h;split at h
  .rename_i v hv
   cases oy with
   | const v'=>
    simp only[GI,IT]at hv;subst hv;split at h
    .rename_i hf;obtain⟨⟨c',b'⟩,hn,he⟩:=agI.1 h;dsimp only at he;obtain rfl:=GY he;obtain⟨hr,ha⟩:=abK hg hn hc B1 hf;obtain⟨r,nU,hz⟩:=Kk (X:=X) (μ:=μ) he hr.1 hr.2;refine⟨r,?_,hz⟩;rw[Sem.run_bind,MJ (.inr (.inr ⟨_,rfl⟩)) ha];exact nU
    .cases h
   | _=>cases hv
  .cases h
end Go.Av
namespace Go.Av
def E5 (T:Ty) (t:TypeId):AV->kS
 | .d (.v (.string s))=>if qx T t TypeDesc.isStr then some (True,int s.size) else none
 | .d (.sl _ els)=>if qx T t TypeDesc.isSlice then some (True,int els.length) else none
 | .own _ _ n=>if qx T t TypeDesc.isSlice then some (True,int n) else none
 | _=>none
theorem OS {d:TypeDesc} (h:TypeDesc.isSlice d=true):∃ e,d = .slice e:=by cases d<;>simp[TypeDesc.isSlice]at h;exact⟨_,rfl⟩
theorem EN {d:TypeDesc} (h:TypeDesc.isStr d=true):d = .string:=by cases d<;>simp[TypeDesc.isStr]at h;rfl
section
variable {P:Program} {T:Ty} (hg:Good P T) {w:World} {X:Nat->Prop} {μ:Mu} {H:Heap}
include hg
theorem aa2 {t ty:TypeId} {u:Value} {x z:AV} {c:Prop} (h:E5 T t x=some (c,z)) (hx:RV w X μ u x):∃ r,(Builtin.len_ #[t] ty #[u]).run P w = .ok r w/\RV w X μ r z:=by
 unfold E5 at h;split at h
 .split at h
  .rename_i hd;obtain⟨ti,ht,hp⟩:=uL hd;obtain⟨rfl,rfl⟩:=eo h;obtain rfl:=hx.scalar;exact⟨_,by simp[Builtin.len_,hg.dN ht,EN hp,goInt],.d (.v _)⟩
  .cases h
 .split at h
  .rename_i hd;obtain⟨ti,ht,hp⟩:=uL hd;obtain⟨e,he⟩:=OS hp;obtain⟨rfl,rfl⟩:=eo h
   rcases hx.data.qT with⟨rfl,rfl,_⟩ | ⟨a,cap,rfl,_⟩
   .exact⟨_,by simp[Builtin.len_,hg.dN ht,he,goInt],.d (.v _)⟩
   .exact⟨_,by simp[Builtin.len_,hg.dN ht,he,goInt],.d (.v _)⟩
  .cases h
 .split at h
  .rename_i hd;obtain⟨ti,ht,hp⟩:=uL hd;obtain⟨e,he⟩:=OS hp;obtain⟨rfl,rfl⟩:=eo h;obtain⟨m,_,hh⟩:=hx.ma
   rcases hh with⟨_,rfl,_,rfl⟩ | ⟨b,_,rfl,_⟩
   .exact⟨_,by simp[Builtin.len_,hg.dN ht,he,goInt],.d (.v _)⟩
   .exact⟨_,by simp[Builtin.len_,hg.dN ht,he,goInt],.d (.v _)⟩
  .cases h
 .cases h
def Gq (T:Ty) (t:TypeId):Option (Nat×TypeId×Nat):=match T t with
 | some ti=>match ti.desc with
  | .array n e=>(T e).map fun te=>(n,e,te.size)
  | _=>none
 | none=>none
def EK (T:Ty) (t:TypeId):AV->AV->kS
 | .d (.v (.string s)),.d (.v (.int _ i))=>if qx T t TypeDesc.isStr then some (0<=i/\i < s.size,.d (.v (.int .u8 (s.data.toList.getD i.toNat 0).toNat))) else none
 | .d (.agg cells),.d (.v (.int _ i))=>match Gq T t with
  | some (n,e,sz)=>(sV T e (cells.drop (i.toNat * sz))).map fun (c,z)=>((0<=i/\i < n)/\c,z)
  | none=>none
 | _,_=>none
omit hg in
theorem TA (s:ByteArray) (n:Nat) (h:n < s.size):s[n]? = some (s.data.toList.getD n 0):=by
 have:s[n]? = some s[n]:=by simp[h]
 rw[this]
 have h2:n < s.data.toList.length:=by simpa using h
 simp[agw,By h2];rfl
theorem aaf {t:TypeId} {u v:Value} {x y z:AV} {c:Prop} (h:EK T t x y=some (c,z)) (hc:c) (hx:RV w X μ u x) (hy:RV w X μ v y):∃ r,(Instr.index t u v).run P w = .ok r w/\RV w X μ r z:=by
 unfold EK at h;split at h
 .split at h
  .rename_i s kk i hd;obtain⟨ti,ht,hp⟩:=uL hd;obtain⟨rfl,rfl⟩:=eo h;obtain rfl:=hx.scalar;obtain rfl:=hy.scalar;obtain⟨h0,h1⟩:=hc;obtain⟨n,rfl⟩:=agY h0;simp only[agO]
   have hn:n < s.size:=aa
   exact⟨_,by simp[Instr.index,asIntOf,hg.dN ht,EN hp,TA s n hn],.d (.v _)⟩
  .cases h
 .rename_i cells kk i;split at h
  .rename_i n e sz ha;obtain⟨⟨c',z'⟩,hv,he⟩:=AS.1 h;simp only[agA]at he;obtain⟨rfl,rfl⟩:=he;obtain⟨⟨h0,h1⟩,dZ⟩:=hc;obtain rfl:=hy.scalar;obtain⟨arr,rfl,hn,hr⟩:=hx.data.rR;obtain⟨c2,zq,gY⟩:=Ly T e _ hv dZ;rw[List.map_drop]at zq;obtain⟨v,mD,im⟩:=LA (P:=P) (w:=w) (X:=X) (μ:=μ) hg zq gY (by simpa using hn) (RV.zP hr);unfold Gq at ha;split at ha
   .rename_i ti ht;split at ha
    .rename_i n' e' hd;obtain⟨te,dh,he⟩:=AS.1 ha;simp only[agA]at he;obtain⟨rfl,rfl,rfl⟩:=he;exact⟨v,by simp[Instr.index,asIntOf,hg.dN ht,hd,h0,h1,hg.sizeOf dh,mD],im⟩
    .cases ha
   .cases ha
  .cases h
 .cases h
def Cf (t:TypeId):AV->AV
 | .d x=>.d (.bZ t x)
 | x=>.bZ t x
omit hg in
theorem JA {u:Value} {x:AV} {t:TypeId} (hx:RV w X μ u x):RV w X μ (.iface t u) (Cf t x):=by
 unfold Cf;split
 .exact .d (.bZ hx.data)
 .exact .bZ hx
def E7 (T:Ty) (t:TypeId) (x:AV):kS:=match T t with
 | some ti=>if TypeDesc.isIface ti.desc then none else some (True,Cf t x)
 | none=>none
theorem abl {t:TypeId} {u:Value} {x z:AV} {c:Prop} (h:E7 T t x=some (c,z)) (hx:RV w X μ u x):∃ r,(Instr.makeInterface t u).run P w = .ok r w/\RV w X μ r z:=by
 unfold E7 at h;split at h
 .rename_i ti ht;split at h
  .cases h
  .rename_i hd;obtain⟨rfl,rfl⟩:=eo h;refine⟨_,?_,JA hx⟩;simp only[Instr.makeInterface,Sem.run_bind,hg.dN ht,Result.andThen_ok];cases ew:ti.desc<;>simp[ew,TypeDesc.isIface]at hd ⊢
 .cases h
def DH (i:Nat):AV->kS
 | .d (.bx vs)=>vs[i]?.map fun x=>(True,.d x)
 | .bx vs=>vs[i]?.map fun x=>(True,x)
 | _=>none
omit hg in
theorem WN {i:Nat} {u:Value} {x z:AV} {c:Prop} (h:DH i x=some (c,z)) (hx:RV w X μ u x):∃ r,(Instr.extract u i).run P w = .ok r w/\RV w X μ r z:=by
 unfold DH at h;split at h
 .obtain⟨y,hy,he⟩:=AS.1 h;simp only[agA]at he;obtain⟨rfl,rfl⟩:=he;obtain⟨arr,rfl,hn,hr⟩:=hx.data.Aa;have aG:=(BY.1 hy).1
  have:arr[i]? = some arr[i]:=ak
  exact⟨arr[i],by simp[Instr.extract,this],.d (hr i _ y this hy)⟩
 .obtain⟨y,hy,he⟩:=AS.1 h;simp only[agA]at he;obtain⟨rfl,rfl⟩:=he;obtain⟨arr,rfl,hn,hr⟩:=hx.Aa;have aG:=(BY.1 hy).1
  have:arr[i]? = some arr[i]:=ak
  exact⟨arr[i],by simp[Instr.extract,this],hr i _ y this hy⟩
 .cases h
def Ce (f:Fn) (caps:List AV):AV:=match lR caps with
 | some ds=>.d (.fn f ds)
 | none=>.fn f caps
omit hg in
theorem Jz {f:Fn} {arr:Array Value} {caps:List AV} (hn:arr.size=caps.length) (hr:∀ (j:Nat) (u:Value) (c:AV),arr[j]? = some u->caps[j]? = some c->RV w X μ u c):RV w X μ (.func f #[] arr) (Ce f caps):=by
 unfold Ce;split
 .rename_i ds hd;rw[qo hd]at hn hr;exact .d (.fn (by simpa using hn) fun j u c hu hc=>(hr j u (.d c) hu (by rw[agC,hc];rfl)).data)
 .exact .fn hn hr
def F0 (op:UnOp):AV->kS
 | .d (.v (.bool b))=>match op with | .not=>some (True,bool !b) | _=>none
 | .d (.v (.int k n))=>match op with | .neg=>(uS k (0 - n)).map fun (c,v)=>(c,.d (.v v)) | _=>none
 | _=>none
omit hg in
theorem aeE {op:UnOp} {u:Value} {x z:AV} {c:Prop} (h:F0 op x=some (c,z)) (hc:c) (hx:RV w X μ u x):∃ r,(Op.unary op u).run P w = .ok r w/\RV w X μ r z:=by
 unfold F0 at h;split at h
 .split at h
  .obtain⟨rfl,rfl⟩:=eo h;obtain rfl:=hx.scalar;exact⟨_,by simp[Op.unary],.d (.v _)⟩
  .cases h
 .split at h
  .obtain⟨⟨c',v⟩,hf,he⟩:=AS.1 h;simp only[agA]at he;obtain⟨rfl,rfl⟩:=he;obtain rfl:=hx.scalar;have:=G3 hf hc;subst this;exact⟨_,by simp[Op.unary,Op.intArith],.d (.v _)⟩
  .cases h
 .cases h
def Du (T:Ty) (dst:TypeId):AV->kS
 | .d (.v (.int _ n))=>match T dst with
  | some ti=>match ti.desc with
   | .int k=>(uS k n).map fun (c,v)=>(c,.d (.v v))
   | .string=>some (True,.d (.v (.string (Utf8.encode n))))
   | _=>none
  | none=>none
 | .d (.v (.string s))=>if qx T dst TypeDesc.isStr then some (True,.d (.v (.string s))) else none
 | _=>none
theorem VV {src dst:TypeId} (ZQ:(T src).isSome) {u:Value} {x z:AV} {c:Prop} (h:Du T dst x=some (c,z)) (hc:c) (hx:RV w X μ u x):∃ r,(convert src dst u).run P w = .ok r w/\RV w X μ r z:=by
 obtain⟨tis,si⟩:=aht.1 ZQ;unfold Du at h;split at h
 .split at h
  .rename_i ti ht;split at h
   .rename_i k hd;obtain⟨⟨c',v⟩,hf,he⟩:=AS.1 h;simp only[agA]at he;obtain⟨rfl,rfl⟩:=he;obtain rfl:=hx.scalar;have:=G3 hf hc;subst this;exact⟨_,by simp[convert,hg.dN si,hg.dN ht,hd,Conv.intToInt],.d (.v _)⟩
   .rename_i hd;obtain⟨rfl,rfl⟩:=eo h;obtain rfl:=hx.scalar;exact⟨_,by simp[convert,hg.dN si,hg.dN ht,hd,Conv.intToString],.d (.v _)⟩
   .cases h
  .cases h
 .split at h
  .rename_i hd;obtain⟨ti,ht,hp⟩:=uL hd;obtain⟨rfl,rfl⟩:=eo h;obtain rfl:=hx.scalar;exact⟨_,by simp[convert,hg.dN si,hg.dN ht,EN hp],.d (.v _)⟩
  .cases h
 .cases h
def Ff:AV->kS
 | .d (.ip c)=>some (True,.d (.ip c))
 | .ref r e j=>some (True,.ref r e j)
 | _=>none
omit hg in
theorem abL {u:Value} {x z:AV} {c:Prop} (h:Ff x=some (c,z)) (hx:RV w X μ u x):(∃ a,u = .pointer (some a))/\RV w X μ u z:=by
 unfold Ff at h;split at h
 .obtain⟨rfl,rfl⟩:=eo h;obtain⟨b,off,f,rfl,_⟩:=hx.data.qK;exact⟨⟨_,rfl⟩,hx⟩
 .obtain⟨rfl,rfl⟩:=eo h;obtain⟨m,b,_,_,rfl⟩:=hx.lu;exact⟨⟨_,rfl⟩,hx⟩
 .cases h
def bound (G:aC) (e:Env):Option Operand->Option (Option Int)
 | none=>some none
 | some o=>match bF G e o with
  | some (.d (.v (.int _ i)))=>some (some i)
  | _=>none
def rN (T:Ty) (H:Heap) (t:TypeId) (x:AV) (lo hi:Option Int):kS:=
 let l:=lo.getD 0
 match x with
 | .d (.v (.string s))=>if qx T t TypeDesc.isStr then
   let h:=hi.getD s.size
   some (0<=l/\l<=h/\h<=s.size,.d (.v (.string (s.extract l.toNat h.toNat)))) else none
 | .d (.sl k els)=>match pV T t with
  | some s=>
   let h:=hi.getD els.length
   some (0<=l/\l<=h/\h<=els.length/\(l=0\/∀ el∈els,el.length=s),.d (.sl k ((els.drop l.toNat).take (h - l).toNat)))
  | none=>none
 | .own r off n=>match pV T t,H r with
  | some s,some (.sl _ sz _)=>
   let h:=hi.getD n
   some (0<=l/\l<=h/\h<=n/\sz=s,if l=n/\¬ l=0 then .d (.sl none []) else .own r (off+l.toNat) (h - l).toNat)
  | _,_=>none
 | _=>none
omit hg in
theorem zW {isS:Bool} {len cap:Nat} {lo hi:Option Value} {l h:Int} (hl:(lo=none/\l=0)\/∃ k,lo=some (.int k l)) (hh:(hi=none/\h=len)\/∃ k,hi=some (.int k h)) (h0:0<=l) (h1:l<=h) (h2:h<=cap) :
  (Instr.sliceBounds isS len cap lo hi none).run P w = .ok (l.toNat,h.toNat,cap) w:=by
 have e1:0<=h:=aa
 rcases hh with⟨rfl,rfl⟩ | ⟨k,rfl⟩<;>rcases hl with⟨rfl,rfl⟩ | ⟨k',rfl⟩
 .simp[Instr.sliceBounds]
 .simp[Instr.sliceBounds,Instr.sliceBound,asIntOf,h0,h1]
 .simp[Instr.sliceBounds,Instr.sliceBound,asIntOf,e1,h2]
 .have e3:l<=max h 0:=aa
  simp[Instr.sliceBounds,Instr.sliceBound,asIntOf,e1,h2,h0,e3]
theorem adP (hs:eF w X μ H) {t:TypeId} {u:Value} {x z:AV} {c:Prop} {lo hi:Option Int} {C3 CZ:Option Value} (h:rN T H t x lo hi=some (c,z)) (hc:c) (hx:RV w X μ u x)
  (w8:(C3=none/\lo=none)\/∃ k l,C3=some (.int k l)/\lo=some l) (za:(CZ=none/\hi=none)\/∃ k l,CZ=some (.int k l)/\hi=some l) :
  ∃ r,(Instr.sliceAt t u C3 CZ none).run P w = .ok r w/\RV w X μ r z:=by
 have hL:(C3=none/\lo.getD 0=0)\/∃ k,C3=some (.int k (lo.getD 0)):=by
  rcases w8 with⟨rfl,rfl⟩ | ⟨k,l,rfl,rfl⟩
  .exact .inl ⟨rfl,rfl⟩
  .exact .inr ⟨k,rfl⟩
 have hH:∀ n:Nat,(CZ=none/\hi.getD n=n)\/∃ k,CZ=some (.int k (hi.getD n)):=by
  intro n
  rcases za with⟨rfl,rfl⟩ | ⟨k,l,rfl,rfl⟩
  .exact .inl ⟨rfl,rfl⟩
  .exact .inr ⟨k,rfl⟩
 unfold rN at h;dsimp only at h;split at h
 .rename_i s;split at h
  .rename_i hd;obtain⟨ti,ht,hp⟩:=uL hd;obtain⟨rfl,rfl⟩:=eo h;obtain rfl:=hx.scalar;obtain⟨h0,h1,h2⟩:=hc;exact⟨_,by simp[Instr.sliceAt,hg.dN ht,EN hp,Instr.slice,zW (P:=P) (w:=w) hL (hH s.size) h0 h1 h2],.d (.v _)⟩
  .cases h
 .rename_i k els;split at h
  .rename_i s he;obtain⟨rfl,rfl⟩:=eo h;obtain⟨h0,h1,h2,h3⟩:=hc;unfold pV at he;split at he
   .rename_i ti ht;split at he
    .rename_i e hd;obtain⟨te,dh,rfl⟩:=AS.1 he;generalize lo.getD 0=l at *;have tv:=hH els.length;generalize hi.getD ↑els.length=hh at *;obtain⟨l,rfl⟩:=agY h0;obtain⟨hh,rfl⟩:=agY (show 0<=hh by omega)
     have e1:((hh:Int) - l).toNat=hh - l:=aa
     simp only[agO,e1]
     rcases hx.data.qT with⟨rfl,rfl,hk⟩ | ⟨a,cap,rfl,hk,lH,hm,hr⟩
     .have l0:l=0:=by simp at h2;omega
      have HU:hh=0:=by simp at h2;omega
      subst l0 HU;have:=zW (P:=P) (w:=w) (isS:=true) (cap:=0) hL tv h0 h1 ak;refine⟨.slice none 0 0,?_,.d (by simpa using .nil hk)⟩;simp at this;simp[Instr.sliceAt,hg.dN ht,hd,Instr.slice,this,hg.sizeOf dh]
     .have:=zW (P:=P) (w:=w) (isS:=true) (cap:=cap) hL tv h0 h1 aa;refine⟨.slice (some (if cap=l then a else a.add (l * te.size))) (hh - l) (cap - l),?_,.d ?_⟩
      .simp[Instr.sliceAt,hg.dN ht,hd,Instr.slice,this,hg.sizeOf dh];split<;>rfl
      .by_cases hz:hh - l=0
       .rw[hz,List.take_zero];exact .empty hk (by unfold maxLen at *;omega)
       .rcases hr with rfl | ⟨b,off,sz,f,rfl,hX,bg,dy,ea,lN⟩
        .simp at h2;omega
        .have cN:¬ cap=l:=aa
         rw[if_neg cN,addr_add]
         have tS:l * te.size=l * sz:=by
          rcases h3 with h3 | h3
          .have:l=0:=aa
           simp[this]
          .have bl:els≠[]:=by intro e;simp[e]at h2;omega
           obtain⟨el,bz⟩:=List.exists_mem_of_ne_nil _ bl;rw[<- h3 el bz,dy el bz]
         rw[tS];refine .sl (sz:=sz) (f:=fun i j=>f (l+i) j) hk ?_ aa (by unfold maxLen at *;omega) hX ?_ bg aa ?_ ?_
         .simp;omega
         .intro el bz;exact dy el (ahf (agJ bz))
         .intro i j hi hj;have:=ea (l+i) j aa hj;rw[ahh]at this;rw[<- this];congr 2;omega
         .intro i j el c bz hc;rw[agP]at bz;split at bz
          .rw[ahd]at bz;exact lN _ j el c bz hc
          .cases bz
    .cases he
   .cases he
  .cases h
 .rename_i r off n;split at h
  .rename_i s ty sz els he D4;obtain⟨rfl,rfl⟩:=eo h;obtain⟨h0,h1,h2,rfl⟩:=hc;unfold pV at he;split at he
   .rename_i ti ht;split at he
    .rename_i e hd;obtain⟨te,dh,rfl⟩:=AS.1 he;generalize lo.getD 0=l at *;have tv:=hH n;generalize hi.getD ↑n=hh at *;obtain⟨l,rfl⟩:=agY h0;obtain⟨hh,rfl⟩:=agY (show 0<=hh by omega)
     have e1:((hh:Int) - l).toNat=hh - l:=aa
     simp only[agO,e1];obtain⟨m,hm,hu⟩:=hx.ma;obtain⟨m',cH,ok⟩:=hs.rows r _ D4;rw[hm]at cH;obtain rfl:=AI cH
     have bg:m.sz=te.size:=by cases ok<;>assumption
     by_cases hz:(l:Int)=n/\¬ (l:Int)=0
     .rw[if_pos hz]
      rcases hu with⟨hb,rfl,rfl,rfl⟩ | ⟨b,hb,rfl,hle⟩
      .omega
      .have hmc:m.cap<=maxLen:=by
        cases ok with
        | nil bk _=>rw[hb]at bk;cases bk
        | sl bk _ _ _ _ cH=>exact cH
       have:=zW (P:=P) (w:=w) (isS:=true) (cap:=m.cap - off) hL tv h0 h1 aa;refine⟨.slice (some (if m.cap - off=l then ⟨b,off * m.sz,none⟩ else (⟨b,off * m.sz,none⟩:Addr).add (l * te.size))) (hh - l) (m.cap - off - l),?_,?_⟩
       .simp[Instr.sliceAt,hg.dN ht,hd,Instr.slice,this,hg.sizeOf dh];split<;>rfl
       .rw[show hh - l=0 by omega];exact .d (.empty ak aa)
     rw[if_neg hz]
     have h3:(l:Int)=0\/(l:Int) < n:=aa
     rcases hu with⟨hb,rfl,rfl,rfl⟩ | ⟨b,hb,rfl,hle⟩
     .have l0:l=0:=aa
      have HU:hh=0:=aa
      subst l0 HU;have:=zW (P:=P) (w:=w) (isS:=true) (cap:=0) hL tv h0 h1 ak;refine⟨.slice none 0 0,?_,.own hm (.inl ⟨hb,rfl,rfl,rfl⟩)⟩;simp[Instr.sliceAt,hg.dN ht,hd,Instr.slice,hg.sizeOf dh];simp at this;simp[this]
     .have:=zW (P:=P) (w:=w) (isS:=true) (cap:=m.cap - off) hL tv h0 h1 aa;refine⟨.slice (some (if m.cap - off=l then ⟨b,off * m.sz,none⟩ else (⟨b,off * m.sz,none⟩:Addr).add (l * te.size))) (hh - l) (m.cap - off - l),?_,.own hm (.inr ⟨b,hb,?_,aa⟩)⟩
      .simp[Instr.sliceAt,hg.dN ht,hd,Instr.slice,this,hg.sizeOf dh];split<;>rfl
      .rw[addr_add,<- bg,<- ahh]
       have e3:m.cap - off - l=m.cap - (off+l):=aa
       rw[e3];split
       .have:l=0:=aa
        subst this;simp
       .rfl
    .cases he
   .cases he
  .cases h
 .cases h
end
end Go.Av
namespace Go.Av
def eB (μ:Mu) (r:Nat) (m:jo):Mu:=fun q=>if q=r then some m else μ q
def ez (r:Nat) (e:Env):Env:=fun i=>(e i).map (AV.kill r)
def eA (r:Nat) (H:Heap):Heap:=fun q=>(H q).map (Row.kill r)
theorem j6.same {w w':World} {Mv X:Nat->Prop} {μ aH:Mu} (h:Ev Mv w μ w' aH) (gb:∀ q m,μ q=some m->aH q=some m) {m:jo} (hb:∀ b,m.fo=some b->w'.heap[b]? = w.heap[b]?) {row:Row} (ok:j6 w X μ m row):j6 w' X aH m row:=by
 cases ok with
 | nil h1 h2=>exact .nil h1 h2
 | sl h1 h2 h3 h4 h5 h6 h7 h8 h9=>
  exact .sl h1 h2 ((hb _ h1).trans h3) h4 h5 h6 h7 h8 fun i j el c he hc=>let ⟨u,hu,hr⟩:=h9 i j el c he hc;⟨u,hu,hr.ev h⟩
 | box h1 h2 h3 h4 h5 h6 h7=>exact .box h1 h2 h3 ((hb _ h1).trans h4) h5 (fun j u c hu hc=>(h6 j u c hu hc).same h gb) h7
 | mp h1 h2 h3 h4=>exact .mp h1 ((hb _ h1).trans h2) h3 fun i e p he hp=>let ⟨a,b,c⟩:=h4 i e p he hp;⟨a,b,c.ev h⟩
 | it h1 h2 h3=>exact .it h1 ((hb _ h1).trans h2) (h3.ev h)
theorem j6.keep {w w':World} {Mv X:Nat->Prop} {μ aH:Mu} (h:Ev Mv w μ w' aH) {r:Nat} (gb:∀ q,q≠r->aH q=μ q) {m:jo} (hb:∀ b,m.fo=some b->w'.heap[b]? = w.heap[b]?) {row:Row} (ok:j6 w X μ m row):j6 w' X aH m (row.kill r):=by
 cases ok with
 | nil h1 h2=>exact .nil h1 h2
 | sl h1 h2 h3 h4 h5 h6 h7 h8 h9=>
  exact .sl h1 h2 ((hb _ h1).trans h3) h4 h5 h6 h7 h8 fun i j el c he hc=>let ⟨u,hu,hr⟩:=h9 i j el c he hc;⟨u,hu,hr.ev h⟩
 | box h1 h2 h3 h4 h5 h6 h7=>
  refine .box h1 rfl h3 ((hb _ h1).trans h4) (by simpa using h5) (fun j u c hu hc=>?_) (by simpa using h7);rw[agC]at hc;obtain⟨c',dZ,rfl⟩:=AS.1 hc;exact (h6 j u c' hu dZ).keep h gb
 | mp h1 h2 h3 h4=>exact .mp h1 ((hb _ h1).trans h2) h3 fun i e p he hp=>let ⟨a,b,c⟩:=h4 i e p he hp;⟨a,b,c.ev h⟩
 | it h1 h2 h3=>exact .it h1 ((hb _ h1).trans h2) (h3.ev h)
section
variable {Mv X:Nat->Prop} {G:aC} {N:Fr} {w w':World} {μ:Mu} {a:Act} {σ:St}
theorem j6.mg {m:jo} {row:Row} {b:Nat} (ok:j6 w X μ m row) (hb:m.fo=some b):b < w.heap.size:=by
 cases ok with
 | nil bk _=>rw[bk]at hb;cases hb
 | sl bk _ hh=>rw[bk]at hb;obtain rfl:=AI hb;exact (agx.1 hh).1
 | box bk _ _ hh=>rw[bk]at hb;obtain rfl:=AI hb;exact (agx.1 hh).1
 | mp bk hh=>rw[bk]at hb;obtain rfl:=AI hb;exact (agx.1 hh).1
 | it bk hh=>rw[bk]at hb;obtain rfl:=AI hb;exact (agx.1 hh).1
theorem eF.xP {H:Heap} (h:eF w X μ H) {r:Nat} (hr:H r=none):μ r=none:=by
 cases hm:μ r with
 | none=>rfl
 | some m=>obtain⟨row,nU⟩:=h.lD r m hm;rw[hr]at nU;cases nU
structure cR (w w':World):Prop where
 size:w.heap.size<=w'.heap.size
 os:w'.os=w.os
 tape:w'.tape=w.tape
 output:w'.output=w.output
 same:∀ b,b < w.heap.size->w'.heap[b]? = w.heap[b]?
theorem cR.refl (w:World):cR w w:=⟨agD _,rfl,rfl,rfl,fun _ _=>rfl⟩
theorem cR.alloc (w:World) (o:Obj):cR w (w.alloc o):=⟨ak,rfl,rfl,rfl,fun b hb=>by rw[<- World.alloc_eq];simp[Array.getElem?_push,Nat.ne_of_lt hb]⟩
theorem cR.drew (w:World):cR w w.drew:=⟨agD _,rfl,rfl,rfl,fun _ _=>rfl⟩
theorem In.qA (hi:In w X G μ N a σ) (hg:cR w w'):In w' X G μ N a σ/\Ev Mv w μ w' μ:=by
 have ev:Ev Mv w μ w' μ:=⟨hg.size,hg.os,hg.tape,hg.output,fun b hb hr=>⟨hg.same b hb,hr⟩,fun _ _ h _=>h⟩;refine⟨⟨⟨fun r row hr=>?_,hi.bu.lD,hi.bu.inj,hi.bu.frame,fun b hb=>ag2 (hi.bu.fits b hb) hg.size⟩,⟨hi.env.defers,hi.env.size,fun i x hx=>?_⟩,fun g x hx=>(hi.jq g x hx).ev ev⟩,ev⟩
 .obtain⟨m,hm,ok⟩:=hi.bu.rows r row hr;exact⟨m,hm,ok.same ev (fun _ _ h=>h) fun b hb=>hg.same b (ok.mg hb)⟩
 .obtain⟨u,hu,hr⟩:=hi.env.slot i x hx;exact⟨u,hu,hr.same ev fun _ _ h=>h⟩
theorem In.alloc (hi:In w X G μ N a σ) {d:Nat} (hd:σ.H d=none) (hg:cR w w') {m:jo} (hm:∀ b,m.fo=some b->w.heap.size<=b) {row:Row}
  (ok:Ev Mv w μ w' (eB μ d m)->j6 w' X (eB μ d m) m row):In w' X G (eB μ d m) N a ⟨σ.env,aX σ.H d row⟩/\Ev Mv w μ w' (eB μ d m):=by
 have BH:=hi.bu.xP hd
 have gb:∀ q m',μ q=some m'->eB μ d m q=some m':=by
  intro q m' hq;unfold eB;split
  .rename_i e;subst e;rw[BH]at hq;cases hq
  .exact hq
 have ev:Ev Mv w μ w' (eB μ d m):=by
  refine⟨hg.size,hg.os,hg.tape,hg.output,fun b hb hr=>⟨hg.same b hb,?_⟩,fun _ _ h _=>gb _ _ h⟩;rintro⟨q,m',hq,bk⟩;unfold eB at hq;split at hq
  .obtain rfl:=AI hq;have:=hm b bk;omega
  .exact hr ⟨q,m',hq,bk⟩
 have ok:=ok ev;refine⟨⟨⟨fun r ir hr=>?_,fun r m' hr=>?_,fun r r' m1 m2 b h1 h2 eM gB=>?_,fun r m' b hr hb=>?_,fun b hb=>ag2 (hi.bu.fits b hb) hg.size⟩,⟨hi.env.defers,hi.env.size,fun i x hx=>?_⟩,fun g x hx=>(hi.jq g x hx).ev ev⟩,ev⟩
 .dsimp only[aX]at hr;split at hr
  .rename_i e;subst e;obtain rfl:=AI hr;exact⟨m,by simp[eB],ok⟩
  .rename_i e;obtain⟨m',cH,xV⟩:=hi.bu.rows r ir hr;exact⟨m',gb r m' cH,xV.same ev gb fun b hb=>hg.same b (xV.mg hb)⟩
 .unfold eB at hr;split at hr
  .rename_i e;exact⟨row,by simp[aX,e]⟩
  .rename_i e;obtain⟨ir,nU⟩:=hi.bu.lD r m' hr;exact⟨ir,by simp[aX,e,nU]⟩
 .have lt:∀ q m',μ q=some m'->m'.fo=some b->b < w.heap.size:=fun q m' hq hb=>hi.bu.mg ⟨q,m',hq,hb⟩;unfold eB at h1 h2;split at h1<;>split at h2
  .rename_i e1 e2;rw[e1,e2]
  .obtain rfl:=AI h1;have:=hm b eM;have:=lt r' m2 h2 gB;omega
  .obtain rfl:=AI h2;have:=hm b gB;have:=lt r m1 h1 eM;omega
  .exact hi.bu.inj r r' m1 m2 b h1 h2 eM gB
 .unfold eB at hr;split at hr
  .obtain rfl:=AI hr;intro hX;have:=hm b hb;have:=hi.bu.fits b hX;omega
  .exact hi.bu.frame r m' b hr hb
 .obtain⟨u,hu,hr⟩:=hi.env.slot i x hx;exact⟨u,hu,hr.same ev gb⟩
theorem In.write (hi:In w X G μ N a σ) {r b:Nat} {m:jo} (hm:μ r=some m) (hb:m.fo=some b) (hs:w'.heap.size=w.heap.size) (ho:w'.os=w.os) (ht:w'.tape=w.tape) (sd:w'.output=w.output)
  (sf:∀ k,k≠b->w'.heap[k]? = w.heap[k]?) {row:Row} (ok:Ev Mv w μ w' μ->j6 w' X μ m row):In w' X G μ N a ⟨σ.env,aX σ.H r row⟩/\Ev Mv w μ w' μ:=by
 have ev:Ev Mv w μ w' μ:=⟨aa,ho,ht,sd,fun k hk hr=>⟨sf k fun e=>hr ⟨r,m,hm,e ▸ hb⟩,hr⟩,fun _ _ h _=>h⟩;have ok:=ok ev;refine⟨⟨⟨fun q ir hq=>?_,fun q m' hq=>?_,hi.bu.inj,hi.bu.frame,fun b hb=>by have:=hi.bu.fits b hb;omega⟩,⟨hi.env.defers,hi.env.size,fun i x hx=>?_⟩,fun g x hx=>(hi.jq g x hx).ev ev⟩,ev⟩
 .dsimp only[aX]at hq;split at hq
  .rename_i e;subst e;obtain rfl:=AI hq;exact⟨m,hm,ok⟩
  .rename_i e;obtain⟨m',cH,xV⟩:=hi.bu.rows q ir hq;exact⟨m',cH,xV.same ev (fun _ _ h=>h) fun k hk=>sf k fun e'=>e (hi.bu.inj q r m' m k cH hm hk (e' ▸ hb))⟩
 .by_cases e:q=r
  .exact⟨row,by simp[aX,e]⟩
  .obtain⟨ir,nU⟩:=hi.bu.lD q m' hq;exact⟨ir,by simp[aX,e,nU]⟩
 .obtain⟨u,hu,hr⟩:=hi.env.slot i x hx;exact⟨u,hu,hr.same ev fun _ _ h=>h⟩
theorem In.move (hi:In w X G μ N a σ) {r:Nat} {m m':jo} (hm:μ r=some m) (gu:Mv r) (hs:w.heap.size<=w'.heap.size) (ho:w'.os=w.os) (ht:w'.tape=w.tape) (sd:w'.output=w.output)
  (sf:∀ k,k < w.heap.size->m.fo≠some k->w'.heap[k]? = w.heap[k]?) (mB:∀ b,m'.fo=some b->w.heap.size<=b\/m.fo=some b) {row:Row}
  (ok:Ev Mv w μ w' (eB μ r m')->j6 w' X (eB μ r m') m' row):In w' X G (eB μ r m') N a ⟨ez r σ.env,aX (eA r σ.H) r row⟩/\Ev Mv w μ w' (eB μ r m'):=by
 have gb:∀ q,q≠r->eB μ r m' q=μ q:=fun q hq=>by simp[eB,hq]
 have ev:Ev Mv w μ w' (eB μ r m'):=by
  refine⟨hs,ho,ht,sd,fun b hb hr=>⟨sf b hb fun e=>hr ⟨r,m,hm,e⟩,?_⟩,fun q mq hq hn=>?_⟩
  .rintro⟨q,mq,hq,ld⟩;unfold eB at hq;split at hq
   .obtain rfl:=AI hq
    rcases mB b ld with h | h
    .omega
    .exact hr ⟨r,m,hm,h⟩
   .exact hr ⟨q,mq,hq,ld⟩
  .have:q≠r:=fun e=>hn (e ▸ gu);rw[gb q this];exact hq
 have ok:=ok ev;refine⟨⟨⟨fun q ir hq=>?_,fun q mq hq=>?_,fun q q' m1 m2 b h1 h2 eM gB=>?_,fun q mq b hq hb=>?_,fun b hb=>ag2 (hi.bu.fits b hb) hs⟩,⟨hi.env.defers,hi.env.size,fun i x hx=>?_⟩,fun g x hx=>(hi.jq g x hx).ev ev⟩,ev⟩
 .dsimp only[aX]at hq;split at hq
  .rename_i e;subst e;obtain rfl:=AI hq;exact⟨m',by simp[eB],ok⟩
  .rename_i e;unfold eA at hq;obtain⟨oY,h0,rfl⟩:=AS.1 hq;obtain⟨mq,zf,xV⟩:=hi.bu.rows q oY h0;exact⟨mq,(gb q e).trans zf,xV.keep ev gb fun k hk=>sf k (xV.mg hk) fun e'=>e (hi.bu.inj q r mq m k zf hm hk e')⟩
 .by_cases e:q=r
  .exact⟨row,by simp[aX,e]⟩
  .rw[gb q e]at hq;obtain⟨ir,nU⟩:=hi.bu.lD q mq hq;exact⟨ir.kill r,by simp[aX,e,eA,nU]⟩
 .have lt:∀ q mq,μ q=some mq->mq.fo=some b->b < w.heap.size:=fun q mq hq hb=>hi.bu.mg ⟨q,mq,hq,hb⟩;by_cases e1:q=r<;>by_cases e2:q'=r
  .rw[e1,e2]
  .rw[gb q' e2]at h2;simp only[eB,e1,if_true,IT]at h1;subst h1
   rcases mB b eM with h | h
   .have:=lt q' m2 h2 gB;omega
   .exact absurd (hi.bu.inj q' r m2 m b h2 hm gB h) e2
  .rw[gb q e1]at h1;simp only[eB,e2,if_true,IT]at h2;subst h2
   rcases mB b gB with h | h
   .have:=lt q m1 h1 eM;omega
   .exact absurd (hi.bu.inj q r m1 m b h1 hm eM h) e1
  .rw[gb q e1]at h1;rw[gb q' e2]at h2;exact hi.bu.inj q q' m1 m2 b h1 h2 eM gB
 .by_cases e:q=r
  .simp only[eB,e,if_true,IT]at hq;subst hq
   rcases mB b hb with h | h
   .intro hX;have:=hi.bu.fits b hX;omega
   .exact hi.bu.frame r m b hm h
  .rw[gb q e]at hq;exact hi.bu.frame q mq b hq hb
 .unfold ez at hx;obtain⟨x0,h0,rfl⟩:=AS.1 hx;obtain⟨u,hu,hr⟩:=hi.env.slot i x0 h0;exact⟨u,hu,hr.keep ev gb⟩
theorem JX (hs:eF w X μ σ.H) {r off n ty sz:Nat} {els:List (List D)} (hH:σ.H r=some (.sl ty sz els)) (hle:off+n<=els.length) {u:Value} (hu:RV w X μ u (.own r off n)) :
  ∃ k,RD w (XX X (fun q=>if q=r then none else μ q)) u (.sl k ((els.drop off).take n))/\(0 < n->k=some true)/\k≠some false:=by
 obtain⟨m,hm,hh⟩:=hu.ma;obtain⟨m',cH,ok⟩:=hs.rows r _ hH;rw[hm]at cH;obtain rfl:=AI cH
 have hX:∀ b,m.fo=some b->¬ XX X (fun q=>if q=r then none else μ q) b:=by
  rintro b hb (h | ⟨q,mq,hq,ld⟩)
  .exact hs.frame r m b hm hb h
  .dsimp only at hq;split at hq
   .cases hq
   .rename_i e;exact e (hs.inj q r mq m b hq hm ld hb)
 rcases hh with⟨hb,rfl,rfl,rfl⟩ | ⟨b,hb,rfl,lH⟩
 .exact⟨none,by simpa using .nil ak,aa,ak⟩
 .cases ok with
  | nil bk _=>rw[bk]at hb;cases hb
  | sl bk bg hh cX hn gZ hl hz hr=>
   rename_i b' cur;rw[hb]at bk;obtain rfl:=AI bk;subst bg;by_cases h0:n=0
   .subst h0;exact⟨some true,by rw[List.take_zero];exact .empty ak (by unfold maxLen at *;omega),aa,ak⟩
   .refine⟨some true,.sl (sz:=m.sz) (f:=fun i j=>cur.getD ((off+i) * m.sz+j) undef) ak (by simp;omega) aa (by unfold maxLen at *;omega) (hX b hb) (fun el bz=>hl el (ahf (agJ bz))) hz aa ?_ ?_,ak,ak⟩
    .intro i j hi hj
     have aG:(off+i) * m.sz+j < cur.size:=by
      rw[cX];have:(off+i+1) * m.sz<=m.cap * m.sz:=agT _ aa;rw[ahh]at this;omega
     have e1:off * m.sz+(i * m.sz+j)=(off+i) * m.sz+j:=by rw[ahh];omega
     rw[e1,cell_of_row w b _ cur ty (0,0) hh];simp[agz,aG]
    .intro i j el c bz hc;rw[agP]at bz;split at bz
     .rw[ahd]at bz;obtain⟨u',oQ,cf⟩:=hr (off+i) j el c bz hc;rw[agz,oQ];refine cf.mono (agD _) fun b hb y3=>⟨rfl,?_⟩;rintro (h | ⟨q,mq,hq,ld⟩)
      .exact y3 (.inl h)
      .dsimp only at hq;split at hq
       .cases hq
       .exact y3 (.inr ⟨q,mq,hq,ld⟩)
     .cases bz
end
end Go.Av
namespace Go.Av
def D.one:D->Bool
 | .v x=>x.oneCell'
 | .agg _ | .bx _=>false
 | _=>true
def AV.one:AV->Bool
 | .d x=>x.one
 | .own _ _ _ | .ref _ _ _ | .bZ _ _ | .fn _ _ | .mp _=>true
 | _=>false
section
variable {w:World} {X:Nat->Prop} {μ:Mu}
theorem RD.zS {u:Value} {x:D} (h:RD w X u x) (h1:x.one=true):u.oneCell'=true:=by
 cases h<;>first | rfl | exact h1 | cases h1
theorem RV.zS {u:Value} {x:AV} (h:RV w X μ u x) (h1:x.one=true):u.oneCell'=true:=by
 cases h with
 | d h=>exact h.zS h1
 | own _ h=>rcases h with⟨_,rfl,_⟩ | ⟨b,_,rfl,_⟩<;>rfl
 | ref _ _=>rfl
 | bZ _=>rfl
 | fn _ _=>rfl
 | mp _ _=>rfl
 | _=>cases h1
theorem cells_one {u:Value} (h:u.oneCell'=true):u.cells = #[u]:=by cases u<;>first | rfl | cases h
structure Ak (w:World) (X:Nat->Prop) (μ:Mu) (arr:Array Value) (cells:List AV):Prop where
 size:arr.size=cells.length
 at_:∀ (j:Nat) (u:Value) (c:AV),arr[j]? = some u->cells[j]? = some c->RV w X μ u c
def jn:AV->Option (List AV)
 | .d (.agg cs)=>some (cs.map .d)
 | .agg cs=>some cs
 | x=>if x.one then some [x] else none
theorem Ac {u:Value} {x:AV} {cs:List AV} (hx:RV w X μ u x) (h:jn x=some cs):Ak w X μ u.cells cs:=by
 unfold jn at h;split at h
 .obtain rfl:=AI h;obtain⟨arr,rfl,hn,hr⟩:=hx.data.rR;exact⟨by simpa[Value.cells]using hn,RV.zP hr⟩
 .obtain rfl:=AI h;obtain⟨arr,rfl,hn,hr⟩:=hx.rR;exact⟨hn,hr⟩
 .split at h
  .rename_i h1;obtain rfl:=AI h;rw[cells_one (hx.zS h1)];refine⟨rfl,fun j v c hv hc=>?_⟩
   match j,hv,hc with
   | 0,hv,hc=>simp at hv hc;subst hv hc;exact hx
   | j+1,hv,hc=>simp at hc
  .cases h
def kz:Value->List D
 | .agg arr=>arr.toList.map s4
 | v=>[s4 v]
theorem Af (v:Value):v.cells.size=(kz v).length/\∀ (j:Nat) (u:Value) (c:D),v.cells[j]? = some u->(kz v)[j]? = some c->RD w X u c:=by
 cases v with
 | agg arr=>
  refine⟨by simp[Value.cells,kz],fun j u c hu hc=>?_⟩;simp only[kz,agC]at hc;obtain⟨c',dZ,rfl⟩:=AS.1 hc;rw[agH]at dZ;simp only[Value.cells]at hu;rw[hu]at dZ;obtain rfl:=AI dZ;exact yw _
 | _=>
  refine⟨rfl,fun j u c hu hc=>?_⟩
  match j,hu,hc with
  | 0,hu,hc=>simp[Value.cells,kz]at hu hc;subst hu hc;exact yw _
  | j+1,hu,hc=>simp[kz]at hc
end
def oo (Mv X:Nat->Prop) (G:aC) (N:Fr) (w:World) (μ:Mu) (a:Act) (run:Result Value) (x:AV) (bh:St):Prop:=
 ∃ v w' aH,run = .ok v w'/\In w' X G aH N a bh/\RV w' X aH v x/\Ev Mv w μ w' aH
section
variable {P:Program} {T:Ty} {Mv X:Nat->Prop} {G:aC} {N:Fr} {w:World} {μ:Mu} {a:Act} {σ:St}
theorem PF (hi:In w X G μ N a σ) {d:Nat} (hd:σ.H d=none) (t:TypeId) {cur:Array Value} {cells:List AV} (hp:Ak w X μ cur cells) :
  oo Mv X G N w μ a (.ok (.pointer (some ⟨w.heap.size,0,none⟩)) (w.alloc (.cells cur t))) (.ref d 0 0) ⟨σ.env,aX σ.H d (.box t cells)⟩:=by
 have BH:=hi.bu.xP hd
 have hm:eB μ d ⟨some w.heap.size,cells.length,1⟩ d=some ⟨some w.heap.size,cells.length,1⟩:=by simp[eB]
 obtain⟨h1,h2⟩:=hi.alloc (Mv:=Mv) hd (cR.alloc w (.cells cur t)) (m:=⟨some w.heap.size,cells.length,1⟩) (fun b hb=>by simp at hb;omega) (row:=.box t cells) fun ev=>
  .box rfl rfl (show 1<=maxLen by decide) (by simpa using heap_alloc_new w (.cells cur t)) (Nat.le_of_eq hp.size.symm) (hx:=fun _=>hp.size.symm) fun j u c hu hc=>(hp.at_ j u c hu hc).same ev fun q m' hq=>by
   unfold eB;split
   .rename_i e;subst e;rw[BH]at hq;cases hq
   .exact hq
 refine⟨_,_,_,rfl,h1,?_,h2⟩;have:=RV.ref (w:=w.alloc (.cells cur t)) (X:=X) (μ:=eB μ d ⟨some w.heap.size,cells.length,1⟩) (e:=0) (j:=0) (b:=w.heap.size) hm rfl;simpa using this
structure SL (w:World) (X:Nat->Prop) (cur:Array Value) (sz:Nat) (els:List (List D)):Prop where
 len:∀ el∈els,el.length=sz
 at_:∀ (i j:Nat) (el:List D) (c:D),els[i]? = some el->el[j]? = some c->∃ u,cur[i * sz+j]? = some u/\RD w X u c
theorem PG (hi:In w X G μ N a σ) {d:Nat} (hd:σ.H d=none) (t:TypeId) {cur:Array Value} {sz n cap:Nat} {els:List (List D)} (he:SL w (XX X μ) cur sz els) (hz:0 < sz) (hc:cur.size=cap * sz) (hn:els.length=n) (lH:n<=cap) (Zf:cap<=maxLen) :
  oo Mv X G N w μ a (.ok (.slice (some ⟨w.heap.size,0,none⟩) n cap) (w.alloc (.cells cur t))) (.own d 0 n) ⟨σ.env,aX σ.H d (.sl t sz els)⟩:=by
 have hm:eB μ d ⟨some w.heap.size,sz,cap⟩ d=some ⟨some w.heap.size,sz,cap⟩:=by simp[eB]
 obtain⟨h1,h2⟩:=hi.alloc (Mv:=Mv) hd (cR.alloc w (.cells cur t)) (m:=⟨some w.heap.size,sz,cap⟩) (fun b hb=>by simp at hb;omega) (row:=.sl t sz els) fun ev=>
  .sl rfl rfl (by simpa using heap_alloc_new w (.cells cur t)) hc (by simp;omega) Zf he.len hz fun i j el c h1 h2=>let ⟨u,hu,hr⟩:=he.at_ i j el c h1 h2;⟨u,hu,hr.ev ev⟩
 exact⟨_,_,_,rfl,h1,.own hm (.inr ⟨w.heap.size,rfl,ak,by simpa using lH⟩),h2⟩
theorem SW (hg:Good P T) (hi:In w X G μ N a σ) {d:Nat} (hd:σ.H d=none) {t:TypeId} {ti:TI} (ht:T t=some ti) :
  oo Mv X G N w μ a ((Instr.alloc t true (.tuple #[])).run P w) (.ref d 0 0) ⟨σ.env,aX σ.H d (.box t ((kz ti.zero).map .d))⟩:=by
 have:=PF (Mv:=Mv) hi hd t (cur:=ti.zero.cells) (cells:=(kz ti.zero).map .d) ⟨by simpa using (Af (w:=w) (X:=X) ti.zero).1,RV.zP (Af ti.zero).2⟩;simpa[Instr.alloc,hg.zero ht,newVar,newRow]using this
theorem Vp (hi:In w X G μ N a σ) {d:Nat} (hd:σ.H d=none) {t:TypeId} {u:Value} {x:AV} {cs:List AV} (hx:RV w X μ u x) (hc:jn x=some cs) :
  oo Mv X G N w μ a ((Instr.box t u).run P w) (.ref d 0 0) ⟨σ.env,aX σ.H d (.box t cs)⟩:=by
 have:=PF (Mv:=Mv) hi hd t (Ac hx hc);simpa[Instr.box,newVar,newRow]using this
theorem zX {α:Type} (l cs:List α) (j i:Nat) (hj:j+cs.length<=l.length):(l.take j ++ cs ++ l.drop (j+cs.length))[i]? = if j<=i/\i < j+cs.length then cs[i - j]? else l[i]?:=by
 rw[ahI,ahT];simp only[agM]
 have e1:min j l.length=j:=aa
 rw[e1];split
 .rename_i h;rw[if_neg aa,agP,if_pos h]
 .rename_i h;rw[ahT];split
  .rename_i h2;rw[if_pos aa]
  .rename_i h2;rw[if_neg aa,ahd];congr 1;omega
theorem Rc {ti:TI} {t:TypeId} (hg:Good P T) (ht:T t=some ti) {b o:Nat} {ty:TypeId} {cur:Array Value} {u:Value} (hh:w.heap[b]? = some (.cells cur ty (0,0))) (hs:u.cells.size=ti.size) (lK:o+ti.size<=cur.size) (h1:∀ v∈u.cells.toList,v.oneCell'=true) :
  (storeVar t ⟨b,o,none⟩ u).run P w = .ok () (w.setRow b (cur.toList.take o ++ u.cells.toList ++ cur.toList.drop (o+u.cells.toList.length)).toArray):=by
 have:=run_storeCells_at P b o ty u.cells.toList 0 cur w hh (by simp;omega) h1;simp only[ahB]at this;simp[storeVar,hg.sizeOf ht,hs,this]
def FR (T:Ty) (t:TypeId) (cells:List AV) (j:Nat) (x:AV):Option (Prop×List AV):=match T t,jn x with
 | some ti,some cs=>some (cs.length=ti.size/\j+cs.length<=cells.length/\cs.all AV.one=true,cells.take j ++ cs ++ cells.drop (j+cs.length))
 | _,_=>none
theorem ad2 (hg:Good P T) (hi:In w X G μ N a σ) {t ty:TypeId} {r j:Nat} {cells uJ:List AV} {ua u:Value} {x:AV} {c:Prop} (hH:σ.H r=some (.box ty cells)) (h:FR T t cells j x=some (c,uJ)) (hc:c)
  (ha:RV w X μ ua (.ref r 0 j)) (hx:RV w X μ u x):∃ w',(Instr.storeAt t ua u).run P w = .ok () w'/\In w' X G μ N a ⟨σ.env,aX σ.H r (.box ty uJ)⟩/\Ev Mv w μ w' μ:=by
 unfold FR at h;split at h
 .rename_i ti cs ht cX;obtain⟨rfl,rfl⟩:=eo h;obtain⟨h1,h2,h3⟩:=hc;obtain⟨m,b,hm,hb,rfl⟩:=ha.lu;obtain⟨m',cH,ok⟩:=hi.bu.rows r _ hH;rw[hm]at cH;obtain rfl:=AI cH;have hp:=Ac hx cX
  cases ok with
  | box bk bg lH hh hn hr zv=>
   rename_i b' cur;rw[hb]at bk;obtain rfl:=AI bk
   have kN:∀ v∈u.cells.toList,v.oneCell'=true:=by
    intro v hv;obtain⟨i,e9,rfl⟩:=agG.1 hv
    have fZ:i < cs.length:=by rw[<- hp.size];simpa using e9
    refine (hp.at_ i _ cs[i] (by rw[<- agH,By e9]) (by simp[fZ])).zS ?_;exact ahl.1 h3 _ (OF fZ)
   have dV:=Rc (P:=P) hg ht (o:=j) hh (by rw[hp.size,h1]) aa kN
   have sg:u.cells.toList.length=cs.length:=by simpa using hp.size
   obtain⟨aS,bp⟩:=hi.write (Mv:=Mv) (w':=w.setRow b (cur.toList.take j ++ u.cells.toList ++ cur.toList.drop (j+u.cells.toList.length)).toArray) hm hb ak rfl rfl rfl (fun k hk=>setRow_other w b k _ hk)
    (row:=.box ty (cells.take j ++ cs ++ cells.drop (j+cs.length))) fun ev=>by
     refine .box hb rfl lH (setRow_heap w b cur _ ty _ hh) ?_ (hx:=fun e=>?_) fun i v c hv hc=>?_
     .simp[sg];omega
     rotate_left
     .have:=zv e;simp[sg];omega
     .rw[zX _ _ _ _ h2]at hc;rw[<- agH]at hv;simp only at hv;rw[zX _ _ _ _ (by rw[sg];simp;omega),sg]at hv;refine RV.same ev (fun _ _ h=>h) ?_;split at hv
      .rename_i ph;rw[if_pos ph]at hc;exact hp.at_ _ v c (by simpa using hv) hc
      .rename_i ph;rw[if_neg ph]at hc;exact hr i v c (by simpa using hv) hc
   refine⟨_,?_,aS,bp⟩;simp only[ahM,ag4];simpa[Instr.storeAt,Instr.sureAddr]using dV
 .cases h
def FT (T:Ty) (t:TypeId) (sz:Nat) (els:List (List D)) (e j:Nat) (x:AV):Option (Prop×List (List D)):=match T t,(jn x).bind lR with
 | some ti,some cs=>some (cs.length=ti.size/\e < els.length/\j+cs.length<=sz/\cs.all D.one=true,els.set e ((els.getD e []).take j ++ cs ++ (els.getD e []).drop (j+cs.length)))
 | _,_=>none
theorem ad3 (hg:Good P T) (hi:In w X G μ N a σ) {t ty:TypeId} {r e j sz:Nat} {els oA:List (List D)} {ua u:Value} {x:AV} {c:Prop} (hH:σ.H r=some (.sl ty sz els)) (h:FT T t sz els e j x=some (c,oA)) (hc:c)
  (ha:RV w X μ ua (.ref r e j)) (hx:RV w X μ u x):∃ w',(Instr.storeAt t ua u).run P w = .ok () w'/\In w' X G μ N a ⟨σ.env,aX σ.H r (.sl ty sz oA)⟩/\Ev Mv w μ w' μ:=by
 unfold FT at h;split at h
 .rename_i ti ds ht cX;obtain⟨cs,cX,mv⟩:=agI.1 cX;obtain⟨rfl,rfl⟩:=eo h;obtain⟨h1,h2,h3,h4⟩:=hc;obtain⟨m,b,hm,hb,rfl⟩:=ha.lu;obtain⟨m',cH,ok⟩:=hi.bu.rows r _ hH;rw[hm]at cH;obtain rfl:=AI cH;have hp:=Ac hx cX;rw[qo mv]at hp
  have fg:u.cells.size=ds.length:=by simpa using hp.size
  have Ew:∀ (i:Nat) (v:Value) (c:D),u.cells[i]? = some v->ds[i]? = some c->RD w (XX X μ) v c:=fun i v c hv hc=>(hp.at_ i v (.d c) hv (by rw[agC,hc];rfl)).data
  cases ok with
  | nil bk _=>rw[hb]at bk;cases bk
  | sl bk bg hh HB hn gZ hl hz hr=>
   rename_i b' cur;rw[hb]at bk;obtain rfl:=AI bk;subst bg
   have kN:∀ v∈u.cells.toList,v.oneCell'=true:=by
    intro v hv;obtain⟨i,e9,rfl⟩:=agG.1 hv
    have fZ:i < ds.length:=by rw[<- fg];simpa using e9
    refine (Ew i _ ds[i] (by rw[<- agH,By e9]) (by simp[fZ])).zS ?_;exact ahl.1 h4 _ (OF fZ)
   have bz:els.getD e []=els[e]:=by simp[agw,h2]
   have hlen:(els[e]).length=m.sz:=hl _ (OF h2);have hE:(e+1) * m.sz<=m.cap * m.sz:=agT _ aa;rw[ahh]at hE;have dV:=Rc (P:=P) hg ht (o:=e * m.sz+j) hh (by rw[fg,h1]) (by rw[HB];omega) kN
   have sg:u.cells.toList.length=ds.length:=by simpa using fg
   rw[bz]
   obtain⟨aS,bp⟩:=hi.write (Mv:=Mv) (w':=w.setRow b (cur.toList.take (e * m.sz+j) ++ u.cells.toList ++ cur.toList.drop (e * m.sz+j+u.cells.toList.length)).toArray) hm hb ak rfl rfl rfl (fun k hk=>setRow_other w b k _ hk)
    (row:=.sl ty m.sz (els.set e ((els[e]).take j ++ ds ++ (els[e]).drop (j+ds.length)))) fun ev=>by
     refine .sl hb rfl (setRow_heap w b cur _ ty _ hh) ?_ (by simpa using hn) gZ ?_ hz ?_
     .simp[sg,HB];omega
     .intro el Bk
      rcases List.mem_or_eq_of_mem_set Bk with h | rfl
      .exact hl el h
      .simp[hlen];omega
     .intro i k el c e9 hk
      have key:∀ idx,((cur.toList.take (e * m.sz+j) ++ u.cells.toList ++ cur.toList.drop (e * m.sz+j+u.cells.toList.length)).toArray)[idx]? = if e * m.sz+j<=idx/\idx < e * m.sz+j+ds.length then u.cells[idx - (e * m.sz+j)]? else cur[idx]?:=by
       intro idx;rw[<- agH];simp only;rw[zX _ _ _ _ (by rw[sg];simp[HB];omega),sg];simp
      rw[key]
      have dA:k < m.sz:=by
       have cH:el∈els.set e ((els[e]).take j ++ ds ++ (els[e]).drop (j+ds.length)):=ahr e9
       have:el.length=m.sz:=by
        rcases List.mem_or_eq_of_mem_set cH with h | rfl
        .exact hl el h
        .simp[hlen];omega
       have:=(BY.1 hk).1;omega
      rw[List.getElem?_set]at e9;split at e9
      .rename_i HH;subst HH
       try rw[if_pos h2]at e9
       obtain rfl:=AI e9;rw[zX _ _ _ _ aa]at hk;split at hk
       .rename_i wY;rw[if_pos aa]
        have e1:e * m.sz+k - (e * m.sz+j)=k - j:=aa
        rw[e1]
        have aG:k - j < u.cells.size:=aa
        exact⟨u.cells[k - j],by simp[aG],(Ew (k - j) _ c (by simp[aG]) hk).ev ev⟩
       .rename_i wY;rw[if_neg aa];obtain⟨v,hv,cf⟩:=hr e k _ c (By h2) hk;exact⟨v,hv,cf.ev ev⟩
      .rename_i HH
       have bl:¬ (e * m.sz+j<=i * m.sz+k/\i * m.sz+k < e * m.sz+j+ds.length):=by
        rintro⟨g1,g2⟩
        rcases Nat.lt_or_gt_of_ne HH with h | h
        .have:(e+1) * m.sz<=i * m.sz:=agT _ h;rw[ahh]at this;omega
        .have:(i+1) * m.sz<=e * m.sz:=agT _ h;rw[ahh]at this;omega
       rw[if_neg bl];obtain⟨v,hv,cf⟩:=hr i k el c e9 hk;exact⟨v,hv,cf.ev ev⟩
   refine⟨_,?_,aS,bp⟩;simpa[Instr.storeAt,Instr.sureAddr]using dV
 .cases h
def qN (ti:TI) (n:Nat):List (List D):=List.replicate n (kz ti.zero)
theorem abk (hg:Good P T) (hi:In w X G μ N a σ) {d:Nat} (hd:σ.H d=none) {t e:TypeId} {tt te:TI} (cL:T t=some tt) (ew:tt.desc = .slice e) (dh:T e=some te) {k1 k2:IntKind} {l c:Int} (h0:0<=l) (h1:l<=c) (h2:te.bytes * c<=281474976710656) (h3:c<=9223372036854775807)
  (hz:0 < te.size) (ug:(kz te.zero).length=te.size) :
  oo Mv X G N w μ a ((Instr.makeSlice t (.int k1 l) (.int k2 c)).run P w) (.own d 0 l.toNat) ⟨σ.env,aX σ.H d (.sl e te.size (qN te l.toNat))⟩:=by
 obtain⟨hu,i0,my,gv,iD,nW,_⟩:=hg e te dh;have ht:=(hg t tt cL).1;rw[ew]at ht;rw[run_make (P:=P) w t e i0 te.zero ht my nW k1 k2 l c h0 h1 (by rw[iD];exact h2) h3,gv];refine PG (Mv:=Mv) hi hd e ⟨fun el bz=>?_,fun i j el d bz hd=>?_⟩ hz (size_madeCells _ _) (by simp[qN]) aa (by unfold maxLen;omega)
 .rw[List.eq_of_mem_replicate bz,ug]
 .unfold qN at bz;rw[List.getElem?_replicate]at bz;split at bz
  .rename_i aG;obtain rfl:=AI bz
   have hj:j < te.size:=by rw[<- ug];exact (BY.1 hd).1
   have uf:=Af (w:=w) (X:=XX X μ) te.zero
   have cX:te.zero.cells.size=te.size:=by rw[uf.1,ug]
   have Bs:j < te.zero.cells.size:=aa
   refine⟨te.zero.cells[j],?_,uf.2 j _ d (by simp[Bs]) hd⟩
   have hb:i * te.size+j < c.toNat * te.size:=by
    have:(i+1) * te.size<=c.toNat * te.size:=agT _ aa;rw[ahh]at this;omega
   have jV:(i * te.size+j) % te.size=j:=by rw[Nat.mul_comm,Nat.mul_add_mod,Nat.mod_eq_of_lt hj]
   simp[madeCells,hb,cX,jV];exact getElem!_pos te.zero.cells j Bs
  .cases bz
end
end Go.Av
namespace Go.Av
section
variable {P:Program} {T:Ty} {Mv X:Nat->Prop} {G:aC} {N:Fr} {w:World} {μ:Mu} {a:Act} {σ:St}
def uI (sz:Nat):Nat->List (Nat×AV)->Option (List (List D))
 | _,[]=>some []
 | k,(i,x) :: rest=>if i=k then match (jn x).bind lR with
   | some ds=>if ds.length=sz then (uI sz (k+1) rest).map (ds :: ·) else none
   | none=>none
  else none
theorem Qt (vs:List Value):∀ (n off:Nat) (arr:Array Value) (k:Nat),off+n+vs.length<=arr.size->
  ((vs.zipIdx n).foldl (fun cs (p:Value×Nat)=>cs.setIfInBounds (off+p.2) p.1) arr)[k]? = if off+n<=k/\k < off+n+vs.length then vs[k - (off+n)]? else arr[k]?:=by
 induction vs with
 | nil=>
  intro n off arr k _;simp only[List.zipIdx_nil,List.foldl_nil,ahZ];rw[if_neg aa]
 | cons v vs ih=>
  intro n off arr k hk;simp only[agS]at hk;rw[List.zipIdx_cons,List.foldl_cons,ih (n+1) off _ k (by simp;omega)];simp only[agS];by_cases h1:k=off+n
  .subst h1;rw[if_neg aa,if_pos aa];simp[Array.getElem?_setIfInBounds,show off+n < arr.size by omega]
  .by_cases h2:off+(n+1)<=k/\k < off+(n+1)+vs.length
   .rw[if_pos h2,if_pos aa]
    have:k - (off+n)=(k - (off+(n+1)))+1:=aa
    rw[this];rfl
   .rw[if_neg h2,if_neg aa];exact ahJ aa
theorem Qu (vs:List Value):∀ (n off:Nat) (arr:Array Value),((vs.zipIdx n).foldl (fun cs (p:Value×Nat)=>cs.setIfInBounds (off+p.2) p.1) arr).size=arr.size:=by
 induction vs with
 | nil=>intros;rfl
 | cons v vs ih=>intro n off arr;rw[List.zipIdx_cons,List.foldl_cons,ih];simp
theorem MA {sz:Nat}:∀ (ps:List (Nat×AV)) (vs:List (Nat×Value)) (k:Nat) (els:List (List D)) (arr:Array Value),uI sz k ps=some els->vs.map (·.1)=ps.map (·.1)->
  (∀ (i:Nat) (p:Nat×AV) (v:Nat×Value),ps[i]? = some p->vs[i]? = some v->RV w X μ v.2 p.2)->(k+ps.length) * sz<=arr.size->
  ∃ kY,Instr.fill (fun i=>some (i * sz,sz)) arr vs=some kY/\kY.size=arr.size/\(∀ idx,idx < k * sz->kY[idx]? = arr[idx]?)/\els.length=ps.length/\(∀ el∈els,el.length=sz)/\
   ∀ (i j:Nat) (el:List D) (c:D),els[i]? = some el->el[j]? = some c->∃ u,kY[(k+i) * sz+j]? = some u/\RD w (XX X μ) u c:=by
 intro ps
 induction ps with
 | nil=>
  intro vs k els arr h hv _ _
  cases vs with
  | cons _ _=>simp at hv
  | nil=>
   simp only[uI,IT]at h;subst h;exact⟨arr,rfl,rfl,fun _ _=>rfl,rfl,ak,ak⟩
 | cons p ps ih=>
  intro vs k els arr h hv hr hs;obtain⟨i,x⟩:=p
  cases vs with
  | nil=>simp at hv
  | cons v vs=>
   obtain⟨i',u⟩:=v;simp only[agW,ah8]at hv;obtain⟨rfl,hv⟩:=hv;simp only[uI]at h;split at h
   case isFalse=>cases h
   rename_i Bq;subst Bq;split at h
   case h_2=>cases h
   rename_i ds mv;split at h
   case isFalse=>cases h
   rename_i hlen;obtain⟨oA,wP,rfl⟩:=AS.1 h;obtain⟨cs,cX,dy⟩:=agI.1 mv;have hp:=Ac (hr 0 (i',x) (i',u) rfl rfl) cX;rw[qo dy]at hp
   have fg:u.cells.size=sz:=by have:=hp.size;simp at this;omega
   have Ew:∀ (j:Nat) (v:Value) (c:D),u.cells[j]? = some v->ds[j]? = some c->RD w (XX X μ) v c:=fun j v c hv hc=>(hp.at_ j v (.d c) hv (by rw[agC,hc];rfl)).data
   have lK:i' * sz+sz<=arr.size:=by
    simp only[agS]at hs;have:(i'+1) * sz<=(i'+(ps.length+1)) * sz:=agT _ aa;rw[ahh]at this;omega
   let lC:=(u.cells.zipIdx.foldl (fun cs (p:Value×Nat)=>cs.setIfInBounds (i' * sz+p.2) p.1) arr)
   have Bh:lC=((u.cells.toList.zipIdx 0).foldl (fun cs (p:Value×Nat)=>cs.setIfInBounds (i' * sz+p.2) p.1) arr):=by
    show Array.foldl _ _ _=_;rw[<- Array.foldl_toList,Array.toList_zipIdx]
   have EB:lC.size=arr.size:=by rw[Bh];exact Qu _ _ _ _
   have Ei:∀ k,lC[k]? = if i' * sz<=k/\k < i' * sz+sz then u.cells[k - i' * sz]? else arr[k]?:=by
    intro k;rw[Bh,Qt _ 0 _ _ _ (by simp[fg];omega)];simp[fg]
   obtain⟨kY,hf,vc,hold,hlen',Hr,mB⟩:=ih vs (i'+1) oA lC wP hv (fun i p v h1 h2=>hr (i+1) p v (by simpa using h1) (by simpa using h2)) (by rw[EB];simp only[agS]at hs;rw[show i'+1+ps.length=i'+(ps.length+1) by omega];exact hs);refine⟨kY,?_,vc.trans EB,fun idx El=>?_,by simp[hlen'],fun el bz=>?_,fun i j el c hi hj=>?_⟩
   .simp only[Instr.fill]
    have:¬ (u.cells.size≠sz\/i' * sz+u.cells.size > arr.size):=aa
    simp only[fg,ne_eq,not_true_eq_false,decide_false,ah2,decide_eq_true_eq];rw[if_neg aa];exact hf
   .rw[hold idx (by rw[ahh];omega),Ei,if_neg aa]
   .rcases agK.1 bz with rfl | h
    .exact hlen
    .exact Hr el h
   .cases i with
    | zero=>
     simp at hi;subst hi
     have eN:j < sz:=by rw[<- hlen];exact (BY.1 hj).1
     have NL:j < u.cells.size:=aa
     refine⟨u.cells[j],?_,Ew j _ c (by simp[NL]) hj⟩;rw[ahB,hold _ (by rw[ahh];omega),Ei,if_pos aa];simp[NL]
    | succ i=>
     simp at hi;have:=mB i j el c hi hj
     rwa [show i'+1+i=i'+(i+1) by omega]at this
theorem Vt (hg:Good P T) (hi:In w X G μ N a σ) {d:Nat} (hd:σ.H d=none) {t e:TypeId} {tt te:TI} (cL:T t=some tt) (ew:tt.desc = .slice e) (dh:T e=some te) {len:Nat} {ps:List (Nat×AV)} {vs:Array (Nat×Value)} {els:List (List D)}
  (Yf:uI te.size 0 ps=some els) (hlen:ps.length=len) (hv:vs.toList.map (·.1)=ps.map (·.1)) (hr:∀ (i:Nat) (p:Nat×AV) (v:Nat×Value),ps[i]? = some p->vs[i]? = some v->RV w X μ v.2 p.2)
  (hz:0 < te.size) (Ol:len * te.size<=16777216) :
  oo Mv X G N w μ a ((Instr.buildSlice t len vs).run P w) (.own d 0 len) ⟨σ.env,aX σ.H d (.sl e te.size els)⟩:=by
 have hu:=hg.dN (w:=w) cL;have bg:=hg.sizeOf (w:=w) dh;have B3:=hg.zero (w:=w) dh
 obtain⟨kY,hf,vc,_,hl,dy,mB⟩:=MA (w:=w) (X:=X) (μ:=μ) (sz:=te.size) ps vs.toList 0 els ((Array.range (len * te.size)).map ((if len * te.size=0 then #[] else te.zero.cells)[· % (if len * te.size=0 then #[] else te.zero.cells).size]!)) Yf hv
  (fun i p v h1 h2=>hr i p v h1 (by rwa [agH]at h2)) (by simp[hlen])
 have:=PG (Mv:=Mv) hi hd e (cur:=kY) (sz:=te.size) (n:=len) (cap:=len) (els:=els) ⟨dy,fun i j el c h1 h2=>by simpa using mB i j el c h1 h2⟩ hz (by rw[vc];simp) aa (agD _) (by
  have:len<=len * te.size:=Nat.le_mul_of_pos_right _ hz
  unfold maxLen;omega)
 have hn:¬ len * te.size > 2 ^ 24:=aa
 have e0:∀ f:Nat->Value,(Array.range 0).map f = #[]:=fun f=>by apply Array.ext<;>simp
 by_cases h0:len * te.size=0
 .simp only[h0,if_true,e0]at hf;simp only[Instr.buildSlice,Sem.run_bind,hu,ew,Result.andThen_ok,bg,hn,if_false,h0,if_true,Sem.run_pure,e0];simp[hf,newRow];exact this
 .simp only[h0,if_false]at hf;simp only[Instr.buildSlice,Sem.run_bind,hu,ew,Result.andThen_ok,bg,hn,if_false,h0,Sem.run_pure,B3];simp[hf,newRow];exact this
def yK (pl:Nat->Option (Nat×Nat)):List AV->List (Nat×AV)->Option (List AV)
 | cs,[]=>some cs
 | cs,(i,x) :: rest=>match pl i,jn x with
  | some (off,sz),some xs=>if xs.length=sz/\off+sz<=cs.length then yK pl (cs.take off ++ xs ++ cs.drop (off+sz)) rest else none
  | _,_=>none
theorem WS {pl:Nat->Option (Nat×Nat)}:∀ (ps:List (Nat×AV)) (vs:List (Nat×Value)) (cs qu:List AV) (arr:Array Value),yK pl cs ps=some qu->vs.map (·.1)=ps.map (·.1)->
  (∀ (i:Nat) (p:Nat×AV) (v:Nat×Value),ps[i]? = some p->vs[i]? = some v->RV w X μ v.2 p.2)->Ak w X μ arr cs->∃ kY,Instr.fill pl arr vs=some kY/\Ak w X μ kY qu:=by
 intro ps
 induction ps with
 | nil=>
  intro vs cs qu arr h hv _ hp
  cases vs with
  | cons _ _=>simp at hv
  | nil=>
   simp only[yK,IT]at h;subst h;exact⟨arr,rfl,hp⟩
 | cons p ps ih=>
  intro vs cs qu arr h hv hr hp;obtain⟨i,x⟩:=p
  cases vs with
  | nil=>simp at hv
  | cons v vs=>
   obtain⟨i',u⟩:=v;simp only[agW,ah8]at hv;obtain⟨rfl,hv⟩:=hv;simp only[yK]at h;split at h
   case h_2=>cases h
   rename_i off sz xs fg Z4;split at h
   case isFalse=>cases h
   rename_i hc;obtain⟨jW,lK⟩:=hc;have N9:=Ac (hr 0 (i',x) (i',u) rfl rfl) Z4
   have IU:u.cells.size=sz:=by rw[N9.size,jW]
   have afr:arr.size=cs.length:=hp.size
   let lC:=(u.cells.zipIdx.foldl (fun cs (p:Value×Nat)=>cs.setIfInBounds (off+p.2) p.1) arr)
   have Bh:lC=((u.cells.toList.zipIdx 0).foldl (fun cs (p:Value×Nat)=>cs.setIfInBounds (off+p.2) p.1) arr):=by
    show Array.foldl _ _ _=_;rw[<- Array.foldl_toList,Array.toList_zipIdx]
   have EB:lC.size=arr.size:=by rw[Bh];exact Qu _ _ _ _
   have Ei:∀ k,lC[k]? = if off<=k/\k < off+sz then u.cells[k - off]? else arr[k]?:=by
    intro k;rw[Bh,Qt _ 0 _ _ _ (by simp[IU];omega)];simp[IU]
   have eb:Ak w X μ lC (cs.take off ++ xs ++ cs.drop (off+sz)):=by
    refine⟨by rw[EB];simp;omega,fun j v c xo hc=>?_⟩;rw[Ei]at xo
    have ig:(List.take off cs).length=off:=by simp;omega
    rw[ahI,ahT,ig]at hc;split at hc
    .rename_i hj;rw[if_neg aa]at xo;rw[agP,if_pos hj]at hc;exact hp.at_ j v c xo hc
    .rename_i hj;rw[ahT,jW]at hc;split at hc
     .rename_i pj;rw[if_pos aa]at xo;exact N9.at_ _ v c xo hc
     .rename_i pj;rw[if_neg aa]at xo;rw[ahd]at hc;refine hp.at_ j v c xo ?_;rw[<- hc];congr 1;omega
   obtain⟨kY,hf,Zv⟩:=ih vs _ qu lC h hv (fun i p v h1 h2=>hr (i+1) p v (by simpa using h1) (by simpa using h2)) eb;refine⟨kY,?_,Zv⟩;simp only[Instr.fill,fg,IU,ne_eq,not_true_eq_false,decide_false,ah2,decide_eq_true_eq];rw[if_neg aa];exact hf
def J7 (T:Ty) (t:TypeId):Option (Nat->Option (Nat×Nat)):=match T t with
 | some ti=>match ti.desc with
  | .struct fs=>if fs.toList.all (fun f=>(T f.type).isSome) then some fun i=>(fs[i]?).bind fun (f:Field)=>(T f.type).map fun tf=>(f.offset,tf.size) else none
  | .array _ e=>(T e).map fun te=>fun i=>some (i * te.size,te.size)
  | _=>none
 | none=>none
def Dn (T:Ty) (t:TypeId) (ps:List (Nat×AV)):kS:=match T t,J7 T t with
 | some ti,some pl=>(yK pl ((kz ti.zero).map .d) ps).map fun cs=>(True,qe cs)
 | _,_=>none
theorem run_places (hg:Good P T):∀ (l:List Field),l.all (fun f=>(T f.type).isSome)=true->
  (l.mapM (m:=Sem) fun (f:Field)=>do pure (f.offset,<- Go.sizeOf f.type)).run P w = .ok (l.map fun (f:Field)=>(f.offset,((T f.type).map (·.size)).getD 0)) w:=by
 intro l
 induction l with
 | nil=>intro _;simp
 | cons f l ih=>
  intro h;simp only[List.all_cons,abi]at h;obtain⟨ti,IK⟩:=aht.1 h.1;simp only[List.mapM_cons,Sem.run_bind,hg.sizeOf IK,Result.andThen_ok,Sem.run_pure,ih h.2,agW,IK,ag1,ah1]
theorem Vs (hg:Good P T) {t:TypeId} {ps:List (Nat×AV)} {vs:Array (Nat×Value)} {c:Prop} {x:AV} (h:Dn T t ps=some (c,x)) (hv:vs.toList.map (·.1)=ps.map (·.1))
  (hr:∀ (i:Nat) (p:Nat×AV) (v:Nat×Value),ps[i]? = some p->vs[i]? = some v->RV w X μ v.2 p.2):∃ u,(Instr.build t vs).run P w = .ok u w/\RV w X μ u x:=by
 unfold Dn at h;split at h
 case h_2=>cases h
 rename_i ti pl ht fg;obtain⟨cs,cX,he⟩:=AS.1 h;simp only[agA]at he;obtain⟨_,rfl⟩:=he;have hz:=Af (w:=w) (X:=XX X μ) ti.zero;obtain⟨kY,hf,hp⟩:=WS (w:=w) (X:=X) (μ:=μ) ps vs.toList _ cs ti.zero.cells cX hv (fun i p v h1 h2=>hr i p v h1 (by rwa [agH]at h2)) ⟨by simpa using hz.1,RV.zP hz.2⟩;refine⟨.agg kY,?_,Cd (.agg hp.size hp.at_)⟩;unfold J7 at fg;rw[ht]at fg;dsimp only at fg;split at fg
 .rename_i fs YH;split at fg
  .rename_i dy;obtain rfl:=AI fg;have hm:=run_places (P:=P) (w:=w) hg fs.toList dy
   have Zx:(fun (i:Nat)=>((fs.toList.map fun (f:Field)=>(f.offset,((T f.type).map (·.size)).getD 0)).toArray)[i]?)=fun (i:Nat)=>(fs[i]?).bind fun (f:Field)=>(T f.type).map fun tf=>(f.offset,tf.size):=by
    funext i;simp only[List.getElem?_toArray,agC,agH]
    cases hi:fs[i]? with
    | none=>rfl
    | some f=>
     have ng:f∈fs.toList:=by rw[<- agH]at hi;exact ahr hi
     obtain⟨tf,ED⟩:=aht.1 (ahl.1 dy f ng);simp[ED]
   simp only[Instr.build,Sem.run_bind,hg.zero ht,hg.dN ht,YH,Result.andThen_ok,Array.mapM_eq_mapM_toList,map_eq_pure_bind,hm,Sem.run_pure];rw[<- Zx]at hf;simp only[hf,Sem.run_pure]
  .cases fg
 .rename_i n e he;obtain⟨te,dh,fg⟩:=AS.1 fg;subst fg;simp[Instr.build,Sem.run_bind,hg.zero ht,hg.dN ht,he,Result.andThen_ok,hg.sizeOf dh,hf]
 .cases fg
structure sT (w:World) (X:Nat->Prop) (μ:Mu) (sz:Nat) (u:Value) (els:List (List D)):Prop where
 len:∀ el∈els,el.length=sz
 at_:(els=[]/\∃ (ad:Option Addr) (cap:Nat),u = .slice ad 0 cap)\/∃ (ad:Addr) (cap:Nat) (news:List Value),u = .slice (some ad) els.length cap/\news.length=els.length * sz/\(∀ (j:Nat) (v:Value),news[j]? = some v->w.cell? (ad.add j)=some v)/\(∀ v∈news,v.oneCell'=true)/\
  ∀ (i j:Nat) (el:List D) (c:D),els[i]? = some el->el[j]? = some c->∃ v,news[i * sz+j]? = some v/\RD w (XX X μ) v c
theorem sT.PV {sz:Nat} {els:List (List D)} {b off cap:Nat} (f:Nat->Nat->Value) (hl:∀ el∈els,el.length=sz) (hz:0 < sz) (h1:∀ el∈els,∀ c∈el,D.one c=true)
  (ea:∀ i j,i < els.length->j < sz->w.cell? ⟨b,off+(i * sz+j),none⟩=some (f i j)) (hr:∀ (i j:Nat) (el:List D) (c:D),els[i]? = some el->el[j]? = some c->RD w (XX X μ) (f i j) c) :
  sT w X μ sz (.slice (some ⟨b,off,none⟩) els.length cap) els:=by
 refine⟨hl,.inr ⟨_,_,(List.range (els.length * sz)).map fun k=>f (k / sz) (k % sz),rfl,ak,fun j v hv=>?_,fun v hv=>?_,fun i j el c hi hj=>?_⟩⟩
 .rw[agC]at hv;obtain⟨k,hk,rfl⟩:=AS.1 hv;rw[List.getElem?_range]at hk
  .obtain rfl:=AI hk
   have YX:j < els.length * sz:=by
    rcases ahH j (els.length * sz)with h | h
    .exact h
    .rw[ahN (by simpa using h)]at hv;cases hv
   have h2:j / sz < els.length:=(Nat.div_lt_iff_lt_mul hz).2 YX;have h3:j % sz < sz:=Nat.mod_lt _ hz;rw[addr_add,<- ea (j / sz) (j % sz) h2 h3,Nat.div_add_mod']
  .rcases ahH j (els.length * sz)with h | h
   .exact h
   .rw[ahN (by simpa using h)]at hv;cases hv
 .obtain⟨k,hk,rfl⟩:=ag3.1 hv;have hk:=ahC.1 hk;have h2:k / sz < els.length:=(Nat.div_lt_iff_lt_mul hz).2 hk
  have h3:k % sz < (els[k / sz]).length:=by rw[hl _ (OF h2)];exact Nat.mod_lt _ hz
  exact (hr (k / sz) (k % sz) _ _ (By h2) (By h3)).zS (h1 _ (OF h2) _ (OF h3))
 .have e9:=(BY.1 hi).1;have bz:el.length=sz:=hl _ (ahr hi)
  have eN:j < sz:=by rw[<- bz];exact (BY.1 hj).1
  have hb:i * sz+j < els.length * sz:=by
   have:(i+1) * sz<=els.length * sz:=agT _ e9;rw[ahh]at this;omega
  have e1:(i * sz+j) / sz=i:=by rw[Nat.mul_comm,Nat.mul_add_div hz,Nat.div_eq_of_lt eN];rfl
  have e2:(i * sz+j) % sz=j:=by rw[Nat.mul_comm,Nat.mul_add_mod,Nat.mod_eq_of_lt eN]
  refine⟨f i j,?_,hr i j el c hi hj⟩;rw[agC,List.getElem?_range hb];simp[e1,e2]
def mH (H:Heap) (r:Nat):AV->Option (List (List D))
 | .d (.sl _ els)=>some els
 | .own q off n=>if q=r then none else match H q with
  | some (.sl _ _ els)=>if off+n<=els.length then some ((els.drop off).take n) else none
  | _=>none
 | _=>none
theorem Fa (hs:eF w X μ σ.H) {r sz:Nat} {u:Value} {x:AV} {els:List (List D)} (hx:RV w X μ u x) (h:mH σ.H r x=some els) (hl:∀ el∈els,el.length=sz) (hz:0 < sz) (h1:∀ el∈els,∀ c∈el,D.one c=true):sT w X μ sz u els:=by
 unfold mH at h;split at h
 .rename_i k0 Wh;obtain rfl:=AI h
  rcases hx.data.qT with⟨rfl,rfl,_⟩ | ⟨ad,cap,rfl,_,_,_,hr⟩
  .exact⟨ak,.inl ⟨rfl,_,_,rfl⟩⟩
  .rcases hr with rfl | ⟨b,off,FU,f,rfl,hX,kf,dy,ea,lN⟩
   .exact⟨ak,.inl ⟨rfl,_,_,rfl⟩⟩
   .by_cases he:Wh=[]
    .subst he;exact⟨ak,.inl ⟨rfl,_,_,rfl⟩⟩
    .obtain⟨el,bz⟩:=List.exists_mem_of_ne_nil _ he
     have:FU=sz:=by rw[<- dy el bz,hl el bz]
     subst this;exact sT.PV f hl hz h1 ea lN
 .rename_i q off n;split at h
  .cases h
  .split at h
   .rename_i ty szq DB hq;split at h
    .rename_i hle;obtain rfl:=AI h;obtain⟨m,hm,hh⟩:=hx.ma;obtain⟨m',cH,ok⟩:=hs.rows q _ hq;rw[hm]at cH;obtain rfl:=AI cH
     rcases hh with⟨hb,rfl,rfl,rfl⟩ | ⟨b,hb,rfl,lH⟩
     .exact⟨ak,.inl ⟨ak,_,_,rfl⟩⟩
     .cases ok with
      | nil bk _=>rw[bk]at hb;cases hb
      | sl bk bg hh cX hn gZ w7 hzz hr=>
       rename_i b' cur;rw[hb]at bk;obtain rfl:=AI bk;subst bg;by_cases h0:n=0
       .subst h0;exact⟨ak,.inl ⟨ak,_,_,rfl⟩⟩
       .have hlen:((DB.drop off).take n).length=n:=by simp;omega
        have ng:∀ el∈(DB.drop off).take n,el∈DB:=fun el bz=>ahf (agJ bz)
        have bl:(DB.drop off).take n≠[]:=by intro e;rw[e]at hlen;simp at hlen;omega
        obtain⟨GS,NB⟩:=List.exists_mem_of_ne_nil _ bl
        have ZR:sz=m.sz:=by rw[<- hl GS NB,w7 GS (ng GS NB)]
        subst ZR
        have:=sT.PV (w:=w) (X:=X) (μ:=μ) (b:=b) (off:=off * m.sz) (cap:=m.cap - off) (fun i j=>cur.getD ((off+i) * m.sz+j) undef) hl hz h1 (fun i j hi hj=>by
         rw[hlen]at hi
         have aG:(off+i) * m.sz+j < cur.size:=by
          rw[cX];have:(off+i+1) * m.sz<=m.cap * m.sz:=agT _ aa;rw[ahh]at this;omega
         have e1:off * m.sz+(i * m.sz+j)=(off+i) * m.sz+j:=by rw[ahh];omega
         rw[e1,cell_of_row w b _ cur ty (0,0) hh]
         simp[agz,aG]) (fun i j el c bz hc=>by
         rw[agP]at bz;split at bz
         .rw[ahd]at bz;obtain⟨u',oQ,cf⟩:=hr (off+i) j el c bz hc;simpa[agz,oQ]using cf
         .cases bz)
        rwa [hlen]at this
    .cases h
   .cases h
 .cases h
theorem adt {t ty e:TypeId} {tt te:TI} (hg:Good P T) (cL:T t=some tt) (ew:tt.desc = .slice e) (dh:T e=some te) (base ad:Option Addr) (n cap c:Nat) (hn:n<=cap) :
  (Builtin.append_ #[t,t] ty #[.slice base n cap,.slice ad 0 c]).run P w = .ok (.slice base n cap) w:=by
 have hu:=hg.dN (w:=w) cL;have bg:=hg.sizeOf (w:=w) dh;cases ad<;>cases base<;>simp[Builtin.append_,hu,ew,bg,Builtin.lenOf,hn,Builtin.firstCells,loadCells,loadCellsFrom,storeCells]
def Rel (w:World) (X:Nat->Prop) (μ:Mu) (sz:Nat) (l:List Value) (els:List (List D)):Prop:=
 ∀ (i j:Nat) (el:List D) (c:D),els[i]? = some el->el[j]? = some c->∃ v,l[i * sz+j]? = some v/\RD w (XX X μ) v c
theorem Rel.append {sz:Nat} {l l':List Value} {A B:List (List D)} (h:Rel w X μ sz l A) (hl:l.length=A.length * sz) (hA:∀ el∈A,el.length=sz) (h':Rel w X μ sz l' B):Rel w X μ sz (l ++ l') (A ++ B):=by
 intro i j el c hi hj;rw[ahT]at hi;split at hi
 .rename_i aG;obtain⟨v,hv,hr⟩:=h i j el c hi hj;exact⟨v,by rw[ahA (BY.1 hv).1];exact hv,hr⟩
 .rename_i u0;obtain⟨v,hv,hr⟩:=h' _ j el c hi hj;refine⟨v,?_,hr⟩
  have e1:(i - A.length) * sz+j=i * sz+j - l.length:=by
   have:A.length * sz<=i * sz:=agT _ aa;rw[hl,Nat.sub_mul];omega
  rw[List.getElem?_append_right,<- e1]
  .exact hv
  .have:A.length * sz<=i * sz:=agT _ aa;omega
theorem Rel.more {sz:Nat} {l l':List Value} {A:List (List D)} (h:Rel w X μ sz l A):Rel w X μ sz (l ++ l') A:=by
 intro i j el c hi hj;obtain⟨v,hv,hr⟩:=h i j el c hi hj;exact⟨v,by rw[ahA (BY.1 hv).1];exact hv,hr⟩
theorem Lw (hg:Good P T) (hi:In w X G μ N a σ) {r n:Nat} (gu:Mv r) {t ty e:TypeId} {tt te:TI} (cL:T t=some tt) (ew:tt.desc = .slice e) (dh:T e=some te) {els news:List (List D)} {u v:Value}
  (hH:σ.H r=some (.sl e te.size els)) (hle:n<=els.length) (hu:RV w X μ u (.own r 0 n)) (hn:sT w X μ te.size v news) (hz:0 < te.size) (ug:(kz te.zero).length=te.size)
  (DZ:n+news.length<=maxLen) (hb:(n+news.length) * te.bytes<=140737488355328) :
  oo Mv X G N w μ a ((Builtin.append_ #[t,t] ty #[u,v]).run P w) (.own r 0 (n+news.length)) ⟨ez r σ.env,aX (eA r σ.H) r (.sl e te.size (els.take n ++ news))⟩:=by
 obtain⟨m,hm,hh⟩:=hu.ma;obtain⟨m',cH,ok⟩:=hi.bu.rows r _ hH;rw[hm]at cH;obtain rfl:=AI cH;obtain⟨xn,i0,my,gv,iD,nW,_⟩:=hg e te dh;have ht:=(hg t tt cL).1;rw[ew]at ht;have uf:=Af (w:=w) (X:=XX X μ) te.zero
 have Yn:te.zero.cells.size=te.size:=by rw[uf.1,ug]
 have w6:∀ el∈els,el.length=te.size:=by
  cases ok with
  | nil=>simp
  | sl _ _ _ _ _ _ hl=>exact hl
 have Bx:∀ el∈els.take n ++ news,el.length=te.size:=by
  intro el bz
  rcases agN.1 bz with h | h
  .exact w6 el (agJ h)
  .exact hn.len el h
 by_cases bl:news=[]
 .-- nothing is appended
  subst bl
  have hv:∃ ad c,v = .slice ad 0 c:=by
   rcases hn.at_ with⟨_,ad,cap,rfl⟩ | ⟨ad,cap,kX,rfl,_⟩
   .exact⟨_,_,rfl⟩
   .exact⟨_,_,rfl⟩
  obtain⟨ad,c,rfl⟩:=hv
  have oR:∃ base c,u = .slice base n c/\n<=c:=by
   rcases hh with⟨_,rfl,_,rfl⟩ | ⟨b,_,rfl,lH⟩
   .exact⟨_,_,rfl,agD _⟩
   .exact⟨_,_,rfl,aa⟩
  obtain⟨base,c',BW,Ii⟩:=oR;have dV:=adt (P:=P) (w:=w) (ty:=ty) hg cL ew dh base ad n c' c Ii;rw[BW,dV]
  obtain⟨aS,bp⟩:=hi.move (Mv:=Mv) (w':=w) (m':=m) hm gu (agD _) rfl rfl rfl (fun _ _ _=>rfl) (fun b hb=>.inr hb) (row:=.sl e te.size (els.take n ++ [])) fun ev=>by
   rw[ahm]
   cases ok with
   | nil eM dG=>rw[List.take_nil];exact .nil eM dG
   | sl g1 g2 g3 g4 g5 g6 g7 g8 g9=>
    refine .sl g1 g2 g3 g4 (by simp;omega) g6 (fun el bz=>g7 el (agJ bz)) g8 fun i j el c bz hc=>?_;rw[agP]at bz;split at bz
    .obtain⟨v,hv,cf⟩:=g9 i j el c bz hc;exact⟨v,hv,cf.ev ev⟩
    .cases bz
  refine⟨_,_,_,rfl,aS,.own (m:=m) (by simp[eB]) ?_,bp⟩;rw[<- BW];exact hh
 .have N5:0 < news.length:=ahu.2 bl
  rcases hn.at_ with⟨h,_⟩ | ⟨ad,cap,kX,rfl,fN,BF,BE,rB⟩
  .exact absurd h bl
  have Ol:n+news.length<=9223372036854775807:=by simp only[maxLen]at DZ;omega
  have Ch:∀ (xs:List Value) (iU:Nat),xs.length=n * te.size->Rel w X μ te.size xs (els.take n)->n+news.length<=iU->iU<=maxLen->
    oo Mv X G N w μ a (.ok (.slice (some ⟨w.heap.size,0,none⟩) (n+news.length) iU) (w.drew.alloc (.cells (xs.toArray ++ kX.toArray ++ Builtin.zeroCells te.zero.cells (iU - (n+news.length))) e)))
     (.own r 0 (n+news.length)) ⟨ez r σ.env,aX (eA r σ.H) r (.sl e te.size (els.take n ++ news))⟩:=by
   intro xs iU jW ue gq gY
   have nO:cR w (w.drew.alloc (.cells (xs.toArray ++ kX.toArray ++ Builtin.zeroCells te.zero.cells (iU - (n+news.length))) e)):=by
    have h1:=cR.alloc w.drew (.cells (xs.toArray ++ kX.toArray ++ Builtin.zeroCells te.zero.cells (iU - (n+news.length))) e);exact⟨h1.size,h1.os,h1.tape,h1.output,h1.same⟩
   have bg:(xs.toArray ++ kX.toArray ++ Builtin.zeroCells te.zero.cells (iU - (n+news.length))).size=iU * te.size:=by
    simp only[Array.size_append,ahX,size_zeroCells,Yn,jW,fN,<- ahh];congr 1;omega
   obtain⟨aS,bp⟩:=hi.move (Mv:=Mv) (w':=w.drew.alloc (.cells (xs.toArray ++ kX.toArray ++ Builtin.zeroCells te.zero.cells (iU - (n+news.length))) e)) (m':=⟨some w.heap.size,te.size,iU⟩) hm gu nO.size nO.os nO.tape nO.output
    (fun k hk _=>nO.same k hk) (fun b hb=>by simp at hb;omega) (row:=.sl e te.size (els.take n ++ news)) fun ev=>by
     refine .sl rfl rfl (by simpa using heap_alloc_new w.drew (.cells (xs.toArray ++ kX.toArray ++ Builtin.zeroCells te.zero.cells (iU - (n+news.length))) e)) bg (by simp;omega) gY Bx hz fun i j el c hi hj=>?_;have hrel:=((ue.append (by rw[jW,agM,aif hle]) (fun el bz=>w6 el (agJ bz)) rB).more (l':=(Builtin.zeroCells te.zero.cells (iU - (n+news.length))).toList)) i j el c hi hj;obtain⟨v,hv,cf⟩:=hrel;refine⟨v,?_,cf.ev ev⟩;rw[<- agH];simpa using hv
   exact⟨_,_,_,rfl,aS,.own (m:=⟨some w.heap.size,te.size,iU⟩) (by simp[eB]) (.inr ⟨w.heap.size,rfl,ak,by simpa using gq⟩),bp⟩
  rcases hh with⟨kL,rfl,_,rfl⟩ | ⟨b,kL,rfl,lH⟩
  .have hr:=run_append_nil (P:=P) w t ty e i0 te.zero ht my nW ad news.length cap kX (by rw[fN,gv]) BF N5 aa (by rw[iD];simp only[ag4]at hb;omega);rw[hr];have:=Ch [] (grownCap w news.length 0 e) ak (by intro i j el c hi;simp at hi) (by have:=grownCap_ge w news.length 0 e;omega) (grownCap_le_maxLen w news.length 0 e (by unfold maxLen;omega));simpa using this
  .cases ok with
   | nil bk _=>rw[bk]at kL;cases kL
   | sl bk bg r9 cX po gZ hl kf hr=>
    rename_i b' cur;rw[kL]at bk;obtain rfl:=AI bk
    have Hy:n<=m.cap:=aa
    have hmul:n * te.size<=m.cap * te.size:=agT _ Hy
    have jW:(cur.toList.take (n * te.size)).length=n * te.size:=by rw[agM,ahk,cX,aif hmul]
    have ue:Rel w X μ te.size (cur.toList.take (n * te.size)) (els.take n):=by
     intro i j el c bz hc;rw[agP]at bz;split at bz
     .rename_i aS;obtain⟨v,hv,cf⟩:=hr i j el c bz hc;have Bk:el.length=te.size:=hl _ (ahr bz)
      have hj:j < te.size:=by rw[<- Bk];exact (BY.1 hc).1
      refine⟨v,?_,cf⟩;rw[agP,if_pos]
      .simpa using hv
      .have:(i+1) * te.size<=n * te.size:=agT _ aS;rw[ahh]at this;omega
     .cases bz
    by_cases zl:n+news.length<=m.cap
    .have lK:n * te.size+kX.length<=cur.size:=by rw[fN,cX,<- ahh];exact agT _ zl
     have dV:=run_append_room (P:=P) w t ty e i0 ht my b n m.cap cur r9 ad news.length cap kX (by rw[fN,gv]) BF BE zl (by rw[gv];exact lK);simp only[ahM,Nat.sub_zero];rw[dV,gv]
     obtain⟨aS,bp⟩:=hi.move (Mv:=Mv) (w':=w.setRow b (cur.toList.take (n * te.size) ++ kX ++ cur.toList.drop (n * te.size+kX.length)).toArray) (m':=m) hm gu ak rfl rfl rfl
      (fun k hk Ik=>setRow_other w b k _ fun e'=>Ik (by rw[kL,e'])) (fun b hb=>.inr hb) (row:=.sl e te.size (els.take n ++ news)) fun ev=>by
       refine .sl kL bg (setRow_heap w b cur _ e _ r9) ?_ (by simp;omega) gZ Bx hz fun i j el c hi hj=>?_
       .simp only[ahX,agU,agM,agX,ahk];omega
       .obtain⟨v,hv,cf⟩:=((ue.append (by rw[jW,agM,aif hle]) (fun el bz=>w6 el (agJ bz)) rB).more (l':=cur.toList.drop (n * te.size+kX.length))) i j el c hi hj;exact⟨v,by rw[<- agH];simpa using hv,cf.ev ev⟩
     refine⟨_,_,_,rfl,aS,.own (m:=m) (by simp[eB]) (.inr ⟨b,kL,ak,by simpa using zl⟩),bp⟩
    .have dV:=run_append_grow (P:=P) w t ty e i0 te.zero ht my nW ⟨b,0,none⟩ n m.cap (cur.toList.take (n * te.size)) (by rw[jW,gv]) (fun j v hv=>by
      rw[addr_add,cell_of_row w b _ cur e (0,0) r9];rw[agP]at hv;split at hv
      .simpa using hv
      .cases hv) ad news.length cap kX (by rw[fN,gv]) BF aa aa (by rw[iD];exact growslice_fits aa hb)
     simp only[ahM,Nat.sub_zero];rw[dV];exact Ch _ _ jW ue (grownCap_ge _ _ _ _) (grownCap_le_maxLen w _ _ e DZ)
end
