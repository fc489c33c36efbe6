/- Parts. -/
import Derived.Test.YtobejfcgcfdpfaaGreatDoorPc3
import Derived.Laws.StructEq
set_option linter.unusedSectionVars false
set_option linter.unusedSimpArgs false
set_option linter.unusedVariables false
namespace Go.Av
def pQ (op:BinOp) (k:IntKind) (x y:Int):Int:=
 let a:=BitVec.ofInt k.bits x
 let b:=BitVec.ofInt k.bits y
 match op with
 | .and=>k.wrap (a &&& b).toNat
 | .or=>k.wrap (a ||| b).toNat
 | .xor=>k.wrap (a ^^^ b).toNat
 | _=>k.wrap (a &&& ~~~b).toNat
def xn (k:IntKind) (n:Int):Option (Prop×Value):=match k with
 | .i64=>some (-9223372036854775808<=n/\n<=9223372036854775807,.int .i64 n)
 | k=>some (True,.int k (k.wrap n))
def Gf (op:BinOp) (k:IntKind) (a b:Int):Option (Prop×Value):=match op with
 | .add=>xn k (a+b)
 | .sub=>xn k (a - b)
 | .mul=>xn k (a * b)
 | .quo=>some (b≠0,.int k (k.wrap (a.tdiv b)))
 | .rem=>some (b≠0,.int k (a.tmod b))
 | .and=>some (True,.int k (pQ .and k a b))
 | .or=>some (True,.int k (pQ .or k a b))
 | .xor=>some (True,.int k (pQ .xor k a b))
 | .andNot=>some (True,.int k (pQ .andNot k a b))
 | .eql=>some (True,.bool (a == b))
 | .neq=>some (True,.bool (a != b))
 | .lss=>some (True,.bool (decide (a < b)))
 | .leq=>some (True,.bool (decide (a<=b)))
 | .gtr=>some (True,.bool (decide (a > b)))
 | .geq=>some (True,.bool (decide (a >= b)))
 | _=>none
def r4 (op:BinOp) (k:IntKind) (a b:Int):Option (Prop×Value):=match op with
 | .shl=>some (0<=b,.int k (k.wrap (a * 2 ^ (min b.toNat k.bits))))
 | .shr=>some (0<=b,.int k (a.fdiv (2 ^ (min b.toNat k.bits))))
 | _=>none
def NB:BinOp->Bool
 | .shl | .shr=>true
 | _=>false
def bu (op:BinOp) (a b:ByteArray):Option (Prop×Value):=match op with
 | .add=>some (a.size+b.size<=9223372036854775807,.string (a ++ b))
 | .eql=>some (True,.bool (a.toList == b.toList))
 | .neq=>some (True,.bool (!(a.toList == b.toList)))
 | .lss=>some (True,.bool (Op.bytesLess a.toList b.toList))
 | .leq=>some (True,.bool (Op.bytesLess a.toList b.toList || a.toList == b.toList))
 | .gtr=>some (True,.bool (!(Op.bytesLess a.toList b.toList || a.toList == b.toList)))
 | .geq=>some (True,.bool (!Op.bytesLess a.toList b.toList))
 | _=>none
theorem AQ {n:Int} (h:-9223372036854775808<=n/\n<=9223372036854775807):IntKind.i64.wrap n=n:=by rw[IntKind.wrap_i64];omega
theorem Lc {k:IntKind} {n:Int} {c:Prop} {v:Value} (h:xn k n=some (c,v)) (hc:c):v = .int k (k.wrap n):=by
 cases k<;>simp only[xn,IT,amj]at h<;>obtain⟨rfl,rfl⟩:=h
 all_goals first | rfl | (rw[AQ hc])
theorem Zp {P:Program} {op:BinOp} (j9:NB op=false) {k:IntKind} {a b:Int} {c:Prop} {v:Value} (h:Gf op k a b=some (c,v)) (hc:c) (t:TypeId) (w:World):(binOp op t (.int k a) (.int k b)).run P w = .ok v w:=by
 unfold Gf at h;cases op<;>simp only[IT,amj]at h
 all_goals first
  | (exact absurd j9 bD)
  | (have:=Lc h hc;subst this;simp[binOp,Op.intArith])
  | (obtain⟨rfl,rfl⟩:=h;simp[binOp,Op.intCmp];done)
  | (obtain⟨rfl,rfl⟩:=h;simp[binOp,Op.intBits,pQ];done)
  | (obtain⟨rfl,rfl⟩:=h;simp[binOp,Op.intDiv,hc];done)
theorem ai1 {P:Program} {op:BinOp} {k yk:IntKind} {a b:Int} {c:Prop} {v:Value} (h:r4 op k a b=some (c,v)) (hc:c) (t:TypeId) (w:World):(binOp op t (.int k a) (.int yk b)).run P w = .ok v w:=by
 unfold r4 at h;cases op<;>simp only[IT,amj,reduceCtorEq]at h
 all_goals
  obtain⟨rfl,rfl⟩:=h
  have:¬ b < 0:=aa
  simp[binOp,Op.shift,this]
theorem Zq {P:Program} {op:BinOp} {a b:ByteArray} {c:Prop} {v:Value} (h:bu op a b=some (c,v)) (hc:c) (t:TypeId) (w:World):(binOp op t (.string a) (.string b)).run P w = .ok v w:=by
 unfold bu at h;cases op<;>simp only[IT,amj,reduceCtorEq]at h
 all_goals obtain⟨rfl,rfl⟩:=h
 case add=>
  have:¬ (((a.size+b.size:Nat):Int) > IntKind.i64.max):=by simp[IntKind.max,IntKind.signed,IntKind.bits];omega
  simp[binOp,Op.stringOp,this]
  try omega
 all_goals simp[binOp,Op.stringOp]
def eqv (op:BinOp) (c:Prop) (b:Bool):lN:=match op with
 | .eql=>some (c,bool b)
 | .neq=>some (c,bool !b)
 | _=>none
def sf (T:Ty) (t:TypeId) (p:TypeDesc->Bool):Bool:=match T t with
 | some ti=>p ti.desc
 | none=>false
def TypeDesc.isIface:TypeDesc->Bool | .interface _=>true | _=>false
def TypeDesc.isSlice:TypeDesc->Bool | .slice _=>true | _=>false
def TypeDesc.isBool:TypeDesc->Bool | .bool=>true | _=>false
def TypeDesc.isStr:TypeDesc->Bool | .string=>true | _=>false
def IP:TypeDesc->Value->Bool
 | .interface _,.nilIface | .pointer _,.pointer none | .func _ _ _,.nilFunc | .slice _,.slice none 0 0=>true
 | _,_=>false
def IL:AV->Value->Option (Prop×Bool)
 | .d (.cC _ _),.nilIface=>some (True,false)
 | .cC _ _,.nilIface=>some (True,false)
 | .d (.v .nilIface),.nilIface=>some (True,true)
 | .d (.ip _),.pointer none=>some (True,false)
 | .ref _ _ _,.pointer none=>some (True,false)
 | .d (.v (.pointer none)),.pointer none=>some (True,true)
 | .d (.fn _ _),.nilFunc=>some (True,false)
 | .fn _ _,.nilFunc=>some (True,false)
 | .d (.v .nilFunc),.nilFunc=>some (True,true)
 | .d (.sl (some b) _),.slice none 0 0=>some (True,!b)
 | .d (.sl none els),.slice none 0 0=>some (els≠[],false)
 | .own _ _ n,.slice none 0 0=>some (0 < n,false)
 | _,_=>none
def KB:Operand->Option Value
 | .const v=>some v
 | _=>none
def Ou (T:Ty) (op:BinOp) (t:TypeId) (oy:Operand) (x:AV):lN:=match KB oy with
 | some v=>if sf T t (IP · v) then (IL x v).bind fun (c,b)=>eqv op c b else none
 | none=>none
def KS (d:TypeDesc) (a b:Value):Option Bool:=match d,a,b with
 | .int _,.int k a,.int k' b=>if k=k' then some (a == b) else none
 | .string,.string a,.string b=>some (a.toList == b.toList)
 | .bool,.bool a,.bool b=>some (a == b)
 | _,_,_=>none
def Gz (T:Ty) (xs ys:List D):List Field->Option Bool
 | []=>some true
 | f :: l=>if f.name = "_" then none else match T f.type,xs[f.offset]?,ys[f.offset]? with
  | some tf,some (.v a),some (.v b)=>match KS tf.desc a b,Gz T xs ys l with
   | some r,some r2=>some (r && r2)
   | _,_=>none
  | _,_,_=>none
def Ge (T:Ty) (op:BinOp) (t:TypeId) (oy:Operand) (x y:AV):lN:=match x,y with
 | .d (.v (.int k a)),.d (.v (.int k' b))=>
  if NB op then (r4 op k a b).map fun (c,v)=>(c,.d (.v v)) else if k=k' then (Gf op k a b).map fun (c,v)=>(c,.d (.v v)) else none
 | .d (.v (.string a)),.d (.v (.string b))=>(bu op a b).map fun (c,v)=>(c,.d (.v v))
 | .d (.v (.bool a)),.d (.v (.bool b))=>if sf T t TypeDesc.isBool then eqv op True (a == b) else none
 | .d (.agg xs),.d (.agg ys)=>match T t with
  | some ti=>match ti.desc with
   | .struct fs=>if ti.pe then (match Gz T xs ys fs.toList with
    | some b=>eqv op True b
    | none=>none) else none
   | _=>none
  | none=>none
 | x,_=>Ou T op t oy x
theorem O5 {P:Program} {w:World} {op:BinOp} {t:TypeId} {u v:Value} {c:Prop} {b:Bool} {z:AV} {X:Nat->Prop} {μ:Mu} (h:eqv op c b=some (c,z)) (hb:(binOp .eql t u v).run P w = .ok (.bool b) w)
  (hn:(binOp .neq t u v).run P w = .ok (.bool !b) w):∃ r,(binOp op t u v).run P w = .ok r w/\RV w X μ r z:=by
 unfold eqv at h;split at h
 .simp only[IT,amj,true_and]at h;subst h;exact⟨_,hb,.d (.v _)⟩
 .simp only[IT,amj,true_and]at h;subst h;exact⟨_,hn,.d (.v _)⟩
 .cases h
theorem xd {T:Ty} {t:TypeId} {p:TypeDesc->Bool} (h:sf T t p=true):∃ ti,T t=some ti/\p ti.desc=true:=by
 unfold sf at h;split at h
 .rename_i ti ht;exact⟨ti,ht,h⟩
 .cases h
theorem KU {op:BinOp} {c c':Prop} {b:Bool} {z:AV} (h:eqv op c b=some (c',z)):c'=c:=by
 unfold eqv at h;split at h<;>simp only[IT,amj,reduceCtorEq]at h
 .exact h.1.symm
 .exact h.1.symm
section
variable {P:Program} {w:World} {t:TypeId}
theorem Rb {ms:Array (String×TypeId)} (h:P.underlying t=some (.interface ms)) (d:Nat) (t':TypeId) (x:Value):(Op.equalIn (d+1) t (.iface t' x) .nilIface).run P w = .ok false w:=by
 simp[Op.equalIn,run_underlying h]
theorem aaM {ms:Array (String×TypeId)} (h:P.underlying t=some (.interface ms)) (d:Nat):(Op.equalIn (d+1) t .nilIface .nilIface).run P w = .ok true w:=by
 simp[Op.equalIn,run_underlying h]
theorem Rc {e:TypeId} (h:P.underlying t=some (.pointer e)) (d:Nat) (a:Addr):(Op.equalIn (d+1) t (.pointer (some a)) (.pointer none)).run P w = .ok false w:=by
 simp[Op.equalIn,run_underlying h]
theorem aaN {e:TypeId} (h:P.underlying t=some (.pointer e)) (d:Nat):(Op.equalIn (d+1) t (.pointer none) (.pointer none)).run P w = .ok true w:=by
 simp[Op.equalIn,run_underlying h]
theorem Ra {a b:Array TypeId} {c:Bool} (h:P.underlying t=some (.func a b c)) (d:Nat) (f:Fn) (x y:Array Value):(Op.equalIn (d+1) t (.func f x y) .nilFunc).run P w = .ok false w:=by
 simp[Op.equalIn,run_underlying h]
theorem aaL {a b:Array TypeId} {c:Bool} (h:P.underlying t=some (.func a b c)) (d:Nat):(Op.equalIn (d+1) t .nilFunc .nilFunc).run P w = .ok true w:=by
 simp[Op.equalIn,run_underlying h]
theorem KT {e:TypeId} (h:P.underlying t=some (.slice e)) (d:Nat) (a:Addr) (n c:Nat):(Op.equalIn (d+1) t (.slice (some a) n c) (.slice none 0 0)).run P w = .ok false w:=by
 simp[Op.equalIn,run_underlying h]
theorem aaO {e:TypeId} (h:P.underlying t=some (.slice e)) (d:Nat):(Op.equalIn (d+1) t (.slice none 0 0) (.slice none 0 0)).run P w = .ok true w:=by
 simp[Op.equalIn,run_underlying h]
theorem aaK (h:P.underlying t=some .bool) (d:Nat) (a b:Bool):(Op.equalIn (d+1) t (.bool a) (.bool b)).run P w = .ok (a == b) w:=by
 simp[Op.equalIn,run_underlying h]
end
def QE:Value->Bool
 | .int _ _ | .string _ | .float _ _ | .complex _ _ _=>false
 | _=>true
theorem qw {P:Program} {w:World} {t:TypeId} {u v:Value} {b:Bool} (hu:QE u=true) (h:(Op.equalIn (9999+1) t u v).run P w = .ok b w) :
  (binOp .eql t u v).run P w = .ok (.bool b) w/\(binOp .neq t u v).run P w = .ok (.bool !b) w:=by
 have h':(Op.equal t u v).run P w = .ok b w:=h;cases u<;>simp[QE]at hu<;>constructor<;>simp[binOp,h']
theorem RE {P:Program} {w:World} {op:BinOp} {t:TypeId} {ox oy:Operand} {u v:Value} (h:¬ (u = .nilIface/\v = .nilIface)\/(∃ c,ox = .const c)\/∃ c,oy = .const c) (ha:∀ a,u≠.agg a) :
  (eqGuard op t ox oy u v).run P w = .ok () w:=by
 unfold eqGuard
 cases op<;>first | rfl | skip
 all_goals
  cases u<;>cases v<;>first | rfl | skip
  .rcases h with h | ⟨c,rfl⟩ | ⟨c,rfl⟩
   .simp at h
   .rfl
   .cases ox<;>rfl
  .exact absurd rfl (ha _)
theorem afd {P:Program} {T:Ty} (hg:Good P T) {w:World} {X:Nat->Prop} {μ:Mu} {t:TypeId} {u v:Value} {x:AV} {c:Prop} {b:Bool} (h:IL x v=some (c,b)) (hc:c) (hx:RV w X μ u x)
  (hf:sf T t (IP · v)=true):((binOp .eql t u v).run P w = .ok (.bool b) w/\(binOp .neq t u v).run P w = .ok (.bool !b) w)/\∀ a,u≠.agg a:=by
 obtain⟨ti,ht,hp⟩:=xd hf;have hu:=(hg t ti ht).1;unfold IL at h
 split at h<;>first | cases h;done | skip
 all_goals
  obtain⟨rfl,rfl⟩:=eN h;cases ea:ti.desc<;>simp[ea,IP]at hp;rw[ea]at hu
 .obtain⟨v',rfl,_⟩:=hx.data.uP;exact⟨qw rfl (Rb hu _ _ _),ak⟩
 .obtain⟨v',rfl,_⟩:=hx.uP;exact⟨qw rfl (Rb hu _ _ _),ak⟩
 .obtain rfl:=hx.scalar;exact⟨qw rfl (aaM hu _),ak⟩
 .obtain⟨b,off,f,rfl,_⟩:=hx.data.sO;exact⟨qw rfl (Rc hu _ _),ak⟩
 .obtain⟨m,b,_,_,rfl⟩:=hx.mo;exact⟨qw rfl (Rc hu _ _),ak⟩
 .obtain rfl:=hx.scalar;exact⟨qw rfl (aaN hu _),ak⟩
 .obtain⟨arr,rfl,_⟩:=hx.data.Bm;exact⟨qw rfl (Ra hu _ _ _ _),ak⟩
 .obtain⟨arr,rfl,_⟩:=hx.Bm;exact⟨qw rfl (Ra hu _ _ _ _),ak⟩
 .obtain rfl:=hx.scalar;exact⟨qw rfl (aaL hu _),ak⟩
 .rename_i bb els e
  rcases hx.data.sW with⟨rfl,_,hk⟩ | ⟨a,cap,rfl,hk,_⟩
  .cases bb
   .exact⟨qw rfl (aaO hu _),ak⟩
   .exact absurd rfl hk
  .cases bb
   .exact absurd rfl hk
   .exact⟨qw rfl (KT hu _ _ _ _),ak⟩
 .rcases hx.data.sW with⟨rfl,he,hk⟩ | ⟨a,cap,rfl,hk,_⟩
  .exact absurd he hc
  .exact⟨qw rfl (KT hu _ _ _ _),ak⟩
 .obtain⟨m,_,hh⟩:=hx.ml
  rcases hh with⟨_,_,_,rfl⟩ | ⟨b,_,rfl,_⟩
  .omega
  .exact⟨qw rfl (KT hu _ _ _ _),ak⟩
theorem aaJ {P:Program} {t:TypeId} {d:TypeDesc} (hu:P.underlying t=some d) {a b:Value} {r:Bool} (h:KS d a b=some r) (n:Nat) (w:World):(Op.equalIn (n+1) t a b).run P w = .ok r w/\TypeDesc.isAgg d=false:=by
 unfold KS at h;split at h
 .split at h
  .rename_i hk;subst hk;obtain rfl:=AI h;exact⟨run_equalIn_int w n t _ _ _ _ hu,rfl⟩
  .cases h
 .obtain rfl:=AI h;exact⟨run_equalIn_string w n t _ _ hu,rfl⟩
 .obtain rfl:=AI h;exact⟨run_equalIn_bool' w n t _ _ hu,rfl⟩
 .cases h
theorem QK {w:World} {X:Nat->Prop} {arr:Array Value} {xs:List D} (hn:arr.size=xs.length) (hr:∀ (j:Nat) (u:Value) (c:D),arr[j]? = some u->xs[j]? = some c->RD w X u c) {j:Nat} {a:Value} (h:xs[j]? = some (.v a)):arr[j]? = some a:=by
 have hj:j < arr.size:=by rw[hn];exact (BY.1 h).1
 have:=(hr j _ _ (amA hj) h).scalar;rw[amA hj,this]
theorem Q9 {P:Program} {T:Ty} (hg:Good P T) {w:World} {X:Nat->Prop} {mD vm:Array Value} {xs ys:List D} (n1:mD.size=xs.length) (h1:∀ (j:Nat) (u:Value) (c:D),mD[j]? = some u->xs[j]? = some c->RD w X u c) (n2:vm.size=ys.length) (h2:∀ (j:Nat) (u:Value) (c:D),vm[j]? = some u->ys[j]? = some c->RD w X u c) :
  ∀ (fs:List Field) (b:Bool),Gz T xs ys fs=some b->(Op.eqFields (9998+1) mD vm fs).run P w = .ok b w
 | [],b,h=>by
  obtain rfl:=AI h;simp[Op.eqFields]
 | f :: l,b,h=>by
  rw[Gz]at h;split at h
  .cases h
  .rename_i fL;split at h
   .rename_i tf a1 b1 ht hx hy;split at h
    .rename_i r r2 hr zL;obtain rfl:=AI h;obtain⟨e1,e2⟩:=aaJ (hg _ _ ht).1 hr 9998 w
     have ha:(Go.isAgg f.type).run P w = .ok false w:=by rw[hg.isAgg ht,e2]
     have p1:(part f.type mD f.offset).run P w = .ok a1 w:=by simp[part,ha,QK n1 h1 hx]
     have p2:(part f.type vm f.offset).run P w = .ok b1 w:=by simp[part,ha,QK n2 h2 hy]
     have ih:=Q9 hg n1 h1 n2 h2 l r2 zL;rw[Op.eqFields,if_pos fL];simp only[Sem.run_bind,p1,p2,e1,Result.andThen_ok,Sem.run_ite];cases r
     .simp
     .simpa using ih
    .cases h
   .cases h
theorem Zo {P:Program} {T:Ty} {G:aB} {N:Fr} (hg:Good P T) {w:World} {X:Nat->Prop} {μ:Mu} {a:Act} {σ:St} (hi:In w X G μ N a σ) {op:BinOp} {t:TypeId} {ox oy:Operand} {x y z:AV} {c:Prop}
  (hx:bJ G σ.env ox=some x) (hy:bJ G σ.env oy=some y) (h:Ge T op t oy x y=some (c,z)) (hc:c) :
  ∃ r,(do eqGuard op t ox oy (a.eval ox) (a.eval oy);binOp op t (a.eval ox) (a.eval oy):Sem Value).run P w = .ok r w/\RV w X μ r z:=by
 have EL:=hi.eval hx;have H8:=hi.eval hy
 have plain:∀ (u v:Value),a.eval ox=u->a.eval oy=v->(∀ b,u≠.agg b)->u≠.nilIface->(∃ r,(binOp op t u v).run P w = .ok r w/\RV w X μ r z)->
   ∃ r,(do eqGuard op t ox oy (a.eval ox) (a.eval oy);binOp op t (a.eval ox) (a.eval oy):Sem Value).run P w = .ok r w/\RV w X μ r z:=by
  rintro u v hu hv h1 h2 ⟨r,hr,M6⟩;refine⟨r,?_,M6⟩;rw[hu,hv,Sem.run_bind,RE (.inl fun e=>h2 e.1) h1];exact hr
 unfold Ge at h;split at h
 .rename_i k a1 k' b1;have e1:=EL.scalar;have e2:=H8.scalar;refine plain _ _ e1 e2 ak ak ?_;split at h
  .obtain⟨⟨c',v'⟩,hs,he⟩:=AS.1 h;simp only[amj]at he;obtain⟨rfl,rfl⟩:=he;exact⟨_,ai1 hs hc _ _,.d (.v _)⟩
  .rename_i wA;split at h
   .rename_i hk;subst hk;obtain⟨⟨c',v'⟩,hs,he⟩:=AS.1 h;simp only[amj]at he;obtain⟨rfl,rfl⟩:=he;exact⟨_,Zp (by simpa using wA) hs hc _ _,.d (.v _)⟩
   .cases h
 .obtain⟨⟨c',v'⟩,hs,he⟩:=AS.1 h;simp only[amj]at he;obtain⟨rfl,rfl⟩:=he;exact plain _ _ EL.scalar H8.scalar ak ak ⟨_,Zq hs hc _ _,.d (.v _)⟩
 .rename_i b1 b2;split at h
  .rename_i hb;obtain⟨ti,ht,hp⟩:=xd hb;cases ea:ti.desc<;>simp[ea,TypeDesc.isBool]at hp;have hu:=(hg t ti ht).1;rw[ea]at hu;have:=qw (P:=P) (w:=w) (u:=.bool b1) (v:=.bool b2) rfl (aaK hu 9999 _ _);obtain rfl:=KU h;exact plain _ _ EL.scalar H8.scalar ak ak (O5 h this.1 this.2)
  .cases h
 .rename_i xs ys;split at h
  .rename_i ti ht;split at h
   .rename_i fs ea;split at h
    .rename_i gh;split at h
     .rename_i b hb;obtain⟨mD,H4,n1,r1⟩:=EL.data.ud;obtain⟨vm,Nl,n2,r2⟩:=H8.data.ud;obtain⟨xR,i0,_,_,_,_,hp⟩:=hg t ti ht;obtain⟨jv,gZ⟩:=hp gh;rw[ea]at xR
      have SY:P.fieldsOf t=fs:=by simp[Program.fieldsOf,xR]
      have adg:P.underlying t=some (.struct (P.fieldsOf t)):=by rw[SY];exact xR
      have he:(Op.equalIn 10000 t (.agg mD) (.agg vm)).run P w = .ok b w:=by
       rw[show (10000:Nat)=9999+1 from rfl,run_equalIn_struct w 9999 t mD vm adg jv,SY];exact Q9 hg n1 r1 n2 r2 fs.toList b hb
      obtain rfl:=KU h;obtain⟨r,hr,M6⟩:=O5 (X:=X) (μ:=μ) h (P:=P) (w:=w) (t:=t) (u:=.agg mD) (v:=.agg vm) (by rw[run_eql_struct,he];rfl) (by rw[run_neq_struct,he];rfl);refine⟨r,?_,M6⟩;rw[H4,Nl,Sem.run_bind,run_eqGuard_agg w op t ox oy mD vm gZ];exact hr
     .cases h
    .cases h
   .cases h
  .cases h
 .unfold Ou at h;split at h
  .rename_i v hv
   cases oy with
   | const v'=>
    simp only[KB,IT]at hv;subst hv;split at h
    .rename_i hf;obtain⟨⟨c',b'⟩,hn,he⟩:=amy.1 h;dsimp only at he;obtain rfl:=KU he;obtain⟨hr,ha⟩:=afd hg hn hc EL hf;obtain⟨r,pB,hz⟩:=O5 (X:=X) (μ:=μ) he hr.1 hr.2;refine⟨r,?_,hz⟩;rw[Sem.run_bind,RE (.inr (.inr ⟨_,rfl⟩)) ha];exact pB
    .cases h
   | _=>cases hv
  .cases h
end Go.Av
namespace Go.Av
def IB (T:Ty) (t:TypeId):AV->lN
 | .d (.v (.string s))=>if sf T t TypeDesc.isStr then some (True,int s.size) else none
 | .d (.sl _ els)=>if sf T t TypeDesc.isSlice then some (True,int els.length) else none
 | .own _ _ n=>if sf T t TypeDesc.isSlice then some (True,int n) else none
 | _=>none
theorem Un {d:TypeDesc} (h:TypeDesc.isSlice d=true):∃ e,d = .slice e:=by cases d<;>simp[TypeDesc.isSlice]at h;exact⟨_,rfl⟩
theorem Ii {d:TypeDesc} (h:TypeDesc.isStr d=true):d = .string:=by cases d<;>simp[TypeDesc.isStr]at h;rfl
section
variable {P:Program} {T:Ty} (hg:Good P T) {w:World} {X:Nat->Prop} {μ:Mu} {H:Heap}
include hg
theorem aet {t ty:TypeId} {u:Value} {x z:AV} {c:Prop} (h:IB T t x=some (c,z)) (hx:RV w X μ u x):∃ r,(Builtin.len_ #[t] ty #[u]).run P w = .ok r w/\RV w X μ r z:=by
 unfold IB at h;split at h
 .split at h
  .rename_i hd;obtain⟨ti,ht,hp⟩:=xd hd;obtain⟨rfl,rfl⟩:=eN h;obtain rfl:=hx.scalar;exact⟨_,by simp[Builtin.len_,hg.dI ht,Ii hp,goInt],.d (.v _)⟩
  .cases h
 .split at h
  .rename_i hd;obtain⟨ti,ht,hp⟩:=xd hd;obtain⟨e,he⟩:=Un hp;obtain⟨rfl,rfl⟩:=eN h
   rcases hx.data.sW with⟨rfl,rfl,_⟩ | ⟨a,cap,rfl,_⟩
   .exact⟨_,by simp[Builtin.len_,hg.dI ht,he,goInt],.d (.v _)⟩
   .exact⟨_,by simp[Builtin.len_,hg.dI ht,he,goInt],.d (.v _)⟩
  .cases h
 .split at h
  .rename_i hd;obtain⟨ti,ht,hp⟩:=xd hd;obtain⟨e,he⟩:=Un hp;obtain⟨rfl,rfl⟩:=eN h;obtain⟨m,_,hh⟩:=hx.ml
   rcases hh with⟨_,rfl,_,rfl⟩ | ⟨b,_,rfl,_⟩
   .exact⟨_,by simp[Builtin.len_,hg.dI ht,he,goInt],.d (.v _)⟩
   .exact⟨_,by simp[Builtin.len_,hg.dI ht,he,goInt],.d (.v _)⟩
  .cases h
 .cases h
def Ke (T:Ty) (t:TypeId):Option (Nat×TypeId×Nat):=match T t with
 | some ti=>match ti.desc with
  | .array n e=>(T e).map fun te=>(n,e,te.size)
  | _=>none
 | none=>none
def Ie (T:Ty) (t:TypeId):AV->AV->lN
 | .d (.v (.string s)),.d (.v (.int _ i))=>if sf T t TypeDesc.isStr then some (0<=i/\i < s.size,.d (.v (.int .u8 (s.data.toList.getD i.toNat 0).toNat))) else none
 | .d (.agg cells),.d (.v (.int _ i))=>match Ke T t with
  | some (n,e,sz)=>(vn T e (cells.drop (i.toNat * sz))).map fun (c,z)=>((0<=i/\i < n)/\c,z)
  | none=>none
 | _,_=>none
omit hg in
theorem Zf (s:ByteArray) (n:Nat) (h:n < s.size):s[n]? = some (s.data.toList.getD n 0):=by
 have:s[n]? = some s[n]:=by simp[h]
 rw[this]
 have h2:n < s.data.toList.length:=by simpa using h
 simp[ame,AT h2];rfl
theorem adx {t:TypeId} {u v:Value} {x y z:AV} {c:Prop} (h:Ie T t x y=some (c,z)) (hc:c) (hx:RV w X μ u x) (hy:RV w X μ v y):∃ r,(Instr.index t u v).run P w = .ok r w/\RV w X μ r z:=by
 unfold Ie at h;split at h
 .split at h
  .rename_i s kk i hd;obtain⟨ti,ht,hp⟩:=xd hd;obtain⟨rfl,rfl⟩:=eN h;obtain rfl:=hx.scalar;obtain rfl:=hy.scalar;obtain⟨h0,h1⟩:=hc;obtain⟨n,rfl⟩:=ami h0;simp only[amd]
   have hn:n < s.size:=aa
   exact⟨_,by simp[Instr.index,asIntOf,hg.dI ht,Ii hp,Zf s n hn],.d (.v _)⟩
  .cases h
 .rename_i cells kk i;split at h
  .rename_i n e sz ha;obtain⟨⟨c',z'⟩,hv,he⟩:=AS.1 h;simp only[amj]at he;obtain⟨rfl,rfl⟩:=he;obtain⟨⟨h0,h1⟩,eI⟩:=hc;obtain rfl:=hy.scalar;obtain⟨arr,rfl,hn,hr⟩:=hx.data.ud;obtain⟨c2,B7,gv⟩:=Ql T e _ hv eI;rw[anY]at B7;obtain⟨v,oo,iu⟩:=Qn (P:=P) (w:=w) (X:=X) (μ:=μ) hg B7 gv (by simpa using hn) (RV.Cw hr);unfold Ke at ha;split at ha
   .rename_i ti ht;split at ha
    .rename_i n' e' hd;obtain⟨te,c8,he⟩:=AS.1 ha;simp only[amj]at he;obtain⟨rfl,rfl,rfl⟩:=he;exact⟨v,by simp[Instr.index,asIntOf,hg.dI ht,hd,h0,h1,hg.sizeOf c8,oo],iu⟩
    .cases ha
   .cases ha
  .cases h
 .cases h
def E5 (t:TypeId):AV->AV
 | .d x=>.d (.cC t x)
 | x=>.cC t x
omit hg in
theorem Oc {u:Value} {x:AV} {t:TypeId} (hx:RV w X μ u x):RV w X μ (.iface t u) (E5 t x):=by
 unfold E5;split
 .exact .d (.cC hx.data)
 .exact .cC hx
def ID (T:Ty) (t:TypeId) (x:AV):lN:=match T t with
 | some ti=>if TypeDesc.isIface ti.desc then none else some (True,E5 t x)
 | none=>none
theorem aeR {t:TypeId} {u:Value} {x z:AV} {c:Prop} (h:ID T t x=some (c,z)) (hx:RV w X μ u x):∃ r,(Instr.makeInterface t u).run P w = .ok r w/\RV w X μ r z:=by
 unfold ID at h;split at h
 .rename_i ti ht;split at h
  .cases h
  .rename_i hd;obtain⟨rfl,rfl⟩:=eN h;refine⟨_,?_,Oc hx⟩;simp only[Instr.makeInterface,Sem.run_bind,hg.dI ht,Result.andThen_ok];cases ea:ti.desc<;>simp[ea,TypeDesc.isIface]at hd ⊢
 .cases h
def GG (i:Nat):AV->lN
 | .d (.bz vs)=>vs[i]?.map fun x=>(True,.d x)
 | .bz vs=>vs[i]?.map fun x=>(True,x)
 | _=>none
omit hg in
theorem aaS {i:Nat} {u:Value} {x z:AV} {c:Prop} (h:GG i x=some (c,z)) (hx:RV w X μ u x):∃ r,(Instr.extract u i).run P w = .ok r w/\RV w X μ r z:=by
 unfold GG at h;split at h
 .obtain⟨y,hy,he⟩:=AS.1 h;simp only[amj]at he;obtain⟨rfl,rfl⟩:=he;obtain⟨arr,rfl,hn,hr⟩:=hx.data.CP;have aG:=(BY.1 hy).1
  have:arr[i]? = some arr[i]:=ak
  exact⟨arr[i],by simp[Instr.extract,this],.d (hr i _ y this hy)⟩
 .obtain⟨y,hy,he⟩:=AS.1 h;simp only[amj]at he;obtain⟨rfl,rfl⟩:=he;obtain⟨arr,rfl,hn,hr⟩:=hx.CP;have aG:=(BY.1 hy).1
  have:arr[i]? = some arr[i]:=ak
  exact⟨arr[i],by simp[Instr.extract,this],hr i _ y this hy⟩
 .cases h
def E4 (f:Fn) (caps:List AV):AV:=match nd caps with
 | some ds=>.d (.fn f ds)
 | none=>.fn f caps
omit hg in
theorem Ob {f:Fn} {arr:Array Value} {caps:List AV} (hn:arr.size=caps.length) (hr:∀ (j:Nat) (u:Value) (c:AV),arr[j]? = some u->caps[j]? = some c->RV w X μ u c):RV w X μ (.func f #[] arr) (E4 f caps):=by
 unfold E4;split
 .rename_i ds hd;rw[r8 hd]at hn hr;exact .d (.fn (by simpa using hn) fun j u c hu hc=>(hr j u (.d c) hu (by rw[amm,hc];rfl)).data)
 .exact .fn hn hr
def JH (op:UnOp):AV->lN
 | .d (.v (.bool b))=>match op with | .not=>some (True,bool !b) | _=>none
 | .d (.v (.int k n))=>match op with | .neg=>(xn k (0 - n)).map fun (c,v)=>(c,.d (.v v)) | _=>none
 | _=>none
omit hg in
theorem aj6 {op:UnOp} {u:Value} {x z:AV} {c:Prop} (h:JH op x=some (c,z)) (hc:c) (hx:RV w X μ u x):∃ r,(Op.unary op u).run P w = .ok r w/\RV w X μ r z:=by
 unfold JH at h;split at h
 .split at h
  .obtain⟨rfl,rfl⟩:=eN h;obtain rfl:=hx.scalar;exact⟨_,by simp[Op.unary],.d (.v _)⟩
  .cases h
 .split at h
  .obtain⟨⟨c',v⟩,hf,he⟩:=AS.1 h;simp only[amj]at he;obtain⟨rfl,rfl⟩:=he;obtain rfl:=hx.scalar;have:=Lc hf hc;subst this;exact⟨_,by simp[Op.unary,Op.intArith],.d (.v _)⟩
  .cases h
 .cases h
def Gq (T:Ty) (dst:TypeId):AV->lN
 | .d (.v (.int _ n))=>match T dst with
  | some ti=>match ti.desc with
   | .int k=>(xn k n).map fun (c,v)=>(c,.d (.v v))
   | .string=>some (True,.d (.v (.string (Utf8.encode n))))
   | _=>none
  | none=>none
 | .d (.v (.string s))=>if sf T dst TypeDesc.isStr then some (True,.d (.v (.string s))) else none
 | _=>none
theorem Z7 {src dst:TypeId} (ac9:(T src).isSome) {u:Value} {x z:AV} {c:Prop} (h:Gq T dst x=some (c,z)) (hc:c) (hx:RV w X μ u x):∃ r,(convert src dst u).run P w = .ok r w/\RV w X μ r z:=by
 obtain⟨tis,uM⟩:=am9.1 ac9;unfold Gq at h;split at h
 .split at h
  .rename_i ti ht;split at h
   .rename_i k hd;obtain⟨⟨c',v⟩,hf,he⟩:=AS.1 h;simp only[amj]at he;obtain⟨rfl,rfl⟩:=he;obtain rfl:=hx.scalar;have:=Lc hf hc;subst this;exact⟨_,by simp[convert,hg.dI uM,hg.dI ht,hd,Conv.intToInt],.d (.v _)⟩
   .rename_i hd;obtain⟨rfl,rfl⟩:=eN h;obtain rfl:=hx.scalar;exact⟨_,by simp[convert,hg.dI uM,hg.dI ht,hd,Conv.intToString],.d (.v _)⟩
   .cases h
  .cases h
 .split at h
  .rename_i hd;obtain⟨ti,ht,hp⟩:=xd hd;obtain⟨rfl,rfl⟩:=eN h;obtain rfl:=hx.scalar;exact⟨_,by simp[convert,hg.dI uM,hg.dI ht,Ii hp],.d (.v _)⟩
  .cases h
 .cases h
def IM:AV->lN
 | .d (.ip c)=>some (True,.d (.ip c))
 | .ref r e j=>some (True,.ref r e j)
 | _=>none
omit hg in
theorem afe {u:Value} {x z:AV} {c:Prop} (h:IM x=some (c,z)) (hx:RV w X μ u x):(∃ a,u = .pointer (some a))/\RV w X μ u z:=by
 unfold IM at h;split at h
 .obtain⟨rfl,rfl⟩:=eN h;obtain⟨b,off,f,rfl,_⟩:=hx.data.sO;exact⟨⟨_,rfl⟩,hx⟩
 .obtain⟨rfl,rfl⟩:=eN h;obtain⟨m,b,_,_,rfl⟩:=hx.mo;exact⟨⟨_,rfl⟩,hx⟩
 .cases h
def bound (G:aB) (e:Env):Option Operand->Option (Option Int)
 | none=>some none
 | some o=>match bJ G e o with
  | some (.d (.v (.int _ i)))=>some (some i)
  | _=>none
def tV (T:Ty) (H:Heap) (t:TypeId) (x:AV) (lo hi:Option Int):lN:=
 let l:=lo.getD 0
 match x with
 | .d (.v (.string s))=>if sf T t TypeDesc.isStr then
   let h:=hi.getD s.size
   some (0<=l/\l<=h/\h<=s.size,.d (.v (.string (s.extract l.toNat h.toNat)))) else none
 | .d (.sl k els)=>match ru T t with
  | some s=>
   let h:=hi.getD els.length
   some (0<=l/\l<=h/\h<=els.length/\(l=0\/∀ el∈els,el.length=s),.d (.sl k ((els.drop l.toNat).take (h - l).toNat)))
  | none=>none
 | .own r off n=>match ru T t,H r with
  | some s,some (.sl _ sz _)=>
   let h:=hi.getD n
   some (0<=l/\l<=h/\h<=n/\sz=s,if l=n/\¬ l=0 then .d (.sl none []) else .own r (off+l.toNat) (h - l).toNat)
  | _,_=>none
 | _=>none
omit hg in
theorem CJ {isS:Bool} {len cap:Nat} {lo hi:Option Value} {l h:Int} (hl:(lo=none/\l=0)\/∃ k,lo=some (.int k l)) (hh:(hi=none/\h=len)\/∃ k,hi=some (.int k h)) (h0:0<=l) (h1:l<=h) (h2:h<=cap) :
  (Instr.sliceBounds isS len cap lo hi none).run P w = .ok (l.toNat,h.toNat,cap) w:=by
 have e1:0<=h:=aa
 rcases hh with⟨rfl,rfl⟩ | ⟨k,rfl⟩<;>rcases hl with⟨rfl,rfl⟩ | ⟨k',rfl⟩
 .simp[Instr.sliceBounds]
 .simp[Instr.sliceBounds,Instr.sliceBound,asIntOf,h0,h1]
 .simp[Instr.sliceBounds,Instr.sliceBound,asIntOf,e1,h2]
 .have e3:l<=max h 0:=aa
  simp[Instr.sliceBounds,Instr.sliceBound,asIntOf,e1,h2,h0,e3]
theorem ai6 (hs:eT w X μ H) {t:TypeId} {u:Value} {x z:AV} {c:Prop} {lo hi:Option Int} {FU FT:Option Value} (h:tV T H t x lo hi=some (c,z)) (hc:c) (hx:RV w X μ u x)
  (zI:(FU=none/\lo=none)\/∃ k l,FU=some (.int k l)/\lo=some l) (BQ:(FT=none/\hi=none)\/∃ k l,FT=some (.int k l)/\hi=some l) :
  ∃ r,(Instr.sliceAt t u FU FT none).run P w = .ok r w/\RV w X μ r z:=by
 have hL:(FU=none/\lo.getD 0=0)\/∃ k,FU=some (.int k (lo.getD 0)):=by
  rcases zI with⟨rfl,rfl⟩ | ⟨k,l,rfl,rfl⟩
  .exact .inl ⟨rfl,rfl⟩
  .exact .inr ⟨k,rfl⟩
 have hH:∀ n:Nat,(FT=none/\hi.getD n=n)\/∃ k,FT=some (.int k (hi.getD n)):=by
  intro n
  rcases BQ with⟨rfl,rfl⟩ | ⟨k,l,rfl,rfl⟩
  .exact .inl ⟨rfl,rfl⟩
  .exact .inr ⟨k,rfl⟩
 unfold tV at h;dsimp only at h;split at h
 .rename_i s;split at h
  .rename_i hd;obtain⟨ti,ht,hp⟩:=xd hd;obtain⟨rfl,rfl⟩:=eN h;obtain rfl:=hx.scalar;obtain⟨h0,h1,h2⟩:=hc;exact⟨_,by simp[Instr.sliceAt,hg.dI ht,Ii hp,Instr.slice,CJ (P:=P) (w:=w) hL (hH s.size) h0 h1 h2],.d (.v _)⟩
  .cases h
 .rename_i k els;split at h
  .rename_i s he;obtain⟨rfl,rfl⟩:=eN h;obtain⟨h0,h1,h2,h3⟩:=hc;unfold ru at he;split at he
   .rename_i ti ht;split at he
    .rename_i e hd;obtain⟨te,c8,rfl⟩:=AS.1 he;generalize lo.getD 0=l at *;have vG:=hH els.length;generalize hi.getD ↑els.length=hh at *;obtain⟨l,rfl⟩:=ami h0;obtain⟨hh,rfl⟩:=ami (show 0<=hh by omega)
     have e1:((hh:Int) - l).toNat=hh - l:=aa
     simp only[amd,e1]
     rcases hx.data.sW with⟨rfl,rfl,hk⟩ | ⟨a,cap,rfl,hk,k8,hm,hr⟩
     .have l0:l=0:=by simp at h2;omega
      have Mp:hh=0:=by simp at h2;omega
      subst l0 Mp;have:=CJ (P:=P) (w:=w) (isS:=true) (cap:=0) hL vG h0 h1 ak;refine⟨.slice none 0 0,?_,.d (by simpa using .nil hk)⟩;simp at this;simp[Instr.sliceAt,hg.dI ht,hd,Instr.slice,this,hg.sizeOf c8]
     .have:=CJ (P:=P) (w:=w) (isS:=true) (cap:=cap) hL vG h0 h1 aa;refine⟨.slice (some (if cap=l then a else a.add (l * te.size))) (hh - l) (cap - l),?_,.d ?_⟩
      .simp[Instr.sliceAt,hg.dI ht,hd,Instr.slice,this,hg.sizeOf c8];split<;>rfl
      .by_cases hz:hh - l=0
       .rw[hz,List.take_zero];exact .empty hk (by unfold maxLen at *;omega)
       .rcases hr with rfl | ⟨b,off,sz,f,rfl,hX,bp,dY,fJ,mR⟩
        .simp at h2;omega
        .have cH:¬ cap=l:=aa
         rw[if_neg cH,addr_add]
         have wh:l * te.size=l * sz:=by
          rcases h3 with h3 | h3
          .have:l=0:=aa
           simp[this]
          .have bq:els≠[]:=by intro e;simp[e]at h2;omega
           obtain⟨el,bn⟩:=List.exists_mem_of_ne_nil _ bq;rw[<- h3 el bn,dY el bn]
         rw[wh];refine .sl (sz:=sz) (f:=fun i j=>f (l+i) j) hk ?_ aa (by unfold maxLen at *;omega) hX ?_ bp aa ?_ ?_
         .simp;omega
         .intro el bn;exact dY el (am3 (amr bn))
         .intro i j hi hj;have:=fJ (l+i) j aa hj;rw[amJ]at this;rw[<- this];congr 2;omega
         .intro i j el c bn hc;rw[amv]at bn;split at bn
          .rw[amM]at bn;exact mR _ j el c bn hc
          .cases bn
    .cases he
   .cases he
  .cases h
 .rename_i r off n;split at h
  .rename_i s ty sz els he G9;obtain⟨rfl,rfl⟩:=eN h;obtain⟨h0,h1,h2,rfl⟩:=hc;unfold ru at he;split at he
   .rename_i ti ht;split at he
    .rename_i e hd;obtain⟨te,c8,rfl⟩:=AS.1 he;generalize lo.getD 0=l at *;have vG:=hH n;generalize hi.getD ↑n=hh at *;obtain⟨l,rfl⟩:=ami h0;obtain⟨hh,rfl⟩:=ami (show 0<=hh by omega)
     have e1:((hh:Int) - l).toNat=hh - l:=aa
     simp only[amd,e1];obtain⟨m,hm,hu⟩:=hx.ml;obtain⟨m',cL,ok⟩:=hs.rows r _ G9;rw[hm]at cL;obtain rfl:=AI cL
     have bp:m.sz=te.size:=by cases ok<;>assumption
     by_cases hz:(l:Int)=n/\¬ (l:Int)=0
     .rw[if_pos hz]
      rcases hu with⟨hb,rfl,rfl,rfl⟩ | ⟨b,hb,rfl,hle⟩
      .omega
      .have hmc:m.cap<=maxLen:=by
        cases ok with
        | nil br _=>rw[hb]at br;cases br
        | sl br _ _ _ _ cL=>exact cL
       have:=CJ (P:=P) (w:=w) (isS:=true) (cap:=m.cap - off) hL vG h0 h1 aa;refine⟨.slice (some (if m.cap - off=l then ⟨b,off * m.sz,none⟩ else (⟨b,off * m.sz,none⟩:Addr).add (l * te.size))) (hh - l) (m.cap - off - l),?_,?_⟩
       .simp[Instr.sliceAt,hg.dI ht,hd,Instr.slice,this,hg.sizeOf c8];split<;>rfl
       .rw[show hh - l=0 by omega];exact .d (.empty ak aa)
     rw[if_neg hz]
     have h3:(l:Int)=0\/(l:Int) < n:=aa
     rcases hu with⟨hb,rfl,rfl,rfl⟩ | ⟨b,hb,rfl,hle⟩
     .have l0:l=0:=aa
      have Mp:hh=0:=aa
      subst l0 Mp;have:=CJ (P:=P) (w:=w) (isS:=true) (cap:=0) hL vG h0 h1 ak;refine⟨.slice none 0 0,?_,.own hm (.inl ⟨hb,rfl,rfl,rfl⟩)⟩;simp[Instr.sliceAt,hg.dI ht,hd,Instr.slice,hg.sizeOf c8];simp at this;simp[this]
     .have:=CJ (P:=P) (w:=w) (isS:=true) (cap:=m.cap - off) hL vG h0 h1 aa;refine⟨.slice (some (if m.cap - off=l then ⟨b,off * m.sz,none⟩ else (⟨b,off * m.sz,none⟩:Addr).add (l * te.size))) (hh - l) (m.cap - off - l),?_,.own hm (.inr ⟨b,hb,?_,aa⟩)⟩
      .simp[Instr.sliceAt,hg.dI ht,hd,Instr.slice,this,hg.sizeOf c8];split<;>rfl
      .rw[addr_add,<- bp,<- amJ]
       have e3:m.cap - off - l=m.cap - (off+l):=aa
       rw[e3];split
       .have:l=0:=aa
        subst this;simp
       .rfl
    .cases he
   .cases he
  .cases h
 .cases h
end
end Go.Av
namespace Go.Av
def eG (μ:Mu) (r:Nat) (m:jZ):Mu:=fun q=>if q=r then some m else μ q
def eJ (r:Nat) (e:Env):Env:=fun i=>(e i).map (AV.kill r)
def eK (r:Nat) (H:Heap):Heap:=fun q=>(H q).map (Row.kill r)
theorem kY.same {w w':World} {Mv X:Nat->Prop} {μ aI:Mu} (h:Ev Mv w μ w' aI) (gS:∀ q m,μ q=some m->aI q=some m) {m:jZ} (hb:∀ b,m.fT=some b->w'.heap[b]? = w.heap[b]?) {row:Row} (ok:kY w X μ m row):kY w' X aI m row:=by
 cases ok with
 | nil h1 h2=>exact .nil h1 h2
 | sl h1 h2 h3 h4 h5 h6 h7 h8 h9=>
  exact .sl h1 h2 ((hb _ h1).trans h3) h4 h5 h6 h7 h8 fun i j el c he hc=>let ⟨u,hu,hr⟩:=h9 i j el c he hc;⟨u,hu,hr.ev h⟩
 | box h1 h2 h3 h4 h5 h6 h7=>exact .box h1 h2 h3 ((hb _ h1).trans h4) h5 (fun j u c hu hc=>(h6 j u c hu hc).same h gS) h7
 | mp h1 h2 h3 h4=>exact .mp h1 ((hb _ h1).trans h2) h3 fun i e p he hp=>let ⟨a,b,c⟩:=h4 i e p he hp;⟨a,b,c.ev h⟩
 | it h1 h2 h3=>exact .it h1 ((hb _ h1).trans h2) (h3.ev h)
theorem kY.keep {w w':World} {Mv X:Nat->Prop} {μ aI:Mu} (h:Ev Mv w μ w' aI) {r:Nat} (gS:∀ q,q≠r->aI q=μ q) {m:jZ} (hb:∀ b,m.fT=some b->w'.heap[b]? = w.heap[b]?) {row:Row} (ok:kY w X μ m row):kY w' X aI m (row.kill r):=by
 cases ok with
 | nil h1 h2=>exact .nil h1 h2
 | sl h1 h2 h3 h4 h5 h6 h7 h8 h9=>
  exact .sl h1 h2 ((hb _ h1).trans h3) h4 h5 h6 h7 h8 fun i j el c he hc=>let ⟨u,hu,hr⟩:=h9 i j el c he hc;⟨u,hu,hr.ev h⟩
 | box h1 h2 h3 h4 h5 h6 h7=>
  refine .box h1 rfl h3 ((hb _ h1).trans h4) (by simpa using h5) (fun j u c hu hc=>?_) (by simpa using h7);rw[amm]at hc;obtain⟨c',eI,rfl⟩:=AS.1 hc;exact (h6 j u c' hu eI).keep h gS
 | mp h1 h2 h3 h4=>exact .mp h1 ((hb _ h1).trans h2) h3 fun i e p he hp=>let ⟨a,b,c⟩:=h4 i e p he hp;⟨a,b,c.ev h⟩
 | it h1 h2 h3=>exact .it h1 ((hb _ h1).trans h2) (h3.ev h)
section
variable {Mv X:Nat->Prop} {G:aB} {N:Fr} {w w':World} {μ:Mu} {a:Act} {σ:St}
theorem kY.nP {m:jZ} {row:Row} {b:Nat} (ok:kY w X μ m row) (hb:m.fT=some b):b < w.heap.size:=by
 cases ok with
 | nil br _=>rw[br]at hb;cases hb
 | sl br _ hh=>rw[br]at hb;obtain rfl:=AI hb;exact (amf.1 hh).1
 | box br _ _ hh=>rw[br]at hb;obtain rfl:=AI hb;exact (amf.1 hh).1
 | mp br hh=>rw[br]at hb;obtain rfl:=AI hb;exact (amf.1 hh).1
 | it br hh=>rw[br]at hb;obtain rfl:=AI hb;exact (amf.1 hh).1
theorem eT.uZ {H:Heap} (h:eT w X μ H) {r:Nat} (hr:H r=none):μ r=none:=by
 cases hm:μ r with
 | none=>rfl
 | some m=>obtain⟨row,pB⟩:=h.l5 r m hm;rw[hr]at pB;cases pB
structure cX (w w':World):Prop where
 size:w.heap.size<=w'.heap.size
 os:w'.os=w.os
 tape:w'.tape=w.tape
 output:w'.output=w.output
 same:∀ b,b < w.heap.size->w'.heap[b]? = w.heap[b]?
theorem cX.refl (w:World):cX w w:=⟨amh _,rfl,rfl,rfl,fun _ _=>rfl⟩
theorem cX.alloc (w:World) (o:Obj):cX w (w.alloc o):=⟨ak,rfl,rfl,rfl,fun b hb=>by rw[<- World.alloc_eq];simp[Array.getElem?_push,Nat.ne_of_lt hb]⟩
theorem cX.drew (w:World):cX w w.drew:=⟨amh _,rfl,rfl,rfl,fun _ _=>rfl⟩
theorem In.ry (hi:In w X G μ N a σ) (hg:cX w w'):In w' X G μ N a σ/\Ev Mv w μ w' μ:=by
 have ev:Ev Mv w μ w' μ:=⟨hg.size,hg.os,hg.tape,hg.output,fun b hb hr=>⟨hg.same b hb,hr⟩,fun _ _ h _=>h⟩;refine⟨⟨⟨fun r row hr=>?_,hi.bx.l5,hi.bx.inj,hi.bx.frame,fun b hb=>amN (hi.bx.fits b hb) hg.size⟩,⟨hi.env.defers,hi.env.size,fun i x hx=>?_⟩,fun g x hx=>(hi.jA g x hx).ev ev⟩,ev⟩
 .obtain⟨m,hm,ok⟩:=hi.bx.rows r row hr;exact⟨m,hm,ok.same ev (fun _ _ h=>h) fun b hb=>hg.same b (ok.nP hb)⟩
 .obtain⟨u,hu,hr⟩:=hi.env.slot i x hx;exact⟨u,hu,hr.same ev fun _ _ h=>h⟩
theorem In.alloc (hi:In w X G μ N a σ) {d:Nat} (hd:σ.H d=none) (hg:cX w w') {m:jZ} (hm:∀ b,m.fT=some b->w.heap.size<=b) {row:Row}
  (ok:Ev Mv w μ w' (eG μ d m)->kY w' X (eG μ d m) m row):In w' X G (eG μ d m) N a ⟨σ.env,bk σ.H d row⟩/\Ev Mv w μ w' (eG μ d m):=by
 have Er:=hi.bx.uZ hd
 have gS:∀ q m',μ q=some m'->eG μ d m q=some m':=by
  intro q m' hq;unfold eG;split
  .rename_i e;subst e;rw[Er]at hq;cases hq
  .exact hq
 have ev:Ev Mv w μ w' (eG μ d m):=by
  refine⟨hg.size,hg.os,hg.tape,hg.output,fun b hb hr=>⟨hg.same b hb,?_⟩,fun _ _ h _=>gS _ _ h⟩;rintro⟨q,m',hq,br⟩;unfold eG at hq;split at hq
  .obtain rfl:=AI hq;have:=hm b br;omega
  .exact hr ⟨q,m',hq,br⟩
 have ok:=ok ev;refine⟨⟨⟨fun r jm hr=>?_,fun r m' hr=>?_,fun r r' m1 m2 b h1 h2 e9 fk=>?_,fun r m' b hr hb=>?_,fun b hb=>amN (hi.bx.fits b hb) hg.size⟩,⟨hi.env.defers,hi.env.size,fun i x hx=>?_⟩,fun g x hx=>(hi.jA g x hx).ev ev⟩,ev⟩
 .dsimp only[bk]at hr;split at hr
  .rename_i e;subst e;obtain rfl:=AI hr;exact⟨m,by simp[eG],ok⟩
  .rename_i e;obtain⟨m',cL,An⟩:=hi.bx.rows r jm hr;exact⟨m',gS r m' cL,An.same ev gS fun b hb=>hg.same b (An.nP hb)⟩
 .unfold eG at hr;split at hr
  .rename_i e;exact⟨row,by simp[bk,e]⟩
  .rename_i e;obtain⟨jm,pB⟩:=hi.bx.l5 r m' hr;exact⟨jm,by simp[bk,e,pB]⟩
 .have lt:∀ q m',μ q=some m'->m'.fT=some b->b < w.heap.size:=fun q m' hq hb=>hi.bx.nP ⟨q,m',hq,hb⟩;unfold eG at h1 h2;split at h1<;>split at h2
  .rename_i e1 e2;rw[e1,e2]
  .obtain rfl:=AI h1;have:=hm b e9;have:=lt r' m2 h2 fk;omega
  .obtain rfl:=AI h2;have:=hm b fk;have:=lt r m1 h1 e9;omega
  .exact hi.bx.inj r r' m1 m2 b h1 h2 e9 fk
 .unfold eG at hr;split at hr
  .obtain rfl:=AI hr;intro hX;have:=hm b hb;have:=hi.bx.fits b hX;omega
  .exact hi.bx.frame r m' b hr hb
 .obtain⟨u,hu,hr⟩:=hi.env.slot i x hx;exact⟨u,hu,hr.same ev gS⟩
theorem In.write (hi:In w X G μ N a σ) {r b:Nat} {m:jZ} (hm:μ r=some m) (hb:m.fT=some b) (hs:w'.heap.size=w.heap.size) (ho:w'.os=w.os) (ht:w'.tape=w.tape) (uH:w'.output=w.output)
  (uL:∀ k,k≠b->w'.heap[k]? = w.heap[k]?) {row:Row} (ok:Ev Mv w μ w' μ->kY w' X μ m row):In w' X G μ N a ⟨σ.env,bk σ.H r row⟩/\Ev Mv w μ w' μ:=by
 have ev:Ev Mv w μ w' μ:=⟨aa,ho,ht,uH,fun k hk hr=>⟨uL k fun e=>hr ⟨r,m,hm,e ▸ hb⟩,hr⟩,fun _ _ h _=>h⟩;have ok:=ok ev;refine⟨⟨⟨fun q jm hq=>?_,fun q m' hq=>?_,hi.bx.inj,hi.bx.frame,fun b hb=>by have:=hi.bx.fits b hb;omega⟩,⟨hi.env.defers,hi.env.size,fun i x hx=>?_⟩,fun g x hx=>(hi.jA g x hx).ev ev⟩,ev⟩
 .dsimp only[bk]at hq;split at hq
  .rename_i e;subst e;obtain rfl:=AI hq;exact⟨m,hm,ok⟩
  .rename_i e;obtain⟨m',cL,An⟩:=hi.bx.rows q jm hq;exact⟨m',cL,An.same ev (fun _ _ h=>h) fun k hk=>uL k fun e'=>e (hi.bx.inj q r m' m k cL hm hk (e' ▸ hb))⟩
 .by_cases e:q=r
  .exact⟨row,by simp[bk,e]⟩
  .obtain⟨jm,pB⟩:=hi.bx.l5 q m' hq;exact⟨jm,by simp[bk,e,pB]⟩
 .obtain⟨u,hu,hr⟩:=hi.env.slot i x hx;exact⟨u,hu,hr.same ev fun _ _ h=>h⟩
theorem In.move (hi:In w X G μ N a σ) {r:Nat} {m m':jZ} (hm:μ r=some m) (gp:Mv r) (hs:w.heap.size<=w'.heap.size) (ho:w'.os=w.os) (ht:w'.tape=w.tape) (uH:w'.output=w.output)
  (uL:∀ k,k < w.heap.size->m.fT≠some k->w'.heap[k]? = w.heap[k]?) (mQ:∀ b,m'.fT=some b->w.heap.size<=b\/m.fT=some b) {row:Row}
  (ok:Ev Mv w μ w' (eG μ r m')->kY w' X (eG μ r m') m' row):In w' X G (eG μ r m') N a ⟨eJ r σ.env,bk (eK r σ.H) r row⟩/\Ev Mv w μ w' (eG μ r m'):=by
 have gS:∀ q,q≠r->eG μ r m' q=μ q:=fun q hq=>by simp[eG,hq]
 have ev:Ev Mv w μ w' (eG μ r m'):=by
  refine⟨hs,ho,ht,uH,fun b hb hr=>⟨uL b hb fun e=>hr ⟨r,m,hm,e⟩,?_⟩,fun q mq hq hn=>?_⟩
  .rintro⟨q,mq,hq,lA⟩;unfold eG at hq;split at hq
   .obtain rfl:=AI hq
    rcases mQ b lA with h | h
    .omega
    .exact hr ⟨r,m,hm,h⟩
   .exact hr ⟨q,mq,hq,lA⟩
  .have:q≠r:=fun e=>hn (e ▸ gp);rw[gS q this];exact hq
 have ok:=ok ev;refine⟨⟨⟨fun q jm hq=>?_,fun q mq hq=>?_,fun q q' m1 m2 b h1 h2 e9 fk=>?_,fun q mq b hq hb=>?_,fun b hb=>amN (hi.bx.fits b hb) hs⟩,⟨hi.env.defers,hi.env.size,fun i x hx=>?_⟩,fun g x hx=>(hi.jA g x hx).ev ev⟩,ev⟩
 .dsimp only[bk]at hq;split at hq
  .rename_i e;subst e;obtain rfl:=AI hq;exact⟨m',by simp[eG],ok⟩
  .rename_i e;unfold eK at hq;obtain⟨qo,h0,rfl⟩:=AS.1 hq;obtain⟨mq,BV,An⟩:=hi.bx.rows q qo h0;exact⟨mq,(gS q e).trans BV,An.keep ev gS fun k hk=>uL k (An.nP hk) fun e'=>e (hi.bx.inj q r mq m k BV hm hk e')⟩
 .by_cases e:q=r
  .exact⟨row,by simp[bk,e]⟩
  .rw[gS q e]at hq;obtain⟨jm,pB⟩:=hi.bx.l5 q mq hq;exact⟨jm.kill r,by simp[bk,e,eK,pB]⟩
 .have lt:∀ q mq,μ q=some mq->mq.fT=some b->b < w.heap.size:=fun q mq hq hb=>hi.bx.nP ⟨q,mq,hq,hb⟩;by_cases e1:q=r<;>by_cases e2:q'=r
  .rw[e1,e2]
  .rw[gS q' e2]at h2;simp only[eG,e1,if_true,IT]at h1;subst h1
   rcases mQ b e9 with h | h
   .have:=lt q' m2 h2 fk;omega
   .exact absurd (hi.bx.inj q' r m2 m b h2 hm fk h) e2
  .rw[gS q e1]at h1;simp only[eG,e2,if_true,IT]at h2;subst h2
   rcases mQ b fk with h | h
   .have:=lt q m1 h1 e9;omega
   .exact absurd (hi.bx.inj q r m1 m b h1 hm e9 h) e1
  .rw[gS q e1]at h1;rw[gS q' e2]at h2;exact hi.bx.inj q q' m1 m2 b h1 h2 e9 fk
 .by_cases e:q=r
  .simp only[eG,e,if_true,IT]at hq;subst hq
   rcases mQ b hb with h | h
   .intro hX;have:=hi.bx.fits b hX;omega
   .exact hi.bx.frame r m b hm h
  .rw[gS q e]at hq;exact hi.bx.frame q mq b hq hb
 .unfold eJ at hx;obtain⟨x0,h0,rfl⟩:=AS.1 hx;obtain⟨u,hu,hr⟩:=hi.env.slot i x0 h0;exact⟨u,hu,hr.keep ev gS⟩
theorem I4 (hs:eT w X μ σ.H) {r off n ty sz:Nat} {els:List (List D)} (hH:σ.H r=some (.sl ty sz els)) (hle:off+n<=els.length) {u:Value} (hu:RV w X μ u (.own r off n)) :
  ∃ k,RD w (XX X (fun q=>if q=r then none else μ q)) u (.sl k ((els.drop off).take n))/\(0 < n->k=some true)/\k≠some false:=by
 obtain⟨m,hm,hh⟩:=hu.ml;obtain⟨m',cL,ok⟩:=hs.rows r _ hH;rw[hm]at cL;obtain rfl:=AI cL
 have hX:∀ b,m.fT=some b->¬ XX X (fun q=>if q=r then none else μ q) b:=by
  rintro b hb (h | ⟨q,mq,hq,lA⟩)
  .exact hs.frame r m b hm hb h
  .dsimp only at hq;split at hq
   .cases hq
   .rename_i e;exact e (hs.inj q r mq m b hq hm lA hb)
 rcases hh with⟨hb,rfl,rfl,rfl⟩ | ⟨b,hb,rfl,k8⟩
 .exact⟨none,by simpa using .nil ak,aa,ak⟩
 .cases ok with
  | nil br _=>rw[br]at hb;cases hb
  | sl br bp hh cY hn iq hl hz hr=>
   rename_i b' cur;rw[hb]at br;obtain rfl:=AI br;subst bp;by_cases h0:n=0
   .subst h0;exact⟨some true,by rw[List.take_zero];exact .empty ak (by unfold maxLen at *;omega),aa,ak⟩
   .refine⟨some true,.sl (sz:=m.sz) (f:=fun i j=>cur.getD ((off+i) * m.sz+j) undef) ak (by simp;omega) aa (by unfold maxLen at *;omega) (hX b hb) (fun el bn=>hl el (am3 (amr bn))) hz aa ?_ ?_,ak,ak⟩
    .intro i j hi hj
     have aG:(off+i) * m.sz+j < cur.size:=by
      rw[cY];have:(off+i+1) * m.sz<=m.cap * m.sz:=amB _ aa;rw[amJ]at this;omega
     have e1:off * m.sz+(i * m.sz+j)=(off+i) * m.sz+j:=by rw[amJ];omega
     rw[e1,cell_of_row w b _ cur ty (0,0) hh];simp[amg,aG]
    .intro i j el c bn hc;rw[amv]at bn;split at bn
     .rw[amM]at bn;obtain⟨u',iR,bQ⟩:=hr (off+i) j el c bn hc;rw[amg,iR];refine bQ.mono (amh _) fun b hb BB=>⟨rfl,?_⟩;rintro (h | ⟨q,mq,hq,lA⟩)
      .exact BB (.inl h)
      .dsimp only at hq;split at hq
       .cases hq
       .exact BB (.inr ⟨q,mq,hq,lA⟩)
     .cases bn
end
end Go.Av
namespace Go.Av
def D.one:D->Bool
 | .v x=>x.oneCell'
 | .agg _ | .bz _=>false
 | _=>true
def AV.one:AV->Bool
 | .d x=>x.one
 | .own _ _ _ | .ref _ _ _ | .cC _ _ | .fn _ _ | .mp _=>true
 | _=>false
section
variable {w:World} {X:Nat->Prop} {μ:Mu}
theorem RD.Cz {u:Value} {x:D} (h:RD w X u x) (h1:x.one=true):u.oneCell'=true:=by
 cases h<;>first | rfl | exact h1 | cases h1
theorem RV.Cz {u:Value} {x:AV} (h:RV w X μ u x) (h1:x.one=true):u.oneCell'=true:=by
 cases h with
 | d h=>exact h.Cz h1
 | own _ h=>rcases h with⟨_,rfl,_⟩ | ⟨b,_,rfl,_⟩<;>rfl
 | ref _ _=>rfl
 | cC _=>rfl
 | fn _ _=>rfl
 | mp _ _=>rfl
 | _=>cases h1
theorem cells_one {u:Value} (h:u.oneCell'=true):u.cells = #[u]:=by cases u<;>first | rfl | cases h
structure C3 (w:World) (X:Nat->Prop) (μ:Mu) (arr:Array Value) (cells:List AV):Prop where
 size:arr.size=cells.length
 at_:∀ (j:Nat) (u:Value) (c:AV),arr[j]? = some u->cells[j]? = some c->RV w X μ u c
def jY:AV->Option (List AV)
 | .d (.agg cs)=>some (cs.map .d)
 | .agg cs=>some cs
 | x=>if x.one then some [x] else none
theorem CR {u:Value} {x:AV} {cs:List AV} (hx:RV w X μ u x) (h:jY x=some cs):C3 w X μ u.cells cs:=by
 unfold jY at h;split at h
 .obtain rfl:=AI h;obtain⟨arr,rfl,hn,hr⟩:=hx.data.ud;exact⟨by simpa[Value.cells]using hn,RV.Cw hr⟩
 .obtain rfl:=AI h;obtain⟨arr,rfl,hn,hr⟩:=hx.ud;exact⟨hn,hr⟩
 .split at h
  .rename_i h1;obtain rfl:=AI h;rw[cells_one (hx.Cz h1)];refine⟨rfl,fun j v c hv hc=>?_⟩
   match j,hv,hc with
   | 0,hv,hc=>simp at hv hc;subst hv hc;exact hx
   | j+1,hv,hc=>simp at hc
  .cases h
def gL:Value->List D
 | .agg arr=>arr.toList.map vu
 | v=>[vu v]
theorem AR (v:Value):v.cells.size=(gL v).length/\∀ (j:Nat) (u:Value) (c:D),v.cells[j]? = some u->(gL v)[j]? = some c->RD w X u c:=by
 cases v with
 | agg arr=>
  refine⟨by simp[Value.cells,gL],fun j u c hu hc=>?_⟩;simp only[gL,amm]at hc;obtain⟨c',eI,rfl⟩:=AS.1 hc;rw[ams]at eI;simp only[Value.cells]at hu;rw[hu]at eI;obtain rfl:=AI eI;exact Ba _
 | _=>
  refine⟨rfl,fun j u c hu hc=>?_⟩
  match j,hu,hc with
  | 0,hu,hc=>simp[Value.cells,gL]at hu hc;subst hu hc;exact Ba _
  | j+1,hu,hc=>simp[gL]at hc
end
def pc (Mv X:Nat->Prop) (G:aB) (N:Fr) (w:World) (μ:Mu) (a:Act) (run:Result Value) (x:AV) (ba:St):Prop:=
 ∃ v w' aI,run = .ok v w'/\In w' X G aI N a ba/\RV w' X aI v x/\Ev Mv w μ w' aI
section
variable {P:Program} {T:Ty} {Mv X:Nat->Prop} {G:aB} {N:Fr} {w:World} {μ:Mu} {a:Act} {σ:St}
theorem Vg (hi:In w X G μ N a σ) {d:Nat} (hd:σ.H d=none) (t:TypeId) {cur:Array Value} {cells:List AV} (hp:C3 w X μ cur cells) :
  pc Mv X G N w μ a (.ok (.pointer (some ⟨w.heap.size,0,none⟩)) (w.alloc (.cells cur t))) (.ref d 0 0) ⟨σ.env,bk σ.H d (.box t cells)⟩:=by
 have Er:=hi.bx.uZ hd
 have hm:eG μ d ⟨some w.heap.size,cells.length,1⟩ d=some ⟨some w.heap.size,cells.length,1⟩:=by simp[eG]
 obtain⟨h1,h2⟩:=hi.alloc (Mv:=Mv) hd (cX.alloc w (.cells cur t)) (m:=⟨some w.heap.size,cells.length,1⟩) (fun b hb=>by simp at hb;omega) (row:=.box t cells) fun ev=>
  .box rfl rfl (show 1<=maxLen by decide) (by simpa using heap_alloc_new w (.cells cur t)) (Nat.le_of_eq hp.size.symm) (hx:=fun _=>hp.size.symm) fun j u c hu hc=>(hp.at_ j u c hu hc).same ev fun q m' hq=>by
   unfold eG;split
   .rename_i e;subst e;rw[Er]at hq;cases hq
   .exact hq
 refine⟨_,_,_,rfl,h1,?_,h2⟩;have:=RV.ref (w:=w.alloc (.cells cur t)) (X:=X) (μ:=eG μ d ⟨some w.heap.size,cells.length,1⟩) (e:=0) (j:=0) (b:=w.heap.size) hm rfl;simpa using this
structure Yv (w:World) (X:Nat->Prop) (cur:Array Value) (sz:Nat) (els:List (List D)):Prop where
 len:∀ el∈els,el.length=sz
 at_:∀ (i j:Nat) (el:List D) (c:D),els[i]? = some el->el[j]? = some c->∃ u,cur[i * sz+j]? = some u/\RD w X u c
theorem Vh (hi:In w X G μ N a σ) {d:Nat} (hd:σ.H d=none) (t:TypeId) {cur:Array Value} {sz n cap:Nat} {els:List (List D)} (he:Yv w (XX X μ) cur sz els) (hz:0 < sz) (hc:cur.size=cap * sz) (hn:els.length=n) (k8:n<=cap) (acG:cap<=maxLen) :
  pc Mv X G N w μ a (.ok (.slice (some ⟨w.heap.size,0,none⟩) n cap) (w.alloc (.cells cur t))) (.own d 0 n) ⟨σ.env,bk σ.H d (.sl t sz els)⟩:=by
 have hm:eG μ d ⟨some w.heap.size,sz,cap⟩ d=some ⟨some w.heap.size,sz,cap⟩:=by simp[eG]
 obtain⟨h1,h2⟩:=hi.alloc (Mv:=Mv) hd (cX.alloc w (.cells cur t)) (m:=⟨some w.heap.size,sz,cap⟩) (fun b hb=>by simp at hb;omega) (row:=.sl t sz els) fun ev=>
  .sl rfl rfl (by simpa using heap_alloc_new w (.cells cur t)) hc (by simp;omega) acG he.len hz fun i j el c h1 h2=>let ⟨u,hu,hr⟩:=he.at_ i j el c h1 h2;⟨u,hu,hr.ev ev⟩
 exact⟨_,_,_,rfl,h1,.own hm (.inr ⟨w.heap.size,rfl,ak,by simpa using k8⟩),h2⟩
theorem YG (hg:Good P T) (hi:In w X G μ N a σ) {d:Nat} (hd:σ.H d=none) {t:TypeId} {ti:TI} (ht:T t=some ti) :
  pc Mv X G N w μ a ((Instr.alloc t true (.tuple #[])).run P w) (.ref d 0 0) ⟨σ.env,bk σ.H d (.box t ((gL ti.zero).map .d))⟩:=by
 have:=Vg (Mv:=Mv) hi hd t (cur:=ti.zero.cells) (cells:=(gL ti.zero).map .d) ⟨by simpa using (AR (w:=w) (X:=X) ti.zero).1,RV.Cw (AR ti.zero).2⟩;simpa[Instr.alloc,hg.zero ht,newVar,newRow]using this
theorem Zw (hi:In w X G μ N a σ) {d:Nat} (hd:σ.H d=none) {t:TypeId} {u:Value} {x:AV} {cs:List AV} (hx:RV w X μ u x) (hc:jY x=some cs) :
  pc Mv X G N w μ a ((Instr.box t u).run P w) (.ref d 0 0) ⟨σ.env,bk σ.H d (.box t cs)⟩:=by
 have:=Vg (Mv:=Mv) hi hd t (CR hx hc);simpa[Instr.box,newVar,newRow]using this
theorem CL {α:Type} (l cs:List α) (j i:Nat) (hj:j+cs.length<=l.length):(l.take j ++ cs ++ l.drop (j+cs.length))[i]? = if j<=i/\i < j+cs.length then cs[i - j]? else l[i]?:=by
 rw[am4,anG];simp only[amw]
 have e1:min j l.length=j:=aa
 rw[e1];split
 .rename_i h;rw[if_neg aa,amv,if_pos h]
 .rename_i h;rw[anG];split
  .rename_i h2;rw[if_pos aa]
  .rename_i h2;rw[if_neg aa,amM];congr 1;omega
theorem WU {ti:TI} {t:TypeId} (hg:Good P T) (ht:T t=some ti) {b o:Nat} {ty:TypeId} {cur:Array Value} {u:Value} (hh:w.heap[b]? = some (.cells cur ty (0,0))) (hs:u.cells.size=ti.size) (k9:o+ti.size<=cur.size) (h1:∀ v∈u.cells.toList,v.oneCell'=true) :
  (storeVar t ⟨b,o,none⟩ u).run P w = .ok () (w.setRow b (cur.toList.take o ++ u.cells.toList ++ cur.toList.drop (o+u.cells.toList.length)).toArray):=by
 have:=run_storeCells_at P b o ty u.cells.toList 0 cur w hh (by simp;omega) h1;simp only[anj]at this;simp[storeVar,hg.sizeOf ht,hs,this]
def Jz (T:Ty) (t:TypeId) (cells:List AV) (j:Nat) (x:AV):Option (Prop×List AV):=match T t,jY x with
 | some ti,some cs=>some (cs.length=ti.size/\j+cs.length<=cells.length/\cs.all AV.one=true,cells.take j ++ cs ++ cells.drop (j+cs.length))
 | _,_=>none
theorem aji (hg:Good P T) (hi:In w X G μ N a σ) {t ty:TypeId} {r j:Nat} {cells xb:List AV} {ua u:Value} {x:AV} {c:Prop} (hH:σ.H r=some (.box ty cells)) (h:Jz T t cells j x=some (c,xb)) (hc:c)
  (ha:RV w X μ ua (.ref r 0 j)) (hx:RV w X μ u x):∃ w',(Instr.storeAt t ua u).run P w = .ok () w'/\In w' X G μ N a ⟨σ.env,bk σ.H r (.box ty xb)⟩/\Ev Mv w μ w' μ:=by
 unfold Jz at h;split at h
 .rename_i ti cs ht cY;obtain⟨rfl,rfl⟩:=eN h;obtain⟨h1,h2,h3⟩:=hc;obtain⟨m,b,hm,hb,rfl⟩:=ha.mo;obtain⟨m',cL,ok⟩:=hi.bx.rows r _ hH;rw[hm]at cL;obtain rfl:=AI cL;have hp:=CR hx cY
  cases ok with
  | box br bp k8 hh hn hr xW=>
   rename_i b' cur;rw[hb]at br;obtain rfl:=AI br
   have lH:∀ v∈u.cells.toList,v.oneCell'=true:=by
    intro v hv;obtain⟨i,fK,rfl⟩:=amz.1 hv
    have gx:i < cs.length:=by rw[<- hp.size];simpa using fK
    refine (hp.at_ i _ cs[i] (by rw[<- ams,AT fK]) (by simp[gx])).Cz ?_;exact ane.1 h3 _ (By gx)
   have dK:=WU (P:=P) hg ht (o:=j) hh (by rw[hp.size,h1]) aa lH
   have sG:u.cells.toList.length=cs.length:=by simpa using hp.size
   obtain⟨aR,bd⟩:=hi.write (Mv:=Mv) (w':=w.setRow b (cur.toList.take j ++ u.cells.toList ++ cur.toList.drop (j+u.cells.toList.length)).toArray) hm hb ak rfl rfl rfl (fun k hk=>setRow_other w b k _ hk)
    (row:=.box ty (cells.take j ++ cs ++ cells.drop (j+cs.length))) fun ev=>by
     refine .box hb rfl k8 (setRow_heap w b cur _ ty _ hh) ?_ (hx:=fun e=>?_) fun i v c hv hc=>?_
     .simp[sG];omega
     rotate_left
     .have:=xW e;simp[sG];omega
     .rw[CL _ _ _ _ h2]at hc;rw[<- ams]at hv;simp only at hv;rw[CL _ _ _ _ (by rw[sG];simp;omega),sG]at hv;refine RV.same ev (fun _ _ h=>h) ?_;split at hv
      .rename_i qI;rw[if_pos qI]at hc;exact hp.at_ _ v c (by simpa using hv) hc
      .rename_i qI;rw[if_neg qI]at hc;exact hr i v c (by simpa using hv) hc
   refine⟨_,?_,aR,bd⟩;simp only[anJ,amR];simpa[Instr.storeAt,Instr.sureAddr]using dK
 .cases h
def JA (T:Ty) (t:TypeId) (sz:Nat) (els:List (List D)) (e j:Nat) (x:AV):Option (Prop×List (List D)):=match T t,(jY x).bind nd with
 | some ti,some cs=>some (cs.length=ti.size/\e < els.length/\j+cs.length<=sz/\cs.all D.one=true,els.set e ((els.getD e []).take j ++ cs ++ (els.getD e []).drop (j+cs.length)))
 | _,_=>none
theorem ajj (hg:Good P T) (hi:In w X G μ N a σ) {t ty:TypeId} {r e j sz:Nat} {els pX:List (List D)} {ua u:Value} {x:AV} {c:Prop} (hH:σ.H r=some (.sl ty sz els)) (h:JA T t sz els e j x=some (c,pX)) (hc:c)
  (ha:RV w X μ ua (.ref r e j)) (hx:RV w X μ u x):∃ w',(Instr.storeAt t ua u).run P w = .ok () w'/\In w' X G μ N a ⟨σ.env,bk σ.H r (.sl ty sz pX)⟩/\Ev Mv w μ w' μ:=by
 unfold JA at h;split at h
 .rename_i ti ds ht cY;obtain⟨cs,cY,n5⟩:=amy.1 cY;obtain⟨rfl,rfl⟩:=eN h;obtain⟨h1,h2,h3,h4⟩:=hc;obtain⟨m,b,hm,hb,rfl⟩:=ha.mo;obtain⟨m',cL,ok⟩:=hi.bx.rows r _ hH;rw[hm]at cL;obtain rfl:=AI cL;have hp:=CR hx cY;rw[r8 n5]at hp
  have eu:u.cells.size=ds.length:=by simpa using hp.size
  have HR:∀ (i:Nat) (v:Value) (c:D),u.cells[i]? = some v->ds[i]? = some c->RD w (XX X μ) v c:=fun i v c hv hc=>(hp.at_ i v (.d c) hv (by rw[amm,hc];rfl)).data
  cases ok with
  | nil br _=>rw[hb]at br;cases br
  | sl br bp hh LV hn iq hl hz hr=>
   rename_i b' cur;rw[hb]at br;obtain rfl:=AI br;subst bp
   have lH:∀ v∈u.cells.toList,v.oneCell'=true:=by
    intro v hv;obtain⟨i,fK,rfl⟩:=amz.1 hv
    have gx:i < ds.length:=by rw[<- eu];simpa using fK
    refine (HR i _ ds[i] (by rw[<- ams,AT fK]) (by simp[gx])).Cz ?_;exact ane.1 h4 _ (By gx)
   have bn:els.getD e []=els[e]:=by simp[ame,h2]
   have hlen:(els[e]).length=m.sz:=hl _ (By h2);have hE:(e+1) * m.sz<=m.cap * m.sz:=amB _ aa;rw[amJ]at hE;have dK:=WU (P:=P) hg ht (o:=e * m.sz+j) hh (by rw[eu,h1]) (by rw[LV];omega) lH
   have sG:u.cells.toList.length=ds.length:=by simpa using eu
   rw[bn]
   obtain⟨aR,bd⟩:=hi.write (Mv:=Mv) (w':=w.setRow b (cur.toList.take (e * m.sz+j) ++ u.cells.toList ++ cur.toList.drop (e * m.sz+j+u.cells.toList.length)).toArray) hm hb ak rfl rfl rfl (fun k hk=>setRow_other w b k _ hk)
    (row:=.sl ty m.sz (els.set e ((els[e]).take j ++ ds ++ (els[e]).drop (j+ds.length)))) fun ev=>by
     refine .sl hb rfl (setRow_heap w b cur _ ty _ hh) ?_ (by simpa using hn) iq ?_ hz ?_
     .simp[sG,LV];omega
     .intro el vY
      rcases List.mem_or_eq_of_mem_set vY with h | rfl
      .exact hl el h
      .simp[hlen];omega
     .intro i k el c fK hk
      have key:∀ idx,((cur.toList.take (e * m.sz+j) ++ u.cells.toList ++ cur.toList.drop (e * m.sz+j+u.cells.toList.length)).toArray)[idx]? = if e * m.sz+j<=idx/\idx < e * m.sz+j+ds.length then u.cells[idx - (e * m.sz+j)]? else cur[idx]?:=by
       intro idx;rw[<- ams];simp only;rw[CL _ _ _ _ (by rw[sG];simp[LV];omega),sG];simp
      rw[key]
      have dO:k < m.sz:=by
       have cL:el∈els.set e ((els[e]).take j ++ ds ++ (els[e]).drop (j+ds.length)):=amZ fK
       have:el.length=m.sz:=by
        rcases List.mem_or_eq_of_mem_set cL with h | rfl
        .exact hl el h
        .simp[hlen];omega
       have:=(BY.1 hk).1;omega
      rw[List.getElem?_set]at fK;split at fK
      .rename_i L6;subst L6
       try rw[if_pos h2]at fK
       obtain rfl:=AI fK;rw[CL _ _ _ _ aa]at hk;split at hk
       .rename_i zF;rw[if_pos aa]
        have e1:e * m.sz+k - (e * m.sz+j)=k - j:=aa
        rw[e1]
        have aG:k - j < u.cells.size:=aa
        exact⟨u.cells[k - j],by simp[aG],(HR (k - j) _ c (by simp[aG]) hk).ev ev⟩
       .rename_i zF;rw[if_neg aa];obtain⟨v,hv,bQ⟩:=hr e k _ c (AT h2) hk;exact⟨v,hv,bQ.ev ev⟩
      .rename_i L6
       have bq:¬ (e * m.sz+j<=i * m.sz+k/\i * m.sz+k < e * m.sz+j+ds.length):=by
        rintro⟨g1,g2⟩
        rcases Nat.lt_or_gt_of_ne L6 with h | h
        .have:(e+1) * m.sz<=i * m.sz:=amB _ h;rw[amJ]at this;omega
        .have:(i+1) * m.sz<=e * m.sz:=amB _ h;rw[amJ]at this;omega
       rw[if_neg bq];obtain⟨v,hv,bQ⟩:=hr i k el c fK hk;exact⟨v,hv,bQ.ev ev⟩
   refine⟨_,?_,aR,bd⟩;simpa[Instr.storeAt,Instr.sureAddr]using dK
 .cases h
def mX (ti:TI) (n:Nat):List (List D):=List.replicate n (gL ti.zero)
theorem aeQ (hg:Good P T) (hi:In w X G μ N a σ) {d:Nat} (hd:σ.H d=none) {t e:TypeId} {tt te:TI} (dP:T t=some tt) (ea:tt.desc = .slice e) (c8:T e=some te) {k1 k2:IntKind} {l c:Int} (h0:0<=l) (h1:l<=c) (h2:te.bytes * c<=281474976710656) (h3:c<=9223372036854775807)
  (hz:0 < te.size) (sM:(gL te.zero).length=te.size) :
  pc Mv X G N w μ a ((Instr.makeSlice t (.int k1 l) (.int k2 c)).run P w) (.own d 0 l.toNat) ⟨σ.env,bk σ.H d (.sl e te.size (mX te l.toNat))⟩:=by
 obtain⟨hu,i0,ma,eV,iF,mW,_⟩:=hg e te c8;have ht:=(hg t tt dP).1;rw[ea]at ht;rw[run_make (P:=P) w t e i0 te.zero ht ma mW k1 k2 l c h0 h1 (by rw[iF];exact h2) h3,eV];refine Vh (Mv:=Mv) hi hd e ⟨fun el bn=>?_,fun i j el d bn hd=>?_⟩ hz (size_madeCells _ _) (by simp[mX]) aa (by unfold maxLen;omega)
 .rw[List.eq_of_mem_replicate bn,sM]
 .unfold mX at bn;rw[List.getElem?_replicate]at bn;split at bn
  .rename_i aG;obtain rfl:=AI bn
   have hj:j < te.size:=by rw[<- sM];exact (BY.1 hd).1
   have tP:=AR (w:=w) (X:=XX X μ) te.zero
   have cY:te.zero.cells.size=te.size:=by rw[tP.1,sM]
   have Eb:j < te.zero.cells.size:=aa
   refine⟨te.zero.cells[j],?_,tP.2 j _ d (by simp[Eb]) hd⟩
   have hb:i * te.size+j < c.toNat * te.size:=by
    have:(i+1) * te.size<=c.toNat * te.size:=amB _ aa;rw[amJ]at this;omega
   have kQ:(i * te.size+j) % te.size=j:=by rw[Nat.mul_comm,Nat.mul_add_mod,Nat.mod_eq_of_lt hj]
   simp[madeCells,hb,cY,kQ];exact getElem!_pos te.zero.cells j Eb
  .cases bn
end
end Go.Av
namespace Go.Av
section
variable {P:Program} {T:Ty} {Mv X:Nat->Prop} {G:aB} {N:Fr} {w:World} {μ:Mu} {a:Act} {σ:St}
def xa (sz:Nat):Nat->List (Nat×AV)->Option (List (List D))
 | _,[]=>some []
 | k,(i,x) :: rest=>if i=k then match (jY x).bind nd with
   | some ds=>if ds.length=sz then (xa sz (k+1) rest).map (ds :: ·) else none
   | none=>none
  else none
theorem V0 (vs:List Value):∀ (n off:Nat) (arr:Array Value) (k:Nat),off+n+vs.length<=arr.size->
  ((vs.zipIdx n).foldl (fun cs (p:Value×Nat)=>cs.setIfInBounds (off+p.2) p.1) arr)[k]? = if off+n<=k/\k < off+n+vs.length then vs[k - (off+n)]? else arr[k]?:=by
 induction vs with
 | nil=>
  intro n off arr k _;simp only[List.zipIdx_nil,List.foldl_nil,am2];rw[if_neg aa]
 | cons v vs ih=>
  intro n off arr k hk;simp only[amo]at hk;rw[List.zipIdx_cons,List.foldl_cons,ih (n+1) off _ k (by simp;omega)];simp only[amo];by_cases h1:k=off+n
  .subst h1;rw[if_neg aa,if_pos aa];simp[Array.getElem?_setIfInBounds,show off+n < arr.size by omega]
  .by_cases h2:off+(n+1)<=k/\k < off+(n+1)+vs.length
   .rw[if_pos h2,if_pos aa]
    have:k - (off+n)=(k - (off+(n+1)))+1:=aa
    rw[this];rfl
   .rw[if_neg h2,if_neg aa];exact anw aa
theorem V1 (vs:List Value):∀ (n off:Nat) (arr:Array Value),((vs.zipIdx n).foldl (fun cs (p:Value×Nat)=>cs.setIfInBounds (off+p.2) p.1) arr).size=arr.size:=by
 induction vs with
 | nil=>intros;rfl
 | cons v vs ih=>intro n off arr;rw[List.zipIdx_cons,List.foldl_cons,ih];simp
theorem Rn {sz:Nat}:∀ (ps:List (Nat×AV)) (vs:List (Nat×Value)) (k:Nat) (els:List (List D)) (arr:Array Value),xa sz k ps=some els->vs.map (·.1)=ps.map (·.1)->
  (∀ (i:Nat) (p:Nat×AV) (v:Nat×Value),ps[i]? = some p->vs[i]? = some v->RV w X μ v.2 p.2)->(k+ps.length) * sz<=arr.size->
  ∃ lZ,Instr.fill (fun i=>some (i * sz,sz)) arr vs=some lZ/\lZ.size=arr.size/\(∀ idx,idx < k * sz->lZ[idx]? = arr[idx]?)/\els.length=ps.length/\(∀ el∈els,el.length=sz)/\
   ∀ (i j:Nat) (el:List D) (c:D),els[i]? = some el->el[j]? = some c->∃ u,lZ[(k+i) * sz+j]? = some u/\RD w (XX X μ) u c:=by
 intro ps
 induction ps with
 | nil=>
  intro vs k els arr h hv _ _
  cases vs with
  | cons _ _=>simp at hv
  | nil=>
   simp only[xa,IT]at h;subst h;exact⟨arr,rfl,rfl,fun _ _=>rfl,rfl,ak,ak⟩
 | cons p ps ih=>
  intro vs k els arr h hv hr hs;obtain⟨i,x⟩:=p
  cases vs with
  | nil=>simp at hv
  | cons v vs=>
   obtain⟨i',u⟩:=v;simp only[amE,anV]at hv;obtain⟨rfl,hv⟩:=hv;simp only[xa]at h;split at h
   case isFalse=>cases h
   rename_i D8;subst D8;split at h
   case h_2=>cases h
   rename_i ds n5;split at h
   case isFalse=>cases h
   rename_i hlen;obtain⟨pX,zw,rfl⟩:=AS.1 h;obtain⟨cs,cY,dY⟩:=amy.1 n5;have hp:=CR (hr 0 (i',x) (i',u) rfl rfl) cY;rw[r8 dY]at hp
   have eu:u.cells.size=sz:=by have:=hp.size;simp at this;omega
   have HR:∀ (j:Nat) (v:Value) (c:D),u.cells[j]? = some v->ds[j]? = some c->RD w (XX X μ) v c:=fun j v c hv hc=>(hp.at_ j v (.d c) hv (by rw[amm,hc];rfl)).data
   have k9:i' * sz+sz<=arr.size:=by
    simp only[amo]at hs;have:(i'+1) * sz<=(i'+(ps.length+1)) * sz:=amB _ aa;rw[amJ]at this;omega
   let mD:=(u.cells.zipIdx.foldl (fun cs (p:Value×Nat)=>cs.setIfInBounds (i' * sz+p.2) p.1) arr)
   have DY:mD=((u.cells.toList.zipIdx 0).foldl (fun cs (p:Value×Nat)=>cs.setIfInBounds (i' * sz+p.2) p.1) arr):=by
    show Array.foldl _ _ _=_;rw[<- Array.foldl_toList,Array.toList_zipIdx]
   have HX:mD.size=arr.size:=by rw[DY];exact V1 _ _ _ _
   have Hy:∀ k,mD[k]? = if i' * sz<=k/\k < i' * sz+sz then u.cells[k - i' * sz]? else arr[k]?:=by
    intro k;rw[DY,V0 _ 0 _ _ _ (by simp[eu];omega)];simp[eu]
   obtain⟨lZ,hf,xQ,hold,hlen',LJ,mQ⟩:=ih vs (i'+1) pX mD zw hv (fun i p v h1 h2=>hr (i+1) p v (by simpa using h1) (by simpa using h2)) (by rw[HX];simp only[amo]at hs;rw[show i'+1+ps.length=i'+(ps.length+1) by omega];exact hs);refine⟨lZ,?_,xQ.trans HX,fun idx HA=>?_,by simp[hlen'],fun el bn=>?_,fun i j el c hi hj=>?_⟩
   .simp only[Instr.fill]
    have:¬ (u.cells.size≠sz\/i' * sz+u.cells.size > arr.size):=aa
    simp only[eu,ne_eq,not_true_eq_false,decide_false,anz,decide_eq_true_eq];rw[if_neg aa];exact hf
   .rw[hold idx (by rw[amJ];omega),Hy,if_neg aa]
   .rcases amx.1 bn with rfl | h
    .exact hlen
    .exact LJ el h
   .cases i with
    | zero=>
     simp at hi;subst hi
     have dG:j < sz:=by rw[<- hlen];exact (BY.1 hj).1
     have S9:j < u.cells.size:=aa
     refine⟨u.cells[j],?_,HR j _ c (by simp[S9]) hj⟩;rw[anj,hold _ (by rw[amJ];omega),Hy,if_pos aa];simp[S9]
    | succ i=>
     simp at hi;have:=mQ i j el c hi hj
     rwa [show i'+1+i=i'+(i+1) by omega]at this
theorem ZA (hg:Good P T) (hi:In w X G μ N a σ) {d:Nat} (hd:σ.H d=none) {t e:TypeId} {tt te:TI} (dP:T t=some tt) (ea:tt.desc = .slice e) (c8:T e=some te) {len:Nat} {ps:List (Nat×AV)} {vs:Array (Nat×Value)} {els:List (List D)}
  (abX:xa te.size 0 ps=some els) (hlen:ps.length=len) (hv:vs.toList.map (·.1)=ps.map (·.1)) (hr:∀ (i:Nat) (p:Nat×AV) (v:Nat×Value),ps[i]? = some p->vs[i]? = some v->RV w X μ v.2 p.2)
  (hz:0 < te.size) (Na:len * te.size<=16777216) :
  pc Mv X G N w μ a ((Instr.buildSlice t len vs).run P w) (.own d 0 len) ⟨σ.env,bk σ.H d (.sl e te.size els)⟩:=by
 have hu:=hg.dI (w:=w) dP;have bp:=hg.sizeOf (w:=w) c8;have EN:=hg.zero (w:=w) c8
 obtain⟨lZ,hf,xQ,_,hl,dY,mQ⟩:=Rn (w:=w) (X:=X) (μ:=μ) (sz:=te.size) ps vs.toList 0 els ((Array.range (len * te.size)).map ((if len * te.size=0 then #[] else te.zero.cells)[· % (if len * te.size=0 then #[] else te.zero.cells).size]!)) abX hv
  (fun i p v h1 h2=>hr i p v h1 (by rwa [ams]at h2)) (by simp[hlen])
 have:=Vh (Mv:=Mv) hi hd e (cur:=lZ) (sz:=te.size) (n:=len) (cap:=len) (els:=els) ⟨dY,fun i j el c h1 h2=>by simpa using mQ i j el c h1 h2⟩ hz (by rw[xQ];simp) aa (amh _) (by
  have:len<=len * te.size:=Nat.le_mul_of_pos_right _ hz
  unfold maxLen;omega)
 have hn:¬ len * te.size > 2 ^ 24:=aa
 have e0:∀ f:Nat->Value,(Array.range 0).map f = #[]:=fun f=>by apply Array.ext<;>simp
 by_cases h0:len * te.size=0
 .simp only[h0,if_true,e0]at hf;simp only[Instr.buildSlice,Sem.run_bind,hu,ea,Result.andThen_ok,bp,hn,if_false,h0,if_true,Sem.run_pure,e0];simp[hf,newRow];exact this
 .simp only[h0,if_false]at hf;simp only[Instr.buildSlice,Sem.run_bind,hu,ea,Result.andThen_ok,bp,hn,if_false,h0,Sem.run_pure,EN];simp[hf,newRow];exact this
def Bk (pl:Nat->Option (Nat×Nat)):List AV->List (Nat×AV)->Option (List AV)
 | cs,[]=>some cs
 | cs,(i,x) :: rest=>match pl i,jY x with
  | some (off,sz),some xs=>if xs.length=sz/\off+sz<=cs.length then Bk pl (cs.take off ++ xs ++ cs.drop (off+sz)) rest else none
  | _,_=>none
theorem aaX {pl:Nat->Option (Nat×Nat)}:∀ (ps:List (Nat×AV)) (vs:List (Nat×Value)) (cs Dl:List AV) (arr:Array Value),Bk pl cs ps=some Dl->vs.map (·.1)=ps.map (·.1)->
  (∀ (i:Nat) (p:Nat×AV) (v:Nat×Value),ps[i]? = some p->vs[i]? = some v->RV w X μ v.2 p.2)->C3 w X μ arr cs->∃ lZ,Instr.fill pl arr vs=some lZ/\C3 w X μ lZ Dl:=by
 intro ps
 induction ps with
 | nil=>
  intro vs cs Dl arr h hv _ hp
  cases vs with
  | cons _ _=>simp at hv
  | nil=>
   simp only[Bk,IT]at h;subst h;exact⟨arr,rfl,hp⟩
 | cons p ps ih=>
  intro vs cs Dl arr h hv hr hp;obtain⟨i,x⟩:=p
  cases vs with
  | nil=>simp at hv
  | cons v vs=>
   obtain⟨i',u⟩:=v;simp only[amE,anV]at hv;obtain⟨rfl,hv⟩:=hv;simp only[Bk]at h;split at h
   case h_2=>cases h
   rename_i off sz xs eu hxs;split at h
   case isFalse=>cases h
   rename_i hc;obtain⟨jk,k9⟩:=hc;have Tu:=CR (hr 0 (i',x) (i',u) rfl rfl) hxs
   have Nn:u.cells.size=sz:=by rw[Tu.size,jk]
   have ak4:arr.size=cs.length:=hp.size
   let mD:=(u.cells.zipIdx.foldl (fun cs (p:Value×Nat)=>cs.setIfInBounds (off+p.2) p.1) arr)
   have DY:mD=((u.cells.toList.zipIdx 0).foldl (fun cs (p:Value×Nat)=>cs.setIfInBounds (off+p.2) p.1) arr):=by
    show Array.foldl _ _ _=_;rw[<- Array.foldl_toList,Array.toList_zipIdx]
   have HX:mD.size=arr.size:=by rw[DY];exact V1 _ _ _ _
   have Hy:∀ k,mD[k]? = if off<=k/\k < off+sz then u.cells[k - off]? else arr[k]?:=by
    intro k;rw[DY,V0 _ 0 _ _ _ (by simp[Nn];omega)];simp[Nn]
   have jv:C3 w X μ mD (cs.take off ++ xs ++ cs.drop (off+sz)):=by
    refine⟨by rw[HX];simp;omega,fun j v c sI hc=>?_⟩;rw[Hy]at sI
    have jD:(List.take off cs).length=off:=by simp;omega
    rw[am4,anG,jD]at hc;split at hc
    .rename_i hj;rw[if_neg aa]at sI;rw[amv,if_pos hj]at hc;exact hp.at_ j v c sI hc
    .rename_i hj;rw[anG,jk]at hc;split at hc
     .rename_i qJ;rw[if_pos aa]at sI;exact Tu.at_ _ v c sI hc
     .rename_i qJ;rw[if_neg aa]at sI;rw[amM]at hc;refine hp.at_ j v c sI ?_;rw[<- hc];congr 1;omega
   obtain⟨lZ,hf,hp'⟩:=ih vs _ Dl mD h hv (fun i p v h1 h2=>hr (i+1) p v (by simpa using h1) (by simpa using h2)) jv;refine⟨lZ,?_,hp'⟩;simp only[Instr.fill,eu,Nn,ne_eq,not_true_eq_false,decide_false,anz,decide_eq_true_eq];rw[if_neg aa];exact hf
def OQ (T:Ty) (t:TypeId):Option (Nat->Option (Nat×Nat)):=match T t with
 | some ti=>match ti.desc with
  | .struct fs=>if fs.toList.all (fun f=>(T f.type).isSome) then some fun i=>(fs[i]?).bind fun (f:Field)=>(T f.type).map fun tf=>(f.offset,tf.size) else none
  | .array _ e=>(T e).map fun te=>fun i=>some (i * te.size,te.size)
  | _=>none
 | none=>none
def Gh (T:Ty) (t:TypeId) (ps:List (Nat×AV)):lN:=match T t,OQ T t with
 | some ti,some pl=>(Bk pl ((gL ti.zero).map .d) ps).map fun cs=>(True,rU cs)
 | _,_=>none
theorem run_places (hg:Good P T):∀ (l:List Field),l.all (fun f=>(T f.type).isSome)=true->
  (l.mapM (m:=Sem) fun (f:Field)=>do pure (f.offset,<- Go.sizeOf f.type)).run P w = .ok (l.map fun (f:Field)=>(f.offset,((T f.type).map (·.size)).getD 0)) w:=by
 intro l
 induction l with
 | nil=>intro _;simp
 | cons f l ih=>
  intro h;simp only[List.all_cons,OF]at h;obtain⟨ti,Ni⟩:=am9.1 h.1;simp only[List.mapM_cons,Sem.run_bind,hg.sizeOf Ni,Result.andThen_ok,Sem.run_pure,ih h.2,amE,Ni,amI,anM]
theorem Zz (hg:Good P T) {t:TypeId} {ps:List (Nat×AV)} {vs:Array (Nat×Value)} {c:Prop} {x:AV} (h:Gh T t ps=some (c,x)) (hv:vs.toList.map (·.1)=ps.map (·.1))
  (hr:∀ (i:Nat) (p:Nat×AV) (v:Nat×Value),ps[i]? = some p->vs[i]? = some v->RV w X μ v.2 p.2):∃ u,(Instr.build t vs).run P w = .ok u w/\RV w X μ u x:=by
 unfold Gh at h;split at h
 case h_2=>cases h
 rename_i ti pl ht eu;obtain⟨cs,cY,he⟩:=AS.1 h;simp only[amj]at he;obtain⟨_,rfl⟩:=he;have hz:=AR (w:=w) (X:=XX X μ) ti.zero;obtain⟨lZ,hf,hp⟩:=aaX (w:=w) (X:=X) (μ:=μ) ps vs.toList _ cs ti.zero.cells cY hv (fun i p v h1 h2=>hr i p v h1 (by rwa [ams]at h2)) ⟨by simpa using hz.1,RV.Cw hz.2⟩;refine⟨.agg lZ,?_,E3 (.agg hp.size hp.at_)⟩;unfold OQ at eu;rw[ht]at eu;dsimp only at eu;split at eu
 .rename_i fs xB;split at eu
  .rename_i dY;obtain rfl:=AI eu;have hm:=run_places (P:=P) (w:=w) hg fs.toList dY
   have acT:(fun (i:Nat)=>((fs.toList.map fun (f:Field)=>(f.offset,((T f.type).map (·.size)).getD 0)).toArray)[i]?)=fun (i:Nat)=>(fs[i]?).bind fun (f:Field)=>(T f.type).map fun tf=>(f.offset,tf.size):=by
    funext i;simp only[List.getElem?_toArray,amm,ams]
    cases hi:fs[i]? with
    | none=>rfl
    | some f=>
     have oZ:f∈fs.toList:=by rw[<- ams]at hi;exact amZ hi
     obtain⟨tf,HY⟩:=am9.1 (ane.1 dY f oZ);simp[HY]
   simp only[Instr.build,Sem.run_bind,hg.zero ht,hg.dI ht,xB,Result.andThen_ok,Array.mapM_eq_mapM_toList,map_eq_pure_bind,hm,Sem.run_pure];rw[<- acT]at hf;simp only[hf,Sem.run_pure]
  .cases eu
 .rename_i n e he;obtain⟨te,c8,eu⟩:=AS.1 eu;subst eu;simp[Instr.build,Sem.run_bind,hg.zero ht,hg.dI ht,he,Result.andThen_ok,hg.sizeOf c8,hf]
 .cases eu
structure uc (w:World) (X:Nat->Prop) (μ:Mu) (sz:Nat) (u:Value) (els:List (List D)):Prop where
 len:∀ el∈els,el.length=sz
 at_:(els=[]/\∃ (ad:Option Addr) (cap:Nat),u = .slice ad 0 cap)\/∃ (ad:Addr) (cap:Nat) (news:List Value),u = .slice (some ad) els.length cap/\news.length=els.length * sz/\(∀ (j:Nat) (v:Value),news[j]? = some v->w.cell? (ad.add j)=some v)/\(∀ v∈news,v.oneCell'=true)/\
  ∀ (i j:Nat) (el:List D) (c:D),els[i]? = some el->el[j]? = some c->∃ v,news[i * sz+j]? = some v/\RD w (XX X μ) v c
theorem uc.Vs {sz:Nat} {els:List (List D)} {b off cap:Nat} (f:Nat->Nat->Value) (hl:∀ el∈els,el.length=sz) (hz:0 < sz) (h1:∀ el∈els,∀ c∈el,D.one c=true)
  (fJ:∀ i j,i < els.length->j < sz->w.cell? ⟨b,off+(i * sz+j),none⟩=some (f i j)) (hr:∀ (i j:Nat) (el:List D) (c:D),els[i]? = some el->el[j]? = some c->RD w (XX X μ) (f i j) c) :
  uc w X μ sz (.slice (some ⟨b,off,none⟩) els.length cap) els:=by
 refine⟨hl,.inr ⟨_,_,(List.range (els.length * sz)).map fun k=>f (k / sz) (k % sz),rfl,ak,fun j v hv=>?_,fun v hv=>?_,fun i j el c hi hj=>?_⟩⟩
 .rw[amm]at hv;obtain⟨k,hk,rfl⟩:=AS.1 hv;rw[List.getElem?_range]at hk
  .obtain rfl:=AI hk
   have acu:j < els.length * sz:=by
    rcases anv j (els.length * sz)with h | h
    .exact h
    .rw[anD (by simpa using h)]at hv;cases hv
   have h2:j / sz < els.length:=(Nat.div_lt_iff_lt_mul hz).2 acu;have h3:j % sz < sz:=Nat.mod_lt _ hz;rw[addr_add,<- fJ (j / sz) (j % sz) h2 h3,Nat.div_add_mod']
  .rcases anv j (els.length * sz)with h | h
   .exact h
   .rw[anD (by simpa using h)]at hv;cases hv
 .obtain⟨k,hk,rfl⟩:=amS.1 hv;have hk:=anA.1 hk;have h2:k / sz < els.length:=(Nat.div_lt_iff_lt_mul hz).2 hk
  have h3:k % sz < (els[k / sz]).length:=by rw[hl _ (By h2)];exact Nat.mod_lt _ hz
  exact (hr (k / sz) (k % sz) _ _ (AT h2) (AT h3)).Cz (h1 _ (By h2) _ (By h3))
 .have fK:=(BY.1 hi).1;have bn:el.length=sz:=hl _ (amZ hi)
  have dG:j < sz:=by rw[<- bn];exact (BY.1 hj).1
  have hb:i * sz+j < els.length * sz:=by
   have:(i+1) * sz<=els.length * sz:=amB _ fK;rw[amJ]at this;omega
  have e1:(i * sz+j) / sz=i:=by rw[Nat.mul_comm,Nat.mul_add_div hz,Nat.div_eq_of_lt dG];rfl
  have e2:(i * sz+j) % sz=j:=by rw[Nat.mul_comm,Nat.mul_add_mod,Nat.mod_eq_of_lt dG]
  refine⟨f i j,?_,hr i j el c hi hj⟩;rw[amm,List.getElem?_range hb];simp[e1,e2]
def nI (H:Heap) (r:Nat):AV->Option (List (List D))
 | .d (.sl _ els)=>some els
 | .own q off n=>if q=r then none else match H q with
  | some (.sl _ _ els)=>if off+n<=els.length then some ((els.drop off).take n) else none
  | _=>none
 | _=>none
theorem Fc (hs:eT w X μ σ.H) {r sz:Nat} {u:Value} {x:AV} {els:List (List D)} (hx:RV w X μ u x) (h:nI σ.H r x=some els) (hl:∀ el∈els,el.length=sz) (hz:0 < sz) (h1:∀ el∈els,∀ c∈el,D.one c=true):uc w X μ sz u els:=by
 unfold nI at h;split at h
 .rename_i k0 aat;obtain rfl:=AI h
  rcases hx.data.sW with⟨rfl,rfl,_⟩ | ⟨ad,cap,rfl,_,_,_,hr⟩
  .exact⟨ak,.inl ⟨rfl,_,_,rfl⟩⟩
  .rcases hr with rfl | ⟨b,off,JC,f,rfl,hX,ka,dY,fJ,mR⟩
   .exact⟨ak,.inl ⟨rfl,_,_,rfl⟩⟩
   .by_cases he:aat=[]
    .subst he;exact⟨ak,.inl ⟨rfl,_,_,rfl⟩⟩
    .obtain⟨el,bn⟩:=List.exists_mem_of_ne_nil _ he
     have:JC=sz:=by rw[<- dY el bn,hl el bn]
     subst this;exact uc.Vs f hl hz h1 fJ mR
 .rename_i q off n;split at h
  .cases h
  .split at h
   .rename_i ty szq Gx hq;split at h
    .rename_i hle;obtain rfl:=AI h;obtain⟨m,hm,hh⟩:=hx.ml;obtain⟨m',cL,ok⟩:=hs.rows q _ hq;rw[hm]at cL;obtain rfl:=AI cL
     rcases hh with⟨hb,rfl,rfl,rfl⟩ | ⟨b,hb,rfl,k8⟩
     .exact⟨ak,.inl ⟨ak,_,_,rfl⟩⟩
     .cases ok with
      | nil br _=>rw[br]at hb;cases hb
      | sl br bp hh cY hn iq wg hzz hr=>
       rename_i b' cur;rw[hb]at br;obtain rfl:=AI br;subst bp;by_cases h0:n=0
       .subst h0;exact⟨ak,.inl ⟨ak,_,_,rfl⟩⟩
       .have hlen:((Gx.drop off).take n).length=n:=by simp;omega
        have oZ:∀ el∈(Gx.drop off).take n,el∈Gx:=fun el bn=>am3 (amr bn)
        have bq:(Gx.drop off).take n≠[]:=by intro e;rw[e]at hlen;simp at hlen;omega
        obtain⟨KP,SX⟩:=List.exists_mem_of_ne_nil _ bq
        have adb:sz=m.sz:=by rw[<- hl KP SX,wg KP (oZ KP SX)]
        subst adb
        have:=uc.Vs (w:=w) (X:=X) (μ:=μ) (b:=b) (off:=off * m.sz) (cap:=m.cap - off) (fun i j=>cur.getD ((off+i) * m.sz+j) undef) hl hz h1 (fun i j hi hj=>by
         rw[hlen]at hi
         have aG:(off+i) * m.sz+j < cur.size:=by
          rw[cY];have:(off+i+1) * m.sz<=m.cap * m.sz:=amB _ aa;rw[amJ]at this;omega
         have e1:off * m.sz+(i * m.sz+j)=(off+i) * m.sz+j:=by rw[amJ];omega
         rw[e1,cell_of_row w b _ cur ty (0,0) hh]
         simp[amg,aG]) (fun i j el c bn hc=>by
         rw[amv]at bn;split at bn
         .rw[amM]at bn;obtain⟨u',iR,bQ⟩:=hr (off+i) j el c bn hc;simpa[amg,iR]using bQ
         .cases bn)
        rwa [hlen]at this
    .cases h
   .cases h
 .cases h
theorem WO {t ty e:TypeId} {tt te:TI} (hg:Good P T) (dP:T t=some tt) (ea:tt.desc = .slice e) (c8:T e=some te) (base ad:Option Addr) (n cap c:Nat) (hn:n<=cap) :
  (Builtin.append_ #[t,t] ty #[.slice base n cap,.slice ad 0 c]).run P w = .ok (.slice base n cap) w:=by
 have hu:=hg.dI (w:=w) dP;have bp:=hg.sizeOf (w:=w) c8;cases ad<;>cases base<;>simp[Builtin.append_,hu,ea,bp,Builtin.lenOf,hn,Builtin.firstCells,loadCells,loadCellsFrom,storeCells]
def Rel (w:World) (X:Nat->Prop) (μ:Mu) (sz:Nat) (l:List Value) (els:List (List D)):Prop:=
 ∀ (i j:Nat) (el:List D) (c:D),els[i]? = some el->el[j]? = some c->∃ v,l[i * sz+j]? = some v/\RD w (XX X μ) v c
theorem Rel.append {sz:Nat} {l l':List Value} {A B:List (List D)} (h:Rel w X μ sz l A) (hl:l.length=A.length * sz) (hA:∀ el∈A,el.length=sz) (h':Rel w X μ sz l' B):Rel w X μ sz (l ++ l') (A ++ B):=by
 intro i j el c hi hj;rw[anG]at hi;split at hi
 .rename_i aG;obtain⟨v,hv,hr⟩:=h i j el c hi hj;exact⟨v,by rw[anq (BY.1 hv).1];exact hv,hr⟩
 .rename_i qH;obtain⟨v,hv,hr⟩:=h' _ j el c hi hj;refine⟨v,?_,hr⟩
  have e1:(i - A.length) * sz+j=i * sz+j - l.length:=by
   have:A.length * sz<=i * sz:=amB _ aa;rw[hl,Nat.sub_mul];omega
  rw[List.getElem?_append_right,<- e1]
  .exact hv
  .have:A.length * sz<=i * sz:=amB _ aa;omega
theorem Rel.more {sz:Nat} {l l':List Value} {A:List (List D)} (h:Rel w X μ sz l A):Rel w X μ sz (l ++ l') A:=by
 intro i j el c hi hj;obtain⟨v,hv,hr⟩:=h i j el c hi hj;exact⟨v,by rw[anq (BY.1 hv).1];exact hv,hr⟩
theorem Kd (hg:Good P T) (hi:In w X G μ N a σ) {r n:Nat} (gp:Mv r) {t ty e:TypeId} {tt te:TI} (dP:T t=some tt) (ea:tt.desc = .slice e) (c8:T e=some te) {els news:List (List D)} {u v:Value}
  (hH:σ.H r=some (.sl e te.size els)) (hle:n<=els.length) (hu:RV w X μ u (.own r 0 n)) (hn:uc w X μ te.size v news) (hz:0 < te.size) (sM:(gL te.zero).length=te.size)
  (xv:n+news.length<=maxLen) (hb:(n+news.length) * te.bytes<=140737488355328) :
  pc Mv X G N w μ a ((Builtin.append_ #[t,t] ty #[u,v]).run P w) (.own r 0 (n+news.length)) ⟨eJ r σ.env,bk (eK r σ.H) r (.sl e te.size (els.take n ++ news))⟩:=by
 obtain⟨m,hm,hh⟩:=hu.ml;obtain⟨m',cL,ok⟩:=hi.bx.rows r _ hH;rw[hm]at cL;obtain rfl:=AI cL;obtain⟨xR,i0,ma,eV,iF,mW,_⟩:=hg e te c8;have ht:=(hg t tt dP).1;rw[ea]at ht;have tP:=AR (w:=w) (X:=XX X μ) te.zero
 have LW:te.zero.cells.size=te.size:=by rw[tP.1,sM]
 have zH:∀ el∈els,el.length=te.size:=by
  cases ok with
  | nil=>simp
  | sl _ _ _ _ _ _ hl=>exact hl
 have Eh:∀ el∈els.take n ++ news,el.length=te.size:=by
  intro el bn
  rcases amq.1 bn with h | h
  .exact zH el (amr h)
  .exact hn.len el h
 by_cases bq:news=[]
 .-- nothing is appended
  subst bq
  have hv:∃ ad c,v = .slice ad 0 c:=by
   rcases hn.at_ with⟨_,ad,cap,rfl⟩ | ⟨ad,cap,iy,rfl,_⟩
   .exact⟨_,_,rfl⟩
   .exact⟨_,_,rfl⟩
  obtain⟨ad,c,rfl⟩:=hv
  have qg:∃ base c,u = .slice base n c/\n<=c:=by
   rcases hh with⟨_,rfl,_,rfl⟩ | ⟨b,_,rfl,k8⟩
   .exact⟨_,_,rfl,amh _⟩
   .exact⟨_,_,rfl,aa⟩
  obtain⟨base,c',EG,MQ⟩:=qg;have dK:=WO (P:=P) (w:=w) (ty:=ty) hg dP ea c8 base ad n c' c MQ;rw[EG,dK]
  obtain⟨aR,bd⟩:=hi.move (Mv:=Mv) (w':=w) (m':=m) hm gp (amh _) rfl rfl rfl (fun _ _ _=>rfl) (fun b hb=>.inr hb) (row:=.sl e te.size (els.take n ++ [])) fun ev=>by
   rw[am0]
   cases ok with
   | nil e9 e7=>rw[List.take_nil];exact .nil e9 e7
   | sl g1 g2 g3 g4 g5 g6 g7 g8 g9=>
    refine .sl g1 g2 g3 g4 (by simp;omega) g6 (fun el bn=>g7 el (amr bn)) g8 fun i j el c bn hc=>?_;rw[amv]at bn;split at bn
    .obtain⟨v,hv,bQ⟩:=g9 i j el c bn hc;exact⟨v,hv,bQ.ev ev⟩
    .cases bn
  refine⟨_,_,_,rfl,aR,.own (m:=m) (by simp[eG]) ?_,bd⟩;rw[<- EG];exact hh
 .have MT:0 < news.length:=anc.2 bq
  rcases hn.at_ with⟨h,_⟩ | ⟨ad,cap,iy,rfl,fz,xL,p6,lV⟩
  .exact absurd h bq
  have Na:n+news.length<=9223372036854775807:=by simp only[maxLen]at xv;omega
  have E7:∀ (xs:List Value) (gA:Nat),xs.length=n * te.size->Rel w X μ te.size xs (els.take n)->n+news.length<=gA->gA<=maxLen->
    pc Mv X G N w μ a (.ok (.slice (some ⟨w.heap.size,0,none⟩) (n+news.length) gA) (w.drew.alloc (.cells (xs.toArray ++ iy.toArray ++ Builtin.zeroCells te.zero.cells (gA - (n+news.length))) e)))
     (.own r 0 (n+news.length)) ⟨eJ r σ.env,bk (eK r σ.H) r (.sl e te.size (els.take n ++ news))⟩:=by
   intro xs gA jk rO eU gv
   have lS:cX w (w.drew.alloc (.cells (xs.toArray ++ iy.toArray ++ Builtin.zeroCells te.zero.cells (gA - (n+news.length))) e)):=by
    have h1:=cX.alloc w.drew (.cells (xs.toArray ++ iy.toArray ++ Builtin.zeroCells te.zero.cells (gA - (n+news.length))) e);exact⟨h1.size,h1.os,h1.tape,h1.output,h1.same⟩
   have bp:(xs.toArray ++ iy.toArray ++ Builtin.zeroCells te.zero.cells (gA - (n+news.length))).size=gA * te.size:=by
    simp only[Array.size_append,ans,size_zeroCells,LW,jk,fz,<- amJ];congr 1;omega
   obtain⟨aR,bd⟩:=hi.move (Mv:=Mv) (w':=w.drew.alloc (.cells (xs.toArray ++ iy.toArray ++ Builtin.zeroCells te.zero.cells (gA - (n+news.length))) e)) (m':=⟨some w.heap.size,te.size,gA⟩) hm gp lS.size lS.os lS.tape lS.output
    (fun k hk _=>lS.same k hk) (fun b hb=>by simp at hb;omega) (row:=.sl e te.size (els.take n ++ news)) fun ev=>by
     refine .sl rfl rfl (by simpa using heap_alloc_new w.drew (.cells (xs.toArray ++ iy.toArray ++ Builtin.zeroCells te.zero.cells (gA - (n+news.length))) e)) bp (by simp;omega) gv Eh hz fun i j el c hi hj=>?_;have hrel:=((rO.append (by rw[jk,amw,anW hle]) (fun el bn=>zH el (amr bn)) lV).more (l':=(Builtin.zeroCells te.zero.cells (gA - (n+news.length))).toList)) i j el c hi hj;obtain⟨v,hv,bQ⟩:=hrel;refine⟨v,?_,bQ.ev ev⟩;rw[<- ams];simpa using hv
   exact⟨_,_,_,rfl,aR,.own (m:=⟨some w.heap.size,te.size,gA⟩) (by simp[eG]) (.inr ⟨w.heap.size,rfl,ak,by simpa using eU⟩),bd⟩
  rcases hh with⟨iX,rfl,_,rfl⟩ | ⟨b,iX,rfl,k8⟩
  .have hr:=run_append_nil (P:=P) w t ty e i0 te.zero ht ma mW ad news.length cap iy (by rw[fz,eV]) xL MT aa (by rw[iF];simp only[amR]at hb;omega);rw[hr];have:=E7 [] (grownCap w news.length 0 e) ak (by intro i j el c hi;simp at hi) (by have:=grownCap_ge w news.length 0 e;omega) (grownCap_le_maxLen w news.length 0 e (by unfold maxLen;omega));simpa using this
  .cases ok with
   | nil br _=>rw[br]at iX;cases iX
   | sl br bp p4 cY lf iq hl ka hr=>
    rename_i b' cur;rw[iX]at br;obtain rfl:=AI br
    have LQ:n<=m.cap:=aa
    have hmul:n * te.size<=m.cap * te.size:=amB _ LQ
    have jk:(cur.toList.take (n * te.size)).length=n * te.size:=by rw[amw,amK,cY,anW hmul]
    have rO:Rel w X μ te.size (cur.toList.take (n * te.size)) (els.take n):=by
     intro i j el c bn hc;rw[amv]at bn;split at bn
     .rename_i aR;obtain⟨v,hv,bQ⟩:=hr i j el c bn hc;have vY:el.length=te.size:=hl _ (amZ bn)
      have hj:j < te.size:=by rw[<- vY];exact (BY.1 hc).1
      refine⟨v,?_,bQ⟩;rw[amv,if_pos]
      .simpa using hv
      .have:(i+1) * te.size<=n * te.size:=amB _ aR;rw[amJ]at this;omega
     .cases bn
    by_cases uK:n+news.length<=m.cap
    .have k9:n * te.size+iy.length<=cur.size:=by rw[fz,cY,<- amJ];exact amB _ uK
     have dK:=run_append_room (P:=P) w t ty e i0 ht ma b n m.cap cur p4 ad news.length cap iy (by rw[fz,eV]) xL p6 uK (by rw[eV];exact k9);simp only[anJ,Nat.sub_zero];rw[dK,eV]
     obtain⟨aR,bd⟩:=hi.move (Mv:=Mv) (w':=w.setRow b (cur.toList.take (n * te.size) ++ iy ++ cur.toList.drop (n * te.size+iy.length)).toArray) (m':=m) hm gp ak rfl rfl rfl
      (fun k hk Eo=>setRow_other w b k _ fun e'=>Eo (by rw[iX,e'])) (fun b hb=>.inr hb) (row:=.sl e te.size (els.take n ++ news)) fun ev=>by
       refine .sl iX bp (setRow_heap w b cur _ e _ p4) ?_ (by simp;omega) iq Eh hz fun i j el c hi hj=>?_
       .simp only[ans,amp,amw,amF,amK];omega
       .obtain⟨v,hv,bQ⟩:=((rO.append (by rw[jk,amw,anW hle]) (fun el bn=>zH el (amr bn)) lV).more (l':=cur.toList.drop (n * te.size+iy.length))) i j el c hi hj;exact⟨v,by rw[<- ams];simpa using hv,bQ.ev ev⟩
     refine⟨_,_,_,rfl,aR,.own (m:=m) (by simp[eG]) (.inr ⟨b,iX,ak,by simpa using uK⟩),bd⟩
    .have dK:=run_append_grow (P:=P) w t ty e i0 te.zero ht ma mW ⟨b,0,none⟩ n m.cap (cur.toList.take (n * te.size)) (by rw[jk,eV]) (fun j v hv=>by
      rw[addr_add,cell_of_row w b _ cur e (0,0) p4];rw[amv]at hv;split at hv
      .simpa using hv
      .cases hv) ad news.length cap iy (by rw[fz,eV]) xL aa aa (by rw[iF];exact growslice_fits aa hb)
     simp only[anJ,Nat.sub_zero];rw[dK];exact E7 _ _ jk rO (grownCap_ge _ _ _ _) (grownCap_le_maxLen w _ _ e xv)
end
