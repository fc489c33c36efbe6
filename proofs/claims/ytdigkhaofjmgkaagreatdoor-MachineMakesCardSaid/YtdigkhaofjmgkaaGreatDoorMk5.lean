/-
  Texts that belong together,in one file: Av8m.
-/
import Derived.Test.YtdigkhaofjmgkaaGreatDoorMk4
import Derived.MapKept
set_option linter.unusedSectionVars false
set_option linter.unusedSimpArgs false
set_option linter.unusedVariables false
namespace Go.Av
open Go.MapKept
def fk:Value->Value->Bool
 | .int _ a,.int _ b=>a == b
 | .string a,.string b=>a == b
 | .bool a,.bool b=>a == b
 | _,_=>false
def gZ:TypeDesc->Value->Bool
 | .bool,.bool _=>true
 | .int k,.int k' _=>decide (k'=k)
 | .string,.string _=>true
 | _,_=>false
def qB (k:Value) (ents:List (Value×D)):Option Nat:=ents.findIdx? fun p=>fk k p.1
def ab4 (k:Value) (ents:List (Value×D)):Option D:=(ents.find? fun p=>fk k p.1).map (·.2)
def n9 (k:Value) (x:D) (ents:List (Value×D)):List (Value×D):=match ents.findIdx? fun p=>fk k p.1 with
 | some j=>ents.set j (k,x)
 | none=>ents ++ [(k,x)]
theorem rG {d:TypeDesc} {v:Value} (h:gZ d v=true):IsKey d v:=by
 cases d<;>cases v<;>simp_all [gZ,IsKey]
theorem aeZ {d:TypeDesc} {a b:Value} (ha:gZ d a=true) (hb:gZ d b=true):Instr.sameNow d a b=some (fk a b):=by
 cases d<;>cases a<;>simp [gZ] at ha<;>cases b<;>simp [gZ] at hb<;>simp [fk,Instr.sameNow,ha,hb]
theorem Dl {d:TypeDesc} {a b:Value} (ha:gZ d a=true) (hb:gZ d b=true) (h:fk a b=true):b=a:=by
 obtain ⟨r,h1,h2⟩:=sameNow_of_keys (rG ha) (rG hb);rw [aeZ ha hb] at h1;obtain rfl:=Option.some.inj h1;have:=h2.1 h
 first | exact this | exact this.symm
theorem Bt {d:TypeDesc} {k:Value} (hk:gZ d k=true):∀ (l:List MapEntry) (ents:List (Value×D)) (i:Nat),l.map (·.key)=ents.map (·.1)->(∀ p∈ents,gZ d p.1=true)->
  Instr.findNow d k l i=some ((qB k ents).map fun j=>(i+j,((l[j]?).map (·.val)).getD undef))
 | [],[],_,_,_=>rfl
 | [],_ :: _,_,h,_=>by simp at h
 | _ :: _,[],_,h,_=>by simp at h
 | e :: l,p :: ents,i,h,ho=>by
  simp only [List.map_cons,List.cons.injEq] at h;obtain ⟨h1,h2⟩:=h;have hp:=ho p (by simp);have hs:=aeZ hk hp;rw [<- h1] at hs;simp only [Instr.findNow,hs];have ih:=Bt hk l ents (i+1) h2 fun q hq=>ho q (by simp [hq]);unfold qB at ih ⊢;rw [List.findIdx?_cons]
  cases hq:fk k p.1 with
  | true=>
   rw [<- h1] at hq;simp [hq]
  | false=>
   have hq':fk k e.key=false:=by rw [h1];exact hq
   simp only [hq',Bool.false_eq_true,if_false,ih,Option.map_map,Option.some.injEq];congr 1;funext j;simp [Function.comp,Nat.add_assoc,Nat.add_comm 1 j]
theorem Ge {k:Value} {ents:List (Value×D)}:ab4 k ents=(qB k ents).bind fun j=>(ents[j]?).map (·.2):=by
 unfold ab4 qB
 induction ents with
 | nil=>rfl
 | cons p ents ih=>
  rw [List.find?_cons,List.findIdx?_cons]
  cases h:fk k p.1 with
  | true=>simp
  | false=>
   simp only [ih,Bool.false_eq_true,if_false]
   cases List.findIdx? (fun p=>fk k p.1) ents with
   | none=>rfl
   | some j=>simp
def bX:Value->D
 | .agg arr=>.agg (arr.toList.map ac6)
 | v=>ac6 v
theorem X6 {w:World} {X:Nat->Prop} (v:Value):RD w X v (bX v):=by
 unfold bX;split
 .rename_i arr;refine .agg (by simp) fun j u c hu hc=>?_;simp only [List.getElem?_map,Array.getElem?_toList,hu,Option.map_some,Option.some.injEq] at hc;subst hc;exact sq u
 .exact sq _
def dr (ok:Bool) (x:D) (b:Bool):D:=if ok then .Z4 [x,.v (.bool b)] else x
theorem Jd {w:World} {X:Nat->Prop} {ok b:Bool} {u:Value} {x:D} (h:RD w X u x):RD w X (if ok then .tuple #[u,.bool b] else u) (dr ok x b):=by
 unfold dr
 cases ok with
 | false=>exact h
 | true=>
  refine .Z4 rfl fun j u' c hu hc=>?_
  match j,hu,hc with
  | 0,hu,hc=>simp at hu hc;subst hu hc;exact h
  | 1,hu,hc=>simp at hu hc;subst hu hc;exact .v _
  | j+2,hu,hc=>simp at hu
def cy (ents:List (Value×Value)):List (Value×D):=ents.map fun p=>(p.1,.v p.2)
def ku (T:Ty) (H:Heap) (t:TypeId) (ok:Bool):AV->AV->Ans
 | .mp r,.d (.v k)=>match H r,T t with
  | some (.mp _ ents),some tt=>match tt.desc with
   | .map kt et=>match T kt,T et with
    | some tk,some te=>some (gZ tk.desc k=true/\(∀ p∈ents,gZ tk.desc p.1=true),.d (match ab4 k ents with
     | some x=>dr ok x true
     | none=>dr ok (bX te.zero) false))
    | _,_=>none
   | _=>none
  | _,_=>none
 | .d (.dm _ ents),.d (.v k)=>match T t with
  | some tt=>match tt.desc with
   | .map kt et=>match T kt,T et with
    | some tk,some te=>some (gZ tk.desc k=true/\(ents.map (·.1)).Nodup/\(∀ p∈cy ents,gZ tk.desc p.1=true),.d (match ab4 k (cy ents) with
     | some x=>dr ok x true
     | none=>dr ok (bX te.zero) false))
    | _,_=>none
   | _=>none
  | _=>none
 | _,_=>none
section
variable {P:Program} {T:Ty} {Mv X:Nat->Prop} {G:ao} {N:Fr} {w:World} {μ:Mu} {a:Act} {σ:St}
theorem RV.DP {u:Value} {r:Nat} (h:RV w X μ u (.mp r)):∃ m b,μ r=some m/\m.blk=some b/\u = .map (some b):=by
 generalize hy:AV.mp r=y at h;cases h<;>cases hy;exact ⟨_,_,by assumption,by assumption,rfl⟩
theorem cK.DG {H:Heap} (hs:cK w X μ H) {r ty:Nat} {ents:List (Value×D)} (hH:H r=some (.mp ty ents)) {m:fU} {b:Nat} (hm:μ r=some m) (hb:m.blk=some b) :
  ∃ es:Array MapEntry,w.heap[b]? = some (.map es es.size)/\es.size=ents.length/\(∀ (i:Nat) (e:MapEntry) (p:Value×D),es[i]? = some e->ents[i]? = some p->e.key=p.1/\e.born=i/\RD w (XX X μ) e.val p.2)/\es.toList.map (·.key)=ents.map (·.1):=by
 obtain ⟨m',bO,ok⟩:=hs.rows r _ hH;rw [hm] at bO;obtain rfl:=Option.some.inj bO
 cases ok with
 | mp aO hh hn hr=>
  rename_i b' es;rw [hb] at aO;obtain rfl:=Option.some.inj aO;refine ⟨es,hh,hn,hr,List.ext_getElem (by simpa using hn) fun i h1 h2=>?_⟩
  have Bv:i < es.size:=by simpa using h1
  have fW:i < ents.length:=by simpa using h2
  have:=(hr i es[i] ents[i] (by simp [Bv]) (by simp [fW])).1;simpa using this
theorem IE (hg:Good P T) {t kt et:TypeId} {tt tk te:TI} {ok:Bool} {b:Nat} {v:Value} {es:Array MapEntry} {ents:List (Value×D)} (htt:T t=some tt) (hd:tt.desc = .map kt et) (hk:T kt=some tk) (he:T et=some te)
  (hh:w.heap[b]? = some (.map es es.size)) (hn:es.size=ents.length) (hr:∀ (i:Nat) (e:MapEntry) (p:Value×D),es[i]? = some e->ents[i]? = some p->e.key=p.1/\e.born=i/\RD w (XX X μ) e.val p.2) (vA:es.toList.map (·.key)=ents.map (·.1))
  (fi:gZ tk.desc v=true) (fE:∀ p∈ents,gZ tk.desc p.1=true) :
  ∃ r, (Instr.lookup t (.map (some b)) v ok).run P w = .ok r w /\ RV w X μ r (.d (match ab4 v ents with
        | some x=>dr ok x true
        | none=>dr ok (bX te.zero) false)):=by
 have hu:P.underlying t=some (.map kt et):=by rw [<- hd];exact (hg _ _ htt).1
 have vY:P.underlying kt=some tk.desc:=(hg _ _ hk).1;have hf:=run_findKey (P:=P) (w:=w) vY (Bt fi es.toList ents 0 vA fE);have aY:=fun e=>run_checkKey (P:=P) (w:=w) vY (rG fi) e 9999
 cases hi:qB v ents with
 | none=>
  rw [hi] at hf;refine ⟨if ok then .tuple #[te.zero,.bool false] else te.zero,?_,.d ?_⟩
  .simp only [Option.map_none] at hf;simp [Instr.lookup,run_underlying hu,MapKept.run_getObj_map hh,aY,hf,hg.zero he,Result.andThen]
  .rw [Ge,hi];exact Jd (X6 _)
 | some j=>
  rw [hi] at hf
  have hj:j < ents.length:=by
   unfold qB at hi;rw [List.findIdx?_eq_some_iff_getElem] at hi;exact hi.1
  have cR:j < es.size:=by omega
  refine ⟨if ok then .tuple #[es[j].val,.bool true] else es[j].val,?_,.d ?_⟩
  .simp only [Option.map_some,Nat.zero_add] at hf;simp [cR] at hf;simp [Instr.lookup,run_underlying hu,MapKept.run_getObj_map hh,aY,hf,Result.andThen]
  .rw [Ge,hi];simp only [Option.bind_some,List.getElem?_eq_getElem hj,Option.map_some];exact Jd (hr j es[j] ents[j] (by simp [cR]) (by simp [hj])).2.2
theorem Nq {ents:List (Value×Value)}:(gy ents).size=(cy ents).length/\(∀ (i:Nat) (e:MapEntry) (p:Value×D),(gy ents)[i]? = some e->(cy ents)[i]? = some p->e.key=p.1/\e.born=i/\RD w (XX X μ) e.val p.2)/\(gy ents).toList.map (·.key)=(cy ents).map (·.1):=by
 refine ⟨by simp [lB,cy],fun i e p he hp=>?_,?_⟩
 .have hi:i < ents.length:=by have:=(Array.getElem?_eq_some_iff.1 he).1;rwa [lB] at this
  rw [ad5 hi] at he;obtain rfl:=Option.some.inj he;simp only [cy,List.getElem?_map,List.getElem?_eq_getElem hi,Option.map_some,Option.some.injEq] at hp;subst hp;exact ⟨rfl,rfl,.v _⟩
 .refine List.ext_getElem (by simp [lB,cy]) fun i h1 h2=>?_
  have hi:i < ents.length:=by simpa [cy] using h2
  have h3:=ad5 hi
  have h4:i < (gy ents).size:=by rw [lB];exact hi
  rw [Array.getElem?_eq_getElem h4] at h3;have h5:=Option.some.inj h3;simp [cy,h5]
theorem _root_.Go.Av.RD.Nr {X:Nat->Prop} {u:Value} {x:Bool} {ents:List (Value×Value)} (h:RD w X u (.dm x ents)):∃ b es,u = .map (some b)/\w.heap[b]? = some (.map (gy es) es.length)/\es.Perm ents:=by
 generalize hq:D.dm x ents=q at h;cases h<;>cases hq;exact ⟨_,_,rfl,by assumption,by assumption⟩
theorem NL {d:TypeDesc} {es ents:List (Value×Value)} {k:Value} (hp:es.Perm ents) (hn:(ents.map (·.1)).Nodup) (hk:gZ d k=true) (ho:∀ p∈cy ents,gZ d p.1=true):ab4 k (cy es)=ab4 k (cy ents):=by
 have one:∀ p∈ents,fk k p.1=true->p.1=k:=fun p gv h=>Dl hk (ho (p.1,.v p.2) (List.mem_map.2 ⟨p,gv,rfl⟩)) h
 have uniq:∀ p∈ents,∀ q∈ents,p.1=q.1->p=q:=by
  have key:∀ l:List (Value×Value),(l.map (·.1)).Nodup->∀ p∈l,∀ q∈l,p.1=q.1->p=q:=by
   intro l
   induction l with
   | nil=>intro _ p hp;cases hp
   | cons x l ih=>
    intro hn p hp q hq e;rw [List.map_cons,List.nodup_cons] at hn
    rcases List.mem_cons.1 hp with e1 | gv
    .rcases List.mem_cons.1 hq with e2 | fI
     .rw [e1,e2]
     .exact absurd (List.mem_map.2 ⟨q,fI,by rw [<- e,e1]⟩) hn.1
    .rcases List.mem_cons.1 hq with e2 | fI
     .exact absurd (List.mem_map.2 ⟨p,gv,by rw [e,e2]⟩) hn.1
     .exact ih hn.2 p gv q fI e
  exact key ents hn
 have e1:∀ l:List (Value×Value),ab4 k (cy l)=(l.find? fun p=>fk k p.1).map fun p=>.v p.2:=fun l=>by
  unfold ab4 cy;rw [List.find?_map]
  cases h:l.find? ((fun p:Value×D=>fk k p.1) ∘ fun p=>(p.1,D.v p.2)) with
  | none=>simp only [Function.comp_def] at h;rw [h];rfl
  | some p=>simp only [Function.comp_def] at h;rw [h];rfl
 rw [e1,e1]
 cases h1:es.find? fun p=>fk k p.1 with
 | some p=>
  have gv:=hp.mem_iff.1 (List.mem_of_find?_eq_some h1);have eZ:=List.find?_some h1
  cases h2:ents.find? fun p=>fk k p.1 with
  | none=>exact absurd eZ (by simpa using List.find?_eq_none.1 h2 p gv)
  | some q=>
   have fI:=List.mem_of_find?_eq_some h2;have e8:=List.find?_some h2;rw [uniq p gv q fI ((one p gv eZ).trans (one q fI e8).symm)]
 | none=>
  cases h2:ents.find? fun p=>fk k p.1 with
  | none=>rfl
  | some q=>
   have fI:=hp.mem_iff.2 (List.mem_of_find?_eq_some h2);exact absurd (List.find?_some h2) (by simpa using List.find?_eq_none.1 h1 q fI)
theorem Sv (hg:Good P T) (hs:cK w X μ σ.H) {t:TypeId} {ok:Bool} {u v:Value} {x y z:AV} {c:Prop} (h:ku T σ.H t ok x y=some (c,z)) (hc:c) (hx:RV w X μ u x) (hy:RV w X μ v y) :
  ∃ r,(Instr.lookup t u v ok).run P w = .ok r w/\RV w X μ r z:=by
 unfold ku at h;split at h
 .rename_i r k;split at h
  .rename_i ty ents tt hH htt;split at h
   .rename_i kt et hd;split at h
    .rename_i tk te hk he;simp only [Option.some.injEq,Prod.mk.injEq] at h;obtain ⟨rfl,rfl⟩:=h;obtain ⟨fi,fE⟩:=hc;obtain ⟨m,b,hm,hb,rfl⟩:=hx.DP;have hv:=hy.scalar;subst hv;obtain ⟨es,hh,hn,hr,vA⟩:=hs.DG hH hm hb;exact IE hg htt hd hk he hh hn hr vA fi fE
    .cases h
   .cases h
  .cases h
 .rename_i ents k;split at h
  .rename_i tt htt;split at h
   .rename_i kt et hd;split at h
    .rename_i tk te hk he;simp only [Option.some.injEq,Prod.mk.injEq] at h;obtain ⟨rfl,rfl⟩:=h;obtain ⟨fi,hc0,fE⟩:=hc;have hv:=hy.scalar;subst hv;have yS:=hx.data;obtain ⟨b,es,hu,hh,hp⟩:=yS.Nr;subst hu;obtain ⟨d1,d2,d3⟩:=Nq (w:=w) (X:=X) (μ:=μ) (ents:=es);have Ps:∀ p∈cy es,gZ tk.desc p.1=true:=fun p eZ=>fE p ((hp.map _).mem_iff.1 eZ);rw [<- NL hp hc0 fi fE];exact IE hg htt hd hk he (by rw [hh,lB]) d1 d2 d3 fi Ps
    .cases h
   .cases h
  .cases h
 .cases h
theorem SE (hi:In w X G μ N a σ) {d:Nat} (hd:σ.H d=none) (t:TypeId):ka Mv X G N w μ a ((Instr.makeMap t none).run P w) (.mp d) ⟨σ.env,aJ σ.H d (.mp t [])⟩:=by
 have hb:(w.alloc (.map #[] 0)).heap[w.heap.size]? = some (.map #[] 0):=by rw [<- World.alloc_eq];simp
 obtain ⟨aC,aG⟩:=hi.alloc (Mv:=Mv) hd (bU.alloc w (.map #[] 0)) (m:=⟨some w.heap.size,1,0⟩) (fun b hb=>by simp at hb;omega) (row:=.mp t []) fun _=>.mp rfl hb rfl (by simp);exact ⟨.map (some w.heap.size),_,_,rfl,aC,.mp (m:=⟨some w.heap.size,1,0⟩) (by simp [cH]) rfl,aG⟩
def wW (T:Ty) (t:TypeId) (ents:List (Value×D)) (k:Value) (x:D):Option (Prop×List (Value×D)):=match T t with
 | some tt=>match tt.desc with
  | .map kt _=>match T kt with
   | some tk=>some (gZ tk.desc k=true/\(∀ p∈ents,gZ tk.desc p.1=true),n9 k x ents)
   | none=>none
  | _=>none
 | none=>none
theorem II (hg:Good P T) (hi:In w X G μ N a σ) {t ty:TypeId} {r:Nat} {ents ab9:List (Value×D)} {um uk uv k:Value} {x:D} {c:Prop} (hH:σ.H r=some (.mp ty ents)) (h:wW T t ents k x=some (c,ab9)) (hc:c)
  (hm:RV w X μ um (.mp r)) (hk:RV w X μ uk (.d (.v k))) (hx:RV w X μ uv (.d x)) :
  ∃ w',(Instr.mapUpdate t um uk uv).run P w = .ok () w'/\In w' X G μ N a ⟨σ.env,aJ σ.H r (.mp ty ab9)⟩/\Ev Mv w μ w' μ:=by
 unfold wW at h;split at h
 .rename_i tt htt;split at h
  .rename_i kt et hd;split at h
   .rename_i tk vC;simp only [Option.some.injEq,Prod.mk.injEq] at h;obtain ⟨rfl,rfl⟩:=h;obtain ⟨fi,fE⟩:=hc;obtain ⟨m,b,s6,hb,rfl⟩:=hm.DP;obtain rfl:=hk.scalar;obtain ⟨es,hh,hn,hr,vA⟩:=hi.aS.DG hH s6 hb
    have hu:P.underlying t=some (.map kt et):=by rw [<- hd];exact (hg _ _ htt).1
    have vY:P.underlying kt=some tk.desc:=(hg _ _ vC).1;have hf:=run_findKey (P:=P) (w:=w) vY (Bt fi es.toList ents 0 vA fE);have aY:=run_checkKey (P:=P) (w:=w) vY (rG fi) false 9999;have ax:b < w.heap.size:=(Array.getElem?_eq_some_iff.1 hh).1;have yS:=hx.data
    have write:∀ (es':Array MapEntry) (ab9:List (Value×D)),es'.size=ab9.length->(∀ (i:Nat) (e:MapEntry) (p:Value×D),es'[i]? = some e->ab9[i]? = some p->e.key=p.1/\e.born=i/\RD w (XX X μ) e.val p.2)->
      In { w with heap:=w.heap.setIfInBounds b (.map es' es'.size) } X G μ N a ⟨σ.env,aJ σ.H r (.mp ty ab9)⟩/\Ev Mv w μ { w with heap:=w.heap.setIfInBounds b (.map es' es'.size) } μ:=fun es' ab9 hl jY=>
     hi.write (Mv:=Mv) (w':={ w with heap:=w.heap.setIfInBounds b (.map es' es'.size) }) s6 hb (by simp) rfl rfl rfl (fun k hk=>by simp [Array.getElem?_setIfInBounds_ne (Ne.symm hk)]) fun ev=>.mp hb (by simp [ax]) hl fun i e p he hp=>let ⟨h1,h2,h3⟩:=jY i e p he hp;⟨h1,h2,h3.ev ev⟩
    unfold n9
    cases jd:qB uk ents with
    | none=>
     have hj1:(ents.findIdx? fun p=>fk uk p.1)=none:=jd;rw [jd] at hf;simp only [Option.map_none] at hf
     obtain ⟨h1,h2⟩:=write (es.push { key:=uk,val:=uv,born:=es.size }) (ents ++ [(uk,x)]) (by simp [hn]) (fun i e p he hp=>by
      rw [Array.getElem?_push] at he;split at he
      .rename_i da;obtain rfl:=Option.some.inj he;subst da;rw [hn,List.getElem?_append_right (Nat.le_refl _),Nat.sub_self] at hp;obtain rfl:=Option.some.inj hp;exact ⟨rfl,rfl,yS⟩
      .have da:i < ents.length:=by have:=(Array.getElem?_eq_some_iff.1 he).1;omega
       rw [List.getElem?_append_left da] at hp
       exact hr i e p he hp)
     refine ⟨_,?_,by rw [hj1];exact h1,h2⟩;simp [Instr.mapUpdate,run_underlying hu,MapKept.run_getObj_map hh,aY,hf,Result.andThen,MapKept.run_setObj_map _ hh]
    | some j=>
     have hj1:(ents.findIdx? fun p=>fk uk p.1)=some j:=jd;have hC:=List.findIdx?_eq_some_iff_getElem.1 hj1;obtain ⟨hj,hke,_⟩:=hC
     have cR:j < es.size:=by omega
     rw [jd] at hf;simp only [Option.map_some,Nat.zero_add] at hf
     have pC:es[j].key=uk:=by
      rw [(hr j es[j] ents[j] (by simp [cR]) (by simp [hj])).1];exact Dl fi (fE _ (List.getElem_mem hj)) hke
     obtain ⟨h1,h2⟩:=write (es.modify j fun e=>{ e with key:=uk,val:=uv }) (ents.set j (uk,x)) (by simp [hn]) (fun i e p he hp=>by
      rw [Array.getElem?_modify] at he;rw [List.getElem?_set] at hp;by_cases hji:j=i
      .subst hji;rw [if_pos rfl,if_pos hj] at hp;obtain rfl:=Option.some.inj hp;simp [cR] at he;subst he;exact ⟨rfl,(hr j es[j] ents[j] (by simp [cR]) (by simp [hj])).2.1,yS⟩
      .rw [if_neg hji] at hp he
       exact hr i e p he hp)
     refine ⟨_,?_,by rw [hj1];exact h1,h2⟩;have dO:=run_keyThatStays (P:=P) (w:=w) (rG fi);simp [cR] at hf;simp [Instr.mapUpdate,run_underlying hu,MapKept.run_getObj_map hh,aY,hf,Result.andThen,MapKept.run_setObj_map _ hh,cR,pC,dO]
   .cases h
  .cases h
 .cases h
end
end Go.Av
