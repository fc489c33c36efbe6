/- Parts. -/
import Derived.Test.YtoohljflflnbeaaGreatDoorFr4
import Derived.MapKept
set_option linter.unusedSectionVars false
set_option linter.unusedSimpArgs false
set_option linter.unusedVariables false
namespace Go.Av
open Go.MapKept
def iY:Value->Value->Bool
 | .int _ a,.int _ b=>a == b
 | .string a,.string b=>a == b
 | .bool a,.bool b=>a == b
 | _,_=>false
def kJ:TypeDesc->Value->Bool
 | .bool,.bool _=>true
 | .int k,.int k' _=>decide (k'=k)
 | .string,.string _=>true
 | _,_=>false
def xF (k:Value) (ents:List (Value×D)):Option Nat:=ents.findIdx? fun p=>iY k p.1
def lO (k:Value) (ents:List (Value×D)):Option D:=(ents.find? fun p=>iY k p.1).map (·.2)
def uD (k:Value) (x:D) (ents:List (Value×D)):List (Value×D):=match ents.findIdx? fun p=>iY k p.1 with
 | some j=>ents.set j (k,x)
 | none=>ents ++ [(k,x)]
theorem yN {d:TypeDesc} {v:Value} (h:kJ d v=true):IsKey d v:=by
 cases d<;>cases v<;>simp_all [kJ,IsKey]
theorem MR {d:TypeDesc} {a b:Value} (ha:kJ d a=true) (hb:kJ d b=true):Instr.sameNow d a b=some (iY a b):=by
 cases d<;>cases a<;>simp[kJ]at ha<;>cases b<;>simp[kJ]at hb<;>simp[iY,Instr.sameNow,ha,hb]
theorem Lt {d:TypeDesc} {a b:Value} (ha:kJ d a=true) (hb:kJ d b=true) (h:iY a b=true):b=a:=by
 obtain⟨r,h1,h2⟩:=sameNow_of_keys (yN ha) (yN hb);rw[MR ha hb]at h1;obtain rfl:=AI h1;have:=h2.1 h
 first | exact this | exact this.symm
theorem Jd {d:TypeDesc} {k:Value} (hk:kJ d k=true):∀ (l:List MapEntry) (ents:List (Value×D)) (i:Nat),l.map (·.key)=ents.map (·.1)->(∀ p∈ents,kJ d p.1=true)->
  Instr.findNow d k l i=some ((xF k ents).map fun j=>(i+j,((l[j]?).map (·.val)).getD undef))
 | [],[],_,_,_=>rfl
 | [],_ :: _,_,h,_=>by simp at h
 | _ :: _,[],_,h,_=>by simp at h
 | e :: l,p :: ents,i,h,ho=>by
  simp only[aj6,alh]at h;obtain⟨h1,h2⟩:=h;have hp:=ho p ak;have hs:=MR hk hp;rw[<- h1]at hs;simp only[Instr.findNow,hs];have ih:=Jd hk l ents (i+1) h2 fun q hq=>ho q (by simp[hq]);unfold xF at ih ⊢;rw[ak1]
  cases hq:iY k p.1 with
  | true=>
   rw[<- h1]at hq;simp[hq]
  | false=>
   have o5:iY k e.key=false:=by rw[h1];exact hq
   simp only[o5,ajM,if_false,ih,Option.map_map,IS];congr 1;funext j;simp[Function.comp,akv,ala 1 j]
theorem OS {k:Value} {ents:List (Value×D)}:lO k ents=(xF k ents).bind fun j=>(ents[j]?).map (·.2):=by
 unfold lO xF
 induction ents with
 | nil=>rfl
 | cons p ents ih=>
  rw[List.find?_cons,ak1]
  cases h:iY k p.1 with
  | true=>simp
  | false=>
   simp only[ih,ajM,if_false]
   cases List.findIdx? (fun p=>iY k p.1) ents with
   | none=>rfl
   | some j=>simp
def cM:Value->D
 | .agg arr=>.agg (arr.toList.map uw)
 | v=>uw v
theorem air {w:World} {X:Nat->Prop} (v:Value):RD w X v (cM v):=by
 unfold cM;split
 .rename_i arr;refine .agg ak fun j u c hu hc=>?_;simp only[ajK,ajT,hu,akb,IS]at hc;subst hc;exact zE u
 .exact zE _
def ft (ok:Bool) (x:D) (b:Bool):D:=if ok then .bz [x,.v (.bool b)] else x
theorem SH {w:World} {X:Nat->Prop} {ok b:Bool} {u:Value} {x:D} (h:RD w X u x):RD w X (if ok then .tuple #[u,.bool b] else u) (ft ok x b):=by
 unfold ft
 cases ok with
 | false=>exact h
 | true=>
  refine .bz rfl fun j u' c hu hc=>?_
  match j,hu,hc with
  | 0,hu,hc=>simp at hu hc;subst hu hc;exact h
  | 1,hu,hc=>simp at hu hc;subst hu hc;exact .v _
  | j+2,hu,hc=>simp at hu
def dX (ents:List (Value×Value)):List (Value×D):=ents.map fun p=>(p.1,.v p.2)
def pg (T:Ty) (H:Heap) (t:TypeId) (ok:Bool):AV->AV->k8
 | .mp r,.d (.v k)=>match H r,T t with
  | some (.mp _ ents),some tt=>match tt.desc with
   | .map kt et=>match T kt,T et with
    | some tk,some te=>some (kJ tk.desc k=true/\(∀ p∈ents,kJ tk.desc p.1=true),.d (match lO k ents with
     | some x=>ft ok x true
     | none=>ft ok (cM te.zero) false))
    | _,_=>none
   | _=>none
  | _,_=>none
 | .d (.dm _ ents),.d (.v k)=>match T t with
  | some tt=>match tt.desc with
   | .map kt et=>match T kt,T et with
    | some tk,some te=>some (kJ tk.desc k=true/\(ents.map (·.1)).Nodup/\(∀ p∈dX ents,kJ tk.desc p.1=true),.d (match lO k (dX ents) with
     | some x=>ft ok x true
     | none=>ft ok (cM te.zero) false))
    | _,_=>none
   | _=>none
  | _=>none
 | _,_=>none
section
variable {P:Program} {T:Ty} {Mv X:Nat->Prop} {G:ay} {N:Fr} {w:World} {μ:Mu} {a:Act} {σ:St}
theorem RV.LZ {u:Value} {r:Nat} (h:RV w X μ u (.mp r)):∃ m b,μ r=some m/\m.fk=some b/\u = .map (some b):=by
 generalize hy:AV.mp r=y at h;cases h<;>cases hy;exact⟨_,_,by assumption,by assumption,rfl⟩
theorem eA.LP {H:Heap} (hs:eA w X μ H) {r ty:Nat} {ents:List (Value×D)} (hH:H r=some (.mp ty ents)) {m:jE} {b:Nat} (hm:μ r=some m) (hb:m.fk=some b) :
  ∃ es:Array MapEntry,w.heap[b]? = some (.map es es.size)/\es.size=ents.length/\(∀ (i:Nat) (e:MapEntry) (p:Value×D),es[i]? = some e->ents[i]? = some p->e.key=p.1/\e.born=i/\RD w (XX X μ) e.val p.2)/\es.toList.map (·.key)=ents.map (·.1):=by
 obtain⟨m',cF,ok⟩:=hs.rows r _ hH;rw[hm]at cF;obtain rfl:=AI cF
 cases ok with
 | mp bk hh hn hr=>
  rename_i b' es;rw[hb]at bk;obtain rfl:=AI bk;refine⟨es,hh,hn,hr,alo (by simpa using hn) fun i h1 h2=>?_⟩
  have Jf:i < es.size:=by simpa using h1
  have jG:i < ents.length:=by simpa using h2
  have:=(hr i es[i] ents[i] (by simp[Jf]) (by simp[jG])).1;simpa using this
theorem R8 (hg:Good P T) {t kt et:TypeId} {tt tk te:TI} {ok:Bool} {b:Nat} {v:Value} {es:Array MapEntry} {ents:List (Value×D)} (du:T t=some tt) (hd:tt.desc = .map kt et) (hk:T kt=some tk) (he:T et=some te)
  (hh:w.heap[b]? = some (.map es es.size)) (hn:es.size=ents.length) (hr:∀ (i:Nat) (e:MapEntry) (p:Value×D),es[i]? = some e->ents[i]? = some p->e.key=p.1/\e.born=i/\RD w (XX X μ) e.val p.2) (CL:es.toList.map (·.key)=ents.map (·.1))
  (gI:kJ tk.desc v=true) (iV:∀ p∈ents,kJ tk.desc p.1=true) :
  ∃ r, (Instr.lookup t (.map (some b)) v ok).run P w = .ok r w /\ RV w X μ r (.d (match lO v ents with
        | some x=>ft ok x true
        | none=>ft ok (cM te.zero) false)):=by
 have hu:P.underlying t=some (.map kt et):=by rw[<- hd];exact (hg _ _ du).1
 have yx:P.underlying kt=some tk.desc:=(hg _ _ hk).1;have hf:=run_findKey (P:=P) (w:=w) yx (Jd gI es.toList ents 0 CL iV);have bn:=fun e=>run_checkKey (P:=P) (w:=w) yx (yN gI) e 9999
 cases hi:xF v ents with
 | none=>
  rw[hi]at hf;refine⟨if ok then .tuple #[te.zero,.bool false] else te.zero,?_,.d ?_⟩
  .simp only[Option.map_none]at hf;simp[Instr.lookup,run_underlying hu,MapKept.run_getObj_map hh,bn,hf,hg.zero he,Result.andThen]
  .rw[OS,hi];exact SH (air _)
 | some j=>
  rw[hi]at hf
  have hj:j < ents.length:=by
   unfold xF at hi;rw[aj9]at hi;exact hi.1
  have c6:j < es.size:=aa
  refine⟨if ok then .tuple #[es[j].val,.bool true] else es[j].val,?_,.d ?_⟩
  .simp only[akb,akg]at hf;simp[c6]at hf;simp[Instr.lookup,run_underlying hu,MapKept.run_getObj_map hh,bn,hf,Result.andThen]
  .rw[OS,hi];simp only[alp,AT hj,akb];exact SH (hr j es[j] ents[j] (by simp[c6]) (by simp[hj])).2.2
theorem Xu {ents:List (Value×Value)}:(j6 ents).size=(dX ents).length/\(∀ (i:Nat) (e:MapEntry) (p:Value×D),(j6 ents)[i]? = some e->(dX ents)[i]? = some p->e.key=p.1/\e.born=i/\RD w (XX X μ) e.val p.2)/\(j6 ents).toList.map (·.key)=(dX ents).map (·.1):=by
 refine⟨by simp[qS,dX],fun i e p he hp=>?_,?_⟩
 .have hi:i < ents.length:=by have:=(abi.1 he).1;rwa [qS]at this
  rw[A5 hi]at he;obtain rfl:=AI he;simp only[dX,ajK,AT hi,akb,IS]at hp;subst hp;exact⟨rfl,rfl,.v _⟩
 .refine alo (by simp[qS,dX]) fun i h1 h2=>?_
  have hi:i < ents.length:=by simpa[dX]using h2
  have h3:=A5 hi
  have h4:i < (j6 ents).size:=by rw[qS];exact hi
  rw[ajZ h4]at h3;have h5:=AI h3;simp[dX,h5]
theorem _root_.Go.Av.RD.Xv {X:Nat->Prop} {u:Value} {x:Bool} {ents:List (Value×Value)} (h:RD w X u (.dm x ents)):∃ b es,u = .map (some b)/\w.heap[b]? = some (.map (j6 es) es.length)/\es.Perm ents:=by
 generalize hq:D.dm x ents=q at h;cases h<;>cases hq;exact⟨_,_,rfl,by assumption,by assumption⟩
theorem XR {d:TypeDesc} {es ents:List (Value×Value)} {k:Value} (hp:es.Perm ents) (hn:(ents.map (·.1)).Nodup) (hk:kJ d k=true) (ho:∀ p∈dX ents,kJ d p.1=true):lO k (dX es)=lO k (dX ents):=by
 have one:∀ p∈ents,iY k p.1=true->p.1=k:=fun p iX h=>Lt hk (ho (p.1,.v p.2) (akh.2 ⟨p,iX,rfl⟩)) h
 have uniq:∀ p∈ents,∀ q∈ents,p.1=q.1->p=q:=by
  have key:∀ l:List (Value×Value),(l.map (·.1)).Nodup->∀ p∈l,∀ q∈l,p.1=q.1->p=q:=by
   intro l
   induction l with
   | nil=>intro _ p hp;cases hp
   | cons x l ih=>
    intro hn p hp q hq e;rw[aj6,akB]at hn
    rcases ajX.1 hp with e1 | iX
    .rcases ajX.1 hq with e2 | kZ
     .rw[e1,e2]
     .exact absurd (akh.2 ⟨q,kZ,by rw[<- e,e1]⟩) hn.1
    .rcases ajX.1 hq with e2 | kZ
     .exact absurd (akh.2 ⟨p,iX,by rw[e,e2]⟩) hn.1
     .exact ih hn.2 p iX q kZ e
  exact key ents hn
 have e1:∀ l:List (Value×Value),lO k (dX l)=(l.find? fun p=>iY k p.1).map fun p=>.v p.2:=fun l=>by
  unfold lO dX;rw[List.find?_map]
  cases h:l.find? ((fun p:Value×D=>iY k p.1) ∘ fun p=>(p.1,D.v p.2)) with
  | none=>simp only[ajG]at h;rw[h];rfl
  | some p=>simp only[ajG]at h;rw[h];rfl
 rw[e1,e1]
 cases h1:es.find? fun p=>iY k p.1 with
 | some p=>
  have iX:=hp.mem_iff.1 (List.mem_of_find?_eq_some h1);have gB:=List.find?_some h1
  cases h2:ents.find? fun p=>iY k p.1 with
  | none=>exact absurd gB (by simpa using List.find?_eq_none.1 h2 p iX)
  | some q=>
   have kZ:=List.mem_of_find?_eq_some h2;have o6:=List.find?_some h2;rw[uniq p iX q kZ ((one p iX gB).trans (one q kZ o6).symm)]
 | none=>
  cases h2:ents.find? fun p=>iY k p.1 with
  | none=>rfl
  | some q=>
   have kZ:=hp.mem_iff.2 (List.mem_of_find?_eq_some h2);exact absurd (List.find?_some h2) (by simpa using List.find?_eq_none.1 h1 q kZ)
theorem acn (hg:Good P T) (hs:eA w X μ σ.H) {t:TypeId} {ok:Bool} {u v:Value} {x y z:AV} {c:Prop} (h:pg T σ.H t ok x y=some (c,z)) (hc:c) (hx:RV w X μ u x) (hy:RV w X μ v y) :
  ∃ r,(Instr.lookup t u v ok).run P w = .ok r w/\RV w X μ r z:=by
 unfold pg at h;split at h
 .rename_i r k;split at h
  .rename_i ty ents tt hH du;split at h
   .rename_i kt et hd;split at h
    .rename_i tk te hk he;obtain⟨rfl,rfl⟩:=eh h;obtain⟨gI,iV⟩:=hc;obtain⟨m,b,hm,hb,rfl⟩:=hx.LZ;have hv:=hy.scalar;subst hv;obtain⟨es,hh,hn,hr,CL⟩:=hs.LP hH hm hb;exact R8 hg du hd hk he hh hn hr CL gI iV
    .cases h
   .cases h
  .cases h
 .rename_i ents k;split at h
  .rename_i tt du;split at h
   .rename_i kt et hd;split at h
    .rename_i tk te hk he;obtain⟨rfl,rfl⟩:=eh h;obtain⟨gI,ly,iV⟩:=hc;have hv:=hy.scalar;subst hv;have Gl:=hx.data;obtain⟨b,es,hu,hh,hp⟩:=Gl.Xv;subst hu;obtain⟨d1,d2,d3⟩:=Xu (w:=w) (X:=X) (μ:=μ) (ents:=es);have ZH:∀ p∈dX es,kJ tk.desc p.1=true:=fun p gB=>iV p ((hp.map _).mem_iff.1 gB);rw[<- XR hp ly gI iV];exact R8 hg du hd hk he (by rw[hh,qS]) d1 d2 d3 gI ZH
    .cases h
   .cases h
  .cases h
 .cases h
theorem acx (hi:In w X G μ N a σ) {d:Nat} (hd:σ.H d=none) (t:TypeId):nQ Mv X G N w μ a ((Instr.makeMap t none).run P w) (.mp d) ⟨σ.env,aY σ.H d (.mp t [])⟩:=by
 have hb:(w.alloc (.map #[] 0)).heap[w.heap.size]? = some (.map #[] 0):=by rw[<- World.alloc_eq];simp
 obtain⟨aO,aW⟩:=hi.alloc (Mv:=Mv) hd (cN.alloc w (.map #[] 0)) (m:=⟨some w.heap.size,1,0⟩) (fun b hb=>by simp at hb;omega) (row:=.mp t []) fun _=>.mp rfl hb rfl ak;exact⟨.map (some w.heap.size),_,_,rfl,aO,.mp (m:=⟨some w.heap.size,1,0⟩) (by simp[dY]) rfl,aW⟩
def DX (T:Ty) (t:TypeId) (ents:List (Value×D)) (k:Value) (x:D):Option (Prop×List (Value×D)):=match T t with
 | some tt=>match tt.desc with
  | .map kt _=>match T kt with
   | some tk=>some (kJ tk.desc k=true/\(∀ p∈ents,kJ tk.desc p.1=true),uD k x ents)
   | none=>none
  | _=>none
 | none=>none
theorem Sd (hg:Good P T) (hi:In w X G μ N a σ) {t ty:TypeId} {r:Nat} {ents nv:List (Value×D)} {um uk uv k:Value} {x:D} {c:Prop} (hH:σ.H r=some (.mp ty ents)) (h:DX T t ents k x=some (c,nv)) (hc:c)
  (hm:RV w X μ um (.mp r)) (hk:RV w X μ uk (.d (.v k))) (hx:RV w X μ uv (.d x)) :
  ∃ w',(Instr.mapUpdate t um uk uv).run P w = .ok () w'/\In w' X G μ N a ⟨σ.env,aY σ.H r (.mp ty nv)⟩/\Ev Mv w μ w' μ:=by
 unfold DX at h;split at h
 .rename_i tt du;split at h
  .rename_i kt et hd;split at h
   .rename_i tk CM;obtain⟨rfl,rfl⟩:=eh h;obtain⟨gI,iV⟩:=hc;obtain⟨m,b,Aw,hb,rfl⟩:=hm.LZ;obtain rfl:=hk.scalar;obtain⟨es,hh,hn,hr,CL⟩:=hi.bq.LP hH Aw hb
    have hu:P.underlying t=some (.map kt et):=by rw[<- hd];exact (hg _ _ du).1
    have yx:P.underlying kt=some tk.desc:=(hg _ _ CM).1;have hf:=run_findKey (P:=P) (w:=w) yx (Jd gI es.toList ents 0 CL iV);have bn:=run_checkKey (P:=P) (w:=w) yx (yN gI) false 9999;have aH:b < w.heap.size:=(abi.1 hh).1;have Gl:=hx.data
    have write:∀ (uE:Array MapEntry) (nv:List (Value×D)),uE.size=nv.length->(∀ (i:Nat) (e:MapEntry) (p:Value×D),uE[i]? = some e->nv[i]? = some p->e.key=p.1/\e.born=i/\RD w (XX X μ) e.val p.2)->
      In { w with heap:=w.heap.setIfInBounds b (.map uE uE.size) } X G μ N a ⟨σ.env,aY σ.H r (.mp ty nv)⟩/\Ev Mv w μ { w with heap:=w.heap.setIfInBounds b (.map uE uE.size) } μ:=fun uE nv hl ow=>
     hi.write (Mv:=Mv) (w':={ w with heap:=w.heap.setIfInBounds b (.map uE uE.size) }) Aw hb ak rfl rfl rfl (fun k hk=>by simp[akU (akI hk)]) fun ev=>.mp hb (by simp[aH]) hl fun i e p he hp=>let ⟨h1,h2,h3⟩:=ow i e p he hp;⟨h1,h2,h3.ev ev⟩
    unfold uD
    cases mQ:xF uk ents with
    | none=>
     have qE:(ents.findIdx? fun p=>iY uk p.1)=none:=mQ;rw[mQ]at hf;simp only[Option.map_none]at hf
     obtain⟨h1,h2⟩:=write (es.push { key:=uk,val:=uv,born:=es.size }) (ents ++ [(uk,x)]) (by simp[hn]) (fun i e p he hp=>by
      rw[Array.getElem?_push]at he;split at he
      .rename_i fc;obtain rfl:=AI he;subst fc;rw[hn,List.getElem?_append_right (ajJ _),Nat.sub_self]at hp;obtain rfl:=AI hp;exact⟨rfl,rfl,Gl⟩
      .have fc:i < ents.length:=by have:=(abi.1 he).1;omega
       rw[akL fc]at hp
       exact hr i e p he hp)
     refine⟨_,?_,by rw[qE];exact h1,h2⟩;simp[Instr.mapUpdate,run_underlying hu,MapKept.run_getObj_map hh,bn,hf,Result.andThen,MapKept.run_setObj_map _ hh]
    | some j=>
     have qE:(ents.findIdx? fun p=>iY uk p.1)=some j:=mQ;have pM:=aj9.1 qE;obtain⟨hj,kX,_⟩:=pM
     have c6:j < es.size:=aa
     rw[mQ]at hf;simp only[akb,akg]at hf
     have wm:es[j].key=uk:=by
      rw[(hr j es[j] ents[j] (by simp[c6]) (by simp[hj])).1];exact Lt gI (iV _ (By hj)) kX
     obtain⟨h1,h2⟩:=write (es.modify j fun e=>{ e with key:=uk,val:=uv }) (ents.set j (uk,x)) (by simp[hn]) (fun i e p he hp=>by
      rw[alb]at he;rw[List.getElem?_set]at hp;by_cases oo:j=i
      .subst oo;rw[if_pos rfl,if_pos hj]at hp;obtain rfl:=AI hp;simp[c6]at he;subst he;exact⟨rfl,(hr j es[j] ents[j] (by simp[c6]) (by simp[hj])).2.1,Gl⟩
      .rw[if_neg oo]at hp he
       exact hr i e p he hp)
     refine⟨_,?_,by rw[qE];exact h1,h2⟩;have eL:=run_keyThatStays (P:=P) (w:=w) (yN gI);simp[c6]at hf;simp[Instr.mapUpdate,run_underlying hu,MapKept.run_getObj_map hh,bn,hf,Result.andThen,MapKept.run_setObj_map _ hh,c6,wm,eL]
   .cases h
  .cases h
 .cases h
end
theorem alC:type_of% @ft.eq_1:=@ft.eq_1
theorem alD:type_of% @cM.eq_1:=@cM.eq_1
theorem alE:type_of% @cM.eq_2:=@cM.eq_2
