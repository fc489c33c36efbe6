/-
  Texts that belong together,in one file: Av8m.
-/
import Derived.Test.YtpboiimemmfkiaaGreatDoorRp4
import Derived.MapKept
set_option linter.unusedSectionVars false
set_option linter.unusedSimpArgs false
set_option linter.unusedVariables false
namespace Go.Av
open Go.MapKept
def keyEq:Value→Value→Bool
 | .int _ a,.int _ b=>a == b
 | .string a,.string b=>a == b
 | .bool a,.bool b=>a == b
 | _,_=>false
def keyOk:TypeDesc→Value→Bool
 | .bool,.bool _=>true
 | .int k,.int k' _=>decide (k'=k)
 | .string,.string _=>true
 | _,_=>false
def entIdx (k:Value) (ents:List (Value×D)):Option Nat:=ents.findIdx? fun p=>keyEq k p.1
def entGet (k:Value) (ents:List (Value×D)):Option D:=(ents.find? fun p=>keyEq k p.1).map (·.2)
def entPut (k:Value) (x:D) (ents:List (Value×D)):List (Value×D):=match ents.findIdx? fun p=>keyEq k p.1 with
 | some j=>ents.set j (k,x)
 | none=>ents ++ [(k,x)]
theorem keyOk_is {d:TypeDesc} {v:Value} (h:keyOk d v=true):IsKey d v:=by
 cases d<;>cases v<;>simp_all [keyOk,IsKey]
theorem sameNow_keyEq {d:TypeDesc} {a b:Value} (ha:keyOk d a=true) (hb:keyOk d b=true):Instr.sameNow d a b=some (keyEq a b):=by
 cases d<;>cases a<;>simp [keyOk] at ha<;>cases b<;>simp [keyOk] at hb<;>simp [keyEq,Instr.sameNow,ha,hb]
theorem keyEq_eq {d:TypeDesc} {a b:Value} (ha:keyOk d a=true) (hb:keyOk d b=true) (h:keyEq a b=true):b=a:=by
 obtain ⟨r,h1,h2⟩:=sameNow_of_keys (keyOk_is ha) (keyOk_is hb)
 rw [sameNow_keyEq ha hb] at h1
 obtain rfl:=Option.some.inj h1
 have:=h2.1 h
 first | exact this | exact this.symm
theorem findNow_ents {d:TypeDesc} {k:Value} (hk:keyOk d k=true):∀ (l:List MapEntry) (ents:List (Value×D)) (i:Nat),l.map (·.key)=ents.map (·.1)→(∀ p∈ents,keyOk d p.1=true)→
  Instr.findNow d k l i=some ((entIdx k ents).map fun j=>(i+j,((l[j]?).map (·.val)).getD undef))
 | [],[],_,_,_=>rfl
 | [],_ :: _,_,h,_=>by simp at h
 | _ :: _,[],_,h,_=>by simp at h
 | e :: l,p :: ents,i,h,ho=>by
  simp only [List.map_cons,List.cons.injEq] at h
  obtain ⟨h1,h2⟩:=h
  have hp:=ho p (by simp)
  have hs:=sameNow_keyEq hk hp
  rw [← h1] at hs;simp only [Instr.findNow,hs]
  have ih:=findNow_ents hk l ents (i+1) h2 fun q hq=>ho q (by simp [hq])
  unfold entIdx at ih ⊢;rw [List.findIdx?_cons]
  cases hq:keyEq k p.1 with
  | true=>
   rw [← h1] at hq;simp [hq]
  | false=>
   have hq':keyEq k e.key=false:=by rw [h1];exact hq
   simp only [hq',Bool.false_eq_true,if_false,ih,Option.map_map,Option.some.injEq]
   congr 1
   funext j
   simp [Function.comp,Nat.add_assoc,Nat.add_comm 1 j]
theorem entGet_idx {k:Value} {ents:List (Value×D)}:entGet k ents=(entIdx k ents).bind fun j=>(ents[j]?).map (·.2):=by
 unfold entGet entIdx
 induction ents with
 | nil=>rfl
 | cons p ents ih=>
  rw [List.find?_cons,List.findIdx?_cons]
  cases h:keyEq k p.1 with
  | true=>simp
  | false=>
   simp only [ih,Bool.false_eq_true,if_false]
   cases List.findIdx? (fun p=>keyEq k p.1) ents with
   | none=>rfl
   | some j=>simp
def zeroM:Value→D
 | .agg arr=>.agg (arr.toList.map cstD)
 | v=>cstD v
theorem zeroM_ok {w:World} {X:Nat→Prop} (v:Value):RD w X v (zeroM v):=by
 unfold zeroM
 split
 ·rename_i arr
  refine .agg (by simp) fun j u c hu hc=>?_;simp only [List.getElem?_map,Array.getElem?_toList,hu,Option.map_some,Option.some.injEq] at hc;subst hc;exact cstD_ok u
 ·exact cstD_ok _
def ofOk (ok:Bool) (x:D) (b:Bool):D:=if ok then .tup [x,.v (.bool b)] else x
theorem ofOk_ok {w:World} {X:Nat→Prop} {ok b:Bool} {u:Value} {x:D} (h:RD w X u x):RD w X (if ok then .tuple #[u,.bool b] else u) (ofOk ok x b):=by
 unfold ofOk
 cases ok with
 | false=>exact h
 | true=>
  refine .tup rfl fun j u' c hu hc=>?_
  match j,hu,hc with
  | 0,hu,hc=>simp at hu hc;subst hu hc;exact h
  | 1,hu,hc=>simp at hu hc;subst hu hc;exact .v _
  | j+2,hu,hc=>simp at hu
def dmE (ents:List (Value×Value)):List (Value×D):=ents.map fun p=>(p.1,.v p.2)
def lookA (T:Ty) (H:Heap) (t:TypeId) (ok:Bool):AV→AV→Ans
 | .mp r,.d (.v k)=>match H r,T t with
  | some (.mp _ ents),some tt=>match tt.desc with
   | .map kt et=>match T kt,T et with
    | some tk,some te=>some (keyOk tk.desc k=true∧(∀ p∈ents,keyOk tk.desc p.1=true),.d (match entGet k ents with
     | some x=>ofOk ok x true
     | none=>ofOk ok (zeroM te.zero) false))
    | _,_=>none
   | _=>none
  | _,_=>none
 | .d (.dm _ ents),.d (.v k)=>match T t with
  | some tt=>match tt.desc with
   | .map kt et=>match T kt,T et with
    | some tk,some te=>some (keyOk tk.desc k=true∧(ents.map (·.1)).Nodup∧(∀ p∈dmE ents,keyOk tk.desc p.1=true),.d (match entGet k (dmE ents) with
     | some x=>ofOk ok x true
     | none=>ofOk ok (zeroM te.zero) false))
    | _,_=>none
   | _=>none
  | _=>none
 | _,_=>none
section
variable {P:Program} {T:Ty} {Mv X:Nat→Prop} {G:Glob} {N:Fr} {w:World} {μ:Mu} {a:Act} {σ:St}
theorem RV.mp_inv {u:Value} {r:Nat} (h:RV w X μ u (.mp r)):∃ m b,μ r=some m∧m.blk=some b∧u = .map (some b):=by
 generalize hy:AV.mp r=y at h
 cases h<;>cases hy
 exact ⟨_,_,by assumption,by assumption,rfl⟩
theorem Sim.map_at {H:Heap} (hs:Sim w X μ H) {r ty:Nat} {ents:List (Value×D)} (hH:H r=some (.mp ty ents)) {m:MRow} {b:Nat} (hm:μ r=some m) (hb:m.blk=some b) :
  ∃ es:Array MapEntry,w.heap[b]? = some (.map es es.size)∧es.size=ents.length∧(∀ (i:Nat) (e:MapEntry) (p:Value×D),es[i]? = some e→ents[i]? = some p→e.key=p.1∧e.born=i∧RD w (XX X μ) e.val p.2)∧es.toList.map (·.key)=ents.map (·.1):=by
 obtain ⟨m',hm',ok⟩:=hs.rows r _ hH
 rw [hm] at hm'
 obtain rfl:=Option.some.inj hm'
 cases ok with
 | mp hb' hh hn hr=>
  rename_i b' es
  rw [hb] at hb'
  obtain rfl:=Option.some.inj hb'
  refine ⟨es,hh,hn,hr,List.ext_getElem (by simpa using hn) fun i h1 h2=>?_⟩
  have h1':i < es.size:=by simpa using h1
  have h2':i < ents.length:=by simpa using h2
  have:=(hr i es[i] ents[i] (by simp [h1']) (by simp [h2'])).1
  simpa using this
theorem look_core (hg:Good P T) {t kt et:TypeId} {tt tk te:TI} {ok:Bool} {b:Nat} {v:Value} {es:Array MapEntry} {ents:List (Value×D)} (htt:T t=some tt) (hd:tt.desc = .map kt et) (hk:T kt=some tk) (he:T et=some te)
  (hh:w.heap[b]? = some (.map es es.size)) (hn:es.size=ents.length) (hr:∀ (i:Nat) (e:MapEntry) (p:Value×D),es[i]? = some e→ents[i]? = some p→e.key=p.1∧e.born=i∧RD w (XX X μ) e.val p.2) (hkeys:es.toList.map (·.key)=ents.map (·.1))
  (hc1:keyOk tk.desc v=true) (hc2:∀ p∈ents,keyOk tk.desc p.1=true) :
  ∃ r, (Instr.lookup t (.map (some b)) v ok).run P w = .ok r w ∧ RV w X μ r (.d (match entGet v ents with
        | some x=>ofOk ok x true
        | none=>ofOk ok (zeroM te.zero) false)):=by
 have hu:P.underlying t=some (.map kt et):=by rw [← hd];exact (hg _ _ htt).1
 have huk:P.underlying kt=some tk.desc:=(hg _ _ hk).1
 have hf:=run_findKey (P:=P) (w:=w) huk (findNow_ents hc1 es.toList ents 0 hkeys hc2)
 have hck:=fun e=>run_checkKey (P:=P) (w:=w) huk (keyOk_is hc1) e 9999
 cases hi:entIdx v ents with
 | none=>
  rw [hi] at hf;refine ⟨if ok then .tuple #[te.zero,.bool false] else te.zero,?_,.d ?_⟩
  ·simp only [Option.map_none] at hf;simp [Instr.lookup,run_underlying hu,MapKept.run_getObj_map hh,hck,hf,hg.zero he,Result.andThen]
  ·rw [entGet_idx,hi];exact ofOk_ok (zeroM_ok _)
 | some j=>
  rw [hi] at hf
  have hj:j < ents.length:=by
   unfold entIdx at hi;rw [List.findIdx?_eq_some_iff_getElem] at hi;exact hi.1
  have hj':j < es.size:=by omega
  refine ⟨if ok then .tuple #[es[j].val,.bool true] else es[j].val,?_,.d ?_⟩
  ·simp only [Option.map_some,Nat.zero_add] at hf;simp [hj'] at hf;simp [Instr.lookup,run_underlying hu,MapKept.run_getObj_map hh,hck,hf,Result.andThen]
  ·rw [entGet_idx,hi];simp only [Option.bind_some,List.getElem?_eq_getElem hj,Option.map_some];exact ofOk_ok (hr j es[j] ents[j] (by simp [hj']) (by simp [hj])).2.2
theorem dmE_ok {ents:List (Value×Value)}:(mkEs ents).size=(dmE ents).length∧(∀ (i:Nat) (e:MapEntry) (p:Value×D),(mkEs ents)[i]? = some e→(dmE ents)[i]? = some p→e.key=p.1∧e.born=i∧RD w (XX X μ) e.val p.2)∧(mkEs ents).toList.map (·.key)=(dmE ents).map (·.1):=by
 refine ⟨by simp [mkEs_size,dmE],fun i e p he hp=>?_,?_⟩
 ·have hi:i < ents.length:=by have:=(Array.getElem?_eq_some_iff.1 he).1;rwa [mkEs_size] at this
  rw [mkEs_at hi] at he
  obtain rfl:=Option.some.inj he
  simp only [dmE,List.getElem?_map,List.getElem?_eq_getElem hi,Option.map_some,Option.some.injEq] at hp;subst hp;exact ⟨rfl,rfl,.v _⟩
 ·refine List.ext_getElem (by simp [mkEs_size,dmE]) fun i h1 h2=>?_
  have hi:i < ents.length:=by simpa [dmE] using h2
  have h3:=mkEs_at hi
  have h4:i < (mkEs ents).size:=by rw [mkEs_size];exact hi
  rw [Array.getElem?_eq_getElem h4] at h3
  have h5:=Option.some.inj h3
  simp [dmE,h5]
theorem _root_.Go.Av.RD.dm_inv {X:Nat→Prop} {u:Value} {x:Bool} {ents:List (Value×Value)} (h:RD w X u (.dm x ents)):∃ b es,u = .map (some b)∧w.heap[b]? = some (.map (mkEs es) es.length)∧es.Perm ents:=by
 generalize hq:D.dm x ents=q at h
 cases h<;>cases hq
 exact ⟨_,_,rfl,by assumption,by assumption⟩
theorem entGet_perm {d:TypeDesc} {es ents:List (Value×Value)} {k:Value} (hp:es.Perm ents) (hn:(ents.map (·.1)).Nodup) (hk:keyOk d k=true) (ho:∀ p∈dmE ents,keyOk d p.1=true):entGet k (dmE es)=entGet k (dmE ents):=by
 have one:∀ p∈ents,keyEq k p.1=true→p.1=k:=fun p hp1 h=>keyEq_eq hk (ho (p.1,.v p.2) (List.mem_map.2 ⟨p,hp1,rfl⟩)) h
 have uniq:∀ p∈ents,∀ q∈ents,p.1=q.1→p=q:=by
  have key:∀ l:List (Value×Value),(l.map (·.1)).Nodup→∀ p∈l,∀ q∈l,p.1=q.1→p=q:=by
   intro l
   induction l with
   | nil=>intro _ p hp;cases hp
   | cons x l ih=>
    intro hn p hp q hq e
    rw [List.map_cons,List.nodup_cons] at hn
    rcases List.mem_cons.1 hp with e1 | hp1
    ·rcases List.mem_cons.1 hq with e2 | hq1
     ·rw [e1,e2]
     ·exact absurd (List.mem_map.2 ⟨q,hq1,by rw [← e,e1]⟩) hn.1
    ·rcases List.mem_cons.1 hq with e2 | hq1
     ·exact absurd (List.mem_map.2 ⟨p,hp1,by rw [e,e2]⟩) hn.1
     ·exact ih hn.2 p hp1 q hq1 e
  exact key ents hn
 have e1:∀ l:List (Value×Value),entGet k (dmE l)=(l.find? fun p=>keyEq k p.1).map fun p=>.v p.2:=fun l=>by
  unfold entGet dmE;rw [List.find?_map]
  cases h:l.find? ((fun p:Value×D=>keyEq k p.1) ∘ fun p=>(p.1,D.v p.2)) with
  | none=>simp only [Function.comp_def] at h;rw [h];rfl
  | some p=>simp only [Function.comp_def] at h;rw [h];rfl
 rw [e1,e1]
 cases h1:es.find? fun p=>keyEq k p.1 with
 | some p=>
  have hp1:=hp.mem_iff.1 (List.mem_of_find?_eq_some h1)
  have hp2:=List.find?_some h1
  cases h2:ents.find? fun p=>keyEq k p.1 with
  | none=>exact absurd hp2 (by simpa using List.find?_eq_none.1 h2 p hp1)
  | some q=>
   have hq1:=List.mem_of_find?_eq_some h2
   have hq2:=List.find?_some h2
   rw [uniq p hp1 q hq1 ((one p hp1 hp2).trans (one q hq1 hq2).symm)]
 | none=>
  cases h2:ents.find? fun p=>keyEq k p.1 with
  | none=>rfl
  | some q=>
   have hq1:=hp.mem_iff.2 (List.mem_of_find?_eq_some h2)
   exact absurd (List.find?_some h2) (by simpa using List.find?_eq_none.1 h1 q hq1)
theorem lookA_ok (hg:Good P T) (hs:Sim w X μ σ.H) {t:TypeId} {ok:Bool} {u v:Value} {x y z:AV} {c:Prop} (h:lookA T σ.H t ok x y=some (c,z)) (hc:c) (hx:RV w X μ u x) (hy:RV w X μ v y) :
  ∃ r,(Instr.lookup t u v ok).run P w = .ok r w∧RV w X μ r z:=by
 unfold lookA at h
 split at h
 ·rename_i r k
  split at h
  ·rename_i ty ents tt hH htt
   split at h
   ·rename_i kt et hd
    split at h
    ·rename_i tk te hk he
     simp only [Option.some.injEq,Prod.mk.injEq] at h
     obtain ⟨rfl,rfl⟩:=h
     obtain ⟨hc1,hc2⟩:=hc
     obtain ⟨m,b,hm,hb,rfl⟩:=hx.mp_inv
     have hv:=hy.scalar
     subst hv
     obtain ⟨es,hh,hn,hr,hkeys⟩:=hs.map_at hH hm hb
     exact look_core hg htt hd hk he hh hn hr hkeys hc1 hc2
    ·cases h
   ·cases h
  ·cases h
 ·rename_i ents k
  split at h
  ·rename_i tt htt
   split at h
   ·rename_i kt et hd
    split at h
    ·rename_i tk te hk he
     simp only [Option.some.injEq,Prod.mk.injEq] at h
     obtain ⟨rfl,rfl⟩:=h
     obtain ⟨hc1,hc0,hc2⟩:=hc
     have hv:=hy.scalar
     subst hv
     have hxd:=hx.data
     obtain ⟨b,es,hu,hh,hp⟩:=hxd.dm_inv
     subst hu
     obtain ⟨d1,d2,d3⟩:=dmE_ok (w:=w) (X:=X) (μ:=μ) (ents:=es)
     have hc3:∀ p∈dmE es,keyOk tk.desc p.1=true:=fun p hp2=>hc2 p ((hp.map _).mem_iff.1 hp2)
     rw [← entGet_perm hp hc0 hc1 hc2];exact look_core hg htt hd hk he (by rw [hh,mkEs_size]) d1 d2 d3 hc1 hc3
    ·cases h
   ·cases h
  ·cases h
 ·cases h
theorem makeMapA_ok (hi:In w X G μ N a σ) {d:Nat} (hd:σ.H d=none) (t:TypeId):Does Mv X G N w μ a ((Instr.makeMap t none).run P w) (.mp d) ⟨σ.env,hup σ.H d (.mp t [])⟩:=by
 have hb:(w.alloc (.map #[] 0)).heap[w.heap.size]? = some (.map #[] 0):=by rw [← World.alloc_eq];simp
 obtain ⟨hin,hev⟩:=hi.alloc (Mv:=Mv) hd (Grew.alloc w (.map #[] 0)) (m:=⟨some w.heap.size,1,0⟩) (fun b hb=>by simp at hb;omega) (row:=.mp t []) fun _=>.mp rfl hb rfl (by simp)
 exact ⟨.map (some w.heap.size),_,_,rfl,hin,.mp (m:=⟨some w.heap.size,1,0⟩) (by simp [mup]) rfl,hev⟩
def putM (T:Ty) (t:TypeId) (ents:List (Value×D)) (k:Value) (x:D):Option (Prop×List (Value×D)):=match T t with
 | some tt=>match tt.desc with
  | .map kt _=>match T kt with
   | some tk=>some (keyOk tk.desc k=true∧(∀ p∈ents,keyOk tk.desc p.1=true),entPut k x ents)
   | none=>none
  | _=>none
 | none=>none
theorem mapUpdateA_ok (hg:Good P T) (hi:In w X G μ N a σ) {t ty:TypeId} {r:Nat} {ents ents':List (Value×D)} {um uk uv k:Value} {x:D} {c:Prop} (hH:σ.H r=some (.mp ty ents)) (h:putM T t ents k x=some (c,ents')) (hc:c)
  (hm:RV w X μ um (.mp r)) (hk:RV w X μ uk (.d (.v k))) (hx:RV w X μ uv (.d x)) :
  ∃ w',(Instr.mapUpdate t um uk uv).run P w = .ok () w'∧In w' X G μ N a ⟨σ.env,hup σ.H r (.mp ty ents')⟩∧Ev Mv w μ w' μ:=by
 unfold putM at h
 split at h
 ·rename_i tt htt
  split at h
  ·rename_i kt et hd
   split at h
   ·rename_i tk hkt
    simp only [Option.some.injEq,Prod.mk.injEq] at h
    obtain ⟨rfl,rfl⟩:=h
    obtain ⟨hc1,hc2⟩:=hc
    obtain ⟨m,b,hmr,hb,rfl⟩:=hm.mp_inv
    obtain rfl:=hk.scalar
    obtain ⟨es,hh,hn,hr,hkeys⟩:=hi.sim.map_at hH hmr hb
    have hu:P.underlying t=some (.map kt et):=by rw [← hd];exact (hg _ _ htt).1
    have huk:P.underlying kt=some tk.desc:=(hg _ _ hkt).1
    have hf:=run_findKey (P:=P) (w:=w) huk (findNow_ents hc1 es.toList ents 0 hkeys hc2)
    have hck:=run_checkKey (P:=P) (w:=w) huk (keyOk_is hc1) false 9999
    have hlt:b < w.heap.size:=(Array.getElem?_eq_some_iff.1 hh).1
    have hxd:=hx.data
    have write:∀ (es':Array MapEntry) (ents':List (Value×D)),es'.size=ents'.length→(∀ (i:Nat) (e:MapEntry) (p:Value×D),es'[i]? = some e→ents'[i]? = some p→e.key=p.1∧e.born=i∧RD w (XX X μ) e.val p.2)→
      In { w with heap:=w.heap.setIfInBounds b (.map es' es'.size) } X G μ N a ⟨σ.env,hup σ.H r (.mp ty ents')⟩∧Ev Mv w μ { w with heap:=w.heap.setIfInBounds b (.map es' es'.size) } μ:=fun es' ents' hl hr'=>
     hi.write (Mv:=Mv) (w':={ w with heap:=w.heap.setIfInBounds b (.map es' es'.size) }) hmr hb (by simp) rfl rfl rfl (fun k hk=>by simp [Array.getElem?_setIfInBounds_ne (Ne.symm hk)]) fun ev=>.mp hb (by simp [hlt]) hl fun i e p he hp=>let ⟨h1,h2,h3⟩:=hr' i e p he hp;⟨h1,h2,h3.ev ev⟩
    unfold entPut
    cases hj0:entIdx uk ents with
    | none=>
     have hj1:(ents.findIdx? fun p=>keyEq uk p.1)=none:=hj0
     rw [hj0] at hf;simp only [Option.map_none] at hf
     obtain ⟨h1,h2⟩:=write (es.push { key:=uk,val:=uv,born:=es.size }) (ents ++ [(uk,x)]) (by simp [hn]) (fun i e p he hp=>by
      rw [Array.getElem?_push] at he
      split at he
      ·rename_i hi'
       obtain rfl:=Option.some.inj he
       subst hi';rw [hn,List.getElem?_append_right (Nat.le_refl _),Nat.sub_self] at hp
       obtain rfl:=Option.some.inj hp
       exact ⟨rfl,rfl,hxd⟩
      ·have hi':i < ents.length:=by have:=(Array.getElem?_eq_some_iff.1 he).1;omega
       rw [List.getElem?_append_left hi'] at hp
       exact hr i e p he hp)
     refine ⟨_,?_,by rw [hj1];exact h1,h2⟩;simp [Instr.mapUpdate,run_underlying hu,MapKept.run_getObj_map hh,hck,hf,Result.andThen,MapKept.run_setObj_map _ hh]
    | some j=>
     have hj1:(ents.findIdx? fun p=>keyEq uk p.1)=some j:=hj0
     have hj2:=List.findIdx?_eq_some_iff_getElem.1 hj1
     obtain ⟨hj,hke,_⟩:=hj2
     have hj':j < es.size:=by omega
     rw [hj0] at hf;simp only [Option.map_some,Nat.zero_add] at hf
     have hkj:es[j].key=uk:=by
      rw [(hr j es[j] ents[j] (by simp [hj']) (by simp [hj])).1];exact keyEq_eq hc1 (hc2 _ (List.getElem_mem hj)) hke
     obtain ⟨h1,h2⟩:=write (es.modify j fun e=>{ e with key:=uk,val:=uv }) (ents.set j (uk,x)) (by simp [hn]) (fun i e p he hp=>by
      rw [Array.getElem?_modify] at he;rw [List.getElem?_set] at hp
      by_cases hji:j=i
      ·subst hji;rw [if_pos rfl,if_pos hj] at hp
       obtain rfl:=Option.some.inj hp
       simp [hj'] at he;subst he;exact ⟨rfl,(hr j es[j] ents[j] (by simp [hj']) (by simp [hj])).2.1,hxd⟩
      ·rw [if_neg hji] at hp he
       exact hr i e p he hp)
     refine ⟨_,?_,by rw [hj1];exact h1,h2⟩
     have hst:=run_keyThatStays (P:=P) (w:=w) (keyOk_is hc1)
     simp [hj'] at hf;simp [Instr.mapUpdate,run_underlying hu,MapKept.run_getObj_map hh,hck,hf,Result.andThen,MapKept.run_setObj_map _ hh,hj',hkj,hst]
   ·cases h
  ·cases h
 ·cases h
end
end Go.Av
