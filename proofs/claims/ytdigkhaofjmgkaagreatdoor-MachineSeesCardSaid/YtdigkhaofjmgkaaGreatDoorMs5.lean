/- Parts. -/
import Derived.Test.YtdigkhaofjmgkaaGreatDoorMs4
import Derived.MapKept
set_option linter.unusedSectionVars false
set_option linter.unusedSimpArgs false
set_option linter.unusedVariables false
namespace Go.Av
open Go.MapKept
def fE:Value->Value->Bool
 | .int _ a,.int _ b=>a == b
 | .string a,.string b=>a == b
 | .bool a,.bool b=>a == b
 | _,_=>false
def ab2:TypeDesc->Value->Bool
 | .bool,.bool _=>true
 | .int k,.int k' _=>decide (k'=k)
 | .string,.string _=>true
 | _,_=>false
def re (k:Value) (ents:List (Value×D)):Option Nat:=ents.findIdx? fun p=>fE k p.1
def abW (k:Value) (ents:List (Value×D)):Option D:=(ents.find? fun p=>fE k p.1).map (·.2)
def oG (k:Value) (x:D) (ents:List (Value×D)):List (Value×D):=match ents.findIdx? fun p=>fE k p.1 with
 | some j=>ents.set j (k,x)
 | none=>ents ++ [(k,x)]
theorem aeo {d:TypeDesc} {v:Value} (h:ab2 d v=true):IsKey d v:=by
 cases d<;>cases v<;>simp_all [ab2,IsKey]
theorem EA {d:TypeDesc} {a b:Value} (ha:ab2 d a=true) (hb:ab2 d b=true):Instr.sameNow d a b=some (fE a b):=by
 cases d<;>cases a<;>simp[ab2]at ha<;>cases b<;>simp[ab2]at hb<;>simp[fE,Instr.sameNow,ha,hb]
theorem Dp {d:TypeDesc} {a b:Value} (ha:ab2 d a=true) (hb:ab2 d b=true) (h:fE a b=true):b=a:=by
 obtain⟨r,h1,h2⟩:=sameNow_of_keys (aeo ha) (aeo hb);rw[EA ha hb]at h1;obtain rfl:=Option.some.inj h1;have:=h2.1 h
 first | exact this | exact this.symm
theorem BG {d:TypeDesc} {k:Value} (hk:ab2 d k=true):∀ (l:List MapEntry) (ents:List (Value×D)) (i:Nat),l.map (·.key)=ents.map (·.1)->(∀ p∈ents,ab2 d p.1=true)->
  Instr.findNow d k l i=some ((re k ents).map fun j=>(i+j,((l[j]?).map (·.val)).getD undef))
 | [],[],_,_,_=>rfl
 | [],_ :: _,_,h,_=>by simp at h
 | _ :: _,[],_,h,_=>by simp at h
 | e :: l,p :: ents,i,h,ho=>by
  simp only[List.map_cons,List.cons.injEq]at h;obtain⟨h1,h2⟩:=h;have hp:=ho p (by simp);have hs:=EA hk hp;rw[<- h1]at hs;simp only[Instr.findNow,hs];have ih:=BG hk l ents (i+1) h2 fun q hq=>ho q (by simp[hq]);unfold re at ih ⊢;rw[List.findIdx?_cons]
  cases hq:fE k p.1 with
  | true=>
   rw[<- h1]at hq;simp[hq]
  | false=>
   have hq':fE k e.key=false:=by rw[h1];exact hq
   simp only[hq',Bool.false_eq_true,if_false,ih,Option.map_map,Option.some.injEq];congr 1;funext j;simp[Function.comp,Nat.add_assoc,Nat.add_comm 1 j]
theorem Gi {k:Value} {ents:List (Value×D)}:abW k ents=(re k ents).bind fun j=>(ents[j]?).map (·.2):=by
 unfold abW re
 induction ents with
 | nil=>rfl
 | cons p ents ih=>
  rw[List.find?_cons,List.findIdx?_cons]
  cases h:fE k p.1 with
  | true=>simp
  | false=>
   simp only[ih,Bool.false_eq_true,if_false]
   cases List.findIdx? (fun p=>fE k p.1) ents with
   | none=>rfl
   | some j=>simp
def bQ:Value->D
 | .agg arr=>.agg (arr.toList.map oB)
 | v=>oB v
theorem YO {w:World} {X:Nat->Prop} (v:Value):RD w X v (bQ v):=by
 unfold bQ;split
 .rename_i arr;refine .agg (by simp) fun j u c hu hc=>?_;simp only[List.getElem?_map,Array.getElem?_toList,hu,Option.map_some,Option.some.injEq]at hc;subst hc;exact td u
 .exact td _
def aa7 (ok:Bool) (x:D) (b:Bool):D:=if ok then .tup [x,.v (.bool b)] else x
theorem afN {w:World} {X:Nat->Prop} {ok b:Bool} {u:Value} {x:D} (h:RD w X u x):RD w X (if ok then .tuple #[u,.bool b] else u) (aa7 ok x b):=by
 unfold aa7
 cases ok with
 | false=>exact h
 | true=>
  refine .tup rfl fun j u' c hu hc=>?_
  match j,hu,hc with
  | 0,hu,hc=>simp at hu hc;subst hu hc;exact h
  | 1,hu,hc=>simp at hu hc;subst hu hc;exact .v _
  | j+2,hu,hc=>simp at hu
def cj (ents:List (Value×Value)):List (Value×D):=ents.map fun p=>(p.1,.v p.2)
def ac6 (T:Ty) (H:Heap) (t:TypeId) (ok:Bool):AV->AV->Ans
 | .mp r,.d (.v k)=>match H r,T t with
  | some (.mp _ ents),some tt=>match tt.desc with
   | .map kt et=>match T kt,T et with
    | some tk,some te=>some (ab2 tk.desc k=true/\(∀ p∈ents,ab2 tk.desc p.1=true),.d (match abW k ents with
     | some x=>aa7 ok x true
     | none=>aa7 ok (bQ te.zero) false))
    | _,_=>none
   | _=>none
  | _,_=>none
 | .d (.dm _ ents),.d (.v k)=>match T t with
  | some tt=>match tt.desc with
   | .map kt et=>match T kt,T et with
    | some tk,some te=>some (ab2 tk.desc k=true/\(ents.map (·.1)).Nodup/\(∀ p∈cj ents,ab2 tk.desc p.1=true),.d (match abW k (cj ents) with
     | some x=>aa7 ok x true
     | none=>aa7 ok (bQ te.zero) false))
    | _,_=>none
   | _=>none
  | _=>none
 | _,_=>none
section
variable {P:Program} {T:Ty} {Mv X:Nat->Prop} {G:ao} {N:Fr} {w:World} {μ:Mu} {a:Act} {σ:St}
theorem RV.DS {u:Value} {r:Nat} (h:RV w X μ u (.mp r)):∃ m b,μ r=some m/\m.dy=some b/\u = .map (some b):=by
 generalize hy:AV.mp r=y at h;cases h<;>cases hy;exact⟨_,_,by assumption,by assumption,rfl⟩
theorem Sim.DJ {H:Heap} (hs:Sim w X μ H) {r ty:Nat} {ents:List (Value×D)} (hH:H r=some (.mp ty ents)) {m:gn} {b:Nat} (hm:μ r=some m) (hb:m.dy=some b) :
  ∃ es:Array MapEntry,w.heap[b]? = some (.map es es.size)/\es.size=ents.length/\(∀ (i:Nat) (e:MapEntry) (p:Value×D),es[i]? = some e->ents[i]? = some p->e.key=p.1/\e.born=i/\RD w (XX X μ) e.val p.2)/\es.toList.map (·.key)=ents.map (·.1):=by
 obtain⟨m',bU,ok⟩:=hs.rows r _ hH;rw[hm]at bU;obtain rfl:=Option.some.inj bU
 cases ok with
 | mp aT hh hn hr=>
  rename_i b' es;rw[hb]at aT;obtain rfl:=Option.some.inj aT;refine⟨es,hh,hn,hr,List.ext_getElem (by simpa using hn) fun i h1 h2=>?_⟩
  have BI:i < es.size:=by simpa using h1
  have gr:i < ents.length:=by simpa using h2
  have:=(hr i es[i] ents[i] (by simp[BI]) (by simp[gr])).1;simpa using this
theorem IZ (hg:Good P T) {t kt et:TypeId} {tt tk te:TI} {ok:Bool} {b:Nat} {v:Value} {es:Array MapEntry} {ents:List (Value×D)} (cJ:T t=some tt) (hd:tt.desc = .map kt et) (hk:T kt=some tk) (he:T et=some te)
  (hh:w.heap[b]? = some (.map es es.size)) (hn:es.size=ents.length) (hr:∀ (i:Nat) (e:MapEntry) (p:Value×D),es[i]? = some e->ents[i]? = some p->e.key=p.1/\e.born=i/\RD w (XX X μ) e.val p.2) (wh:es.toList.map (·.key)=ents.map (·.1))
  (fk:ab2 tk.desc v=true) (fU:∀ p∈ents,ab2 tk.desc p.1=true) :
  ∃ r, (Instr.lookup t (.map (some b)) v ok).run P w = .ok r w /\ RV w X μ r (.d (match abW v ents with
        | some x=>aa7 ok x true
        | none=>aa7 ok (bQ te.zero) false)):=by
 have hu:P.underlying t=some (.map kt et):=by rw[<- hd];exact (hg _ _ cJ).1
 have wI:P.underlying kt=some tk.desc:=(hg _ _ hk).1;have hf:=run_findKey (P:=P) (w:=w) wI (BG fk es.toList ents 0 wh fU);have aN:=fun e=>run_checkKey (P:=P) (w:=w) wI (aeo fk) e 9999
 cases hi:re v ents with
 | none=>
  rw[hi]at hf;refine⟨if ok then .tuple #[te.zero,.bool false] else te.zero,?_,.d ?_⟩
  .simp only[Option.map_none]at hf;simp[Instr.lookup,run_underlying hu,MapKept.run_getObj_map hh,aN,hf,hg.zero he,Result.andThen]
  .rw[Gi,hi];exact afN (YO _)
 | some j=>
  rw[hi]at hf
  have hj:j < ents.length:=by
   unfold re at hi;rw[List.findIdx?_eq_some_iff_getElem]at hi;exact hi.1
  have hj':j < es.size:=by omega
  refine⟨if ok then .tuple #[es[j].val,.bool true] else es[j].val,?_,.d ?_⟩
  .simp only[Option.map_some,Nat.zero_add]at hf;simp[hj']at hf;simp[Instr.lookup,run_underlying hu,MapKept.run_getObj_map hh,aN,hf,Result.andThen]
  .rw[Gi,hi];simp only[Option.bind_some,List.getElem?_eq_getElem hj,Option.map_some];exact afN (hr j es[j] ents[j] (by simp[hj']) (by simp[hj])).2.2
theorem aga {ents:List (Value×Value)}:(gN ents).size=(cj ents).length/\(∀ (i:Nat) (e:MapEntry) (p:Value×D),(gN ents)[i]? = some e->(cj ents)[i]? = some p->e.key=p.1/\e.born=i/\RD w (XX X μ) e.val p.2)/\(gN ents).toList.map (·.key)=(cj ents).map (·.1):=by
 refine⟨by simp[adh,cj],fun i e p he hp=>?_,?_⟩
 .have hi:i < ents.length:=by have:=(Array.getElem?_eq_some_iff.1 he).1;rwa [adh]at this
  rw[aeL hi]at he;obtain rfl:=Option.some.inj he;simp only[cj,List.getElem?_map,List.getElem?_eq_getElem hi,Option.map_some,Option.some.injEq]at hp;subst hp;exact⟨rfl,rfl,.v _⟩
 .refine List.ext_getElem (by simp[adh,cj]) fun i h1 h2=>?_
  have hi:i < ents.length:=by simpa[cj]using h2
  have h3:=aeL hi
  have h4:i < (gN ents).size:=by rw[adh];exact hi
  rw[Array.getElem?_eq_getElem h4]at h3;have h5:=Option.some.inj h3;simp[cj,h5]
theorem _root_.Go.Av.RD.NO {X:Nat->Prop} {u:Value} {x:Bool} {ents:List (Value×Value)} (h:RD w X u (.dm x ents)):∃ b es,u = .map (some b)/\w.heap[b]? = some (.map (gN es) es.length)/\es.Perm ents:=by
 generalize hq:D.dm x ents=q at h;cases h<;>cases hq;exact⟨_,_,rfl,by assumption,by assumption⟩
theorem N7 {d:TypeDesc} {es ents:List (Value×Value)} {k:Value} (hp:es.Perm ents) (hn:(ents.map (·.1)).Nodup) (hk:ab2 d k=true) (ho:∀ p∈cj ents,ab2 d p.1=true):abW k (cj es)=abW k (cj ents):=by
 have one:∀ p∈ents,fE k p.1=true->p.1=k:=fun p eh h=>Dp hk (ho (p.1,.v p.2) (List.mem_map.2 ⟨p,eh,rfl⟩)) h
 have uniq:∀ p∈ents,∀ q∈ents,p.1=q.1->p=q:=by
  have key:∀ l:List (Value×Value),(l.map (·.1)).Nodup->∀ p∈l,∀ q∈l,p.1=q.1->p=q:=by
   intro l
   induction l with
   | nil=>intro _ p hp;cases hp
   | cons x l ih=>
    intro hn p hp q hq e;rw[List.map_cons,List.nodup_cons]at hn
    rcases List.mem_cons.1 hp with e1 | eh
    .rcases List.mem_cons.1 hq with e2 | hq1
     .rw[e1,e2]
     .exact absurd (List.mem_map.2 ⟨q,hq1,by rw[<- e,e1]⟩) hn.1
    .rcases List.mem_cons.1 hq with e2 | hq1
     .exact absurd (List.mem_map.2 ⟨p,eh,by rw[e,e2]⟩) hn.1
     .exact ih hn.2 p eh q hq1 e
  exact key ents hn
 have e1:∀ l:List (Value×Value),abW k (cj l)=(l.find? fun p=>fE k p.1).map fun p=>.v p.2:=fun l=>by
  unfold abW cj;rw[List.find?_map]
  cases h:l.find? ((fun p:Value×D=>fE k p.1) ∘ fun p=>(p.1,D.v p.2)) with
  | none=>simp only[Function.comp_def]at h;rw[h];rfl
  | some p=>simp only[Function.comp_def]at h;rw[h];rfl
 rw[e1,e1]
 cases h1:es.find? fun p=>fE k p.1 with
 | some p=>
  have eh:=hp.mem_iff.1 (List.mem_of_find?_eq_some h1);have hp2:=List.find?_some h1
  cases h2:ents.find? fun p=>fE k p.1 with
  | none=>exact absurd hp2 (by simpa using List.find?_eq_none.1 h2 p eh)
  | some q=>
   have hq1:=List.mem_of_find?_eq_some h2;have dY:=List.find?_some h2;rw[uniq p eh q hq1 ((one p eh hp2).trans (one q hq1 dY).symm)]
 | none=>
  cases h2:ents.find? fun p=>fE k p.1 with
  | none=>rfl
  | some q=>
   have hq1:=hp.mem_iff.2 (List.mem_of_find?_eq_some h2);exact absurd (List.find?_some h2) (by simpa using List.find?_eq_none.1 h1 q hq1)
theorem S4 (hg:Good P T) (hs:Sim w X μ σ.H) {t:TypeId} {ok:Bool} {u v:Value} {x y z:AV} {c:Prop} (h:ac6 T σ.H t ok x y=some (c,z)) (hc:c) (hx:RV w X μ u x) (hy:RV w X μ v y) :
  ∃ r,(Instr.lookup t u v ok).run P w = .ok r w/\RV w X μ r z:=by
 unfold ac6 at h;split at h
 .rename_i r k;split at h
  .rename_i ty ents tt hH cJ;split at h
   .rename_i kt et hd;split at h
    .rename_i tk te hk he;simp only[Option.some.injEq,Prod.mk.injEq]at h;obtain⟨rfl,rfl⟩:=h;obtain⟨fk,fU⟩:=hc;obtain⟨m,b,hm,hb,rfl⟩:=hx.DS;have hv:=hy.scalar;subst hv;obtain⟨es,hh,hn,hr,wh⟩:=hs.DJ hH hm hb;exact IZ hg cJ hd hk he hh hn hr wh fk fU
    .cases h
   .cases h
  .cases h
 .rename_i ents k;split at h
  .rename_i tt cJ;split at h
   .rename_i kt et hd;split at h
    .rename_i tk te hk he;simp only[Option.some.injEq,Prod.mk.injEq]at h;obtain⟨rfl,rfl⟩:=h;obtain⟨fk,hU,fU⟩:=hc;have hv:=hy.scalar;subst hv;have y9:=hx.data;obtain⟨b,es,hu,hh,hp⟩:=y9.NO;subst hu;obtain⟨d1,d2,d3⟩:=aga (w:=w) (X:=X) (μ:=μ) (ents:=es);have PR:∀ p∈cj es,ab2 tk.desc p.1=true:=fun p hp2=>fU p ((hp.map _).mem_iff.1 hp2);rw[<- N7 hp hU fk fU];exact IZ hg cJ hd hk he (by rw[hh,adh]) d1 d2 d3 fk PR
    .cases h
   .cases h
  .cases h
 .cases h
theorem Te (hi:In w X G μ N a σ) {d:Nat} (hd:σ.H d=none) (t:TypeId):ku Mv X G N w μ a ((Instr.makeMap t none).run P w) (.mp d) ⟨σ.env,aL σ.H d (.mp t [])⟩:=by
 have hb:(w.alloc (.map #[] 0)).heap[w.heap.size]? = some (.map #[] 0):=by rw[<- World.alloc_eq];simp
 obtain⟨aF,aJ⟩:=hi.alloc (Mv:=Mv) hd (bY.alloc w (.map #[] 0)) (m:=⟨some w.heap.size,1,0⟩) (fun b hb=>by simp at hb;omega) (row:=.mp t []) fun _=>.mp rfl hb rfl (by simp);exact⟨.map (some w.heap.size),_,_,rfl,aF,.mp (m:=⟨some w.heap.size,1,0⟩) (by simp[cR]) rfl,aJ⟩
def xl (T:Ty) (t:TypeId) (ents:List (Value×D)) (k:Value) (x:D):Option (Prop×List (Value×D)):=match T t with
 | some tt=>match tt.desc with
  | .map kt _=>match T kt with
   | some tk=>some (ab2 tk.desc k=true/\(∀ p∈ents,ab2 tk.desc p.1=true),oG k x ents)
   | none=>none
  | _=>none
 | none=>none
theorem I3 (hg:Good P T) (hi:In w X G μ N a σ) {t ty:TypeId} {r:Nat} {ents iL:List (Value×D)} {um uk uv k:Value} {x:D} {c:Prop} (hH:σ.H r=some (.mp ty ents)) (h:xl T t ents k x=some (c,iL)) (hc:c)
  (hm:RV w X μ um (.mp r)) (hk:RV w X μ uk (.d (.v k))) (hx:RV w X μ uv (.d x)) :
  ∃ w',(Instr.mapUpdate t um uk uv).run P w = .ok () w'/\In w' X G μ N a ⟨σ.env,aL σ.H r (.mp ty iL)⟩/\Ev Mv w μ w' μ:=by
 unfold xl at h;split at h
 .rename_i tt cJ;split at h
  .rename_i kt et hd;split at h
   .rename_i tk hkt;simp only[Option.some.injEq,Prod.mk.injEq]at h;obtain⟨rfl,rfl⟩:=h;obtain⟨fk,fU⟩:=hc;obtain⟨m,b,tR,hb,rfl⟩:=hm.DS;obtain rfl:=hk.scalar;obtain⟨es,hh,hn,hr,wh⟩:=hi.aY.DJ hH tR hb
    have hu:P.underlying t=some (.map kt et):=by rw[<- hd];exact (hg _ _ cJ).1
    have wI:P.underlying kt=some tk.desc:=(hg _ _ hkt).1;have hf:=run_findKey (P:=P) (w:=w) wI (BG fk es.toList ents 0 wh fU);have aN:=run_checkKey (P:=P) (w:=w) wI (aeo fk) false 9999;have ay:b < w.heap.size:=(Array.getElem?_eq_some_iff.1 hh).1;have y9:=hx.data
    have write:∀ (oI:Array MapEntry) (iL:List (Value×D)),oI.size=iL.length->(∀ (i:Nat) (e:MapEntry) (p:Value×D),oI[i]? = some e->iL[i]? = some p->e.key=p.1/\e.born=i/\RD w (XX X μ) e.val p.2)->
      In { w with heap:=w.heap.setIfInBounds b (.map oI oI.size) } X G μ N a ⟨σ.env,aL σ.H r (.mp ty iL)⟩/\Ev Mv w μ { w with heap:=w.heap.setIfInBounds b (.map oI oI.size) } μ:=fun oI iL hl hr'=>
     hi.write (Mv:=Mv) (w':={ w with heap:=w.heap.setIfInBounds b (.map oI oI.size) }) tR hb (by simp) rfl rfl rfl (fun k hk=>by simp[Array.getElem?_setIfInBounds_ne (Ne.symm hk)]) fun ev=>.mp hb (by simp[ay]) hl fun i e p he hp=>let ⟨h1,h2,h3⟩:=hr' i e p he hp;⟨h1,h2,h3.ev ev⟩
    unfold oG
    cases jt:re uk ents with
    | none=>
     have ia:(ents.findIdx? fun p=>fE uk p.1)=none:=jt;rw[jt]at hf;simp only[Option.map_none]at hf
     obtain⟨h1,h2⟩:=write (es.push { key:=uk,val:=uv,born:=es.size }) (ents ++ [(uk,x)]) (by simp[hn]) (fun i e p he hp=>by
      rw[Array.getElem?_push]at he;split at he
      .rename_i hi';obtain rfl:=Option.some.inj he;subst hi';rw[hn,List.getElem?_append_right (Nat.le_refl _),Nat.sub_self]at hp;obtain rfl:=Option.some.inj hp;exact⟨rfl,rfl,y9⟩
      .have hi':i < ents.length:=by have:=(Array.getElem?_eq_some_iff.1 he).1;omega
       rw[List.getElem?_append_left hi']at hp
       exact hr i e p he hp)
     refine⟨_,?_,by rw[ia];exact h1,h2⟩;simp[Instr.mapUpdate,run_underlying hu,MapKept.run_getObj_map hh,aN,hf,Result.andThen,MapKept.run_setObj_map _ hh]
    | some j=>
     have ia:(ents.findIdx? fun p=>fE uk p.1)=some j:=jt;have hj2:=List.findIdx?_eq_some_iff_getElem.1 ia;obtain⟨hj,hke,_⟩:=hj2
     have hj':j < es.size:=by omega
     rw[jt]at hf;simp only[Option.map_some,Nat.zero_add]at hf
     have hkj:es[j].key=uk:=by
      rw[(hr j es[j] ents[j] (by simp[hj']) (by simp[hj])).1];exact Dp fk (fU _ (List.getElem_mem hj)) hke
     obtain⟨h1,h2⟩:=write (es.modify j fun e=>{ e with key:=uk,val:=uv }) (ents.set j (uk,x)) (by simp[hn]) (fun i e p he hp=>by
      rw[Array.getElem?_modify]at he;rw[List.getElem?_set]at hp;by_cases hji:j=i
      .subst hji;rw[if_pos rfl,if_pos hj]at hp;obtain rfl:=Option.some.inj hp;simp[hj']at he;subst he;exact⟨rfl,(hr j es[j] ents[j] (by simp[hj']) (by simp[hj])).2.1,y9⟩
      .rw[if_neg hji]at hp he
       exact hr i e p he hp)
     refine⟨_,?_,by rw[ia];exact h1,h2⟩;have cZ:=run_keyThatStays (P:=P) (w:=w) (aeo fk);simp[hj']at hf;simp[Instr.mapUpdate,run_underlying hu,MapKept.run_getObj_map hh,aN,hf,Result.andThen,MapKept.run_setObj_map _ hh,hj',hkj,cZ]
   .cases h
  .cases h
 .cases h
end
