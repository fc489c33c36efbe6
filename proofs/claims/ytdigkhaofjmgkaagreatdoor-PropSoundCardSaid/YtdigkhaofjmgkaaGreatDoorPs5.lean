/- Parts. -/
import Derived.Test.YtdigkhaofjmgkaaGreatDoorPs4
import Derived.MapKept
set_option linter.unusedSectionVars false
set_option linter.unusedSimpArgs false
set_option linter.unusedVariables false
namespace Go.Av
open Go.MapKept
def dT:Value->Value->Bool
 | .int _ a,.int _ b=>a == b
 | .string a,.string b=>a == b
 | .bool a,.bool b=>a == b
 | _,_=>false
def eE:TypeDesc->Value->Bool
 | .bool,.bool _=>true
 | .int k,.int k' _=>decide (k'=k)
 | .string,.string _=>true
 | _,_=>false
def pw (k:Value) (ents:List (Value×D)):Option Nat:=ents.findIdx? fun p=>dT k p.1
def hU (k:Value) (ents:List (Value×D)):Option D:=(ents.find? fun p=>dT k p.1).map (·.2)
def jv (k:Value) (x:D) (ents:List (Value×D)):List (Value×D):=match ents.findIdx? fun p=>dT k p.1 with
 | some j=>ents.set j (k,x)
 | none=>ents ++ [(k,x)]
theorem tR {d:TypeDesc} {v:Value} (h:eE d v=true):IsKey d v:=by
 cases d<;>cases v<;>simp_all [eE,IsKey]
theorem I6 {d:TypeDesc} {a b:Value} (ha:eE d a=true) (hb:eE d b=true):Instr.sameNow d a b=some (dT a b):=by
 cases d<;>cases a<;>simp[eE]at ha<;>cases b<;>simp[eE]at hb<;>simp[dT,Instr.sameNow,ha,hb]
theorem tQ {d:TypeDesc} {a b:Value} (ha:eE d a=true) (hb:eE d b=true) (h:dT a b=true):b=a:=by
 obtain⟨r,h1,h2⟩:=sameNow_of_keys (tR ha) (tR hb);rw[I6 ha hb]at h1;obtain rfl:=Option.some.inj h1;have:=h2.1 h
 first | exact this | exact this.symm
theorem zm {d:TypeDesc} {k:Value} (hk:eE d k=true):∀ (l:List MapEntry) (ents:List (Value×D)) (i:Nat),l.map (·.key)=ents.map (·.1)->(∀ p∈ents,eE d p.1=true)->
  Instr.findNow d k l i=some ((pw k ents).map fun j=>(i+j,((l[j]?).map (·.val)).getD undef))
 | [],[],_,_,_=>rfl
 | [],_ :: _,_,h,_=>by simp at h
 | _ :: _,[],_,h,_=>by simp at h
 | e :: l,p :: ents,i,h,ho=>by
  simp only[List.map_cons,List.cons.injEq]at h;obtain⟨h1,h2⟩:=h;have hp:=ho p (by simp);have hs:=I6 hk hp;rw[<- h1]at hs;simp only[Instr.findNow,hs];have ih:=zm hk l ents (i+1) h2 fun q hq=>ho q (by simp[hq]);unfold pw at ih ⊢;rw[List.findIdx?_cons]
  cases hq:dT k p.1 with
  | true=>
   rw[<- h1]at hq;simp[hq]
  | false=>
   have fP:dT k e.key=false:=by rw[h1];exact hq
   simp only[fP,Bool.false_eq_true,if_false,ih,Option.map_map,Option.some.injEq];congr 1;funext j;simp[Function.comp,Nat.add_assoc,Nat.add_comm 1 j]
theorem Ef {k:Value} {ents:List (Value×D)}:hU k ents=(pw k ents).bind fun j=>(ents[j]?).map (·.2):=by
 unfold hU pw
 induction ents with
 | nil=>rfl
 | cons p ents ih=>
  rw[List.find?_cons,List.findIdx?_cons]
  cases h:dT k p.1 with
  | true=>simp
  | false=>
   simp only[ih,Bool.false_eq_true,if_false]
   cases List.findIdx? (fun p=>dT k p.1) ents with
   | none=>rfl
   | some j=>simp
def lf:Value->D
 | .agg arr=>.agg (arr.toList.map mJ)
 | v=>mJ v
theorem WU {w:World} {X:Nat->Prop} (v:Value):RD w X v (lf v):=by
 unfold lf;split
 .rename_i arr;refine .agg (by simp) fun j u c hu hc=>?_;simp only[List.getElem?_map,Array.getElem?_toList,hu,Option.map_some,Option.some.injEq]at hc;subst hc;exact qO u
 .exact qO _
def kY (ok:Bool) (x:D) (b:Bool):D:=if ok then .aR [x,.v (.bool b)] else x
theorem HA {w:World} {X:Nat->Prop} {ok b:Bool} {u:Value} {x:D} (h:RD w X u x):RD w X (if ok then .tuple #[u,.bool b] else u) (kY ok x b):=by
 unfold kY
 cases ok with
 | false=>exact h
 | true=>
  refine .aR rfl fun j u' c hu hc=>?_
  match j,hu,hc with
  | 0,hu,hc=>simp at hu hc;subst hu hc;exact h
  | 1,hu,hc=>simp at hu hc;subst hu hc;exact .v _
  | j+2,hu,hc=>simp at hu
def iz (ents:List (Value×Value)):List (Value×D):=ents.map fun p=>(p.1,.v p.2)
def jh (T:Ty) (H:Heap) (t:TypeId) (ok:Bool):AV->AV->fV
 | .mp r,.d (.v k)=>match H r,T t with
  | some (.mp _ ents),some tt=>match tt.desc with
   | .map kt et=>match T kt,T et with
    | some tk,some te=>some (eE tk.desc k=true/\(∀ p∈ents,eE tk.desc p.1=true),.d (match hU k ents with
     | some x=>kY ok x true
     | none=>kY ok (lf te.zero) false))
    | _,_=>none
   | _=>none
  | _,_=>none
 | .d (.dm _ ents),.d (.v k)=>match T t with
  | some tt=>match tt.desc with
   | .map kt et=>match T kt,T et with
    | some tk,some te=>some (eE tk.desc k=true/\(ents.map (·.1)).Nodup/\(∀ p∈iz ents,eE tk.desc p.1=true),.d (match hU k (iz ents) with
     | some x=>kY ok x true
     | none=>kY ok (lf te.zero) false))
    | _,_=>none
   | _=>none
  | _=>none
 | _,_=>none
section
variable {P:Program} {T:Ty} {Mv X:Nat->Prop} {G:Yt} {N:Fr} {w:World} {μ:Mu} {a:Act} {σ:St}
theorem RV.BV {u:Value} {r:Nat} (h:RV w X μ u (.mp r)):∃ m b,μ r=some m/\m.Y3=some b/\u = .map (some b):=by
 generalize hy:AV.mp r=y at h;cases h<;>cases hy;exact⟨_,_,by assumption,by assumption,rfl⟩
theorem cw.BP {H:Heap} (hs:cw w X μ H) {r ty:Nat} {ents:List (Value×D)} (hH:H r=some (.mp ty ents)) {m:ff} {b:Nat} (hm:μ r=some m) (hb:m.Y3=some b) :
  ∃ es:Array MapEntry,w.heap[b]? = some (.map es es.size)/\es.size=ents.length/\(∀ (i:Nat) (e:MapEntry) (p:Value×D),es[i]? = some e->ents[i]? = some p->e.key=p.1/\e.born=i/\RD w (XX X μ) e.val p.2)/\es.toList.map (·.key)=ents.map (·.1):=by
 obtain⟨m',bA,ok⟩:=hs.rows r _ hH;rw[hm]at bA;obtain rfl:=Option.some.inj bA
 cases ok with
 | mp aH hh hn hr=>
  rename_i b' es;rw[hb]at aH;obtain rfl:=Option.some.inj aH;refine⟨es,hh,hn,hr,List.ext_getElem (by simpa using hn) fun i h1 h2=>?_⟩
  have zx:i < es.size:=by simpa using h1
  have Zw:i < ents.length:=by simpa using h2
  have:=(hr i es[i] ents[i] (by simp[zx]) (by simp[Zw])).1;simpa using this
theorem Hf (hg:Good P T) {t kt et:TypeId} {tt tk te:TI} {ok:Bool} {b:Nat} {v:Value} {es:Array MapEntry} {ents:List (Value×D)} (YO:T t=some tt) (hd:tt.desc = .map kt et) (hk:T kt=some tk) (he:T et=some te)
  (hh:w.heap[b]? = some (.map es es.size)) (hn:es.size=ents.length) (hr:∀ (i:Nat) (e:MapEntry) (p:Value×D),es[i]? = some e->ents[i]? = some p->e.key=p.1/\e.born=i/\RD w (XX X μ) e.val p.2) (ab5:es.toList.map (·.key)=ents.map (·.1))
  (dJ:eE tk.desc v=true) (Zf:∀ p∈ents,eE tk.desc p.1=true) :
  ∃ r, (Instr.lookup t (.map (some b)) v ok).run P w = .ok r w /\ RV w X μ r (.d (match hU v ents with
        | some x=>kY ok x true
        | none=>kY ok (lf te.zero) false)):=by
 have hu:P.underlying t=some (.map kt et):=by rw[<- hd];exact (hg _ _ YO).1
 have huk:P.underlying kt=some tk.desc:=(hg _ _ hk).1;have hf:=run_findKey (P:=P) (w:=w) huk (zm dJ es.toList ents 0 ab5 Zf);have aS:=fun e=>run_checkKey (P:=P) (w:=w) huk (tR dJ) e 9999
 cases hi:pw v ents with
 | none=>
  rw[hi]at hf;refine⟨if ok then .tuple #[te.zero,.bool false] else te.zero,?_,.d ?_⟩
  .simp only[Option.map_none]at hf;simp[Instr.lookup,run_underlying hu,MapKept.run_getObj_map hh,aS,hf,hg.zero he,Result.andThen]
  .rw[Ef,hi];exact HA (WU _)
 | some j=>
  rw[hi]at hf
  have hj:j < ents.length:=by
   unfold pw at hi;rw[List.findIdx?_eq_some_iff_getElem]at hi;exact hi.1
  have ef:j < es.size:=by omega
  refine⟨if ok then .tuple #[es[j].val,.bool true] else es[j].val,?_,.d ?_⟩
  .simp only[Option.map_some,Nat.zero_add]at hf;simp[ef]at hf;simp[Instr.lookup,run_underlying hu,MapKept.run_getObj_map hh,aS,hf,Result.andThen]
  .rw[Ef,hi];simp only[Option.bind_some,List.getElem?_eq_getElem hj,Option.map_some];exact HA (hr j es[j] ents[j] (by simp[ef]) (by simp[hj])).2.2
theorem LV {ents:List (Value×Value)}:(lN ents).size=(iz ents).length/\(∀ (i:Nat) (e:MapEntry) (p:Value×D),(lN ents)[i]? = some e->(iz ents)[i]? = some p->e.key=p.1/\e.born=i/\RD w (XX X μ) e.val p.2)/\(lN ents).toList.map (·.key)=(iz ents).map (·.1):=by
 refine⟨by simp[oR,iz],fun i e p he hp=>?_,?_⟩
 .have hi:i < ents.length:=by have:=(Array.getElem?_eq_some_iff.1 he).1;rwa [oR]at this
  rw[BS hi]at he;obtain rfl:=Option.some.inj he;simp only[iz,List.getElem?_map,List.getElem?_eq_getElem hi,Option.map_some,Option.some.injEq]at hp;subst hp;exact⟨rfl,rfl,.v _⟩
 .refine List.ext_getElem (by simp[oR,iz]) fun i h1 h2=>?_
  have hi:i < ents.length:=by simpa[iz]using h2
  have h3:=BS hi
  have h4:i < (lN ents).size:=by rw[oR];exact hi
  rw[Array.getElem?_eq_getElem h4]at h3;have h5:=Option.some.inj h3;simp[iz,h5]
theorem _root_.Go.Av.RD.LW {X:Nat->Prop} {u:Value} {x:Bool} {ents:List (Value×Value)} (h:RD w X u (.dm x ents)):∃ b es,u = .map (some b)/\w.heap[b]? = some (.map (lN es) es.length)/\es.Perm ents:=by
 generalize hq:D.dm x ents=q at h;cases h<;>cases hq;exact⟨_,_,rfl,by assumption,by assumption⟩
theorem L6 {d:TypeDesc} {es ents:List (Value×Value)} {k:Value} (hp:es.Perm ents) (hn:(ents.map (·.1)).Nodup) (hk:eE d k=true) (ho:∀ p∈iz ents,eE d p.1=true):hU k (iz es)=hU k (iz ents):=by
 have one:∀ p∈ents,dT k p.1=true->p.1=k:=fun p eC h=>tQ hk (ho (p.1,.v p.2) (List.mem_map.2 ⟨p,eC,rfl⟩)) h
 have uniq:∀ p∈ents,∀ q∈ents,p.1=q.1->p=q:=by
  have key:∀ l:List (Value×Value),(l.map (·.1)).Nodup->∀ p∈l,∀ q∈l,p.1=q.1->p=q:=by
   intro l
   induction l with
   | nil=>intro _ p hp;cases hp
   | cons x l ih=>
    intro hn p hp q hq e;rw[List.map_cons,List.nodup_cons]at hn
    rcases List.mem_cons.1 hp with e1 | eC
    .rcases List.mem_cons.1 hq with e2 | hq1
     .rw[e1,e2]
     .exact absurd (List.mem_map.2 ⟨q,hq1,by rw[<- e,e1]⟩) hn.1
    .rcases List.mem_cons.1 hq with e2 | hq1
     .exact absurd (List.mem_map.2 ⟨p,eC,by rw[e,e2]⟩) hn.1
     .exact ih hn.2 p eC q hq1 e
  exact key ents hn
 have e1:∀ l:List (Value×Value),hU k (iz l)=(l.find? fun p=>dT k p.1).map fun p=>.v p.2:=fun l=>by
  unfold hU iz;rw[List.find?_map]
  cases h:l.find? ((fun p:Value×D=>dT k p.1) ∘ fun p=>(p.1,D.v p.2)) with
  | none=>simp only[Function.comp_def]at h;rw[h];rfl
  | some p=>simp only[Function.comp_def]at h;rw[h];rfl
 rw[e1,e1]
 cases h1:es.find? fun p=>dT k p.1 with
 | some p=>
  have eC:=hp.mem_iff.1 (List.mem_of_find?_eq_some h1);have Zg:=List.find?_some h1
  cases h2:ents.find? fun p=>dT k p.1 with
  | none=>exact absurd Zg (by simpa using List.find?_eq_none.1 h2 p eC)
  | some q=>
   have hq1:=List.mem_of_find?_eq_some h2;have e7:=List.find?_some h2;rw[uniq p eC q hq1 ((one p eC Zg).trans (one q hq1 e7).symm)]
 | none=>
  cases h2:ents.find? fun p=>dT k p.1 with
  | none=>rfl
  | some q=>
   have hq1:=hp.mem_iff.2 (List.mem_of_find?_eq_some h2);exact absurd (List.find?_some h2) (by simpa using List.find?_eq_none.1 h1 q hq1)
theorem Rk (hg:Good P T) (hs:cw w X μ σ.H) {t:TypeId} {ok:Bool} {u v:Value} {x y z:AV} {c:Prop} (h:jh T σ.H t ok x y=some (c,z)) (hc:c) (hx:RV w X μ u x) (hy:RV w X μ v y) :
  ∃ r,(Instr.lookup t u v ok).run P w = .ok r w/\RV w X μ r z:=by
 unfold jh at h;split at h
 .rename_i r k;split at h
  .rename_i ty ents tt hH YO;split at h
   .rename_i kt et hd;split at h
    .rename_i tk te hk he;simp only[Option.some.injEq,Prod.mk.injEq]at h;obtain⟨rfl,rfl⟩:=h;obtain⟨dJ,Zf⟩:=hc;obtain⟨m,b,hm,hb,rfl⟩:=hx.BV;have hv:=hy.scalar;subst hv;obtain⟨es,hh,hn,hr,ab5⟩:=hs.BP hH hm hb;exact Hf hg YO hd hk he hh hn hr ab5 dJ Zf
    .cases h
   .cases h
  .cases h
 .rename_i ents k;split at h
  .rename_i tt YO;split at h
   .rename_i kt et hd;split at h
    .rename_i tk te hk he;simp only[Option.some.injEq,Prod.mk.injEq]at h;obtain⟨rfl,rfl⟩:=h;obtain⟨dJ,mZ,Zf⟩:=hc;have hv:=hy.scalar;subst hv;have wY:=hx.data;obtain⟨b,es,hu,hh,hp⟩:=wY.LW;subst hu;obtain⟨d1,d2,d3⟩:=LV (w:=w) (X:=X) (μ:=μ) (ents:=es);have N6:∀ p∈iz es,eE tk.desc p.1=true:=fun p Zg=>Zf p ((hp.map _).mem_iff.1 Zg);rw[<- L6 hp mZ dJ Zf];exact Hf hg YO hd hk he (by rw[hh,oR]) d1 d2 d3 dJ N6
    .cases h
   .cases h
  .cases h
 .cases h
theorem Rv (hi:In w X G μ N a σ) {d:Nat} (hd:σ.H d=none) (t:TypeId):iu Mv X G N w μ a ((Instr.makeMap t none).run P w) (.mp d) ⟨σ.env,aF σ.H d (.mp t [])⟩:=by
 have hb:(w.alloc (.map #[] 0)).heap[w.heap.size]? = some (.map #[] 0):=by rw[<- World.alloc_eq];simp
 obtain⟨ax,aB⟩:=hi.alloc (Mv:=Mv) hd (bQ.alloc w (.map #[] 0)) (m:=⟨some w.heap.size,1,0⟩) (fun b hb=>by simp at hb;omega) (row:=.mp t []) fun _=>.mp rfl hb rfl (by simp);exact⟨.map (some w.heap.size),_,_,rfl,ax,.mp (m:=⟨some w.heap.size,1,0⟩) (by simp[cq]) rfl,aB⟩
def uq (T:Ty) (t:TypeId) (ents:List (Value×D)) (k:Value) (x:D):Option (Prop×List (Value×D)):=match T t with
 | some tt=>match tt.desc with
  | .map kt _=>match T kt with
   | some tk=>some (eE tk.desc k=true/\(∀ p∈ents,eE tk.desc p.1=true),jv k x ents)
   | none=>none
  | _=>none
 | none=>none
theorem Hh (hg:Good P T) (hi:In w X G μ N a σ) {t ty:TypeId} {r:Nat} {ents ZO:List (Value×D)} {um uk uv k:Value} {x:D} {c:Prop} (hH:σ.H r=some (.mp ty ents)) (h:uq T t ents k x=some (c,ZO)) (hc:c)
  (hm:RV w X μ um (.mp r)) (hk:RV w X μ uk (.d (.v k))) (hx:RV w X μ uv (.d x)) :
  ∃ w',(Instr.mapUpdate t um uk uv).run P w = .ok () w'/\In w' X G μ N a ⟨σ.env,aF σ.H r (.mp ty ZO)⟩/\Ev Mv w μ w' μ:=by
 unfold uq at h;split at h
 .rename_i tt YO;split at h
  .rename_i kt et hd;split at h
   .rename_i tk hkt;simp only[Option.some.injEq,Prod.mk.injEq]at h;obtain⟨rfl,rfl⟩:=h;obtain⟨dJ,Zf⟩:=hc;obtain⟨m,b,ri,hb,rfl⟩:=hm.BV;obtain rfl:=hk.scalar;obtain⟨es,hh,hn,hr,ab5⟩:=hi.aL.BP hH ri hb
    have hu:P.underlying t=some (.map kt et):=by rw[<- hd];exact (hg _ _ YO).1
    have huk:P.underlying kt=some tk.desc:=(hg _ _ hkt).1;have hf:=run_findKey (P:=P) (w:=w) huk (zm dJ es.toList ents 0 ab5 Zf);have aS:=run_checkKey (P:=P) (w:=w) huk (tR dJ) false 9999;have Yv:b < w.heap.size:=(Array.getElem?_eq_some_iff.1 hh).1;have wY:=hx.data
    have write:∀ (mN:Array MapEntry) (ZO:List (Value×D)),mN.size=ZO.length->(∀ (i:Nat) (e:MapEntry) (p:Value×D),mN[i]? = some e->ZO[i]? = some p->e.key=p.1/\e.born=i/\RD w (XX X μ) e.val p.2)->
      In { w with heap:=w.heap.setIfInBounds b (.map mN mN.size) } X G μ N a ⟨σ.env,aF σ.H r (.mp ty ZO)⟩/\Ev Mv w μ { w with heap:=w.heap.setIfInBounds b (.map mN mN.size) } μ:=fun mN ZO hl hr'=>
     hi.write (Mv:=Mv) (w':={ w with heap:=w.heap.setIfInBounds b (.map mN mN.size) }) ri hb (by simp) rfl rfl rfl (fun k hk=>by simp[Array.getElem?_setIfInBounds_ne (Ne.symm hk)]) fun ev=>.mp hb (by simp[Yv]) hl fun i e p he hp=>let ⟨h1,h2,h3⟩:=hr' i e p he hp;⟨h1,h2,h3.ev ev⟩
    unfold jv
    cases iF:pw uk ents with
    | none=>
     have gu:(ents.findIdx? fun p=>dT uk p.1)=none:=iF;rw[iF]at hf;simp only[Option.map_none]at hf
     obtain⟨h1,h2⟩:=write (es.push { key:=uk,val:=uv,born:=es.size }) (ents ++ [(uk,x)]) (by simp[hn]) (fun i e p he hp=>by
      rw[Array.getElem?_push]at he;split at he
      .rename_i cz;obtain rfl:=Option.some.inj he;subst cz;rw[hn,List.getElem?_append_right (Nat.le_refl _),Nat.sub_self]at hp;obtain rfl:=Option.some.inj hp;exact⟨rfl,rfl,wY⟩
      .have cz:i < ents.length:=by have:=(Array.getElem?_eq_some_iff.1 he).1;omega
       rw[List.getElem?_append_left cz]at hp
       exact hr i e p he hp)
     refine⟨_,?_,by rw[gu];exact h1,h2⟩;simp[Instr.mapUpdate,run_underlying hu,MapKept.run_getObj_map hh,aS,hf,Result.andThen,MapKept.run_setObj_map _ hh]
    | some j=>
     have gu:(ents.findIdx? fun p=>dT uk p.1)=some j:=iF;have fY:=List.findIdx?_eq_some_iff_getElem.1 gu;obtain⟨hj,lE,_⟩:=fY
     have ef:j < es.size:=by omega
     rw[iF]at hf;simp only[Option.map_some,Nat.zero_add]at hf
     have pT:es[j].key=uk:=by
      rw[(hr j es[j] ents[j] (by simp[ef]) (by simp[hj])).1];exact tQ dJ (Zf _ (List.getElem_mem hj)) lE
     obtain⟨h1,h2⟩:=write (es.modify j fun e=>{ e with key:=uk,val:=uv }) (ents.set j (uk,x)) (by simp[hn]) (fun i e p he hp=>by
      rw[Array.getElem?_modify]at he;rw[List.getElem?_set]at hp;by_cases cI:j=i
      .subst cI;rw[if_pos rfl,if_pos hj]at hp;obtain rfl:=Option.some.inj hp;simp[ef]at he;subst he;exact⟨rfl,(hr j es[j] ents[j] (by simp[ef]) (by simp[hj])).2.1,wY⟩
      .rw[if_neg cI]at hp he
       exact hr i e p he hp)
     refine⟨_,?_,by rw[gu];exact h1,h2⟩;have bw:=run_keyThatStays (P:=P) (w:=w) (tR dJ);simp[ef]at hf;simp[Instr.mapUpdate,run_underlying hu,MapKept.run_getObj_map hh,aS,hf,Result.andThen,MapKept.run_setObj_map _ hh,ef,pT,bw]
   .cases h
  .cases h
 .cases h
end
