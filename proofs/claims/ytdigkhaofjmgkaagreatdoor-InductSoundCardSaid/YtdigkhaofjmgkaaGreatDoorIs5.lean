/- Parts. -/
import Derived.Test.YtdigkhaofjmgkaaGreatDoorIs4
import Derived.MapKept
set_option linter.unusedSectionVars false
set_option linter.unusedSimpArgs false
set_option linter.unusedVariables false
namespace Go.Av
open Go.MapKept
def dP:Value->Value->Bool
 | .int _ a,.int _ b=>a == b
 | .string a,.string b=>a == b
 | .bool a,.bool b=>a == b
 | _,_=>false
def eB:TypeDesc->Value->Bool
 | .bool,.bool _=>true
 | .int k,.int k' _=>decide (k'=k)
 | .string,.string _=>true
 | _,_=>false
def pJ (k:Value) (ents:List (Value×D)):Option Nat:=ents.findIdx? fun p=>dP k p.1
def aeN (k:Value) (ents:List (Value×D)):Option D:=(ents.find? fun p=>dP k p.1).map (·.2)
def jD (k:Value) (x:D) (ents:List (Value×D)):List (Value×D):=match ents.findIdx? fun p=>dP k p.1 with
 | some j=>ents.set j (k,x)
 | none=>ents ++ [(k,x)]
theorem uu {d:TypeDesc} {v:Value} (h:eB d v=true):IsKey d v:=by
 cases d<;>cases v<;>simp_all [eB,IsKey]
theorem Jq {d:TypeDesc} {a b:Value} (ha:eB d a=true) (hb:eB d b=true):Instr.sameNow d a b=some (dP a b):=by
 cases d<;>cases a<;>simp[eB]at ha<;>cases b<;>simp[eB]at hb<;>simp[dP,Instr.sameNow,ha,hb]
theorem ur {d:TypeDesc} {a b:Value} (ha:eB d a=true) (hb:eB d b=true) (h:dP a b=true):b=a:=by
 obtain⟨r,h1,h2⟩:=sameNow_of_keys (uu ha) (uu hb);rw[Jq ha hb]at h1;obtain rfl:=Option.some.inj h1;have:=h2.1 h
 first | exact this | exact this.symm
theorem zK {d:TypeDesc} {k:Value} (hk:eB d k=true):∀ (l:List MapEntry) (ents:List (Value×D)) (i:Nat),l.map (·.key)=ents.map (·.1)->(∀ p∈ents,eB d p.1=true)->
  Instr.findNow d k l i=some ((pJ k ents).map fun j=>(i+j,((l[j]?).map (·.val)).getD undef))
 | [],[],_,_,_=>rfl
 | [],_ :: _,_,h,_=>by simp at h
 | _ :: _,[],_,h,_=>by simp at h
 | e :: l,p :: ents,i,h,ho=>by
  simp only[List.map_cons,List.cons.injEq]at h;obtain⟨h1,h2⟩:=h;have hp:=ho p (by simp);have hs:=Jq hk hp;rw[<- h1]at hs;simp only[Instr.findNow,hs];have ih:=zK hk l ents (i+1) h2 fun q hq=>ho q (by simp[hq]);unfold pJ at ih ⊢;rw[List.findIdx?_cons]
  cases hq:dP k p.1 with
  | true=>
   rw[<- h1]at hq;simp[hq]
  | false=>
   have fT:dP k e.key=false:=by rw[h1];exact hq
   simp only[fT,Bool.false_eq_true,if_false,ih,Option.map_map,Option.some.injEq];congr 1;funext j;simp[Function.comp,Nat.add_assoc,Nat.add_comm 1 j]
theorem adx {k:Value} {ents:List (Value×D)}:aeN k ents=(pJ k ents).bind fun j=>(ents[j]?).map (·.2):=by
 unfold aeN pJ
 induction ents with
 | nil=>rfl
 | cons p ents ih=>
  rw[List.find?_cons,List.findIdx?_cons]
  cases h:dP k p.1 with
  | true=>simp
  | false=>
   simp only[ih,Bool.false_eq_true,if_false]
   cases List.findIdx? (fun p=>dP k p.1) ents with
   | none=>rfl
   | some j=>simp
def lp:Value->D
 | .agg arr=>.agg (arr.toList.map abq)
 | v=>abq v
theorem Xa {w:World} {X:Nat->Prop} (v:Value):RD w X v (lp v):=by
 unfold lp;split
 .rename_i arr;refine .agg (by simp) fun j u c hu hc=>?_;simp only[List.getElem?_map,Array.getElem?_toList,hu,Option.map_some,Option.some.injEq]at hc;subst hc;exact ab6 u
 .exact ab6 _
def k7 (ok:Bool) (x:D) (b:Bool):D:=if ok then .aT [x,.v (.bool b)] else x
theorem HY {w:World} {X:Nat->Prop} {ok b:Bool} {u:Value} {x:D} (h:RD w X u x):RD w X (if ok then .tuple #[u,.bool b] else u) (k7 ok x b):=by
 unfold k7
 cases ok with
 | false=>exact h
 | true=>
  refine .aT rfl fun j u' c hu hc=>?_
  match j,hu,hc with
  | 0,hu,hc=>simp at hu hc;subst hu hc;exact h
  | 1,hu,hc=>simp at hu hc;subst hu hc;exact .v _
  | j+2,hu,hc=>simp at hu
def iC (ents:List (Value×Value)):List (Value×D):=ents.map fun p=>(p.1,.v p.2)
def jm (T:Ty) (H:Heap) (t:TypeId) (ok:Bool):AV->AV->ga
 | .mp r,.d (.v k)=>match H r,T t with
  | some (.mp _ ents),some tt=>match tt.desc with
   | .map kt et=>match T kt,T et with
    | some tk,some te=>some (eB tk.desc k=true/\(∀ p∈ents,eB tk.desc p.1=true),.d (match aeN k ents with
     | some x=>k7 ok x true
     | none=>k7 ok (lp te.zero) false))
    | _,_=>none
   | _=>none
  | _,_=>none
 | .d (.dm _ ents),.d (.v k)=>match T t with
  | some tt=>match tt.desc with
   | .map kt et=>match T kt,T et with
    | some tk,some te=>some (eB tk.desc k=true/\(ents.map (·.1)).Nodup/\(∀ p∈iC ents,eB tk.desc p.1=true),.d (match aeN k (iC ents) with
     | some x=>k7 ok x true
     | none=>k7 ok (lp te.zero) false))
    | _,_=>none
   | _=>none
  | _=>none
 | _,_=>none
section
variable {P:Program} {T:Ty} {Mv X:Nat->Prop} {G:YI} {N:Fr} {w:World} {μ:Mu} {a:Act} {σ:St}
theorem RV.Cc {u:Value} {r:Nat} (h:RV w X μ u (.mp r)):∃ m b,μ r=some m/\m.cZ=some b/\u = .map (some b):=by
 generalize hy:AV.mp r=y at h;cases h<;>cases hy;exact⟨_,_,by assumption,by assumption,rfl⟩
theorem Zf.B6 {H:Heap} (hs:Zf w X μ H) {r ty:Nat} {ents:List (Value×D)} (hH:H r=some (.mp ty ents)) {m:fg} {b:Nat} (hm:μ r=some m) (hb:m.cZ=some b) :
  ∃ es:Array MapEntry,w.heap[b]? = some (.map es es.size)/\es.size=ents.length/\(∀ (i:Nat) (e:MapEntry) (p:Value×D),es[i]? = some e->ents[i]? = some p->e.key=p.1/\e.born=i/\RD w (XX X μ) e.val p.2)/\es.toList.map (·.key)=ents.map (·.1):=by
 obtain⟨m',bx,ok⟩:=hs.rows r _ hH;rw[hm]at bx;obtain rfl:=Option.some.inj bx
 cases ok with
 | mp aH hh hn hr=>
  rename_i b' es;rw[hb]at aH;obtain rfl:=Option.some.inj aH;refine⟨es,hh,hn,hr,List.ext_getElem (by simpa using hn) fun i h1 h2=>?_⟩
  have zQ:i < es.size:=by simpa using h1
  have eZ:i < ents.length:=by simpa using h2
  have:=(hr i es[i] ents[i] (by simp[zQ]) (by simp[eZ])).1;simpa using this
theorem adI (hg:Good P T) {t kt et:TypeId} {tt tk te:TI} {ok:Bool} {b:Nat} {v:Value} {es:Array MapEntry} {ents:List (Value×D)} (b4:T t=some tt) (hd:tt.desc = .map kt et) (hk:T kt=some tk) (he:T et=some te)
  (hh:w.heap[b]? = some (.map es es.size)) (hn:es.size=ents.length) (hr:∀ (i:Nat) (e:MapEntry) (p:Value×D),es[i]? = some e->ents[i]? = some p->e.key=p.1/\e.born=i/\RD w (XX X μ) e.val p.2) (acz:es.toList.map (·.key)=ents.map (·.1))
  (ZL:eB tk.desc v=true) (ea:∀ p∈ents,eB tk.desc p.1=true) :
  ∃ r, (Instr.lookup t (.map (some b)) v ok).run P w = .ok r w /\ RV w X μ r (.d (match aeN v ents with
        | some x=>k7 ok x true
        | none=>k7 ok (lp te.zero) false)):=by
 have hu:P.underlying t=some (.map kt et):=by rw[<- hd];exact (hg _ _ b4).1
 have huk:P.underlying kt=some tk.desc:=(hg _ _ hk).1;have hf:=run_findKey (P:=P) (w:=w) huk (zK ZL es.toList ents 0 acz ea);have aS:=fun e=>run_checkKey (P:=P) (w:=w) huk (uu ZL) e 9999
 cases hi:pJ v ents with
 | none=>
  rw[hi]at hf;refine⟨if ok then .tuple #[te.zero,.bool false] else te.zero,?_,.d ?_⟩
  .simp only[Option.map_none]at hf;simp[Instr.lookup,run_underlying hu,MapKept.run_getObj_map hh,aS,hf,hg.zero he,Result.andThen]
  .rw[adx,hi];exact HY (Xa _)
 | some j=>
  rw[hi]at hf
  have hj:j < ents.length:=by
   unfold pJ at hi;rw[List.findIdx?_eq_some_iff_getElem]at hi;exact hi.1
  have eb:j < es.size:=by omega
  refine⟨if ok then .tuple #[es[j].val,.bool true] else es[j].val,?_,.d ?_⟩
  .simp only[Option.map_some,Nat.zero_add]at hf;simp[eb]at hf;simp[Instr.lookup,run_underlying hu,MapKept.run_getObj_map hh,aS,hf,Result.andThen]
  .rw[adx,hi];simp only[Option.bind_some,List.getElem?_eq_getElem hj,Option.map_some];exact HY (hr j es[j] ents[j] (by simp[eb]) (by simp[hj])).2.2
theorem Ml {ents:List (Value×Value)}:(lX ents).size=(iC ents).length/\(∀ (i:Nat) (e:MapEntry) (p:Value×D),(lX ents)[i]? = some e->(iC ents)[i]? = some p->e.key=p.1/\e.born=i/\RD w (XX X μ) e.val p.2)/\(lX ents).toList.map (·.key)=(iC ents).map (·.1):=by
 refine⟨by simp[o4,iC],fun i e p he hp=>?_,?_⟩
 .have hi:i < ents.length:=by have:=(Array.getElem?_eq_some_iff.1 he).1;rwa [o4]at this
  rw[B9 hi]at he;obtain rfl:=Option.some.inj he;simp only[iC,List.getElem?_map,List.getElem?_eq_getElem hi,Option.map_some,Option.some.injEq]at hp;subst hp;exact⟨rfl,rfl,.v _⟩
 .refine List.ext_getElem (by simp[o4,iC]) fun i h1 h2=>?_
  have hi:i < ents.length:=by simpa[iC]using h2
  have h3:=B9 hi
  have h4:i < (lX ents).size:=by rw[o4];exact hi
  rw[Array.getElem?_eq_getElem h4]at h3;have h5:=Option.some.inj h3;simp[iC,h5]
theorem _root_.Go.Av.RD.Mm {X:Nat->Prop} {u:Value} {x:Bool} {ents:List (Value×Value)} (h:RD w X u (.dm x ents)):∃ b es,u = .map (some b)/\w.heap[b]? = some (.map (lX es) es.length)/\es.Perm ents:=by
 generalize hq:D.dm x ents=q at h;cases h<;>cases hq;exact⟨_,_,rfl,by assumption,by assumption⟩
theorem Mx {d:TypeDesc} {es ents:List (Value×Value)} {k:Value} (hp:es.Perm ents) (hn:(ents.map (·.1)).Nodup) (hk:eB d k=true) (ho:∀ p∈iC ents,eB d p.1=true):aeN k (iC es)=aeN k (iC ents):=by
 have one:∀ p∈ents,dP k p.1=true->p.1=k:=fun p ez h=>ur hk (ho (p.1,.v p.2) (List.mem_map.2 ⟨p,ez,rfl⟩)) h
 have uniq:∀ p∈ents,∀ q∈ents,p.1=q.1->p=q:=by
  have key:∀ l:List (Value×Value),(l.map (·.1)).Nodup->∀ p∈l,∀ q∈l,p.1=q.1->p=q:=by
   intro l
   induction l with
   | nil=>intro _ p hp;cases hp
   | cons x l ih=>
    intro hn p hp q hq e;rw[List.map_cons,List.nodup_cons]at hn
    rcases List.mem_cons.1 hp with e1 | ez
    .rcases List.mem_cons.1 hq with e2 | kp
     .rw[e1,e2]
     .exact absurd (List.mem_map.2 ⟨q,kp,by rw[<- e,e1]⟩) hn.1
    .rcases List.mem_cons.1 hq with e2 | kp
     .exact absurd (List.mem_map.2 ⟨p,ez,by rw[e,e2]⟩) hn.1
     .exact ih hn.2 p ez q kp e
  exact key ents hn
 have e1:∀ l:List (Value×Value),aeN k (iC l)=(l.find? fun p=>dP k p.1).map fun p=>.v p.2:=fun l=>by
  unfold aeN iC;rw[List.find?_map]
  cases h:l.find? ((fun p:Value×D=>dP k p.1) ∘ fun p=>(p.1,D.v p.2)) with
  | none=>simp only[Function.comp_def]at h;rw[h];rfl
  | some p=>simp only[Function.comp_def]at h;rw[h];rfl
 rw[e1,e1]
 cases h1:es.find? fun p=>dP k p.1 with
 | some p=>
  have ez:=hp.mem_iff.1 (List.mem_of_find?_eq_some h1);have ZA:=List.find?_some h1
  cases h2:ents.find? fun p=>dP k p.1 with
  | none=>exact absurd ZA (by simpa using List.find?_eq_none.1 h2 p ez)
  | some q=>
   have kp:=List.mem_of_find?_eq_some h2;have e6:=List.find?_some h2;rw[uniq p ez q kp ((one p ez ZA).trans (one q kp e6).symm)]
 | none=>
  cases h2:ents.find? fun p=>dP k p.1 with
  | none=>rfl
  | some q=>
   have kp:=hp.mem_iff.2 (List.mem_of_find?_eq_some h2);exact absurd (List.find?_some h2) (by simpa using List.find?_eq_none.1 h1 q kp)
theorem S8 (hg:Good P T) (hs:Zf w X μ σ.H) {t:TypeId} {ok:Bool} {u v:Value} {x y z:AV} {c:Prop} (h:jm T σ.H t ok x y=some (c,z)) (hc:c) (hx:RV w X μ u x) (hy:RV w X μ v y) :
  ∃ r,(Instr.lookup t u v ok).run P w = .ok r w/\RV w X μ r z:=by
 unfold jm at h;split at h
 .rename_i r k;split at h
  .rename_i ty ents tt hH b4;split at h
   .rename_i kt et hd;split at h
    .rename_i tk te hk he;simp only[Option.some.injEq,Prod.mk.injEq]at h;obtain⟨rfl,rfl⟩:=h;obtain⟨ZL,ea⟩:=hc;obtain⟨m,b,hm,hb,rfl⟩:=hx.Cc;have hv:=hy.scalar;subst hv;obtain⟨es,hh,hn,hr,acz⟩:=hs.B6 hH hm hb;exact adI hg b4 hd hk he hh hn hr acz ZL ea
    .cases h
   .cases h
  .cases h
 .rename_i ents k;split at h
  .rename_i tt b4;split at h
   .rename_i kt et hd;split at h
    .rename_i tk te hk he;simp only[Option.some.injEq,Prod.mk.injEq]at h;obtain⟨rfl,rfl⟩:=h;obtain⟨ZL,pX,ea⟩:=hc;have hv:=hy.scalar;subst hv;have xm:=hx.data;obtain⟨b,es,hu,hh,hp⟩:=xm.Mm;subst hu;obtain⟨d1,d2,d3⟩:=Ml (w:=w) (X:=X) (μ:=μ) (ents:=es);have Oz:∀ p∈iC es,eB tk.desc p.1=true:=fun p ZA=>ea p ((hp.map _).mem_iff.1 ZA);rw[<- Mx hp pX ZL ea];exact adI hg b4 hd hk he (by rw[hh,o4]) d1 d2 d3 ZL Oz
    .cases h
   .cases h
  .cases h
 .cases h
theorem Ti (hi:In w X G μ N a σ) {d:Nat} (hd:σ.H d=none) (t:TypeId):iy Mv X G N w μ a ((Instr.makeMap t none).run P w) (.mp d) ⟨σ.env,aF σ.H d (.mp t [])⟩:=by
 have hb:(w.alloc (.map #[] 0)).heap[w.heap.size]? = some (.map #[] 0):=by rw[<- World.alloc_eq];simp
 obtain⟨ax,aD⟩:=hi.alloc (Mv:=Mv) hd (bT.alloc w (.map #[] 0)) (m:=⟨some w.heap.size,1,0⟩) (fun b hb=>by simp at hb;omega) (row:=.mp t []) fun _=>.mp rfl hb rfl (by simp);exact⟨.map (some w.heap.size),_,_,rfl,ax,.mp (m:=⟨some w.heap.size,1,0⟩) (by simp[Zc]) rfl,aD⟩
def uR (T:Ty) (t:TypeId) (ents:List (Value×D)) (k:Value) (x:D):Option (Prop×List (Value×D)):=match T t with
 | some tt=>match tt.desc with
  | .map kt _=>match T kt with
   | some tk=>some (eB tk.desc k=true/\(∀ p∈ents,eB tk.desc p.1=true),jD k x ents)
   | none=>none
  | _=>none
 | none=>none
theorem HE (hg:Good P T) (hi:In w X G μ N a σ) {t ty:TypeId} {r:Nat} {ents aab:List (Value×D)} {um uk uv k:Value} {x:D} {c:Prop} (hH:σ.H r=some (.mp ty ents)) (h:uR T t ents k x=some (c,aab)) (hc:c)
  (hm:RV w X μ um (.mp r)) (hk:RV w X μ uk (.d (.v k))) (hx:RV w X μ uv (.d x)) :
  ∃ w',(Instr.mapUpdate t um uk uv).run P w = .ok () w'/\In w' X G μ N a ⟨σ.env,aF σ.H r (.mp ty aab)⟩/\Ev Mv w μ w' μ:=by
 unfold uR at h;split at h
 .rename_i tt b4;split at h
  .rename_i kt et hd;split at h
   .rename_i tk tB;simp only[Option.some.injEq,Prod.mk.injEq]at h;obtain⟨rfl,rfl⟩:=h;obtain⟨ZL,ea⟩:=hc;obtain⟨m,b,rB,hb,rfl⟩:=hm.Cc;obtain rfl:=hk.scalar;obtain⟨es,hh,hn,hr,acz⟩:=hi.aL.B6 hH rB hb
    have hu:P.underlying t=some (.map kt et):=by rw[<- hd];exact (hg _ _ b4).1
    have huk:P.underlying kt=some tk.desc:=(hg _ _ tB).1;have hf:=run_findKey (P:=P) (w:=w) huk (zK ZL es.toList ents 0 acz ea);have aS:=run_checkKey (P:=P) (w:=w) huk (uu ZL) false 9999;have YJ:b < w.heap.size:=(Array.getElem?_eq_some_iff.1 hh).1;have xm:=hx.data
    have write:∀ (mY:Array MapEntry) (aab:List (Value×D)),mY.size=aab.length->(∀ (i:Nat) (e:MapEntry) (p:Value×D),mY[i]? = some e->aab[i]? = some p->e.key=p.1/\e.born=i/\RD w (XX X μ) e.val p.2)->
      In { w with heap:=w.heap.setIfInBounds b (.map mY mY.size) } X G μ N a ⟨σ.env,aF σ.H r (.mp ty aab)⟩/\Ev Mv w μ { w with heap:=w.heap.setIfInBounds b (.map mY mY.size) } μ:=fun mY aab hl hr'=>
     hi.write (Mv:=Mv) (w':={ w with heap:=w.heap.setIfInBounds b (.map mY mY.size) }) rB hb (by simp) rfl rfl rfl (fun k hk=>by simp[Array.getElem?_setIfInBounds_ne (Ne.symm hk)]) fun ev=>.mp hb (by simp[YJ]) hl fun i e p he hp=>let ⟨h1,h2,h3⟩:=hr' i e p he hp;⟨h1,h2,h3.ev ev⟩
    unfold jD
    cases iG:pJ uk ents with
    | none=>
     have gC:(ents.findIdx? fun p=>dP uk p.1)=none:=iG;rw[iG]at hf;simp only[Option.map_none]at hf
     obtain⟨h1,h2⟩:=write (es.push { key:=uk,val:=uv,born:=es.size }) (ents ++ [(uk,x)]) (by simp[hn]) (fun i e p he hp=>by
      rw[Array.getElem?_push]at he;split at he
      .rename_i cK;obtain rfl:=Option.some.inj he;subst cK;rw[hn,List.getElem?_append_right (Nat.le_refl _),Nat.sub_self]at hp;obtain rfl:=Option.some.inj hp;exact⟨rfl,rfl,xm⟩
      .have cK:i < ents.length:=by have:=(Array.getElem?_eq_some_iff.1 he).1;omega
       rw[List.getElem?_append_left cK]at hp
       exact hr i e p he hp)
     refine⟨_,?_,by rw[gC];exact h1,h2⟩;simp[Instr.mapUpdate,run_underlying hu,MapKept.run_getObj_map hh,aS,hf,Result.andThen,MapKept.run_setObj_map _ hh]
    | some j=>
     have gC:(ents.findIdx? fun p=>dP uk p.1)=some j:=iG;have ZY:=List.findIdx?_eq_some_iff_getElem.1 gC;obtain⟨hj,lN,_⟩:=ZY
     have eb:j < es.size:=by omega
     rw[iG]at hf;simp only[Option.map_some,Nat.zero_add]at hf
     have p8:es[j].key=uk:=by
      rw[(hr j es[j] ents[j] (by simp[eb]) (by simp[hj])).1];exact ur ZL (ea _ (List.getElem_mem hj)) lN
     obtain⟨h1,h2⟩:=write (es.modify j fun e=>{ e with key:=uk,val:=uv }) (ents.set j (uk,x)) (by simp[hn]) (fun i e p he hp=>by
      rw[Array.getElem?_modify]at he;rw[List.getElem?_set]at hp;by_cases cL:j=i
      .subst cL;rw[if_pos rfl,if_pos hj]at hp;obtain rfl:=Option.some.inj hp;simp[eb]at he;subst he;exact⟨rfl,(hr j es[j] ents[j] (by simp[eb]) (by simp[hj])).2.1,xm⟩
      .rw[if_neg cL]at hp he
       exact hr i e p he hp)
     refine⟨_,?_,by rw[gC];exact h1,h2⟩;have bA:=run_keyThatStays (P:=P) (w:=w) (uu ZL);simp[eb]at hf;simp[Instr.mapUpdate,run_underlying hu,MapKept.run_getObj_map hh,aS,hf,Result.andThen,MapKept.run_setObj_map _ hh,eb,p8,bA]
   .cases h
  .cases h
 .cases h
end
