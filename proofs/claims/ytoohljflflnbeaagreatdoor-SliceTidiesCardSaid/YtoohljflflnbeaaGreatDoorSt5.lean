/- Parts. -/
import Derived.Test.YtoohljflflnbeaaGreatDoorSt4
import Derived.MapKept
set_option linter.unusedSectionVars false
set_option linter.unusedSimpArgs false
set_option linter.unusedVariables false
namespace Go.Av
open Go.MapKept
def jH:Value->Value->Bool
 | .int _ a,.int _ b=>a == b
 | .string a,.string b=>a == b
 | .bool a,.bool b=>a == b
 | _,_=>false
def jI:TypeDesc->Value->Bool
 | .bool,.bool _=>true
 | .int k,.int k' _=>decide (k'=k)
 | .string,.string _=>true
 | _,_=>false
def ud (k:Value) (ents:List (Value×D)):Option Nat:=ents.findIdx? fun p=>jH k p.1
def rk (k:Value) (ents:List (Value×D)):Option D:=(ents.find? fun p=>jH k p.1).map (·.2)
def vK (k:Value) (x:D) (ents:List (Value×D)):List (Value×D):=match ents.findIdx? fun p=>jH k p.1 with
 | some j=>ents.set j (k,x)
 | none=>ents ++ [(k,x)]
theorem zc {d:TypeDesc} {v:Value} (h:jI d v=true):IsKey d v:=by
 cases d<;>cases v<;>simp_all [jI,IsKey]
theorem MW {d:TypeDesc} {a b:Value} (ha:jI d a=true) (hb:jI d b=true):Instr.sameNow d a b=some (jH a b):=by
 cases d<;>cases a<;>simp[jI]at ha<;>cases b<;>simp[jI]at hb<;>simp[jH,Instr.sameNow,ha,hb]
theorem KI {d:TypeDesc} {a b:Value} (ha:jI d a=true) (hb:jI d b=true) (h:jH a b=true):b=a:=by
 obtain⟨r,h1,h2⟩:=sameNow_of_keys (zc ha) (zc hb);rw[MW ha hb]at h1;obtain rfl:=AI h1;have:=h2.1 h
 first | exact this | exact this.symm
theorem DV {d:TypeDesc} {k:Value} (hk:jI d k=true):∀ (l:List MapEntry) (ents:List (Value×D)) (i:Nat),l.map (·.key)=ents.map (·.1)->(∀ p∈ents,jI d p.1=true)->
  Instr.findNow d k l i=some ((ud k ents).map fun j=>(i+j,((l[j]?).map (·.val)).getD undef))
 | [],[],_,_,_=>rfl
 | [],_ :: _,_,h,_=>by simp at h
 | _ :: _,[],_,h,_=>by simp at h
 | e :: l,p :: ents,i,h,ho=>by
  simp only[abj,acw]at h;obtain⟨h1,h2⟩:=h;have hp:=ho p al;have hs:=MW hk hp;rw[<- h1]at hs;simp only[Instr.findNow,hs];have ih:=DV hk l ents (i+1) h2 fun q hq=>ho q (by simp[hq]);unfold ud at ih ⊢;rw[List.findIdx?_cons]
  cases hq:jH k p.1 with
  | true=>
   rw[<- h1]at hq;simp[hq]
  | false=>
   have oH:jH k e.key=false:=by rw[h1];exact hq
   simp only[oH,abh,if_false,ih,Option.map_map,BY];congr 1;funext j;simp[Function.comp,abZ,Nat.add_comm 1 j]
theorem IM {k:Value} {ents:List (Value×D)}:rk k ents=(ud k ents).bind fun j=>(ents[j]?).map (·.2):=by
 unfold rk ud
 induction ents with
 | nil=>rfl
 | cons p ents ih=>
  rw[List.find?_cons,List.findIdx?_cons]
  cases h:jH k p.1 with
  | true=>simp
  | false=>
   simp only[ih,abh,if_false]
   cases List.findIdx? (fun p=>jH k p.1) ents with
   | none=>rfl
   | some j=>simp
def xj:Value->D
 | .agg arr=>.agg (arr.toList.map rh)
 | v=>rh v
theorem ZN {w:World} {X:Nat->Prop} (v:Value):RD w X v (xj v):=by
 unfold xj;split
 .rename_i arr;refine .agg al fun j u c hu hc=>?_;simp only[aa3,abc,hu,abC,BY]at hc;subst hc;exact vF u
 .exact vF _
def sa (ok:Bool) (x:D) (b:Bool):D:=if ok then .bI [x,.v (.bool b)] else x
theorem Lz {w:World} {X:Nat->Prop} {ok b:Bool} {u:Value} {x:D} (h:RD w X u x):RD w X (if ok then .tuple #[u,.bool b] else u) (sa ok x b):=by
 unfold sa
 cases ok with
 | false=>exact h
 | true=>
  refine .bI rfl fun j u' c hu hc=>?_
  match j,hu,hc with
  | 0,hu,hc=>simp at hu hc;subst hu hc;exact h
  | 1,hu,hc=>simp at hu hc;subst hu hc;exact .v _
  | j+2,hu,hc=>simp at hu
def l5 (ents:List (Value×Value)):List (Value×D):=ents.map fun p=>(p.1,.v p.2)
def mY (T:Ty) (H:Heap) (t:TypeId) (ok:Bool):AV->AV->jy
 | .mp r,.d (.v k)=>match H r,T t with
  | some (.mp _ ents),some tt=>match tt.desc with
   | .map kt et=>match T kt,T et with
    | some tk,some te=>some (jI tk.desc k=true/\(∀ p∈ents,jI tk.desc p.1=true),.d (match rk k ents with
     | some x=>sa ok x true
     | none=>sa ok (xj te.zero) false))
    | _,_=>none
   | _=>none
  | _,_=>none
 | .d (.dm _ ents),.d (.v k)=>match T t with
  | some tt=>match tt.desc with
   | .map kt et=>match T kt,T et with
    | some tk,some te=>some (jI tk.desc k=true/\(ents.map (·.1)).Nodup/\(∀ p∈l5 ents,jI tk.desc p.1=true),.d (match rk k (l5 ents) with
     | some x=>sa ok x true
     | none=>sa ok (xj te.zero) false))
    | _,_=>none
   | _=>none
  | _=>none
 | _,_=>none
section
variable {P:Program} {T:Ty} {Mv X:Nat->Prop} {G:aF} {N:Fr} {w:World} {μ:Mu} {a:Act} {σ:St}
theorem RV.Gk {u:Value} {r:Nat} (h:RV w X μ u (.mp r)):∃ m b,μ r=some m/\m.fh=some b/\u = .map (some b):=by
 generalize hy:AV.mp r=y at h;cases h<;>cases hy;exact⟨_,_,by assumption,by assumption,rfl⟩
theorem eu.Ge {H:Heap} (hs:eu w X μ H) {r ty:Nat} {ents:List (Value×D)} (hH:H r=some (.mp ty ents)) {m:jh} {b:Nat} (hm:μ r=some m) (hb:m.fh=some b) :
  ∃ es:Array MapEntry,w.heap[b]? = some (.map es es.size)/\es.size=ents.length/\(∀ (i:Nat) (e:MapEntry) (p:Value×D),es[i]? = some e->ents[i]? = some p->e.key=p.1/\e.born=i/\RD w (XX X μ) e.val p.2)/\es.toList.map (·.key)=ents.map (·.1):=by
 obtain⟨m',cD,ok⟩:=hs.rows r _ hH;rw[hm]at cD;obtain rfl:=AI cD
 cases ok with
 | mp bp hh hn hr=>
  rename_i b' es;rw[hb]at bp;obtain rfl:=AI bp;refine⟨es,hh,hn,hr,List.ext_getElem (by simpa using hn) fun i h1 h2=>?_⟩
  have DZ:i < es.size:=by simpa using h1
  have gY:i < ents.length:=by simpa using h2
  have:=(hr i es[i] ents[i] (by simp[DZ]) (by simp[gY])).1;simpa using this
theorem Lh (hg:Good P T) {t kt et:TypeId} {tt tk te:TI} {ok:Bool} {b:Nat} {v:Value} {es:Array MapEntry} {ents:List (Value×D)} (dY:T t=some tt) (hd:tt.desc = .map kt et) (hk:T kt=some tk) (he:T et=some te)
  (hh:w.heap[b]? = some (.map es es.size)) (hn:es.size=ents.length) (hr:∀ (i:Nat) (e:MapEntry) (p:Value×D),es[i]? = some e->ents[i]? = some p->e.key=p.1/\e.born=i/\RD w (XX X μ) e.val p.2) (yu:es.toList.map (·.key)=ents.map (·.1))
  (c8:jI tk.desc v=true) (eh:∀ p∈ents,jI tk.desc p.1=true) :
  ∃ r, (Instr.lookup t (.map (some b)) v ok).run P w = .ok r w /\ RV w X μ r (.d (match rk v ents with
        | some x=>sa ok x true
        | none=>sa ok (xj te.zero) false)):=by
 have hu:P.underlying t=some (.map kt et):=by rw[<- hd];exact (hg _ _ dY).1
 have yY:P.underlying kt=some tk.desc:=(hg _ _ hk).1;have hf:=run_findKey (P:=P) (w:=w) yY (DV c8 es.toList ents 0 yu eh);have eN:=fun e=>run_checkKey (P:=P) (w:=w) yY (zc c8) e 9999
 cases hi:ud v ents with
 | none=>
  rw[hi]at hf;refine⟨if ok then .tuple #[te.zero,.bool false] else te.zero,?_,.d ?_⟩
  .simp only[Option.map_none]at hf;simp[Instr.lookup,run_underlying hu,MapKept.run_getObj_map hh,eN,hf,hg.zero he,Result.andThen]
  .rw[IM,hi];exact Lz (ZN _)
 | some j=>
  rw[hi]at hf
  have hj:j < ents.length:=by
   unfold ud at hi;rw[abF]at hi;exact hi.1
  have fH:j < es.size:=aa
  refine⟨if ok then .tuple #[es[j].val,.bool true] else es[j].val,?_,.d ?_⟩
  .simp only[abC,abe]at hf;simp[fH]at hf;simp[Instr.lookup,run_underlying hu,MapKept.run_getObj_map hh,eN,hf,Result.andThen]
  .rw[IM,hi];simp only[acz,IN hj,abC];exact Lz (hr j es[j] ents[j] (by simp[fH]) (by simp[hj])).2.2
theorem PC {ents:List (Value×Value)}:(pY ents).size=(l5 ents).length/\(∀ (i:Nat) (e:MapEntry) (p:Value×D),(pY ents)[i]? = some e->(l5 ents)[i]? = some p->e.key=p.1/\e.born=i/\RD w (XX X μ) e.val p.2)/\(pY ents).toList.map (·.key)=(l5 ents).map (·.1):=by
 refine⟨by simp[td,l5],fun i e p he hp=>?_,?_⟩
 .have hi:i < ents.length:=by have:=(aa1.1 he).1;rwa [td]at this
  rw[Gh hi]at he;obtain rfl:=AI he;simp only[l5,aa3,IN hi,abC,BY]at hp;subst hp;exact⟨rfl,rfl,.v _⟩
 .refine List.ext_getElem (by simp[td,l5]) fun i h1 h2=>?_
  have hi:i < ents.length:=by simpa[l5]using h2
  have h3:=Gh hi
  have h4:i < (pY ents).size:=by rw[td];exact hi
  rw[abn h4]at h3;have h5:=AI h3;simp[l5,h5]
theorem _root_.Go.Av.RD.PD {X:Nat->Prop} {u:Value} {x:Bool} {ents:List (Value×Value)} (h:RD w X u (.dm x ents)):∃ b es,u = .map (some b)/\w.heap[b]? = some (.map (pY es) es.length)/\es.Perm ents:=by
 generalize hq:D.dm x ents=q at h;cases h<;>cases hq;exact⟨_,_,rfl,by assumption,by assumption⟩
theorem PW {d:TypeDesc} {es ents:List (Value×Value)} {k:Value} (hp:es.Perm ents) (hn:(ents.map (·.1)).Nodup) (hk:jI d k=true) (ho:∀ p∈l5 ents,jI d p.1=true):rk k (l5 es)=rk k (l5 ents):=by
 have one:∀ p∈ents,jH k p.1=true->p.1=k:=fun p ke h=>KI hk (ho (p.1,.v p.2) (abE.2 ⟨p,ke,rfl⟩)) h
 have uniq:∀ p∈ents,∀ q∈ents,p.1=q.1->p=q:=by
  have key:∀ l:List (Value×Value),(l.map (·.1)).Nodup->∀ p∈l,∀ q∈l,p.1=q.1->p=q:=by
   intro l
   induction l with
   | nil=>intro _ p hp;cases hp
   | cons x l ih=>
    intro hn p hp q hq e;rw[abj,acx]at hn
    rcases abg.1 hp with e1 | ke
    .rcases abg.1 hq with e2 | mM
     .rw[e1,e2]
     .exact absurd (abE.2 ⟨q,mM,by rw[<- e,e1]⟩) hn.1
    .rcases abg.1 hq with e2 | mM
     .exact absurd (abE.2 ⟨p,ke,by rw[e,e2]⟩) hn.1
     .exact ih hn.2 p ke q mM e
  exact key ents hn
 have e1:∀ l:List (Value×Value),rk k (l5 l)=(l.find? fun p=>jH k p.1).map fun p=>.v p.2:=fun l=>by
  unfold rk l5;rw[List.find?_map]
  cases h:l.find? ((fun p:Value×D=>jH k p.1) ∘ fun p=>(p.1,D.v p.2)) with
  | none=>simp only[AT]at h;rw[h];rfl
  | some p=>simp only[AT]at h;rw[h];rfl
 rw[e1,e1]
 cases h1:es.find? fun p=>jH k p.1 with
 | some p=>
  have ke:=hp.mem_iff.1 (List.mem_of_find?_eq_some h1);have jD:=List.find?_some h1
  cases h2:ents.find? fun p=>jH k p.1 with
  | none=>exact absurd jD (by simpa using List.find?_eq_none.1 h2 p ke)
  | some q=>
   have mM:=List.mem_of_find?_eq_some h2;have mN:=List.find?_some h2;rw[uniq p ke q mM ((one p ke jD).trans (one q mM mN).symm)]
 | none=>
  cases h2:ents.find? fun p=>jH k p.1 with
  | none=>rfl
  | some q=>
   have mM:=hp.mem_iff.2 (List.mem_of_find?_eq_some h2);exact absurd (List.find?_some h2) (by simpa using List.find?_eq_none.1 h1 q mM)
theorem Us (hg:Good P T) (hs:eu w X μ σ.H) {t:TypeId} {ok:Bool} {u v:Value} {x y z:AV} {c:Prop} (h:mY T σ.H t ok x y=some (c,z)) (hc:c) (hx:RV w X μ u x) (hy:RV w X μ v y) :
  ∃ r,(Instr.lookup t u v ok).run P w = .ok r w/\RV w X μ r z:=by
 unfold mY at h;split at h
 .rename_i r k;split at h
  .rename_i ty ents tt hH dY;split at h
   .rename_i kt et hd;split at h
    .rename_i tk te hk he;obtain⟨rfl,rfl⟩:=dI h;obtain⟨c8,eh⟩:=hc;obtain⟨m,b,hm,hb,rfl⟩:=hx.Gk;have hv:=hy.scalar;subst hv;obtain⟨es,hh,hn,hr,yu⟩:=hs.Ge hH hm hb;exact Lh hg dY hd hk he hh hn hr yu c8 eh
    .cases h
   .cases h
  .cases h
 .rename_i ents k;split at h
  .rename_i tt dY;split at h
   .rename_i kt et hd;split at h
    .rename_i tk te hk he;obtain⟨rfl,rfl⟩:=dI h;obtain⟨c8,gA,eh⟩:=hc;have hv:=hy.scalar;subst hv;have BE:=hx.data;obtain⟨b,es,hu,hh,hp⟩:=BE.PD;subst hu;obtain⟨d1,d2,d3⟩:=PC (w:=w) (X:=X) (μ:=μ) (ents:=es);have Rb:∀ p∈l5 es,jI tk.desc p.1=true:=fun p jD=>eh p ((hp.map _).mem_iff.1 jD);rw[<- PW hp gA c8 eh];exact Lh hg dY hd hk he (by rw[hh,td]) d1 d2 d3 c8 Rb
    .cases h
   .cases h
  .cases h
 .cases h
theorem Uy (hi:In w X G μ N a σ) {d:Nat} (hd:σ.H d=none) (t:TypeId):mo Mv X G N w μ a ((Instr.makeMap t none).run P w) (.mp d) ⟨σ.env,bk σ.H d (.mp t [])⟩:=by
 have hb:(w.alloc (.map #[] 0)).heap[w.heap.size]? = some (.map #[] 0):=by rw[<- World.alloc_eq];simp
 obtain⟨bn,br⟩:=hi.alloc (Mv:=Mv) hd (cT.alloc w (.map #[] 0)) (m:=⟨some w.heap.size,1,0⟩) (fun b hb=>by simp at hb;omega) (row:=.mp t []) fun _=>.mp rfl hb rfl al;exact⟨.map (some w.heap.size),_,_,rfl,bn,.mp (m:=⟨some w.heap.size,1,0⟩) (by simp[eo]) rfl,br⟩
def zy (T:Ty) (t:TypeId) (ents:List (Value×D)) (k:Value) (x:D):Option (Prop×List (Value×D)):=match T t with
 | some tt=>match tt.desc with
  | .map kt _=>match T kt with
   | some tk=>some (jI tk.desc k=true/\(∀ p∈ents,jI tk.desc p.1=true),vK k x ents)
   | none=>none
  | _=>none
 | none=>none
theorem Lk (hg:Good P T) (hi:In w X G μ N a σ) {t ty:TypeId} {r:Nat} {ents lF:List (Value×D)} {um uk uv k:Value} {x:D} {c:Prop} (hH:σ.H r=some (.mp ty ents)) (h:zy T t ents k x=some (c,lF)) (hc:c)
  (hm:RV w X μ um (.mp r)) (hk:RV w X μ uk (.d (.v k))) (hx:RV w X μ uv (.d x)) :
  ∃ w',(Instr.mapUpdate t um uk uv).run P w = .ok () w'/\In w' X G μ N a ⟨σ.env,bk σ.H r (.mp ty lF)⟩/\Ev Mv w μ w' μ:=by
 unfold zy at h;split at h
 .rename_i tt dY;split at h
  .rename_i kt et hd;split at h
   .rename_i tk yx;obtain⟨rfl,rfl⟩:=dI h;obtain⟨c8,eh⟩:=hc;obtain⟨m,b,wh,hb,rfl⟩:=hm.Gk;obtain rfl:=hk.scalar;obtain⟨es,hh,hn,hr,yu⟩:=hi.bo.Ge hH wh hb
    have hu:P.underlying t=some (.map kt et):=by rw[<- hd];exact (hg _ _ dY).1
    have yY:P.underlying kt=some tk.desc:=(hg _ _ yx).1;have hf:=run_findKey (P:=P) (w:=w) yY (DV c8 es.toList ents 0 yu eh);have eN:=run_checkKey (P:=P) (w:=w) yY (zc c8) false 9999;have bf:b < w.heap.size:=(aa1.1 hh).1;have BE:=hx.data
    have write:∀ (rm:Array MapEntry) (lF:List (Value×D)),rm.size=lF.length->(∀ (i:Nat) (e:MapEntry) (p:Value×D),rm[i]? = some e->lF[i]? = some p->e.key=p.1/\e.born=i/\RD w (XX X μ) e.val p.2)->
      In { w with heap:=w.heap.setIfInBounds b (.map rm rm.size) } X G μ N a ⟨σ.env,bk σ.H r (.mp ty lF)⟩/\Ev Mv w μ { w with heap:=w.heap.setIfInBounds b (.map rm rm.size) } μ:=fun rm lF hl lg=>
     hi.write (Mv:=Mv) (w':={ w with heap:=w.heap.setIfInBounds b (.map rm rm.size) }) wh hb al rfl rfl rfl (fun k hk=>by simp[Array.getElem?_setIfInBounds_ne (abY hk)]) fun ev=>.mp hb (by simp[bf]) hl fun i e p he hp=>let ⟨h1,h2,h3⟩:=lg i e p he hp;⟨h1,h2,h3.ev ev⟩
    unfold vK
    cases nB:ud uk ents with
    | none=>
     have pG:(ents.findIdx? fun p=>jH uk p.1)=none:=nB;rw[nB]at hf;simp only[Option.map_none]at hf
     obtain⟨h1,h2⟩:=write (es.push { key:=uk,val:=uv,born:=es.size }) (ents ++ [(uk,x)]) (by simp[hn]) (fun i e p he hp=>by
      rw[Array.getElem?_push]at he;split at he
      .rename_i eO;obtain rfl:=AI he;subst eO;rw[hn,List.getElem?_append_right (aa8 _),Nat.sub_self]at hp;obtain rfl:=AI hp;exact⟨rfl,rfl,BE⟩
      .have eO:i < ents.length:=by have:=(aa1.1 he).1;omega
       rw[abQ eO]at hp
       exact hr i e p he hp)
     refine⟨_,?_,by rw[pG];exact h1,h2⟩;simp[Instr.mapUpdate,run_underlying hu,MapKept.run_getObj_map hh,eN,hf,Result.andThen,MapKept.run_setObj_map _ hh]
    | some j=>
     have pG:(ents.findIdx? fun p=>jH uk p.1)=some j:=nB;have sQ:=abF.1 pG;obtain⟨hj,sS,_⟩:=sQ
     have fH:j < es.size:=aa
     rw[nB]at hf;simp only[abC,abe]at hf
     have uu:es[j].key=uk:=by
      rw[(hr j es[j] ents[j] (by simp[fH]) (by simp[hj])).1];exact KI c8 (eh _ (aa6 hj)) sS
     obtain⟨h1,h2⟩:=write (es.modify j fun e=>{ e with key:=uk,val:=uv }) (ents.set j (uk,x)) (by simp[hn]) (fun i e p he hp=>by
      rw[aca]at he;rw[List.getElem?_set]at hp;by_cases l9:j=i
      .subst l9;rw[if_pos rfl,if_pos hj]at hp;obtain rfl:=AI hp;simp[fH]at he;subst he;exact⟨rfl,(hr j es[j] ents[j] (by simp[fH]) (by simp[hj])).2.1,BE⟩
      .rw[if_neg l9]at hp he
       exact hr i e p he hp)
     refine⟨_,?_,by rw[pG];exact h1,h2⟩;have bO:=run_keyThatStays (P:=P) (w:=w) (zc c8);simp[fH]at hf;simp[Instr.mapUpdate,run_underlying hu,MapKept.run_getObj_map hh,eN,hf,Result.andThen,MapKept.run_setObj_map _ hh,fH,uu,bO]
   .cases h
  .cases h
 .cases h
end
