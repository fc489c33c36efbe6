/- Parts. -/
import Derived.Test.YtdigkhaofjmgkaaGreatDoorFx4
import Derived.MapKept
set_option linter.unusedSectionVars false
set_option linter.unusedSimpArgs false
set_option linter.unusedVariables false
namespace Go.Av
open Go.MapKept
def fE:Value->Value->Bool
 | .int _ a,.int _ b=>a == b
 | .string a,.string b=>a == b
 | .bool a,.bool b=>a == b
 | _,_=>false
def ads:TypeDesc->Value->Bool
 | .bool,.bool _=>true
 | .int k,.int k' _=>decide (k'=k)
 | .string,.string _=>true
 | _,_=>false
def rW (k:Value) (ents:List (Value×D)):Option Nat:=ents.findIdx? fun p=>fE k p.1
def iz (k:Value) (ents:List (Value×D)):Option D:=(ents.find? fun p=>fE k p.1).map (·.2)
def pf (k:Value) (x:D) (ents:List (Value×D)):List (Value×D):=match ents.findIdx? fun p=>fE k p.1 with
 | some j=>ents.set j (k,x)
 | none=>ents ++ [(k,x)]
theorem sW {d:TypeDesc} {v:Value} (h:ads d v=true):IsKey d v:=by
 cases d<;>cases v<;>simp_all [ads,IsKey]
theorem FG {d:TypeDesc} {a b:Value} (ha:ads d a=true) (hb:ads d b=true):Instr.sameNow d a b=some (fE a b):=by
 cases d<;>cases a<;>simp[ads]at ha<;>cases b<;>simp[ads]at hb<;>simp[fE,Instr.sameNow,ha,hb]
theorem Eo {d:TypeDesc} {a b:Value} (ha:ads d a=true) (hb:ads d b=true) (h:fE a b=true):b=a:=by
 obtain⟨r,h1,h2⟩:=sameNow_of_keys (sW ha) (sW hb);rw[FG ha hb]at h1;obtain rfl:=AI h1;have:=h2.1 h
 first | exact this | exact this.symm
theorem CE {d:TypeDesc} {k:Value} (hk:ads d k=true):∀ (l:List MapEntry) (ents:List (Value×D)) (i:Nat),l.map (·.key)=ents.map (·.1)->(∀ p∈ents,ads d p.1=true)->
  Instr.findNow d k l i=some ((rW k ents).map fun j=>(i+j,((l[j]?).map (·.val)).getD undef))
 | [],[],_,_,_=>rfl
 | [],_ :: _,_,h,_=>by simp at h
 | _ :: _,[],_,h,_=>by simp at h
 | e :: l,p :: ents,i,h,ho=>by
  simp only[acJ,aeV]at h;obtain⟨h1,h2⟩:=h;have hp:=ho p (by simp);have hs:=FG hk hp;rw[<- h1]at hs;simp only[Instr.findNow,hs];have ih:=CE hk l ents (i+1) h2 fun q hq=>ho q (by simp[hq]);unfold rW at ih ⊢;rw[ael]
  cases hq:fE k p.1 with
  | true=>
   rw[<- h1]at hq;simp[hq]
  | false=>
   have hq':fE k e.key=false:=by rw[h1];exact hq
   simp only[hq',abT,if_false,ih,Option.map_map,AS];congr 1;funext j;simp[Function.comp,adn,afc 1 j]
theorem Hv {k:Value} {ents:List (Value×D)}:iz k ents=(rW k ents).bind fun j=>(ents[j]?).map (·.2):=by
 unfold iz rW
 induction ents with
 | nil=>rfl
 | cons p ents ih=>
  rw[List.find?_cons,ael]
  cases h:fE k p.1 with
  | true=>simp
  | false=>
   simp only[ih,abT,if_false]
   cases List.findIdx? (fun p=>fE k p.1) ents with
   | none=>rfl
   | some j=>simp
def aca:Value->D
 | .agg arr=>.agg (arr.toList.map pa)
 | v=>pa v
theorem aau {w:World} {X:Nat->Prop} (v:Value):RD w X v (aca v):=by
 unfold aca;split
 .rename_i arr;refine .agg (by simp) fun j u c hu hc=>?_;simp only[abM,ab2,hu,acN,AS]at hc;subst hc;exact tL u
 .exact tL _
def dD (ok:Bool) (x:D) (b:Bool):D:=if ok then .aW [x,.v (.bool b)] else x
theorem ag8 {w:World} {X:Nat->Prop} {ok b:Bool} {u:Value} {x:D} (h:RD w X u x):RD w X (if ok then .tuple #[u,.bool b] else u) (dD ok x b):=by
 unfold dD
 cases ok with
 | false=>exact h
 | true=>
  refine .aW rfl fun j u' c hu hc=>?_
  match j,hu,hc with
  | 0,hu,hc=>simp at hu hc;subst hu hc;exact h
  | 1,hu,hc=>simp at hu hc;subst hu hc;exact .v _
  | j+2,hu,hc=>simp at hu
def cE (ents:List (Value×Value)):List (Value×D):=ents.map fun p=>(p.1,.v p.2)
def kU (T:Ty) (H:Heap) (t:TypeId) (ok:Bool):AV->AV->hU
 | .mp r,.d (.v k)=>match H r,T t with
  | some (.mp _ ents),some tt=>match tt.desc with
   | .map kt et=>match T kt,T et with
    | some tk,some te=>some (ads tk.desc k=true/\(∀ p∈ents,ads tk.desc p.1=true),.d (match iz k ents with
     | some x=>dD ok x true
     | none=>dD ok (aca te.zero) false))
    | _,_=>none
   | _=>none
  | _,_=>none
 | .d (.dm _ ents),.d (.v k)=>match T t with
  | some tt=>match tt.desc with
   | .map kt et=>match T kt,T et with
    | some tk,some te=>some (ads tk.desc k=true/\(ents.map (·.1)).Nodup/\(∀ p∈cE ents,ads tk.desc p.1=true),.d (match iz k (cE ents) with
     | some x=>dD ok x true
     | none=>dD ok (aca te.zero) false))
    | _,_=>none
   | _=>none
  | _=>none
 | _,_=>none
section
variable {P:Program} {T:Ty} {Mv X:Nat->Prop} {G:aq} {N:Fr} {w:World} {μ:Mu} {a:Act} {σ:St}
theorem RV.E0 {u:Value} {r:Nat} (h:RV w X μ u (.mp r)):∃ m b,μ r=some m/\m.blk=some b/\u = .map (some b):=by
 generalize hy:AV.mp r=y at h;cases h<;>cases hy;exact⟨_,_,by assumption,by assumption,rfl⟩
theorem Sim.EJ {H:Heap} (hs:Sim w X μ H) {r ty:Nat} {ents:List (Value×D)} (hH:H r=some (.mp ty ents)) {m:gp} {b:Nat} (hm:μ r=some m) (hb:m.blk=some b) :
  ∃ es:Array MapEntry,w.heap[b]? = some (.map es es.size)/\es.size=ents.length/\(∀ (i:Nat) (e:MapEntry) (p:Value×D),es[i]? = some e->ents[i]? = some p->e.key=p.1/\e.born=i/\RD w (XX X μ) e.val p.2)/\es.toList.map (·.key)=ents.map (·.1):=by
 obtain⟨m',bU,ok⟩:=hs.rows r _ hH;rw[hm]at bU;obtain rfl:=AI bU
 cases ok with
 | mp aU hh hn hr=>
  rename_i b' es;rw[hb]at aU;obtain rfl:=AI aU;refine⟨es,hh,hn,hr,List.ext_getElem (by simpa using hn) fun i h1 h2=>?_⟩
  have CH:i < es.size:=by simpa using h1
  have gu:i < ents.length:=by simpa using h2
  have:=(hr i es[i] ents[i] (by simp[CH]) (by simp[gu])).1;simpa using this
theorem Kh (hg:Good P T) {t kt et:TypeId} {tt tk te:TI} {ok:Bool} {b:Nat} {v:Value} {es:Array MapEntry} {ents:List (Value×D)} (cC:T t=some tt) (hd:tt.desc = .map kt et) (hk:T kt=some tk) (he:T et=some te)
  (hh:w.heap[b]? = some (.map es es.size)) (hn:es.size=ents.length) (hr:∀ (i:Nat) (e:MapEntry) (p:Value×D),es[i]? = some e->ents[i]? = some p->e.key=p.1/\e.born=i/\RD w (XX X μ) e.val p.2) (agl:es.toList.map (·.key)=ents.map (·.1))
  (dA:ads tk.desc v=true) (fV:∀ p∈ents,ads tk.desc p.1=true) :
  ∃ r, (Instr.lookup t (.map (some b)) v ok).run P w = .ok r w /\ RV w X μ r (.d (match iz v ents with
        | some x=>dD ok x true
        | none=>dD ok (aca te.zero) false)):=by
 have hu:P.underlying t=some (.map kt et):=by rw[<- hd];exact (hg _ _ cC).1
 have xm:P.underlying kt=some tk.desc:=(hg _ _ hk).1;have hf:=run_findKey (P:=P) (w:=w) xm (CE dA es.toList ents 0 agl fV);have aP:=fun e=>run_checkKey (P:=P) (w:=w) xm (sW dA) e 9999
 cases hi:rW v ents with
 | none=>
  rw[hi]at hf;refine⟨if ok then .tuple #[te.zero,.bool false] else te.zero,?_,.d ?_⟩
  .simp only[Option.map_none]at hf;simp[Instr.lookup,run_underlying hu,MapKept.run_getObj_map hh,aP,hf,hg.zero he,Result.andThen]
  .rw[Hv,hi];exact ag8 (aau _)
 | some j=>
  rw[hi]at hf
  have hj:j < ents.length:=by
   unfold rW at hi;rw[acT]at hi;exact hi.1
  have hj':j < es.size:=by omega
  refine⟨if ok then .tuple #[es[j].val,.bool true] else es[j].val,?_,.d ?_⟩
  .simp only[acN,acR]at hf;simp[hj']at hf;simp[Instr.lookup,run_underlying hu,MapKept.run_getObj_map hh,aP,hf,Result.andThen]
  .rw[Hv,hi];simp only[ae5,By hj,acN];exact ag8 (hr j es[j] ents[j] (by simp[hj']) (by simp[hj])).2.2
theorem O7 {ents:List (Value×Value)}:(gR ents).size=(cE ents).length/\(∀ (i:Nat) (e:MapEntry) (p:Value×D),(gR ents)[i]? = some e->(cE ents)[i]? = some p->e.key=p.1/\e.born=i/\RD w (XX X μ) e.val p.2)/\(gR ents).toList.map (·.key)=(cE ents).map (·.1):=by
 refine⟨by simp[mf,cE],fun i e p he hp=>?_,?_⟩
 .have hi:i < ents.length:=by have:=(IS.1 he).1;rwa [mf]at this
  rw[u0 hi]at he;obtain rfl:=AI he;simp only[cE,abM,By hi,acN,AS]at hp;subst hp;exact⟨rfl,rfl,.v _⟩
 .refine List.ext_getElem (by simp[mf,cE]) fun i h1 h2=>?_
  have hi:i < ents.length:=by simpa[cE]using h2
  have h3:=u0 hi
  have h4:i < (gR ents).size:=by rw[mf];exact hi
  rw[acb h4]at h3;have h5:=AI h3;simp[cE,h5]
theorem _root_.Go.Av.RD.O8 {X:Nat->Prop} {u:Value} {x:Bool} {ents:List (Value×Value)} (h:RD w X u (.dm x ents)):∃ b es,u = .map (some b)/\w.heap[b]? = some (.map (gR es) es.length)/\es.Perm ents:=by
 generalize hq:D.dm x ents=q at h;cases h<;>cases hq;exact⟨_,_,rfl,by assumption,by assumption⟩
theorem Pt {d:TypeDesc} {es ents:List (Value×Value)} {k:Value} (hp:es.Perm ents) (hn:(ents.map (·.1)).Nodup) (hk:ads d k=true) (ho:∀ p∈cE ents,ads d p.1=true):iz k (cE es)=iz k (cE ents):=by
 have one:∀ p∈ents,fE k p.1=true->p.1=k:=fun p hp1 h=>Eo hk (ho (p.1,.v p.2) (acD.2 ⟨p,hp1,rfl⟩)) h
 have uniq:∀ p∈ents,∀ q∈ents,p.1=q.1->p=q:=by
  have key:∀ l:List (Value×Value),(l.map (·.1)).Nodup->∀ p∈l,∀ q∈l,p.1=q.1->p=q:=by
   intro l
   induction l with
   | nil=>intro _ p hp;cases hp
   | cons x l ih=>
    intro hn p hp q hq e;rw[acJ,acF]at hn
    rcases abV.1 hp with e1 | hp1
    .rcases abV.1 hq with e2 | gO
     .rw[e1,e2]
     .exact absurd (acD.2 ⟨q,gO,by rw[<- e,e1]⟩) hn.1
    .rcases abV.1 hq with e2 | gO
     .exact absurd (acD.2 ⟨p,hp1,by rw[e,e2]⟩) hn.1
     .exact ih hn.2 p hp1 q gO e
  exact key ents hn
 have e1:∀ l:List (Value×Value),iz k (cE l)=(l.find? fun p=>fE k p.1).map fun p=>.v p.2:=fun l=>by
  unfold iz cE;rw[List.find?_map]
  cases h:l.find? ((fun p:Value×D=>fE k p.1) ∘ fun p=>(p.1,D.v p.2)) with
  | none=>simp only[abK]at h;rw[h];rfl
  | some p=>simp only[abK]at h;rw[h];rfl
 rw[e1,e1]
 cases h1:es.find? fun p=>fE k p.1 with
 | some p=>
  have hp1:=hp.mem_iff.1 (List.mem_of_find?_eq_some h1);have ey:=List.find?_some h1
  cases h2:ents.find? fun p=>fE k p.1 with
  | none=>exact absurd ey (by simpa using List.find?_eq_none.1 h2 p hp1)
  | some q=>
   have gO:=List.mem_of_find?_eq_some h2;have eS:=List.find?_some h2;rw[uniq p hp1 q gO ((one p hp1 ey).trans (one q gO eS).symm)]
 | none=>
  cases h2:ents.find? fun p=>fE k p.1 with
  | none=>rfl
  | some q=>
   have gO:=hp.mem_iff.2 (List.mem_of_find?_eq_some h2);exact absurd (List.find?_some h2) (by simpa using List.find?_eq_none.1 h1 q gO)
theorem Uq (hg:Good P T) (hs:Sim w X μ σ.H) {t:TypeId} {ok:Bool} {u v:Value} {x y z:AV} {c:Prop} (h:kU T σ.H t ok x y=some (c,z)) (hc:c) (hx:RV w X μ u x) (hy:RV w X μ v y) :
  ∃ r,(Instr.lookup t u v ok).run P w = .ok r w/\RV w X μ r z:=by
 unfold kU at h;split at h
 .rename_i r k;split at h
  .rename_i ty ents tt hH cC;split at h
   .rename_i kt et hd;split at h
    .rename_i tk te hk he;simp only[AS,BY]at h;obtain⟨rfl,rfl⟩:=h;obtain⟨dA,fV⟩:=hc;obtain⟨m,b,hm,hb,rfl⟩:=hx.E0;have hv:=hy.scalar;subst hv;obtain⟨es,hh,hn,hr,agl⟩:=hs.EJ hH hm hb;exact Kh hg cC hd hk he hh hn hr agl dA fV
    .cases h
   .cases h
  .cases h
 .rename_i ents k;split at h
  .rename_i tt cC;split at h
   .rename_i kt et hd;split at h
    .rename_i tk te hk he;simp only[AS,BY]at h;obtain⟨rfl,rfl⟩:=h;obtain⟨dA,ic,fV⟩:=hc;have hv:=hy.scalar;subst hv;have zX:=hx.data;obtain⟨b,es,hu,hh,hp⟩:=zX.O8;subst hu;obtain⟨d1,d2,d3⟩:=O7 (w:=w) (X:=X) (μ:=μ) (ents:=es);have Rg:∀ p∈cE es,ads tk.desc p.1=true:=fun p ey=>fV p ((hp.map _).mem_iff.1 ey);rw[<- Pt hp ic dA fV];exact Kh hg cC hd hk he (by rw[hh,mf]) d1 d2 d3 dA Rg
    .cases h
   .cases h
  .cases h
 .cases h
theorem UB (hi:In w X G μ N a σ) {d:Nat} (hd:σ.H d=none) (t:TypeId):aej Mv X G N w μ a ((Instr.makeMap t none).run P w) (.mp d) ⟨σ.env,aM σ.H d (.mp t [])⟩:=by
 have hb:(w.alloc (.map #[] 0)).heap[w.heap.size]? = some (.map #[] 0):=by rw[<- World.alloc_eq];simp
 obtain⟨aF,aH⟩:=hi.alloc (Mv:=Mv) hd (bZ.alloc w (.map #[] 0)) (m:=⟨some w.heap.size,1,0⟩) (fun b hb=>by simp at hb;omega) (row:=.mp t []) fun _=>.mp rfl hb rfl (by simp);exact⟨.map (some w.heap.size),_,_,rfl,aF,.mp (m:=⟨some w.heap.size,1,0⟩) (by simp[mup]) rfl,aH⟩
def x5 (T:Ty) (t:TypeId) (ents:List (Value×D)) (k:Value) (x:D):Option (Prop×List (Value×D)):=match T t with
 | some tt=>match tt.desc with
  | .map kt _=>match T kt with
   | some tk=>some (ads tk.desc k=true/\(∀ p∈ents,ads tk.desc p.1=true),pf k x ents)
   | none=>none
  | _=>none
 | none=>none
theorem Kl (hg:Good P T) (hi:In w X G μ N a σ) {t ty:TypeId} {r:Nat} {ents iQ:List (Value×D)} {um uk uv k:Value} {x:D} {c:Prop} (hH:σ.H r=some (.mp ty ents)) (h:x5 T t ents k x=some (c,iQ)) (hc:c)
  (hm:RV w X μ um (.mp r)) (hk:RV w X μ uk (.d (.v k))) (hx:RV w X μ uv (.d x)) :
  ∃ w',(Instr.mapUpdate t um uk uv).run P w = .ok () w'/\In w' X G μ N a ⟨σ.env,aM σ.H r (.mp ty iQ)⟩/\Ev Mv w μ w' μ:=by
 unfold x5 at h;split at h
 .rename_i tt cC;split at h
  .rename_i kt et hd;split at h
   .rename_i tk hkt;simp only[AS,BY]at h;obtain⟨rfl,rfl⟩:=h;obtain⟨dA,fV⟩:=hc;obtain⟨m,b,uB,hb,rfl⟩:=hm.E0;obtain rfl:=hk.scalar;obtain⟨es,hh,hn,hr,agl⟩:=hi.aX.EJ hH uB hb
    have hu:P.underlying t=some (.map kt et):=by rw[<- hd];exact (hg _ _ cC).1
    have xm:P.underlying kt=some tk.desc:=(hg _ _ hkt).1;have hf:=run_findKey (P:=P) (w:=w) xm (CE dA es.toList ents 0 agl fV);have aP:=run_checkKey (P:=P) (w:=w) xm (sW dA) false 9999;have au:b < w.heap.size:=(IS.1 hh).1;have zX:=hx.data
    have write:∀ (ph:Array MapEntry) (iQ:List (Value×D)),ph.size=iQ.length->(∀ (i:Nat) (e:MapEntry) (p:Value×D),ph[i]? = some e->iQ[i]? = some p->e.key=p.1/\e.born=i/\RD w (XX X μ) e.val p.2)->
      In { w with heap:=w.heap.setIfInBounds b (.map ph ph.size) } X G μ N a ⟨σ.env,aM σ.H r (.mp ty iQ)⟩/\Ev Mv w μ { w with heap:=w.heap.setIfInBounds b (.map ph ph.size) } μ:=fun ph iQ hl hr'=>
     hi.write (Mv:=Mv) (w':={ w with heap:=w.heap.setIfInBounds b (.map ph ph.size) }) uB hb (by simp) rfl rfl rfl (fun k hk=>by simp[ad2 (adr hk)]) fun ev=>.mp hb (by simp[au]) hl fun i e p he hp=>let ⟨h1,h2,h3⟩:=hr' i e p he hp;⟨h1,h2,h3.ev ev⟩
    unfold pf
    cases jt:rW uk ents with
    | none=>
     have ig:(ents.findIdx? fun p=>fE uk p.1)=none:=jt;rw[jt]at hf;simp only[Option.map_none]at hf
     obtain⟨h1,h2⟩:=write (es.push { key:=uk,val:=uv,born:=es.size }) (ents ++ [(uk,x)]) (by simp[hn]) (fun i e p he hp=>by
      rw[Array.getElem?_push]at he;split at he
      .rename_i da;obtain rfl:=AI he;subst da;rw[hn,List.getElem?_append_right (abL _),Nat.sub_self]at hp;obtain rfl:=AI hp;exact⟨rfl,rfl,zX⟩
      .have da:i < ents.length:=by have:=(IS.1 he).1;omega
       rw[adB da]at hp
       exact hr i e p he hp)
     refine⟨_,?_,by rw[ig];exact h1,h2⟩;simp[Instr.mapUpdate,run_underlying hu,MapKept.run_getObj_map hh,aP,hf,Result.andThen,MapKept.run_setObj_map _ hh]
    | some j=>
     have ig:(ents.findIdx? fun p=>fE uk p.1)=some j:=jt;have hj2:=acT.1 ig;obtain⟨hj,hke,_⟩:=hj2
     have hj':j < es.size:=by omega
     rw[jt]at hf;simp only[acN,acR]at hf
     have qN:es[j].key=uk:=by
      rw[(hr j es[j] ents[j] (by simp[hj']) (by simp[hj])).1];exact Eo dA (fV _ (abH hj)) hke
     obtain⟨h1,h2⟩:=write (es.modify j fun e=>{ e with key:=uk,val:=uv }) (ents.set j (uk,x)) (by simp[hn]) (fun i e p he hp=>by
      rw[aeJ]at he;rw[List.getElem?_set]at hp;by_cases hji:j=i
      .subst hji;rw[if_pos rfl,if_pos hj]at hp;obtain rfl:=AI hp;simp[hj']at he;subst he;exact⟨rfl,(hr j es[j] ents[j] (by simp[hj']) (by simp[hj])).2.1,zX⟩
      .rw[if_neg hji]at hp he
       exact hr i e p he hp)
     refine⟨_,?_,by rw[ig];exact h1,h2⟩;have cU:=run_keyThatStays (P:=P) (w:=w) (sW dA);simp[hj']at hf;simp[Instr.mapUpdate,run_underlying hu,MapKept.run_getObj_map hh,aP,hf,Result.andThen,MapKept.run_setObj_map _ hh,hj',qN,cU]
   .cases h
  .cases h
 .cases h
end
theorem aft:type_of% @dD.eq_1:=@dD.eq_1
theorem afD:type_of% @aca.eq_1:=@aca.eq_1
theorem afE:type_of% @aca.eq_2:=@aca.eq_2
