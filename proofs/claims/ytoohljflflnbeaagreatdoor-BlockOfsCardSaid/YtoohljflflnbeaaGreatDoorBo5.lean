/- Parts. -/
import Derived.Test.YtoohljflflnbeaaGreatDoorBo4
import Derived.MapKept
set_option linter.unusedSectionVars false
set_option linter.unusedSimpArgs false
set_option linter.unusedVariables false
namespace Go.Av
open Go.MapKept
def iG:Value->Value->Bool
 | .int _ a,.int _ b=>a == b
 | .string a,.string b=>a == b
 | .bool a,.bool b=>a == b
 | _,_=>false
def kg:TypeDesc->Value->Bool
 | .bool,.bool _=>true
 | .int k,.int k' _=>decide (k'=k)
 | .string,.string _=>true
 | _,_=>false
def wy (k:Value) (ents:List (Value×D)):Option Nat:=ents.findIdx? fun p=>iG k p.1
def j7 (k:Value) (ents:List (Value×D)):Option D:=(ents.find? fun p=>iG k p.1).map (·.2)
def td (k:Value) (x:D) (ents:List (Value×D)):List (Value×D):=match ents.findIdx? fun p=>iG k p.1 with
 | some j=>ents.set j (k,x)
 | none=>ents ++ [(k,x)]
theorem xI {d:TypeDesc} {v:Value} (h:kg d v=true):IsKey d v:=by
 cases d<;>cases v<;>simp_all [kg,IsKey]
theorem Kn {d:TypeDesc} {a b:Value} (ha:kg d a=true) (hb:kg d b=true):Instr.sameNow d a b=some (iG a b):=by
 cases d<;>cases a<;>simp[kg]at ha<;>cases b<;>simp[kg]at hb<;>simp[iG,Instr.sameNow,ha,hb]
theorem I9 {d:TypeDesc} {a b:Value} (ha:kg d a=true) (hb:kg d b=true) (h:iG a b=true):b=a:=by
 obtain⟨r,h1,h2⟩:=sameNow_of_keys (xI ha) (xI hb);rw[Kn ha hb]at h1;obtain rfl:=AI h1;have:=h2.1 h
 first | exact this | exact this.symm
theorem G2 {d:TypeDesc} {k:Value} (hk:kg d k=true):∀ (l:List MapEntry) (ents:List (Value×D)) (i:Nat),l.map (·.key)=ents.map (·.1)->(∀ p∈ents,kg d p.1=true)->
  Instr.findNow d k l i=some ((wy k ents).map fun j=>(i+j,((l[j]?).map (·.val)).getD undef))
 | [],[],_,_,_=>rfl
 | [],_ :: _,_,h,_=>by simp at h
 | _ :: _,[],_,h,_=>by simp at h
 | e :: l,p :: ents,i,h,ho=>by
  simp only[agW,ah8]at h;obtain⟨h1,h2⟩:=h;have hp:=ho p ak;have hs:=Kn hk hp;rw[<- h1]at hs;simp only[Instr.findNow,hs];have ih:=G2 hk l ents (i+1) h2 fun q hq=>ho q (by simp[hq]);unfold wy at ih ⊢;rw[ahQ]
  cases hq:iG k p.1 with
  | true=>
   rw[<- h1]at hq;simp[hq]
  | false=>
   have oO:iG k e.key=false:=by rw[h1];exact hq
   simp only[oO,agE,if_false,ih,Option.map_map,IT];congr 1;funext j;simp[Function.comp,ahs,ah9 1 j]
theorem Mm {k:Value} {ents:List (Value×D)}:j7 k ents=(wy k ents).bind fun j=>(ents[j]?).map (·.2):=by
 unfold j7 wy
 induction ents with
 | nil=>rfl
 | cons p ents ih=>
  rw[List.find?_cons,ahQ]
  cases h:iG k p.1 with
  | true=>simp
  | false=>
   simp only[ih,agE,if_false]
   cases List.findIdx? (fun p=>iG k p.1) ents with
   | none=>rfl
   | some j=>simp
def cr:Value->D
 | .agg arr=>.agg (arr.toList.map s4)
 | v=>s4 v
theorem afi {w:World} {X:Nat->Prop} (v:Value):RD w X v (cr v):=by
 unfold cr;split
 .rename_i arr;refine .agg ak fun j u c hu hc=>?_;simp only[agC,agH,hu,ag1,IT]at hc;subst hc;exact yw u
 .exact yw _
def eC (ok:Bool) (x:D) (b:Bool):D:=if ok then .bx [x,.v (.bool b)] else x
theorem PU {w:World} {X:Nat->Prop} {ok b:Bool} {u:Value} {x:D} (h:RD w X u x):RD w X (if ok then .tuple #[u,.bool b] else u) (eC ok x b):=by
 unfold eC
 cases ok with
 | false=>exact h
 | true=>
  refine .bx rfl fun j u' c hu hc=>?_
  match j,hu,hc with
  | 0,hu,hc=>simp at hu hc;subst hu hc;exact h
  | 1,hu,hc=>simp at hu hc;subst hu hc;exact .v _
  | j+2,hu,hc=>simp at hu
def dt (ents:List (Value×Value)):List (Value×D):=ents.map fun p=>(p.1,.v p.2)
def oV (T:Ty) (H:Heap) (t:TypeId) (ok:Bool):AV->AV->kS
 | .mp r,.d (.v k)=>match H r,T t with
  | some (.mp _ ents),some tt=>match tt.desc with
   | .map kt et=>match T kt,T et with
    | some tk,some te=>some (kg tk.desc k=true/\(∀ p∈ents,kg tk.desc p.1=true),.d (match j7 k ents with
     | some x=>eC ok x true
     | none=>eC ok (cr te.zero) false))
    | _,_=>none
   | _=>none
  | _,_=>none
 | .d (.dm _ ents),.d (.v k)=>match T t with
  | some tt=>match tt.desc with
   | .map kt et=>match T kt,T et with
    | some tk,some te=>some (kg tk.desc k=true/\(ents.map (·.1)).Nodup/\(∀ p∈dt ents,kg tk.desc p.1=true),.d (match j7 k (dt ents) with
     | some x=>eC ok x true
     | none=>eC ok (cr te.zero) false))
    | _,_=>none
   | _=>none
  | _=>none
 | _,_=>none
section
variable {P:Program} {T:Ty} {Mv X:Nat->Prop} {G:aC} {N:Fr} {w:World} {μ:Mu} {a:Act} {σ:St}
theorem RV.JE {u:Value} {r:Nat} (h:RV w X μ u (.mp r)):∃ m b,μ r=some m/\m.fo=some b/\u = .map (some b):=by
 generalize hy:AV.mp r=y at h;cases h<;>cases hy;exact⟨_,_,by assumption,by assumption,rfl⟩
theorem eF.Ju {H:Heap} (hs:eF w X μ H) {r ty:Nat} {ents:List (Value×D)} (hH:H r=some (.mp ty ents)) {m:jo} {b:Nat} (hm:μ r=some m) (hb:m.fo=some b) :
  ∃ es:Array MapEntry,w.heap[b]? = some (.map es es.size)/\es.size=ents.length/\(∀ (i:Nat) (e:MapEntry) (p:Value×D),es[i]? = some e->ents[i]? = some p->e.key=p.1/\e.born=i/\RD w (XX X μ) e.val p.2)/\es.toList.map (·.key)=ents.map (·.1):=by
 obtain⟨m',cH,ok⟩:=hs.rows r _ hH;rw[hm]at cH;obtain rfl:=AI cH
 cases ok with
 | mp bk hh hn hr=>
  rename_i b' es;rw[hb]at bk;obtain rfl:=AI bk;refine⟨es,hh,hn,hr,List.ext_getElem (by simpa using hn) fun i h1 h2=>?_⟩
  have G4:i < es.size:=by simpa using h1
  have jr:i < ents.length:=by simpa using h2
  have:=(hr i es[i] ents[i] (by simp[G4]) (by simp[jr])).1;simpa using this
theorem Pj (hg:Good P T) {t kt et:TypeId} {tt tk te:TI} {ok:Bool} {b:Nat} {v:Value} {es:Array MapEntry} {ents:List (Value×D)} (cL:T t=some tt) (hd:tt.desc = .map kt et) (hk:T kt=some tk) (he:T et=some te)
  (hh:w.heap[b]? = some (.map es es.size)) (hn:es.size=ents.length) (hr:∀ (i:Nat) (e:MapEntry) (p:Value×D),es[i]? = some e->ents[i]? = some p->e.key=p.1/\e.born=i/\RD w (XX X μ) e.val p.2) (Bv:es.toList.map (·.key)=ents.map (·.1))
  (gq:kg tk.desc v=true) (gY:∀ p∈ents,kg tk.desc p.1=true) :
  ∃ r, (Instr.lookup t (.map (some b)) v ok).run P w = .ok r w /\ RV w X μ r (.d (match j7 v ents with
        | some x=>eC ok x true
        | none=>eC ok (cr te.zero) false)):=by
 have hu:P.underlying t=some (.map kt et):=by rw[<- hd];exact (hg _ _ cL).1
 have BX:P.underlying kt=some tk.desc:=(hg _ _ hk).1;have hf:=run_findKey (P:=P) (w:=w) BX (G2 gq es.toList ents 0 Bv gY);have aZ:=fun e=>run_checkKey (P:=P) (w:=w) BX (xI gq) e 9999
 cases hi:wy v ents with
 | none=>
  rw[hi]at hf;refine⟨if ok then .tuple #[te.zero,.bool false] else te.zero,?_,.d ?_⟩
  .simp only[Option.map_none]at hf;simp[Instr.lookup,run_underlying hu,MapKept.run_getObj_map hh,aZ,hf,hg.zero he,Result.andThen]
  .rw[Mm,hi];exact PU (afi _)
 | some j=>
  rw[hi]at hf
  have hj:j < ents.length:=by
   unfold wy at hi;rw[ag6]at hi;exact hi.1
  have eN:j < es.size:=aa
  refine⟨if ok then .tuple #[es[j].val,.bool true] else es[j].val,?_,.d ?_⟩
  .simp only[ag1,ag4]at hf;simp[eN]at hf;simp[Instr.lookup,run_underlying hu,MapKept.run_getObj_map hh,aZ,hf,Result.andThen]
  .rw[Mm,hi];simp only[aid,By hj,ag1];exact PU (hr j es[j] ents[j] (by simp[eN]) (by simp[hj])).2.2
theorem V6 {ents:List (Value×Value)}:(jL ents).size=(dt ents).length/\(∀ (i:Nat) (e:MapEntry) (p:Value×D),(jL ents)[i]? = some e->(dt ents)[i]? = some p->e.key=p.1/\e.born=i/\RD w (XX X μ) e.val p.2)/\(jL ents).toList.map (·.key)=(dt ents).map (·.1):=by
 refine⟨by simp[qg,dt],fun i e p he hp=>?_,?_⟩
 .have hi:i < ents.length:=by have:=(agx.1 he).1;rwa [qg]at this
  rw[zI hi]at he;obtain rfl:=AI he;simp only[dt,agC,By hi,ag1,IT]at hp;subst hp;exact⟨rfl,rfl,.v _⟩
 .refine List.ext_getElem (by simp[qg,dt]) fun i h1 h2=>?_
  have hi:i < ents.length:=by simpa[dt]using h2
  have h3:=zI hi
  have h4:i < (jL ents).size:=by rw[qg];exact hi
  rw[agL h4]at h3;have h5:=AI h3;simp[dt,h5]
theorem _root_.Go.Av.RD.V7 {X:Nat->Prop} {u:Value} {x:Bool} {ents:List (Value×Value)} (h:RD w X u (.dm x ents)):∃ b es,u = .map (some b)/\w.heap[b]? = some (.map (jL es) es.length)/\es.Perm ents:=by
 generalize hq:D.dm x ents=q at h;cases h<;>cases hq;exact⟨_,_,rfl,by assumption,by assumption⟩
theorem Wq {d:TypeDesc} {es ents:List (Value×Value)} {k:Value} (hp:es.Perm ents) (hn:(ents.map (·.1)).Nodup) (hk:kg d k=true) (ho:∀ p∈dt ents,kg d p.1=true):j7 k (dt es)=j7 k (dt ents):=by
 have one:∀ p∈ents,iG k p.1=true->p.1=k:=fun p eb h=>I9 hk (ho (p.1,.v p.2) (ag3.2 ⟨p,eb,rfl⟩)) h
 have uniq:∀ p∈ents,∀ q∈ents,p.1=q.1->p=q:=by
  have key:∀ l:List (Value×Value),(l.map (·.1)).Nodup->∀ p∈l,∀ q∈l,p.1=q.1->p=q:=by
   intro l
   induction l with
   | nil=>intro _ p hp;cases hp
   | cons x l ih=>
    intro hn p hp q hq e;rw[agW,ahn]at hn
    rcases agK.1 hp with e1 | eb
    .rcases agK.1 hq with e2 | kQ
     .rw[e1,e2]
     .exact absurd (ag3.2 ⟨q,kQ,by rw[<- e,e1]⟩) hn.1
    .rcases agK.1 hq with e2 | kQ
     .exact absurd (ag3.2 ⟨p,eb,by rw[e,e2]⟩) hn.1
     .exact ih hn.2 p eb q kQ e
  exact key ents hn
 have e1:∀ l:List (Value×Value),j7 k (dt l)=(l.find? fun p=>iG k p.1).map fun p=>.v p.2:=fun l=>by
  unfold j7 dt;rw[List.find?_map]
  cases h:l.find? ((fun p:Value×D=>iG k p.1) ∘ fun p=>(p.1,D.v p.2)) with
  | none=>simp only[agy]at h;rw[h];rfl
  | some p=>simp only[agy]at h;rw[h];rfl
 rw[e1,e1]
 cases h1:es.find? fun p=>iG k p.1 with
 | some p=>
  have eb:=hp.mem_iff.1 (List.mem_of_find?_eq_some h1);have fb:=List.find?_some h1
  cases h2:ents.find? fun p=>iG k p.1 with
  | none=>exact absurd fb (by simpa using List.find?_eq_none.1 h2 p eb)
  | some q=>
   have kQ:=List.mem_of_find?_eq_some h2;have oP:=List.find?_some h2;rw[uniq p eb q kQ ((one p eb fb).trans (one q kQ oP).symm)]
 | none=>
  cases h2:ents.find? fun p=>iG k p.1 with
  | none=>rfl
  | some q=>
   have kQ:=hp.mem_iff.2 (List.mem_of_find?_eq_some h2);exact absurd (List.find?_some h2) (by simpa using List.find?_eq_none.1 h1 q kQ)
theorem abb (hg:Good P T) (hs:eF w X μ σ.H) {t:TypeId} {ok:Bool} {u v:Value} {x y z:AV} {c:Prop} (h:oV T σ.H t ok x y=some (c,z)) (hc:c) (hx:RV w X μ u x) (hy:RV w X μ v y) :
  ∃ r,(Instr.lookup t u v ok).run P w = .ok r w/\RV w X μ r z:=by
 unfold oV at h;split at h
 .rename_i r k;split at h
  .rename_i ty ents tt hH cL;split at h
   .rename_i kt et hd;split at h
    .rename_i tk te hk he;obtain⟨rfl,rfl⟩:=eo h;obtain⟨gq,gY⟩:=hc;obtain⟨m,b,hm,hb,rfl⟩:=hx.JE;have hv:=hy.scalar;subst hv;obtain⟨es,hh,hn,hr,Bv⟩:=hs.Ju hH hm hb;exact Pj hg cL hd hk he hh hn hr Bv gq gY
    .cases h
   .cases h
  .cases h
 .rename_i ents k;split at h
  .rename_i tt cL;split at h
   .rename_i kt et hd;split at h
    .rename_i tk te hk he;obtain⟨rfl,rfl⟩:=eo h;obtain⟨gq,lf,gY⟩:=hc;have hv:=hy.scalar;subst hv;have EH:=hx.data;obtain⟨b,es,hu,hh,hp⟩:=EH.V7;subst hu;obtain⟨d1,d2,d3⟩:=V6 (w:=w) (X:=X) (μ:=μ) (ents:=es);have Ya:∀ p∈dt es,kg tk.desc p.1=true:=fun p fb=>gY p ((hp.map _).mem_iff.1 fb);rw[<- Wq hp lf gq gY];exact Pj hg cL hd hk he (by rw[hh,qg]) d1 d2 d3 gq Ya
    .cases h
   .cases h
  .cases h
 .cases h
theorem abm (hi:In w X G μ N a σ) {d:Nat} (hd:σ.H d=none) (t:TypeId):oo Mv X G N w μ a ((Instr.makeMap t none).run P w) (.mp d) ⟨σ.env,aX σ.H d (.mp t [])⟩:=by
 have hb:(w.alloc (.map #[] 0)).heap[w.heap.size]? = some (.map #[] 0):=by rw[<- World.alloc_eq];simp
 obtain⟨aS,bp⟩:=hi.alloc (Mv:=Mv) hd (cR.alloc w (.map #[] 0)) (m:=⟨some w.heap.size,1,0⟩) (fun b hb=>by simp at hb;omega) (row:=.mp t []) fun _=>.mp rfl hb rfl ak;exact⟨.map (some w.heap.size),_,_,rfl,aS,.mp (m:=⟨some w.heap.size,1,0⟩) (by simp[eB]) rfl,bp⟩
def CA (T:Ty) (t:TypeId) (ents:List (Value×D)) (k:Value) (x:D):Option (Prop×List (Value×D)):=match T t with
 | some tt=>match tt.desc with
  | .map kt _=>match T kt with
   | some tk=>some (kg tk.desc k=true/\(∀ p∈ents,kg tk.desc p.1=true),td k x ents)
   | none=>none
  | _=>none
 | none=>none
theorem Pp (hg:Good P T) (hi:In w X G μ N a σ) {t ty:TypeId} {r:Nat} {ents mX:List (Value×D)} {um uk uv k:Value} {x:D} {c:Prop} (hH:σ.H r=some (.mp ty ents)) (h:CA T t ents k x=some (c,mX)) (hc:c)
  (hm:RV w X μ um (.mp r)) (hk:RV w X μ uk (.d (.v k))) (hx:RV w X μ uv (.d x)) :
  ∃ w',(Instr.mapUpdate t um uk uv).run P w = .ok () w'/\In w' X G μ N a ⟨σ.env,aX σ.H r (.mp ty mX)⟩/\Ev Mv w μ w' μ:=by
 unfold CA at h;split at h
 .rename_i tt cL;split at h
  .rename_i kt et hd;split at h
   .rename_i tk Bw;obtain⟨rfl,rfl⟩:=eo h;obtain⟨gq,gY⟩:=hc;obtain⟨m,b,zg,hb,rfl⟩:=hm.JE;obtain rfl:=hk.scalar;obtain⟨es,hh,hn,hr,Bv⟩:=hi.bu.Ju hH zg hb
    have hu:P.underlying t=some (.map kt et):=by rw[<- hd];exact (hg _ _ cL).1
    have BX:P.underlying kt=some tk.desc:=(hg _ _ Bw).1;have hf:=run_findKey (P:=P) (w:=w) BX (G2 gq es.toList ents 0 Bv gY);have aZ:=run_checkKey (P:=P) (w:=w) BX (xI gq) false 9999;have aG:b < w.heap.size:=(agx.1 hh).1;have EH:=hx.data
    have write:∀ (tm:Array MapEntry) (mX:List (Value×D)),tm.size=mX.length->(∀ (i:Nat) (e:MapEntry) (p:Value×D),tm[i]? = some e->mX[i]? = some p->e.key=p.1/\e.born=i/\RD w (XX X μ) e.val p.2)->
      In { w with heap:=w.heap.setIfInBounds b (.map tm tm.size) } X G μ N a ⟨σ.env,aX σ.H r (.mp ty mX)⟩/\Ev Mv w μ { w with heap:=w.heap.setIfInBounds b (.map tm tm.size) } μ:=fun tm mX hl nU=>
     hi.write (Mv:=Mv) (w':={ w with heap:=w.heap.setIfInBounds b (.map tm tm.size) }) zg hb ak rfl rfl rfl (fun k hk=>by simp[ahJ (ahD hk)]) fun ev=>.mp hb (by simp[aG]) hl fun i e p he hp=>let ⟨h1,h2,h3⟩:=nU i e p he hp;⟨h1,h2,h3.ev ev⟩
    unfold td
    cases mz:wy uk ents with
    | none=>
     have p4:(ents.findIdx? fun p=>iG uk p.1)=none:=mz;rw[mz]at hf;simp only[Option.map_none]at hf
     obtain⟨h1,h2⟩:=write (es.push { key:=uk,val:=uv,born:=es.size }) (ents ++ [(uk,x)]) (by simp[hn]) (fun i e p he hp=>by
      rw[Array.getElem?_push]at he;split at he
      .rename_i e9;obtain rfl:=AI he;subst e9;rw[hn,List.getElem?_append_right (agD _),Nat.sub_self]at hp;obtain rfl:=AI hp;exact⟨rfl,rfl,EH⟩
      .have e9:i < ents.length:=by have:=(agx.1 he).1;omega
       rw[ahA e9]at hp
       exact hr i e p he hp)
     refine⟨_,?_,by rw[p4];exact h1,h2⟩;simp[Instr.mapUpdate,run_underlying hu,MapKept.run_getObj_map hh,aZ,hf,Result.andThen,MapKept.run_setObj_map _ hh]
    | some j=>
     have p4:(ents.findIdx? fun p=>iG uk p.1)=some j:=mz;have pj:=ag6.1 p4;obtain⟨hj,kM,_⟩:=pj
     have eN:j < es.size:=aa
     rw[mz]at hf;simp only[ag1,ag4]at hf
     have u4:es[j].key=uk:=by
      rw[(hr j es[j] ents[j] (by simp[eN]) (by simp[hj])).1];exact I9 gq (gY _ (OF hj)) kM
     obtain⟨h1,h2⟩:=write (es.modify j fun e=>{ e with key:=uk,val:=uv }) (ents.set j (uk,x)) (by simp[hn]) (fun i e p he hp=>by
      rw[ah3]at he;rw[List.getElem?_set]at hp;by_cases nP:j=i
      .subst nP;rw[if_pos rfl,if_pos hj]at hp;obtain rfl:=AI hp;simp[eN]at he;subst he;exact⟨rfl,(hr j es[j] ents[j] (by simp[eN]) (by simp[hj])).2.1,EH⟩
      .rw[if_neg nP]at hp he
       exact hr i e p he hp)
     refine⟨_,?_,by rw[p4];exact h1,h2⟩;have dP:=run_keyThatStays (P:=P) (w:=w) (xI gq);simp[eN]at hf;simp[Instr.mapUpdate,run_underlying hu,MapKept.run_getObj_map hh,aZ,hf,Result.andThen,MapKept.run_setObj_map _ hh,eN,u4,dP]
   .cases h
  .cases h
 .cases h
end
theorem aio:type_of% @eC.eq_1:=@eC.eq_1
theorem aip:type_of% @cr.eq_1:=@cr.eq_1
theorem aiq:type_of% @cr.eq_2:=@cr.eq_2
