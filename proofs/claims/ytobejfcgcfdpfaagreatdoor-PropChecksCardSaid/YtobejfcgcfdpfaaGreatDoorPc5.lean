/- Parts. -/
import Derived.Test.YtobejfcgcfdpfaaGreatDoorPc4
import Derived.MapKept
set_option linter.unusedSectionVars false
set_option linter.unusedSimpArgs false
set_option linter.unusedVariables false
namespace Go.Av
open Go.MapKept
def jw:Value->Value->Bool
 | .int _ a,.int _ b=>a == b
 | .string a,.string b=>a == b
 | .bool a,.bool b=>a == b
 | _,_=>false
def lh:TypeDesc->Value->Bool
 | .bool,.bool _=>true
 | .int k,.int k' _=>decide (k'=k)
 | .string,.string _=>true
 | _,_=>false
def y9 (k:Value) (ents:List (Value×D)):Option Nat:=ents.findIdx? fun p=>jw k p.1
def mG (k:Value) (ents:List (Value×D)):Option D:=(ents.find? fun p=>jw k p.1).map (·.2)
def vA (k:Value) (x:D) (ents:List (Value×D)):List (Value×D):=match ents.findIdx? fun p=>jw k p.1 with
 | some j=>ents.set j (k,x)
 | none=>ents ++ [(k,x)]
theorem Ae {d:TypeDesc} {v:Value} (h:lh d v=true):IsKey d v:=by
 cases d<;>cases v<;>simp_all [lh,IsKey]
theorem Pa {d:TypeDesc} {a b:Value} (ha:lh d a=true) (hb:lh d b=true):Instr.sameNow d a b=some (jw a b):=by
 cases d<;>cases a<;>simp[lh]at ha<;>cases b<;>simp[lh]at hb<;>simp[jw,Instr.sameNow,ha,hb]
theorem ND {d:TypeDesc} {a b:Value} (ha:lh d a=true) (hb:lh d b=true) (h:jw a b=true):b=a:=by
 obtain⟨r,h1,h2⟩:=sameNow_of_keys (Ae ha) (Ae hb);rw[Pa ha hb]at h1;obtain rfl:=AI h1;have:=h2.1 h
 first | exact this | exact this.symm
theorem Lb {d:TypeDesc} {k:Value} (hk:lh d k=true):∀ (l:List MapEntry) (ents:List (Value×D)) (i:Nat),l.map (·.key)=ents.map (·.1)->(∀ p∈ents,lh d p.1=true)->
  Instr.findNow d k l i=some ((y9 k ents).map fun j=>(i+j,((l[j]?).map (·.val)).getD undef))
 | [],[],_,_,_=>rfl
 | [],_ :: _,_,h,_=>by simp at h
 | _ :: _,[],_,h,_=>by simp at h
 | e :: l,p :: ents,i,h,ho=>by
  simp only[amE,anV]at h;obtain⟨h1,h2⟩:=h;have hp:=ho p ak;have hs:=Pa hk hp;rw[<- h1]at hs;simp only[Instr.findNow,hs];have ih:=Lb hk l ents (i+1) h2 fun q hq=>ho q (by simp[hq]);unfold y9 at ih ⊢;rw[anF]
  cases hq:jw k p.1 with
  | true=>
   rw[<- h1]at hq;simp[hq]
  | false=>
   have p8:jw k e.key=false:=by rw[h1];exact hq
   simp only[p8,amn,if_false,ih,Option.map_map,IT];congr 1;funext j;simp[Function.comp,am6,anN 1 j]
theorem Q8 {k:Value} {ents:List (Value×D)}:mG k ents=(y9 k ents).bind fun j=>(ents[j]?).map (·.2):=by
 unfold mG y9
 induction ents with
 | nil=>rfl
 | cons p ents ih=>
  rw[List.find?_cons,anF]
  cases h:jw k p.1 with
  | true=>simp
  | false=>
   simp only[ih,amn,if_false]
   cases List.findIdx? (fun p=>jw k p.1) ents with
   | none=>rfl
   | some j=>simp
def cM:Value->D
 | .agg arr=>.agg (arr.toList.map vu)
 | v=>vu v
theorem akT {w:World} {X:Nat->Prop} (v:Value):RD w X v (cM v):=by
 unfold cM;split
 .rename_i arr;refine .agg ak fun j u c hu hc=>?_;simp only[amm,ams,hu,amI,IT]at hc;subst hc;exact Ba u
 .exact Ba _
def fq (ok:Bool) (x:D) (b:Bool):D:=if ok then .bz [x,.v (.bool b)] else x
theorem Vr {w:World} {X:Nat->Prop} {ok b:Bool} {u:Value} {x:D} (h:RD w X u x):RD w X (if ok then .tuple #[u,.bool b] else u) (fq ok x b):=by
 unfold fq
 cases ok with
 | false=>exact h
 | true=>
  refine .bz rfl fun j u' c hu hc=>?_
  match j,hu,hc with
  | 0,hu,hc=>simp at hu hc;subst hu hc;exact h
  | 1,hu,hc=>simp at hu hc;subst hu hc;exact .v _
  | j+2,hu,hc=>simp at hu
def ef (ents:List (Value×Value)):List (Value×D):=ents.map fun p=>(p.1,.v p.2)
def ql (T:Ty) (H:Heap) (t:TypeId) (ok:Bool):AV->AV->lN
 | .mp r,.d (.v k)=>match H r,T t with
  | some (.mp _ ents),some tt=>match tt.desc with
   | .map kt et=>match T kt,T et with
    | some tk,some te=>some (lh tk.desc k=true/\(∀ p∈ents,lh tk.desc p.1=true),.d (match mG k ents with
     | some x=>fq ok x true
     | none=>fq ok (cM te.zero) false))
    | _,_=>none
   | _=>none
  | _,_=>none
 | .d (.dm _ ents),.d (.v k)=>match T t with
  | some tt=>match tt.desc with
   | .map kt et=>match T kt,T et with
    | some tk,some te=>some (lh tk.desc k=true/\(ents.map (·.1)).Nodup/\(∀ p∈ef ents,lh tk.desc p.1=true),.d (match mG k (ef ents) with
     | some x=>fq ok x true
     | none=>fq ok (cM te.zero) false))
    | _,_=>none
   | _=>none
  | _=>none
 | _,_=>none
section
variable {P:Program} {T:Ty} {Mv X:Nat->Prop} {G:aB} {N:Fr} {w:World} {μ:Mu} {a:Act} {σ:St}
theorem RV.Oh {u:Value} {r:Nat} (h:RV w X μ u (.mp r)):∃ m b,μ r=some m/\m.fT=some b/\u = .map (some b):=by
 generalize hy:AV.mp r=y at h;cases h<;>cases hy;exact⟨_,_,by assumption,by assumption,rfl⟩
theorem eT.N7 {H:Heap} (hs:eT w X μ H) {r ty:Nat} {ents:List (Value×D)} (hH:H r=some (.mp ty ents)) {m:jZ} {b:Nat} (hm:μ r=some m) (hb:m.fT=some b) :
  ∃ es:Array MapEntry,w.heap[b]? = some (.map es es.size)/\es.size=ents.length/\(∀ (i:Nat) (e:MapEntry) (p:Value×D),es[i]? = some e->ents[i]? = some p->e.key=p.1/\e.born=i/\RD w (XX X μ) e.val p.2)/\es.toList.map (·.key)=ents.map (·.1):=by
 obtain⟨m',cL,ok⟩:=hs.rows r _ hH;rw[hm]at cL;obtain rfl:=AI cL
 cases ok with
 | mp br hh hn hr=>
  rename_i b' es;rw[hb]at br;obtain rfl:=AI br;refine⟨es,hh,hn,hr,an2 (by simpa using hn) fun i h1 h2=>?_⟩
  have GZ:i < es.size:=by simpa using h1
  have j1:i < ents.length:=by simpa using h2
  have:=(hr i es[i] ents[i] (by simp[GZ]) (by simp[j1])).1;simpa using this
theorem UQ (hg:Good P T) {t kt et:TypeId} {tt tk te:TI} {ok:Bool} {b:Nat} {v:Value} {es:Array MapEntry} {ents:List (Value×D)} (dP:T t=some tt) (hd:tt.desc = .map kt et) (hk:T kt=some tk) (he:T et=some te)
  (hh:w.heap[b]? = some (.map es es.size)) (hn:es.size=ents.length) (hr:∀ (i:Nat) (e:MapEntry) (p:Value×D),es[i]? = some e->ents[i]? = some p->e.key=p.1/\e.born=i/\RD w (XX X μ) e.val p.2) (Ef:es.toList.map (·.key)=ents.map (·.1))
  (eU:lh tk.desc v=true) (gv:∀ p∈ents,lh tk.desc p.1=true) :
  ∃ r, (Instr.lookup t (.map (some b)) v ok).run P w = .ok r w /\ RV w X μ r (.d (match mG v ents with
        | some x=>fq ok x true
        | none=>fq ok (cM te.zero) false)):=by
 have hu:P.underlying t=some (.map kt et):=by rw[<- hd];exact (hg _ _ dP).1
 have zS:P.underlying kt=some tk.desc:=(hg _ _ hk).1;have hf:=run_findKey (P:=P) (w:=w) zS (Lb eU es.toList ents 0 Ef gv);have aV:=fun e=>run_checkKey (P:=P) (w:=w) zS (Ae eU) e 9999
 cases hi:y9 v ents with
 | none=>
  rw[hi]at hf;refine⟨if ok then .tuple #[te.zero,.bool false] else te.zero,?_,.d ?_⟩
  .simp only[an6]at hf;simp[Instr.lookup,run_underlying hu,MapKept.run_getObj_map hh,aV,hf,hg.zero he,Result.andThen]
  .rw[Q8,hi];exact Vr (akT _)
 | some j=>
  rw[hi]at hf
  have hj:j < ents.length:=by
   unfold y9 at hi;rw[amG]at hi;exact hi.1
  have dG:j < es.size:=aa
  refine⟨if ok then .tuple #[es[j].val,.bool true] else es[j].val,?_,.d ?_⟩
  .simp only[amI,amR]at hf;simp[dG]at hf;simp[Instr.lookup,run_underlying hu,MapKept.run_getObj_map hh,aV,hf,Result.andThen]
  .rw[Q8,hi];simp only[an3,AT hj,amI];exact Vr (hr j es[j] ents[j] (by simp[dG]) (by simp[hj])).2.2
theorem aaj {ents:List (Value×Value)}:(kD ents).size=(ef ents).length/\(∀ (i:Nat) (e:MapEntry) (p:Value×D),(kD ents)[i]? = some e->(ef ents)[i]? = some p->e.key=p.1/\e.born=i/\RD w (XX X μ) e.val p.2)/\(kD ents).toList.map (·.key)=(ef ents).map (·.1):=by
 refine⟨by simp[rW,ef],fun i e p he hp=>?_,?_⟩
 .have hi:i < ents.length:=by have:=(amf.1 he).1;rwa [rW]at this
  rw[Cn hi]at he;obtain rfl:=AI he;simp only[ef,amm,AT hi,amI,IT]at hp;subst hp;exact⟨rfl,rfl,.v _⟩
 .refine an2 (by simp[rW,ef]) fun i h1 h2=>?_
  have hi:i < ents.length:=by simpa[ef]using h2
  have h3:=Cn hi
  have h4:i < (kD ents).size:=by rw[rW];exact hi
  rw[amA h4]at h3;have h5:=AI h3;simp[ef,h5]
theorem _root_.Go.Av.RD.aak {X:Nat->Prop} {u:Value} {x:Bool} {ents:List (Value×Value)} (h:RD w X u (.dm x ents)):∃ b es,u = .map (some b)/\w.heap[b]? = some (.map (kD es) es.length)/\es.Perm ents:=by
 generalize hq:D.dm x ents=q at h;cases h<;>cases hq;exact⟨_,_,rfl,by assumption,by assumption⟩
theorem aaD {d:TypeDesc} {es ents:List (Value×Value)} {k:Value} (hp:es.Perm ents) (hn:(ents.map (·.1)).Nodup) (hk:lh d k=true) (ho:∀ p∈ef ents,lh d p.1=true):mG k (ef es)=mG k (ef ents):=by
 have one:∀ p∈ents,jw k p.1=true->p.1=k:=fun p jv h=>ND hk (ho (p.1,.v p.2) (amS.2 ⟨p,jv,rfl⟩)) h
 have uniq:∀ p∈ents,∀ q∈ents,p.1=q.1->p=q:=by
  have key:∀ l:List (Value×Value),(l.map (·.1)).Nodup->∀ p∈l,∀ q∈l,p.1=q.1->p=q:=by
   intro l
   induction l with
   | nil=>intro _ p hp;cases hp
   | cons x l ih=>
    intro hn p hp q hq e;rw[amE,anf]at hn
    rcases amx.1 hp with e1 | jv
    .rcases amx.1 hq with e2 | lI
     .rw[e1,e2]
     .exact absurd (amS.2 ⟨q,lI,by rw[<- e,e1]⟩) hn.1
    .rcases amx.1 hq with e2 | lI
     .exact absurd (amS.2 ⟨p,jv,by rw[e,e2]⟩) hn.1
     .exact ih hn.2 p jv q lI e
  exact key ents hn
 have e1:∀ l:List (Value×Value),mG k (ef l)=(l.find? fun p=>jw k p.1).map fun p=>.v p.2:=fun l=>by
  unfold mG ef;rw[List.find?_map]
  cases h:l.find? ((fun p:Value×D=>jw k p.1) ∘ fun p=>(p.1,D.v p.2)) with
  | none=>simp only[amc]at h;rw[h];rfl
  | some p=>simp only[amc]at h;rw[h];rfl
 rw[e1,e1]
 cases h1:es.find? fun p=>jw k p.1 with
 | some p=>
  have jv:=hp.mem_iff.1 (List.mem_of_find?_eq_some h1);have gZ:=List.find?_some h1
  cases h2:ents.find? fun p=>jw k p.1 with
  | none=>exact absurd gZ (by simpa using List.find?_eq_none.1 h2 p jv)
  | some q=>
   have lI:=List.mem_of_find?_eq_some h2;have p9:=List.find?_some h2;rw[uniq p jv q lI ((one p jv gZ).trans (one q lI p9).symm)]
 | none=>
  cases h2:ents.find? fun p=>jw k p.1 with
  | none=>rfl
  | some q=>
   have lI:=hp.mem_iff.2 (List.mem_of_find?_eq_some h2);exact absurd (List.find?_some h2) (by simpa using List.find?_eq_none.1 h1 q lI)
theorem aeI (hg:Good P T) (hs:eT w X μ σ.H) {t:TypeId} {ok:Bool} {u v:Value} {x y z:AV} {c:Prop} (h:ql T σ.H t ok x y=some (c,z)) (hc:c) (hx:RV w X μ u x) (hy:RV w X μ v y) :
  ∃ r,(Instr.lookup t u v ok).run P w = .ok r w/\RV w X μ r z:=by
 unfold ql at h;split at h
 .rename_i r k;split at h
  .rename_i ty ents tt hH dP;split at h
   .rename_i kt et hd;split at h
    .rename_i tk te hk he;obtain⟨rfl,rfl⟩:=eN h;obtain⟨eU,gv⟩:=hc;obtain⟨m,b,hm,hb,rfl⟩:=hx.Oh;have hv:=hy.scalar;subst hv;obtain⟨es,hh,hn,hr,Ef⟩:=hs.N7 hH hm hb;exact UQ hg dP hd hk he hh hn hr Ef eU gv
    .cases h
   .cases h
  .cases h
 .rename_i ents k;split at h
  .rename_i tt dP;split at h
   .rename_i kt et hd;split at h
    .rename_i tk te hk he;obtain⟨rfl,rfl⟩:=eN h;obtain⟨eU,l9,gv⟩:=hc;have hv:=hy.scalar;subst hv;have H7:=hx.data;obtain⟨b,es,hu,hh,hp⟩:=H7.aak;subst hu;obtain⟨d1,d2,d3⟩:=aaj (w:=w) (X:=X) (μ:=μ) (ents:=es);have hc3:∀ p∈ef es,lh tk.desc p.1=true:=fun p gZ=>gv p ((hp.map _).mem_iff.1 gZ);rw[<- aaD hp l9 eU gv];exact UQ hg dP hd hk he (by rw[hh,rW]) d1 d2 d3 eU hc3
    .cases h
   .cases h
  .cases h
 .cases h
theorem aeS (hi:In w X G μ N a σ) {d:Nat} (hd:σ.H d=none) (t:TypeId):pc Mv X G N w μ a ((Instr.makeMap t none).run P w) (.mp d) ⟨σ.env,bk σ.H d (.mp t [])⟩:=by
 have hb:(w.alloc (.map #[] 0)).heap[w.heap.size]? = some (.map #[] 0):=by rw[<- World.alloc_eq];simp
 obtain⟨aR,bd⟩:=hi.alloc (Mv:=Mv) hd (cX.alloc w (.map #[] 0)) (m:=⟨some w.heap.size,1,0⟩) (fun b hb=>by simp at hb;omega) (row:=.mp t []) fun _=>.mp rfl hb rfl ak;exact⟨.map (some w.heap.size),_,_,rfl,aR,.mp (m:=⟨some w.heap.size,1,0⟩) (by simp[eG]) rfl,bd⟩
def Fx (T:Ty) (t:TypeId) (ents:List (Value×D)) (k:Value) (x:D):Option (Prop×List (Value×D)):=match T t with
 | some tt=>match tt.desc with
  | .map kt _=>match T kt with
   | some tk=>some (lh tk.desc k=true/\(∀ p∈ents,lh tk.desc p.1=true),vA k x ents)
   | none=>none
  | _=>none
 | none=>none
theorem UU (hg:Good P T) (hi:In w X G μ N a σ) {t ty:TypeId} {r:Nat} {ents oQ:List (Value×D)} {um uk uv k:Value} {x:D} {c:Prop} (hH:σ.H r=some (.mp ty ents)) (h:Fx T t ents k x=some (c,oQ)) (hc:c)
  (hm:RV w X μ um (.mp r)) (hk:RV w X μ uk (.d (.v k))) (hx:RV w X μ uv (.d x)) :
  ∃ w',(Instr.mapUpdate t um uk uv).run P w = .ok () w'/\In w' X G μ N a ⟨σ.env,bk σ.H r (.mp ty oQ)⟩/\Ev Mv w μ w' μ:=by
 unfold Fx at h;split at h
 .rename_i tt dP;split at h
  .rename_i kt et hd;split at h
   .rename_i tk Eg;obtain⟨rfl,rfl⟩:=eN h;obtain⟨eU,gv⟩:=hc;obtain⟨m,b,BW,hb,rfl⟩:=hm.Oh;obtain rfl:=hk.scalar;obtain⟨es,hh,hn,hr,Ef⟩:=hi.bx.N7 hH BW hb
    have hu:P.underlying t=some (.map kt et):=by rw[<- hd];exact (hg _ _ dP).1
    have zS:P.underlying kt=some tk.desc:=(hg _ _ Eg).1;have hf:=run_findKey (P:=P) (w:=w) zS (Lb eU es.toList ents 0 Ef gv);have aV:=run_checkKey (P:=P) (w:=w) zS (Ae eU) false 9999;have aG:b < w.heap.size:=(amf.1 hh).1;have H7:=hx.data
    have write:∀ (vB:Array MapEntry) (oQ:List (Value×D)),vB.size=oQ.length->(∀ (i:Nat) (e:MapEntry) (p:Value×D),vB[i]? = some e->oQ[i]? = some p->e.key=p.1/\e.born=i/\RD w (XX X μ) e.val p.2)->
      In { w with heap:=w.heap.setIfInBounds b (.map vB vB.size) } X G μ N a ⟨σ.env,bk σ.H r (.mp ty oQ)⟩/\Ev Mv w μ { w with heap:=w.heap.setIfInBounds b (.map vB vB.size) } μ:=fun vB oQ hl pB=>
     hi.write (Mv:=Mv) (w':={ w with heap:=w.heap.setIfInBounds b (.map vB vB.size) }) BW hb ak rfl rfl rfl (fun k hk=>by simp[anw (ann hk)]) fun ev=>.mp hb (by simp[aG]) hl fun i e p he hp=>let ⟨h1,h2,h3⟩:=pB i e p he hp;⟨h1,h2,h3.ev ev⟩
    unfold vA
    cases n9:y9 uk ents with
    | none=>
     have rF:(ents.findIdx? fun p=>jw uk p.1)=none:=n9;rw[n9]at hf;simp only[an6]at hf
     obtain⟨h1,h2⟩:=write (es.push { key:=uk,val:=uv,born:=es.size }) (ents ++ [(uk,x)]) (by simp[hn]) (fun i e p he hp=>by
      rw[Array.getElem?_push]at he;split at he
      .rename_i fK;obtain rfl:=AI he;subst fK;rw[hn,List.getElem?_append_right (amh _),Nat.sub_self]at hp;obtain rfl:=AI hp;exact⟨rfl,rfl,H7⟩
      .have fK:i < ents.length:=by have:=(amf.1 he).1;omega
       rw[anq fK]at hp
       exact hr i e p he hp)
     refine⟨_,?_,by rw[rF];exact h1,h2⟩;simp[Instr.mapUpdate,run_underlying hu,MapKept.run_getObj_map hh,aV,hf,Result.andThen,MapKept.run_setObj_map _ hh]
    | some j=>
     have rF:(ents.findIdx? fun p=>jw uk p.1)=some j:=n9;have qJ:=amG.1 rF;obtain⟨hj,lF,_⟩:=qJ
     have dG:j < es.size:=aa
     rw[n9]at hf;simp only[amI,amR]at hf
     have xF:es[j].key=uk:=by
      rw[(hr j es[j] ents[j] (by simp[dG]) (by simp[hj])).1];exact ND eU (gv _ (By hj)) lF
     obtain⟨h1,h2⟩:=write (es.modify j fun e=>{ e with key:=uk,val:=uv }) (ents.set j (uk,x)) (by simp[hn]) (fun i e p he hp=>by
      rw[anO]at he;rw[List.getElem?_set]at hp;by_cases pz:j=i
      .subst pz;rw[if_pos rfl,if_pos hj]at hp;obtain rfl:=AI hp;simp[dG]at he;subst he;exact⟨rfl,(hr j es[j] ents[j] (by simp[dG]) (by simp[hj])).2.1,H7⟩
      .rw[if_neg pz]at hp he
       exact hr i e p he hp)
     refine⟨_,?_,by rw[rF];exact h1,h2⟩;have dW:=run_keyThatStays (P:=P) (w:=w) (Ae eU);simp[dG]at hf;simp[Instr.mapUpdate,run_underlying hu,MapKept.run_getObj_map hh,aV,hf,Result.andThen,MapKept.run_setObj_map _ hh,dG,xF,dW]
   .cases h
  .cases h
 .cases h
end
theorem aoa:type_of% @fq.eq_1:=@fq.eq_1
theorem aob:type_of% @cM.eq_1:=@cM.eq_1
theorem aoc:type_of% @cM.eq_2:=@cM.eq_2
