/-
  Texts that belong together,in one file: Av38,SR1,SR2,Av37,SC2,C2.
-/
import Derived.Test.YthnjfeielmbfkaaGreatDoorSy26
import Derived.Maps.RangeRun
set_option linter.unusedSectionVars false
set_option linter.unusedSimpArgs false
set_option linter.unusedVariables false
namespace Go.Av
open Go.ChangeMaps (setBlock)
section
variable {P:Program} {T:Ty} {Mv X:Nat→Prop} {G:Glob} {N:Fr} {w:World} {μ:Mu} {a:Act} {σ:St}
def isIt:Op→Bool
 | .range _ _=>true
 | .next _ false=>true
 | .entry _=>true
 | _=>false
def isMapT (T:Ty) (t:TypeId):Bool:=match T t with
 | some tt=>match tt.desc with
  | .map _ _=>true
  | _=>false
 | none=>false
def rngK (T:Ty) (G:Glob) (t:TypeId) (x:Operand) (d:Nat) (σ:St) (K:St→Prop):Prop:=match aeval G σ.env x with
 | some (.d (.dm _ ents))=>isMapT T t=true∧σ.H d=none∧∀ es:List (Value×Value),es.Perm ents→K ⟨upd σ.env d (.ref d 0 0),hup σ.H d (.it es [])⟩
 | _=>False
def nextK (G:Glob) (x:Operand) (d:Nat) (σ:St) (K:St→Prop):Prop:=match aeval G σ.env x with
 | some (.ref r 0 0)=>match σ.H r with
  | some (.it ents seen)=>((∀ j,j < ents.length→j∈seen)→K ⟨upd σ.env d (.d (.tup [.v (.bool false)])),σ.H⟩)∧
   ∀ j (hj:j < ents.length),j ∉ seen→K ⟨upd σ.env d (.d (.tup [.v (.bool true),.v ents[j].1,.v ents[j].2])),hup σ.H r (.it ents (seen ++ [j]))⟩
  | _=>False
 | _=>False
def entryK (G:Glob) (x:Operand) (d:Nat) (σ:St) (K:St→Prop):Prop:=match aeval G σ.env x with
 | some (.ref r 0 0)=>match σ.H r with
  | some (.it ents seen)=>∃ s j,∃ hj:j < ents.length,seen=s ++ [j]∧K ⟨upd σ.env d (.d (.tup [.v ents[j].1,.v ents[j].2])),σ.H⟩
  | _=>False
 | _=>False
def itK (T:Ty) (G:Glob) (o:Oper) (σ:St) (K:St→Prop):Prop:=match o.op,o.dst with
 | .range t x,some d=>rngK T G t x d σ K
 | .next x false,some d=>nextK G x d σ K
 | .entry x,some d=>entryK G x d σ K
 | _,_=>False
theorem RV.ref0 {u:Value} {r:Nat} (h:RV w X μ u (.ref r 0 0)):∃ m b,μ r=some m∧m.blk=some b∧u = .pointer (some ⟨b,0,none⟩):=by
 generalize hy:AV.ref r 0 0=y at h
 cases h with
 | ref hm hb=>cases hy;exact ⟨_,_,hm,hb,by simp⟩
 | _=>cases hy
theorem Sim.it_at {H:Heap} (hs:Sim w X μ H) {r:Nat} {ents:List (Value×Value)} {seen:List Nat} (hH:H r=some (.it ents seen)) {m:MRow} {b:Nat} (hm:μ r=some m) (hb:m.blk=some b) :
  ∃ bm,w.heap[b]? = some (.mapIter (some bm) ents.length seen.toArray ents.length)∧w.heap[bm]? = some (.map (mkEs ents) ents.length)∧RD w (XX X μ) (.map (some bm)) (.dm true ents):=by
 obtain ⟨m',hm',ok⟩:=hs.rows r _ hH
 rw [hm] at hm'
 obtain rfl:=Option.some.inj hm'
 cases ok with
 | it hb' hh hr=>
  rename_i b' bm
  rw [hb] at hb'
  obtain rfl:=Option.some.inj hb'
  refine ⟨bm,hh,?_,hr⟩;generalize hy:D.dm true ents=y at hr
  cases hr with
  | dm hX hh2 hp hx=>cases hy;rw [hx rfl] at hh2;exact hh2
  | _=>cases hy
theorem mkEs_mem {ents:List (Value×Value)} {e:MapEntry} (h:e∈(mkEs ents).toList):∃ j,∃ hj:j < ents.length,e = { key:=ents[j].1,val:=ents[j].2,born:=j }:=by
 obtain ⟨j,hj,rfl⟩:=List.mem_iff_getElem.1 h
 have hj':j < ents.length:=by simpa [mkEs_size] using hj
 have h1:=mkEs_at hj'
 have h2:j < (mkEs ents).size:=by rw [mkEs_size];exact hj'
 rw [Array.getElem?_eq_getElem h2] at h1;exact ⟨j,hj',by simpa using Option.some.inj h1⟩
theorem mkEs_in {ents:List (Value×Value)} {j:Nat} (hj:j < ents.length):({ key:=ents[j].1,val:=ents[j].2,born:=j }:MapEntry)∈(mkEs ents).toList:=by
 have h1:=mkEs_at hj
 have h2:j < (mkEs ents).size:=by rw [mkEs_size];exact hj
 rw [Array.getElem?_eq_getElem h2] at h1;rw [← Option.some.inj h1];simp
theorem mkEs_born (ents:List (Value×Value)):((mkEs ents).toList.map (·.born)).Nodup:=by
 have:(mkEs ents).toList.map (·.born)=List.range ents.length:=by
  refine List.ext_getElem (by simp [mkEs_size]) fun i h1 h2=>?_
  have hi:i < ents.length:=by simpa using h2
  have h3:=mkEs_at hi
  have h4:i < (mkEs ents).size:=by rw [mkEs_size];exact hi
  rw [Array.getElem?_eq_getElem h4] at h3;simp [Option.some.inj h3]
 rw [this];exact List.nodup_range
theorem itK_ok (hg:Good P T) (hi:In w X G μ N a σ) {o:Oper} {K:St→Prop} (hd:∀ d,o.dst=some d→d < N.n) (h:itK T G o σ K) {Q:Exit→Act→World→Prop} {next:Act→World→Prop}
  (hk:∀ w' μ' a' σ',K σ'→In w' X G μ' N a' σ'→Ev Mv w μ w' μ'→next a' w'):o.wpIn (wd N.ro) 0 P a w next Q:=by
 obtain ⟨dst,op,type,pos,after,guard⟩:=o
 unfold itK at h
 dsimp only at h hd
 split at h
 ·-- range
  rename_i t x d
  unfold rngK at h
  split at h
  ·rename_i ents0 hx
   obtain ⟨hmt,hn,hK⟩:=h
   refine wpR (fun c e=>by cases e) ?_
   have hv:=hi.eval hx
   have hvd:=hv.data
   obtain ⟨bm,ents,hve,hbm,hpm,hvd⟩:∃ bm es,a.eval x = .map (some bm)∧w.heap[bm]? = some (.map (mkEs es) es.length)∧es.Perm ents0∧RD w (XX X μ) (a.eval x) (.dm true es):=by
    generalize a.eval x=u at hvd
    cases hvd with
    | dm hX hh hp hx=>exact ⟨_,_,rfl,hh,hp,.dm hX hh (List.Perm.refl _) fun _=>rfl⟩
   have hK:=hK ents hpm
   obtain ⟨kt,et,hu⟩:∃ kt et,P.underlying t=some (.map kt et):=by
    unfold isMapT at hmt
    split at hmt
    ·rename_i tt htt
     split at hmt
     ·rename_i kt et hdesc
      exact ⟨kt,et,by rw [← hdesc];exact (hg _ _ htt).1⟩
     ·cases hmt
    ·cases hmt
   have hrun:=run_range_map w t kt et bm (mkEs ents) ents.length hu hbm
   unfold Oper.wp
   have hex:(execOp a.eval (⟨some d,.range t x,type,pos,after,guard⟩:Oper)).run P w = .ok (.value (.pointer (some ⟨w.heap.size,0,none⟩))) (w.alloc (.mapIter (some bm) ents.length #[] ents.length)):=by
    simp [execOp,hve,hrun]
   rw [hex]
   have hnew:(w.alloc (.mapIter (some bm) ents.length #[] ents.length)).heap[w.heap.size]? = some (.mapIter (some bm) ents.length #[] ents.length):=by rw [← World.alloc_eq];simp
   obtain ⟨hin,hev⟩:=hi.alloc (Mv:=Mv) hn (Grew.alloc w (.mapIter (some bm) ents.length #[] ents.length)) (m:=⟨some w.heap.size,1,0⟩) (fun b hb=>by simp at hb;omega) (row:=.it ents []) fun ev=>.it rfl hnew (by rw [hve] at hvd;exact hvd.ev ev)
   have hrv:RV (w.alloc (.mapIter (some bm) ents.length #[] ents.length)) X (mup μ d ⟨some w.heap.size,1,0⟩) (.pointer (some ⟨w.heap.size,0,none⟩)) (.ref d 0 0):=by
    have:=RV.ref (w:=w.alloc (.mapIter (some bm) ents.length #[] ents.length)) (X:=X) (μ:=mup μ d ⟨some w.heap.size,1,0⟩) (r:=d) (e:=0) (j:=0) (b:=w.heap.size) (m:=⟨some w.heap.size,1,0⟩) (by simp [mup]) rfl
    simpa using this
   exact hk _ _ _ _ hK (hin.put hrv (dst:=some d) hd) hev
  ·exact h.elim
 ·-- next
  rename_i x d
  unfold nextK at h
  split at h
  ·rename_i r hx
   split at h
   ·rename_i ents seen hH
    obtain ⟨h0,h1⟩:=h
    refine wpR (fun c e=>by cases e) ?_
    obtain ⟨m,b,hm,hb,hve⟩:=(hi.eval hx).ref0
    obtain ⟨bm,hit,hbm,hrd⟩:=hi.sim.it_at hH hm hb
    have hold:∀ x∈(mkEs ents).toList,x.born < ents.length:=fun x hx=>by
     obtain ⟨j,hj,rfl⟩:=mkEs_mem hx
     exact hj
    unfold Oper.wp
    rcases run_next_at (P:=P) w type b bm ents.length ents.length seen.toArray (mkEs ents) ents.length hit hbm hold (Nat.le_refl _) with ⟨hz,hrun⟩ | ⟨e,he,w1,hw1,hrun⟩
    ·have hex:(execOp a.eval (⟨some d,.next x false,type,pos,after,guard⟩:Oper)).run P w = .ok (.value (.tuple #[.bool false])) w:=by
      simp [execOp,hve,hrun]
     rw [hex]
     have hall:∀ j,j < ents.length→j∈seen:=fun j hj=>by
      apply Classical.byContradiction
      intro hns
      have hmem:({ key:=ents[j].1,val:=ents[j].2,born:=j }:MapEntry)∈(leftOf (mkEs ents) seen.toArray).toList:=by
       unfold leftOf;rw [Array.toList_filter,List.mem_filter];exact ⟨mkEs_in hj,by simpa using hns⟩
      have:0 < (leftOf (mkEs ents) seen.toArray).size:=by
       have:=List.length_pos_of_mem hmem
       simpa using this
      omega
     refine hk _ μ _ _ (h0 hall) (hi.put (.d (.tup rfl fun j u c hu hc=>?_)) (dst:=some d) hd) (.refl _ w μ)
     match j,hu,hc with
     | 0,hu,hc=>simp at hu hc;subst hu hc;exact .v _
     | j+1,hu,hc=>simp at hu
    ·obtain ⟨he1,he2⟩:=mem_left he
     obtain ⟨j,hj,rfl⟩:=mkEs_mem he1
     have hns:j ∉ seen:=by simpa using he2
     have hex:(execOp a.eval (⟨some d,.next x false,type,pos,after,guard⟩:Oper)).run P w = .ok (.value (.tuple #[.bool true,ents[j].1,ents[j].2])) (setBlock w1 b (.mapIter (some bm) ents.length (seen.toArray.push j) ents.length)):=by
      simp [execOp,hve,hrun]
     rw [hex]
     have hgr:Grew w w1:=by
      rcases hw1 with rfl | rfl
      ·exact Grew.refl _
      ·exact Grew.drew w
     have hheap:w1.heap=w.heap:=by rcases hw1 with rfl | rfl<;>rfl
     obtain ⟨hi1,ev1⟩:=hi.grew (Mv:=Mv) hgr
     have hlt:b < w1.heap.size:=by rw [hheap];exact (Array.getElem?_eq_some_iff.1 hit).1
     obtain ⟨hin,hev⟩:=hi1.write (Mv:=Mv) (w':=setBlock w1 b (.mapIter (some bm) ents.length (seen.toArray.push j) ents.length)) hm hb (by simp [setBlock]) rfl rfl rfl (fun k hk=>by simp [setBlock,Array.getElem?_setIfInBounds_ne (Ne.symm hk)]) (row:=.it ents (seen ++ [j])) fun ev=>.it hb (by simp [setBlock,hlt]) ((hrd.ev ev1).ev ev)
     refine hk _ μ _ _ (h1 j hj hns) (hin.put (.d (.tup rfl fun i u c hu hc=>?_)) (dst:=some d) hd) (ev1.trans hev)
     match i,hu,hc with
     | 0,hu,hc=>simp at hu hc;subst hu hc;exact .v _
     | 1,hu,hc=>simp at hu hc;subst hu hc;exact .v _
     | 2,hu,hc=>simp at hu hc;subst hu hc;exact .v _
     | i+3,hu,hc=>simp at hu
   ·exact h.elim
  ·exact h.elim
 ·-- entry
  rename_i x d
  unfold entryK at h
  split at h
  ·rename_i r hx
   split at h
   ·rename_i ents seen hH
    obtain ⟨s,j,hj,rfl,hK⟩:=h
    refine wpR (fun c e=>by cases e) ?_
    obtain ⟨m,b,hm,hb,hve⟩:=(hi.eval hx).ref0
    obtain ⟨bm,hit,hbm,hrd⟩:=hi.sim.it_at hH hm hb
    have hit':w.heap[b]? = some (.mapIter (some bm) ents.length (s.toArray.push ({ key:=ents[j].1,val:=ents[j].2,born:=j }:MapEntry).born) ents.length):=by
     rw [hit];simp
    have hrun:=run_entry_at (P:=P) w b bm ents.length s.toArray (mkEs ents) ents.length _ hit' hbm (mkEs_in hj) (mkEs_born ents)
    unfold Oper.wp
    have hex:(execOp a.eval (⟨some d,.entry x,type,pos,after,guard⟩:Oper)).run P w = .ok (.value (.tuple #[ents[j].1,ents[j].2])) w:=by
     simp [execOp,hve,hrun]
    rw [hex];refine hk _ μ _ _ hK (hi.put (.d (.tup rfl fun i u c hu hc=>?_)) (dst:=some d) hd) (.refl _ w μ)
    match i,hu,hc with
    | 0,hu,hc=>simp at hu hc;subst hu hc;exact .v _
    | 1,hu,hc=>simp at hu hc;subst hu hc;exact .v _
    | i+2,hu,hc=>simp at hu
   ·exact h.elim
  ·exact h.elim
 ·exact h.elim
def sxI (P:Program) (T:Ty) (Mv X:Nat→Prop) (G:Glob) (N:Fr) (ops:Array Oper) (K:St→Prop):List Oper→St→Prop
 | [],σ=>K σ
 | o :: rest,σ=>okDst N o∧match wantedS ops σ.env o with
  | some b=>if b=true then (if isIt o.op=true then itK T G o σ (sxI P T Mv X G N ops K rest) else exK P T Mv X G N o σ (sxI P T Mv X G N ops K rest)) else sxI P T Mv X G N ops K rest ⟨putd σ.env o.dst und,σ.H⟩
  | none=>False
theorem sxI_ok (hg:Good P T) {ops:Array Oper} {Q:Exit→St→Prop} {w0:World} {μ0:Mu}:∀ (l:List Oper) (k:Nat) (w:World) (μ:Mu) (a:Act) (σ:St),(∀ j,l[j]? = ops[k+j]?)→sxI P T Mv X G N ops (fun σ'=>Q .normal σ') l σ→In w X G μ N a σ→Ev Mv w0 μ0 w μ→
  wpOpsIn (wd N.ro) 0 P ops (After Mv X G N w0 μ0 Q) (List.range' k l.length) a w:=by
 intro l
 induction l with
 | nil=>intro k w μ a σ _ h hi hev;exact ⟨μ,σ,h,hi,hev⟩
 | cons o l ih=>
  intro k w μ a σ hl h hi hev
  have h0:ops[k]? = some o:=by simpa using (hl 0).symm
  have hl':∀ j,l[j]? = ops[k+1+j]?:=fun j=>by have:=hl (j+1);simpa [Nat.add_assoc,Nat.add_comm 1 j] using this
  obtain ⟨hd,h⟩:=h
  have hd':∀ d,o.dst=some d→d < N.n:=fun d e=>by unfold okDst at hd;rw [e] at hd;exact hd
  rw [List.length_cons,List.range'_succ];simp only [wpOpsIn,h0]
  split at h
  ·rename_i b hb
   rw [wantedS_ok hi hb]
   split at h
   ·rename_i hbt
    subst hbt;rw [if_pos rfl]
    split at h
    ·exact itK_ok hg hi hd' h fun w' μ' a' σ' k' hin hev'=>ih (k+1) w' μ' a' σ' hl' k' hin (hev.trans hev')
    ·exact (exK_ok hg hi hd' h fun w' μ' a' σ' k' hin hev'=>ih (k+1) w' μ' a' σ' hl' k' hin (hev.trans hev'))
   ·rename_i hbf
    rw [if_neg (by simpa using hbf)];exact ⟨fun _ _=>trivial,ih (k+1) w μ _ _ hl' h (hi.put (.d (.v _)) hd') hev⟩
  ·exact h.elim
theorem AW_regionIt (hg:Good P T) {id:Nat} {ops:Array Oper} {Q:Exit→St→Prop} (h:sxI P T Mv X G N ops (fun σ'=>Q .normal σ') ops.toList σ):AW P Mv X G N (.region id ops false) Q σ:=fun w μ a hi=>by
 refine wpIn_region ?_
 have:=sxI_ok hg ops.toList 0 w μ a σ (by simp) h hi (.refl _ w μ)
 rwa [← List.range_eq_range',Array.length_toList] at this
theorem AW_rx (hg:Good P T) (l ns:List Nat) (hM:∀ r,ns.contains r=false→Mv r) {id:Nat} {ops:Array Oper} {y:Code} {Q:Exit→St→Prop} (h:∀ K:St→Prop,(∀ τ:St,AW P Mv X G N y Q (τ.norm l ns)→K τ)→sxI P T Mv X G N ops K ops.toList σ):AW P Mv X G N (.seq (.region id ops false) y) Q σ:=
 AW_seq (AW_regionIt hg (h _ fun _ h=>h.norm l ns hM))
def stepIt (P:Program) (T:Ty) (Mv X:Nat→Prop) (G:Glob) (N:Fr) (ops:Array Oper) (o:Oper) (σ:St) (K:St→Prop):Prop:=okDst N o∧match wantedS ops σ.env o with
 | some b=>if b=true then (if isIt o.op=true then itK T G o σ K else exK P T Mv X G N o σ K) else K ⟨putd σ.env o.dst und,σ.H⟩
 | none=>False
theorem sxI_next {ops:Array Oper} {K:St→Prop} {o:Oper} {l:List Oper} (h:∀ K':St→Prop,(∀ τ,sxI P T Mv X G N ops K l τ→K' τ)→stepIt P T Mv X G N ops o σ K'):sxI P T Mv X G N ops K (o :: l) σ:=h _ fun _ h=>h
theorem sxI_nil {ops:Array Oper} {K:St→Prop} (h:K σ):sxI P T Mv X G N ops K [] σ:=h
theorem sxI_rng {ops:Array Oper} {K:St→Prop} {o:Oper} {l:List Oper} {t:TypeId} {x:Operand} {d:Nat} {ents:List (Value×Value)} (ho:o.op = .range t x) (hdst:o.dst=some d) (hd:okDst N o) (hg:wantedS ops σ.env o=some true) {y:Bool} (hx:aeval G σ.env x=some (.d (.dm y ents))) (ht:isMapT T t=true) (hH:σ.H d=none)
  (h:∀ es:List (Value×Value),es.Perm ents→sxI P T Mv X G N ops K l ⟨upd σ.env d (.ref d 0 0),hup σ.H d (.it es [])⟩):sxI P T Mv X G N ops K (o :: l) σ:=by
 refine ⟨hd,?_⟩;rw [hg];simp only [if_true,ho,isIt];unfold itK rngK;simp only [ho,hdst,hx];exact ⟨ht,hH,h⟩
theorem sxI_nx {ops:Array Oper} {K:St→Prop} {o:Oper} {l:List Oper} {x:Operand} {d r:Nat} {ents:List (Value×Value)} {seen:List Nat} (ho:o.op = .next x false) (hdst:o.dst=some d) (hd:okDst N o) (hg:wantedS ops σ.env o=some true) (hx:aeval G σ.env x=some (.ref r 0 0)) (hH:σ.H r=some (.it ents seen))
  (h0:(∀ j,j < ents.length→j∈seen)→sxI P T Mv X G N ops K l ⟨upd σ.env d (.d (.tup [.v (.bool false)])),σ.H⟩)
  (h1:∀ j (hj:j < ents.length),j ∉ seen→sxI P T Mv X G N ops K l ⟨upd σ.env d (.d (.tup [.v (.bool true),.v ents[j].1,.v ents[j].2])),hup σ.H r (.it ents (seen ++ [j]))⟩):sxI P T Mv X G N ops K (o :: l) σ:=by
 refine ⟨hd,?_⟩;rw [hg];simp only [if_true,ho,isIt];unfold itK nextK;simp only [ho,hdst,hx,hH];exact ⟨h0,h1⟩
theorem sxI_ent {ops:Array Oper} {K:St→Prop} {o:Oper} {l:List Oper} {x:Operand} {d r:Nat} {ents:List (Value×Value)} {seen:List Nat} {j:Nat} (ho:o.op = .entry x) (hdst:o.dst=some d) (hd:okDst N o) (hg:wantedS ops σ.env o=some true) (hx:aeval G σ.env x=some (.ref r 0 0)) (hH:σ.H r=some (.it ents (seen ++ [j]))) (hj:j < ents.length)
  (h:sxI P T Mv X G N ops K l ⟨upd σ.env d (.d (.tup [.v ents[j].1,.v ents[j].2])),σ.H⟩):sxI P T Mv X G N ops K (o :: l) σ:=by
 refine ⟨hd,?_⟩;rw [hg];simp only [if_true,ho,isIt];unfold itK entryK;simp only [ho,hdst,hx,hH];exact ⟨seen,j,hj,rfl,h⟩
end
attribute [simp] stepIt isIt isMapT allV
end Go.Av
namespace Go.Proofs.YthnjfeielmbfkaaGreatDoor
open Go.Av
structure MapOk (L:List (Value×Value)):Prop where
 str:∀ p∈L,∃ s:ByteArray,p.1 = .string s
 once:(L.map (·.1)).Nodup
def lookK (L:List (Value×Value)) (s:ByteArray):Option Value:=(L.find? fun p=>keyEq (.string s) p.1).map (·.2)
def putK (L:List (Value×Value)) (s:ByteArray) (x:Value):List (Value×Value):=match L.findIdx? fun p=>keyEq (.string s) p.1 with
 | some j=>L.set j (.string s,x)
 | none=>L ++ [(.string s,x)]
theorem kq_iff (s:ByteArray) (k:Value):keyEq (.string s) k=true↔k = .string s:=by
 cases k with
 | string s'=>
  constructor
  ·intro h
   exact keyEq_eq (d:=.string) rfl rfl h
  ·intro h
   obtain ⟨r,h1,h2⟩:=MapKept.sameNow_of_keys (keyOk_is (d:=.string) (v:=.string s) rfl) (keyOk_is (d:=.string) (v:=.string s') rfl)
   rw [sameNow_keyEq (d:=.string) rfl rfl] at h1;rw [Option.some.inj h1];exact h2.2 (by first | exact h.symm | exact h)
 | _=>exact ⟨fun h=>(by cases h),fun h=>(by cases h)⟩
theorem kq_same (s:ByteArray):keyEq (.string s) (.string s)=true:=(kq_iff s _).2 rfl
theorem kq_off {s:ByteArray} {k:Value} (h:k≠.string s):keyEq (.string s) k=false:=by
 cases hk:keyEq (.string s) k with
 | false=>rfl
 | true=>exact absurd ((kq_iff s k).1 hk) h
theorem lookK_hit (x:Value) (L:List (Value×Value)) (s:ByteArray):lookK ((.string s,x) :: L) s=some x:=by
 unfold lookK;rw [List.find?_cons];simp only [kq_same]
 rfl
theorem lookK_miss {k:Value} (x:Value) (L:List (Value×Value)) {s:ByteArray} (h:k≠.string s):lookK ((k,x) :: L) s=lookK L s:=by
 unfold lookK;rw [List.find?_cons];simp only [kq_off h]
theorem str_ne {s s':ByteArray} (h:s'≠s):Value.string s≠Value.string s':=fun e=>h (by injection e with e;exact e.symm)
theorem mapOk_nil:MapOk []:=⟨by simp,by simp⟩
theorem mapOk_tail {p:Value×Value} {L:List (Value×Value)} (h:MapOk (p :: L)):MapOk L:=⟨fun q hq=>h.str q (by simp [hq]),(List.nodup_cons.1 h.once).2⟩
theorem putK_nil (s:ByteArray) (x:Value):putK [] s x=[(.string s,x)]:=rfl
theorem putK_hit (y:Value) (L:List (Value×Value)) (s:ByteArray) (x:Value):putK ((.string s,y) :: L) s x=(.string s,x) :: L:=by
 unfold putK;rw [List.findIdx?_cons];simp only [kq_same,if_true]
 rfl
theorem putK_miss {k:Value} (y:Value) (L:List (Value×Value)) {s:ByteArray} (x:Value) (h:k≠.string s):putK ((k,y) :: L) s x=(k,y) :: putK L s x:=by
 unfold putK;rw [List.findIdx?_cons];simp only [kq_off h,Bool.false_eq_true,if_false]
 cases L.findIdx? fun p=>keyEq (.string s) p.1 with
 | none=>rfl
 | some j=>rfl
theorem lookK_put (s s':ByteArray) (x:Value):∀ L:List (Value×Value),lookK (putK L s x) s'=if s'=s then some x else lookK L s'
 | []=>by
  rw [putK_nil]
  by_cases h:s'=s
  ·subst h;rw [lookK_hit,if_pos rfl]
  ·rw [lookK_miss _ _ (str_ne h),if_neg h]
 | (k,y) :: L=>by
  by_cases hk:k = .string s
  ·subst hk;rw [putK_hit]
   by_cases h:s'=s
   ·subst h;rw [lookK_hit,if_pos rfl]
   ·rw [lookK_miss _ _ (str_ne h),lookK_miss _ _ (str_ne h),if_neg h]
  ·rw [putK_miss _ _ _ hk]
   by_cases hk':k = .string s'
   ·subst hk';rw [lookK_hit,lookK_hit,if_neg (fun e=>hk (by rw [e]))]
   ·rw [lookK_miss _ _ hk',lookK_miss _ _ hk',lookK_put s s' x L]
theorem putK_keys (s:ByteArray) (x:Value):∀ {L:List (Value×Value)} {k:Value},k∈(putK L s x).map (·.1)→k = .string s∨k∈L.map (·.1)
 | [],k,h=>by rw [putK_nil] at h;simp at h;exact .inl h
 | (k0,y) :: L,k,h=>by
  by_cases hk:k0 = .string s
  ·subst hk;rw [putK_hit] at h;simp only [List.map_cons,List.mem_cons] at h ⊢
   rcases h with h | h
   ·exact .inl h
   ·exact .inr (.inr h)
  ·rw [putK_miss _ _ _ hk] at h;simp only [List.map_cons,List.mem_cons] at h ⊢
   rcases h with h | h
   ·exact .inr (.inl h)
   ·rcases putK_keys s x h with h | h
    ·exact .inl h
    ·exact .inr (.inr h)
theorem mapOk_put (s:ByteArray) (x:Value):∀ {L:List (Value×Value)},MapOk L→MapOk (putK L s x)
 | [],_=>by rw [putK_nil];exact ⟨by simp,by simp⟩
 | (k,y) :: L,h=>by
  have ih:=mapOk_put s x (mapOk_tail h)
  by_cases hk:k = .string s
  ·subst hk;rw [putK_hit]
   exact ⟨fun p hp=>by
    rcases List.mem_cons.1 hp with rfl | hp
    ·exact ⟨s,rfl⟩
    ·exact h.str p (by simp [hp]),by simpa using h.once⟩
  ·rw [putK_miss _ _ _ hk];refine ⟨fun p hp=>?_,?_⟩
   ·rcases List.mem_cons.1 hp with rfl | hp
    ·exact h.str _ (by simp)
    ·exact ih.str p hp
   ·rw [List.map_cons,List.nodup_cons];refine ⟨fun hm=>?_,ih.once⟩
    rcases putK_keys s x hm with e | e
    ·exact hk e
    ·exact (List.nodup_cons.1 h.once).1 e
theorem lookK_at:∀ {L:List (Value×Value)},MapOk L→∀ {j:Nat} (hj:j < L.length) {s:ByteArray},L[j].1 = .string s→lookK L s=some L[j].2
 | (k,y) :: L,h,0,_,s,he=>by
  have:k = .string s:=he
  subst this;exact lookK_hit _ _ _
 | (k,y) :: L,h,j+1,hj,s,he=>by
  have hj':j < L.length:=by simpa using hj
  have hne:k≠.string s:=fun e=>(List.nodup_cons.1 h.once).1 (by
   show k∈_
   have he':L[j].1 = .string s:=he
   rw [e,← he']
   exact List.mem_map.2 ⟨L[j],List.getElem_mem hj',rfl⟩)
  rw [lookK_miss _ _ hne];exact lookK_at (mapOk_tail h) hj' he
theorem lookK_some {L:List (Value×Value)} {s:ByteArray} {v:Value} (h:lookK L s=some v):∃ j,∃ hj:j < L.length,L[j].1 = .string s∧L[j].2=v:=by
 unfold lookK at h
 obtain ⟨p,hp,rfl⟩:=Option.map_eq_some_iff.1 h
 have h1:=List.find?_some hp
 obtain ⟨j,hj,rfl⟩:=List.mem_iff_getElem.1 (List.mem_of_find?_eq_some hp)
 exact ⟨j,hj,(kq_iff s _).1 h1,rfl⟩
structure CopyOk (E:List (Value×Value)) (seen:List Nat) (L:List (Value×Value)):Prop where
 ok:MapOk L
 have':∀ j∈seen,∀ hj:j < E.length,∀ s,E[j].1 = .string s→lookK L s=some E[j].2
 only:∀ s v,lookK L s=some v→∃ j,∃ hj:j < E.length,j∈seen∧E[j].1 = .string s
theorem copy_nil (E:List (Value×Value)):CopyOk E [] []:=⟨mapOk_nil,by simp,fun s v h=>by cases h⟩
theorem copy_next {E:List (Value×Value)} (hE:MapOk E) {seen:List Nat} {L:List (Value×Value)} (h:CopyOk E seen L) {j:Nat} (hj:j < E.length) {s:ByteArray} (hs:E[j].1 = .string s):CopyOk E (seen ++ [j]) (putK L s E[j].2):=by
 refine ⟨mapOk_put s _ h.ok,fun i hi hil s' hs'=>?_,fun s' v hv=>?_⟩
 ·rw [lookK_put]
  by_cases e:s'=s
  ·subst e;rw [if_pos rfl]
   have h1:=lookK_at hE hj hs
   have h2:=lookK_at hE hil hs'
   rw [← h1,h2]
  ·rw [if_neg e]
   rcases List.mem_append.1 hi with hi | hi
   ·exact h.have' i hi hil s' hs'
   ·obtain rfl:i=j:=by simpa using hi
    rw [hs] at hs'
    injection hs' with hs'
    exact absurd hs'.symm e
 ·rw [lookK_put] at hv
  by_cases e:s'=s
  ·subst e;exact ⟨j,hj,by simp,hs⟩
  ·rw [if_neg e] at hv
   obtain ⟨i,hi,h1,h2⟩:=h.only s' v hv
   exact ⟨i,hi,by simp [h1],h2⟩
theorem copy_all {E:List (Value×Value)} (hE:MapOk E) {seen:List Nat} {L:List (Value×Value)} (h:CopyOk E seen L) (hall:∀ j,j < E.length→j∈seen) (s:ByteArray):lookK L s=lookK E s:=by
 cases he:lookK E s with
 | some v=>
  obtain ⟨j,hj,h1,h2⟩:=lookK_some he
  rw [h.have' j (hall j hj) hj s h1,h2]
 | none=>
  cases hl:lookK L s with
  | none=>rfl
  | some v=>
   obtain ⟨j,hj,_,h1⟩:=h.only s v hl
   rw [lookK_at hE hj h1] at he
   cases he
theorem entGet_dmE (s:ByteArray):∀ L:List (Value×Value),entGet (.string s) (dmE L)=(lookK L s).map .v
 | []=>rfl
 | (k,x) :: L=>by
  have ih:=entGet_dmE s L
  by_cases hk:k = .string s
  ·subst hk;rw [lookK_hit]
   show ((List.find? _ ((Value.string s,D.v x) :: dmE L)).map _)=_
   rw [List.find?_cons];simp only [kq_same]
   rfl
  ·rw [lookK_miss _ _ hk,← ih]
   show ((List.find? _ ((k,D.v x) :: dmE L)).map _)=_
   rw [List.find?_cons];simp only [kq_off hk]
   rfl
theorem entPut_dmE (s:ByteArray) (x:Value):∀ L:List (Value×Value),entPut (.string s) (.v x) (dmE L)=dmE (putK L s x)
 | []=>rfl
 | (k,y) :: L=>by
  have ih:=entPut_dmE s x L
  by_cases hk:k = .string s
  ·subst hk;rw [putK_hit]
   show (match List.findIdx? _ ((Value.string s,D.v y) :: dmE L) with | some j=>_ | none=>_)=_
   rw [List.findIdx?_cons];simp only [kq_same,if_true]
   rfl
  ·rw [putK_miss _ _ _ hk];unfold entPut at ih;unfold entPut
   show (match List.findIdx? _ ((k,D.v y) :: dmE L) with | some j=>_ | none=>_)=(k,D.v y) :: dmE (putK L s x)
   rw [List.findIdx?_cons,← ih];simp only [kq_off hk,Bool.false_eq_true,if_false]
   cases List.findIdx? (fun p=>keyEq (.string s) p.1) (dmE L) with
   | none=>rfl
   | some j=>rfl
theorem allV_dmE:∀ L:List (Value×Value),allV (dmE L)=some L
 | []=>rfl
 | (k,x) :: L=>by
  show (allV (dmE L)).map _=_
  rw [allV_dmE L];rfl
theorem keys_dmE {L:List (Value×Value)} (h:MapOk L):∀ p∈dmE L,keyOk .string p.1=true:=fun p hp=>by
 obtain ⟨q,hq,rfl⟩:=List.mem_map.1 hp
 obtain ⟨s,hs⟩:=h.str q hq
 show keyOk .string q.1=true
 rw [hs];rfl
end Go.Proofs.YthnjfeielmbfkaaGreatDoor
namespace Go.Proofs.YthnjfeielmbfkaaGreatDoor
open Go.Av
def boolV:Option Value→Bool
 | some (.bool b)=>b
 | _=>false
def intV:Option Value→Int
 | some (.int _ n)=>n
 | _=>0
structure RelS (p:PgP) (s:StP) (I C:List (Value×Value)):Prop where
 okI:MapOk I
 okC:MapOk C
 bI:∀ k v,lookK I k=some v→∃ b,v = .bool b
 iC:∀ k v,lookK C k=some v→∃ n,v = .int .i64 n
 is:∀ i (hi:i < p.names.length),boolV (lookK I (bs p.names[i].name))=s.is.getD i false
 ct:∀ i (hi:i < p.names.length),intV (lookK C (bs p.names[i].name))=s.ct.getD i 0
theorem bs_inj {a b:Tx} (h:bs a=bs b):a=b:=by
 have:=congrArg (fun x:ByteArray=>x.data.toList) h
 simpa [bs] using this
theorem names_apart {p:PgP} (hg:GoodP p) {i k:Nat} (hi:i < p.names.length) (hk:k < p.names.length) (h:bs p.names[k].name=bs p.names[i].name):k=i:=by
 have h1:=hg.num i hi
 have h2:=hg.num k hk
 rw [bs_inj h] at h2;rw [h1] at h2
 omega
theorem rel_start {p:PgP}:RelS p (startP p) [] []:=by
 refine ⟨mapOk_nil,mapOk_nil,fun k v h=>(by cases h),fun k v h=>(by cases h),fun i hi=>?_,fun i hi=>?_⟩
 ·show false=(List.replicate _ false).getD i false
  rw [getD_rep]
 ·show (0:Int)=(List.replicate _ (0:Int)).getD i 0
  rw [getD_rep]
theorem rel_set {p:PgP} (hg:GoodP p) {s:StP} {I C:List (Value×Value)} (h:RelS p s I C) (hl:s.is.length=p.names.length) {i:Nat} (hi:i < p.names.length) (b:Bool):RelS p ⟨s.is.set i b,s.ct⟩ (putK I (bs p.names[i].name) (.bool b)) C:=by
 refine ⟨mapOk_put _ _ h.okI,h.okC,fun k v hv=>?_,h.iC,fun k hk=>?_,h.ct⟩
 ·rw [lookK_put] at hv
  split at hv
  ·exact ⟨b,(Option.some.inj hv).symm⟩
  ·exact h.bI k v hv
 ·rw [lookK_put]
  show _=(s.is.set i b).getD k false
  by_cases e:k=i
  ·subst e;rw [if_pos rfl,getD_set_same (by omega)];rfl
  ·rw [if_neg (fun e2=>e (names_apart hg hi hk e2)),getD_set_other (fun e2=>e e2.symm)];exact h.is k hk
theorem rel_cnt {p:PgP} (hg:GoodP p) {s:StP} {I C:List (Value×Value)} (h:RelS p s I C) (hl:s.ct.length=p.names.length) {i:Nat} (hi:i < p.names.length) (n:Int):RelS p ⟨s.is,s.ct.set i n⟩ I (putK C (bs p.names[i].name) (.int .i64 n)):=by
 refine ⟨h.okI,mapOk_put _ _ h.okC,h.bI,fun k v hv=>?_,h.is,fun k hk=>?_⟩
 ·rw [lookK_put] at hv
  split at hv
  ·exact ⟨n,(Option.some.inj hv).symm⟩
  ·exact h.iC k v hv
 ·rw [lookK_put]
  show _=(s.ct.set i n).getD k 0
  by_cases e:k=i
  ·subst e;rw [if_pos rfl,getD_set_same (by omega)];rfl
  ·rw [if_neg (fun e2=>e (names_apart hg hi hk e2)),getD_set_other (fun e2=>e e2.symm)];exact h.ct k hk
theorem rel_same {p:PgP} {s:StP} {I C I2 C2:List (Value×Value)} (h:RelS p s I C) (h1:MapOk I2) (h2:MapOk C2) (h3:∀ k,lookK I2 k=lookK I k) (h4:∀ k,lookK C2 k=lookK C k):RelS p s I2 C2:=
 ⟨h1,h2,fun k v hv=>h.bI k v (by rw [← h3];exact hv),fun k v hv=>h.iC k v (by rw [← h4];exact hv),fun i hi=>by rw [h3];exact h.is i hi,fun i hi=>by rw [h4];exact h.ct i hi⟩
theorem rel_bit {p:PgP} {s:StP} {I C:List (Value×Value)} (h:RelS p s I C) (nm:Tx) (hn:¬ numP p nm < 0):boolV (lookK I (bs nm))=bitF p s.is nm:=by
 obtain ⟨k,hk,he,hs⟩:=idx_pos hn
 have hs':p.names[k].name=nm:=by simpa using hs
 have he':numP p nm=k:=he
 unfold bitF;rw [he',Int.toNat_natCast,← h.is k hk,hs']
set_option maxHeartbeats 2000000 in
theorem rask1 (G:Glob) {p:PgP} {s:StP} {I C:List (Value×Value)} (h:RelS p s I C):TellsOn (fun nm=>¬ numP p nm < 0) G 80 [.ip [.dm false I,.dm false C]] (bitF p s.is):=by
 intro nm hn
 rw [← rel_bit h nm hn]
 have hg:=entGet_dmE (bs nm) I
 have hb:=h.bI (bs nm)
 have hk0:=keys_dmE h.okI
 simp at hk0
 have hk1:=eq_true hk0
 have hnd:=h.okI.once
 simp only [dS];generalize bs nm=k at *
 cases hl:lookK I k with
 | none=>
  rw [hl] at hg;simp only [Option.map_none] at hg;refine PureC.of_body (tyOf_good _) Tryz.func80 rfl rfl (rs:=[.tmp 3]) Tryz.results80 (by simp [Tryz.ntmps80]) fun X=>?_;simp only [Tryz.ntmps80,List.map];refine rg0 [0,1] [] ?_
  have qf:=(Aq @hk1 (Aq @hnd (Aq @hg (Aq @ofOk.eq_1 (Aq @zeroM.eq_1 @zeroM.eq_2)))))
  refine rgqv [3] [] ?_;refine AW_ret ?_;simp [D.le,D.le.go,takeMap,boolV]
 | some v=>
  obtain ⟨b,rfl⟩:=hb v hl
  rw [hl] at hg;simp only [Option.map_some] at hg;refine PureC.of_body (tyOf_good _) Tryz.func80 rfl rfl (rs:=[.tmp 3]) Tryz.results80 (by simp [Tryz.ntmps80]) fun X=>?_;simp only [Tryz.ntmps80,List.map];refine rg0 [0,1] [] ?_
  have qf:=(Aq @hk1 (Aq @hnd (Aq @hg (Aq @ofOk.eq_1 (Aq @zeroM.eq_1 @zeroM.eq_2)))))
  refine rgqv [3] [] ?_;refine AW_ret ?_;simp [D.le,D.le.go,takeMap,boolV]
set_option maxHeartbeats 2000000 in
theorem rask2 (G:Glob) {p:PgP} {s:StP} {I C:List (Value×Value)} (h:RelS p s I C):TellsOn (fun nm=>¬ numP p nm < 0) G 81 [.ip [.dm false I,.dm false C]] (bitF p s.is):=by
 intro nm hn
 rw [← rel_bit h nm hn]
 have hg:=entGet_dmE (bs nm) I
 have hb:=h.bI (bs nm)
 have hk0:=keys_dmE h.okI
 simp at hk0
 have hk1:=eq_true hk0
 have hnd:=h.okI.once
 simp only [dS];generalize bs nm=k at *
 cases hl:lookK I k with
 | none=>
  rw [hl] at hg;simp only [Option.map_none] at hg;refine PureC.of_body (tyOf_good _) Tryz.func81 rfl rfl (rs:=[.tmp 3]) Tryz.results81 (by simp [Tryz.ntmps81]) fun X=>?_;simp only [Tryz.ntmps81,List.map];refine rg0 [0,1] [] ?_
  have qf:=(Aq @hk1 (Aq @hnd (Aq @hg (Aq @ofOk.eq_1 (Aq @zeroM.eq_1 @zeroM.eq_2)))))
  refine rgqv [3] [] ?_;refine AW_ret ?_;simp [D.le,D.le.go,takeMap,boolV]
 | some v=>
  obtain ⟨b,rfl⟩:=hb v hl
  rw [hl] at hg;simp only [Option.map_some] at hg;refine PureC.of_body (tyOf_good _) Tryz.func81 rfl rfl (rs:=[.tmp 3]) Tryz.results81 (by simp [Tryz.ntmps81]) fun X=>?_;simp only [Tryz.ntmps81,List.map];refine rg0 [0,1] [] ?_
  have qf:=(Aq @hk1 (Aq @hnd (Aq @hg (Aq @ofOk.eq_1 (Aq @zeroM.eq_1 @zeroM.eq_2)))))
  refine rgqv [3] [] ?_;refine AW_ret ?_;simp [D.le,D.le.go,takeMap,boolV]
set_option maxHeartbeats 2000000 in
theorem rstart_mc (G:Glob):MC Tryz.prog G [] 31 [] (hlst []) (.agg [.mp 601,.mp 602]) (hlst [(601,.mp 81 []),(602,.mp 82 [])]):=by
 refine MC.of_body (tyOf_good _) Tryz.func31 rfl rfl (rs:=[.cell 0 84]) Tryz.results31 (by simp [Tryz.ntmps31]) rfl fun X=>?_;simp only [Tryz.ntmps31];refine rg0 [0] [0] ?_;refine rg0 [0] [0,1,2] ?_;refine AW.imp (Imp.ren (r:=1) (r':=601) (by decide) (by simp)) ?_;refine AW.st (by simp [renO,renF,Go.Av.ren,renH_hlst];rfl) ?_;refine AW.imp (Imp.ren (r:=2) (r':=602) (by decide) (by simp)) ?_;refine AW.st (by simp [renO,renF,Go.Av.ren,renH_hlst];rfl) ?_;refine AW_ret ?_;simp [D.le,D.le.go,takeMap]
set_option maxHeartbeats 2000000 in
theorem rstart_spec (G:Glob):PureC Tryz.prog G 31 [] (.agg [.dm false [],.dm false []]):=by
 refine PureC.of_body (tyOf_good _) Tryz.func31 rfl rfl (rs:=[.cell 0 84]) Tryz.results31 (by simp [Tryz.ntmps31]) fun X=>?_;simp only [Tryz.ntmps31,List.map];refine rg0 [0] [0] ?_;refine rg0 [0] [0,1,2] ?_;refine AW_ret ?_;simp [D.le,D.le.go,takeMap]
end Go.Proofs.YthnjfeielmbfkaaGreatDoor
namespace Go.Av
section
variable {P:Program} {T:Ty} {Mv X:Nat→Prop} {G:Glob} {N:Fr} {w:World} {μ:Mu} {a:Act} {σ:St} {ops:Array Oper}
def patch (R:List Nat) (H0 H2:Heap):Heap:=fun q=>if R.contains q then H0 q else H2 q
def ClosedR (R:List Nat) (H:Heap):Prop:=∀ q,R.contains q=true→H q=none∨∃ (t:TypeId) (cs:List D),H q=some (.box t (cs.map AV.d))
def OutR (R:List Nat) (H0 H:Heap):Prop:=∀ q,R.contains q=false→H0 q=H q
def offR (R:List Nat):AV→Bool
 | .ref r _ _=>!R.contains r
 | _=>true
def HCA (P:Program) (G:Glob) (mvd R:List Nat) (g:FuncId) (xs:List AV) (H:Heap) (y:AV) (H2:Heap):Prop:=
 ClosedR R H∧(∀ q,R.contains q=true→H2 q=H q)∧∀ H0,ClosedR R H0→OutR R H0 H→HC P G mvd g xs H0 y (patch R H0 H2)
theorem patch_self {R:List Nat} {H H2:Heap} (h:∀ q,R.contains q=true→H2 q=H q):patch R H H2=H2:=by
 funext q
 unfold patch
 split
 ·rename_i hq;exact (h q hq).symm
 ·rfl
theorem HCA.hc {mvd R:List Nat} {g:FuncId} {xs:List AV} {H H2:Heap} {y:AV} (h:HCA P G mvd R g xs H y H2):HC P G mvd g xs H y H2:=by
 have:=h.2.2 H h.1 fun _ _=>rfl
 rwa [patch_self h.2.1] at this
theorem HCA.swap {mvd R:List Nat} {g:FuncId} {xs:List AV} {H H2 H':Heap} {y:AV} (h:HCA P G mvd R g xs H y H2) (hc:ClosedR R H') (ho:OutR R H' H):HCA P G mvd R g xs H' y (patch R H' H2):=by
 refine ⟨hc,fun q hq=>by unfold patch;rw [if_pos hq],fun H0 h0 ho0=>?_⟩
 have e:patch R H0 (patch R H' H2)=patch R H0 H2:=by
  funext q
  unfold patch
  split
  ·rfl
  ·rfl
 rw [e];exact h.2.2 H0 h0 fun q hq=>(ho0 q hq).trans (ho q hq)
theorem LdSame.swap {R:List Nat} {H H2 H':Heap} {p:Nat×AV} (h:LdSame T ops H H2 p) (hp:offR R p.2=true) (ho:OutR R H' H):LdSame T ops H' (patch R H' H2) p:=by
 obtain ⟨k,v⟩:=p
 unfold LdSame at h ⊢
 dsimp only at h hp ⊢
 cases he:ops[k]? with
 | none=>rw [he] at h;exact h.elim
 | some o=>
  rw [he] at h
  dsimp only at h ⊢
  split at h<;>try exact h.elim
  cases v with
  | ref r e j=>
   simp only [offR,Bool.not_eq_true'] at hp
   have e1:=ho r hp
   have e2:patch R H' H2 r=H2 r:=by unfold patch;rw [if_neg (by rw [hp];decide)]
   unfold loadA at h ⊢
   dsimp only at h ⊢
   rw [e1,e2];exact h
  | d x=>cases x<;>rfl
  | _=>rfl
theorem closed_hup {R:List Nat} {H:Heap} {d:Nat} {t:TypeId} {cs:List D} (h:ClosedR R H):ClosedR R (hup H d (.box t (cs.map AV.d))):=fun q hq=>by
 unfold hup
 split
 ·exact .inr ⟨t,cs,rfl⟩
 ·exact h q hq
theorem closed_of {R:List Nat} {H:Heap} {d:Nat} {b:Row} (h:ClosedR R (hup H d b)) (hd:H d=none):ClosedR R H:=fun q hq=>by
 by_cases e:q=d
 ·subst e;exact .inl hd
 ·have:=h q hq
  unfold hup at this;rwa [if_neg e] at this
theorem out_hup {R:List Nat} {H:Heap} {d:Nat} {b:Row} (hd:R.contains d=true):OutR R (hup H d b) H:=fun q hq=>by
 unfold hup;rw [if_neg (fun e=>by subst e;rw [hd] at hq;cases hq)]
theorem OutR.symm {R:List Nat} {H H':Heap} (h:OutR R H H'):OutR R H' H:=fun q hq=>(h q hq).symm
theorem patch_hup {R:List Nat} {H H2:Heap} {d:Nat} {b:Row} (hd:R.contains d=true):hup (patch R H H2) d b=patch R (hup H d b) H2:=by
 funext q
 unfold hup patch
 by_cases e:q=d
 ·subst e;simp only [if_true,hd]
 ·simp only [if_neg e]
theorem patch_hup2 {R:List Nat} {H H2:Heap} {d:Nat} {b:Row} (hd:R.contains d=true) (h:∀ q,R.contains q=true→H2 q=H q):patch R (hup H d b) H2=hup H2 d b:=by
 rw [← patch_hup hd,patch_self h]
def isAl (R:List Nat) (o:Oper):Bool:=match o.op,o.dst with
 | .alloc _,some d=>R.contains d
 | _,_=>false
theorem al_ex {R:List Nat} {o:Oper} (h:isAl R o=true):∃ t d,o.op = .alloc t∧o.dst=some d∧R.contains d=true:=by
 unfold isAl at h
 split at h
 ·rename_i t d h1 h2;exact ⟨t,d,h1,h2,h⟩
 ·cases h
theorem al_run {R:List Nat} {o:Oper} (h:isAl R o=true) {e:Env} {H H':Heap} {x:AV} (hx:Ex P T Mv G o e H x H'):∃ (d:Nat) (t:TypeId) (cs:List D),R.contains d=true∧H d=none∧H'=hup H d (.box t (cs.map AV.d))∧∀ e2 H2,H2 d=none→Ex P T Mv G o e2 H2 x (hup H2 d (.box t (cs.map AV.d))):=by
 obtain ⟨t,d,h1,h2,h3⟩:=al_ex h
 obtain ⟨dst,op,type,pos,after,guard⟩:=o
 dsimp only at h1 h2
 subst h1 h2;unfold Ex at hx ⊢;simp only [isCall,isWr,if_true] at hx ⊢
 obtain ⟨c,hw,hc⟩:=hx
 unfold wr at hw ⊢
 dsimp only at hw ⊢
 cases hT:T t with
 | none=>rw [hT] at hw;cases hw
 | some ti=>
  rw [hT] at hw
  dsimp only at hw
  simp only [Option.some.injEq,Prod.mk.injEq,St.mk.injEq] at hw
  obtain ⟨rfl,rfl,_,rfl⟩:=hw
  exact ⟨d,t,zeroD ti.zero,h3,hc,rfl,fun e2 H2 hn=>⟨_,rfl,hn⟩⟩
def AHStep (P:Program) (T:Ty) (Mv:Nat→Prop) (G:Glob) (mvd R:List Nat) (ops:Array Oper) (ex:List (Nat×AV)) (o:Oper) (σ σ':St):Prop:=∃ c g xs y H2,isCall o.op=some c∧tgt G σ.env c=some (g,xs)∧(∀ r∈mvd,Mv r)∧HCA P G mvd R g xs σ.H y H2∧(∀ p∈ex,LdSame T ops σ.H H2 p∧offR R p.2=true)∧OffV mvd y∧σ'=⟨putd σ.env o.dst y,H2⟩
def AStep (P:Program) (T:Ty) (Mv:Nat→Prop) (G:Glob) (N:Fr) (mvd R db hv:List Nat) (ex:List (Nat×AV)) (ops:Array Oper) (i:Nat) (o:Oper) (σ σ':St):Prop:=
 okDst N o∧o.guard=none∧OffE mvd σ.env∧((db.contains i=true∧∃ c y,dataW T G σ.env o=some (c,y)∧c∧σ'=⟨putd σ.env o.dst (.d y),σ.H⟩)∨
  (db.contains i=false∧hv.contains i=true∧AHStep P T Mv G mvd R ops ex o σ σ')∨
  (db.contains i=false∧hv.contains i=false∧kindOf o.op≠9∧ldAt G ex i o σ.env∧∃ x H',Ex P T Mv G o σ.env σ.H x H'∧OffV mvd x∧σ'=⟨putd σ.env o.dst x,H'⟩))
theorem astep_m {mvd R db hv:List Nat} {ex:List (Nat×AV)} {i:Nat} {o:Oper} {σ σ':St} (h:AStep P T Mv G N mvd R db hv ex ops i o σ σ'):MStep P T Mv G N mvd db hv ex ops i o σ σ':=by
 obtain ⟨h1,h2,h3,h⟩:=h
 refine ⟨h1,h2,h3,?_⟩
 rcases h with h | ⟨b,v,c,g,xs,y,H2,hc,ht,hm,hh,hl,ho,e⟩ | h
 ·exact .inl h
 ·exact .inr (.inl ⟨b,v,c,g,xs,y,H2,hc,ht,hm,hh.hc,fun p hp=>(hl p hp).1,ho,e⟩)
 ·exact .inr (.inr h)
theorem astep_sound (hg:Good P T) (mvd R db hv:List Nat) (ex:List (Nat×AV)):Sound P X G N Mv (AStep P T Mv G N mvd R db hv ex ops) ops:=fun i o ho σ σ' h=>mstep_sound hg mvd db hv ex i o ho σ σ' (astep_m h)
def compatA (R db hv:List Nat) (ex:List (Nat×AV)) (ops:Array Oper) (i j:Nat) (oi oj:Oper):Bool:=oi.apart ops oj && (db.contains i || db.contains j ||
 (if hv.contains i then !hv.contains j && (kindOf oj.op == 0 || (ex.lookup j).isSome || isAl R oj) else if hv.contains j then kindOf oi.op == 0 || (ex.lookup i).isSome || isAl R oi else mayPass (kindOf oi.op) (kindOf oj.op)))
theorem astep_swaps (mvd R db hv:List Nat) (ex:List (Nat×AV)):Swaps (AStep P T Mv G N mvd R db hv ex ops) (compatA R db hv ex ops) ops:=fun i j oi oj hoi hoj hc σ σ1 σ2 h1 h2=>by
 simp only [compatA,Bool.and_eq_true] at hc
 obtain ⟨hap,hpass⟩:=hc
 obtain ⟨di,gi,oE,h1⟩:=h1
 obtain ⟨dj,gj,_,h2⟩:=h2
 have agj:∀ v,Agree oj.op (putd σ.env oi.dst v) σ.env:=fun v t ht=>(agree_put hap (e:=σ.env) (v:=v)).1 t (looks_of_op ht)
 have agi:∀ v,Agree oi.op σ.env (putd σ.env oj.dst v):=fun v t ht=>((agree_put hap (e:=σ.env) (v:=v)).2.1 t (looks_of_op ht)).symm
 have hne:=(agree_put hap (e:=σ.env) (v:=und)).2.2
 have tg:∀ {o:Oper} {c:Call} {e e':Env},isCall o.op=some c→Agree o.op e e'→tgt G e c=tgt G e' c:=fun {o c e e'} hc ha=>tgt_congr fun t ht=>ha t (by rw [(isCall_op hc).1];exact ht)
 have lda:∀ {k:Nat} {o:Oper} {e e':Env},Agree o.op e e'→ldAt G ex k o e→ldAt G ex k o e':=fun {k o e e'} ha h=>by
  unfold ldAt at h ⊢
  split
  ·rename_i pv hl
   simp only [hl] at h
   split
   ·rename_i t x hop
    simp only [hop] at h;rw [← aeval_congr (x:=x) fun t' ht'=>ha t' (by rw [hop,ht'];simp [Op.operands])];exact h
   ·rename_i hno
    split at h
    ·rename_i t x hop
     exact absurd hop (hno t x)
    ·exact h
  ·trivial
 rcases h1 with ⟨bi,c,y,e1,c1,rfl⟩ | ⟨bi,vi,c,g,xs,y,H2,hci,ti,hmv,hcl,hld,oy,rfl⟩ | ⟨bi,vi,k1,l1,x,H',e1,ox,rfl⟩
 ·-- data first
  rcases h2 with ⟨bj,c',z,e2,c2,rfl⟩ | ⟨bj,vj,c',g,xs,z,H2,hcj,tj,hmv,hcl,hld,oz,rfl⟩ | ⟨bj,vj,k2,l2,z,H2,e2,oz,rfl⟩
  ·rw [dataW_congr (agj _)] at e2;refine ⟨⟨putd σ.env oj.dst (.d z),σ.H⟩,⟨dj,gj,oE,.inl ⟨bj,c',z,e2,c2,rfl⟩⟩,di,gi,oE.put (OffV.d _ _) _,.inl ⟨bi,c,y,?_,c1,?_⟩⟩
   ·rw [← dataW_congr (agi _)];exact e1
   ·rw [putd_comm hne]
  ·rw [tg hcj (agj _)] at tj;refine ⟨⟨putd σ.env oj.dst z,H2⟩,⟨dj,gj,oE,.inr (.inl ⟨bj,vj,c',g,xs,z,H2,hcj,tj,hmv,hcl,hld,oz,rfl⟩)⟩,di,gi,oE.put oz _,.inl ⟨bi,c,y,?_,c1,?_⟩⟩
   ·rw [← dataW_congr (agi _)];exact e1
   ·rw [putd_comm hne]
  ·refine ⟨⟨putd σ.env oj.dst z,H2⟩,⟨dj,gj,oE,.inr (.inr ⟨bj,vj,k2,lda (agj _) l2,z,H2,e2.congr k2 (agj _),oz,rfl⟩)⟩,di,gi,oE.put oz _,.inl ⟨bi,c,y,?_,c1,?_⟩⟩
   ·rw [← dataW_congr (agi _)];exact e1
   ·rw [putd_comm hne]
 ·-- a call first
  rcases h2 with ⟨bj,c',z,e2,c2,rfl⟩ | ⟨bj,vj,_⟩ | ⟨bj,vj,k2,l2,z,H3,e2,oz,rfl⟩
  ·rw [dataW_congr (agj _)] at e2;refine ⟨⟨putd σ.env oj.dst (.d z),σ.H⟩,⟨dj,gj,oE,.inl ⟨bj,c',z,e2,c2,rfl⟩⟩,di,gi,oE.put (OffV.d _ _) _,.inr (.inl ⟨bi,vi,c,g,xs,y,H2,hci,?_,hmv,hcl,hld,oy,?_⟩)⟩
   ·rw [← tg hci (agi _)];exact ti
   ·rw [putd_comm hne]
  ·rw [bi,bj,vi] at hpass;simp [vj] at hpass;simp_all
  ·rw [bi,bj] at hpass
   have e2':=e2.congr k2 (agj _)
   have l2':=lda (agj _) l2
   have hp:(kindOf oj.op=0∨(ex.lookup j).isSome=true)∨isAl R oj=true:=by
    simp only [Bool.false_or,vi,vj,if_true,Bool.not_false,Bool.true_and] at hpass;simpa [or_assoc] using hpass
   rcases hp with hp | hp
   ·have hq:H3=H2∧Ex P T Mv G oj σ.env σ.H z σ.H:=by
     rcases hp with hp | hp
     ·exact ⟨e2'.keeps (by omega),e2'.free hp σ.H⟩
     ·obtain ⟨pv,hpv⟩:=Option.isSome_iff_exists.1 hp
      have hs:=(hld _ (lookup_mem hpv)).1
      refine ld_moves hoj hpv l2' ?_ e2';unfold LdSame at hs ⊢;simp only [hoj] at hs ⊢
      split<;>simp_all
    obtain ⟨rfl,e3⟩:=hq
    refine ⟨⟨putd σ.env oj.dst z,σ.H⟩,⟨dj,gj,oE,.inr (.inr ⟨bj,vj,k2,l2',z,σ.H,e3,oz,rfl⟩)⟩,di,gi,oE.put oz _,.inr (.inl ⟨bi,vi,c,g,xs,y,H3,hci,?_,hmv,hcl,hld,oy,?_⟩)⟩
    ·rw [← tg hci (agi _)];exact ti
    ·rw [putd_comm hne]
   ·obtain ⟨d,t,cs,hd,hn,rfl,hre⟩:=al_run hp e2'
    have hn1:σ.H d=none:=by rw [← hcl.2.1 d hd];exact hn
    refine ⟨⟨putd σ.env oj.dst z,hup σ.H d (.box t (cs.map AV.d))⟩,⟨dj,gj,oE,.inr (.inr ⟨bj,vj,k2,l2',z,_,hre _ _ hn1,oz,rfl⟩)⟩,di,gi,oE.put oz _,.inr (.inl ⟨bi,vi,c,g,xs,y,patch R (hup σ.H d (.box t (cs.map AV.d))) H2,hci,?_,hmv,hcl.swap (closed_hup hcl.1) (out_hup hd),fun p hp=>⟨(hld p hp).1.swap (hld p hp).2 (out_hup hd),(hld p hp).2⟩,oy,?_⟩)⟩
    ·rw [← tg hci (agi _)];exact ti
    ·rw [putd_comm hne,patch_hup2 hd hcl.2.1]
 ·rcases h2 with ⟨bj,c',z,e2,c2,rfl⟩ | ⟨bj,vj,c',g,xs,z,H2,hcj,tj,hmv,hcl,hld,oz,rfl⟩ | ⟨bj,vj,k2,l2,z,H2,e2,oz,rfl⟩
  ·rw [dataW_congr (agj _)] at e2;refine ⟨⟨putd σ.env oj.dst (.d z),σ.H⟩,⟨dj,gj,oE,.inl ⟨bj,c',z,e2,c2,rfl⟩⟩,di,gi,oE.put (OffV.d _ _) _,.inr (.inr ⟨bi,vi,k1,lda (agi _) l1,x,H',e1.congr k1 (agi _),ox,?_⟩)⟩;rw [putd_comm hne]
  ·rw [tg hcj (agj _)] at tj;rw [bi,bj] at hpass
   have hp:(kindOf oi.op=0∨(ex.lookup i).isSome=true)∨isAl R oi=true:=by
    simp only [Bool.false_or,vi,vj,if_true,Bool.false_eq_true,if_false] at hpass;simpa [or_assoc] using hpass
   have e1':=e1.congr k1 (agi z)
   have l1':=lda (agi z) l1
   rcases hp with (hp | hp) | hp
   ·obtain rfl:=e1.keeps (by omega)
    refine ⟨⟨putd σ.env oj.dst z,H2⟩,⟨dj,gj,oE,.inr (.inl ⟨bj,vj,c',g,xs,z,H2,hcj,tj,hmv,hcl,hld,oz,rfl⟩)⟩,di,gi,oE.put oz _,.inr (.inr ⟨bi,vi,k1,l1',x,H2,e1'.free hp H2,ox,?_⟩)⟩;rw [putd_comm hne]
   ·obtain ⟨pv,hpv⟩:=Option.isSome_iff_exists.1 hp
    have hs:=(hld _ (lookup_mem hpv)).1
    have hH:H'=σ.H:=(ld_moves (H2:=σ.H) hoi hpv l1 (by unfold LdSame;simp only [hoi];unfold LdSame at hs;simp only [hoi] at hs;split<;>simp_all) e1).1
    subst hH
    obtain ⟨_,e3⟩:=ld_moves hoi hpv l1' hs e1'
    refine ⟨⟨putd σ.env oj.dst z,H2⟩,⟨dj,gj,oE,.inr (.inl ⟨bj,vj,c',g,xs,z,H2,hcj,tj,hmv,hcl,hld,oz,rfl⟩)⟩,di,gi,oE.put oz _,.inr (.inr ⟨bi,vi,k1,l1',x,H2,e3,ox,?_⟩)⟩;rw [putd_comm hne]
   ·obtain ⟨d,t,cs,hd,hn,rfl,hre⟩:=al_run hp e1'
    have hO:=out_hup (H:=σ.H) (b:=.box t (cs.map AV.d)) hd
    have hcl2:=hcl.swap (closed_of hcl.1 hn) hO.symm
    have hn2:patch R σ.H H2 d=none:=by unfold patch;rw [if_pos hd];exact hn
    refine ⟨⟨putd σ.env oj.dst z,patch R σ.H H2⟩,⟨dj,gj,oE,.inr (.inl ⟨bj,vj,c',g,xs,z,patch R σ.H H2,hcj,tj,hmv,hcl2,fun p hp=>⟨(hld p hp).1.swap (hld p hp).2 hO.symm,(hld p hp).2⟩,oz,rfl⟩)⟩,di,gi,oE.put oz _,.inr (.inr ⟨bi,vi,k1,l1',x,_,hre _ _ hn2,ox,?_⟩)⟩;rw [putd_comm hne,patch_hup hd,patch_self hcl.2.1]
  ·rw [bi,bj] at hpass
   have hcc:compat ops oi oj=true:=by simp only [compat,Bool.and_eq_true];simp only [Bool.false_or,vi,vj,Bool.false_eq_true,if_false] at hpass;exact ⟨hap,hpass⟩
   obtain ⟨H3,f1,f2⟩:=commute (N:=N) hcc ⟨di,.inl ⟨wantedS_free gi,e1⟩⟩ ⟨dj,.inl ⟨wantedS_free gj,e2⟩⟩ k1 k2
   have un:∀ {o:Oper} {e:Env} {H H':Heap} {x:AV},o.guard=none→Sx P T Mv G N ops o e H x H'→Ex P T Mv G o e H x H':=fun hgu h=>by
    rcases h.2 with ⟨_,h⟩ | ⟨hw,_⟩
    ·exact h
    ·rw [wantedS_free hgu] at hw;cases hw
   refine ⟨⟨putd σ.env oj.dst z,H3⟩,⟨dj,gj,oE,.inr (.inr ⟨bj,vj,k2,lda (agj _) l2,z,H3,un gj f1,oz,rfl⟩)⟩,di,gi,oE.put oz _,.inr (.inr ⟨bi,vi,k1,lda (agi _) l1,x,H2,un gi f2,ox,?_⟩)⟩;rw [putd_comm hne]
def haK (P:Program) (T:Ty) (Mv:Nat→Prop) (G:Glob) (mvd R:List Nat) (ops:Array Oper) (ex:List (Nat×AV)) (g:FuncId) (xs:List AV) (σ:St) (dst:Option Tmp) (K:St→Prop):Prop:=∃ y H2,(∀ r∈mvd,Mv r)∧HCA P G mvd R g xs σ.H y H2∧(∀ p∈ex,LdSame T ops σ.H H2 p∧offR R p.2=true)∧OffV mvd y∧K ⟨putd σ.env dst y,H2⟩
theorem tr_data (o f:Nat→Nat→Nat→AV) (t:TypeId) (cs:List D):Row.tr o f (.box t (cs.map AV.d)) = .box t (cs.map AV.d):=by
 simp [Row.tr,AV.tr,Function.comp_def]
theorem hlst_some {l:List (Nat×Row)} {q:Nat} (h:(hlst l q).isSome=true):∃ p∈l,p.1=q:=by
 induction l with
 | nil=>simp [hlst] at h
 | cons p l ih=>
  simp only [hlst,List.lookup] at h
  cases hqp:(q == p.1) with
  | true=>exact ⟨p,by simp,by simpa using (beq_iff_eq.1 hqp).symm⟩
  | false=>
   rw [hqp] at h
   obtain ⟨p',h1,h2⟩:=ih h
   exact ⟨p',by simp [h1],h2⟩
theorem haK.mc {mvd R:List Nat} {ex:List (Nat×AV)} {dst:Option Tmp} {K:St→Prop} {fx:List Nat} {g:FuncId} {xs0 xs:List AV} {rows1 rows2:List (Nat×Row)} {y:AV} (hc:MC P G fx g xs (hlst rows1) y (hlst rows2)) (hx:xs0.map (AV.tr (onlyO (rows1.map (·.1))) (onlyF (rows1.map (·.1))))=xs)
  (hR:∀ r∈R,(rows1.map (·.1)).contains r=false∧(rows2.map (·.1)).contains r=false∧(σ.H r=none∨∃ (t:TypeId) (cs:List D),σ.H r=some (.box t (cs.map AV.d))))
  (hH:∀ p∈rows1,(σ.H p.1).map (Row.tr (onlyO (rows1.map (·.1))) (onlyF (rows1.map (·.1))))=hlst rows1 p.1) (hd:∀ p∈rows2,(rows1.map (·.1)).contains p.1=true∨σ.H p.1=none) (hm:∀ r∈rows1.map (·.1),fx.contains r=false→r∈mvd) (hmv:∀ r∈mvd,Mv r) (ho:∀ r∈mvd,y.kill r=y)
  (hl:∀ p∈ex,LdSame T ops σ.H (hjoin (hlst rows2) (trH (offL (rows1.map (·.1))) (stayO (rows1.map (·.1)) fx) (stayF (rows1.map (·.1)) fx) σ.H)) p∧offR R p.2=true)
  (h:K ⟨putd σ.env dst y,hjoin (hlst rows2) (trH (offL (rows1.map (·.1))) (stayO (rows1.map (·.1)) fx) (stayF (rows1.map (·.1)) fx) σ.H)⟩):haK P T Mv G mvd R ops ex g xs0 σ dst K:=by
 have hin:∀ q,R.contains q=true→q∈R:=fun q hq=>List.contains_iff_mem.1 hq
 have hcl:ClosedR R σ.H:=fun q hq=>(hR q (hin q hq)).2.2
 have hst:∀ (H0:Heap),ClosedR R H0→∀ q,R.contains q=true→hjoin (hlst rows2) (trH (offL (rows1.map (·.1))) (stayO (rows1.map (·.1)) fx) (stayF (rows1.map (·.1)) fx) H0) q=H0 q:=fun H0 hc0 q hq=>by
  obtain ⟨a1,a2,_⟩:=hR q (hin q hq)
  have e1:hlst rows2 q=none:=by
   cases he:hlst rows2 q with
   | none=>rfl
   | some r=>
    obtain ⟨p,hp,rfl⟩:=hlst_some (l:=rows2) (q:=q) (by rw [he];rfl)
    have:(rows2.map (·.1)).contains p.1=true:=List.contains_iff_mem.2 (List.mem_map.2 ⟨p,hp,rfl⟩)
    rw [this] at a2;cases a2
  unfold hjoin;rw [e1]
  dsimp only
  unfold trH offL;rw [a1];simp only [Bool.not_false,if_true]
  rcases hc0 q hq with h0 | ⟨t,cs,h0⟩
  ·rw [h0];rfl
  ·rw [h0,Option.map_some,tr_data]
 refine ⟨y,_,hmv,⟨hcl,hst σ.H hcl,fun H0 hc0 ho0=>?_⟩,hl,ho,h⟩
 have off1:∀ p∈rows1,R.contains p.1=false:=fun p hp=>by
  cases he:R.contains p.1 with
  | false=>rfl
  | true=>
   have h1:=(hR p.1 (hin _ he)).1
   have:(rows1.map (·.1)).contains p.1=true:=List.contains_iff_mem.2 (List.mem_map.2 ⟨p,hp,rfl⟩)
   rw [this] at h1;cases h1
 have off2:∀ p∈rows2,R.contains p.1=false:=fun p hp=>by
  cases he:R.contains p.1 with
  | false=>rfl
  | true=>
   have h1:=(hR p.1 (hin _ he)).2.1
   have:(rows2.map (·.1)).contains p.1=true:=List.contains_iff_mem.2 (List.mem_map.2 ⟨p,hp,rfl⟩)
   rw [this] at h1;cases h1
 have key:=HC.mc (mvd:=mvd) (H:=H0) hc hx (fun p hp=>by rw [ho0 p.1 (off1 p hp)];exact hH p hp) (fun p hp=>by rw [ho0 p.1 (off2 p hp)];exact hd p hp) hm
 have e:patch R H0 (hjoin (hlst rows2) (trH (offL (rows1.map (·.1))) (stayO (rows1.map (·.1)) fx) (stayF (rows1.map (·.1)) fx) σ.H))=hjoin (hlst rows2) (trH (offL (rows1.map (·.1))) (stayO (rows1.map (·.1)) fx) (stayF (rows1.map (·.1)) fx) H0):=by
  funext q
  unfold patch
  split
  ·rename_i hq;exact (hst H0 hc0 q hq).symm
  ·rename_i hq
   have hq':R.contains q=false:=by simpa using hq
   unfold hjoin trH;rw [ho0 q hq']
 rw [e];exact key
def stepA (P:Program) (T:Ty) (Mv:Nat→Prop) (G:Glob) (N:Fr) (mvd R db hv:List Nat) (ex:List (Nat×AV)) (ops:Array Oper) (i:Nat) (o:Oper) (σ:St) (K:St→Prop):Prop:=okDst N o∧o.guard=none∧
 if db.contains i=true then (match dataW T G σ.env o with
  | some (c,y)=>c∧K ⟨putd σ.env o.dst (.d y),σ.H⟩
  | none=>False)
 else if hv.contains i=true then (match isCall o.op with
  | some c=>match tgt G σ.env c with
   | some (g,xs)=>haK P T Mv G mvd R ops ex g xs σ o.dst K
   | none=>False
  | none=>False)
 else kindOf o.op≠9∧ldAt G ex i o σ.env∧match isCall o.op with
  | some c=>callD P G c σ.env o.dst σ.H [] [] K
  | none=>plainM T G Mv mvd o σ K
def sxa (P:Program) (T:Ty) (Mv:Nat→Prop) (G:Glob) (N:Fr) (mvd R db hv:List Nat) (ex:List (Nat×AV)) (ops:Array Oper) (K:St→Prop):List (Nat×Oper)→St→Prop
 | [],σ=>K σ
 | (i,o) :: rest,σ=>stepA P T Mv G N mvd R db hv ex ops i o σ (sxa P T Mv G N mvd R db hv ex ops K rest)
theorem sxa_run {mvd R db hv:List Nat} {ex:List (Nat×AV)} {K:St→Prop}:∀ (l:List Nat) (σ:St),(∀ i∈l,i < ops.size)→OffE mvd σ.env→sxa P T Mv G N mvd R db hv ex ops K (inOrder ops l) σ→∃ σn,K σn∧Go.Av.runS (AStep P T Mv G N mvd R db hv ex ops) ops l σ σn:=by
 intro l
 induction l with
 | nil=>intro σ _ _ h;exact ⟨σ,h,rfl⟩
 | cons i l ih=>
  intro σ hl hoE h
  have hi:=hl i (by simp)
  have ho:ops[i]? = some ops[i]:=by simp [hi]
  simp only [inOrder,ho] at h;generalize ops[i]=o at ho h;simp only [sxa,stepA] at h
  obtain ⟨hd,hgu,h⟩:=h
  have fin:∀ σ1,AStep P T Mv G N mvd R db hv ex ops i o σ σ1→OffE mvd σ1.env→sxa P T Mv G N mvd R db hv ex ops K (inOrder ops l) σ1→∃ σn,K σn∧Go.Av.runS (AStep P T Mv G N mvd R db hv ex ops) ops (i :: l) σ σn:=fun σ1 hs hE h1=>by
   obtain ⟨σn,hk,hr⟩:=ih σ1 (fun j hj=>hl j (by simp [hj])) hE h1
   exact ⟨σn,hk,o,ho,σ1,hs,hr⟩
  split at h
  ·rename_i hb
   split at h
   ·rename_i c y hw
    obtain ⟨hc,h⟩:=h
    exact fin _ ⟨hd,hgu,hoE,.inl ⟨hb,c,y,hw,hc,rfl⟩⟩ (hoE.put (OffV.d _ _) _) h
   ·exact h.elim
  ·rename_i hb
   have hb:db.contains i=false:=by simpa using hb
   split at h
   ·rename_i hv1
    split at h
    ·rename_i c hc
     split at h
     ·rename_i g xs ht
      obtain ⟨y,H2,h0,h1,h2,h3,h⟩:=h
      exact fin _ ⟨hd,hgu,hoE,.inr (.inl ⟨hb,hv1,c,g,xs,y,H2,hc,ht,h0,h1,h2,h3,rfl⟩)⟩ (hoE.put h3 _) h
     ·exact h.elim
    ·exact h.elim
   ·rename_i hv1
    have hv1:hv.contains i=false:=by simpa using hv1
    obtain ⟨hk,hla,h⟩:=h
    split at h
    ·rename_i c hc
     obtain ⟨y,g,ds,ht,hp,hoff,h⟩:=h
     refine fin _ ⟨hd,hgu,hoE,.inr (.inr ⟨hb,hv1,hk,hla,.d y,σ.H,?_,OffV.d _ _,rfl⟩)⟩ (hoE.put (OffV.d _ _) _) h;unfold Ex;simp only [hc];exact ⟨y,⟨g,_,ht,.inl ⟨ds,rfl,hp⟩⟩,rfl,trivial⟩
    ·rename_i hc
     unfold plainM at h
     split at h
     ·rename_i hw
      split at h
      ·rename_i c x σ1 h1
       obtain ⟨hcc,hoff,h⟩:=h
       have he:=wr_env hk h1
       obtain ⟨e,H⟩:=σ
       obtain ⟨e1,H1⟩:=σ1
       dsimp only at he
       subst he;refine fin _ ⟨hd,hgu,hoE,.inr (.inr ⟨hb,hv1,hk,hla,x,H1,?_,hoff,rfl⟩)⟩ (hoE.put hoff _) h;unfold Ex;simp only [hc];rw [if_pos hw];exact ⟨c,h1,hcc⟩
      ·exact h.elim
     ·rename_i hw
      split at h
      ·rename_i c x h1
       obtain ⟨hcc,hoff,h⟩:=h
       refine fin _ ⟨hd,hgu,hoE,.inr (.inr ⟨hb,hv1,hk,hla,x,σ.H,?_,hoff,rfl⟩)⟩ (hoE.put hoff _) h;unfold Ex;simp only [hc];rw [if_neg hw];exact ⟨c,h1,hcc,trivial⟩
      ·exact h.elim
theorem AW_regionA (hg:Good P T) (hm:P.follows .mixedOrders=true) (mvd R db hv:List Nat) (ex:List (Nat×AV)) (ord:List Nat) {id:Nat} (hok:okDrawS (compatA R db hv ex ops) ord ops=true) (hoE:OffE mvd σ.env) {Q:Exit→St→Prop} (h:sxa P T Mv G N mvd R db hv ex ops (fun σ'=>Q .normal σ') (inOrder ops ord) σ):AW P Mv X G N (.region id ops true) Q σ:=
 AW_regionS hm (astep_sound hg mvd R db hv ex) (astep_swaps mvd R db hv ex) ord hok fun hlt=>sxa_run ord σ hlt hoE h
theorem AW_ra (hg:Good P T) (hm:P.follows .mixedOrders=true) (mvd R db hv:List Nat) (ex:List (Nat×AV)) (ord:List Nat) (l ns:List Nat) (hM:∀ r,ns.contains r=false→Mv r) {id:Nat} (hok:okDrawS (compatA R db hv ex ops) ord ops=true) (hoE:OffE mvd σ.env) {y:Code} {Q:Exit→St→Prop}
  (h:∀ K:St→Prop,(∀ τ:St,AW P Mv X G N y Q (τ.norm l ns)→K τ)→sxa P T Mv G N mvd R db hv ex ops K (inOrder ops ord) σ):AW P Mv X G N (.seq (.region id ops true) y) Q σ:=
 AW_seq (AW_regionA hg hm mvd R db hv ex ord hok hoE (h _ fun _ h=>h.norm l ns hM))
theorem sxa_nextO {mvd R db hv:List Nat} {ex:List (Nat×AV)} {K:St→Prop} {i:Nat} {l:List Nat} {o:Oper} (ho:ops[i]? = some o) (h:∀ K':St→Prop,(∀ τ,sxa P T Mv G N mvd R db hv ex ops K (inOrder ops l) τ→K' τ)→stepA P T Mv G N mvd R db hv ex ops i o σ K'):sxa P T Mv G N mvd R db hv ex ops K (inOrder ops (i :: l)) σ:=by
 have:inOrder ops (i :: l)=(i,o) :: inOrder ops l:=by simp [inOrder,ho]
 rw [this];exact h _ fun _ h=>h
theorem sxa_nilO {mvd R db hv:List Nat} {ex:List (Nat×AV)} {K:St→Prop} (h:K σ):sxa P T Mv G N mvd R db hv ex ops K (inOrder ops []) σ:=h
end
attribute [simp] stepA
attribute [simp] offR
end Go.Av
namespace Go.Proofs.YthnjfeielmbfkaaGreatDoor
open Go.Av
theorem one_len (l:List Int):(∀ el∈l.map (fun n=>[D.v (.int .i64 n)]),el.length=1)=True:=eq_true (by simp)
theorem one_one (l:List Int):(∀ el∈l.map (fun n=>[D.v (.int .i64 n)]),∀ c∈el,c.one=true)=True:=eq_true (by simp [D.one])
theorem oneB_len (l:List Bool):(∀ el∈l.map (fun n=>[D.v (.bool n)]),el.length=1)=True:=eq_true fun el h=>by obtain ⟨b,_,rfl⟩:=List.mem_map.1 h;rfl
theorem oneB_one (l:List Bool):(∀ el∈l.map (fun n=>[D.v (.bool n)]),∀ c∈el,c.one=true)=True:=eq_true fun el h c hc=>by
 obtain ⟨b,_,rfl⟩:=List.mem_map.1 h
 obtain rfl:=List.mem_singleton.1 hc
 rfl
set_option maxHeartbeats 2000000 in
theorem cloneI_mc (G:Glob) (l:List Int) (h:l.length < 2^40):MC Tryz.prog G [] 111 [.d (dIl l)] (hlst []) (.own 702 0 l.length) (hlst [(702,.sl 3 1 (l.map fun n=>[.v (.int .i64 n)]))]):=by
 have hl2:(l.map fun n=>[D.v (.int .i64 n)]).length=l.length:=by simp
 have q1:=one_len l
 have q2:=one_one l
 simp only [dIl];rw [← hl2];rw [← hl2] at h;generalize (l.map fun n=>[D.v (.int .i64 n)])=L at *;refine MC.of_body (tyOf_good _) Tryz.func111 rfl rfl (rs:=[.tmp 2]) Tryz.results111 (by simp [Tryz.ntmps111]) rfl fun X=>?_;simp only [Tryz.ntmps111];refine AW.nilCase 0 rfl ?_ fun hl=>?_
 ·refine rg0 [0] [] ?_;refine AW_then fun K1 hK1=>?_;refine rg0 [0,4] [] ?_;refine AW_cond false rfl (fun hc=>by cases hc) (fun hc=>?_);refine AW_skip (hK1 _ ?_)
  have qf:=(Aq @q1 @q2)
  refine rgqv [2] [5] ?_;refine AW.imp (Imp.ren (r:=5) (r':=702) (by decide) (by simp)) ?_;refine AW.st (by simp [renO,renF,Go.Av.ren,renH_hlst];rfl) ?_;refine AW_ret ?_;simp [D.le,D.le.go,takeMap]
 ·subst hl;refine rg0 [0] [] ?_;refine AW_then fun K1 hK1=>?_;refine rg0 [0,4] [] ?_;refine AW_cond true rfl (fun hc=>?_) (fun hc=>by cases hc);refine rg0 [2] [] ?_;refine AW.imp (Imp.adopt 2 702 3 1 rfl rfl) ?_;refine AW.st (by simp;rfl) ?_;refine AW_ret ?_;simp [D.le,D.le.go,takeMap]
set_option maxHeartbeats 2000000 in
theorem cloneB_mc (G:Glob) (l:List Bool) (h:l.length < 2^40):MC Tryz.prog G [] 110 [.d (dBl l)] (hlst []) (.own 701 0 l.length) (hlst [(701,.sl 4 1 (l.map fun n=>[.v (.bool n)]))]):=by
 have hl2:(l.map fun n=>[D.v (.bool n)]).length=l.length:=by simp
 have q1:=oneB_len l
 have q2:=oneB_one l
 simp only [dBl];rw [← hl2];rw [← hl2] at h;generalize (l.map fun n=>[D.v (.bool n)])=L at *;refine MC.of_body (tyOf_good _) Tryz.func110 rfl rfl (rs:=[.tmp 2]) Tryz.results110 (by simp [Tryz.ntmps110]) rfl fun X=>?_;simp only [Tryz.ntmps110];refine AW.nilCase 0 rfl ?_ fun hl=>?_
 ·refine rg0 [0] [] ?_;refine AW_then fun K1 hK1=>?_;refine rg0 [0,4] [] ?_;refine AW_cond false rfl (fun hc=>by cases hc) (fun hc=>?_);refine AW_skip (hK1 _ ?_)
  have qf:=(Aq @q1 @q2)
  refine rgqv [2] [5] ?_;refine AW.imp (Imp.ren (r:=5) (r':=701) (by decide) (by simp)) ?_;refine AW.st (by simp [renO,renF,Go.Av.ren,renH_hlst];rfl) ?_;refine AW_ret ?_;simp [D.le,D.le.go,takeMap]
 ·subst hl;refine rg0 [0] [] ?_;refine AW_then fun K1 hK1=>?_;refine rg0 [0,4] [] ?_;refine AW_cond true rfl (fun hc=>?_) (fun hc=>by cases hc);refine rg0 [2] [] ?_;refine AW.imp (Imp.adopt 2 701 4 1 rfl rfl) ?_;refine AW.st (by simp;rfl) ?_;refine AW_ret ?_;simp [D.le,D.le.go,takeMap]
set_option maxHeartbeats 2000000 in
theorem start_spec (G:Glob) (p:PgP) (hp:p.names.length < 2^40):PureC Tryz.prog G 37 [dPg p] (dSt (startP p)):=by
 have hl2:(p.names.map cNm).length=p.names.length:=by simp
 simp only [dPg,cPg,dNms,dRgs,dSt,cSt,startP,dBl,dIl,List.map_replicate];rw [← hl2];rw [← hl2] at hp;generalize p.names.map cNm=NN at *;generalize p.rungs.map cRg=RR at *;refine PureC.of_body (tyOf_good _) Tryz.func37 rfl rfl (rs:=[.cell 2 45]) Tryz.results37 (by simp [Tryz.ntmps37]) fun X=>?_;simp only [Tryz.ntmps37,List.map];refine rg0 [1,2] [1,2] ?_;refine AW.imp (Imp.freezeB 1 trivial) ?_;refine AW.st (by simp;rfl) ?_;refine AW_rQ (tyOf_good _) (by kernel_rfl) ([3,7]) ([(1,999),(5,999),(9,2)]) (List.range 10) [2] [2] (fun _ _=>trivial) (by kernel_rfl) fun K' hK'=>?_;(repeat (refine sxQ_nextO rfl fun K2 hK2=>?_;simp [makeEls,zeroD];(repeat (refine ⟨by omega,?_⟩));refine hK2 _ ?_;clear hK2 K2));refine sxQ_nilO (hK' _ ?_);refine AW.st (by simp [makeEls,zeroD];rfl) ?_;clear hK' K';refine AW_ret ?_;simp [D.le,D.le.go,takeMap,D.le_refl,D.leGo_refl]
end Go.Proofs.YthnjfeielmbfkaaGreatDoor
namespace Go.Proofs.YthnjfeielmbfkaaGreatDoor
open Go.Av
theorem nameF_nn {s:Tx} (h:nameF s=true):s≠[]:=(name_facts h).1
theorem ask_names {S1 S2:Tx→Prop}:∀ (n:Nat) (e:Ex),SizeOf.sizeOf e≤n→WfE e→(∀ s∈nmsE true e,S1 s)→(∀ s∈nmsE false e,S2 s)→AskE S1 S2 e
 | 0,e,hn,_,_,_=>by cases e<;>simp at hn
 | n+1,e,hn,hw,h1,h2=>by
  have many:∀ l:List Ex,(∀ x∈l,SizeOf.sizeOf x≤n)→(∀ s∈nmsL true l,S1 s)→(∀ s∈nmsL false l,S2 s)→(∀ x∈l,WfE x)→AskL S1 S2 l:=by
   intro l
   induction l with
   | nil=>intro _ _ _ _;rw [AskL];trivial
   | cons x l ih=>
    intro hs h1 h2 h3
    simp only [nmsL,List.mem_append] at h1 h2;rw [AskL];exact ⟨ask_names n x (hs x (by simp)) (h3 x (by simp)) (fun s h=>h1 s (.inl h)) (fun s h=>h2 s (.inl h)),ih (fun y hy=>hs y (by simp [hy])) (fun s h=>h1 s (.inr h)) (fun s h=>h2 s (.inr h)) (fun y hy=>h3 y (by simp [hy]))⟩
  cases e with
  | cst b=>rw [AskE];trivial
  | bit s=>
   rw [AskE];rw [WfE] at hw;exact h1 s (by simp [nmsE,nmE,one1,nameF_nn hw])
  | rise s=>
   rw [AskE];rw [WfE] at hw;exact ⟨h1 s (by simp [nmsE,nmE,one1,nameF_nn hw]),h2 s (by simp [nmsE,nmE,one1,nameF_nn hw])⟩
  | fall s=>
   rw [AskE];rw [WfE] at hw;exact ⟨h1 s (by simp [nmsE,nmE,one1,nameF_nn hw]),h2 s (by simp [nmsE,nmE,one1,nameF_nn hw])⟩
  | not x=>
   rw [AskE];rw [WfE] at hw;exact ask_names n x (by simp at hn;omega) hw (fun s h=>h1 s (by rw [nmsE];exact h)) (fun s h=>h2 s (by rw [nmsE];exact h))
  | and l=>
   rw [AskE];rw [WfE] at hw;exact many l (fun x hx=>by have:=List.sizeOf_lt_of_mem hx;simp only [Ex.and.sizeOf_spec] at hn;omega) (fun s h=>h1 s (by rw [nmsE];exact h)) (fun s h=>h2 s (by rw [nmsE];exact h)) ((WfEs_iff l).1 hw.2)
  | or l=>
   rw [AskE];rw [WfE] at hw;exact many l (fun x hx=>by have:=List.sizeOf_lt_of_mem hx;simp only [Ex.or.sizeOf_spec] at hn;omega) (fun s h=>h1 s (by rw [nmsE];exact h)) (fun s h=>h2 s (by rw [nmsE];exact h)) ((WfEs_iff l).1 hw.2)
theorem ask_in {S1 S2:Tx→Prop} {e:Ex} (hw:WfE e) (h1:∀ s∈nmsE true e,S1 s) (h2:∀ s∈nmsE false e,S2 s):AskE S1 S2 e:=ask_names _ e (Nat.le_refl _) hw h1 h2
end Go.Proofs.YthnjfeielmbfkaaGreatDoor
