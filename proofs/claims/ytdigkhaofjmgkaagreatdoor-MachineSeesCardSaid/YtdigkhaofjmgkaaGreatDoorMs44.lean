/- Parts. -/
import Derived.Test.YtdigkhaofjmgkaaGreatDoorMs43
import Derived.Maps.RangeRun
set_option linter.unusedSectionVars false
set_option linter.unusedSimpArgs false
set_option linter.unusedVariables false
set_option maxHeartbeats 64000000
set_option maxRecDepth 100000
open Go.Proofs.Tryz
namespace Go.Av
open Go.ChangeMaps (setBlock)
section
variable {P:Program} {T:Ty} {Mv X:Nat->Prop} {G:ao} {N:Fr} {w:World} {μ:Mu} {a:Act} {σ:St}
def uh:Op->Bool
 | .range _ _=>true
 | .next _ false=>true
 | .entry _=>true
 | _=>false
def ze (T:Ty) (t:TypeId):Bool:=match T t with
 | some tt=>match tt.desc with
  | .map _ _=>true
  | _=>false
 | none=>false
def Es (T:Ty) (G:ao) (t:TypeId) (x:Operand) (d:Nat) (σ:St) (K:St->Prop):Prop:=match bf G σ.env x with
 | some (.d (.dm _ ents))=>ze T t=true/\σ.H d=none/\∀ es:List (Value×Value),es.Perm ents->K ⟨eS σ.env d (.ref d 0 0),aL σ.H d (.it es [])⟩
 | _=>False
def DV (G:ao) (x:Operand) (d:Nat) (σ:St) (K:St->Prop):Prop:=match bf G σ.env x with
 | some (.ref r 0 0)=>match σ.H r with
  | some (.it ents seen)=>((∀ j,j < ents.length->j∈seen)->K ⟨eS σ.env d (.d (.tup [.v (.bool false)])),σ.H⟩)/\
   ∀ j (hj:j < ents.length),j ∉ seen->K ⟨eS σ.env d (.d (.tup [.v (.bool true),.v ents[j].1,.v ents[j].2])),aL σ.H r (.it ents (seen ++ [j]))⟩
  | _=>False
 | _=>False
def Bz (G:ao) (x:Operand) (d:Nat) (σ:St) (K:St->Prop):Prop:=match bf G σ.env x with
 | some (.ref r 0 0)=>match σ.H r with
  | some (.it ents seen)=>∃ s j,∃ hj:j < ents.length,seen=s ++ [j]/\K ⟨eS σ.env d (.d (.tup [.v ents[j].1,.v ents[j].2])),σ.H⟩
  | _=>False
 | _=>False
def sq (T:Ty) (G:ao) (o:Oper) (σ:St) (K:St->Prop):Prop:=match o.op,o.dst with
 | .range t x,some d=>Es T G t x d σ K
 | .next x false,some d=>DV G x d σ K
 | .entry x,some d=>Bz G x d σ K
 | _,_=>False
theorem RV.J9 {u:Value} {r:Nat} (h:RV w X μ u (.ref r 0 0)):∃ m b,μ r=some m/\m.dy=some b/\u = .pointer (some ⟨b,0,none⟩):=by
 generalize hy:AV.ref r 0 0=y at h
 cases h with
 | ref hm hb=>cases hy;exact⟨_,_,hm,hb,by simp⟩
 | _=>cases hy
theorem Sim.Iw {H:Heap} (hs:Sim w X μ H) {r:Nat} {ents:List (Value×Value)} {seen:List Nat} (hH:H r=some (.it ents seen)) {m:gn} {b:Nat} (hm:μ r=some m) (hb:m.dy=some b) :
  ∃ bm,w.heap[b]? = some (.mapIter (some bm) ents.length seen.toArray ents.length)/\w.heap[bm]? = some (.map (gN ents) ents.length)/\RD w (XX X μ) (.map (some bm)) (.dm true ents):=by
 obtain⟨m',bU,ok⟩:=hs.rows r _ hH;rw[hm]at bU;obtain rfl:=Option.some.inj bU
 cases ok with
 | it aT hh hr=>
  rename_i b' bm;rw[hb]at aT;obtain rfl:=Option.some.inj aT;refine⟨bm,hh,?_,hr⟩;generalize hy:D.dm true ents=y at hr
  cases hr with
  | dm hX Hp hp hx=>cases hy;rw[hx rfl]at Hp;exact Hp
  | _=>cases hy
theorem I7 {ents:List (Value×Value)} {e:MapEntry} (h:e∈(gN ents).toList):∃ j,∃ hj:j < ents.length,e = { key:=ents[j].1,val:=ents[j].2,born:=j }:=by
 obtain⟨j,hj,rfl⟩:=List.mem_iff_getElem.1 h
 have hj':j < ents.length:=by simpa[adh]using hj
 have h1:=aeL hj'
 have h2:j < (gN ents).size:=by rw[adh];exact hj'
 rw[Array.getElem?_eq_getElem h2]at h1;exact⟨j,hj',by simpa using Option.some.inj h1⟩
theorem I6 {ents:List (Value×Value)} {j:Nat} (hj:j < ents.length):({ key:=ents[j].1,val:=ents[j].2,born:=j }:MapEntry)∈(gN ents).toList:=by
 have h1:=aeL hj
 have h2:j < (gN ents).size:=by rw[adh];exact hj
 rw[Array.getElem?_eq_getElem h2]at h1;rw[<- Option.some.inj h1];simp
theorem Tj (ents:List (Value×Value)):((gN ents).toList.map (·.born)).Nodup:=by
 have:(gN ents).toList.map (·.born)=List.range ents.length:=by
  refine List.ext_getElem (by simp[adh]) fun i h1 h2=>?_
  have hi:i < ents.length:=by simpa using h2
  have h3:=aeL hi
  have h4:i < (gN ents).size:=by rw[adh];exact hi
  rw[Array.getElem?_eq_getElem h4]at h3;simp[Option.some.inj h3]
 rw[this];exact List.nodup_range
theorem R5 (hg:Good P T) (hi:In w X G μ N a σ) {o:Oper} {K:St->Prop} (hd:∀ d,o.dst=some d->d < N.n) (h:sq T G o σ K) {Q:Exit->Act->World->Prop} {next:Act->World->Prop}
  (hk:∀ w' ax a' aw,K aw->In w' X G ax N a' aw->Ev Mv w μ w' ax->next a' w'):o.wpIn (wd N.ro) 0 P a w next Q:=by
 obtain⟨dst,op,type,pos,after,guard⟩:=o;unfold sq at h;dsimp only at h hd;split at h
 .-- range
  rename_i t x d;unfold Es at h;split at h
  .rename_i Oc hx;obtain⟨qk,hn,hK⟩:=h;refine wpR (fun c e=>by cases e) ?_;have hv:=hi.eval hx;have wJ:=hv.data
   obtain⟨bm,ents,r8,vX,hpm,wJ⟩:∃ bm es,a.eval x = .map (some bm)/\w.heap[bm]? = some (.map (gN es) es.length)/\es.Perm Oc/\RD w (XX X μ) (a.eval x) (.dm true es):=by
    generalize a.eval x=u at wJ
    cases wJ with
    | dm hX hh hp hx=>exact⟨_,_,rfl,hh,hp,.dm hX hh (List.Perm.refl _) fun _=>rfl⟩
   have hK:=hK ents hpm
   obtain⟨kt,et,hu⟩:∃ kt et,P.underlying t=some (.map kt et):=by
    unfold ze at qk;split at qk
    .rename_i tt cJ;split at qk
     .rename_i kt et P9;exact⟨kt,et,by rw[<- P9];exact (hg _ _ cJ).1⟩
     .cases qk
    .cases qk
   have bR:=run_range_map w t kt et bm (gN ents) ents.length hu vX;unfold Oper.wp
   have hex:(execOp a.eval (⟨some d,.range t x,type,pos,after,guard⟩:Oper)).run P w = .ok (.value (.pointer (some ⟨w.heap.size,0,none⟩))) (w.alloc (.mapIter (some bm) ents.length #[] ents.length)):=by
    simp[execOp,r8,bR]
   rw[hex]
   have jv:(w.alloc (.mapIter (some bm) ents.length #[] ents.length)).heap[w.heap.size]? = some (.mapIter (some bm) ents.length #[] ents.length):=by rw[<- World.alloc_eq];simp
   obtain⟨aF,aJ⟩:=hi.alloc (Mv:=Mv) hn (bY.alloc w (.mapIter (some bm) ents.length #[] ents.length)) (m:=⟨some w.heap.size,1,0⟩) (fun b hb=>by simp at hb;omega) (row:=.it ents []) fun ev=>.it rfl jv (by rw[r8]at wJ;exact wJ.ev ev)
   have ft:RV (w.alloc (.mapIter (some bm) ents.length #[] ents.length)) X (cR μ d ⟨some w.heap.size,1,0⟩) (.pointer (some ⟨w.heap.size,0,none⟩)) (.ref d 0 0):=by
    have:=RV.ref (w:=w.alloc (.mapIter (some bm) ents.length #[] ents.length)) (X:=X) (μ:=cR μ d ⟨some w.heap.size,1,0⟩) (r:=d) (e:=0) (j:=0) (b:=w.heap.size) (m:=⟨some w.heap.size,1,0⟩) (by simp[cR]) rfl;simpa using this
   exact hk _ _ _ _ hK (aF.put ft (dst:=some d) hd) aJ
  .exact h.elim
 .-- next
  rename_i x d;unfold DV at h;split at h
  .rename_i r hx;split at h
   .rename_i ents seen hH;obtain⟨h0,h1⟩:=h;refine wpR (fun c e=>by cases e) ?_;obtain⟨m,b,hm,hb,r8⟩:=(hi.eval hx).J9;obtain⟨bm,hit,vX,bC⟩:=hi.aY.Iw hH hm hb
    have hold:∀ x∈(gN ents).toList,x.born < ents.length:=fun x hx=>by
     obtain⟨j,hj,rfl⟩:=I7 hx;exact hj
    unfold Oper.wp
    rcases run_next_at (P:=P) w type b bm ents.length ents.length seen.toArray (gN ents) ents.length hit vX hold (Nat.le_refl _) with⟨hz,bR⟩ | ⟨e,he,w1,gM,bR⟩
    .have hex:(execOp a.eval (⟨some d,.next x false,type,pos,after,guard⟩:Oper)).run P w = .ok (.value (.tuple #[.bool false])) w:=by
      simp[execOp,r8,bR]
     rw[hex]
     have bB:∀ j,j < ents.length->j∈seen:=fun j hj=>by
      apply Classical.byContradiction;intro fW
      have jP:({ key:=ents[j].1,val:=ents[j].2,born:=j }:MapEntry)∈(leftOf (gN ents) seen.toArray).toList:=by
       unfold leftOf;rw[Array.toList_filter,List.mem_filter];exact⟨I6 hj,by simpa using fW⟩
      have:0 < (leftOf (gN ents) seen.toArray).size:=by
       have:=List.length_pos_of_mem jP;simpa using this
      omega
     refine hk _ μ _ _ (h0 bB) (hi.put (.d (.tup rfl fun j u c hu hc=>?_)) (dst:=some d) hd) (.refl _ w μ)
     match j,hu,hc with
     | 0,hu,hc=>simp at hu hc;subst hu hc;exact .v _
     | j+1,hu,hc=>simp at hu
    .obtain⟨he1,he2⟩:=mem_left he;obtain⟨j,hj,rfl⟩:=I7 he1
     have fW:j ∉ seen:=by simpa using he2
     have hex:(execOp a.eval (⟨some d,.next x false,type,pos,after,guard⟩:Oper)).run P w = .ok (.value (.tuple #[.bool true,ents[j].1,ents[j].2])) (setBlock w1 b (.mapIter (some bm) ents.length (seen.toArray.push j) ents.length)):=by
      simp[execOp,r8,bR]
     rw[hex]
     have dP:bY w w1:=by
      rcases gM with rfl | rfl
      .exact bY.refl _
      .exact bY.drew w
     have Qt:w1.heap=w.heap:=by rcases gM with rfl | rfl<;>rfl
     obtain⟨cO,mR⟩:=hi.j7 (Mv:=Mv) dP
     have ay:b < w1.heap.size:=by rw[Qt];exact (Array.getElem?_eq_some_iff.1 hit).1
     obtain⟨aF,aJ⟩:=cO.write (Mv:=Mv) (w':=setBlock w1 b (.mapIter (some bm) ents.length (seen.toArray.push j) ents.length)) hm hb (by simp[setBlock]) rfl rfl rfl (fun k hk=>by simp[setBlock,Array.getElem?_setIfInBounds_ne (Ne.symm hk)]) (row:=.it ents (seen ++ [j])) fun ev=>.it hb (by simp[setBlock,ay]) ((bC.ev mR).ev ev);refine hk _ μ _ _ (h1 j hj fW) (aF.put (.d (.tup rfl fun i u c hu hc=>?_)) (dst:=some d) hd) (mR.trans aJ)
     match i,hu,hc with
     | 0,hu,hc=>simp at hu hc;subst hu hc;exact .v _
     | 1,hu,hc=>simp at hu hc;subst hu hc;exact .v _
     | 2,hu,hc=>simp at hu hc;subst hu hc;exact .v _
     | i+3,hu,hc=>simp at hu
   .exact h.elim
  .exact h.elim
 .-- entry
  rename_i x d;unfold Bz at h;split at h
  .rename_i r hx;split at h
   .rename_i ents seen hH;obtain⟨s,j,hj,rfl,hK⟩:=h;refine wpR (fun c e=>by cases e) ?_;obtain⟨m,b,hm,hb,r8⟩:=(hi.eval hx).J9;obtain⟨bm,hit,vX,bC⟩:=hi.aY.Iw hH hm hb
    have QB:w.heap[b]? = some (.mapIter (some bm) ents.length (s.toArray.push ({ key:=ents[j].1,val:=ents[j].2,born:=j }:MapEntry).born) ents.length):=by
     rw[hit];simp
    have bR:=run_entry_at (P:=P) w b bm ents.length s.toArray (gN ents) ents.length _ QB vX (I6 hj) (Tj ents);unfold Oper.wp
    have hex:(execOp a.eval (⟨some d,.entry x,type,pos,after,guard⟩:Oper)).run P w = .ok (.value (.tuple #[ents[j].1,ents[j].2])) w:=by
     simp[execOp,r8,bR]
    rw[hex];refine hk _ μ _ _ hK (hi.put (.d (.tup rfl fun i u c hu hc=>?_)) (dst:=some d) hd) (.refl _ w μ)
    match i,hu,hc with
    | 0,hu,hc=>simp at hu hc;subst hu hc;exact .v _
    | 1,hu,hc=>simp at hu hc;subst hu hc;exact .v _
    | i+2,hu,hc=>simp at hu
   .exact h.elim
  .exact h.elim
 .exact h.elim
def kr (P:Program) (T:Ty) (Mv X:Nat->Prop) (G:ao) (N:Fr) (ops:Array Oper) (K:St->Prop):List Oper->St->Prop
 | [],σ=>K σ
 | o :: rest,σ=>abF N o/\match fQ ops σ.env o with
  | some b=>if b=true then (if uh o.op=true then sq T G o σ (kr P T Mv X G N ops K rest) else ri P T Mv X G N o σ (kr P T Mv X G N ops K rest)) else kr P T Mv X G N ops K rest ⟨aD σ.env o.dst cC,σ.H⟩
  | none=>False
theorem Xy (hg:Good P T) {ops:Array Oper} {Q:Exit->St->Prop} {w0:World} {gm:Mu}:∀ (l:List Oper) (k:Nat) (w:World) (μ:Mu) (a:Act) (σ:St),(∀ j,l[j]? = ops[k+j]?)->kr P T Mv X G N ops (fun aw=>Q .normal aw) l σ->In w X G μ N a σ->Ev Mv w0 gm w μ->
  wpOpsIn (wd N.ro) 0 P ops (After Mv X G N w0 gm Q) (List.range' k l.length) a w:=by
 intro l
 induction l with
 | nil=>intro k w μ a σ _ h hi aJ;exact⟨μ,σ,h,hi,aJ⟩
 | cons o l ih=>
  intro k w μ a σ hl h hi aJ
  have h0:ops[k]? = some o:=by simpa using (hl 0).symm
  have eG:∀ j,l[j]? = ops[k+1+j]?:=fun j=>by have:=hl (j+1);simpa[Nat.add_assoc,Nat.add_comm 1 j]using this
  obtain⟨hd,h⟩:=h
  have gL:∀ d,o.dst=some d->d < N.n:=fun d e=>by unfold abF at hd;rw[e]at hd;exact hd
  rw[List.length_cons,List.range'_succ];simp only[wpOpsIn,h0];split at h
  .rename_i b hb;rw[sT hi hb];split at h
   .rename_i oU;subst oU;rw[if_pos rfl];split at h
    .exact R5 hg hi gL h fun w' ax a' aw k' aF iP=>ih (k+1) w' ax a' aw eG k' aF (aJ.trans iP)
    .exact (Gs hg hi gL h fun w' ax a' aw k' aF iP=>ih (k+1) w' ax a' aw eG k' aF (aJ.trans iP))
   .rename_i vW;rw[if_neg (by simpa using vW)];exact⟨fun _ _=>trivial,ih (k+1) w μ _ _ eG h (hi.put (.d (.v _)) gL) aJ⟩
  .exact h.elim
theorem LW (hg:Good P T) {id:Nat} {ops:Array Oper} {Q:Exit->St->Prop} (h:kr P T Mv X G N ops (fun aw=>Q .normal aw) ops.toList σ):AW P Mv X G N (.region id ops false) Q σ:=fun w μ a hi=>by
 refine wpIn_region ?_;have:=Xy hg ops.toList 0 w μ a σ (by simp) h hi (.refl _ w μ)
 rwa [<- List.range_eq_range',Array.length_toList]at this
theorem sZ (hg:Good P T) (l ns:List Nat) (hM:∀ r,ns.contains r=false->Mv r) {id:Nat} {ops:Array Oper} {y:Code} {Q:Exit->St->Prop} (h:∀ K:St->Prop,(∀ τ:St,AW P Mv X G N y Q (τ.norm l ns)->K τ)->kr P T Mv X G N ops K ops.toList σ):AW P Mv X G N (.seq (.region id ops false) y) Q σ:=
 adP (LW hg (h _ fun _ h=>h.norm l ns hM))
def afY (P:Program) (T:Ty) (Mv X:Nat->Prop) (G:ao) (N:Fr) (ops:Array Oper) (o:Oper) (σ:St) (K:St->Prop):Prop:=abF N o/\match fQ ops σ.env o with
 | some b=>if b=true then (if uh o.op=true then sq T G o σ K else ri P T Mv X G N o σ K) else K ⟨aD σ.env o.dst cC,σ.H⟩
 | none=>False
theorem qO {ops:Array Oper} {K:St->Prop} {o:Oper} {l:List Oper} (h:∀ K':St->Prop,(∀ τ,kr P T Mv X G N ops K l τ->K' τ)->afY P T Mv X G N ops o σ K'):kr P T Mv X G N ops K (o :: l) σ:=h _ fun _ h=>h
theorem qP {ops:Array Oper} {K:St->Prop} (h:K σ):kr P T Mv X G N ops K [] σ:=h
theorem afZ {ops:Array Oper} {K:St->Prop} {o:Oper} {l:List Oper} {t:TypeId} {x:Operand} {d:Nat} {ents:List (Value×Value)} (ho:o.op = .range t x) (rF:o.dst=some d) (hd:abF N o) (hg:fQ ops σ.env o=some true) {y:Bool} (hx:bf G σ.env x=some (.d (.dm y ents))) (ht:ze T t=true) (hH:σ.H d=none)
  (h:∀ es:List (Value×Value),es.Perm ents->kr P T Mv X G N ops K l ⟨eS σ.env d (.ref d 0 0),aL σ.H d (.it es [])⟩):kr P T Mv X G N ops K (o :: l) σ:=by
 refine⟨hd,?_⟩;rw[hg];simp only[if_true,ho,uh];unfold sq Es;simp only[ho,rF,hx];exact⟨ht,hH,h⟩
theorem Ld {ops:Array Oper} {K:St->Prop} {o:Oper} {l:List Oper} {x:Operand} {d r:Nat} {ents:List (Value×Value)} {seen:List Nat} (ho:o.op = .next x false) (rF:o.dst=some d) (hd:abF N o) (hg:fQ ops σ.env o=some true) (hx:bf G σ.env x=some (.ref r 0 0)) (hH:σ.H r=some (.it ents seen))
  (h0:(∀ j,j < ents.length->j∈seen)->kr P T Mv X G N ops K l ⟨eS σ.env d (.d (.tup [.v (.bool false)])),σ.H⟩)
  (h1:∀ j (hj:j < ents.length),j ∉ seen->kr P T Mv X G N ops K l ⟨eS σ.env d (.d (.tup [.v (.bool true),.v ents[j].1,.v ents[j].2])),aL σ.H r (.it ents (seen ++ [j]))⟩):kr P T Mv X G N ops K (o :: l) σ:=by
 refine⟨hd,?_⟩;rw[hg];simp only[if_true,ho,uh];unfold sq DV;simp only[ho,rF,hx,hH];exact⟨h0,h1⟩
theorem Lc {ops:Array Oper} {K:St->Prop} {o:Oper} {l:List Oper} {x:Operand} {d r:Nat} {ents:List (Value×Value)} {seen:List Nat} {j:Nat} (ho:o.op = .entry x) (rF:o.dst=some d) (hd:abF N o) (hg:fQ ops σ.env o=some true) (hx:bf G σ.env x=some (.ref r 0 0)) (hH:σ.H r=some (.it ents (seen ++ [j]))) (hj:j < ents.length)
  (h:kr P T Mv X G N ops K l ⟨eS σ.env d (.d (.tup [.v ents[j].1,.v ents[j].2])),σ.H⟩):kr P T Mv X G N ops K (o :: l) σ:=by
 refine⟨hd,?_⟩;rw[hg];simp only[if_true,ho,uh];unfold sq Bz;simp only[ho,rF,hx,hH];exact⟨seen,j,hj,rfl,h⟩
end
attribute [simp] afY uh ze j2
end Go.Av
namespace Go.Proofs.YtdigkhaofjmgkaaGreatDoor
open Go.Av
structure abU (L:List (Value×Value)):Prop where
 str:∀ p∈L,∃ s:ByteArray,p.1 = .string s
 once:(L.map (·.1)).Nodup
def cA (L:List (Value×Value)) (s:ByteArray):Option Value:=(L.find? fun p=>fE (.string s) p.1).map (·.2)
def b6 (L:List (Value×Value)) (s:ByteArray) (x:Value):List (Value×Value):=match L.findIdx? fun p=>fE (.string s) p.1 with
 | some j=>L.set j (.string s,x)
 | none=>L ++ [(.string s,x)]
theorem Ds (s:ByteArray) (k:Value):fE (.string s) k=true↔k = .string s:=by
 cases k with
 | string s'=>
  constructor
  .intro h;exact Dp (d:=.string) rfl rfl h
  .intro h;obtain⟨r,h1,h2⟩:=MapKept.sameNow_of_keys (aeo (d:=.string) (v:=.string s) rfl) (aeo (d:=.string) (v:=.string s') rfl);rw[EA (d:=.string) rfl rfl]at h1;rw[Option.some.inj h1];exact h2.2 (by first | exact h.symm | exact h)
 | _=>exact⟨fun h=>(by cases h),fun h=>(by cases h)⟩
theorem zq (s:ByteArray):fE (.string s) (.string s)=true:=(Ds s _).2 rfl
theorem zp {s:ByteArray} {k:Value} (h:k≠.string s):fE (.string s) k=false:=by
 cases hk:fE (.string s) k with
 | false=>rfl
 | true=>exact absurd ((Ds s k).1 hk) h
theorem uo (x:Value) (L:List (Value×Value)) (s:ByteArray):cA ((.string s,x) :: L) s=some x:=by
 unfold cA;rw[List.find?_cons];simp only[zq];rfl
theorem sx {k:Value} (x:Value) (L:List (Value×Value)) {s:ByteArray} (h:k≠.string s):cA ((k,x) :: L) s=cA L s:=by
 unfold cA;rw[List.find?_cons];simp only[zp h]
theorem EO {s s':ByteArray} (h:s'≠s):Value.string s≠Value.string s':=fun e=>h (by injection e with e;exact e.symm)
theorem DI:abU []:=⟨by simp,by simp⟩
theorem afM {p:Value×Value} {L:List (Value×Value)} (h:abU (p :: L)):abU L:=⟨fun q hq=>h.str q (by simp[hq]),(List.nodup_cons.1 h.once).2⟩
theorem El (s:ByteArray) (x:Value):b6 [] s x=[(.string s,x)]:=rfl
theorem zT (y:Value) (L:List (Value×Value)) (s:ByteArray) (x:Value):b6 ((.string s,y) :: L) s x=(.string s,x) :: L:=by
 unfold b6;rw[List.findIdx?_cons];simp only[zq,if_true];rfl
theorem zU {k:Value} (y:Value) (L:List (Value×Value)) {s:ByteArray} (x:Value) (h:k≠.string s):b6 ((k,y) :: L) s x=(k,y) :: b6 L s x:=by
 unfold b6;rw[List.findIdx?_cons];simp only[zp h,Bool.false_eq_true,if_false]
 cases L.findIdx? fun p=>fE (.string s) p.1 with
 | none=>rfl
 | some j=>rfl
theorem my (s s':ByteArray) (x:Value):∀ L:List (Value×Value),cA (b6 L s x) s'=if s'=s then some x else cA L s'
 | []=>by
  rw[El];by_cases h:s'=s
  .subst h;rw[uo,if_pos rfl]
  .rw[sx _ _ (EO h),if_neg h]
 | (k,y) :: L=>by
  by_cases hk:k = .string s
  .subst hk;rw[zT];by_cases h:s'=s
   .subst h;rw[uo,if_pos rfl]
   .rw[sx _ _ (EO h),sx _ _ (EO h),if_neg h]
  .rw[zU _ _ _ hk];by_cases eA:k = .string s'
   .subst eA;rw[uo,uo,if_neg (fun e=>hk (by rw[e]))]
   .rw[sx _ _ eA,sx _ _ eA,my s s' x L]
theorem J1 (s:ByteArray) (x:Value):∀ {L:List (Value×Value)} {k:Value},k∈(b6 L s x).map (·.1)->k = .string s\/k∈L.map (·.1)
 | [],k,h=>by rw[El]at h;simp at h;exact .inl h
 | (k0,y) :: L,k,h=>by
  by_cases hk:k0 = .string s
  .subst hk;rw[zT]at h;simp only[List.map_cons,List.mem_cons]at h ⊢
   rcases h with h | h
   .exact .inl h
   .exact .inr (.inr h)
  .rw[zU _ _ _ hk]at h;simp only[List.map_cons,List.mem_cons]at h ⊢
   rcases h with h | h
   .exact .inr (.inl h)
   .rcases J1 s x h with h | h
    .exact .inl h
    .exact .inr (.inr h)
theorem ur (s:ByteArray) (x:Value):∀ {L:List (Value×Value)},abU L->abU (b6 L s x)
 | [],_=>by rw[El];exact⟨by simp,by simp⟩
 | (k,y) :: L,h=>by
  have ih:=ur s x (afM h);by_cases hk:k = .string s
  .subst hk;rw[zT]
   exact⟨fun p hp=>by
    rcases List.mem_cons.1 hp with rfl | hp
    .exact⟨s,rfl⟩
    .exact h.str p (by simp[hp]),by simpa using h.once⟩
  .rw[zU _ _ _ hk];refine⟨fun p hp=>?_,?_⟩
   .rcases List.mem_cons.1 hp with rfl | hp
    .exact h.str _ (by simp)
    .exact ih.str p hp
   .rw[List.map_cons,List.nodup_cons];refine⟨fun hm=>?_,ih.once⟩
    rcases J1 s x hm with e | e
    .exact hk e
    .exact (List.nodup_cons.1 h.once).1 e
theorem wU:∀ {L:List (Value×Value)},abU L->∀ {j:Nat} (hj:j < L.length) {s:ByteArray},L[j].1 = .string s->cA L s=some L[j].2
 | (k,y) :: L,h,0,_,s,he=>by
  have:k = .string s:=he;subst this;exact uo _ _ _
 | (k,y) :: L,h,j+1,hj,s,he=>by
  have hj':j < L.length:=by simpa using hj
  have aO:k≠.string s:=fun e=>(List.nodup_cons.1 h.once).1 (by
   show k∈_;have gV:L[j].1 = .string s:=he;rw[e,<- gV]
   exact List.mem_map.2 ⟨L[j],List.getElem_mem hj',rfl⟩)
  rw[sx _ _ aO];exact wU (afM h) hj' he
theorem IY {L:List (Value×Value)} {s:ByteArray} {v:Value} (h:cA L s=some v):∃ j,∃ hj:j < L.length,L[j].1 = .string s/\L[j].2=v:=by
 unfold cA at h;obtain⟨p,hp,rfl⟩:=Option.map_eq_some_iff.1 h;have h1:=List.find?_some hp;obtain⟨j,hj,rfl⟩:=List.mem_iff_getElem.1 (List.mem_of_find?_eq_some hp);exact⟨j,hj,(Ds s _).1 h1,rfl⟩
structure qV (E:List (Value×Value)) (seen:List Nat) (L:List (Value×Value)):Prop where
 ok:abU L
 have':∀ j∈seen,∀ hj:j < E.length,∀ s,E[j].1 = .string s->cA L s=some E[j].2
 only:∀ s v,cA L s=some v->∃ j,∃ hj:j < E.length,j∈seen/\E[j].1 = .string s
theorem F3 (E:List (Value×Value)):qV E [] []:=⟨DI,by simp,fun s v h=>by cases h⟩
theorem F2 {E:List (Value×Value)} (hE:abU E) {seen:List Nat} {L:List (Value×Value)} (h:qV E seen L) {j:Nat} (hj:j < E.length) {s:ByteArray} (hs:E[j].1 = .string s):qV E (seen ++ [j]) (b6 L s E[j].2):=by
 refine⟨ur s _ h.ok,fun i hi c6 s' lQ=>?_,fun s' v hv=>?_⟩
 .rw[my];by_cases e:s'=s
  .subst e;rw[if_pos rfl];have h1:=wU hE hj hs;have h2:=wU hE c6 lQ;rw[<- h1,h2]
  .rw[if_neg e]
   rcases List.mem_append.1 hi with hi | hi
   .exact h.have' i hi c6 s' lQ
   .obtain rfl:i=j:=by simpa using hi
    rw[hs]at lQ;injection lQ with lQ;exact absurd lQ.symm e
 .rw[my]at hv;by_cases e:s'=s
  .subst e;exact⟨j,hj,by simp,hs⟩
  .rw[if_neg e]at hv;obtain⟨i,hi,h1,h2⟩:=h.only s' v hv;exact⟨i,hi,by simp[h1],h2⟩
theorem NF {E:List (Value×Value)} (hE:abU E) {seen:List Nat} {L:List (Value×Value)} (h:qV E seen L) (bB:∀ j,j < E.length->j∈seen) (s:ByteArray):cA L s=cA E s:=by
 cases he:cA E s with
 | some v=>
  obtain⟨j,hj,h1,h2⟩:=IY he;rw[h.have' j (bB j hj) hj s h1,h2]
 | none=>
  cases hl:cA L s with
  | none=>rfl
  | some v=>
   obtain⟨j,hj,_,h1⟩:=h.only s v hl;rw[wU hE hj h1]at he;cases he
theorem oF (s:ByteArray):∀ L:List (Value×Value),abW (.string s) (cj L)=(cA L s).map .v
 | []=>rfl
 | (k,x) :: L=>by
  have ih:=oF s L;by_cases hk:k = .string s
  .subst hk;rw[uo];show ((List.find? _ ((Value.string s,D.v x) :: cj L)).map _)=_;rw[List.find?_cons];simp only[zq];rfl
  .rw[sx _ _ hk,<- ih];show ((List.find? _ ((k,D.v x) :: cj L)).map _)=_;rw[List.find?_cons];simp only[zp hk];rfl
theorem c8 (s:ByteArray) (x:Value):∀ L:List (Value×Value),oG (.string s) (.v x) (cj L)=cj (b6 L s x)
 | []=>rfl
 | (k,y) :: L=>by
  have ih:=c8 s x L;by_cases hk:k = .string s
  .subst hk;rw[zT];show (match List.findIdx? _ ((Value.string s,D.v y) :: cj L)with | some j=>_ | none=>_)=_;rw[List.findIdx?_cons];simp only[zq,if_true];rfl
  .rw[zU _ _ _ hk];unfold oG at ih;unfold oG;show (match List.findIdx? _ ((k,D.v y) :: cj L)with | some j=>_ | none=>_)=(k,D.v y) :: cj (b6 L s x);rw[List.findIdx?_cons,<- ih];simp only[zp hk,Bool.false_eq_true,if_false]
   cases List.findIdx? (fun p=>fE (.string s) p.1) (cj L) with
   | none=>rfl
   | some j=>rfl
theorem ma:∀ L:List (Value×Value),j2 (cj L)=some L
 | []=>rfl
 | (k,x) :: L=>by
  show (j2 (cj L)).map _=_;rw[ma L];rfl
theorem acV {L:List (Value×Value)} (h:abU L):∀ p∈cj L,ab2 .string p.1=true:=fun p hp=>by
 obtain⟨q,hq,rfl⟩:=List.mem_map.1 hp;obtain⟨s,hs⟩:=h.str q hq;show ab2 .string q.1=true;rw[hs];rfl
def aer:Option Value->Bool
 | some (.bool b)=>b
 | _=>false
def acU:Option Value->Int
 | some (.int _ n)=>n
 | _=>0
structure e8 (p:PgP) (s:StP) (I C:List (Value×Value)):Prop where
 okI:abU I
 okC:abU C
 bI:∀ k v,cA I k=some v->∃ b,v = .bool b
 iC:∀ k v,cA C k=some v->∃ n,v = .int .i64 n
 is:∀ i (hi:i < p.names.length),aer (cA I (bs p.names[i].name))=s.is.getD i false
 ct:∀ i (hi:i < p.names.length),acU (cA C (bs p.names[i].name))=s.ct.getD i 0
theorem M7 {a b:Tx} (h:bs a=bs b):a=b:=by
 have:=congrArg (fun x:ByteArray=>x.data.toList) h;simpa[bs]using this
theorem Jj {p:PgP} (hg:abT p) {i k:Nat} (hi:i < p.names.length) (hk:k < p.names.length) (h:bs p.names[k].name=bs p.names[i].name):k=i:=by
 have h1:=hg.num i hi;have h2:=hg.num k hk;rw[M7 h]at h2;rw[h1]at h2;omega
theorem Wl {p:PgP}:e8 p (fP p) [] []:=by
 refine⟨DI,DI,fun k v h=>(by cases h),fun k v h=>(by cases h),fun i hi=>?_,fun i hi=>?_⟩
 .show false=(List.replicate _ false).getD i false;rw[rj]
 .show (0:Int)=(List.replicate _ (0:Int)).getD i 0;rw[rj]
theorem qK {p:PgP} (hg:abT p) {s:StP} {I C:List (Value×Value)} (h:e8 p s I C) (hl:s.is.length=p.names.length) {i:Nat} (hi:i < p.names.length) (b:Bool):e8 p ⟨s.is.set i b,s.ct⟩ (b6 I (bs p.names[i].name) (.bool b)) C:=by
 refine⟨ur _ _ h.okI,h.okC,fun k v hv=>?_,h.iC,fun k hk=>?_,h.ct⟩
 .rw[my]at hv;split at hv
  .exact⟨b,(Option.some.inj hv).symm⟩
  .exact h.bI k v hv
 .rw[my];show _=(s.is.set i b).getD k false;by_cases e:k=i
  .subst e;rw[if_pos rfl,iM (by omega)];rfl
  .rw[if_neg (fun e2=>e (Jj hg hi hk e2)),fT (fun e2=>e e2.symm)];exact h.is k hk
theorem zZ {p:PgP} (hg:abT p) {s:StP} {I C:List (Value×Value)} (h:e8 p s I C) (hl:s.ct.length=p.names.length) {i:Nat} (hi:i < p.names.length) (n:Int):e8 p ⟨s.is,s.ct.set i n⟩ I (b6 C (bs p.names[i].name) (.int .i64 n)):=by
 refine⟨h.okI,ur _ _ h.okC,h.bI,fun k v hv=>?_,h.is,fun k hk=>?_⟩
 .rw[my]at hv;split at hv
  .exact⟨n,(Option.some.inj hv).symm⟩
  .exact h.iC k v hv
 .rw[my];show _=(s.ct.set i n).getD k 0;by_cases e:k=i
  .subst e;rw[if_pos rfl,iM (by omega)];rfl
  .rw[if_neg (fun e2=>e (Jj hg hi hk e2)),fT (fun e2=>e e2.symm)];exact h.ct k hk
theorem Wk {p:PgP} {s:StP} {I C I2 C2:List (Value×Value)} (h:e8 p s I C) (h1:abU I2) (h2:abU C2) (h3:∀ k,cA I2 k=cA I k) (h4:∀ k,cA C2 k=cA C k):e8 p s I2 C2:=
 ⟨h1,h2,fun k v hv=>h.bI k v (by rw[<- h3];exact hv),fun k v hv=>h.iC k v (by rw[<- h4];exact hv),fun i hi=>by rw[h3];exact h.is i hi,fun i hi=>by rw[h4];exact h.ct i hi⟩
theorem Ka {p:PgP} {s:StP} {I C:List (Value×Value)} (h:e8 p s I C) (nm:Tx) (hn:¬ aaL p nm < 0):aer (cA I (bs nm))=eN p s.is nm:=by
 obtain⟨k,hk,he,hs⟩:=po hn
 have lQ:p.names[k].name=nm:=by simpa using hs
 have gV:aaL p nm=k:=he;unfold eN;rw[gV,Int.toNat_natCast,<- h.is k hk,lQ]
theorem V4 (G:ao) {p:PgP} {s:StP} {I C:List (Value×Value)} (h:e8 p s I C):l9 (fun nm=>¬ aaL p nm < 0) G 72 [.ip [.dm false I,.dm false C]] (eN p s.is):=by
 intro nm hn;rw[<- Ka h nm hn];have hg:=oF (bs nm) I;have hb:=h.bI (bs nm);have eg:=acV h.okI;simp at eg;have bg:=eq_true eg;have fe:=h.okI.once;simp only[dS];generalize bs nm=k at *
 cases hl:cA I k with
 | none=>
  rw[hl]at hg;simp only[Option.map_none]at hg;refine ar.aC (aay _) func72 rfl rfl (rs:=[.tmp 3]) results72 (by simp[ntmps72]) fun X=>?_;simp only[ntmps72,List.map];refine aq [0,1] [] ?_;have qf:=(Aq @bg (Aq @fe (Aq @hg (Aq @aa7.eq_1 (Aq @bQ.eq_1 @bQ.eq_2)))));refine al [3] [] ?_;refine bn ?_;simp[D.le,D.le.go,aaA,aer]
 | some v=>
  obtain⟨b,rfl⟩:=hb v hl;rw[hl]at hg;simp only[Option.map_some]at hg;refine ar.aC (aay _) func72 rfl rfl (rs:=[.tmp 3]) results72 (by simp[ntmps72]) fun X=>?_;simp only[ntmps72,List.map];refine aq [0,1] [] ?_;have qf:=(Aq @bg (Aq @fe (Aq @hg (Aq @aa7.eq_1 (Aq @bQ.eq_1 @bQ.eq_2)))));refine al [3] [] ?_;refine bn ?_;simp[D.le,D.le.go,aaA,aer]
theorem V5 (G:ao) {p:PgP} {s:StP} {I C:List (Value×Value)} (h:e8 p s I C):l9 (fun nm=>¬ aaL p nm < 0) G 73 [.ip [.dm false I,.dm false C]] (eN p s.is):=by
 intro nm hn;rw[<- Ka h nm hn];have hg:=oF (bs nm) I;have hb:=h.bI (bs nm);have eg:=acV h.okI;simp at eg;have bg:=eq_true eg;have fe:=h.okI.once;simp only[dS];generalize bs nm=k at *
 cases hl:cA I k with
 | none=>
  rw[hl]at hg;simp only[Option.map_none]at hg;refine ar.aC (aay _) func73 rfl rfl (rs:=[.tmp 3]) results73 (by simp[ntmps73]) fun X=>?_;simp only[ntmps73,List.map];refine aq [0,1] [] ?_;have qf:=(Aq @bg (Aq @fe (Aq @hg (Aq @aa7.eq_1 (Aq @bQ.eq_1 @bQ.eq_2)))));refine al [3] [] ?_;refine bn ?_;simp[D.le,D.le.go,aaA,aer]
 | some v=>
  obtain⟨b,rfl⟩:=hb v hl;rw[hl]at hg;simp only[Option.map_some]at hg;refine ar.aC (aay _) func73 rfl rfl (rs:=[.tmp 3]) results73 (by simp[ntmps73]) fun X=>?_;simp only[ntmps73,List.map];refine aq [0,1] [] ?_;have qf:=(Aq @bg (Aq @fe (Aq @hg (Aq @aa7.eq_1 (Aq @bQ.eq_1 @bQ.eq_2)))));refine al [3] [] ?_;refine bn ?_;simp[D.le,D.le.go,aaA,aer]
theorem Ew (G:ao):MC prog G [] 70 [] (ak []) (.agg [.mp 601,.mp 602]) (ak [(601,.mp 59 []),(602,.mp 60 [])]):=by
 refine MC.aC (aay _) func70 rfl rfl (rs:=[.cell 0 62]) results70 (by simp[ntmps70]) rfl fun X=>?_;simp only[ntmps70];refine aq [0] [0] ?_;refine aq [0] [0,1,2] ?_;refine AW.imp (aB.ren (r:=1) (r':=601) (by decide) (by simp)) ?_;refine AW.st (by simp[abI,abH,Go.Av.ren,mC];rfl) ?_;refine AW.imp (aB.ren (r:=2) (r':=602) (by decide) (by simp)) ?_;refine AW.st (by simp[abI,abH,Go.Av.ren,mC];rfl) ?_;exact gG
def sy (p:PgP) (inn:List Bool) (I:List (Value×Value)):Nat->List (Value×Value)
 | 0=>I
 | k+1=>b6 (sy p inn I k) (bs (p.names.getD ((aQ p).getD k 0).toNat ⟨[],0,0⟩).name) (.bool (inn.getD k false))
abbrev j1:=List (Value×Value)×List (Value×Value)
def qz (p:PgP) (yes:Bool) (r:fI) (m:j1):j1:=
 let k:=bs r.name
 let top:=(p.names.getD (aaL p r.name).toNat ⟨[],0,0⟩).count
 if r.kind=1 then (b6 m.1 k (.bool yes),m.2)
 else if r.kind=2 then (if yes then b6 m.1 k (.bool true) else m.1,m.2)
 else if r.kind=3 then (if yes then b6 m.1 k (.bool false) else m.1,m.2)
 else if r.kind=6 then (if yes then (b6 m.1 k (.bool false),b6 m.2 k (.int .i64 0)) else m)
 else
  let c:=acU (cA m.2 k)
  let C1:=if yes then (if c < top then b6 m.2 k (.int .i64 (c+1)) else m.2) else (if r.kind=4 then b6 m.2 k (.int .i64 0) else m.2)
  (b6 m.1 k (.bool (acU (cA C1 k) == top)),C1)
def qA (p:PgP) (dJ t:StP):List fI->j1->j1
 | [],m=>m
 | r :: l,m=>qA p dJ (je p dJ t r) l (qz p (nG (eN p t.is) (eN p dJ.is) r.cond) r m)
def sA (p:PgP) (s:StP) (inn:List Bool) (m:j1):j1:=qA p s ⟨jV (aQ p) inn s.is (aQ p).length,s.ct⟩ p.aaw (sy p inn m.1 (aQ p).length,m.2)
theorem I8 (p:PgP) (dJ:StP):∀ (l:List fI) (t:StP) (m:j1) (n:Nat) (h:n < l.length),qA p dJ t (l.take (n+1)) m=qz p (nG (eN p ((l.take n).foldl (je p dJ) t).is) (eN p dJ.is) l[n].cond) l[n] (qA p dJ t (l.take n) m)
 | r :: l,t,m,0,_=>rfl
 | r :: l,t,m,n+1,h=>by
  have:=I8 p dJ l (je p dJ t r) (qz p (nG (eN p t.is) (eN p dJ.is) r.cond) r m) n (by simpa using h);simp only[List.take_succ_cons,qA,List.foldl_cons,List.getElem_cons_succ];exact this
theorem DP {p:PgP} (hg:abT p) {s:StP} (hs:abr p s) (inn:List Bool) {I C:List (Value×Value)} (h:e8 p s I C):∀ k,k<=(aQ p).length->e8 p ⟨jV (aQ p) inn s.is k,s.ct⟩ (sy p inn I k) C
 | 0,_=>h
 | k+1,hk=>by
  have ih:=DP hg hs inn h k (by omega);obtain⟨i,hi,he,_⟩:=ug (p:=p) (j:=k) (by omega)
  have e1:(aQ p).getD k 0=(i:Int):=by rw[fj (by omega)];exact he
  have e2:p.names.getD i ⟨[],0,0⟩=p.names[i]:=fj hi;rw[sy,e1,Int.toNat_natCast,e2,Ek (by omega) he];exact qK hg ih (sH inn hs k (by omega)).1.l1 hi _
theorem ED {α:Type} {l:List α} {i:Nat} {d x:α} (hi:i < l.length) (h:l.getD i d=x):l.set i x=l:=by
 rw[fj hi]at h;rw[<- h,List.set_getElem_self]
theorem Tn {p:PgP} (aN:cf p=none) {r:fI} (hr:r∈p.aaw) (dJ:StP) {t:StP} (ht:abr p t) {m:j1} (h:e8 p t m.1 m.2):e8 p (je p dJ t r) (qz p (nG (eN p t.is) (eN p dJ.is) r.cond) r m).1 (qz p (nG (eN p t.is) (eN p dJ.is) r.cond) r m).2:=by
 have hg:=fB aN;obtain⟨i,hi,hn,hw,hd⟩:=Ac aN hr;obtain⟨hk,rW,_⟩:=ad8 aN r hr;obtain⟨i2,hi2,he2,hs2⟩:=po rW
 have dX:r.name=p.names[i].name:=by
  have h1:aaL p r.name=(i2:Int):=he2
  have:i2=i:=by omega
  subst this
  have:p.names[i2].name=r.name:=by simpa using hs2
  exact this.symm
 have fo:=ht.l1;have fq:=ht.l2;have rU:=ht.lo i;have tK:=ht.hi i hi;have QA:=h.is i hi;have yN:=h.ct i hi;have jK:=hg.count _ (List.getElem_mem hi);unfold qz je;simp only[hn,Int.toNat_natCast,hd];generalize nG (eN p t.is) (eN p dJ.is) r.cond=yes;obtain⟨kd,nm,cd⟩:=r;dsimp only at dX hk hw hn ⊢;subst dX;clear rW he2 hs2 hr hn;obtain⟨is,ct⟩:=t;obtain⟨I,C⟩:=m;dsimp only at QA yN fo fq rU tK h ⊢
 have cO:i < is.length:=by omega
 have hi2:i < ct.length:=by omega
 generalize hv:ct.getD i 0=v at *;have HR:ct.set i v=ct:=ED hi2 hv
 have put:∀ n,acU (cA (b6 C (bs p.names[i].name) (.int .i64 n)) (bs p.names[i].name))=n:=fun n=>by rw[my,if_pos rfl];rfl
 have fin:∀ (c:Int) (C1:List (Value×Value)),e8 p ⟨is,ct.set i c⟩ I C1->acU (cA C1 (bs p.names[i].name))=c->∀ b,(c == p.names[i].count)=b->e8 p ⟨is.set i b,ct.set i c⟩ (b6 I (bs p.names[i].name) (.bool (acU (cA C1 (bs p.names[i].name)) == p.names[i].count))) C1:=fun c C1 h1 h2 b h3=>by
  rw[h2,h3];exact qK (s:=⟨is,ct.set i c⟩) hg h1 fo hi b
 have wg:kd=1\/kd=2\/kd=3\/kd=4\/kd=5\/kd=6:=by omega
 have run:(kd=4\/kd=5)->∀ C1,C1=(if yes then (if acU (cA C (bs p.names[i].name)) < p.names[i].count then b6 C (bs p.names[i].name) (.int .i64 (acU (cA C (bs p.names[i].name))+1)) else C) else C)->e8 p (gP ⟨is,ct⟩ i p.names[i].count yes) (b6 I (bs p.names[i].name) (.bool (acU (cA C1 (bs p.names[i].name)) == p.names[i].count))) C1:=fun hkd C1 p6=>by
  have abN:1<=p.names[i].count:=by
   have:p.names[i].kind=3\/p.names[i].kind=4:=by
    rcases hkd with rfl | rfl
    .exact .inl hw
    .exact .inr hw
   omega
  rw[yN]at p6;unfold gP;simp only[hv]
  cases yes with
  | true=>
   simp only[if_true]at p6 ⊢;by_cases ay:v < p.names[i].count
   .rw[if_pos ay]at p6
    have e:(if v+1 < p.names[i].count then v+1 else p.names[i].count)=v+1:=by split<;>omega
    rw[e,p6];refine fin (v+1) _ (zZ hg h fq hi _) (put _) _ ?_;exact Bool.eq_iff_iff.2 (by simp;omega)
   .rw[if_neg ay]at p6
    have e:(if v+1 < p.names[i].count then v+1 else p.names[i].count)=v:=by split<;>omega
    rw[e,p6];refine fin v C (by rw[HR];exact h) yN _ ?_;exact Bool.eq_iff_iff.2 (by simp;omega)
  | false=>
   simp only[Bool.false_eq_true,if_false]at p6 ⊢;rw[p6];refine fin v C (by rw[HR];exact h) yN _ ?_;exact Bool.eq_iff_iff.2 (by simp;omega)
 rcases wg with rfl | rfl | rfl | rfl | rfl | rfl
 .exact qK hg h fo hi yes
 .cases yes with
  | true=>
   show e8 p ⟨is.set i (is.getD i false || true),ct⟩ (b6 I _ (.bool true)) C;rw[Bool.or_true];exact qK hg h fo hi true
  | false=>
   show e8 p ⟨is.set i (is.getD i false || false),ct⟩ I C;rw[Bool.or_false,ED cO rfl];exact h
 .cases yes with
  | true=>
   show e8 p ⟨is.set i (is.getD i false && !true),ct⟩ (b6 I _ (.bool false)) C;rw[Bool.not_true,Bool.and_false];exact qK hg h fo hi false
  | false=>
   show e8 p ⟨is.set i (is.getD i false && !false),ct⟩ I C;rw[Bool.not_false,Bool.and_true,ED cO rfl];exact h
 .cases yes with
  | true=>exact run (.inl rfl) _ rfl
  | false=>
   show e8 p (oh (gP ⟨is,ct⟩ i p.names[i].count false) i) (b6 I _ (.bool (acU (cA (b6 C _ (.int .i64 0)) _) == p.names[i].count))) (b6 C _ (.int .i64 0))
   have abN:1<=p.names[i].count:=by
    have:p.names[i].kind=3:=hw;omega
   have e:oh (gP ⟨is,ct⟩ i p.names[i].count false) i=⟨is.set i false,ct.set i 0⟩:=by
    simp[oh,gP,List.set_set]
   rw[e];refine fin 0 _ (zZ hg h fq hi _) (put _) false ?_;simp;omega
 .cases yes with
  | true=>exact run (.inr rfl) _ rfl
  | false=>exact run (.inr rfl) _ rfl
 .cases yes with
  | true=>exact zZ (s:=⟨is.set i false,ct⟩) hg (qK hg h fo hi false) fq hi 0
  | false=>exact h
theorem DQ {p:PgP} (aN:cf p=none) (dJ:StP):∀ (l:List fI) {t:StP} {m:j1},(∀ r∈l,r∈p.aaw)->abr p t->e8 p t m.1 m.2->e8 p (l.foldl (je p dJ) t) (qA p dJ t l m).1 (qA p dJ t l m).2
 | [],t,m,_,_,h=>h
 | r :: l,t,m,hl,ht,h=>DQ aN dJ l (fun r hr=>hl r (by simp[hr])) (KO aN (hl r (by simp)) dJ ht).1 (Tn aN (hl r (by simp)) dJ ht h)
theorem Jb {p:PgP} (aN:cf p=none) {s:StP} (hs:abr p s) (inn:List Bool) {m:j1} (h:e8 p s m.1 m.2):e8 p (jF p s inn) (sA p s inn m).1 (sA p s inn m).2:=
 DQ aN s p.aaw (fun r hr=>hr) (sH inn hs _ (Nat.le_refl _)).1 (DP (fB aN) hs inn h _ (Nat.le_refl _))
theorem Mc (y:Int):(adF .and .i64 y 1 == 1)=decide (y % 2=1):=by
 unfold adF;dsimp only
 have h2:(BitVec.ofInt 64 (1:Int)).toNat=1:=by decide
 have h3:(BitVec.ofInt IntKind.i64.bits y &&& BitVec.ofInt IntKind.i64.bits (1:Int)).toNat=(y % 2).toNat:=by
  show (BitVec.ofInt 64 y &&& BitVec.ofInt 64 (1:Int)).toNat=(y % 2).toNat
  rw[BitVec.toNat_and,h2,Nat.and_one_is_mod,BitVec.toNat_ofInt];omega
 rw[h3]
 have:y % 2=0\/y % 2=1:=by omega
 rcases this with h | h<;>rw[h]<;>decide
theorem Ih (x:Int) {k:Nat} (hk:k<=6):inB x k=decide ((x / 2 ^ k) % 2=1):=by
 unfold inB
 have e:min k IntKind.i64.bits=k:=by
  have:IntKind.i64.bits=64:=rfl;rw[this];omega
 rw[e,Int.fdiv_eq_ediv_of_nonneg _ (by exact Int.le_of_lt (Int.pow_pos (by decide))),Mc]
theorem He (x:Int) (k:Nat):x / 2 ^ (k+1)=x / 2 ^ k / 2:=by
 rw[Int.pow_succ,Int.ediv_ediv_of_nonneg (by exact Int.le_of_lt (Int.pow_pos (by decide)))]
def ae2 (p:PgP) (x:Int×j1) (nm:eM):Int×j1:=if b8 p nm=0 then x else
 (x.1 / b8 p nm,if 3<=nm.kind then (b6 x.2.1 (bs nm.name) (.bool (decide (x.1 % b8 p nm=nm.count))),b6 x.2.2 (bs nm.name) (.int .i64 (x.1 % b8 p nm))) else (b6 x.2.1 (bs nm.name) (.bool (decide (x.1 % b8 p nm=1))),x.2.2))
def ab4 (p:PgP) (n:Int) (k:Nat):Int×j1:=(p.names.take k).foldl (ae2 p) (n,([],[]))
theorem Ja (p:PgP) (n:Int):ab4 p n 0=(n,([],[])):=rfl
theorem DR {p:PgP} (n:Int) {k:Nat} (h:k < p.names.length):ab4 p n (k+1)=ae2 p (ab4 p n k) p.names[k]:=by
 unfold ab4;rw[List.take_succ_eq_append_getElem h,List.foldl_append];rfl
theorem pw {p:PgP} (hg:abT p) {i:Nat} (hi:i < p.names.length):0<=b8 p p.names[i]:=by
 have h5:=hg.count _ (List.getElem_mem hi);unfold b8;split
 .rcases h5 with h5 | h5<;>omega
 .split
  .omega
  .split<;>omega
theorem zB {p:PgP} (aN:cf p=none) (n:Int) (h0:0<=n):∀ k,k<=p.names.length->∃ s:StP,s.is.length=p.names.length/\s.ct.length=p.names.length/\e8 p s (ab4 p n k).2.1 (ab4 p n k).2.2/\stN (abQ p k) (ab4 p n k).1 s=stP p n/\0<=(ab4 p n k).1/\(ab4 p n k).1<=n
 | 0,_=>⟨fP p,by simp[fP],by simp[fP],Wl,rfl,h0,Int.le_refl _⟩
 | k+1,hk=>by
  have hg:=fB aN
  have eA:k < p.names.length:=by omega
  obtain⟨s,l1,l2,hr,he,b0,b1⟩:=zB aN n h0 k (by omega);rw[DR n eA];rw[Xs hg _ s eA]at he;have tV:=pw hg eA;generalize ab4 p n k=x at *;obtain⟨m,I,C⟩:=x;dsimp only at hr he b0 b1;unfold ae2;by_cases hz:b8 p p.names[k]=0
  .rw[if_pos hz]at he;simp only[if_pos hz];exact⟨s,l1,l2,hr,he,b0,b1⟩
  .rw[if_neg hz]at he;simp only[if_neg hz];have d0:0<=m / b8 p p.names[k]:=Int.ediv_nonneg b0 tV;have d1:m / b8 p p.names[k]<=m:=Int.ediv_le_self _ b0;by_cases k3:3<=p.names[k].kind
   .simp only[if_pos k3]
    have Zj:b8 p p.names[k]=p.names[k].count+1:=by unfold b8;rw[if_pos k3]
    have h1:=zZ hg hr l2 eA (m % b8 p p.names[k]);have h2:=qK hg h1 l1 eA (decide (m % b8 p p.names[k]=p.names[k].count))
    have e:acp ⟨k,b8 p p.names[k],decide (3<=p.names[k].kind)⟩ (m % b8 p p.names[k]) s=⟨s.is.set k (decide (m % b8 p p.names[k]=p.names[k].count)),s.ct.set k (m % b8 p p.names[k])⟩:=by
     unfold acp
     have e2:b8 p p.names[k] - 1=p.names[k].count:=by omega
     simp only[decide_eq_true k3,if_true,e2]
    rw[e]at he;exact⟨_,by simp[l1],by simp[l2],h2,he,d0,by omega⟩
   .simp only[if_neg k3];have h2:=qK hg hr l1 eA (decide (m % b8 p p.names[k]=1))
    have e:acp ⟨k,b8 p p.names[k],decide (3<=p.names[k].kind)⟩ (m % b8 p p.names[k]) s=⟨s.is.set k (decide (m % b8 p p.names[k]=1)),s.ct⟩:=by
     unfold acp;simp only[decide_eq_false k3,Bool.false_eq_true,if_false]
    rw[e]at he;exact⟨⟨s.is.set k (decide (m % b8 p p.names[k]=1)),s.ct⟩,by simp[l1],l2,h2,he,d0,by omega⟩
theorem I9 {p:PgP} (aN:cf p=none) (n:Int) (h0:0<=n):e8 p (stP p n) (ab4 p n p.names.length).2.1 (ab4 p n p.names.length).2.2:=by
 obtain⟨s,_,_,hr,he,_⟩:=zB aN n h0 _ (Nat.le_refl _);rw[KT]at he;have e:s=stP p n:=he;rw[<- e];exact hr
theorem EJ {p:PgP} (aN:cf p=none) {s:StP} (hs:abr p s) (k:Nat):0<=nrP (abQ p k) s/\nrP (abQ p k) s < bq (bh p):=by
 have hg:=fB aN;have h:=w6 (l:=abQ p k) (s:=s) fun _ hx=>Bs hs (nu hg (KU hx))
 have e:bq (bh p)=bq ((bh p).take (eb p k).length) * bq (abQ p k):=by
  unfold abQ;rw[<- xk,List.take_append_drop]
 have h1:0 < bq ((bh p).take (eb p k).length):=px fun x hx=>(nu hg (List.mem_of_mem_take hx)).m2;have h2:0 < bq (abQ p k):=px fun x hx=>(nu hg (KU hx)).m2;have h3:=Int.mul_le_mul_of_nonneg_right (show (1:Int)<=bq ((bh p).take (eb p k).length) by omega) (Int.le_of_lt h2);rw[Int.one_mul]at h3;exact⟨h.1,by omega⟩
theorem YD {p:PgP} (aN:cf p=none) {s:StP} (hs:abr p s) {i:Nat} (hi:i < p.names.length) (hP:bq (bh p)<=4096) (hz:b8 p p.names[i]≠0):0<=nrP (abQ p (i+1)) s * b8 p p.names[i]/\nrP (abQ p (i+1)) s * b8 p p.names[i]<=4096/\nrP (abQ p i) s=nrP (abQ p (i+1)) s * b8 p p.names[i]+(if 3<=p.names[i].kind then s.ct.getD i 0 else if s.is.getD i false then 1 else 0):=by
 have hg:=fB aN;have h1:=KV hg s hi;rw[if_neg hz,Int.mul_comm]at h1;have h2:=EJ aN hs i;have h3:=EJ aN hs (i+1);have h4:=Int.mul_nonneg h3.1 (pw hg hi)
 have h5:0<=(if 3<=p.names[i].kind then s.ct.getD i 0 else if s.is.getD i false then 1 else 0):=by
  split
  .exact hs.lo i
  .split<;>omega
 generalize (if 3<=p.names[i].kind then s.ct.getD i 0 else if s.is.getD i false then 1 else 0)=d at *;exact⟨h4,by omega,by omega⟩
def w9 (R:List Nat) (q off n:Nat):AV:=if R.contains q then .dead else .own q off n
def w8 (R:List Nat) (q e j:Nat):AV:=if R.contains q then .dead else .ref q e j
theorem agu {Mv X:Nat->Prop} {G:ao} {N:Fr} {σ:St} (R:List Nat) (hm:∀ r,R.contains r=true->Mv r) (i k:Nat) {x:AV} {d:D} (hx:σ.env i=some x) (hd:dU (trH R.contains (dD R) (abk R) σ.H) k (x.tr (dD R) (abk R))=some d):aB Mv X G N σ ⟨eS (trE (w9 R) (w8 R) σ.env) i (.d d),trH (ea R) (w9 R) (w8 R) σ.H⟩:=fun w μ a hi=>by
 have hp:=hi.aY.part R
 have h':=hi.tr (keep:=ea R) (o:=w9 R) (f:=w8 R) (fun u r off n h=>by
   unfold w9;split
   .exact .dead u
   .rename_i hk;exact h.uK (by simpa[ea]using hk)) (fun u r e j h=>by
   unfold w8;split
   .exact .dead u
   .rename_i hk;exact h.uO (by simpa[ea]using hk))
 obtain⟨u,hu,hr⟩:=hi.env.slot i x hx;have bC:RD w (XX X (bL (ea R) μ)) u d:=xS hp.1 k hd (hp.2 hr);refine⟨bL (ea R) μ,⟨h'.aY,⟨h'.env.defers,h'.env.size,fun q y hy=>?_⟩,h'.gq⟩,rh fun r _ _ h=>hm r (by simpa[ea]using h)⟩;by_cases e:q=i
 .subst e
  have e2:some (AV.d d)=some y:=by simpa[eS]using hy
  obtain rfl:=Option.some.inj e2;exact⟨u,hu,.d bC⟩
 .exact h'.env.slot q y (by simpa[eS,e]using hy)
def pQ (p:PgP) (st df:Int) (nx:List (List D)):List D:=[bK p.names,.sl none (p.aaw.map cM),.v (.int .i64 st),.v (.int .i64 df),.sl none nx]
def dMw (p:PgP) (st df:Int) (nx:List (List D)):D:=.ip (pQ p st df nx)
def n5 (p:PgP) (st df:Int) (nx:List (List D)):List (Nat×Row):=[(12,.box 50 [.d (bK p.names),.d (.sl none (p.aaw.map cM)),.d (.v (.int .i64 st)),.d (.v (.int .i64 df)),.own 800 0 nx.length]),(800,.sl 46 1 nx)]
def pU (m:j1):D:=.agg [.dm false m.1,.dm false m.2]
theorem Yz (G:ao) (p:PgP) (aN:cf p=none) (st df:Int) (nx:List (List D)) (x:Int) (h0:0<=x) (h1:x<=2^40) (QU:(aQ p).length<=6):MC prog G [12,800] 23 [.ref 12 0 0,.d (ab x)] (ak (n5 p st df nx)) (.d (dN (aaY x (aQ p).length))) (ak (n5 p st df nx)):=by
 have dX:=(fB aN).names;have hkd:=xK G p (by omega) 1;have iS:fN p.names 1 p.names.length=aQ p:=rfl;rw[iS]at hkd;simp only[cE,dM,bK]at hkd;simp only[n5,bK,ab,dN]
 have jl:((aQ p).map fun n=>[D.v (.int .i64 n)]).length=(aQ p).length:=by simp
 generalize (aQ p).length=m at *;generalize (aQ p).map (fun n=>[D.v (.int .i64 n)])=IN at *;generalize p.names.map aW=NN at *;generalize p.aaw.map cM=RR at *;refine MC.aC (aay _) func23 rfl rfl (rs:=[.tmp 4]) results23 (by simp[ntmps23]) rfl fun X=>?_;simp only[ntmps23];have fw:=@ab.eq_1;refine rgq fw [0,1] [12,800] ?_;refine rgq fw [0,1,5] [12,800] ?_;refine ae fun K1 au=>?_;refine aR fw hkd [1,5,11,12] [12,800] ?_;refine bZ (S:=Nat×Int) (fun s=>s.1<=m/\0<=s.2/\s.2<=2^40/\s.2=x / 2 ^ s.1) (fun s=>⟨lst [(1,int s.2),(5,.own 901 0 s.1),(11,int m),(12,int s.1)],ak [(12,.box 50 [.d (.sl none NN),.d (.sl none RR),.d (.v (.int .i64 st)),.d (.v (.int .i64 df)),.own 800 0 nx.length]),(800,.sl 46 1 nx),(901,.sl 4 1 ((aaY x s.1).map fun b=>[.v (.bool b)]))]⟩) (fun s=>m - s.1) (0,x) ?_ ⟨by simp,h0,h1,by simp⟩ ?_
 .refine (aB.iH 5 901 4 1 rfl rfl).trans ?_;refine aX (Aq fw (Aq @aaY.eq_1 (Aq @aaY.eq_2 @jl)))
 .rintro⟨k,v⟩ ⟨rR,ff,fM,hv⟩;dsimp only at rR ff fM hv ⊢
  have hBl:((aaY x k).map fun b=>[D.v (.bool b)]).length=k:=by simp[nW]
  have mT:aaY x (k+1)=aaY x k ++ [decide (v % 2=1)]:=by rw[hv,<- Ih x (by omega)];rfl
  generalize hbk:aaY x k=B at hBl mT ⊢;refine rgq fw [1,5,11,12,13] [12,800,901] ?_;refine ae fun K2 aa=>?_;refine dw (b:=k < m) (by simp[D.le,D.le.go,aaA,ab]) (fun hc=>?_) (fun hc=>?_)
  .have gY:v.tmod 2=v % 2:=Int.tmod_eq_emod_of_nonneg ff
   have hdiv:IntKind.i64.wrap (v.tdiv 2)=v / 2:=by
    rw[Int.tdiv_eq_ediv_of_nonneg ff];exact sW (by omega)
   refine ah (aa _ ?_);refine ae fun K3 aH=>?_;refine aU ?_;refine rg [1,5,11,12] [12,800,901] (cK rfl) fun K' af=>?_;(repeat (refine sxn fun K2 aa=>?_;simp[ab,hBl,List.take_of_length_le,gY];(repeat (refine⟨by omega,?_⟩));refine aa _ ?_;clear aa K2));refine sxz (af _ (AW.st (by simp[ab,hBl,List.take_of_length_le,gY];rfl) ?_));clear af K';have qf:=(Aq fw @hdiv);refine cT aH [1,5,11,12] [12,800,901] ?_;refine bO fw ?_;(try simp only[aM,aP]);refine aV.mk (k+1,v / 2) ⟨by dsimp only;omega,by dsimp only;omega,by dsimp only;omega,by dsimp only;rw[He,<- hv]⟩ (by dsimp only;omega) ?_;rw[mT];refine aX fw
  .obtain rfl:k=m:=by omega
   refine bG (au _ ?_);rw[hbk];refine AW.imp (aB.freeze 901 (by decide)) ?_;refine AW.st (by simp[ab,hBl,List.take_of_length_le];rfl) ?_;refine rgq fw [4] [12,800] ?_;exact aG fw
theorem YE (G:ao) (hM:acb G) (p:PgP) (aN:cf p=none) (hk:∀ r∈p.aaw,acZ r) (st df:Int) (nx:List (List D)) (s:StP) (hs:abr p s) (hP:bq (bh p)<=4096) (I C:List (Value×Value)) (hr:e8 p s I C):MC prog G [12,800] 69 [.ref 12 0 0,.d (pU (I,C))] (ak (n5 p st df nx)) (.d (ab (nrP (bh p) s))) (ak (n5 p st df nx)):=by
 have hg:=fB aN;have dX:=hg.names;have lf:=xo G hM p aN hk;simp only[cE,dM,bK,eV]at lf;have okI:=hr.okI;have okC:=hr.okC;have eg:=acV okI;simp at eg;have bg:=eq_true eg;have hk2:=acV okC;simp at hk2;have hk3:=eq_true hk2;have ll:=okI.once;have nd2:=okC.once
 have hIb:∀ i (hi:i < p.names.length),(abW (.string (bs p.names[i].name)) (cj I)=none/\s.is.getD i false=false)\/abW (.string (bs p.names[i].name)) (cj I)=some (.v (.bool (s.is.getD i false))):=fun i hi=>by
  rw[oF,<- hr.is i hi]
  cases h:cA I (bs p.names[i].name) with
  | none=>exact .inl ⟨rfl,rfl⟩
  | some v=>obtain⟨b,rfl⟩:=hr.bI _ v h;exact .inr rfl
 have nJ:∀ i (hi:i < p.names.length),(abW (.string (bs p.names[i].name)) (cj C)=none/\s.ct.getD i 0=0)\/abW (.string (bs p.names[i].name)) (cj C)=some (.v (.int .i64 (s.ct.getD i 0))):=fun i hi=>by
  rw[oF,<- hr.ct i hi]
  cases h:cA C (bs p.names[i].name) with
  | none=>exact .inl ⟨rfl,rfl⟩
  | some v=>obtain⟨b,rfl⟩:=hr.iC _ v h;exact .inr rfl
 have CX:=fun k=>EJ aN hs k;have HK:=fun i (hi:i < p.names.length)=>KV hg s hi;have fW:=fun i (hi:i < p.names.length)=>YD aN hs hi hP
 have hRl:(dk p).length=p.names.length:=by simp[dk]
 have mX:∀ i (hi:i < p.names.length),(dk p)[i]? = some (b8 p p.names[i]):=fun i hi=>by simp[dk,hi]
 have hz0:nrP (abQ p 0) s=nrP (bh p) s:=by rw[Xc]
 have Ia:nrP (abQ p p.names.length) s=0:=by rw[KT];rfl
 rw[<- hz0];clear hz0;generalize dk p=RP at *;obtain⟨V,hV⟩:∃ V:Nat->Int,∀ k,nrP (abQ p k) s=V k:=⟨_,fun _=>rfl⟩;simp only[hV]at CX HK fW Ia ⊢;clear hV hr okI okC eg hk2;simp only[n5,bK,ab,pU]
 have mi:(p.names.map aW).length=p.names.length:=by simp
 have j9:∀ i (h:i < p.names.length),(p.names.map aW)[i]? = some [.v (.string (bs p.names[i].name)),.v (.int .i64 p.names[i].kind),.v (.int .i64 p.names[i].count)]:=fun i h=>by simp[h,aW,dS]
 generalize p.names.map aW=NN at *;generalize p.aaw.map cM=RR at *;refine MC.aC (aay _) func69 rfl rfl (rs:=[.tmp 4]) results69 (by simp[ntmps69]) rfl fun X=>?_;simp only[ntmps69];have fw:=@ab.eq_1;refine rgq fw [0,3] [12,800,3] ?_;refine aa1 fw 3 ?_;refine rgq fw [0,3,5] [12,800] ?_;refine aR fw lf [0,3,5,6] [12,800] ?_;refine ae fun K1 au=>?_;refine rgq fw [0,3,5,6,7] [12,800] ?_;refine bZ (S:=Nat) (fun k=>k<=p.names.length) (fun k=>⟨lst [(0,.ref 12 0 0),(3,.d (.ip [.dm false I,.dm false C])),(5,int (V k)),(6,.d (.sl none (RP.map fun x=>[.v (.int .i64 x)]))),(7,int ((k:Int) - 1))],ak [(12,.box 50 [.d (.sl none NN),.d (.sl none RR),.d (.v (.int .i64 st)),.d (.v (.int .i64 df)),.own 800 0 nx.length]),(800,.sl 46 1 nx)]⟩) (fun k=>k) p.names.length ?_ (Nat.le_refl _) ?_
 .rw[Ia];refine aX (Aq fw @hRl)
 .intro k hk;refine ae fun K2 aa=>?_;have rX:=CX k
  cases k with
  | zero=>
   refine rgq fw [0,3,5,6,7,18] [12,800] ?_;refine ag (by simp) ?_;refine bG (au _ ?_);refine rgq fw [4] [12,800] ?_;exact aG fw
  | succ i=>
   have hi:i < p.names.length:=by omega
   have ei:((i+1:Nat):Int) - 1=(i:Int):=by omega
   rw[ei];refine rgq fw [0,3,5,6,7,18] [12,800] ?_;refine aax (by simp) ?_;refine ah (aa _ ?_);refine ae fun K3 aH=>?_;refine aU ?_
   have aaZ:i < NN.length:=by omega
   have rq:NN[i]=[.v (.string (bs p.names[i].name)),.v (.int .i64 p.names[i].kind),.v (.int .i64 p.names[i].count)]:=by
    have:=j9 i hi;rw[List.getElem?_eq_getElem aaZ]at this;exact Option.some.inj this
   have kg:i < RP.length:=by omega
   have gx:RP[i]=b8 p p.names[i]:=by
    have:=mX i hi;rw[List.getElem?_eq_getElem kg]at this;exact Option.some.inj this
   have hz:=HK i hi;have hn:=fW i hi;have hIi:=hIb i hi;have BP:=nJ i hi;generalize bs p.names[i].name=nm at rq hIi BP;generalize p.names[i].kind=kd at rq hz hn;generalize p.names[i].count=ct at rq;generalize b8 p p.names[i]=K at gx hz hn;generalize s.is.getD i false=b at hIi hz hn;generalize s.ct.getD i 0=c at BP hz hn;generalize V (i+1)=v at hz hn rX ⊢;have jy:=CX i;generalize tD:V i=vi at hz hn jy;have qf:=(Aq fw (Aq @aaZ @rq));refine al [0,3,5,6,7,8] [12,800,8] ?_;refine aa1 fw 8 ?_;refine ae fun K4 hK4=>?_;by_cases kD:K=0
   .rw[if_pos kD]at hz;have qf:=(Aq fw (Aq @kg (Aq @gx @kD)));refine al [0,3,5,6,7,8,33] [12,800] ?_;refine aax (by simp[kD]) ?_;refine bG (aH _ ?_);refine bO fw ?_;(try simp only[aM,aP]);refine aV.mk i (by omega) (by omega) ?_;rw[tD,hz];refine aX fw
   .clear hz;obtain⟨n1,n2,n3⟩:=hn kD;have qf:=(Aq fw (Aq @kg (Aq @gx @kD)));refine al [0,3,5,6,7,8,33] [12,800] ?_;refine ag (by simp[kD]) ?_;refine ah (hK4 _ ?_);have qf:=(Aq fw (Aq @kg @gx));refine al [0,3,5,6,7,8] [12,800] ?_;generalize v * K=w at n1 n2 n3 ⊢;by_cases k3:kd >= 3
    .rw[if_pos k3]at n3;have qf:=(Aq fw @k3);refine al [0,3,5,6,7,8,42] [12,800] ?_;refine aax (by simp<;>omega) ?_
     rcases BP with⟨h2,rfl⟩ | h2
     .have qf:=(Aq fw (Aq @h2 (Aq @bg (Aq @hk3 (Aq @ll (Aq @nd2 (Aq @aa7.eq_1 (Aq @bQ.eq_1 @bQ.eq_2))))))));refine cT aH [0,3,5,6,7] [12,800] ?_;refine bO fw ?_;(try simp only[aM,aP]);refine aV.mk i (by omega) (by omega) ?_;rw[tD,n3];refine aX fw
     .have qf:=(Aq fw (Aq @h2 (Aq @bg (Aq @hk3 (Aq @ll (Aq @nd2 (Aq @aa7.eq_1 (Aq @bQ.eq_1 @bQ.eq_2))))))));refine cT aH [0,3,5,6,7] [12,800] ?_;refine bO fw ?_;(try simp only[aM,aP]);refine aV.mk i (by omega) (by omega) ?_;rw[tD,n3];refine aX fw
    .rw[if_neg (by omega)]at n3;have qf:=(Aq fw @k3);refine al [0,3,5,6,7,8,42] [12,800] ?_;refine ag (by simp<;>omega) ?_;have O9:∃ ob,abW (.string nm) (cj I)=ob/\((ob=none/\b=false)\/ob=some (.v (.bool b))):=⟨_,rfl,hIi⟩;clear hIi;obtain⟨ob,h2,hIi⟩:=O9
     cases b with
     | true=>
      obtain rfl:ob=some (.v (.bool true)):=hIi.elim (fun h=>by cases h.2) id;have qf:=(Aq fw (Aq @h2 (Aq @bg (Aq @hk3 (Aq @ll (Aq @nd2 (Aq @aa7.eq_1 (Aq @bQ.eq_1 @bQ.eq_2))))))));refine al [0,3,5,6,7,54] [12,800] ?_;refine aax rfl ?_;rw[if_pos rfl]at n3;refine reK fw aH [0,3,5,6,7] [12,800] ?_;refine bO fw ?_;(try simp only[aM,aP]);refine aV.mk i (by omega) (by omega) ?_;rw[tD,n3];refine aX fw
     | false=>
      rw[if_neg (by simp),Int.add_zero]at n3
      rcases hIi with⟨rfl,_⟩ | rfl
      .have qf:=(Aq fw (Aq @h2 (Aq @bg (Aq @hk3 (Aq @ll (Aq @nd2 (Aq @aa7.eq_1 (Aq @bQ.eq_1 @bQ.eq_2))))))));refine al [0,3,5,6,7,54] [12,800] ?_;refine ag rfl ?_;refine ah ?_;refine aH _ (AW.norm [0,3,5,6,7] [12,800] (cK rfl) (AW.st (by simp[ab];rfl) ?_));refine bO fw ?_;(try simp only[aM,aP]);refine aV.mk i (by omega) (by omega) ?_;rw[tD,n3];refine aX fw
      .have qf:=(Aq fw (Aq @h2 (Aq @bg (Aq @hk3 (Aq @ll (Aq @nd2 (Aq @aa7.eq_1 (Aq @bQ.eq_1 @bQ.eq_2))))))));refine al [0,3,5,6,7,54] [12,800] ?_;refine ag rfl ?_;refine ah ?_;refine aH _ (AW.norm [0,3,5,6,7] [12,800] (cK rfl) (AW.st (by simp[ab];rfl) ?_));refine bO fw ?_;(try simp only[aM,aP]);refine aV.mk i (by omega) (by omega) ?_;rw[tD,n3];refine aX fw
theorem YM (G:ao) (hM:acb G) (p:PgP) (aN:cf p=none) (hk:∀ r∈p.aaw,acZ r) (st df:Int) (nx:List (List D)) (n:Int) (h0:0<=n) (h1:n<=2^40):MC prog G [12,800] 22 [.ref 12 0 0,.d (ab n)] (ak (n5 p st df nx)) (.d (pU (ab4 p n p.names.length).2)) (ak (n5 p st df nx)):=by
 have hg:=fB aN;have dX:=hg.names;have cZ:=Ew G;have lf:=xo G hM p aN hk;simp only[cE,dM,bK,eV]at lf;have aF:=fun k (h:k<=p.names.length)=>zB aN n h0 k h
 have hRl:(dk p).length=p.names.length:=by simp[dk]
 have mX:∀ i (hi:i < p.names.length),(dk p)[i]? = some (b8 p p.names[i]):=fun i hi=>by simp[dk,hi]
 have vD:=fun i (hi:i < p.names.length)=>pw hg hi;have cm:=fun k (h:k < p.names.length)=>DR n h;have eJ:=Ja p n;generalize dk p=RP at *;generalize ab4 p n=T at *;simp only[n5,bK,ab,pU]
 have mi:(p.names.map aW).length=p.names.length:=by simp
 have j9:∀ i (h:i < p.names.length),(p.names.map aW)[i]? = some [.v (.string (bs p.names[i].name)),.v (.int .i64 p.names[i].kind),.v (.int .i64 p.names[i].count)]:=fun i h=>by simp[h,aW,dS]
 generalize p.names.map aW=NN at *;generalize p.aaw.map cM=RR at *;refine MC.aC (aay _) func22 rfl rfl (rs:=[.cell 4 62]) results22 (by simp[ntmps22]) rfl fun X=>?_;simp only[ntmps22];have fw:=@ab.eq_1;refine rgq fw [0,1,4] [12,800,4] ?_;refine rgm fw cZ [0,1,4,5] [12,800,4,5,601,602] ?_;refine ae fun K1 au=>?_;refine aR fw lf [0,1,4,5,14,15,16] [12,800,4,5,601,602] ?_;refine bZ (S:=Nat) (fun k=>k<=p.names.length) (fun k=>⟨lst [(0,.ref 12 0 0),(1,int (T k).1),(4,.ref 4 0 0),(5,.ref 5 0 0),(14,.d (.sl none (RP.map fun x=>[.v (.int .i64 x)]))),(15,int RP.length),(16,int k)],ak [(12,.box 50 [.d (.sl none NN),.d (.sl none RR),.d (.v (.int .i64 st)),.d (.v (.int .i64 df)),.own 800 0 nx.length]),(800,.sl 46 1 nx),(4,.box 62 [.d (.v (.map none)),.d (.v (.map none))]),(5,.box 62 [.mp 601,.mp 602]),(601,.mp 59 (cj (T k).2.1)),(602,.mp 60 (cj (T k).2.2))]⟩) (fun k=>p.names.length - k) 0 ?_ (by omega) ?_
 .rw[eJ];refine aB.dK (cK rfl) (by simp[ab,cj]) (by simp[ab,cj])
 .intro k iA;obtain⟨_,_,_,hrel,_,eF,cY⟩:=aF k iA;have dt:=cm k
  have ry:k=p.names.length->T p.names.length=T k:=fun e=>by rw[e]
  generalize T k=tk at hrel eF cY dt ry ⊢;obtain⟨m,I,C⟩:=tk;dsimp only at hrel eF cY ⊢;refine rgq fw [0,1,4,5,14,15,16,17] [12,800,4,5,601,602] ?_;refine ae fun K2 aa=>?_;by_cases ay:k < p.names.length
  .have kg:k < RP.length:=by omega
   refine aax (by simp[kg]) ?_;refine ah (aa _ ?_);refine ae fun K3 aH=>?_;refine aU ?_;have dt:=dt ay
   have aaZ:k < NN.length:=by omega
   have jI:NN[k]=[.v (.string (bs p.names[k].name)),.v (.int .i64 p.names[k].kind),.v (.int .i64 p.names[k].count)]:=by
    have:=j9 k ay;rw[List.getElem?_eq_getElem aaZ]at this;exact Option.some.inj this
   have fb:RP[k]=b8 p p.names[k]:=by
    have:=mX k ay;rw[List.getElem?_eq_getElem kg]at this;exact Option.some.inj this
   have kD:=vD k ay;unfold ae2 at dt;generalize bs p.names[k].name=nm at jI dt;generalize p.names[k].kind=kd at jI dt;generalize p.names[k].count=ct at jI dt;generalize b8 p p.names[k]=K at fb kD dt;have eg:=acV hrel.okI;simp at eg;have bg:=eq_true eg;have hk2:=acV hrel.okC;simp at hk2;have hk3:=eq_true hk2;have qf:=(Aq fw (Aq @kg @fb));refine al [0,1,4,5,6,7,14,15,16] [12,800,4,5,601,602] ?_;refine ae fun K4 hK4=>?_;by_cases gv:K=0
   .rw[if_pos gv]at dt;have qf:=(Aq fw @gv);refine al [0,1,4,5,6,7,14,15,16,22] [12,800,4,5,601,602] ?_;refine aax (by simp[gv]) ?_;refine bG (aH _ ?_);refine bO fw ?_;(try simp only[aM,aP]);refine aV.mk (k+1) (by omega) (by omega) ?_;rw[dt];refine aX fw
   .rw[if_neg gv]at dt;dsimp only at dt;have gY:m.tmod K=m % K:=Int.tmod_eq_emod_of_nonneg eF;have hd0:0<=m / K:=Int.ediv_nonneg eF kD;have iO:m / K<=m:=Int.ediv_le_self _ eF
    have hdiv:IntKind.i64.wrap (m.tdiv K)=m / K:=by
     rw[Int.tdiv_eq_ediv_of_nonneg eF];exact sW (by omega)
    generalize m / K=q at *;generalize m % K=r at *;have qf:=(Aq fw @gv);refine al [0,1,4,5,6,7,14,15,16,22] [12,800,4,5,601,602] ?_;refine ag (by simp[gv]) ?_;refine ah (hK4 _ ?_);have qf:=(Aq fw (Aq @aaZ @jI));refine al [0,1,4,5,7,8,14,15,16] [12,800,4,5,601,602,8] ?_;refine aa1 fw 8 ?_;refine ae fun K5 bN=>?_;by_cases k3:kd >= 3
    .rw[if_pos k3]at dt;have qf:=(Aq fw @k3);refine al [0,1,4,5,7,8,14,15,16,33] [12,800,4,5,601,602] ?_;refine aax (by simp<;>omega) ?_;have qf:=(Aq fw (Aq @gv (Aq @gY (Aq @bg (Aq @hk3 @c8)))));refine fv [0,1,4,5,7,8,14,15,16] [12,800,4,5,601,602] ?_;refine qT (aay _) (by kernel_rfl) (by kernel_rfl) fun K' af=>?_;(repeat (refine cH fun K2 aa=>?_;simp[ab,gv,gY,bg,hk3,c8];(repeat (refine⟨by omega,?_⟩));refine aa _ ?_;clear aa K2));refine jh (af _ ?_);clear af K';refine bN _ (AW.norm [0,1,4,5,7,14,15,16] [12,800,4,5,601,602] (cK rfl) (AW.st (by simp[ab,gv,gY,bg,hk3,c8];rfl) ?_));have qf:=(Aq fw (Aq @gv @hdiv));refine cT aH [0,1,4,5,14,15,16] [12,800,4,5,601,602] ?_;refine bO fw ?_;(try simp only[aM,aP]);refine aV.mk (k+1) (by omega) (by omega) ?_;rw[dt];refine aX fw
    .rw[if_neg k3]at dt;have qf:=(Aq fw @k3);refine al [0,1,4,5,7,8,14,15,16,33] [12,800,4,5,601,602] ?_;refine ag (by simp<;>omega) ?_;refine qT (aay _) (by kernel_rfl) (by kernel_rfl) fun K' af=>?_;(repeat (refine cH fun K2 aa=>?_;simp[ab,gv,gY,bg,hk3,c8];(repeat (refine⟨by omega,?_⟩));refine aa _ ?_;clear aa K2));refine jh (af _ ?_);clear af K';refine bN _ (AW.norm [0,1,4,5,7,14,15,16] [12,800,4,5,601,602] (cK rfl) (AW.st (by simp[ab,gv,gY,bg,hk3,c8];rfl) ?_));have qf:=(Aq fw (Aq @gv @hdiv));refine cT aH [0,1,4,5,14,15,16] [12,800,4,5,601,602] ?_;refine bO fw ?_;(try simp only[aM,aP]);refine aV.mk (k+1) (by omega) (by omega) ?_;rw[dt];refine aX fw
  .obtain rfl:k=p.names.length:=by omega
   have afu:=ry rfl;refine ag (by simp<;>omega) ?_;refine bG (au _ ?_);refine rgq fw [4] [12,800,4,601,602] ?_
   refine AW.imp (agu [4,601,602] (fun r h=>by
    have h':r=4\/r=601\/r=602:=by simpa using h
    rcases h' with rfl | rfl | rfl<;>decide) 4 6 (x:=.ref 4 0 0) (d:=.ip [.dm false I,.dm false C]) (by simp) (by simp[ma])) ?_
   refine AW.st (by simp[w9,w8,ea];rfl) ?_;refine bn ?_;simp[D.le,D.le.go,aaA,ab,afu,ma,D.le_refl,D.aaE]
theorem YA (G:ao) (p:PgP) (aN:cf p=none) (st df:Int) (nx:List (List D)) (x:Int) (h0:0<=x) (h1:x<=2^40) (QU:(aQ p).length<=6):ar prog G 23 [dMw p st df nx,ab x] (dN (aaY x (aQ p).length)):=by
 have dX:=(fB aN).names;have hkd:=xK G p (by omega) 1;have iS:fN p.names 1 p.names.length=aQ p:=rfl;rw[iS]at hkd;simp only[cE,dM,bK]at hkd;simp only[dMw,pQ,bK,ab,dN]
 have jl:((aQ p).map fun n=>[D.v (.int .i64 n)]).length=(aQ p).length:=by simp
 generalize (aQ p).length=m at *;generalize (aQ p).map (fun n=>[D.v (.int .i64 n)])=IN at *;generalize p.names.map aW=NN at *;generalize p.aaw.map cM=RR at *;refine ar.aC (aay _) func23 rfl rfl (rs:=[.tmp 4]) results23 (by simp[ntmps23]) fun X=>?_;simp only[ntmps23,List.map];have fw:=@ab.eq_1;refine rgq fw [0,1] [] ?_;refine rgq fw [0,1,5] [] ?_;refine ae fun K1 au=>?_;refine aR fw hkd [1,5,11,12] [] ?_;refine bZ (S:=Nat×Int) (fun s=>s.1<=m/\0<=s.2/\s.2<=2^40/\s.2=x / 2 ^ s.1) (fun s=>⟨lst [(1,int s.2),(5,.own 901 0 s.1),(11,int m),(12,int s.1)],ak [(901,.sl 4 1 ((aaY x s.1).map fun b=>[.v (.bool b)]))]⟩) (fun s=>m - s.1) (0,x) ?_ ⟨by simp,h0,h1,by simp⟩ ?_
 .refine (aB.iH 5 901 4 1 rfl rfl).trans ?_;refine aX (Aq fw (Aq @aaY.eq_1 (Aq @aaY.eq_2 @jl)))
 .rintro⟨k,v⟩ ⟨rR,ff,fM,hv⟩;dsimp only at rR ff fM hv ⊢
  have hBl:((aaY x k).map fun b=>[D.v (.bool b)]).length=k:=by simp[nW]
  have mT:aaY x (k+1)=aaY x k ++ [decide (v % 2=1)]:=by rw[hv,<- Ih x (by omega)];rfl
  generalize hbk:aaY x k=B at hBl mT ⊢;refine rgq fw [1,5,11,12,13] [901] ?_;refine ae fun K2 aa=>?_;refine dw (b:=k < m) (by simp[D.le,D.le.go,aaA,ab]) (fun hc=>?_) (fun hc=>?_)
  .have gY:v.tmod 2=v % 2:=Int.tmod_eq_emod_of_nonneg ff
   have hdiv:IntKind.i64.wrap (v.tdiv 2)=v / 2:=by
    rw[Int.tdiv_eq_ediv_of_nonneg ff];exact sW (by omega)
   refine ah (aa _ ?_);refine ae fun K3 aH=>?_;refine aU ?_;refine rg [1,5,11,12] [901] (fun _ _=>trivial) fun K' af=>?_;(repeat (refine sxn fun K2 aa=>?_;simp[ab,hBl,List.take_of_length_le,gY];(repeat (refine⟨by omega,?_⟩));refine aa _ ?_;clear aa K2));refine sxz (af _ (AW.st (by simp[ab,hBl,List.take_of_length_le,gY];rfl) ?_));clear af K';have qf:=(Aq fw @hdiv);refine cT aH [1,5,11,12] [901] ?_;refine bO fw ?_;(try simp only[aM,aP]);refine aV.mk (k+1,v / 2) ⟨by dsimp only;omega,by dsimp only;omega,by dsimp only;omega,by dsimp only;rw[He,<- hv]⟩ (by dsimp only;omega) ?_;rw[mT];refine aX fw
  .obtain rfl:k=m:=by omega
   refine bG (au _ ?_);rw[hbk];refine AW.imp (aB.freeze 901 trivial) ?_;refine AW.st (by simp[ab,hBl,List.take_of_length_le];rfl) ?_;refine rgq fw [4] [] ?_;exact aG fw
theorem YN (G:ao) (hM:acb G) (p:PgP) (aN:cf p=none) (hk:∀ r∈p.aaw,acZ r) (st df:Int) (nx:List (List D)) (n:Int) (h0:0<=n) (h1:n<=2^40):ar prog G 22 [dMw p st df nx,ab n] (pU (ab4 p n p.names.length).2):=by
 have hg:=fB aN;have dX:=hg.names;have cZ:=Ew G;have lf:=xo G hM p aN hk;simp only[cE,dM,bK,eV]at lf;have aF:=fun k (h:k<=p.names.length)=>zB aN n h0 k h
 have hRl:(dk p).length=p.names.length:=by simp[dk]
 have mX:∀ i (hi:i < p.names.length),(dk p)[i]? = some (b8 p p.names[i]):=fun i hi=>by simp[dk,hi]
 have vD:=fun i (hi:i < p.names.length)=>pw hg hi;have cm:=fun k (h:k < p.names.length)=>DR n h;have eJ:=Ja p n;generalize dk p=RP at *;generalize ab4 p n=T at *;simp only[dMw,pQ,bK,ab,pU]
 have mi:(p.names.map aW).length=p.names.length:=by simp
 have j9:∀ i (h:i < p.names.length),(p.names.map aW)[i]? = some [.v (.string (bs p.names[i].name)),.v (.int .i64 p.names[i].kind),.v (.int .i64 p.names[i].count)]:=fun i h=>by simp[h,aW,dS]
 generalize p.names.map aW=NN at *;generalize p.aaw.map cM=RR at *;refine ar.aC (aay _) func22 rfl rfl (rs:=[.cell 4 62]) results22 (by simp[ntmps22]) fun X=>?_;simp only[ntmps22,List.map];have fw:=@ab.eq_1;refine rgq fw [0,1,4] [4] ?_;refine rgm fw cZ [0,1,4,5] [4,5,601,602] ?_;refine ae fun K1 au=>?_;refine aR fw lf [0,1,4,5,14,15,16] [4,5,601,602] ?_;refine bZ (S:=Nat) (fun k=>k<=p.names.length) (fun k=>⟨lst [(0,.d (.ip [.sl none NN,.sl none RR,.v (.int .i64 st),.v (.int .i64 df),.sl none nx])),(1,int (T k).1),(4,.ref 4 0 0),(5,.ref 5 0 0),(14,.d (.sl none (RP.map fun x=>[.v (.int .i64 x)]))),(15,int RP.length),(16,int k)],ak [(4,.box 62 [.d (.v (.map none)),.d (.v (.map none))]),(5,.box 62 [.mp 601,.mp 602]),(601,.mp 59 (cj (T k).2.1)),(602,.mp 60 (cj (T k).2.2))]⟩) (fun k=>p.names.length - k) 0 ?_ (by omega) ?_
 .rw[eJ];refine aB.dK (fun _ _=>trivial) (by simp[ab,cj]) (by simp[ab,cj])
 .intro k iA;obtain⟨_,_,_,hrel,_,eF,cY⟩:=aF k iA;have dt:=cm k
  have ry:k=p.names.length->T p.names.length=T k:=fun e=>by rw[e]
  generalize T k=tk at hrel eF cY dt ry ⊢;obtain⟨m,I,C⟩:=tk;dsimp only at hrel eF cY ⊢;refine rgq fw [0,1,4,5,14,15,16,17] [4,5,601,602] ?_;refine ae fun K2 aa=>?_;by_cases ay:k < p.names.length
  .have kg:k < RP.length:=by omega
   refine aax (by simp[kg]) ?_;refine ah (aa _ ?_);refine ae fun K3 aH=>?_;refine aU ?_;have dt:=dt ay
   have aaZ:k < NN.length:=by omega
   have jI:NN[k]=[.v (.string (bs p.names[k].name)),.v (.int .i64 p.names[k].kind),.v (.int .i64 p.names[k].count)]:=by
    have:=j9 k ay;rw[List.getElem?_eq_getElem aaZ]at this;exact Option.some.inj this
   have fb:RP[k]=b8 p p.names[k]:=by
    have:=mX k ay;rw[List.getElem?_eq_getElem kg]at this;exact Option.some.inj this
   have kD:=vD k ay;unfold ae2 at dt;generalize bs p.names[k].name=nm at jI dt;generalize p.names[k].kind=kd at jI dt;generalize p.names[k].count=ct at jI dt;generalize b8 p p.names[k]=K at fb kD dt;have eg:=acV hrel.okI;simp at eg;have bg:=eq_true eg;have hk2:=acV hrel.okC;simp at hk2;have hk3:=eq_true hk2;have qf:=(Aq fw (Aq @kg @fb));refine al [0,1,4,5,6,7,14,15,16] [4,5,601,602] ?_;refine ae fun K4 hK4=>?_;by_cases gv:K=0
   .rw[if_pos gv]at dt;have qf:=(Aq fw @gv);refine al [0,1,4,5,6,7,14,15,16,22] [4,5,601,602] ?_;refine aax (by simp[gv]) ?_;refine bG (aH _ ?_);refine bO fw ?_;(try simp only[aM,aP]);refine aV.mk (k+1) (by omega) (by omega) ?_;rw[dt];refine aX fw
   .rw[if_neg gv]at dt;dsimp only at dt;have gY:m.tmod K=m % K:=Int.tmod_eq_emod_of_nonneg eF;have hd0:0<=m / K:=Int.ediv_nonneg eF kD;have iO:m / K<=m:=Int.ediv_le_self _ eF
    have hdiv:IntKind.i64.wrap (m.tdiv K)=m / K:=by
     rw[Int.tdiv_eq_ediv_of_nonneg eF];exact sW (by omega)
    generalize m / K=q at *;generalize m % K=r at *;have qf:=(Aq fw @gv);refine al [0,1,4,5,6,7,14,15,16,22] [4,5,601,602] ?_;refine ag (by simp[gv]) ?_;refine ah (hK4 _ ?_);have qf:=(Aq fw (Aq @aaZ @jI));refine al [0,1,4,5,7,8,14,15,16] [4,5,601,602,8] ?_;refine aa1 fw 8 ?_;refine ae fun K5 bN=>?_;by_cases k3:kd >= 3
    .rw[if_pos k3]at dt;have qf:=(Aq fw @k3);refine al [0,1,4,5,7,8,14,15,16,33] [4,5,601,602] ?_;refine aax (by simp<;>omega) ?_;have qf:=(Aq fw (Aq @gv (Aq @gY (Aq @bg (Aq @hk3 @c8)))));refine fv [0,1,4,5,7,8,14,15,16] [4,5,601,602] ?_;refine qT (aay _) (by kernel_rfl) (by kernel_rfl) fun K' af=>?_;(repeat (refine cH fun K2 aa=>?_;simp[ab,gv,gY,bg,hk3,c8];(repeat (refine⟨by omega,?_⟩));refine aa _ ?_;clear aa K2));refine jh (af _ ?_);clear af K';refine bN _ (AW.norm [0,1,4,5,7,14,15,16] [4,5,601,602] (fun _ _=>trivial) (AW.st (by simp[ab,gv,gY,bg,hk3,c8];rfl) ?_));have qf:=(Aq fw (Aq @gv @hdiv));refine cT aH [0,1,4,5,14,15,16] [4,5,601,602] ?_;refine bO fw ?_;(try simp only[aM,aP]);refine aV.mk (k+1) (by omega) (by omega) ?_;rw[dt];refine aX fw
    .rw[if_neg k3]at dt;have qf:=(Aq fw @k3);refine al [0,1,4,5,7,8,14,15,16,33] [4,5,601,602] ?_;refine ag (by simp<;>omega) ?_;refine qT (aay _) (by kernel_rfl) (by kernel_rfl) fun K' af=>?_;(repeat (refine cH fun K2 aa=>?_;simp[ab,gv,gY,bg,hk3,c8];(repeat (refine⟨by omega,?_⟩));refine aa _ ?_;clear aa K2));refine jh (af _ ?_);clear af K';refine bN _ (AW.norm [0,1,4,5,7,14,15,16] [4,5,601,602] (fun _ _=>trivial) (AW.st (by simp[ab,gv,gY,bg,hk3,c8];rfl) ?_));have qf:=(Aq fw (Aq @gv @hdiv));refine cT aH [0,1,4,5,14,15,16] [4,5,601,602] ?_;refine bO fw ?_;(try simp only[aM,aP]);refine aV.mk (k+1) (by omega) (by omega) ?_;rw[dt];refine aX fw
  .obtain rfl:k=p.names.length:=by omega
   have afu:=ry rfl;refine ag (by simp<;>omega) ?_;refine bG (au _ ?_);refine rgq fw [4] [4,601,602] ?_;refine bn ?_;simp[D.le,D.le.go,aaA,ab,afu,ma,D.le_refl,D.aaE]
theorem YL {V:Nat} (h:V<=6):IntKind.i64.wrap (2 ^ (min V IntKind.i64.bits))=((2^V:Nat):Int):=by
 have:V=0\/V=1\/V=2\/V=3\/V=4\/V=5\/V=6:=by omega
 rcases this with rfl | rfl | rfl | rfl | rfl | rfl | rfl<;>decide
def ly (n:Nat) (E:List Int):Nat->List Bool
 | 0=>List.replicate n false
 | j+1=>(ly n E j).set (E.getD j 0).toNat true
theorem xt (n:Nat) (E:List Int):∀ j,(ly n E j).length=n
 | 0=>by simp[ly]
 | j+1=>by rw[ly,List.length_set,xt]
theorem KP {n:Nat} {E:List Int} {i:Nat} (hi:i < n):∀ j,j<=E.length->((ly n E j).getD i false=true↔∃ q,q < j/\(E.getD q 0).toNat=i)
 | 0,_=>by
  rw[ly,rj];exact⟨fun h=>(by cases h),fun ⟨q,hq,_⟩=>absurd hq (by omega)⟩
 | j+1,hj=>by
  rw[ly];by_cases e:(E.getD j 0).toNat=i
  .rw[<- e,iM (by rw[xt];omega)];exact⟨fun _=>⟨j,by omega,rfl⟩,fun _=>rfl⟩
  .rw[fT e,KP hi j (by omega)];constructor
   .rintro⟨q,hq,h⟩;exact⟨q,by omega,h⟩
   .rintro⟨q,hq,h⟩;refine⟨q,Classical.byContradiction fun hn=>?_,h⟩
    obtain rfl:q=j:=by omega
    exact e h
theorem Xb (p:PgP):ly p.names.length (ew p p.names.length) (ew p p.names.length).length=p.names.map (gS p):=by
 refine Ox (d:=false) (by rw[xt];simp) fun i hi=>?_;rw[xt]at hi
 have e1:(p.names.map (gS p)).getD i false=gS p p.names[i]:=by rw[fj (by simpa using hi)];simp
 rw[e1];have h:=KP (E:=ew p p.names.length) hi _ (Nat.le_refl _)
 have h2:(∃ q,q < (ew p p.names.length).length/\((ew p p.names.length).getD q 0).toNat=i)↔gS p p.names[i]=true:=by
  constructor
  .rintro⟨q,hq,he⟩;rw[fj hq]at he;obtain⟨k,hk,_,hx,ha⟩:=(sU (Nat.le_refl _)).1 (List.getElem_mem hq);rw[hx,Int.toNat_natCast]at he;subst he;exact ha
  .intro ha;obtain⟨q,hq,he⟩:=List.mem_iff_getElem.1 ((sU (x:=(i:Int)) (Nat.le_refl _)).2 ⟨i,hi,hi,rfl,ha⟩);exact⟨q,hq,by rw[fj hq,he];simp⟩
 rw[h2]at h
 cases h3:gS p p.names[i] with
 | true=>exact h.2 h3
 | false=>
  cases h4:(ly p.names.length (ew p p.names.length) (ew p p.names.length).length).getD i false with
  | true=>rw[h.1 h4]at h3;cases h3
  | false=>rfl
theorem Yx {p:PgP} {q:Nat} (hq:q < (ew p p.names.length).length):∃ i,i < p.names.length/\(ew p p.names.length)[q]=(i:Int):=by
 obtain⟨k,hk,_,hx,_⟩:=(sU (Nat.le_refl _)).1 (List.getElem_mem hq);exact⟨k,hk,hx⟩
theorem Jq {p:PgP} {s:Nat} (h:s < (gO p).length):fg ((gO p).take (s+1))=fg ((gO p).take s) ++ [[eV (adj p (aQ p).length s)]]:=by
 rw[List.take_succ_eq_append_getElem h,fg,fg,List.map_append,U5 h];rfl
theorem Ky {p:PgP} {m s i:Nat} (h:i < 2 ^ m):(adj p m s).take (i+1)=(adj p m s).take i ++ [nrP (bh p) (jF p (stP p s) (aaY i m))]:=by
 have h':i < (adj p m s).length:=by rw[Eu];exact h
 rw[List.take_succ_eq_append_getElem h',WJ]
theorem Tm (G:ao) (p:PgP) (aN:cf p=none) (hk:∀ r∈p.aaw,acZ r) (aF:(aQ p).length<=6) (hP:bq (bh p)<=4096):ar prog G 15 [dPg p] (.tup [dMa p (bq (bh p)) ((2 ^ (aQ p).length:Nat):Int) (fg (gO p)),.v .nilIface]):=by
 have hg:=fB aN;have dX:=hg.names;have hcs:=ID G p (Xj aN hk);rw[aN]at hcs;have hkd:=IW G p (by omega) 1;have iS:fN p.names 1 p.names.length=aQ p:=rfl;rw[iS]at hkd
 have hed:=SU G p (by omega) (by have:=hg.aaw;omega) (fun r hr=>by
  obtain⟨e,he,_,_,hb⟩:=hk r hr
  exact⟨e,he,by omega⟩)
 rw[agb aN]at hed;have Rt:=xt p.names.length (ew p p.names.length);have hsE:=Xb p;have hwA:=fun q (hq:q < (ew p p.names.length).length)=>Yx hq;have RJ:=fun q (hq:q < (ew p p.names.length).length)=>(show ly p.names.length (ew p p.names.length) (q+1)=(ly p.names.length (ew p p.names.length) q).set ((ew p p.names.length)[q]).toNat true by rw[ly,fj hq]);have eJ:ly p.names.length (ew p p.names.length) 0=List.replicate p.names.length false:=rfl;have jS:=afo p p.names.length;have pg:=fun (nx:List (List D)) (n:Nat) (h1:(n:Int) < 4096)=>UQ G p aN (bq (bh p)) ((2 ^ (aQ p).length:Nat):Int) nx n (by omega) (by omega);have o4:=fun (nx:List (List D)) (n:Nat)=>Tg G p aN (bq (bh p)) ((2 ^ (aQ p).length:Nat):Int) nx n;have bD:=fun (nx:List (List D)) (s:StP) (hs:abr p s)=>Tk G p aN (bq (bh p)) ((2 ^ (aQ p).length:Nat):Int) nx s hs hP;have iy:=fun (s:Nat) (i:Nat)=>Gb G p aN hk (stP p s) (lz aN s) (aaY i (aQ p).length) (nW _ _);have p9:=fun (s:Nat) (i:Nat)=>(Bt aN (lz aN s) (aaY i (aQ p).length)).1;have yI:∀ k (h:k < p.names.length),eb p (k+1)=eb p k ++ partOf p.names[k] (gS p p.names[k]) k:=fun k h=>xe h;have ka:=uL p;have BX:eb p p.names.length=bh p:=rfl;have iB:∀ x∈bh p,2<=x.most:=fun x hx=>(nu hg hx).m2;have Rf:=fun k (h:k < (bh p).length)=>VR h;have hpm:=fun k=>VQ iB k;have CW:0 < bq (bh p):=px iB;have eh:=fun k=>(px (l:=(bh p).take k) fun x hx=>iB x (List.mem_of_mem_take hx));have ql:=fun s (h:s < (gO p).length)=>Jq h;have hnl:=Jp p;have wD:=fun s i (h:i < 2 ^ (aQ p).length)=>Ky (p:=p) (s:=s) h;have dZ:=fun s=>Eu p (aQ p).length s;have hsh:=YL aF
 have GD:2 ^ (aQ p).length<=64:=by
  have:=Nat.pow_le_pow_right (n:=2) (by omega) aF;omega
 have jK:=hg.count;simp only[maR,ab,k7,j4,dN,eV,ac1]at pg o4 bD iy;simp only[dPg,ey,bK,dr,ba,dMa,nC,ac1,eV]at hkd hcs hed iy pg o4 bD ql ⊢;generalize gO p=NXT at *;generalize B0:adj p (aQ p).length=AR at *;clear B0;generalize ew p p.names.length=E at *;generalize ly p.names.length E=SB at *
 have jl:((aQ p).map fun x=>[D.v (.int .i64 x)]).length=(aQ p).length:=by simp
 generalize ((aQ p).map fun x=>[D.v (.int .i64 x)])=IN at *;generalize (aQ p).length=m at *
 have mi:(p.names.map aW).length=p.names.length:=by simp
 have j9:∀ i (h:i < p.names.length),(p.names.map aW)[i]? = some [.v (.string (bs p.names[i].name)),.v (.int .i64 p.names[i].kind),.v (.int .i64 p.names[i].count)]:=fun i h=>by simp[h,aW,dS]
 generalize p.names.map aW=NN at *;generalize p.aaw.map b7=RR at *
 have GQ:(E.map fun x=>[D.v (.int .i64 x)]).length=E.length:=by simp
 refine ar.aC (aay _) func15 rfl rfl (rs:=[.tmp 2,.tmp 3]) results15 (by simp[ntmps15]) fun X=>?_;simp only[ntmps15,List.map];have fw:=@ab.eq_1;refine rgq fw [1] [1] ?_;refine aa1 fw 1 ?_;refine ae fun K1 au=>?_;refine aR fw hcs [1,4] [] ?_;refine rgq fw [1,4,19] [] ?_;refine ag rfl ?_;refine ah (au _ ?_);refine Wh fw hkd [1,5] [25] ?_;refine ae fun K2 aa=>?_
 have qd:¬ (IN.length:Int) > 6:=by omega
 have qf:=(Aq fw @qd);refine al [1,5,31] [25] ?_;refine ag (by simp<;>omega) ?_;refine ah (aa _ ?_);have qf:=(Aq fw (Aq @shI.eq_1 (Aq @shI.eq_2 (Aq @shI.eq_3 (Aq @jl @hsh)))));refine al [1,5] [25] ?_;refine rgq (Aq fw (Aq @mz.eq_1 (Aq @ab9.eq_1 @ab9.eq_2))) [1,5,6] [25,45] ?_;refine ae fun K3 aH=>?_;refine aR fw hed [1,5,6,47,48,49] [25,45] ?_;refine bZ (S:=Nat) (fun j=>j<=E.length) (fun j=>⟨lst [(1,.d (.ip [.sl none NN,.sl none RR])),(5,.ref 25 0 0),(6,.own 45 0 p.names.length),(47,.d (.sl none (E.map fun x=>[.v (.int .i64 x)]))),(48,int E.length),(49,int j)],ak [(25,.box 48 [.d (.sl none NN),.d (.sl none RR),int 1,int ((2 ^ m:Nat):Int),.d (.sl (some false) []),.d (.sl (some false) []),.d (.sl none IN)]),(45,.sl 4 1 ((SB j).map fun b=>[.v (.bool b)]))]⟩) (fun j=>E.length - j) 0 ?_ (by omega) ?_
 .rw[eJ];refine aB.dK (fun _ _=>trivial) (by simp[ab,List.map_replicate,mi,GQ]) (by simp[ab,List.map_replicate,mi,GQ])
 .intro j hj;have Rv:=Rt j;have hwj:=RJ j;generalize G7:SB j=B at Rv hwj ⊢;refine rgq fw [1,5,6,47,48,49,50] [25,45] ?_;refine ae fun K4 hK4=>?_;refine dw (b:=j < E.length) (by simp[D.le,D.le.go,aaA,ab]) (fun hc=>?_) (fun hc=>?_)
  .refine ah (hK4 _ ?_);refine ae fun K5 bN=>?_;refine aU ?_;obtain⟨i,hi,GP⟩:=hwA j hc;have afK:=hwj hc;rw[GP,Int.toNat_natCast]at afK
   have hi2:i < B.length:=by omega
   have qf:=(Aq fw (Aq @hc @GP));refine al [1,5,6,8,47,48,49] [25,45] ?_;have qf:=(Aq fw (Aq @hi2 @hi));refine cT bN [1,5,6,47,48,49] [25,45] ?_;refine bO fw ?_;(try simp only[aM,aP]);refine aV.mk (j+1) (by omega) (by omega) ?_;rw[afK];refine aB.dK (fun _ _=>trivial) (by simp[ab,List.map_set]) (by simp[ab,List.map_set])
  .obtain rfl:j=E.length:=by omega
   rw[hsE]at G7;subst G7;refine bG (aH _ ?_);refine ae fun K6 hK6=>?_;refine rgq fw [1,5,6,58,59,60] [25,45] ?_;refine bZ (S:=Nat) (fun k=>k<=p.names.length) (fun k=>⟨lst [(1,.d (.ip [.sl none NN,.sl none RR])),(5,.ref 25 0 0),(6,.own 45 0 p.names.length),(58,.d (.sl none NN)),(59,int NN.length),(60,int k)],ak [(25,.box 48 [.d (.sl none NN),.d (.sl none RR),int 1,int ((2 ^ m:Nat):Int),.d (.sl (some false) []),.own 801 0 (eb p k).length,.d (.sl none IN)]),(45,.sl 4 1 ((p.names.map (gS p)).map fun b=>[.v (.bool b)])),(801,.sl 134 3 ((eb p k).map e9))]⟩) (fun k=>p.names.length - k) 0 ?_ (by omega) ?_
   .refine (aB.mL 25 5 801 134 3 rfl rfl rfl).trans ?_;refine aX (Aq fw (Aq @eb.eq_1 @eb.eq_2))
   .intro k iA;have G3:=yI k;have Ps:=ka k
    have G2:((eb p k).map e9).length=(eb p k).length:=by simp
    generalize hPk:eb p k=PK at G3 Ps G2 ⊢;refine rgq fw [1,5,6,58,59,60,61] [25,45,801] ?_;refine ae fun K7 dW=>?_;by_cases ay:k < p.names.length
    .have aaZ:k < NN.length:=by omega
     have ju:(k:Int) < (NN.length:Int):=by omega
     refine aax (by simp<;>omega) ?_;refine ah (dW _ ?_);refine ae fun K8 ez=>?_;refine aU ?_;have mW:=G3 ay;have fK:=jK _ (List.getElem_mem ay)
     have jI:NN[k]=[.v (.string (bs p.names[k].name)),.v (.int .i64 p.names[k].kind),.v (.int .i64 p.names[k].count)]:=by
      have:=j9 k ay;rw[List.getElem?_eq_getElem aaZ]at this;exact Option.some.inj this
     unfold partOf at mW;generalize HG:p.names[k]=nk at mW jI fK;obtain⟨nm,kd,ct⟩:=nk;dsimp only at mW jI fK
     have Hk:gS p p.names[k]=gS p ⟨nm,kd,ct⟩:=by rw[HG]
     generalize aJ:gS p ⟨nm,kd,ct⟩=ev at *;have qf:=(Aq fw (Aq @aaZ @jI));refine al [1,5,6,9,10,58,59,60] [25,45,801,10] ?_;refine aa1 fw 10 ?_;refine aU ?_;by_cases k2:kd=2
     .subst k2;rw[if_pos (.inl rfl)]at mW;refine rgq fw [1,5,6,9,10,58,59,60,65] [25,45,801] ?_;refine aax rfl ?_;refine abl (aay _) fun K' af=>?_;(repeat (refine sxn fun K2 aa=>?_;simp[ab,List.take_of_length_le];(repeat (refine⟨by omega,?_⟩));refine aa _ ?_;clear aa K2));refine sxz (af _ ?_);clear af K';refine ez _ (AW.norm [1,5,6,58,59,60] [25,45,801] (fun _ _=>trivial) (AW.st (by simp[ab,List.take_of_length_le];rfl) ?_));refine bO fw ?_;(try simp only[aM,aP]);refine aV.mk (k+1) (by omega) (by omega) ?_;rw[mW];refine aX (Aq fw @e9.eq_1)
     .by_cases k1:kd=1
      .subst k1
       cases ev with
       | true=>
        rw[if_pos (.inr ⟨rfl,rfl⟩)]at mW;have qf:=(Aq fw (Aq @ay @Hk));refine al [1,5,6,9,10,58,59,60,65] [25,45,801] ?_;refine aax rfl ?_;refine abl (aay _) fun K' af=>?_;(repeat (refine sxn fun K2 aa=>?_;simp[ab,List.take_of_length_le];(repeat (refine⟨by omega,?_⟩));refine aa _ ?_;clear aa K2));refine sxz (af _ ?_);clear af K';refine ez _ (AW.norm [1,5,6,58,59,60] [25,45,801] (fun _ _=>trivial) (AW.st (by simp[ab,List.take_of_length_le];rfl) ?_));refine bO fw ?_;(try simp only[aM,aP]);refine aV.mk (k+1) (by omega) (by omega) ?_;rw[mW];refine aX (Aq fw @e9.eq_1)
       | false=>
        rw[if_neg (by simp),if_neg (by simp),List.append_nil]at mW;have qf:=(Aq fw (Aq @ay @Hk));refine al [1,5,6,9,10,58,59,60,65] [25,45,801] ?_;refine ag rfl ?_;refine rgq fw [1,5,6,9,10,58,59,60,91] [25,45,801] ?_;refine ag rfl ?_;refine ah ?_;refine ez _ (AW.norm [1,5,6,58,59,60] [25,45,801] (fun _ _=>trivial) (AW.st (by simp[ab];rfl) ?_));refine bO fw ?_;(try simp only[aM,aP]);refine aV.mk (k+1) (by omega) (by omega) ?_;rw[mW];refine aX fw
      .rw[if_neg (by simp[k1,k2]),if_pos k1]at mW;have qf:=(Aq fw (Aq @k1 @k2));refine al [1,5,6,9,10,58,59,60,65] [25,45,801] ?_;refine ag (by simp[k1,k2]) ?_;have qf:=(Aq fw @k1);refine al [1,5,6,9,10,58,59,60,91] [25,45,801] ?_;refine aax (by simp[k1]) ?_;refine pI (aay _) (by kernel_rfl) ([(11,(801,105))]) ([(0,[801])]) ([0,1,2,3,4,5,6,7,8,9,10,11,12,13,14]) (by kernel_rfl) fun K' af=>?_;(repeat (refine pF rfl fun K2 aa=>?_;simp[ab,List.take_of_length_le];(repeat (refine⟨by omega,?_⟩));refine aa _ ?_;clear aa K2));refine pG (af _ ?_);clear af K';refine ez _ (AW.norm [1,5,6,58,59,60] [25,45,801] (fun _ _=>trivial) (AW.st (by simp[ab,List.take_of_length_le];rfl) ?_));refine bO fw ?_;(try simp only[aM,aP]);refine aV.mk (k+1) (by omega) (by omega) ?_;rw[mW];refine aX (Aq fw @e9.eq_1)
    .have ju:¬ (k:Int) < (NN.length:Int):=by omega
     obtain rfl:k=p.names.length:=by omega
     rw[BX]at hPk;subst hPk;refine ag (by simp<;>omega) ?_;refine bG (hK6 _ ?_);refine AW.imp (aB.freeze 801 trivial) ?_;refine AW.st (by simp[ab,G2,List.take_of_length_le];rfl) ?_;refine ae fun K9 hK9=>?_
     have Y2:((bh p).map e9).length=(bh p).length:=by simp
     have Pr:∀ i (h:i < (bh p).length),((bh p).map e9)[i]? = some [.v (.int .i64 (bh p)[i].nm),.v (.int .i64 (bh p)[i].most),.v (.bool (bh p)[i].far)]:=fun i h=>by simp[h,e9]
     generalize yH:bh p=bu at *;generalize bu.map e9=PT at *;refine rgq fw [1,5,113,114,115] [25] ?_;refine bZ (S:=Nat) (fun k=>k<=bu.length) (fun k=>⟨lst [(1,.d (.ip [.sl none NN,.sl none RR])),(5,.ref 25 0 0),(113,.d (.sl none PT)),(114,int PT.length),(115,int k)],ak [(25,.box 48 [.d (.sl none NN),.d (.sl none RR),int (bq (bu.take k)),int ((2 ^ m:Nat):Int),.d (.sl (some false) []),.d (.sl none PT),.d (.sl none IN)])]⟩) (fun k=>bu.length - k) 0 ?_ (by omega) ?_
     .refine aX (Aq fw (Aq @bq.eq_1 @bq.eq_2))
     .intro k iA;have hq:=Rf k;have Ri:=hpm (k+1);have lg:=eh k;have Rj:=hpm k;generalize hQ:bq (bu.take k)=Q at hq lg Rj ⊢;refine rgq fw [1,5,113,114,115,116] [25] ?_;refine ae fun kZ dz=>?_;by_cases ay:k < bu.length
      .have aaZ:k < PT.length:=by omega
       have ju:(k:Int) < (PT.length:Int):=by omega
       refine aax (by simp<;>omega) ?_;refine ah (dz _ ?_);refine ae fun pL j8=>?_;refine aU ?_;have hq1:=hq ay;have lU:=iB _ (List.getElem_mem ay)
       have hPk:PT[k]=[.v (.int .i64 bu[k].nm),.v (.int .i64 bu[k].most),.v (.bool bu[k].far)]:=by
        have:=Pr k ay;rw[List.getElem?_eq_getElem aaZ]at this;exact Option.some.inj this
       generalize bu[k]=x at hPk hq1 lU;obtain⟨xi,M,fa⟩:=x;dsimp only at hPk hq1 lU;rw[hq1]at Ri;have G4:0 < Q * M:=Int.mul_pos lg (by omega)
       have Pu:¬ Q * M > 4096:=by omega
       have qf:=(Aq fw (Aq @aaZ @hPk));refine al [1,5,12,113,114,115] [25,12] ?_;refine aa1 fw 12 ?_;refine kY (aay _) (by kernel_rfl) [(3,25),(5,999),(9,25)] [1,5,113,114,115] [25] (fun _ _=>trivial) (by kernel_rfl) fun K' af=>?_;(repeat (refine gk fun K2 aa=>?_;simp[ab,G4];(repeat (refine⟨by omega,?_⟩));refine aa _ ?_;clear aa K2));refine ab8 (af _ ?_);refine AW.st (by simp[ab,G4];rfl) ?_;clear af K';have qf:=(Aq fw @Pu);refine al [1,5,113,114,115,132] [25] ?_;refine ag (by simp<;>omega) ?_;refine ah (j8 _ ?_);refine bO fw ?_;(try simp only[aM,aP]);refine aV.mk (k+1) (by omega) (by omega) ?_;rw[hq1];refine aX fw
      .have ju:¬ (k:Int) < (PT.length:Int):=by omega
       refine ag (by simp<;>omega) ?_;refine bG (hK9 _ ?_);rw[List.take_of_length_le (by omega)]at hQ;refine ae fun s3 acs=>?_;obtain⟨S,hS⟩:∃ S:Nat,bq bu=(S:Int):=Int.eq_ofNat_of_zero_le (by omega);rw[hS]at hnl hP pg o4 bD hQ ⊢;rw[Int.toNat_natCast]at hnl;subst hQ;refine rgq fw [1,5,138,139] [25] ?_;refine bZ (S:=Nat) (fun s=>s<=S) (fun s=>⟨lst [(1,.d (.ip [.sl none NN,.sl none RR])),(5,.ref 25 0 0),(138,int S),(139,int s)],ak [(25,.box 48 [.d (.sl none NN),.d (.sl none RR),int S,int ((2 ^ m:Nat):Int),.own 800 0 s,.d (.sl none PT),.d (.sl none IN)]),(800,.sl 46 1 (fg (NXT.take s)))]⟩) (fun s=>S - s) 0 ?_ (by omega) ?_
       .refine (aB.mL 25 4 800 46 1 rfl rfl rfl).trans ?_;refine aX (Aq fw @fg.eq_1)
       .intro s hss;have fW:=ql s
        have jm:(fg (NXT.take s)).length=s:=by rw[Jw,List.length_take];omega
        have vK:s=S->fg (NXT.take s)=fg NXT:=fun e=>by rw[List.take_of_length_le (by omega)]
        generalize fg (NXT.take s)=NX at fW jm vK ⊢;refine rgq fw [1,5,138,139,140] [25,800] ?_;refine ae fun j0 eW=>?_;refine dw (b:=s < S) (by simp[D.le,D.le.go,aaA,ab]) (fun hc=>?_) (fun hc=>?_)
        .refine ah (eW _ ?_);refine ae fun vb oM=>?_;refine aU ?_;have wz:=fW (by omega);have ph:=pg NX s (by omega);have CD:=o4 NX;have tI:=iy s;have tT:=fun i=>bD NX _ (p9 s i);have aek:=fun i h=>wD s i h;have CZ:=dZ s;generalize C3:stP p s=xy at ph tI tT aek;generalize yK:AR s=RS at wz aek CZ;refine rgq fw [1,5,13,138,139] [25,800] ?_;refine rgq fw [1,5,13,14,138,139] [25,800] ?_;refine ae fun AJ rm=>?_;refine rgq fw [1,5,13,14,138,139,145,146] [25,800] ?_;refine bZ (S:=Nat) (fun i=>i<=2 ^ m) (fun i=>⟨lst [(1,.d (.ip [.sl none NN,.sl none RR])),(5,.ref 25 0 0),(13,int s),(14,.own 902 0 i),(138,int S),(139,int s),(145,int ((2 ^ m:Nat):Int)),(146,int i)],ak [(25,.box 48 [.d (.sl none NN),.d (.sl none RR),int S,int ((2 ^ m:Nat):Int),.own 800 0 s,.d (.sl none PT),.d (.sl none IN)]),(800,.sl 46 1 NX),(902,.sl 3 1 ((RS.take i).map fun x=>[.v (.int .i64 x)]))]⟩) (fun i=>2 ^ m - i) 0 ?_ (by omega) ?_
         .refine (aB.iH 14 902 3 1 rfl rfl).trans ?_;refine aX fw
         .intro i js;have wC:=aek i
          have hRl:((RS.take i).map fun x=>[D.v (.int .i64 x)]).length=i:=by simp;omega
          generalize gx:RS.take i=RI at wC hRl ⊢;refine rgq fw [1,5,13,14,138,139,145,146,147] [25,800,902] ?_;refine ae fun YS Pa=>?_;by_cases c6:i < 2 ^ m
          .have tL:(i:Int) < ((2 ^ m:Nat):Int):=by exact_mod_cast c6
           refine aax (by simpa using tL) ?_;refine ah (Pa _ ?_);refine ae fun YT Pb=>?_;refine aU ?_;have rZ:=wC c6;have aeh:=CD i;have oZ:=tI i;have adl:=tT i;generalize jF p xy (aaY i m)=d1 at oZ adl rZ;generalize aaY i m=ib at aeh oZ;generalize nrP bu d1=v1 at adl rZ;obtain⟨I1,C1⟩:=xy;obtain⟨I2,C2⟩:=d1;dsimp only at ph oZ adl;rw[jm]at ph aeh adl;refine rgq fw [1,5,13,14,15,138,139,145,146] [25,800,902] ?_;refine afG (aay _) (by kernel_rfl) ([12]) ([]) ([5,8,10]) ([(2,.d (.ip [.sl none NN,.sl none RR]))]) (List.range 14) (by kernel_rfl) fun K' af=>?_;(repeat (refine jD rfl fun K2 aa=>?_;simp[ab,hRl,List.take_of_length_le];(repeat (refine⟨by omega,?_⟩));refine aa _ ?_;clear aa K2));refine jD rfl fun K2 aa=>?_;simp[ab,hRl,List.take_of_length_le];refine oW.mc (ph) (by simp[ab,hRl,List.take_of_length_le]) (by simp[ab,hRl,List.take_of_length_le]) (by simp[ab,hRl,List.take_of_length_le]) (by simp[ab,hRl,List.take_of_length_le]) (by simp[ab,hRl,List.take_of_length_le]) (by simp[ab,hRl,List.take_of_length_le]) (by simp[gJ,ab,hRl,List.take_of_length_le]) ?_;simp[ab,hRl,List.take_of_length_le];refine aa _ ?_;clear aa K2;(repeat (refine jD rfl fun K2 aa=>?_;simp[ab,hRl,List.take_of_length_le];(repeat (refine⟨by omega,?_⟩));refine aa _ ?_;clear aa K2));refine jD rfl fun K2 aa=>?_;simp[ab,hRl,List.take_of_length_le];refine oW.mc (aeh) (by simp[ab,hRl,List.take_of_length_le]) (by simp[ab,hRl,List.take_of_length_le]) (by simp[ab,hRl,List.take_of_length_le]) (by simp[ab,hRl,List.take_of_length_le]) (by simp[ab,hRl,List.take_of_length_le]) (by simp[ab,hRl,List.take_of_length_le]) (by simp[gJ,ab,hRl,List.take_of_length_le]) ?_;simp[ab,hRl,List.take_of_length_le];refine aa _ ?_;clear aa K2;(repeat (refine jD rfl fun K2 aa=>?_;simp[ab,hRl,List.take_of_length_le];(repeat (refine⟨by omega,?_⟩));refine aa _ ?_;clear aa K2));refine jD rfl fun K2 aa=>?_;simp[ab,hRl,List.take_of_length_le];refine mM.mk (oZ) (by simp;rfl) (by simp;rfl) (by first | exact D.aaE _ | simp[aaA,List.map_map,Function.comp_def,D.le,D.le.go,D.le_refl,D.aaE,ab,hRl,List.take_of_length_le]) (by simp) ?_;refine aa _ ?_;clear aa K2;simp only[aD,cu];(repeat (refine jD rfl fun K2 aa=>?_;simp[ab,hRl,List.take_of_length_le];(repeat (refine⟨by omega,?_⟩));refine aa _ ?_;clear aa K2));refine jD rfl fun K2 aa=>?_;simp[ab,hRl,List.take_of_length_le];refine oW.mc (adl) (by simp[ab,hRl,List.take_of_length_le]) (by simp[ab,hRl,List.take_of_length_le]) (by simp[ab,hRl,List.take_of_length_le]) (by simp[ab,hRl,List.take_of_length_le]) (by simp[ab,hRl,List.take_of_length_le]) (by simp[ab,hRl,List.take_of_length_le]) (by simp[gJ,ab,hRl,List.take_of_length_le]) ?_
           simp[ab,hRl,List.take_of_length_le];refine aa _ ?_;clear aa K2;(repeat (refine jD rfl fun K2 aa=>?_;simp[ab,hRl,List.take_of_length_le];(repeat (refine⟨by omega,?_⟩));refine aa _ ?_;clear aa K2));refine Lf (af _ ?_);clear af K';refine Pb _ (AW.norm [1,5,13,14,138,139,145,146] [25,800,902] (fun _ _=>trivial) (AW.st (by simp[ab,hRl,List.take_of_length_le];rfl) ?_));refine bO fw ?_;(try simp only[aM,aP]);refine aV.mk (i+1) (by omega) (by omega) ?_;rw[rZ];refine aX fw
          .obtain rfl:i=2 ^ m:=by omega
           have rv:RI=RS:=by rw[<- gx];exact List.take_of_length_le (by omega)
           subst rv;refine ag (by simp) ?_;refine bG (rm _ ?_);refine AW.imp (aB.freeze 902 trivial) ?_;refine AW.st (by simp[ab,hRl,List.take_of_length_le];rfl) ?_;refine abl (aay _) fun K' af=>?_;(repeat (refine sxn fun K2 aa=>?_;simp[ab,jm,List.take_of_length_le];(repeat (refine⟨by omega,?_⟩));refine aa _ ?_;clear aa K2));refine sxz (af _ ?_);clear af K';refine oM _ (AW.norm [1,5,138,139] [25,800] (fun _ _=>trivial) (AW.st (by simp[ab,jm,List.take_of_length_le];rfl) ?_));refine bO fw ?_;(try simp only[aM,aP]);refine aV.mk (s+1) (by omega) (by omega) ?_;rw[wz];refine aX fw
        .obtain rfl:s=S:=by omega
         obtain rfl:=vK rfl;refine bG (acs _ ?_);refine AW.imp (aB.freeze 800 trivial) ?_;refine AW.st (by simp[ab,jm,List.take_of_length_le];rfl) ?_;refine rgq fw [2,3] [25] ?_;exact aG (Aq fw @hS)
structure l7 (L L':List (Value×Value)):Prop where
 ok:abU L
 same:∀ k,cA L k=cA L' k
theorem abX {L L':List (Value×Value)} (h:l7 L L') (s:ByteArray) (x:Value):l7 (b6 L s x) (b6 L' s x):=⟨ur s x h.ok,fun k=>by rw[my,my,h.same]⟩
theorem JR:∀ {L L':List (Value×Value)},L.Nodup->L'.Nodup->(∀ x,x∈L↔x∈L')->L.Perm L'
 | [],L',_,_,h=>by
  cases L' with
  | nil=>exact .nil
  | cons y l=>exact absurd ((h y).2 (by simp)) (by simp)
 | x :: L,L',h1,h2,h=>by
  obtain⟨A,B,rfl⟩:=List.append_of_mem ((h x).1 (by simp));rw[List.nodup_cons]at h1;have h3:(x :: (A ++ B)).Nodup:=(List.perm_middle.nodup_iff).1 h2;rw[List.nodup_cons]at h3;refine (List.Perm.cons x (JR h1.2 h3.2 fun y=>?_)).trans List.perm_middle.symm;constructor
  .intro hy;have h4:=(h y).1 (by simp[hy])
   rcases List.mem_append.1 h4 with h5 | h5
   .simp[h5]
   .rcases List.mem_cons.1 h5 with rfl | h5
    .exact absurd hy h1.1
    .simp[h5]
  .intro hy;have h4:=(h y).2 (by rcases List.mem_append.1 hy with h5 | h5<;>simp[h5])
   rcases List.mem_cons.1 h4 with rfl | h4
   .exact absurd hy h3.1
   .exact h4
theorem afL {L:List (Value×Value)} (h:abU L):L.Nodup:=(List.pairwise_map.1 h.once).imp fun h e=>h (by rw[e])
theorem uq {E I:List (Value×Value)} (hp:E.Perm I) (h:abU I):abU E:=⟨fun p hm=>h.str p (hp.mem_iff.1 hm),((hp.map _).nodup_iff).2 h.once⟩
theorem qy {L:List (Value×Value)} (h:abU L) {s:ByteArray} {v:Value}:cA L s=some v↔(.string s,v)∈L:=by
 constructor
 .intro hl;obtain⟨j,hj,h1,h2⟩:=IY hl;have:L[j]=(.string s,v):=Prod.ext h1 h2;rw[<- this];exact List.getElem_mem hj
 .intro hm;obtain⟨j,hj,he⟩:=List.mem_iff_getElem.1 hm;have:=wU h hj (s:=s) (by rw[he]);rw[this,he]
theorem Gn {L L':List (Value×Value)} (h:l7 L L') (h':abU L'):L.Perm L':=by
 refine JR (afL h.ok) (afL h') fun x=>?_;obtain⟨k,v⟩:=x;constructor
 .intro hm;obtain⟨s,hs⟩:=h.ok.str _ hm;have hs:k = .string s:=hs;subst hs;exact (qy h').1 (by rw[<- h.same];exact (qy h.ok).2 hm)
 .intro hm;obtain⟨s,hs⟩:=h'.str _ hm;have hs:k = .string s:=hs;subst hs;exact (qy h.ok).1 (by rw[h.same];exact (qy h').2 hm)
theorem S5 {E I:List (Value×Value)} (hp:E.Perm I) (h:abU I) (k:ByteArray):cA E k=cA I k:=by
 have h2:=uq hp h
 cases hl:cA I k with
 | some v=>exact (qy h2).2 (hp.mem_iff.2 ((qy h).1 hl))
 | none=>
  cases fq:cA E k with
  | none=>rfl
  | some v=>
   have:=(qy h).2 (hp.mem_iff.1 ((qy h2).1 fq));rw[hl]at this;cases this
theorem copied {E I L:List (Value×Value)} (hp:E.Perm I) (h:abU I) {seen:List Nat} (hc:qV E seen L) (bB:∀ j,j < E.length->j∈seen):l7 L I:=⟨hc.ok,fun k=>by rw[NF (uq hp h) hc bB,S5 hp h]⟩
theorem IV {n:Nat} {seen:List Nat} {j:Nat} (hj:j < n) (fW:j ∉ seen):((List.range n).filter fun k=>!(seen ++ [j]).contains k).length < ((List.range n).filter fun k=>!seen.contains k).length:=by
 refine filter_lt (fun k=>!seen.contains k) (fun k=>!(seen ++ [j]).contains k) (fun k hk=>?_) j ?_ ?_ _ (List.mem_range.2 hj)
 .simp at hk ⊢;exact hk.1
 .simpa using fW
 .simp
theorem Oa {C N:List (Value×Value)} (h:l7 C N) (hi:∀ k v,cA N k=some v->∃ n,v = .int .i64 n) (k:ByteArray):(abW (.string k) (cj C)=none/\acU (cA N k)=0)\/abW (.string k) (cj C)=some (.v (.int .i64 (acU (cA N k)))):=by
 rw[oF,h.same]
 cases hl:cA N k with
 | none=>exact .inl ⟨rfl,rfl⟩
 | some v=>
  obtain⟨n,rfl⟩:=hi k v hl;exact .inr rfl
theorem Ob (C:List (Value×Value)) (k:ByteArray) (x:Value):abW (.string k) (cj (b6 C k x))=some (.v x):=by
 rw[oF,my,if_pos rfl];rfl
theorem KD (G:ao) (p:PgP) (aN:cf p=none) (hk:∀ r∈p.aaw,acZ r) (s:StP) (hs:abr p s) (inn:List Bool) (aF:inn.length=(aQ p).length) (I C:List (Value×Value)) (hr:e8 p s I C) :
  ar prog G 21 [cE p,.agg [.dm false I,.dm false C],dN inn] (.agg [.dm false (sA p s inn (I,C)).1,.dm false (sA p s inn (I,C)).2]):=by
 have hg:=fB aN;have dX:=hg.names;have hrn:=hg.aaw;have cZ:=Ew G;have hkd:=xK G p (by omega) 1;have bD:=fun x=>LD G p (by omega) x;have rO:=qv p.names 1 p.names.length;obtain⟨t0,lR,vC⟩:∃ t0,t0=(⟨jV (aQ p) inn s.is (aQ p).length,s.ct⟩:StP)/\abr p t0:=⟨_,rfl,(sH inn hs _ (Nat.le_refl _)).1⟩;obtain⟨T,hT⟩:∃ T:Nat->StP,∀ n,T n=(p.aaw.take n).foldl (je p s) t0:=⟨_,fun _=>rfl⟩;obtain⟨MI,vF⟩:∃ MI:Nat->List (Value×Value),∀ k,MI k=sy p inn I k:=⟨_,fun _=>rfl⟩;obtain⟨M,hM⟩:∃ M:Nat->j1,∀ n,M n=qA p s t0 (p.aaw.take n) (sy p inn I (aQ p).length,C):=⟨_,fun _=>rfl⟩
 have GU:M 0=(MI (aQ p).length,C):=by rw[hM,vF];rfl
 have GY:∀ n (h:n < p.aaw.length),M (n+1)=qz p (nG (eN p (T n).is) (eN p s.is) p.aaw[n].cond) p.aaw[n] (M n):=fun n h=>by
  rw[hM,hM,hT];exact I8 p s p.aaw t0 _ n h
 have hMe:M p.aaw.length=sA p s inn (I,C):=by rw[hM,List.take_length,lR];rfl
 have tB:∀ n,abr p (T n):=fun n=>by rw[hT];exact (Ad aN s _ (fun r hr=>List.mem_of_mem_take hr) vC).1
 have hMr:∀ n,e8 p (T n) (M n).1 (M n).2:=fun n=>by
  rw[hT,hM];refine DQ aN s _ (fun r hr=>List.mem_of_mem_take hr) vC ?_;rw[lR];exact DP hg hs inn hr _ (Nat.le_refl _)
 have eY:∀ n (h:n < p.aaw.length) (L1 L2:List (Value×Value)),l7 L1 (M n).1->l7 L2 (M n).2->∃ e,p.aaw[n].cond=some e/\ar prog G 71 [dR e,.fn (.func 72) [.ip [.dm false L1,.dm false L2]],.fn (.func 73) [.ip [.dm false I,.dm false C]]] (.v (.bool (da (eN p (T n).is) (eN p s.is) e))):=fun n h L1 L2 h1 h2=>by
  obtain⟨e,he,ha,hb⟩:=KN aN hk (List.getElem_mem h);obtain⟨e',gV,hw,_⟩:=hk _ (List.getElem_mem h);rw[he]at gV;obtain rfl:=Option.some.inj gV;exact⟨e,he,Wr G _ _ _ _ _ _ _ _ (V4 G (Wk (hMr n) h1.ok h2.ok h1.same h2.same)) (V5 G hr) e ha hw hb⟩
 have BU:∀ n,abU (M n).1/\abU (M n).2:=fun n=>⟨(hMr n).okI,(hMr n).okC⟩
 have GV:∀ n i (hi:i < p.names.length),0<=acU (cA (M n).2 (bs p.names[i].name))/\acU (cA (M n).2 (bs p.names[i].name))<=7:=fun n i hi=>by
  rw[(hMr n).ct i hi];have h1:=(tB n).lo i;have h2:=(tB n).hi i hi
  rcases hg.count _ (List.getElem_mem hi)with h3 | h3<;>omega
 have GX:=fun n=>(hMr n).iC;have Pj:MI 0=I:=vF 0
 have Pk:∀ k (h:k < (aQ p).length) (h2:k < inn.length),∃ i,∃ hi:i < p.names.length,(aQ p)[k]=(i:Int)/\MI (k+1)=b6 (MI k) (bs p.names[i].name) (.bool inn[k]):=fun k h h2=>by
  obtain⟨i,hi,he,_⟩:=ug h;refine⟨i,hi,he,?_⟩
  have e1:(aQ p).getD k 0=(i:Int):=by rw[fj h];exact he
  have e2:p.names.getD i ⟨[],0,0⟩=p.names[i]:=fj hi;have e3:inn.getD k false=inn[k]:=fj h2;rw[vF,vF,sy,e1,Int.toNat_natCast,e2,e3]
 clear hM vF hT tB hMr vC lR;have okI:=hr.okI;have okC:=hr.okC;clear hr;have iS:fN p.names 1 p.names.length=aQ p:=rfl;rw[iS]at hkd rO;clear iS;rw[<- hMe];generalize aQ p=KI at *;simp only[cE,dM,bK,dN,dS]at hkd bD ⊢
 have mi:(p.names.map aW).length=p.names.length:=by simp
 have j9:∀ i (h:i < p.names.length),(p.names.map aW)[i]? = some [.v (.string (bs p.names[i].name)),.v (.int .i64 p.names[i].kind),.v (.int .i64 p.names[i].count)]:=fun i h=>by simp[h,aW,dS]
 have hRl:(p.aaw.map cM).length=p.aaw.length:=by simp
 have mX:∀ i (h:i < p.aaw.length),(p.aaw.map cM)[i]? = some (cM p.aaw[i]):=fun i h=>by simp[h]
 generalize p.names.map aW=NN at *;generalize p.aaw.map cM=RR at *;refine ar.aC (aay _) func21 rfl rfl (rs:=[.cell 6 62]) results21 (by simp[ntmps21]) fun X=>?_;simp only[ntmps21,List.map];refine aq [2,3,4,6] [3,4,6] ?_;refine dV 3 ?_;refine dV 4 ?_;refine rgm trivial cZ [2,3,4,6,7] [6,7,601,602] ?_;refine ae fun K1 au=>?_;refine sZ (aay _) [2,3,4,6,7,21] [6,7,601,602,21] (fun _ _=>trivial) fun K' af=>?_
 (repeat (refine qO fun K2 aa=>?_;simp;(repeat (refine⟨by omega,?_⟩));refine aa _ ?_;clear aa K2))
 refine afZ (y:=false) (ents:=I) rfl rfl (by simp) (by simp) (by simp) (by simp) (by simp) fun E1 yB=>?_;refine qP (af _ ?_);refine AW.st (by simp;rfl) ?_;clear af K';refine bZ (S:=List Nat×List (Value×Value)) (fun x=>qV E1 x.1 x.2) (fun x=>⟨lst [(2,.d (.sl none (inn.map fun b=>[.v (.bool b)]))),(3,.d (.ip [.sl none NN,.sl none RR])),(4,.d (.ip [.dm false I,.dm false C])),(6,.ref 6 0 0),(7,.ref 7 0 0),(21,.ref 21 0 0)],ak [(6,.box 62 [.d (.v (.map none)),.d (.v (.map none))]),(7,.box 62 [.mp 601,.mp 602]),(601,.mp 59 (cj x.2)),(602,.mp 60 []),(21,.it E1 x.1)]⟩) (fun x=>((List.range E1.length).filter fun k=>!x.1.contains k).length) ([],[]) ?_ (F3 E1) ?_
 .refine aB.dK (fun _ _=>trivial) (by simp[cj]) (by simp[cj])
 .rintro⟨EB,L1⟩ hL1;dsimp only at hL1 ⊢;refine sZ (aay _) [2,3,4,6,7,21,23] [6,7,601,602,21] (fun _ _=>trivial) fun K' af=>?_;refine Ld (r:=21) (ents:=E1) (seen:=EB) rfl rfl (by simp) (by simp) (by simp) (by simp) (fun bB=>?_) (fun j hj fW=>?_)
  rotate_left
  .have eg:=acV hL1.ok;simp at eg;have bg:=eq_true eg;obtain⟨s1,cm⟩:=(uq yB okI).str E1[j] (List.getElem_mem hj)
   (repeat (refine qO fun K2 aa=>?_;simp;(repeat (refine⟨by omega,?_⟩));refine aa _ ?_;clear aa K2))
   refine qP (af _ ?_);refine AW.st (by simp;rfl) ?_;clear af K';refine ae fun K2 aa=>?_;refine aax rfl ?_;refine ah (aa _ ?_);refine aU ?_;refine sZ (aay _) [2,3,4,6,7,8,9,21] [6,7,601,602,21] (fun _ _=>trivial) fun K' af=>?_;refine Lc (r:=21) (ents:=E1) (seen:=EB) (j:=j) rfl rfl (by simp) (by simp) (by simp) (by simp) hj ?_
   (repeat (refine qO fun K2 aa=>?_;simp[cm];(repeat (refine⟨by omega,?_⟩));refine aa _ ?_;clear aa K2))
   refine qP (af _ ?_);refine AW.st (by simp[cm];rfl) ?_;clear af K';have qf:=(Aq @cm (Aq @bg @c8));refine xm ?_;(try simp only[aM,aP]);refine aV.mk (EB ++ [j],b6 L1 s1 E1[j].2) (F2 (uq yB okI) hL1 hj cm) (IV hj fW) ?_;refine aa2
  .have Pd:=copied yB okI hL1 bB;clear hL1 bB
   (repeat (refine qO fun K2 aa=>?_;simp;(repeat (refine⟨by omega,?_⟩));refine aa _ ?_;clear aa K2))
   refine qP (af _ ?_);refine AW.st (by simp;rfl) ?_;clear af K';refine ae fun K2 aa=>?_;refine ag rfl ?_;refine bG (au _ ?_);refine ae fun K3 aH=>?_;refine sZ (aay _) [2,3,4,6,7,33] [6,7,601,602,33] (fun _ _=>trivial) fun K' af=>?_
   (repeat (refine qO fun K2 aa=>?_;simp;(repeat (refine⟨by omega,?_⟩));refine aa _ ?_;clear aa K2))
   refine afZ (y:=false) (ents:=C) rfl rfl (by simp) (by simp) (by simp) (by simp) (by simp) fun E2 hE2=>?_;refine qP (af _ ?_);refine AW.st (by simp;rfl) ?_;clear af K';refine bZ (S:=List Nat×List (Value×Value)) (fun x=>qV E2 x.1 x.2) (fun x=>⟨lst [(2,.d (.sl none (inn.map fun b=>[.v (.bool b)]))),(3,.d (.ip [.sl none NN,.sl none RR])),(4,.d (.ip [.dm false I,.dm false C])),(6,.ref 6 0 0),(7,.ref 7 0 0),(33,.ref 33 0 0)],ak [(6,.box 62 [.d (.v (.map none)),.d (.v (.map none))]),(7,.box 62 [.mp 601,.mp 602]),(601,.mp 59 (cj L1)),(602,.mp 60 (cj x.2)),(33,.it E2 x.1)]⟩) (fun x=>((List.range E2.length).filter fun k=>!x.1.contains k).length) ([],[]) ?_ (F3 E2) ?_
   .refine aB.dK (fun _ _=>trivial) (by simp[cj]) (by simp[cj])
   .rintro⟨EC,L2⟩ hL2;dsimp only at hL2 ⊢;refine sZ (aay _) [2,3,4,6,7,33,35] [6,7,601,602,33] (fun _ _=>trivial) fun K' af=>?_;refine Ld (r:=33) (ents:=E2) (seen:=EC) rfl rfl (by simp) (by simp) (by simp) (by simp) (fun bB=>?_) (fun j hj fW=>?_)
    rotate_left
    .have eg:=acV hL2.ok;simp at eg;have bg:=eq_true eg;obtain⟨s1,cm⟩:=(uq hE2 okC).str E2[j] (List.getElem_mem hj)
     (repeat (refine qO fun K2 aa=>?_;simp;(repeat (refine⟨by omega,?_⟩));refine aa _ ?_;clear aa K2))
     refine qP (af _ ?_);refine AW.st (by simp;rfl) ?_;clear af K';refine ae fun K4 hK4=>?_;refine aax rfl ?_;refine ah (hK4 _ ?_);refine aU ?_;refine sZ (aay _) [2,3,4,6,7,10,11,33] [6,7,601,602,33] (fun _ _=>trivial) fun K' af=>?_;refine Lc (r:=33) (ents:=E2) (seen:=EC) (j:=j) rfl rfl (by simp) (by simp) (by simp) (by simp) hj ?_
     (repeat (refine qO fun K2 aa=>?_;simp[cm];(repeat (refine⟨by omega,?_⟩));refine aa _ ?_;clear aa K2))
     refine qP (af _ ?_);refine AW.st (by simp[cm];rfl) ?_;clear af K';have qf:=(Aq @cm (Aq @bg @c8));refine xm ?_;(try simp only[aM,aP]);refine aV.mk (EC ++ [j],b6 L2 s1 E2[j].2) (F2 (uq hE2 okC) hL2 hj cm) (IV hj fW) ?_;refine aa2
    .have Pe:=copied hE2 okC hL2 bB;clear hL2 bB
     (repeat (refine qO fun K2 aa=>?_;simp;(repeat (refine⟨by omega,?_⟩));refine aa _ ?_;clear aa K2))
     refine qP (af _ ?_);refine AW.st (by simp;rfl) ?_;clear af K';refine ae fun K4 hK4=>?_;refine ag rfl ?_;refine bG (aH _ ?_);refine ae fun K5 bN=>?_;refine aR trivial hkd [2,3,4,6,7,44,45,46] [6,7,601,602] ?_;refine bZ (S:=Nat×List (Value×Value)) (fun x=>x.1<=KI.length/\l7 x.2 (MI x.1)) (fun x=>⟨lst [(2,.d (.sl none (inn.map fun b=>[.v (.bool b)]))),(3,.d (.ip [.sl none NN,.sl none RR])),(4,.d (.ip [.dm false I,.dm false C])),(6,.ref 6 0 0),(7,.ref 7 0 0),(44,.d (.sl none (KI.map fun x=>[.v (.int .i64 x)]))),(45,int KI.length),(46,int x.1)],ak [(6,.box 62 [.d (.v (.map none)),.d (.v (.map none))]),(7,.box 62 [.mp 601,.mp 602]),(601,.mp 59 (cj x.2)),(602,.mp 60 (cj L2))]⟩) (fun x=>KI.length - x.1) (0,L1) ?_ ⟨by omega,by rw[Pj];exact Pd⟩ ?_
     .refine aa2
     .rintro⟨k,L3⟩ ⟨iA,hL3⟩;dsimp only at iA hL3 ⊢;refine aq [2,3,4,6,7,44,45,46,47] [6,7,601,602] ?_;refine ae fun K6 hK6=>?_;refine dw (b:=k < KI.length) (by simp[D.le,D.le.go,aaA]) (fun hc=>?_) (fun hc=>?_)
      .have ay:=hc
       have hk2:k < inn.length:=by omega
       obtain⟨i,hi,BS,nK⟩:=Pk k ay hk2
       have jr:i < NN.length:=by omega
       have iw:NN[i]=[.v (.string (bs p.names[i].name)),.v (.int .i64 p.names[i].kind),.v (.int .i64 p.names[i].count)]:=by
        have:=j9 i hi;rw[List.getElem?_eq_getElem jr]at this;exact Option.some.inj this
       generalize bs p.names[i].name=nm at iw nK;generalize p.names[i].kind=kd at iw;generalize p.names[i].count=ct at iw;have eg:=acV hL3.ok;simp at eg;have bg:=eq_true eg;refine ah (hK6 _ ?_);refine ae fun K7 dW=>?_;refine aU ?_;have qf:=(Aq @ay @BS);refine al [2,3,4,6,7,12,13,44,45,46] [6,7,601,602] ?_;refine qT (aay _) (by kernel_rfl) (by kernel_rfl) fun K' af=>?_;(repeat (refine cH fun K2 aa=>?_;simp[jr,iw,hk2,bg,c8];(repeat (refine⟨by omega,?_⟩));refine aa _ ?_;clear aa K2));refine jh (af _ ?_);clear af K';refine dW _ (AW.norm [2,3,4,6,7,44,45,46] [6,7,601,602] (fun _ _=>trivial) (AW.st (by simp[jr,iw,hk2,bg,c8];rfl) ?_));refine cG ?_;(try simp only[aM,aP]);refine aV.mk (k+1,b6 L3 nm (.bool inn[k])) ⟨by omega,by rw[nK];exact abX hL3 _ _⟩ (by omega) ?_;refine aa2
      .have hke:k=KI.length:=by omega
       refine bG (bN _ ?_)
       have Pg:l7 L3 (M 0).1:=by rw[GU,<- hke];exact hL3
       have Pf:l7 L2 (M 0).2:=by rw[GU];exact Pe
       refine ae fun K8 ez=>?_;refine aq [3,4,6,7,65,66,67] [6,7,601,602] ?_;refine bZ (S:=Nat×j1) (fun x=>x.1<=p.aaw.length/\l7 x.2.1 (M x.1).1/\l7 x.2.2 (M x.1).2) (fun x=>⟨lst [(3,.d (.ip [.sl none NN,.sl none RR])),(4,.d (.ip [.dm false I,.dm false C])),(6,.ref 6 0 0),(7,.ref 7 0 0),(65,.d (.sl none RR)),(66,int RR.length),(67,int x.1)],ak [(6,.box 62 [.d (.v (.map none)),.d (.v (.map none))]),(7,.box 62 [.mp 601,.mp 602]),(601,.mp 59 (cj x.2.1)),(602,.mp 60 (cj x.2.2))]⟩) (fun x=>p.aaw.length - x.1) (0,(L3,L2)) ?_ ⟨by omega,Pg,Pf⟩ ?_
       .refine aa2
       .rintro⟨n,L4,L5⟩ ⟨hn,gT,gw⟩;dsimp only at hn gT gw ⊢;have tC:=GY n;have tF:=fun h=>eY n h L4 L5 gT gw;have Y0:=BU (n+1);have BT:=GV n;have afw:=GX n
        have GW:n=p.aaw.length->M p.aaw.length=M n:=fun h=>by rw[h]
        have yG:=BU n;generalize o7:M n=mn at tC BT afw gT gw GW yG;obtain⟨N1,N2⟩:=mn;dsimp only at BT afw gT gw yG;clear BU GV GX eY GY;refine aq [3,4,6,7,65,66,67,68] [6,7,601,602] ?_;refine ae fun K9 hK9=>?_;by_cases ay:n < p.aaw.length
        .have aaZ:n < RR.length:=by omega
         refine aax (by simp[aaZ]) ?_;refine ah (hK9 _ ?_);refine ae fun kZ dz=>?_;refine aU ?_;obtain⟨e,he,aJ⟩:=tF ay;obtain⟨i,hi,kK,_,jK⟩:=Ac aN (List.getElem_mem ay);obtain⟨qg,rW,_⟩:=ad8 aN _ (List.getElem_mem ay)
         have HI:p.aaw[n].name=p.names[i].name:=by
          obtain⟨i2,hi2,he2,hs2⟩:=po rW;have h1:aaL p p.aaw[n].name=(i2:Int):=he2
          have:i2=i:=by omega
          subst this
          have:p.names[i2].name=p.aaw[n].name:=by simpa using hs2
          exact this.symm
         have bd:=tC ay;have gx:=mX n ay;have jw:=bD p.aaw[n].name;rw[kK]at jw;have afh:=BT i hi;rw[<- HI]at afh;unfold qz at bd;simp only[kK,Int.toNat_natCast,jK,he,nG]at bd;unfold cM at gx;rw[he]at gx;clear rW HI tC tF;generalize p.aaw[n]=r at gx jw qg bd afh kK;obtain⟨rk,rn,rc⟩:=r;dsimp only at gx jw qg bd afh kK;generalize da (eN p (T n).is) (eN p s.is) e=yes at aJ bd;rw[show iK (some e)=dR e from rfl]at gx;simp only[dS]at gx;have adW:=Oa gw afw (bs rn);have tJ:=Ob L5 (bs rn);generalize kc:acU (cA N2 (bs rn))=c at afh adW bd
         have kM:∀ x:Int,acU (cA (b6 N2 (bs rn) (.int .i64 x)) (bs rn))=x:=fun x=>by rw[my,if_pos rfl];rfl
         have jr:i < NN.length:=by omega
         have iw:NN[i]=[.v (.string (bs p.names[i].name)),.v (.int .i64 p.names[i].kind),.v (.int .i64 p.names[i].count)]:=by
          have:=j9 i hi;rw[List.getElem?_eq_getElem jr]at this;exact Option.some.inj this
         have yJ:RR[n]=[.v (.int .i64 rk),.v (.string (bs rn)),dR e]:=by
          rw[List.getElem?_eq_getElem aaZ]at gx;exact Option.some.inj gx
         have G6:(dR e).one=true:=by cases e<;>rfl
         generalize p.names[i].name=nm at iw;generalize p.names[i].kind=kd at iw;generalize p.names[i].count=top at iw bd;generalize bs rn=key at *;generalize dR e=er at yJ aJ G6;clear gx kK jK;have eg:=acV gT.ok;simp at eg;have bg:=eq_true eg;have hk2:=acV gw.ok;simp at hk2;have hk3:=eq_true hk2;have yT:=fun x:Value=>acV (ur key x gw.ok);simp at yT;have fm:=fun x=>eq_true (yT x);have qf:=(Aq @aaZ (Aq @yJ @G6));refine al [3,4,6,7,15,65,66,67] [6,7,601,602,15] ?_;refine dV 15 ?_;refine rg [3,4,6,7,15,16,65,66,67] [6,7,601,602] (fun _ _=>trivial) fun K' af=>?_;(repeat (refine sxn fun K2 aa=>?_;simp[ma];(repeat (refine⟨by omega,?_⟩));refine aa _ ?_;clear aa K2));refine sxn fun K2 aa=>?_;simp[ma];refine aaT.mw (aJ) (by simp[ma];rfl) (by first | exact D.aaE _ | simp[aaA,List.map_map,Function.comp_def,D.le,D.le.go,D.le_refl,D.aaE,ma]) (by simp[D.scalar,ma]) ?_;refine aa _ ?_;clear aa K2;simp only[aD,cu];(repeat (refine sxn fun K2 aa=>?_;simp[ma];(repeat (refine⟨by omega,?_⟩));refine aa _ ?_;clear aa K2));refine sxz (af _ (AW.st (by simp[ma];rfl) ?_));clear af K';have qf:=(Aq @jr @iw);refine uN jw [3,4,6,7,15,16,17,65,66,67] [6,7,601,602] ?_;refine aq [3,4,6,7,15,16,17,65,66,67,86] [6,7,601,602] ?_;refine aU ?_
         have wg:rk=1\/rk=2\/rk=3\/rk=4\/rk=5\/rk=6:=by omega
         rcases wg with rfl | rfl | rfl | rfl | rfl | rfl
         .simp at bd;refine aq [3,4,6,7,15,16,17,65,66,67,86,87] [6,7,601,602] ?_;refine aax rfl ?_;have qf:=(Aq @bg (Aq @hk3 (Aq @fm @c8)));refine cT dz [3,4,6,7,65,66,67] [6,7,601,602] ?_;refine cG ?_;(try simp only[aM,aP]);refine aV.mk (n+1,(b6 L4 key (.bool yes),L5)) ⟨by omega,?_,?_⟩ (by omega) ?_
          .rw[bd];exact abX gT _ _
          .rw[bd];exact gw
          .refine aa2
         .simp at bd;refine aq [3,4,6,7,15,16,17,65,66,67,86,87] [6,7,601,602] ?_;refine ag rfl ?_;refine aq [3,4,6,7,15,16,17,65,66,67,86,94] [6,7,601,602] ?_;refine aax rfl ?_;refine aq [3,4,6,7,15,65,66,67,96] [6,7,601,602] ?_
          cases yes with
          | true=>
           simp at bd;refine aax rfl ?_;have qf:=(Aq @bg (Aq @hk3 (Aq @fm @c8)));refine cT dz [3,4,6,7,65,66,67] [6,7,601,602] ?_;refine cG ?_;(try simp only[aM,aP]);refine aV.mk (n+1,(b6 L4 key (.bool true),L5)) ⟨by omega,?_,?_⟩ (by omega) ?_
           .rw[bd];exact abX gT _ _
           .rw[bd];exact gw
           .refine aa2
          | false=>
           simp at bd;refine ag rfl ?_;refine ah ?_;refine dz _ (AW.norm [3,4,6,7,65,66,67] [6,7,601,602] (fun _ _=>trivial) (AW.st (by simp;rfl) ?_));refine cG ?_;(try simp only[aM,aP]);refine aV.mk (n+1,(L4,L5)) ⟨by omega,?_,?_⟩ (by omega) ?_
           .rw[bd];exact gT
           .rw[bd];exact gw
           .refine aa2
         .simp at bd;refine aq [3,4,6,7,15,16,17,65,66,67,86,87] [6,7,601,602] ?_;refine ag rfl ?_;refine aq [3,4,6,7,15,16,17,65,66,67,86,94] [6,7,601,602] ?_;refine ag rfl ?_;refine aq [3,4,6,7,15,16,17,65,66,67,86,101] [6,7,601,602] ?_;refine aax rfl ?_;refine aq [3,4,6,7,15,65,66,67,103] [6,7,601,602] ?_
          cases yes with
          | true=>
           simp at bd;refine aax rfl ?_;have qf:=(Aq @bg (Aq @hk3 (Aq @fm @c8)));refine cT dz [3,4,6,7,65,66,67] [6,7,601,602] ?_;refine cG ?_;(try simp only[aM,aP]);refine aV.mk (n+1,(b6 L4 key (.bool false),L5)) ⟨by omega,?_,?_⟩ (by omega) ?_
           .rw[bd];exact abX gT _ _
           .rw[bd];exact gw
           .refine aa2
          | false=>
           simp at bd;refine ag rfl ?_;refine ah ?_;refine dz _ (AW.norm [3,4,6,7,65,66,67] [6,7,601,602] (fun _ _=>trivial) (AW.st (by simp;rfl) ?_));refine cG ?_;(try simp only[aM,aP]);refine aV.mk (n+1,(L4,L5)) ⟨by omega,?_,?_⟩ (by omega) ?_
           .rw[bd];exact gT
           .rw[bd];exact gw
           .refine aa2
         .simp at bd;refine aq [3,4,6,7,15,16,17,65,66,67,86,87] [6,7,601,602] ?_;refine ag rfl ?_;refine aq [3,4,6,7,15,16,17,65,66,67,86,94] [6,7,601,602] ?_;refine ag rfl ?_;refine aq [3,4,6,7,15,16,17,65,66,67,86,101] [6,7,601,602] ?_;refine ag rfl ?_;refine ae fun pL j8=>?_;refine aq [3,4,6,7,15,16,17,65,66,67,86,108] [6,7,601,602] ?_;refine aax rfl ?_;refine ah ?_;refine j8 _ (AW.norm [3,4,6,7,15,16,17,65,66,67,86,108] [6,7,601,602] (fun _ _=>trivial) (AW.st (by simp;rfl) ?_));refine aax rfl ?_;refine ae fun s3 acs=>?_;have Co:∃ oc,abW (.string key) (cj L5)=oc/\((oc=none/\c=0)\/oc=some (.v (.int .i64 c))):=⟨_,rfl,adW⟩;clear adW;obtain⟨oc,iV,adW⟩:=Co
          rcases adW with⟨rfl,rfl⟩ | rfl
          .cases yes with
           | true=>
            by_cases gy:0 < top
            .simp[gy,kM,kc]at bd;have qf:=(Aq @bg (Aq @hk3 (Aq @fm (Aq @c8 (Aq @iV (Aq @aa7.eq_1 (Aq @bQ.eq_1 (Aq @bQ.eq_2 @gy))))))));refine al [3,4,6,7,15,16,17,65,66,67,120] [6,7,601,602] ?_;refine aax (by simp[gy]) ?_;have qf:=(Aq @bg (Aq @hk3 (Aq @fm (Aq @c8 (Aq @iV (Aq @aa7.eq_1 (Aq @bQ.eq_1 @bQ.eq_2)))))));refine cT acs [3,4,6,7,15,16,17,65,66,67] [6,7,601,602] ?_;refine ae fun j0 eW=>?_;refine aq [3,4,6,7,15,17,65,66,67,133] [6,7,601,602] ?_;refine ag rfl ?_;refine ah ?_;refine eW _ (AW.norm [3,4,6,7,15,17,65,66,67] [6,7,601,602] (fun _ _=>trivial) (AW.st (by simp;rfl) ?_));have qf:=(Aq @bg (Aq @hk3 (Aq @fm (Aq @c8 (Aq @tJ (Aq @aa7.eq_1 (Aq @bQ.eq_1 @bQ.eq_2)))))));refine cT dz [3,4,6,7,65,66,67] [6,7,601,602] ?_;refine cG ?_;(try simp only[aM,aP]);refine aV.mk (n+1,(b6 L4 key (.bool ((0:Int)+1 == top)),b6 L5 key (.int .i64 ((0:Int)+1)))) ⟨by omega,?_,?_⟩ (by omega) ?_
             .rw[bd];exact abX gT _ _
             .rw[bd];exact abX gw _ _
             .refine aa2
            .simp[gy,kM,kc]at bd;have qf:=(Aq @bg (Aq @hk3 (Aq @fm (Aq @c8 (Aq @iV (Aq @aa7.eq_1 (Aq @bQ.eq_1 (Aq @bQ.eq_2 @gy))))))));refine al [3,4,6,7,15,16,17,65,66,67,120] [6,7,601,602] ?_;refine ag (by simp[gy]) ?_;refine ah ?_;refine acs _ (AW.norm [3,4,6,7,15,16,17,65,66,67] [6,7,601,602] (fun _ _=>trivial) (AW.st (by simp;rfl) ?_));refine ae fun j0 eW=>?_;refine aq [3,4,6,7,15,17,65,66,67,133] [6,7,601,602] ?_;refine ag rfl ?_;refine ah ?_;refine eW _ (AW.norm [3,4,6,7,15,17,65,66,67] [6,7,601,602] (fun _ _=>trivial) (AW.st (by simp;rfl) ?_));have qf:=(Aq @bg (Aq @hk3 (Aq @fm (Aq @c8 (Aq @iV (Aq @aa7.eq_1 (Aq @bQ.eq_1 @bQ.eq_2)))))));refine cT dz [3,4,6,7,65,66,67] [6,7,601,602] ?_;refine cG ?_;(try simp only[aM,aP]);refine aV.mk (n+1,(b6 L4 key (.bool ((0:Int) == top)),L5)) ⟨by omega,?_,?_⟩ (by omega) ?_
             .rw[bd];exact abX gT _ _
             .rw[bd];exact gw
             .refine aa2
           | false=>
            simp[kM,kc]at bd;refine aq [3,4,6,7,15,16,17,65,66,67,120] [6,7,601,602] ?_;refine ag (by simp) ?_;refine ah ?_;refine acs _ (AW.norm [3,4,6,7,15,16,17,65,66,67] [6,7,601,602] (fun _ _=>trivial) (AW.st (by simp;rfl) ?_));refine ae fun j0 eW=>?_;refine aq [3,4,6,7,15,17,65,66,67,133] [6,7,601,602] ?_;refine aax rfl ?_;have qf:=(Aq @bg (Aq @hk3 (Aq @fm @c8)));refine cT eW [3,4,6,7,15,17,65,66,67] [6,7,601,602] ?_;have qf:=(Aq @bg (Aq @hk3 (Aq @fm (Aq @c8 (Aq @tJ (Aq @aa7.eq_1 (Aq @bQ.eq_1 @bQ.eq_2)))))));refine cT dz [3,4,6,7,65,66,67] [6,7,601,602] ?_;refine cG ?_;(try simp only[aM,aP]);refine aV.mk (n+1,(b6 L4 key (.bool ((0:Int) == top)),b6 L5 key (.int .i64 0))) ⟨by omega,?_,?_⟩ (by omega) ?_
            .rw[bd];exact abX gT _ _
            .rw[bd];exact abX gw _ _
            .refine aa2
          .cases yes with
           | true=>
            by_cases gy:c < top
            .simp[gy,kM,kc]at bd;have qf:=(Aq @bg (Aq @hk3 (Aq @fm (Aq @c8 (Aq @iV (Aq @aa7.eq_1 (Aq @bQ.eq_1 (Aq @bQ.eq_2 @gy))))))));refine al [3,4,6,7,15,16,17,65,66,67,120] [6,7,601,602] ?_;refine aax (by simp[gy]) ?_;have qf:=(Aq @bg (Aq @hk3 (Aq @fm (Aq @c8 (Aq @iV (Aq @aa7.eq_1 (Aq @bQ.eq_1 @bQ.eq_2)))))));refine cT acs [3,4,6,7,15,16,17,65,66,67] [6,7,601,602] ?_;refine ae fun j0 eW=>?_;refine aq [3,4,6,7,15,17,65,66,67,133] [6,7,601,602] ?_;refine ag rfl ?_;refine ah ?_;refine eW _ (AW.norm [3,4,6,7,15,17,65,66,67] [6,7,601,602] (fun _ _=>trivial) (AW.st (by simp;rfl) ?_));have qf:=(Aq @bg (Aq @hk3 (Aq @fm (Aq @c8 (Aq @tJ (Aq @aa7.eq_1 (Aq @bQ.eq_1 @bQ.eq_2)))))));refine cT dz [3,4,6,7,65,66,67] [6,7,601,602] ?_;refine cG ?_;(try simp only[aM,aP]);refine aV.mk (n+1,(b6 L4 key (.bool (c+1 == top)),b6 L5 key (.int .i64 (c+1)))) ⟨by omega,?_,?_⟩ (by omega) ?_
             .rw[bd];exact abX gT _ _
             .rw[bd];exact abX gw _ _
             .refine aa2
            .simp[gy,kM,kc]at bd;have qf:=(Aq @bg (Aq @hk3 (Aq @fm (Aq @c8 (Aq @iV (Aq @aa7.eq_1 (Aq @bQ.eq_1 (Aq @bQ.eq_2 @gy))))))));refine al [3,4,6,7,15,16,17,65,66,67,120] [6,7,601,602] ?_;refine ag (by simp[gy]) ?_;refine ah ?_;refine acs _ (AW.norm [3,4,6,7,15,16,17,65,66,67] [6,7,601,602] (fun _ _=>trivial) (AW.st (by simp;rfl) ?_));refine ae fun j0 eW=>?_;refine aq [3,4,6,7,15,17,65,66,67,133] [6,7,601,602] ?_;refine ag rfl ?_;refine ah ?_;refine eW _ (AW.norm [3,4,6,7,15,17,65,66,67] [6,7,601,602] (fun _ _=>trivial) (AW.st (by simp;rfl) ?_));have qf:=(Aq @bg (Aq @hk3 (Aq @fm (Aq @c8 (Aq @iV (Aq @aa7.eq_1 (Aq @bQ.eq_1 @bQ.eq_2)))))));refine cT dz [3,4,6,7,65,66,67] [6,7,601,602] ?_;refine cG ?_;(try simp only[aM,aP]);refine aV.mk (n+1,(b6 L4 key (.bool (c == top)),L5)) ⟨by omega,?_,?_⟩ (by omega) ?_
             .rw[bd];exact abX gT _ _
             .rw[bd];exact gw
             .refine aa2
           | false=>
            simp[kM,kc]at bd;refine aq [3,4,6,7,15,16,17,65,66,67,120] [6,7,601,602] ?_;refine ag (by simp) ?_;refine ah ?_;refine acs _ (AW.norm [3,4,6,7,15,16,17,65,66,67] [6,7,601,602] (fun _ _=>trivial) (AW.st (by simp;rfl) ?_));refine ae fun j0 eW=>?_;refine aq [3,4,6,7,15,17,65,66,67,133] [6,7,601,602] ?_;refine aax rfl ?_;have qf:=(Aq @bg (Aq @hk3 (Aq @fm @c8)));refine cT eW [3,4,6,7,15,17,65,66,67] [6,7,601,602] ?_;have qf:=(Aq @bg (Aq @hk3 (Aq @fm (Aq @c8 (Aq @tJ (Aq @aa7.eq_1 (Aq @bQ.eq_1 @bQ.eq_2)))))));refine cT dz [3,4,6,7,65,66,67] [6,7,601,602] ?_;refine cG ?_;(try simp only[aM,aP]);refine aV.mk (n+1,(b6 L4 key (.bool ((0:Int) == top)),b6 L5 key (.int .i64 0))) ⟨by omega,?_,?_⟩ (by omega) ?_
            .rw[bd];exact abX gT _ _
            .rw[bd];exact abX gw _ _
            .refine aa2
         .simp at bd;refine aq [3,4,6,7,15,16,17,65,66,67,86,87] [6,7,601,602] ?_;refine ag rfl ?_;refine aq [3,4,6,7,15,16,17,65,66,67,86,94] [6,7,601,602] ?_;refine ag rfl ?_;refine aq [3,4,6,7,15,16,17,65,66,67,86,101] [6,7,601,602] ?_;refine ag rfl ?_;refine ae fun pL j8=>?_;refine aq [3,4,6,7,15,16,17,65,66,67,86,108] [6,7,601,602] ?_;refine ag rfl ?_;refine reK trivial j8 [3,4,6,7,15,16,17,65,66,67,86,108] [6,7,601,602] ?_;refine aax rfl ?_;refine ae fun s3 acs=>?_;have Co:∃ oc,abW (.string key) (cj L5)=oc/\((oc=none/\c=0)\/oc=some (.v (.int .i64 c))):=⟨_,rfl,adW⟩;clear adW;obtain⟨oc,iV,adW⟩:=Co
          rcases adW with⟨rfl,rfl⟩ | rfl
          .cases yes with
           | true=>
            by_cases gy:0 < top
            .simp[gy,kM,kc]at bd;have qf:=(Aq @bg (Aq @hk3 (Aq @fm (Aq @c8 (Aq @iV (Aq @aa7.eq_1 (Aq @bQ.eq_1 (Aq @bQ.eq_2 @gy))))))));refine al [3,4,6,7,15,16,17,65,66,67,120] [6,7,601,602] ?_;refine aax (by simp[gy]) ?_;have qf:=(Aq @bg (Aq @hk3 (Aq @fm (Aq @c8 (Aq @iV (Aq @aa7.eq_1 (Aq @bQ.eq_1 @bQ.eq_2)))))));refine cT acs [3,4,6,7,15,16,17,65,66,67] [6,7,601,602] ?_;refine ae fun j0 eW=>?_;refine aq [3,4,6,7,15,17,65,66,67,133] [6,7,601,602] ?_;refine ag rfl ?_;refine ah ?_;refine eW _ (AW.norm [3,4,6,7,15,17,65,66,67] [6,7,601,602] (fun _ _=>trivial) (AW.st (by simp;rfl) ?_));have qf:=(Aq @bg (Aq @hk3 (Aq @fm (Aq @c8 (Aq @tJ (Aq @aa7.eq_1 (Aq @bQ.eq_1 @bQ.eq_2)))))));refine cT dz [3,4,6,7,65,66,67] [6,7,601,602] ?_;refine cG ?_;(try simp only[aM,aP]);refine aV.mk (n+1,(b6 L4 key (.bool ((0:Int)+1 == top)),b6 L5 key (.int .i64 ((0:Int)+1)))) ⟨by omega,?_,?_⟩ (by omega) ?_
             .rw[bd];exact abX gT _ _
             .rw[bd];exact abX gw _ _
             .refine aa2
            .simp[gy,kM,kc]at bd;have qf:=(Aq @bg (Aq @hk3 (Aq @fm (Aq @c8 (Aq @iV (Aq @aa7.eq_1 (Aq @bQ.eq_1 (Aq @bQ.eq_2 @gy))))))));refine al [3,4,6,7,15,16,17,65,66,67,120] [6,7,601,602] ?_;refine ag (by simp[gy]) ?_;refine ah ?_;refine acs _ (AW.norm [3,4,6,7,15,16,17,65,66,67] [6,7,601,602] (fun _ _=>trivial) (AW.st (by simp;rfl) ?_));refine ae fun j0 eW=>?_;refine aq [3,4,6,7,15,17,65,66,67,133] [6,7,601,602] ?_;refine ag rfl ?_;refine ah ?_;refine eW _ (AW.norm [3,4,6,7,15,17,65,66,67] [6,7,601,602] (fun _ _=>trivial) (AW.st (by simp;rfl) ?_));have qf:=(Aq @bg (Aq @hk3 (Aq @fm (Aq @c8 (Aq @iV (Aq @aa7.eq_1 (Aq @bQ.eq_1 @bQ.eq_2)))))));refine cT dz [3,4,6,7,65,66,67] [6,7,601,602] ?_;refine cG ?_;(try simp only[aM,aP]);refine aV.mk (n+1,(b6 L4 key (.bool ((0:Int) == top)),L5)) ⟨by omega,?_,?_⟩ (by omega) ?_
             .rw[bd];exact abX gT _ _
             .rw[bd];exact gw
             .refine aa2
           | false=>
            simp[kM,kc]at bd;refine aq [3,4,6,7,15,16,17,65,66,67,120] [6,7,601,602] ?_;refine ag (by simp) ?_;refine ah ?_;refine acs _ (AW.norm [3,4,6,7,15,16,17,65,66,67] [6,7,601,602] (fun _ _=>trivial) (AW.st (by simp;rfl) ?_));refine ae fun j0 eW=>?_;refine aq [3,4,6,7,15,17,65,66,67,133] [6,7,601,602] ?_;refine ag rfl ?_;refine ah ?_;refine eW _ (AW.norm [3,4,6,7,15,17,65,66,67] [6,7,601,602] (fun _ _=>trivial) (AW.st (by simp;rfl) ?_));have qf:=(Aq @bg (Aq @hk3 (Aq @fm (Aq @c8 (Aq @iV (Aq @aa7.eq_1 (Aq @bQ.eq_1 @bQ.eq_2)))))));refine cT dz [3,4,6,7,65,66,67] [6,7,601,602] ?_;refine cG ?_;(try simp only[aM,aP]);refine aV.mk (n+1,(b6 L4 key (.bool ((0:Int) == top)),L5)) ⟨by omega,?_,?_⟩ (by omega) ?_
            .rw[bd];exact abX gT _ _
            .rw[bd];exact gw
            .refine aa2
          .cases yes with
           | true=>
            by_cases gy:c < top
            .simp[gy,kM,kc]at bd;have qf:=(Aq @bg (Aq @hk3 (Aq @fm (Aq @c8 (Aq @iV (Aq @aa7.eq_1 (Aq @bQ.eq_1 (Aq @bQ.eq_2 @gy))))))));refine al [3,4,6,7,15,16,17,65,66,67,120] [6,7,601,602] ?_;refine aax (by simp[gy]) ?_;have qf:=(Aq @bg (Aq @hk3 (Aq @fm (Aq @c8 (Aq @iV (Aq @aa7.eq_1 (Aq @bQ.eq_1 @bQ.eq_2)))))));refine cT acs [3,4,6,7,15,16,17,65,66,67] [6,7,601,602] ?_;refine ae fun j0 eW=>?_;refine aq [3,4,6,7,15,17,65,66,67,133] [6,7,601,602] ?_;refine ag rfl ?_;refine ah ?_;refine eW _ (AW.norm [3,4,6,7,15,17,65,66,67] [6,7,601,602] (fun _ _=>trivial) (AW.st (by simp;rfl) ?_));have qf:=(Aq @bg (Aq @hk3 (Aq @fm (Aq @c8 (Aq @tJ (Aq @aa7.eq_1 (Aq @bQ.eq_1 @bQ.eq_2)))))));refine cT dz [3,4,6,7,65,66,67] [6,7,601,602] ?_;refine cG ?_;(try simp only[aM,aP]);refine aV.mk (n+1,(b6 L4 key (.bool (c+1 == top)),b6 L5 key (.int .i64 (c+1)))) ⟨by omega,?_,?_⟩ (by omega) ?_
             .rw[bd];exact abX gT _ _
             .rw[bd];exact abX gw _ _
             .refine aa2
            .simp[gy,kM,kc]at bd;have qf:=(Aq @bg (Aq @hk3 (Aq @fm (Aq @c8 (Aq @iV (Aq @aa7.eq_1 (Aq @bQ.eq_1 (Aq @bQ.eq_2 @gy))))))));refine al [3,4,6,7,15,16,17,65,66,67,120] [6,7,601,602] ?_;refine ag (by simp[gy]) ?_;refine ah ?_;refine acs _ (AW.norm [3,4,6,7,15,16,17,65,66,67] [6,7,601,602] (fun _ _=>trivial) (AW.st (by simp;rfl) ?_));refine ae fun j0 eW=>?_;refine aq [3,4,6,7,15,17,65,66,67,133] [6,7,601,602] ?_;refine ag rfl ?_;refine ah ?_;refine eW _ (AW.norm [3,4,6,7,15,17,65,66,67] [6,7,601,602] (fun _ _=>trivial) (AW.st (by simp;rfl) ?_));have qf:=(Aq @bg (Aq @hk3 (Aq @fm (Aq @c8 (Aq @iV (Aq @aa7.eq_1 (Aq @bQ.eq_1 @bQ.eq_2)))))));refine cT dz [3,4,6,7,65,66,67] [6,7,601,602] ?_;refine cG ?_;(try simp only[aM,aP]);refine aV.mk (n+1,(b6 L4 key (.bool (c == top)),L5)) ⟨by omega,?_,?_⟩ (by omega) ?_
             .rw[bd];exact abX gT _ _
             .rw[bd];exact gw
             .refine aa2
           | false=>
            simp[kM,kc]at bd;refine aq [3,4,6,7,15,16,17,65,66,67,120] [6,7,601,602] ?_;refine ag (by simp) ?_;refine ah ?_;refine acs _ (AW.norm [3,4,6,7,15,16,17,65,66,67] [6,7,601,602] (fun _ _=>trivial) (AW.st (by simp;rfl) ?_));refine ae fun j0 eW=>?_;refine aq [3,4,6,7,15,17,65,66,67,133] [6,7,601,602] ?_;refine ag rfl ?_;refine ah ?_;refine eW _ (AW.norm [3,4,6,7,15,17,65,66,67] [6,7,601,602] (fun _ _=>trivial) (AW.st (by simp;rfl) ?_));have qf:=(Aq @bg (Aq @hk3 (Aq @fm (Aq @c8 (Aq @iV (Aq @aa7.eq_1 (Aq @bQ.eq_1 @bQ.eq_2)))))));refine cT dz [3,4,6,7,65,66,67] [6,7,601,602] ?_;refine cG ?_;(try simp only[aM,aP]);refine aV.mk (n+1,(b6 L4 key (.bool (c == top)),L5)) ⟨by omega,?_,?_⟩ (by omega) ?_
            .rw[bd];exact abX gT _ _
            .rw[bd];exact gw
            .refine aa2
         .simp at bd;refine aq [3,4,6,7,15,16,17,65,66,67,86,87] [6,7,601,602] ?_;refine ag rfl ?_;refine aq [3,4,6,7,15,16,17,65,66,67,86,94] [6,7,601,602] ?_;refine ag rfl ?_;refine aq [3,4,6,7,15,16,17,65,66,67,86,101] [6,7,601,602] ?_;refine ag rfl ?_;refine ae fun pL j8=>?_;refine aq [3,4,6,7,15,16,17,65,66,67,86,108] [6,7,601,602] ?_;refine ag rfl ?_;refine reK trivial j8 [3,4,6,7,15,16,17,65,66,67,86,108] [6,7,601,602] ?_;refine ag rfl ?_;refine aq [3,4,6,7,15,16,65,66,67,149] [6,7,601,602] ?_;refine aax rfl ?_;refine aq [3,4,6,7,15,65,66,67,151] [6,7,601,602] ?_
          cases yes with
          | true=>
           simp at bd;refine aax rfl ?_;refine adE (aay _) (by kernel_rfl) [(1,7),(3,999),(5,7),(7,999),(8,602),(9,601)] (by kernel_rfl) fun K' af=>?_;(repeat (refine gk fun K2 aa=>?_;simp[bg,hk3,fm,c8];(repeat (refine⟨by omega,?_⟩));refine aa _ ?_;clear aa K2));refine ab8 (af _ ?_);clear af K';refine dz _ (AW.norm [3,4,6,7,65,66,67] [6,7,601,602] (fun _ _=>trivial) (AW.st (by simp[bg,hk3,fm,c8];rfl) ?_));refine cG ?_;(try simp only[aM,aP]);refine aV.mk (n+1,(b6 L4 key (.bool false),b6 L5 key (.int .i64 0))) ⟨by omega,?_,?_⟩ (by omega) ?_
           .rw[bd];exact abX gT _ _
           .rw[bd];exact abX gw _ _
           .refine aa2
          | false=>
           simp at bd;refine ag rfl ?_;refine ah ?_;refine dz _ (AW.norm [3,4,6,7,65,66,67] [6,7,601,602] (fun _ _=>trivial) (AW.st (by simp;rfl) ?_));refine cG ?_;(try simp only[aM,aP]);refine aV.mk (n+1,(L4,L5)) ⟨by omega,?_,?_⟩ (by omega) ?_
           .rw[bd];exact gT
           .rw[bd];exact gw
           .refine aa2
        .have aO:n=p.aaw.length:=by omega
         have Pm:=GW aO;refine ag (by simp<;>omega) ?_;refine bG (ez _ ?_);refine aq [6] [6,7,601,602] ?_;have eh:=Gn gT yG.1;have hp2:=Gn gw yG.2;refine bn ?_;simp[D.le,D.le.go,aaA,Pm,ma,eh,hp2]
theorem JN {p:PgP} (hg:abT p) {i:Nat} (hi:i < p.names.length):b8 p p.names[i]<=8:=by
 have h5:=hg.count _ (List.getElem_mem hi);unfold b8;split
 .rcases h5 with h5 | h5<;>omega
 .split
  .omega
  .split<;>omega
def jA (p:PgP) (k:Nat):Int:=bq (eb p k)
theorem Ei (p:PgP):jA p 0=1:=rfl
theorem JW (p:PgP):jA p p.names.length=bq (bh p):=rfl
theorem zQ {p:PgP} (hg:abT p) {i:Nat} (hi:i < p.names.length):jA p (i+1)=if b8 p p.names[i]=0 then jA p i else jA p i * b8 p p.names[i]:=VP hg hi
theorem ae5 {p:PgP} (hg:abT p):∀ k,k<=p.names.length->0 < jA p k
 | 0,_=>by rw[Ei];decide
 | k+1,h=>by
  have ih:=ae5 hg k (by omega);have hk:=pw hg (show k < p.names.length by omega);rw[zQ hg (by omega)];split
  .exact ih
  .exact Int.mul_pos ih (by omega)
theorem JY {p:PgP} (hg:abT p) {k:Nat} (h:k < p.names.length):jA p k<=jA p (k+1):=by
 have ih:=ae5 hg k (by omega);have hk:=pw hg h;rw[zQ hg h];split
 .exact Int.le_refl _
 .have:=Int.mul_le_mul_of_nonneg_left (show (1:Int)<=b8 p p.names[k] by omega) (Int.le_of_lt ih);rw[Int.mul_one]at this;exact this
theorem JX {p:PgP} (hg:abT p):∀ d k,k+d<=p.names.length->jA p k<=jA p (k+d)
 | 0,_,_=>Int.le_refl _
 | d+1,k,h=>by
  have h1:=JX hg d k (by omega);have h2:=JY hg (show k+d < p.names.length by omega)
  have:k+(d+1)=k+d+1:=by omega
  rw[this];omega
theorem VM {p:PgP} (hg:abT p) {k:Nat} (h:k<=p.names.length):jA p k<=bq (bh p):=by
 have:=JX hg (p.names.length - k) k (by omega);rw[show k+(p.names.length - k)=p.names.length by omega]at this;exact this
def jk (p:PgP):Nat->Int
 | 0=>1
 | k+1=>if 0 < (dk p).getD k 0/\jk p k<=4096 then jk p k * (dk p).getD k 0 else jk p k
theorem KC {p:PgP} {k:Nat} (h:k < p.names.length):(dk p).getD k 0=b8 p p.names[k]:=by
 have:k < (dk p).length:=by simpa[dk]using h
 rw[fj this];simp[dk]
theorem afd {p:PgP} (hg:abT p):∀ k,k<=p.names.length->(jA p k<=4096/\jk p k=jA p k)\/(4096 < jA p k/\4096 < jk p k/\jk p k<=32768)
 | 0,_=>.inl ⟨by rw[Ei];decide,by rw[Ei];rfl⟩
 | k+1,h=>by
  have hk:k < p.names.length:=by omega
  have ih:=afd hg k (by omega);have h1:=zQ hg hk;have h2:=pw hg hk;have h3:=JN hg hk;have h4:=JY hg hk;have h5:=ae5 hg k (by omega);rw[jk,KC hk]
  rcases ih with⟨i1,i2⟩ | ⟨i1,i2,i3⟩
  .rw[i2];by_cases hz:b8 p p.names[k]=0
   .rw[if_pos hz]at h1;rw[if_neg (by omega),h1];exact .inl ⟨i1,rfl⟩
   .rw[if_neg hz]at h1;rw[if_pos ⟨by omega,i1⟩,h1];have h6:=Int.mul_le_mul i1 h3 h2 (by decide);by_cases hb:jA p k * b8 p p.names[k]<=4096
    .exact .inl ⟨hb,rfl⟩
    .exact .inr ⟨by omega,by omega,by omega⟩
  .rw[if_neg (by omega)];exact .inr ⟨by omega,i2,i3⟩
def kT (p:PgP):Bool:=decide (4096 < bq (bh p)) || decide (6 < (aQ p).length)
def pt (p:PgP) (most:Int):Bool:=!kT p && (decide (most < bq (bh p)) || decide (4 < (aQ p).length))
theorem OM {p:PgP} (hg:abT p):(decide (4096 < jk p p.names.length) || decide (6 < (aQ p).length))=kT p:=by
 unfold kT;have h:=afd hg p.names.length (Nat.le_refl _);rw[JW]at h
 rcases h with⟨h1,h2⟩ | ⟨h1,h2,_⟩
 .rw[h2]
 .rw[decide_eq_true h1,decide_eq_true h2]
theorem OL {p:PgP} (hg:abT p) (most:Int):(!kT p && (decide (most < jk p p.names.length) || decide (4 < (aQ p).length)))=pt p most:=by
 unfold pt;have h:=afd hg p.names.length (Nat.le_refl _);rw[JW]at h
 rcases h with⟨h1,h2⟩ | ⟨h1,h2,_⟩
 .rw[h2]
 .have:kT p=true:=by unfold kT;rw[decide_eq_true h1];rfl
  rw[this];rfl
theorem ON (G:ao) (hM:acb G) (p:PgP) (aN:cf p=none) (hk:∀ r∈p.aaw,acZ r) (most:Int):ar prog G 14 [cE p,ab most] (.tup [.v (.bool (kT p)),.v (.bool (pt p most))]):=by
 have hg:=fB aN;have dX:=hg.names;have lf:=xo G hM p aN hk;have hkd:=xK G p (by omega) 1;have iS:fN p.names 1 p.names.length=aQ p:=rfl;rw[iS]at hkd;simp only[cE,dM,bK,eV]at lf hkd
 have hRl:(dk p).length=p.names.length:=by simp[dk]
 have rN:∀ k (h:k < (dk p).length),jk p (k+1)=if 0 < (dk p)[k]/\jk p k<=4096 then jk p k * (dk p)[k] else jk p k:=fun k h=>by rw[jk,fj h]
 have Qq:∀ k,k<=(dk p).length->0 < jk p k/\jk p k<=32768:=fun k h=>by
  have h1:=afd hg k (by omega);have h2:=ae5 hg k (by omega)
  rcases h1 with⟨h1,h3⟩ | ⟨_,h1,h3⟩<;>omega
 have Pw:∀ k (h:k < (dk p).length),0<=(dk p)[k]/\(dk p)[k]<=8:=fun k h=>by
  have h1:=pw hg (show k < p.names.length by omega);have h2:=JN hg (show k < p.names.length by omega);rw[<- KC (by omega),fj h]at h1 h2;exact⟨h1,h2⟩
 have CY:=OM hg;have o8:=OL hg most;have cr:=qv p.names 1 p.names.length;rw[iS]at cr;rw[<- hRl]at CY o8;rw[<- o8,<- CY];clear CY o8;have Qo:jk p 0=1:=rfl;generalize jk p=g at *;generalize dk p=RP at *
 have jl:((aQ p).map fun x=>[D.v (.int .i64 x)]).length=(aQ p).length:=by simp
 generalize ((aQ p).map fun x=>[D.v (.int .i64 x)])=IN at *;generalize (aQ p).length=m at *;simp only[cE,dM,bK,ab];generalize p.names.map aW=NN at *;generalize p.aaw.map cM=RR at *;refine ar.aC (aay _) func14 rfl rfl (rs:=[.tmp 4,.tmp 5]) results14 (by simp[ntmps14]) fun X=>?_;simp only[ntmps14,List.map];refine aq [1,2] [2] ?_;refine dV 2 ?_;refine aq [1,2,6] [] ?_;refine ae fun K1 au=>?_;refine aR trivial lf [1,2,6,7,8] [] ?_;refine bZ (S:=Nat) (fun k=>k<=RP.length) (fun k=>⟨lst [(1,int most),(2,.d (.ip [.sl none NN,.sl none RR])),(6,int (g k)),(7,int k),(8,.d (.sl none (RP.map fun x=>[.v (.int .i64 x)])))],ak []⟩) (fun k=>RP.length - k) 0 ?_ (by omega) ?_
 .rw[Qo];refine aa2
 .intro k iA;refine ae fun K2 aa=>?_;have lN:=rN k;have hb:=Qq k iA
  have qb:k=RP.length->g RP.length=g k:=fun e=>by rw[e]
  generalize ke:g k=v at lN hb qb ⊢;refine aq [1,2,6,7,8,15] [] ?_;refine dw (b:=k < RP.length) (by simp[D.le,D.le.go,aaA]) (fun hc=>?_) (fun hc=>?_)
  .have lN:=lN hc;have hR:=Pw k hc;refine ah (aa _ ?_);refine ae fun K3 aH=>?_;refine aU ?_;generalize fb:RP[k]=K at lN hR;by_cases hp:K > 0
   .by_cases hv:v<=4096
    .rw[if_pos ⟨hp,hv⟩]at lN;have hw:=Int.mul_le_mul hv hR.2 hR.1 (by decide);have lT:=Int.mul_nonneg (Int.le_of_lt hb.1) hR.1;have qf:=(Aq @hc (Aq @fb (Aq @hp @hv)));refine al [1,2,6,7,8,26] [] ?_;refine aax (by simp[hp,hv]) ?_;have qf:=(Aq @hc @fb);refine cT aH [1,2,6,7,8] [] ?_;refine cG ?_;(try simp only[aM,aP]);refine aV.mk (k+1) (by omega) (by omega) ?_;rw[lN];refine aa2
    .rw[if_neg (fun h=>hv h.2)]at lN;have qf:=(Aq @hc (Aq @fb (Aq @hp @hv)));refine al [1,2,6,7,8,26] [] ?_;refine ag (by simp[hp,hv]) ?_;refine ah (aH _ ?_);refine cG ?_;(try simp only[aM,aP]);refine aV.mk (k+1) (by omega) (by omega) ?_;rw[lN];refine aa2
   .rw[if_neg (fun h=>hp h.1)]at lN;have qf:=(Aq @hc (Aq @fb @hp));refine al [1,2,6,7,8,26] [] ?_;refine ag (by simp[hp]) ?_;refine ah (aH _ ?_);refine cG ?_;(try simp only[aM,aP]);refine aV.mk (k+1) (by omega) (by omega) ?_;rw[lN];refine aa2
  .have hke:k=RP.length:=by omega
   refine bG (au _ ?_);rw[qb hke];clear lN ke qb;by_cases h1:v > 4096
   .have qf:=@h1;refine al [1,2,6,9] [] ?_;have qf:=@h1;refine al [4,5] [] ?_;exact aG @h1
   .by_cases h2:(m:Int) > 6
    .have yw:6 < m:=by omega
     have h2m:¬ m<=6:=by omega
     have qf:=(Aq @h1 (Aq @h2 @jl));refine dv hkd [1,2,6,9] [] ?_;have qf:=(Aq @h1 @h2);refine al [4,5] [] ?_;exact aG (Aq @h1 (Aq @h2 (Aq @yw @h2m)))
    .have yw:m<=6:=by omega
     have h2m:¬ 6 < m:=by omega
     have h4:((4:Int) < (m:Int))=(4 < m):=propext (by omega);by_cases h3:v > most
     .have qf:=(Aq @h1 (Aq @h2 @jl));refine dv hkd [1,2,6,9] [] ?_;have qf:=(Aq @h1 (Aq @h2 @h3));refine al [4,5] [] ?_;exact aG (Aq @h1 (Aq @h2 (Aq @h3 (Aq @yw @h2m))))
     .have qf:=(Aq @h1 (Aq @h2 @jl));refine dv hkd [1,2,6,9] [] ?_;have qf:=(Aq @h1 (Aq @h2 (Aq @h3 @jl)));refine dv hkd [4,5] [] ?_;exact aG (Aq @h1 (Aq @h2 (Aq @h3 (Aq @yw (Aq @h2m @h4)))))
theorem YC (G:ao) (hM:acb G) (p:PgP) (aN:cf p=none) (hk:∀ r∈p.aaw,acZ r) (aF:(aQ p).length<=6) (hP:bq (bh p)<=4096):ar prog G 17 [cE p] (.tup [dMw p (bq (bh p)) ((2 ^ (aQ p).length:Nat):Int) (fg (gO p)),.v (.bool true)]):=by
 have hg:=fB aN;have dX:=hg.names;have hkd:=xK G p (by omega) 1;have iS:fN p.names 1 p.names.length=aQ p:=rfl;rw[iS]at hkd;have lf:=xo G hM p aN hk;have pg:=fun (nx:List (List D)) (n:Nat) (h1:(n:Int) < 4096)=>YM G hM p aN hk (bq (bh p)) ((2 ^ (aQ p).length:Nat):Int) nx n (by omega) (by omega);have o4:=fun (nx:List (List D)) (n:Nat) (h1:n < 64)=>Yz G p aN (bq (bh p)) ((2 ^ (aQ p).length:Nat):Int) nx n (by omega) (by omega) aF;have iW:=fun n:Nat=>I9 aN (n:Int) (by omega);have iy:=fun (s:Nat) (i:Nat)=>KD G p aN hk (stP p s) (lz aN s) (aaY i (aQ p).length) (nW _ _) _ _ (iW s);have jn:=fun (s:Nat) (i:Nat)=>Jb aN (lz aN s) (aaY i (aQ p).length) (m:=((ab4 p s p.names.length).2.1,(ab4 p s p.names.length).2.2)) (iW s);have p9:=fun (s:Nat) (i:Nat)=>(Bt aN (lz aN s) (aaY i (aQ p).length)).1;have bD:=fun (nx:List (List D)) (s i:Nat)=>YE G hM p aN hk (bq (bh p)) ((2 ^ (aQ p).length:Nat):Int) nx (jF p (stP p s) (aaY i (aQ p).length)) (p9 s i) hP _ _ (jn s i);have CW:0 < bq (bh p):=px fun x hx=>(nu hg hx).m2;have dB:=fun k (h:k < p.names.length)=>zQ hg h;have CV:=fun k (h:k<=p.names.length)=>ae5 hg k h;have de:=fun k (h:k<=p.names.length)=>VM hg h;have dI:jA p p.names.length=bq (bh p):=rfl;have yY:jA p 0=1:=rfl
 have hRl:(dk p).length=p.names.length:=by simp[dk]
 have mX:∀ i (hi:i < p.names.length),(dk p)[i]? = some (b8 p p.names[i]):=fun i hi=>by simp[dk,hi]
 have vD:=fun i (hi:i < p.names.length)=>pw hg hi;have ql:=fun s (h:s < (gO p).length)=>Jq h;have hnl:=Jp p;have wD:=fun s i (h:i < 2 ^ (aQ p).length)=>Ky (p:=p) (s:=s) h;have dZ:=fun s=>Eu p (aQ p).length s
 have GD:2 ^ (aQ p).length<=64:=by
  have:=Nat.pow_le_pow_right (n:=2) (by omega) aF;omega
 simp only[n5,ab,pU,dN]at pg o4 bD iy;simp only[cE,dM,bK,dMw,pQ,eV]at hkd lf iy pg o4 bD ql ⊢;generalize gO p=NXT at *;generalize B0:adj p (aQ p).length=AR at *;clear B0;generalize dk p=RP at *;generalize jA p=PN at *
 have jl:((aQ p).map fun x=>[D.v (.int .i64 x)]).length=(aQ p).length:=by simp
 generalize ((aQ p).map fun x=>[D.v (.int .i64 x)])=IN at *;generalize (aQ p).length=m at *;generalize p.names.map aW=NN at *;generalize p.aaw.map cM=RR at *;refine ar.aC (aay _) func17 rfl rfl (rs:=[.tmp 2,.tmp 3]) results17 (by simp[ntmps17]) fun X=>?_;simp only[ntmps17,List.map];have fw:=@ab.eq_1;refine rgq fw [1] [1] ?_;refine aa1 fw 1 ?_;refine rgq fw [1,4] [12] ?_;refine ae fun K1 au=>?_
 have qd:¬ (IN.length:Int) > 6:=by omega
 have qf:=(Aq fw @qd);refine dv hkd [1,4,16] [12] ?_;refine ag (by simp<;>omega) ?_;refine ah (au _ ?_);refine ae fun K2 aa=>?_;refine aR fw hkd [1,4,19,20] [12] ?_;refine bZ (S:=Nat) (fun k=>k<=m) (fun k=>⟨lst [(1,.d (.ip [.sl none NN,.sl none RR])),(4,.ref 12 0 0),(19,int m),(20,int k)],ak [(12,.box 50 [.d (.sl none NN),.d (.sl none RR),int 1,int ((2 ^ k:Nat):Int),.d (.sl (some false) [])])]⟩) (fun k=>m - k) 0 ?_ (by omega) ?_
 .refine aX (Aq fw @jl)
 .intro k rR;have GF:2 ^ k<=64:=Nat.le_trans (Nat.pow_le_pow_right (by decide) rR) GD;have GG:0 < 2 ^ k:=Nat.pow_pos (by decide)
  have BL:((2 ^ (k+1):Nat):Int)=((2 ^ k:Nat):Int) * 2:=by rw[Nat.pow_succ];omega
  generalize tV:2 ^ k=w at GF GG BL ⊢;refine rgq fw [1,4,19,20,21] [12] ?_;refine ae fun K3 aH=>?_;refine dw (b:=k < m) (by simp[D.le,D.le.go,aaA,ab]) (fun hc=>?_) (fun hc=>?_)
  .refine ah (aH _ ?_);refine ae fun K4 hK4=>?_;refine aU ?_;refine reK fw hK4 [1,4,19,20] [12] ?_;refine bO fw ?_;(try simp only[aM,aP]);refine aV.mk (k+1) (by omega) (by omega) ?_;rw[BL];refine aX fw
  .obtain rfl:m=k:=by omega
   rw[<- tV];clear tV BL GG GF;refine bG (aa _ ?_);refine ae fun K5 bN=>?_;refine aR fw lf [1,4,31,32,33] [12] ?_;refine bZ (S:=Nat) (fun j=>j<=p.names.length) (fun j=>⟨lst [(1,.d (.ip [.sl none NN,.sl none RR])),(4,.ref 12 0 0),(31,.d (.sl none (RP.map fun x=>[.v (.int .i64 x)]))),(32,int RP.length),(33,int j)],ak [(12,.box 50 [.d (.sl none NN),.d (.sl none RR),int (PN j),int ((2 ^ m:Nat):Int),.d (.sl (some false) [])])]⟩) (fun j=>p.names.length - j) 0 ?_ (by omega) ?_
   .rw[yY];refine aX fw
   .intro j hj;have hq:=dB j;have lg:=CV j hj;have Rg:=de j hj;have hq1:=fun h:j < p.names.length=>de (j+1) h;generalize hQ:PN j=Q at hq lg Rg ⊢;refine rgq fw [1,4,31,32,33,34] [12] ?_;refine ae fun K6 hK6=>?_;by_cases ay:j < p.names.length
    .have kg:j < RP.length:=by omega
     refine aax (by simp[kg]) ?_;refine ah (hK6 _ ?_);refine ae fun K7 dW=>?_;refine aU ?_;have hq:=hq ay;have hq1:=hq1 ay
     have G5:RP[j]=b8 p p.names[j]:=by
      have:=mX j ay;rw[List.getElem?_eq_getElem kg]at this;exact Option.some.inj this
     have kD:=vD j ay;generalize b8 p p.names[j]=K at hq G5 kD;have qf:=(Aq fw (Aq @kg @G5));refine al [1,4,6,31,32,33] [12] ?_;refine ae fun K8 ez=>?_;by_cases hz:K=0
     .subst hz;rw[if_pos rfl]at hq;refine rgq fw [1,4,6,31,32,33,38] [12] ?_;refine ag rfl ?_
      have BZ:¬ Q > 4096:=by omega
      refine ah (ez _ ?_);have qf:=(Aq fw @BZ);refine al [1,4,31,32,33,51] [12] ?_;refine ag (by simp<;>omega) ?_;refine ah (dW _ ?_);refine bO fw ?_;(try simp only[aM,aP]);refine aV.mk (j+1) (by omega) (by omega) ?_;rw[hq];refine aX fw
     .rw[if_neg hz]at hq
      have Pc:K > 0:=by omega
      have Y3:0<=Q * K:=Int.mul_nonneg (Int.le_of_lt lg) kD
      have BZ:¬ Q * K > 4096:=by omega
      have qf:=(Aq fw @Pc);refine al [1,4,6,31,32,33,38] [12] ?_;refine aax (by simp<;>omega) ?_;refine reK fw ez [1,4,31,32,33] [12] ?_;have qf:=(Aq fw @BZ);refine al [1,4,31,32,33,51] [12] ?_;refine ag (by simp<;>omega) ?_;refine ah (dW _ ?_);refine bO fw ?_;(try simp only[aM,aP]);refine aV.mk (j+1) (by omega) (by omega) ?_;rw[hq];refine aX fw
    .obtain rfl:j=p.names.length:=by omega
     rw[dI]at hQ;subst hQ;refine ag (by simp<;>omega) ?_;refine bG (bN _ ?_);refine ae fun K9 hK9=>?_;obtain⟨S,hS⟩:∃ S:Nat,bq (bh p)=(S:Int):=Int.eq_ofNat_of_zero_le (by omega);rw[hS]at hnl hP pg o4 bD ⊢;rw[Int.toNat_natCast]at hnl;refine rgq fw [1,4,56,57] [12] ?_;refine bZ (S:=Nat) (fun s=>s<=S) (fun s=>⟨lst [(1,.d (.ip [.sl none NN,.sl none RR])),(4,.ref 12 0 0),(56,int S),(57,int s)],ak [(12,.box 50 [.d (.sl none NN),.d (.sl none RR),int S,int ((2 ^ m:Nat):Int),.own 800 0 s]),(800,.sl 46 1 (fg (NXT.take s)))]⟩) (fun s=>S - s) 0 ?_ (by omega) ?_
     .refine (aB.mL 12 4 800 46 1 rfl rfl rfl).trans ?_;refine aX (Aq fw @fg.eq_1)
     .intro s hss;have fW:=ql s
      have jm:(fg (NXT.take s)).length=s:=by rw[Jw,List.length_take];omega
      have vK:s=S->fg (NXT.take s)=fg NXT:=fun e=>by rw[List.take_of_length_le (by omega)]
      generalize fg (NXT.take s)=NX at fW jm vK ⊢;refine rgq fw [1,4,56,57,58] [12,800] ?_;refine ae fun kZ dz=>?_;refine dw (b:=s < S) (by simp[D.le,D.le.go,aaA,ab]) (fun hc=>?_) (fun hc=>?_)
      .refine ah (dz _ ?_);refine ae fun pL j8=>?_;refine aU ?_;have wz:=fW (by omega);have ph:=pg NX s (by omega);have CD:=o4 NX;have tI:=iy s;have tT:=fun i=>bD NX s i;have aek:=fun i h=>wD s i h;have CZ:=dZ s;generalize stP p s=xy at tI tT aek;generalize ab4 p s p.names.length=ms at ph tI tT;generalize yK:AR s=RS at wz aek CZ;refine rgq fw [1,4,7,56,57] [12,800] ?_;refine rgq fw [1,4,7,8,56,57] [12,800] ?_;refine ae fun s3 acs=>?_;refine rgq fw [1,4,7,8,56,57,63,64] [12,800] ?_;refine bZ (S:=Nat) (fun i=>i<=2 ^ m) (fun i=>⟨lst [(1,.d (.ip [.sl none NN,.sl none RR])),(4,.ref 12 0 0),(7,int s),(8,.own 902 0 i),(56,int S),(57,int s),(63,int ((2 ^ m:Nat):Int)),(64,int i)],ak [(12,.box 50 [.d (.sl none NN),.d (.sl none RR),int S,int ((2 ^ m:Nat):Int),.own 800 0 s]),(800,.sl 46 1 NX),(902,.sl 3 1 ((RS.take i).map fun x=>[.v (.int .i64 x)]))]⟩) (fun i=>2 ^ m - i) 0 ?_ (by omega) ?_
       .refine (aB.iH 8 902 3 1 rfl rfl).trans ?_;refine aX fw
       .intro i js;have wC:=aek i
        have eo:((RS.take i).map fun x=>[D.v (.int .i64 x)]).length=i:=by simp;omega
        generalize gx:RS.take i=RI at wC eo ⊢;refine rgq fw [1,4,7,8,56,57,63,64,65] [12,800,902] ?_;refine ae fun j0 eW=>?_;by_cases c6:i < 2 ^ m
        .have tL:(i:Int) < ((2 ^ m:Nat):Int):=by exact_mod_cast c6
         refine aax (by simpa using tL) ?_;refine ah (eW _ ?_);refine ae fun vb oM=>?_;refine aU ?_;have rZ:=wC c6;have aeh:=CD i (by omega);have oZ:=tI i;have adl:=tT i;generalize sA p xy (aaY i m) ms.2=md at oZ adl;generalize jF p xy (aaY i m)=d1 at adl rZ;generalize aaY i m=ib at aeh oZ;generalize nrP (bh p) d1=v1 at adl rZ;obtain⟨_,I1,C1⟩:=ms;obtain⟨I2,C2⟩:=md;dsimp only at ph oZ adl;rw[jm]at ph aeh adl;refine rgq fw [1,4,7,8,9,56,57,63,64] [12,800,902] ?_;refine afG (aay _) (by kernel_rfl) ([12]) ([]) ([5,8,10]) ([(2,.d (.ip [.sl none NN,.sl none RR]))]) (List.range 14) (by kernel_rfl) fun K' af=>?_;(repeat (refine jD rfl fun K2 aa=>?_;simp[ab,eo,List.take_of_length_le];(repeat (refine⟨by omega,?_⟩));refine aa _ ?_;clear aa K2));refine jD rfl fun K2 aa=>?_;simp[ab,eo,List.take_of_length_le];refine oW.mc (ph) (by simp[ab,eo,List.take_of_length_le]) (by simp[ab,eo,List.take_of_length_le]) (by simp[ab,eo,List.take_of_length_le]) (by simp[ab,eo,List.take_of_length_le]) (by simp[ab,eo,List.take_of_length_le]) (by simp[ab,eo,List.take_of_length_le]) (by simp[gJ,ab,eo,List.take_of_length_le]) ?_;simp[ab,eo,List.take_of_length_le];refine aa _ ?_;clear aa K2;(repeat (refine jD rfl fun K2 aa=>?_;simp[ab,eo,List.take_of_length_le];(repeat (refine⟨by omega,?_⟩));refine aa _ ?_;clear aa K2));refine jD rfl fun K2 aa=>?_;simp[ab,eo,List.take_of_length_le];refine oW.mc (aeh) (by simp[ab,eo,List.take_of_length_le]) (by simp[ab,eo,List.take_of_length_le]) (by simp[ab,eo,List.take_of_length_le]) (by simp[ab,eo,List.take_of_length_le]) (by simp[ab,eo,List.take_of_length_le]) (by simp[ab,eo,List.take_of_length_le]) (by simp[gJ,ab,eo,List.take_of_length_le]) ?_;simp[ab,eo,List.take_of_length_le];refine aa _ ?_;clear aa K2;(repeat (refine jD rfl fun K2 aa=>?_;simp[ab,eo,List.take_of_length_le];(repeat (refine⟨by omega,?_⟩));refine aa _ ?_;clear aa K2));refine jD rfl fun K2 aa=>?_;simp[ab,eo,List.take_of_length_le];refine mM.mk (oZ) (by simp;rfl) (by simp;rfl) (by first | exact D.aaE _ | simp[aaA,List.map_map,Function.comp_def,D.le,D.le.go,D.le_refl,D.aaE,ab,eo,List.take_of_length_le]) (by simp) ?_;refine aa _ ?_;clear aa K2;simp only[aD,cu];(repeat (refine jD rfl fun K2 aa=>?_;simp[ab,eo,List.take_of_length_le];(repeat (refine⟨by omega,?_⟩));refine aa _ ?_;clear aa K2));refine jD rfl fun K2 aa=>?_;simp[ab,eo,List.take_of_length_le];refine oW.mc (adl) (by simp[ab,eo,List.take_of_length_le]) (by simp[ab,eo,List.take_of_length_le]) (by simp[ab,eo,List.take_of_length_le]) (by simp[ab,eo,List.take_of_length_le]) (by simp[ab,eo,List.take_of_length_le]) (by simp[ab,eo,List.take_of_length_le]) (by simp[gJ,ab,eo,List.take_of_length_le]) ?_
         simp[ab,eo,List.take_of_length_le];refine aa _ ?_;clear aa K2;(repeat (refine jD rfl fun K2 aa=>?_;simp[ab,eo,List.take_of_length_le];(repeat (refine⟨by omega,?_⟩));refine aa _ ?_;clear aa K2));refine Lf (af _ ?_);clear af K';refine oM _ (AW.norm [1,4,7,8,56,57,63,64] [12,800,902] (fun _ _=>trivial) (AW.st (by simp[ab,eo,List.take_of_length_le];rfl) ?_));refine bO fw ?_;(try simp only[aM,aP]);refine aV.mk (i+1) (by omega) (by omega) ?_;rw[rZ];refine aX fw
        .obtain rfl:i=2 ^ m:=by omega
         have rv:RI=RS:=by rw[<- gx];exact List.take_of_length_le (by omega)
         subst rv;refine ag (by simp) ?_;refine bG (acs _ ?_);refine AW.imp (aB.freeze 902 trivial) ?_;refine AW.st (by simp[ab,eo,List.take_of_length_le];rfl) ?_;refine abl (aay _) fun K' af=>?_;(repeat (refine sxn fun K2 aa=>?_;simp[ab,jm,List.take_of_length_le];(repeat (refine⟨by omega,?_⟩));refine aa _ ?_;clear aa K2));refine sxz (af _ ?_);clear af K';refine j8 _ (AW.norm [1,4,56,57] [12,800] (fun _ _=>trivial) (AW.st (by simp[ab,jm,List.take_of_length_le];rfl) ?_));refine bO fw ?_;(try simp only[aM,aP]);refine aV.mk (s+1) (by omega) (by omega) ?_;rw[wz];refine aX fw
      .obtain rfl:s=S:=by omega
       obtain rfl:=vK rfl;refine bG (hK9 _ ?_);refine AW.imp (aB.freeze 800 trivial) ?_;refine AW.st (by simp[ab,jm,List.take_of_length_le];rfl) ?_;refine rgq fw [2,3] [12] ?_;exact aG (Aq fw @hS)
theorem Lk {α:Type} (f:α->List D) {l:List α} {n:Nat} (h:n < l.length):(l.take (n+1)).map f=(l.take n).map f ++ [f l[n]]:=by
 rw[List.take_succ_eq_append_getElem h,List.map_append];rfl
theorem Lo (G:ao) (p:PgP) (hg:abT p) (s:StP) (fo:s.is.length=p.names.length) (fq:s.ct.length=p.names.length) (I C:List (Value×Value)) (hr:e8 p s I C) :
  ar prog G 24 [.agg [.dm false I,.dm false C],cE p] (.tup [dN s.is,eV s.ct]):=by
 have dX:=hg.names;have okI:=hr.okI;have okC:=hr.okC;have eg:=acV okI;simp at eg;have bg:=eq_true eg;have hk2:=acV okC;simp at hk2;have hk3:=eq_true hk2;have ll:=okI.once;have nd2:=okC.once
 have hIb:∀ i (hi:i < p.names.length),(abW (.string (bs p.names[i].name)) (cj I)=none/\s.is.getD i false=false)\/abW (.string (bs p.names[i].name)) (cj I)=some (.v (.bool (s.is.getD i false))):=fun i hi=>by
  rw[oF,<- hr.is i hi]
  cases h:cA I (bs p.names[i].name) with
  | none=>exact .inl ⟨rfl,rfl⟩
  | some v=>obtain⟨b,rfl⟩:=hr.bI _ v h;exact .inr rfl
 have nJ:∀ i (hi:i < p.names.length),(abW (.string (bs p.names[i].name)) (cj C)=none/\s.ct.getD i 0=0)\/abW (.string (bs p.names[i].name)) (cj C)=some (.v (.int .i64 (s.ct.getD i 0))):=fun i hi=>by
  rw[oF,<- hr.ct i hi]
  cases h:cA C (bs p.names[i].name) with
  | none=>exact .inl ⟨rfl,rfl⟩
  | some v=>obtain⟨b,rfl⟩:=hr.iC _ v h;exact .inr rfl
 obtain⟨IS,CT⟩:=s;dsimp only at fo fq hIb nJ ⊢;clear hr okI okC eg hk2;simp only[cE,dM,bK,dN,eV]
 have mi:(p.names.map aW).length=p.names.length:=by simp
 have j9:∀ i (h:i < p.names.length),(p.names.map aW)[i]? = some [.v (.string (bs p.names[i].name)),.v (.int .i64 p.names[i].kind),.v (.int .i64 p.names[i].count)]:=fun i h=>by simp[h,aW,dS]
 generalize p.names.map aW=NN at *;generalize p.aaw.map cM=RR at *;refine ar.aC (aay _) func24 rfl rfl (rs:=[.tmp 4,.tmp 5]) results24 (by simp[ntmps24]) fun X=>?_;simp only[ntmps24,List.map];refine aq [2,3] [2,3] ?_;refine dV 2 ?_;refine dV 3 ?_;refine aq [2,3,6] [] ?_;refine aq [2,3,6,7] [] ?_;refine ae fun K1 au=>?_;refine aq [2,6,7,11,12,13] [] ?_;refine bZ (S:=Nat) (fun n=>n<=p.names.length) (fun n=>⟨lst [(2,.d (.ip [.dm false I,.dm false C])),(6,.own 300 0 n),(7,.own 301 0 n),(11,.d (.sl none NN)),(12,int NN.length),(13,int n)],ak [(300,.sl 4 1 ((IS.take n).map fun b=>[.v (.bool b)])),(301,.sl 3 1 ((CT.take n).map fun n=>[.v (.int .i64 n)]))]⟩) (fun n=>p.names.length - n) 0 ?_ (by omega) ?_
 .refine ((aB.iH 6 300 4 1 rfl rfl).trans (aB.iH 7 301 3 1 rfl rfl)).trans ?_;refine aa2
 .intro n hn;have cm:=fun h=>Lk (fun b=>[D.v (.bool b)]) (l:=IS) (n:=n) h;have hs2:=fun h=>Lk (fun n=>[D.v (.int .i64 n)]) (l:=CT) (n:=n) h
  have eh:((IS.take n).map fun b=>[D.v (.bool b)]).length=n:=by simp;omega
  have hp2:((CT.take n).map fun n=>[D.v (.int .i64 n)]).length=n:=by simp;omega
  have tU:n=p.names.length->(IS.take n).map (fun b=>[D.v (.bool b)])=IS.map fun b=>[.v (.bool b)]:=fun h=>by rw[List.take_of_length_le (by omega)]
  have HL:n=p.names.length->(CT.take n).map (fun n=>[D.v (.int .i64 n)])=CT.map fun n=>[.v (.int .i64 n)]:=fun h=>by rw[List.take_of_length_le (by omega)]
  generalize (IS.take n).map (fun b=>[D.v (.bool b)])=P1 at cm eh tU ⊢;generalize (CT.take n).map (fun n=>[D.v (.int .i64 n)])=P2 at hs2 hp2 HL ⊢;refine aq [2,6,7,11,12,13,14] [300,301] ?_;refine ae fun K2 aa=>?_;refine dw (b:=n < NN.length) (by simp[D.le,D.le.go,aaA]) (fun hc=>?_) (fun hc=>?_)
  .have ay:n < p.names.length:=by omega
   have hN2:NN[n]=[.v (.string (bs p.names[n].name)),.v (.int .i64 p.names[n].kind),.v (.int .i64 p.names[n].count)]:=by
    have:=j9 n ay;rw[List.getElem?_eq_getElem hc]at this;exact Option.some.inj this
   have cm:=cm (by omega);have hs2:=hs2 (by omega);have hIb:=hIb n ay;have nJ:=nJ n ay;rw[fj (by omega:n < IS.length)]at hIb;rw[fj (by omega:n < CT.length)]at nJ;generalize bs p.names[n].name=nm at hN2 hIb nJ;generalize p.names[n].kind=kd at hN2;generalize p.names[n].count=ct at hN2;generalize IS[n]=b at cm hIb;generalize CT[n]=c at hs2 nJ;refine ah (aa _ ?_);refine ae fun K3 aH=>?_;refine aU ?_;have qf:=(Aq @hc @hN2);refine al [2,6,7,9,11,12,13] [300,301,9] ?_;refine dV 9 ?_
   rcases hIb with⟨h1,OV⟩ | h1
   .subst OV
    rcases nJ with⟨h2,BK⟩ | h2
    .subst BK;refine pI (aay _) (by kernel_rfl) ([(7,(300,23)),(15,(301,31))]) ([(8,[300]),(9,[300]),(10,[300]),(11,[300]),(12,[300]),(13,[300]),(14,[300])]) ([0,1,2,3,4,5,8,9,10,11,12,13,6,14,7,15,16,17]) (by kernel_rfl) fun K' af=>?_;(repeat (refine pF rfl fun K2 aa=>?_;simp[h1,h2,bg,hk3,ll,nd2,aa7,bQ,eh,hp2,List.take_of_length_le];(repeat (refine⟨by omega,?_⟩));refine aa _ ?_;clear aa K2));refine pG (af _ ?_);clear af K';refine aH _ (AW.norm [2,6,7,11,12,13] [300,301] (fun _ _=>trivial) (AW.st (by simp[h1,h2,bg,hk3,ll,nd2,aa7,bQ,eh,hp2,List.take_of_length_le];rfl) ?_));refine cG ?_;(try simp only[aM,aP]);refine aV.mk (n+1) (by omega) (by omega) ?_;rw[cm,hs2];refine aa2
    .skip
     refine pI (aay _) (by kernel_rfl) ([(7,(300,23)),(15,(301,31))]) ([(8,[300]),(9,[300]),(10,[300]),(11,[300]),(12,[300]),(13,[300]),(14,[300])]) ([0,1,2,3,4,5,8,9,10,11,12,13,6,14,7,15,16,17]) (by kernel_rfl) fun K' af=>?_;(repeat (refine pF rfl fun K2 aa=>?_;simp[h1,h2,bg,hk3,ll,nd2,aa7,bQ,eh,hp2,List.take_of_length_le];(repeat (refine⟨by omega,?_⟩));refine aa _ ?_;clear aa K2));refine pG (af _ ?_);clear af K';refine aH _ (AW.norm [2,6,7,11,12,13] [300,301] (fun _ _=>trivial) (AW.st (by simp[h1,h2,bg,hk3,ll,nd2,aa7,bQ,eh,hp2,List.take_of_length_le];rfl) ?_));refine cG ?_;(try simp only[aM,aP]);refine aV.mk (n+1) (by omega) (by omega) ?_;rw[cm,hs2];refine aa2
   .skip
    rcases nJ with⟨h2,BK⟩ | h2
    .subst BK;refine pI (aay _) (by kernel_rfl) ([(7,(300,23)),(15,(301,31))]) ([(8,[300]),(9,[300]),(10,[300]),(11,[300]),(12,[300]),(13,[300]),(14,[300])]) ([0,1,2,3,4,5,8,9,10,11,12,13,6,14,7,15,16,17]) (by kernel_rfl) fun K' af=>?_;(repeat (refine pF rfl fun K2 aa=>?_;simp[h1,h2,bg,hk3,ll,nd2,aa7,bQ,eh,hp2,List.take_of_length_le];(repeat (refine⟨by omega,?_⟩));refine aa _ ?_;clear aa K2));refine pG (af _ ?_);clear af K';refine aH _ (AW.norm [2,6,7,11,12,13] [300,301] (fun _ _=>trivial) (AW.st (by simp[h1,h2,bg,hk3,ll,nd2,aa7,bQ,eh,hp2,List.take_of_length_le];rfl) ?_));refine cG ?_;(try simp only[aM,aP]);refine aV.mk (n+1) (by omega) (by omega) ?_;rw[cm,hs2];refine aa2
    .skip
     refine pI (aay _) (by kernel_rfl) ([(7,(300,23)),(15,(301,31))]) ([(8,[300]),(9,[300]),(10,[300]),(11,[300]),(12,[300]),(13,[300]),(14,[300])]) ([0,1,2,3,4,5,8,9,10,11,12,13,6,14,7,15,16,17]) (by kernel_rfl) fun K' af=>?_;(repeat (refine pF rfl fun K2 aa=>?_;simp[h1,h2,bg,hk3,ll,nd2,aa7,bQ,eh,hp2,List.take_of_length_le];(repeat (refine⟨by omega,?_⟩));refine aa _ ?_;clear aa K2));refine pG (af _ ?_);clear af K';refine aH _ (AW.norm [2,6,7,11,12,13] [300,301] (fun _ _=>trivial) (AW.st (by simp[h1,h2,bg,hk3,ll,nd2,aa7,bQ,eh,hp2,List.take_of_length_le];rfl) ?_));refine cG ?_;(try simp only[aM,aP]);refine aV.mk (n+1) (by omega) (by omega) ?_;rw[cm,hs2];refine aa2
  .have aO:n=p.names.length:=by omega
   refine bG (au _ ?_);rw[tU aO]at eh ⊢;rw[HL aO]at hp2 ⊢;refine AW.imp (aB.freeze 300 trivial) ?_;refine AW.st (by simp[eh,List.take_of_length_le];rfl) ?_;refine AW.imp (aB.freeze 301 trivial) ?_;refine AW.st (by simp[hp2,List.take_of_length_le];rfl) ?_;refine aq [4,5] [] ?_;exact gG
theorem M4 (G:ao) (hF:pK G) (hM:acb G) (hP:ny G) (hG:l8 G) {es er:Value} (hE:adQ G es er) (mh:u9 G) (mj:va G) (t:Tx):ar prog G 13 [dS t] (aev (sI t)):=by
 have hp:=S6 G hM hP hG hE t;have hw:=WM G hF hM hP hE mh mj t;unfold sI;simp only[dS]at hp hw ⊢;by_cases hl:1500 < t.length
 .have eG:(1500:Int) < (t.length:Int):=by omega
  rw[if_pos hl];simp only[aev,Bp,Bq];refine ar.aC (aay _) func13 rfl rfl (rs:=[.cell 2 25,.cell 3 29,.tmp 4]) results13 (by simp[ntmps13]) fun X=>?_;simp only[ntmps13,List.map];refine aq [0,2,3] [2,3] ?_;refine ae fun K1 au=>?_;have qf:=(Aq @bl @eG);refine al [0,2,3,11] [2,3] ?_;refine aax (by simp[eG]) ?_;refine aq [2,3,4] [2,3] ?_;exact gG
 .have eG:¬ (1500:Int) < (t.length:Int):=by omega
  rw[if_neg hl]
  cases dI:(gD t).1 with
  | none=>
   obtain⟨q,hq⟩:∃ q,gD t=(none,q):=⟨(gD t).2,by rw[<- dI]⟩;rw[hq]at hp hw ⊢;simp only[aev,ba,dPg,ey,cE,dM,bK,dr,aa0,codeF,bx,ab]at hp hw ⊢;generalize q.names.map aW=NN at *;generalize q.aaw.map b7=RR at *;generalize q.aaw.map cM=RW at *;refine ar.aC (aay _) func13 rfl rfl (rs:=[.cell 2 25,.cell 3 29,.tmp 4]) results13 (by simp[ntmps13]) fun X=>?_;simp only[ntmps13,List.map];refine aq [0,2,3] [2,3] ?_;refine ae fun K1 au=>?_;have qf:=(Aq @bl @eG);refine al [0,2,3,11] [2,3] ?_;refine ag (by simp<;>omega) ?_;refine ah (au _ ?_);refine aR trivial hw [0,2,3,5,6] [2,3,5,6] ?_;refine dV 5 ?_;refine dV 6 ?_;refine ae fun K2 aa=>?_;refine aq [0,2,3,5,21] [2,3] ?_;refine ag rfl ?_;refine ah (aa _ ?_);refine aR trivial hp [2,3,5,7] [2,3,7] ?_;refine dV 7 ?_;refine kY (aay _) (by kernel_rfl) [(0,999),(1,999),(2,2),(3,3)] [2,3,4] [2,3] (fun _ _=>trivial) (by kernel_rfl) fun K' af=>?_;(repeat (refine gk fun K2 aa=>?_;simp;(repeat (refine⟨by omega,?_⟩));refine aa _ ?_;clear aa K2));refine ab8 (af _ ?_);refine AW.st (by simp;rfl) ?_;clear af K';exact gG
  | some e=>
   have h2:=VA dI
   have hq:gD t=(some e,⟨[],[]⟩):=by rw[<- dI,<- h2]
   rw[hq]at hw ⊢;obtain⟨c,o⟩:=e;have fK:=Vz dI;simp only[aev,Bp,Bq,aa0,codeF,ab]at hw ⊢;generalize bx (some (c,o))=pl at hw;refine ar.aC (aay _) func13 rfl rfl (rs:=[.cell 2 25,.cell 3 29,.tmp 4]) results13 (by simp[ntmps13]) fun X=>?_;simp only[ntmps13,List.map];refine aq [0,2,3] [2,3] ?_;refine ae fun K1 au=>?_;have qf:=(Aq @bl @eG);refine al [0,2,3,11] [2,3] ?_;refine ag (by simp<;>omega) ?_;refine ah (au _ ?_);refine aR trivial hw [0,2,3,5,6] [2,3,5,6] ?_;refine dV 5 ?_;refine dV 6 ?_;refine ae fun K2 aa=>?_;refine aq [0,2,3,5,21] [2,3] ?_;refine aax (by simp[fK]) ?_;refine aq [2,3,4] [2,3] ?_;exact gG
theorem XU {l l':List Bool} {n:Nat} (ht:l.take n=l'.take n) (h:n < l.length) (h':n < l'.length) (he:l[n]=l'[n]):l.take (n+1)=l'.take (n+1):=by
 rw[List.take_succ_eq_append_getElem h,List.take_succ_eq_append_getElem h',ht,he]
theorem XT {l l':List Bool} (hl:l.length=l'.length) (ht:l.take l.length=l'.take l.length):l=l':=by
 rw[List.take_length,hl,List.take_length]at ht;exact ht
theorem Fe (G:ao) (l l':List Bool) (h:l.length < 2^63):ar prog G 26 [dN l,dN l'] (.v (.bool (l == l'))):=by
 refine ar.aC (aay _) func26 rfl rfl (rs:=[.tmp 4]) results26 (by simp[ntmps26]) fun X=>?_;simp only[ntmps26,List.map];have fw:=@ab.eq_1;refine rgq fw [0,1] [] ?_;refine ae fun K1 au=>?_;refine rgq (Aq fw @dN.eq_1) [0,1,10] [] ?_;refine dw (b:=l.length≠l'.length) (by simp[D.le,D.le.go,aaA,ab]) (fun hc=>?_) (fun hc=>?_)
 .refine rgq fw [4] [] ?_;refine bn ?_;simp[D.le,D.le.go,aaA,ab];intro e;subst e;simp at hc
 .refine ah (au _ ?_)
  have hl:l.length=l'.length:=by simpa using hc
  refine ae fun K2 aa=>?_;refine rgq (Aq fw @dN.eq_1) [0,1,5] [] ?_;refine bZ (S:=Nat) (fun n=>n<=l.length/\l.take n=l'.take n) (fun n=>⟨lst [(0,.d (dN l)),(1,.d (dN l')),(5,int n)],ak []⟩) (fun n=>l.length - n) 0 ?_ (by simp) ?_
  .refine aX (Aq fw @dN.eq_1)
  .rintro n ⟨hn,ht⟩;refine ae fun K3 aH=>?_;refine rgq (Aq fw @dN.eq_1) [0,1,5,14] [] ?_;refine dw (b:=n < l.length) (by simp[D.le,D.le.go,aaA,ab]) (fun hc=>?_) (fun hc=>?_)
   .refine ah (aH _ ?_);refine ae fun K4 hK4=>?_;refine aU ?_;have hnl:n < l.length:=hc
    have kI:n < l'.length:=by omega
    cases he:(l[n] == l'[n]) with
    | false=>
     have qf:=(Aq fw (Aq @dN.eq_1 (Aq @hnl (Aq @kI @he))));refine fv [0,1,5,25] [] ?_;refine aax rfl ?_;refine rgq fw [4] [] ?_;refine bn ?_;simp[D.le,D.le.go,aaA,ab];intro e;subst e;simp at he
    | true=>
     have he2:l[n]=l'[n]:=by simpa using he
     have qf:=(Aq fw (Aq @dN.eq_1 (Aq @hnl (Aq @kI @he2))));refine fv [0,1,5,25] [] ?_;refine ag rfl ?_;refine ah ?_;refine hK4 _ (AW.norm [0,1,5] [] (fun _ _=>trivial) (AW.st (by simp[ab];rfl) ?_));refine bO fw ?_;(try simp only[aM,aP]);refine aV.mk (n+1) ⟨by omega,XU ht hnl kI he2⟩ (by omega) ?_;refine aX (Aq fw @dN.eq_1)
   .refine bG (aa _ ?_);refine rgq fw [4] [] ?_;refine bn ?_;simp[D.le,D.le.go,aaA,ab]
    have kL:n=l.length:=by omega
    subst kL;exact XT hl ht
def iY (p:PgP):Nat:=2 ^ (aQ p).length
def th (p:PgP):D:=dMa p (bq (bh p)) ((iY p:Nat):Int) (fg (gO p))
theorem W8 (G:ao) (p:PgP) (aN:cf p=none) (hk:∀ r∈p.aaw,acZ r) (s i:Nat) (hP:bq (bh p)<=4096) (hs:(s:Int) < bq (bh p)) (hi:i < iY p):ar prog G 20 [th p,ab s,ab i] (.tup [dN (jF p (stP p s) (aaY i (aQ p).length)).is,.v .nilIface]):=by
 have cZ:=Jd G p aN (bq (bh p)) ((iY p:Nat):Int) (fg (gO p)) s (by omega) (by omega);have aF:=I5 G p aN (bq (bh p)) ((iY p:Nat):Int) (fg (gO p)) i;have iy:=Gb G p aN hk (stP p s) (lz aN s) (aaY i (aQ p).length) (nW _ _);simp only[th,dMa,nC,bK,dr,ac1,eV,ab,k7,j4,dN,dPg,ey]at cZ aF iy ⊢;generalize jF p (stP p s) (aaY i (aQ p).length)=d at *;generalize stP p s=t at *;generalize aaY i (aQ p).length=ib at *;generalize fg (gO p)=NX at *;generalize bq (bh p)=S at *;generalize iY p=N at *;generalize (aQ p).map (fun n=>[D.v (.int .i64 n)])=IN at *;generalize (bh p).map e9=PT at *;generalize p.names.map aW=NN at *;generalize p.aaw.map b7=RR at *;obtain⟨I1,C1⟩:=t;obtain⟨I2,C2⟩:=d;dsimp only at cZ iy ⊢
 have h1:¬ S<=(s:Int):=by omega
 have h2:¬ N<=i:=by omega
 have h0:¬ (s:Int) < 0:=by omega
 have h3:¬ (i:Int) < 0:=by omega
 refine ar.aC (aay _) func20 rfl rfl (rs:=[.tmp 6,.tmp 7]) results20 (by simp[ntmps20]) fun X=>?_;simp only[ntmps20,List.map];have fw:=@ab.eq_1;refine rgq fw [0,1,2] [] ?_;refine ae fun K1 au=>?_;refine rgq fw [0,1,2,9] [] ?_;refine ag rfl ?_;refine ah (au _ ?_);refine ae fun K2 aa=>?_;have qf:=(Aq fw (Aq @h0 (Aq @h1 (Aq @h2 @h3))));refine al [0,1,2,32] [] ?_;refine ag (by simp<;>omega) ?_;refine ah (aa _ ?_);refine l6 (aay _) (by kernel_rfl) [6,7] [] (fun _ _=>trivial) (by kernel_rfl) fun K' af=>?_;(repeat (refine cH fun K2 aa=>?_;simp[ab];(repeat (refine⟨by omega,?_⟩));refine aa _ ?_;clear aa K2));refine cH fun K2 aa=>?_;simp[ab];refine gp.data (cZ) (by simp;rfl) (by simp;rfl) (by first | exact D.aaE _ | simp[aaA,List.map_map,Function.comp_def,D.le,D.le.go,D.le_refl,D.aaE,ab]) ?_;refine aa _ ?_;clear aa K2;simp only[aD,cu];(repeat (refine cH fun K2 aa=>?_;simp[ab];(repeat (refine⟨by omega,?_⟩));refine aa _ ?_;clear aa K2));refine cH fun K2 aa=>?_;simp[ab];refine gp.data (aF) (by simp;rfl) (by simp;rfl) (by first | exact D.aaE _ | simp[aaA,List.map_map,Function.comp_def,D.le,D.le.go,D.le_refl,D.aaE,ab]) ?_;refine aa _ ?_;clear aa K2;simp only[aD,cu];(repeat (refine cH fun K2 aa=>?_;simp[ab];(repeat (refine⟨by omega,?_⟩));refine aa _ ?_;clear aa K2));refine cH fun K2 aa=>?_;simp[ab];refine gp.data (iy) (by simp;rfl) (by simp;rfl) (by first | exact D.aaE _ | simp[aaA,List.map_map,Function.comp_def,D.le,D.le.go,D.le_refl,D.aaE,ab]) ?_;refine aa _ ?_;clear aa K2;simp only[aD,cu];(repeat (refine cH fun K2 aa=>?_;simp[ab];(repeat (refine⟨by omega,?_⟩));refine aa _ ?_;clear aa K2));refine jh (af _ ?_);refine AW.st (by simp[ab];rfl) ?_;clear af K';exact aG fw
theorem xn {p:PgP} (h:kT p=false):bq (bh p)<=4096/\(aQ p).length<=6:=by
 unfold kT at h;simp at h;exact h
theorem US {p:PgP} {most:Int} (h:kT p=false) (h2:pt p most=false):bq (bh p)<=most/\(aQ p).length<=4:=by
 unfold pt at h2;rw[h]at h2;simp at h2;exact h2
def Bo (p:PgP):D:=dMw p (bq (bh p)) ((iY p:Nat):Int) (fg (gO p))
def wV (t:Tx) (most:Int):Option PgP:=match sI t with
 | some p=>if kT p || pt p most then none else some p
 | none=>none
def aeb:Option PgP->D
 | none=>.tup [.v (.pointer none),.v (.pointer none),.v (.bool false)]
 | some p=>.tup [th p,Bo p,.v (.bool true)]
theorem Ta {t:Tx} {most:Int} {p:PgP} (h:wV t most=some p):cf p=none/\(∀ r∈p.aaw,acZ r)/\(aQ p).length<=4/\bq (bh p)<=4096/\bq (bh p)<=most:=by
 unfold wV at h
 cases iW:sI t with
 | none=>rw[iW]at h;cases h
 | some q=>
  rw[iW]at h;dsimp only at h
  cases h1:kT q with
  | true=>rw[h1]at h;cases h
  | false=>
   cases h2:pt q most with
   | true=>rw[h1,h2]at h;cases h
   | false=>
    rw[h1,h2]at h;obtain rfl:=Option.some.inj h;obtain⟨c1,c2⟩:=JM (J8 iW);have h3:=US h1 h2;exact⟨c1,c2,h3.2,(xn h1).1,h3.1⟩
theorem Tb (G:ao) (hF:pK G) (hM:acb G) (hP:ny G) (hG:l8 G) {es er:Value} (hE:adQ G es er) (mh:u9 G) (mj:va G) (t:Tx) (most:Int):ar prog G 19 [dS t,ab most] (aeb (wV t most)):=by
 have hb:=M4 G hF hM hP hG hE mh mj t;unfold wV
 cases iW:sI t with
 | none=>
  rw[iW]at hb;simp only[aev,Bp,Bq,dS]at hb;simp only[dS,ab,aeb];refine ar.aC (aay _) func19 rfl rfl (rs:=[.tmp 4,.tmp 5,.tmp 6]) results19 (by simp[ntmps19]) fun X=>?_;simp only[ntmps19,List.map];have fw:=@ab.eq_1;refine rgq fw [0,1] [] ?_;refine aR fw hb [1,7,8,9] [7,8] ?_;refine ae fun K1 au=>?_;refine rgq fw [1,7,8,23] [7,8] ?_;refine aax rfl ?_;refine rgq fw [4,5,6] [] ?_;exact aG fw
 | some p=>
  rw[iW]at hb;obtain⟨aN,hk⟩:=JM (J8 iW);have dP:=ON G hM p aN hk most;have jq:=fun (h:kT p=false)=>Tm G p aN hk (xn h).2 (xn h).1;have kf:=fun (h:kT p=false)=>YC G hM p aN hk (xn h).2 (xn h).1;dsimp only;simp only[aev,dPg,ey,cE,dM,bK,dr,dS,ab]at hb dP;simp only[dPg,ey,cE,dM,bK,dr,dMa,nC,dMw,pQ,ac1,eV]at jq kf;simp only[dS,ab]
  cases h1:kT p with
  | true=>
   rw[h1]at dP;simp only[Bool.true_or,if_true,aeb];generalize pt p most=mu at *;generalize p.names.map aW=NN at *;generalize p.aaw.map b7=RR at *;generalize p.aaw.map cM=RW at *;refine ar.aC (aay _) func19 rfl rfl (rs:=[.tmp 4,.tmp 5,.tmp 6]) results19 (by simp[ntmps19]) fun X=>?_;simp only[ntmps19,List.map];have fw:=@ab.eq_1;refine rgq fw [0,1] [] ?_;refine aR fw hb [1,7,8,9] [7,8] ?_;refine ae fun K1 au=>?_;refine rgq fw [1,7,8,23] [7,8] ?_;refine ag rfl ?_;refine ah (au _ ?_);refine aa1 fw 7 ?_;refine aa1 fw 8 ?_;refine aR fw dP [7,8,10,11] [] ?_;refine ae fun K2 aa=>?_;refine rgq fw [7,8,33] [] ?_;refine aax rfl ?_;refine rgq fw [4,5,6] [] ?_;exact aG fw
  | false=>
   rw[h1]at dP
   cases h2:pt p most with
   | true=>
    rw[h2]at dP;simp only[Bool.or_true,if_true,aeb];generalize p.names.map aW=NN at *;generalize p.aaw.map b7=RR at *;generalize p.aaw.map cM=RW at *;refine ar.aC (aay _) func19 rfl rfl (rs:=[.tmp 4,.tmp 5,.tmp 6]) results19 (by simp[ntmps19]) fun X=>?_;simp only[ntmps19,List.map];have fw:=@ab.eq_1;refine rgq fw [0,1] [] ?_;refine aR fw hb [1,7,8,9] [7,8] ?_;refine ae fun K1 au=>?_;refine rgq fw [1,7,8,23] [7,8] ?_;refine ag rfl ?_;refine ah (au _ ?_);refine aa1 fw 7 ?_;refine aa1 fw 8 ?_;refine aR fw dP [7,8,10,11] [] ?_;refine ae fun K2 aa=>?_;refine rgq fw [7,8,33] [] ?_;refine aax rfl ?_;refine rgq fw [4,5,6] [] ?_;exact aG fw
   | false=>
    rw[h2]at dP;have jq:=jq h1;have kf:=kf h1;simp only[Bool.or_false,Bool.false_eq_true,if_false,aeb,th,Bo,dMa,nC,dMw,pQ,ac1,eV,bK,dr,iY];generalize fg (gO p)=NX at *;generalize bq (bh p)=S at *;generalize ((2 ^ (aQ p).length:Nat):Int)=NI at *;generalize ((aQ p).map fun n=>[D.v (.int .i64 n)])=IN at *;generalize (bh p).map e9=PT at *;generalize p.names.map aW=NN at *;generalize p.aaw.map b7=RR at *;generalize p.aaw.map cM=RW at *;refine ar.aC (aay _) func19 rfl rfl (rs:=[.tmp 4,.tmp 5,.tmp 6]) results19 (by simp[ntmps19]) fun X=>?_;simp only[ntmps19,List.map];have fw:=@ab.eq_1;refine rgq fw [0,1] [] ?_;refine aR fw hb [1,7,8,9] [7,8] ?_;refine ae fun K1 au=>?_;refine rgq fw [1,7,8,23] [7,8] ?_;refine ag rfl ?_;refine ah (au _ ?_);refine aa1 fw 7 ?_;refine aa1 fw 8 ?_;refine aR fw dP [7,8,10,11] [] ?_;refine ae fun K2 aa=>?_;refine rgq fw [7,8,33] [] ?_;refine ag rfl ?_;refine ah (aa _ ?_);refine aR fw jq [8,12] [] ?_;refine aR fw kf [12,14] [] ?_;refine rgq fw [4,5,6] [] ?_;exact aG fw
