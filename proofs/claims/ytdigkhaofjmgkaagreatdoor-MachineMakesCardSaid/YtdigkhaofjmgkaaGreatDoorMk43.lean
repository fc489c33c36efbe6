/-
  Texts that belong together,in one file: Av38,SR1,SR2,SR3,MB2,MBE,MB3,MA2,SR4,MB4,SR5,MB5,R1.
-/
import Derived.Test.YtdigkhaofjmgkaaGreatDoorMk42
import Derived.Maps.RangeRun
set_option linter.unusedSectionVars false
set_option linter.unusedSimpArgs false
set_option linter.unusedVariables false
namespace Go.Av
open Go.ChangeMaps (setBlock)
section
variable {P:Program} {T:Ty} {Mv X:Nat->Prop} {G:ao} {N:Fr} {w:World} {μ:Mu} {a:Act} {σ:St}
def tp:Op->Bool
 | .range _ _=>true
 | .next _ false=>true
 | .entry _=>true
 | _=>false
def yX (T:Ty) (t:TypeId):Bool:=match T t with
 | some tt=>match tt.desc with
  | .map _ _=>true
  | _=>false
 | none=>false
def Eo (T:Ty) (G:ao) (t:TypeId) (x:Operand) (d:Nat) (σ:St) (K:St->Prop):Prop:=match bd G σ.env x with
 | some (.d (.dm _ ents))=>yX T t=true/\σ.H d=none/\∀ es:List (Value×Value),es.Perm ents->K ⟨eF σ.env d (.ref d 0 0),aJ σ.H d (.it es [])⟩
 | _=>False
def DS (G:ao) (x:Operand) (d:Nat) (σ:St) (K:St->Prop):Prop:=match bd G σ.env x with
 | some (.ref r 0 0)=>match σ.H r with
  | some (.it ents seen)=>((∀ j,j < ents.length->j∈seen)->K ⟨eF σ.env d (.d (.Z4 [.v (.bool false)])),σ.H⟩)/\
   ∀ j (hj:j < ents.length),j ∉ seen->K ⟨eF σ.env d (.d (.Z4 [.v (.bool true),.v ents[j].1,.v ents[j].2])),aJ σ.H r (.it ents (seen ++ [j]))⟩
  | _=>False
 | _=>False
def Bm (G:ao) (x:Operand) (d:Nat) (σ:St) (K:St->Prop):Prop:=match bd G σ.env x with
 | some (.ref r 0 0)=>match σ.H r with
  | some (.it ents seen)=>∃ s j,∃ hj:j < ents.length,seen=s ++ [j]/\K ⟨eF σ.env d (.d (.Z4 [.v ents[j].1,.v ents[j].2])),σ.H⟩
  | _=>False
 | _=>False
def rE (T:Ty) (G:ao) (o:Oper) (σ:St) (K:St->Prop):Prop:=match o.op,o.dst with
 | .range t x,some d=>Eo T G t x d σ K
 | .next x false,some d=>DS G x d σ K
 | .entry x,some d=>Bm G x d σ K
 | _,_=>False
theorem RV.JO {u:Value} {r:Nat} (h:RV w X μ u (.ref r 0 0)):∃ m b,μ r=some m/\m.blk=some b/\u = .pointer (some ⟨b,0,none⟩):=by
 generalize hy:AV.ref r 0 0=y at h
 cases h with
 | ref hm hb=>cases hy;exact ⟨_,_,hm,hb,by simp⟩
 | _=>cases hy
theorem cK.Ie {H:Heap} (hs:cK w X μ H) {r:Nat} {ents:List (Value×Value)} {seen:List Nat} (hH:H r=some (.it ents seen)) {m:fU} {b:Nat} (hm:μ r=some m) (hb:m.blk=some b) :
  ∃ bm,w.heap[b]? = some (.mapIter (some bm) ents.length seen.toArray ents.length)/\w.heap[bm]? = some (.map (gy ents) ents.length)/\RD w (XX X μ) (.map (some bm)) (.dm true ents):=by
 obtain ⟨m',bO,ok⟩:=hs.rows r _ hH;rw [hm] at bO;obtain rfl:=Option.some.inj bO
 cases ok with
 | it aO hh hr=>
  rename_i b' bm;rw [hb] at aO;obtain rfl:=Option.some.inj aO;refine ⟨bm,hh,?_,hr⟩;generalize hy:D.dm true ents=y at hr
  cases hr with
  | dm hX He hp hx=>cases hy;rw [hx rfl] at He;exact He
  | _=>cases hy
theorem IL {ents:List (Value×Value)} {e:MapEntry} (h:e∈(gy ents).toList):∃ j,∃ hj:j < ents.length,e = { key:=ents[j].1,val:=ents[j].2,born:=j }:=by
 obtain ⟨j,hj,rfl⟩:=List.mem_iff_getElem.1 h
 have cR:j < ents.length:=by simpa [lB] using hj
 have h1:=ad5 cR
 have h2:j < (gy ents).size:=by rw [lB];exact cR
 rw [Array.getElem?_eq_getElem h2] at h1;exact ⟨j,cR,by simpa using Option.some.inj h1⟩
theorem IK {ents:List (Value×Value)} {j:Nat} (hj:j < ents.length):({ key:=ents[j].1,val:=ents[j].2,born:=j }:MapEntry)∈(gy ents).toList:=by
 have h1:=ad5 hj
 have h2:j < (gy ents).size:=by rw [lB];exact hj
 rw [Array.getElem?_eq_getElem h2] at h1;rw [<- Option.some.inj h1];simp
theorem SJ (ents:List (Value×Value)):((gy ents).toList.map (·.born)).Nodup:=by
 have:(gy ents).toList.map (·.born)=List.range ents.length:=by
  refine List.ext_getElem (by simp [lB]) fun i h1 h2=>?_
  have hi:i < ents.length:=by simpa using h2
  have h3:=ad5 hi
  have h4:i < (gy ents).size:=by rw [lB];exact hi
  rw [Array.getElem?_eq_getElem h4] at h3;simp [Option.some.inj h3]
 rw [this];exact List.nodup_range
theorem Rx (hg:Good P T) (hi:In w X G μ N a σ) {o:Oper} {K:St->Prop} (hd:∀ d,o.dst=some d->d < N.n) (h:rE T G o σ K) {Q:Exit->Act->World->Prop} {next:Act->World->Prop}
  (hk:∀ w' au a' ar,K ar->In w' X G au N a' ar->Ev Mv w μ w' au->next a' w'):o.wpIn (wd N.ro) 0 P a w next Q:=by
 obtain ⟨dst,op,type,pos,after,guard⟩:=o;unfold rE at h;dsimp only at h hd;split at h
 .-- range
  rename_i t x d;unfold Eo at h;split at h
  .rename_i NQ hx;obtain ⟨pH,hn,hK⟩:=h;refine uj (fun c e=>by cases e) ?_;have hv:=hi.eval hx;have vZ:=hv.data
   obtain ⟨bm,ents,rm,vp,yI,vZ⟩:∃ bm es,a.eval x = .map (some bm)/\w.heap[bm]? = some (.map (gy es) es.length)/\es.Perm NQ/\RD w (XX X μ) (a.eval x) (.dm true es):=by
    generalize a.eval x=u at vZ
    cases vZ with
    | dm hX hh hp hx=>exact ⟨_,_,rfl,hh,hp,.dm hX hh (List.Perm.refl _) fun _=>rfl⟩
   have hK:=hK ents yI
   obtain ⟨kt,et,hu⟩:∃ kt et,P.underlying t=some (.map kt et):=by
    unfold yX at pH;split at pH
    .rename_i tt htt;split at pH
     .rename_i kt et afD;exact ⟨kt,et,by rw [<- afD];exact (hg _ _ htt).1⟩
     .cases pH
    .cases pH
   have bK:=run_range_map w t kt et bm (gy ents) ents.length hu vp;unfold Oper.wp
   have hex:(execOp a.eval (⟨some d,.range t x,type,pos,after,guard⟩:Oper)).run P w = .ok (.value (.pointer (some ⟨w.heap.size,0,none⟩))) (w.alloc (.mapIter (some bm) ents.length #[] ents.length)):=by
    simp [execOp,rm,bK]
   rw [hex]
   have je:(w.alloc (.mapIter (some bm) ents.length #[] ents.length)).heap[w.heap.size]? = some (.mapIter (some bm) ents.length #[] ents.length):=by rw [<- World.alloc_eq];simp
   obtain ⟨aC,aG⟩:=hi.alloc (Mv:=Mv) hn (bU.alloc w (.mapIter (some bm) ents.length #[] ents.length)) (m:=⟨some w.heap.size,1,0⟩) (fun b hb=>by simp at hb;omega) (row:=.it ents []) fun ev=>.it rfl je (by rw [rm] at vZ;exact vZ.ev ev)
   have e9:RV (w.alloc (.mapIter (some bm) ents.length #[] ents.length)) X (cH μ d ⟨some w.heap.size,1,0⟩) (.pointer (some ⟨w.heap.size,0,none⟩)) (.ref d 0 0):=by
    have:=RV.ref (w:=w.alloc (.mapIter (some bm) ents.length #[] ents.length)) (X:=X) (μ:=cH μ d ⟨some w.heap.size,1,0⟩) (r:=d) (e:=0) (j:=0) (b:=w.heap.size) (m:=⟨some w.heap.size,1,0⟩) (by simp [cH]) rfl;simpa using this
   exact hk _ _ _ _ hK (aC.put e9 (dst:=some d) hd) aG
  .exact h.elim
 .-- next
  rename_i x d;unfold DS at h;split at h
  .rename_i r hx;split at h
   .rename_i ents seen hH;obtain ⟨h0,h1⟩:=h;refine uj (fun c e=>by cases e) ?_;obtain ⟨m,b,hm,hb,rm⟩:=(hi.eval hx).JO;obtain ⟨bm,hit,vp,bz⟩:=hi.aS.Ie hH hm hb
    have hold:∀ x∈(gy ents).toList,x.born < ents.length:=fun x hx=>by
     obtain ⟨j,hj,rfl⟩:=IL hx;exact hj
    unfold Oper.wp
    rcases run_next_at (P:=P) w type b bm ents.length ents.length seen.toArray (gy ents) ents.length hit vp hold (Nat.le_refl _) with ⟨hz,bK⟩ | ⟨e,he,w1,gx,bK⟩
    .have hex:(execOp a.eval (⟨some d,.next x false,type,pos,after,guard⟩:Oper)).run P w = .ok (.value (.tuple #[.bool false])) w:=by
      simp [execOp,rm,bK]
     rw [hex]
     have bx:∀ j,j < ents.length->j∈seen:=fun j hj=>by
      apply Classical.byContradiction;intro fG
      have jz:({ key:=ents[j].1,val:=ents[j].2,born:=j }:MapEntry)∈(leftOf (gy ents) seen.toArray).toList:=by
       unfold leftOf;rw [Array.toList_filter,List.mem_filter];exact ⟨IK hj,by simpa using fG⟩
      have:0 < (leftOf (gy ents) seen.toArray).size:=by
       have:=List.length_pos_of_mem jz;simpa using this
      omega
     refine hk _ μ _ _ (h0 bx) (hi.put (.d (.Z4 rfl fun j u c hu hc=>?_)) (dst:=some d) hd) (.refl _ w μ)
     match j,hu,hc with
     | 0,hu,hc=>simp at hu hc;subst hu hc;exact .v _
     | j+1,hu,hc=>simp at hu
    .obtain ⟨he1,ia⟩:=mem_left he;obtain ⟨j,hj,rfl⟩:=IL he1
     have fG:j ∉ seen:=by simpa using ia
     have hex:(execOp a.eval (⟨some d,.next x false,type,pos,after,guard⟩:Oper)).run P w = .ok (.value (.tuple #[.bool true,ents[j].1,ents[j].2])) (setBlock w1 b (.mapIter (some bm) ents.length (seen.toArray.push j) ents.length)):=by
      simp [execOp,rm,bK]
     rw [hex]
     have dI:bU w w1:=by
      rcases gx with rfl | rfl
      .exact bU.refl _
      .exact bU.drew w
     have P6:w1.heap=w.heap:=by rcases gx with rfl | rfl<;>rfl
     obtain ⟨hi1,ev1⟩:=hi.jR (Mv:=Mv) dI
     have ax:b < w1.heap.size:=by rw [P6];exact (Array.getElem?_eq_some_iff.1 hit).1
     obtain ⟨aC,aG⟩:=hi1.write (Mv:=Mv) (w':=setBlock w1 b (.mapIter (some bm) ents.length (seen.toArray.push j) ents.length)) hm hb (by simp [setBlock]) rfl rfl rfl (fun k hk=>by simp [setBlock,Array.getElem?_setIfInBounds_ne (Ne.symm hk)]) (row:=.it ents (seen ++ [j])) fun ev=>.it hb (by simp [setBlock,ax]) ((bz.ev ev1).ev ev);refine hk _ μ _ _ (h1 j hj fG) (aC.put (.d (.Z4 rfl fun i u c hu hc=>?_)) (dst:=some d) hd) (ev1.trans aG)
     match i,hu,hc with
     | 0,hu,hc=>simp at hu hc;subst hu hc;exact .v _
     | 1,hu,hc=>simp at hu hc;subst hu hc;exact .v _
     | 2,hu,hc=>simp at hu hc;subst hu hc;exact .v _
     | i+3,hu,hc=>simp at hu
   .exact h.elim
  .exact h.elim
 .-- entry
  rename_i x d;unfold Bm at h;split at h
  .rename_i r hx;split at h
   .rename_i ents seen hH;obtain ⟨s,j,hj,rfl,hK⟩:=h;refine uj (fun c e=>by cases e) ?_;obtain ⟨m,b,hm,hb,rm⟩:=(hi.eval hx).JO;obtain ⟨bm,hit,vp,bz⟩:=hi.aS.Ie hH hm hb
    have Qd:w.heap[b]? = some (.mapIter (some bm) ents.length (s.toArray.push ({ key:=ents[j].1,val:=ents[j].2,born:=j }:MapEntry).born) ents.length):=by
     rw [hit];simp
    have bK:=run_entry_at (P:=P) w b bm ents.length s.toArray (gy ents) ents.length _ Qd vp (IK hj) (SJ ents);unfold Oper.wp
    have hex:(execOp a.eval (⟨some d,.entry x,type,pos,after,guard⟩:Oper)).run P w = .ok (.value (.tuple #[ents[j].1,ents[j].2])) w:=by
     simp [execOp,rm,bK]
    rw [hex];refine hk _ μ _ _ hK (hi.put (.d (.Z4 rfl fun i u c hu hc=>?_)) (dst:=some d) hd) (.refl _ w μ)
    match i,hu,hc with
    | 0,hu,hc=>simp at hu hc;subst hu hc;exact .v _
    | 1,hu,hc=>simp at hu hc;subst hu hc;exact .v _
    | i+2,hu,hc=>simp at hu
   .exact h.elim
  .exact h.elim
 .exact h.elim
def j6 (P:Program) (T:Ty) (Mv X:Nat->Prop) (G:ao) (N:Fr) (ops:Array Oper) (K:St->Prop):List Oper->St->Prop
 | [],σ=>K σ
 | o :: rest,σ=>eQ N o/\match fA ops σ.env o with
  | some b=>if b=true then (if tp o.op=true then rE T G o σ (j6 P T Mv X G N ops K rest) else qE P T Mv X G N o σ (j6 P T Mv X G N ops K rest)) else j6 P T Mv X G N ops K rest ⟨Z2 σ.env o.dst cu,σ.H⟩
  | none=>False
theorem WW (hg:Good P T) {ops:Array Oper} {Q:Exit->St->Prop} {w0:World} {fT:Mu}:∀ (l:List Oper) (k:Nat) (w:World) (μ:Mu) (a:Act) (σ:St),(∀ j,l[j]? = ops[k+j]?)->j6 P T Mv X G N ops (fun ar=>Q .normal ar) l σ->In w X G μ N a σ->Ev Mv w0 fT w μ->
  wpOpsIn (wd N.ro) 0 P ops (After Mv X G N w0 fT Q) (List.range' k l.length) a w:=by
 intro l
 induction l with
 | nil=>intro k w μ a σ _ h hi aG;exact ⟨μ,σ,h,hi,aG⟩
 | cons o l ih=>
  intro k w μ a σ hl h hi aG
  have h0:ops[k]? = some o:=by simpa using (hl 0).symm
  have ek:∀ j,l[j]? = ops[k+1+j]?:=fun j=>by have:=hl (j+1);simpa [Nat.add_assoc,Nat.add_comm 1 j] using this
  obtain ⟨hd,h⟩:=h
  have gu:∀ d,o.dst=some d->d < N.n:=fun d e=>by unfold eQ at hd;rw [e] at hd;exact hd
  rw [List.length_cons,List.range'_succ];simp only [wpOpsIn,h0];split at h
  .rename_i b hb;rw [r5 hi hb];split at h
   .rename_i ot;subst ot;rw [if_pos rfl];split at h
    .exact Rx hg hi gu h fun w' au a' ar k' aC iz=>ih (k+1) w' au a' ar ek k' aC (aG.trans iz)
    .exact (Gn hg hi gu h fun w' au a' ar k' aC iz=>ih (k+1) w' au a' ar ek k' aC (aG.trans iz))
   .rename_i vo;rw [if_neg (by simpa using vo)];exact ⟨fun _ _=>trivial,ih (k+1) w μ _ _ ek h (hi.put (.d (.v _)) gu) aG⟩
  .exact h.elim
theorem Lx (hg:Good P T) {id:Nat} {ops:Array Oper} {Q:Exit->St->Prop} (h:j6 P T Mv X G N ops (fun ar=>Q .normal ar) ops.toList σ):AW P Mv X G N (.region id ops false) Q σ:=fun w μ a hi=>by
 refine wpIn_region ?_;have:=WW hg ops.toList 0 w μ a σ (by simp) h hi (.refl _ w μ)
 rwa [<- List.range_eq_range',Array.length_toList] at this
theorem sa (hg:Good P T) (l ns:List Nat) (hM:∀ r,ns.contains r=false->Mv r) {id:Nat} {ops:Array Oper} {y:Code} {Q:Exit->St->Prop} (h:∀ K:St->Prop,(∀ τ:St,AW P Mv X G N y Q (τ.norm l ns)->K τ)->j6 P T Mv X G N ops K ops.toList σ):AW P Mv X G N (.seq (.region id ops false) y) Q σ:=
 nP (Lx hg (h _ fun _ h=>h.norm l ns hM))
def KM (P:Program) (T:Ty) (Mv X:Nat->Prop) (G:ao) (N:Fr) (ops:Array Oper) (o:Oper) (σ:St) (K:St->Prop):Prop:=eQ N o/\match fA ops σ.env o with
 | some b=>if b=true then (if tp o.op=true then rE T G o σ K else qE P T Mv X G N o σ K) else K ⟨Z2 σ.env o.dst cu,σ.H⟩
 | none=>False
theorem qc {ops:Array Oper} {K:St->Prop} {o:Oper} {l:List Oper} (h:∀ K':St->Prop,(∀ τ,j6 P T Mv X G N ops K l τ->K' τ)->KM P T Mv X G N ops o σ K'):j6 P T Mv X G N ops K (o :: l) σ:=h _ fun _ h=>h
theorem qd {ops:Array Oper} {K:St->Prop} (h:K σ):j6 P T Mv X G N ops K [] σ:=h
theorem KR {ops:Array Oper} {K:St->Prop} {o:Oper} {l:List Oper} {t:TypeId} {x:Operand} {d:Nat} {ents:List (Value×Value)} (ho:o.op = .range t x) (qT:o.dst=some d) (hd:eQ N o) (hg:fA ops σ.env o=some true) {y:Bool} (hx:bd G σ.env x=some (.d (.dm y ents))) (ht:yX T t=true) (hH:σ.H d=none)
  (h:∀ es:List (Value×Value),es.Perm ents->j6 P T Mv X G N ops K l ⟨eF σ.env d (.ref d 0 0),aJ σ.H d (.it es [])⟩):j6 P T Mv X G N ops K (o :: l) σ:=by
 refine ⟨hd,?_⟩;rw [hg];simp only [if_true,ho,tp];unfold rE Eo;simp only [ho,qT,hx];exact ⟨ht,hH,h⟩
theorem KQ {ops:Array Oper} {K:St->Prop} {o:Oper} {l:List Oper} {x:Operand} {d r:Nat} {ents:List (Value×Value)} {seen:List Nat} (ho:o.op = .next x false) (qT:o.dst=some d) (hd:eQ N o) (hg:fA ops σ.env o=some true) (hx:bd G σ.env x=some (.ref r 0 0)) (hH:σ.H r=some (.it ents seen))
  (h0:(∀ j,j < ents.length->j∈seen)->j6 P T Mv X G N ops K l ⟨eF σ.env d (.d (.Z4 [.v (.bool false)])),σ.H⟩)
  (h1:∀ j (hj:j < ents.length),j ∉ seen->j6 P T Mv X G N ops K l ⟨eF σ.env d (.d (.Z4 [.v (.bool true),.v ents[j].1,.v ents[j].2])),aJ σ.H r (.it ents (seen ++ [j]))⟩):j6 P T Mv X G N ops K (o :: l) σ:=by
 refine ⟨hd,?_⟩;rw [hg];simp only [if_true,ho,tp];unfold rE DS;simp only [ho,qT,hx,hH];exact ⟨h0,h1⟩
theorem KP {ops:Array Oper} {K:St->Prop} {o:Oper} {l:List Oper} {x:Operand} {d r:Nat} {ents:List (Value×Value)} {seen:List Nat} {j:Nat} (ho:o.op = .entry x) (qT:o.dst=some d) (hd:eQ N o) (hg:fA ops σ.env o=some true) (hx:bd G σ.env x=some (.ref r 0 0)) (hH:σ.H r=some (.it ents (seen ++ [j]))) (hj:j < ents.length)
  (h:j6 P T Mv X G N ops K l ⟨eF σ.env d (.d (.Z4 [.v ents[j].1,.v ents[j].2])),σ.H⟩):j6 P T Mv X G N ops K (o :: l) σ:=by
 refine ⟨hd,?_⟩;rw [hg];simp only [if_true,ho,tp];unfold rE Bm;simp only [ho,qT,hx,hH];exact ⟨seen,j,hj,rfl,h⟩
end
attribute [simp] KM tp yX jM
end Go.Av
namespace Go.Proofs.YtdigkhaofjmgkaaGreatDoor
open Go.Av
structure gQ (L:List (Value×Value)):Prop where
 str:∀ p∈L,∃ s:ByteArray,p.1 = .string s
 once:(L.map (·.1)).Nodup
def aav (L:List (Value×Value)) (s:ByteArray):Option Value:=(L.find? fun p=>fk (.string s) p.1).map (·.2)
def b6 (L:List (Value×Value)) (s:ByteArray) (x:Value):List (Value×Value):=match L.findIdx? fun p=>fk (.string s) p.1 with
 | some j=>L.set j (.string s,x)
 | none=>L ++ [(.string s,x)]
theorem Dp (s:ByteArray) (k:Value):fk (.string s) k=true↔k = .string s:=by
 cases k with
 | string s'=>
  constructor
  .intro h;exact Dl (d:=.string) rfl rfl h
  .intro h;obtain ⟨r,h1,h2⟩:=MapKept.sameNow_of_keys (rG (d:=.string) (v:=.string s) rfl) (rG (d:=.string) (v:=.string s') rfl);rw [aeZ (d:=.string) rfl rfl] at h1;rw [Option.some.inj h1];exact h2.2 (by first | exact h.symm | exact h)
 | _=>exact ⟨fun h=>(by cases h),fun h=>(by cases h)⟩
theorem y9 (s:ByteArray):fk (.string s) (.string s)=true:=(Dp s _).2 rfl
theorem y8 {s:ByteArray} {k:Value} (h:k≠.string s):fk (.string s) k=false:=by
 cases hk:fk (.string s) k with
 | false=>rfl
 | true=>exact absurd ((Dp s k).1 hk) h
theorem tu (x:Value) (L:List (Value×Value)) (s:ByteArray):aav ((.string s,x) :: L) s=some x:=by
 unfold aav;rw [List.find?_cons];simp only [y9];rfl
theorem rL {k:Value} (x:Value) (L:List (Value×Value)) {s:ByteArray} (h:k≠.string s):aav ((k,x) :: L) s=aav L s:=by
 unfold aav;rw [List.find?_cons];simp only [y8 h]
theorem EK {s s':ByteArray} (h:s'≠s):Value.string s≠Value.string s':=fun e=>h (by injection e with e;exact e.symm)
theorem DF:gQ []:=⟨by simp,by simp⟩
theorem IH {p:Value×Value} {L:List (Value×Value)} (h:gQ (p :: L)):gQ L:=⟨fun q hq=>h.str q (by simp [hq]),(List.nodup_cons.1 h.once).2⟩
theorem Ei (s:ByteArray) (x:Value):b6 [] s x=[(.string s,x)]:=rfl
theorem zE (y:Value) (L:List (Value×Value)) (s:ByteArray) (x:Value):b6 ((.string s,y) :: L) s x=(.string s,x) :: L:=by
 unfold b6;rw [List.findIdx?_cons];simp only [y9,if_true];rfl
theorem zF {k:Value} (y:Value) (L:List (Value×Value)) {s:ByteArray} (x:Value) (h:k≠.string s):b6 ((k,y) :: L) s x=(k,y) :: b6 L s x:=by
 unfold b6;rw [List.findIdx?_cons];simp only [y8 h,Bool.false_eq_true,if_false]
 cases L.findIdx? fun p=>fk (.string s) p.1 with
 | none=>rfl
 | some j=>rfl
theorem l4 (s s':ByteArray) (x:Value):∀ L:List (Value×Value),aav (b6 L s x) s'=if s'=s then some x else aav L s'
 | []=>by
  rw [Ei];by_cases h:s'=s
  .subst h;rw [tu,if_pos rfl]
  .rw [rL _ _ (EK h),if_neg h]
 | (k,y) :: L=>by
  by_cases hk:k = .string s
  .subst hk;rw [zE];by_cases h:s'=s
   .subst h;rw [tu,if_pos rfl]
   .rw [rL _ _ (EK h),rL _ _ (EK h),if_neg h]
  .rw [zF _ _ _ hk];by_cases hk':k = .string s'
   .subst hk';rw [tu,tu,if_neg (fun e=>hk (by rw [e]))]
   .rw [rL _ _ hk',rL _ _ hk',l4 s s' x L]
theorem JH (s:ByteArray) (x:Value):∀ {L:List (Value×Value)} {k:Value},k∈(b6 L s x).map (·.1)->k = .string s\/k∈L.map (·.1)
 | [],k,h=>by rw [Ei] at h;simp at h;exact .inl h
 | (k0,y) :: L,k,h=>by
  by_cases hk:k0 = .string s
  .subst hk;rw [zE] at h;simp only [List.map_cons,List.mem_cons] at h ⊢
   rcases h with h | h
   .exact .inl h
   .exact .inr (.inr h)
  .rw [zF _ _ _ hk] at h;simp only [List.map_cons,List.mem_cons] at h ⊢
   rcases h with h | h
   .exact .inr (.inl h)
   .rcases JH s x h with h | h
    .exact .inl h
    .exact .inr (.inr h)
theorem tw (s:ByteArray) (x:Value):∀ {L:List (Value×Value)},gQ L->gQ (b6 L s x)
 | [],_=>by rw [Ei];exact ⟨by simp,by simp⟩
 | (k,y) :: L,h=>by
  have ih:=tw s x (IH h);by_cases hk:k = .string s
  .subst hk;rw [zE]
   exact ⟨fun p hp=>by
    rcases List.mem_cons.1 hp with rfl | hp
    .exact ⟨s,rfl⟩
    .exact h.str p (by simp [hp]),by simpa using h.once⟩
  .rw [zF _ _ _ hk];refine ⟨fun p hp=>?_,?_⟩
   .rcases List.mem_cons.1 hp with rfl | hp
    .exact h.str _ (by simp)
    .exact ih.str p hp
   .rw [List.map_cons,List.nodup_cons];refine ⟨fun hm=>?_,ih.once⟩
    rcases JH s x hm with e | e
    .exact hk e
    .exact (List.nodup_cons.1 h.once).1 e
theorem wu:∀ {L:List (Value×Value)},gQ L->∀ {j:Nat} (hj:j < L.length) {s:ByteArray},L[j].1 = .string s->aav L s=some L[j].2
 | (k,y) :: L,h,0,_,s,he=>by
  have:k = .string s:=he;subst this;exact tu _ _ _
 | (k,y) :: L,h,j+1,hj,s,he=>by
  have cR:j < L.length:=by simpa using hj
  have aL:k≠.string s:=fun e=>(List.nodup_cons.1 h.once).1 (by
   show k∈_;have gJ:L[j].1 = .string s:=he;rw [e,<- gJ]
   exact List.mem_map.2 ⟨L[j],List.getElem_mem cR,rfl⟩)
  rw [rL _ _ aL];exact wu (IH h) cR he
theorem ID {L:List (Value×Value)} {s:ByteArray} {v:Value} (h:aav L s=some v):∃ j,∃ hj:j < L.length,L[j].1 = .string s/\L[j].2=v:=by
 unfold aav at h;obtain ⟨p,hp,rfl⟩:=Option.map_eq_some_iff.1 h;have h1:=List.find?_some hp;obtain ⟨j,hj,rfl⟩:=List.mem_iff_getElem.1 (List.mem_of_find?_eq_some hp);exact ⟨j,hj,(Dp s _).1 h1,rfl⟩
structure qi (E:List (Value×Value)) (seen:List Nat) (L:List (Value×Value)):Prop where
 ok:gQ L
 have':∀ j∈seen,∀ hj:j < E.length,∀ s,E[j].1 = .string s->aav L s=some E[j].2
 only:∀ s v,aav L s=some v->∃ j,∃ hj:j < E.length,j∈seen/\E[j].1 = .string s
theorem FX (E:List (Value×Value)):qi E [] []:=⟨DF,by simp,fun s v h=>by cases h⟩
theorem FW {E:List (Value×Value)} (hE:gQ E) {seen:List Nat} {L:List (Value×Value)} (h:qi E seen L) {j:Nat} (hj:j < E.length) {s:ByteArray} (hs:E[j].1 = .string s):qi E (seen ++ [j]) (b6 L s E[j].2):=by
 refine ⟨tw s _ h.ok,fun i hi cQ s' hs'=>?_,fun s' v hv=>?_⟩
 .rw [l4];by_cases e:s'=s
  .subst e;rw [if_pos rfl];have h1:=wu hE hj hs;have h2:=wu hE cQ hs';rw [<- h1,h2]
  .rw [if_neg e]
   rcases List.mem_append.1 hi with hi | hi
   .exact h.have' i hi cQ s' hs'
   .obtain rfl:i=j:=by simpa using hi
    rw [hs] at hs';injection hs' with hs';exact absurd hs'.symm e
 .rw [l4] at hv;by_cases e:s'=s
  .subst e;exact ⟨j,hj,by simp,hs⟩
  .rw [if_neg e] at hv;obtain ⟨i,hi,h1,h2⟩:=h.only s' v hv;exact ⟨i,hi,by simp [h1],h2⟩
theorem Ng {E:List (Value×Value)} (hE:gQ E) {seen:List Nat} {L:List (Value×Value)} (h:qi E seen L) (bx:∀ j,j < E.length->j∈seen) (s:ByteArray):aav L s=aav E s:=by
 cases he:aav E s with
 | some v=>
  obtain ⟨j,hj,h1,h2⟩:=ID he;rw [h.have' j (bx j hj) hj s h1,h2]
 | none=>
  cases hl:aav L s with
  | none=>rfl
  | some v=>
   obtain ⟨j,hj,_,h1⟩:=h.only s v hl;rw [wu hE hj h1] at he;cases he
theorem qA (s:ByteArray):∀ L:List (Value×Value),ab4 (.string s) (cy L)=(aav L s).map .v
 | []=>rfl
 | (k,x) :: L=>by
  have ih:=qA s L;by_cases hk:k = .string s
  .subst hk;rw [tu];show ((List.find? _ ((Value.string s,D.v x) :: cy L)).map _)=_;rw [List.find?_cons];simp only [y9];rfl
  .rw [rL _ _ hk,<- ih];show ((List.find? _ ((k,D.v x) :: cy L)).map _)=_;rw [List.find?_cons];simp only [y8 hk];rfl
theorem aaK (s:ByteArray) (x:Value):∀ L:List (Value×Value),n9 (.string s) (.v x) (cy L)=cy (b6 L s x)
 | []=>rfl
 | (k,y) :: L=>by
  have ih:=aaK s x L;by_cases hk:k = .string s
  .subst hk;rw [zE];show (match List.findIdx? _ ((Value.string s,D.v y) :: cy L) with | some j=>_ | none=>_)=_;rw [List.findIdx?_cons];simp only [y9,if_true];rfl
  .rw [zF _ _ _ hk];unfold n9 at ih;unfold n9;show (match List.findIdx? _ ((k,D.v y) :: cy L) with | some j=>_ | none=>_)=(k,D.v y) :: cy (b6 L s x);rw [List.findIdx?_cons,<- ih];simp only [y8 hk,Bool.false_eq_true,if_false]
   cases List.findIdx? (fun p=>fk (.string s) p.1) (cy L) with
   | none=>rfl
   | some j=>rfl
theorem mi:∀ L:List (Value×Value),jM (cy L)=some L
 | []=>rfl
 | (k,x) :: L=>by
  show (jM (cy L)).map _=_;rw [mi L];rfl
theorem acH {L:List (Value×Value)} (h:gQ L):∀ p∈cy L,gZ .string p.1=true:=fun p hp=>by
 obtain ⟨q,hq,rfl⟩:=List.mem_map.1 hp;obtain ⟨s,hs⟩:=h.str q hq;show gZ .string q.1=true;rw [hs];rfl
def adM:Option Value->Bool
 | some (.bool b)=>b
 | _=>false
def j1:Option Value->Int
 | some (.int _ n)=>n
 | _=>0
structure aa5 (p:aF) (s:StP) (I C:List (Value×Value)):Prop where
 jj:gQ I
 okC:gQ C
 bI:∀ k v,aav I k=some v->∃ b,v = .bool b
 iC:∀ k v,aav C k=some v->∃ n,v = .int .i64 n
 is:∀ i (hi:i < p.names.length),adM (aav I (bs p.names[i].name))=s.is.getD i false
 ct:∀ i (hi:i < p.names.length),j1 (aav C (bs p.names[i].name))=s.ct.getD i 0
theorem MK {a b:Tx} (h:bs a=bs b):a=b:=by
 have:=congrArg (fun x:ByteArray=>x.data.toList) h;simpa [bs] using this
theorem IZ {p:aF} (hg:abl p) {i k:Nat} (hi:i < p.names.length) (hk:k < p.names.length) (h:bs p.names[k].name=bs p.names[i].name):k=i:=by
 have h1:=hg.num i hi;have h2:=hg.num k hk;rw [MK h] at h2;rw [h1] at h2;omega
theorem VM {p:aF}:aa5 p (iO p) [] []:=by
 refine ⟨DF,DF,fun k v h=>(by cases h),fun k v h=>(by cases h),fun i hi=>?_,fun i hi=>?_⟩
 .show false=(List.replicate _ false).getD i false;rw [qF]
 .show (0:Int)=(List.replicate _ (0:Int)).getD i 0;rw [qF]
theorem p8 {p:aF} (hg:abl p) {s:StP} {I C:List (Value×Value)} (h:aa5 p s I C) (hl:s.is.length=p.names.length) {i:Nat} (hi:i < p.names.length) (b:Bool):aa5 p ⟨s.is.set i b,s.ct⟩ (b6 I (bs p.names[i].name) (.bool b)) C:=by
 refine ⟨tw _ _ h.jj,h.okC,fun k v hv=>?_,h.iC,fun k hk=>?_,h.ct⟩
 .rw [l4] at hv;split at hv
  .exact ⟨b,(Option.some.inj hv).symm⟩
  .exact h.bI k v hv
 .rw [l4];show _=(s.is.set i b).getD k false;by_cases e:k=i
  .subst e;rw [if_pos rfl,jQ (by omega)];rfl
  .rw [if_neg (fun e2=>e (IZ hg hi hk e2)),gF (fun e2=>e e2.symm)];exact h.is k hk
theorem zM {p:aF} (hg:abl p) {s:StP} {I C:List (Value×Value)} (h:aa5 p s I C) (hl:s.ct.length=p.names.length) {i:Nat} (hi:i < p.names.length) (n:Int):aa5 p ⟨s.is,s.ct.set i n⟩ I (b6 C (bs p.names[i].name) (.int .i64 n)):=by
 refine ⟨h.jj,tw _ _ h.okC,h.bI,fun k v hv=>?_,h.is,fun k hk=>?_⟩
 .rw [l4] at hv;split at hv
  .exact ⟨n,(Option.some.inj hv).symm⟩
  .exact h.iC k v hv
 .rw [l4];show _=(s.ct.set i n).getD k 0;by_cases e:k=i
  .subst e;rw [if_pos rfl,jQ (by omega)];rfl
  .rw [if_neg (fun e2=>e (IZ hg hi hk e2)),gF (fun e2=>e e2.symm)];exact h.ct k hk
theorem VL {p:aF} {s:StP} {I C I2 C2:List (Value×Value)} (h:aa5 p s I C) (h1:gQ I2) (h2:gQ C2) (h3:∀ k,aav I2 k=aav I k) (h4:∀ k,aav C2 k=aav C k):aa5 p s I2 C2:=
 ⟨h1,h2,fun k v hv=>h.bI k v (by rw [<- h3];exact hv),fun k v hv=>h.iC k v (by rw [<- h4];exact hv),fun i hi=>by rw [h3];exact h.is i hi,fun i hi=>by rw [h4];exact h.ct i hi⟩
theorem JP {p:aF} {s:StP} {I C:List (Value×Value)} (h:aa5 p s I C) (nm:Tx) (hn:¬ bB p nm < 0):adM (aav I (bs nm))=ew p s.is nm:=by
 obtain ⟨k,hk,he,hs⟩:=oS hn
 have hs':p.names[k].name=nm:=by simpa using hs
 have gJ:bB p nm=k:=he;unfold ew;rw [gJ,Int.toNat_natCast,<- h.is k hk,hs']
set_option maxHeartbeats 2000000 in
theorem Vv (G:ao) {p:aF} {s:StP} {I C:List (Value×Value)} (h:aa5 p s I C):lJ (fun nm=>¬ bB p nm < 0) G 72 [.ip [.dm false I,.dm false C]] (ew p s.is):=by
 intro nm hn;rw [<- JP h nm hn];have hg:=qA (bs nm) I;have hb:=h.bI (bs nm);have hk0:=acH h.jj;simp at hk0;have hk1:=eq_true hk0;have eY:=h.jj.once;simp only [dS];generalize bs nm=k at *
 cases hl:aav I k with
 | none=>
  rw [hl] at hg;simp only [Option.map_none] at hg;refine aw.aD (ZZ _) Tryz.func72 rfl rfl (rs:=[.tmp 3]) Tryz.results72 (by simp [Tryz.ntmps72]) fun X=>?_;simp only [Tryz.ntmps72,List.map];refine aq [0,1] [] ?_;have qf:=(Aq @hk1 (Aq @eY (Aq @hg (Aq @dr.eq_1 (Aq @bX.eq_1 @bX.eq_2)))));refine al [3] [] ?_;refine bk ?_;simp [D.le,D.le.go,aB,adM]
 | some v=>
  obtain ⟨b,rfl⟩:=hb v hl;rw [hl] at hg;simp only [Option.map_some] at hg;refine aw.aD (ZZ _) Tryz.func72 rfl rfl (rs:=[.tmp 3]) Tryz.results72 (by simp [Tryz.ntmps72]) fun X=>?_;simp only [Tryz.ntmps72,List.map];refine aq [0,1] [] ?_;have qf:=(Aq @hk1 (Aq @eY (Aq @hg (Aq @dr.eq_1 (Aq @bX.eq_1 @bX.eq_2)))));refine al [3] [] ?_;refine bk ?_;simp [D.le,D.le.go,aB,adM]
set_option maxHeartbeats 2000000 in
theorem Vw (G:ao) {p:aF} {s:StP} {I C:List (Value×Value)} (h:aa5 p s I C):lJ (fun nm=>¬ bB p nm < 0) G 73 [.ip [.dm false I,.dm false C]] (ew p s.is):=by
 intro nm hn;rw [<- JP h nm hn];have hg:=qA (bs nm) I;have hb:=h.bI (bs nm);have hk0:=acH h.jj;simp at hk0;have hk1:=eq_true hk0;have eY:=h.jj.once;simp only [dS];generalize bs nm=k at *
 cases hl:aav I k with
 | none=>
  rw [hl] at hg;simp only [Option.map_none] at hg;refine aw.aD (ZZ _) Tryz.func73 rfl rfl (rs:=[.tmp 3]) Tryz.results73 (by simp [Tryz.ntmps73]) fun X=>?_;simp only [Tryz.ntmps73,List.map];refine aq [0,1] [] ?_;have qf:=(Aq @hk1 (Aq @eY (Aq @hg (Aq @dr.eq_1 (Aq @bX.eq_1 @bX.eq_2)))));refine al [3] [] ?_;refine bk ?_;simp [D.le,D.le.go,aB,adM]
 | some v=>
  obtain ⟨b,rfl⟩:=hb v hl;rw [hl] at hg;simp only [Option.map_some] at hg;refine aw.aD (ZZ _) Tryz.func73 rfl rfl (rs:=[.tmp 3]) Tryz.results73 (by simp [Tryz.ntmps73]) fun X=>?_;simp only [Tryz.ntmps73,List.map];refine aq [0,1] [] ?_;have qf:=(Aq @hk1 (Aq @eY (Aq @hg (Aq @dr.eq_1 (Aq @bX.eq_1 @bX.eq_2)))));refine al [3] [] ?_;refine bk ?_;simp [D.le,D.le.go,aB,adM]
set_option maxHeartbeats 2000000 in
theorem Ki (G:ao):MC Tryz.prog G [] 70 [] (ZX []) (.agg [.mp 601,.mp 602]) (ZX [(601,.mp 59 []),(602,.mp 60 [])]):=by
 refine MC.aD (ZZ _) Tryz.func70 rfl rfl (rs:=[.cell 0 62]) Tryz.results70 (by simp [Tryz.ntmps70]) rfl fun X=>?_;simp only [Tryz.ntmps70];refine aq [0] [0] ?_;refine aq [0] [0,1,2] ?_;refine AW.imp (Z1.ren (r:=1) (r':=601) (by decide) (by simp)) ?_;refine AW.st (by simp [eS,aa2,Go.Av.ren,l7];rfl) ?_;refine AW.imp (Z1.ren (r:=2) (r':=602) (by decide) (by simp)) ?_;refine AW.st (by simp [eS,aa2,Go.Av.ren,l7];rfl) ?_;exact gm
def rM (p:aF) (bL:List Bool) (I:List (Value×Value)):Nat->List (Value×Value)
 | 0=>I
 | k+1=>b6 (rM p bL I k) (bs (p.names.getD ((aZ p).getD k 0).toNat ⟨[],0,0⟩).name) (.bool (bL.getD k false))
abbrev jL:=List (Value×Value)×List (Value×Value)
def pV (p:aF) (yes:Bool) (r:RgP) (m:jL):jL:=
 let k:=bs r.name
 let top:=(p.names.getD (bB p r.name).toNat ⟨[],0,0⟩).count
 if r.kind=1 then (b6 m.1 k (.bool yes),m.2)
 else if r.kind=2 then (if yes then b6 m.1 k (.bool true) else m.1,m.2)
 else if r.kind=3 then (if yes then b6 m.1 k (.bool false) else m.1,m.2)
 else if r.kind=6 then (if yes then (b6 m.1 k (.bool false),b6 m.2 k (.int .i64 0)) else m)
 else
  let c:=j1 (aav m.2 k)
  let C1:=if yes then (if c < top then b6 m.2 k (.int .i64 (c+1)) else m.2) else (if r.kind=4 then b6 m.2 k (.int .i64 0) else m.2)
  (b6 m.1 k (.bool (j1 (aav C1 k) == top)),C1)
def pW (p:aF) (old t:StP):List RgP->jL->jL
 | [],m=>m
 | r :: l,m=>pW p old (iM p old t r) l (pV p (mZ (ew p t.is) (ew p old.is) r.cond) r m)
def tB (p:aF) (s:StP) (bL:List Bool) (m:jL):jL:=pW p s ⟨jF (aZ p) bL s.is (aZ p).length,s.ct⟩ p.ZY (rM p bL m.1 (aZ p).length,m.2)
theorem IP (p:aF) (old:StP):∀ (l:List RgP) (t:StP) (m:jL) (n:Nat) (h:n < l.length),pW p old t (l.take (n+1)) m=pV p (mZ (ew p ((l.take n).foldl (iM p old) t).is) (ew p old.is) l[n].cond) l[n] (pW p old t (l.take n) m)
 | r :: l,t,m,0,_=>rfl
 | r :: l,t,m,n+1,h=>by
  have:=IP p old l (iM p old t r) (pV p (mZ (ew p t.is) (ew p old.is) r.cond) r m) n (by simpa using h);simp only [List.take_succ_cons,pW,List.foldl_cons,List.getElem_cons_succ];exact this
theorem DM {p:aF} (hg:abl p) {s:StP} (hs:dU p s) (bL:List Bool) {I C:List (Value×Value)} (h:aa5 p s I C):∀ k,k<=(aZ p).length->aa5 p ⟨jF (aZ p) bL s.is k,s.ct⟩ (rM p bL I k) C
 | 0,_=>h
 | k+1,hk=>by
  have ih:=DM hg hs bL h k (by omega);obtain ⟨i,hi,he,_⟩:=ad0 (p:=p) (j:=k) (by omega)
  have e1:(aZ p).getD k 0=(i:Int):=by rw [fD (by omega)];exact he
  have e2:p.names.getD i ⟨[],0,0⟩=p.names[i]:=fD hi;rw [rM,e1,Int.toNat_natCast,e2,Eh (by omega) he];exact p8 hg ih (rT bL hs k (by omega)).1.l1 hi _
theorem Ey {α:Type} {l:List α} {i:Nat} {d x:α} (hi:i < l.length) (h:l.getD i d=x):l.set i x=l:=by
 rw [fD hi] at h;rw [<- h,List.set_getElem_self]
theorem Uh {p:aF} (aY:aar p=none) {r:RgP} (hr:r∈p.ZY) (old:StP) {t:StP} (ht:dU p t) {m:jL} (h:aa5 p t m.1 m.2):aa5 p (iM p old t r) (pV p (mZ (ew p t.is) (ew p old.is) r.cond) r m).1 (pV p (mZ (ew p t.is) (ew p old.is) r.cond) r m).2:=by
 have hg:=gC aY;obtain ⟨i,hi,hn,hw,hd⟩:=zV aY hr;obtain ⟨hk,adB,_⟩:=qt aY r hr;obtain ⟨i2,ea,ia,dh⟩:=oS adB
 have ez:r.name=p.names[i].name:=by
  have h1:bB p r.name=(i2:Int):=ia
  have:i2=i:=by omega
  subst this
  have:p.names[i2].name=r.name:=by simpa using dh
  exact this.symm
 have gU:=ht.l1;have gV:=ht.l2;have hlo:=ht.lo i;have sY:=ht.hi i hi;have Qc:=h.is i hi;have hct:=h.ct i hi;have iy:=hg.count _ (List.getElem_mem hi);unfold pV iM;simp only [hn,Int.toNat_natCast,hd];generalize mZ (ew p t.is) (ew p old.is) r.cond=yes;obtain ⟨kd,nm,cd⟩:=r;dsimp only at ez hk hw hn ⊢;subst ez;clear adB ia dh hr hn;obtain ⟨is,ct⟩:=t;obtain ⟨I,C⟩:=m;dsimp only at Qc hct gU gV hlo sY h ⊢
 have hi1:i < is.length:=by omega
 have ea:i < ct.length:=by omega
 generalize hv:ct.getD i 0=v at *;have vU:ct.set i v=ct:=Ey ea hv
 have put:∀ n,j1 (aav (b6 C (bs p.names[i].name) (.int .i64 n)) (bs p.names[i].name))=n:=fun n=>by rw [l4,if_pos rfl];rfl
 have fin:∀ (c:Int) (C1:List (Value×Value)),aa5 p ⟨is,ct.set i c⟩ I C1->j1 (aav C1 (bs p.names[i].name))=c->∀ b,(c == p.names[i].count)=b->aa5 p ⟨is.set i b,ct.set i c⟩ (b6 I (bs p.names[i].name) (.bool (j1 (aav C1 (bs p.names[i].name)) == p.names[i].count))) C1:=fun c C1 h1 h2 b h3=>by
  rw [h2,h3];exact p8 (s:=⟨is,ct.set i c⟩) hg h1 gU hi b
 have vz:kd=1\/kd=2\/kd=3\/kd=4\/kd=5\/kd=6:=by omega
 have run:(kd=4\/kd=5)->∀ C1,C1=(if yes then (if j1 (aav C (bs p.names[i].name)) < p.names[i].count then b6 C (bs p.names[i].name) (.int .i64 (j1 (aav C (bs p.names[i].name))+1)) else C) else C)->aa5 p (gz ⟨is,ct⟩ i p.names[i].count yes) (b6 I (bs p.names[i].name) (.bool (j1 (aav C1 (bs p.names[i].name)) == p.names[i].count))) C1:=fun dB C1 pw=>by
  have aa9:1<=p.names[i].count:=by
   have:p.names[i].kind=3\/p.names[i].kind=4:=by
    rcases dB with rfl | rfl
    .exact .inl hw
    .exact .inr hw
   omega
  rw [hct] at pw;unfold gz;simp only [hv]
  cases yes with
  | true=>
   simp only [if_true] at pw ⊢;by_cases ax:v < p.names[i].count
   .rw [if_pos ax] at pw
    have e:(if v+1 < p.names[i].count then v+1 else p.names[i].count)=v+1:=by split<;>omega
    rw [e,pw];refine fin (v+1) _ (zM hg h gV hi _) (put _) _ ?_;exact Bool.eq_iff_iff.2 (by simp;omega)
   .rw [if_neg ax] at pw
    have e:(if v+1 < p.names[i].count then v+1 else p.names[i].count)=v:=by split<;>omega
    rw [e,pw];refine fin v C (by rw [vU];exact h) hct _ ?_;exact Bool.eq_iff_iff.2 (by simp;omega)
  | false=>
   simp only [Bool.false_eq_true,if_false] at pw ⊢;rw [pw];refine fin v C (by rw [vU];exact h) hct _ ?_;exact Bool.eq_iff_iff.2 (by simp;omega)
 rcases vz with rfl | rfl | rfl | rfl | rfl | rfl
 .exact p8 hg h gU hi yes
 .cases yes with
  | true=>
   show aa5 p ⟨is.set i (is.getD i false || true),ct⟩ (b6 I _ (.bool true)) C;rw [Bool.or_true];exact p8 hg h gU hi true
  | false=>
   show aa5 p ⟨is.set i (is.getD i false || false),ct⟩ I C;rw [Bool.or_false,Ey hi1 rfl];exact h
 .cases yes with
  | true=>
   show aa5 p ⟨is.set i (is.getD i false && !true),ct⟩ (b6 I _ (.bool false)) C;rw [Bool.not_true,Bool.and_false];exact p8 hg h gU hi false
  | false=>
   show aa5 p ⟨is.set i (is.getD i false && !false),ct⟩ I C;rw [Bool.not_false,Bool.and_true,Ey hi1 rfl];exact h
 .cases yes with
  | true=>exact run (.inl rfl) _ rfl
  | false=>
   show aa5 p (nN (gz ⟨is,ct⟩ i p.names[i].count false) i) (b6 I _ (.bool (j1 (aav (b6 C _ (.int .i64 0)) _) == p.names[i].count))) (b6 C _ (.int .i64 0))
   have aa9:1<=p.names[i].count:=by
    have:p.names[i].kind=3:=hw;omega
   have e:nN (gz ⟨is,ct⟩ i p.names[i].count false) i=⟨is.set i false,ct.set i 0⟩:=by
    simp [nN,gz,List.set_set]
   rw [e];refine fin 0 _ (zM hg h gV hi _) (put _) false ?_;simp;omega
 .cases yes with
  | true=>exact run (.inr rfl) _ rfl
  | false=>exact run (.inr rfl) _ rfl
 .cases yes with
  | true=>exact zM (s:=⟨is.set i false,ct⟩) hg (p8 hg h gU hi false) gV hi 0
  | false=>exact h
theorem DN {p:aF} (aY:aar p=none) (old:StP):∀ (l:List RgP) {t:StP} {m:jL},(∀ r∈l,r∈p.ZY)->dU p t->aa5 p t m.1 m.2->aa5 p (l.foldl (iM p old) t) (pW p old t l m).1 (pW p old t l m).2
 | [],t,m,_,_,h=>h
 | r :: l,t,m,hl,ht,h=>DN aY old l (fun r hr=>hl r (by simp [hr])) (Kt aY (hl r (by simp)) old ht).1 (Uh aY (hl r (by simp)) old ht h)
theorem Uk {p:aF} (aY:aar p=none) {s:StP} (hs:dU p s) (bL:List Bool) {m:jL} (h:aa5 p s m.1 m.2):aa5 p (lO p s bL) (tB p s bL m).1 (tB p s bL m).2:=
 DN aY s p.ZY (fun r hr=>hr) (rT bL hs _ (Nat.le_refl _)).1 (DM (gC aY) hs bL h _ (Nat.le_refl _))
theorem LP (y:Int):(nY .and .i64 y 1 == 1)=decide (y % 2=1):=by
 unfold nY;dsimp only
 have h2:(BitVec.ofInt 64 (1:Int)).toNat=1:=by decide
 have h3:(BitVec.ofInt IntKind.i64.bits y &&& BitVec.ofInt IntKind.i64.bits (1:Int)).toNat=(y % 2).toNat:=by
  show (BitVec.ofInt 64 y &&& BitVec.ofInt 64 (1:Int)).toNat=(y % 2).toNat
  rw [BitVec.toNat_and,h2,Nat.and_one_is_mod,BitVec.toNat_ofInt];omega
 rw [h3]
 have:y % 2=0\/y % 2=1:=by omega
 rcases this with h | h<;>rw [h]<;>decide
theorem Rk (x:Int) {k:Nat} (hk:k<=6):inB x k=decide ((x / 2 ^ k) % 2=1):=by
 unfold inB
 have e:min k IntKind.i64.bits=k:=by
  have:IntKind.i64.bits=64:=rfl;rw [this];omega
 rw [e,Int.fdiv_eq_ediv_of_nonneg _ (by exact Int.le_of_lt (Int.pow_pos (by decide))),LP]
theorem Pj (x:Int) (k:Nat):x / 2 ^ (k+1)=x / 2 ^ k / 2:=by
 rw [Int.pow_succ,Int.ediv_ediv_of_nonneg (by exact Int.le_of_lt (Int.pow_pos (by decide)))]
def zm (p:aF) (x:Int×jL) (nm:NmP):Int×jL:=if aan p nm=0 then x else
 (x.1 / aan p nm,if 3<=nm.kind then (b6 x.2.1 (bs nm.name) (.bool (decide (x.1 % aan p nm=nm.count))),b6 x.2.2 (bs nm.name) (.int .i64 (x.1 % aan p nm))) else (b6 x.2.1 (bs nm.name) (.bool (decide (x.1 % aan p nm=1))),x.2.2))
def jE (p:aF) (n:Int) (k:Nat):Int×jL:=(p.names.take k).foldl (zm p) (n,([],[]))
theorem Uj (p:aF) (n:Int):jE p n 0=(n,([],[])):=rfl
theorem IQ {p:aF} (n:Int) {k:Nat} (h:k < p.names.length):jE p n (k+1)=zm p (jE p n k) p.names[k]:=by
 unfold jE;rw [List.take_succ_eq_append_getElem h,List.foldl_append];rfl
theorem p6 {p:aF} (hg:abl p) {i:Nat} (hi:i < p.names.length):0<=aan p p.names[i]:=by
 have h5:=hg.count _ (List.getElem_mem hi);unfold aan;split
 .rcases h5 with h5 | h5<;>omega
 .split
  .omega
  .split<;>omega
theorem DO {p:aF} (aY:aar p=none) (n:Int) (h0:0<=n):∀ k,k<=p.names.length->∃ s:StP,s.is.length=p.names.length/\s.ct.length=p.names.length/\aa5 p s (jE p n k).2.1 (jE p n k).2.2/\lH (fR p k) (jE p n k).1 s=kA p n/\0<=(jE p n k).1/\(jE p n k).1<=n
 | 0,_=>⟨iO p,by simp [iO],by simp [iO],VM,rfl,h0,Int.le_refl _⟩
 | k+1,hk=>by
  have hg:=gC aY
  have hk':k < p.names.length:=by omega
  obtain ⟨s,l1,l2,hr,he,b0,b1⟩:=DO aY n h0 k (by omega);rw [IQ n hk'];rw [WO hg _ s hk'] at he;have s9:=p6 hg hk';generalize jE p n k=x at *;obtain ⟨m,I,C⟩:=x;dsimp only at hr he b0 b1;unfold zm;by_cases hz:aan p p.names[k]=0
  .rw [if_pos hz] at he;simp only [if_pos hz];exact ⟨s,l1,l2,hr,he,b0,b1⟩
  .rw [if_neg hz] at he;simp only [if_neg hz];have d0:0<=m / aan p p.names[k]:=Int.ediv_nonneg b0 s9;have d1:m / aan p p.names[k]<=m:=Int.ediv_le_self _ b0;by_cases k3:3<=p.names[k].kind
   .simp only [if_pos k3]
    have YG:aan p p.names[k]=p.names[k].count+1:=by unfold aan;rw [if_pos k3]
    have h1:=zM hg hr l2 hk' (m % aan p p.names[k]);have h2:=p8 hg h1 l1 hk' (decide (m % aan p p.names[k]=p.names[k].count))
    have e:nF ⟨k,aan p p.names[k],decide (3<=p.names[k].kind)⟩ (m % aan p p.names[k]) s=⟨s.is.set k (decide (m % aan p p.names[k]=p.names[k].count)),s.ct.set k (m % aan p p.names[k])⟩:=by
     unfold nF
     have e2:aan p p.names[k] - 1=p.names[k].count:=by omega
     simp only [decide_eq_true k3,if_true,e2]
    rw [e] at he;exact ⟨_,by simp [l1],by simp [l2],h2,he,d0,by omega⟩
   .simp only [if_neg k3];have h2:=p8 hg hr l1 hk' (decide (m % aan p p.names[k]=1))
    have e:nF ⟨k,aan p p.names[k],decide (3<=p.names[k].kind)⟩ (m % aan p p.names[k]) s=⟨s.is.set k (decide (m % aan p p.names[k]=1)),s.ct⟩:=by
     unfold nF;simp only [decide_eq_false k3,Bool.false_eq_true,if_false]
    rw [e] at he;exact ⟨⟨s.is.set k (decide (m % aan p p.names[k]=1)),s.ct⟩,by simp [l1],l2,h2,he,d0,by omega⟩
theorem Ui {p:aF} (aY:aar p=none) (n:Int) (h0:0<=n):aa5 p (kA p n) (jE p n p.names.length).2.1 (jE p n p.names.length).2.2:=by
 obtain ⟨s,_,_,hr,he,_⟩:=DO aY n h0 _ (Nat.le_refl _);rw [Kz] at he;have e:s=kA p n:=he;rw [<- e];exact hr
theorem EE {p:aF} (aY:aar p=none) {s:StP} (hs:dU p s) (k:Nat):0<=eD (fR p k) s/\eD (fR p k) s < bG (bw p):=by
 have hg:=gC aY;have h:=DY (l:=fR p k) (s:=s) fun _ hx=>F5 hs (nD hg (KA hx))
 have e:bG (bw p)=bG ((bw p).take (cX p k).length) * bG (fR p k):=by
  unfold fR;rw [<- wV,List.take_append_drop]
 have h1:0 < bG ((bw p).take (cX p k).length):=nE fun x hx=>(nD hg (List.mem_of_mem_take hx)).m2;have h2:0 < bG (fR p k):=nE fun x hx=>(nD hg (KA hx)).m2;have h3:=Int.mul_le_mul_of_nonneg_right (show (1:Int)<=bG ((bw p).take (cX p k).length) by omega) (Int.le_of_lt h2);rw [Int.one_mul] at h3;exact ⟨h.1,by omega⟩
theorem af6 {p:aF} (aY:aar p=none) {s:StP} (hs:dU p s) {i:Nat} (hi:i < p.names.length) (hP:bG (bw p)<=4096) (hz:aan p p.names[i]≠0):0<=eD (fR p (i+1)) s * aan p p.names[i]/\eD (fR p (i+1)) s * aan p p.names[i]<=4096/\eD (fR p i) s=eD (fR p (i+1)) s * aan p p.names[i]+(if 3<=p.names[i].kind then s.ct.getD i 0 else if s.is.getD i false then 1 else 0):=by
 have hg:=gC aY;have h1:=KB hg s hi;rw [if_neg hz,Int.mul_comm] at h1;have h2:=EE aY hs i;have h3:=EE aY hs (i+1);have h4:=Int.mul_nonneg h3.1 (p6 hg hi)
 have h5:0<=(if 3<=p.names[i].kind then s.ct.getD i 0 else if s.is.getD i false then 1 else 0):=by
  split
  .exact hs.lo i
  .split<;>omega
 generalize (if 3<=p.names[i].kind then s.ct.getD i 0 else if s.is.getD i false then 1 else 0)=d at *;exact ⟨h4,by omega,by omega⟩
def wJ (R:List Nat) (q off n:Nat):AV:=if R.contains q then .dead else .own q off n
def wI (R:List Nat) (q e j:Nat):AV:=if R.contains q then .dead else .ref q e j
theorem Ri {Mv X:Nat->Prop} {G:ao} {N:Fr} {σ:St} (R:List Nat) (hm:∀ r,R.contains r=true->Mv r) (i k:Nat) {x:AV} {d:D} (hx:σ.env i=some x) (hd:dM (trH R.contains (du R) (dt R) σ.H) k (x.tr (du R) (dt R))=some d):Z1 Mv X G N σ ⟨eF (trE (wJ R) (wI R) σ.env) i (.d d),trH (dP R) (wJ R) (wI R) σ.H⟩:=fun w μ a hi=>by
 have hp:=hi.aS.part R
 have h':=hi.tr (keep:=dP R) (o:=wJ R) (f:=wI R) (fun u r off n h=>by
   unfold wJ;split
   .exact .dead u
   .rename_i hk;exact h.tP (by simpa [dP] using hk)) (fun u r e j h=>by
   unfold wI;split
   .exact .dead u
   .rename_i hk;exact h.tR (by simpa [dP] using hk))
 obtain ⟨u,hu,hr⟩:=hi.env.slot i x hx;have bz:RD w (XX X (bF (dP R) μ)) u d:=xu hp.1 k hd (hp.2 hr);refine ⟨bF (dP R) μ,⟨h'.aS,⟨h'.env.defers,h'.env.size,fun q y hy=>?_⟩,h'.fV⟩,qD fun r _ _ h=>hm r (by simpa [dP] using h)⟩;by_cases e:q=i
 .subst e
  have e2:some (AV.d d)=some y:=by simpa [eF] using hy
  obtain rfl:=Option.some.inj e2;exact ⟨u,hu,.d bz⟩
 .exact h'.env.slot q y (by simpa [eF,e] using hy)
def AZ (p:aF) (st inp:Int) (nx:List (List D)):List D:=[bR p.names,.sl none (p.ZY.map cZ),.v (.int .i64 st),.v (.int .i64 inp),.sl none nx]
def Be (p:aF) (st inp:Int) (nx:List (List D)):D:=.ip (AZ p st inp nx)
def nB (p:aF) (st inp:Int) (nx:List (List D)):List (Nat×Row):=[(12,.box 50 [.d (bR p.names),.d (.sl none (p.ZY.map cZ)),.d (.v (.int .i64 st)),.d (.v (.int .i64 inp)),.own 800 0 nx.length]),(800,.sl 46 1 nx)]
def uL (m:jL):D:=.agg [.dm false m.1,.dm false m.2]
set_option maxRecDepth 100000 in
set_option maxHeartbeats 8000000 in
theorem XU (G:ao) (p:aF) (aY:aar p=none) (st inp:Int) (nx:List (List D)) (x:Int) (h0:0<=x) (h1:x<=2^40) (YA:(aZ p).length<=6):MC Tryz.prog G [12,800] 23 [.ref 12 0 0,.d (ab x)] (ZX (nB p st inp nx)) (.d (iU (eN x (aZ p).length))) (ZX (nB p st inp nx)):=by
 have ez:=(gC aY).names;have dB:=Aj G p (by omega) 1;have hkI:abe p.names 1 p.names.length=aZ p:=rfl;rw [hkI] at dB;simp only [cN,cPw,bR] at dB;simp only [nB,bR,ab,iU]
 have js:((aZ p).map fun n=>[D.v (.int .i64 n)]).length=(aZ p).length:=by simp
 generalize (aZ p).length=m at *;generalize (aZ p).map (fun n=>[D.v (.int .i64 n)])=IN at *;generalize p.names.map Z3=NN at *;generalize p.ZY.map cZ=RR at *;refine MC.aD (ZZ _) Tryz.func23 rfl rfl (rs:=[.tmp 4]) Tryz.results23 (by simp [Tryz.ntmps23]) rfl fun X=>?_;simp only [Tryz.ntmps23];have fw:=@ab.eq_1;refine ZW fw [0,1] [12,800] ?_;refine ZW fw [0,1,5] [12,800] ?_;refine ae fun K1 ay=>?_;refine Z6 fw dB [1,5,11,12] [12,800] ?_;refine aam (S:=Nat×Int) (fun s=>s.1<=m/\0<=s.2/\s.2<=2^40/\s.2=x / 2 ^ s.1) (fun s=>⟨aX [(1,int s.2),(5,.own 901 0 s.1),(11,int m),(12,int s.1)],ZX [(12,.box 50 [.d (.sl none NN),.d (.sl none RR),.d (.v (.int .i64 st)),.d (.v (.int .i64 inp)),.own 800 0 nx.length]),(800,.sl 46 1 nx),(901,.sl 4 1 ((eN x s.1).map fun b=>[.v (.bool b)]))]⟩) (fun s=>m - s.1) (0,x) ?_ ⟨by simp,h0,h1,by simp⟩ ?_
 .refine (Z1.kc 5 901 4 1 rfl rfl).trans ?_;refine aU (Aq fw (Aq @eN.eq_1 (Aq @eN.eq_2 @js)))
 .rintro ⟨k,v⟩ ⟨yA,fJ,gg,hv⟩;dsimp only at yA fJ gg hv ⊢
  have nc:((eN x k).map fun b=>[D.v (.bool b)]).length=k:=by simp [aeo]
  have uW:eN x (k+1)=eN x k ++ [decide (v % 2=1)]:=by rw [hv,<- Rk x (by omega)];rfl
  generalize hbk:eN x k=B at nc uW ⊢;refine ZW fw [1,5,11,12,13] [12,800,901] ?_;refine ae fun K2 aa=>?_;refine dG (b:=k < m) (by simp [D.le,D.le.go,aB,ab]) (fun hc=>?_) (fun hc=>?_)
  .have kN:v.tmod 2=v % 2:=Int.tmod_eq_emod_of_nonneg fJ
   have hdiv:IntKind.i64.wrap (v.tdiv 2)=v / 2:=by
    rw [Int.tdiv_eq_ediv_of_nonneg fJ];exact Ar (by omega)
   refine ah (aa _ ?_);refine ae fun K3 aQ=>?_;refine aR ?_;refine rg [1,5,11,12] [12,800,901] (cC rfl) fun K' af=>?_;(repeat (refine Z0 fun K2 aa=>?_;simp [ab,nc,List.take_of_length_le,kN];(repeat (refine ⟨by omega,?_⟩));refine aa _ ?_;clear aa K2));refine Z9 (af _ (AW.st (by simp [ab,nc,List.take_of_length_le,kN];rfl) ?_));clear af K';have qf:=(Aq fw @hdiv);refine dv aQ [1,5,11,12] [12,800,901] ?_;refine reQ fw ?_;(try simp only [aM,aP]);refine aV.mk (k+1,v / 2) ⟨by dsimp only;omega,by dsimp only;omega,by dsimp only;omega,by dsimp only;rw [Pj,<- hv]⟩ (by dsimp only;omega) ?_;rw [uW];refine aU fw
  .obtain rfl:k=m:=by omega
   refine bH (ay _ ?_);rw [hbk];refine AW.imp (Z1.freeze 901 (by decide)) ?_;refine AW.st (by simp [ab,nc,List.take_of_length_le];rfl) ?_;refine ZW fw [4] [12,800] ?_;exact aK fw
set_option maxRecDepth 100000 in
set_option maxHeartbeats 16000000 in
theorem XY (G:ao) (hM:abJ G) (p:aF) (aY:aar p=none) (hk:∀ r∈p.ZY,j9 r) (st inp:Int) (nx:List (List D)) (s:StP) (hs:dU p s) (hP:bG (bw p)<=4096) (I C:List (Value×Value)) (hr:aa5 p s I C):MC Tryz.prog G [12,800] 69 [.ref 12 0 0,.d (uL (I,C))] (ZX (nB p st inp nx)) (.d (ab (eD (bw p) s))) (ZX (nB p st inp nx)):=by
 have hg:=gC aY;have ez:=hg.names;have ll:=zU G hM p aY hk;simp only [cN,cPw,bR,gE] at ll;have jj:=hr.jj;have okC:=hr.okC;have hk0:=acH jj;simp at hk0;have hk1:=eq_true hk0;have eM:=acH okC;simp at eM;have cO:=eq_true eM;have wE:=jj.once;have wF:=okC.once
 have hIb:∀ i (hi:i < p.names.length),(ab4 (.string (bs p.names[i].name)) (cy I)=none/\s.is.getD i false=false)\/ab4 (.string (bs p.names[i].name)) (cy I)=some (.v (.bool (s.is.getD i false))):=fun i hi=>by
  rw [qA,<- hr.is i hi]
  cases h:aav I (bs p.names[i].name) with
  | none=>exact .inl ⟨rfl,rfl⟩
  | some v=>obtain ⟨b,rfl⟩:=hr.bI _ v h;exact .inr rfl
 have OI:∀ i (hi:i < p.names.length),(ab4 (.string (bs p.names[i].name)) (cy C)=none/\s.ct.getD i 0=0)\/ab4 (.string (bs p.names[i].name)) (cy C)=some (.v (.int .i64 (s.ct.getD i 0))):=fun i hi=>by
  rw [qA,<- hr.ct i hi]
  cases h:aav C (bs p.names[i].name) with
  | none=>exact .inl ⟨rfl,rfl⟩
  | some v=>obtain ⟨b,rfl⟩:=hr.iC _ v h;exact .inr rfl
 have CP:=fun k=>EE aY hs k;have Hz:=fun i (hi:i < p.names.length)=>KB hg s hi;have fG:=fun i (hi:i < p.names.length)=>af6 aY hs hi hP
 have hRl:(dJ p).length=p.names.length:=by simp [dJ]
 have hRg:∀ i (hi:i < p.names.length),(dJ p)[i]? = some (aan p p.names[i]):=fun i hi=>by simp [dJ,hi]
 have j0:eD (fR p 0) s=eD (bw p) s:=by rw [Wy]
 have HU:eD (fR p p.names.length) s=0:=by rw [Kz];rfl
 rw [<- j0];clear j0;generalize dJ p=RP at *;obtain ⟨V,hV⟩:∃ V:Nat->Int,∀ k,eD (fR p k) s=V k:=⟨_,fun _=>rfl⟩;simp only [hV] at CP Hz fG HU ⊢;clear hV hr jj okC hk0 eM;simp only [nB,bR,ab,uL]
 have hNl:(p.names.map Z3).length=p.names.length:=by simp
 have kG:∀ i (h:i < p.names.length),(p.names.map Z3)[i]? = some [.v (.string (bs p.names[i].name)),.v (.int .i64 p.names[i].kind),.v (.int .i64 p.names[i].count)]:=fun i h=>by simp [h,Z3,dS]
 generalize p.names.map Z3=NN at *;generalize p.ZY.map cZ=RR at *;refine MC.aD (ZZ _) Tryz.func69 rfl rfl (rs:=[.tmp 4]) Tryz.results69 (by simp [Tryz.ntmps69]) rfl fun X=>?_;simp only [Tryz.ntmps69];have fw:=@ab.eq_1;refine ZW fw [0,3] [12,800,3] ?_;refine ck fw 3 ?_;refine ZW fw [0,3,5] [12,800] ?_;refine Z6 fw ll [0,3,5,6] [12,800] ?_;refine ae fun K1 ay=>?_;refine ZW fw [0,3,5,6,7] [12,800] ?_;refine aam (S:=Nat) (fun k=>k<=p.names.length) (fun k=>⟨aX [(0,.ref 12 0 0),(3,.d (.ip [.dm false I,.dm false C])),(5,int (V k)),(6,.d (.sl none (RP.map fun x=>[.v (.int .i64 x)]))),(7,int ((k:Int) - 1))],ZX [(12,.box 50 [.d (.sl none NN),.d (.sl none RR),.d (.v (.int .i64 st)),.d (.v (.int .i64 inp)),.own 800 0 nx.length]),(800,.sl 46 1 nx)]⟩) (fun k=>k) p.names.length ?_ (Nat.le_refl _) ?_
 .rw [HU];refine aU (Aq fw @hRl)
 .intro k hk;refine ae fun K2 aa=>?_;have hr1:=CP k
  cases k with
  | zero=>
   refine ZW fw [0,3,5,6,7,18] [12,800] ?_;refine ag (by simp) ?_;refine bH (ay _ ?_);refine ZW fw [4] [12,800] ?_;exact aK fw
  | succ i=>
   have hi:i < p.names.length:=by omega
   have ei:((i+1:Nat):Int) - 1=(i:Int):=by omega
   rw [ei];refine ZW fw [0,3,5,6,7,18] [12,800] ?_;refine ak (by simp) ?_;refine ah (aa _ ?_);refine ae fun K3 aQ=>?_;refine aR ?_
   have aaq:i < NN.length:=by omega
   have qK:NN[i]=[.v (.string (bs p.names[i].name)),.v (.int .i64 p.names[i].kind),.v (.int .i64 p.names[i].count)]:=by
    have:=kG i hi;rw [List.getElem?_eq_getElem aaq] at this;exact Option.some.inj this
   have lU:i < RP.length:=by omega
   have fZ:RP[i]=aan p p.names[i]:=by
    have:=hRg i hi;rw [List.getElem?_eq_getElem lU] at this;exact Option.some.inj this
   have hz:=Hz i hi;have hn:=fG i hi;have qH:=hIb i hi;have BC:=OI i hi;generalize bs p.names[i].name=nm at qK qH BC;generalize p.names[i].kind=kd at qK hz hn;generalize p.names[i].count=ct at qK;generalize aan p p.names[i]=K at fZ hz hn;generalize s.is.getD i false=b at qH hz hn;generalize s.ct.getD i 0=c at BC hz hn;generalize V (i+1)=v at hz hn hr1 ⊢;have jC:=CP i;generalize sQ:V i=vi at hz hn jC;have qf:=(Aq fw (Aq @aaq @qK));refine al [0,3,5,6,7,8] [12,800,8] ?_;refine ck fw 8 ?_;refine ae fun K4 bN=>?_;by_cases lS:K=0
   .rw [if_pos lS] at hz;have qf:=(Aq fw (Aq @lU (Aq @fZ @lS)));refine al [0,3,5,6,7,8,33] [12,800] ?_;refine ak (by simp [lS]) ?_;refine bH (aQ _ ?_);refine reQ fw ?_;(try simp only [aM,aP]);refine aV.mk i (by omega) (by omega) ?_;rw [sQ,hz];refine aU fw
   .clear hz;obtain ⟨n1,n2,n3⟩:=hn lS;have qf:=(Aq fw (Aq @lU (Aq @fZ @lS)));refine al [0,3,5,6,7,8,33] [12,800] ?_;refine ag (by simp [lS]) ?_;refine ah (bN _ ?_);have qf:=(Aq fw (Aq @lU @fZ));refine al [0,3,5,6,7,8] [12,800] ?_;generalize v * K=w at n1 n2 n3 ⊢;by_cases k3:kd >= 3
    .rw [if_pos k3] at n3;have qf:=(Aq fw @k3);refine al [0,3,5,6,7,8,42] [12,800] ?_;refine ak (by simp<;>omega) ?_
     rcases BC with ⟨h2,rfl⟩ | h2
     .have qf:=(Aq fw (Aq @h2 (Aq @hk1 (Aq @cO (Aq @wE (Aq @wF (Aq @dr.eq_1 (Aq @bX.eq_1 @bX.eq_2))))))));refine dv aQ [0,3,5,6,7] [12,800] ?_;refine reQ fw ?_;(try simp only [aM,aP]);refine aV.mk i (by omega) (by omega) ?_;rw [sQ,n3];refine aU fw
     .have qf:=(Aq fw (Aq @h2 (Aq @hk1 (Aq @cO (Aq @wE (Aq @wF (Aq @dr.eq_1 (Aq @bX.eq_1 @bX.eq_2))))))));refine dv aQ [0,3,5,6,7] [12,800] ?_;refine reQ fw ?_;(try simp only [aM,aP]);refine aV.mk i (by omega) (by omega) ?_;rw [sQ,n3];refine aU fw
    .rw [if_neg (by omega)] at n3;have qf:=(Aq fw @k3);refine al [0,3,5,6,7,8,42] [12,800] ?_;refine ag (by simp<;>omega) ?_;have OM:∃ ob,ab4 (.string nm) (cy I)=ob/\((ob=none/\b=false)\/ob=some (.v (.bool b))):=⟨_,rfl,qH⟩;clear qH;obtain ⟨ob,h2,qH⟩:=OM
     cases b with
     | true=>
      obtain rfl:ob=some (.v (.bool true)):=qH.elim (fun h=>by cases h.2) id;have qf:=(Aq fw (Aq @h2 (Aq @hk1 (Aq @cO (Aq @wE (Aq @wF (Aq @dr.eq_1 (Aq @bX.eq_1 @bX.eq_2))))))));refine al [0,3,5,6,7,54] [12,800] ?_;refine ak rfl ?_;rw [if_pos rfl] at n3;refine reK fw aQ [0,3,5,6,7] [12,800] ?_;refine reQ fw ?_;(try simp only [aM,aP]);refine aV.mk i (by omega) (by omega) ?_;rw [sQ,n3];refine aU fw
     | false=>
      rw [if_neg (by simp),Int.add_zero] at n3
      rcases qH with ⟨rfl,_⟩ | rfl
      .have qf:=(Aq fw (Aq @h2 (Aq @hk1 (Aq @cO (Aq @wE (Aq @wF (Aq @dr.eq_1 (Aq @bX.eq_1 @bX.eq_2))))))));refine al [0,3,5,6,7,54] [12,800] ?_;refine ag rfl ?_;refine ah ?_;refine aQ _ (AW.norm [0,3,5,6,7] [12,800] (cC rfl) (AW.st (by simp [ab];rfl) ?_));refine reQ fw ?_;(try simp only [aM,aP]);refine aV.mk i (by omega) (by omega) ?_;rw [sQ,n3];refine aU fw
      .have qf:=(Aq fw (Aq @h2 (Aq @hk1 (Aq @cO (Aq @wE (Aq @wF (Aq @dr.eq_1 (Aq @bX.eq_1 @bX.eq_2))))))));refine al [0,3,5,6,7,54] [12,800] ?_;refine ag rfl ?_;refine ah ?_;refine aQ _ (AW.norm [0,3,5,6,7] [12,800] (cC rfl) (AW.st (by simp [ab];rfl) ?_));refine reQ fw ?_;(try simp only [aM,aP]);refine aV.mk i (by omega) (by omega) ?_;rw [sQ,n3];refine aU fw
set_option maxRecDepth 100000 in
set_option maxHeartbeats 16000000 in
theorem X5 (G:ao) (hM:abJ G) (p:aF) (aY:aar p=none) (hk:∀ r∈p.ZY,j9 r) (st inp:Int) (nx:List (List D)) (n:Int) (h0:0<=n) (h1:n<=2^40):MC Tryz.prog G [12,800] 22 [.ref 12 0 0,.d (ab n)] (ZX (nB p st inp nx)) (.d (uL (jE p n p.names.length).2)) (ZX (nB p st inp nx)):=by
 have hg:=gC aY;have ez:=hg.names;have dO:=Ki G;have ll:=zU G hM p aY hk;simp only [cN,cPw,bR,gE] at ll;have aC:=fun k (h:k<=p.names.length)=>DO aY n h0 k h
 have hRl:(dJ p).length=p.names.length:=by simp [dJ]
 have hRg:∀ i (hi:i < p.names.length),(dJ p)[i]? = some (aan p p.names[i]):=fun i hi=>by simp [dJ,hi]
 have BG:=fun i (hi:i < p.names.length)=>p6 hg hi;have cW:=fun k (h:k < p.names.length)=>IQ n h;have hs0:=Uj p n;generalize dJ p=RP at *;generalize jE p n=T at *;simp only [nB,bR,ab,uL]
 have hNl:(p.names.map Z3).length=p.names.length:=by simp
 have kG:∀ i (h:i < p.names.length),(p.names.map Z3)[i]? = some [.v (.string (bs p.names[i].name)),.v (.int .i64 p.names[i].kind),.v (.int .i64 p.names[i].count)]:=fun i h=>by simp [h,Z3,dS]
 generalize p.names.map Z3=NN at *;generalize p.ZY.map cZ=RR at *;refine MC.aD (ZZ _) Tryz.func22 rfl rfl (rs:=[.cell 4 62]) Tryz.results22 (by simp [Tryz.ntmps22]) rfl fun X=>?_;simp only [Tryz.ntmps22];have fw:=@ab.eq_1;refine ZW fw [0,1,4] [12,800,4] ?_;refine Z8 fw dO [0,1,4,5] [12,800,4,5,601,602] ?_;refine ae fun K1 ay=>?_;refine Z6 fw ll [0,1,4,5,14,15,16] [12,800,4,5,601,602] ?_;refine aam (S:=Nat) (fun k=>k<=p.names.length) (fun k=>⟨aX [(0,.ref 12 0 0),(1,int (T k).1),(4,.ref 4 0 0),(5,.ref 5 0 0),(14,.d (.sl none (RP.map fun x=>[.v (.int .i64 x)]))),(15,int RP.length),(16,int k)],ZX [(12,.box 50 [.d (.sl none NN),.d (.sl none RR),.d (.v (.int .i64 st)),.d (.v (.int .i64 inp)),.own 800 0 nx.length]),(800,.sl 46 1 nx),(4,.box 62 [.d (.v (.map none)),.d (.v (.map none))]),(5,.box 62 [.mp 601,.mp 602]),(601,.mp 59 (cy (T k).2.1)),(602,.mp 60 (cy (T k).2.2))]⟩) (fun k=>p.names.length - k) 0 ?_ (by omega) ?_
 .rw [hs0];refine Z1.dK (cC rfl) (by simp [ab,cy]) (by simp [ab,cy])
 .intro k ie;obtain ⟨_,_,_,oJ,_,hb0,c6⟩:=aC k ie;have gw:=cW k
  have ym:k=p.names.length->T p.names.length=T k:=fun e=>by rw [e]
  generalize T k=tk at oJ hb0 c6 gw ym ⊢;obtain ⟨m,I,C⟩:=tk;dsimp only at oJ hb0 c6 ⊢;refine ZW fw [0,1,4,5,14,15,16,17] [12,800,4,5,601,602] ?_;refine ae fun K2 aa=>?_;by_cases ax:k < p.names.length
  .have lU:k < RP.length:=by omega
   refine ak (by simp [lU]) ?_;refine ah (aa _ ?_);refine ae fun K3 aQ=>?_;refine aR ?_;have gw:=gw ax
   have aaq:k < NN.length:=by omega
   have jS:NN[k]=[.v (.string (bs p.names[k].name)),.v (.int .i64 p.names[k].kind),.v (.int .i64 p.names[k].count)]:=by
    have:=kG k ax;rw [List.getElem?_eq_getElem aaq] at this;exact Option.some.inj this
   have ft:RP[k]=aan p p.names[k]:=by
    have:=hRg k ax;rw [List.getElem?_eq_getElem lU] at this;exact Option.some.inj this
   have lS:=BG k ax;unfold zm at gw;generalize bs p.names[k].name=nm at jS gw;generalize p.names[k].kind=kd at jS gw;generalize p.names[k].count=ct at jS gw;generalize aan p p.names[k]=K at ft lS gw;have hk0:=acH oJ.jj;simp at hk0;have hk1:=eq_true hk0;have eM:=acH oJ.okC;simp at eM;have cO:=eq_true eM;have qf:=(Aq fw (Aq @lU @ft));refine al [0,1,4,5,6,7,14,15,16] [12,800,4,5,601,602] ?_;refine ae fun K4 bN=>?_;by_cases lg:K=0
   .rw [if_pos lg] at gw;have qf:=(Aq fw @lg);refine al [0,1,4,5,6,7,14,15,16,22] [12,800,4,5,601,602] ?_;refine ak (by simp [lg]) ?_;refine bH (aQ _ ?_);refine reQ fw ?_;(try simp only [aM,aP]);refine aV.mk (k+1) (by omega) (by omega) ?_;rw [gw];refine aU fw
   .rw [if_neg lg] at gw;dsimp only at gw;have kN:m.tmod K=m % K:=Int.tmod_eq_emod_of_nonneg hb0;have gI:0<=m / K:=Int.ediv_nonneg hb0 lS;have hd1:m / K<=m:=Int.ediv_le_self _ hb0
    have hdiv:IntKind.i64.wrap (m.tdiv K)=m / K:=by
     rw [Int.tdiv_eq_ediv_of_nonneg hb0];exact Ar (by omega)
    generalize m / K=q at *;generalize m % K=r at *;have qf:=(Aq fw @lg);refine al [0,1,4,5,6,7,14,15,16,22] [12,800,4,5,601,602] ?_;refine ag (by simp [lg]) ?_;refine ah (bN _ ?_);have qf:=(Aq fw (Aq @aaq @jS));refine al [0,1,4,5,7,8,14,15,16] [12,800,4,5,601,602,8] ?_;refine ck fw 8 ?_;refine ae fun K5 hK5=>?_;by_cases k3:kd >= 3
    .rw [if_pos k3] at gw;have qf:=(Aq fw @k3);refine al [0,1,4,5,7,8,14,15,16,33] [12,800,4,5,601,602] ?_;refine ak (by simp<;>omega) ?_;have qf:=(Aq fw (Aq @lg (Aq @kN (Aq @hk1 (Aq @cO @aaK)))));refine fP [0,1,4,5,7,8,14,15,16] [12,800,4,5,601,602] ?_;refine uo (ZZ _) (by kernel_rfl) (by kernel_rfl) fun K' af=>?_;(repeat (refine fo fun K2 aa=>?_;simp [ab,lg,kN,hk1,cO,aaK];(repeat (refine ⟨by omega,?_⟩));refine aa _ ?_;clear aa K2));refine kZ (af _ ?_);clear af K';refine hK5 _ (AW.norm [0,1,4,5,7,14,15,16] [12,800,4,5,601,602] (cC rfl) (AW.st (by simp [ab,lg,kN,hk1,cO,aaK];rfl) ?_));have qf:=(Aq fw (Aq @lg @hdiv));refine dv aQ [0,1,4,5,14,15,16] [12,800,4,5,601,602] ?_;refine reQ fw ?_;(try simp only [aM,aP]);refine aV.mk (k+1) (by omega) (by omega) ?_;rw [gw];refine aU fw
    .rw [if_neg k3] at gw;have qf:=(Aq fw @k3);refine al [0,1,4,5,7,8,14,15,16,33] [12,800,4,5,601,602] ?_;refine ag (by simp<;>omega) ?_;refine uo (ZZ _) (by kernel_rfl) (by kernel_rfl) fun K' af=>?_;(repeat (refine fo fun K2 aa=>?_;simp [ab,lg,kN,hk1,cO,aaK];(repeat (refine ⟨by omega,?_⟩));refine aa _ ?_;clear aa K2));refine kZ (af _ ?_);clear af K';refine hK5 _ (AW.norm [0,1,4,5,7,14,15,16] [12,800,4,5,601,602] (cC rfl) (AW.st (by simp [ab,lg,kN,hk1,cO,aaK];rfl) ?_));have qf:=(Aq fw (Aq @lg @hdiv));refine dv aQ [0,1,4,5,14,15,16] [12,800,4,5,601,602] ?_;refine reQ fw ?_;(try simp only [aM,aP]);refine aV.mk (k+1) (by omega) (by omega) ?_;rw [gw];refine aU fw
  .obtain rfl:k=p.names.length:=by omega
   have Pb:=ym rfl;refine ag (by simp<;>omega) ?_;refine bH (ay _ ?_);refine ZW fw [4] [12,800,4,601,602] ?_
   refine AW.imp (Ri [4,601,602] (fun r h=>by
    have h':r=4\/r=601\/r=602:=by simpa using h
    rcases h' with rfl | rfl | rfl<;>decide) 4 6 (x:=.ref 4 0 0) (d:=.ip [.dm false I,.dm false C]) (by simp) (by simp [mi])) ?_
   refine AW.st (by simp [wJ,wI,dP];rfl) ?_;refine bk ?_;simp [D.le,D.le.go,aB,ab,Pb,mi,D.le_refl,D.bn]
theorem Lk {V:Nat} (h:V<=6):IntKind.i64.wrap (2 ^ (min V IntKind.i64.bits))=((2^V:Nat):Int):=by
 have:V=0\/V=1\/V=2\/V=3\/V=4\/V=5\/V=6:=by omega
 rcases this with rfl | rfl | rfl | rfl | rfl | rfl | rfl<;>decide
def iN (n:Nat) (E:List Int):Nat->List Bool
 | 0=>List.replicate n false
 | j+1=>(iN n E j).set (E.getD j 0).toNat true
theorem tY (n:Nat) (E:List Int):∀ j,(iN n E j).length=n
 | 0=>by simp [iN]
 | j+1=>by rw [iN,List.length_set,tY]
theorem Ku {n:Nat} {E:List Int} {i:Nat} (hi:i < n):∀ j,j<=E.length->((iN n E j).getD i false=true↔∃ q,q < j/\(E.getD q 0).toNat=i)
 | 0,_=>by
  rw [iN,qF];exact ⟨fun h=>(by cases h),fun ⟨q,hq,_⟩=>absurd hq (by omega)⟩
 | j+1,hj=>by
  rw [iN];by_cases e:(E.getD j 0).toNat=i
  .rw [<- e,jQ (by rw [tY];omega)];exact ⟨fun _=>⟨j,by omega,rfl⟩,fun _=>rfl⟩
  .rw [gF e,Ku hi j (by omega)];constructor
   .rintro ⟨q,hq,h⟩;exact ⟨q,by omega,h⟩
   .rintro ⟨q,hq,h⟩;refine ⟨q,Classical.byContradiction fun hn=>?_,h⟩
    obtain rfl:q=j:=by omega
    exact e h
theorem Kv (p:aF):iN p.names.length (cY p p.names.length) (cY p p.names.length).length=p.names.map (fh p):=by
 refine N6 (d:=false) (by rw [tY];simp) fun i hi=>?_;rw [tY] at hi
 have e1:(p.names.map (fh p)).getD i false=fh p p.names[i]:=by rw [fD (by simpa using hi)];simp
 rw [e1];have h:=Ku (E:=cY p p.names.length) hi _ (Nat.le_refl _)
 have h2:(∃ q,q < (cY p p.names.length).length/\((cY p p.names.length).getD q 0).toNat=i)↔fh p p.names[i]=true:=by
  constructor
  .rintro ⟨q,hq,he⟩;rw [fD hq] at he;obtain ⟨k,hk,_,hx,ha⟩:=(r6 (Nat.le_refl _)).1 (List.getElem_mem hq);rw [hx,Int.toNat_natCast] at he;subst he;exact ha
  .intro ha;obtain ⟨q,hq,he⟩:=List.mem_iff_getElem.1 ((r6 (x:=(i:Int)) (Nat.le_refl _)).2 ⟨i,hi,hi,rfl,ha⟩);exact ⟨q,hq,by rw [fD hq,he];simp⟩
 rw [h2] at h
 cases h3:fh p p.names[i] with
 | true=>exact h.2 h3
 | false=>
  cases h4:(iN p.names.length (cY p p.names.length) (cY p p.names.length).length).getD i false with
  | true=>rw [h.1 h4] at h3;cases h3
  | false=>rfl
theorem Ld {p:aF} {q:Nat} (hq:q < (cY p p.names.length).length):∃ i,i < p.names.length/\(cY p p.names.length)[q]=(i:Int):=by
 obtain ⟨k,hk,_,hx,_⟩:=(r6 (Nat.le_refl _)).1 (List.getElem_mem hq);exact ⟨k,hk,hx⟩
theorem I6 {p:aF} {s:Nat} (h:s < (abT p).length):nxD ((abT p).take (s+1))=nxD ((abT p).take s) ++ [[gE (lD p (aZ p).length s)]]:=by
 rw [List.take_succ_eq_append_getElem h,nxD,nxD,List.map_append,I5 h];rfl
theorem Kd {p:aF} {m s i:Nat} (h:i < 2 ^ m):(lD p m s).take (i+1)=(lD p m s).take i ++ [eD (bw p) (lO p (kA p s) (eN i m))]:=by
 have h':i < (lD p m s).length:=by rw [zS];exact h
 rw [List.take_succ_eq_append_getElem h',V9]
set_option maxRecDepth 100000 in
set_option maxHeartbeats 32000000 in
theorem Ud (G:ao) (p:aF) (aY:aar p=none) (hk:∀ r∈p.ZY,j9 r) (aC:(aZ p).length<=6) (hP:bG (bw p)<=4096):aw Tryz.prog G 15 [dw p] (.Z4 [Bd p (bG (bw p)) ((2 ^ (aZ p).length:Nat):Int) (nxD (abT p)),.v .nilIface]):=by
 have hg:=gC aY;have ez:=hg.names;have bW:=za G p (EH aY hk);rw [aY] at bW;have dB:=zh G p (by omega) 1;have hkI:abe p.names 1 p.names.length=aZ p:=rfl;rw [hkI] at dB
 have hed:=IA G p (by omega) (by have:=hg.ZY;omega) (fun r hr=>by
  obtain ⟨e,he,_,_,hb⟩:=hk r hr
  exact ⟨e,he,by omega⟩)
 rw [Gc aY] at hed;have CU:=tY p.names.length (cY p p.names.length);have CT:=Kv p;have C8:=fun q (hq:q < (cY p p.names.length).length)=>Ld hq;have C9:=fun q (hq:q < (cY p p.names.length).length)=>(show iN p.names.length (cY p p.names.length) (q+1)=(iN p.names.length (cY p p.names.length) q).set ((cY p p.names.length)[q]).toNat true by rw [iN,fD hq]);have hs0:iN p.names.length (cY p p.names.length) 0=List.replicate p.names.length false:=rfl;have jh:=xj p p.names.length;have oN:=fun (nx:List (List D)) (n:Nat) (h1:(n:Int) < 4096)=>Um G p aY (bG (bw p)) ((2 ^ (aZ p).length:Nat):Int) nx n (by omega) (by omega);have oD:=fun (nx:List (List D)) (n:Nat)=>SG G p aY (bG (bw p)) ((2 ^ (aZ p).length:Nat):Int) nx n;have bA:=fun (nx:List (List D)) (s:StP) (hs:dU p s)=>Uc G p aY (bG (bw p)) ((2 ^ (aZ p).length:Nat):Int) nx s hs hP;have qS:=fun (s:Nat) (i:Nat)=>Ns G p aY hk (kA p s) (w7 aY s) (eN i (aZ p).length) (aeo _ _);have Cc:=fun (s:Nat) (i:Nat)=>(F6 aY (w7 aY s) (eN i (aZ p).length)).1;have sM:∀ k (h:k < p.names.length),cX p (k+1)=cX p k ++ partOf p.names[k] (fh p p.names[k]) k:=fun k h=>wP h;have kH:=wO p;have u7:cX p p.names.length=bw p:=rfl;have jW:∀ x∈bw p,2<=x.most:=fun x hx=>(nD hg hx).m2;have CO:=fun k (h:k < (bw p).length)=>JF h;have yI:=fun k=>Vl jW k;have yK:0 < bG (bw p):=nE jW;have gv:=fun k=>(nE (l:=(bw p).take k) fun x hx=>jW x (List.mem_of_mem_take hx));have pI:=fun s (h:s < (abT p).length)=>I6 h;have eg:=DT p;have vR:=fun s i (h:i < 2 ^ (aZ p).length)=>Kd (p:=p) (s:=s) h;have dN:=fun s=>zS p (aZ p).length s;have oL:=Lk aC
 have Gz:2 ^ (aZ p).length<=64:=by
  have:=Nat.pow_le_pow_right (n:=2) (by omega) aC;omega
 have iy:=hg.count;simp only [maR,ab,pd,lM,iU,gE,pc] at oN oD bA qS;simp only [dw,cPg,bR,dW,Z5,Bd,AY,pc,gE] at dB bW hed qS oN oD bA pI ⊢;generalize abT p=mh at *;generalize BP:lD p (aZ p).length=AF at *;clear BP;generalize cY p p.names.length=E at *;generalize iN p.names.length E=SB at *
 have js:((aZ p).map fun x=>[D.v (.int .i64 x)]).length=(aZ p).length:=by simp
 generalize ((aZ p).map fun x=>[D.v (.int .i64 x)])=IN at *;generalize (aZ p).length=m at *
 have hNl:(p.names.map Z3).length=p.names.length:=by simp
 have kG:∀ i (h:i < p.names.length),(p.names.map Z3)[i]? = some [.v (.string (bs p.names[i].name)),.v (.int .i64 p.names[i].kind),.v (.int .i64 p.names[i].count)]:=fun i h=>by simp [h,Z3,dS]
 generalize p.names.map Z3=NN at *;generalize p.ZY.map cg=RR at *
 have uY:(E.map fun x=>[D.v (.int .i64 x)]).length=E.length:=by simp
 refine aw.aD (ZZ _) Tryz.func15 rfl rfl (rs:=[.tmp 2,.tmp 3]) Tryz.results15 (by simp [Tryz.ntmps15]) fun X=>?_;simp only [Tryz.ntmps15,List.map];have fw:=@ab.eq_1;refine ZW fw [1] [1] ?_;refine ck fw 1 ?_;refine ae fun K1 ay=>?_;refine Z6 fw bW [1,4] [] ?_;refine ZW fw [1,4,19] [] ?_;refine ag rfl ?_;refine ah (ay _ ?_);refine zI fw dB [1,5] [25] ?_;refine ae fun K2 aa=>?_
 have lT:¬ (IN.length:Int) > 6:=by omega
 have qf:=(Aq fw @lT);refine al [1,5,31] [25] ?_;refine ag (by simp<;>omega) ?_;refine ah (aa _ ?_);have qf:=(Aq fw (Aq @shI.eq_1 (Aq @shI.eq_2 (Aq @shI.eq_3 (Aq @js @oL)))));refine al [1,5] [25] ?_;refine ZW (Aq fw (Aq @lz.eq_1 (Aq @gB.eq_1 @gB.eq_2))) [1,5,6] [25,45] ?_;refine ae fun K3 aQ=>?_;refine Z6 fw hed [1,5,6,47,48,49] [25,45] ?_;refine aam (S:=Nat) (fun j=>j<=E.length) (fun j=>⟨aX [(1,.d (.ip [.sl none NN,.sl none RR])),(5,.ref 25 0 0),(6,.own 45 0 p.names.length),(47,.d (.sl none (E.map fun x=>[.v (.int .i64 x)]))),(48,int E.length),(49,int j)],ZX [(25,.box 48 [.d (.sl none NN),.d (.sl none RR),int 1,int ((2 ^ m:Nat):Int),.d (.sl (some false) []),.d (.sl (some false) []),.d (.sl none IN)]),(45,.sl 4 1 ((SB j).map fun b=>[.v (.bool b)]))]⟩) (fun j=>E.length - j) 0 ?_ (by omega) ?_
 .rw [hs0];refine Z1.dK (fun _ _=>trivial) (by simp [ab,List.map_replicate,hNl,uY]) (by simp [ab,List.map_replicate,hNl,uY])
 .intro j hj;have CV:=CU j;have v8:=C9 j;generalize hSj:SB j=B at CV v8 ⊢;refine ZW fw [1,5,6,47,48,49,50] [25,45] ?_;refine ae fun K4 bN=>?_;refine dG (b:=j < E.length) (by simp [D.le,D.le.go,aB,ab]) (fun hc=>?_) (fun hc=>?_)
  .refine ah (bN _ ?_);refine ae fun K5 hK5=>?_;refine aR ?_;obtain ⟨i,hi,uX⟩:=C8 j hc;have wa:=v8 hc;rw [uX,Int.toNat_natCast] at wa
   have ea:i < B.length:=by omega
   have qf:=(Aq fw (Aq @hc @uX));refine al [1,5,6,8,47,48,49] [25,45] ?_;have qf:=(Aq fw (Aq @ea @hi));refine dv hK5 [1,5,6,47,48,49] [25,45] ?_;refine reQ fw ?_;(try simp only [aM,aP]);refine aV.mk (j+1) (by omega) (by omega) ?_;rw [wa];refine Z1.dK (fun _ _=>trivial) (by simp [ab,List.map_set]) (by simp [ab,List.map_set])
  .obtain rfl:j=E.length:=by omega
   rw [CT] at hSj;subst hSj;refine bH (aQ _ ?_);refine ae fun K6 de=>?_;refine ZW fw [1,5,6,58,59,60] [25,45] ?_;refine aam (S:=Nat) (fun k=>k<=p.names.length) (fun k=>⟨aX [(1,.d (.ip [.sl none NN,.sl none RR])),(5,.ref 25 0 0),(6,.own 45 0 p.names.length),(58,.d (.sl none NN)),(59,int NN.length),(60,int k)],ZX [(25,.box 48 [.d (.sl none NN),.d (.sl none RR),int 1,int ((2 ^ m:Nat):Int),.d (.sl (some false) []),.own 801 0 (cX p k).length,.d (.sl none IN)]),(45,.sl 4 1 ((p.names.map (fh p)).map fun b=>[.v (.bool b)])),(801,.sl 134 3 ((cX p k).map cPa))]⟩) (fun k=>p.names.length - k) 0 ?_ (by omega) ?_
   .refine (Z1.lK 25 5 801 134 3 rfl rfl rfl).trans ?_;refine aU (Aq fw (Aq @cX.eq_1 @cX.eq_2))
   .intro k ie;have vb:=sM k;have BN:=kH k
    have va:((cX p k).map cPa).length=(cX p k).length:=by simp
    generalize hPk:cX p k=PK at vb BN va ⊢;refine ZW fw [1,5,6,58,59,60,61] [25,45,801] ?_;refine ae fun K7 dy=>?_;by_cases ax:k < p.names.length
    .have aaq:k < NN.length:=by omega
     have jy:(k:Int) < (NN.length:Int):=by omega
     refine ak (by simp<;>omega) ?_;refine ah (dy _ ?_);refine ae fun K8 dz=>?_;refine aR ?_;have abu:=vb ax;have eW:=iy _ (List.getElem_mem ax)
     have jS:NN[k]=[.v (.string (bs p.names[k].name)),.v (.int .i64 p.names[k].kind),.v (.int .i64 p.names[k].count)]:=by
      have:=kG k ax;rw [List.getElem?_eq_getElem aaq] at this;exact Option.some.inj this
     unfold partOf at abu;generalize hnk:p.names[k]=nk at abu jS eW;obtain ⟨nm,kd,ct⟩:=nk;dsimp only at abu jS eW
     have vr:fh p p.names[k]=fh p ⟨nm,kd,ct⟩:=by rw [hnk]
     generalize aG:fh p ⟨nm,kd,ct⟩=ev at *;have qf:=(Aq fw (Aq @aaq @jS));refine al [1,5,6,9,10,58,59,60] [25,45,801,10] ?_;refine ck fw 10 ?_;refine aR ?_;by_cases k2:kd=2
     .subst k2;rw [if_pos (.inl rfl)] at abu;refine ZW fw [1,5,6,9,10,58,59,60,65] [25,45,801] ?_;refine ak rfl ?_;refine aaG (ZZ _) fun K' af=>?_;(repeat (refine Z0 fun K2 aa=>?_;simp [ab,List.take_of_length_le];(repeat (refine ⟨by omega,?_⟩));refine aa _ ?_;clear aa K2));refine Z9 (af _ ?_);clear af K';refine dz _ (AW.norm [1,5,6,58,59,60] [25,45,801] (fun _ _=>trivial) (AW.st (by simp [ab,List.take_of_length_le];rfl) ?_));refine reQ fw ?_;(try simp only [aM,aP]);refine aV.mk (k+1) (by omega) (by omega) ?_;rw [abu];refine aU (Aq fw @cPa.eq_1)
     .by_cases k1:kd=1
      .subst k1
       cases ev with
       | true=>
        rw [if_pos (.inr ⟨rfl,rfl⟩)] at abu;have qf:=(Aq fw (Aq @ax @vr));refine al [1,5,6,9,10,58,59,60,65] [25,45,801] ?_;refine ak rfl ?_;refine aaG (ZZ _) fun K' af=>?_;(repeat (refine Z0 fun K2 aa=>?_;simp [ab,List.take_of_length_le];(repeat (refine ⟨by omega,?_⟩));refine aa _ ?_;clear aa K2));refine Z9 (af _ ?_);clear af K';refine dz _ (AW.norm [1,5,6,58,59,60] [25,45,801] (fun _ _=>trivial) (AW.st (by simp [ab,List.take_of_length_le];rfl) ?_));refine reQ fw ?_;(try simp only [aM,aP]);refine aV.mk (k+1) (by omega) (by omega) ?_;rw [abu];refine aU (Aq fw @cPa.eq_1)
       | false=>
        rw [if_neg (by simp),if_neg (by simp),List.append_nil] at abu;have qf:=(Aq fw (Aq @ax @vr));refine al [1,5,6,9,10,58,59,60,65] [25,45,801] ?_;refine ag rfl ?_;refine ZW fw [1,5,6,9,10,58,59,60,91] [25,45,801] ?_;refine ag rfl ?_;refine ah ?_;refine dz _ (AW.norm [1,5,6,58,59,60] [25,45,801] (fun _ _=>trivial) (AW.st (by simp [ab];rfl) ?_));refine reQ fw ?_;(try simp only [aM,aP]);refine aV.mk (k+1) (by omega) (by omega) ?_;rw [abu];refine aU fw
      .rw [if_neg (by simp [k1,k2]),if_pos k1] at abu;have qf:=(Aq fw (Aq @k1 @k2));refine al [1,5,6,9,10,58,59,60,65] [25,45,801] ?_;refine ag (by simp [k1,k2]) ?_;have qf:=(Aq fw @k1);refine al [1,5,6,9,10,58,59,60,91] [25,45,801] ?_;refine ak (by simp [k1]) ?_;refine uq (ZZ _) (by kernel_rfl) ([(11,(801,105))]) ([(0,[801])]) ([0,1,2,3,4,5,6,7,8,9,10,11,12,13,14]) (by kernel_rfl) fun K' af=>?_;(repeat (refine ub rfl fun K2 aa=>?_;simp [ab,List.take_of_length_le];(repeat (refine ⟨by omega,?_⟩));refine aa _ ?_;clear aa K2));refine uc (af _ ?_);clear af K';refine dz _ (AW.norm [1,5,6,58,59,60] [25,45,801] (fun _ _=>trivial) (AW.st (by simp [ab,List.take_of_length_le];rfl) ?_));refine reQ fw ?_;(try simp only [aM,aP]);refine aV.mk (k+1) (by omega) (by omega) ?_;rw [abu];refine aU (Aq fw @cPa.eq_1)
    .have jy:¬ (k:Int) < (NN.length:Int):=by omega
     obtain rfl:k=p.names.length:=by omega
     rw [u7] at hPk;subst hPk;refine ag (by simp<;>omega) ?_;refine bH (de _ ?_);refine AW.imp (Z1.freeze 801 trivial) ?_;refine AW.st (by simp [ab,va,List.take_of_length_le];rfl) ?_;refine ae fun K9 hK9=>?_
     have O4:((bw p).map cPa).length=(bw p).length:=by simp
     have BM:∀ i (h:i < (bw p).length),((bw p).map cPa)[i]? = some [.v (.int .i64 (bw p)[i].nm),.v (.int .i64 (bw p)[i].most),.v (.bool (bw p)[i].far)]:=fun i h=>by simp [h,cPa]
     generalize BL:bw p=bZ at *;generalize bZ.map cPa=PT at *;refine ZW fw [1,5,113,114,115] [25] ?_;refine aam (S:=Nat) (fun k=>k<=bZ.length) (fun k=>⟨aX [(1,.d (.ip [.sl none NN,.sl none RR])),(5,.ref 25 0 0),(113,.d (.sl none PT)),(114,int PT.length),(115,int k)],ZX [(25,.box 48 [.d (.sl none NN),.d (.sl none RR),int (bG (bZ.take k)),int ((2 ^ m:Nat):Int),.d (.sl (some false) []),.d (.sl none PT),.d (.sl none IN)])]⟩) (fun k=>bZ.length - k) 0 ?_ (by omega) ?_
     .refine aU (Aq fw (Aq @bG.eq_1 @bG.eq_2))
     .intro k ie;have hq:=CO k;have QQ:=yI (k+1);have jB:=gv k;have QR:=yI k;generalize hQ:bG (bZ.take k)=Q at hq jB QR ⊢;refine ZW fw [1,5,113,114,115,116] [25] ?_;refine ae fun kb aaA=>?_;by_cases ax:k < bZ.length
      .have aaq:k < PT.length:=by omega
       have jy:(k:Int) < (PT.length:Int):=by omega
       refine ak (by simp<;>omega) ?_;refine ah (aaA _ ?_);refine ae fun nT iW=>?_;refine aR ?_;have fI:=hq ax;have jZ:=jW _ (List.getElem_mem ax)
       have hPk:PT[k]=[.v (.int .i64 bZ[k].nm),.v (.int .i64 bZ[k].most),.v (.bool bZ[k].far)]:=by
        have:=BM k ax;rw [List.getElem?_eq_getElem aaq] at this;exact Option.some.inj this
       generalize bZ[k]=x at hPk fI jZ;obtain ⟨xi,M,fa⟩:=x;dsimp only at hPk fI jZ;rw [fI] at QQ;have vc:0 < Q * M:=Int.mul_pos jB (by omega)
       have O6:¬ Q * M > 4096:=by omega
       have qf:=(Aq fw (Aq @aaq @hPk));refine al [1,5,12,113,114,115] [25,12] ?_;refine ck fw 12 ?_;refine j8 (ZZ _) (by kernel_rfl) [(3,25),(5,999),(9,25)] [1,5,113,114,115] [25] (fun _ _=>trivial) (by kernel_rfl) fun K' af=>?_;(repeat (refine fz fun K2 aa=>?_;simp [ab,vc];(repeat (refine ⟨by omega,?_⟩));refine aa _ ?_;clear aa K2));refine gO (af _ ?_);refine AW.st (by simp [ab,vc];rfl) ?_;clear af K';have qf:=(Aq fw @O6);refine al [1,5,113,114,115,132] [25] ?_;refine ag (by simp<;>omega) ?_;refine ah (iW _ ?_);refine reQ fw ?_;(try simp only [aM,aP]);refine aV.mk (k+1) (by omega) (by omega) ?_;rw [fI];refine aU fw
      .have jy:¬ (k:Int) < (PT.length:Int):=by omega
       refine ag (by simp<;>omega) ?_;refine bH (hK9 _ ?_);rw [List.take_of_length_le (by omega)] at hQ;refine ae fun sd abB=>?_;obtain ⟨S,hS⟩:∃ S:Nat,bG bZ=(S:Int):=Int.eq_ofNat_of_zero_le (by omega);rw [hS] at eg hP oN oD bA hQ ⊢;rw [Int.toNat_natCast] at eg;subst hQ;refine ZW fw [1,5,138,139] [25] ?_;refine aam (S:=Nat) (fun s=>s<=S) (fun s=>⟨aX [(1,.d (.ip [.sl none NN,.sl none RR])),(5,.ref 25 0 0),(138,int S),(139,int s)],ZX [(25,.box 48 [.d (.sl none NN),.d (.sl none RR),int S,int ((2 ^ m:Nat):Int),.own 800 0 s,.d (.sl none PT),.d (.sl none IN)]),(800,.sl 46 1 (nxD (mh.take s)))]⟩) (fun s=>S - s) 0 ?_ (by omega) ?_
       .refine (Z1.lK 25 4 800 46 1 rfl rfl rfl).trans ?_;refine aU (Aq fw @nxD.eq_1)
       .intro s CX;have fG:=pI s
        have iX:(nxD (mh.take s)).length=s:=by rw [Jc,List.length_take];omega
        have u6:s=S->nxD (mh.take s)=nxD mh:=fun e=>by rw [List.take_of_length_le (by omega)]
        generalize nxD (mh.take s)=NX at fG iX u6 ⊢;refine ZW fw [1,5,138,139,140] [25,800] ?_;refine ae fun jK eI=>?_;refine dG (b:=s < S) (by simp [D.le,D.le.go,aB,ab]) (fun hc=>?_) (fun hc=>?_)
        .refine ah (eI _ ?_);refine ae fun K14 adb=>?_;refine aR ?_;have vN:=fG (by omega);have oO:=oN NX s (by omega);have Cv:=oD NX;have sV:=qS s;have s8:=fun i=>bA NX _ (Cc s i);have re:=fun i h=>vR s i h;have CR:=dN s;generalize CY:kA p s=w6 at oO sV s8 re;generalize yl:AF s=RS at vN re CR;refine ZW fw [1,5,13,138,139] [25,800] ?_;refine ZW fw [1,5,13,14,138,139] [25,800] ?_;refine ae fun Aw qI=>?_;refine ZW fw [1,5,13,14,138,139,145,146] [25,800] ?_;refine aam (S:=Nat) (fun i=>i<=2 ^ m) (fun i=>⟨aX [(1,.d (.ip [.sl none NN,.sl none RR])),(5,.ref 25 0 0),(13,int s),(14,.own 902 0 i),(138,int S),(139,int s),(145,int ((2 ^ m:Nat):Int)),(146,int i)],ZX [(25,.box 48 [.d (.sl none NN),.d (.sl none RR),int S,int ((2 ^ m:Nat):Int),.own 800 0 s,.d (.sl none PT),.d (.sl none IN)]),(800,.sl 46 1 NX),(902,.sl 3 1 ((RS.take i).map fun x=>[.v (.int .i64 x)]))]⟩) (fun i=>2 ^ m - i) 0 ?_ (by omega) ?_
         .refine (Z1.kc 14 902 3 1 rfl rfl).trans ?_;refine aU fw
         .intro i jc;have vQ:=re i
          have hRl:((RS.take i).map fun x=>[D.v (.int .i64 x)]).length=i:=by simp;omega
          generalize fZ:RS.take i=RI at vQ hRl ⊢;refine ZW fw [1,5,13,14,138,139,145,146,147] [25,800,902] ?_;refine ae fun Ya ON=>?_;by_cases cQ:i < 2 ^ m
          .have sZ:(i:Int) < ((2 ^ m:Nat):Int):=by exact_mod_cast cQ
           refine ak (by simpa using sZ) ?_;refine ah (ON _ ?_);refine ae fun Yb OO=>?_;refine aR ?_;have ra:=vQ cQ;have adu:=Cv i;have adh:=sV i;have lW:=s8 i;generalize lO p w6 (eN i m)=d1 at adh lW ra;generalize eN i m=ib at adu adh;generalize eD bZ d1=v1 at lW ra;obtain ⟨I1,C1⟩:=w6;obtain ⟨I2,C2⟩:=d1;dsimp only at oO adh lW;rw [iX] at oO adu lW;refine ZW fw [1,5,13,14,15,138,139,145,146] [25,800,902] ?_;refine Fh (ZZ _) (by kernel_rfl) ([12]) ([]) ([5,8,10]) ([(2,.d (.ip [.sl none NN,.sl none RR]))]) (List.range 14) (by kernel_rfl) fun K' af=>?_;(repeat (refine jn rfl fun K2 aa=>?_;simp [ab,hRl,List.take_of_length_le];(repeat (refine ⟨by omega,?_⟩));refine aa _ ?_;clear aa K2));refine jn rfl fun K2 aa=>?_;simp [ab,hRl,List.take_of_length_le];refine ou.mc (oO) (by simp [ab,hRl,List.take_of_length_le]) (by simp [ab,hRl,List.take_of_length_le]) (by simp [ab,hRl,List.take_of_length_le]) (by simp [ab,hRl,List.take_of_length_le]) (by simp [ab,hRl,List.take_of_length_le]) (by simp [ab,hRl,List.take_of_length_le]) (by simp [gq,ab,hRl,List.take_of_length_le]) ?_;simp [ab,hRl,List.take_of_length_le];refine aa _ ?_;clear aa K2;(repeat (refine jn rfl fun K2 aa=>?_;simp [ab,hRl,List.take_of_length_le];(repeat (refine ⟨by omega,?_⟩));refine aa _ ?_;clear aa K2));refine jn rfl fun K2 aa=>?_;simp [ab,hRl,List.take_of_length_le];refine ou.mc (adu) (by simp [ab,hRl,List.take_of_length_le]) (by simp [ab,hRl,List.take_of_length_le]) (by simp [ab,hRl,List.take_of_length_le]) (by simp [ab,hRl,List.take_of_length_le]) (by simp [ab,hRl,List.take_of_length_le]) (by simp [ab,hRl,List.take_of_length_le]) (by simp [gq,ab,hRl,List.take_of_length_le]) ?_;simp [ab,hRl,List.take_of_length_le];refine aa _ ?_;clear aa K2;(repeat (refine jn rfl fun K2 aa=>?_;simp [ab,hRl,List.take_of_length_le];(repeat (refine ⟨by omega,?_⟩));refine aa _ ?_;clear aa K2));refine jn rfl fun K2 aa=>?_;simp [ab,hRl,List.take_of_length_le];refine mj.mk (adh) (by simp;rfl) (by simp;rfl) (by first | exact D.bn _ | simp [aB,List.map_map,Function.comp_def,D.le,D.le.go,D.le_refl,D.bn,ab,hRl,List.take_of_length_le]) (by simp) ?_;refine aa _ ?_;clear aa K2;simp only [Z2,dk];(repeat (refine jn rfl fun K2 aa=>?_;simp [ab,hRl,List.take_of_length_le];(repeat (refine ⟨by omega,?_⟩));refine aa _ ?_;clear aa K2));refine jn rfl fun K2 aa=>?_;simp [ab,hRl,List.take_of_length_le];refine ou.mc (lW) (by simp [ab,hRl,List.take_of_length_le]) (by simp [ab,hRl,List.take_of_length_le]) (by simp [ab,hRl,List.take_of_length_le]) (by simp [ab,hRl,List.take_of_length_le]) (by simp [ab,hRl,List.take_of_length_le]) (by simp [ab,hRl,List.take_of_length_le]) (by simp [gq,ab,hRl,List.take_of_length_le]) ?_
           simp [ab,hRl,List.take_of_length_le];refine aa _ ?_;clear aa K2;(repeat (refine jn rfl fun K2 aa=>?_;simp [ab,hRl,List.take_of_length_le];(repeat (refine ⟨by omega,?_⟩));refine aa _ ?_;clear aa K2));refine KS (af _ ?_);clear af K';refine OO _ (AW.norm [1,5,13,14,138,139,145,146] [25,800,902] (fun _ _=>trivial) (AW.st (by simp [ab,hRl,List.take_of_length_le];rfl) ?_));refine reQ fw ?_;(try simp only [aM,aP]);refine aV.mk (i+1) (by omega) (by omega) ?_;rw [ra];refine aU fw
          .obtain rfl:i=2 ^ m:=by omega
           have qM:RI=RS:=by rw [<- fZ];exact List.take_of_length_le (by omega)
           subst qM;refine ag (by simp) ?_;refine bH (qI _ ?_);refine AW.imp (Z1.freeze 902 trivial) ?_;refine AW.st (by simp [ab,hRl,List.take_of_length_le];rfl) ?_;refine aaG (ZZ _) fun K' af=>?_;(repeat (refine Z0 fun K2 aa=>?_;simp [ab,iX,List.take_of_length_le];(repeat (refine ⟨by omega,?_⟩));refine aa _ ?_;clear aa K2));refine Z9 (af _ ?_);clear af K';refine adb _ (AW.norm [1,5,138,139] [25,800] (fun _ _=>trivial) (AW.st (by simp [ab,iX,List.take_of_length_le];rfl) ?_));refine reQ fw ?_;(try simp only [aM,aP]);refine aV.mk (s+1) (by omega) (by omega) ?_;rw [vN];refine aU fw
        .obtain rfl:s=S:=by omega
         obtain rfl:=u6 rfl;refine bH (abB _ ?_);refine AW.imp (Z1.freeze 800 trivial) ?_;refine AW.st (by simp [ab,iX,List.take_of_length_le];rfl) ?_;refine ZW fw [2,3] [25] ?_;exact aK (Aq fw @hS)
structure lI (L L':List (Value×Value)):Prop where
 ok:gQ L
 same:∀ k,aav L k=aav L' k
theorem gT {L L':List (Value×Value)} (h:lI L L') (s:ByteArray) (x:Value):lI (b6 L s x) (b6 L' s x):=⟨tw s x h.ok,fun k=>by rw [l4,l4,h.same]⟩
theorem Jw:∀ {L L':List (Value×Value)},L.Nodup->L'.Nodup->(∀ x,x∈L↔x∈L')->L.Perm L'
 | [],L',_,_,h=>by
  cases L' with
  | nil=>exact .nil
  | cons y l=>exact absurd ((h y).2 (by simp)) (by simp)
 | x :: L,L',h1,h2,h=>by
  obtain ⟨A,B,rfl⟩:=List.append_of_mem ((h x).1 (by simp));rw [List.nodup_cons] at h1;have h3:(x :: (A ++ B)).Nodup:=(List.perm_middle.nodup_iff).1 h2;rw [List.nodup_cons] at h3;refine (List.Perm.cons x (Jw h1.2 h3.2 fun y=>?_)).trans List.perm_middle.symm;constructor
  .intro hy;have h4:=(h y).1 (by simp [hy])
   rcases List.mem_append.1 h4 with h5 | h5
   .simp [h5]
   .rcases List.mem_cons.1 h5 with rfl | h5
    .exact absurd hy h1.1
    .simp [h5]
  .intro hy;have h4:=(h y).2 (by rcases List.mem_append.1 hy with h5 | h5<;>simp [h5])
   rcases List.mem_cons.1 h4 with rfl | h4
   .exact absurd hy h3.1
   .exact h4
theorem IG {L:List (Value×Value)} (h:gQ L):L.Nodup:=(List.pairwise_map.1 h.once).imp fun h e=>h (by rw [e])
theorem tv {E I:List (Value×Value)} (hp:E.Perm I) (h:gQ I):gQ E:=⟨fun p hm=>h.str p (hp.mem_iff.1 hm),((hp.map _).nodup_iff).2 h.once⟩
theorem pU {L:List (Value×Value)} (h:gQ L) {s:ByteArray} {v:Value}:aav L s=some v↔(.string s,v)∈L:=by
 constructor
 .intro hl;obtain ⟨j,hj,h1,h2⟩:=ID hl;have:L[j]=(.string s,v):=Prod.ext h1 h2;rw [<- this];exact List.getElem_mem hj
 .intro hm;obtain ⟨j,hj,he⟩:=List.mem_iff_getElem.1 hm;have:=wu h hj (s:=s) (by rw [he]);rw [this,he]
theorem Gj {L L':List (Value×Value)} (h:lI L L') (h':gQ L'):L.Perm L':=by
 refine Jw (IG h.ok) (IG h') fun x=>?_;obtain ⟨k,v⟩:=x;constructor
 .intro hm;obtain ⟨s,hs⟩:=h.ok.str _ hm;have hs:k = .string s:=hs;subst hs;exact (pU h').1 (by rw [<- h.same];exact (pU h.ok).2 hm)
 .intro hm;obtain ⟨s,hs⟩:=h'.str _ hm;have hs:k = .string s:=hs;subst hs;exact (pU h.ok).1 (by rw [h.same];exact (pU h').2 hm)
theorem Sw {E I:List (Value×Value)} (hp:E.Perm I) (h:gQ I) (k:ByteArray):aav E k=aav I k:=by
 have h2:=tv hp h
 cases hl:aav I k with
 | some v=>exact (pU h2).2 (hp.mem_iff.2 ((pU h).1 hl))
 | none=>
  cases gV:aav E k with
  | none=>rfl
  | some v=>
   have:=(pU h).2 (hp.mem_iff.1 ((pU h2).1 gV));rw [hl] at this;cases this
theorem copied {E I L:List (Value×Value)} (hp:E.Perm I) (h:gQ I) {seen:List Nat} (hc:qi E seen L) (bx:∀ j,j < E.length->j∈seen):lI L I:=⟨hc.ok,fun k=>by rw [Ng (tv hp h) hc bx,Sw hp h]⟩
theorem IB {n:Nat} {seen:List Nat} {j:Nat} (hj:j < n) (fG:j ∉ seen):((List.range n).filter fun k=>!(seen ++ [j]).contains k).length < ((List.range n).filter fun k=>!seen.contains k).length:=by
 refine filter_lt (fun k=>!seen.contains k) (fun k=>!(seen ++ [j]).contains k) (fun k hk=>?_) j ?_ ?_ _ (List.mem_range.2 hj)
 .simp at hk ⊢;exact hk.1
 .simpa using fG
 .simp
theorem NO {C N:List (Value×Value)} (h:lI C N) (hi:∀ k v,aav N k=some v->∃ n,v = .int .i64 n) (k:ByteArray):(ab4 (.string k) (cy C)=none/\j1 (aav N k)=0)\/ab4 (.string k) (cy C)=some (.v (.int .i64 (j1 (aav N k)))):=by
 rw [qA,h.same]
 cases hl:aav N k with
 | none=>exact .inl ⟨rfl,rfl⟩
 | some v=>
  obtain ⟨n,rfl⟩:=hi k v hl;exact .inr rfl
theorem NP (C:List (Value×Value)) (k:ByteArray) (x:Value):ab4 (.string k) (cy (b6 C k x))=some (.v x):=by
 rw [qA,l4,if_pos rfl];rfl
set_option maxRecDepth 100000 in
set_option maxHeartbeats 64000000 in
theorem We (G:ao) (p:aF) (aY:aar p=none) (hk:∀ r∈p.ZY,j9 r) (s:StP) (hs:dU p s) (bL:List Bool) (aC:bL.length=(aZ p).length) (I C:List (Value×Value)) (hr:aa5 p s I C) :
  aw Tryz.prog G 21 [cN p,.agg [.dm false I,.dm false C],iU bL] (.agg [.dm false (tB p s bL (I,C)).1,.dm false (tB p s bL (I,C)).2]):=by
 have hg:=gC aY;have ez:=hg.names;have oK:=hg.ZY;have dO:=Ki G;have dB:=Aj G p (by omega) 1;have bA:=fun x=>Lf G p (by omega) x;have vw:=rH p.names 1 p.names.length;obtain ⟨t0,lp,uZ⟩:∃ t0,t0=(⟨jF (aZ p) bL s.is (aZ p).length,s.ct⟩:StP)/\dU p t0:=⟨_,rfl,(rT bL hs _ (Nat.le_refl _)).1⟩;obtain ⟨T,hT⟩:∃ T:Nat->StP,∀ n,T n=(p.ZY.take n).foldl (iM p s) t0:=⟨_,fun _=>rfl⟩;obtain ⟨MI,u1⟩:∃ MI:Nat->List (Value×Value),∀ k,MI k=rM p bL I k:=⟨_,fun _=>rfl⟩;obtain ⟨M,hM⟩:∃ M:Nat->jL,∀ n,M n=pW p s t0 (p.ZY.take n) (rM p bL I (aZ p).length,C):=⟨_,fun _=>rfl⟩
 have GN:M 0=(MI (aZ p).length,C):=by rw [hM,u1];rfl
 have GR:∀ n (h:n < p.ZY.length),M (n+1)=pV p (mZ (ew p (T n).is) (ew p s.is) p.ZY[n].cond) p.ZY[n] (M n):=fun n h=>by
  rw [hM,hM,hT];exact IP p s p.ZY t0 _ n h
 have OX:M p.ZY.length=tB p s bL (I,C):=by rw [hM,List.take_length,lp];rfl
 have sO:∀ n,dU p (T n):=fun n=>by rw [hT];exact (zW aY s _ (fun r hr=>List.mem_of_mem_take hr) uZ).1
 have sK:∀ n,aa5 p (T n) (M n).1 (M n).2:=fun n=>by
  rw [hT,hM];refine DN aY s _ (fun r hr=>List.mem_of_mem_take hr) uZ ?_;rw [lp];exact DM hg hs bL hr _ (Nat.le_refl _)
 have eK:∀ n (h:n < p.ZY.length) (L1 L2:List (Value×Value)),lI L1 (M n).1->lI L2 (M n).2->∃ e,p.ZY[n].cond=some e/\aw Tryz.prog G 71 [dR e,.fn (.func 72) [.ip [.dm false L1,.dm false L2]],.fn (.func 73) [.ip [.dm false I,.dm false C]]] (.v (.bool (evE (ew p (T n).is) (ew p s.is) e))):=fun n h L1 L2 h1 h2=>by
  obtain ⟨e,he,ha,hb⟩:=Ks aY hk (List.getElem_mem h);obtain ⟨e',gJ,hw,_⟩:=hk _ (List.getElem_mem h);rw [he] at gJ;obtain rfl:=Option.some.inj gJ;exact ⟨e,he,VS G _ _ _ _ _ _ _ _ (Vv G (VL (sK n) h1.ok h2.ok h1.same h2.same)) (Vw G hr) e ha hw hb⟩
 have BI:∀ n,gQ (M n).1/\gQ (M n).2:=fun n=>⟨(sK n).jj,(sK n).okC⟩
 have GO:∀ n i (hi:i < p.names.length),0<=j1 (aav (M n).2 (bs p.names[i].name))/\j1 (aav (M n).2 (bs p.names[i].name))<=7:=fun n i hi=>by
  rw [(sK n).ct i hi];have h1:=(sO n).lo i;have h2:=(sO n).hi i hi
  rcases hg.count _ (List.getElem_mem hi) with h3 | h3<;>omega
 have GQ:=fun n=>(sK n).iC;have OV:MI 0=I:=u1 0
 have OW:∀ k (h:k < (aZ p).length) (h2:k < bL.length),∃ i,∃ hi:i < p.names.length,(aZ p)[k]=(i:Int)/\MI (k+1)=b6 (MI k) (bs p.names[i].name) (.bool bL[k]):=fun k h h2=>by
  obtain ⟨i,hi,he,_⟩:=ad0 h;refine ⟨i,hi,he,?_⟩
  have e1:(aZ p).getD k 0=(i:Int):=by rw [fD h];exact he
  have e2:p.names.getD i ⟨[],0,0⟩=p.names[i]:=fD hi;have e3:bL.getD k false=bL[k]:=fD h2;rw [u1,u1,rM,e1,Int.toNat_natCast,e2,e3]
 clear hM u1 hT sO sK uZ lp;have jj:=hr.jj;have okC:=hr.okC;clear hr;have hkI:abe p.names 1 p.names.length=aZ p:=rfl;rw [hkI] at dB vw;clear hkI;rw [<- OX];generalize aZ p=KI at *;simp only [cN,cPw,bR,iU,dS] at dB bA ⊢
 have hNl:(p.names.map Z3).length=p.names.length:=by simp
 have kG:∀ i (h:i < p.names.length),(p.names.map Z3)[i]? = some [.v (.string (bs p.names[i].name)),.v (.int .i64 p.names[i].kind),.v (.int .i64 p.names[i].count)]:=fun i h=>by simp [h,Z3,dS]
 have hRl:(p.ZY.map cZ).length=p.ZY.length:=by simp
 have hRg:∀ i (h:i < p.ZY.length),(p.ZY.map cZ)[i]? = some (cZ p.ZY[i]):=fun i h=>by simp [h]
 generalize p.names.map Z3=NN at *;generalize p.ZY.map cZ=RR at *;refine aw.aD (ZZ _) Tryz.func21 rfl rfl (rs:=[.cell 6 62]) Tryz.results21 (by simp [Tryz.ntmps21]) fun X=>?_;simp only [Tryz.ntmps21,List.map];refine aq [2,3,4,6] [3,4,6] ?_;refine dX 3 ?_;refine dX 4 ?_;refine Z8 trivial dO [2,3,4,6,7] [6,7,601,602] ?_;refine ae fun K1 ay=>?_;refine sa (ZZ _) [2,3,4,6,7,21] [6,7,601,602,21] (fun _ _=>trivial) fun K' af=>?_
 (repeat (refine qc fun K2 aa=>?_;simp;(repeat (refine ⟨by omega,?_⟩));refine aa _ ?_;clear aa K2))
 refine KR (y:=false) (ents:=I) rfl rfl (by simp) (by simp) (by simp) (by simp) (by simp) fun E1 ye=>?_;refine qd (af _ ?_);refine AW.st (by simp;rfl) ?_;clear af K';refine aam (S:=List Nat×List (Value×Value)) (fun x=>qi E1 x.1 x.2) (fun x=>⟨aX [(2,.d (.sl none (bL.map fun b=>[.v (.bool b)]))),(3,.d (.ip [.sl none NN,.sl none RR])),(4,.d (.ip [.dm false I,.dm false C])),(6,.ref 6 0 0),(7,.ref 7 0 0),(21,.ref 21 0 0)],ZX [(6,.box 62 [.d (.v (.map none)),.d (.v (.map none))]),(7,.box 62 [.mp 601,.mp 602]),(601,.mp 59 (cy x.2)),(602,.mp 60 []),(21,.it E1 x.1)]⟩) (fun x=>((List.range E1.length).filter fun k=>!x.1.contains k).length) ([],[]) ?_ (FX E1) ?_
 .refine Z1.dK (fun _ _=>trivial) (by simp [cy]) (by simp [cy])
 .rintro ⟨Ew,L1⟩ qJ;dsimp only at qJ ⊢;refine sa (ZZ _) [2,3,4,6,7,21,23] [6,7,601,602,21] (fun _ _=>trivial) fun K' af=>?_;refine KQ (r:=21) (ents:=E1) (seen:=Ew) rfl rfl (by simp) (by simp) (by simp) (by simp) (fun bx=>?_) (fun j hj fG=>?_)
  rotate_left
  .have hk0:=acH qJ.ok;simp at hk0;have hk1:=eq_true hk0;obtain ⟨s1,cW⟩:=(tv ye jj).str E1[j] (List.getElem_mem hj)
   (repeat (refine qc fun K2 aa=>?_;simp;(repeat (refine ⟨by omega,?_⟩));refine aa _ ?_;clear aa K2))
   refine qd (af _ ?_);refine AW.st (by simp;rfl) ?_;clear af K';refine ae fun K2 aa=>?_;refine ak rfl ?_;refine ah (aa _ ?_);refine aR ?_;refine sa (ZZ _) [2,3,4,6,7,8,9,21] [6,7,601,602,21] (fun _ _=>trivial) fun K' af=>?_;refine KP (r:=21) (ents:=E1) (seen:=Ew) (j:=j) rfl rfl (by simp) (by simp) (by simp) (by simp) hj ?_
   (repeat (refine qc fun K2 aa=>?_;simp [cW];(repeat (refine ⟨by omega,?_⟩));refine aa _ ?_;clear aa K2))
   refine qd (af _ ?_);refine AW.st (by simp [cW];rfl) ?_;clear af K';have qf:=(Aq @cW (Aq @hk1 @aaK));refine wX ?_;(try simp only [aM,aP]);refine aV.mk (Ew ++ [j],b6 L1 s1 E1[j].2) (FW (tv ye jj) qJ hj cW) (IB hj fG) ?_;refine cw
  .have OQ:=copied ye jj qJ bx;clear qJ bx
   (repeat (refine qc fun K2 aa=>?_;simp;(repeat (refine ⟨by omega,?_⟩));refine aa _ ?_;clear aa K2))
   refine qd (af _ ?_);refine AW.st (by simp;rfl) ?_;clear af K';refine ae fun K2 aa=>?_;refine ag rfl ?_;refine bH (ay _ ?_);refine ae fun K3 aQ=>?_;refine sa (ZZ _) [2,3,4,6,7,33] [6,7,601,602,33] (fun _ _=>trivial) fun K' af=>?_
   (repeat (refine qc fun K2 aa=>?_;simp;(repeat (refine ⟨by omega,?_⟩));refine aa _ ?_;clear aa K2))
   refine KR (y:=false) (ents:=C) rfl rfl (by simp) (by simp) (by simp) (by simp) (by simp) fun E2 qG=>?_;refine qd (af _ ?_);refine AW.st (by simp;rfl) ?_;clear af K';refine aam (S:=List Nat×List (Value×Value)) (fun x=>qi E2 x.1 x.2) (fun x=>⟨aX [(2,.d (.sl none (bL.map fun b=>[.v (.bool b)]))),(3,.d (.ip [.sl none NN,.sl none RR])),(4,.d (.ip [.dm false I,.dm false C])),(6,.ref 6 0 0),(7,.ref 7 0 0),(33,.ref 33 0 0)],ZX [(6,.box 62 [.d (.v (.map none)),.d (.v (.map none))]),(7,.box 62 [.mp 601,.mp 602]),(601,.mp 59 (cy L1)),(602,.mp 60 (cy x.2)),(33,.it E2 x.1)]⟩) (fun x=>((List.range E2.length).filter fun k=>!x.1.contains k).length) ([],[]) ?_ (FX E2) ?_
   .refine Z1.dK (fun _ _=>trivial) (by simp [cy]) (by simp [cy])
   .rintro ⟨ae0,L2⟩ u0;dsimp only at u0 ⊢;refine sa (ZZ _) [2,3,4,6,7,33,35] [6,7,601,602,33] (fun _ _=>trivial) fun K' af=>?_;refine KQ (r:=33) (ents:=E2) (seen:=ae0) rfl rfl (by simp) (by simp) (by simp) (by simp) (fun bx=>?_) (fun j hj fG=>?_)
    rotate_left
    .have hk0:=acH u0.ok;simp at hk0;have hk1:=eq_true hk0;obtain ⟨s1,cW⟩:=(tv qG okC).str E2[j] (List.getElem_mem hj)
     (repeat (refine qc fun K2 aa=>?_;simp;(repeat (refine ⟨by omega,?_⟩));refine aa _ ?_;clear aa K2))
     refine qd (af _ ?_);refine AW.st (by simp;rfl) ?_;clear af K';refine ae fun K4 bN=>?_;refine ak rfl ?_;refine ah (bN _ ?_);refine aR ?_;refine sa (ZZ _) [2,3,4,6,7,10,11,33] [6,7,601,602,33] (fun _ _=>trivial) fun K' af=>?_;refine KP (r:=33) (ents:=E2) (seen:=ae0) (j:=j) rfl rfl (by simp) (by simp) (by simp) (by simp) hj ?_
     (repeat (refine qc fun K2 aa=>?_;simp [cW];(repeat (refine ⟨by omega,?_⟩));refine aa _ ?_;clear aa K2))
     refine qd (af _ ?_);refine AW.st (by simp [cW];rfl) ?_;clear af K';have qf:=(Aq @cW (Aq @hk1 @aaK));refine wX ?_;(try simp only [aM,aP]);refine aV.mk (ae0 ++ [j],b6 L2 s1 E2[j].2) (FW (tv qG okC) u0 hj cW) (IB hj fG) ?_;refine cw
    .have OR:=copied qG okC u0 bx;clear u0 bx
     (repeat (refine qc fun K2 aa=>?_;simp;(repeat (refine ⟨by omega,?_⟩));refine aa _ ?_;clear aa K2))
     refine qd (af _ ?_);refine AW.st (by simp;rfl) ?_;clear af K';refine ae fun K4 bN=>?_;refine ag rfl ?_;refine bH (aQ _ ?_);refine ae fun K5 hK5=>?_;refine Z6 trivial dB [2,3,4,6,7,44,45,46] [6,7,601,602] ?_;refine aam (S:=Nat×List (Value×Value)) (fun x=>x.1<=KI.length/\lI x.2 (MI x.1)) (fun x=>⟨aX [(2,.d (.sl none (bL.map fun b=>[.v (.bool b)]))),(3,.d (.ip [.sl none NN,.sl none RR])),(4,.d (.ip [.dm false I,.dm false C])),(6,.ref 6 0 0),(7,.ref 7 0 0),(44,.d (.sl none (KI.map fun x=>[.v (.int .i64 x)]))),(45,int KI.length),(46,int x.1)],ZX [(6,.box 62 [.d (.v (.map none)),.d (.v (.map none))]),(7,.box 62 [.mp 601,.mp 602]),(601,.mp 59 (cy x.2)),(602,.mp 60 (cy L2))]⟩) (fun x=>KI.length - x.1) (0,L1) ?_ ⟨by omega,by rw [OV];exact OQ⟩ ?_
     .refine cw
     .rintro ⟨k,L3⟩ ⟨ie,yh⟩;dsimp only at ie yh ⊢;refine aq [2,3,4,6,7,44,45,46,47] [6,7,601,602] ?_;refine ae fun K6 de=>?_;refine dG (b:=k < KI.length) (by simp [D.le,D.le.go,aB]) (fun hc=>?_) (fun hc=>?_)
      .have ax:=hc
       have eM:k < bL.length:=by omega
       obtain ⟨i,hi,BF,sJ⟩:=OW k ax eM
       have jb:i < NN.length:=by omega
       have ab5:NN[i]=[.v (.string (bs p.names[i].name)),.v (.int .i64 p.names[i].kind),.v (.int .i64 p.names[i].count)]:=by
        have:=kG i hi;rw [List.getElem?_eq_getElem jb] at this;exact Option.some.inj this
       generalize bs p.names[i].name=nm at ab5 sJ;generalize p.names[i].kind=kd at ab5;generalize p.names[i].count=ct at ab5;have hk0:=acH yh.ok;simp at hk0;have hk1:=eq_true hk0;refine ah (de _ ?_);refine ae fun K7 dy=>?_;refine aR ?_;have qf:=(Aq @ax @BF);refine al [2,3,4,6,7,12,13,44,45,46] [6,7,601,602] ?_;refine uo (ZZ _) (by kernel_rfl) (by kernel_rfl) fun K' af=>?_;(repeat (refine fo fun K2 aa=>?_;simp [jb,ab5,eM,hk1,aaK];(repeat (refine ⟨by omega,?_⟩));refine aa _ ?_;clear aa K2));refine kZ (af _ ?_);clear af K';refine dy _ (AW.norm [2,3,4,6,7,44,45,46] [6,7,601,602] (fun _ _=>trivial) (AW.st (by simp [jb,ab5,eM,hk1,aaK];rfl) ?_));refine cI ?_;(try simp only [aM,aP]);refine aV.mk (k+1,b6 L3 nm (.bool bL[k])) ⟨by omega,by rw [sJ];exact gT yh _ _⟩ (by omega) ?_;refine cw
      .have hke:k=KI.length:=by omega
       refine bH (hK5 _ ?_)
       have OT:lI L3 (M 0).1:=by rw [GN,<- hke];exact yh
       have OS:lI L2 (M 0).2:=by rw [GN];exact OR
       refine ae fun K8 dz=>?_;refine aq [3,4,6,7,65,66,67] [6,7,601,602] ?_;refine aam (S:=Nat×jL) (fun x=>x.1<=p.ZY.length/\lI x.2.1 (M x.1).1/\lI x.2.2 (M x.1).2) (fun x=>⟨aX [(3,.d (.ip [.sl none NN,.sl none RR])),(4,.d (.ip [.dm false I,.dm false C])),(6,.ref 6 0 0),(7,.ref 7 0 0),(65,.d (.sl none RR)),(66,int RR.length),(67,int x.1)],ZX [(6,.box 62 [.d (.v (.map none)),.d (.v (.map none))]),(7,.box 62 [.mp 601,.mp 602]),(601,.mp 59 (cy x.2.1)),(602,.mp 60 (cy x.2.2))]⟩) (fun x=>p.ZY.length - x.1) (0,(L3,L2)) ?_ ⟨by omega,OT,OS⟩ ?_
       .refine cw
       .rintro ⟨n,L4,L5⟩ ⟨hn,gG,fY⟩;dsimp only at hn gG fY ⊢;have sP:=GR n;have sS:=fun h=>eK n h L4 L5 gG fY;have Yi:=BI (n+1);have BH:=GO n;have Cu:=GQ n
        have GP:n=p.ZY.length->M p.ZY.length=M n:=fun h=>by rw [h]
        have yj:=BI n;generalize YC:M n=mn at sP BH Cu gG fY GP yj;obtain ⟨N1,N2⟩:=mn;dsimp only at BH Cu gG fY yj;clear BI GO GQ eK GR;refine aq [3,4,6,7,65,66,67,68] [6,7,601,602] ?_;refine ae fun K9 hK9=>?_;by_cases ax:n < p.ZY.length
        .have aaq:n < RR.length:=by omega
         refine ak (by simp [aaq]) ?_;refine ah (hK9 _ ?_);refine ae fun kb aaA=>?_;refine aR ?_;obtain ⟨e,he,aG⟩:=sS ax;obtain ⟨i,hi,ko,_,iy⟩:=zV aY (List.getElem_mem ax);obtain ⟨pD,adB,_⟩:=qt aY _ (List.getElem_mem ax)
         have Hx:p.ZY[n].name=p.names[i].name:=by
          obtain ⟨i2,ea,ia,dh⟩:=oS adB;have h1:bB p p.ZY[n].name=(i2:Int):=ia
          have:i2=i:=by omega
          subst this
          have:p.names[i2].name=p.ZY[n].name:=by simpa using dh
          exact this.symm
         have Z7:=sP ax;have fZ:=hRg n ax;have jf:=bA p.ZY[n].name;rw [ko] at jf;have yi:=BH i hi;rw [<- Hx] at yi;unfold pV at Z7;simp only [ko,Int.toNat_natCast,iy,he,mZ] at Z7;unfold cZ at fZ;rw [he] at fZ;clear adB Hx sP sS;generalize p.ZY[n]=r at fZ jf pD Z7 yi ko;obtain ⟨rk,rn,rc⟩:=r;dsimp only at fZ jf pD Z7 yi ko;generalize evE (ew p (T n).is) (ew p s.is) e=yes at aG Z7;rw [show iu (some e)=dR e from rfl] at fZ;simp only [dS] at fZ;have oB:=NO fY Cu (bs rn);have sW:=NP L5 (bs rn);generalize kK:j1 (aav N2 (bs rn))=c at yi oB Z7
         have kp:∀ x:Int,j1 (aav (b6 N2 (bs rn) (.int .i64 x)) (bs rn))=x:=fun x=>by rw [l4,if_pos rfl];rfl
         have jb:i < NN.length:=by omega
         have ab5:NN[i]=[.v (.string (bs p.names[i].name)),.v (.int .i64 p.names[i].kind),.v (.int .i64 p.names[i].count)]:=by
          have:=kG i hi;rw [List.getElem?_eq_getElem jb] at this;exact Option.some.inj this
         have aeC:RR[n]=[.v (.int .i64 rk),.v (.string (bs rn)),dR e]:=by
          rw [List.getElem?_eq_getElem aaq] at fZ;exact Option.some.inj fZ
         have GW:(dR e).one=true:=by cases e<;>rfl
         generalize p.names[i].name=nm at ab5;generalize p.names[i].kind=kd at ab5;generalize p.names[i].count=top at ab5 Z7;generalize bs rn=key at *;generalize dR e=er at aeC aG GW;clear fZ ko iy;have hk0:=acH gG.ok;simp at hk0;have hk1:=eq_true hk0;have eM:=acH fY.ok;simp at eM;have cO:=eq_true eM;have yx:=fun x:Value=>acH (tw key x fY.ok);simp at yx;have e6:=fun x=>eq_true (yx x);have qf:=(Aq @aaq (Aq @aeC @GW));refine al [3,4,6,7,15,65,66,67] [6,7,601,602,15] ?_;refine dX 15 ?_;refine rg [3,4,6,7,15,16,65,66,67] [6,7,601,602] (fun _ _=>trivial) fun K' af=>?_;(repeat (refine Z0 fun K2 aa=>?_;simp [mi];(repeat (refine ⟨by omega,?_⟩));refine aa _ ?_;clear aa K2));refine Z0 fun K2 aa=>?_;simp [mi];refine aap.l3 (aG) (by simp [mi];rfl) (by first | exact D.bn _ | simp [aB,List.map_map,Function.comp_def,D.le,D.le.go,D.le_refl,D.bn,mi]) (by simp [D.scalar,mi]) ?_;refine aa _ ?_;clear aa K2;simp only [Z2,dk];(repeat (refine Z0 fun K2 aa=>?_;simp [mi];(repeat (refine ⟨by omega,?_⟩));refine aa _ ?_;clear aa K2));refine Z9 (af _ (AW.st (by simp [mi];rfl) ?_));clear af K';have qf:=(Aq @jb @ab5);refine rU jf [3,4,6,7,15,16,17,65,66,67] [6,7,601,602] ?_;refine aq [3,4,6,7,15,16,17,65,66,67,86] [6,7,601,602] ?_;refine aR ?_
         have vz:rk=1\/rk=2\/rk=3\/rk=4\/rk=5\/rk=6:=by omega
         rcases vz with rfl | rfl | rfl | rfl | rfl | rfl
         .simp at Z7;refine aq [3,4,6,7,15,16,17,65,66,67,86,87] [6,7,601,602] ?_;refine ak rfl ?_;have qf:=(Aq @hk1 (Aq @cO (Aq @e6 @aaK)));refine dv aaA [3,4,6,7,65,66,67] [6,7,601,602] ?_;refine cI ?_;(try simp only [aM,aP]);refine aV.mk (n+1,(b6 L4 key (.bool yes),L5)) ⟨by omega,?_,?_⟩ (by omega) ?_
          .rw [Z7];exact gT gG _ _
          .rw [Z7];exact fY
          .refine cw
         .simp at Z7;refine aq [3,4,6,7,15,16,17,65,66,67,86,87] [6,7,601,602] ?_;refine ag rfl ?_;refine aq [3,4,6,7,15,16,17,65,66,67,86,94] [6,7,601,602] ?_;refine ak rfl ?_;refine aq [3,4,6,7,15,65,66,67,96] [6,7,601,602] ?_
          cases yes with
          | true=>
           simp at Z7;refine ak rfl ?_;have qf:=(Aq @hk1 (Aq @cO (Aq @e6 @aaK)));refine dv aaA [3,4,6,7,65,66,67] [6,7,601,602] ?_;refine cI ?_;(try simp only [aM,aP]);refine aV.mk (n+1,(b6 L4 key (.bool true),L5)) ⟨by omega,?_,?_⟩ (by omega) ?_
           .rw [Z7];exact gT gG _ _
           .rw [Z7];exact fY
           .refine cw
          | false=>
           simp at Z7;refine ag rfl ?_;refine ah ?_;refine aaA _ (AW.norm [3,4,6,7,65,66,67] [6,7,601,602] (fun _ _=>trivial) (AW.st (by simp;rfl) ?_));refine cI ?_;(try simp only [aM,aP]);refine aV.mk (n+1,(L4,L5)) ⟨by omega,?_,?_⟩ (by omega) ?_
           .rw [Z7];exact gG
           .rw [Z7];exact fY
           .refine cw
         .simp at Z7;refine aq [3,4,6,7,15,16,17,65,66,67,86,87] [6,7,601,602] ?_;refine ag rfl ?_;refine aq [3,4,6,7,15,16,17,65,66,67,86,94] [6,7,601,602] ?_;refine ag rfl ?_;refine aq [3,4,6,7,15,16,17,65,66,67,86,101] [6,7,601,602] ?_;refine ak rfl ?_;refine aq [3,4,6,7,15,65,66,67,103] [6,7,601,602] ?_
          cases yes with
          | true=>
           simp at Z7;refine ak rfl ?_;have qf:=(Aq @hk1 (Aq @cO (Aq @e6 @aaK)));refine dv aaA [3,4,6,7,65,66,67] [6,7,601,602] ?_;refine cI ?_;(try simp only [aM,aP]);refine aV.mk (n+1,(b6 L4 key (.bool false),L5)) ⟨by omega,?_,?_⟩ (by omega) ?_
           .rw [Z7];exact gT gG _ _
           .rw [Z7];exact fY
           .refine cw
          | false=>
           simp at Z7;refine ag rfl ?_;refine ah ?_;refine aaA _ (AW.norm [3,4,6,7,65,66,67] [6,7,601,602] (fun _ _=>trivial) (AW.st (by simp;rfl) ?_));refine cI ?_;(try simp only [aM,aP]);refine aV.mk (n+1,(L4,L5)) ⟨by omega,?_,?_⟩ (by omega) ?_
           .rw [Z7];exact gG
           .rw [Z7];exact fY
           .refine cw
         .simp at Z7;refine aq [3,4,6,7,15,16,17,65,66,67,86,87] [6,7,601,602] ?_;refine ag rfl ?_;refine aq [3,4,6,7,15,16,17,65,66,67,86,94] [6,7,601,602] ?_;refine ag rfl ?_;refine aq [3,4,6,7,15,16,17,65,66,67,86,101] [6,7,601,602] ?_;refine ag rfl ?_;refine ae fun nT iW=>?_;refine aq [3,4,6,7,15,16,17,65,66,67,86,108] [6,7,601,602] ?_;refine ak rfl ?_;refine ah ?_;refine iW _ (AW.norm [3,4,6,7,15,16,17,65,66,67,86,108] [6,7,601,602] (fun _ _=>trivial) (AW.st (by simp;rfl) ?_));refine ak rfl ?_;refine ae fun sd abB=>?_;have Cg:∃ oc,ab4 (.string key) (cy L5)=oc/\((oc=none/\c=0)\/oc=some (.v (.int .i64 c))):=⟨_,rfl,oB⟩;clear oB;obtain ⟨oc,iF,oB⟩:=Cg
          rcases oB with ⟨rfl,rfl⟩ | rfl
          .cases yes with
           | true=>
            by_cases ga:0 < top
            .simp [ga,kp,kK] at Z7;have qf:=(Aq @hk1 (Aq @cO (Aq @e6 (Aq @aaK (Aq @iF (Aq @dr.eq_1 (Aq @bX.eq_1 (Aq @bX.eq_2 @ga))))))));refine al [3,4,6,7,15,16,17,65,66,67,120] [6,7,601,602] ?_;refine ak (by simp [ga]) ?_;have qf:=(Aq @hk1 (Aq @cO (Aq @e6 (Aq @aaK (Aq @iF (Aq @dr.eq_1 (Aq @bX.eq_1 @bX.eq_2)))))));refine dv abB [3,4,6,7,15,16,17,65,66,67] [6,7,601,602] ?_;refine ae fun jK eI=>?_;refine aq [3,4,6,7,15,17,65,66,67,133] [6,7,601,602] ?_;refine ag rfl ?_;refine ah ?_;refine eI _ (AW.norm [3,4,6,7,15,17,65,66,67] [6,7,601,602] (fun _ _=>trivial) (AW.st (by simp;rfl) ?_));have qf:=(Aq @hk1 (Aq @cO (Aq @e6 (Aq @aaK (Aq @sW (Aq @dr.eq_1 (Aq @bX.eq_1 @bX.eq_2)))))));refine dv aaA [3,4,6,7,65,66,67] [6,7,601,602] ?_;refine cI ?_;(try simp only [aM,aP]);refine aV.mk (n+1,(b6 L4 key (.bool ((0:Int)+1 == top)),b6 L5 key (.int .i64 ((0:Int)+1)))) ⟨by omega,?_,?_⟩ (by omega) ?_
             .rw [Z7];exact gT gG _ _
             .rw [Z7];exact gT fY _ _
             .refine cw
            .simp [ga,kp,kK] at Z7;have qf:=(Aq @hk1 (Aq @cO (Aq @e6 (Aq @aaK (Aq @iF (Aq @dr.eq_1 (Aq @bX.eq_1 (Aq @bX.eq_2 @ga))))))));refine al [3,4,6,7,15,16,17,65,66,67,120] [6,7,601,602] ?_;refine ag (by simp [ga]) ?_;refine ah ?_;refine abB _ (AW.norm [3,4,6,7,15,16,17,65,66,67] [6,7,601,602] (fun _ _=>trivial) (AW.st (by simp;rfl) ?_));refine ae fun jK eI=>?_;refine aq [3,4,6,7,15,17,65,66,67,133] [6,7,601,602] ?_;refine ag rfl ?_;refine ah ?_;refine eI _ (AW.norm [3,4,6,7,15,17,65,66,67] [6,7,601,602] (fun _ _=>trivial) (AW.st (by simp;rfl) ?_));have qf:=(Aq @hk1 (Aq @cO (Aq @e6 (Aq @aaK (Aq @iF (Aq @dr.eq_1 (Aq @bX.eq_1 @bX.eq_2)))))));refine dv aaA [3,4,6,7,65,66,67] [6,7,601,602] ?_;refine cI ?_;(try simp only [aM,aP]);refine aV.mk (n+1,(b6 L4 key (.bool ((0:Int) == top)),L5)) ⟨by omega,?_,?_⟩ (by omega) ?_
             .rw [Z7];exact gT gG _ _
             .rw [Z7];exact fY
             .refine cw
           | false=>
            simp [kp,kK] at Z7;refine aq [3,4,6,7,15,16,17,65,66,67,120] [6,7,601,602] ?_;refine ag (by simp) ?_;refine ah ?_;refine abB _ (AW.norm [3,4,6,7,15,16,17,65,66,67] [6,7,601,602] (fun _ _=>trivial) (AW.st (by simp;rfl) ?_));refine ae fun jK eI=>?_;refine aq [3,4,6,7,15,17,65,66,67,133] [6,7,601,602] ?_;refine ak rfl ?_;have qf:=(Aq @hk1 (Aq @cO (Aq @e6 @aaK)));refine dv eI [3,4,6,7,15,17,65,66,67] [6,7,601,602] ?_;have qf:=(Aq @hk1 (Aq @cO (Aq @e6 (Aq @aaK (Aq @sW (Aq @dr.eq_1 (Aq @bX.eq_1 @bX.eq_2)))))));refine dv aaA [3,4,6,7,65,66,67] [6,7,601,602] ?_;refine cI ?_;(try simp only [aM,aP]);refine aV.mk (n+1,(b6 L4 key (.bool ((0:Int) == top)),b6 L5 key (.int .i64 0))) ⟨by omega,?_,?_⟩ (by omega) ?_
            .rw [Z7];exact gT gG _ _
            .rw [Z7];exact gT fY _ _
            .refine cw
          .cases yes with
           | true=>
            by_cases ga:c < top
            .simp [ga,kp,kK] at Z7;have qf:=(Aq @hk1 (Aq @cO (Aq @e6 (Aq @aaK (Aq @iF (Aq @dr.eq_1 (Aq @bX.eq_1 (Aq @bX.eq_2 @ga))))))));refine al [3,4,6,7,15,16,17,65,66,67,120] [6,7,601,602] ?_;refine ak (by simp [ga]) ?_;have qf:=(Aq @hk1 (Aq @cO (Aq @e6 (Aq @aaK (Aq @iF (Aq @dr.eq_1 (Aq @bX.eq_1 @bX.eq_2)))))));refine dv abB [3,4,6,7,15,16,17,65,66,67] [6,7,601,602] ?_;refine ae fun jK eI=>?_;refine aq [3,4,6,7,15,17,65,66,67,133] [6,7,601,602] ?_;refine ag rfl ?_;refine ah ?_;refine eI _ (AW.norm [3,4,6,7,15,17,65,66,67] [6,7,601,602] (fun _ _=>trivial) (AW.st (by simp;rfl) ?_));have qf:=(Aq @hk1 (Aq @cO (Aq @e6 (Aq @aaK (Aq @sW (Aq @dr.eq_1 (Aq @bX.eq_1 @bX.eq_2)))))));refine dv aaA [3,4,6,7,65,66,67] [6,7,601,602] ?_;refine cI ?_;(try simp only [aM,aP]);refine aV.mk (n+1,(b6 L4 key (.bool (c+1 == top)),b6 L5 key (.int .i64 (c+1)))) ⟨by omega,?_,?_⟩ (by omega) ?_
             .rw [Z7];exact gT gG _ _
             .rw [Z7];exact gT fY _ _
             .refine cw
            .simp [ga,kp,kK] at Z7;have qf:=(Aq @hk1 (Aq @cO (Aq @e6 (Aq @aaK (Aq @iF (Aq @dr.eq_1 (Aq @bX.eq_1 (Aq @bX.eq_2 @ga))))))));refine al [3,4,6,7,15,16,17,65,66,67,120] [6,7,601,602] ?_;refine ag (by simp [ga]) ?_;refine ah ?_;refine abB _ (AW.norm [3,4,6,7,15,16,17,65,66,67] [6,7,601,602] (fun _ _=>trivial) (AW.st (by simp;rfl) ?_));refine ae fun jK eI=>?_;refine aq [3,4,6,7,15,17,65,66,67,133] [6,7,601,602] ?_;refine ag rfl ?_;refine ah ?_;refine eI _ (AW.norm [3,4,6,7,15,17,65,66,67] [6,7,601,602] (fun _ _=>trivial) (AW.st (by simp;rfl) ?_));have qf:=(Aq @hk1 (Aq @cO (Aq @e6 (Aq @aaK (Aq @iF (Aq @dr.eq_1 (Aq @bX.eq_1 @bX.eq_2)))))));refine dv aaA [3,4,6,7,65,66,67] [6,7,601,602] ?_;refine cI ?_;(try simp only [aM,aP]);refine aV.mk (n+1,(b6 L4 key (.bool (c == top)),L5)) ⟨by omega,?_,?_⟩ (by omega) ?_
             .rw [Z7];exact gT gG _ _
             .rw [Z7];exact fY
             .refine cw
           | false=>
            simp [kp,kK] at Z7;refine aq [3,4,6,7,15,16,17,65,66,67,120] [6,7,601,602] ?_;refine ag (by simp) ?_;refine ah ?_;refine abB _ (AW.norm [3,4,6,7,15,16,17,65,66,67] [6,7,601,602] (fun _ _=>trivial) (AW.st (by simp;rfl) ?_));refine ae fun jK eI=>?_;refine aq [3,4,6,7,15,17,65,66,67,133] [6,7,601,602] ?_;refine ak rfl ?_;have qf:=(Aq @hk1 (Aq @cO (Aq @e6 @aaK)));refine dv eI [3,4,6,7,15,17,65,66,67] [6,7,601,602] ?_;have qf:=(Aq @hk1 (Aq @cO (Aq @e6 (Aq @aaK (Aq @sW (Aq @dr.eq_1 (Aq @bX.eq_1 @bX.eq_2)))))));refine dv aaA [3,4,6,7,65,66,67] [6,7,601,602] ?_;refine cI ?_;(try simp only [aM,aP]);refine aV.mk (n+1,(b6 L4 key (.bool ((0:Int) == top)),b6 L5 key (.int .i64 0))) ⟨by omega,?_,?_⟩ (by omega) ?_
            .rw [Z7];exact gT gG _ _
            .rw [Z7];exact gT fY _ _
            .refine cw
         .simp at Z7;refine aq [3,4,6,7,15,16,17,65,66,67,86,87] [6,7,601,602] ?_;refine ag rfl ?_;refine aq [3,4,6,7,15,16,17,65,66,67,86,94] [6,7,601,602] ?_;refine ag rfl ?_;refine aq [3,4,6,7,15,16,17,65,66,67,86,101] [6,7,601,602] ?_;refine ag rfl ?_;refine ae fun nT iW=>?_;refine aq [3,4,6,7,15,16,17,65,66,67,86,108] [6,7,601,602] ?_;refine ag rfl ?_;refine reK trivial iW [3,4,6,7,15,16,17,65,66,67,86,108] [6,7,601,602] ?_;refine ak rfl ?_;refine ae fun sd abB=>?_;have Cg:∃ oc,ab4 (.string key) (cy L5)=oc/\((oc=none/\c=0)\/oc=some (.v (.int .i64 c))):=⟨_,rfl,oB⟩;clear oB;obtain ⟨oc,iF,oB⟩:=Cg
          rcases oB with ⟨rfl,rfl⟩ | rfl
          .cases yes with
           | true=>
            by_cases ga:0 < top
            .simp [ga,kp,kK] at Z7;have qf:=(Aq @hk1 (Aq @cO (Aq @e6 (Aq @aaK (Aq @iF (Aq @dr.eq_1 (Aq @bX.eq_1 (Aq @bX.eq_2 @ga))))))));refine al [3,4,6,7,15,16,17,65,66,67,120] [6,7,601,602] ?_;refine ak (by simp [ga]) ?_;have qf:=(Aq @hk1 (Aq @cO (Aq @e6 (Aq @aaK (Aq @iF (Aq @dr.eq_1 (Aq @bX.eq_1 @bX.eq_2)))))));refine dv abB [3,4,6,7,15,16,17,65,66,67] [6,7,601,602] ?_;refine ae fun jK eI=>?_;refine aq [3,4,6,7,15,17,65,66,67,133] [6,7,601,602] ?_;refine ag rfl ?_;refine ah ?_;refine eI _ (AW.norm [3,4,6,7,15,17,65,66,67] [6,7,601,602] (fun _ _=>trivial) (AW.st (by simp;rfl) ?_));have qf:=(Aq @hk1 (Aq @cO (Aq @e6 (Aq @aaK (Aq @sW (Aq @dr.eq_1 (Aq @bX.eq_1 @bX.eq_2)))))));refine dv aaA [3,4,6,7,65,66,67] [6,7,601,602] ?_;refine cI ?_;(try simp only [aM,aP]);refine aV.mk (n+1,(b6 L4 key (.bool ((0:Int)+1 == top)),b6 L5 key (.int .i64 ((0:Int)+1)))) ⟨by omega,?_,?_⟩ (by omega) ?_
             .rw [Z7];exact gT gG _ _
             .rw [Z7];exact gT fY _ _
             .refine cw
            .simp [ga,kp,kK] at Z7;have qf:=(Aq @hk1 (Aq @cO (Aq @e6 (Aq @aaK (Aq @iF (Aq @dr.eq_1 (Aq @bX.eq_1 (Aq @bX.eq_2 @ga))))))));refine al [3,4,6,7,15,16,17,65,66,67,120] [6,7,601,602] ?_;refine ag (by simp [ga]) ?_;refine ah ?_;refine abB _ (AW.norm [3,4,6,7,15,16,17,65,66,67] [6,7,601,602] (fun _ _=>trivial) (AW.st (by simp;rfl) ?_));refine ae fun jK eI=>?_;refine aq [3,4,6,7,15,17,65,66,67,133] [6,7,601,602] ?_;refine ag rfl ?_;refine ah ?_;refine eI _ (AW.norm [3,4,6,7,15,17,65,66,67] [6,7,601,602] (fun _ _=>trivial) (AW.st (by simp;rfl) ?_));have qf:=(Aq @hk1 (Aq @cO (Aq @e6 (Aq @aaK (Aq @iF (Aq @dr.eq_1 (Aq @bX.eq_1 @bX.eq_2)))))));refine dv aaA [3,4,6,7,65,66,67] [6,7,601,602] ?_;refine cI ?_;(try simp only [aM,aP]);refine aV.mk (n+1,(b6 L4 key (.bool ((0:Int) == top)),L5)) ⟨by omega,?_,?_⟩ (by omega) ?_
             .rw [Z7];exact gT gG _ _
             .rw [Z7];exact fY
             .refine cw
           | false=>
            simp [kp,kK] at Z7;refine aq [3,4,6,7,15,16,17,65,66,67,120] [6,7,601,602] ?_;refine ag (by simp) ?_;refine ah ?_;refine abB _ (AW.norm [3,4,6,7,15,16,17,65,66,67] [6,7,601,602] (fun _ _=>trivial) (AW.st (by simp;rfl) ?_));refine ae fun jK eI=>?_;refine aq [3,4,6,7,15,17,65,66,67,133] [6,7,601,602] ?_;refine ag rfl ?_;refine ah ?_;refine eI _ (AW.norm [3,4,6,7,15,17,65,66,67] [6,7,601,602] (fun _ _=>trivial) (AW.st (by simp;rfl) ?_));have qf:=(Aq @hk1 (Aq @cO (Aq @e6 (Aq @aaK (Aq @iF (Aq @dr.eq_1 (Aq @bX.eq_1 @bX.eq_2)))))));refine dv aaA [3,4,6,7,65,66,67] [6,7,601,602] ?_;refine cI ?_;(try simp only [aM,aP]);refine aV.mk (n+1,(b6 L4 key (.bool ((0:Int) == top)),L5)) ⟨by omega,?_,?_⟩ (by omega) ?_
            .rw [Z7];exact gT gG _ _
            .rw [Z7];exact fY
            .refine cw
          .cases yes with
           | true=>
            by_cases ga:c < top
            .simp [ga,kp,kK] at Z7;have qf:=(Aq @hk1 (Aq @cO (Aq @e6 (Aq @aaK (Aq @iF (Aq @dr.eq_1 (Aq @bX.eq_1 (Aq @bX.eq_2 @ga))))))));refine al [3,4,6,7,15,16,17,65,66,67,120] [6,7,601,602] ?_;refine ak (by simp [ga]) ?_;have qf:=(Aq @hk1 (Aq @cO (Aq @e6 (Aq @aaK (Aq @iF (Aq @dr.eq_1 (Aq @bX.eq_1 @bX.eq_2)))))));refine dv abB [3,4,6,7,15,16,17,65,66,67] [6,7,601,602] ?_;refine ae fun jK eI=>?_;refine aq [3,4,6,7,15,17,65,66,67,133] [6,7,601,602] ?_;refine ag rfl ?_;refine ah ?_;refine eI _ (AW.norm [3,4,6,7,15,17,65,66,67] [6,7,601,602] (fun _ _=>trivial) (AW.st (by simp;rfl) ?_));have qf:=(Aq @hk1 (Aq @cO (Aq @e6 (Aq @aaK (Aq @sW (Aq @dr.eq_1 (Aq @bX.eq_1 @bX.eq_2)))))));refine dv aaA [3,4,6,7,65,66,67] [6,7,601,602] ?_;refine cI ?_;(try simp only [aM,aP]);refine aV.mk (n+1,(b6 L4 key (.bool (c+1 == top)),b6 L5 key (.int .i64 (c+1)))) ⟨by omega,?_,?_⟩ (by omega) ?_
             .rw [Z7];exact gT gG _ _
             .rw [Z7];exact gT fY _ _
             .refine cw
            .simp [ga,kp,kK] at Z7;have qf:=(Aq @hk1 (Aq @cO (Aq @e6 (Aq @aaK (Aq @iF (Aq @dr.eq_1 (Aq @bX.eq_1 (Aq @bX.eq_2 @ga))))))));refine al [3,4,6,7,15,16,17,65,66,67,120] [6,7,601,602] ?_;refine ag (by simp [ga]) ?_;refine ah ?_;refine abB _ (AW.norm [3,4,6,7,15,16,17,65,66,67] [6,7,601,602] (fun _ _=>trivial) (AW.st (by simp;rfl) ?_));refine ae fun jK eI=>?_;refine aq [3,4,6,7,15,17,65,66,67,133] [6,7,601,602] ?_;refine ag rfl ?_;refine ah ?_;refine eI _ (AW.norm [3,4,6,7,15,17,65,66,67] [6,7,601,602] (fun _ _=>trivial) (AW.st (by simp;rfl) ?_));have qf:=(Aq @hk1 (Aq @cO (Aq @e6 (Aq @aaK (Aq @iF (Aq @dr.eq_1 (Aq @bX.eq_1 @bX.eq_2)))))));refine dv aaA [3,4,6,7,65,66,67] [6,7,601,602] ?_;refine cI ?_;(try simp only [aM,aP]);refine aV.mk (n+1,(b6 L4 key (.bool (c == top)),L5)) ⟨by omega,?_,?_⟩ (by omega) ?_
             .rw [Z7];exact gT gG _ _
             .rw [Z7];exact fY
             .refine cw
           | false=>
            simp [kp,kK] at Z7;refine aq [3,4,6,7,15,16,17,65,66,67,120] [6,7,601,602] ?_;refine ag (by simp) ?_;refine ah ?_;refine abB _ (AW.norm [3,4,6,7,15,16,17,65,66,67] [6,7,601,602] (fun _ _=>trivial) (AW.st (by simp;rfl) ?_));refine ae fun jK eI=>?_;refine aq [3,4,6,7,15,17,65,66,67,133] [6,7,601,602] ?_;refine ag rfl ?_;refine ah ?_;refine eI _ (AW.norm [3,4,6,7,15,17,65,66,67] [6,7,601,602] (fun _ _=>trivial) (AW.st (by simp;rfl) ?_));have qf:=(Aq @hk1 (Aq @cO (Aq @e6 (Aq @aaK (Aq @iF (Aq @dr.eq_1 (Aq @bX.eq_1 @bX.eq_2)))))));refine dv aaA [3,4,6,7,65,66,67] [6,7,601,602] ?_;refine cI ?_;(try simp only [aM,aP]);refine aV.mk (n+1,(b6 L4 key (.bool (c == top)),L5)) ⟨by omega,?_,?_⟩ (by omega) ?_
            .rw [Z7];exact gT gG _ _
            .rw [Z7];exact fY
            .refine cw
         .simp at Z7;refine aq [3,4,6,7,15,16,17,65,66,67,86,87] [6,7,601,602] ?_;refine ag rfl ?_;refine aq [3,4,6,7,15,16,17,65,66,67,86,94] [6,7,601,602] ?_;refine ag rfl ?_;refine aq [3,4,6,7,15,16,17,65,66,67,86,101] [6,7,601,602] ?_;refine ag rfl ?_;refine ae fun nT iW=>?_;refine aq [3,4,6,7,15,16,17,65,66,67,86,108] [6,7,601,602] ?_;refine ag rfl ?_;refine reK trivial iW [3,4,6,7,15,16,17,65,66,67,86,108] [6,7,601,602] ?_;refine ag rfl ?_;refine aq [3,4,6,7,15,16,65,66,67,149] [6,7,601,602] ?_;refine ak rfl ?_;refine aq [3,4,6,7,15,65,66,67,151] [6,7,601,602] ?_
          cases yes with
          | true=>
           simp at Z7;refine ak rfl ?_;refine acS (ZZ _) (by kernel_rfl) [(1,7),(3,999),(5,7),(7,999),(8,602),(9,601)] (by kernel_rfl) fun K' af=>?_;(repeat (refine fz fun K2 aa=>?_;simp [hk1,cO,e6,aaK];(repeat (refine ⟨by omega,?_⟩));refine aa _ ?_;clear aa K2));refine gO (af _ ?_);clear af K';refine aaA _ (AW.norm [3,4,6,7,65,66,67] [6,7,601,602] (fun _ _=>trivial) (AW.st (by simp [hk1,cO,e6,aaK];rfl) ?_));refine cI ?_;(try simp only [aM,aP]);refine aV.mk (n+1,(b6 L4 key (.bool false),b6 L5 key (.int .i64 0))) ⟨by omega,?_,?_⟩ (by omega) ?_
           .rw [Z7];exact gT gG _ _
           .rw [Z7];exact gT fY _ _
           .refine cw
          | false=>
           simp at Z7;refine ag rfl ?_;refine ah ?_;refine aaA _ (AW.norm [3,4,6,7,65,66,67] [6,7,601,602] (fun _ _=>trivial) (AW.st (by simp;rfl) ?_));refine cI ?_;(try simp only [aM,aP]);refine aV.mk (n+1,(L4,L5)) ⟨by omega,?_,?_⟩ (by omega) ?_
           .rw [Z7];exact gG
           .rw [Z7];exact fY
           .refine cw
        .have aL:n=p.ZY.length:=by omega
         have OY:=GP aL;refine ag (by simp<;>omega) ?_;refine bH (dz _ ?_);refine aq [6] [6,7,601,602] ?_;have gv:=Gj gG yj.1;have eZ:=Gj fY yj.2;refine bk ?_;simp [D.le,D.le.go,aB,OY,mi,gv,eZ]
theorem Js {p:aF} (hg:abl p) {i:Nat} (hi:i < p.names.length):aan p p.names[i]<=8:=by
 have h5:=hg.count _ (List.getElem_mem hi);unfold aan;split
 .rcases h5 with h5 | h5<;>omega
 .split
  .omega
  .split<;>omega
def jk (p:aF) (k:Nat):Int:=bG (cX p k)
theorem Ef (p:aF):jk p 0=1:=rfl
theorem JB (p:aF):jk p p.names.length=bG (bw p):=rfl
theorem zB {p:aF} (hg:abl p) {i:Nat} (hi:i < p.names.length):jk p (i+1)=if aan p p.names[i]=0 then jk p i else jk p i * aan p p.names[i]:=Vk hg hi
theorem wT {p:aF} (hg:abl p):∀ k,k<=p.names.length->0 < jk p k
 | 0,_=>by rw [Ef];decide
 | k+1,h=>by
  have ih:=wT hg k (by omega);have hk:=p6 hg (show k < p.names.length by omega);rw [zB hg (by omega)];split
  .exact ih
  .exact Int.mul_pos ih (by omega)
theorem JD {p:aF} (hg:abl p) {k:Nat} (h:k < p.names.length):jk p k<=jk p (k+1):=by
 have ih:=wT hg k (by omega);have hk:=p6 hg h;rw [zB hg h];split
 .exact Int.le_refl _
 .have:=Int.mul_le_mul_of_nonneg_left (show (1:Int)<=aan p p.names[k] by omega) (Int.le_of_lt ih);rw [Int.mul_one] at this;exact this
theorem JC {p:aF} (hg:abl p):∀ d k,k+d<=p.names.length->jk p k<=jk p (k+d)
 | 0,_,_=>Int.le_refl _
 | d+1,k,h=>by
  have h1:=JC hg d k (by omega);have h2:=JD hg (show k+d < p.names.length by omega)
  have:k+(d+1)=k+d+1:=by omega
  rw [this];omega
theorem Vh {p:aF} (hg:abl p) {k:Nat} (h:k<=p.names.length):jk p k<=bG (bw p):=by
 have:=JC hg (p.names.length - k) k (by omega);rw [show k+(p.names.length - k)=p.names.length by omega] at this;exact this
def iV (p:aF):Nat->Int
 | 0=>1
 | k+1=>if 0 < (dJ p).getD k 0/\iV p k<=4096 then iV p k * (dJ p).getD k 0 else iV p k
theorem Kh {p:aF} {k:Nat} (h:k < p.names.length):(dJ p).getD k 0=aan p p.names[k]:=by
 have:k < (dJ p).length:=by simpa [dJ] using h
 rw [fD this];simp [dJ]
theorem x4 {p:aF} (hg:abl p):∀ k,k<=p.names.length->(jk p k<=4096/\iV p k=jk p k)\/(4096 < jk p k/\4096 < iV p k/\iV p k<=32768)
 | 0,_=>.inl ⟨by rw [Ef];decide,by rw [Ef];rfl⟩
 | k+1,h=>by
  have hk:k < p.names.length:=by omega
  have ih:=x4 hg k (by omega);have h1:=zB hg hk;have h2:=p6 hg hk;have h3:=Js hg hk;have h4:=JD hg hk;have h5:=wT hg k (by omega);rw [iV,Kh hk]
  rcases ih with ⟨i1,i2⟩ | ⟨i1,i2,i3⟩
  .rw [i2];by_cases hz:aan p p.names[k]=0
   .rw [if_pos hz] at h1;rw [if_neg (by omega),h1];exact .inl ⟨i1,rfl⟩
   .rw [if_neg hz] at h1;rw [if_pos ⟨by omega,i1⟩,h1];have h6:=Int.mul_le_mul i1 h3 h2 (by decide);by_cases hb:jk p k * aan p p.names[k]<=4096
    .exact .inl ⟨hb,rfl⟩
    .exact .inr ⟨by omega,by omega,by omega⟩
  .rw [if_neg (by omega)];exact .inr ⟨by omega,i2,i3⟩
def iL (p:aF):Bool:=decide (4096 < bG (bw p)) || decide (6 < (aZ p).length)
def pX (p:aF) (most:Int):Bool:=!iL p && (decide (most < bG (bw p)) || decide (4 < (aZ p).length))
theorem Om {p:aF} (hg:abl p):(decide (4096 < iV p p.names.length) || decide (6 < (aZ p).length))=iL p:=by
 unfold iL;have h:=x4 hg p.names.length (Nat.le_refl _);rw [JB] at h
 rcases h with ⟨h1,h2⟩ | ⟨h1,h2,_⟩
 .rw [h2]
 .rw [decide_eq_true h1,decide_eq_true h2]
theorem Ol {p:aF} (hg:abl p) (most:Int):(!iL p && (decide (most < iV p p.names.length) || decide (4 < (aZ p).length)))=pX p most:=by
 unfold pX;have h:=x4 hg p.names.length (Nat.le_refl _);rw [JB] at h
 rcases h with ⟨h1,h2⟩ | ⟨h1,h2,_⟩
 .rw [h2]
 .have:iL p=true:=by unfold iL;rw [decide_eq_true h1];rfl
  rw [this];rfl
set_option maxRecDepth 100000 in
set_option maxHeartbeats 8000000 in
theorem On (G:ao) (hM:abJ G) (p:aF) (aY:aar p=none) (hk:∀ r∈p.ZY,j9 r) (most:Int):aw Tryz.prog G 14 [cN p,ab most] (.Z4 [.v (.bool (iL p)),.v (.bool (pX p most))]):=by
 have hg:=gC aY;have ez:=hg.names;have ll:=zU G hM p aY hk;have dB:=Aj G p (by omega) 1;have hkI:abe p.names 1 p.names.length=aZ p:=rfl;rw [hkI] at dB;simp only [cN,cPw,bR,gE] at ll dB
 have hRl:(dJ p).length=p.names.length:=by simp [dJ]
 have hgs:∀ k (h:k < (dJ p).length),iV p (k+1)=if 0 < (dJ p)[k]/\iV p k<=4096 then iV p k * (dJ p)[k] else iV p k:=fun k h=>by rw [iV,fD h]
 have P3:∀ k,k<=(dJ p).length->0 < iV p k/\iV p k<=32768:=fun k h=>by
  have h1:=x4 hg k (by omega);have h2:=wT hg k (by omega)
  rcases h1 with ⟨h1,h3⟩ | ⟨_,h1,h3⟩<;>omega
 have O8:∀ k (h:k < (dJ p).length),0<=(dJ p)[k]/\(dJ p)[k]<=8:=fun k h=>by
  have h1:=p6 hg (show k < p.names.length by omega);have h2:=Js hg (show k < p.names.length by omega);rw [<- Kh (by omega),fD h] at h1 h2;exact ⟨h1,h2⟩
 have CQ:=Om hg;have oF:=Ol hg most;have cj:=rH p.names 1 p.names.length;rw [hkI] at cj;rw [<- hRl] at CQ oF;rw [<- oF,<- CQ];clear CQ oF;have P1:iV p 0=1:=rfl;generalize iV p=g at *;generalize dJ p=RP at *
 have js:((aZ p).map fun x=>[D.v (.int .i64 x)]).length=(aZ p).length:=by simp
 generalize ((aZ p).map fun x=>[D.v (.int .i64 x)])=IN at *;generalize (aZ p).length=m at *;simp only [cN,cPw,bR,ab];generalize p.names.map Z3=NN at *;generalize p.ZY.map cZ=RR at *;refine aw.aD (ZZ _) Tryz.func14 rfl rfl (rs:=[.tmp 4,.tmp 5]) Tryz.results14 (by simp [Tryz.ntmps14]) fun X=>?_;simp only [Tryz.ntmps14,List.map];refine aq [1,2] [2] ?_;refine dX 2 ?_;refine aq [1,2,6] [] ?_;refine ae fun K1 ay=>?_;refine Z6 trivial ll [1,2,6,7,8] [] ?_;refine aam (S:=Nat) (fun k=>k<=RP.length) (fun k=>⟨aX [(1,int most),(2,.d (.ip [.sl none NN,.sl none RR])),(6,int (g k)),(7,int k),(8,.d (.sl none (RP.map fun x=>[.v (.int .i64 x)])))],ZX []⟩) (fun k=>RP.length - k) 0 ?_ (by omega) ?_
 .rw [P1];refine cw
 .intro k ie;refine ae fun K2 aa=>?_;have lk:=hgs k;have hb:=P3 k ie
  have pz:k=RP.length->g RP.length=g k:=fun e=>by rw [e]
  generalize jU:g k=v at lk hb pz ⊢;refine aq [1,2,6,7,8,15] [] ?_;refine dG (b:=k < RP.length) (by simp [D.le,D.le.go,aB]) (fun hc=>?_) (fun hc=>?_)
  .have lk:=lk hc;have hR:=O8 k hc;refine ah (aa _ ?_);refine ae fun K3 aQ=>?_;refine aR ?_;generalize ft:RP[k]=K at lk hR;by_cases hp:K > 0
   .by_cases hv:v<=4096
    .rw [if_pos ⟨hp,hv⟩] at lk;have hw:=Int.mul_le_mul hv hR.2 hR.1 (by decide);have lr:=Int.mul_nonneg (Int.le_of_lt hb.1) hR.1;have qf:=(Aq @hc (Aq @ft (Aq @hp @hv)));refine al [1,2,6,7,8,26] [] ?_;refine ak (by simp [hp,hv]) ?_;have qf:=(Aq @hc @ft);refine dv aQ [1,2,6,7,8] [] ?_;refine cI ?_;(try simp only [aM,aP]);refine aV.mk (k+1) (by omega) (by omega) ?_;rw [lk];refine cw
    .rw [if_neg (fun h=>hv h.2)] at lk;have qf:=(Aq @hc (Aq @ft (Aq @hp @hv)));refine al [1,2,6,7,8,26] [] ?_;refine ag (by simp [hp,hv]) ?_;refine ah (aQ _ ?_);refine cI ?_;(try simp only [aM,aP]);refine aV.mk (k+1) (by omega) (by omega) ?_;rw [lk];refine cw
   .rw [if_neg (fun h=>hp h.1)] at lk;have qf:=(Aq @hc (Aq @ft @hp));refine al [1,2,6,7,8,26] [] ?_;refine ag (by simp [hp]) ?_;refine ah (aQ _ ?_);refine cI ?_;(try simp only [aM,aP]);refine aV.mk (k+1) (by omega) (by omega) ?_;rw [lk];refine cw
  .have hke:k=RP.length:=by omega
   refine bH (ay _ ?_);rw [pz hke];clear lk jU pz;by_cases h1:v > 4096
   .have qf:=@h1;refine al [1,2,6,9] [] ?_;have qf:=@h1;refine al [4,5] [] ?_;exact aK @h1
   .by_cases h2:(m:Int) > 6
    .have x9:6 < m:=by omega
     have x8:¬ m<=6:=by omega
     have qf:=(Aq @h1 (Aq @h2 @js));refine aaF dB [1,2,6,9] [] ?_;have qf:=(Aq @h1 @h2);refine al [4,5] [] ?_;exact aK (Aq @h1 (Aq @h2 (Aq @x9 @x8)))
    .have x9:m<=6:=by omega
     have x8:¬ 6 < m:=by omega
     have h4:((4:Int) < (m:Int))=(4 < m):=propext (by omega);by_cases h3:v > most
     .have qf:=(Aq @h1 (Aq @h2 @js));refine aaF dB [1,2,6,9] [] ?_;have qf:=(Aq @h1 (Aq @h2 @h3));refine al [4,5] [] ?_;exact aK (Aq @h1 (Aq @h2 (Aq @h3 (Aq @x9 @x8))))
     .have qf:=(Aq @h1 (Aq @h2 @js));refine aaF dB [1,2,6,9] [] ?_;have qf:=(Aq @h1 (Aq @h2 (Aq @h3 @js)));refine aaF dB [4,5] [] ?_;exact aK (Aq @h1 (Aq @h2 (Aq @h3 (Aq @x9 (Aq @x8 @h4)))))
set_option maxRecDepth 100000 in
set_option maxHeartbeats 32000000 in
theorem XW (G:ao) (hM:abJ G) (p:aF) (aY:aar p=none) (hk:∀ r∈p.ZY,j9 r) (aC:(aZ p).length<=6) (hP:bG (bw p)<=4096):aw Tryz.prog G 17 [cN p] (.Z4 [Be p (bG (bw p)) ((2 ^ (aZ p).length:Nat):Int) (nxD (abT p)),.v (.bool true)]):=by
 have hg:=gC aY;have ez:=hg.names;have dB:=Aj G p (by omega) 1;have hkI:abe p.names 1 p.names.length=aZ p:=rfl;rw [hkI] at dB;have ll:=zU G hM p aY hk;have oN:=fun (nx:List (List D)) (n:Nat) (h1:(n:Int) < 4096)=>X5 G hM p aY hk (bG (bw p)) ((2 ^ (aZ p).length:Nat):Int) nx n (by omega) (by omega);have oD:=fun (nx:List (List D)) (n:Nat) (h1:n < 64)=>XU G p aY (bG (bw p)) ((2 ^ (aZ p).length:Nat):Int) nx n (by omega) (by omega) aC;have np:=fun n:Nat=>Ui aY (n:Int) (by omega);have qS:=fun (s:Nat) (i:Nat)=>We G p aY hk (kA p s) (w7 aY s) (eN i (aZ p).length) (aeo _ _) _ _ (np s);have iY:=fun (s:Nat) (i:Nat)=>Uk aY (w7 aY s) (eN i (aZ p).length) (m:=((jE p s p.names.length).2.1,(jE p s p.names.length).2.2)) (np s);have Cc:=fun (s:Nat) (i:Nat)=>(F6 aY (w7 aY s) (eN i (aZ p).length)).1;have bA:=fun (nx:List (List D)) (s i:Nat)=>XY G hM p aY hk (bG (bw p)) ((2 ^ (aZ p).length:Nat):Int) nx (lO p (kA p s) (eN i (aZ p).length)) (Cc s i) hP _ _ (iY s i);have yK:0 < bG (bw p):=nE fun x hx=>(nD hg hx).m2;have hps:=fun k (h:k < p.names.length)=>zB hg h;have CN:=fun k (h:k<=p.names.length)=>wT hg k h;have df:=fun k (h:k<=p.names.length)=>Vh hg h;have dD:jk p p.names.length=bG (bw p):=rfl;have yG:jk p 0=1:=rfl
 have hRl:(dJ p).length=p.names.length:=by simp [dJ]
 have hRg:∀ i (hi:i < p.names.length),(dJ p)[i]? = some (aan p p.names[i]):=fun i hi=>by simp [dJ,hi]
 have BG:=fun i (hi:i < p.names.length)=>p6 hg hi;have pI:=fun s (h:s < (abT p).length)=>I6 h;have eg:=DT p;have vR:=fun s i (h:i < 2 ^ (aZ p).length)=>Kd (p:=p) (s:=s) h;have dN:=fun s=>zS p (aZ p).length s
 have Gz:2 ^ (aZ p).length<=64:=by
  have:=Nat.pow_le_pow_right (n:=2) (by omega) aC;omega
 simp only [nB,ab,uL,iU] at oN oD bA qS;simp only [cN,cPw,bR,Be,AZ,gE] at dB ll qS oN oD bA pI ⊢;generalize abT p=mh at *;generalize BP:lD p (aZ p).length=AF at *;clear BP;generalize dJ p=RP at *;generalize jk p=PN at *
 have js:((aZ p).map fun x=>[D.v (.int .i64 x)]).length=(aZ p).length:=by simp
 generalize ((aZ p).map fun x=>[D.v (.int .i64 x)])=IN at *;generalize (aZ p).length=m at *;generalize p.names.map Z3=NN at *;generalize p.ZY.map cZ=RR at *;refine aw.aD (ZZ _) Tryz.func17 rfl rfl (rs:=[.tmp 2,.tmp 3]) Tryz.results17 (by simp [Tryz.ntmps17]) fun X=>?_;simp only [Tryz.ntmps17,List.map];have fw:=@ab.eq_1;refine ZW fw [1] [1] ?_;refine ck fw 1 ?_;refine ZW fw [1,4] [12] ?_;refine ae fun K1 ay=>?_
 have lT:¬ (IN.length:Int) > 6:=by omega
 have qf:=(Aq fw @lT);refine aaF dB [1,4,16] [12] ?_;refine ag (by simp<;>omega) ?_;refine ah (ay _ ?_);refine ae fun K2 aa=>?_;refine Z6 fw dB [1,4,19,20] [12] ?_;refine aam (S:=Nat) (fun k=>k<=m) (fun k=>⟨aX [(1,.d (.ip [.sl none NN,.sl none RR])),(4,.ref 12 0 0),(19,int m),(20,int k)],ZX [(12,.box 50 [.d (.sl none NN),.d (.sl none RR),int 1,int ((2 ^ k:Nat):Int),.d (.sl (some false) [])])]⟩) (fun k=>m - k) 0 ?_ (by omega) ?_
 .refine aU (Aq fw @js)
 .intro k yA;have GA:2 ^ k<=64:=Nat.le_trans (Nat.pow_le_pow_right (by decide) yA) Gz;have h2p:0 < 2 ^ k:=Nat.pow_pos (by decide)
  have Bx:((2 ^ (k+1):Nat):Int)=((2 ^ k:Nat):Int) * 2:=by rw [Nat.pow_succ];omega
  generalize s9:2 ^ k=w at GA h2p Bx ⊢;refine ZW fw [1,4,19,20,21] [12] ?_;refine ae fun K3 aQ=>?_;refine dG (b:=k < m) (by simp [D.le,D.le.go,aB,ab]) (fun hc=>?_) (fun hc=>?_)
  .refine ah (aQ _ ?_);refine ae fun K4 bN=>?_;refine aR ?_;refine reK fw bN [1,4,19,20] [12] ?_;refine reQ fw ?_;(try simp only [aM,aP]);refine aV.mk (k+1) (by omega) (by omega) ?_;rw [Bx];refine aU fw
  .obtain rfl:m=k:=by omega
   rw [<- s9];clear s9 Bx h2p GA;refine bH (aa _ ?_);refine ae fun K5 hK5=>?_;refine Z6 fw ll [1,4,31,32,33] [12] ?_;refine aam (S:=Nat) (fun j=>j<=p.names.length) (fun j=>⟨aX [(1,.d (.ip [.sl none NN,.sl none RR])),(4,.ref 12 0 0),(31,.d (.sl none (RP.map fun x=>[.v (.int .i64 x)]))),(32,int RP.length),(33,int j)],ZX [(12,.box 50 [.d (.sl none NN),.d (.sl none RR),int (PN j),int ((2 ^ m:Nat):Int),.d (.sl (some false) [])])]⟩) (fun j=>p.names.length - j) 0 ?_ (by omega) ?_
   .rw [yG];refine aU fw
   .intro j hj;have hq:=hps j;have jB:=CN j hj;have QO:=df j hj;have fI:=fun h:j < p.names.length=>df (j+1) h;generalize hQ:PN j=Q at hq jB QO ⊢;refine ZW fw [1,4,31,32,33,34] [12] ?_;refine ae fun K6 de=>?_;by_cases ax:j < p.names.length
    .have lU:j < RP.length:=by omega
     refine ak (by simp [lU]) ?_;refine ah (de _ ?_);refine ae fun K7 dy=>?_;refine aR ?_;have hq:=hq ax;have fI:=fI ax
     have GV:RP[j]=aan p p.names[j]:=by
      have:=hRg j ax;rw [List.getElem?_eq_getElem lU] at this;exact Option.some.inj this
     have lS:=BG j ax;generalize aan p p.names[j]=K at hq GV lS;have qf:=(Aq fw (Aq @lU @GV));refine al [1,4,6,31,32,33] [12] ?_;refine ae fun K8 dz=>?_;by_cases hz:K=0
     .subst hz;rw [if_pos rfl] at hq;refine ZW fw [1,4,6,31,32,33,38] [12] ?_;refine ag rfl ?_
      have BO:¬ Q > 4096:=by omega
      refine ah (dz _ ?_);have qf:=(Aq fw @BO);refine al [1,4,31,32,33,51] [12] ?_;refine ag (by simp<;>omega) ?_;refine ah (dy _ ?_);refine reQ fw ?_;(try simp only [aM,aP]);refine aV.mk (j+1) (by omega) (by omega) ?_;rw [hq];refine aU fw
     .rw [if_neg hz] at hq
      have OP:K > 0:=by omega
      have Yj:0<=Q * K:=Int.mul_nonneg (Int.le_of_lt jB) lS
      have BO:¬ Q * K > 4096:=by omega
      have qf:=(Aq fw @OP);refine al [1,4,6,31,32,33,38] [12] ?_;refine ak (by simp<;>omega) ?_;refine reK fw dz [1,4,31,32,33] [12] ?_;have qf:=(Aq fw @BO);refine al [1,4,31,32,33,51] [12] ?_;refine ag (by simp<;>omega) ?_;refine ah (dy _ ?_);refine reQ fw ?_;(try simp only [aM,aP]);refine aV.mk (j+1) (by omega) (by omega) ?_;rw [hq];refine aU fw
    .obtain rfl:j=p.names.length:=by omega
     rw [dD] at hQ;subst hQ;refine ag (by simp<;>omega) ?_;refine bH (hK5 _ ?_);refine ae fun K9 hK9=>?_;obtain ⟨S,hS⟩:∃ S:Nat,bG (bw p)=(S:Int):=Int.eq_ofNat_of_zero_le (by omega);rw [hS] at eg hP oN oD bA ⊢;rw [Int.toNat_natCast] at eg;refine ZW fw [1,4,56,57] [12] ?_;refine aam (S:=Nat) (fun s=>s<=S) (fun s=>⟨aX [(1,.d (.ip [.sl none NN,.sl none RR])),(4,.ref 12 0 0),(56,int S),(57,int s)],ZX [(12,.box 50 [.d (.sl none NN),.d (.sl none RR),int S,int ((2 ^ m:Nat):Int),.own 800 0 s]),(800,.sl 46 1 (nxD (mh.take s)))]⟩) (fun s=>S - s) 0 ?_ (by omega) ?_
     .refine (Z1.lK 12 4 800 46 1 rfl rfl rfl).trans ?_;refine aU (Aq fw @nxD.eq_1)
     .intro s CX;have fG:=pI s
      have iX:(nxD (mh.take s)).length=s:=by rw [Jc,List.length_take];omega
      have u6:s=S->nxD (mh.take s)=nxD mh:=fun e=>by rw [List.take_of_length_le (by omega)]
      generalize nxD (mh.take s)=NX at fG iX u6 ⊢;refine ZW fw [1,4,56,57,58] [12,800] ?_;refine ae fun kb aaA=>?_;refine dG (b:=s < S) (by simp [D.le,D.le.go,aB,ab]) (fun hc=>?_) (fun hc=>?_)
      .refine ah (aaA _ ?_);refine ae fun nT iW=>?_;refine aR ?_;have vN:=fG (by omega);have oO:=oN NX s (by omega);have Cv:=oD NX;have sV:=qS s;have s8:=fun i=>bA NX s i;have re:=fun i h=>vR s i h;have CR:=dN s;generalize kA p s=w6 at sV s8 re;generalize jE p s p.names.length=ms at oO sV s8;generalize yl:AF s=RS at vN re CR;refine ZW fw [1,4,7,56,57] [12,800] ?_;refine ZW fw [1,4,7,8,56,57] [12,800] ?_;refine ae fun sd abB=>?_;refine ZW fw [1,4,7,8,56,57,63,64] [12,800] ?_;refine aam (S:=Nat) (fun i=>i<=2 ^ m) (fun i=>⟨aX [(1,.d (.ip [.sl none NN,.sl none RR])),(4,.ref 12 0 0),(7,int s),(8,.own 902 0 i),(56,int S),(57,int s),(63,int ((2 ^ m:Nat):Int)),(64,int i)],ZX [(12,.box 50 [.d (.sl none NN),.d (.sl none RR),int S,int ((2 ^ m:Nat):Int),.own 800 0 s]),(800,.sl 46 1 NX),(902,.sl 3 1 ((RS.take i).map fun x=>[.v (.int .i64 x)]))]⟩) (fun i=>2 ^ m - i) 0 ?_ (by omega) ?_
       .refine (Z1.kc 8 902 3 1 rfl rfl).trans ?_;refine aU fw
       .intro i jc;have vQ:=re i
        have dY:((RS.take i).map fun x=>[D.v (.int .i64 x)]).length=i:=by simp;omega
        generalize fZ:RS.take i=RI at vQ dY ⊢;refine ZW fw [1,4,7,8,56,57,63,64,65] [12,800,902] ?_;refine ae fun jK eI=>?_;by_cases cQ:i < 2 ^ m
        .have sZ:(i:Int) < ((2 ^ m:Nat):Int):=by exact_mod_cast cQ
         refine ak (by simpa using sZ) ?_;refine ah (eI _ ?_);refine ae fun K14 adb=>?_;refine aR ?_;have ra:=vQ cQ;have adu:=Cv i (by omega);have adh:=sV i;have lW:=s8 i;generalize tB p w6 (eN i m) ms.2=md at adh lW;generalize lO p w6 (eN i m)=d1 at lW ra;generalize eN i m=ib at adu adh;generalize eD (bw p) d1=v1 at lW ra;obtain ⟨_,I1,C1⟩:=ms;obtain ⟨I2,C2⟩:=md;dsimp only at oO adh lW;rw [iX] at oO adu lW;refine ZW fw [1,4,7,8,9,56,57,63,64] [12,800,902] ?_;refine Fh (ZZ _) (by kernel_rfl) ([12]) ([]) ([5,8,10]) ([(2,.d (.ip [.sl none NN,.sl none RR]))]) (List.range 14) (by kernel_rfl) fun K' af=>?_;(repeat (refine jn rfl fun K2 aa=>?_;simp [ab,dY,List.take_of_length_le];(repeat (refine ⟨by omega,?_⟩));refine aa _ ?_;clear aa K2));refine jn rfl fun K2 aa=>?_;simp [ab,dY,List.take_of_length_le];refine ou.mc (oO) (by simp [ab,dY,List.take_of_length_le]) (by simp [ab,dY,List.take_of_length_le]) (by simp [ab,dY,List.take_of_length_le]) (by simp [ab,dY,List.take_of_length_le]) (by simp [ab,dY,List.take_of_length_le]) (by simp [ab,dY,List.take_of_length_le]) (by simp [gq,ab,dY,List.take_of_length_le]) ?_;simp [ab,dY,List.take_of_length_le];refine aa _ ?_;clear aa K2;(repeat (refine jn rfl fun K2 aa=>?_;simp [ab,dY,List.take_of_length_le];(repeat (refine ⟨by omega,?_⟩));refine aa _ ?_;clear aa K2));refine jn rfl fun K2 aa=>?_;simp [ab,dY,List.take_of_length_le];refine ou.mc (adu) (by simp [ab,dY,List.take_of_length_le]) (by simp [ab,dY,List.take_of_length_le]) (by simp [ab,dY,List.take_of_length_le]) (by simp [ab,dY,List.take_of_length_le]) (by simp [ab,dY,List.take_of_length_le]) (by simp [ab,dY,List.take_of_length_le]) (by simp [gq,ab,dY,List.take_of_length_le]) ?_;simp [ab,dY,List.take_of_length_le];refine aa _ ?_;clear aa K2;(repeat (refine jn rfl fun K2 aa=>?_;simp [ab,dY,List.take_of_length_le];(repeat (refine ⟨by omega,?_⟩));refine aa _ ?_;clear aa K2));refine jn rfl fun K2 aa=>?_;simp [ab,dY,List.take_of_length_le];refine mj.mk (adh) (by simp;rfl) (by simp;rfl) (by first | exact D.bn _ | simp [aB,List.map_map,Function.comp_def,D.le,D.le.go,D.le_refl,D.bn,ab,dY,List.take_of_length_le]) (by simp) ?_;refine aa _ ?_;clear aa K2;simp only [Z2,dk];(repeat (refine jn rfl fun K2 aa=>?_;simp [ab,dY,List.take_of_length_le];(repeat (refine ⟨by omega,?_⟩));refine aa _ ?_;clear aa K2));refine jn rfl fun K2 aa=>?_;simp [ab,dY,List.take_of_length_le];refine ou.mc (lW) (by simp [ab,dY,List.take_of_length_le]) (by simp [ab,dY,List.take_of_length_le]) (by simp [ab,dY,List.take_of_length_le]) (by simp [ab,dY,List.take_of_length_le]) (by simp [ab,dY,List.take_of_length_le]) (by simp [ab,dY,List.take_of_length_le]) (by simp [gq,ab,dY,List.take_of_length_le]) ?_
         simp [ab,dY,List.take_of_length_le];refine aa _ ?_;clear aa K2;(repeat (refine jn rfl fun K2 aa=>?_;simp [ab,dY,List.take_of_length_le];(repeat (refine ⟨by omega,?_⟩));refine aa _ ?_;clear aa K2));refine KS (af _ ?_);clear af K';refine adb _ (AW.norm [1,4,7,8,56,57,63,64] [12,800,902] (fun _ _=>trivial) (AW.st (by simp [ab,dY,List.take_of_length_le];rfl) ?_));refine reQ fw ?_;(try simp only [aM,aP]);refine aV.mk (i+1) (by omega) (by omega) ?_;rw [ra];refine aU fw
        .obtain rfl:i=2 ^ m:=by omega
         have qM:RI=RS:=by rw [<- fZ];exact List.take_of_length_le (by omega)
         subst qM;refine ag (by simp) ?_;refine bH (abB _ ?_);refine AW.imp (Z1.freeze 902 trivial) ?_;refine AW.st (by simp [ab,dY,List.take_of_length_le];rfl) ?_;refine aaG (ZZ _) fun K' af=>?_;(repeat (refine Z0 fun K2 aa=>?_;simp [ab,iX,List.take_of_length_le];(repeat (refine ⟨by omega,?_⟩));refine aa _ ?_;clear aa K2));refine Z9 (af _ ?_);clear af K';refine iW _ (AW.norm [1,4,56,57] [12,800] (fun _ _=>trivial) (AW.st (by simp [ab,iX,List.take_of_length_le];rfl) ?_));refine reQ fw ?_;(try simp only [aM,aP]);refine aV.mk (s+1) (by omega) (by omega) ?_;rw [vN];refine aU fw
      .obtain rfl:s=S:=by omega
       obtain rfl:=u6 rfl;refine bH (hK9 _ ?_);refine AW.imp (Z1.freeze 800 trivial) ?_;refine AW.st (by simp [ab,iX,List.take_of_length_le];rfl) ?_;refine ZW fw [2,3] [12] ?_;exact aK (Aq fw @hS)
set_option maxHeartbeats 8000000 in
theorem MH (G:ao) (hF:ql G) (hM:abJ G) (hP:nS G) (hG:mf G) {es er:Value} (hE:o4 G es er) (nd:xm G) (ng:xn G) (t:Tx):aw Tryz.prog G 13 [dS t] (adO (wY t)):=by
 have hp:=afU G hM hP hG hE t;have hw:=Wc G hF hM hP hE nd ng t;unfold wY;simp only [dS] at hp hw ⊢;by_cases hl:1500 < t.length
 .have ek:(1500:Int) < (t.length:Int):=by omega
  rw [if_pos hl];simp only [adO,Bf,Bg];refine aw.aD (ZZ _) Tryz.func13 rfl rfl (rs:=[.cell 2 25,.cell 3 29,.tmp 4]) Tryz.results13 (by simp [Tryz.ntmps13]) fun X=>?_;simp only [Tryz.ntmps13,List.map];refine aq [0,2,3] [2,3] ?_;refine ae fun K1 ay=>?_;have qf:=(Aq @bh @ek);refine al [0,2,3,11] [2,3] ?_;refine ak (by simp [ek]) ?_;refine aq [2,3,4] [2,3] ?_;exact gm
 .have ek:¬ (1500:Int) < (t.length:Int):=by omega
  rw [if_neg hl]
  cases dD:(abg t).1 with
  | none=>
   obtain ⟨q,hq⟩:∃ q,abg t=(none,q):=⟨(abg t).2,by rw [<- dD]⟩;rw [hq] at hp hw ⊢;simp only [adO,Z5,dw,cPg,cN,cPw,bR,dW,ch,codeF,aab,ab] at hp hw ⊢;generalize q.names.map Z3=NN at *;generalize q.ZY.map cg=RR at *;generalize q.ZY.map cZ=RW at *;refine aw.aD (ZZ _) Tryz.func13 rfl rfl (rs:=[.cell 2 25,.cell 3 29,.tmp 4]) Tryz.results13 (by simp [Tryz.ntmps13]) fun X=>?_;simp only [Tryz.ntmps13,List.map];refine aq [0,2,3] [2,3] ?_;refine ae fun K1 ay=>?_;have qf:=(Aq @bh @ek);refine al [0,2,3,11] [2,3] ?_;refine ag (by simp<;>omega) ?_;refine ah (ay _ ?_);refine Z6 trivial hw [0,2,3,5,6] [2,3,5,6] ?_;refine dX 5 ?_;refine dX 6 ?_;refine ae fun K2 aa=>?_;refine aq [0,2,3,5,21] [2,3] ?_;refine ag rfl ?_;refine ah (aa _ ?_);refine Z6 trivial hp [2,3,5,7] [2,3,7] ?_;refine dX 7 ?_;refine j8 (ZZ _) (by kernel_rfl) [(0,999),(1,999),(2,2),(3,3)] [2,3,4] [2,3] (fun _ _=>trivial) (by kernel_rfl) fun K' af=>?_;(repeat (refine fz fun K2 aa=>?_;simp;(repeat (refine ⟨by omega,?_⟩));refine aa _ ?_;clear aa K2));refine gO (af _ ?_);refine AW.st (by simp;rfl) ?_;clear af K';exact gm
  | some e=>
   have h2:=U4 dD
   have hq:abg t=(some e,⟨[],[]⟩):=by rw [<- dD,<- h2]
   rw [hq] at hw ⊢;obtain ⟨c,o⟩:=e;have eW:=U3 dD;simp only [adO,Bf,Bg,ch,codeF,ab] at hw ⊢;generalize aab (some (c,o))=pl at hw;refine aw.aD (ZZ _) Tryz.func13 rfl rfl (rs:=[.cell 2 25,.cell 3 29,.tmp 4]) Tryz.results13 (by simp [Tryz.ntmps13]) fun X=>?_;simp only [Tryz.ntmps13,List.map];refine aq [0,2,3] [2,3] ?_;refine ae fun K1 ay=>?_;have qf:=(Aq @bh @ek);refine al [0,2,3,11] [2,3] ?_;refine ag (by simp<;>omega) ?_;refine ah (ay _ ?_);refine Z6 trivial hw [0,2,3,5,6] [2,3,5,6] ?_;refine dX 5 ?_;refine dX 6 ?_;refine ae fun K2 aa=>?_;refine aq [0,2,3,5,21] [2,3] ?_;refine ak (by simp [eW]) ?_;refine aq [2,3,4] [2,3] ?_;exact gm
set_option maxHeartbeats 8000000 in
theorem Ug (G:ao) (p:aF) (aY:aar p=none) (hk:∀ r∈p.ZY,j9 r) (aC:6 < (aZ p).length):aw Tryz.prog G 15 [dw p] (.Z4 [.v (.pointer none),.br 40 (.v (.int .i64 4))]):=by
 have hg:=gC aY;have ez:=hg.names;have bW:=za G p (EH aY hk);rw [aY] at bW;have dB:=zh G p (by omega) 1;have hkI:abe p.names 1 p.names.length=aZ p:=rfl;rw [hkI] at dB;simp only [dw,cPg,bR,dW,Z5,gE] at dB bW ⊢
 have js:((aZ p).map fun x=>[D.v (.int .i64 x)]).length=(aZ p).length:=by simp
 generalize ((aZ p).map fun x=>[D.v (.int .i64 x)])=IN at *;generalize (aZ p).length=m at *;generalize p.names.map Z3=NN at *;generalize p.ZY.map cg=RR at *;refine aw.aD (ZZ _) Tryz.func15 rfl rfl (rs:=[.tmp 2,.tmp 3]) Tryz.results15 (by simp [Tryz.ntmps15]) fun X=>?_;simp only [Tryz.ntmps15,List.map];refine aq [1] [1] ?_;refine dX 1 ?_;refine ae fun K1 ay=>?_;refine Z6 trivial bW [1,4] [] ?_;refine aq [1,4,19] [] ?_;refine ag rfl ?_;refine ah (ay _ ?_);refine zI trivial dB [1,5] [25] ?_;refine ae fun K2 aa=>?_
 have lT:(IN.length:Int) > 6:=by omega
 have qf:=@lT;refine al [1,5,31] [25] ?_;refine ak (by simp<;>omega) ?_;refine aq [2,3] [25] ?_;exact gm
set_option maxRecDepth 100000 in
set_option maxHeartbeats 32000000 in
theorem Ue (G:ao) (p:aF) (aY:aar p=none) (hk:∀ r∈p.ZY,j9 r) (aC:(aZ p).length<=6) (hP:4096 < bG (bw p)):aw Tryz.prog G 15 [dw p] (.Z4 [.v (.pointer none),.br 40 (.v (.int .i64 4))]):=by
 have hg:=gC aY;have ez:=hg.names;have bW:=za G p (EH aY hk);rw [aY] at bW;have dB:=zh G p (by omega) 1;have hkI:abe p.names 1 p.names.length=aZ p:=rfl;rw [hkI] at dB
 have hed:=IA G p (by omega) (by have:=hg.ZY;omega) (fun r hr=>by
  obtain ⟨e,he,_,_,hb⟩:=hk r hr
  exact ⟨e,he,by omega⟩)
 rw [Gc aY] at hed;have CU:=tY p.names.length (cY p p.names.length);have CT:=Kv p;have C8:=fun q (hq:q < (cY p p.names.length).length)=>Ld hq;have C9:=fun q (hq:q < (cY p p.names.length).length)=>(show iN p.names.length (cY p p.names.length) (q+1)=(iN p.names.length (cY p p.names.length) q).set ((cY p p.names.length)[q]).toNat true by rw [iN,fD hq]);have hs0:iN p.names.length (cY p p.names.length) 0=List.replicate p.names.length false:=rfl;have jh:=xj p p.names.length;have sM:∀ k (h:k < p.names.length),cX p (k+1)=cX p k ++ partOf p.names[k] (fh p p.names[k]) k:=fun k h=>wP h;have kH:=wO p;have u7:cX p p.names.length=bw p:=rfl;have jW:∀ x∈bw p,2<=x.most:=fun x hx=>(nD hg hx).m2;have yC:∀ x∈bw p,x.most<=8:=fun x hx=>(nD hg hx).m8
 have ll:bG ((bw p).take (bw p).length)=bG (bw p):=by rw [List.take_length]
 have CO:=fun k (h:k < (bw p).length)=>JF h;have yK:0 < bG (bw p):=nE jW;have gv:=fun k=>(nE (l:=(bw p).take k) fun x hx=>jW x (List.mem_of_mem_take hx));have oL:=Lk aC;have iy:=hg.count;simp only [dw,cPg,bR,dW,Z5,gE] at dB bW hed ⊢;generalize cY p p.names.length=E at *;generalize iN p.names.length E=SB at *
 have js:((aZ p).map fun x=>[D.v (.int .i64 x)]).length=(aZ p).length:=by simp
 generalize ((aZ p).map fun x=>[D.v (.int .i64 x)])=IN at *;generalize (aZ p).length=m at *
 have hNl:(p.names.map Z3).length=p.names.length:=by simp
 have kG:∀ i (h:i < p.names.length),(p.names.map Z3)[i]? = some [.v (.string (bs p.names[i].name)),.v (.int .i64 p.names[i].kind),.v (.int .i64 p.names[i].count)]:=fun i h=>by simp [h,Z3,dS]
 generalize p.names.map Z3=NN at *;generalize p.ZY.map cg=RR at *
 have uY:(E.map fun x=>[D.v (.int .i64 x)]).length=E.length:=by simp
 refine aw.aD (ZZ _) Tryz.func15 rfl rfl (rs:=[.tmp 2,.tmp 3]) Tryz.results15 (by simp [Tryz.ntmps15]) fun X=>?_;simp only [Tryz.ntmps15,List.map];have fw:=@ab.eq_1;refine ZW fw [1] [1] ?_;refine ck fw 1 ?_;refine ae fun K1 ay=>?_;refine Z6 fw bW [1,4] [] ?_;refine ZW fw [1,4,19] [] ?_;refine ag rfl ?_;refine ah (ay _ ?_);refine zI fw dB [1,5] [25] ?_;refine ae fun K2 aa=>?_
 have lT:¬ (IN.length:Int) > 6:=by omega
 have qf:=(Aq fw @lT);refine al [1,5,31] [25] ?_;refine ag (by simp<;>omega) ?_;refine ah (aa _ ?_);have qf:=(Aq fw (Aq @shI.eq_1 (Aq @shI.eq_2 (Aq @shI.eq_3 (Aq @js @oL)))));refine al [1,5] [25] ?_;refine ZW (Aq fw (Aq @lz.eq_1 (Aq @gB.eq_1 @gB.eq_2))) [1,5,6] [25,45] ?_;refine ae fun K3 aQ=>?_;refine Z6 fw hed [1,5,6,47,48,49] [25,45] ?_;refine aam (S:=Nat) (fun j=>j<=E.length) (fun j=>⟨aX [(1,.d (.ip [.sl none NN,.sl none RR])),(5,.ref 25 0 0),(6,.own 45 0 p.names.length),(47,.d (.sl none (E.map fun x=>[.v (.int .i64 x)]))),(48,int E.length),(49,int j)],ZX [(25,.box 48 [.d (.sl none NN),.d (.sl none RR),int 1,int ((2 ^ m:Nat):Int),.d (.sl (some false) []),.d (.sl (some false) []),.d (.sl none IN)]),(45,.sl 4 1 ((SB j).map fun b=>[.v (.bool b)]))]⟩) (fun j=>E.length - j) 0 ?_ (by omega) ?_
 .rw [hs0];refine Z1.dK (fun _ _=>trivial) (by simp [ab,List.map_replicate,hNl,uY]) (by simp [ab,List.map_replicate,hNl,uY])
 .intro j hj;have CV:=CU j;have v8:=C9 j;generalize hSj:SB j=B at CV v8 ⊢;refine ZW fw [1,5,6,47,48,49,50] [25,45] ?_;refine ae fun K4 bN=>?_;refine dG (b:=j < E.length) (by simp [D.le,D.le.go,aB,ab]) (fun hc=>?_) (fun hc=>?_)
  .refine ah (bN _ ?_);refine ae fun K5 hK5=>?_;refine aR ?_;obtain ⟨i,hi,uX⟩:=C8 j hc;have wa:=v8 hc;rw [uX,Int.toNat_natCast] at wa
   have ea:i < B.length:=by omega
   have qf:=(Aq fw (Aq @hc @uX));refine al [1,5,6,8,47,48,49] [25,45] ?_;have qf:=(Aq fw (Aq @ea @hi));refine dv hK5 [1,5,6,47,48,49] [25,45] ?_;refine reQ fw ?_;(try simp only [aM,aP]);refine aV.mk (j+1) (by omega) (by omega) ?_;rw [wa];refine Z1.dK (fun _ _=>trivial) (by simp [ab,List.map_set]) (by simp [ab,List.map_set])
  .obtain rfl:j=E.length:=by omega
   rw [CT] at hSj;subst hSj;refine bH (aQ _ ?_);refine ae fun K6 de=>?_;refine ZW fw [1,5,6,58,59,60] [25,45] ?_;refine aam (S:=Nat) (fun k=>k<=p.names.length) (fun k=>⟨aX [(1,.d (.ip [.sl none NN,.sl none RR])),(5,.ref 25 0 0),(6,.own 45 0 p.names.length),(58,.d (.sl none NN)),(59,int NN.length),(60,int k)],ZX [(25,.box 48 [.d (.sl none NN),.d (.sl none RR),int 1,int ((2 ^ m:Nat):Int),.d (.sl (some false) []),.own 801 0 (cX p k).length,.d (.sl none IN)]),(45,.sl 4 1 ((p.names.map (fh p)).map fun b=>[.v (.bool b)])),(801,.sl 134 3 ((cX p k).map cPa))]⟩) (fun k=>p.names.length - k) 0 ?_ (by omega) ?_
   .refine (Z1.lK 25 5 801 134 3 rfl rfl rfl).trans ?_;refine aU (Aq fw (Aq @cX.eq_1 @cX.eq_2))
   .intro k ie;have vb:=sM k;have BN:=kH k
    have va:((cX p k).map cPa).length=(cX p k).length:=by simp
    generalize hPk:cX p k=PK at vb BN va ⊢;refine ZW fw [1,5,6,58,59,60,61] [25,45,801] ?_;refine ae fun K7 dy=>?_;by_cases ax:k < p.names.length
    .have aaq:k < NN.length:=by omega
     have jy:(k:Int) < (NN.length:Int):=by omega
     refine ak (by simp<;>omega) ?_;refine ah (dy _ ?_);refine ae fun K8 dz=>?_;refine aR ?_;have abu:=vb ax;have eW:=iy _ (List.getElem_mem ax)
     have jS:NN[k]=[.v (.string (bs p.names[k].name)),.v (.int .i64 p.names[k].kind),.v (.int .i64 p.names[k].count)]:=by
      have:=kG k ax;rw [List.getElem?_eq_getElem aaq] at this;exact Option.some.inj this
     unfold partOf at abu;generalize hnk:p.names[k]=nk at abu jS eW;obtain ⟨nm,kd,ct⟩:=nk;dsimp only at abu jS eW
     have vr:fh p p.names[k]=fh p ⟨nm,kd,ct⟩:=by rw [hnk]
     generalize aG:fh p ⟨nm,kd,ct⟩=ev at *;have qf:=(Aq fw (Aq @aaq @jS));refine al [1,5,6,9,10,58,59,60] [25,45,801,10] ?_;refine ck fw 10 ?_;refine aR ?_;by_cases k2:kd=2
     .subst k2;rw [if_pos (.inl rfl)] at abu;refine ZW fw [1,5,6,9,10,58,59,60,65] [25,45,801] ?_;refine ak rfl ?_;refine aaG (ZZ _) fun K' af=>?_;(repeat (refine Z0 fun K2 aa=>?_;simp [ab,List.take_of_length_le];(repeat (refine ⟨by omega,?_⟩));refine aa _ ?_;clear aa K2));refine Z9 (af _ ?_);clear af K';refine dz _ (AW.norm [1,5,6,58,59,60] [25,45,801] (fun _ _=>trivial) (AW.st (by simp [ab,List.take_of_length_le];rfl) ?_));refine reQ fw ?_;(try simp only [aM,aP]);refine aV.mk (k+1) (by omega) (by omega) ?_;rw [abu];refine aU (Aq fw @cPa.eq_1)
     .by_cases k1:kd=1
      .subst k1
       cases ev with
       | true=>
        rw [if_pos (.inr ⟨rfl,rfl⟩)] at abu;have qf:=(Aq fw (Aq @ax @vr));refine al [1,5,6,9,10,58,59,60,65] [25,45,801] ?_;refine ak rfl ?_;refine aaG (ZZ _) fun K' af=>?_;(repeat (refine Z0 fun K2 aa=>?_;simp [ab,List.take_of_length_le];(repeat (refine ⟨by omega,?_⟩));refine aa _ ?_;clear aa K2));refine Z9 (af _ ?_);clear af K';refine dz _ (AW.norm [1,5,6,58,59,60] [25,45,801] (fun _ _=>trivial) (AW.st (by simp [ab,List.take_of_length_le];rfl) ?_));refine reQ fw ?_;(try simp only [aM,aP]);refine aV.mk (k+1) (by omega) (by omega) ?_;rw [abu];refine aU (Aq fw @cPa.eq_1)
       | false=>
        rw [if_neg (by simp),if_neg (by simp),List.append_nil] at abu;have qf:=(Aq fw (Aq @ax @vr));refine al [1,5,6,9,10,58,59,60,65] [25,45,801] ?_;refine ag rfl ?_;refine ZW fw [1,5,6,9,10,58,59,60,91] [25,45,801] ?_;refine ag rfl ?_;refine ah ?_;refine dz _ (AW.norm [1,5,6,58,59,60] [25,45,801] (fun _ _=>trivial) (AW.st (by simp [ab];rfl) ?_));refine reQ fw ?_;(try simp only [aM,aP]);refine aV.mk (k+1) (by omega) (by omega) ?_;rw [abu];refine aU fw
      .rw [if_neg (by simp [k1,k2]),if_pos k1] at abu;have qf:=(Aq fw (Aq @k1 @k2));refine al [1,5,6,9,10,58,59,60,65] [25,45,801] ?_;refine ag (by simp [k1,k2]) ?_;have qf:=(Aq fw @k1);refine al [1,5,6,9,10,58,59,60,91] [25,45,801] ?_;refine ak (by simp [k1]) ?_;refine uq (ZZ _) (by kernel_rfl) ([(11,(801,105))]) ([(0,[801])]) ([0,1,2,3,4,5,6,7,8,9,10,11,12,13,14]) (by kernel_rfl) fun K' af=>?_;(repeat (refine ub rfl fun K2 aa=>?_;simp [ab,List.take_of_length_le];(repeat (refine ⟨by omega,?_⟩));refine aa _ ?_;clear aa K2));refine uc (af _ ?_);clear af K';refine dz _ (AW.norm [1,5,6,58,59,60] [25,45,801] (fun _ _=>trivial) (AW.st (by simp [ab,List.take_of_length_le];rfl) ?_));refine reQ fw ?_;(try simp only [aM,aP]);refine aV.mk (k+1) (by omega) (by omega) ?_;rw [abu];refine aU (Aq fw @cPa.eq_1)
    .have jy:¬ (k:Int) < (NN.length:Int):=by omega
     obtain rfl:k=p.names.length:=by omega
     rw [u7] at hPk;subst hPk;refine ag (by simp<;>omega) ?_;refine bH (de _ ?_);refine AW.imp (Z1.freeze 801 trivial) ?_;refine AW.st (by simp [ab,va,List.take_of_length_le];rfl) ?_;refine ae fun K9 hK9=>?_
     have O4:((bw p).map cPa).length=(bw p).length:=by simp
     have BM:∀ i (h:i < (bw p).length),((bw p).map cPa)[i]? = some [.v (.int .i64 (bw p)[i].nm),.v (.int .i64 (bw p)[i].most),.v (.bool (bw p)[i].far)]:=fun i h=>by simp [h,cPa]
     generalize BL:bw p=bZ at *;generalize bZ.map cPa=PT at *;refine ZW fw [1,5,113,114,115] [25] ?_;refine aam (S:=Nat) (fun k=>k<=bZ.length/\bG (bZ.take k)<=4096) (fun k=>⟨aX [(1,.d (.ip [.sl none NN,.sl none RR])),(5,.ref 25 0 0),(113,.d (.sl none PT)),(114,int PT.length),(115,int k)],ZX [(25,.box 48 [.d (.sl none NN),.d (.sl none RR),int (bG (bZ.take k)),int ((2 ^ m:Nat):Int),.d (.sl (some false) []),.d (.sl none PT),.d (.sl none IN)])]⟩) (fun k=>bZ.length - k) 0 ?_ ⟨by omega,by rw [List.take_zero];decide⟩ ?_
     .refine aU (Aq fw (Aq @bG.eq_1 @bG.eq_2))
     .rintro k ⟨ie,yy⟩;have hq:=CO k;have jB:=gv k;have YH:=ll
      have HE:k=bZ.length->bG (bZ.take bZ.length)=bG (bZ.take k):=fun e=>by rw [e]
      generalize hQ:bG (bZ.take k)=Q at hq jB yy HE ⊢;refine ZW fw [1,5,113,114,115,116] [25] ?_;refine ae fun kb aaA=>?_;by_cases ax:k < bZ.length
      .have aaq:k < PT.length:=by omega
       have jy:(k:Int) < (PT.length:Int):=by omega
       refine ak (by simp<;>omega) ?_;refine ah (aaA _ ?_);refine ae fun nT iW=>?_;refine aR ?_;have fI:=hq ax;have jZ:=jW _ (List.getElem_mem ax);have hx8:=yC _ (List.getElem_mem ax)
       have hPk:PT[k]=[.v (.int .i64 bZ[k].nm),.v (.int .i64 bZ[k].most),.v (.bool bZ[k].far)]:=by
        have:=BM k ax;rw [List.getElem?_eq_getElem aaq] at this;exact Option.some.inj this
       generalize bZ[k]=x at hPk fI jZ hx8;obtain ⟨xi,M,fa⟩:=x;dsimp only at hPk fI jZ hx8;have vc:0 < Q * M:=Int.mul_pos jB (by omega);have Yk:=Int.mul_le_mul yy hx8 (by omega) (by decide);have qf:=(Aq fw (Aq @aaq @hPk));refine al [1,5,12,113,114,115] [25,12] ?_;refine ck fw 12 ?_;refine j8 (ZZ _) (by kernel_rfl) [(3,25),(5,999),(9,25)] [1,5,113,114,115] [25] (fun _ _=>trivial) (by kernel_rfl) fun K' af=>?_;(repeat (refine fz fun K2 aa=>?_;simp [ab,vc];(repeat (refine ⟨by omega,?_⟩));refine aa _ ?_;clear aa K2));refine gO (af _ ?_);refine AW.st (by simp [ab,vc];rfl) ?_;clear af K';by_cases yq:Q * M > 4096
       .have qf:=(Aq fw @yq);refine al [1,5,113,114,115,132] [25] ?_;refine ak (by simp<;>omega) ?_;refine ZW fw [2,3] [25] ?_;exact aK fw
       .have qf:=(Aq fw @yq);refine al [1,5,113,114,115,132] [25] ?_;refine ag (by simp<;>omega) ?_;refine ah (iW _ ?_);refine reQ fw ?_;(try simp only [aM,aP]);refine aV.mk (k+1) ⟨by omega,by rw [fI];omega⟩ (by omega) ?_;rw [fI];refine aU fw
      .have:=HE (by omega);omega
theorem Uf (G:ao) (p:aF) (aY:aar p=none) (hk:∀ r∈p.ZY,j9 r) (h:iL p=true):aw Tryz.prog G 15 [dw p] (.Z4 [.v (.pointer none),.br 40 (.v (.int .i64 4))]):=by
 by_cases h6:6 < (aZ p).length
 .exact Ug G p aY hk h6
 .refine Ue G p aY hk (by omega) ?_;unfold iL at h;rw [decide_eq_false h6,Bool.or_false] at h;exact of_decide_eq_true h
theorem zL {p:aF} (h:iL p=false):bG (bw p)<=4096/\(aZ p).length<=6:=by
 unfold iL at h;simp at h;exact h
theorem Uo {p:aF} {most:Int} (h:iL p=false) (h2:pX p most=false):bG (bw p)<=most/\(aZ p).length<=4:=by
 unfold pX at h2;rw [h] at h2;simp at h2;exact h2
set_option maxRecDepth 100000 in
set_option maxHeartbeats 16000000 in
theorem TZ (G:ao) (hF:ql G) (hM:abJ G) (hP:nS G) (hG:mf G) {es er:Value} (hE:o4 G es er) (nd:xm G) (ng:xn G) (t:Tx):aw Tryz.prog G 3 [dS t] (.v (.bool true)):=by
 have hb:=MH G hF hM hP hG hE nd ng t;have B2:=Mw G hG 4;have e4:po 4=some (4,none):=rfl;rw [e4] at B2;simp only [Z5,ab] at B2
 cases np:wY t with
 | none=>
  rw [np] at hb;simp only [adO,Bf,Bg,dS] at hb;simp only [dS];refine aw.aD (ZZ _) Tryz.func3 rfl rfl (rs:=[.tmp 2]) Tryz.results3 (by simp [Tryz.ntmps3]) fun X=>?_;simp only [Tryz.ntmps3,List.map];have fw:=@ab.eq_1;refine ZW fw [0] [] ?_;refine Z6 fw hb [3,4,5] [3,4] ?_;refine ae fun K1 ay=>?_;refine ZW fw [3,4,19] [3,4] ?_;refine ak rfl ?_;refine ZW fw [2] [] ?_;exact aK fw
 | some p=>
  rw [np] at hb;obtain ⟨aY,hk⟩:=U5 (VI np);have dI:=On G hM p aY hk 60;have ja:=fun (h:iL p=false)=>Ud G p aY hk (zL h).2 (zL h).1;have jV:=fun (h:iL p=false)=>XW G hM p aY hk (zL h).2 (zL h).1;have b8:=fun (h:iL p=true)=>Uf G p aY hk h;have eA:=fun (h1:iL p=false) (h2:pX p 60=false)=>Uo h1 h2
  have rf:=fun (h1:iL p=false) (h2:pX p 60=false)=>Sz G (abT p) (abT p) (by rw [DT];have:=eA h1 h2;omega) (fun r hr=>by
   obtain ⟨s,hs,rfl⟩:=List.mem_iff_getElem.1 hr;rw [I5 hs,zS];have h3:=Nat.pow_le_pow_right (n:=2) (by omega) (eA h1 h2).2
   omega)
  have iY:acK (abT p) = .sl none (nxD (abT p)):=rfl
  have vU:(abT p == abT p)=true:=by simp
  rw [iY,vU] at rf;clear eA iY vU;simp only [adO,dw,cPg,cN,cPw,bR,dW,dS,ab] at hb dI;simp only [dw,cPg,cN,cPw,bR,dW,Bd,AY,Be,AZ,pc,gE] at ja jV b8;simp only [dS];generalize nxD (abT p)=NX at *;generalize bG (bw p)=S at *;generalize ((2 ^ (aZ p).length:Nat):Int)=NI at *;generalize ((aZ p).map fun n=>[D.v (.int .i64 n)])=IN at *;generalize (bw p).map cPa=PT at *;generalize p.names.map Z3=NN at *;generalize p.ZY.map cg=RR at *;generalize p.ZY.map cZ=RW at *
  cases h2:pX p 60 with
  | true=>
   rw [h2] at dI;generalize iL p=rb at *;refine aw.aD (ZZ _) Tryz.func3 rfl rfl (rs:=[.tmp 2]) Tryz.results3 (by simp [Tryz.ntmps3]) fun X=>?_;simp only [Tryz.ntmps3,List.map];have fw:=@ab.eq_1;refine ZW fw [0] [] ?_;refine Z6 fw hb [3,4,5] [3,4] ?_;refine ae fun K1 ay=>?_;refine ZW fw [3,4,19] [3,4] ?_;refine ag rfl ?_;refine ah (ay _ ?_);refine ck fw 3 ?_;refine ck fw 4 ?_;refine Z6 fw dI [3,4,6,7] [] ?_;refine ae fun K2 aa=>?_;refine ZW fw [3,4,6,25] [] ?_;refine ak rfl ?_;refine ZW fw [2] [] ?_;exact aK fw
  | false=>
   rw [h2] at dI
   cases h1:iL p with
   | true=>
    rw [h1] at dI;have b8:=b8 h1;refine aw.aD (ZZ _) Tryz.func3 rfl rfl (rs:=[.tmp 2]) Tryz.results3 (by simp [Tryz.ntmps3]) fun X=>?_;simp only [Tryz.ntmps3,List.map];have fw:=@ab.eq_1;refine ZW fw [0] [] ?_;refine Z6 fw hb [3,4,5] [3,4] ?_;refine ae fun K1 ay=>?_;refine ZW fw [3,4,19] [3,4] ?_;refine ag rfl ?_;refine ah (ay _ ?_);refine ck fw 3 ?_;refine ck fw 4 ?_;refine Z6 fw dI [3,4,6,7] [] ?_;refine ae fun K2 aa=>?_;refine ZW fw [3,4,6,25] [] ?_;refine ag rfl ?_;refine ah (aa _ ?_);refine Z6 fw b8 [4,6,8,9] [] ?_;refine ae fun K3 aQ=>?_;refine ZW fw [4,8,9,31] [] ?_;refine ak rfl ?_;refine Z6 fw B2 [2] [] ?_;exact aK fw
   | false=>
    rw [h1] at dI;have ja:=ja h1;have jV:=jV h1;have rf:=rf h1 h2;refine aw.aD (ZZ _) Tryz.func3 rfl rfl (rs:=[.tmp 2]) Tryz.results3 (by simp [Tryz.ntmps3]) fun X=>?_;simp only [Tryz.ntmps3,List.map];have fw:=@ab.eq_1;refine ZW fw [0] [] ?_;refine Z6 fw hb [3,4,5] [3,4] ?_;refine ae fun K1 ay=>?_;refine ZW fw [3,4,19] [3,4] ?_;refine ag rfl ?_;refine ah (ay _ ?_);refine ck fw 3 ?_;refine ck fw 4 ?_;refine Z6 fw dI [3,4,6,7] [] ?_;refine ae fun K2 aa=>?_;refine ZW fw [3,4,6,25] [] ?_;refine ag rfl ?_;refine ah (aa _ ?_);refine Z6 fw ja [4,6,8,9] [] ?_;refine ae fun K3 aQ=>?_;refine ZW fw [4,8,9,31] [] ?_;refine ag rfl ?_;refine ah (aQ _ ?_);refine Z6 fw jV [8,9,10] [] ?_;refine zI fw rf [2] [] ?_;exact aK fw
open Go.ChangeAt Go.ChangeShapes Go.RowKit Go.WideShapes
theorem RY:ownKnob Tryz.prog.godebug=none:=by kernel_rfl
theorem RX:laidOutB Tryz.prog=true:=by kernel_rfl
theorem MR:Tryz.prog.cellsOf 3=1:=by kernel_rfl
section
variable {H:Type} {enc:TypeId×Value->H} {w:World} {base:Nat} {spare:Nat->Bool} {held:Bool} {X:Nat->Prop}
end
end Go.Proofs.YtdigkhaofjmgkaaGreatDoor
