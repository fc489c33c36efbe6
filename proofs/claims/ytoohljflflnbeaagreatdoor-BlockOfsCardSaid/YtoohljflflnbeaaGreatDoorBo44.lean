/- Parts. -/
import Derived.Test.YtoohljflflnbeaaGreatDoorBo43
import Derived.Maps.RangeRun
set_option linter.unusedSectionVars false
set_option linter.unusedSimpArgs false
set_option linter.unusedVariables false
set_option maxHeartbeats 64000000
set_option maxRecDepth 100000
open Go.Proofs.Tryz
namespace Go.Av
open Go.ChangeMaps (setBlock)
section
variable {P:Program} {T:Ty} {Mv X:Nat->Prop} {G:aC} {N:Fr} {w:World} {μ:Mu} {a:Act} {σ:St}
def zz:Op->Bool
 | .range _ _=>true
 | .next _ false=>true
 | .entry _=>true
 | _=>false
def EM (T:Ty) (t:TypeId):Bool:=match T t with
 | some tt=>match tt.desc with
  | .map _ _=>true
  | _=>false
 | none=>false
def Kg (T:Ty) (G:aC) (t:TypeId) (x:Operand) (d:Nat) (σ:St) (K:St->Prop):Prop:=match bF G σ.env x with
 | some (.d (.dm _ ents))=>EM T t=true/\σ.H d=none/\∀ es:List (Value×Value),es.Perm ents->K ⟨gI σ.env d (.ref d 0 0),aX σ.H d (.it es [])⟩
 | _=>False
def JH (G:aC) (x:Operand) (d:Nat) (σ:St) (K:St->Prop):Prop:=match bF G σ.env x with
 | some (.ref r 0 0)=>match σ.H r with
  | some (.it ents seen)=>((∀ j,j < ents.length->j∈seen)->K ⟨gI σ.env d (.d (.bx [.v (.bool false)])),σ.H⟩)/\
   ∀ j (hj:j < ents.length),j ∉ seen->K ⟨gI σ.env d (.d (.bx [.v (.bool true),.v ents[j].1,.v ents[j].2])),aX σ.H r (.it ents (seen ++ [j]))⟩
  | _=>False
 | _=>False
def GV (G:aC) (x:Operand) (d:Nat) (σ:St) (K:St->Prop):Prop:=match bF G σ.env x with
 | some (.ref r 0 0)=>match σ.H r with
  | some (.it ents seen)=>∃ s j,∃ hj:j < ents.length,seen=s ++ [j]/\K ⟨gI σ.env d (.d (.bx [.v ents[j].1,.v ents[j].2])),σ.H⟩
  | _=>False
 | _=>False
def xG (T:Ty) (G:aC) (o:Oper) (σ:St) (K:St->Prop):Prop:=match o.op,o.dst with
 | .range t x,some d=>Kg T G t x d σ K
 | .next x false,some d=>JH G x d σ K
 | .entry x,some d=>GV G x d σ K
 | _,_=>False
theorem RV.QA {u:Value} {r:Nat} (h:RV w X μ u (.ref r 0 0)):∃ m b,μ r=some m/\m.fo=some b/\u = .pointer (some ⟨b,0,none⟩):=by
 generalize hy:AV.ref r 0 0=y at h
 cases h with
 | ref hm hb=>cases hy;exact⟨_,_,hm,hb,ak⟩
 | _=>cases hy
theorem eF.OT {H:Heap} (hs:eF w X μ H) {r:Nat} {ents:List (Value×Value)} {seen:List Nat} (hH:H r=some (.it ents seen)) {m:jo} {b:Nat} (hm:μ r=some m) (hb:m.fo=some b) :
  ∃ bm,w.heap[b]? = some (.mapIter (some bm) ents.length seen.toArray ents.length)/\w.heap[bm]? = some (.map (jL ents) ents.length)/\RD w (XX X μ) (.map (some bm)) (.dm true ents):=by
 obtain⟨m',cH,ok⟩:=hs.rows r _ hH;rw[hm]at cH;obtain rfl:=AI cH
 cases ok with
 | it bk hh hr=>
  rename_i b' bm;rw[hb]at bk;obtain rfl:=AI bk;refine⟨bm,hh,?_,hr⟩;generalize hy:D.dm true ents=y at hr
  cases hr with
  | dm hX ND hp hx=>cases hy;rw[hx rfl]at ND;exact ND
  | _=>cases hy
theorem Ps {ents:List (Value×Value)} {e:MapEntry} (h:e∈(jL ents).toList):∃ j,∃ hj:j < ents.length,e = { key:=ents[j].1,val:=ents[j].2,born:=j }:=by
 obtain⟨j,hj,rfl⟩:=agG.1 h
 have eN:j < ents.length:=by simpa[qg]using hj
 have h1:=zI eN
 have h2:j < (jL ents).size:=by rw[qg];exact eN
 rw[agL h2]at h1;exact⟨j,eN,by simpa using AI h1⟩
theorem Pr {ents:List (Value×Value)} {j:Nat} (hj:j < ents.length):({ key:=ents[j].1,val:=ents[j].2,born:=j }:MapEntry)∈(jL ents).toList:=by
 have h1:=zI hj
 have h2:j < (jL ents).size:=by rw[qg];exact hj
 rw[agL h2]at h1;rw[<- AI h1];simp
theorem abt (ents:List (Value×Value)):((jL ents).toList.map (·.born)).Nodup:=by
 have:(jL ents).toList.map (·.born)=List.range ents.length:=by
  refine List.ext_getElem (by simp[qg]) fun i h1 h2=>?_
  have hi:i < ents.length:=by simpa using h2
  have h3:=zI hi
  have h4:i < (jL ents).size:=by rw[qg];exact hi
  rw[agL h4]at h3;simp[AI h3]
 rw[this];exact List.nodup_range
theorem aam (hg:Good P T) (hi:In w X G μ N a σ) {o:Oper} {K:St->Prop} (hd:∀ d,o.dst=some d->d < N.n) (h:xG T G o σ K) {Q:Exit->Act->World->Prop} {next:Act->World->Prop}
  (hk:∀ w' aH a' aJ,K aJ->In w' X G aH N a' aJ->Ev Mv w μ w' aH->next a' w'):o.wpIn (wd N.ro) 0 P a w next Q:=by
 obtain⟨dst,op,type,pos,after,guard⟩:=o;unfold xG at h;dsimp only at h hd;split at h
 .-- range
  rename_i t x d;unfold Kg at h;split at h
  .rename_i Wv hx;obtain⟨u9,hn,hK⟩:=h;refine Ad (fun c e=>by cases e) ?_;have hv:=hi.eval hx;have BZ:=hv.data
   obtain⟨bm,ents,xp,Bi,Ey,BZ⟩:∃ bm es,a.eval x = .map (some bm)/\w.heap[bm]? = some (.map (jL es) es.length)/\es.Perm Wv/\RD w (XX X μ) (a.eval x) (.dm true es):=by
    generalize a.eval x=u at BZ
    cases BZ with
    | dm hX hh hp hx=>exact⟨_,_,rfl,hh,hp,.dm hX hh (List.Perm.refl _) fun _=>rfl⟩
   have hK:=hK ents Ey
   obtain⟨kt,et,hu⟩:∃ kt et,P.underlying t=some (.map kt et):=by
    unfold EM at u9;split at u9
    .rename_i tt cL;split at u9
     .rename_i kt et Ys;exact⟨kt,et,by rw[<- Ys];exact (hg _ _ cL).1⟩
     .cases u9
    .cases u9
   have dV:=run_range_map w t kt et bm (jL ents) ents.length hu Bi;unfold Oper.wp
   have hex:(execOp a.eval (⟨some d,.range t x,type,pos,after,guard⟩:Oper)).run P w = .ok (.value (.pointer (some ⟨w.heap.size,0,none⟩))) (w.alloc (.mapIter (some bm) ents.length #[] ents.length)):=by
    simp[execOp,xp,dV]
   rw[hex]
   have mB:(w.alloc (.mapIter (some bm) ents.length #[] ents.length)).heap[w.heap.size]? = some (.mapIter (some bm) ents.length #[] ents.length):=by rw[<- World.alloc_eq];simp
   obtain⟨aS,bp⟩:=hi.alloc (Mv:=Mv) hn (cR.alloc w (.mapIter (some bm) ents.length #[] ents.length)) (m:=⟨some w.heap.size,1,0⟩) (fun b hb=>by simp at hb;omega) (row:=.it ents []) fun ev=>.it rfl mB (by rw[xp]at BZ;exact BZ.ev ev)
   have im:RV (w.alloc (.mapIter (some bm) ents.length #[] ents.length)) X (eB μ d ⟨some w.heap.size,1,0⟩) (.pointer (some ⟨w.heap.size,0,none⟩)) (.ref d 0 0):=by
    have:=RV.ref (w:=w.alloc (.mapIter (some bm) ents.length #[] ents.length)) (X:=X) (μ:=eB μ d ⟨some w.heap.size,1,0⟩) (r:=d) (e:=0) (j:=0) (b:=w.heap.size) (m:=⟨some w.heap.size,1,0⟩) (by simp[eB]) rfl;simpa using this
   exact hk _ _ _ _ hK (aS.put im (dst:=some d) hd) bp
  .exact h.elim
 .-- next
  rename_i x d;unfold JH at h;split at h
  .rename_i r hx;split at h
   .rename_i ents seen hH;obtain⟨h0,h1⟩:=h;refine Ad (fun c e=>by cases e) ?_;obtain⟨m,b,hm,hb,xp⟩:=(hi.eval hx).QA;obtain⟨bm,hit,Bi,cf⟩:=hi.bu.OT hH hm hb
    have hold:∀ x∈(jL ents).toList,x.born < ents.length:=fun x hx=>by
     obtain⟨j,hj,rfl⟩:=Ps hx;exact hj
    unfold Oper.wp
    rcases run_next_at (P:=P) w type b bm ents.length ents.length seen.toArray (jL ents) ents.length hit Bi hold (agD _) with⟨hz,dV⟩ | ⟨e,he,w1,jK,dV⟩
    .have hex:(execOp a.eval (⟨some d,.next x false,type,pos,after,guard⟩:Oper)).run P w = .ok (.value (.tuple #[.bool false])) w:=by
      simp[execOp,xp,dV]
     rw[hex]
     have dy:∀ j,j < ents.length->j∈seen:=fun j hj=>by
      apply ahb;intro jd
      have ng:({ key:=ents[j].1,val:=ents[j].2,born:=j }:MapEntry)∈(leftOf (jL ents) seen.toArray).toList:=by
       unfold leftOf;rw[Array.toList_filter,List.mem_filter];exact⟨Pr hj,by simpa using jd⟩
      have:0 < (leftOf (jL ents) seen.toArray).size:=by
       have:=List.length_pos_of_mem ng;simpa using this
      omega
     refine hk _ μ _ _ (h0 dy) (hi.put (.d (.bx rfl fun j u c hu hc=>?_)) (dst:=some d) hd) (.refl _ w μ)
     match j,hu,hc with
     | 0,hu,hc=>simp at hu hc;subst hu hc;exact .v _
     | j+1,hu,hc=>simp at hu
    .obtain⟨he1,lJ⟩:=mem_left he;obtain⟨j,hj,rfl⟩:=Ps he1
     have jd:j ∉ seen:=by simpa using lJ
     have hex:(execOp a.eval (⟨some d,.next x false,type,pos,after,guard⟩:Oper)).run P w = .ok (.value (.tuple #[.bool true,ents[j].1,ents[j].2])) (setBlock w1 b (.mapIter (some bm) ents.length (seen.toArray.push j) ents.length)):=by
      simp[execOp,xp,dV]
     rw[hex]
     have fC:cR w w1:=by
      rcases jK with rfl | rfl
      .exact cR.refl _
      .exact cR.drew w
     have YO:w1.heap=w.heap:=by rcases jK with rfl | rfl<;>rfl
     obtain⟨fJ,rj⟩:=hi.qA (Mv:=Mv) fC
     have aG:b < w1.heap.size:=by rw[YO];exact (agx.1 hit).1
     obtain⟨aS,bp⟩:=fJ.write (Mv:=Mv) (w':=setBlock w1 b (.mapIter (some bm) ents.length (seen.toArray.push j) ents.length)) hm hb (by simp[setBlock]) rfl rfl rfl (fun k hk=>by simp[setBlock,ahJ (ahD hk)]) (row:=.it ents (seen ++ [j])) fun ev=>.it hb (by simp[setBlock,aG]) ((cf.ev rj).ev ev);refine hk _ μ _ _ (h1 j hj jd) (aS.put (.d (.bx rfl fun i u c hu hc=>?_)) (dst:=some d) hd) (rj.trans bp)
     match i,hu,hc with
     | 0,hu,hc=>simp at hu hc;subst hu hc;exact .v _
     | 1,hu,hc=>simp at hu hc;subst hu hc;exact .v _
     | 2,hu,hc=>simp at hu hc;subst hu hc;exact .v _
     | i+3,hu,hc=>simp at hu
   .exact h.elim
  .exact h.elim
 .-- entry
  rename_i x d;unfold GV at h;split at h
  .rename_i r hx;split at h
   .rename_i ents seen hH;obtain⟨s,j,hj,rfl,hK⟩:=h;refine Ad (fun c e=>by cases e) ?_;obtain⟨m,b,hm,hb,xp⟩:=(hi.eval hx).QA;obtain⟨bm,hit,Bi,cf⟩:=hi.bu.OT hH hm hb
    have YU:w.heap[b]? = some (.mapIter (some bm) ents.length (s.toArray.push ({ key:=ents[j].1,val:=ents[j].2,born:=j }:MapEntry).born) ents.length):=by
     rw[hit];simp
    have dV:=run_entry_at (P:=P) w b bm ents.length s.toArray (jL ents) ents.length _ YU Bi (Pr hj) (abt ents);unfold Oper.wp
    have hex:(execOp a.eval (⟨some d,.entry x,type,pos,after,guard⟩:Oper)).run P w = .ok (.value (.tuple #[ents[j].1,ents[j].2])) w:=by
     simp[execOp,xp,dV]
    rw[hex];refine hk _ μ _ _ hK (hi.put (.d (.bx rfl fun i u c hu hc=>?_)) (dst:=some d) hd) (.refl _ w μ)
    match i,hu,hc with
    | 0,hu,hc=>simp at hu hc;subst hu hc;exact .v _
    | 1,hu,hc=>simp at hu hc;subst hu hc;exact .v _
    | i+2,hu,hc=>simp at hu
   .exact h.elim
  .exact h.elim
 .exact h.elim
def og (P:Program) (T:Ty) (Mv X:Nat->Prop) (G:aC) (N:Fr) (ops:Array Oper) (K:St->Prop):List Oper->St->Prop
 | [],σ=>K σ
 | o :: rest,σ=>gP N o/\match jM ops σ.env o with
  | some b=>if b=true then (if zz o.op=true then xG T G o σ (og P T Mv X G N ops K rest) else wA P T Mv X G N o σ (og P T Mv X G N ops K rest)) else og P T Mv X G N ops K rest ⟨aR σ.env o.dst dN,σ.H⟩
  | none=>False
theorem ad5 (hg:Good P T) {ops:Array Oper} {Q:Exit->St->Prop} {w0:World} {om:Mu}:∀ (l:List Oper) (k:Nat) (w:World) (μ:Mu) (a:Act) (σ:St),(∀ j,l[j]? = ops[k+j]?)->og P T Mv X G N ops (fun aJ=>Q .normal aJ) l σ->In w X G μ N a σ->Ev Mv w0 om w μ->
  wpOpsIn (wd N.ro) 0 P ops (After Mv X G N w0 om Q) (List.range' k l.length) a w:=by
 intro l
 induction l with
 | nil=>intro k w μ a σ _ h hi bp;exact⟨μ,σ,h,hi,bp⟩
 | cons o l ih=>
  intro k w μ a σ hl h hi bp
  have h0:ops[k]? = some o:=by simpa using (hl 0).symm
  have gr:∀ j,l[j]? = ops[k+1+j]?:=fun j=>by have:=hl (j+1);simpa[ahs,ah9 1 j]using this
  obtain⟨hd,h⟩:=h
  have jI:∀ d,o.dst=some d->d < N.n:=fun d e=>by unfold gP at hd;rw[e]at hd;exact hd
  rw[agS,List.range'_succ];simp only[wpOpsIn,h0];split at h
  .rename_i b hb;rw[x8 hi hb];split at h
   .rename_i tH;subst tH;rw[if_pos rfl];split at h
    .exact aam hg hi jI h fun w' aH a' aJ k' aS p0=>ih (k+1) w' aH a' aJ gr k' aS (bp.trans p0)
    .exact (Mx hg hi jI h fun w' aH a' aJ k' aS p0=>ih (k+1) w' aH a' aJ gr k' aS (bp.trans p0))
   .rename_i pd;rw[if_neg (by simpa using pd)];exact⟨fun _ _=>trivial,ih (k+1) w μ _ _ gr h (hi.put (.d (.v _)) jI) bp⟩
  .exact h.elim
theorem SF (hg:Good P T) {id:Nat} {ops:Array Oper} {Q:Exit->St->Prop} (h:og P T Mv X G N ops (fun aJ=>Q .normal aJ) ops.toList σ):AW P Mv X G N (.region id ops false) Q σ:=fun w μ a hi=>by
 refine wpIn_region ?_;have:=ad5 hg ops.toList 0 w μ a σ ak h hi (.refl _ w μ)
 rwa [<- List.range_eq_range',ahk]at this
theorem yf (hg:Good P T) (l ns:List Nat) (hM:∀ r,ns.contains r=false->Mv r) {id:Nat} {ops:Array Oper} {y:Code} {Q:Exit->St->Prop} (h:∀ K:St->Prop,(∀ τ:St,AW P Mv X G N y Q (τ.norm l ns)->K τ)->og P T Mv X G N ops K ops.toList σ):AW P Mv X G N (.seq (.region id ops false) y) Q σ:=
 sN (SF hg (h _ fun _ h=>h.norm l ns hM))
def RJ (P:Program) (T:Ty) (Mv X:Nat->Prop) (G:aC) (N:Fr) (ops:Array Oper) (o:Oper) (σ:St) (K:St->Prop):Prop:=gP N o/\match jM ops σ.env o with
 | some b=>if b=true then (if zz o.op=true then xG T G o σ K else wA P T Mv X G N o σ K) else K ⟨aR σ.env o.dst dN,σ.H⟩
 | none=>False
theorem vI {ops:Array Oper} {K:St->Prop} {o:Oper} {l:List Oper} (h:∀ K':St->Prop,(∀ τ,og P T Mv X G N ops K l τ->K' τ)->RJ P T Mv X G N ops o σ K'):og P T Mv X G N ops K (o :: l) σ:=h _ fun _ h=>h
theorem vJ {ops:Array Oper} {K:St->Prop} (h:K σ):og P T Mv X G N ops K [] σ:=h
theorem RQ {ops:Array Oper} {K:St->Prop} {o:Oper} {l:List Oper} {t:TypeId} {x:Operand} {d:Nat} {ents:List (Value×Value)} (ho:o.op = .range t x) (wO:o.dst=some d) (hd:gP N o) (hg:jM ops σ.env o=some true) {y:Bool} (hx:bF G σ.env x=some (.d (.dm y ents))) (ht:EM T t=true) (hH:σ.H d=none)
  (h:∀ es:List (Value×Value),es.Perm ents->og P T Mv X G N ops K l ⟨gI σ.env d (.ref d 0 0),aX σ.H d (.it es [])⟩):og P T Mv X G N ops K (o :: l) σ:=by
 refine⟨hd,?_⟩;rw[hg];simp only[if_true,ho,zz];unfold xG Kg;simp only[ho,wO,hx];exact⟨ht,hH,h⟩
theorem RO {ops:Array Oper} {K:St->Prop} {o:Oper} {l:List Oper} {x:Operand} {d r:Nat} {ents:List (Value×Value)} {seen:List Nat} (ho:o.op = .next x false) (wO:o.dst=some d) (hd:gP N o) (hg:jM ops σ.env o=some true) (hx:bF G σ.env x=some (.ref r 0 0)) (hH:σ.H r=some (.it ents seen))
  (h0:(∀ j,j < ents.length->j∈seen)->og P T Mv X G N ops K l ⟨gI σ.env d (.d (.bx [.v (.bool false)])),σ.H⟩)
  (h1:∀ j (hj:j < ents.length),j ∉ seen->og P T Mv X G N ops K l ⟨gI σ.env d (.d (.bx [.v (.bool true),.v ents[j].1,.v ents[j].2])),aX σ.H r (.it ents (seen ++ [j]))⟩):og P T Mv X G N ops K (o :: l) σ:=by
 refine⟨hd,?_⟩;rw[hg];simp only[if_true,ho,zz];unfold xG JH;simp only[ho,wO,hx,hH];exact⟨h0,h1⟩
theorem RN {ops:Array Oper} {K:St->Prop} {o:Oper} {l:List Oper} {x:Operand} {d r:Nat} {ents:List (Value×Value)} {seen:List Nat} {j:Nat} (ho:o.op = .entry x) (wO:o.dst=some d) (hd:gP N o) (hg:jM ops σ.env o=some true) (hx:bF G σ.env x=some (.ref r 0 0)) (hH:σ.H r=some (.it ents (seen ++ [j]))) (hj:j < ents.length)
  (h:og P T Mv X G N ops K l ⟨gI σ.env d (.d (.bx [.v ents[j].1,.v ents[j].2])),σ.H⟩):og P T Mv X G N ops K (o :: l) σ:=by
 refine⟨hd,?_⟩;rw[hg];simp only[if_true,ho,zz];unfold xG GV;simp only[ho,wO,hx,hH];exact⟨seen,j,hj,rfl,h⟩
end
attribute [simp] RJ zz EM nF
end Go.Av
namespace Go.Proofs.YtoohljflflnbeaaGreatDoor
open Go.Av
structure j4 (L:List (Value×Value)):Prop where
 str:∀ p∈L,∃ s:ByteArray,p.1 = .string s
 once:(L.map (·.1)).Nodup
def dL (L:List (Value×Value)) (s:ByteArray):Option Value:=(L.find? fun p=>iG (.string s) p.1).map (·.2)
def cY (L:List (Value×Value)) (s:ByteArray) (x:Value):List (Value×Value):=match L.findIdx? fun p=>iG (.string s) p.1 with
 | some j=>L.set j (.string s,x)
 | none=>L ++ [(.string s,x)]
theorem Jc (s:ByteArray) (k:Value):iG (.string s) k=true↔k = .string s:=by
 cases k with
 | string s'=>
  constructor
  .intro h;exact I9 (d:=.string) rfl rfl h
  .intro h;obtain⟨r,h1,h2⟩:=MapKept.sameNow_of_keys (xI (d:=.string) (v:=.string s) rfl) (xI (d:=.string) (v:=.string s') rfl);rw[Kn (d:=.string) rfl rfl]at h1;rw[AI h1];exact h2.2 (by first | exact h.symm | exact h)
 | _=>exact⟨fun h=>(by cases h),fun h=>(by cases h)⟩
theorem EZ (s:ByteArray):iG (.string s) (.string s)=true:=(Jc s _).2 rfl
theorem EY {s:ByteArray} {k:Value} (h:k≠.string s):iG (.string s) k=false:=by
 cases hk:iG (.string s) k with
 | false=>rfl
 | true=>exact absurd ((Jc s k).1 hk) h
theorem zE (x:Value) (L:List (Value×Value)) (s:ByteArray):dL ((.string s,x) :: L) s=some x:=by
 unfold dL;rw[List.find?_cons];simp only[EZ];rfl
theorem xL {k:Value} (x:Value) (L:List (Value×Value)) {s:ByteArray} (h:k≠.string s):dL ((k,x) :: L) s=dL L s:=by
 unfold dL;rw[List.find?_cons];simp only[EY h]
theorem KC {s s':ByteArray} (h:s'≠s):Value.string s≠Value.string s':=fun e=>h (by injection e with e;exact e.symm)
theorem Jt:j4 []:=⟨ak,ak⟩
theorem Po {p:Value×Value} {L:List (Value×Value)} (h:j4 (p :: L)):j4 L:=⟨fun q hq=>h.str q (by simp[hq]),(ahn.1 h.once).2⟩
theorem Kb (s:ByteArray) (x:Value):cY [] s x=[(.string s,x)]:=rfl
theorem Fv (y:Value) (L:List (Value×Value)) (s:ByteArray) (x:Value):cY ((.string s,y) :: L) s x=(.string s,x) :: L:=by
 unfold cY;rw[ahQ];simp only[EZ,if_true];rfl
theorem Fw {k:Value} (y:Value) (L:List (Value×Value)) {s:ByteArray} (x:Value) (h:k≠.string s):cY ((k,y) :: L) s x=(k,y) :: cY L s x:=by
 unfold cY;rw[ahQ];simp only[EY h,agE,if_false]
 cases L.findIdx? fun p=>iG (.string s) p.1 with
 | none=>rfl
 | some j=>rfl
theorem qM (s s':ByteArray) (x:Value):∀ L:List (Value×Value),dL (cY L s x) s'=if s'=s then some x else dL L s'
 | []=>by
  rw[Kb];by_cases h:s'=s
  .subst h;rw[zE,if_pos rfl]
  .rw[xL _ _ (KC h),if_neg h]
 | (k,y) :: L=>by
  by_cases hk:k = .string s
  .subst hk;rw[Fv];by_cases h:s'=s
   .subst h;rw[zE,if_pos rfl]
   .rw[xL _ _ (KC h),xL _ _ (KC h),if_neg h]
  .rw[Fw _ _ _ hk];by_cases gh:k = .string s'
   .subst gh;rw[zE,zE,if_neg (fun e=>hk (by rw[e]))]
   .rw[xL _ _ gh,xL _ _ gh,qM s s' x L]
theorem Qs (s:ByteArray) (x:Value):∀ {L:List (Value×Value)} {k:Value},k∈(cY L s x).map (·.1)->k = .string s\/k∈L.map (·.1)
 | [],k,h=>by rw[Kb]at h;simp at h;exact .inl h
 | (k0,y) :: L,k,h=>by
  by_cases hk:k0 = .string s
  .subst hk;rw[Fv]at h;simp only[agW,agK]at h ⊢
   rcases h with h | h
   .exact .inl h
   .exact .inr (.inr h)
  .rw[Fw _ _ _ hk]at h;simp only[agW,agK]at h ⊢
   rcases h with h | h
   .exact .inr (.inl h)
   .rcases Qs s x h with h | h
    .exact .inl h
    .exact .inr (.inr h)
theorem zG (s:ByteArray) (x:Value):∀ {L:List (Value×Value)},j4 L->j4 (cY L s x)
 | [],_=>by rw[Kb];exact⟨ak,ak⟩
 | (k,y) :: L,h=>by
  have ih:=zG s x (Po h);by_cases hk:k = .string s
  .subst hk;rw[Fv]
   exact⟨fun p hp=>by
    rcases agK.1 hp with rfl | hp
    .exact⟨s,rfl⟩
    .exact h.str p (by simp[hp]),by simpa using h.once⟩
  .rw[Fw _ _ _ hk];refine⟨fun p hp=>?_,?_⟩
   .rcases agK.1 hp with rfl | hp
    .exact h.str _ ak
    .exact ih.str p hp
   .rw[agW,ahn];refine⟨fun hm=>?_,ih.once⟩
    rcases Qs s x hm with e | e
    .exact hk e
    .exact (ahn.1 h.once).1 e
theorem Ca:∀ {L:List (Value×Value)},j4 L->∀ {j:Nat} (hj:j < L.length) {s:ByteArray},L[j].1 = .string s->dL L s=some L[j].2
 | (k,y) :: L,h,0,_,s,he=>by
  have:k = .string s:=he;subst this;exact zE _ _ _
 | (k,y) :: L,h,j+1,hj,s,he=>by
  have eN:j < L.length:=by simpa using hj
  have bl:k≠.string s:=fun e=>(ahn.1 h.once).1 (by
   show k∈_;have jT:L[j].1 = .string s:=he;rw[e,<- jT]
   exact ag3.2 ⟨L[j],OF eN,rfl⟩)
  rw[xL _ _ bl];exact Ca (Po h) eN he
theorem Ph {L:List (Value×Value)} {s:ByteArray} {v:Value} (h:dL L s=some v):∃ j,∃ hj:j < L.length,L[j].1 = .string s/\L[j].2=v:=by
 unfold dL at h;obtain⟨p,hp,rfl⟩:=AS.1 h;have h1:=List.find?_some hp;obtain⟨j,hj,rfl⟩:=agG.1 (List.mem_of_find?_eq_some hp);exact⟨j,hj,(Jc s _).1 h1,rfl⟩
structure vT (E:List (Value×Value)) (seen:List Nat) (L:List (Value×Value)):Prop where
 ok:j4 L
 have':∀ j∈seen,∀ hj:j < E.length,∀ s,E[j].1 = .string s->dL L s=some E[j].2
 only:∀ s v,dL L s=some v->∃ j,∃ hj:j < E.length,j∈seen/\E[j].1 = .string s
theorem L6 (E:List (Value×Value)):vT E [] []:=⟨Jt,ak,fun s v h=>by cases h⟩
theorem L0 {E:List (Value×Value)} (hE:j4 E) {seen:List Nat} {L:List (Value×Value)} (h:vT E seen L) {j:Nat} (hj:j < E.length) {s:ByteArray} (hs:E[j].1 = .string s):vT E (seen ++ [j]) (cY L s E[j].2):=by
 refine⟨zG s _ h.ok,fun i hi dD s' p5=>?_,fun s' v hv=>?_⟩
 .rw[qM];by_cases e:s'=s
  .subst e;rw[if_pos rfl];have h1:=Ca hE hj hs;have h2:=Ca hE dD p5;rw[<- h1,h2]
  .rw[if_neg e]
   rcases agN.1 hi with hi | hi
   .exact h.have' i hi dD s' p5
   .obtain rfl:i=j:=by simpa using hi
    rw[hs]at p5;injection p5 with p5;exact absurd p5.symm e
 .rw[qM]at hv;by_cases e:s'=s
  .subst e;exact⟨j,hj,ak,hs⟩
  .rw[if_neg e]at hv;obtain⟨i,hi,h1,h2⟩:=h.only s' v hv;exact⟨i,hi,by simp[h1],h2⟩
theorem VY {E:List (Value×Value)} (hE:j4 E) {seen:List Nat} {L:List (Value×Value)} (h:vT E seen L) (dy:∀ j,j < E.length->j∈seen) (s:ByteArray):dL L s=dL E s:=by
 cases he:dL E s with
 | some v=>
  obtain⟨j,hj,h1,h2⟩:=Ph he;rw[h.have' j (dy j hj) hj s h1,h2]
 | none=>
  cases hl:dL L s with
  | none=>rfl
  | some v=>
   obtain⟨j,hj,_,h1⟩:=h.only s v hl;rw[Ca hE hj h1]at he;cases he
theorem s9 (s:ByteArray):∀ L:List (Value×Value),j7 (.string s) (dt L)=(dL L s).map .v
 | []=>rfl
 | (k,x) :: L=>by
  have ih:=s9 s L;by_cases hk:k = .string s
  .subst hk;rw[zE];show ((List.find? _ ((Value.string s,D.v x) :: dt L)).map _)=_;rw[List.find?_cons];simp only[EZ];rfl
  .rw[xL _ _ hk,<- ih];show ((List.find? _ ((k,D.v x) :: dt L)).map _)=_;rw[List.find?_cons];simp only[EY hk];rfl
theorem eO (s:ByteArray) (x:Value):∀ L:List (Value×Value),td (.string s) (.v x) (dt L)=dt (cY L s x)
 | []=>rfl
 | (k,y) :: L=>by
  have ih:=eO s x L;by_cases hk:k = .string s
  .subst hk;rw[Fv];show (match List.findIdx? _ ((Value.string s,D.v y) :: dt L)with | some j=>_ | none=>_)=_;rw[ahQ];simp only[EZ,if_true];rfl
  .rw[Fw _ _ _ hk];unfold td at ih;unfold td;show (match List.findIdx? _ ((k,D.v y) :: dt L)with | some j=>_ | none=>_)=(k,D.v y) :: dt (cY L s x);rw[ahQ,<- ih];simp only[EY hk,agE,if_false]
   cases List.findIdx? (fun p=>iG (.string s) p.1) (dt L) with
   | none=>rfl
   | some j=>rfl
theorem qp:∀ L:List (Value×Value),nF (dt L)=some L
 | []=>rfl
 | (k,x) :: L=>by
  show (nF (dt L)).map _=_;rw[qp L];rfl
theorem nY {L:List (Value×Value)} (h:j4 L):∀ p∈dt L,kg .string p.1=true:=fun p hp=>by
 obtain⟨q,hq,rfl⟩:=ag3.1 hp;obtain⟨s,hs⟩:=h.str q hq;show kg .string q.1=true;rw[hs];rfl
def yp:Option Value->Bool
 | some (.bool b)=>b
 | _=>false
def nX:Option Value->Int
 | some (.int _ n)=>n
 | _=>0
structure gT (p:aP) (s:cK) (I C:List (Value×Value)):Prop where
 kp:j4 I
 fQ:j4 C
 bI:∀ k v,dL I k=some v->∃ b,v = .bool b
 iC:∀ k v,dL C k=some v->∃ n,v = .int .i64 n
 is:∀ i (hi:i < p.names.length),yp (dL I (bs p.names[i].name))=s.is.getD i false
 ct:∀ i (hi:i < p.names.length),nX (dL C (bs p.names[i].name))=s.ct.getD i 0
theorem Vr {a b:Tx} (h:bs a=bs b):a=b:=by
 have:=congrArg (fun x:ByteArray=>x.data.toList) h;simpa[bs]using this
theorem PC {p:aP} (hg:j2 p) {i k:Nat} (hi:i < p.names.length) (hk:k < p.names.length) (h:bs p.names[k].name=bs p.names[i].name):k=i:=by
 have h1:=hg.num i hi;have h2:=hg.num k hk;rw[Vr h]at h2;rw[h1]at h2;omega
theorem acY {p:aP}:gT p (jZ p) [] []:=by
 refine⟨Jt,Jt,fun k v h=>(by cases h),fun k v h=>(by cases h),fun i hi=>?_,fun i hi=>?_⟩
 .show false=(List.replicate _ false).getD i false;rw[wB]
 .show (0:Int)=(List.replicate _ (0:Int)).getD i 0;rw[wB]
theorem vC {p:aP} (hg:j2 p) {s:cK} {I C:List (Value×Value)} (h:gT p s I C) (hl:s.is.length=p.names.length) {i:Nat} (hi:i < p.names.length) (b:Bool):gT p ⟨s.is.set i b,s.ct⟩ (cY I (bs p.names[i].name) (.bool b)) C:=by
 refine⟨zG _ _ h.kp,h.fQ,fun k v hv=>?_,h.iC,fun k hk=>?_,h.ct⟩
 .rw[qM]at hv;split at hv
  .exact⟨b,(AI hv).symm⟩
  .exact h.bI k v hv
 .rw[qM];show _=(s.is.set i b).getD k false;by_cases e:k=i
  .subst e;rw[if_pos rfl,nJ aa];rfl
  .rw[if_neg (fun e2=>e (PC hg hi hk e2)),jQ (fun e2=>e e2.symm)];exact h.is k hk
theorem FB {p:aP} (hg:j2 p) {s:cK} {I C:List (Value×Value)} (h:gT p s I C) (hl:s.ct.length=p.names.length) {i:Nat} (hi:i < p.names.length) (n:Int):gT p ⟨s.is,s.ct.set i n⟩ I (cY C (bs p.names[i].name) (.int .i64 n)):=by
 refine⟨h.kp,zG _ _ h.fQ,h.bI,fun k v hv=>?_,h.is,fun k hk=>?_⟩
 .rw[qM]at hv;split at hv
  .exact⟨n,(AI hv).symm⟩
  .exact h.iC k v hv
 .rw[qM];show _=(s.ct.set i n).getD k 0;by_cases e:k=i
  .subst e;rw[if_pos rfl,nJ aa];rfl
  .rw[if_neg (fun e2=>e (PC hg hi hk e2)),jQ (fun e2=>e e2.symm)];exact h.ct k hk
theorem acX {p:aP} {s:cK} {I C I2 C2:List (Value×Value)} (h:gT p s I C) (h1:j4 I2) (h2:j4 C2) (h3:∀ k,dL I2 k=dL I k) (h4:∀ k,dL C2 k=dL C k):gT p s I2 C2:=
 ⟨h1,h2,fun k v hv=>h.bI k v (by rw[<- h3];exact hv),fun k v hv=>h.iC k v (by rw[<- h4];exact hv),fun i hi=>by rw[h3];exact h.is i hi,fun i hi=>by rw[h4];exact h.ct i hi⟩
theorem QB {p:aP} {s:cK} {I C:List (Value×Value)} (h:gT p s I C) (nm:Tx) (hn:¬ bH p nm < 0):yp (dL I (bs nm))=gA p s.is nm:=by
 obtain⟨k,hk,he,hs⟩:=uh hn
 have p5:p.names[k].name=nm:=by simpa using hs
 have jT:bH p nm=k:=he;unfold gA;rw[jT,agO,<- h.is k hk,p5]
theorem aiE:type_of% (Aq @aio (Aq @aip @aiq)):=(Aq @aio (Aq @aip @aiq))
theorem acF (G:aC) {p:aP} {s:cK} {I C:List (Value×Value)} (h:gT p s I C):qn (fun nm=>¬ bH p nm < 0) G 190 [.ip [.dm false I,.dm false C]] (gA p s.is):=by
 intro nm hn;rw[<- QB h nm hn];have hg:=s9 (bs nm) I;have hb:=h.bI (bs nm);have fM:=nY h.kp;simp at fM;have bC:=eq_true fM;have pq:=h.kp.once;simp only[dS];generalize bs nm=k at *
 cases hl:dL I k with
 | none=>
  rw[hl]at hg;simp only[Option.map_none]at hg;refine aD.aQ (aB _) func190 rfl rfl (rs:=[.tmp 3]) results190 (by simp[ntmps190]) fun X=>?_;simp only[ntmps190,List.map];refine aq [0,1] [] ?_;have qf:=(Aq @bC (Aq @pq (Aq @hg aiE)));refine ay [3] [] ?_;refine bR ?_;simp[D.le,D.le.go,aL,yp]
 | some v=>
  obtain⟨b,rfl⟩:=hb v hl;rw[hl]at hg;simp only[ag1]at hg;refine aD.aQ (aB _) func190 rfl rfl (rs:=[.tmp 3]) results190 (by simp[ntmps190]) fun X=>?_;simp only[ntmps190,List.map];refine aq [0,1] [] ?_;have qf:=(Aq @bC (Aq @pq (Aq @hg aiE)));refine ay [3] [] ?_;refine bR ?_;simp[D.le,D.le.go,aL,yp]
theorem acG (G:aC) {p:aP} {s:cK} {I C:List (Value×Value)} (h:gT p s I C):qn (fun nm=>¬ bH p nm < 0) G 191 [.ip [.dm false I,.dm false C]] (gA p s.is):=by
 intro nm hn;rw[<- QB h nm hn];have hg:=s9 (bs nm) I;have hb:=h.bI (bs nm);have fM:=nY h.kp;simp at fM;have bC:=eq_true fM;have pq:=h.kp.once;simp only[dS];generalize bs nm=k at *
 cases hl:dL I k with
 | none=>
  rw[hl]at hg;simp only[Option.map_none]at hg;refine aD.aQ (aB _) func191 rfl rfl (rs:=[.tmp 3]) results191 (by simp[ntmps191]) fun X=>?_;simp only[ntmps191,List.map];refine aq [0,1] [] ?_;have qf:=(Aq @bC (Aq @pq (Aq @hg aiE)));refine ay [3] [] ?_;refine bR ?_;simp[D.le,D.le.go,aL,yp]
 | some v=>
  obtain⟨b,rfl⟩:=hb v hl;rw[hl]at hg;simp only[ag1]at hg;refine aD.aQ (aB _) func191 rfl rfl (rs:=[.tmp 3]) results191 (by simp[ntmps191]) fun X=>?_;simp only[ntmps191,List.map];refine aq [0,1] [] ?_;have qf:=(Aq @bC (Aq @pq (Aq @hg aiE)));refine ay [3] [] ?_;refine bR ?_;simp[D.le,D.le.go,aL,yp]
theorem Kj (G:aC):MC prog G [] 189 [] (aw []) (.agg [.mp 601,.mp 602]) (aw [(601,.mp 201 []),(602,.mp 217 [])]):=by
 refine MC.aQ (aB _) func189 rfl rfl (rs:=[.cell 0 219]) results189 (by simp[ntmps189]) rfl fun X=>?_;simp only[ntmps189];refine aq [0] [0] ?_;refine aq [0] [0,1,2] ?_;refine AW.imp (aK.dM (r:=1) (r':=601) bO ak) ?_;refine AW.st (by simp[gR,gQ,Go.Av.dM,qS];rfl) ?_;refine AW.imp (aK.dM (r:=2) (r':=602) bO ak) ?_;refine AW.st (by simp[gR,gQ,Go.Av.dM,qS];rfl) ?_;exact gw
def xM (p:aP) (cC:List Bool) (I:List (Value×Value)):Nat->List (Value×Value)
 | 0=>I
 | k+1=>cY (xM p cC I k) (bs (p.names.getD ((aY p).getD k 0).toNat ⟨[],0,0⟩).name) (.bool (cC.getD k false))
abbrev nE:=List (Value×Value)×List (Value×Value)
def vq (p:aP) (yes:Bool) (r:iL) (m:nE):nE:=
 let k:=bs r.name
 let top:=(p.names.getD (bH p r.name).toNat ⟨[],0,0⟩).count
 if r.kind=1 then (cY m.1 k (.bool yes),m.2)
 else if r.kind=2 then (if yes then cY m.1 k (.bool true) else m.1,m.2)
 else if r.kind=3 then (if yes then cY m.1 k (.bool false) else m.1,m.2)
 else if r.kind=6 then (if yes then (cY m.1 k (.bool false),cY m.2 k (.int .i64 0)) else m)
 else
  let c:=nX (dL m.2 k)
  let C1:=if yes then (if c < top then cY m.2 k (.int .i64 (c+1)) else m.2) else (if r.kind=4 then cY m.2 k (.int .i64 0) else m.2)
  (cY m.1 k (.bool (nX (dL C1 k) == top)),C1)
def vr (p:aP) (fz t:cK):List iL->nE->nE
 | [],m=>m
 | r :: l,m=>vr p fz (mb p fz t r) l (vq p (rZ (gA p t.is) (gA p fz.is) r.cond) r m)
def xN (p:aP) (s:cK) (cC:List Bool) (m:nE):nE:=vr p s ⟨nr (aY p) cC s.is (aY p).length,s.ct⟩ p.ax (xM p cC m.1 (aY p).length,m.2)
theorem Pt (p:aP) (fz:cK):∀ (l:List iL) (t:cK) (m:nE) (n:Nat) (h:n < l.length),vr p fz t (l.take (n+1)) m=vq p (rZ (gA p ((l.take n).foldl (mb p fz) t).is) (gA p fz.is) l[n].cond) l[n] (vr p fz t (l.take n) m)
 | r :: l,t,m,0,_=>rfl
 | r :: l,t,m,n+1,h=>by
  have:=Pt p fz l (mb p fz t r) (vq p (rZ (gA p t.is) (gA p fz.is) r.cond) r m) n (by simpa using h);simp only[List.take_succ_cons,vr,List.foldl_cons,List.getElem_cons_succ];exact this
theorem JB {p:aP} (hg:j2 p) {s:cK} (hs:fU p s) (cC:List Bool) {I C:List (Value×Value)} (h:gT p s I C):∀ k,k<=(aY p).length->gT p ⟨nr (aY p) cC s.is k,s.ct⟩ (xM p cC I k) C
 | 0,_=>h
 | k+1,hk=>by
  have ih:=JB hg hs cC h k aa;obtain⟨i,hi,he,_⟩:=zy (p:=p) (j:=k) aa
  have e1:(aY p).getD k 0=(i:Int):=by rw[gV aa];exact he
  have e2:p.names.getD i ⟨[],0,0⟩=p.names[i]:=gV hi;rw[xM,e1,agO,e2,Ka aa he];exact vC hg ih (xW cC hs k aa).1.l1 hi _
theorem Kr {α:Type} {l:List α} {i:Nat} {d x:α} (hi:i < l.length) (h:l.getD i d=x):l.set i x=l:=by
 rw[gV hi]at h;rw[<- h,List.set_getElem_self]
theorem abw {p:aP} (aZ:dr p=none) {r:iL} (hr:r∈p.ax) (fz:cK) {t:cK} (ht:fU p t) {m:nE} (h:gT p t m.1 m.2):gT p (mb p fz t r) (vq p (rZ (gA p t.is) (gA p fz.is) r.cond) r m).1 (vq p (rZ (gA p t.is) (gA p fz.is) r.cond) r m).2:=by
 have hg:=iB aZ;obtain⟨i,hi,hn,hw,hd⟩:=FI aZ hr;obtain⟨hk,lh,_⟩:=we aZ r hr;obtain⟨i2,fZ,lJ,dW⟩:=uh lh
 have fy:r.name=p.names[i].name:=by
  have h1:bH p r.name=(i2:Int):=lJ
  have:i2=i:=aa
  subst this
  have:p.names[i2].name=r.name:=by simpa using dW
  exact this.symm
 have ig:=ht.l1;have gC:=ht.l2;have w8:=ht.lo i;have za:=ht.hi i hi;have YT:=h.is i hi;have Eh:=h.ct i hi;have nd:=hg.count _ (OF hi);unfold vq mb;simp only[hn,agO,hd];generalize rZ (gA p t.is) (gA p fz.is) r.cond=yes;obtain⟨kd,nm,cd⟩:=r;dsimp only at fy hk hw hn ⊢;subst fy;clear lh lJ dW hr hn;obtain⟨is,ct⟩:=t;obtain⟨I,C⟩:=m;dsimp only at YT Eh ig gC w8 za h ⊢
 have fJ:i < is.length:=aa
 have fZ:i < ct.length:=aa
 generalize hv:ct.getD i 0=v at *;have Oh:ct.set i v=ct:=Kr fZ hv
 have put:∀ n,nX (dL (cY C (bs p.names[i].name) (.int .i64 n)) (bs p.names[i].name))=n:=fun n=>by rw[qM,if_pos rfl];rfl
 have fin:∀ (c:Int) (C1:List (Value×Value)),gT p ⟨is,ct.set i c⟩ I C1->nX (dL C1 (bs p.names[i].name))=c->∀ b,(c == p.names[i].count)=b->gT p ⟨is.set i b,ct.set i c⟩ (cY I (bs p.names[i].name) (.bool (nX (dL C1 (bs p.names[i].name)) == p.names[i].count))) C1:=fun c C1 h1 h2 b h3=>by
  rw[h2,h3];exact vC (s:=⟨is,ct.set i c⟩) hg h1 ig hi b
 have Bu:kd=1\/kd=2\/kd=3\/kd=4\/kd=5\/kd=6:=aa
 have run:(kd=4\/kd=5)->∀ C1,C1=(if yes then (if nX (dL C (bs p.names[i].name)) < p.names[i].count then cY C (bs p.names[i].name) (.int .i64 (nX (dL C (bs p.names[i].name))+1)) else C) else C)->gT p (iJ ⟨is,ct⟩ i p.names[i].count yes) (cY I (bs p.names[i].name) (.bool (nX (dL C1 (bs p.names[i].name)) == p.names[i].count))) C1:=fun ga C1 uV=>by
  have iq:1<=p.names[i].count:=by
   have:p.names[i].kind=3\/p.names[i].kind=4:=by
    rcases ga with rfl | rfl
    .exact .inl hw
    .exact .inr hw
   omega
  rw[Eh]at uV;unfold iJ;simp only[hv]
  cases yes with
  | true=>
   simp only[if_true]at uV ⊢;by_cases aG:v < p.names[i].count
   .rw[if_pos aG]at uV
    have e:(if v+1 < p.names[i].count then v+1 else p.names[i].count)=v+1:=by split<;>omega
    rw[e,uV];refine fin (v+1) _ (FB hg h gC hi _) (put _) _ ?_;exact Bool.eq_iff_iff.2 (by simp;omega)
   .rw[if_neg aG]at uV
    have e:(if v+1 < p.names[i].count then v+1 else p.names[i].count)=v:=by split<;>omega
    rw[e,uV];refine fin v C (by rw[Oh];exact h) Eh _ ?_;exact Bool.eq_iff_iff.2 (by simp;omega)
  | false=>
   simp only[agE,if_false]at uV ⊢;rw[uV];refine fin v C (by rw[Oh];exact h) Eh _ ?_;exact Bool.eq_iff_iff.2 (by simp;omega)
 rcases Bu with rfl | rfl | rfl | rfl | rfl | rfl
 .exact vC hg h ig hi yes
 .cases yes with
  | true=>
   show gT p ⟨is.set i (is.getD i false || true),ct⟩ (cY I _ (.bool true)) C;rw[Bool.or_true];exact vC hg h ig hi true
  | false=>
   show gT p ⟨is.set i (is.getD i false || false),ct⟩ I C;rw[Bool.or_false,Kr fJ rfl];exact h
 .cases yes with
  | true=>
   show gT p ⟨is.set i (is.getD i false && !true),ct⟩ (cY I _ (.bool false)) C;rw[Bool.not_true,Bool.and_false];exact vC hg h ig hi false
  | false=>
   show gT p ⟨is.set i (is.getD i false && !false),ct⟩ I C;rw[ahw,Bool.and_true,Kr fJ rfl];exact h
 .cases yes with
  | true=>exact run (.inl rfl) _ rfl
  | false=>
   show gT p (sL (iJ ⟨is,ct⟩ i p.names[i].count false) i) (cY I _ (.bool (nX (dL (cY C _ (.int .i64 0)) _) == p.names[i].count))) (cY C _ (.int .i64 0))
   have iq:1<=p.names[i].count:=by
    have:p.names[i].kind=3:=hw;omega
   have e:sL (iJ ⟨is,ct⟩ i p.names[i].count false) i=⟨is.set i false,ct.set i 0⟩:=by
    simp[sL,iJ,List.set_set]
   rw[e];refine fin 0 _ (FB hg h gC hi _) (put _) false ?_;simp;omega
 .cases yes with
  | true=>exact run (.inr rfl) _ rfl
  | false=>exact run (.inr rfl) _ rfl
 .cases yes with
  | true=>exact FB (s:=⟨is.set i false,ct⟩) hg (vC hg h ig hi false) gC hi 0
  | false=>exact h
theorem JC {p:aP} (aZ:dr p=none) (fz:cK):∀ (l:List iL) {t:cK} {m:nE},(∀ r∈l,r∈p.ax)->fU p t->gT p t m.1 m.2->gT p (l.foldl (mb p fz) t) (vr p fz t l m).1 (vr p fz t l m).2
 | [],t,m,_,_,h=>h
 | r :: l,t,m,hl,ht,h=>JC aZ fz l (fun r hr=>hl r (by simp[hr])) (Rk aZ (hl r ak) fz ht).1 (abw aZ (hl r ak) fz ht h)
theorem Pw {p:aP} (aZ:dr p=none) {s:cK} (hs:fU p s) (cC:List Bool) {m:nE} (h:gT p s m.1 m.2):gT p (lW p s cC) (xN p s cC m).1 (xN p s cC m).2:=
 JC aZ s p.ax (fun r hr=>hr) (xW cC hs _ (agD _)).1 (JB (iB aZ) hs cC h _ (agD _))
theorem SX (y:Int):(qq .and .i64 y 1 == 1)=decide (y % 2=1):=by
 unfold qq;dsimp only
 have h2:(BitVec.ofInt 64 (1:Int)).toNat=1:=bO
 have h3:(BitVec.ofInt IntKind.i64.bits y &&& BitVec.ofInt IntKind.i64.bits (1:Int)).toNat=(y % 2).toNat:=by
  show (BitVec.ofInt 64 y &&& BitVec.ofInt 64 (1:Int)).toNat=(y % 2).toNat
  rw[BitVec.toNat_and,h2,Nat.and_one_is_mod,BitVec.toNat_ofInt];omega
 rw[h3]
 have:y % 2=0\/y % 2=1:=aa
 rcases this with h | h<;>rw[h]<;>decide
theorem OG (x:Int) {k:Nat} (hk:k<=6):xE x k=decide ((x / 2 ^ k) % 2=1):=by
 unfold xE
 have e:min k IntKind.i64.bits=k:=by
  have:IntKind.i64.bits=64:=rfl;rw[this];omega
 rw[e,Int.fdiv_eq_ediv_of_nonneg _ (by exact ahW (Int.pow_pos bO)),SX]
theorem Np (x:Int) (k:Nat):x / 2 ^ (k+1)=x / 2 ^ k / 2:=by
 rw[Int.pow_succ,Int.ediv_ediv_of_nonneg (by exact ahW (Int.pow_pos bO))]
def Ci (p:aP) (x:Int×nE) (nm:gz):Int×nE:=if cZ p nm=0 then x else
 (x.1 / cZ p nm,if 3<=nm.kind then (cY x.2.1 (bs nm.name) (.bool (decide (x.1 % cZ p nm=nm.count))),cY x.2.2 (bs nm.name) (.int .i64 (x.1 % cZ p nm))) else (cY x.2.1 (bs nm.name) (.bool (decide (x.1 % cZ p nm=1))),x.2.2))
def ko (p:aP) (n:Int) (k:Nat):Int×nE:=(p.names.take k).foldl (Ci p) (n,([],[]))
theorem Pv (p:aP) (n:Int):ko p n 0=(n,([],[])):=rfl
theorem JD {p:aP} (n:Int) {k:Nat} (h:k < p.names.length):ko p n (k+1)=Ci p (ko p n k) p.names[k]:=by
 unfold ko;rw[agB h,List.foldl_append];rfl
theorem uu {p:aP} (hg:j2 p) {i:Nat} (hi:i < p.names.length):0<=cZ p p.names[i]:=by
 have h5:=hg.count _ (OF hi);unfold cZ;split
 .rcases h5 with h5 | h5<;>omega
 .split
  .omega
  .split<;>omega
theorem E9 {p:aP} (aZ:dr p=none) (n:Int) (h0:0<=n):∀ k,k<=p.names.length->∃ s:cK,s.is.length=p.names.length/\s.ct.length=p.names.length/\gT p s (ko p n k).2.1 (ko p n k).2.2/\nw (jl p k) (ko p n k).1 s=iW p n/\0<=(ko p n k).1/\(ko p n k).1<=n
 | 0,_=>⟨jZ p,by simp[jZ],by simp[jZ],acY,rfl,h0,Int.le_refl _⟩
 | k+1,hk=>by
  have hg:=iB aZ
  have gh:k < p.names.length:=aa
  obtain⟨s,l1,l2,hr,he,b0,b1⟩:=E9 aZ n h0 k aa;rw[JD n gh];rw[adZ hg _ s gh]at he;have zk:=uu hg gh;generalize ko p n k=x at *;obtain⟨m,I,C⟩:=x;dsimp only at hr he b0 b1;unfold Ci;by_cases hz:cZ p p.names[k]=0
  .rw[if_pos hz]at he;simp only[if_pos hz];exact⟨s,l1,l2,hr,he,b0,b1⟩
  .rw[if_neg hz]at he;simp only[if_neg hz];have d0:0<=m / cZ p p.names[k]:=Int.ediv_nonneg b0 zk;have d1:m / cZ p p.names[k]<=m:=Int.ediv_le_self _ b0;by_cases k3:3<=p.names[k].kind
   .simp only[if_pos k3]
    have hpK:cZ p p.names[k]=p.names[k].count+1:=by unfold cZ;rw[if_pos k3]
    have h1:=FB hg hr l2 gh (m % cZ p p.names[k]);have h2:=vC hg h1 l1 gh (decide (m % cZ p p.names[k]=p.names[k].count))
    have e:qQ ⟨k,cZ p p.names[k],decide (3<=p.names[k].kind)⟩ (m % cZ p p.names[k]) s=⟨s.is.set k (decide (m % cZ p p.names[k]=p.names[k].count)),s.ct.set k (m % cZ p p.names[k])⟩:=by
     unfold qQ
     have e2:cZ p p.names[k] - 1=p.names[k].count:=aa
     simp only[decide_eq_true k3,if_true,e2]
    rw[e]at he;exact⟨_,by simp[l1],by simp[l2],h2,he,d0,aa⟩
   .simp only[if_neg k3];have h2:=vC hg hr l1 gh (decide (m % cZ p p.names[k]=1))
    have e:qQ ⟨k,cZ p p.names[k],decide (3<=p.names[k].kind)⟩ (m % cZ p p.names[k]) s=⟨s.is.set k (decide (m % cZ p p.names[k]=1)),s.ct⟩:=by
     unfold qQ;simp only[decide_eq_false k3,agE,if_false]
    rw[e]at he;exact⟨⟨s.is.set k (decide (m % cZ p p.names[k]=1)),s.ct⟩,by simp[l1],l2,h2,he,d0,aa⟩
theorem Pu {p:aP} (aZ:dr p=none) (n:Int) (h0:0<=n):gT p (iW p n) (ko p n p.names.length).2.1 (ko p n p.names.length).2.2:=by
 obtain⟨s,_,_,hr,he,_⟩:=E9 aZ n h0 _ (agD _);rw[Rp]at he;have e:s=iW p n:=he;rw[<- e];exact hr
theorem Kx {p:aP} (aZ:dr p=none) {s:cK} (hs:fU p s) (k:Nat):0<=gF (jl p k) s/\gF (jl p k) s < b6 (bU p):=by
 have hg:=iB aZ;have h:=JO (l:=jl p k) (s:=s) fun _ hx=>Me hs (rM hg (Rq hx))
 have e:b6 (bU p)=b6 ((bU p).take (gm p k).length) * b6 (jl p k):=by
  unfold jl;rw[<- Cz,ah6]
 have h1:0 < b6 ((bU p).take (gm p k).length):=sB fun x hx=>(rM hg (agJ hx)).m2;have h2:0 < b6 (jl p k):=sB fun x hx=>(rM hg (Rq hx)).m2;have h3:=Int.mul_le_mul_of_nonneg_right (show (1:Int)<=b6 ((bU p).take (gm p k).length) by omega) (ahW h2);rw[Int.one_mul]at h3;exact⟨h.1,aa⟩
theorem ae6 {p:aP} (aZ:dr p=none) {s:cK} (hs:fU p s) {i:Nat} (hi:i < p.names.length) (hP:b6 (bU p)<=4096) (hz:cZ p p.names[i]≠0):0<=gF (jl p (i+1)) s * cZ p p.names[i]/\gF (jl p (i+1)) s * cZ p p.names[i]<=4096/\gF (jl p i) s=gF (jl p (i+1)) s * cZ p p.names[i]+(if 3<=p.names[i].kind then s.ct.getD i 0 else if s.is.getD i false then 1 else 0):=by
 have hg:=iB aZ;have h1:=Rr hg s hi;rw[if_neg hz,Int.mul_comm]at h1;have h2:=Kx aZ hs i;have h3:=Kx aZ hs (i+1);have h4:=aie h3.1 (uu hg hi)
 have h5:0<=(if 3<=p.names[i].kind then s.ct.getD i 0 else if s.is.getD i false then 1 else 0):=by
  split
  .exact hs.lo i
  .split<;>omega
 generalize (if 3<=p.names[i].kind then s.ct.getD i 0 else if s.is.getD i false then 1 else 0)=d at *;exact⟨h4,aa,aa⟩
def Co (R:List Nat) (q off n:Nat):AV:=if R.contains q then .dead else .own q off n
def Cn (R:List Nat) (q e j:Nat):AV:=if R.contains q then .dead else .ref q e j
theorem Z8 {Mv X:Nat->Prop} {G:aC} {N:Fr} {σ:St} (R:List Nat) (hm:∀ r,R.contains r=true->Mv r) (i k:Nat) {x:AV} {d:D} (hx:σ.env i=some x) (hd:fL (fe R.contains (fF R) (fE R) σ.H) k (x.tr (fF R) (fE R))=some d):aK Mv X G N σ ⟨gI (me (Co R) (Cn R) σ.env) i (.d d),fe (fP R) (Co R) (Cn R) σ.H⟩:=fun w μ a hi=>by
 have hp:=hi.bu.part R
 have h':=hi.tr (keep:=fP R) (o:=Co R) (f:=Cn R) (fun u r off n h=>by
   unfold Co;split
   .exact .dead u
   .rename_i hk;exact h.Cq (by simpa[fP]using hk)) (fun u r e j h=>by
   unfold Cn;split
   .exact .dead u
   .rename_i hk;exact h.CD (by simpa[fP]using hk))
 obtain⟨u,hu,hr⟩:=hi.env.slot i x hx;have cf:RD w (XX X (cA (fP R) μ)) u d:=Dg hp.1 k hd (hp.2 hr);refine⟨cA (fP R) μ,⟨h'.bu,⟨h'.env.defers,h'.env.size,fun q y hy=>?_⟩,h'.jq⟩,yJ fun r _ _ h=>hm r (by simpa[fP]using h)⟩;by_cases e:q=i
 .subst e
  have e2:some (AV.d d)=some y:=by simpa[gI]using hy
  obtain rfl:=AI e2;exact⟨u,hu,.d cf⟩
 .exact h'.env.slot q y (by simpa[gI,e]using hy)
def uH (p:aP) (st fc:Int) (nx:List (List D)):List D:=[cj p.names,.sl none (p.ax.map eg),.v (.int .i64 st),.v (.int .i64 fc),.sl none nx]
def rh (p:aP) (st fc:Int) (nx:List (List D)):D:=.ip (uH p st fc nx)
def sy (p:aP) (st fc:Int) (nx:List (List D)):List (Nat×Row):=[(12,.box 99 [.d (cj p.names),.d (.sl none (p.ax.map eg)),.d (.v (.int .i64 st)),.d (.v (.int .i64 fc)),.own 800 0 nx.length]),(800,.sl 41 1 nx)]
def uK (m:nE):D:=.agg [.dm false m.1,.dm false m.2]
theorem ae2 (G:aC) (p:aP) (aZ:dr p=none) (st fc:Int) (nx:List (List D)) (x:Int) (h0:0<=x) (h1:x<=2^40) (Ze:(aY p).length<=6):MC prog G [12,800] 120 [.ref 12 0 0,.d (ab x)] (aw (sy p st fc nx)) (.d (iM (de x (aY p).length))) (aw (sy p st fc nx)):=by
 have fy:=(iB aZ).names;have ga:=C4 G p aa 1;have l3:iT p.names 1 p.names.length=aY p:=rfl;rw[l3]at ga;simp only[dU,ft,cj]at ga;simp only[sy,cj,ab,iM]
 have kT:((aY p).map fun n=>[D.v (.int .i64 n)]).length=(aY p).length:=ak
 generalize (aY p).length=m at *;generalize (aY p).map (fun n=>[D.v (.int .i64 n)])=IN at *;generalize p.names.map bo=NN at *;generalize p.ax.map eg=RR at *;refine MC.aQ (aB _) func120 rfl rfl (rs:=[.tmp 4]) results120 (by simp[ntmps120]) rfl fun X=>?_;simp only[ntmps120];have fw:=@aih;refine ae fw [0,1] [12,800] ?_;refine ae fw [0,1,5] [12,800] ?_;refine ag fun K1 aF=>br fw ga [1,5,11,12] [12,800] ?_;refine cy (S:=Nat×Int) (fun s=>s.1<=m/\0<=s.2/\s.2<=2^40/\s.2=x / 2 ^ s.1) (fun s=>⟨bn [(1,int s.2),(5,.own 901 0 s.1),(11,int m),(12,int s.1)],aw [(12,.box 99 [.d (.sl none NN),.d (.sl none RR),.d (.v (.int .i64 st)),.d (.v (.int .i64 fc)),.own 800 0 nx.length]),(800,.sl 41 1 nx),(901,.sl 4 1 ((de x s.1).map fun b=>[.v (.bool b)]))]⟩) (fun s=>m - s.1) (0,x) ?_ ⟨ak,h0,h1,ak⟩ ?_
 .refine (aK.kC 5 901 4 1 rfl rfl).trans ?_;refine bq (Aq fw (Aq @de.eq_1 (Aq @de.eq_2 @kT)))
 .rintro⟨k,v⟩ ⟨w5,hC,iS,hv⟩;dsimp only at w5 hC iS hv ⊢
  have lE:((de x k).map fun b=>[D.v (.bool b)]).length=k:=by simp[ui]
  have rp:de x (k+1)=de x k ++ [decide (v % 2=1)]:=by rw[hv,<- OG x aa];rfl
  generalize kL:de x k=B at lE rp ⊢;refine ae fw [1,5,11,12,13] [12,800,901] ?_;refine ag fun K2 au=>eE (b:=k < m) (by simp[D.le,D.le.go,aL,ab]) (fun hc=>?_) (fun hc=>?_)
  .have jV:v.tmod 2=v % 2:=ahx hC
   have hdiv:IntKind.i64.wrap (v.tdiv 2)=v / 2:=by
    rw[ahy hC];exact vN aa
   refine ar (au _ (ag fun K3 aU=>bd (rg [1,5,11,12] [12,800,901] (eh rfl) fun K' ao=>?_)));(repeat refine aM fun Kq af=>?_;simp[ab,lE,sh,jV];(repeat refine⟨aa,?_⟩);refine af _ ?_);refine bK (ao _ (AW.st (by simp[ab,lE,sh,jV];rfl) ?_));have qf:=(Aq fw @hdiv);refine eJ aU [1,5,11,12] [12,800,901] ?_;refine cE fw ?_;(try simp only[aT,aV]);refine ba.mk (k+1,v / 2) ⟨by dsimp only;omega,by dsimp only;omega,by dsimp only;omega,by dsimp only;rw[Np,<- hv]⟩ (by dsimp only;omega) ?_;rw[rp];refine bq fw
  .obtain rfl:k=m:=aa
   refine bW (aF _ ?_);rw[kL];refine AW.imp (aK.freeze 901 bO) ?_;refine AW.st (by simp[ab,lE,sh];rfl) ?_;refine ae fw [4] [12,800] ?_;exact aW fw
theorem ae7 (G:aC) (hM:j3 G) (p:aP) (aZ:dr p=none) (hk:∀ r∈p.ax,mR r) (st fc:Int) (nx:List (List D)) (s:cK) (hs:fU p s) (hP:b6 (bU p)<=4096) (I C:List (Value×Value)) (hr:gT p s I C):MC prog G [12,800] 188 [.ref 12 0 0,.d (uK (I,C))] (aw (sy p st fc nx)) (.d (ab (gF (bU p) s))) (aw (sy p st fc nx)):=by
 have hg:=iB aZ;have fy:=hg.names;have pt:=CG G hM p aZ hk;simp only[dU,ft,cj,gg]at pt;have kp:=hr.kp;have fQ:=hr.fQ;have fM:=nY kp;simp at fM;have bC:=eq_true fM;have ff:=nY fQ;simp at ff;have df:=eq_true ff;have pA:=kp.once;have pB:=fQ.once
 have kK:∀ i (hi:i < p.names.length),(j7 (.string (bs p.names[i].name)) (dt I)=none/\s.is.getD i false=false)\/j7 (.string (bs p.names[i].name)) (dt I)=some (.v (.bool (s.is.getD i false))):=fun i hi=>by
  rw[s9,<- hr.is i hi]
  cases h:dL I (bs p.names[i].name) with
  | none=>exact .inl ⟨rfl,rfl⟩
  | some v=>obtain⟨b,rfl⟩:=hr.bI _ v h;exact .inr rfl
 have r4:∀ i (hi:i < p.names.length),(j7 (.string (bs p.names[i].name)) (dt C)=none/\s.ct.getD i 0=0)\/j7 (.string (bs p.names[i].name)) (dt C)=some (.v (.int .i64 (s.ct.getD i 0))):=fun i hi=>by
  rw[s9,<- hr.ct i hi]
  cases h:dL C (bs p.names[i].name) with
  | none=>exact .inl ⟨rfl,rfl⟩
  | some v=>obtain⟨b,rfl⟩:=hr.iC _ v h;exact .inr rfl
 have Ix:=fun k=>Kx aZ hs k;have N6:=fun i (hi:i < p.names.length)=>Rr hg s hi;have jd:=fun i (hi:i < p.names.length)=>ae6 aZ hs hi hP
 have eS:(e6 p).length=p.names.length:=by simp[e6]
 have rv:∀ i (hi:i < p.names.length),(e6 p)[i]? = some (cZ p p.names[i]):=fun i hi=>by simp[e6,hi]
 have nW:gF (jl p 0) s=gF (bU p) s:=by rw[adJ]
 have OA:gF (jl p p.names.length) s=0:=by rw[Rp];rfl
 rw[<- nW];clear nW;generalize e6 p=RP at *;obtain⟨V,hV⟩:∃ V:Nat->Int,∀ k,gF (jl p k) s=V k:=⟨_,fun _=>rfl⟩;simp only[hV]at Ix N6 jd OA ⊢;clear hV hr kp fQ fM ff;simp only[sy,cj,ab,uK]
 have tB:(p.names.map bo).length=p.names.length:=ak
 have nK:∀ i (h:i < p.names.length),(p.names.map bo)[i]? = some [.v (.string (bs p.names[i].name)),.v (.int .i64 p.names[i].kind),.v (.int .i64 p.names[i].count)]:=fun i h=>by simp[h,bo,dS]
 generalize p.names.map bo=NN at *;generalize p.ax.map eg=RR at *;refine MC.aQ (aB _) func188 rfl rfl (rs:=[.tmp 4]) results188 (by simp[ntmps188]) rfl fun X=>?_;simp only[ntmps188];have fw:=@aih;refine ae fw [0,3] [12,800,3] ?_;refine dI fw 3 ?_;refine ae fw [0,3,5] [12,800] ?_;refine br fw pt [0,3,5,6] [12,800] ?_;refine ag fun K1 aF=>ae fw [0,3,5,6,7] [12,800] ?_;refine cy (S:=Nat) (fun k=>k<=p.names.length) (fun k=>⟨bn [(0,.ref 12 0 0),(3,.d (.ip [.dm false I,.dm false C])),(5,int (V k)),(6,.d (.sl none (RP.map fun x=>[.v (.int .i64 x)]))),(7,int ((k:Int) - 1))],aw [(12,.box 99 [.d (.sl none NN),.d (.sl none RR),.d (.v (.int .i64 st)),.d (.v (.int .i64 fc)),.own 800 0 nx.length]),(800,.sl 41 1 nx)]⟩) (fun k=>k) p.names.length ?_ (agD _) ?_
 .rw[OA];refine bq (Aq fw @eS)
 .intro k hk;refine ag fun K2 au=>?_;have tW:=Ix k
  cases k with
  | zero=>
   refine ae fw [0,3,5,6,7,18] [12,800] ?_;refine cw ak ?_;refine bW (aF _ (ae fw [4] [12,800] ?_));exact aW fw
  | succ i=>
   have hi:i < p.names.length:=aa
   have ei:((i+1:Nat):Int) - 1=(i:Int):=aa
   rw[ei];refine ae fw [0,3,5,6,7,18] [12,800] ?_;refine cm ak ?_;refine ar (au _ (ag fun K3 aU=>bd ?_))
   have eW:i < NN.length:=aa
   have wF:NN[i]=[.v (.string (bs p.names[i].name)),.v (.int .i64 p.names[i].kind),.v (.int .i64 p.names[i].count)]:=by
    have:=nK i hi;rw[By eW]at this;exact AI this
   have nS:i < RP.length:=aa
   have jw:RP[i]=cZ p p.names[i]:=by
    have:=rv i hi;rw[By nS]at this;exact AI this
   have hz:=N6 i hi;have hn:=jd i hi;have wD:=kK i hi;have Hb:=r4 i hi;generalize bs p.names[i].name=nm at wF wD Hb;generalize p.names[i].kind=kd at wF hz hn;generalize p.names[i].count=ct at wF;generalize cZ p p.names[i]=K at jw hz hn;generalize s.is.getD i false=b at wD hz hn;generalize s.ct.getD i 0=c at Hb hz hn;generalize V (i+1)=v at hz hn tW ⊢;have mF:=Ix i;generalize yZ:V i=vi at hz hn mF;have qf:=(Aq fw (Aq @eW @wF));refine ay [0,3,5,6,7,8] [12,800,8] ?_;refine dI fw 8 ?_;refine ag fun K4 ck=>?_;by_cases oD:K=0
   .rw[if_pos oD]at hz;have qf:=(Aq fw (Aq @nS (Aq @jw @oD)));refine ay [0,3,5,6,7,8,33] [12,800] ?_;refine cm (by simp[oD]) (bW (aU _ ?_));refine cE fw ?_;(try simp only[aT,aV]);refine ba.mk i aa aa ?_;rw[yZ,hz];refine bq fw
   .clear hz;obtain⟨n1,n2,n3⟩:=hn oD;have qf:=(Aq fw (Aq @nS (Aq @jw @oD)));refine ay [0,3,5,6,7,8,33] [12,800] ?_;refine cw (by simp[oD]) (ar (ck _ ?_));have qf:=(Aq fw (Aq @nS @jw));refine ay [0,3,5,6,7,8] [12,800] ?_;generalize v * K=w at n1 n2 n3 ⊢;by_cases k3:kd >= 3
    .rw[if_pos k3]at n3;have qf:=(Aq fw @k3);refine ay [0,3,5,6,7,8,42] [12,800] ?_;refine cm (by simp<;>omega) ?_
     rcases Hb with⟨h2,rfl⟩ | h2
     .have qf:=(Aq fw (Aq @h2 (Aq @bC (Aq @df (Aq @pA (Aq @pB aiE))))));refine eJ aU [0,3,5,6,7] [12,800] ?_;refine cE fw ?_;(try simp only[aT,aV]);refine ba.mk i aa aa ?_;rw[yZ,n3];refine bq fw
     .have qf:=(Aq fw (Aq @h2 (Aq @bC (Aq @df (Aq @pA (Aq @pB aiE))))));refine eJ aU [0,3,5,6,7] [12,800] ?_;refine cE fw ?_;(try simp only[aT,aV]);refine ba.mk i aa aa ?_;rw[yZ,n3];refine bq fw
    .rw[if_neg aa]at n3;have qf:=(Aq fw @k3);refine ay [0,3,5,6,7,8,42] [12,800] ?_;refine cw (by simp<;>omega) ?_;have Xr:∃ ob,j7 (.string nm) (dt I)=ob/\((ob=none/\b=false)\/ob=some (.v (.bool b))):=⟨_,rfl,wD⟩;clear wD;obtain⟨ob,h2,wD⟩:=Xr
     cases b with
     | true=>
      obtain rfl:ob=some (.v (.bool true)):=wD.elim (fun h=>by cases h.2) id;have qf:=(Aq fw (Aq @h2 (Aq @bC (Aq @df (Aq @pA (Aq @pB aiE))))));refine ay [0,3,5,6,7,54] [12,800] ?_;refine aI ?_;rw[if_pos rfl]at n3;refine gH fw aU [0,3,5,6,7] [12,800] ?_;refine cE fw ?_;(try simp only[aT,aV]);refine ba.mk i aa aa ?_;rw[yZ,n3];refine bq fw
     | false=>
      rw[if_neg ak,Int.add_zero]at n3
      rcases wD with⟨rfl,_⟩ | rfl
      .have qf:=(Aq fw (Aq @h2 (Aq @bC (Aq @df (Aq @pA (Aq @pB aiE))))));refine ay [0,3,5,6,7,54] [12,800] ?_;refine al (ar ?_);refine aU _ (AW.norm [0,3,5,6,7] [12,800] (eh rfl) (AW.st (by simp[ab];rfl) ?_));refine cE fw ?_;(try simp only[aT,aV]);refine ba.mk i aa aa ?_;rw[yZ,n3];refine bq fw
      .have qf:=(Aq fw (Aq @h2 (Aq @bC (Aq @df (Aq @pA (Aq @pB aiE))))));refine ay [0,3,5,6,7,54] [12,800] ?_;refine al (ar ?_);refine aU _ (AW.norm [0,3,5,6,7] [12,800] (eh rfl) (AW.st (by simp[ab];rfl) ?_));refine cE fw ?_;(try simp only[aT,aV]);refine ba.mk i aa aa ?_;rw[yZ,n3];refine bq fw
theorem aff (G:aC) (hM:j3 G) (p:aP) (aZ:dr p=none) (hk:∀ r∈p.ax,mR r) (st fc:Int) (nx:List (List D)) (n:Int) (h0:0<=n) (h1:n<=2^40):MC prog G [12,800] 119 [.ref 12 0 0,.d (ab n)] (aw (sy p st fc nx)) (.d (uK (ko p n p.names.length).2)) (aw (sy p st fc nx)):=by
 have hg:=iB aZ;have fy:=hg.names;have dP:=Kj G;have pt:=CG G hM p aZ hk;simp only[dU,ft,cj,gg]at pt;have aS:=fun k (h:k<=p.names.length)=>E9 aZ n h0 k h
 have eS:(e6 p).length=p.names.length:=by simp[e6]
 have rv:∀ i (hi:i < p.names.length),(e6 p)[i]? = some (cZ p p.names[i]):=fun i hi=>by simp[e6,hi]
 have AU:=fun i (hi:i < p.names.length)=>uu hg hi;have dG:=fun k (h:k < p.names.length)=>JD n h;have gv:=Pv p n;generalize e6 p=RP at *;generalize ko p n=T at *;simp only[sy,cj,ab,uK]
 have tB:(p.names.map bo).length=p.names.length:=ak
 have nK:∀ i (h:i < p.names.length),(p.names.map bo)[i]? = some [.v (.string (bs p.names[i].name)),.v (.int .i64 p.names[i].kind),.v (.int .i64 p.names[i].count)]:=fun i h=>by simp[h,bo,dS]
 generalize p.names.map bo=NN at *;generalize p.ax.map eg=RR at *;refine MC.aQ (aB _) func119 rfl rfl (rs:=[.cell 4 219]) results119 (by simp[ntmps119]) rfl fun X=>?_;simp only[ntmps119];have fw:=@aih;refine ae fw [0,1,4] [12,800,4] ?_;refine bD fw dP [0,1,4,5] [12,800,4,5,601,602] ?_;refine ag fun K1 aF=>br fw pt [0,1,4,5,14,15,16] [12,800,4,5,601,602] ?_;refine cy (S:=Nat) (fun k=>k<=p.names.length) (fun k=>⟨bn [(0,.ref 12 0 0),(1,int (T k).1),(4,.ref 4 0 0),(5,.ref 5 0 0),(14,.d (.sl none (RP.map fun x=>[.v (.int .i64 x)]))),(15,int RP.length),(16,int k)],aw [(12,.box 99 [.d (.sl none NN),.d (.sl none RR),.d (.v (.int .i64 st)),.d (.v (.int .i64 fc)),.own 800 0 nx.length]),(800,.sl 41 1 nx),(4,.box 219 [.d (.v (.map none)),.d (.v (.map none))]),(5,.box 219 [.mp 601,.mp 602]),(601,.mp 201 (dt (T k).2.1)),(602,.mp 217 (dt (T k).2.2))]⟩) (fun k=>p.names.length - k) 0 ?_ aa ?_
 .rw[gv];refine aK.fk (eh rfl) (by simp[ab,dt]) (by simp[ab,dt])
 .intro k lL;obtain⟨_,_,_,hrel,_,iD,eM⟩:=aS k lL;have fh:=dG k
  have wJ:k=p.names.length->T p.names.length=T k:=fun e=>by rw[e]
  generalize T k=tk at hrel iD eM fh wJ ⊢;obtain⟨m,I,C⟩:=tk;dsimp only at hrel iD eM ⊢;refine ae fw [0,1,4,5,14,15,16,17] [12,800,4,5,601,602] ?_;refine ag fun K2 au=>?_;by_cases aG:k < p.names.length
  .have nS:k < RP.length:=aa
   refine cm (by simp[nS]) (ar (au _ ?_));refine ag fun K3 aU=>bd ?_;have fh:=fh aG
   have eW:k < NN.length:=aa
   have na:NN[k]=[.v (.string (bs p.names[k].name)),.v (.int .i64 p.names[k].kind),.v (.int .i64 p.names[k].count)]:=by
    have:=nK k aG;rw[By eW]at this;exact AI this
   have gW:RP[k]=cZ p p.names[k]:=by
    have:=rv k aG;rw[By nS]at this;exact AI this
   have oD:=AU k aG;unfold Ci at fh;generalize bs p.names[k].name=nm at na fh;generalize p.names[k].kind=kd at na fh;generalize p.names[k].count=ct at na fh;generalize cZ p p.names[k]=K at gW oD fh;have fM:=nY hrel.kp;simp at fM;have bC:=eq_true fM;have ff:=nY hrel.fQ;simp at ff;have df:=eq_true ff;have qf:=(Aq fw (Aq @nS @gW));refine ay [0,1,4,5,6,7,14,15,16] [12,800,4,5,601,602] ?_;refine ag fun K4 ck=>?_;by_cases ju:K=0
   .rw[if_pos ju]at fh;have qf:=(Aq fw @ju);refine ay [0,1,4,5,6,7,14,15,16,22] [12,800,4,5,601,602] ?_;refine cm (by simp[ju]) (bW (aU _ ?_));refine cE fw ?_;(try simp only[aT,aV]);refine ba.mk (k+1) aa aa ?_;rw[fh];refine bq fw
   .rw[if_neg ju]at fh;dsimp only at fh;have jV:m.tmod K=m % K:=ahx iD;have iP:0<=m / K:=Int.ediv_nonneg iD oD;have rz:m / K<=m:=Int.ediv_le_self _ iD
    have hdiv:IntKind.i64.wrap (m.tdiv K)=m / K:=by
     rw[ahy iD];exact vN aa
    generalize m / K=q at *;generalize m % K=r at *;have qf:=(Aq fw @ju);refine ay [0,1,4,5,6,7,14,15,16,22] [12,800,4,5,601,602] ?_;refine cw (by simp[ju]) (ar (ck _ ?_));have qf:=(Aq fw (Aq @eW @na));refine ay [0,1,4,5,7,8,14,15,16] [12,800,4,5,601,602,8] ?_;refine dI fw 8 ?_;refine ag fun K5 b9=>?_;by_cases k3:kd >= 3
    .rw[if_pos k3]at fh;have qf:=(Aq fw @k3);refine ay [0,1,4,5,7,8,14,15,16,33] [12,800,4,5,601,602] ?_;refine cm (by simp<;>omega) ?_;have qf:=(Aq fw (Aq @ju (Aq @jV (Aq @bC (Aq @df @eO)))));refine iV [0,1,4,5,7,8,14,15,16] [12,800,4,5,601,602] ?_;refine vO (aB _) ah ah fun K' ao=>?_;(repeat refine eK fun Kq af=>?_;simp[ab,ju,jV,bC,df,eO];(repeat refine⟨aa,?_⟩);refine af _ ?_);refine mQ (ao _ ?_);refine b9 _ (AW.norm [0,1,4,5,7,14,15,16] [12,800,4,5,601,602] (eh rfl) (AW.st (by simp[ab,ju,jV,bC,df,eO];rfl) ?_));have qf:=(Aq fw (Aq @ju @hdiv));refine eJ aU [0,1,4,5,14,15,16] [12,800,4,5,601,602] ?_;refine cE fw ?_;(try simp only[aT,aV]);refine ba.mk (k+1) aa aa ?_;rw[fh];refine bq fw
    .rw[if_neg k3]at fh;have qf:=(Aq fw @k3);refine ay [0,1,4,5,7,8,14,15,16,33] [12,800,4,5,601,602] ?_;refine cw (by simp<;>omega) ?_;refine vO (aB _) ah ah fun K' ao=>?_;(repeat refine eK fun Kq af=>?_;simp[ab,ju,jV,bC,df,eO];(repeat refine⟨aa,?_⟩);refine af _ ?_);refine mQ (ao _ ?_);refine b9 _ (AW.norm [0,1,4,5,7,14,15,16] [12,800,4,5,601,602] (eh rfl) (AW.st (by simp[ab,ju,jV,bC,df,eO];rfl) ?_));have qf:=(Aq fw (Aq @ju @hdiv));refine eJ aU [0,1,4,5,14,15,16] [12,800,4,5,601,602] ?_;refine cE fw ?_;(try simp only[aT,aV]);refine ba.mk (k+1) aa aa ?_;rw[fh];refine bq fw
  .obtain rfl:k=p.names.length:=aa
   have Ho:=wJ rfl;refine cw (by simp<;>omega) ?_;refine bW (aF _ (ae fw [4] [12,800,4,601,602] ?_))
   refine AW.imp (Z8 [4,601,602] (fun r h=>by
    have h':r=4\/r=601\/r=602:=by simpa using h
    rcases h' with rfl | rfl | rfl<;>decide) 4 6 (x:=.ref 4 0 0) (d:=.ip [.dm false I,.dm false C]) ak (by simp[qp])) ?_
   refine AW.st (by simp[Co,Cn,fP];rfl) ?_;refine bR ?_;simp[D.le,D.le.go,aL,ab,Ho,qp,D.le_refl,D.bJ]
theorem ae3 (G:aC) (p:aP) (aZ:dr p=none) (st fc:Int) (nx:List (List D)) (x:Int) (h0:0<=x) (h1:x<=2^40) (Ze:(aY p).length<=6):aD prog G 120 [rh p st fc nx,ab x] (iM (de x (aY p).length)):=by
 have fy:=(iB aZ).names;have ga:=C4 G p aa 1;have l3:iT p.names 1 p.names.length=aY p:=rfl;rw[l3]at ga;simp only[dU,ft,cj]at ga;simp only[rh,uH,cj,ab,iM]
 have kT:((aY p).map fun n=>[D.v (.int .i64 n)]).length=(aY p).length:=ak
 generalize (aY p).length=m at *;generalize (aY p).map (fun n=>[D.v (.int .i64 n)])=IN at *;generalize p.names.map bo=NN at *;generalize p.ax.map eg=RR at *;refine aD.aQ (aB _) func120 rfl rfl (rs:=[.tmp 4]) results120 (by simp[ntmps120]) fun X=>?_;simp only[ntmps120,List.map];have fw:=@aih;refine ae fw [0,1] [] ?_;refine ae fw [0,1,5] [] ?_;refine ag fun K1 aF=>br fw ga [1,5,11,12] [] ?_;refine cy (S:=Nat×Int) (fun s=>s.1<=m/\0<=s.2/\s.2<=2^40/\s.2=x / 2 ^ s.1) (fun s=>⟨bn [(1,int s.2),(5,.own 901 0 s.1),(11,int m),(12,int s.1)],aw [(901,.sl 4 1 ((de x s.1).map fun b=>[.v (.bool b)]))]⟩) (fun s=>m - s.1) (0,x) ?_ ⟨ak,h0,h1,ak⟩ ?_
 .refine (aK.kC 5 901 4 1 rfl rfl).trans ?_;refine bq (Aq fw (Aq @de.eq_1 (Aq @de.eq_2 @kT)))
 .rintro⟨k,v⟩ ⟨w5,hC,iS,hv⟩;dsimp only at w5 hC iS hv ⊢
  have lE:((de x k).map fun b=>[D.v (.bool b)]).length=k:=by simp[ui]
  have rp:de x (k+1)=de x k ++ [decide (v % 2=1)]:=by rw[hv,<- OG x aa];rfl
  generalize kL:de x k=B at lE rp ⊢;refine ae fw [1,5,11,12,13] [901] ?_;refine ag fun K2 au=>eE (b:=k < m) (by simp[D.le,D.le.go,aL,ab]) (fun hc=>?_) (fun hc=>?_)
  .have jV:v.tmod 2=v % 2:=ahx hC
   have hdiv:IntKind.i64.wrap (v.tdiv 2)=v / 2:=by
    rw[ahy hC];exact vN aa
   refine ar (au _ (ag fun K3 aU=>bd (rg [1,5,11,12] [901] aN fun K' ao=>?_)));(repeat refine aM fun Kq af=>?_;simp[ab,lE,sh,jV];(repeat refine⟨aa,?_⟩);refine af _ ?_);refine bK (ao _ (AW.st (by simp[ab,lE,sh,jV];rfl) ?_));have qf:=(Aq fw @hdiv);refine eJ aU [1,5,11,12] [901] ?_;refine cE fw ?_;(try simp only[aT,aV]);refine ba.mk (k+1,v / 2) ⟨by dsimp only;omega,by dsimp only;omega,by dsimp only;omega,by dsimp only;rw[Np,<- hv]⟩ (by dsimp only;omega) ?_;rw[rp];refine bq fw
  .obtain rfl:k=m:=aa
   refine bW (aF _ ?_);rw[kL];refine AW.imp (aK.freeze 901 trivial) ?_;refine AW.st (by simp[ab,lE,sh];rfl) ?_;refine ae fw [4] [] ?_;exact aW fw
theorem afg (G:aC) (hM:j3 G) (p:aP) (aZ:dr p=none) (hk:∀ r∈p.ax,mR r) (st fc:Int) (nx:List (List D)) (n:Int) (h0:0<=n) (h1:n<=2^40):aD prog G 119 [rh p st fc nx,ab n] (uK (ko p n p.names.length).2):=by
 have hg:=iB aZ;have fy:=hg.names;have dP:=Kj G;have pt:=CG G hM p aZ hk;simp only[dU,ft,cj,gg]at pt;have aS:=fun k (h:k<=p.names.length)=>E9 aZ n h0 k h
 have eS:(e6 p).length=p.names.length:=by simp[e6]
 have rv:∀ i (hi:i < p.names.length),(e6 p)[i]? = some (cZ p p.names[i]):=fun i hi=>by simp[e6,hi]
 have AU:=fun i (hi:i < p.names.length)=>uu hg hi;have dG:=fun k (h:k < p.names.length)=>JD n h;have gv:=Pv p n;generalize e6 p=RP at *;generalize ko p n=T at *;simp only[rh,uH,cj,ab,uK]
 have tB:(p.names.map bo).length=p.names.length:=ak
 have nK:∀ i (h:i < p.names.length),(p.names.map bo)[i]? = some [.v (.string (bs p.names[i].name)),.v (.int .i64 p.names[i].kind),.v (.int .i64 p.names[i].count)]:=fun i h=>by simp[h,bo,dS]
 generalize p.names.map bo=NN at *;generalize p.ax.map eg=RR at *;refine aD.aQ (aB _) func119 rfl rfl (rs:=[.cell 4 219]) results119 (by simp[ntmps119]) fun X=>?_;simp only[ntmps119,List.map];have fw:=@aih;refine ae fw [0,1,4] [4] ?_;refine bD fw dP [0,1,4,5] [4,5,601,602] ?_;refine ag fun K1 aF=>br fw pt [0,1,4,5,14,15,16] [4,5,601,602] ?_;refine cy (S:=Nat) (fun k=>k<=p.names.length) (fun k=>⟨bn [(0,.d (.ip [.sl none NN,.sl none RR,.v (.int .i64 st),.v (.int .i64 fc),.sl none nx])),(1,int (T k).1),(4,.ref 4 0 0),(5,.ref 5 0 0),(14,.d (.sl none (RP.map fun x=>[.v (.int .i64 x)]))),(15,int RP.length),(16,int k)],aw [(4,.box 219 [.d (.v (.map none)),.d (.v (.map none))]),(5,.box 219 [.mp 601,.mp 602]),(601,.mp 201 (dt (T k).2.1)),(602,.mp 217 (dt (T k).2.2))]⟩) (fun k=>p.names.length - k) 0 ?_ aa ?_
 .rw[gv];refine aK.fk aN (by simp[ab,dt]) (by simp[ab,dt])
 .intro k lL;obtain⟨_,_,_,hrel,_,iD,eM⟩:=aS k lL;have fh:=dG k
  have wJ:k=p.names.length->T p.names.length=T k:=fun e=>by rw[e]
  generalize T k=tk at hrel iD eM fh wJ ⊢;obtain⟨m,I,C⟩:=tk;dsimp only at hrel iD eM ⊢;refine ae fw [0,1,4,5,14,15,16,17] [4,5,601,602] ?_;refine ag fun K2 au=>?_;by_cases aG:k < p.names.length
  .have nS:k < RP.length:=aa
   refine cm (by simp[nS]) (ar (au _ ?_));refine ag fun K3 aU=>bd ?_;have fh:=fh aG
   have eW:k < NN.length:=aa
   have na:NN[k]=[.v (.string (bs p.names[k].name)),.v (.int .i64 p.names[k].kind),.v (.int .i64 p.names[k].count)]:=by
    have:=nK k aG;rw[By eW]at this;exact AI this
   have gW:RP[k]=cZ p p.names[k]:=by
    have:=rv k aG;rw[By nS]at this;exact AI this
   have oD:=AU k aG;unfold Ci at fh;generalize bs p.names[k].name=nm at na fh;generalize p.names[k].kind=kd at na fh;generalize p.names[k].count=ct at na fh;generalize cZ p p.names[k]=K at gW oD fh;have fM:=nY hrel.kp;simp at fM;have bC:=eq_true fM;have ff:=nY hrel.fQ;simp at ff;have df:=eq_true ff;have qf:=(Aq fw (Aq @nS @gW));refine ay [0,1,4,5,6,7,14,15,16] [4,5,601,602] ?_;refine ag fun K4 ck=>?_;by_cases ju:K=0
   .rw[if_pos ju]at fh;have qf:=(Aq fw @ju);refine ay [0,1,4,5,6,7,14,15,16,22] [4,5,601,602] ?_;refine cm (by simp[ju]) (bW (aU _ ?_));refine cE fw ?_;(try simp only[aT,aV]);refine ba.mk (k+1) aa aa ?_;rw[fh];refine bq fw
   .rw[if_neg ju]at fh;dsimp only at fh;have jV:m.tmod K=m % K:=ahx iD;have iP:0<=m / K:=Int.ediv_nonneg iD oD;have rz:m / K<=m:=Int.ediv_le_self _ iD
    have hdiv:IntKind.i64.wrap (m.tdiv K)=m / K:=by
     rw[ahy iD];exact vN aa
    generalize m / K=q at *;generalize m % K=r at *;have qf:=(Aq fw @ju);refine ay [0,1,4,5,6,7,14,15,16,22] [4,5,601,602] ?_;refine cw (by simp[ju]) (ar (ck _ ?_));have qf:=(Aq fw (Aq @eW @na));refine ay [0,1,4,5,7,8,14,15,16] [4,5,601,602,8] ?_;refine dI fw 8 ?_;refine ag fun K5 b9=>?_;by_cases k3:kd >= 3
    .rw[if_pos k3]at fh;have qf:=(Aq fw @k3);refine ay [0,1,4,5,7,8,14,15,16,33] [4,5,601,602] ?_;refine cm (by simp<;>omega) ?_;have qf:=(Aq fw (Aq @ju (Aq @jV (Aq @bC (Aq @df @eO)))));refine iV [0,1,4,5,7,8,14,15,16] [4,5,601,602] ?_;refine vO (aB _) ah ah fun K' ao=>?_;(repeat refine eK fun Kq af=>?_;simp[ab,ju,jV,bC,df,eO];(repeat refine⟨aa,?_⟩);refine af _ ?_);refine mQ (ao _ ?_);refine b9 _ (AW.norm [0,1,4,5,7,14,15,16] [4,5,601,602] aN (AW.st (by simp[ab,ju,jV,bC,df,eO];rfl) ?_));have qf:=(Aq fw (Aq @ju @hdiv));refine eJ aU [0,1,4,5,14,15,16] [4,5,601,602] ?_;refine cE fw ?_;(try simp only[aT,aV]);refine ba.mk (k+1) aa aa ?_;rw[fh];refine bq fw
    .rw[if_neg k3]at fh;have qf:=(Aq fw @k3);refine ay [0,1,4,5,7,8,14,15,16,33] [4,5,601,602] ?_;refine cw (by simp<;>omega) ?_;refine vO (aB _) ah ah fun K' ao=>?_;(repeat refine eK fun Kq af=>?_;simp[ab,ju,jV,bC,df,eO];(repeat refine⟨aa,?_⟩);refine af _ ?_);refine mQ (ao _ ?_);refine b9 _ (AW.norm [0,1,4,5,7,14,15,16] [4,5,601,602] aN (AW.st (by simp[ab,ju,jV,bC,df,eO];rfl) ?_));have qf:=(Aq fw (Aq @ju @hdiv));refine eJ aU [0,1,4,5,14,15,16] [4,5,601,602] ?_;refine cE fw ?_;(try simp only[aT,aV]);refine ba.mk (k+1) aa aa ?_;rw[fh];refine bq fw
  .obtain rfl:k=p.names.length:=aa
   have Ho:=wJ rfl;refine cw (by simp<;>omega) ?_;refine bW (aF _ (ae fw [4] [4,601,602] ?_));refine bR ?_;simp[D.le,D.le.go,aL,ab,Ho,qp,D.le_refl,D.bJ]
theorem afe {V:Nat} (h:V<=6):IntKind.i64.wrap (2 ^ (min V IntKind.i64.bits))=((2^V:Nat):Int):=by
 have:V=0\/V=1\/V=2\/V=3\/V=4\/V=5\/V=6:=aa
 rcases this with rfl | rfl | rfl | rfl | rfl | rfl | rfl<;>decide
def pJ (n:Nat) (E:List Int):Nat->List Bool
 | 0=>List.replicate n false
 | j+1=>(pJ n E j).set (E.getD j 0).toNat true
theorem CK (n:Nat) (E:List Int):∀ j,(pJ n E j).length=n
 | 0=>by simp[pJ]
 | j+1=>by rw[pJ,List.length_set,CK]
theorem Rl {n:Nat} {E:List Int} {i:Nat} (hi:i < n):∀ j,j<=E.length->((pJ n E j).getD i false=true↔∃ q,q < j/\(E.getD q 0).toNat=i)
 | 0,_=>by
  rw[pJ,wB];exact⟨fun h=>(by cases h),fun ⟨q,hq,_⟩=>absurd hq aa⟩
 | j+1,hj=>by
  rw[pJ];by_cases e:(E.getD j 0).toNat=i
  .rw[<- e,nJ (by rw[CK];omega)];exact⟨fun _=>⟨j,aa,rfl⟩,fun _=>rfl⟩
  .rw[jQ e,Rl hi j aa];constructor
   .rintro⟨q,hq,h⟩;exact⟨q,aa,h⟩
   .rintro⟨q,hq,h⟩;refine⟨q,ahb fun hn=>?_,h⟩
    obtain rfl:q=j:=aa
    exact e h
theorem adI (p:aP):pJ p.names.length (gd p p.names.length) (gd p p.names.length).length=p.names.map (jP p):=by
 refine WM (d:=false) (by rw[CK];simp) fun i hi=>?_;rw[CK]at hi
 have e1:(p.names.map (jP p)).getD i false=jP p p.names[i]:=by rw[gV (by simpa using hi)];simp
 rw[e1];have h:=Rl (E:=gd p p.names.length) hi _ (agD _)
 have h2:(∃ q,q < (gd p p.names.length).length/\((gd p p.names.length).getD q 0).toNat=i)↔jP p p.names[i]=true:=by
  constructor
  .rintro⟨q,hq,he⟩;rw[gV hq]at he;obtain⟨k,hk,_,hx,ha⟩:=(x9 (agD _)).1 (OF hq);rw[hx,agO]at he;subst he;exact ha
  .intro ha;obtain⟨q,hq,he⟩:=agG.1 ((x9 (x:=(i:Int)) (agD _)).2 ⟨i,hi,hi,rfl,ha⟩);exact⟨q,hq,by rw[gV hq,he];simp⟩
 rw[h2]at h
 cases h3:jP p p.names[i] with
 | true=>exact h.2 h3
 | false=>
  cases h4:(pJ p.names.length (gd p p.names.length) (gd p p.names.length).length).getD i false with
  | true=>rw[h.1 h4]at h3;cases h3
  | false=>rfl
theorem ae0 {p:aP} {q:Nat} (hq:q < (gd p p.names.length).length):∃ i,i < p.names.length/\(gd p p.names.length)[q]=(i:Int):=by
 obtain⟨k,hk,_,hx,_⟩:=(x9 (agD _)).1 (OF hq);exact⟨k,hk,hx⟩
theorem PJ {p:aP} {s:Nat} (h:s < (ef p).length):cW ((ef p).take (s+1))=cW ((ef p).take s) ++ [[gg (qi p (aY p).length s)]]:=by
 rw[agB h,cW,cW,agV,JI h];rfl
theorem QY {p:aP} {m s i:Nat} (h:i < 2 ^ m):(qi p m s).take (i+1)=(qi p m s).take i ++ [gF (bU p) (lW p (iW p s) (de i m))]:=by
 have h':i < (qi p m s).length:=by rw[CF];exact h
 rw[agB h',ado]
theorem abv (G:aC) (p:aP) (aZ:dr p=none) (hk:∀ r∈p.ax,mR r) (aS:(aY p).length<=6) (hP:b6 (bU p)<=4096):aD prog G 18 [fH p] (.bx [pU p (b6 (bU p)) ((2 ^ (aY p).length:Nat):Int) (cW (ef p)),.v .nilIface]):=by
 have hg:=iB aZ;have fy:=hg.names;have cX:=O0 G p (adQ aZ hk);rw[aZ]at cX;have ga:=Pf G p aa 1;have l3:iT p.names 1 p.names.length=aY p:=rfl;rw[l3]at ga
 have nM:=aa1 G p aa (by have:=hg.ax;omega) (fun r hr=>by
  obtain⟨e,he,_,_,hb⟩:=hk r hr
  exact⟨e,he,aa⟩)
 rw[Wg aZ]at nM;have ZN:=CK p.names.length (gd p p.names.length);have ZL:=adI p;have Z1:=fun q (hq:q < (gd p p.names.length).length)=>ae0 hq;have Z2:=fun q (hq:q < (gd p p.names.length).length)=>(show pJ p.names.length (gd p p.names.length) (q+1)=(pJ p.names.length (gd p p.names.length) q).set ((gd p p.names.length)[q]).toNat true by rw[pJ,gV hq]);have gv:pJ p.names.length (gd p p.names.length) 0=List.replicate p.names.length false:=rfl;have np:=F3 p p.names.length;have uc:=fun (nx:List (List D)) (n:Nat) (h1:(n:Int) < 4096)=>abx G p aZ (b6 (bU p)) ((2 ^ (aY p).length:Nat):Int) nx n aa aa;have tQ:=fun (nx:List (List D)) (n:Nat)=>abo G p aZ (b6 (bU p)) ((2 ^ (aY p).length:Nat):Int) nx n;have b5:=fun (nx:List (List D)) (s:cK) (hs:fU p s)=>abu G p aZ (b6 (bU p)) ((2 ^ (aY p).length:Nat):Int) nx s hs hP;have lI:=fun (s:Nat) (i:Nat)=>Mf G p aZ hk (iW p s) (sF aZ s) (de i (aY p).length) (ui _ _);have uY:=fun (s:Nat) (i:Nat)=>(Dz aZ (sF aZ s) (de i (aY p).length)).1;have Eb:∀ k (h:k < p.names.length),gm p (k+1)=gm p k ++ partOf p.names[k] (jP p p.names[k]) k:=fun k h=>Fq h;have pb:=Ct p;have Hk:gm p p.names.length=bU p:=rfl;have oJ:∀ x∈bU p,2<=x.most:=fun x hx=>(rM hg hx).m2;have ZA:=fun k (h:k < (bU p).length)=>acy h;have Ey:=fun k=>acx oJ k;have Iv:0 < b6 (bU p):=sB oJ;have eb:=fun k=>(sB (l:=(bU p).take k) fun x hx=>oJ x (agJ hx));have nh:=fun s (h:s < (ef p).length)=>PJ h;have fN:=Fc p;have BP:=fun s i (h:i < 2 ^ (aY p).length)=>QY (p:=p) (s:=s) h;have eY:=fun s=>CF p (aY p).length s;have xk:=afe aS
 have ML:2 ^ (aY p).length<=64:=by
  have:=ahG (n:=2) aa aS;omega
 have nd:=hg.count;simp only[sx,ab,qw,ou,iM,gg,pa]at uc tQ b5 lI;simp only[fH,fW,cj,fq,bB,pU,rU,pa,gg]at ga cX nM lI uc tQ b5 nh ⊢;generalize ef p=rb at *;generalize Hm:qi p (aY p).length=Gi at *;clear Hm;generalize gd p p.names.length=E at *;generalize pJ p.names.length E=SB at *
 have kT:((aY p).map fun x=>[D.v (.int .i64 x)]).length=(aY p).length:=ak
 generalize ((aY p).map fun x=>[D.v (.int .i64 x)])=IN at *;generalize (aY p).length=m at *
 have tB:(p.names.map bo).length=p.names.length:=ak
 have nK:∀ i (h:i < p.names.length),(p.names.map bo)[i]? = some [.v (.string (bs p.names[i].name)),.v (.int .i64 p.names[i].kind),.v (.int .i64 p.names[i].count)]:=fun i h=>by simp[h,bo,dS]
 generalize p.names.map bo=NN at *;generalize p.ax.map c8=RR at *
 have MW:(E.map fun x=>[D.v (.int .i64 x)]).length=E.length:=ak
 refine aD.aQ (aB _) func18 rfl rfl (rs:=[.tmp 2,.tmp 3]) results18 (by simp[ntmps18]) fun X=>?_;simp only[ntmps18,List.map];have fw:=@aih;refine ae fw [1] [1] ?_;refine dI fw 1 ?_;refine ag fun K1 aF=>br fw cX [1,4] [] ?_;refine ae fw [1,4,19] [] ?_;refine al (ar (aF _ ?_));refine rdc fw ga [1,5] [25] ?_;refine ag fun K2 au=>?_
 have sa:¬ (IN.length:Int) > 6:=aa
 have qf:=(Aq fw @sa);refine ay [1,5,31] [25] ?_;refine cw (by simp<;>omega) ?_;refine ar (au _ ?_);have qf:=(Aq fw (Aq @od.eq_1 (Aq @od.eq_2 (Aq @od.eq_3 (Aq @kT @xk)))));refine ay [1,5] [25] ?_;refine ae (Aq fw (Aq @qN.eq_1 (Aq @kz.eq_1 @kz.eq_2))) [1,5,6] [25,45] ?_;refine ag fun K3 aU=>br fw nM [1,5,6,47,48,49] [25,45] ?_;refine cy (S:=Nat) (fun j=>j<=E.length) (fun j=>⟨bn [(1,.d (.ip [.sl none NN,.sl none RR])),(5,.ref 25 0 0),(6,.own 45 0 p.names.length),(47,.d (.sl none (E.map fun x=>[.v (.int .i64 x)]))),(48,int E.length),(49,int j)],aw [(25,.box 113 [.d (.sl none NN),.d (.sl none RR),int 1,int ((2 ^ m:Nat):Int),.d (.sl (some false) []),.d (.sl (some false) []),.d (.sl none IN)]),(45,.sl 4 1 ((SB j).map fun b=>[.v (.bool b)]))]⟩) (fun j=>E.length - j) 0 ?_ aa ?_
 .rw[gv];refine aK.fk aN (by simp[ab,List.map_replicate,tB,MW]) (by simp[ab,List.map_replicate,tB,MW])
 .intro j hj;have ZP:=ZN j;have Oq:=Z2 j;generalize Ng:SB j=B at ZP Oq ⊢;refine ae fw [1,5,6,47,48,49,50] [25,45] ?_;refine ag fun K4 ck=>eE (b:=j < E.length) (by simp[D.le,D.le.go,aL,ab]) (fun hc=>?_) (fun hc=>?_)
  .refine ar (ck _ (ag fun K5 b9=>bd ?_));obtain⟨i,hi,MV⟩:=Z1 j hc;have Ot:=Oq hc;rw[MV,agO]at Ot
   have fZ:i < B.length:=aa
   have qf:=(Aq fw (Aq @hc @MV));refine ay [1,5,6,8,47,48,49] [25,45] ?_;have qf:=(Aq fw (Aq @fZ @hi));refine eJ b9 [1,5,6,47,48,49] [25,45] ?_;refine cE fw ?_;(try simp only[aT,aV]);refine ba.mk (j+1) aa aa ?_;rw[Ot];refine aK.fk aN (by simp[ab,agQ]) (by simp[ab,agQ])
  .obtain rfl:j=E.length:=aa
   rw[ZL]at Ng;subst Ng;refine bW (aU _ (ag fun K6 eH=>ae fw [1,5,6,58,59,60] [25,45] ?_));refine cy (S:=Nat) (fun k=>k<=p.names.length) (fun k=>⟨bn [(1,.d (.ip [.sl none NN,.sl none RR])),(5,.ref 25 0 0),(6,.own 45 0 p.names.length),(58,.d (.sl none NN)),(59,int NN.length),(60,int k)],aw [(25,.box 113 [.d (.sl none NN),.d (.sl none RR),int 1,int ((2 ^ m:Nat):Int),.d (.sl (some false) []),.own 801 0 (gm p k).length,.d (.sl none IN)]),(45,.sl 4 1 ((p.names.map (jP p)).map fun b=>[.v (.bool b)])),(801,.sl 165 3 ((gm p k).map iZ))]⟩) (fun k=>p.names.length - k) 0 ?_ aa ?_
   .refine (aK.o7 25 5 801 165 3 rfl rfl rfl).trans ?_;refine bq (Aq fw (Aq @gm.eq_1 @gm.eq_2))
   .intro k lL;have Na:=Eb k;have XK:=pb k
    have M9:((gm p k).map iZ).length=(gm p k).length:=ak
    generalize lG:gm p k=PK at Na XK M9 ⊢;refine ae fw [1,5,6,58,59,60,61] [25,45,801] ?_;refine ag fun K7 eL=>?_;by_cases aG:k < p.names.length
    .have eW:k < NN.length:=aa
     have nR:(k:Int) < (NN.length:Int):=aa
     refine cm (by simp<;>omega) ?_;refine ar (eL _ (ag fun K8 fA=>bd ?_));have ru:=Na aG;have iO:=nd _ (OF aG)
     have na:NN[k]=[.v (.string (bs p.names[k].name)),.v (.int .i64 p.names[k].kind),.v (.int .i64 p.names[k].count)]:=by
      have:=nK k aG;rw[By eW]at this;exact AI this
     unfold partOf at ru;generalize NZ:p.names[k]=nk at ru na iO;obtain⟨nm,kd,ct⟩:=nk;dsimp only at ru na iO
     have Ny:jP p p.names[k]=jP p ⟨nm,kd,ct⟩:=by rw[NZ]
     generalize bp:jP p ⟨nm,kd,ct⟩=ev at *;have qf:=(Aq fw (Aq @eW @na));refine ay [1,5,6,9,10,58,59,60] [25,45,801,10] ?_;refine dI fw 10 ?_;refine bd ?_;by_cases k2:kd=2
     .subst k2;rw[if_pos (.inl rfl)]at ru;refine ae fw [1,5,6,9,10,58,59,60,65] [25,45,801] ?_;refine aI (eU (aB _) fun K' ao=>?_);(repeat refine aM fun Kq af=>?_;simp[ab,sh];(repeat refine⟨aa,?_⟩);refine af _ ?_);refine bK (ao _ ?_);refine fA _ (AW.norm [1,5,6,58,59,60] [25,45,801] aN (AW.st (by simp[ab,sh];rfl) ?_));refine cE fw ?_;(try simp only[aT,aV]);refine ba.mk (k+1) aa aa ?_;rw[ru];refine bq (Aq fw @iZ.eq_1)
     .by_cases k1:kd=1
      .subst k1
       cases ev with
       | true=>
        rw[if_pos (.inr ⟨rfl,rfl⟩)]at ru;have qf:=(Aq fw (Aq @aG @Ny));refine ay [1,5,6,9,10,58,59,60,65] [25,45,801] ?_;refine aI (eU (aB _) fun K' ao=>?_);(repeat refine aM fun Kq af=>?_;simp[ab,sh];(repeat refine⟨aa,?_⟩);refine af _ ?_);refine bK (ao _ ?_);refine fA _ (AW.norm [1,5,6,58,59,60] [25,45,801] aN (AW.st (by simp[ab,sh];rfl) ?_));refine cE fw ?_;(try simp only[aT,aV]);refine ba.mk (k+1) aa aa ?_;rw[ru];refine bq (Aq fw @iZ.eq_1)
       | false=>
        rw[if_neg ak,if_neg ak,ahm]at ru;have qf:=(Aq fw (Aq @aG @Ny));refine ay [1,5,6,9,10,58,59,60,65] [25,45,801] ?_;refine al (ae fw [1,5,6,9,10,58,59,60,91] [25,45,801] ?_);refine al (ar ?_);refine fA _ (AW.norm [1,5,6,58,59,60] [25,45,801] aN (AW.st (by simp[ab];rfl) ?_));refine cE fw ?_;(try simp only[aT,aV]);refine ba.mk (k+1) aa aa ?_;rw[ru];refine bq fw
      .rw[if_neg (by simp[k1,k2]),if_pos k1]at ru;have qf:=(Aq fw (Aq @k1 @k2));refine ay [1,5,6,9,10,58,59,60,65] [25,45,801] ?_;refine cw (by simp[k1,k2]) ?_;have qf:=(Aq fw @k1);refine ay [1,5,6,9,10,58,59,60,91] [25,45,801] ?_;refine cm (by simp[k1]) (sM (aB _) ah ([(11,(801,105))]) ([(0,[801])]) ([0,1,2,3,4,5,6,7,8,9,10,11,12,13,14]) ah fun K' ao=>?_);(repeat refine qV rfl fun K2 au=>?_;simp[ab,sh];(repeat refine⟨aa,?_⟩);refine au _ ?_;clear au K2);refine sI (ao _ ?_);refine fA _ (AW.norm [1,5,6,58,59,60] [25,45,801] aN (AW.st (by simp[ab,sh];rfl) ?_));refine cE fw ?_;(try simp only[aT,aV]);refine ba.mk (k+1) aa aa ?_;rw[ru];refine bq (Aq fw @iZ.eq_1)
    .have nR:¬ (k:Int) < (NN.length:Int):=aa
     obtain rfl:k=p.names.length:=aa
     rw[Hk]at lG;subst lG;refine cw (by simp<;>omega) ?_;refine bW (eH _ (AW.imp (aK.freeze 801 trivial) ?_));refine AW.st (by simp[ab,M9,sh];rfl) ?_;refine ag fun K9 jt=>?_
     have afo:((bU p).map iZ).length=(bU p).length:=ak
     have XJ:∀ i (h:i < (bU p).length),((bU p).map iZ)[i]? = some [.v (.int .i64 (bU p)[i].nm),.v (.int .i64 (bU p)[i].most),.v (.bool (bU p)[i].far)]:=fun i h=>by simp[h,iZ]
     generalize Hj:bU p=cM at *;generalize cM.map iZ=PT at *;refine ae fw [1,5,113,114,115] [25] ?_;refine cy (S:=Nat) (fun k=>k<=cM.length) (fun k=>⟨bn [(1,.d (.ip [.sl none NN,.sl none RR])),(5,.ref 25 0 0),(113,.d (.sl none PT)),(114,int PT.length),(115,int k)],aw [(25,.box 113 [.d (.sl none NN),.d (.sl none RR),int (b6 (cM.take k)),int ((2 ^ m:Nat):Int),.d (.sl (some false) []),.d (.sl none PT),.d (.sl none IN)])]⟩) (fun k=>cM.length - k) 0 ?_ aa ?_
     .refine bq (Aq fw (Aq @b6.eq_1 @b6.eq_2))
     .intro k lL;have hq:=ZA k;have ZD:=Ey (k+1);have pw:=eb k;have ZE:=Ey k;generalize hQ:b6 (cM.take k)=Q at hq pw ZE ⊢;refine ae fw [1,5,113,114,115,116] [25] ?_;refine ag fun ot e7=>?_;by_cases aG:k < cM.length
      .have eW:k < PT.length:=aa
       have nR:(k:Int) < (PT.length:Int):=aa
       refine cm (by simp<;>omega) ?_;refine ar (e7 _ (ag fun sR mj=>bd ?_));have kQ:=hq aG;have p9:=oJ _ (OF aG)
       have lG:PT[k]=[.v (.int .i64 cM[k].nm),.v (.int .i64 cM[k].most),.v (.bool cM[k].far)]:=by
        have:=XJ k aG;rw[By eW]at this;exact AI this
       generalize cM[k]=x at lG kQ p9;obtain⟨xi,M,fa⟩:=x;dsimp only at lG kQ p9;rw[kQ]at ZD;have Nb:0 < Q * M:=Int.mul_pos pw aa
       have XM:¬ Q * M > 4096:=aa
       have qf:=(Aq fw (Aq @eW @lG));refine ay [1,5,12,113,114,115] [25,12] ?_;refine dI fw 12 ?_;refine o4 (aB _) ah [(3,25),(5,999),(9,25)] [1,5,113,114,115] [25] aN ah fun K' ao=>?_;(repeat refine jm fun Kq af=>?_;simp[ab,Nb];(repeat refine⟨aa,?_⟩);refine af _ ?_);refine ky (ao _ ?_);refine AW.st (by simp[ab,Nb];rfl) ?_;have qf:=(Aq fw @XM);refine ay [1,5,113,114,115,132] [25] ?_;refine cw (by simp<;>omega) ?_;refine ar (mj _ (cE fw ?_));(try simp only[aT,aV]);refine ba.mk (k+1) aa aa ?_;rw[kQ];refine bq fw
      .have nR:¬ (k:Int) < (PT.length:Int):=aa
       refine cw (by simp<;>omega) ?_;refine bW (jt _ ?_);rw[sh aa]at hQ;refine ag fun vY j9=>?_;obtain⟨S,hS⟩:∃ S:Nat,b6 cM=(S:Int):=agY aa;rw[hS]at fN hP uc tQ b5 hQ ⊢;rw[agO]at fN;subst hQ;refine ae fw [1,5,138,139] [25] ?_;refine cy (S:=Nat) (fun s=>s<=S) (fun s=>⟨bn [(1,.d (.ip [.sl none NN,.sl none RR])),(5,.ref 25 0 0),(138,int S),(139,int s)],aw [(25,.box 113 [.d (.sl none NN),.d (.sl none RR),int S,int ((2 ^ m:Nat):Int),.own 800 0 s,.d (.sl none PT),.d (.sl none IN)]),(800,.sl 41 1 (cW (rb.take s)))]⟩) (fun s=>S - s) 0 ?_ aa ?_
       .refine (aK.o7 25 4 800 41 1 rfl rfl rfl).trans ?_;refine bq (Aq fw @cW.eq_1)
       .intro s IE;have jd:=nh s
        have ml:(cW (rb.take s)).length=s:=by rw[zO,agM];omega
        have A5:s=S->cW (rb.take s)=cW rb:=fun e=>by rw[sh aa]
        generalize cW (rb.take s)=NX at jd ml A5 ⊢;refine ae fw [1,5,138,139,140] [25,800] ?_;refine ag fun mT gp=>eE (b:=s < S) (by simp[D.le,D.le.go,aL,ab]) (fun hc=>?_) (fun hc=>?_)
        .refine ar (gp _ (ag fun yh rr=>bd ?_));have BI:=jd aa;have ud:=uc NX s aa;have HY:=tQ NX;have y8:=lI s;have zi:=fun i=>b5 NX _ (uY s i);have xj:=fun i h=>BP s i h;have Iz:=eY s;generalize IF:iW p s=CP at ud y8 zi xj;generalize Ed:Gi s=RS at BI xj Iz;refine ae fw [1,5,13,138,139] [25,800] ?_;refine ae fw [1,5,13,14,138,139] [25,800] ?_;refine ag fun C7 tw=>ae fw [1,5,13,14,138,139,145,146] [25,800] ?_;refine cy (S:=Nat) (fun i=>i<=2 ^ m) (fun i=>⟨bn [(1,.d (.ip [.sl none NN,.sl none RR])),(5,.ref 25 0 0),(13,int s),(14,.own 902 0 i),(138,int S),(139,int s),(145,int ((2 ^ m:Nat):Int)),(146,int i)],aw [(25,.box 113 [.d (.sl none NN),.d (.sl none RR),int S,int ((2 ^ m:Nat):Int),.own 800 0 s,.d (.sl none PT),.d (.sl none IN)]),(800,.sl 41 1 NX),(902,.sl 3 1 ((RS.take i).map fun x=>[.v (.int .i64 x)]))]⟩) (fun i=>2 ^ m - i) 0 ?_ aa ?_
         .refine (aK.kC 14 902 3 1 rfl rfl).trans ?_;refine bq fw
         .intro i my;have BN:=xj i
          have eS:((RS.take i).map fun x=>[D.v (.int .i64 x)]).length=i:=by simp;omega
          generalize jw:RS.take i=RI at BN eS ⊢;refine ae fw [1,5,13,14,138,139,145,146,147] [25,800,902] ?_;refine ag fun SP D6=>?_;by_cases dD:i < 2 ^ m
          .have zb:(i:Int) < ((2 ^ m:Nat):Int):=by exact_mod_cast dD
           refine cm (by simpa using zb) (ar (D6 _ ?_));refine ag fun K17 Xs=>bd ?_;have xg:=BN dD;have wX:=HY i;have tL:=y8 i;have qG:=zi i;generalize lW p CP (de i m)=d1 at tL qG xg;generalize de i m=ib at wX tL;generalize gF cM d1=v1 at qG xg;obtain⟨I1,C1⟩:=CP;obtain⟨I2,C2⟩:=d1;dsimp only at ud tL qG;rw[ml]at ud wX qG;refine ae fw [1,5,13,14,15,138,139,145,146] [25,800,902] ?_;refine Lm (aB _) ah ([12]) ([]) ([5,8,10]) ([(2,.d (.ip [.sl none NN,.sl none RR]))]) (List.range 14) ah fun K' ao=>?_;(repeat refine mO rfl fun K2 au=>?_;simp[ab,eS,sh];(repeat refine⟨aa,?_⟩);refine au _ ?_;clear au K2);refine mO rfl fun K2 au=>?_;simp[ab,eS,sh];refine tI.mc (ud) (by simp[ab,eS,sh]) (by simp[ab,eS,sh]) (by simp[ab,eS,sh]) (by simp[ab,eS,sh]) (by simp[ab,eS,sh]) (by simp[ab,eS,sh]) (by simp[jH,ab,eS,sh]) ?_;simp[ab,eS,sh];refine au _ ?_;clear au K2;(repeat refine mO rfl fun K2 au=>?_;simp[ab,eS,sh];(repeat refine⟨aa,?_⟩);refine au _ ?_;clear au K2);refine mO rfl fun K2 au=>?_;simp[ab,eS,sh];refine tI.mc (wX) (by simp[ab,eS,sh]) (by simp[ab,eS,sh]) (by simp[ab,eS,sh]) (by simp[ab,eS,sh]) (by simp[ab,eS,sh]) (by simp[ab,eS,sh]) (by simp[jH,ab,eS,sh]) ?_;simp[ab,eS,sh];refine au _ ?_;clear au K2;(repeat refine mO rfl fun K2 au=>?_;simp[ab,eS,sh];(repeat refine⟨aa,?_⟩);refine au _ ?_;clear au K2);refine mO rfl fun K2 au=>?_;simp[ab,eS,sh];refine qt.mk (tL) bA bA (by first | exact D.bJ _ | simp[aL,agF,agy,D.le,D.le.go,D.le_refl,D.bJ,ab,eS,sh]) ak ?_;refine au _ ?_;clear au K2;simp only[aR,dY];(repeat refine mO rfl fun K2 au=>?_;simp[ab,eS,sh];(repeat refine⟨aa,?_⟩);refine au _ ?_;clear au K2);refine mO rfl fun K2 au=>?_;simp[ab,eS,sh];refine tI.mc (qG) (by simp[ab,eS,sh]) (by simp[ab,eS,sh]) (by simp[ab,eS,sh]) (by simp[ab,eS,sh]) (by simp[ab,eS,sh]) (by simp[ab,eS,sh]) (by simp[jH,ab,eS,sh]) ?_
           simp[ab,eS,sh];refine au _ ?_;clear au K2;(repeat refine mO rfl fun K2 au=>?_;simp[ab,eS,sh];(repeat refine⟨aa,?_⟩);refine au _ ?_;clear au K2);refine RT (ao _ ?_);refine Xs _ (AW.norm [1,5,13,14,138,139,145,146] [25,800,902] aN (AW.st (by simp[ab,eS,sh];rfl) ?_));refine cE fw ?_;(try simp only[aT,aV]);refine ba.mk (i+1) aa aa ?_;rw[xg];refine bq fw
          .obtain rfl:i=2 ^ m:=aa
           have wI:RI=RS:=by rw[<- jw];exact sh aa
           subst wI;refine cw ak ?_;refine bW (tw _ (AW.imp (aK.freeze 902 trivial) ?_));refine AW.st (by simp[ab,eS,sh];rfl) ?_;refine eU (aB _) fun K' ao=>?_;(repeat refine aM fun Kq af=>?_;simp[ab,ml,sh];(repeat refine⟨aa,?_⟩);refine af _ ?_);refine bK (ao _ ?_);refine rr _ (AW.norm [1,5,138,139] [25,800] aN (AW.st (by simp[ab,ml,sh];rfl) ?_));refine cE fw ?_;(try simp only[aT,aV]);refine ba.mk (s+1) aa aa ?_;rw[BI];refine bq fw
        .obtain rfl:s=S:=aa
         obtain rfl:=A5 rfl;refine bW (j9 _ (AW.imp (aK.freeze 800 trivial) ?_));refine AW.st (by simp[ab,ml,sh];rfl) ?_;refine ae fw [2,3] [25] ?_;exact aW (Aq fw @hS)
structure ql (L L':List (Value×Value)):Prop where
 ok:j4 L
 same:∀ k,dL L k=dL L' k
theorem j8 {L L':List (Value×Value)} (h:ql L L') (s:ByteArray) (x:Value):ql (cY L s x) (cY L' s x):=⟨zG s x h.ok,fun k=>by rw[qM,qM,h.same]⟩
theorem Qi:∀ {L L':List (Value×Value)},L.Nodup->L'.Nodup->(∀ x,x∈L↔x∈L')->L.Perm L'
 | [],L',_,_,h=>by
  cases L' with
  | nil=>exact .nil
  | cons y l=>exact absurd ((h y).2 ak) ak
 | x :: L,L',h1,h2,h=>by
  obtain⟨A,B,rfl⟩:=List.append_of_mem ((h x).1 ak);rw[ahn]at h1;have h3:(x :: (A ++ B)).Nodup:=(List.perm_middle.nodup_iff).1 h2;rw[ahn]at h3;refine (List.Perm.cons x (Qi h1.2 h3.2 fun y=>?_)).trans List.perm_middle.symm;constructor
  .intro hy;have h4:=(h y).1 (by simp[hy])
   rcases agN.1 h4 with h5 | h5
   .simp[h5]
   .rcases agK.1 h5 with rfl | h5
    .exact absurd hy h1.1
    .simp[h5]
  .intro hy;have h4:=(h y).2 (by rcases agN.1 hy with h5 | h5<;>simp[h5])
   rcases agK.1 h4 with rfl | h4
   .exact absurd hy h3.1
   .exact h4
theorem Pn {L:List (Value×Value)} (h:j4 L):L.Nodup:=(List.pairwise_map.1 h.once).imp fun h e=>h (by rw[e])
theorem zF {E I:List (Value×Value)} (hp:E.Perm I) (h:j4 I):j4 E:=⟨fun p hm=>h.str p (hp.mem_iff.1 hm),((hp.map _).nodup_iff).2 h.once⟩
theorem vp {L:List (Value×Value)} (h:j4 L) {s:ByteArray} {v:Value}:dL L s=some v↔(.string s,v)∈L:=by
 constructor
 .intro hl;obtain⟨j,hj,h1,h2⟩:=Ph hl;have:L[j]=(.string s,v):=Prod.ext h1 h2;rw[<- this];exact OF hj
 .intro hm;obtain⟨j,hj,he⟩:=agG.1 hm;have:=Ca h hj (s:=s) (by rw[he]);rw[this,he]
theorem Mr {L L':List (Value×Value)} (h:ql L L') (h':j4 L'):L.Perm L':=by
 refine Qi (Pn h.ok) (Pn h') fun x=>?_;obtain⟨k,v⟩:=x;constructor
 .intro hm;obtain⟨s,hs⟩:=h.ok.str _ hm;have hs:k = .string s:=hs;subst hs;exact (vp h').1 (by rw[<- h.same];exact (vp h.ok).2 hm)
 .intro hm;obtain⟨s,hs⟩:=h'.str _ hm;have hs:k = .string s:=hs;subst hs;exact (vp h.ok).1 (by rw[h.same];exact (vp h').2 hm)
theorem abc {E I:List (Value×Value)} (hp:E.Perm I) (h:j4 I) (k:ByteArray):dL E k=dL I k:=by
 have h2:=zF hp h
 cases hl:dL I k with
 | some v=>exact (vp h2).2 (hp.mem_iff.2 ((vp h).1 hl))
 | none=>
  cases gC:dL E k with
  | none=>rfl
  | some v=>
   have:=(vp h).2 (hp.mem_iff.1 ((vp h2).1 gC));rw[hl]at this;cases this
theorem copied {E I L:List (Value×Value)} (hp:E.Perm I) (h:j4 I) {seen:List Nat} (hc:vT E seen L) (dy:∀ j,j < E.length->j∈seen):ql L I:=⟨hc.ok,fun k=>by rw[VY (zF hp h) hc dy,abc hp h]⟩
theorem Pe {n:Nat} {seen:List Nat} {j:Nat} (hj:j < n) (jd:j ∉ seen):((List.range n).filter fun k=>!(seen ++ [j]).contains k).length < ((List.range n).filter fun k=>!seen.contains k).length:=by
 refine filter_lt (fun k=>!seen.contains k) (fun k=>!(seen ++ [j]).contains k) (fun k hk=>?_) j ?_ ?_ _ (ahC.2 hj)
 .simp at hk ⊢;exact hk.1
 .simpa using jd
 .simp
theorem Wt {C N:List (Value×Value)} (h:ql C N) (hi:∀ k v,dL N k=some v->∃ n,v = .int .i64 n) (k:ByteArray):(j7 (.string k) (dt C)=none/\nX (dL N k)=0)\/j7 (.string k) (dt C)=some (.v (.int .i64 (nX (dL N k)))):=by
 rw[s9,h.same]
 cases hl:dL N k with
 | none=>exact .inl ⟨rfl,rfl⟩
 | some v=>
  obtain⟨n,rfl⟩:=hi k v hl;exact .inr rfl
theorem Wu (C:List (Value×Value)) (k:ByteArray) (x:Value):j7 (.string k) (dt (cY C k x))=some (.v x):=by
 rw[s9,qM,if_pos rfl];rfl
theorem Q4 (G:aC) (p:aP) (aZ:dr p=none) (hk:∀ r∈p.ax,mR r) (s:cK) (hs:fU p s) (cC:List Bool) (aS:cC.length=(aY p).length) (I C:List (Value×Value)) (hr:gT p s I C) :
  aD prog G 118 [dU p,.agg [.dm false I,.dm false C],iM cC] (.agg [.dm false (xN p s cC (I,C)).1,.dm false (xN p s cC (I,C)).2]):=by
 have hg:=iB aZ;have fy:=hg.names;have tX:=hg.ax;have dP:=Kj G;have ga:=C4 G p aa 1;have b5:=fun x=>KV G p aa x;have wW:=vl p.names 1 p.names.length;obtain⟨t0,p6,AQ⟩:∃ t0,t0=(⟨nr (aY p) cC s.is (aY p).length,s.ct⟩:cK)/\fU p t0:=⟨_,rfl,(xW cC hs _ (agD _)).1⟩;obtain⟨T,hT⟩:∃ T:Nat->cK,∀ n,T n=(p.ax.take n).foldl (mb p s) t0:=⟨_,fun _=>rfl⟩;obtain⟨MI,AY⟩:∃ MI:Nat->List (Value×Value),∀ k,MI k=xM p cC I k:=⟨_,fun _=>rfl⟩;obtain⟨M,hM⟩:∃ M:Nat->nE,∀ n,M n=vr p s t0 (p.ax.take n) (xM p cC I (aY p).length,C):=⟨_,fun _=>rfl⟩
 have M1:M 0=(MI (aY p).length,C):=by rw[hM,AY];rfl
 have M6:∀ n (h:n < p.ax.length),M (n+1)=vq p (rZ (gA p (T n).is) (gA p s.is) p.ax[n].cond) p.ax[n] (M n):=fun n h=>by
  rw[hM,hM,hT];exact Pt p s p.ax t0 _ n h
 have XB:M p.ax.length=xN p s cC (I,C):=by rw[hM,aho,p6];rfl
 have yX:∀ n,fU p (T n):=fun n=>by rw[hT];exact (FJ aZ s _ (fun r hr=>agJ hr) AQ).1
 have yR:∀ n,gT p (T n) (M n).1 (M n).2:=fun n=>by
  rw[hT,hM];refine JC aZ s _ (fun r hr=>agJ hr) AQ ?_;rw[p6];exact JB hg hs cC hr _ (agD _)
 have gM:∀ n (h:n < p.ax.length) (L1 L2:List (Value×Value)),ql L1 (M n).1->ql L2 (M n).2->∃ e,p.ax[n].cond=some e/\aD prog G 147 [dR e,.fn (.func 190) [.ip [.dm false L1,.dm false L2]],.fn (.func 191) [.ip [.dm false I,.dm false C]]] (.v (.bool (eQ (gA p (T n).is) (gA p s.is) e))):=fun n h L1 L2 h1 h2=>by
  obtain⟨e,he,ha,hb⟩:=Rj aZ hk (OF h);obtain⟨e',jT,hw,_⟩:=hk _ (OF h);rw[he]at jT;obtain rfl:=AI jT;exact⟨e,he,ac6 G _ _ _ _ _ _ _ _ (acF G (acX (yR n) h1.ok h2.ok h1.same h2.same)) (acG G hr) e ha hw hb⟩
 have Hg:∀ n,j4 (M n).1/\j4 (M n).2:=fun n=>⟨(yR n).kp,(yR n).fQ⟩
 have M3:∀ n i (hi:i < p.names.length),0<=nX (dL (M n).2 (bs p.names[i].name))/\nX (dL (M n).2 (bs p.names[i].name))<=7:=fun n i hi=>by
  rw[(yR n).ct i hi];have h1:=(yX n).lo i;have h2:=(yX n).hi i hi
  rcases hg.count _ (OF hi)with h3 | h3<;>omega
 have M5:=fun n=>(yR n).iC;have Xz:MI 0=I:=AY 0
 have XA:∀ k (h:k < (aY p).length) (h2:k < cC.length),∃ i,∃ hi:i < p.names.length,(aY p)[k]=(i:Int)/\MI (k+1)=cY (MI k) (bs p.names[i].name) (.bool cC[k]):=fun k h h2=>by
  obtain⟨i,hi,he,_⟩:=zy h;refine⟨i,hi,he,?_⟩
  have e1:(aY p).getD k 0=(i:Int):=by rw[gV h];exact he
  have e2:p.names.getD i ⟨[],0,0⟩=p.names[i]:=gV hi;have e3:cC.getD k false=cC[k]:=gV h2;rw[AY,AY,xM,e1,agO,e2,e3]
 clear hM AY hT yX yR AQ p6;have kp:=hr.kp;have fQ:=hr.fQ;clear hr;have l3:iT p.names 1 p.names.length=aY p:=rfl;rw[l3]at ga wW;clear l3;rw[<- XB];generalize aY p=KI at *;simp only[dU,ft,cj,iM,dS]at ga b5 ⊢
 have tB:(p.names.map bo).length=p.names.length:=ak
 have nK:∀ i (h:i < p.names.length),(p.names.map bo)[i]? = some [.v (.string (bs p.names[i].name)),.v (.int .i64 p.names[i].kind),.v (.int .i64 p.names[i].count)]:=fun i h=>by simp[h,bo,dS]
 have eS:(p.ax.map eg).length=p.ax.length:=ak
 have rv:∀ i (h:i < p.ax.length),(p.ax.map eg)[i]? = some (eg p.ax[i]):=fun i h=>by simp[h]
 generalize p.names.map bo=NN at *;generalize p.ax.map eg=RR at *;refine aD.aQ (aB _) func118 rfl rfl (rs:=[.cell 6 219]) results118 (by simp[ntmps118]) fun X=>?_;simp only[ntmps118,List.map];refine aq [2,3,4,6] [3,4,6] ?_;refine fI 3 ?_;refine fI 4 ?_;refine bD trivial dP [2,3,4,6,7] [6,7,601,602] ?_;refine ag fun K1 aF=>yf (aB _) [2,3,4,6,7,21] [6,7,601,602,21] aN fun K' ao=>?_
 (repeat refine vI fun Kq af=>?_;simp;(repeat refine⟨aa,?_⟩);refine af _ ?_)
 refine RQ (y:=false) (ents:=I) rfl rfl ak ak ak ak ak fun E1 D3=>?_;refine vJ (ao _ ?_);refine AW.st bA ?_;refine cy (S:=List Nat×List (Value×Value)) (fun x=>vT E1 x.1 x.2) (fun x=>⟨bn [(2,.d (.sl none (cC.map fun b=>[.v (.bool b)]))),(3,.d (.ip [.sl none NN,.sl none RR])),(4,.d (.ip [.dm false I,.dm false C])),(6,.ref 6 0 0),(7,.ref 7 0 0),(21,.ref 21 0 0)],aw [(6,.box 219 [.d (.v (.map none)),.d (.v (.map none))]),(7,.box 219 [.mp 601,.mp 602]),(601,.mp 201 (dt x.2)),(602,.mp 217 []),(21,.it E1 x.1)]⟩) (fun x=>((List.range E1.length).filter fun k=>!x.1.contains k).length) ([],[]) ?_ (L6 E1) ?_
 .refine aK.fk aN (by simp[dt]) (by simp[dt])
 .rintro⟨Ko,L1⟩ wE;dsimp only at wE ⊢;refine yf (aB _) [2,3,4,6,7,21,23] [6,7,601,602,21] aN fun K' ao=>?_;refine RO (r:=21) (ents:=E1) (seen:=Ko) rfl rfl ak ak ak ak (fun dy=>?_) (fun j hj jd=>?_)
  rotate_left
  .have fM:=nY wE.ok;simp at fM;have bC:=eq_true fM;obtain⟨s1,dG⟩:=(zF D3 kp).str E1[j] (OF hj)
   (repeat refine vI fun Kq af=>?_;simp;(repeat refine⟨aa,?_⟩);refine af _ ?_)
   refine vJ (ao _ ?_);refine AW.st bA ?_;refine ag fun K2 au=>aI ?_;refine ar (au _ (bd (yf (aB _) [2,3,4,6,7,8,9,21] [6,7,601,602,21] aN fun K' ao=>?_)));refine RN (r:=21) (ents:=E1) (seen:=Ko) (j:=j) rfl rfl ak ak ak ak hj ?_
   (repeat refine vI fun Kq af=>?_;simp[dG];(repeat refine⟨aa,?_⟩);refine af _ ?_)
   refine vJ (ao _ ?_);refine AW.st (by simp[dG];rfl) ?_;have qf:=(Aq @dG (Aq @bC @eO));refine CB ?_;(try simp only[aT,aV]);refine ba.mk (Ko ++ [j],cY L1 s1 E1[j].2) (L0 (zF D3 kp) wE hj dG) (Pe hj jd) ?_;refine cI
  .have Xu:=copied D3 kp wE dy;clear wE dy
   (repeat refine vI fun Kq af=>?_;simp;(repeat refine⟨aa,?_⟩);refine af _ ?_)
   refine vJ (ao _ ?_);refine AW.st bA ?_;refine ag fun K2 au=>al ?_;refine bW (aF _ (ag fun K3 aU=>yf (aB _) [2,3,4,6,7,33] [6,7,601,602,33] aN fun K' ao=>?_))
   (repeat refine vI fun Kq af=>?_;simp;(repeat refine⟨aa,?_⟩);refine af _ ?_)
   refine RQ (y:=false) (ents:=C) rfl rfl ak ak ak ak ak fun E2 wC=>?_;refine vJ (ao _ ?_);refine AW.st bA ?_;refine cy (S:=List Nat×List (Value×Value)) (fun x=>vT E2 x.1 x.2) (fun x=>⟨bn [(2,.d (.sl none (cC.map fun b=>[.v (.bool b)]))),(3,.d (.ip [.sl none NN,.sl none RR])),(4,.d (.ip [.dm false I,.dm false C])),(6,.ref 6 0 0),(7,.ref 7 0 0),(33,.ref 33 0 0)],aw [(6,.box 219 [.d (.v (.map none)),.d (.v (.map none))]),(7,.box 219 [.mp 601,.mp 602]),(601,.mp 201 (dt L1)),(602,.mp 217 (dt x.2)),(33,.it E2 x.1)]⟩) (fun x=>((List.range E2.length).filter fun k=>!x.1.contains k).length) ([],[]) ?_ (L6 E2) ?_
   .refine aK.fk aN (by simp[dt]) (by simp[dt])
   .rintro⟨Kp,L2⟩ AX;dsimp only at AX ⊢;refine yf (aB _) [2,3,4,6,7,33,35] [6,7,601,602,33] aN fun K' ao=>?_;refine RO (r:=33) (ents:=E2) (seen:=Kp) rfl rfl ak ak ak ak (fun dy=>?_) (fun j hj jd=>?_)
    rotate_left
    .have fM:=nY AX.ok;simp at fM;have bC:=eq_true fM;obtain⟨s1,dG⟩:=(zF wC fQ).str E2[j] (OF hj)
     (repeat refine vI fun Kq af=>?_;simp;(repeat refine⟨aa,?_⟩);refine af _ ?_)
     refine vJ (ao _ ?_);refine AW.st bA ?_;refine ag fun K4 ck=>aI ?_;refine ar (ck _ (bd (yf (aB _) [2,3,4,6,7,10,11,33] [6,7,601,602,33] aN fun K' ao=>?_)));refine RN (r:=33) (ents:=E2) (seen:=Kp) (j:=j) rfl rfl ak ak ak ak hj ?_
     (repeat refine vI fun Kq af=>?_;simp[dG];(repeat refine⟨aa,?_⟩);refine af _ ?_)
     refine vJ (ao _ ?_);refine AW.st (by simp[dG];rfl) ?_;have qf:=(Aq @dG (Aq @bC @eO));refine CB ?_;(try simp only[aT,aV]);refine ba.mk (Kp ++ [j],cY L2 s1 E2[j].2) (L0 (zF wC fQ) AX hj dG) (Pe hj jd) ?_;refine cI
    .have Xv:=copied wC fQ AX dy;clear AX dy
     (repeat refine vI fun Kq af=>?_;simp;(repeat refine⟨aa,?_⟩);refine af _ ?_)
     refine vJ (ao _ ?_);refine AW.st bA ?_;refine ag fun K4 ck=>al ?_;refine bW (aU _ (ag fun K5 b9=>br trivial ga [2,3,4,6,7,44,45,46] [6,7,601,602] ?_));refine cy (S:=Nat×List (Value×Value)) (fun x=>x.1<=KI.length/\ql x.2 (MI x.1)) (fun x=>⟨bn [(2,.d (.sl none (cC.map fun b=>[.v (.bool b)]))),(3,.d (.ip [.sl none NN,.sl none RR])),(4,.d (.ip [.dm false I,.dm false C])),(6,.ref 6 0 0),(7,.ref 7 0 0),(44,.d (.sl none (KI.map fun x=>[.v (.int .i64 x)]))),(45,int KI.length),(46,int x.1)],aw [(6,.box 219 [.d (.v (.map none)),.d (.v (.map none))]),(7,.box 219 [.mp 601,.mp 602]),(601,.mp 201 (dt x.2)),(602,.mp 217 (dt L2))]⟩) (fun x=>KI.length - x.1) (0,L1) ?_ ⟨aa,by rw[Xz];exact Xu⟩ ?_
     .refine cI
     .rintro⟨k,L3⟩ ⟨lL,D7⟩;dsimp only at lL D7 ⊢;refine aq [2,3,4,6,7,44,45,46,47] [6,7,601,602] ?_;refine ag fun K6 eH=>eE (b:=k < KI.length) (by simp[D.le,D.le.go,aL]) (fun hc=>?_) (fun hc=>?_)
      .have aG:=hc
       have ff:k < cC.length:=aa
       obtain⟨i,hi,He,r5⟩:=XA k aG ff
       have mw:i < NN.length:=aa
       have lF:NN[i]=[.v (.string (bs p.names[i].name)),.v (.int .i64 p.names[i].kind),.v (.int .i64 p.names[i].count)]:=by
        have:=nK i hi;rw[By mw]at this;exact AI this
       generalize bs p.names[i].name=nm at lF r5;generalize p.names[i].kind=kd at lF;generalize p.names[i].count=ct at lF;have fM:=nY D7.ok;simp at fM;have bC:=eq_true fM;refine ar (eH _ (ag fun K7 eL=>bd ?_));have qf:=(Aq @aG @He);refine ay [2,3,4,6,7,12,13,44,45,46] [6,7,601,602] ?_;refine vO (aB _) ah ah fun K' ao=>?_;(repeat refine eK fun Kq af=>?_;simp[mw,lF,ff,bC,eO];(repeat refine⟨aa,?_⟩);refine af _ ?_);refine mQ (ao _ ?_);refine eL _ (AW.norm [2,3,4,6,7,44,45,46] [6,7,601,602] aN (AW.st (by simp[mw,lF,ff,bC,eO];rfl) ?_));refine c6 ?_;(try simp only[aT,aV]);refine ba.mk (k+1,cY L3 nm (.bool cC[k])) ⟨aa,by rw[r5];exact j8 D7 _ _⟩ aa ?_;refine cI
      .have kM:k=KI.length:=aa
       refine bW (b9 _ ?_)
       have Xx:ql L3 (M 0).1:=by rw[M1,<- kM];exact D7
       have Xw:ql L2 (M 0).2:=by rw[M1];exact Xv
       refine ag fun K8 fA=>aq [3,4,6,7,65,66,67] [6,7,601,602] ?_;refine cy (S:=Nat×nE) (fun x=>x.1<=p.ax.length/\ql x.2.1 (M x.1).1/\ql x.2.2 (M x.1).2) (fun x=>⟨bn [(3,.d (.ip [.sl none NN,.sl none RR])),(4,.d (.ip [.dm false I,.dm false C])),(6,.ref 6 0 0),(7,.ref 7 0 0),(65,.d (.sl none RR)),(66,int RR.length),(67,int x.1)],aw [(6,.box 219 [.d (.v (.map none)),.d (.v (.map none))]),(7,.box 219 [.mp 601,.mp 602]),(601,.mp 201 (dt x.2.1)),(602,.mp 217 (dt x.2.2))]⟩) (fun x=>p.ax.length - x.1) (0,(L3,L2)) ?_ ⟨aa,Xx,Xw⟩ ?_
       .refine cI
       .rintro⟨n,L4,L5⟩ ⟨hn,jR,jv⟩;dsimp only at hn jR jv ⊢;have yY:=M6 n;have y5:=fun h=>gM n h L4 L5 jR jv;have afm:=Hg (n+1);have Hf:=M3 n;have HV:=M5 n
        have M4:n=p.ax.length->M p.ax.length=M n:=fun h=>by rw[h]
        have Ea:=Hg n;generalize hmn:M n=mn at yY Hf HV jR jv M4 Ea;obtain⟨N1,N2⟩:=mn;dsimp only at Hf HV jR jv Ea;clear Hg M3 M5 gM M6;refine aq [3,4,6,7,65,66,67,68] [6,7,601,602] ?_;refine ag fun K9 jt=>?_;by_cases aG:n < p.ax.length
        .have eW:n < RR.length:=aa
         refine cm (by simp[eW]) (ar (jt _ ?_));refine ag fun ot e7=>bd ?_;obtain⟨e,he,bp⟩:=y5 aG;obtain⟨i,hi,oL,_,nd⟩:=FI aZ (OF aG);obtain⟨u5,lh,_⟩:=we aZ _ (OF aG)
         have N4:p.ax[n].name=p.names[i].name:=by
          obtain⟨i2,fZ,lJ,dW⟩:=uh lh;have h1:bH p p.ax[n].name=(i2:Int):=lJ
          have:i2=i:=aa
          subst this
          have:p.names[i2].name=p.ax[n].name:=by simpa using dW
          exact this.symm
         have bG:=yY aG;have jw:=rv n aG;have jJ:=b5 p.ax[n].name;rw[oL]at jJ;have D9:=Hf i hi;rw[<- N4]at D9;unfold vq at bG;simp only[oL,agO,nd,he,rZ]at bG;unfold eg at jw;rw[he]at jw;clear lh N4 yY y5;generalize p.ax[n]=r at jw jJ u5 bG D9 oL;obtain⟨rk,rn,rc⟩:=r;dsimp only at jw jJ u5 bG D9 oL;generalize eQ (gA p (T n).is) (gA p s.is) e=yes at bp bG;rw[show lV (some e)=dR e from rfl]at jw;simp only[dS]at jw;have tO:=Wt jv HV (bs rn);have y9:=Wu L5 (bs rn);generalize pg:nX (dL N2 (bs rn))=c at D9 tO bG
         have oN:∀ x:Int,nX (dL (cY N2 (bs rn) (.int .i64 x)) (bs rn))=x:=fun x=>by rw[qM,if_pos rfl];rfl
         have mw:i < NN.length:=aa
         have lF:NN[i]=[.v (.string (bs p.names[i].name)),.v (.int .i64 p.names[i].kind),.v (.int .i64 p.names[i].count)]:=by
          have:=nK i hi;rw[By mw]at this;exact AI this
         have Ec:RR[n]=[.v (.int .i64 rk),.v (.string (bs rn)),dR e]:=by
          rw[By eW]at jw;exact AI jw
         have Nd:(dR e).one=true:=by cases e<;>rfl
         generalize p.names[i].name=nm at lF;generalize p.names[i].kind=kd at lF;generalize p.names[i].count=top at lF bG;generalize bs rn=key at *;generalize dR e=er at Ec bp Nd;clear jw oL nd;have fM:=nY jR.ok;simp at fM;have bC:=eq_true fM;have ff:=nY jv.ok;simp at ff;have df:=eq_true ff;have Eo:=fun x:Value=>nY (zG key x jv.ok);simp at Eo;have ie:=fun x=>eq_true (Eo x);have qf:=(Aq @eW (Aq @Ec @Nd));refine ay [3,4,6,7,15,65,66,67] [6,7,601,602,15] ?_;refine fI 15 ?_;refine rg [3,4,6,7,15,16,65,66,67] [6,7,601,602] aN fun K' ao=>?_;(repeat refine aM fun Kq af=>?_;simp[qp];(repeat refine⟨aa,?_⟩);refine af _ ?_);refine aM fun Kq af=>?_;simp[qp];refine dT.rH (bp) (by simp[qp];rfl) (by first | exact D.bJ _ | simp[aL,agF,agy,D.le,D.le.go,D.le_refl,D.bJ,qp]) (by simp[D.scalar,qp]) ?_;refine af _ ?_;simp only[aR,dY];(repeat refine aM fun Kq af=>?_;simp[qp];(repeat refine⟨aa,?_⟩);refine af _ ?_);refine bK (ao _ (AW.st (by simp[qp];rfl) ?_));have qf:=(Aq @mw @lF);refine vB jJ [3,4,6,7,15,16,17,65,66,67] [6,7,601,602] ?_;refine aq [3,4,6,7,15,16,17,65,66,67,86] [6,7,601,602] ?_;refine bd ?_
         have Bu:rk=1\/rk=2\/rk=3\/rk=4\/rk=5\/rk=6:=aa
         rcases Bu with rfl | rfl | rfl | rfl | rfl | rfl
         .simp at bG;refine aq [3,4,6,7,15,16,17,65,66,67,86,87] [6,7,601,602] ?_;refine aI ?_;have qf:=(Aq @bC (Aq @df (Aq @ie @eO)));refine eJ e7 [3,4,6,7,65,66,67] [6,7,601,602] ?_;refine c6 ?_;(try simp only[aT,aV]);refine ba.mk (n+1,(cY L4 key (.bool yes),L5)) ⟨aa,?_,?_⟩ aa ?_
          .rw[bG];exact j8 jR _ _
          .rw[bG];exact jv
          .refine cI
         .simp at bG;refine aq [3,4,6,7,15,16,17,65,66,67,86,87] [6,7,601,602] ?_;refine al (aq [3,4,6,7,15,16,17,65,66,67,86,94] [6,7,601,602] ?_);refine aI (aq [3,4,6,7,15,65,66,67,96] [6,7,601,602] ?_)
          cases yes with
          | true=>
           simp at bG;refine aI ?_;have qf:=(Aq @bC (Aq @df (Aq @ie @eO)));refine eJ e7 [3,4,6,7,65,66,67] [6,7,601,602] ?_;refine c6 ?_;(try simp only[aT,aV]);refine ba.mk (n+1,(cY L4 key (.bool true),L5)) ⟨aa,?_,?_⟩ aa ?_
           .rw[bG];exact j8 jR _ _
           .rw[bG];exact jv
           .refine cI
          | false=>
           simp at bG;refine al (ar ?_);refine e7 _ (AW.norm [3,4,6,7,65,66,67] [6,7,601,602] aN (AW.st bA ?_));refine c6 ?_;(try simp only[aT,aV]);refine ba.mk (n+1,(L4,L5)) ⟨aa,?_,?_⟩ aa ?_
           .rw[bG];exact jR
           .rw[bG];exact jv
           .refine cI
         .simp at bG;refine aq [3,4,6,7,15,16,17,65,66,67,86,87] [6,7,601,602] ?_;refine al (aq [3,4,6,7,15,16,17,65,66,67,86,94] [6,7,601,602] ?_);refine al (aq [3,4,6,7,15,16,17,65,66,67,86,101] [6,7,601,602] ?_);refine aI (aq [3,4,6,7,15,65,66,67,103] [6,7,601,602] ?_)
          cases yes with
          | true=>
           simp at bG;refine aI ?_;have qf:=(Aq @bC (Aq @df (Aq @ie @eO)));refine eJ e7 [3,4,6,7,65,66,67] [6,7,601,602] ?_;refine c6 ?_;(try simp only[aT,aV]);refine ba.mk (n+1,(cY L4 key (.bool false),L5)) ⟨aa,?_,?_⟩ aa ?_
           .rw[bG];exact j8 jR _ _
           .rw[bG];exact jv
           .refine cI
          | false=>
           simp at bG;refine al (ar ?_);refine e7 _ (AW.norm [3,4,6,7,65,66,67] [6,7,601,602] aN (AW.st bA ?_));refine c6 ?_;(try simp only[aT,aV]);refine ba.mk (n+1,(L4,L5)) ⟨aa,?_,?_⟩ aa ?_
           .rw[bG];exact jR
           .rw[bG];exact jv
           .refine cI
         .simp at bG;refine aq [3,4,6,7,15,16,17,65,66,67,86,87] [6,7,601,602] ?_;refine al (aq [3,4,6,7,15,16,17,65,66,67,86,94] [6,7,601,602] ?_);refine al (aq [3,4,6,7,15,16,17,65,66,67,86,101] [6,7,601,602] ?_);refine al (ag fun sR mj=>?_);refine aq [3,4,6,7,15,16,17,65,66,67,86,108] [6,7,601,602] ?_;refine aI (ar ?_);refine mj _ (AW.norm [3,4,6,7,15,16,17,65,66,67,86,108] [6,7,601,602] aN (AW.st bA ?_));refine aI (ag fun vY j9=>?_);have HJ:∃ oc,j7 (.string key) (dt L5)=oc/\((oc=none/\c=0)\/oc=some (.v (.int .i64 c))):=⟨_,rfl,tO⟩;clear tO;obtain⟨oc,l6,tO⟩:=HJ
          rcases tO with⟨rfl,rfl⟩ | rfl
          .cases yes with
           | true=>
            by_cases jx:0 < top
            .simp[jx,oN,pg]at bG;have qf:=(Aq @bC (Aq @df (Aq @ie (Aq @eO (Aq @l6 (Aq @aio (Aq @aip (Aq @aiq @jx))))))));refine ay [3,4,6,7,15,16,17,65,66,67,120] [6,7,601,602] ?_;refine cm (by simp[jx]) ?_;have qf:=(Aq @bC (Aq @df (Aq @ie (Aq @eO (Aq @l6 aiE)))));refine eJ j9 [3,4,6,7,15,16,17,65,66,67] [6,7,601,602] ?_;refine ag fun mT gp=>aq [3,4,6,7,15,17,65,66,67,133] [6,7,601,602] ?_;refine al (ar ?_);refine gp _ (AW.norm [3,4,6,7,15,17,65,66,67] [6,7,601,602] aN (AW.st bA ?_));have qf:=(Aq @bC (Aq @df (Aq @ie (Aq @eO (Aq @y9 aiE)))));refine eJ e7 [3,4,6,7,65,66,67] [6,7,601,602] ?_;refine c6 ?_;(try simp only[aT,aV]);refine ba.mk (n+1,(cY L4 key (.bool ((0:Int)+1 == top)),cY L5 key (.int .i64 ((0:Int)+1)))) ⟨aa,?_,?_⟩ aa ?_
             .rw[bG];exact j8 jR _ _
             .rw[bG];exact j8 jv _ _
             .refine cI
            .simp[jx,oN,pg]at bG;have qf:=(Aq @bC (Aq @df (Aq @ie (Aq @eO (Aq @l6 (Aq @aio (Aq @aip (Aq @aiq @jx))))))));refine ay [3,4,6,7,15,16,17,65,66,67,120] [6,7,601,602] ?_;refine cw (by simp[jx]) (ar ?_);refine j9 _ (AW.norm [3,4,6,7,15,16,17,65,66,67] [6,7,601,602] aN (AW.st bA ?_));refine ag fun mT gp=>aq [3,4,6,7,15,17,65,66,67,133] [6,7,601,602] ?_;refine al (ar ?_);refine gp _ (AW.norm [3,4,6,7,15,17,65,66,67] [6,7,601,602] aN (AW.st bA ?_));have qf:=(Aq @bC (Aq @df (Aq @ie (Aq @eO (Aq @l6 aiE)))));refine eJ e7 [3,4,6,7,65,66,67] [6,7,601,602] ?_;refine c6 ?_;(try simp only[aT,aV]);refine ba.mk (n+1,(cY L4 key (.bool ((0:Int) == top)),L5)) ⟨aa,?_,?_⟩ aa ?_
             .rw[bG];exact j8 jR _ _
             .rw[bG];exact jv
             .refine cI
           | false=>
            simp[oN,pg]at bG;refine aq [3,4,6,7,15,16,17,65,66,67,120] [6,7,601,602] ?_;refine cw ak ?_;refine ar ?_;refine j9 _ (AW.norm [3,4,6,7,15,16,17,65,66,67] [6,7,601,602] aN (AW.st bA ?_));refine ag fun mT gp=>aq [3,4,6,7,15,17,65,66,67,133] [6,7,601,602] ?_;refine aI ?_;have qf:=(Aq @bC (Aq @df (Aq @ie @eO)));refine eJ gp [3,4,6,7,15,17,65,66,67] [6,7,601,602] ?_;have qf:=(Aq @bC (Aq @df (Aq @ie (Aq @eO (Aq @y9 aiE)))));refine eJ e7 [3,4,6,7,65,66,67] [6,7,601,602] ?_;refine c6 ?_;(try simp only[aT,aV]);refine ba.mk (n+1,(cY L4 key (.bool ((0:Int) == top)),cY L5 key (.int .i64 0))) ⟨aa,?_,?_⟩ aa ?_
            .rw[bG];exact j8 jR _ _
            .rw[bG];exact j8 jv _ _
            .refine cI
          .cases yes with
           | true=>
            by_cases jx:c < top
            .simp[jx,oN,pg]at bG;have qf:=(Aq @bC (Aq @df (Aq @ie (Aq @eO (Aq @l6 (Aq @aio (Aq @aip (Aq @aiq @jx))))))));refine ay [3,4,6,7,15,16,17,65,66,67,120] [6,7,601,602] ?_;refine cm (by simp[jx]) ?_;have qf:=(Aq @bC (Aq @df (Aq @ie (Aq @eO (Aq @l6 aiE)))));refine eJ j9 [3,4,6,7,15,16,17,65,66,67] [6,7,601,602] ?_;refine ag fun mT gp=>aq [3,4,6,7,15,17,65,66,67,133] [6,7,601,602] ?_;refine al (ar ?_);refine gp _ (AW.norm [3,4,6,7,15,17,65,66,67] [6,7,601,602] aN (AW.st bA ?_));have qf:=(Aq @bC (Aq @df (Aq @ie (Aq @eO (Aq @y9 aiE)))));refine eJ e7 [3,4,6,7,65,66,67] [6,7,601,602] ?_;refine c6 ?_;(try simp only[aT,aV]);refine ba.mk (n+1,(cY L4 key (.bool (c+1 == top)),cY L5 key (.int .i64 (c+1)))) ⟨aa,?_,?_⟩ aa ?_
             .rw[bG];exact j8 jR _ _
             .rw[bG];exact j8 jv _ _
             .refine cI
            .simp[jx,oN,pg]at bG;have qf:=(Aq @bC (Aq @df (Aq @ie (Aq @eO (Aq @l6 (Aq @aio (Aq @aip (Aq @aiq @jx))))))));refine ay [3,4,6,7,15,16,17,65,66,67,120] [6,7,601,602] ?_;refine cw (by simp[jx]) (ar ?_);refine j9 _ (AW.norm [3,4,6,7,15,16,17,65,66,67] [6,7,601,602] aN (AW.st bA ?_));refine ag fun mT gp=>aq [3,4,6,7,15,17,65,66,67,133] [6,7,601,602] ?_;refine al (ar ?_);refine gp _ (AW.norm [3,4,6,7,15,17,65,66,67] [6,7,601,602] aN (AW.st bA ?_));have qf:=(Aq @bC (Aq @df (Aq @ie (Aq @eO (Aq @l6 aiE)))));refine eJ e7 [3,4,6,7,65,66,67] [6,7,601,602] ?_;refine c6 ?_;(try simp only[aT,aV]);refine ba.mk (n+1,(cY L4 key (.bool (c == top)),L5)) ⟨aa,?_,?_⟩ aa ?_
             .rw[bG];exact j8 jR _ _
             .rw[bG];exact jv
             .refine cI
           | false=>
            simp[oN,pg]at bG;refine aq [3,4,6,7,15,16,17,65,66,67,120] [6,7,601,602] ?_;refine cw ak ?_;refine ar ?_;refine j9 _ (AW.norm [3,4,6,7,15,16,17,65,66,67] [6,7,601,602] aN (AW.st bA ?_));refine ag fun mT gp=>aq [3,4,6,7,15,17,65,66,67,133] [6,7,601,602] ?_;refine aI ?_;have qf:=(Aq @bC (Aq @df (Aq @ie @eO)));refine eJ gp [3,4,6,7,15,17,65,66,67] [6,7,601,602] ?_;have qf:=(Aq @bC (Aq @df (Aq @ie (Aq @eO (Aq @y9 aiE)))));refine eJ e7 [3,4,6,7,65,66,67] [6,7,601,602] ?_;refine c6 ?_;(try simp only[aT,aV]);refine ba.mk (n+1,(cY L4 key (.bool ((0:Int) == top)),cY L5 key (.int .i64 0))) ⟨aa,?_,?_⟩ aa ?_
            .rw[bG];exact j8 jR _ _
            .rw[bG];exact j8 jv _ _
            .refine cI
         .simp at bG;refine aq [3,4,6,7,15,16,17,65,66,67,86,87] [6,7,601,602] ?_;refine al (aq [3,4,6,7,15,16,17,65,66,67,86,94] [6,7,601,602] ?_);refine al (aq [3,4,6,7,15,16,17,65,66,67,86,101] [6,7,601,602] ?_);refine al (ag fun sR mj=>?_);refine aq [3,4,6,7,15,16,17,65,66,67,86,108] [6,7,601,602] ?_;refine al (gH trivial mj [3,4,6,7,15,16,17,65,66,67,86,108] [6,7,601,602] ?_);refine aI (ag fun vY j9=>?_);have HJ:∃ oc,j7 (.string key) (dt L5)=oc/\((oc=none/\c=0)\/oc=some (.v (.int .i64 c))):=⟨_,rfl,tO⟩;clear tO;obtain⟨oc,l6,tO⟩:=HJ
          rcases tO with⟨rfl,rfl⟩ | rfl
          .cases yes with
           | true=>
            by_cases jx:0 < top
            .simp[jx,oN,pg]at bG;have qf:=(Aq @bC (Aq @df (Aq @ie (Aq @eO (Aq @l6 (Aq @aio (Aq @aip (Aq @aiq @jx))))))));refine ay [3,4,6,7,15,16,17,65,66,67,120] [6,7,601,602] ?_;refine cm (by simp[jx]) ?_;have qf:=(Aq @bC (Aq @df (Aq @ie (Aq @eO (Aq @l6 aiE)))));refine eJ j9 [3,4,6,7,15,16,17,65,66,67] [6,7,601,602] ?_;refine ag fun mT gp=>aq [3,4,6,7,15,17,65,66,67,133] [6,7,601,602] ?_;refine al (ar ?_);refine gp _ (AW.norm [3,4,6,7,15,17,65,66,67] [6,7,601,602] aN (AW.st bA ?_));have qf:=(Aq @bC (Aq @df (Aq @ie (Aq @eO (Aq @y9 aiE)))));refine eJ e7 [3,4,6,7,65,66,67] [6,7,601,602] ?_;refine c6 ?_;(try simp only[aT,aV]);refine ba.mk (n+1,(cY L4 key (.bool ((0:Int)+1 == top)),cY L5 key (.int .i64 ((0:Int)+1)))) ⟨aa,?_,?_⟩ aa ?_
             .rw[bG];exact j8 jR _ _
             .rw[bG];exact j8 jv _ _
             .refine cI
            .simp[jx,oN,pg]at bG;have qf:=(Aq @bC (Aq @df (Aq @ie (Aq @eO (Aq @l6 (Aq @aio (Aq @aip (Aq @aiq @jx))))))));refine ay [3,4,6,7,15,16,17,65,66,67,120] [6,7,601,602] ?_;refine cw (by simp[jx]) (ar ?_);refine j9 _ (AW.norm [3,4,6,7,15,16,17,65,66,67] [6,7,601,602] aN (AW.st bA ?_));refine ag fun mT gp=>aq [3,4,6,7,15,17,65,66,67,133] [6,7,601,602] ?_;refine al (ar ?_);refine gp _ (AW.norm [3,4,6,7,15,17,65,66,67] [6,7,601,602] aN (AW.st bA ?_));have qf:=(Aq @bC (Aq @df (Aq @ie (Aq @eO (Aq @l6 aiE)))));refine eJ e7 [3,4,6,7,65,66,67] [6,7,601,602] ?_;refine c6 ?_;(try simp only[aT,aV]);refine ba.mk (n+1,(cY L4 key (.bool ((0:Int) == top)),L5)) ⟨aa,?_,?_⟩ aa ?_
             .rw[bG];exact j8 jR _ _
             .rw[bG];exact jv
             .refine cI
           | false=>
            simp[oN,pg]at bG;refine aq [3,4,6,7,15,16,17,65,66,67,120] [6,7,601,602] ?_;refine cw ak ?_;refine ar ?_;refine j9 _ (AW.norm [3,4,6,7,15,16,17,65,66,67] [6,7,601,602] aN (AW.st bA ?_));refine ag fun mT gp=>aq [3,4,6,7,15,17,65,66,67,133] [6,7,601,602] ?_;refine al (ar ?_);refine gp _ (AW.norm [3,4,6,7,15,17,65,66,67] [6,7,601,602] aN (AW.st bA ?_));have qf:=(Aq @bC (Aq @df (Aq @ie (Aq @eO (Aq @l6 aiE)))));refine eJ e7 [3,4,6,7,65,66,67] [6,7,601,602] ?_;refine c6 ?_;(try simp only[aT,aV]);refine ba.mk (n+1,(cY L4 key (.bool ((0:Int) == top)),L5)) ⟨aa,?_,?_⟩ aa ?_
            .rw[bG];exact j8 jR _ _
            .rw[bG];exact jv
            .refine cI
          .cases yes with
           | true=>
            by_cases jx:c < top
            .simp[jx,oN,pg]at bG;have qf:=(Aq @bC (Aq @df (Aq @ie (Aq @eO (Aq @l6 (Aq @aio (Aq @aip (Aq @aiq @jx))))))));refine ay [3,4,6,7,15,16,17,65,66,67,120] [6,7,601,602] ?_;refine cm (by simp[jx]) ?_;have qf:=(Aq @bC (Aq @df (Aq @ie (Aq @eO (Aq @l6 aiE)))));refine eJ j9 [3,4,6,7,15,16,17,65,66,67] [6,7,601,602] ?_;refine ag fun mT gp=>aq [3,4,6,7,15,17,65,66,67,133] [6,7,601,602] ?_;refine al (ar ?_);refine gp _ (AW.norm [3,4,6,7,15,17,65,66,67] [6,7,601,602] aN (AW.st bA ?_));have qf:=(Aq @bC (Aq @df (Aq @ie (Aq @eO (Aq @y9 aiE)))));refine eJ e7 [3,4,6,7,65,66,67] [6,7,601,602] ?_;refine c6 ?_;(try simp only[aT,aV]);refine ba.mk (n+1,(cY L4 key (.bool (c+1 == top)),cY L5 key (.int .i64 (c+1)))) ⟨aa,?_,?_⟩ aa ?_
             .rw[bG];exact j8 jR _ _
             .rw[bG];exact j8 jv _ _
             .refine cI
            .simp[jx,oN,pg]at bG;have qf:=(Aq @bC (Aq @df (Aq @ie (Aq @eO (Aq @l6 (Aq @aio (Aq @aip (Aq @aiq @jx))))))));refine ay [3,4,6,7,15,16,17,65,66,67,120] [6,7,601,602] ?_;refine cw (by simp[jx]) (ar ?_);refine j9 _ (AW.norm [3,4,6,7,15,16,17,65,66,67] [6,7,601,602] aN (AW.st bA ?_));refine ag fun mT gp=>aq [3,4,6,7,15,17,65,66,67,133] [6,7,601,602] ?_;refine al (ar ?_);refine gp _ (AW.norm [3,4,6,7,15,17,65,66,67] [6,7,601,602] aN (AW.st bA ?_));have qf:=(Aq @bC (Aq @df (Aq @ie (Aq @eO (Aq @l6 aiE)))));refine eJ e7 [3,4,6,7,65,66,67] [6,7,601,602] ?_;refine c6 ?_;(try simp only[aT,aV]);refine ba.mk (n+1,(cY L4 key (.bool (c == top)),L5)) ⟨aa,?_,?_⟩ aa ?_
             .rw[bG];exact j8 jR _ _
             .rw[bG];exact jv
             .refine cI
           | false=>
            simp[oN,pg]at bG;refine aq [3,4,6,7,15,16,17,65,66,67,120] [6,7,601,602] ?_;refine cw ak ?_;refine ar ?_;refine j9 _ (AW.norm [3,4,6,7,15,16,17,65,66,67] [6,7,601,602] aN (AW.st bA ?_));refine ag fun mT gp=>aq [3,4,6,7,15,17,65,66,67,133] [6,7,601,602] ?_;refine al (ar ?_);refine gp _ (AW.norm [3,4,6,7,15,17,65,66,67] [6,7,601,602] aN (AW.st bA ?_));have qf:=(Aq @bC (Aq @df (Aq @ie (Aq @eO (Aq @l6 aiE)))));refine eJ e7 [3,4,6,7,65,66,67] [6,7,601,602] ?_;refine c6 ?_;(try simp only[aT,aV]);refine ba.mk (n+1,(cY L4 key (.bool (c == top)),L5)) ⟨aa,?_,?_⟩ aa ?_
            .rw[bG];exact j8 jR _ _
            .rw[bG];exact jv
            .refine cI
         .simp at bG;refine aq [3,4,6,7,15,16,17,65,66,67,86,87] [6,7,601,602] ?_;refine al (aq [3,4,6,7,15,16,17,65,66,67,86,94] [6,7,601,602] ?_);refine al (aq [3,4,6,7,15,16,17,65,66,67,86,101] [6,7,601,602] ?_);refine al (ag fun sR mj=>?_);refine aq [3,4,6,7,15,16,17,65,66,67,86,108] [6,7,601,602] ?_;refine al (gH trivial mj [3,4,6,7,15,16,17,65,66,67,86,108] [6,7,601,602] ?_);refine al (aq [3,4,6,7,15,16,65,66,67,149] [6,7,601,602] ?_);refine aI (aq [3,4,6,7,15,65,66,67,151] [6,7,601,602] ?_)
          cases yes with
          | true=>
           simp at bG;refine aI (rO (aB _) ah [(1,7),(3,999),(5,7),(7,999),(8,602),(9,601)] ah fun K' ao=>?_);(repeat refine jm fun Kq af=>?_;simp[bC,df,ie,eO];(repeat refine⟨aa,?_⟩);refine af _ ?_);refine ky (ao _ ?_);refine e7 _ (AW.norm [3,4,6,7,65,66,67] [6,7,601,602] aN (AW.st (by simp[bC,df,ie,eO];rfl) ?_));refine c6 ?_;(try simp only[aT,aV]);refine ba.mk (n+1,(cY L4 key (.bool false),cY L5 key (.int .i64 0))) ⟨aa,?_,?_⟩ aa ?_
           .rw[bG];exact j8 jR _ _
           .rw[bG];exact j8 jv _ _
           .refine cI
          | false=>
           simp at bG;refine al (ar ?_);refine e7 _ (AW.norm [3,4,6,7,65,66,67] [6,7,601,602] aN (AW.st bA ?_));refine c6 ?_;(try simp only[aT,aV]);refine ba.mk (n+1,(L4,L5)) ⟨aa,?_,?_⟩ aa ?_
           .rw[bG];exact jR
           .rw[bG];exact jv
           .refine cI
        .have bl:n=p.ax.length:=aa
         have XC:=M4 bl;refine cw (by simp<;>omega) ?_;refine bW (fA _ (aq [6] [6,7,601,602] ?_));have eb:=Mr jR Ea.1;have fb:=Mr jv Ea.2;refine bR ?_;simp[D.le,D.le.go,aL,XC,qp,eb,fb]
theorem Qe {p:aP} (hg:j2 p) {i:Nat} (hi:i < p.names.length):cZ p p.names[i]<=8:=by
 have h5:=hg.count _ (OF hi);unfold cZ;split
 .rcases h5 with h5 | h5<;>omega
 .split
  .omega
  .split<;>omega
def mJ (p:aP) (k:Nat):Int:=b6 (gm p k)
theorem J8 (p:aP):mJ p 0=1:=rfl
theorem Qn (p:aP):mJ p p.names.length=b6 (bU p):=rfl
theorem Fs {p:aP} (hg:j2 p) {i:Nat} (hi:i < p.names.length):mJ p (i+1)=if cZ p p.names[i]=0 then mJ p i else mJ p i * cZ p p.names[i]:=acw hg hi
theorem Cx {p:aP} (hg:j2 p):∀ k,k<=p.names.length->0 < mJ p k
 | 0,_=>by rw[J8];decide
 | k+1,h=>by
  have ih:=Cx hg k aa;have hk:=uu hg (show k < p.names.length by omega);rw[Fs hg aa];split
  .exact ih
  .exact Int.mul_pos ih aa
theorem Qp {p:aP} (hg:j2 p) {k:Nat} (h:k < p.names.length):mJ p k<=mJ p (k+1):=by
 have ih:=Cx hg k aa;have hk:=uu hg h;rw[Fs hg h];split
 .exact Int.le_refl _
 .have:=ahq (show (1:Int)<=cZ p p.names[k] by omega) (ahW ih);rw[Int.mul_one]at this;exact this
theorem Qo {p:aP} (hg:j2 p):∀ d k,k+d<=p.names.length->mJ p k<=mJ p (k+d)
 | 0,_,_=>Int.le_refl _
 | d+1,k,h=>by
  have h1:=Qo hg d k aa;have h2:=Qp hg (show k+d < p.names.length by omega)
  have:k+(d+1)=k+d+1:=aa
  rw[this];omega
theorem acs {p:aP} (hg:j2 p) {k:Nat} (h:k<=p.names.length):mJ p k<=b6 (bU p):=by
 have:=Qo hg (p.names.length - k) k aa;rw[show k+(p.names.length - k)=p.names.length by omega]at this;exact this
def mi (p:aP):Nat->Int
 | 0=>1
 | k+1=>if 0 < (e6 p).getD k 0/\mi p k<=4096 then mi p k * (e6 p).getD k 0 else mi p k
theorem Q3 {p:aP} {k:Nat} (h:k < p.names.length):(e6 p).getD k 0=cZ p p.names[k]:=by
 have:k < (e6 p).length:=by simpa[e6]using h
 rw[gV this];simp[e6]
theorem DT {p:aP} (hg:j2 p):∀ k,k<=p.names.length->(mJ p k<=4096/\mi p k=mJ p k)\/(4096 < mJ p k/\4096 < mi p k/\mi p k<=32768)
 | 0,_=>.inl ⟨by rw[J8];decide,by rw[J8];rfl⟩
 | k+1,h=>by
  have hk:k < p.names.length:=aa
  have ih:=DT hg k aa;have h1:=Fs hg hk;have h2:=uu hg hk;have h3:=Qe hg hk;have h4:=Qp hg hk;have h5:=Cx hg k aa;rw[mi,Q3 hk]
  rcases ih with⟨i1,i2⟩ | ⟨i1,i2,i3⟩
  .rw[i2];by_cases hz:cZ p p.names[k]=0
   .rw[if_pos hz]at h1;rw[if_neg aa,h1];exact .inl ⟨i1,rfl⟩
   .rw[if_neg hz]at h1;rw[if_pos ⟨aa,i1⟩,h1];have h6:=Int.mul_le_mul i1 h3 h2 bO;by_cases hb:mJ p k * cZ p p.names[k]<=4096
    .exact .inl ⟨hb,rfl⟩
    .exact .inr ⟨aa,aa,aa⟩
  .rw[if_neg aa];exact .inr ⟨aa,i2,i3⟩
def oX (p:aP):Bool:=decide (4096 < b6 (bU p)) || decide (6 < (aY p).length)
def uq (p:aP) (most:Int):Bool:=!oX p && (decide (most < b6 (bU p)) || decide (4 < (aY p).length))
theorem W5 {p:aP} (hg:j2 p):(decide (4096 < mi p p.names.length) || decide (6 < (aY p).length))=oX p:=by
 unfold oX;have h:=DT hg p.names.length (agD _);rw[Qn]at h
 rcases h with⟨h1,h2⟩ | ⟨h1,h2,_⟩
 .rw[h2]
 .rw[decide_eq_true h1,decide_eq_true h2]
theorem W4 {p:aP} (hg:j2 p) (most:Int):(!oX p && (decide (most < mi p p.names.length) || decide (4 < (aY p).length)))=uq p most:=by
 unfold uq;have h:=DT hg p.names.length (agD _);rw[Qn]at h
 rcases h with⟨h1,h2⟩ | ⟨h1,h2,_⟩
 .rw[h2]
 .have:oX p=true:=by unfold oX;rw[decide_eq_true h1];rfl
  rw[this];rfl
theorem W6 (G:aC) (hM:j3 G) (p:aP) (aZ:dr p=none) (hk:∀ r∈p.ax,mR r) (most:Int):aD prog G 115 [dU p,ab most] (.bx [.v (.bool (oX p)),.v (.bool (uq p most))]):=by
 have hg:=iB aZ;have fy:=hg.names;have pt:=CG G hM p aZ hk;have ga:=C4 G p aa 1;have l3:iT p.names 1 p.names.length=aY p:=rfl;rw[l3]at ga;simp only[dU,ft,cj,gg]at pt ga
 have eS:(e6 p).length=p.names.length:=by simp[e6]
 have wV:∀ k (h:k < (e6 p).length),mi p (k+1)=if 0 < (e6 p)[k]/\mi p k<=4096 then mi p k * (e6 p)[k] else mi p k:=fun k h=>by rw[mi,gV h]
 have YL:∀ k,k<=(e6 p).length->0 < mi p k/\mi p k<=32768:=fun k h=>by
  have h1:=DT hg k aa;have h2:=Cx hg k aa
  rcases h1 with⟨h1,h3⟩ | ⟨_,h1,h3⟩<;>omega
 have XO:∀ k (h:k < (e6 p).length),0<=(e6 p)[k]/\(e6 p)[k]<=8:=fun k h=>by
  have h1:=uu hg (show k < p.names.length by omega);have h2:=Qe hg (show k < p.names.length by omega);rw[<- Q3 aa,gV h]at h1 h2;exact⟨h1,h2⟩
 have Iy:=W5 hg;have xb:=W4 hg most;have dA:=vl p.names 1 p.names.length;rw[l3]at dA;rw[<- eS]at Iy xb;rw[<- xb,<- Iy];clear Iy xb;have YJ:mi p 0=1:=rfl;generalize mi p=g at *;generalize e6 p=RP at *
 have kT:((aY p).map fun x=>[D.v (.int .i64 x)]).length=(aY p).length:=ak
 generalize ((aY p).map fun x=>[D.v (.int .i64 x)])=IN at *;generalize (aY p).length=m at *;simp only[dU,ft,cj,ab];generalize p.names.map bo=NN at *;generalize p.ax.map eg=RR at *;refine aD.aQ (aB _) func115 rfl rfl (rs:=[.tmp 4,.tmp 5]) results115 (by simp[ntmps115]) fun X=>?_;simp only[ntmps115,List.map];refine aq [1,2] [2] ?_;refine fI 2 ?_;refine aq [1,2,6] [] ?_;refine ag fun K1 aF=>br trivial pt [1,2,6,7,8] [] ?_;refine cy (S:=Nat) (fun k=>k<=RP.length) (fun k=>⟨bn [(1,int most),(2,.d (.ip [.sl none NN,.sl none RR])),(6,int (g k)),(7,int k),(8,.d (.sl none (RP.map fun x=>[.v (.int .i64 x)])))],aw []⟩) (fun k=>RP.length - k) 0 ?_ aa ?_
 .rw[YJ];refine cI
 .intro k lL;refine ag fun K2 au=>?_;have p3:=wV k;have hb:=YL k lL
  have u0:k=RP.length->g RP.length=g k:=fun e=>by rw[e]
  generalize nN:g k=v at p3 hb u0 ⊢;refine aq [1,2,6,7,8,15] [] ?_;refine eE (b:=k < RP.length) (by simp[D.le,D.le.go,aL]) (fun hc=>?_) (fun hc=>?_)
  .have p3:=p3 hc;have hR:=XO k hc;refine ar (au _ (ag fun K3 aU=>bd ?_));generalize gW:RP[k]=K at p3 hR;by_cases hp:K > 0
   .by_cases hv:v<=4096
    .rw[if_pos ⟨hp,hv⟩]at p3;have hw:=Int.mul_le_mul hv hR.2 hR.1 bO;have p8:=aie (ahW hb.1) hR.1;have qf:=(Aq @hc (Aq @gW (Aq @hp @hv)));refine ay [1,2,6,7,8,26] [] ?_;refine cm (by simp[hp,hv]) ?_;have qf:=(Aq @hc @gW);refine eJ aU [1,2,6,7,8] [] ?_;refine c6 ?_;(try simp only[aT,aV]);refine ba.mk (k+1) aa aa ?_;rw[p3];refine cI
    .rw[if_neg (fun h=>hv h.2)]at p3;have qf:=(Aq @hc (Aq @gW (Aq @hp @hv)));refine ay [1,2,6,7,8,26] [] ?_;refine cw (by simp[hp,hv]) (ar (aU _ ?_));refine c6 ?_;(try simp only[aT,aV]);refine ba.mk (k+1) aa aa ?_;rw[p3];refine cI
   .rw[if_neg (fun h=>hp h.1)]at p3;have qf:=(Aq @hc (Aq @gW @hp));refine ay [1,2,6,7,8,26] [] ?_;refine cw (by simp[hp]) (ar (aU _ ?_));refine c6 ?_;(try simp only[aT,aV]);refine ba.mk (k+1) aa aa ?_;rw[p3];refine cI
  .have kM:k=RP.length:=aa
   refine bW (aF _ ?_);rw[u0 kM];clear p3 nN u0;by_cases h1:v > 4096
   .have qf:=@h1;refine ay [1,2,6,9] [] ?_;have qf:=@h1;refine ay [4,5] [] ?_;exact aW @h1
   .by_cases h2:(m:Int) > 6
    .have DX:6 < m:=aa
     have DW:¬ m<=6:=aa
     have qf:=(Aq @h1 (Aq @h2 @kT));refine fj ga [1,2,6,9] [] ?_;have qf:=(Aq @h1 @h2);refine ay [4,5] [] ?_;exact aW (Aq @h1 (Aq @h2 (Aq @DX @DW)))
    .have DX:m<=6:=aa
     have DW:¬ 6 < m:=aa
     have h4:((4:Int) < (m:Int))=(4 < m):=propext aa;by_cases h3:v > most
     .have qf:=(Aq @h1 (Aq @h2 @kT));refine fj ga [1,2,6,9] [] ?_;have qf:=(Aq @h1 (Aq @h2 @h3));refine ay [4,5] [] ?_;exact aW (Aq @h1 (Aq @h2 (Aq @h3 (Aq @DX @DW))))
     .have qf:=(Aq @h1 (Aq @h2 @kT));refine fj ga [1,2,6,9] [] ?_;have qf:=(Aq @h1 (Aq @h2 (Aq @h3 @kT)));refine fj ga [4,5] [] ?_;exact aW (Aq @h1 (Aq @h2 (Aq @h3 (Aq @DX (Aq @DW @h4)))))
theorem ae5 (G:aC) (hM:j3 G) (p:aP) (aZ:dr p=none) (hk:∀ r∈p.ax,mR r) (aS:(aY p).length<=6) (hP:b6 (bU p)<=4096):aD prog G 116 [dU p] (.bx [rh p (b6 (bU p)) ((2 ^ (aY p).length:Nat):Int) (cW (ef p)),.v (.bool true)]):=by
 have hg:=iB aZ;have fy:=hg.names;have ga:=C4 G p aa 1;have l3:iT p.names 1 p.names.length=aY p:=rfl;rw[l3]at ga;have pt:=CG G hM p aZ hk;have uc:=fun (nx:List (List D)) (n:Nat) (h1:(n:Int) < 4096)=>aff G hM p aZ hk (b6 (bU p)) ((2 ^ (aY p).length:Nat):Int) nx n aa aa;have tQ:=fun (nx:List (List D)) (n:Nat) (h1:n < 64)=>ae2 G p aZ (b6 (bU p)) ((2 ^ (aY p).length:Nat):Int) nx n aa aa aS;have mG:=fun n:Nat=>Pu aZ (n:Int) aa;have lI:=fun (s:Nat) (i:Nat)=>Q4 G p aZ hk (iW p s) (sF aZ s) (de i (aY p).length) (ui _ _) _ _ (mG s);have mo:=fun (s:Nat) (i:Nat)=>Pw aZ (sF aZ s) (de i (aY p).length) (m:=((ko p s p.names.length).2.1,(ko p s p.names.length).2.2)) (mG s);have uY:=fun (s:Nat) (i:Nat)=>(Dz aZ (sF aZ s) (de i (aY p).length)).1;have b5:=fun (nx:List (List D)) (s i:Nat)=>ae7 G hM p aZ hk (b6 (bU p)) ((2 ^ (aY p).length:Nat):Int) nx (lW p (iW p s) (de i (aY p).length)) (uY s i) hP _ _ (mo s i);have Iv:0 < b6 (bU p):=sB fun x hx=>(rM hg hx).m2;have dJ:=fun k (h:k < p.names.length)=>Fs hg h;have Iu:=fun k (h:k<=p.names.length)=>Cx hg k h;have fg:=fun k (h:k<=p.names.length)=>acs hg h;have eI:mJ p p.names.length=b6 (bU p):=rfl;have Eu:mJ p 0=1:=rfl
 have eS:(e6 p).length=p.names.length:=by simp[e6]
 have rv:∀ i (hi:i < p.names.length),(e6 p)[i]? = some (cZ p p.names[i]):=fun i hi=>by simp[e6,hi]
 have AU:=fun i (hi:i < p.names.length)=>uu hg hi;have nh:=fun s (h:s < (ef p).length)=>PJ h;have fN:=Fc p;have BP:=fun s i (h:i < 2 ^ (aY p).length)=>QY (p:=p) (s:=s) h;have eY:=fun s=>CF p (aY p).length s
 have ML:2 ^ (aY p).length<=64:=by
  have:=ahG (n:=2) aa aS;omega
 simp only[sy,ab,uK,iM]at uc tQ b5 lI;simp only[dU,ft,cj,rh,uH,gg]at ga pt lI uc tQ b5 nh ⊢;generalize ef p=rb at *;generalize Hm:qi p (aY p).length=Gi at *;clear Hm;generalize e6 p=RP at *;generalize mJ p=PN at *
 have kT:((aY p).map fun x=>[D.v (.int .i64 x)]).length=(aY p).length:=ak
 generalize ((aY p).map fun x=>[D.v (.int .i64 x)])=IN at *;generalize (aY p).length=m at *;generalize p.names.map bo=NN at *;generalize p.ax.map eg=RR at *;refine aD.aQ (aB _) func116 rfl rfl (rs:=[.tmp 2,.tmp 3]) results116 (by simp[ntmps116]) fun X=>?_;simp only[ntmps116,List.map];have fw:=@aih;refine ae fw [1] [1] ?_;refine dI fw 1 ?_;refine ae fw [1,4] [12] ?_;refine ag fun K1 aF=>?_
 have sa:¬ (IN.length:Int) > 6:=aa
 have qf:=(Aq fw @sa);refine fj ga [1,4,16] [12] ?_;refine cw (by simp<;>omega) ?_;refine ar (aF _ (ag fun K2 au=>br fw ga [1,4,19,20] [12] ?_));refine cy (S:=Nat) (fun k=>k<=m) (fun k=>⟨bn [(1,.d (.ip [.sl none NN,.sl none RR])),(4,.ref 12 0 0),(19,int m),(20,int k)],aw [(12,.box 99 [.d (.sl none NN),.d (.sl none RR),int 1,int ((2 ^ k:Nat):Int),.d (.sl (some false) [])])]⟩) (fun k=>m - k) 0 ?_ aa ?_
 .refine bq (Aq fw @kT)
 .intro k w5;have MM:2 ^ k<=64:=ah5 (ahG bO w5) ML;have MN:0 < 2 ^ k:=Nat.pow_pos bO
  have G7:((2 ^ (k+1):Nat):Int)=((2 ^ k:Nat):Int) * 2:=by rw[Nat.pow_succ];omega
  generalize zk:2 ^ k=w at MM MN G7 ⊢;refine ae fw [1,4,19,20,21] [12] ?_;refine ag fun K3 aU=>eE (b:=k < m) (by simp[D.le,D.le.go,aL,ab]) (fun hc=>?_) (fun hc=>?_)
  .refine ar (aU _ (ag fun K4 ck=>bd (gH fw ck [1,4,19,20] [12] ?_)));refine cE fw ?_;(try simp only[aT,aV]);refine ba.mk (k+1) aa aa ?_;rw[G7];refine bq fw
  .obtain rfl:m=k:=aa
   rw[<- zk];clear zk G7 MN MM;refine bW (au _ (ag fun K5 b9=>br fw pt [1,4,31,32,33] [12] ?_));refine cy (S:=Nat) (fun j=>j<=p.names.length) (fun j=>⟨bn [(1,.d (.ip [.sl none NN,.sl none RR])),(4,.ref 12 0 0),(31,.d (.sl none (RP.map fun x=>[.v (.int .i64 x)]))),(32,int RP.length),(33,int j)],aw [(12,.box 99 [.d (.sl none NN),.d (.sl none RR),int (PN j),int ((2 ^ m:Nat):Int),.d (.sl (some false) [])])]⟩) (fun j=>p.names.length - j) 0 ?_ aa ?_
   .rw[Eu];refine bq fw
   .intro j hj;have hq:=dJ j;have pw:=Iu j hj;have ZB:=fg j hj;have kQ:=fun h:j < p.names.length=>fg (j+1) h;generalize hQ:PN j=Q at hq pw ZB ⊢;refine ae fw [1,4,31,32,33,34] [12] ?_;refine ag fun K6 eH=>?_;by_cases aG:j < p.names.length
    .have nS:j < RP.length:=aa
     refine cm (by simp[nS]) (ar (eH _ ?_));refine ag fun K7 eL=>bd ?_;have hq:=hq aG;have kQ:=kQ aG
     have Nc:RP[j]=cZ p p.names[j]:=by
      have:=rv j aG;rw[By nS]at this;exact AI this
     have oD:=AU j aG;generalize cZ p p.names[j]=K at hq Nc oD;have qf:=(Aq fw (Aq @nS @Nc));refine ay [1,4,6,31,32,33] [12] ?_;refine ag fun K8 fA=>?_;by_cases hz:K=0
     .subst hz;rw[if_pos rfl]at hq;refine ae fw [1,4,6,31,32,33,38] [12] ?_;refine al ?_
      have Hl:¬ Q > 4096:=aa
      refine ar (fA _ ?_);have qf:=(Aq fw @Hl);refine ay [1,4,31,32,33,51] [12] ?_;refine cw (by simp<;>omega) ?_;refine ar (eL _ (cE fw ?_));(try simp only[aT,aV]);refine ba.mk (j+1) aa aa ?_;rw[hq];refine bq fw
     .rw[if_neg hz]at hq
      have Xt:K > 0:=aa
      have hQ0:0<=Q * K:=aie (ahW pw) oD
      have Hl:¬ Q * K > 4096:=aa
      have qf:=(Aq fw @Xt);refine ay [1,4,6,31,32,33,38] [12] ?_;refine cm (by simp<;>omega) ?_;refine gH fw fA [1,4,31,32,33] [12] ?_;have qf:=(Aq fw @Hl);refine ay [1,4,31,32,33,51] [12] ?_;refine cw (by simp<;>omega) ?_;refine ar (eL _ (cE fw ?_));(try simp only[aT,aV]);refine ba.mk (j+1) aa aa ?_;rw[hq];refine bq fw
    .obtain rfl:j=p.names.length:=aa
     rw[eI]at hQ;subst hQ;refine cw (by simp<;>omega) ?_;refine bW (b9 _ (ag fun K9 jt=>?_));obtain⟨S,hS⟩:∃ S:Nat,b6 (bU p)=(S:Int):=agY aa;rw[hS]at fN hP uc tQ b5 ⊢;rw[agO]at fN;refine ae fw [1,4,56,57] [12] ?_;refine cy (S:=Nat) (fun s=>s<=S) (fun s=>⟨bn [(1,.d (.ip [.sl none NN,.sl none RR])),(4,.ref 12 0 0),(56,int S),(57,int s)],aw [(12,.box 99 [.d (.sl none NN),.d (.sl none RR),int S,int ((2 ^ m:Nat):Int),.own 800 0 s]),(800,.sl 41 1 (cW (rb.take s)))]⟩) (fun s=>S - s) 0 ?_ aa ?_
     .refine (aK.o7 12 4 800 41 1 rfl rfl rfl).trans ?_;refine bq (Aq fw @cW.eq_1)
     .intro s IE;have jd:=nh s
      have ml:(cW (rb.take s)).length=s:=by rw[zO,agM];omega
      have A5:s=S->cW (rb.take s)=cW rb:=fun e=>by rw[sh aa]
      generalize cW (rb.take s)=NX at jd ml A5 ⊢;refine ae fw [1,4,56,57,58] [12,800] ?_;refine ag fun ot e7=>eE (b:=s < S) (by simp[D.le,D.le.go,aL,ab]) (fun hc=>?_) (fun hc=>?_)
      .refine ar (e7 _ (ag fun sR mj=>bd ?_));have BI:=jd aa;have ud:=uc NX s aa;have HY:=tQ NX;have y8:=lI s;have zi:=fun i=>b5 NX s i;have xj:=fun i h=>BP s i h;have Iz:=eY s;generalize iW p s=CP at y8 zi xj;generalize ko p s p.names.length=ms at ud y8 zi;generalize Ed:Gi s=RS at BI xj Iz;refine ae fw [1,4,7,56,57] [12,800] ?_;refine ae fw [1,4,7,8,56,57] [12,800] ?_;refine ag fun vY j9=>ae fw [1,4,7,8,56,57,63,64] [12,800] ?_;refine cy (S:=Nat) (fun i=>i<=2 ^ m) (fun i=>⟨bn [(1,.d (.ip [.sl none NN,.sl none RR])),(4,.ref 12 0 0),(7,int s),(8,.own 902 0 i),(56,int S),(57,int s),(63,int ((2 ^ m:Nat):Int)),(64,int i)],aw [(12,.box 99 [.d (.sl none NN),.d (.sl none RR),int S,int ((2 ^ m:Nat):Int),.own 800 0 s]),(800,.sl 41 1 NX),(902,.sl 3 1 ((RS.take i).map fun x=>[.v (.int .i64 x)]))]⟩) (fun i=>2 ^ m - i) 0 ?_ aa ?_
       .refine (aK.kC 8 902 3 1 rfl rfl).trans ?_;refine bq fw
       .intro i my;have BN:=xj i
        have fX:((RS.take i).map fun x=>[D.v (.int .i64 x)]).length=i:=by simp;omega
        generalize jw:RS.take i=RI at BN fX ⊢;refine ae fw [1,4,7,8,56,57,63,64,65] [12,800,902] ?_;refine ag fun mT gp=>?_;by_cases dD:i < 2 ^ m
        .have zb:(i:Int) < ((2 ^ m:Nat):Int):=by exact_mod_cast dD
         refine cm (by simpa using zb) (ar (gp _ ?_));refine ag fun yh rr=>bd ?_;have xg:=BN dD;have wX:=HY i aa;have tL:=y8 i;have qG:=zi i;generalize xN p CP (de i m) ms.2=md at tL qG;generalize lW p CP (de i m)=d1 at qG xg;generalize de i m=ib at wX tL;generalize gF (bU p) d1=v1 at qG xg;obtain⟨_,I1,C1⟩:=ms;obtain⟨I2,C2⟩:=md;dsimp only at ud tL qG;rw[ml]at ud wX qG;refine ae fw [1,4,7,8,9,56,57,63,64] [12,800,902] ?_;refine Lm (aB _) ah ([12]) ([]) ([5,8,10]) ([(2,.d (.ip [.sl none NN,.sl none RR]))]) (List.range 14) ah fun K' ao=>?_;(repeat refine mO rfl fun K2 au=>?_;simp[ab,fX,sh];(repeat refine⟨aa,?_⟩);refine au _ ?_;clear au K2);refine mO rfl fun K2 au=>?_;simp[ab,fX,sh];refine tI.mc (ud) (by simp[ab,fX,sh]) (by simp[ab,fX,sh]) (by simp[ab,fX,sh]) (by simp[ab,fX,sh]) (by simp[ab,fX,sh]) (by simp[ab,fX,sh]) (by simp[jH,ab,fX,sh]) ?_;simp[ab,fX,sh];refine au _ ?_;clear au K2;(repeat refine mO rfl fun K2 au=>?_;simp[ab,fX,sh];(repeat refine⟨aa,?_⟩);refine au _ ?_;clear au K2);refine mO rfl fun K2 au=>?_;simp[ab,fX,sh];refine tI.mc (wX) (by simp[ab,fX,sh]) (by simp[ab,fX,sh]) (by simp[ab,fX,sh]) (by simp[ab,fX,sh]) (by simp[ab,fX,sh]) (by simp[ab,fX,sh]) (by simp[jH,ab,fX,sh]) ?_;simp[ab,fX,sh];refine au _ ?_;clear au K2;(repeat refine mO rfl fun K2 au=>?_;simp[ab,fX,sh];(repeat refine⟨aa,?_⟩);refine au _ ?_;clear au K2);refine mO rfl fun K2 au=>?_;simp[ab,fX,sh];refine qt.mk (tL) bA bA (by first | exact D.bJ _ | simp[aL,agF,agy,D.le,D.le.go,D.le_refl,D.bJ,ab,fX,sh]) ak ?_;refine au _ ?_;clear au K2;simp only[aR,dY];(repeat refine mO rfl fun K2 au=>?_;simp[ab,fX,sh];(repeat refine⟨aa,?_⟩);refine au _ ?_;clear au K2);refine mO rfl fun K2 au=>?_;simp[ab,fX,sh];refine tI.mc (qG) (by simp[ab,fX,sh]) (by simp[ab,fX,sh]) (by simp[ab,fX,sh]) (by simp[ab,fX,sh]) (by simp[ab,fX,sh]) (by simp[ab,fX,sh]) (by simp[jH,ab,fX,sh]) ?_
         simp[ab,fX,sh];refine au _ ?_;clear au K2;(repeat refine mO rfl fun K2 au=>?_;simp[ab,fX,sh];(repeat refine⟨aa,?_⟩);refine au _ ?_;clear au K2);refine RT (ao _ ?_);refine rr _ (AW.norm [1,4,7,8,56,57,63,64] [12,800,902] aN (AW.st (by simp[ab,fX,sh];rfl) ?_));refine cE fw ?_;(try simp only[aT,aV]);refine ba.mk (i+1) aa aa ?_;rw[xg];refine bq fw
        .obtain rfl:i=2 ^ m:=aa
         have wI:RI=RS:=by rw[<- jw];exact sh aa
         subst wI;refine cw ak ?_;refine bW (j9 _ (AW.imp (aK.freeze 902 trivial) ?_));refine AW.st (by simp[ab,fX,sh];rfl) ?_;refine eU (aB _) fun K' ao=>?_;(repeat refine aM fun Kq af=>?_;simp[ab,ml,sh];(repeat refine⟨aa,?_⟩);refine af _ ?_);refine bK (ao _ ?_);refine mj _ (AW.norm [1,4,56,57] [12,800] aN (AW.st (by simp[ab,ml,sh];rfl) ?_));refine cE fw ?_;(try simp only[aT,aV]);refine ba.mk (s+1) aa aa ?_;rw[BI];refine bq fw
      .obtain rfl:s=S:=aa
       obtain rfl:=A5 rfl;refine bW (jt _ (AW.imp (aK.freeze 800 trivial) ?_));refine AW.st (by simp[ab,ml,sh];rfl) ?_;refine ae fw [2,3] [12] ?_;exact aW (Aq fw @hS)
theorem R0 {α:Type} (f:α->List D) {l:List α} {n:Nat} (h:n < l.length):(l.take (n+1)).map f=(l.take n).map f ++ [f l[n]]:=by
 rw[agB h,agV];rfl
theorem aet (G:aC) (p:aP) (hg:j2 p) (s:cK) (ig:s.is.length=p.names.length) (gC:s.ct.length=p.names.length) (I C:List (Value×Value)) (hr:gT p s I C) :
  aD prog G 121 [.agg [.dm false I,.dm false C],dU p] (.bx [iM s.is,gg s.ct]):=by
 have fy:=hg.names;have kp:=hr.kp;have fQ:=hr.fQ;have fM:=nY kp;simp at fM;have bC:=eq_true fM;have ff:=nY fQ;simp at ff;have df:=eq_true ff;have pA:=kp.once;have pB:=fQ.once
 have kK:∀ i (hi:i < p.names.length),(j7 (.string (bs p.names[i].name)) (dt I)=none/\s.is.getD i false=false)\/j7 (.string (bs p.names[i].name)) (dt I)=some (.v (.bool (s.is.getD i false))):=fun i hi=>by
  rw[s9,<- hr.is i hi]
  cases h:dL I (bs p.names[i].name) with
  | none=>exact .inl ⟨rfl,rfl⟩
  | some v=>obtain⟨b,rfl⟩:=hr.bI _ v h;exact .inr rfl
 have r4:∀ i (hi:i < p.names.length),(j7 (.string (bs p.names[i].name)) (dt C)=none/\s.ct.getD i 0=0)\/j7 (.string (bs p.names[i].name)) (dt C)=some (.v (.int .i64 (s.ct.getD i 0))):=fun i hi=>by
  rw[s9,<- hr.ct i hi]
  cases h:dL C (bs p.names[i].name) with
  | none=>exact .inl ⟨rfl,rfl⟩
  | some v=>obtain⟨b,rfl⟩:=hr.iC _ v h;exact .inr rfl
 obtain⟨IS,CT⟩:=s;dsimp only at ig gC kK r4 ⊢;clear hr kp fQ fM ff;simp only[dU,ft,cj,iM,gg]
 have tB:(p.names.map bo).length=p.names.length:=ak
 have nK:∀ i (h:i < p.names.length),(p.names.map bo)[i]? = some [.v (.string (bs p.names[i].name)),.v (.int .i64 p.names[i].kind),.v (.int .i64 p.names[i].count)]:=fun i h=>by simp[h,bo,dS]
 generalize p.names.map bo=NN at *;generalize p.ax.map eg=RR at *;refine aD.aQ (aB _) func121 rfl rfl (rs:=[.tmp 4,.tmp 5]) results121 (by simp[ntmps121]) fun X=>?_;simp only[ntmps121,List.map];refine aq [2,3] [2,3] ?_;refine fI 2 ?_;refine fI 3 ?_;refine aq [2,3,6] [] ?_;refine aq [2,3,6,7] [] ?_;refine ag fun K1 aF=>aq [2,6,7,11,12,13] [] ?_;refine cy (S:=Nat) (fun n=>n<=p.names.length) (fun n=>⟨bn [(2,.d (.ip [.dm false I,.dm false C])),(6,.own 300 0 n),(7,.own 301 0 n),(11,.d (.sl none NN)),(12,int NN.length),(13,int n)],aw [(300,.sl 4 1 ((IS.take n).map fun b=>[.v (.bool b)])),(301,.sl 3 1 ((CT.take n).map fun n=>[.v (.int .i64 n)]))]⟩) (fun n=>p.names.length - n) 0 ?_ aa ?_
 .refine ((aK.kC 6 300 4 1 rfl rfl).trans (aK.kC 7 301 3 1 rfl rfl)).trans ?_;refine cI
 .intro n hn;have dG:=fun h=>R0 (fun b=>[D.v (.bool b)]) (l:=IS) (n:=n) h;have dW:=fun h=>R0 (fun n=>[D.v (.int .i64 n)]) (l:=CT) (n:=n) h
  have eb:((IS.take n).map fun b=>[D.v (.bool b)]).length=n:=by simp;omega
  have fb:((CT.take n).map fun n=>[D.v (.int .i64 n)]).length=n:=by simp;omega
  have zj:n=p.names.length->(IS.take n).map (fun b=>[D.v (.bool b)])=IS.map fun b=>[.v (.bool b)]:=fun h=>by rw[sh aa]
  have N7:n=p.names.length->(CT.take n).map (fun n=>[D.v (.int .i64 n)])=CT.map fun n=>[.v (.int .i64 n)]:=fun h=>by rw[sh aa]
  generalize (IS.take n).map (fun b=>[D.v (.bool b)])=P1 at dG eb zj ⊢;generalize (CT.take n).map (fun n=>[D.v (.int .i64 n)])=P2 at dW fb N7 ⊢;refine aq [2,6,7,11,12,13,14] [300,301] ?_;refine ag fun K2 au=>eE (b:=n < NN.length) (by simp[D.le,D.le.go,aL]) (fun hc=>?_) (fun hc=>?_)
  .have aG:n < p.names.length:=aa
   have yS:NN[n]=[.v (.string (bs p.names[n].name)),.v (.int .i64 p.names[n].kind),.v (.int .i64 p.names[n].count)]:=by
    have:=nK n aG;rw[By hc]at this;exact AI this
   have dG:=dG aa;have dW:=dW aa;have kK:=kK n aG;have r4:=r4 n aG;rw[gV (by omega:n < IS.length)]at kK;rw[gV (by omega:n < CT.length)]at r4;generalize bs p.names[n].name=nm at yS kK r4;generalize p.names[n].kind=kd at yS;generalize p.names[n].count=ct at yS;generalize IS[n]=b at dG kK;generalize CT[n]=c at dW r4;refine ar (au _ (ag fun K3 aU=>bd ?_));have qf:=(Aq @hc @yS);refine ay [2,6,7,9,11,12,13] [300,301,9] ?_;refine fI 9 ?_
   rcases kK with⟨h1,Xd⟩ | h1
   .subst Xd
    rcases r4 with⟨h2,G6⟩ | h2
    .subst G6;refine sM (aB _) ah ([(7,(300,23)),(15,(301,31))]) ([(8,[300]),(9,[300]),(10,[300]),(11,[300]),(12,[300]),(13,[300]),(14,[300])]) ([0,1,2,3,4,5,8,9,10,11,12,13,6,14,7,15,16,17]) ah fun K' ao=>?_;(repeat refine qV rfl fun K2 au=>?_;simp[h1,h2,bC,df,pA,pB,eC,cr,eb,fb,sh];(repeat refine⟨aa,?_⟩);refine au _ ?_;clear au K2);refine sI (ao _ ?_);refine aU _ (AW.norm [2,6,7,11,12,13] [300,301] aN (AW.st (by simp[h1,h2,bC,df,pA,pB,eC,cr,eb,fb,sh];rfl) ?_));refine c6 ?_;(try simp only[aT,aV]);refine ba.mk (n+1) aa aa ?_;rw[dG,dW];refine cI
    .skip
     refine sM (aB _) ah ([(7,(300,23)),(15,(301,31))]) ([(8,[300]),(9,[300]),(10,[300]),(11,[300]),(12,[300]),(13,[300]),(14,[300])]) ([0,1,2,3,4,5,8,9,10,11,12,13,6,14,7,15,16,17]) ah fun K' ao=>?_;(repeat refine qV rfl fun K2 au=>?_;simp[h1,h2,bC,df,pA,pB,eC,cr,eb,fb,sh];(repeat refine⟨aa,?_⟩);refine au _ ?_;clear au K2);refine sI (ao _ ?_);refine aU _ (AW.norm [2,6,7,11,12,13] [300,301] aN (AW.st (by simp[h1,h2,bC,df,pA,pB,eC,cr,eb,fb,sh];rfl) ?_));refine c6 ?_;(try simp only[aT,aV]);refine ba.mk (n+1) aa aa ?_;rw[dG,dW];refine cI
   .skip
    rcases r4 with⟨h2,G6⟩ | h2
    .subst G6;refine sM (aB _) ah ([(7,(300,23)),(15,(301,31))]) ([(8,[300]),(9,[300]),(10,[300]),(11,[300]),(12,[300]),(13,[300]),(14,[300])]) ([0,1,2,3,4,5,8,9,10,11,12,13,6,14,7,15,16,17]) ah fun K' ao=>?_;(repeat refine qV rfl fun K2 au=>?_;simp[h1,h2,bC,df,pA,pB,eC,cr,eb,fb,sh];(repeat refine⟨aa,?_⟩);refine au _ ?_;clear au K2);refine sI (ao _ ?_);refine aU _ (AW.norm [2,6,7,11,12,13] [300,301] aN (AW.st (by simp[h1,h2,bC,df,pA,pB,eC,cr,eb,fb,sh];rfl) ?_));refine c6 ?_;(try simp only[aT,aV]);refine ba.mk (n+1) aa aa ?_;rw[dG,dW];refine cI
    .skip
     refine sM (aB _) ah ([(7,(300,23)),(15,(301,31))]) ([(8,[300]),(9,[300]),(10,[300]),(11,[300]),(12,[300]),(13,[300]),(14,[300])]) ([0,1,2,3,4,5,8,9,10,11,12,13,6,14,7,15,16,17]) ah fun K' ao=>?_;(repeat refine qV rfl fun K2 au=>?_;simp[h1,h2,bC,df,pA,pB,eC,cr,eb,fb,sh];(repeat refine⟨aa,?_⟩);refine au _ ?_;clear au K2);refine sI (ao _ ?_);refine aU _ (AW.norm [2,6,7,11,12,13] [300,301] aN (AW.st (by simp[h1,h2,bC,df,pA,pB,eC,cr,eb,fb,sh];rfl) ?_));refine c6 ?_;(try simp only[aT,aV]);refine ba.mk (n+1) aa aa ?_;rw[dG,dW];refine cI
  .have bl:n=p.names.length:=aa
   refine bW (aF _ ?_);rw[zj bl]at eb ⊢;rw[N7 bl]at fb ⊢;refine AW.imp (aK.freeze 300 trivial) ?_;refine AW.st (by simp[eb,sh];rfl) ?_;refine AW.imp (aK.freeze 301 trivial) ?_;refine AW.st (by simp[fb,sh];rfl) ?_;refine aq [4,5] [] ?_;exact gw
theorem Vo (G:aC) (hF:uD G) (hM:j3 G) (hP:rQ G) (hG:qm G) {es er:Value} (hE:sQ G es er) (qC:Ah G) (qD:Ai G) (t:Tx):aD prog G 27 [dS t] (yy (xX t)):=by
 have hp:=abd G hM hP hG hE t;have hw:=adr G hF hM hP hE qC qD t;unfold xX;simp only[dS]at hp hw ⊢;by_cases hl:1500 < t.length
 .have gr:(1500:Int) < (t.length:Int):=aa
  rw[if_pos hl];simp only[yy,GN,GO];refine aD.aQ (aB _) func27 rfl rfl (rs:=[.cell 2 28,.cell 3 62,.tmp 4]) results27 (by simp[ntmps27]) fun X=>?_;simp only[ntmps27,List.map];refine aq [0,2,3] [2,3] ?_;refine ag fun K1 aF=>?_;have qf:=(Aq @bQ @gr);refine ay [0,2,3,11] [2,3] ?_;refine cm (by simp[gr]) (aq [2,3,4] [2,3] ?_);exact gw
 .have gr:¬ (1500:Int) < (t.length:Int):=aa
  rw[if_neg hl]
  cases eI:(jB t).1 with
  | none=>
   obtain⟨q,hq⟩:∃ q,jB t=(none,q):=⟨(jB t).2,by rw[<- eI]⟩;rw[hq]at hp hw ⊢;simp only[yy,bB,fH,fW,dU,ft,cj,fq,dw,codeF,b7,ab]at hp hw ⊢;generalize q.names.map bo=NN at *;generalize q.ax.map c8=RR at *;generalize q.ax.map eg=RW at *;refine aD.aQ (aB _) func27 rfl rfl (rs:=[.cell 2 28,.cell 3 62,.tmp 4]) results27 (by simp[ntmps27]) fun X=>?_;simp only[ntmps27,List.map];refine aq [0,2,3] [2,3] ?_;refine ag fun K1 aF=>?_;have qf:=(Aq @bQ @gr);refine ay [0,2,3,11] [2,3] ?_;refine cw (by simp<;>omega) ?_;refine ar (aF _ (br trivial hw [0,2,3,5,6] [2,3,5,6] ?_));refine fI 5 ?_;refine fI 6 ?_;refine ag fun K2 au=>aq [0,2,3,5,21] [2,3] ?_;refine al (ar (au _ ?_));refine br trivial hp [2,3,5,7] [2,3,7] ?_;refine fI 7 ?_;refine o4 (aB _) ah [(0,999),(1,999),(2,2),(3,3)] [2,3,4] [2,3] aN ah fun K' ao=>?_;(repeat refine jm fun Kq af=>?_;simp;(repeat refine⟨aa,?_⟩);refine af _ ?_);refine ky (ao _ ?_);refine AW.st bA ?_;exact gw
  | some e=>
   have h2:=acf eI
   have hq:jB t=(some e,⟨[],[]⟩):=by rw[<- eI,<- h2]
   rw[hq]at hw ⊢;obtain⟨c,o⟩:=e;have iO:=ace eI;simp only[yy,GN,GO,dw,codeF,ab]at hw ⊢;generalize b7 (some (c,o))=pl at hw;refine aD.aQ (aB _) func27 rfl rfl (rs:=[.cell 2 28,.cell 3 62,.tmp 4]) results27 (by simp[ntmps27]) fun X=>?_;simp only[ntmps27,List.map];refine aq [0,2,3] [2,3] ?_;refine ag fun K1 aF=>?_;have qf:=(Aq @bQ @gr);refine ay [0,2,3,11] [2,3] ?_;refine cw (by simp<;>omega) ?_;refine ar (aF _ (br trivial hw [0,2,3,5,6] [2,3,5,6] ?_));refine fI 5 ?_;refine fI 6 ?_;refine ag fun K2 au=>aq [0,2,3,5,21] [2,3] ?_;refine cm (by simp[iO]) (aq [2,3,4] [2,3] ?_);exact gw
def eZ (p:aP):Nat:=2 ^ (aY p).length
def fS (p:aP):Nat:=(b6 (bU p)).toNat
def rf (p:aP):D:=pU p (b6 (bU p)) ((eZ p:Nat):Int) (cW (ef p))
theorem adG (G:aC) (p:aP) (aZ:dr p=none) (hk:∀ r∈p.ax,mR r) (s i:Nat) (hP:b6 (bU p)<=4096) (hs:(s:Int) < b6 (bU p)) (hi:i < eZ p):aD prog G 65 [rf p,ab s,ab i] (.bx [iM (lW p (iW p s) (de i (aY p).length)).is,.v .nilIface]):=by
 have dP:=aby G p aZ (b6 (bU p)) ((eZ p:Nat):Int) (cW (ef p)) s aa aa;have aS:=abp G p aZ (b6 (bU p)) ((eZ p:Nat):Int) (cW (ef p)) i;have lI:=Mf G p aZ hk (iW p s) (sF aZ s) (de i (aY p).length) (ui _ _);simp only[rf,pU,rU,cj,fq,pa,gg,ab,qw,ou,iM,fH,fW]at dP aS lI ⊢;generalize lW p (iW p s) (de i (aY p).length)=d at *;generalize iW p s=t at *;generalize de i (aY p).length=ib at *;generalize cW (ef p)=NX at *;generalize b6 (bU p)=S at *;generalize eZ p=N at *;generalize (aY p).map (fun n=>[D.v (.int .i64 n)])=IN at *;generalize (bU p).map iZ=PT at *;generalize p.names.map bo=NN at *;generalize p.ax.map c8=RR at *;obtain⟨I1,C1⟩:=t;obtain⟨I2,C2⟩:=d;dsimp only at dP lI ⊢
 have h1:¬ S<=(s:Int):=aa
 have h2:¬ N<=i:=aa
 have h0:¬ (s:Int) < 0:=aa
 have h3:¬ (i:Int) < 0:=aa
 refine aD.aQ (aB _) func65 rfl rfl (rs:=[.tmp 6,.tmp 7]) results65 (by simp[ntmps65]) fun X=>?_;simp only[ntmps65,List.map];have fw:=@aih;refine ae fw [0,1,2] [] ?_;refine ag fun K1 aF=>ae fw [0,1,2,9] [] ?_;refine al (ar (aF _ ?_));refine ag fun K2 au=>?_;have qf:=(Aq fw (Aq @h0 (Aq @h1 (Aq @h2 @h3))));refine ay [0,1,2,32] [] ?_;refine cw (by simp<;>omega) ?_;refine ar (au _ (qY (aB _) ah [6,7] [] aN ah fun K' ao=>?_));(repeat refine eK fun Kq af=>?_;simp[ab];(repeat refine⟨aa,?_⟩);refine af _ ?_);refine eK fun Kq af=>?_;simp[ab];refine kG.data (dP) bA bA (by first | exact D.bJ _ | simp[aL,agF,agy,D.le,D.le.go,D.le_refl,D.bJ,ab]) ?_;refine af _ ?_;simp only[aR,dY];(repeat refine eK fun Kq af=>?_;simp[ab];(repeat refine⟨aa,?_⟩);refine af _ ?_);refine eK fun Kq af=>?_;simp[ab];refine kG.data (aS) bA bA (by first | exact D.bJ _ | simp[aL,agF,agy,D.le,D.le.go,D.le_refl,D.bJ,ab]) ?_;refine af _ ?_;simp only[aR,dY];(repeat refine eK fun Kq af=>?_;simp[ab];(repeat refine⟨aa,?_⟩);refine af _ ?_);refine eK fun Kq af=>?_;simp[ab];refine kG.data (lI) bA bA (by first | exact D.bJ _ | simp[aL,agF,agy,D.le,D.le.go,D.le_refl,D.bJ,ab]) ?_;refine af _ ?_;simp only[aR,dY];(repeat refine eK fun Kq af=>?_;simp[ab];(repeat refine⟨aa,?_⟩);refine af _ ?_);refine mQ (ao _ ?_);refine AW.st (by simp[ab];rfl) ?_;exact aW fw
theorem CE {p:aP} (h:oX p=false):b6 (bU p)<=4096/\(aY p).length<=6:=by
 unfold oX at h;simp at h;exact h
theorem abA {p:aP} {most:Int} (h:oX p=false) (h2:uq p most=false):b6 (bU p)<=most/\(aY p).length<=4:=by
 unfold uq at h2;rw[h]at h2;simp at h2;exact h2
def wm (p:aP):D:=rh p (b6 (bU p)) ((eZ p:Nat):Int) (cW (ef p))
def Cb (t:Tx) (most:Int):Option aP:=match xX t with
 | some p=>if oX p || uq p most then none else some p
 | none=>none
def wh:Option aP->D
 | none=>.bx [.v (.pointer none),.v (.pointer none),.v (.bool false)]
 | some p=>.bx [rf p,wm p,.v (.bool true)]
theorem abh {t:Tx} {most:Int} {p:aP} (h:Cb t most=some p):dr p=none/\(∀ r∈p.ax,mR r)/\(aY p).length<=4/\b6 (bU p)<=4096/\b6 (bU p)<=most:=by
 unfold Cb at h
 cases mG:xX t with
 | none=>rw[mG]at h;cases h
 | some q=>
  rw[mG]at h;dsimp only at h
  cases h1:oX q with
  | true=>rw[h1]at h;cases h
  | false=>
   cases h2:uq q most with
   | true=>rw[h1,h2]at h;cases h
   | false=>
    rw[h1,h2]at h;obtain rfl:=AI h;obtain⟨c1,c2⟩:=Qd (Qz mG);have h3:=abA h1 h2;exact⟨c1,c2,h3.2,(CE h1).1,h3.1⟩
theorem abj (G:aC) (hF:uD G) (hM:j3 G) (hP:rQ G) (hG:qm G) {es er:Value} (hE:sQ G es er) (qC:Ah G) (qD:Ai G) (t:Tx) (most:Int):aD prog G 43 [dS t,ab most] (wh (Cb t most)):=by
 have hb:=Vo G hF hM hP hG hE qC qD t;unfold Cb
 cases mG:xX t with
 | none=>
  rw[mG]at hb;simp only[yy,GN,GO,dS]at hb;simp only[dS,ab,wh];refine aD.aQ (aB _) func43 rfl rfl (rs:=[.tmp 4,.tmp 5,.tmp 6]) results43 (by simp[ntmps43]) fun X=>?_;simp only[ntmps43,List.map];have fw:=@aih;refine ae fw [0,1] [] ?_;refine br fw hb [1,7,8,9] [7,8] ?_;refine ag fun K1 aF=>ae fw [1,7,8,23] [7,8] ?_;refine aI (ae fw [4,5,6] [] ?_);exact aW fw
 | some p=>
  rw[mG]at hb;obtain⟨aZ,hk⟩:=Qd (Qz mG);have fC:=W6 G hM p aZ hk most;have ka:=fun (h:oX p=false)=>abv G p aZ hk (CE h).2 (CE h).1;have nO:=fun (h:oX p=false)=>ae5 G hM p aZ hk (CE h).2 (CE h).1;dsimp only;simp only[yy,fH,fW,dU,ft,cj,fq,dS,ab]at hb fC;simp only[fH,fW,dU,ft,cj,fq,pU,rU,rh,uH,pa,gg]at ka nO;simp only[dS,ab]
  cases h1:oX p with
  | true=>
   rw[h1]at fC;simp only[Bool.true_or,if_true,wh];generalize uq p most=mu at *;generalize p.names.map bo=NN at *;generalize p.ax.map c8=RR at *;generalize p.ax.map eg=RW at *;refine aD.aQ (aB _) func43 rfl rfl (rs:=[.tmp 4,.tmp 5,.tmp 6]) results43 (by simp[ntmps43]) fun X=>?_;simp only[ntmps43,List.map];have fw:=@aih;refine ae fw [0,1] [] ?_;refine br fw hb [1,7,8,9] [7,8] ?_;refine ag fun K1 aF=>ae fw [1,7,8,23] [7,8] ?_;refine al (ar (aF _ ?_));refine dI fw 7 ?_;refine dI fw 8 ?_;refine br fw fC [7,8,10,11] [] ?_;refine ag fun K2 au=>ae fw [7,8,33] [] ?_;refine aI (ae fw [4,5,6] [] ?_);exact aW fw
  | false=>
   rw[h1]at fC
   cases h2:uq p most with
   | true=>
    rw[h2]at fC;simp only[Bool.or_true,if_true,wh];generalize p.names.map bo=NN at *;generalize p.ax.map c8=RR at *;generalize p.ax.map eg=RW at *;refine aD.aQ (aB _) func43 rfl rfl (rs:=[.tmp 4,.tmp 5,.tmp 6]) results43 (by simp[ntmps43]) fun X=>?_;simp only[ntmps43,List.map];have fw:=@aih;refine ae fw [0,1] [] ?_;refine br fw hb [1,7,8,9] [7,8] ?_;refine ag fun K1 aF=>ae fw [1,7,8,23] [7,8] ?_;refine al (ar (aF _ ?_));refine dI fw 7 ?_;refine dI fw 8 ?_;refine br fw fC [7,8,10,11] [] ?_;refine ag fun K2 au=>ae fw [7,8,33] [] ?_;refine aI (ae fw [4,5,6] [] ?_);exact aW fw
   | false=>
    rw[h2]at fC;have ka:=ka h1;have nO:=nO h1;simp only[Bool.or_false,agE,if_false,wh,rf,wm,pU,rU,rh,uH,pa,gg,cj,fq,eZ];generalize cW (ef p)=NX at *;generalize b6 (bU p)=S at *;generalize ((2 ^ (aY p).length:Nat):Int)=NI at *;generalize ((aY p).map fun n=>[D.v (.int .i64 n)])=IN at *;generalize (bU p).map iZ=PT at *;generalize p.names.map bo=NN at *;generalize p.ax.map c8=RR at *;generalize p.ax.map eg=RW at *;refine aD.aQ (aB _) func43 rfl rfl (rs:=[.tmp 4,.tmp 5,.tmp 6]) results43 (by simp[ntmps43]) fun X=>?_;simp only[ntmps43,List.map];have fw:=@aih;refine ae fw [0,1] [] ?_;refine br fw hb [1,7,8,9] [7,8] ?_;refine ag fun K1 aF=>ae fw [1,7,8,23] [7,8] ?_;refine al (ar (aF _ ?_));refine dI fw 7 ?_;refine dI fw 8 ?_;refine br fw fC [7,8,10,11] [] ?_;refine ag fun K2 au=>ae fw [7,8,33] [] ?_;refine al (ar (au _ ?_));refine br fw ka [8,12] [] ?_;refine br fw nO [12,14] [] ?_;refine ae fw [4,5,6] [] ?_;exact aW fw
theorem pE (x:Bool) (e:List (Value×Value)):D.one (.dm x e)=true:=rfl
def iX (is:List Bool) (at':List Int):Nat->Nat
 | 0=>0
 | k+1=>iX is at' k+if is.getD (at'.getD k 0).toNat false then 2 ^ k else 0
theorem KM (is:List Bool) (at':List Int):∀ k,iX is at' k < 2 ^ k
 | 0=>by simp[iX]
 | k+1=>by
  have:=KM is at' k;rw[iX,Nat.pow_succ];split<;>omega
theorem Rv {V:Nat} (h:V<=12):IntKind.i64.wrap (2 ^ (min V IntKind.i64.bits))=((2^V:Nat):Int):=by
 have:V=0\/V=1\/V=2\/V=3\/V=4\/V=5\/V=6\/V=7\/V=8\/V=9\/V=10\/V=11\/V=12:=aa
 rcases this with rfl | rfl | rfl | rfl | rfl | rfl | rfl | rfl | rfl | rfl | rfl | rfl | rfl<;>decide
theorem aca {x k:Nat} (hx:x < 2 ^ k) (hk:k < 12):qq .or .i64 (x:Int) ((2 ^ k:Nat):Int)=((x+2 ^ k:Nat):Int):=by
 have hp:(2:Nat) ^ k < 2 ^ 12:=Nat.pow_lt_pow_right bO hk
 have e12:(2:Nat) ^ 12=4096:=bO
 have hn:∀ n:Nat,n < 2 ^ 20->(BitVec.ofInt 64 (n:Int)).toNat=n:=fun n h=>by
  rw[BitVec.toNat_ofInt]
  have:(2:Nat)^64=18446744073709551616:=bO
  have:(2:Nat)^20=1048576:=bO
  omega
 have e20:(2:Nat) ^ 20=1048576:=bO
 unfold qq;dsimp only
 have h3:(BitVec.ofInt IntKind.i64.bits (x:Int) ||| BitVec.ofInt IntKind.i64.bits ((2 ^ k:Nat):Int)).toNat=x+2 ^ k:=by
  show (BitVec.ofInt 64 (x:Int) ||| BitVec.ofInt 64 ((2 ^ k:Nat):Int)).toNat=x+2 ^ k;rw[BitVec.toNat_or,hn x aa,hn _ aa];have:=Nat.two_pow_add_eq_or_of_lt hx 1;rw[ahK]at this;rw[Nat.or_comm,<- this,ah9]
 rw[h3]
 have:x+2 ^ k < 8192:=aa
 generalize x+2 ^ k=y at this ⊢;exact vN ⟨aa,aa⟩
theorem I4 {p:aP} (h:(aY p).length<=4):eZ p<=16:=ahG (n:=2) bO h
def cu (p:aP) (l:List Tx):List Int:=l.map (bH p)
def z6 (p:aP) (at':List Int) (s i:Nat):Int:=(iX (lW p (iW p s) (de i (aY p).length)).is at' at'.length:Nat)
def j0 (p:aP) (at':List Int) (s:Nat):List Int:=(List.range (eZ p)).map (z6 p at' s)
def gx (p:aP) (at':List Int):List (List Int):=(List.range (fS p)).map (j0 p at')
theorem FW (p:aP) (at':List Int) (s:Nat):(j0 p at' s).length=eZ p:=by simp[j0]
theorem KN (p:aP) (at':List Int):(gx p at').length=fS p:=by simp[gx]
theorem R3 {p:aP} {at':List Int} {s i:Nat} (h:i < eZ p):(j0 p at' s).take (i+1)=(j0 p at' s).take i ++ [z6 p at' s i]:=by
 rw[agB (by rw[FW];exact h)];simp[j0]
