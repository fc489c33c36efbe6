/- Parts. -/
import Derived.Test.YtobejfcgcfdpfaaGreatDoorPc43
import Derived.Maps.RangeRun
set_option linter.unusedSectionVars false
set_option linter.unusedSimpArgs false
set_option linter.unusedVariables false
set_option maxHeartbeats 64000000
set_option maxRecDepth 100000
open Go.Proofs.Tryz
namespace Go.Av
open Go.ChangeMaps (setBlock)
section
variable {P:Program} {T:Ty} {Mv X:Nat->Prop} {G:aB} {N:Fr} {w:World} {μ:Mu} {a:Act} {σ:St}
def Ce:Op->Bool
 | .range _ _=>true
 | .next _ false=>true
 | .entry _=>true
 | _=>false
def Ih (T:Ty) (t:TypeId):Bool:=match T t with
 | some tt=>match tt.desc with
  | .map _ _=>true
  | _=>false
 | none=>false
def OZ (T:Ty) (G:aB) (t:TypeId) (x:Operand) (d:Nat) (σ:St) (K:St->Prop):Prop:=match bJ G σ.env x with
 | some (.d (.dm _ ents))=>Ih T t=true/\σ.H d=none/\∀ es:List (Value×Value),es.Perm ents->K ⟨iz σ.env d (.ref d 0 0),bk σ.H d (.it es [])⟩
 | _=>False
def Ot (G:aB) (x:Operand) (d:Nat) (σ:St) (K:St->Prop):Prop:=match bJ G σ.env x with
 | some (.ref r 0 0)=>match σ.H r with
  | some (.it ents seen)=>((∀ j,j < ents.length->j∈seen)->K ⟨iz σ.env d (.d (.bz [.v (.bool false)])),σ.H⟩)/\
   ∀ j (hj:j < ents.length),j ∉ seen->K ⟨iz σ.env d (.d (.bz [.v (.bool true),.v ents[j].1,.v ents[j].2])),bk σ.H r (.it ents (seen ++ [j]))⟩
  | _=>False
 | _=>False
def KR (G:aB) (x:Operand) (d:Nat) (σ:St) (K:St->Prop):Prop:=match bJ G σ.env x with
 | some (.ref r 0 0)=>match σ.H r with
  | some (.it ents seen)=>∃ s j,∃ hj:j < ents.length,seen=s ++ [j]/\K ⟨iz σ.env d (.d (.bz [.v ents[j].1,.v ents[j].2])),σ.H⟩
  | _=>False
 | _=>False
def Ac (T:Ty) (G:aB) (o:Oper) (σ:St) (K:St->Prop):Prop:=match o.op,o.dst with
 | .range t x,some d=>OZ T G t x d σ K
 | .next x false,some d=>Ot G x d σ K
 | .entry x,some d=>KR G x d σ K
 | _,_=>False
theorem RV.V9 {u:Value} {r:Nat} (h:RV w X μ u (.ref r 0 0)):∃ m b,μ r=some m/\m.fT=some b/\u = .pointer (some ⟨b,0,none⟩):=by
 generalize hy:AV.ref r 0 0=y at h
 cases h with
 | ref hm hb=>cases hy;exact⟨_,_,hm,hb,ak⟩
 | _=>cases hy
theorem eT.Uo {H:Heap} (hs:eT w X μ H) {r:Nat} {ents:List (Value×Value)} {seen:List Nat} (hH:H r=some (.it ents seen)) {m:jZ} {b:Nat} (hm:μ r=some m) (hb:m.fT=some b) :
  ∃ bm,w.heap[b]? = some (.mapIter (some bm) ents.length seen.toArray ents.length)/\w.heap[bm]? = some (.map (kD ents) ents.length)/\RD w (XX X μ) (.map (some bm)) (.dm true ents):=by
 obtain⟨m',cL,ok⟩:=hs.rows r _ hH;rw[hm]at cL;obtain rfl:=AI cL
 cases ok with
 | it br hh hr=>
  rename_i b' bm;rw[hb]at br;obtain rfl:=AI br;refine⟨bm,hh,?_,hr⟩;generalize hy:D.dm true ents=y at hr
  cases hr with
  | dm hX S0 hp hx=>cases hy;rw[hx rfl]at S0;exact S0
  | _=>cases hy
theorem UY {ents:List (Value×Value)} {e:MapEntry} (h:e∈(kD ents).toList):∃ j,∃ hj:j < ents.length,e = { key:=ents[j].1,val:=ents[j].2,born:=j }:=by
 obtain⟨j,hj,rfl⟩:=amz.1 h
 have dG:j < ents.length:=by simpa[rW]using hj
 have h1:=Cn dG
 have h2:j < (kD ents).size:=by rw[rW];exact dG
 rw[amA h2]at h1;exact⟨j,dG,by simpa using AI h1⟩
theorem UX {ents:List (Value×Value)} {j:Nat} (hj:j < ents.length):({ key:=ents[j].1,val:=ents[j].2,born:=j }:MapEntry)∈(kD ents).toList:=by
 have h1:=Cn hj
 have h2:j < (kD ents).size:=by rw[rW];exact hj
 rw[amA h2]at h1;rw[<- AI h1];simp
theorem aeY (ents:List (Value×Value)):((kD ents).toList.map (·.born)).Nodup:=by
 have:(kD ents).toList.map (·.born)=List.range ents.length:=by
  refine an2 (by simp[rW]) fun i h1 h2=>?_
  have hi:i < ents.length:=by simpa using h2
  have h3:=Cn hi
  have h4:i < (kD ents).size:=by rw[rW];exact hi
  rw[amA h4]at h3;simp[AI h3]
 rw[this];exact List.nodup_range
theorem adG (hg:Good P T) (hi:In w X G μ N a σ) {o:Oper} {K:St->Prop} (hd:∀ d,o.dst=some d->d < N.n) (h:Ac T G o σ K) {Q:Exit->Act->World->Prop} {next:Act->World->Prop}
  (hk:∀ w' aI a' aH,K aH->In w' X G aI N a' aH->Ev Mv w μ w' aI->next a' w'):o.wpIn (wd N.ro) 0 P a w next Q:=by
 obtain⟨dst,op,type,pos,after,guard⟩:=o;unfold Ac at h;dsimp only at h hd;split at h
 .-- range
  rename_i t x d;unfold OZ at h;split at h
  .rename_i aaI hx;obtain⟨xK,hn,hK⟩:=h;refine yG (fun c e=>by cases e) ?_;have hv:=hi.eval hx;have EH:=hv.data
   obtain⟨bm,ents,zT,D0,xN,EH⟩:∃ bm es,a.eval x = .map (some bm)/\w.heap[bm]? = some (.map (kD es) es.length)/\es.Perm aaI/\RD w (XX X μ) (a.eval x) (.dm true es):=by
    generalize a.eval x=u at EH
    cases EH with
    | dm hX hh hp hx=>exact⟨_,_,rfl,hh,hp,.dm hX hh (List.Perm.refl _) fun _=>rfl⟩
   have hK:=hK ents xN
   obtain⟨kt,et,hu⟩:∃ kt et,P.underlying t=some (.map kt et):=by
    unfold Ih at xK;split at xK
    .rename_i tt dP;split at xK
     .rename_i kt et ab6;exact⟨kt,et,by rw[<- ab6];exact (hg _ _ dP).1⟩
     .cases xK
    .cases xK
   have dK:=run_range_map w t kt et bm (kD ents) ents.length hu D0;unfold Oper.wp
   have hex:(execOp a.eval (⟨some d,.range t x,type,pos,after,guard⟩:Oper)).run P w = .ok (.value (.pointer (some ⟨w.heap.size,0,none⟩))) (w.alloc (.mapIter (some bm) ents.length #[] ents.length)):=by
    simp[execOp,zT,dK]
   rw[hex]
   have mQ:(w.alloc (.mapIter (some bm) ents.length #[] ents.length)).heap[w.heap.size]? = some (.mapIter (some bm) ents.length #[] ents.length):=by rw[<- World.alloc_eq];simp
   obtain⟨aR,bd⟩:=hi.alloc (Mv:=Mv) hn (cX.alloc w (.mapIter (some bm) ents.length #[] ents.length)) (m:=⟨some w.heap.size,1,0⟩) (fun b hb=>by simp at hb;omega) (row:=.it ents []) fun ev=>.it rfl mQ (by rw[zT]at EH;exact EH.ev ev)
   have iu:RV (w.alloc (.mapIter (some bm) ents.length #[] ents.length)) X (eG μ d ⟨some w.heap.size,1,0⟩) (.pointer (some ⟨w.heap.size,0,none⟩)) (.ref d 0 0):=by
    have:=RV.ref (w:=w.alloc (.mapIter (some bm) ents.length #[] ents.length)) (X:=X) (μ:=eG μ d ⟨some w.heap.size,1,0⟩) (r:=d) (e:=0) (j:=0) (b:=w.heap.size) (m:=⟨some w.heap.size,1,0⟩) (by simp[eG]) rfl;simpa using this
   exact hk _ _ _ _ hK (aR.put iu (dst:=some d) hd) bd
  .exact h.elim
 .-- next
  rename_i x d;unfold Ot at h;split at h
  .rename_i r hx;split at h
   .rename_i ents seen hH;obtain⟨h0,h1⟩:=h;refine yG (fun c e=>by cases e) ?_;obtain⟨m,b,hm,hb,zT⟩:=(hi.eval hx).V9;obtain⟨bm,hit,D0,bQ⟩:=hi.bx.Uo hH hm hb
    have hold:∀ x∈(kD ents).toList,x.born < ents.length:=fun x hx=>by
     obtain⟨j,hj,rfl⟩:=UY hx;exact hj
    unfold Oper.wp
    rcases run_next_at (P:=P) w type b bm ents.length ents.length seen.toArray (kD ents) ents.length hit D0 hold (amh _) with⟨hz,dK⟩ | ⟨e,he,w1,kC,dK⟩
    .have hex:(execOp a.eval (⟨some d,.next x false,type,pos,after,guard⟩:Oper)).run P w = .ok (.value (.tuple #[.bool false])) w:=by
      simp[execOp,zT,dK]
     rw[hex]
     have dY:∀ j,j < ents.length->j∈seen:=fun j hj=>by
      apply amQ;intro jN
      have oZ:({ key:=ents[j].1,val:=ents[j].2,born:=j }:MapEntry)∈(leftOf (kD ents) seen.toArray).toList:=by
       unfold leftOf;rw[Array.toList_filter,List.mem_filter];exact⟨UX hj,by simpa using jN⟩
      have:0 < (leftOf (kD ents) seen.toArray).size:=by
       have:=List.length_pos_of_mem oZ;simpa using this
      omega
     refine hk _ μ _ _ (h0 dY) (hi.put (.d (.bz rfl fun j u c hu hc=>?_)) (dst:=some d) hd) (.refl _ w μ)
     match j,hu,hc with
     | 0,hu,hc=>simp at hu hc;subst hu hc;exact .v _
     | j+1,hu,hc=>simp at hu
    .obtain⟨he1,lD⟩:=mem_left he;obtain⟨j,hj,rfl⟩:=UY he1
     have jN:j ∉ seen:=by simpa using lD
     have hex:(execOp a.eval (⟨some d,.next x false,type,pos,after,guard⟩:Oper)).run P w = .ok (.value (.tuple #[.bool true,ents[j].1,ents[j].2])) (setBlock w1 b (.mapIter (some bm) ents.length (seen.toArray.push j) ents.length)):=by
      simp[execOp,zT,dK]
     rw[hex]
     have gm:cX w w1:=by
      rcases kC with rfl | rfl
      .exact cX.refl _
      .exact cX.drew w
     have acm:w1.heap=w.heap:=by rcases kC with rfl | rfl<;>rfl
     obtain⟨fV,th⟩:=hi.ry (Mv:=Mv) gm
     have aG:b < w1.heap.size:=by rw[acm];exact (amf.1 hit).1
     obtain⟨aR,bd⟩:=fV.write (Mv:=Mv) (w':=setBlock w1 b (.mapIter (some bm) ents.length (seen.toArray.push j) ents.length)) hm hb (by simp[setBlock]) rfl rfl rfl (fun k hk=>by simp[setBlock,anw (ann hk)]) (row:=.it ents (seen ++ [j])) fun ev=>.it hb (by simp[setBlock,aG]) ((bQ.ev th).ev ev);refine hk _ μ _ _ (h1 j hj jN) (aR.put (.d (.bz rfl fun i u c hu hc=>?_)) (dst:=some d) hd) (th.trans bd)
     match i,hu,hc with
     | 0,hu,hc=>simp at hu hc;subst hu hc;exact .v _
     | 1,hu,hc=>simp at hu hc;subst hu hc;exact .v _
     | 2,hu,hc=>simp at hu hc;subst hu hc;exact .v _
     | i+3,hu,hc=>simp at hu
   .exact h.elim
  .exact h.elim
 .-- entry
  rename_i x d;unfold KR at h;split at h
  .rename_i r hx;split at h
   .rename_i ents seen hH;obtain⟨s,j,hj,rfl,hK⟩:=h;refine yG (fun c e=>by cases e) ?_;obtain⟨m,b,hm,hb,zT⟩:=(hi.eval hx).V9;obtain⟨bm,hit,D0,bQ⟩:=hi.bx.Uo hH hm hb
    have acq:w.heap[b]? = some (.mapIter (some bm) ents.length (s.toArray.push ({ key:=ents[j].1,val:=ents[j].2,born:=j }:MapEntry).born) ents.length):=by
     rw[hit];simp
    have dK:=run_entry_at (P:=P) w b bm ents.length s.toArray (kD ents) ents.length _ acq D0 (UX hj) (aeY ents);unfold Oper.wp
    have hex:(execOp a.eval (⟨some d,.entry x,type,pos,after,guard⟩:Oper)).run P w = .ok (.value (.tuple #[ents[j].1,ents[j].2])) w:=by
     simp[execOp,zT,dK]
    rw[hex];refine hk _ μ _ _ hK (hi.put (.d (.bz rfl fun i u c hu hc=>?_)) (dst:=some d) hd) (.refl _ w μ)
    match i,hu,hc with
    | 0,hu,hc=>simp at hu hc;subst hu hc;exact .v _
    | 1,hu,hc=>simp at hu hc;subst hu hc;exact .v _
    | i+2,hu,hc=>simp at hu
   .exact h.elim
  .exact h.elim
 .exact h.elim
def pL (P:Program) (T:Ty) (Mv X:Nat->Prop) (G:aB) (N:Fr) (ops:Array Oper) (K:St->Prop):List Oper->St->Prop
 | [],σ=>K σ
 | o :: rest,σ=>fb N o/\match jx ops σ.env o with
  | some b=>if b=true then (if Ce o.op=true then Ac T G o σ (pL P T Mv X G N ops K rest) else uu P T Mv X G N o σ (pL P T Mv X G N ops K rest)) else pL P T Mv X G N ops K rest ⟨aN σ.env o.dst dI,σ.H⟩
  | none=>False
theorem ajo (hg:Good P T) {ops:Array Oper} {Q:Exit->St->Prop} {w0:World} {lY:Mu}:∀ (l:List Oper) (k:Nat) (w:World) (μ:Mu) (a:Act) (σ:St),(∀ j,l[j]? = ops[k+j]?)->pL P T Mv X G N ops (fun aH=>Q .normal aH) l σ->In w X G μ N a σ->Ev Mv w0 lY w μ->
  wpOpsIn (wd N.ro) 0 P ops (After Mv X G N w0 lY Q) (List.range' k l.length) a w:=by
 intro l
 induction l with
 | nil=>intro k w μ a σ _ h hi bd;exact⟨μ,σ,h,hi,bd⟩
 | cons o l ih=>
  intro k w μ a σ hl h hi bd
  have h0:ops[k]? = some o:=by simpa using (hl 0).symm
  have fh:∀ j,l[j]? = ops[k+1+j]?:=fun j=>by have:=hl (j+1);simpa[am6,anN 1 j]using this
  obtain⟨hd,h⟩:=h
  have fU:∀ d,o.dst=some d->d < N.n:=fun d e=>by unfold fb at hd;rw[e]at hd;exact hd
  rw[amo,an4];simp only[wpOpsIn,h0];split at h
  .rename_i b hb;rw[u7 hi hb];split at h
   .rename_i rC;subst rC;rw[if_pos rfl];split at h
    .exact adG hg hi fU h fun w' aI a' aH k' aR nu=>ih (k+1) w' aI a' aH fh k' aR (bd.trans nu)
    .exact (GF hg hi fU h fun w' aI a' aH k' aR nu=>ih (k+1) w' aI a' aH fh k' aR (bd.trans nu))
   .rename_i nt;rw[if_neg (by simpa using nt)];exact⟨fun _ _=>trivial,ih (k+1) w μ _ _ fh h (hi.put (.d (.v _)) fU) bd⟩
  .exact h.elim
theorem Yl (hg:Good P T) {id:Nat} {ops:Array Oper} {Q:Exit->St->Prop} (h:pL P T Mv X G N ops (fun aH=>Q .normal aH) ops.toList σ):AW P Mv X G N (.region id ops false) Q σ:=fun w μ a hi=>by
 refine wpIn_region ?_;have:=ajo hg ops.toList 0 w μ a σ ak h hi (.refl _ w μ)
 rwa [<- anU,amK]at this
theorem AY (hg:Good P T) (l ns:List Nat) (hM:∀ r,ns.contains r=false->Mv r) {id:Nat} {ops:Array Oper} {y:Code} {Q:Exit->St->Prop} (h:∀ K:St->Prop,(∀ τ:St,AW P Mv X G N y Q (τ.norm l ns)->K τ)->pL P T Mv X G N ops K ops.toList σ):AW P Mv X G N (.seq (.region id ops false) y) Q σ:=
 tZ (Yl hg (h _ fun _ h=>h.norm l ns hM))
def Xq (P:Program) (T:Ty) (Mv X:Nat->Prop) (G:aB) (N:Fr) (ops:Array Oper) (o:Oper) (σ:St) (K:St->Prop):Prop:=fb N o/\match jx ops σ.env o with
 | some b=>if b=true then (if Ce o.op=true then Ac T G o σ K else uu P T Mv X G N o σ K) else K ⟨aN σ.env o.dst dI,σ.H⟩
 | none=>False
theorem yx {ops:Array Oper} {K:St->Prop} {o:Oper} {l:List Oper} (h:∀ K':St->Prop,(∀ τ,pL P T Mv X G N ops K l τ->K' τ)->Xq P T Mv X G N ops o σ K'):pL P T Mv X G N ops K (o :: l) σ:=h _ fun _ h=>h
theorem yy {ops:Array Oper} {K:St->Prop} (h:K σ):pL P T Mv X G N ops K [] σ:=h
theorem Xv {ops:Array Oper} {K:St->Prop} {o:Oper} {l:List Oper} {t:TypeId} {x:Operand} {d:Nat} {ents:List (Value×Value)} (ho:o.op = .range t x) (uD:o.dst=some d) (hd:fb N o) (hg:jx ops σ.env o=some true) {y:Bool} (hx:bJ G σ.env x=some (.d (.dm y ents))) (ht:Ih T t=true) (hH:σ.H d=none)
  (h:∀ es:List (Value×Value),es.Perm ents->pL P T Mv X G N ops K l ⟨iz σ.env d (.ref d 0 0),bk σ.H d (.it es [])⟩):pL P T Mv X G N ops K (o :: l) σ:=by
 refine⟨hd,?_⟩;rw[hg];simp only[if_true,ho,Ce];unfold Ac OZ;simp only[ho,uD,hx];exact⟨ht,hH,h⟩
theorem Xu {ops:Array Oper} {K:St->Prop} {o:Oper} {l:List Oper} {x:Operand} {d r:Nat} {ents:List (Value×Value)} {seen:List Nat} (ho:o.op = .next x false) (uD:o.dst=some d) (hd:fb N o) (hg:jx ops σ.env o=some true) (hx:bJ G σ.env x=some (.ref r 0 0)) (hH:σ.H r=some (.it ents seen))
  (h0:(∀ j,j < ents.length->j∈seen)->pL P T Mv X G N ops K l ⟨iz σ.env d (.d (.bz [.v (.bool false)])),σ.H⟩)
  (h1:∀ j (hj:j < ents.length),j ∉ seen->pL P T Mv X G N ops K l ⟨iz σ.env d (.d (.bz [.v (.bool true),.v ents[j].1,.v ents[j].2])),bk σ.H r (.it ents (seen ++ [j]))⟩):pL P T Mv X G N ops K (o :: l) σ:=by
 refine⟨hd,?_⟩;rw[hg];simp only[if_true,ho,Ce];unfold Ac Ot;simp only[ho,uD,hx,hH];exact⟨h0,h1⟩
theorem Xt {ops:Array Oper} {K:St->Prop} {o:Oper} {l:List Oper} {x:Operand} {d r:Nat} {ents:List (Value×Value)} {seen:List Nat} {j:Nat} (ho:o.op = .entry x) (uD:o.dst=some d) (hd:fb N o) (hg:jx ops σ.env o=some true) (hx:bJ G σ.env x=some (.ref r 0 0)) (hH:σ.H r=some (.it ents (seen ++ [j]))) (hj:j < ents.length)
  (h:pL P T Mv X G N ops K l ⟨iz σ.env d (.d (.bz [.v ents[j].1,.v ents[j].2])),σ.H⟩):pL P T Mv X G N ops K (o :: l) σ:=by
 refine⟨hd,?_⟩;rw[hg];simp only[if_true,ho,Ce];unfold Ac KR;simp only[ho,uD,hx,hH];exact⟨seen,j,hj,rfl,h⟩
end
attribute [simp] Xq Ce Ih pg
end Go.Av
namespace Go.Proofs.YtobejfcgcfdpfaaGreatDoor
open Go.Av
structure kW (L:List (Value×Value)):Prop where
 str:∀ p∈L,∃ s:ByteArray,p.1 = .string s
 once:(L.map (·.1)).Nodup
def ew (L:List (Value×Value)) (s:ByteArray):Option Value:=(L.find? fun p=>jw (.string s) p.1).map (·.2)
def dt (L:List (Value×Value)) (s:ByteArray) (x:Value):List (Value×Value):=match L.findIdx? fun p=>jw (.string s) p.1 with
 | some j=>L.set j (.string s,x)
 | none=>L ++ [(.string s,x)]
theorem NH (s:ByteArray) (k:Value):jw (.string s) k=true↔k = .string s:=by
 cases k with
 | string s'=>
  constructor
  .intro h;exact ND (d:=.string) rfl rfl h
  .intro h;obtain⟨r,h1,h2⟩:=MapKept.sameNow_of_keys (Ae (d:=.string) (v:=.string s) rfl) (Ae (d:=.string) (v:=.string s') rfl);rw[Pa (d:=.string) rfl rfl]at h1;rw[AI h1];exact h2.2 (by first | exact h.symm | exact h)
 | _=>exact⟨fun h=>(by cases h),fun h=>(by cases h)⟩
theorem Iv (s:ByteArray):jw (.string s) (.string s)=true:=(NH s _).2 rfl
theorem Iu {s:ByteArray} {k:Value} (h:k≠.string s):jw (.string s) k=false:=by
 cases hk:jw (.string s) k with
 | false=>rfl
 | true=>exact absurd ((NH s k).1 hk) h
theorem Cj (x:Value) (L:List (Value×Value)) (s:ByteArray):ew ((.string s,x) :: L) s=some x:=by
 unfold ew;rw[List.find?_cons];simp only[Iv];rfl
theorem Ah {k:Value} (x:Value) (L:List (Value×Value)) {s:ByteArray} (h:k≠.string s):ew ((k,x) :: L) s=ew L s:=by
 unfold ew;rw[List.find?_cons];simp only[Iu h]
theorem Ps {s s':ByteArray} (h:s'≠s):Value.string s≠Value.string s':=fun e=>h (by injection e with e;exact e.symm)
theorem N6:kW []:=⟨ak,ak⟩
theorem UT {p:Value×Value} {L:List (Value×Value)} (h:kW (p :: L)):kW L:=⟨fun q hq=>h.str q (by simp[hq]),(anf.1 h.once).2⟩
theorem OU (s:ByteArray) (x:Value):dt [] s x=[(.string s,x)]:=rfl
theorem Jb (y:Value) (L:List (Value×Value)) (s:ByteArray) (x:Value):dt ((.string s,y) :: L) s x=(.string s,x) :: L:=by
 unfold dt;rw[anF];simp only[Iv,if_true];rfl
theorem Jc {k:Value} (y:Value) (L:List (Value×Value)) {s:ByteArray} (x:Value) (h:k≠.string s):dt ((k,y) :: L) s x=(k,y) :: dt L s x:=by
 unfold dt;rw[anF];simp only[Iu h,amn,if_false]
 cases L.findIdx? fun p=>jw (.string s) p.1 with
 | none=>rfl
 | some j=>rfl
theorem sQ (s s':ByteArray) (x:Value):∀ L:List (Value×Value),ew (dt L s x) s'=if s'=s then some x else ew L s'
 | []=>by
  rw[OU];by_cases h:s'=s
  .subst h;rw[Cj,if_pos rfl]
  .rw[Ah _ _ (Ps h),if_neg h]
 | (k,y) :: L=>by
  by_cases hk:k = .string s
  .subst hk;rw[Jb];by_cases h:s'=s
   .subst h;rw[Cj,if_pos rfl]
   .rw[Ah _ _ (Ps h),Ah _ _ (Ps h),if_neg h]
  .rw[Jc _ _ _ hk];by_cases gX:k = .string s'
   .subst gX;rw[Cj,Cj,if_neg (fun e=>hk (by rw[e]))]
   .rw[Ah _ _ gX,Ah _ _ gX,sQ s s' x L]
theorem VZ (s:ByteArray) (x:Value):∀ {L:List (Value×Value)} {k:Value},k∈(dt L s x).map (·.1)->k = .string s\/k∈L.map (·.1)
 | [],k,h=>by rw[OU]at h;simp at h;exact .inl h
 | (k0,y) :: L,k,h=>by
  by_cases hk:k0 = .string s
  .subst hk;rw[Jb]at h;simp only[amE,amx]at h ⊢
   rcases h with h | h
   .exact .inl h
   .exact .inr (.inr h)
  .rw[Jc _ _ _ hk]at h;simp only[amE,amx]at h ⊢
   rcases h with h | h
   .exact .inr (.inl h)
   .rcases VZ s x h with h | h
    .exact .inl h
    .exact .inr (.inr h)
theorem Cl (s:ByteArray) (x:Value):∀ {L:List (Value×Value)},kW L->kW (dt L s x)
 | [],_=>by rw[OU];exact⟨ak,ak⟩
 | (k,y) :: L,h=>by
  have ih:=Cl s x (UT h);by_cases hk:k = .string s
  .subst hk;rw[Jb]
   exact⟨fun p hp=>by
    rcases amx.1 hp with rfl | hp
    .exact⟨s,rfl⟩
    .exact h.str p (by simp[hp]),by simpa using h.once⟩
  .rw[Jc _ _ _ hk];refine⟨fun p hp=>?_,?_⟩
   .rcases amx.1 hp with rfl | hp
    .exact h.str _ ak
    .exact ih.str p hp
   .rw[amE,anf];refine⟨fun hm=>?_,ih.once⟩
    rcases VZ s x hm with e | e
    .exact hk e
    .exact (anf.1 h.once).1 e
theorem EY:∀ {L:List (Value×Value)},kW L->∀ {j:Nat} (hj:j < L.length) {s:ByteArray},L[j].1 = .string s->ew L s=some L[j].2
 | (k,y) :: L,h,0,_,s,he=>by
  have:k = .string s:=he;subst this;exact Cj _ _ _
 | (k,y) :: L,h,j+1,hj,s,he=>by
  have dG:j < L.length:=by simpa using hj
  have bq:k≠.string s:=fun e=>(anf.1 h.once).1 (by
   show k∈_;have kM:L[j].1 = .string s:=he;rw[e,<- kM]
   exact amS.2 ⟨L[j],By dG,rfl⟩)
  rw[Ah _ _ bq];exact EY (UT h) dG he
theorem UP {L:List (Value×Value)} {s:ByteArray} {v:Value} (h:ew L s=some v):∃ j,∃ hj:j < L.length,L[j].1 = .string s/\L[j].2=v:=by
 unfold ew at h;obtain⟨p,hp,rfl⟩:=AS.1 h;have h1:=List.find?_some hp;obtain⟨j,hj,rfl⟩:=amz.1 (List.mem_of_find?_eq_some hp);exact⟨j,hj,(NH s _).1 h1,rfl⟩
structure yN (E:List (Value×Value)) (seen:List Nat) (L:List (Value×Value)):Prop where
 ok:kW L
 have':∀ j∈seen,∀ hj:j < E.length,∀ s,E[j].1 = .string s->ew L s=some E[j].2
 only:∀ s v,ew L s=some v->∃ j,∃ hj:j < E.length,j∈seen/\E[j].1 = .string s
theorem QS (E:List (Value×Value)):yN E [] []:=⟨N6,ak,fun s v h=>by cases h⟩
theorem QR {E:List (Value×Value)} (hE:kW E) {seen:List Nat} {L:List (Value×Value)} (h:yN E seen L) {j:Nat} (hj:j < E.length) {s:ByteArray} (hs:E[j].1 = .string s):yN E (seen ++ [j]) (dt L s E[j].2):=by
 refine⟨Cl s _ h.ok,fun i hi dr s' o0=>?_,fun s' v hv=>?_⟩
 .rw[sQ];by_cases e:s'=s
  .subst e;rw[if_pos rfl];have h1:=EY hE hj hs;have h2:=EY hE dr o0;rw[<- h1,h2]
  .rw[if_neg e]
   rcases amq.1 hi with hi | hi
   .exact h.have' i hi dr s' o0
   .obtain rfl:i=j:=by simpa using hi
    rw[hs]at o0;injection o0 with o0;exact absurd o0.symm e
 .rw[sQ]at hv;by_cases e:s'=s
  .subst e;exact⟨j,hj,ak,hs⟩
  .rw[if_neg e]at hv;obtain⟨i,hi,h1,h2⟩:=h.only s' v hv;exact⟨i,hi,by simp[h1],h2⟩
theorem aaa {E:List (Value×Value)} (hE:kW E) {seen:List Nat} {L:List (Value×Value)} (h:yN E seen L) (dY:∀ j,j < E.length->j∈seen) (s:ByteArray):ew L s=ew E s:=by
 cases he:ew E s with
 | some v=>
  obtain⟨j,hj,h1,h2⟩:=UP he;rw[h.have' j (dY j hj) hj s h1,h2]
 | none=>
  cases hl:ew L s with
  | none=>rfl
  | some v=>
   obtain⟨j,hj,_,h1⟩:=h.only s v hl;rw[EY hE hj h1]at he;cases he
theorem vz (s:ByteArray):∀ L:List (Value×Value),mG (.string s) (ef L)=(ew L s).map .v
 | []=>rfl
 | (k,x) :: L=>by
  have ih:=vz s L;by_cases hk:k = .string s
  .subst hk;rw[Cj];show ((List.find? _ ((Value.string s,D.v x) :: ef L)).map _)=_;rw[List.find?_cons];simp only[Iv];rfl
  .rw[Ah _ _ hk,<- ih];show ((List.find? _ ((k,D.v x) :: ef L)).map _)=_;rw[List.find?_cons];simp only[Iu hk];rfl
theorem fj (s:ByteArray) (x:Value):∀ L:List (Value×Value),vA (.string s) (.v x) (ef L)=ef (dt L s x)
 | []=>rfl
 | (k,y) :: L=>by
  have ih:=fj s x L;by_cases hk:k = .string s
  .subst hk;rw[Jb];show (match List.findIdx? _ ((Value.string s,D.v y) :: ef L)with | some j=>_ | none=>_)=_;rw[anF];simp only[Iv,if_true];rfl
  .rw[Jc _ _ _ hk];unfold vA at ih;unfold vA;show (match List.findIdx? _ ((k,D.v y) :: ef L)with | some j=>_ | none=>_)=(k,D.v y) :: ef (dt L s x);rw[anF,<- ih];simp only[Iu hk,amn,if_false]
   cases List.findIdx? (fun p=>jw (.string s) p.1) (ef L) with
   | none=>rfl
   | some j=>rfl
theorem r9:∀ L:List (Value×Value),pg (ef L)=some L
 | []=>rfl
 | (k,x) :: L=>by
  show (pg (ef L)).map _=_;rw[r9 L];rfl
theorem pF {L:List (Value×Value)} (h:kW L):∀ p∈ef L,lh .string p.1=true:=fun p hp=>by
 obtain⟨q,hq,rfl⟩:=amS.1 hp;obtain⟨s,hs⟩:=h.str q hq;show lh .string q.1=true;rw[hs];rfl
def ue:Option Value->Bool
 | some (.bool b)=>b
 | _=>false
def pE:Option Value->Int
 | some (.int _ n)=>n
 | _=>0
structure iO (p:aM) (s:cN) (I C:List (Value×Value)):Prop where
 lK:kW I
 iU:kW C
 bI:∀ k v,ew I k=some v->∃ b,v = .bool b
 iC:∀ k v,ew C k=some v->∃ n,v = .int .i64 n
 is:∀ i (hi:i < p.names.length),ue (ew I (bs p.names[i].name))=s.is.getD i false
 ct:∀ i (hi:i < p.names.length),pE (ew C (bs p.names[i].name))=s.ct.getD i 0
theorem Zy {a b:Tx} (h:bs a=bs b):a=b:=by
 have:=congrArg (fun x:ByteArray=>x.data.toList) h;simpa[bs]using this
theorem Vd {p:aM} (hg:lu p) {i k:Nat} (hi:i < p.names.length) (hk:k < p.names.length) (h:bs p.names[k].name=bs p.names[i].name):k=i:=by
 have h1:=hg.num i hi;have h2:=hg.num k hk;rw[Zy h]at h2;rw[h1]at h2;omega
theorem aic {p:aM}:iO p (kU p) [] []:=by
 refine⟨N6,N6,fun k v h=>(by cases h),fun k v h=>(by cases h),fun i hi=>?_,fun i hi=>?_⟩
 .show false=(List.replicate _ false).getD i false;rw[xq]
 .show (0:Int)=(List.replicate _ (0:Int)).getD i 0;rw[xq]
theorem yl {p:aM} (hg:lu p) {s:cN} {I C:List (Value×Value)} (h:iO p s I C) (hl:s.is.length=p.names.length) {i:Nat} (hi:i < p.names.length) (b:Bool):iO p ⟨s.is.set i b,s.ct⟩ (dt I (bs p.names[i].name) (.bool b)) C:=by
 refine⟨Cl _ _ h.lK,h.iU,fun k v hv=>?_,h.iC,fun k hk=>?_,h.ct⟩
 .rw[sQ]at hv;split at hv
  .exact⟨b,(AI hv).symm⟩
  .exact h.bI k v hv
 .rw[sQ];show _=(s.is.set i b).getD k false;by_cases e:k=i
  .subst e;rw[if_pos rfl,kK aa];rfl
  .rw[if_neg (fun e2=>e (Vd hg hi hk e2)),gV (fun e2=>e e2.symm)];exact h.is k hk
theorem Ji {p:aM} (hg:lu p) {s:cN} {I C:List (Value×Value)} (h:iO p s I C) (hl:s.ct.length=p.names.length) {i:Nat} (hi:i < p.names.length) (n:Int):iO p ⟨s.is,s.ct.set i n⟩ I (dt C (bs p.names[i].name) (.int .i64 n)):=by
 refine⟨h.lK,Cl _ _ h.iU,h.bI,fun k v hv=>?_,h.is,fun k hk=>?_⟩
 .rw[sQ]at hv;split at hv
  .exact⟨n,(AI hv).symm⟩
  .exact h.iC k v hv
 .rw[sQ];show _=(s.ct.set i n).getD k 0;by_cases e:k=i
  .subst e;rw[if_pos rfl,kK aa];rfl
  .rw[if_neg (fun e2=>e (Vd hg hi hk e2)),gV (fun e2=>e e2.symm)];exact h.ct k hk
theorem aib {p:aM} {s:cN} {I C I2 C2:List (Value×Value)} (h:iO p s I C) (h1:kW I2) (h2:kW C2) (h3:∀ k,ew I2 k=ew I k) (h4:∀ k,ew C2 k=ew C k):iO p s I2 C2:=
 ⟨h1,h2,fun k v hv=>h.bI k v (by rw[<- h3];exact hv),fun k v hv=>h.iC k v (by rw[<- h4];exact hv),fun i hi=>by rw[h3];exact h.is i hi,fun i hi=>by rw[h4];exact h.ct i hi⟩
theorem Jh {p:aM} {s:cN} {I C:List (Value×Value)} (h:iO p s I C) (nm:Tx) (hn:¬ b7 p nm < 0):ue (ew I (bs nm))=ga p s.is nm:=by
 obtain⟨k,hk,he,hs⟩:=tQ hn
 have o0:p.names[k].name=nm:=by simpa using hs
 have kM:b7 p nm=k:=he;unfold ga;rw[kM,amd,<- h.is k hk,o0]
theorem aot:type_of% (Aq @aoa (Aq @aob @aoc)):=(Aq @aoa (Aq @aob @aoc))
theorem ahU (G:aB) {p:aM} {s:cN} {I C:List (Value×Value)} (h:iO p s I C):pP (fun nm=>¬ b7 p nm < 0) G 82 [.ip [.dm false I,.dm false C]] (ga p s.is):=by
 intro nm hn;rw[<- Jh h nm hn];have hg:=vz (bs nm) I;have hb:=h.bI (bs nm);have gn:=pF h.lK;simp at gn;have bO:=eq_true gn;have mO:=h.lK.once;simp only[dS];generalize bs nm=k at *
 cases hl:ew I k with
 | none=>
  rw[hl]at hg;simp only[an6]at hg;refine aD.aO (ay _) func82 rfl rfl (rs:=[.tmp 3]) results82 (by simp[ntmps82]) fun X=>?_;simp only[ntmps82,List.map];refine ar [0,1] [] ?_;have qf:=(Aq @bO (Aq @mO (Aq @hg aot)));refine ax [3] [] ?_;refine bW ?_;simp[D.le,D.le.go,aP,ue]
 | some v=>
  obtain⟨b,rfl⟩:=hb v hl;rw[hl]at hg;simp only[amI]at hg;refine aD.aO (ay _) func82 rfl rfl (rs:=[.tmp 3]) results82 (by simp[ntmps82]) fun X=>?_;simp only[ntmps82,List.map];refine ar [0,1] [] ?_;have qf:=(Aq @bO (Aq @mO (Aq @hg aot)));refine ax [3] [] ?_;refine bW ?_;simp[D.le,D.le.go,aP,ue]
theorem ahV (G:aB) {p:aM} {s:cN} {I C:List (Value×Value)} (h:iO p s I C):pP (fun nm=>¬ b7 p nm < 0) G 83 [.ip [.dm false I,.dm false C]] (ga p s.is):=by
 intro nm hn;rw[<- Jh h nm hn];have hg:=vz (bs nm) I;have hb:=h.bI (bs nm);have gn:=pF h.lK;simp at gn;have bO:=eq_true gn;have mO:=h.lK.once;simp only[dS];generalize bs nm=k at *
 cases hl:ew I k with
 | none=>
  rw[hl]at hg;simp only[an6]at hg;refine aD.aO (ay _) func83 rfl rfl (rs:=[.tmp 3]) results83 (by simp[ntmps83]) fun X=>?_;simp only[ntmps83,List.map];refine ar [0,1] [] ?_;have qf:=(Aq @bO (Aq @mO (Aq @hg aot)));refine ax [3] [] ?_;refine bW ?_;simp[D.le,D.le.go,aP,ue]
 | some v=>
  obtain⟨b,rfl⟩:=hb v hl;rw[hl]at hg;simp only[amI]at hg;refine aD.aO (ay _) func83 rfl rfl (rs:=[.tmp 3]) results83 (by simp[ntmps83]) fun X=>?_;simp only[ntmps83,List.map];refine ar [0,1] [] ?_;have qf:=(Aq @bO (Aq @mO (Aq @hg aot)));refine ax [3] [] ?_;refine bW ?_;simp[D.le,D.le.go,aP,ue]
theorem O4 (G:aB):MC prog G [] 81 [] (aw []) (.agg [.mp 601,.mp 602]) (aw [(601,.mp 98 []),(602,.mp 99 [])]):=by
 refine MC.aO (ay _) func81 rfl rfl (rs:=[.cell 0 101]) results81 (by simp[ntmps81]) rfl fun X=>?_;simp only[ntmps81];refine ar [0] [0] ?_;refine ar [0] [0,1,2] ?_;refine AW.imp (aL.eb (r:=1) (r':=601) bD ak) ?_;refine AW.st (by simp[iN,iM,Go.Av.eb,rZ];rfl) ?_;refine AW.imp (aL.eb (r:=2) (r':=602) bD ak) ?_;refine AW.st (by simp[iN,iM,Go.Av.eb,rZ];rfl) ?_;exact fP
def Ai (p:aM) (cQ:List Bool) (I:List (Value×Value)):Nat->List (Value×Value)
 | 0=>I
 | k+1=>dt (Ai p cQ I k) (bs (p.names.getD ((bl p).getD k 0).toNat ⟨[],0,0⟩).name) (.bool (cQ.getD k false))
abbrev pf:=List (Value×Value)×List (Value×Value)
def x5 (p:aM) (yes:Bool) (r:jy) (m:pf):pf:=
 let k:=bs r.name
 let top:=(p.names.getD (b7 p r.name).toNat ⟨[],0,0⟩).count
 if r.kind=1 then (dt m.1 k (.bool yes),m.2)
 else if r.kind=2 then (if yes then dt m.1 k (.bool true) else m.1,m.2)
 else if r.kind=3 then (if yes then dt m.1 k (.bool false) else m.1,m.2)
 else if r.kind=6 then (if yes then (dt m.1 k (.bool false),dt m.2 k (.int .i64 0)) else m)
 else
  let c:=pE (ew m.2 k)
  let C1:=if yes then (if c < top then dt m.2 k (.int .i64 (c+1)) else m.2) else (if r.kind=4 then dt m.2 k (.int .i64 0) else m.2)
  (dt m.1 k (.bool (pE (ew C1 k) == top)),C1)
def x6 (p:aM) (gk t:cN):List jy->pf->pf
 | [],m=>m
 | r :: l,m=>x6 p gk (nK p gk t r) l (x5 p (ur (ga p t.is) (ga p gk.is) r.cond) r m)
def x7 (p:aM) (s:cN) (cQ:List Bool) (m:pf):pf:=x6 p s ⟨o5 (bl p) cQ s.is (bl p).length,s.ct⟩ p.aC (Ai p cQ m.1 (bl p).length,m.2)
theorem UZ (p:aM) (gk:cN):∀ (l:List jy) (t:cN) (m:pf) (n:Nat) (h:n < l.length),x6 p gk t (l.take (n+1)) m=x5 p (ur (ga p ((l.take n).foldl (nK p gk) t).is) (ga p gk.is) l[n].cond) l[n] (x6 p gk t (l.take n) m)
 | r :: l,t,m,0,_=>rfl
 | r :: l,t,m,n+1,h=>by
  have:=UZ p gk l (nK p gk t r) (x5 p (ur (ga p t.is) (ga p gk.is) r.cond) r m) n (by simpa using h);simp only[List.take_succ_cons,x6,List.foldl_cons,List.getElem_cons_succ];exact this
theorem Od {p:aM} (hg:lu p) {s:cN} (hs:gE p s) (cQ:List Bool) {I C:List (Value×Value)} (h:iO p s I C):∀ k,k<=(bl p).length->iO p ⟨o5 (bl p) cQ s.is k,s.ct⟩ (Ai p cQ I k) C
 | 0,_=>h
 | k+1,hk=>by
  have ih:=Od hg hs cQ h k aa;obtain⟨i,hi,he,_⟩:=Cd (p:=p) (j:=k) aa
  have e1:(bl p).getD k 0=(i:Int):=by rw[dw aa];exact he
  have e2:p.names.getD i ⟨[],0,0⟩=p.names[i]:=dw hi;rw[Ai,e1,amd,e2,OT aa he];exact yl hg ih (Ar cQ hs k aa).1.l1 hi _
theorem Pe {α:Type} {l:List α} {i:Nat} {d x:α} (hi:i < l.length) (h:l.getD i d=x):l.set i x=l:=by
 rw[dw hi]at h;rw[<- h,List.set_getElem_self]
theorem ae2 {p:aM} (aV:cO p=none) {r:jy} (hr:r∈p.aC) (gk:cN) {t:cN} (ht:gE p t) {m:pf} (h:iO p t m.1 m.2):iO p (nK p gk t r) (x5 p (ur (ga p t.is) (ga p gk.is) r.cond) r m).1 (x5 p (ur (ga p t.is) (ga p gk.is) r.cond) r m).2:=by
 have hg:=gb aV;obtain⟨i,hi,hn,hw,hd⟩:=Jp aV hr;obtain⟨hk,iY,_⟩:=yZ aV r hr;obtain⟨i2,gx,lD,fA⟩:=tQ iY
 have fL:r.name=p.names[i].name:=by
  have h1:b7 p r.name=(i2:Int):=lD
  have:i2=i:=aa
  subst this
  have:p.names[i2].name=r.name:=by simpa using fA
  exact this.symm
 have jD:=ht.l1;have jE:=ht.l2;have zI:=ht.lo i;have BQ:=ht.hi i hi;have his:=h.is i hi;have Hr:=h.ct i hi;have mL:=hg.count _ (By hi);unfold x5 nK;simp only[hn,amd,hd];generalize ur (ga p t.is) (ga p gk.is) r.cond=yes;obtain⟨kd,nm,cd⟩:=r;dsimp only at fL hk hw hn ⊢;subst fL;clear iY lD fA hr hn;obtain⟨is,ct⟩:=t;obtain⟨I,C⟩:=m;dsimp only at his Hr jD jE zI BQ h ⊢
 have fV:i < is.length:=aa
 have gx:i < ct.length:=aa
 generalize hv:ct.getD i 0=v at *;have TF:ct.set i v=ct:=Pe gx hv
 have put:∀ n,pE (ew (dt C (bs p.names[i].name) (.int .i64 n)) (bs p.names[i].name))=n:=fun n=>by rw[sQ,if_pos rfl];rfl
 have fin:∀ (c:Int) (C1:List (Value×Value)),iO p ⟨is,ct.set i c⟩ I C1->pE (ew C1 (bs p.names[i].name))=c->∀ b,(c == p.names[i].count)=b->iO p ⟨is.set i b,ct.set i c⟩ (dt I (bs p.names[i].name) (.bool (pE (ew C1 (bs p.names[i].name)) == p.names[i].count))) C1:=fun c C1 h1 h2 b h3=>by
  rw[h2,h3];exact yl (s:=⟨is,ct.set i c⟩) hg h1 jD hi b
 have Ed:kd=1\/kd=2\/kd=3\/kd=4\/kd=5\/kd=6:=aa
 have run:(kd=4\/kd=5)->∀ C1,C1=(if yes then (if pE (ew C (bs p.names[i].name)) < p.names[i].count then dt C (bs p.names[i].name) (.int .i64 (pE (ew C (bs p.names[i].name))+1)) else C) else C)->iO p (ja ⟨is,ct⟩ i p.names[i].count yes) (dt I (bs p.names[i].name) (.bool (pE (ew C1 (bs p.names[i].name)) == p.names[i].count))) C1:=fun gH C1 xw=>by
  have jj:1<=p.names[i].count:=by
   have:p.names[i].kind=3\/p.names[i].kind=4:=by
    rcases gH with rfl | rfl
    .exact .inl hw
    .exact .inr hw
   omega
  rw[Hr]at xw;unfold ja;simp only[hv]
  cases yes with
  | true=>
   simp only[if_true]at xw ⊢;by_cases aG:v < p.names[i].count
   .rw[if_pos aG]at xw
    have e:(if v+1 < p.names[i].count then v+1 else p.names[i].count)=v+1:=by split<;>omega
    rw[e,xw];refine fin (v+1) _ (Ji hg h jE hi _) (put _) _ ?_;exact Bool.eq_iff_iff.2 (by simp;omega)
   .rw[if_neg aG]at xw
    have e:(if v+1 < p.names[i].count then v+1 else p.names[i].count)=v:=by split<;>omega
    rw[e,xw];refine fin v C (by rw[TF];exact h) Hr _ ?_;exact Bool.eq_iff_iff.2 (by simp;omega)
  | false=>
   simp only[amn,if_false]at xw ⊢;rw[xw];refine fin v C (by rw[TF];exact h) Hr _ ?_;exact Bool.eq_iff_iff.2 (by simp;omega)
 rcases Ed with rfl | rfl | rfl | rfl | rfl | rfl
 .exact yl hg h jD hi yes
 .cases yes with
  | true=>
   show iO p ⟨is.set i (is.getD i false || true),ct⟩ (dt I _ (.bool true)) C;rw[Bool.or_true];exact yl hg h jD hi true
  | false=>
   show iO p ⟨is.set i (is.getD i false || false),ct⟩ I C;rw[Bool.or_false,Pe fV rfl];exact h
 .cases yes with
  | true=>
   show iO p ⟨is.set i (is.getD i false && !true),ct⟩ (dt I _ (.bool false)) C;rw[Bool.not_true,Bool.and_false];exact yl hg h jD hi false
  | false=>
   show iO p ⟨is.set i (is.getD i false && !false),ct⟩ I C;rw[anl,Bool.and_true,Pe fV rfl];exact h
 .cases yes with
  | true=>exact run (.inl rfl) _ rfl
  | false=>
   show iO p (vb (ja ⟨is,ct⟩ i p.names[i].count false) i) (dt I _ (.bool (pE (ew (dt C _ (.int .i64 0)) _) == p.names[i].count))) (dt C _ (.int .i64 0))
   have jj:1<=p.names[i].count:=by
    have:p.names[i].kind=3:=hw;omega
   have e:vb (ja ⟨is,ct⟩ i p.names[i].count false) i=⟨is.set i false,ct.set i 0⟩:=by
    simp[vb,ja,List.set_set]
   rw[e];refine fin 0 _ (Ji hg h jE hi _) (put _) false ?_;simp;omega
 .cases yes with
  | true=>exact run (.inr rfl) _ rfl
  | false=>exact run (.inr rfl) _ rfl
 .cases yes with
  | true=>exact Ji (s:=⟨is.set i false,ct⟩) hg (yl hg h jD hi false) jE hi 0
  | false=>exact h
theorem Oe {p:aM} (aV:cO p=none) (gk:cN):∀ (l:List jy) {t:cN} {m:pf},(∀ r∈l,r∈p.aC)->gE p t->iO p t m.1 m.2->iO p (l.foldl (nK p gk) t) (x6 p gk t l m).1 (x6 p gk t l m).2
 | [],t,m,_,_,h=>h
 | r :: l,t,m,hl,ht,h=>Oe aV gk l (fun r hr=>hl r (by simp[hr])) (W5 aV (hl r ak) gk ht).1 (ae2 aV (hl r ak) gk ht h)
theorem U2 {p:aM} (aV:cO p=none) {s:cN} (hs:gE p s) (cQ:List Bool) {m:pf} (h:iO p s m.1 m.2):iO p (oP p s cQ) (x7 p s cQ m).1 (x7 p s cQ m).2:=
 Oe aV s p.aC (fun r hr=>hr) (Ar cQ hs _ (amh _)).1 (Od (gb aV) hs cQ h _ (amh _))
theorem YH (y:Int):(pQ .and .i64 y 1 == 1)=decide (y % 2=1):=by
 unfold pQ;dsimp only
 have h2:(BitVec.ofInt 64 (1:Int)).toNat=1:=bD
 have h3:(BitVec.ofInt IntKind.i64.bits y &&& BitVec.ofInt IntKind.i64.bits (1:Int)).toNat=(y % 2).toNat:=by
  show (BitVec.ofInt 64 y &&& BitVec.ofInt 64 (1:Int)).toNat=(y % 2).toNat
  rw[BitVec.toNat_and,h2,Nat.and_one_is_mod,BitVec.toNat_ofInt];omega
 rw[h3]
 have:y % 2=0\/y % 2=1:=aa
 rcases this with h | h<;>rw[h]<;>decide
theorem Ub (x:Int) {k:Nat} (hk:k<=6):Aa x k=decide ((x / 2 ^ k) % 2=1):=by
 unfold Aa
 have e:min k IntKind.i64.bits=k:=by
  have:IntKind.i64.bits=64:=rfl;rw[this];omega
 rw[e,Int.fdiv_eq_ediv_of_nonneg _ (by exact anK (Int.pow_pos bD)),YH]
theorem SJ (x:Int) (k:Nat):x / 2 ^ (k+1)=x / 2 ^ k / 2:=by
 rw[Int.pow_succ,Int.ediv_ediv_of_nonneg (by exact anK (Int.pow_pos bD))]
def E8 (p:aM) (x:Int×pf) (nm:iD):Int×pf:=if dB p nm=0 then x else
 (x.1 / dB p nm,if 3<=nm.kind then (dt x.2.1 (bs nm.name) (.bool (decide (x.1 % dB p nm=nm.count))),dt x.2.2 (bs nm.name) (.int .i64 (x.1 % dB p nm))) else (dt x.2.1 (bs nm.name) (.bool (decide (x.1 % dB p nm=1))),x.2.2))
def lJ (p:aM) (n:Int) (k:Nat):Int×pf:=(p.names.take k).foldl (E8 p) (n,([],[]))
theorem U1 (p:aM) (n:Int):lJ p n 0=(n,([],[])):=rfl
theorem Og {p:aM} (n:Int) {k:Nat} (h:k < p.names.length):lJ p n (k+1)=E8 p (lJ p n k) p.names[k]:=by
 unfold lJ;rw[aml h,List.foldl_append];rfl
theorem wM {p:aM} (hg:lu p) {i:Nat} (hi:i < p.names.length):0<=dB p p.names[i]:=by
 have h5:=hg.count _ (By hi);unfold dB;split
 .rcases h5 with h5 | h5<;>omega
 .split
  .omega
  .split<;>omega
theorem IG {p:aM} (aV:cO p=none) (n:Int) (h0:0<=n):∀ k,k<=p.names.length->∃ s:cN,s.is.length=p.names.length/\s.ct.length=p.names.length/\iO p s (lJ p n k).2.1 (lJ p n k).2.2/\o7 (jW p k) (lJ p n k).1 s=jb p n/\0<=(lJ p n k).1/\(lJ p n k).1<=n
 | 0,_=>⟨kU p,by simp[kU],by simp[kU],aic,rfl,h0,an0 _⟩
 | k+1,hk=>by
  have hg:=gb aV
  have gX:k < p.names.length:=aa
  obtain⟨s,l1,l2,hr,he,b0,b1⟩:=IG aV n h0 k aa;rw[Og n gX];rw[ajg hg _ s gX]at he;have xM:=wM hg gX;generalize lJ p n k=x at *;obtain⟨m,I,C⟩:=x;dsimp only at hr he b0 b1;unfold E8;by_cases hz:dB p p.names[k]=0
  .rw[if_pos hz]at he;simp only[if_pos hz];exact⟨s,l1,l2,hr,he,b0,b1⟩
  .rw[if_neg hz]at he;simp only[if_neg hz];have d0:0<=m / dB p p.names[k]:=Int.ediv_nonneg b0 xM;have d1:m / dB p p.names[k]<=m:=Int.ediv_le_self _ b0;by_cases k3:3<=p.names[k].kind
   .simp only[if_pos k3]
    have hpK:dB p p.names[k]=p.names[k].count+1:=by unfold dB;rw[if_pos k3]
    have h1:=Ji hg hr l2 gX (m % dB p p.names[k]);have h2:=yl hg h1 l1 gX (decide (m % dB p p.names[k]=p.names[k].count))
    have e:sS ⟨k,dB p p.names[k],decide (3<=p.names[k].kind)⟩ (m % dB p p.names[k]) s=⟨s.is.set k (decide (m % dB p p.names[k]=p.names[k].count)),s.ct.set k (m % dB p p.names[k])⟩:=by
     unfold sS
     have e2:dB p p.names[k] - 1=p.names[k].count:=aa
     simp only[decide_eq_true k3,if_true,e2]
    rw[e]at he;exact⟨_,by simp[l1],by simp[l2],h2,he,d0,aa⟩
   .simp only[if_neg k3];have h2:=yl hg hr l1 gX (decide (m % dB p p.names[k]=1))
    have e:sS ⟨k,dB p p.names[k],decide (3<=p.names[k].kind)⟩ (m % dB p p.names[k]) s=⟨s.is.set k (decide (m % dB p p.names[k]=1)),s.ct⟩:=by
     unfold sS;simp only[decide_eq_false k3,amn,if_false]
    rw[e]at he;exact⟨⟨s.is.set k (decide (m % dB p p.names[k]=1)),s.ct⟩,by simp[l1],l2,h2,he,d0,aa⟩
theorem U0 {p:aM} (aV:cO p=none) (n:Int) (h0:0<=n):iO p (jb p n) (lJ p n p.names.length).2.1 (lJ p n p.names.length).2.2:=by
 obtain⟨s,_,_,hr,he,_⟩:=IG aV n h0 _ (amh _);rw[Xa]at he;have e:s=jb p n:=he;rw[<- e];exact hr
theorem Pm {p:aM} (aV:cO p=none) {s:cN} (hs:gE p s) (k:Nat):0<=ie (jW p k) s/\ie (jW p k) s < bT (bF p):=by
 have hg:=gb aV;have h:=IU (l:=jW p k) (s:=s) fun _ hx=>KM hs (nJ hg (Xb hx))
 have e:bT (bF p)=bT ((bF p).take (ij p k).length) * bT (jW p k):=by
  unfold jW;rw[<- Fw,anR]
 have h1:0 < bT ((bF p).take (ij p k).length):=o4 fun x hx=>(nJ hg (amr hx)).m2;have h2:0 < bT (jW p k):=o4 fun x hx=>(nJ hg (Xb hx)).m2;have h3:=Int.mul_le_mul_of_nonneg_right (show (1:Int)<=bT ((bF p).take (ij p k).length) by omega) (anK h2);rw[Int.one_mul]at h3;exact⟨h.1,aa⟩
theorem akC {p:aM} (aV:cO p=none) {s:cN} (hs:gE p s) {i:Nat} (hi:i < p.names.length) (hP:bT (bF p)<=4096) (hz:dB p p.names[i]≠0):0<=ie (jW p (i+1)) s * dB p p.names[i]/\ie (jW p (i+1)) s * dB p p.names[i]<=4096/\ie (jW p i) s=ie (jW p (i+1)) s * dB p p.names[i]+(if 3<=p.names[i].kind then s.ct.getD i 0 else if s.is.getD i false then 1 else 0):=by
 have hg:=gb aV;have h1:=Xc hg s hi;rw[if_neg hz,Int.mul_comm]at h1;have h2:=Pm aV hs i;have h3:=Pm aV hs (i+1);have h4:=an5 h3.1 (wM hg hi)
 have h5:0<=(if 3<=p.names[i].kind then s.ct.getD i 0 else if s.is.getD i false then 1 else 0):=by
  split
  .exact hs.lo i
  .split<;>omega
 generalize (if 3<=p.names[i].kind then s.ct.getD i 0 else if s.is.getD i false then 1 else 0)=d at *;exact⟨h4,aa,aa⟩
def Fi (R:List Nat) (q off n:Nat):AV:=if R.contains q then .dead else .own q off n
def Fh (R:List Nat) (q e j:Nat):AV:=if R.contains q then .dead else .ref q e j
theorem adp {Mv X:Nat->Prop} {G:aB} {N:Fr} {σ:St} (R:List Nat) (hm:∀ r,R.contains r=true->Mv r) (i k:Nat) {x:AV} {d:D} (hx:σ.env i=some x) (hd:gG (fi R.contains (fY R) (fX R) σ.H) k (x.tr (fY R) (fX R))=some d):aL Mv X G N σ ⟨iz (mz (Fi R) (Fh R) σ.env) i (.d d),fi (gB R) (Fi R) (Fh R) σ.H⟩:=fun w μ a hi=>by
 have hp:=hi.bx.part R
 have h':=hi.tr (keep:=gB R) (o:=Fi R) (f:=Fh R) (fun u r off n h=>by
   unfold Fi;split
   .exact .dead u
   .rename_i hk;exact h.CB (by simpa[gB]using hk)) (fun u r e j h=>by
   unfold Fh;split
   .exact .dead u
   .rename_i hk;exact h.CH (by simpa[gB]using hk))
 obtain⟨u,hu,hr⟩:=hi.env.slot i x hx;have bQ:RD w (XX X (cJ (gB R) μ)) u d:=F8 hp.1 k hd (hp.2 hr);refine⟨cJ (gB R) μ,⟨h'.bx,⟨h'.env.defers,h'.env.size,fun q y hy=>?_⟩,h'.jA⟩,zb fun r _ _ h=>hm r (by simpa[gB]using h)⟩;by_cases e:q=i
 .subst e
  have e2:some (AV.d d)=some y:=by simpa[iz]using hy
  obtain rfl:=AI e2;exact⟨u,hu,.d bQ⟩
 .exact h'.env.slot q y (by simpa[iz,e]using hy)
def ug (p:aM) (st fO:Int) (nx:List (List D)):List D:=[ck p.names,.sl none (p.aC.map ez),.v (.int .i64 st),.v (.int .i64 fO),.sl none nx]
def rq (p:aM) (st fO:Int) (nx:List (List D)):D:=.ip (ug p st fO nx)
def uX (p:aM) (st fO:Int) (nx:List (List D)):List (Nat×Row):=[(12,.box 48 [.d (ck p.names),.d (.sl none (p.aC.map ez)),.d (.v (.int .i64 st)),.d (.v (.int .i64 fO)),.own 800 0 nx.length]),(800,.sl 36 1 nx)]
def xc (m:pf):D:=.agg [.dm false m.1,.dm false m.2]
theorem aky (G:aB) (p:aM) (aV:cO p=none) (st fO:Int) (nx:List (List D)) (x:Int) (h0:0<=x) (h1:x<=2^40) (hm6:(bl p).length<=6):MC prog G [12,800] 39 [.ref 12 0 0,.d (ab x)] (aw (uX p st fO nx)) (.d (ff (dL x (bl p).length))) (aw (uX p st fO nx)):=by
 have fL:=(gb aV).names;have gH:=FV G p aa 1;have ny:jI p.names 1 p.names.length=bl p:=rfl;rw[ny]at gH;simp only[eB,fF,ck]at gH;simp only[uX,ck,ab,ff]
 have nV:((bl p).map fun n=>[D.v (.int .i64 n)]).length=(bl p).length:=ak
 generalize (bl p).length=m at *;generalize (bl p).map (fun n=>[D.v (.int .i64 n)])=IN at *;generalize p.names.map bw=NN at *;generalize p.aC.map ez=RR at *;refine MC.aO (ay _) func39 rfl rfl (rs:=[.tmp 4]) results39 (by simp[ntmps39]) rfl fun X=>?_;simp only[ntmps39];have fw:=@an8;refine ae fw [0,1] [12,800] ?_;refine ae fw [0,1,5] [12,800] ?_;refine ag fun K1 aF=>bh fw gH [1,5,11,12] [12,800] ?_;refine ch (S:=Nat×Int) (fun s=>s.1<=m/\0<=s.2/\s.2<=2^40/\s.2=x / 2 ^ s.1) (fun s=>⟨bg [(1,int s.2),(5,.own 901 0 s.1),(11,int m),(12,int s.1)],aw [(12,.box 48 [.d (.sl none NN),.d (.sl none RR),.d (.v (.int .i64 st)),.d (.v (.int .i64 fO)),.own 800 0 nx.length]),(800,.sl 36 1 nx),(901,.sl 4 1 ((dL x s.1).map fun b=>[.v (.bool b)]))]⟩) (fun s=>m - s.1) (0,x) ?_ ⟨ak,h0,h1,ak⟩ ?_
 .refine (aL.lO 5 901 4 1 rfl rfl).trans ?_;refine bo (Aq fw (Aq @dL.eq_1 (Aq @dL.eq_2 @nV)))
 .rintro⟨k,v⟩ ⟨zG,iZ,jG,hv⟩;dsimp only at zG iZ jG hv ⊢
  have lz:((dL x k).map fun b=>[D.v (.bool b)]).length=k:=by simp[wE]
  have nU:dL x (k+1)=dL x k ++ [decide (v % 2=1)]:=by rw[hv,<- Ub x aa];rfl
  generalize iX:dL x k=B at lz nU ⊢;refine ae fw [1,5,11,12,13] [12,800,901] ?_;refine ag fun K2 au=>eY (b:=k < m) (by simp[D.le,D.le.go,aP,ab]) (fun hc=>?_) (fun hc=>?_)
  .have kQ:v.tmod 2=v % 2:=anb iZ
   have hdiv:IntKind.i64.wrap (v.tdiv 2)=v / 2:=by
    rw[anm iZ];exact AQ aa
   refine aq (au _ (ag fun K3 aX=>bf (rg [1,5,11,12] [12,800,901] (dT rfl) fun K' ao=>?_)));(repeat refine aK fun Kq af=>?_;simp[ab,lz,sh,kQ];(repeat refine⟨aa,?_⟩);refine af _ ?_);refine bH (ao _ (AW.st (by simp[ab,lz,sh,kQ];rfl) ?_));have qf:=(Aq fw @hdiv);refine eM aX [1,5,11,12] [12,800,901] ?_;refine cA fw ?_;(try simp only[aT,aW]);refine aZ.mk (k+1,v / 2) ⟨by dsimp only;omega,by dsimp only;omega,by dsimp only;omega,by dsimp only;rw[SJ,<- hv]⟩ (by dsimp only;omega) ?_;rw[nU];refine bo fw
  .obtain rfl:k=m:=aa
   refine bL (aF _ ?_);rw[iX];refine AW.imp (aL.freeze 901 bD) ?_;refine AW.st (by simp[ab,lz,sh];rfl) ?_;refine ae fw [4] [12,800] ?_;exact aY fw
theorem akD (G:aB) (hM:ky G) (p:aM) (aV:cO p=none) (hk:∀ r∈p.aC,mZ r) (st fO:Int) (nx:List (List D)) (s:cN) (hs:gE p s) (hP:bT (bF p)<=4096) (I C:List (Value×Value)) (hr:iO p s I C):MC prog G [12,800] 55 [.ref 12 0 0,.d (xc (I,C))] (aw (uX p st fO nx)) (.d (ab (ie (bF p) s))) (aw (uX p st fO nx)):=by
 have hg:=gb aV;have fL:=hg.names;have oh:=Fz G hM p aV hk;simp only[eB,fF,ck,gd]at oh;have lK:=hr.lK;have iU:=hr.iU;have gn:=pF lK;simp at gn;have bO:=eq_true gn;have fW:=pF iU;simp at fW;have eE:=eq_true fW;have Fa:=lK.once;have Fb:=iU.once
 have pZ:∀ i (hi:i < p.names.length),(mG (.string (bs p.names[i].name)) (ef I)=none/\s.is.getD i false=false)\/mG (.string (bs p.names[i].name)) (ef I)=some (.v (.bool (s.is.getD i false))):=fun i hi=>by
  rw[vz,<- hr.is i hi]
  cases h:ew I (bs p.names[i].name) with
  | none=>exact .inl ⟨rfl,rfl⟩
  | some v=>obtain⟨b,rfl⟩:=hr.bI _ v h;exact .inr rfl
 have hCi:∀ i (hi:i < p.names.length),(mG (.string (bs p.names[i].name)) (ef C)=none/\s.ct.getD i 0=0)\/mG (.string (bs p.names[i].name)) (ef C)=some (.v (.int .i64 (s.ct.getD i 0))):=fun i hi=>by
  rw[vz,<- hr.ct i hi]
  cases h:ew C (bs p.names[i].name) with
  | none=>exact .inl ⟨rfl,rfl⟩
  | some v=>obtain⟨b,rfl⟩:=hr.iC _ v h;exact .inr rfl
 have M4:=fun k=>Pm aV hs k;have Tr:=fun i (hi:i < p.names.length)=>Xc hg s hi;have jN:=fun i (hi:i < p.names.length)=>akC aV hs hi hP
 have c6:(fC p).length=p.names.length:=by simp[fC]
 have tB:∀ i (hi:i < p.names.length),(fC p)[i]? = some (dB p p.names[i]):=fun i hi=>by simp[fC,hi]
 have mW:ie (jW p 0) s=ie (bF p) s:=by rw[ai0]
 have T5:ie (jW p p.names.length) s=0:=by rw[Xa];rfl
 rw[<- mW];clear mW;generalize fC p=RP at *;obtain⟨V,hV⟩:∃ V:Nat->Int,∀ k,ie (jW p k) s=V k:=⟨_,fun _=>rfl⟩;simp only[hV]at M4 Tr jN T5 ⊢;clear hV hr lK iU gn fW;simp only[uX,ck,ab,xc]
 have oT:(p.names.map bw).length=p.names.length:=ak
 have j6:∀ i (h:i < p.names.length),(p.names.map bw)[i]? = some [.v (.string (bs p.names[i].name)),.v (.int .i64 p.names[i].kind),.v (.int .i64 p.names[i].count)]:=fun i h=>by simp[h,bw,dS]
 generalize p.names.map bw=NN at *;generalize p.aC.map ez=RR at *;refine MC.aO (ay _) func55 rfl rfl (rs:=[.tmp 4]) results55 (by simp[ntmps55]) rfl fun X=>?_;simp only[ntmps55];have fw:=@an8;refine ae fw [0,3] [12,800,3] ?_;refine dZ fw 3 ?_;refine ae fw [0,3,5] [12,800] ?_;refine bh fw oh [0,3,5,6] [12,800] ?_;refine ag fun K1 aF=>ae fw [0,3,5,6,7] [12,800] ?_;refine ch (S:=Nat) (fun k=>k<=p.names.length) (fun k=>⟨bg [(0,.ref 12 0 0),(3,.d (.ip [.dm false I,.dm false C])),(5,int (V k)),(6,.d (.sl none (RP.map fun x=>[.v (.int .i64 x)]))),(7,int ((k:Int) - 1))],aw [(12,.box 48 [.d (.sl none NN),.d (.sl none RR),.d (.v (.int .i64 st)),.d (.v (.int .i64 fO)),.own 800 0 nx.length]),(800,.sl 36 1 nx)]⟩) (fun k=>k) p.names.length ?_ (amh _) ?_
 .rw[T5];refine bo (Aq fw @c6)
 .intro k hk;refine ag fun K2 au=>?_;have qa:=M4 k
  cases k with
  | zero=>
   refine ae fw [0,3,5,6,7,18] [12,800] ?_;refine bU ak ?_;refine bL (aF _ (ae fw [4] [12,800] ?_));exact aY fw
  | succ i=>
   have hi:i < p.names.length:=aa
   have ei:((i+1:Nat):Int) - 1=(i:Int):=aa
   rw[ei];refine ae fw [0,3,5,6,7,18] [12,800] ?_;refine bR ak ?_;refine aq (au _ (ag fun K3 aX=>bf ?_))
   have dV:i < NN.length:=aa
   have zl:NN[i]=[.v (.string (bs p.names[i].name)),.v (.int .i64 p.names[i].kind),.v (.int .i64 p.names[i].count)]:=by
    have:=j6 i hi;rw[AT dV]at this;exact AI this
   have pA:i < RP.length:=aa
   have je:RP[i]=dB p p.names[i]:=by
    have:=tB i hi;rw[AT pA]at this;exact AI this
   have hz:=Tr i hi;have hn:=jN i hi;have zh:=pZ i hi;have Lk:=hCi i hi;generalize bs p.names[i].name=nm at zl zh Lk;generalize p.names[i].kind=kd at zl hz hn;generalize p.names[i].count=ct at zl;generalize dB p p.names[i]=K at je hz hn;generalize s.is.getD i false=b at zh hz hn;generalize s.ct.getD i 0=c at Lk hz hn;generalize V (i+1)=v at hz hn qa ⊢;have ot:=M4 i;generalize Bz:V i=vi at hz hn ot;have qf:=(Aq fw (Aq @dV @zl));refine ax [0,3,5,6,7,8] [12,800,8] ?_;refine dZ fw 8 ?_;refine ag fun K4 b6=>?_;by_cases p0:K=0
   .rw[if_pos p0]at hz;have qf:=(Aq fw (Aq @pA (Aq @je @p0)));refine ax [0,3,5,6,7,8,33] [12,800] ?_;refine bR (by simp[p0]) (bL (aX _ ?_));refine cA fw ?_;(try simp only[aT,aW]);refine aZ.mk i aa aa ?_;rw[Bz,hz];refine bo fw
   .clear hz;obtain⟨n1,n2,n3⟩:=hn p0;have qf:=(Aq fw (Aq @pA (Aq @je @p0)));refine ax [0,3,5,6,7,8,33] [12,800] ?_;refine bU (by simp[p0]) (aq (b6 _ ?_));have qf:=(Aq fw (Aq @pA @je));refine ax [0,3,5,6,7,8] [12,800] ?_;generalize v * K=w at n1 n2 n3 ⊢;by_cases k3:kd >= 3
    .rw[if_pos k3]at n3;have qf:=(Aq fw @k3);refine ax [0,3,5,6,7,8,42] [12,800] ?_;refine bR (by simp<;>omega) ?_
     rcases Lk with⟨h2,rfl⟩ | h2
     .have qf:=(Aq fw (Aq @h2 (Aq @bO (Aq @eE (Aq @Fa (Aq @Fb aot))))));refine eM aX [0,3,5,6,7] [12,800] ?_;refine cA fw ?_;(try simp only[aT,aW]);refine aZ.mk i aa aa ?_;rw[Bz,n3];refine bo fw
     .have qf:=(Aq fw (Aq @h2 (Aq @bO (Aq @eE (Aq @Fa (Aq @Fb aot))))));refine eM aX [0,3,5,6,7] [12,800] ?_;refine cA fw ?_;(try simp only[aT,aW]);refine aZ.mk i aa aa ?_;rw[Bz,n3];refine bo fw
    .rw[if_neg aa]at n3;have qf:=(Aq fw @k3);refine ax [0,3,5,6,7,8,42] [12,800] ?_;refine bU (by simp<;>omega) ?_;have abp:∃ ob,mG (.string nm) (ef I)=ob/\((ob=none/\b=false)\/ob=some (.v (.bool b))):=⟨_,rfl,zh⟩;clear zh;obtain⟨ob,h2,zh⟩:=abp
     cases b with
     | true=>
      obtain rfl:ob=some (.v (.bool true)):=zh.elim (fun h=>by cases h.2) id;have qf:=(Aq fw (Aq @h2 (Aq @bO (Aq @eE (Aq @Fa (Aq @Fb aot))))));refine ax [0,3,5,6,7,54] [12,800] ?_;refine aJ ?_;rw[if_pos rfl]at n3;refine gq fw aX [0,3,5,6,7] [12,800] ?_;refine cA fw ?_;(try simp only[aT,aW]);refine aZ.mk i aa aa ?_;rw[Bz,n3];refine bo fw
     | false=>
      rw[if_neg ak,Int.add_zero]at n3
      rcases zh with⟨rfl,_⟩ | rfl
      .have qf:=(Aq fw (Aq @h2 (Aq @bO (Aq @eE (Aq @Fa (Aq @Fb aot))))));refine ax [0,3,5,6,7,54] [12,800] ?_;refine al (aq ?_);refine aX _ (AW.norm [0,3,5,6,7] [12,800] (dT rfl) (AW.st (by simp[ab];rfl) ?_));refine cA fw ?_;(try simp only[aT,aW]);refine aZ.mk i aa aa ?_;rw[Bz,n3];refine bo fw
      .have qf:=(Aq fw (Aq @h2 (Aq @bO (Aq @eE (Aq @Fa (Aq @Fb aot))))));refine ax [0,3,5,6,7,54] [12,800] ?_;refine al (aq ?_);refine aX _ (AW.norm [0,3,5,6,7] [12,800] (dT rfl) (AW.st (by simp[ab];rfl) ?_));refine cA fw ?_;(try simp only[aT,aW]);refine aZ.mk i aa aa ?_;rw[Bz,n3];refine bo fw
theorem akN (G:aB) (hM:ky G) (p:aM) (aV:cO p=none) (hk:∀ r∈p.aC,mZ r) (st fO:Int) (nx:List (List D)) (n:Int) (h0:0<=n) (h1:n<=2^40):MC prog G [12,800] 37 [.ref 12 0 0,.d (ab n)] (aw (uX p st fO nx)) (.d (xc (lJ p n p.names.length).2)) (aw (uX p st fO nx)):=by
 have hg:=gb aV;have fL:=hg.names;have dW:=O4 G;have oh:=Fz G hM p aV hk;simp only[eB,fF,ck,gd]at oh;have aR:=fun k (h:k<=p.names.length)=>IG aV n h0 k h
 have c6:(fC p).length=p.names.length:=by simp[fC]
 have tB:∀ i (hi:i < p.names.length),(fC p)[i]? = some (dB p p.names[i]):=fun i hi=>by simp[fC,hi]
 have DF:=fun i (hi:i < p.names.length)=>wM hg hi;have e7:=fun k (h:k < p.names.length)=>Og n h;have eV:=U1 p n;generalize fC p=RP at *;generalize lJ p n=T at *;simp only[uX,ck,ab,xc]
 have oT:(p.names.map bw).length=p.names.length:=ak
 have j6:∀ i (h:i < p.names.length),(p.names.map bw)[i]? = some [.v (.string (bs p.names[i].name)),.v (.int .i64 p.names[i].kind),.v (.int .i64 p.names[i].count)]:=fun i h=>by simp[h,bw,dS]
 generalize p.names.map bw=NN at *;generalize p.aC.map ez=RR at *;refine MC.aO (ay _) func37 rfl rfl (rs:=[.cell 4 101]) results37 (by simp[ntmps37]) rfl fun X=>?_;simp only[ntmps37];have fw:=@an8;refine ae fw [0,1,4] [12,800,4] ?_;refine bK fw dW [0,1,4,5] [12,800,4,5,601,602] ?_;refine ag fun K1 aF=>bh fw oh [0,1,4,5,14,15,16] [12,800,4,5,601,602] ?_;refine ch (S:=Nat) (fun k=>k<=p.names.length) (fun k=>⟨bg [(0,.ref 12 0 0),(1,int (T k).1),(4,.ref 4 0 0),(5,.ref 5 0 0),(14,.d (.sl none (RP.map fun x=>[.v (.int .i64 x)]))),(15,int RP.length),(16,int k)],aw [(12,.box 48 [.d (.sl none NN),.d (.sl none RR),.d (.v (.int .i64 st)),.d (.v (.int .i64 fO)),.own 800 0 nx.length]),(800,.sl 36 1 nx),(4,.box 101 [.d (.v (.map none)),.d (.v (.map none))]),(5,.box 101 [.mp 601,.mp 602]),(601,.mp 98 (ef (T k).2.1)),(602,.mp 99 (ef (T k).2.2))]⟩) (fun k=>p.names.length - k) 0 ?_ aa ?_
 .rw[eV];refine aL.ek (dT rfl) (by simp[ab,ef]) (by simp[ab,ef])
 .intro k mM;obtain⟨_,_,_,hrel,_,iF,e9⟩:=aR k mM;have fR:=e7 k
  have zo:k=p.names.length->T p.names.length=T k:=fun e=>by rw[e]
  generalize T k=tk at hrel iF e9 fR zo ⊢;obtain⟨m,I,C⟩:=tk;dsimp only at hrel iF e9 ⊢;refine ae fw [0,1,4,5,14,15,16,17] [12,800,4,5,601,602] ?_;refine ag fun K2 au=>?_;by_cases aG:k < p.names.length
  .have pA:k < RP.length:=aa
   refine bR (by simp[pA]) (aq (au _ ?_));refine ag fun K3 aX=>bf ?_;have fR:=fR aG
   have dV:k < NN.length:=aa
   have nX:NN[k]=[.v (.string (bs p.names[k].name)),.v (.int .i64 p.names[k].kind),.v (.int .i64 p.names[k].count)]:=by
    have:=j6 k aG;rw[AT dV]at this;exact AI this
   have gP:RP[k]=dB p p.names[k]:=by
    have:=tB k aG;rw[AT pA]at this;exact AI this
   have p0:=DF k aG;unfold E8 at fR;generalize bs p.names[k].name=nm at nX fR;generalize p.names[k].kind=kd at nX fR;generalize p.names[k].count=ct at nX fR;generalize dB p p.names[k]=K at gP p0 fR;have gn:=pF hrel.lK;simp at gn;have bO:=eq_true gn;have fW:=pF hrel.iU;simp at fW;have eE:=eq_true fW;have qf:=(Aq fw (Aq @pA @gP));refine ax [0,1,4,5,6,7,14,15,16] [12,800,4,5,601,602] ?_;refine ag fun K4 b6=>?_;by_cases j3:K=0
   .rw[if_pos j3]at fR;have qf:=(Aq fw @j3);refine ax [0,1,4,5,6,7,14,15,16,22] [12,800,4,5,601,602] ?_;refine bR (by simp[j3]) (bL (aX _ ?_));refine cA fw ?_;(try simp only[aT,aW]);refine aZ.mk (k+1) aa aa ?_;rw[fR];refine bo fw
   .rw[if_neg j3]at fR;dsimp only at fR;have kQ:m.tmod K=m % K:=anb iF;have jg:0<=m / K:=Int.ediv_nonneg iF p0;have tD:m / K<=m:=Int.ediv_le_self _ iF
    have hdiv:IntKind.i64.wrap (m.tdiv K)=m / K:=by
     rw[anm iF];exact AQ aa
    generalize m / K=q at *;generalize m % K=r at *;have qf:=(Aq fw @j3);refine ax [0,1,4,5,6,7,14,15,16,22] [12,800,4,5,601,602] ?_;refine bU (by simp[j3]) (aq (b6 _ ?_));have qf:=(Aq fw (Aq @dV @nX));refine ax [0,1,4,5,7,8,14,15,16] [12,800,4,5,601,602,8] ?_;refine dZ fw 8 ?_;refine ag fun K5 b5=>?_;by_cases k3:kd >= 3
    .rw[if_pos k3]at fR;have qf:=(Aq fw @k3);refine ax [0,1,4,5,7,8,14,15,16,33] [12,800,4,5,601,602] ?_;refine bR (by simp<;>omega) ?_;have qf:=(Aq fw (Aq @j3 (Aq @kQ (Aq @bO (Aq @eE @fj)))));refine il [0,1,4,5,7,8,14,15,16] [12,800,4,5,601,602] ?_;refine yK (ay _) ah ah fun K' ao=>?_;(repeat refine gC fun Kq af=>?_;simp[ab,j3,kQ,bO,eE,fj];(repeat refine⟨aa,?_⟩);refine af _ ?_);refine o8 (ao _ ?_);refine b5 _ (AW.norm [0,1,4,5,7,14,15,16] [12,800,4,5,601,602] (dT rfl) (AW.st (by simp[ab,j3,kQ,bO,eE,fj];rfl) ?_));have qf:=(Aq fw (Aq @j3 @hdiv));refine eM aX [0,1,4,5,14,15,16] [12,800,4,5,601,602] ?_;refine cA fw ?_;(try simp only[aT,aW]);refine aZ.mk (k+1) aa aa ?_;rw[fR];refine bo fw
    .rw[if_neg k3]at fR;have qf:=(Aq fw @k3);refine ax [0,1,4,5,7,8,14,15,16,33] [12,800,4,5,601,602] ?_;refine bU (by simp<;>omega) ?_;refine yK (ay _) ah ah fun K' ao=>?_;(repeat refine gC fun Kq af=>?_;simp[ab,j3,kQ,bO,eE,fj];(repeat refine⟨aa,?_⟩);refine af _ ?_);refine o8 (ao _ ?_);refine b5 _ (AW.norm [0,1,4,5,7,14,15,16] [12,800,4,5,601,602] (dT rfl) (AW.st (by simp[ab,j3,kQ,bO,eE,fj];rfl) ?_));have qf:=(Aq fw (Aq @j3 @hdiv));refine eM aX [0,1,4,5,14,15,16] [12,800,4,5,601,602] ?_;refine cA fw ?_;(try simp only[aT,aW]);refine aZ.mk (k+1) aa aa ?_;rw[fR];refine bo fw
  .obtain rfl:k=p.names.length:=aa
   have LC:=zo rfl;refine bU (by simp<;>omega) ?_;refine bL (aF _ (ae fw [4] [12,800,4,601,602] ?_))
   refine AW.imp (adp [4,601,602] (fun r h=>by
    have h':r=4\/r=601\/r=602:=by simpa using h
    rcases h' with rfl | rfl | rfl<;>decide) 4 6 (x:=.ref 4 0 0) (d:=.ip [.dm false I,.dm false C]) ak (by simp[r9])) ?_
   refine AW.st (by simp[Fi,Fh,gB];rfl) ?_;refine bW ?_;simp[D.le,D.le.go,aP,ab,LC,r9,D.le_refl,D.bC]
theorem akz (G:aB) (p:aM) (aV:cO p=none) (st fO:Int) (nx:List (List D)) (x:Int) (h0:0<=x) (h1:x<=2^40) (hm6:(bl p).length<=6):aD prog G 39 [rq p st fO nx,ab x] (ff (dL x (bl p).length)):=by
 have fL:=(gb aV).names;have gH:=FV G p aa 1;have ny:jI p.names 1 p.names.length=bl p:=rfl;rw[ny]at gH;simp only[eB,fF,ck]at gH;simp only[rq,ug,ck,ab,ff]
 have nV:((bl p).map fun n=>[D.v (.int .i64 n)]).length=(bl p).length:=ak
 generalize (bl p).length=m at *;generalize (bl p).map (fun n=>[D.v (.int .i64 n)])=IN at *;generalize p.names.map bw=NN at *;generalize p.aC.map ez=RR at *;refine aD.aO (ay _) func39 rfl rfl (rs:=[.tmp 4]) results39 (by simp[ntmps39]) fun X=>?_;simp only[ntmps39,List.map];have fw:=@an8;refine ae fw [0,1] [] ?_;refine ae fw [0,1,5] [] ?_;refine ag fun K1 aF=>bh fw gH [1,5,11,12] [] ?_;refine ch (S:=Nat×Int) (fun s=>s.1<=m/\0<=s.2/\s.2<=2^40/\s.2=x / 2 ^ s.1) (fun s=>⟨bg [(1,int s.2),(5,.own 901 0 s.1),(11,int m),(12,int s.1)],aw [(901,.sl 4 1 ((dL x s.1).map fun b=>[.v (.bool b)]))]⟩) (fun s=>m - s.1) (0,x) ?_ ⟨ak,h0,h1,ak⟩ ?_
 .refine (aL.lO 5 901 4 1 rfl rfl).trans ?_;refine bo (Aq fw (Aq @dL.eq_1 (Aq @dL.eq_2 @nV)))
 .rintro⟨k,v⟩ ⟨zG,iZ,jG,hv⟩;dsimp only at zG iZ jG hv ⊢
  have lz:((dL x k).map fun b=>[D.v (.bool b)]).length=k:=by simp[wE]
  have nU:dL x (k+1)=dL x k ++ [decide (v % 2=1)]:=by rw[hv,<- Ub x aa];rfl
  generalize iX:dL x k=B at lz nU ⊢;refine ae fw [1,5,11,12,13] [901] ?_;refine ag fun K2 au=>eY (b:=k < m) (by simp[D.le,D.le.go,aP,ab]) (fun hc=>?_) (fun hc=>?_)
  .have kQ:v.tmod 2=v % 2:=anb iZ
   have hdiv:IntKind.i64.wrap (v.tdiv 2)=v / 2:=by
    rw[anm iZ];exact AQ aa
   refine aq (au _ (ag fun K3 aX=>bf (rg [1,5,11,12] [901] aQ fun K' ao=>?_)));(repeat refine aK fun Kq af=>?_;simp[ab,lz,sh,kQ];(repeat refine⟨aa,?_⟩);refine af _ ?_);refine bH (ao _ (AW.st (by simp[ab,lz,sh,kQ];rfl) ?_));have qf:=(Aq fw @hdiv);refine eM aX [1,5,11,12] [901] ?_;refine cA fw ?_;(try simp only[aT,aW]);refine aZ.mk (k+1,v / 2) ⟨by dsimp only;omega,by dsimp only;omega,by dsimp only;omega,by dsimp only;rw[SJ,<- hv]⟩ (by dsimp only;omega) ?_;rw[nU];refine bo fw
  .obtain rfl:k=m:=aa
   refine bL (aF _ ?_);rw[iX];refine AW.imp (aL.freeze 901 trivial) ?_;refine AW.st (by simp[ab,lz,sh];rfl) ?_;refine ae fw [4] [] ?_;exact aY fw
theorem akO (G:aB) (hM:ky G) (p:aM) (aV:cO p=none) (hk:∀ r∈p.aC,mZ r) (st fO:Int) (nx:List (List D)) (n:Int) (h0:0<=n) (h1:n<=2^40):aD prog G 37 [rq p st fO nx,ab n] (xc (lJ p n p.names.length).2):=by
 have hg:=gb aV;have fL:=hg.names;have dW:=O4 G;have oh:=Fz G hM p aV hk;simp only[eB,fF,ck,gd]at oh;have aR:=fun k (h:k<=p.names.length)=>IG aV n h0 k h
 have c6:(fC p).length=p.names.length:=by simp[fC]
 have tB:∀ i (hi:i < p.names.length),(fC p)[i]? = some (dB p p.names[i]):=fun i hi=>by simp[fC,hi]
 have DF:=fun i (hi:i < p.names.length)=>wM hg hi;have e7:=fun k (h:k < p.names.length)=>Og n h;have eV:=U1 p n;generalize fC p=RP at *;generalize lJ p n=T at *;simp only[rq,ug,ck,ab,xc]
 have oT:(p.names.map bw).length=p.names.length:=ak
 have j6:∀ i (h:i < p.names.length),(p.names.map bw)[i]? = some [.v (.string (bs p.names[i].name)),.v (.int .i64 p.names[i].kind),.v (.int .i64 p.names[i].count)]:=fun i h=>by simp[h,bw,dS]
 generalize p.names.map bw=NN at *;generalize p.aC.map ez=RR at *;refine aD.aO (ay _) func37 rfl rfl (rs:=[.cell 4 101]) results37 (by simp[ntmps37]) fun X=>?_;simp only[ntmps37,List.map];have fw:=@an8;refine ae fw [0,1,4] [4] ?_;refine bK fw dW [0,1,4,5] [4,5,601,602] ?_;refine ag fun K1 aF=>bh fw oh [0,1,4,5,14,15,16] [4,5,601,602] ?_;refine ch (S:=Nat) (fun k=>k<=p.names.length) (fun k=>⟨bg [(0,.d (.ip [.sl none NN,.sl none RR,.v (.int .i64 st),.v (.int .i64 fO),.sl none nx])),(1,int (T k).1),(4,.ref 4 0 0),(5,.ref 5 0 0),(14,.d (.sl none (RP.map fun x=>[.v (.int .i64 x)]))),(15,int RP.length),(16,int k)],aw [(4,.box 101 [.d (.v (.map none)),.d (.v (.map none))]),(5,.box 101 [.mp 601,.mp 602]),(601,.mp 98 (ef (T k).2.1)),(602,.mp 99 (ef (T k).2.2))]⟩) (fun k=>p.names.length - k) 0 ?_ aa ?_
 .rw[eV];refine aL.ek aQ (by simp[ab,ef]) (by simp[ab,ef])
 .intro k mM;obtain⟨_,_,_,hrel,_,iF,e9⟩:=aR k mM;have fR:=e7 k
  have zo:k=p.names.length->T p.names.length=T k:=fun e=>by rw[e]
  generalize T k=tk at hrel iF e9 fR zo ⊢;obtain⟨m,I,C⟩:=tk;dsimp only at hrel iF e9 ⊢;refine ae fw [0,1,4,5,14,15,16,17] [4,5,601,602] ?_;refine ag fun K2 au=>?_;by_cases aG:k < p.names.length
  .have pA:k < RP.length:=aa
   refine bR (by simp[pA]) (aq (au _ ?_));refine ag fun K3 aX=>bf ?_;have fR:=fR aG
   have dV:k < NN.length:=aa
   have nX:NN[k]=[.v (.string (bs p.names[k].name)),.v (.int .i64 p.names[k].kind),.v (.int .i64 p.names[k].count)]:=by
    have:=j6 k aG;rw[AT dV]at this;exact AI this
   have gP:RP[k]=dB p p.names[k]:=by
    have:=tB k aG;rw[AT pA]at this;exact AI this
   have p0:=DF k aG;unfold E8 at fR;generalize bs p.names[k].name=nm at nX fR;generalize p.names[k].kind=kd at nX fR;generalize p.names[k].count=ct at nX fR;generalize dB p p.names[k]=K at gP p0 fR;have gn:=pF hrel.lK;simp at gn;have bO:=eq_true gn;have fW:=pF hrel.iU;simp at fW;have eE:=eq_true fW;have qf:=(Aq fw (Aq @pA @gP));refine ax [0,1,4,5,6,7,14,15,16] [4,5,601,602] ?_;refine ag fun K4 b6=>?_;by_cases j3:K=0
   .rw[if_pos j3]at fR;have qf:=(Aq fw @j3);refine ax [0,1,4,5,6,7,14,15,16,22] [4,5,601,602] ?_;refine bR (by simp[j3]) (bL (aX _ ?_));refine cA fw ?_;(try simp only[aT,aW]);refine aZ.mk (k+1) aa aa ?_;rw[fR];refine bo fw
   .rw[if_neg j3]at fR;dsimp only at fR;have kQ:m.tmod K=m % K:=anb iF;have jg:0<=m / K:=Int.ediv_nonneg iF p0;have tD:m / K<=m:=Int.ediv_le_self _ iF
    have hdiv:IntKind.i64.wrap (m.tdiv K)=m / K:=by
     rw[anm iF];exact AQ aa
    generalize m / K=q at *;generalize m % K=r at *;have qf:=(Aq fw @j3);refine ax [0,1,4,5,6,7,14,15,16,22] [4,5,601,602] ?_;refine bU (by simp[j3]) (aq (b6 _ ?_));have qf:=(Aq fw (Aq @dV @nX));refine ax [0,1,4,5,7,8,14,15,16] [4,5,601,602,8] ?_;refine dZ fw 8 ?_;refine ag fun K5 b5=>?_;by_cases k3:kd >= 3
    .rw[if_pos k3]at fR;have qf:=(Aq fw @k3);refine ax [0,1,4,5,7,8,14,15,16,33] [4,5,601,602] ?_;refine bR (by simp<;>omega) ?_;have qf:=(Aq fw (Aq @j3 (Aq @kQ (Aq @bO (Aq @eE @fj)))));refine il [0,1,4,5,7,8,14,15,16] [4,5,601,602] ?_;refine yK (ay _) ah ah fun K' ao=>?_;(repeat refine gC fun Kq af=>?_;simp[ab,j3,kQ,bO,eE,fj];(repeat refine⟨aa,?_⟩);refine af _ ?_);refine o8 (ao _ ?_);refine b5 _ (AW.norm [0,1,4,5,7,14,15,16] [4,5,601,602] aQ (AW.st (by simp[ab,j3,kQ,bO,eE,fj];rfl) ?_));have qf:=(Aq fw (Aq @j3 @hdiv));refine eM aX [0,1,4,5,14,15,16] [4,5,601,602] ?_;refine cA fw ?_;(try simp only[aT,aW]);refine aZ.mk (k+1) aa aa ?_;rw[fR];refine bo fw
    .rw[if_neg k3]at fR;have qf:=(Aq fw @k3);refine ax [0,1,4,5,7,8,14,15,16,33] [4,5,601,602] ?_;refine bU (by simp<;>omega) ?_;refine yK (ay _) ah ah fun K' ao=>?_;(repeat refine gC fun Kq af=>?_;simp[ab,j3,kQ,bO,eE,fj];(repeat refine⟨aa,?_⟩);refine af _ ?_);refine o8 (ao _ ?_);refine b5 _ (AW.norm [0,1,4,5,7,14,15,16] [4,5,601,602] aQ (AW.st (by simp[ab,j3,kQ,bO,eE,fj];rfl) ?_));have qf:=(Aq fw (Aq @j3 @hdiv));refine eM aX [0,1,4,5,14,15,16] [4,5,601,602] ?_;refine cA fw ?_;(try simp only[aT,aW]);refine aZ.mk (k+1) aa aa ?_;rw[fR];refine bo fw
  .obtain rfl:k=p.names.length:=aa
   have LC:=zo rfl;refine bU (by simp<;>omega) ?_;refine bL (aF _ (ae fw [4] [4,601,602] ?_));refine bW ?_;simp[D.le,D.le.go,aP,ab,LC,r9,D.le_refl,D.bC]
theorem akL {V:Nat} (h:V<=6):IntKind.i64.wrap (2 ^ (min V IntKind.i64.bits))=((2^V:Nat):Int):=by
 have:V=0\/V=1\/V=2\/V=3\/V=4\/V=5\/V=6:=aa
 rcases this with rfl | rfl | rfl | rfl | rfl | rfl | rfl<;>decide
def qY (n:Nat) (E:List Int):Nat->List Bool
 | 0=>List.replicate n false
 | j+1=>(qY n E j).set (E.getD j 0).toNat true
theorem FD (n:Nat) (E:List Int):∀ j,(qY n E j).length=n
 | 0=>by simp[qY]
 | j+1=>by rw[qY,List.length_set,FD]
theorem W6 {n:Nat} {E:List Int} {i:Nat} (hi:i < n):∀ j,j<=E.length->((qY n E j).getD i false=true↔∃ q,q < j/\(E.getD q 0).toNat=i)
 | 0,_=>by
  rw[qY,xq];exact⟨fun h=>(by cases h),fun ⟨q,hq,_⟩=>absurd hq aa⟩
 | j+1,hj=>by
  rw[qY];by_cases e:(E.getD j 0).toNat=i
  .rw[<- e,kK (by rw[FD];omega)];exact⟨fun _=>⟨j,aa,rfl⟩,fun _=>rfl⟩
  .rw[gV e,W6 hi j aa];constructor
   .rintro⟨q,hq,h⟩;exact⟨q,aa,h⟩
   .rintro⟨q,hq,h⟩;refine⟨q,amQ fun hn=>?_,h⟩
    obtain rfl:q=j:=aa
    exact e h
theorem aiZ (p:aM):qY p.names.length (gT p p.names.length) (gT p p.names.length).length=p.names.map (kJ p):=by
 refine KX (d:=false) (by rw[FD];simp) fun i hi=>?_;rw[FD]at hi
 have e1:(p.names.map (kJ p)).getD i false=kJ p p.names[i]:=by rw[dw (by simpa using hi)];simp
 rw[e1];have h:=W6 (E:=gT p p.names.length) hi _ (amh _)
 have h2:(∃ q,q < (gT p p.names.length).length/\((gT p p.names.length).getD q 0).toNat=i)↔kJ p p.names[i]=true:=by
  constructor
  .rintro⟨q,hq,he⟩;rw[dw hq]at he;obtain⟨k,hk,_,hx,ha⟩:=(AO (amh _)).1 (By hq);rw[hx,amd]at he;subst he;exact ha
  .intro ha;obtain⟨q,hq,he⟩:=amz.1 ((AO (x:=(i:Int)) (amh _)).2 ⟨i,hi,hi,rfl,ha⟩);exact⟨q,hq,by rw[dw hq,he];simp⟩
 rw[h2]at h
 cases h3:kJ p p.names[i] with
 | true=>exact h.2 h3
 | false=>
  cases h4:(qY p.names.length (gT p p.names.length) (gT p p.names.length).length).getD i false with
  | true=>rw[h.1 h4]at h3;cases h3
  | false=>rfl
theorem akv {p:aM} {q:Nat} (hq:q < (gT p p.names.length).length):∃ i,i < p.names.length/\(gT p p.names.length)[q]=(i:Int):=by
 obtain⟨k,hk,_,hx,_⟩:=(AO (amh _)).1 (By hq);exact⟨k,hk,hx⟩
theorem Vj {p:aM} {s:Nat} (h:s < (aS p).length):eW ((aS p).take (s+1))=eW ((aS p).take s) ++ [[gd (qV p (bl p).length s)]]:=by
 rw[aml h,eW,eW,amV,Ct h];rfl
theorem WA {p:aM} {m s i:Nat} (h:i < 2 ^ m):(qV p m s).take (i+1)=(qV p m s).take i ++ [ie (bF p) (oP p (jb p s) (dL i m))]:=by
 have h':i < (qV p m s).length:=by rw[yo];exact h
 rw[aml h',aiF]
theorem ae0 (G:aB) (p:aM) (aV:cO p=none) (hk:∀ r∈p.aC,mZ r) (aR:(bl p).length<=6) (hP:bT (bF p)<=4096):aD prog G 16 [fH p] (.bz [pV p (bT (bF p)) ((2 ^ (bl p).length:Nat):Int) (eW (aS p)),.v .nilIface]):=by
 have hg:=gb aV;have fL:=hg.names;have cY:=Uw G p (ai7 aV hk);rw[aV]at cY;have gH:=UN G p aa 1;have ny:jI p.names 1 p.names.length=bl p:=rfl;rw[ny]at gH
 have px:=aes G p aa (by have:=hg.aC;omega) (fun r hr=>by
  obtain⟨e,he,_,_,hb⟩:=hk r hr
  exact⟨e,he,aa⟩)
 rw[aas aV]at px;have hsL:=FD p.names.length (gT p p.names.length);have hsE:=aiZ p;have hwA:=fun q (hq:q < (gT p p.names.length).length)=>akv hq;have hwS:=fun q (hq:q < (gT p p.names.length).length)=>(show qY p.names.length (gT p p.names.length) (q+1)=(qY p.names.length (gT p p.names.length) q).set ((gT p p.names.length)[q]).toNat true by rw[qY,dw hq]);have eV:qY p.names.length (gT p p.names.length) 0=List.replicate p.names.length false:=rfl;have jH:=JO p p.names.length;have wC:=fun (nx:List (List D)) (n:Nat) (h1:(n:Int) < 4096)=>ae3 G p aV (bT (bF p)) ((2 ^ (bl p).length:Nat):Int) nx n aa aa;have wb:=fun (nx:List (List D)) (n:Nat)=>aeU G p aV (bT (bF p)) ((2 ^ (bl p).length:Nat):Int) nx n;have cy:=fun (nx:List (List D)) (s:cN) (hs:gE p s)=>aeZ G p aV (bT (bF p)) ((2 ^ (bl p).length:Nat):Int) nx s hs hP;have oV:=fun (s:Nat) (i:Nat)=>Q0 G p aV hk (jb p s) (u3 aV s) (dL i (bl p).length) (wE _ _);have LZ:=fun (s:Nat) (i:Nat)=>(Gv aV (u3 aV s) (dL i (bl p).length)).1;have Hh:∀ k (h:k < p.names.length),ij p (k+1)=ij p k ++ partOf p.names[k] (kJ p p.names[k]) k:=fun k h=>I7 h;have nY:=Fo p;have LA:ij p p.names.length=bF p:=rfl;have oY:∀ x∈bF p,2<=x.most:=fun x hx=>(nJ hg hx).m2;have uJ:=fun k (h:k < (bF p).length)=>ahJ h;have xN:=fun k=>ahI oY k;have om:0 < bT (bF p):=o4 oY;have jv:=fun k=>(o4 (l:=(bF p).take k) fun x hx=>oY x (amr hx));have sE:=fun s (h:s < (aS p).length)=>Vj h;have fz:=rX p;have tL:=fun s i (h:i < 2 ^ (bl p).length)=>WA (p:=p) (s:=s) h;have eC:=fun s=>yo p (bl p).length s;have wA:=akL aR
 have RF:2 ^ (bl p).length<=64:=by
  have:=amP (n:=2) aa aR;omega
 have mL:=hg.count;simp only[uW,ab,se,pS,ff,gd,oO]at wC wb cy oV;simp only[fH,fe,ck,eZ,bG,pV,sc,oO,gd]at gH cY px oV wC wb cy sE ⊢;generalize aS p=s5 at *;generalize DR:qV p (bl p).length=F3 at *;clear DR;generalize gT p p.names.length=E at *;generalize qY p.names.length E=SB at *
 have nV:((bl p).map fun x=>[D.v (.int .i64 x)]).length=(bl p).length:=ak
 generalize ((bl p).map fun x=>[D.v (.int .i64 x)])=IN at *;generalize (bl p).length=m at *
 have oT:(p.names.map bw).length=p.names.length:=ak
 have j6:∀ i (h:i < p.names.length),(p.names.map bw)[i]? = some [.v (.string (bs p.names[i].name)),.v (.int .i64 p.names[i].kind),.v (.int .i64 p.names[i].count)]:=fun i h=>by simp[h,bw,dS]
 generalize p.names.map bw=NN at *;generalize p.aC.map de=RR at *
 have R8:(E.map fun x=>[D.v (.int .i64 x)]).length=E.length:=ak
 refine aD.aO (ay _) func16 rfl rfl (rs:=[.tmp 2,.tmp 3]) results16 (by simp[ntmps16]) fun X=>?_;simp only[ntmps16,List.map];have fw:=@an8;refine ae fw [1] [1] ?_;refine dZ fw 1 ?_;refine ag fun K1 aF=>bh fw cY [1,4] [] ?_;refine ae fw [1,4,19] [] ?_;refine al (aq (aF _ ?_));refine rdc fw gH [1,5] [25] ?_;refine ag fun K2 au=>?_
 have uE:¬ (IN.length:Int) > 6:=aa
 have qf:=(Aq fw @uE);refine ax [1,5,31] [25] ?_;refine bU (by simp<;>omega) ?_;refine aq (au _ ?_);have qf:=(Aq fw (Aq @r4.eq_1 (Aq @r4.eq_2 (Aq @r4.eq_3 (Aq @nV @wA)))));refine ax [1,5] [25] ?_;refine ae (Aq fw (Aq @mX.eq_1 (Aq @gL.eq_1 @gL.eq_2))) [1,5,6] [25,45] ?_;refine ag fun K3 aX=>bh fw px [1,5,6,47,48,49] [25,45] ?_;refine ch (S:=Nat) (fun j=>j<=E.length) (fun j=>⟨bg [(1,.d (.ip [.sl none NN,.sl none RR])),(5,.ref 25 0 0),(6,.own 45 0 p.names.length),(47,.d (.sl none (E.map fun x=>[.v (.int .i64 x)]))),(48,int E.length),(49,int j)],aw [(25,.box 75 [.d (.sl none NN),.d (.sl none RR),int 1,int ((2 ^ m:Nat):Int),.d (.sl (some false) []),.d (.sl (some false) []),.d (.sl none IN)]),(45,.sl 4 1 ((SB j).map fun b=>[.v (.bool b)]))]⟩) (fun j=>E.length - j) 0 ?_ aa ?_
 .rw[eV];refine aL.ek aQ (by simp[ab,amO,oT,R8]) (by simp[ab,amO,oT,R8])
 .intro j hj;have hsj:=hsL j;have TT:=hwS j;generalize Sr:SB j=B at hsj TT ⊢;refine ae fw [1,5,6,47,48,49,50] [25,45] ?_;refine ag fun K4 b6=>eY (b:=j < E.length) (by simp[D.le,D.le.go,aP,ab]) (fun hc=>?_) (fun hc=>?_)
  .refine aq (b6 _ (ag fun K5 b5=>bf ?_));obtain⟨i,hi,R7⟩:=hwA j hc;have TU:=TT hc;rw[R7,amd]at TU
   have gx:i < B.length:=aa
   have qf:=(Aq fw (Aq @hc @R7));refine ax [1,5,6,8,47,48,49] [25,45] ?_;have qf:=(Aq fw (Aq @gx @hi));refine eM b5 [1,5,6,47,48,49] [25,45] ?_;refine cA fw ?_;(try simp only[aT,aW]);refine aZ.mk (j+1) aa aa ?_;rw[TU];refine aL.ek aQ (by simp[ab,amt]) (by simp[ab,amt])
  .obtain rfl:j=E.length:=aa
   rw[hsE]at Sr;subst Sr;refine bL (aX _ (ag fun K6 dy=>ae fw [1,5,6,58,59,60] [25,45] ?_));refine ch (S:=Nat) (fun k=>k<=p.names.length) (fun k=>⟨bg [(1,.d (.ip [.sl none NN,.sl none RR])),(5,.ref 25 0 0),(6,.own 45 0 p.names.length),(58,.d (.sl none NN)),(59,int NN.length),(60,int k)],aw [(25,.box 75 [.d (.sl none NN),.d (.sl none RR),int 1,int ((2 ^ m:Nat):Int),.d (.sl (some false) []),.own 801 0 (ij p k).length,.d (.sl none IN)]),(45,.sl 4 1 ((p.names.map (kJ p)).map fun b=>[.v (.bool b)])),(801,.sl 117 3 ((ij p k).map jc))]⟩) (fun k=>p.names.length - k) 0 ?_ aa ?_
   .refine (aL.s6 25 5 801 117 3 rfl rfl rfl).trans ?_;refine bo (Aq fw (Aq @ij.eq_1 @ij.eq_2))
   .intro k mM;have Sk:=Hh k;have abE:=nY k
    have Sj:((ij p k).map jc).length=(ij p k).length:=ak
    generalize mJ:ij p k=PK at Sk abE Sj ⊢;refine ae fw [1,5,6,58,59,60,61] [25,45,801] ?_;refine ag fun K7 eH=>?_;by_cases aG:k < p.names.length
    .have dV:k < NN.length:=aa
     have og:(k:Int) < (NN.length:Int):=aa
     refine bR (by simp<;>omega) ?_;refine aq (eH _ (ag fun K8 eo=>bf ?_));have tv:=Sk aG;have jC:=mL _ (By aG)
     have nX:NN[k]=[.v (.string (bs p.names[k].name)),.v (.int .i64 p.names[k].kind),.v (.int .i64 p.names[k].count)]:=by
      have:=j6 k aG;rw[AT dV]at this;exact AI this
     unfold partOf at tv;generalize To:p.names[k]=nk at tv nX jC;obtain⟨nm,kd,ct⟩:=nk;dsimp only at tv nX jC
     have SV:kJ p p.names[k]=kJ p ⟨nm,kd,ct⟩:=by rw[To]
     generalize bd:kJ p ⟨nm,kd,ct⟩=ev at *;have qf:=(Aq fw (Aq @dV @nX));refine ax [1,5,6,9,10,58,59,60] [25,45,801,10] ?_;refine dZ fw 10 ?_;refine bf ?_;by_cases k2:kd=2
     .subst k2;rw[if_pos (.inl rfl)]at tv;refine ae fw [1,5,6,9,10,58,59,60,65] [25,45,801] ?_;refine aJ (fD (ay _) fun K' ao=>?_);(repeat refine aK fun Kq af=>?_;simp[ab,sh];(repeat refine⟨aa,?_⟩);refine af _ ?_);refine bH (ao _ ?_);refine eo _ (AW.norm [1,5,6,58,59,60] [25,45,801] aQ (AW.st (by simp[ab,sh];rfl) ?_));refine cA fw ?_;(try simp only[aT,aW]);refine aZ.mk (k+1) aa aa ?_;rw[tv];refine bo (Aq fw @jc.eq_1)
     .by_cases k1:kd=1
      .subst k1
       cases ev with
       | true=>
        rw[if_pos (.inr ⟨rfl,rfl⟩)]at tv;have qf:=(Aq fw (Aq @aG @SV));refine ax [1,5,6,9,10,58,59,60,65] [25,45,801] ?_;refine aJ (fD (ay _) fun K' ao=>?_);(repeat refine aK fun Kq af=>?_;simp[ab,sh];(repeat refine⟨aa,?_⟩);refine af _ ?_);refine bH (ao _ ?_);refine eo _ (AW.norm [1,5,6,58,59,60] [25,45,801] aQ (AW.st (by simp[ab,sh];rfl) ?_));refine cA fw ?_;(try simp only[aT,aW]);refine aZ.mk (k+1) aa aa ?_;rw[tv];refine bo (Aq fw @jc.eq_1)
       | false=>
        rw[if_neg ak,if_neg ak,am0]at tv;have qf:=(Aq fw (Aq @aG @SV));refine ax [1,5,6,9,10,58,59,60,65] [25,45,801] ?_;refine al (ae fw [1,5,6,9,10,58,59,60,91] [25,45,801] ?_);refine al (aq ?_);refine eo _ (AW.norm [1,5,6,58,59,60] [25,45,801] aQ (AW.st (by simp[ab];rfl) ?_));refine cA fw ?_;(try simp only[aT,aW]);refine aZ.mk (k+1) aa aa ?_;rw[tv];refine bo fw
      .rw[if_neg (by simp[k1,k2]),if_pos k1]at tv;have qf:=(Aq fw (Aq @k1 @k2));refine ax [1,5,6,9,10,58,59,60,65] [25,45,801] ?_;refine bU (by simp[k1,k2]) ?_;have qf:=(Aq fw @k1);refine ax [1,5,6,9,10,58,59,60,91] [25,45,801] ?_;refine bR (by simp[k1]) (CU (ay _) ah ([(11,(801,105))]) ([(0,[801])]) ([0,1,2,3,4,5,6,7,8,9,10,11,12,13,14]) ah fun K' ao=>?_);(repeat refine qZ rfl fun K2 au=>?_;simp[ab,sh];(repeat refine⟨aa,?_⟩);refine au _ ?_;clear au K2);refine yA (ao _ ?_);refine eo _ (AW.norm [1,5,6,58,59,60] [25,45,801] aQ (AW.st (by simp[ab,sh];rfl) ?_));refine cA fw ?_;(try simp only[aT,aW]);refine aZ.mk (k+1) aa aa ?_;rw[tv];refine bo (Aq fw @jc.eq_1)
    .have og:¬ (k:Int) < (NN.length:Int):=aa
     obtain rfl:k=p.names.length:=aa
     rw[LA]at mJ;subst mJ;refine bU (by simp<;>omega) ?_;refine bL (dy _ (AW.imp (aL.freeze 801 trivial) ?_));refine AW.st (by simp[ab,Sj,sh];rfl) ?_;refine ag fun K9 jt=>?_
     have ak0:((bF p).map jc).length=(bF p).length:=ak
     have abD:∀ i (h:i < (bF p).length),((bF p).map jc)[i]? = some [.v (.int .i64 (bF p)[i].nm),.v (.int .i64 (bF p)[i].most),.v (.bool (bF p)[i].far)]:=fun i h=>by simp[h,jc]
     generalize Lz:bF p=da at *;generalize da.map jc=PT at *;refine ae fw [1,5,113,114,115] [25] ?_;refine ch (S:=Nat) (fun k=>k<=da.length) (fun k=>⟨bg [(1,.d (.ip [.sl none NN,.sl none RR])),(5,.ref 25 0 0),(113,.d (.sl none PT)),(114,int PT.length),(115,int k)],aw [(25,.box 75 [.d (.sl none NN),.d (.sl none RR),int (bT (da.take k)),int ((2 ^ m:Nat):Int),.d (.sl (some false) []),.d (.sl none PT),.d (.sl none IN)])]⟩) (fun k=>da.length - k) 0 ?_ aa ?_
     .refine bo (Aq fw (Aq @bT.eq_1 @bT.eq_2))
     .intro k mM;have hq:=uJ k;have hqm:=xN (k+1);have qM:=jv k;have acX:=xN k;generalize hQ:bT (da.take k)=Q at hq qM acX ⊢;refine ae fw [1,5,113,114,115,116] [25] ?_;refine ag fun oJ e6=>?_;by_cases aG:k < da.length
      .have dV:k < PT.length:=aa
       have og:(k:Int) < (PT.length:Int):=aa
       refine bR (by simp<;>omega) ?_;refine aq (e6 _ (ag fun vg nW=>bf ?_));have lI:=hq aG;have rM:=oY _ (By aG)
       have mJ:PT[k]=[.v (.int .i64 da[k].nm),.v (.int .i64 da[k].most),.v (.bool da[k].far)]:=by
        have:=abD k aG;rw[AT dV]at this;exact AI this
       generalize da[k]=x at mJ lI rM;obtain⟨xi,M,fa⟩:=x;dsimp only at mJ lI rM;rw[lI]at hqm;have Sl:0 < Q * M:=Int.mul_pos qM aa
       have abF:¬ Q * M > 4096:=aa
       have qf:=(Aq fw (Aq @dV @mJ));refine ax [1,5,12,113,114,115] [25,12] ?_;refine dZ fw 12 ?_;refine qt (ay _) ah [(3,25),(5,999),(9,25)] [1,5,113,114,115] [25] aQ ah fun K' ao=>?_;(repeat refine jX fun Kq af=>?_;simp[ab,Sl];(repeat refine⟨aa,?_⟩);refine af _ ?_);refine lq (ao _ ?_);refine AW.st (by simp[ab,Sl];rfl) ?_;have qf:=(Aq fw @abF);refine ax [1,5,113,114,115,132] [25] ?_;refine bU (by simp<;>omega) ?_;refine aq (nW _ (cA fw ?_));(try simp only[aT,aW]);refine aZ.mk (k+1) aa aa ?_;rw[lI];refine bo fw
      .have og:¬ (k:Int) < (PT.length:Int):=aa
       refine bU (by simp<;>omega) ?_;refine bL (jt _ ?_);rw[sh aa]at hQ;refine ag fun yS k7=>?_;obtain⟨S,hS⟩:∃ S:Nat,bT da=(S:Int):=ami aa;rw[hS]at fz hP wC wb cy hQ ⊢;rw[amd]at fz;subst hQ;refine ae fw [1,5,138,139] [25] ?_;refine ch (S:=Nat) (fun s=>s<=S) (fun s=>⟨bg [(1,.d (.ip [.sl none NN,.sl none RR])),(5,.ref 25 0 0),(138,int S),(139,int s)],aw [(25,.box 75 [.d (.sl none NN),.d (.sl none RR),int S,int ((2 ^ m:Nat):Int),.own 800 0 s,.d (.sl none PT),.d (.sl none IN)]),(800,.sl 36 1 (eW (s5.take s)))]⟩) (fun s=>S - s) 0 ?_ aa ?_
       .refine (aL.s6 25 4 800 36 1 rfl rfl rfl).trans ?_;refine bo (Aq fw @eW.eq_1)
       .intro s Nb;have jN:=sE s
        have l8:(eW (s5.take s)).length=s:=by rw[Cv,amw];omega
        have DM:s=S->eW (s5.take s)=eW s5:=fun e=>by rw[sh aa]
        generalize eW (s5.take s)=NX at jN l8 DM ⊢;refine ae fw [1,5,138,139,140] [25,800] ?_;refine ag fun oK im=>eY (b:=s < S) (by simp[D.le,D.le.go,aP,ab]) (fun hc=>?_) (fun hc=>?_)
        .refine aq (im _ (ag fun CY vH=>bf ?_));have Es:=jN aa;have wD:=wC NX s aa;have Mw:=wb NX;have xA:=oV s;have BZ:=fun i=>cy NX _ (LZ s i);have tM:=fun i h=>tL s i h;have Ez:=eC s;generalize zQ:jb p s=FI at wD xA BZ tM;generalize Hj:F3 s=RS at Es tM Ez;refine ae fw [1,5,13,138,139] [25,800] ?_;refine ae fw [1,5,13,14,138,139] [25,800] ?_;refine ag fun J2 zi=>ae fw [1,5,13,14,138,139,145,146] [25,800] ?_;refine ch (S:=Nat) (fun i=>i<=2 ^ m) (fun i=>⟨bg [(1,.d (.ip [.sl none NN,.sl none RR])),(5,.ref 25 0 0),(13,int s),(14,.own 902 0 i),(138,int S),(139,int s),(145,int ((2 ^ m:Nat):Int)),(146,int i)],aw [(25,.box 75 [.d (.sl none NN),.d (.sl none RR),int S,int ((2 ^ m:Nat):Int),.own 800 0 s,.d (.sl none PT),.d (.sl none IN)]),(800,.sl 36 1 NX),(902,.sl 3 1 ((RS.take i).map fun x=>[.v (.int .i64 x)]))]⟩) (fun i=>2 ^ m - i) 0 ?_ aa ?_
         .refine (aL.lO 14 902 3 1 rfl rfl).trans ?_;refine bo fw
         .intro i ma;have tJ:=tM i
          have c6:((RS.take i).map fun x=>[D.v (.int .i64 x)]).length=i:=by simp;omega
          generalize je:RS.take i=RI at tJ c6 ⊢;refine ae fw [1,5,13,14,138,139,145,146,147] [25,800,902] ?_;refine ag fun K16 abt=>?_;by_cases dr:i < 2 ^ m
          .have BR:(i:Int) < ((2 ^ m:Nat):Int):=by exact_mod_cast dr
           refine bR (by simpa using BR) (aq (abt _ ?_));refine ag fun K17 abu=>bf ?_;have tK:=tJ dr;have zE:=Mw i;have tF:=xA i;have sF:=BZ i;generalize oP p FI (dL i m)=d1 at tF sF tK;generalize dL i m=ib at zE tF;generalize ie da d1=v1 at sF tK;obtain⟨I1,C1⟩:=FI;obtain⟨I2,C2⟩:=d1;dsimp only at wD tF sF;rw[l8]at wD zE sF;refine ae fw [1,5,13,14,15,138,139,145,146] [25,800,902] ?_;refine P9 (ay _) ah ([12]) ([]) ([5,8,10]) ([(2,.d (.ip [.sl none NN,.sl none RR]))]) (List.range 14) ah fun K' ao=>?_;(repeat refine oH rfl fun K2 au=>?_;simp[ab,c6,sh];(repeat refine⟨aa,?_⟩);refine au _ ?_;clear au K2);refine oH rfl fun K2 au=>?_;simp[ab,c6,sh];refine vO.mc (wD) (by simp[ab,c6,sh]) (by simp[ab,c6,sh]) (by simp[ab,c6,sh]) (by simp[ab,c6,sh]) (by simp[ab,c6,sh]) (by simp[ab,c6,sh]) (by simp[kz,ab,c6,sh]) ?_;simp[ab,c6,sh];refine au _ ?_;clear au K2;(repeat refine oH rfl fun K2 au=>?_;simp[ab,c6,sh];(repeat refine⟨aa,?_⟩);refine au _ ?_;clear au K2);refine oH rfl fun K2 au=>?_;simp[ab,c6,sh];refine vO.mc (zE) (by simp[ab,c6,sh]) (by simp[ab,c6,sh]) (by simp[ab,c6,sh]) (by simp[ab,c6,sh]) (by simp[ab,c6,sh]) (by simp[ab,c6,sh]) (by simp[kz,ab,c6,sh]) ?_;simp[ab,c6,sh];refine au _ ?_;clear au K2;(repeat refine oH rfl fun K2 au=>?_;simp[ab,c6,sh];(repeat refine⟨aa,?_⟩);refine au _ ?_;clear au K2);refine oH rfl fun K2 au=>?_;simp[ab,c6,sh];refine pj.mk (tF) bt bt (by first | exact D.bC _ | simp[aP,amk,amc,D.le,D.le.go,D.le_refl,D.bC,ab,c6,sh]) ak ?_;refine au _ ?_;clear au K2;simp only[aN,du];(repeat refine oH rfl fun K2 au=>?_;simp[ab,c6,sh];(repeat refine⟨aa,?_⟩);refine au _ ?_;clear au K2);refine oH rfl fun K2 au=>?_;simp[ab,c6,sh];refine vO.mc (sF) (by simp[ab,c6,sh]) (by simp[ab,c6,sh]) (by simp[ab,c6,sh]) (by simp[ab,c6,sh]) (by simp[ab,c6,sh]) (by simp[ab,c6,sh]) (by simp[kz,ab,c6,sh]) ?_
           simp[ab,c6,sh];refine au _ ?_;clear au K2;(repeat refine oH rfl fun K2 au=>?_;simp[ab,c6,sh];(repeat refine⟨aa,?_⟩);refine au _ ?_;clear au K2);refine Xw (ao _ ?_);refine abu _ (AW.norm [1,5,13,14,138,139,145,146] [25,800,902] aQ (AW.st (by simp[ab,c6,sh];rfl) ?_));refine cA fw ?_;(try simp only[aT,aW]);refine aZ.mk (i+1) aa aa ?_;rw[tK];refine bo fw
          .obtain rfl:i=2 ^ m:=aa
           have tw:RI=RS:=by rw[<- je];exact sh aa
           subst tw;refine bU ak ?_;refine bL (zi _ (AW.imp (aL.freeze 902 trivial) ?_));refine AW.st (by simp[ab,c6,sh];rfl) ?_;refine fD (ay _) fun K' ao=>?_;(repeat refine aK fun Kq af=>?_;simp[ab,l8,sh];(repeat refine⟨aa,?_⟩);refine af _ ?_);refine bH (ao _ ?_);refine vH _ (AW.norm [1,5,138,139] [25,800] aQ (AW.st (by simp[ab,l8,sh];rfl) ?_));refine cA fw ?_;(try simp only[aT,aW]);refine aZ.mk (s+1) aa aa ?_;rw[Es];refine bo fw
        .obtain rfl:s=S:=aa
         obtain rfl:=DM rfl;refine bL (k7 _ (AW.imp (aL.freeze 800 trivial) ?_));refine AW.st (by simp[ab,l8,sh];rfl) ?_;refine ae fw [2,3] [25] ?_;exact aY (Aq fw @hS)
structure r6 (L L':List (Value×Value)):Prop where
 ok:kW L
 same:∀ k,ew L k=ew L' k
theorem kZ {L L':List (Value×Value)} (h:r6 L L') (s:ByteArray) (x:Value):r6 (dt L s x) (dt L' s x):=⟨Cl s x h.ok,fun k=>by rw[sQ,sQ,h.same]⟩
theorem VM:∀ {L L':List (Value×Value)},L.Nodup->L'.Nodup->(∀ x,x∈L↔x∈L')->L.Perm L'
 | [],L',_,_,h=>by
  cases L' with
  | nil=>exact .nil
  | cons y l=>exact absurd ((h y).2 ak) ak
 | x :: L,L',h1,h2,h=>by
  obtain⟨A,B,rfl⟩:=List.append_of_mem ((h x).1 ak);rw[anf]at h1;have h3:(x :: (A ++ B)).Nodup:=(List.perm_middle.nodup_iff).1 h2;rw[anf]at h3;refine (List.Perm.cons x (VM h1.2 h3.2 fun y=>?_)).trans List.perm_middle.symm;constructor
  .intro hy;have h4:=(h y).1 (by simp[hy])
   rcases amq.1 h4 with h5 | h5
   .simp[h5]
   .rcases amx.1 h5 with rfl | h5
    .exact absurd hy h1.1
    .simp[h5]
  .intro hy;have h4:=(h y).2 (by rcases amq.1 hy with h5 | h5<;>simp[h5])
   rcases amx.1 h4 with rfl | h4
   .exact absurd hy h3.1
   .exact h4
theorem US {L:List (Value×Value)} (h:kW L):L.Nodup:=(List.pairwise_map.1 h.once).imp fun h e=>h (by rw[e])
theorem Ck {E I:List (Value×Value)} (hp:E.Perm I) (h:kW I):kW E:=⟨fun p hm=>h.str p (hp.mem_iff.1 hm),((hp.map _).nodup_iff).2 h.once⟩
theorem x4 {L:List (Value×Value)} (h:kW L) {s:ByteArray} {v:Value}:ew L s=some v↔(.string s,v)∈L:=by
 constructor
 .intro hl;obtain⟨j,hj,h1,h2⟩:=UP hl;have:L[j]=(.string s,v):=Prod.ext h1 h2;rw[<- this];exact By hj
 .intro hm;obtain⟨j,hj,he⟩:=amz.1 hm;have:=EY h hj (s:=s) (by rw[he]);rw[this,he]
theorem Re {L L':List (Value×Value)} (h:r6 L L') (h':kW L'):L.Perm L':=by
 refine VM (US h.ok) (US h') fun x=>?_;obtain⟨k,v⟩:=x;constructor
 .intro hm;obtain⟨s,hs⟩:=h.ok.str _ hm;have hs:k = .string s:=hs;subst hs;exact (x4 h').1 (by rw[<- h.same];exact (x4 h.ok).2 hm)
 .intro hm;obtain⟨s,hs⟩:=h'.str _ hm;have hs:k = .string s:=hs;subst hs;exact (x4 h.ok).1 (by rw[h.same];exact (x4 h').2 hm)
theorem aeJ {E I:List (Value×Value)} (hp:E.Perm I) (h:kW I) (k:ByteArray):ew E k=ew I k:=by
 have h2:=Ck hp h
 cases hl:ew I k with
 | some v=>exact (x4 h2).2 (hp.mem_iff.2 ((x4 h).1 hl))
 | none=>
  cases jE:ew E k with
  | none=>rfl
  | some v=>
   have:=(x4 h).2 (hp.mem_iff.1 ((x4 h2).1 jE));rw[hl]at this;cases this
theorem copied {E I L:List (Value×Value)} (hp:E.Perm I) (h:kW I) {seen:List Nat} (hc:yN E seen L) (dY:∀ j,j < E.length->j∈seen):r6 L I:=⟨hc.ok,fun k=>by rw[aaa (Ck hp h) hc dY,aeJ hp h]⟩
theorem UM {n:Nat} {seen:List Nat} {j:Nat} (hj:j < n) (jN:j ∉ seen):((List.range n).filter fun k=>!(seen ++ [j]).contains k).length < ((List.range n).filter fun k=>!seen.contains k).length:=by
 refine filter_lt (fun k=>!seen.contains k) (fun k=>!(seen ++ [j]).contains k) (fun k hk=>?_) j ?_ ?_ _ (anA.2 hj)
 .simp at hk ⊢;exact hk.1
 .simpa using jN
 .simp
theorem aaG {C N:List (Value×Value)} (h:r6 C N) (hi:∀ k v,ew N k=some v->∃ n,v = .int .i64 n) (k:ByteArray):(mG (.string k) (ef C)=none/\pE (ew N k)=0)\/mG (.string k) (ef C)=some (.v (.int .i64 (pE (ew N k)))):=by
 rw[vz,h.same]
 cases hl:ew N k with
 | none=>exact .inl ⟨rfl,rfl⟩
 | some v=>
  obtain⟨n,rfl⟩:=hi k v hl;exact .inr rfl
theorem aaH (C:List (Value×Value)) (k:ByteArray) (x:Value):mG (.string k) (ef (dt C k x))=some (.v x):=by
 rw[vz,sQ,if_pos rfl];rfl
theorem WJ (G:aB) (p:aM) (aV:cO p=none) (hk:∀ r∈p.aC,mZ r) (s:cN) (hs:gE p s) (cQ:List Bool) (aR:cQ.length=(bl p).length) (I C:List (Value×Value)) (hr:iO p s I C) :
  aD prog G 38 [eB p,.agg [.dm false I,.dm false C],ff cQ] (.agg [.dm false (x7 p s cQ (I,C)).1,.dm false (x7 p s cQ (I,C)).2]):=by
 have hg:=gb aV;have fL:=hg.names;have wy:=hg.aC;have dW:=O4 G;have gH:=FV G p aa 1;have cy:=fun x=>PR G p aa x;have zD:=xY p.names 1 p.names.length;obtain⟨t0,rJ,DE⟩:∃ t0,t0=(⟨o5 (bl p) cQ s.is (bl p).length,s.ct⟩:cN)/\gE p t0:=⟨_,rfl,(Ar cQ hs _ (amh _)).1⟩;obtain⟨T,hT⟩:∃ T:Nat->cN,∀ n,T n=(p.aC.take n).foldl (nK p s) t0:=⟨_,fun _=>rfl⟩;obtain⟨MI,DH⟩:∃ MI:Nat->List (Value×Value),∀ k,MI k=Ai p cQ I k:=⟨_,fun _=>rfl⟩;obtain⟨M,hM⟩:∃ M:Nat->pf,∀ n,M n=x6 p s t0 (p.aC.take n) (Ai p cQ I (bl p).length,C):=⟨_,fun _=>rfl⟩
 have Hb:M 0=(MI (bl p).length,C):=by rw[hM,DH];rfl
 have Sf:∀ n (h:n < p.aC.length),M (n+1)=x5 p (ur (ga p (T n).is) (ga p s.is) p.aC[n].cond) p.aC[n] (M n):=fun n h=>by
  rw[hM,hM,hT];exact UZ p s p.aC t0 _ n h
 have hMe:M p.aC.length=x7 p s cQ (I,C):=by rw[hM,am8,rJ];rfl
 have Bw:∀ n,gE p (T n):=fun n=>by rw[hT];exact (Jq aV s _ (fun r hr=>amr hr) DE).1
 have Bs:∀ n,iO p (T n) (M n).1 (M n).2:=fun n=>by
  rw[hT,hM];refine Oe aV s _ (fun r hr=>amr hr) DE ?_;rw[rJ];exact Od hg hs cQ hr _ (amh _)
 have iQ:∀ n (h:n < p.aC.length) (L1 L2:List (Value×Value)),r6 L1 (M n).1->r6 L2 (M n).2->∃ e,p.aC[n].cond=some e/\aD prog G 40 [dR e,.fn (.func 82) [.ip [.dm false L1,.dm false L2]],.fn (.func 83) [.ip [.dm false I,.dm false C]]] (.v (.bool (fg (ga p (T n).is) (ga p s.is) e))):=fun n h L1 L2 h1 h2=>by
  obtain⟨e,he,ha,hb⟩:=W4 aV hk (By h);obtain⟨e',kM,hw,_⟩:=hk _ (By h);rw[he]at kM;obtain rfl:=AI kM;exact⟨e,he,Wc G _ _ _ _ _ _ _ _ (ahU G (aib (Bs n) h1.ok h2.ok h1.same h2.same)) (ahV G hr) e ha hw hb⟩
 have Lv:∀ n,kW (M n).1/\kW (M n).2:=fun n=>⟨(Bs n).lK,(Bs n).iU⟩
 have Sc:∀ n i (hi:i < p.names.length),0<=pE (ew (M n).2 (bs p.names[i].name))/\pE (ew (M n).2 (bs p.names[i].name))<=7:=fun n i hi=>by
  rw[(Bs n).ct i hi];have h1:=(Bw n).lo i;have h2:=(Bw n).hi i hi
  rcases hg.count _ (By hi)with h3 | h3<;>omega
 have Se:=fun n=>(Bs n).iC;have abz:MI 0=I:=DH 0
 have abA:∀ k (h:k < (bl p).length) (h2:k < cQ.length),∃ i,∃ hi:i < p.names.length,(bl p)[k]=(i:Int)/\MI (k+1)=dt (MI k) (bs p.names[i].name) (.bool cQ[k]):=fun k h h2=>by
  obtain⟨i,hi,he,_⟩:=Cd h;refine⟨i,hi,he,?_⟩
  have e1:(bl p).getD k 0=(i:Int):=by rw[dw h];exact he
  have e2:p.names.getD i ⟨[],0,0⟩=p.names[i]:=dw hi;have e3:cQ.getD k false=cQ[k]:=dw h2;rw[DH,DH,Ai,e1,amd,e2,e3]
 clear hM DH hT Bw Bs DE rJ;have lK:=hr.lK;have iU:=hr.iU;clear hr;have ny:jI p.names 1 p.names.length=bl p:=rfl;rw[ny]at gH zD;clear ny;rw[<- hMe];generalize bl p=KI at *;simp only[eB,fF,ck,ff,dS]at gH cy ⊢
 have oT:(p.names.map bw).length=p.names.length:=ak
 have j6:∀ i (h:i < p.names.length),(p.names.map bw)[i]? = some [.v (.string (bs p.names[i].name)),.v (.int .i64 p.names[i].kind),.v (.int .i64 p.names[i].count)]:=fun i h=>by simp[h,bw,dS]
 have c6:(p.aC.map ez).length=p.aC.length:=ak
 have tB:∀ i (h:i < p.aC.length),(p.aC.map ez)[i]? = some (ez p.aC[i]):=fun i h=>by simp[h]
 generalize p.names.map bw=NN at *;generalize p.aC.map ez=RR at *;refine aD.aO (ay _) func38 rfl rfl (rs:=[.cell 6 101]) results38 (by simp[ntmps38]) fun X=>?_;simp only[ntmps38,List.map];refine ar [2,3,4,6] [3,4,6] ?_;refine gu 3 ?_;refine gu 4 ?_;refine bK trivial dW [2,3,4,6,7] [6,7,601,602] ?_;refine ag fun K1 aF=>AY (ay _) [2,3,4,6,7,21] [6,7,601,602,21] aQ fun K' ao=>?_
 (repeat refine yx fun Kq af=>?_;simp;(repeat refine⟨aa,?_⟩);refine af _ ?_)
 refine Xv (y:=false) (ents:=I) rfl rfl ak ak ak ak ak fun E1 G6=>?_;refine yy (ao _ ?_);refine AW.st bt ?_;refine ch (S:=List Nat×List (Value×Value)) (fun x=>yN E1 x.1 x.2) (fun x=>⟨bg [(2,.d (.sl none (cQ.map fun b=>[.v (.bool b)]))),(3,.d (.ip [.sl none NN,.sl none RR])),(4,.d (.ip [.dm false I,.dm false C])),(6,.ref 6 0 0),(7,.ref 7 0 0),(21,.ref 21 0 0)],aw [(6,.box 101 [.d (.v (.map none)),.d (.v (.map none))]),(7,.box 101 [.mp 601,.mp 602]),(601,.mp 98 (ef x.2)),(602,.mp 99 []),(21,.it E1 x.1)]⟩) (fun x=>((List.range E1.length).filter fun k=>!x.1.contains k).length) ([],[]) ?_ (QS E1) ?_
 .refine aL.ek aQ (by simp[ef]) (by simp[ef])
 .rintro⟨Pb,L1⟩ zj;dsimp only at zj ⊢;refine AY (ay _) [2,3,4,6,7,21,23] [6,7,601,602,21] aQ fun K' ao=>?_;refine Xu (r:=21) (ents:=E1) (seen:=Pb) rfl rfl ak ak ak ak (fun dY=>?_) (fun j hj jN=>?_)
  rotate_left
  .have gn:=pF zj.ok;simp at gn;have bO:=eq_true gn;obtain⟨s1,e7⟩:=(Ck G6 lK).str E1[j] (By hj)
   (repeat refine yx fun Kq af=>?_;simp;(repeat refine⟨aa,?_⟩);refine af _ ?_)
   refine yy (ao _ ?_);refine AW.st bt ?_;refine ag fun K2 au=>aJ ?_;refine aq (au _ (bf (AY (ay _) [2,3,4,6,7,8,9,21] [6,7,601,602,21] aQ fun K' ao=>?_)));refine Xt (r:=21) (ents:=E1) (seen:=Pb) (j:=j) rfl rfl ak ak ak ak hj ?_
   (repeat refine yx fun Kq af=>?_;simp[e7];(repeat refine⟨aa,?_⟩);refine af _ ?_)
   refine yy (ao _ ?_);refine AW.st (by simp[e7];rfl) ?_;have qf:=(Aq @e7 (Aq @bO @fj));refine CG ?_;(try simp only[aT,aW]);refine aZ.mk (Pb ++ [j],dt L1 s1 E1[j].2) (QR (Ck G6 lK) zj hj e7) (UM hj jN) ?_;refine cg
  .have abv:=copied G6 lK zj dY;clear zj dY
   (repeat refine yx fun Kq af=>?_;simp;(repeat refine⟨aa,?_⟩);refine af _ ?_)
   refine yy (ao _ ?_);refine AW.st bt ?_;refine ag fun K2 au=>al ?_;refine bL (aF _ (ag fun K3 aX=>AY (ay _) [2,3,4,6,7,33] [6,7,601,602,33] aQ fun K' ao=>?_))
   (repeat refine yx fun Kq af=>?_;simp;(repeat refine⟨aa,?_⟩);refine af _ ?_)
   refine Xv (y:=false) (ents:=C) rfl rfl ak ak ak ak ak fun E2 zf=>?_;refine yy (ao _ ?_);refine AW.st bt ?_;refine ch (S:=List Nat×List (Value×Value)) (fun x=>yN E2 x.1 x.2) (fun x=>⟨bg [(2,.d (.sl none (cQ.map fun b=>[.v (.bool b)]))),(3,.d (.ip [.sl none NN,.sl none RR])),(4,.d (.ip [.dm false I,.dm false C])),(6,.ref 6 0 0),(7,.ref 7 0 0),(33,.ref 33 0 0)],aw [(6,.box 101 [.d (.v (.map none)),.d (.v (.map none))]),(7,.box 101 [.mp 601,.mp 602]),(601,.mp 98 (ef L1)),(602,.mp 99 (ef x.2)),(33,.it E2 x.1)]⟩) (fun x=>((List.range E2.length).filter fun k=>!x.1.contains k).length) ([],[]) ?_ (QS E2) ?_
   .refine aL.ek aQ (by simp[ef]) (by simp[ef])
   .rintro⟨Pc,L2⟩ rA;dsimp only at rA ⊢;refine AY (ay _) [2,3,4,6,7,33,35] [6,7,601,602,33] aQ fun K' ao=>?_;refine Xu (r:=33) (ents:=E2) (seen:=Pc) rfl rfl ak ak ak ak (fun dY=>?_) (fun j hj jN=>?_)
    rotate_left
    .have gn:=pF rA.ok;simp at gn;have bO:=eq_true gn;obtain⟨s1,e7⟩:=(Ck zf iU).str E2[j] (By hj)
     (repeat refine yx fun Kq af=>?_;simp;(repeat refine⟨aa,?_⟩);refine af _ ?_)
     refine yy (ao _ ?_);refine AW.st bt ?_;refine ag fun K4 b6=>aJ ?_;refine aq (b6 _ (bf (AY (ay _) [2,3,4,6,7,10,11,33] [6,7,601,602,33] aQ fun K' ao=>?_)));refine Xt (r:=33) (ents:=E2) (seen:=Pc) (j:=j) rfl rfl ak ak ak ak hj ?_
     (repeat refine yx fun Kq af=>?_;simp[e7];(repeat refine⟨aa,?_⟩);refine af _ ?_)
     refine yy (ao _ ?_);refine AW.st (by simp[e7];rfl) ?_;have qf:=(Aq @e7 (Aq @bO @fj));refine CG ?_;(try simp only[aT,aW]);refine aZ.mk (Pc ++ [j],dt L2 s1 E2[j].2) (QR (Ck zf iU) rA hj e7) (UM hj jN) ?_;refine cg
    .have abw:=copied zf iU rA dY;clear rA dY
     (repeat refine yx fun Kq af=>?_;simp;(repeat refine⟨aa,?_⟩);refine af _ ?_)
     refine yy (ao _ ?_);refine AW.st bt ?_;refine ag fun K4 b6=>al ?_;refine bL (aX _ (ag fun K5 b5=>bh trivial gH [2,3,4,6,7,44,45,46] [6,7,601,602] ?_));refine ch (S:=Nat×List (Value×Value)) (fun x=>x.1<=KI.length/\r6 x.2 (MI x.1)) (fun x=>⟨bg [(2,.d (.sl none (cQ.map fun b=>[.v (.bool b)]))),(3,.d (.ip [.sl none NN,.sl none RR])),(4,.d (.ip [.dm false I,.dm false C])),(6,.ref 6 0 0),(7,.ref 7 0 0),(44,.d (.sl none (KI.map fun x=>[.v (.int .i64 x)]))),(45,int KI.length),(46,int x.1)],aw [(6,.box 101 [.d (.v (.map none)),.d (.v (.map none))]),(7,.box 101 [.mp 601,.mp 602]),(601,.mp 98 (ef x.2)),(602,.mp 99 (ef L2))]⟩) (fun x=>KI.length - x.1) (0,L1) ?_ ⟨aa,by rw[abz];exact abv⟩ ?_
     .refine cg
     .rintro⟨k,L3⟩ ⟨mM,rB⟩;dsimp only at mM rB ⊢;refine ar [2,3,4,6,7,44,45,46,47] [6,7,601,602] ?_;refine ag fun K6 dy=>eY (b:=k < KI.length) (by simp[D.le,D.le.go,aP]) (fun hc=>?_) (fun hc=>?_)
      .have aG:=hc
       have fW:k < cQ.length:=aa
       obtain⟨i,hi,Lt,uB⟩:=abA k aG fW
       have n7:i < NN.length:=aa
       have mH:NN[i]=[.v (.string (bs p.names[i].name)),.v (.int .i64 p.names[i].kind),.v (.int .i64 p.names[i].count)]:=by
        have:=j6 i hi;rw[AT n7]at this;exact AI this
       generalize bs p.names[i].name=nm at mH uB;generalize p.names[i].kind=kd at mH;generalize p.names[i].count=ct at mH;have gn:=pF rB.ok;simp at gn;have bO:=eq_true gn;refine aq (dy _ (ag fun K7 eH=>bf ?_));have qf:=(Aq @aG @Lt);refine ax [2,3,4,6,7,12,13,44,45,46] [6,7,601,602] ?_;refine yK (ay _) ah ah fun K' ao=>?_;(repeat refine gC fun Kq af=>?_;simp[n7,mH,fW,bO,fj];(repeat refine⟨aa,?_⟩);refine af _ ?_);refine o8 (ao _ ?_);refine eH _ (AW.norm [2,3,4,6,7,44,45,46] [6,7,601,602] aQ (AW.st (by simp[n7,mH,fW,bO,fj];rfl) ?_));refine cK ?_;(try simp only[aT,aW]);refine aZ.mk (k+1,dt L3 nm (.bool cQ[k])) ⟨aa,by rw[uB];exact kZ rB _ _⟩ aa ?_;refine cg
      .have lF:k=KI.length:=aa
       refine bL (b5 _ ?_)
       have aby:r6 L3 (M 0).1:=by rw[Hb,<- lF];exact rB
       have abx:r6 L2 (M 0).2:=by rw[Hb];exact abw
       refine ag fun K8 eo=>ar [3,4,6,7,65,66,67] [6,7,601,602] ?_;refine ch (S:=Nat×pf) (fun x=>x.1<=p.aC.length/\r6 x.2.1 (M x.1).1/\r6 x.2.2 (M x.1).2) (fun x=>⟨bg [(3,.d (.ip [.sl none NN,.sl none RR])),(4,.d (.ip [.dm false I,.dm false C])),(6,.ref 6 0 0),(7,.ref 7 0 0),(65,.d (.sl none RR)),(66,int RR.length),(67,int x.1)],aw [(6,.box 101 [.d (.v (.map none)),.d (.v (.map none))]),(7,.box 101 [.mp 601,.mp 602]),(601,.mp 98 (ef x.2.1)),(602,.mp 99 (ef x.2.2))]⟩) (fun x=>p.aC.length - x.1) (0,(L3,L2)) ?_ ⟨aa,aby,abx⟩ ?_
       .refine cg
       .rintro⟨n,L4,L5⟩ ⟨hn,j4,j5⟩;dsimp only at hn j4 j5 ⊢;have Bx:=Sf n;have BC:=fun h=>iQ n h L4 L5 j4 j5;have akX:=Lv (n+1);have Lu:=Sc n;have Mq:=Se n
        have Sd:n=p.aC.length->M p.aC.length=M n:=fun h=>by rw[h]
        have He:=Lv n;generalize HM:M n=mn at Bx Lu Mq j4 j5 Sd He;obtain⟨N1,N2⟩:=mn;dsimp only at Lu Mq j4 j5 He;clear Lv Sc Se iQ Sf;refine ar [3,4,6,7,65,66,67,68] [6,7,601,602] ?_;refine ag fun K9 jt=>?_;by_cases aG:n < p.aC.length
        .have dV:n < RR.length:=aa
         refine bR (by simp[dV]) (aq (jt _ ?_));refine ag fun oJ e6=>bf ?_;obtain⟨e,he,bd⟩:=BC aG;obtain⟨i,hi,lG,_,mL⟩:=Jp aV (By aG);obtain⟨xG,iY,_⟩:=yZ aV _ (By aG)
         have Tq:p.aC[n].name=p.names[i].name:=by
          obtain⟨i2,gx,lD,fA⟩:=tQ iY;have h1:b7 p p.aC[n].name=(i2:Int):=lD
          have:i2=i:=aa
          subst this
          have:p.names[i2].name=p.aC[n].name:=by simpa using fA
          exact this.symm
         have bN:=Bx aG;have je:=tB n aG;have mf:=cy p.aC[n].name;rw[lG]at mf;have Hd:=Lu i hi;rw[<- Tq]at Hd;unfold x5 at bN;simp only[lG,amd,mL,he,ur]at bN;unfold ez at je;rw[he]at je;clear iY Tq Bx BC;generalize p.aC[n]=r at je mf xG bN Hd lG;obtain⟨rk,rn,rc⟩:=r;dsimp only at je mf xG bN Hd lG;generalize fg (ga p (T n).is) (ga p s.is) e=yes at bd bN;rw[show lQ (some e)=dR e from rfl]at je;simp only[dS]at je;have vZ:=aaG j5 Mq (bs rn);have BL:=aaH L5 (bs rn);generalize qF:pE (ew N2 (bs rn))=c at Hd vZ bN
         have p7:∀ x:Int,pE (ew (dt N2 (bs rn) (.int .i64 x)) (bs rn))=x:=fun x=>by rw[sQ,if_pos rfl];rfl
         have n7:i < NN.length:=aa
         have mH:NN[i]=[.v (.string (bs p.names[i].name)),.v (.int .i64 p.names[i].kind),.v (.int .i64 p.names[i].count)]:=by
          have:=j6 i hi;rw[AT n7]at this;exact AI this
         have Hi:RR[n]=[.v (.int .i64 rk),.v (.string (bs rn)),dR e]:=by
          rw[AT dV]at je;exact AI je
         have Sn:(dR e).one=true:=by cases e<;>rfl
         generalize p.names[i].name=nm at mH;generalize p.names[i].kind=kd at mH;generalize p.names[i].count=top at mH bN;generalize bs rn=key at *;generalize dR e=er at Hi bd Sn;clear je lG mL;have gn:=pF j4.ok;simp at gn;have bO:=eq_true gn;have fW:=pF j5.ok;simp at fW;have eE:=eq_true fW;have HF:=fun x:Value=>pF (Cl key x j5.ok);simp at HF;have jh:=fun x=>eq_true (HF x);have qf:=(Aq @dV (Aq @Hi @Sn));refine ax [3,4,6,7,15,65,66,67] [6,7,601,602,15] ?_;refine gu 15 ?_;refine rg [3,4,6,7,15,16,65,66,67] [6,7,601,602] aQ fun K' ao=>?_;(repeat refine aK fun Kq af=>?_;simp[r9];(repeat refine⟨aa,?_⟩);refine af _ ?_);refine aK fun Kq af=>?_;simp[r9];refine cZ.rT (bd) (by simp[r9];rfl) (by first | exact D.bC _ | simp[aP,amk,amc,D.le,D.le.go,D.le_refl,D.bC,r9]) (by simp[D.scalar,r9]) ?_;refine af _ ?_;simp only[aN,du];(repeat refine aK fun Kq af=>?_;simp[r9];(repeat refine⟨aa,?_⟩);refine af _ ?_);refine bH (ao _ (AW.st (by simp[r9];rfl) ?_));have qf:=(Aq @n7 @mH);refine u1 mf [3,4,6,7,15,16,17,65,66,67] [6,7,601,602] ?_;refine ar [3,4,6,7,15,16,17,65,66,67,86] [6,7,601,602] ?_;refine bf ?_
         have Ed:rk=1\/rk=2\/rk=3\/rk=4\/rk=5\/rk=6:=aa
         rcases Ed with rfl | rfl | rfl | rfl | rfl | rfl
         .simp at bN;refine ar [3,4,6,7,15,16,17,65,66,67,86,87] [6,7,601,602] ?_;refine aJ ?_;have qf:=(Aq @bO (Aq @eE (Aq @jh @fj)));refine eM e6 [3,4,6,7,65,66,67] [6,7,601,602] ?_;refine cK ?_;(try simp only[aT,aW]);refine aZ.mk (n+1,(dt L4 key (.bool yes),L5)) ⟨aa,?_,?_⟩ aa ?_
          .rw[bN];exact kZ j4 _ _
          .rw[bN];exact j5
          .refine cg
         .simp at bN;refine ar [3,4,6,7,15,16,17,65,66,67,86,87] [6,7,601,602] ?_;refine al (ar [3,4,6,7,15,16,17,65,66,67,86,94] [6,7,601,602] ?_);refine aJ (ar [3,4,6,7,15,65,66,67,96] [6,7,601,602] ?_)
          cases yes with
          | true=>
           simp at bN;refine aJ ?_;have qf:=(Aq @bO (Aq @eE (Aq @jh @fj)));refine eM e6 [3,4,6,7,65,66,67] [6,7,601,602] ?_;refine cK ?_;(try simp only[aT,aW]);refine aZ.mk (n+1,(dt L4 key (.bool true),L5)) ⟨aa,?_,?_⟩ aa ?_
           .rw[bN];exact kZ j4 _ _
           .rw[bN];exact j5
           .refine cg
          | false=>
           simp at bN;refine al (aq ?_);refine e6 _ (AW.norm [3,4,6,7,65,66,67] [6,7,601,602] aQ (AW.st bt ?_));refine cK ?_;(try simp only[aT,aW]);refine aZ.mk (n+1,(L4,L5)) ⟨aa,?_,?_⟩ aa ?_
           .rw[bN];exact j4
           .rw[bN];exact j5
           .refine cg
         .simp at bN;refine ar [3,4,6,7,15,16,17,65,66,67,86,87] [6,7,601,602] ?_;refine al (ar [3,4,6,7,15,16,17,65,66,67,86,94] [6,7,601,602] ?_);refine al (ar [3,4,6,7,15,16,17,65,66,67,86,101] [6,7,601,602] ?_);refine aJ (ar [3,4,6,7,15,65,66,67,103] [6,7,601,602] ?_)
          cases yes with
          | true=>
           simp at bN;refine aJ ?_;have qf:=(Aq @bO (Aq @eE (Aq @jh @fj)));refine eM e6 [3,4,6,7,65,66,67] [6,7,601,602] ?_;refine cK ?_;(try simp only[aT,aW]);refine aZ.mk (n+1,(dt L4 key (.bool false),L5)) ⟨aa,?_,?_⟩ aa ?_
           .rw[bN];exact kZ j4 _ _
           .rw[bN];exact j5
           .refine cg
          | false=>
           simp at bN;refine al (aq ?_);refine e6 _ (AW.norm [3,4,6,7,65,66,67] [6,7,601,602] aQ (AW.st bt ?_));refine cK ?_;(try simp only[aT,aW]);refine aZ.mk (n+1,(L4,L5)) ⟨aa,?_,?_⟩ aa ?_
           .rw[bN];exact j4
           .rw[bN];exact j5
           .refine cg
         .simp at bN;refine ar [3,4,6,7,15,16,17,65,66,67,86,87] [6,7,601,602] ?_;refine al (ar [3,4,6,7,15,16,17,65,66,67,86,94] [6,7,601,602] ?_);refine al (ar [3,4,6,7,15,16,17,65,66,67,86,101] [6,7,601,602] ?_);refine al (ag fun vg nW=>?_);refine ar [3,4,6,7,15,16,17,65,66,67,86,108] [6,7,601,602] ?_;refine aJ (aq ?_);refine nW _ (AW.norm [3,4,6,7,15,16,17,65,66,67,86,108] [6,7,601,602] aQ (AW.st bt ?_));refine aJ (ag fun yS k7=>?_);have L8:∃ oc,mG (.string key) (ef L5)=oc/\((oc=none/\c=0)\/oc=some (.v (.int .i64 c))):=⟨_,rfl,vZ⟩;clear vZ;obtain⟨oc,nC,vZ⟩:=L8
          rcases vZ with⟨rfl,rfl⟩ | rfl
          .cases yes with
           | true=>
            by_cases j7:0 < top
            .simp[j7,p7,qF]at bN;have qf:=(Aq @bO (Aq @eE (Aq @jh (Aq @fj (Aq @nC (Aq @aoa (Aq @aob (Aq @aoc @j7))))))));refine ax [3,4,6,7,15,16,17,65,66,67,120] [6,7,601,602] ?_;refine bR (by simp[j7]) ?_;have qf:=(Aq @bO (Aq @eE (Aq @jh (Aq @fj (Aq @nC aot)))));refine eM k7 [3,4,6,7,15,16,17,65,66,67] [6,7,601,602] ?_;refine ag fun oK im=>ar [3,4,6,7,15,17,65,66,67,133] [6,7,601,602] ?_;refine al (aq ?_);refine im _ (AW.norm [3,4,6,7,15,17,65,66,67] [6,7,601,602] aQ (AW.st bt ?_));have qf:=(Aq @bO (Aq @eE (Aq @jh (Aq @fj (Aq @BL aot)))));refine eM e6 [3,4,6,7,65,66,67] [6,7,601,602] ?_;refine cK ?_;(try simp only[aT,aW]);refine aZ.mk (n+1,(dt L4 key (.bool ((0:Int)+1 == top)),dt L5 key (.int .i64 ((0:Int)+1)))) ⟨aa,?_,?_⟩ aa ?_
             .rw[bN];exact kZ j4 _ _
             .rw[bN];exact kZ j5 _ _
             .refine cg
            .simp[j7,p7,qF]at bN;have qf:=(Aq @bO (Aq @eE (Aq @jh (Aq @fj (Aq @nC (Aq @aoa (Aq @aob (Aq @aoc @j7))))))));refine ax [3,4,6,7,15,16,17,65,66,67,120] [6,7,601,602] ?_;refine bU (by simp[j7]) (aq ?_);refine k7 _ (AW.norm [3,4,6,7,15,16,17,65,66,67] [6,7,601,602] aQ (AW.st bt ?_));refine ag fun oK im=>ar [3,4,6,7,15,17,65,66,67,133] [6,7,601,602] ?_;refine al (aq ?_);refine im _ (AW.norm [3,4,6,7,15,17,65,66,67] [6,7,601,602] aQ (AW.st bt ?_));have qf:=(Aq @bO (Aq @eE (Aq @jh (Aq @fj (Aq @nC aot)))));refine eM e6 [3,4,6,7,65,66,67] [6,7,601,602] ?_;refine cK ?_;(try simp only[aT,aW]);refine aZ.mk (n+1,(dt L4 key (.bool ((0:Int) == top)),L5)) ⟨aa,?_,?_⟩ aa ?_
             .rw[bN];exact kZ j4 _ _
             .rw[bN];exact j5
             .refine cg
           | false=>
            simp[p7,qF]at bN;refine ar [3,4,6,7,15,16,17,65,66,67,120] [6,7,601,602] ?_;refine bU ak ?_;refine aq ?_;refine k7 _ (AW.norm [3,4,6,7,15,16,17,65,66,67] [6,7,601,602] aQ (AW.st bt ?_));refine ag fun oK im=>ar [3,4,6,7,15,17,65,66,67,133] [6,7,601,602] ?_;refine aJ ?_;have qf:=(Aq @bO (Aq @eE (Aq @jh @fj)));refine eM im [3,4,6,7,15,17,65,66,67] [6,7,601,602] ?_;have qf:=(Aq @bO (Aq @eE (Aq @jh (Aq @fj (Aq @BL aot)))));refine eM e6 [3,4,6,7,65,66,67] [6,7,601,602] ?_;refine cK ?_;(try simp only[aT,aW]);refine aZ.mk (n+1,(dt L4 key (.bool ((0:Int) == top)),dt L5 key (.int .i64 0))) ⟨aa,?_,?_⟩ aa ?_
            .rw[bN];exact kZ j4 _ _
            .rw[bN];exact kZ j5 _ _
            .refine cg
          .cases yes with
           | true=>
            by_cases j7:c < top
            .simp[j7,p7,qF]at bN;have qf:=(Aq @bO (Aq @eE (Aq @jh (Aq @fj (Aq @nC (Aq @aoa (Aq @aob (Aq @aoc @j7))))))));refine ax [3,4,6,7,15,16,17,65,66,67,120] [6,7,601,602] ?_;refine bR (by simp[j7]) ?_;have qf:=(Aq @bO (Aq @eE (Aq @jh (Aq @fj (Aq @nC aot)))));refine eM k7 [3,4,6,7,15,16,17,65,66,67] [6,7,601,602] ?_;refine ag fun oK im=>ar [3,4,6,7,15,17,65,66,67,133] [6,7,601,602] ?_;refine al (aq ?_);refine im _ (AW.norm [3,4,6,7,15,17,65,66,67] [6,7,601,602] aQ (AW.st bt ?_));have qf:=(Aq @bO (Aq @eE (Aq @jh (Aq @fj (Aq @BL aot)))));refine eM e6 [3,4,6,7,65,66,67] [6,7,601,602] ?_;refine cK ?_;(try simp only[aT,aW]);refine aZ.mk (n+1,(dt L4 key (.bool (c+1 == top)),dt L5 key (.int .i64 (c+1)))) ⟨aa,?_,?_⟩ aa ?_
             .rw[bN];exact kZ j4 _ _
             .rw[bN];exact kZ j5 _ _
             .refine cg
            .simp[j7,p7,qF]at bN;have qf:=(Aq @bO (Aq @eE (Aq @jh (Aq @fj (Aq @nC (Aq @aoa (Aq @aob (Aq @aoc @j7))))))));refine ax [3,4,6,7,15,16,17,65,66,67,120] [6,7,601,602] ?_;refine bU (by simp[j7]) (aq ?_);refine k7 _ (AW.norm [3,4,6,7,15,16,17,65,66,67] [6,7,601,602] aQ (AW.st bt ?_));refine ag fun oK im=>ar [3,4,6,7,15,17,65,66,67,133] [6,7,601,602] ?_;refine al (aq ?_);refine im _ (AW.norm [3,4,6,7,15,17,65,66,67] [6,7,601,602] aQ (AW.st bt ?_));have qf:=(Aq @bO (Aq @eE (Aq @jh (Aq @fj (Aq @nC aot)))));refine eM e6 [3,4,6,7,65,66,67] [6,7,601,602] ?_;refine cK ?_;(try simp only[aT,aW]);refine aZ.mk (n+1,(dt L4 key (.bool (c == top)),L5)) ⟨aa,?_,?_⟩ aa ?_
             .rw[bN];exact kZ j4 _ _
             .rw[bN];exact j5
             .refine cg
           | false=>
            simp[p7,qF]at bN;refine ar [3,4,6,7,15,16,17,65,66,67,120] [6,7,601,602] ?_;refine bU ak ?_;refine aq ?_;refine k7 _ (AW.norm [3,4,6,7,15,16,17,65,66,67] [6,7,601,602] aQ (AW.st bt ?_));refine ag fun oK im=>ar [3,4,6,7,15,17,65,66,67,133] [6,7,601,602] ?_;refine aJ ?_;have qf:=(Aq @bO (Aq @eE (Aq @jh @fj)));refine eM im [3,4,6,7,15,17,65,66,67] [6,7,601,602] ?_;have qf:=(Aq @bO (Aq @eE (Aq @jh (Aq @fj (Aq @BL aot)))));refine eM e6 [3,4,6,7,65,66,67] [6,7,601,602] ?_;refine cK ?_;(try simp only[aT,aW]);refine aZ.mk (n+1,(dt L4 key (.bool ((0:Int) == top)),dt L5 key (.int .i64 0))) ⟨aa,?_,?_⟩ aa ?_
            .rw[bN];exact kZ j4 _ _
            .rw[bN];exact kZ j5 _ _
            .refine cg
         .simp at bN;refine ar [3,4,6,7,15,16,17,65,66,67,86,87] [6,7,601,602] ?_;refine al (ar [3,4,6,7,15,16,17,65,66,67,86,94] [6,7,601,602] ?_);refine al (ar [3,4,6,7,15,16,17,65,66,67,86,101] [6,7,601,602] ?_);refine al (ag fun vg nW=>?_);refine ar [3,4,6,7,15,16,17,65,66,67,86,108] [6,7,601,602] ?_;refine al (gq trivial nW [3,4,6,7,15,16,17,65,66,67,86,108] [6,7,601,602] ?_);refine aJ (ag fun yS k7=>?_);have L8:∃ oc,mG (.string key) (ef L5)=oc/\((oc=none/\c=0)\/oc=some (.v (.int .i64 c))):=⟨_,rfl,vZ⟩;clear vZ;obtain⟨oc,nC,vZ⟩:=L8
          rcases vZ with⟨rfl,rfl⟩ | rfl
          .cases yes with
           | true=>
            by_cases j7:0 < top
            .simp[j7,p7,qF]at bN;have qf:=(Aq @bO (Aq @eE (Aq @jh (Aq @fj (Aq @nC (Aq @aoa (Aq @aob (Aq @aoc @j7))))))));refine ax [3,4,6,7,15,16,17,65,66,67,120] [6,7,601,602] ?_;refine bR (by simp[j7]) ?_;have qf:=(Aq @bO (Aq @eE (Aq @jh (Aq @fj (Aq @nC aot)))));refine eM k7 [3,4,6,7,15,16,17,65,66,67] [6,7,601,602] ?_;refine ag fun oK im=>ar [3,4,6,7,15,17,65,66,67,133] [6,7,601,602] ?_;refine al (aq ?_);refine im _ (AW.norm [3,4,6,7,15,17,65,66,67] [6,7,601,602] aQ (AW.st bt ?_));have qf:=(Aq @bO (Aq @eE (Aq @jh (Aq @fj (Aq @BL aot)))));refine eM e6 [3,4,6,7,65,66,67] [6,7,601,602] ?_;refine cK ?_;(try simp only[aT,aW]);refine aZ.mk (n+1,(dt L4 key (.bool ((0:Int)+1 == top)),dt L5 key (.int .i64 ((0:Int)+1)))) ⟨aa,?_,?_⟩ aa ?_
             .rw[bN];exact kZ j4 _ _
             .rw[bN];exact kZ j5 _ _
             .refine cg
            .simp[j7,p7,qF]at bN;have qf:=(Aq @bO (Aq @eE (Aq @jh (Aq @fj (Aq @nC (Aq @aoa (Aq @aob (Aq @aoc @j7))))))));refine ax [3,4,6,7,15,16,17,65,66,67,120] [6,7,601,602] ?_;refine bU (by simp[j7]) (aq ?_);refine k7 _ (AW.norm [3,4,6,7,15,16,17,65,66,67] [6,7,601,602] aQ (AW.st bt ?_));refine ag fun oK im=>ar [3,4,6,7,15,17,65,66,67,133] [6,7,601,602] ?_;refine al (aq ?_);refine im _ (AW.norm [3,4,6,7,15,17,65,66,67] [6,7,601,602] aQ (AW.st bt ?_));have qf:=(Aq @bO (Aq @eE (Aq @jh (Aq @fj (Aq @nC aot)))));refine eM e6 [3,4,6,7,65,66,67] [6,7,601,602] ?_;refine cK ?_;(try simp only[aT,aW]);refine aZ.mk (n+1,(dt L4 key (.bool ((0:Int) == top)),L5)) ⟨aa,?_,?_⟩ aa ?_
             .rw[bN];exact kZ j4 _ _
             .rw[bN];exact j5
             .refine cg
           | false=>
            simp[p7,qF]at bN;refine ar [3,4,6,7,15,16,17,65,66,67,120] [6,7,601,602] ?_;refine bU ak ?_;refine aq ?_;refine k7 _ (AW.norm [3,4,6,7,15,16,17,65,66,67] [6,7,601,602] aQ (AW.st bt ?_));refine ag fun oK im=>ar [3,4,6,7,15,17,65,66,67,133] [6,7,601,602] ?_;refine al (aq ?_);refine im _ (AW.norm [3,4,6,7,15,17,65,66,67] [6,7,601,602] aQ (AW.st bt ?_));have qf:=(Aq @bO (Aq @eE (Aq @jh (Aq @fj (Aq @nC aot)))));refine eM e6 [3,4,6,7,65,66,67] [6,7,601,602] ?_;refine cK ?_;(try simp only[aT,aW]);refine aZ.mk (n+1,(dt L4 key (.bool ((0:Int) == top)),L5)) ⟨aa,?_,?_⟩ aa ?_
            .rw[bN];exact kZ j4 _ _
            .rw[bN];exact j5
            .refine cg
          .cases yes with
           | true=>
            by_cases j7:c < top
            .simp[j7,p7,qF]at bN;have qf:=(Aq @bO (Aq @eE (Aq @jh (Aq @fj (Aq @nC (Aq @aoa (Aq @aob (Aq @aoc @j7))))))));refine ax [3,4,6,7,15,16,17,65,66,67,120] [6,7,601,602] ?_;refine bR (by simp[j7]) ?_;have qf:=(Aq @bO (Aq @eE (Aq @jh (Aq @fj (Aq @nC aot)))));refine eM k7 [3,4,6,7,15,16,17,65,66,67] [6,7,601,602] ?_;refine ag fun oK im=>ar [3,4,6,7,15,17,65,66,67,133] [6,7,601,602] ?_;refine al (aq ?_);refine im _ (AW.norm [3,4,6,7,15,17,65,66,67] [6,7,601,602] aQ (AW.st bt ?_));have qf:=(Aq @bO (Aq @eE (Aq @jh (Aq @fj (Aq @BL aot)))));refine eM e6 [3,4,6,7,65,66,67] [6,7,601,602] ?_;refine cK ?_;(try simp only[aT,aW]);refine aZ.mk (n+1,(dt L4 key (.bool (c+1 == top)),dt L5 key (.int .i64 (c+1)))) ⟨aa,?_,?_⟩ aa ?_
             .rw[bN];exact kZ j4 _ _
             .rw[bN];exact kZ j5 _ _
             .refine cg
            .simp[j7,p7,qF]at bN;have qf:=(Aq @bO (Aq @eE (Aq @jh (Aq @fj (Aq @nC (Aq @aoa (Aq @aob (Aq @aoc @j7))))))));refine ax [3,4,6,7,15,16,17,65,66,67,120] [6,7,601,602] ?_;refine bU (by simp[j7]) (aq ?_);refine k7 _ (AW.norm [3,4,6,7,15,16,17,65,66,67] [6,7,601,602] aQ (AW.st bt ?_));refine ag fun oK im=>ar [3,4,6,7,15,17,65,66,67,133] [6,7,601,602] ?_;refine al (aq ?_);refine im _ (AW.norm [3,4,6,7,15,17,65,66,67] [6,7,601,602] aQ (AW.st bt ?_));have qf:=(Aq @bO (Aq @eE (Aq @jh (Aq @fj (Aq @nC aot)))));refine eM e6 [3,4,6,7,65,66,67] [6,7,601,602] ?_;refine cK ?_;(try simp only[aT,aW]);refine aZ.mk (n+1,(dt L4 key (.bool (c == top)),L5)) ⟨aa,?_,?_⟩ aa ?_
             .rw[bN];exact kZ j4 _ _
             .rw[bN];exact j5
             .refine cg
           | false=>
            simp[p7,qF]at bN;refine ar [3,4,6,7,15,16,17,65,66,67,120] [6,7,601,602] ?_;refine bU ak ?_;refine aq ?_;refine k7 _ (AW.norm [3,4,6,7,15,16,17,65,66,67] [6,7,601,602] aQ (AW.st bt ?_));refine ag fun oK im=>ar [3,4,6,7,15,17,65,66,67,133] [6,7,601,602] ?_;refine al (aq ?_);refine im _ (AW.norm [3,4,6,7,15,17,65,66,67] [6,7,601,602] aQ (AW.st bt ?_));have qf:=(Aq @bO (Aq @eE (Aq @jh (Aq @fj (Aq @nC aot)))));refine eM e6 [3,4,6,7,65,66,67] [6,7,601,602] ?_;refine cK ?_;(try simp only[aT,aW]);refine aZ.mk (n+1,(dt L4 key (.bool (c == top)),L5)) ⟨aa,?_,?_⟩ aa ?_
            .rw[bN];exact kZ j4 _ _
            .rw[bN];exact j5
            .refine cg
         .simp at bN;refine ar [3,4,6,7,15,16,17,65,66,67,86,87] [6,7,601,602] ?_;refine al (ar [3,4,6,7,15,16,17,65,66,67,86,94] [6,7,601,602] ?_);refine al (ar [3,4,6,7,15,16,17,65,66,67,86,101] [6,7,601,602] ?_);refine al (ag fun vg nW=>?_);refine ar [3,4,6,7,15,16,17,65,66,67,86,108] [6,7,601,602] ?_;refine al (gq trivial nW [3,4,6,7,15,16,17,65,66,67,86,108] [6,7,601,602] ?_);refine al (ar [3,4,6,7,15,16,65,66,67,149] [6,7,601,602] ?_);refine aJ (ar [3,4,6,7,15,65,66,67,151] [6,7,601,602] ?_)
          cases yes with
          | true=>
           simp at bN;refine aJ (tY (ay _) ah [(1,7),(3,999),(5,7),(7,999),(8,602),(9,601)] ah fun K' ao=>?_);(repeat refine jX fun Kq af=>?_;simp[bO,eE,jh,fj];(repeat refine⟨aa,?_⟩);refine af _ ?_);refine lq (ao _ ?_);refine e6 _ (AW.norm [3,4,6,7,65,66,67] [6,7,601,602] aQ (AW.st (by simp[bO,eE,jh,fj];rfl) ?_));refine cK ?_;(try simp only[aT,aW]);refine aZ.mk (n+1,(dt L4 key (.bool false),dt L5 key (.int .i64 0))) ⟨aa,?_,?_⟩ aa ?_
           .rw[bN];exact kZ j4 _ _
           .rw[bN];exact kZ j5 _ _
           .refine cg
          | false=>
           simp at bN;refine al (aq ?_);refine e6 _ (AW.norm [3,4,6,7,65,66,67] [6,7,601,602] aQ (AW.st bt ?_));refine cK ?_;(try simp only[aT,aW]);refine aZ.mk (n+1,(L4,L5)) ⟨aa,?_,?_⟩ aa ?_
           .rw[bN];exact j4
           .rw[bN];exact j5
           .refine cg
        .have bq:n=p.aC.length:=aa
         have hMl:=Sd bq;refine bU (by simp<;>omega) ?_;refine bL (eo _ (ar [6] [6,7,601,602] ?_));have jv:=Re j4 He.1;have gZ:=Re j5 He.2;refine bW ?_;simp[D.le,D.le.go,aP,hMl,r9,jv,gZ]
theorem VG {p:aM} (hg:lu p) {i:Nat} (hi:i < p.names.length):dB p p.names[i]<=8:=by
 have h5:=hg.count _ (By hi);unfold dB;split
 .rcases h5 with h5 | h5<;>omega
 .split
  .omega
  .split<;>omega
def ow (p:aM) (k:Nat):Int:=bT (ij p k)
theorem OR (p:aM):ow p 0=1:=rfl
theorem VU (p:aM):ow p p.names.length=bT (bF p):=rfl
theorem I8 {p:aM} (hg:lu p) {i:Nat} (hi:i < p.names.length):ow p (i+1)=if dB p p.names[i]=0 then ow p i else ow p i * dB p p.names[i]:=ahH hg hi
theorem Fu {p:aM} (hg:lu p):∀ k,k<=p.names.length->0 < ow p k
 | 0,_=>by rw[OR];decide
 | k+1,h=>by
  have ih:=Fu hg k aa;have hk:=wM hg (show k < p.names.length by omega);rw[I8 hg aa];split
  .exact ih
  .exact Int.mul_pos ih aa
theorem VW {p:aM} (hg:lu p) {k:Nat} (h:k < p.names.length):ow p k<=ow p (k+1):=by
 have ih:=Fu hg k aa;have hk:=wM hg h;rw[I8 hg h];split
 .exact an0 _
 .have:=ani (show (1:Int)<=dB p p.names[k] by omega) (anK ih);rw[Int.mul_one]at this;exact this
theorem VV {p:aM} (hg:lu p):∀ d k,k+d<=p.names.length->ow p k<=ow p (k+d)
 | 0,_,_=>an0 _
 | d+1,k,h=>by
  have h1:=VV hg d k aa;have h2:=VW hg (show k+d < p.names.length by omega)
  have:k+(d+1)=k+d+1:=aa
  rw[this];omega
theorem ahE {p:aM} (hg:lu p) {k:Nat} (h:k<=p.names.length):ow p k<=bT (bF p):=by
 have:=VV hg (p.names.length - k) k aa;rw[show k+(p.names.length - k)=p.names.length by omega]at this;exact this
def nT (p:aM):Nat->Int
 | 0=>1
 | k+1=>if 0 < (fC p).getD k 0/\nT p k<=4096 then nT p k * (fC p).getD k 0 else nT p k
theorem WI {p:aM} {k:Nat} (h:k < p.names.length):(fC p).getD k 0=dB p p.names[k]:=by
 have:k < (fC p).length:=by simpa[fC]using h
 rw[dw this];simp[fC]
theorem GW {p:aM} (hg:lu p):∀ k,k<=p.names.length->(ow p k<=4096/\nT p k=ow p k)\/(4096 < ow p k/\4096 < nT p k/\nT p k<=32768)
 | 0,_=>.inl ⟨by rw[OR];decide,by rw[OR];rfl⟩
 | k+1,h=>by
  have hk:k < p.names.length:=aa
  have ih:=GW hg k aa;have h1:=I8 hg hk;have h2:=wM hg hk;have h3:=VG hg hk;have h4:=VW hg hk;have h5:=Fu hg k aa;rw[nT,WI hk]
  rcases ih with⟨i1,i2⟩ | ⟨i1,i2,i3⟩
  .rw[i2];by_cases hz:dB p p.names[k]=0
   .rw[if_pos hz]at h1;rw[if_neg aa,h1];exact .inl ⟨i1,rfl⟩
   .rw[if_neg hz]at h1;rw[if_pos ⟨aa,i1⟩,h1];have h6:=Int.mul_le_mul i1 h3 h2 bD;by_cases hb:ow p k * dB p p.names[k]<=4096
    .exact .inl ⟨hb,rfl⟩
    .exact .inr ⟨aa,aa,aa⟩
  .rw[if_neg aa];exact .inr ⟨aa,i2,i3⟩
def qn (p:aM):Bool:=decide (4096 < bT (bF p)) || decide (6 < (bl p).length)
def wJ (p:aM) (most:Int):Bool:=!qn p && (decide (most < bT (bF p)) || decide (4 < (bl p).length))
theorem abc {p:aM} (hg:lu p):(decide (4096 < nT p p.names.length) || decide (6 < (bl p).length))=qn p:=by
 unfold qn;have h:=GW hg p.names.length (amh _);rw[VU]at h
 rcases h with⟨h1,h2⟩ | ⟨h1,h2,_⟩
 .rw[h2]
 .rw[decide_eq_true h1,decide_eq_true h2]
theorem abb {p:aM} (hg:lu p) (most:Int):(!qn p && (decide (most < nT p p.names.length) || decide (4 < (bl p).length)))=wJ p most:=by
 unfold wJ;have h:=GW hg p.names.length (amh _);rw[VU]at h
 rcases h with⟨h1,h2⟩ | ⟨h1,h2,_⟩
 .rw[h2]
 .have:qn p=true:=by unfold qn;rw[decide_eq_true h1];rfl
  rw[this];rfl
theorem abd (G:aB) (hM:ky G) (p:aM) (aV:cO p=none) (hk:∀ r∈p.aC,mZ r) (most:Int):aD prog G 15 [eB p,ab most] (.bz [.v (.bool (qn p)),.v (.bool (wJ p most))]):=by
 have hg:=gb aV;have fL:=hg.names;have oh:=Fz G hM p aV hk;have gH:=FV G p aa 1;have ny:jI p.names 1 p.names.length=bl p:=rfl;rw[ny]at gH;simp only[eB,fF,ck,gd]at oh gH
 have c6:(fC p).length=p.names.length:=by simp[fC]
 have zC:∀ k (h:k < (fC p).length),nT p (k+1)=if 0 < (fC p)[k]/\nT p k<=4096 then nT p k * (fC p)[k] else nT p k:=fun k h=>by rw[nT,dw h]
 have hgb:∀ k,k<=(fC p).length->0 < nT p k/\nT p k<=32768:=fun k h=>by
  have h1:=GW hg k aa;have h2:=Fu hg k aa
  rcases h1 with⟨h1,h3⟩ | ⟨_,h1,h3⟩<;>omega
 have hRb:∀ k (h:k < (fC p).length),0<=(fC p)[k]/\(fC p)[k]<=8:=fun k h=>by
  have h1:=wM hg (show k < p.names.length by omega);have h2:=VG hg (show k < p.names.length by omega);rw[<- WI aa,dw h]at h1 h2;exact⟨h1,h2⟩
 have M5:=abc hg;have sC:=abb hg most;have dO:=xY p.names 1 p.names.length;rw[ny]at dO;rw[<- c6]at M5 sC;rw[<- sC,<- M5];clear M5 sC;have BP:nT p 0=1:=rfl;generalize nT p=g at *;generalize fC p=RP at *
 have nV:((bl p).map fun x=>[D.v (.int .i64 x)]).length=(bl p).length:=ak
 generalize ((bl p).map fun x=>[D.v (.int .i64 x)])=IN at *;generalize (bl p).length=m at *;simp only[eB,fF,ck,ab];generalize p.names.map bw=NN at *;generalize p.aC.map ez=RR at *;refine aD.aO (ay _) func15 rfl rfl (rs:=[.tmp 4,.tmp 5]) results15 (by simp[ntmps15]) fun X=>?_;simp only[ntmps15,List.map];refine ar [1,2] [2] ?_;refine gu 2 ?_;refine ar [1,2,6] [] ?_;refine ag fun K1 aF=>bh trivial oh [1,2,6,7,8] [] ?_;refine ch (S:=Nat) (fun k=>k<=RP.length) (fun k=>⟨bg [(1,int most),(2,.d (.ip [.sl none NN,.sl none RR])),(6,int (g k)),(7,int k),(8,.d (.sl none (RP.map fun x=>[.v (.int .i64 x)])))],aw []⟩) (fun k=>RP.length - k) 0 ?_ aa ?_
 .rw[BP];refine cg
 .intro k mM;refine ag fun K2 au=>?_;have oW:=zC k;have hb:=hgb k mM
  have qH:k=RP.length->g RP.length=g k:=fun e=>by rw[e]
  generalize py:g k=v at oW hb qH ⊢;refine ar [1,2,6,7,8,15] [] ?_;refine eY (b:=k < RP.length) (by simp[D.le,D.le.go,aP]) (fun hc=>?_) (fun hc=>?_)
  .have oW:=oW hc;have hR:=hRb k hc;refine aq (au _ (ag fun K3 aX=>bf ?_));generalize gP:RP[k]=K at oW hR;by_cases hp:K > 0
   .by_cases hv:v<=4096
    .rw[if_pos ⟨hp,hv⟩]at oW;have hw:=Int.mul_le_mul hv hR.2 hR.1 bD;have rL:=an5 (anK hb.1) hR.1;have qf:=(Aq @hc (Aq @gP (Aq @hp @hv)));refine ax [1,2,6,7,8,26] [] ?_;refine bR (by simp[hp,hv]) ?_;have qf:=(Aq @hc @gP);refine eM aX [1,2,6,7,8] [] ?_;refine cK ?_;(try simp only[aT,aW]);refine aZ.mk (k+1) aa aa ?_;rw[oW];refine cg
    .rw[if_neg (fun h=>hv h.2)]at oW;have qf:=(Aq @hc (Aq @gP (Aq @hp @hv)));refine ax [1,2,6,7,8,26] [] ?_;refine bU (by simp[hp,hv]) (aq (aX _ ?_));refine cK ?_;(try simp only[aT,aW]);refine aZ.mk (k+1) aa aa ?_;rw[oW];refine cg
   .rw[if_neg (fun h=>hp h.1)]at oW;have qf:=(Aq @hc (Aq @gP @hp));refine ax [1,2,6,7,8,26] [] ?_;refine bU (by simp[hp]) (aq (aX _ ?_));refine cK ?_;(try simp only[aT,aW]);refine aZ.mk (k+1) aa aa ?_;rw[oW];refine cg
  .have lF:k=RP.length:=aa
   refine bL (aF _ ?_);rw[qH lF];clear oW py qH;by_cases h1:v > 4096
   .have qf:=@h1;refine ax [1,2,6,9] [] ?_;have qf:=@h1;refine ax [4,5] [] ?_;exact aY @h1
   .by_cases h2:(m:Int) > 6
    .have G2:6 < m:=aa
     have G1:¬ m<=6:=aa
     have qf:=(Aq @h1 (Aq @h2 @nV));refine eF gH [1,2,6,9] [] ?_;have qf:=(Aq @h1 @h2);refine ax [4,5] [] ?_;exact aY (Aq @h1 (Aq @h2 (Aq @G2 @G1)))
    .have G2:m<=6:=aa
     have G1:¬ 6 < m:=aa
     have h4:((4:Int) < (m:Int))=(4 < m):=propext aa;by_cases h3:v > most
     .have qf:=(Aq @h1 (Aq @h2 @nV));refine eF gH [1,2,6,9] [] ?_;have qf:=(Aq @h1 (Aq @h2 @h3));refine ax [4,5] [] ?_;exact aY (Aq @h1 (Aq @h2 (Aq @h3 (Aq @G2 @G1))))
     .have qf:=(Aq @h1 (Aq @h2 @nV));refine eF gH [1,2,6,9] [] ?_;have qf:=(Aq @h1 (Aq @h2 (Aq @h3 @nV)));refine eF gH [4,5] [] ?_;exact aY (Aq @h1 (Aq @h2 (Aq @h3 (Aq @G2 (Aq @G1 @h4)))))
theorem akB (G:aB) (hM:ky G) (p:aM) (aV:cO p=none) (hk:∀ r∈p.aC,mZ r) (aR:(bl p).length<=6) (hP:bT (bF p)<=4096):aD prog G 17 [eB p] (.bz [rq p (bT (bF p)) ((2 ^ (bl p).length:Nat):Int) (eW (aS p)),.v (.bool true)]):=by
 have hg:=gb aV;have fL:=hg.names;have gH:=FV G p aa 1;have ny:jI p.names 1 p.names.length=bl p:=rfl;rw[ny]at gH;have oh:=Fz G hM p aV hk;have wC:=fun (nx:List (List D)) (n:Nat) (h1:(n:Int) < 4096)=>akN G hM p aV hk (bT (bF p)) ((2 ^ (bl p).length:Nat):Int) nx n aa aa;have wb:=fun (nx:List (List D)) (n:Nat) (h1:n < 64)=>aky G p aV (bT (bF p)) ((2 ^ (bl p).length:Nat):Int) nx n aa aa aR;have kB:=fun n:Nat=>U0 aV (n:Int) aa;have oV:=fun (s:Nat) (i:Nat)=>WJ G p aV hk (jb p s) (u3 aV s) (dL i (bl p).length) (wE _ _) _ _ (kB s);have nZ:=fun (s:Nat) (i:Nat)=>U2 aV (u3 aV s) (dL i (bl p).length) (m:=((lJ p s p.names.length).2.1,(lJ p s p.names.length).2.2)) (kB s);have LZ:=fun (s:Nat) (i:Nat)=>(Gv aV (u3 aV s) (dL i (bl p).length)).1;have cy:=fun (nx:List (List D)) (s i:Nat)=>akD G hM p aV hk (bT (bF p)) ((2 ^ (bl p).length:Nat):Int) nx (oP p (jb p s) (dL i (bl p).length)) (LZ s i) hP _ _ (nZ s i);have om:0 < bT (bF p):=o4 fun x hx=>(nJ hg hx).m2;have fN:=fun k (h:k < p.names.length)=>I8 hg h;have nD:=fun k (h:k<=p.names.length)=>Fu hg k h;have eu:=fun k (h:k<=p.names.length)=>ahE hg h;have gh:ow p p.names.length=bT (bF p):=rfl;have HQ:ow p 0=1:=rfl
 have c6:(fC p).length=p.names.length:=by simp[fC]
 have tB:∀ i (hi:i < p.names.length),(fC p)[i]? = some (dB p p.names[i]):=fun i hi=>by simp[fC,hi]
 have DF:=fun i (hi:i < p.names.length)=>wM hg hi;have sE:=fun s (h:s < (aS p).length)=>Vj h;have fz:=rX p;have tL:=fun s i (h:i < 2 ^ (bl p).length)=>WA (p:=p) (s:=s) h;have eC:=fun s=>yo p (bl p).length s
 have RF:2 ^ (bl p).length<=64:=by
  have:=amP (n:=2) aa aR;omega
 simp only[uX,ab,xc,ff]at wC wb cy oV;simp only[eB,fF,ck,rq,ug,gd]at gH oh oV wC wb cy sE ⊢;generalize aS p=s5 at *;generalize DR:qV p (bl p).length=F3 at *;clear DR;generalize fC p=RP at *;generalize ow p=PN at *
 have nV:((bl p).map fun x=>[D.v (.int .i64 x)]).length=(bl p).length:=ak
 generalize ((bl p).map fun x=>[D.v (.int .i64 x)])=IN at *;generalize (bl p).length=m at *;generalize p.names.map bw=NN at *;generalize p.aC.map ez=RR at *;refine aD.aO (ay _) func17 rfl rfl (rs:=[.tmp 2,.tmp 3]) results17 (by simp[ntmps17]) fun X=>?_;simp only[ntmps17,List.map];have fw:=@an8;refine ae fw [1] [1] ?_;refine dZ fw 1 ?_;refine ae fw [1,4] [12] ?_;refine ag fun K1 aF=>?_
 have uE:¬ (IN.length:Int) > 6:=aa
 have qf:=(Aq fw @uE);refine eF gH [1,4,16] [12] ?_;refine bU (by simp<;>omega) ?_;refine aq (aF _ (ag fun K2 au=>bh fw gH [1,4,19,20] [12] ?_));refine ch (S:=Nat) (fun k=>k<=m) (fun k=>⟨bg [(1,.d (.ip [.sl none NN,.sl none RR])),(4,.ref 12 0 0),(19,int m),(20,int k)],aw [(12,.box 48 [.d (.sl none NN),.d (.sl none RR),int 1,int ((2 ^ k:Nat):Int),.d (.sl (some false) [])])]⟩) (fun k=>m - k) 0 ?_ aa ?_
 .refine bo (Aq fw @nV)
 .intro k zG;have RG:2 ^ k<=64:=anQ (amP bD zG) RF;have RH:0 < 2 ^ k:=Nat.pow_pos bD
  have Lg:((2 ^ (k+1):Nat):Int)=((2 ^ k:Nat):Int) * 2:=by rw[Nat.pow_succ];omega
  generalize xM:2 ^ k=w at RG RH Lg ⊢;refine ae fw [1,4,19,20,21] [12] ?_;refine ag fun K3 aX=>eY (b:=k < m) (by simp[D.le,D.le.go,aP,ab]) (fun hc=>?_) (fun hc=>?_)
  .refine aq (aX _ (ag fun K4 b6=>bf (gq fw b6 [1,4,19,20] [12] ?_)));refine cA fw ?_;(try simp only[aT,aW]);refine aZ.mk (k+1) aa aa ?_;rw[Lg];refine bo fw
  .obtain rfl:m=k:=aa
   rw[<- xM];clear xM Lg RH RG;refine bL (au _ (ag fun K5 b5=>bh fw oh [1,4,31,32,33] [12] ?_));refine ch (S:=Nat) (fun j=>j<=p.names.length) (fun j=>⟨bg [(1,.d (.ip [.sl none NN,.sl none RR])),(4,.ref 12 0 0),(31,.d (.sl none (RP.map fun x=>[.v (.int .i64 x)]))),(32,int RP.length),(33,int j)],aw [(12,.box 48 [.d (.sl none NN),.d (.sl none RR),int (PN j),int ((2 ^ m:Nat):Int),.d (.sl (some false) [])])]⟩) (fun j=>p.names.length - j) 0 ?_ aa ?_
   .rw[HQ];refine bo fw
   .intro j hj;have hq:=fN j;have qM:=nD j hj;have M1:=eu j hj;have lI:=fun h:j < p.names.length=>eu (j+1) h;generalize hQ:PN j=Q at hq qM M1 ⊢;refine ae fw [1,4,31,32,33,34] [12] ?_;refine ag fun K6 dy=>?_;by_cases aG:j < p.names.length
    .have pA:j < RP.length:=aa
     refine bR (by simp[pA]) (aq (dy _ ?_));refine ag fun K7 eH=>bf ?_;have hq:=hq aG;have lI:=lI aG
     have Sm:RP[j]=dB p p.names[j]:=by
      have:=tB j aG;rw[AT pA]at this;exact AI this
     have p0:=DF j aG;generalize dB p p.names[j]=K at hq Sm p0;have qf:=(Aq fw (Aq @pA @Sm));refine ax [1,4,6,31,32,33] [12] ?_;refine ag fun K8 eo=>?_;by_cases hz:K=0
     .subst hz;rw[if_pos rfl]at hq;refine ae fw [1,4,6,31,32,33,38] [12] ?_;refine al ?_
      have LB:¬ Q > 4096:=aa
      refine aq (eo _ ?_);have qf:=(Aq fw @LB);refine ax [1,4,31,32,33,51] [12] ?_;refine bU (by simp<;>omega) ?_;refine aq (eH _ (cA fw ?_));(try simp only[aT,aW]);refine aZ.mk (j+1) aa aa ?_;rw[hq];refine bo fw
     .rw[if_neg hz]at hq
      have hKp:K > 0:=aa
      have hQ0:0<=Q * K:=an5 (anK qM) p0
      have LB:¬ Q * K > 4096:=aa
      have qf:=(Aq fw @hKp);refine ax [1,4,6,31,32,33,38] [12] ?_;refine bR (by simp<;>omega) ?_;refine gq fw eo [1,4,31,32,33] [12] ?_;have qf:=(Aq fw @LB);refine ax [1,4,31,32,33,51] [12] ?_;refine bU (by simp<;>omega) ?_;refine aq (eH _ (cA fw ?_));(try simp only[aT,aW]);refine aZ.mk (j+1) aa aa ?_;rw[hq];refine bo fw
    .obtain rfl:j=p.names.length:=aa
     rw[gh]at hQ;subst hQ;refine bU (by simp<;>omega) ?_;refine bL (b5 _ (ag fun K9 jt=>?_));obtain⟨S,hS⟩:∃ S:Nat,bT (bF p)=(S:Int):=ami aa;rw[hS]at fz hP wC wb cy ⊢;rw[amd]at fz;refine ae fw [1,4,56,57] [12] ?_;refine ch (S:=Nat) (fun s=>s<=S) (fun s=>⟨bg [(1,.d (.ip [.sl none NN,.sl none RR])),(4,.ref 12 0 0),(56,int S),(57,int s)],aw [(12,.box 48 [.d (.sl none NN),.d (.sl none RR),int S,int ((2 ^ m:Nat):Int),.own 800 0 s]),(800,.sl 36 1 (eW (s5.take s)))]⟩) (fun s=>S - s) 0 ?_ aa ?_
     .refine (aL.s6 12 4 800 36 1 rfl rfl rfl).trans ?_;refine bo (Aq fw @eW.eq_1)
     .intro s Nb;have jN:=sE s
      have l8:(eW (s5.take s)).length=s:=by rw[Cv,amw];omega
      have DM:s=S->eW (s5.take s)=eW s5:=fun e=>by rw[sh aa]
      generalize eW (s5.take s)=NX at jN l8 DM ⊢;refine ae fw [1,4,56,57,58] [12,800] ?_;refine ag fun oJ e6=>eY (b:=s < S) (by simp[D.le,D.le.go,aP,ab]) (fun hc=>?_) (fun hc=>?_)
      .refine aq (e6 _ (ag fun vg nW=>bf ?_));have Es:=jN aa;have wD:=wC NX s aa;have Mw:=wb NX;have xA:=oV s;have BZ:=fun i=>cy NX s i;have tM:=fun i h=>tL s i h;have Ez:=eC s;generalize jb p s=FI at xA BZ tM;generalize lJ p s p.names.length=ms at wD xA BZ;generalize Hj:F3 s=RS at Es tM Ez;refine ae fw [1,4,7,56,57] [12,800] ?_;refine ae fw [1,4,7,8,56,57] [12,800] ?_;refine ag fun yS k7=>ae fw [1,4,7,8,56,57,63,64] [12,800] ?_;refine ch (S:=Nat) (fun i=>i<=2 ^ m) (fun i=>⟨bg [(1,.d (.ip [.sl none NN,.sl none RR])),(4,.ref 12 0 0),(7,int s),(8,.own 902 0 i),(56,int S),(57,int s),(63,int ((2 ^ m:Nat):Int)),(64,int i)],aw [(12,.box 48 [.d (.sl none NN),.d (.sl none RR),int S,int ((2 ^ m:Nat):Int),.own 800 0 s]),(800,.sl 36 1 NX),(902,.sl 3 1 ((RS.take i).map fun x=>[.v (.int .i64 x)]))]⟩) (fun i=>2 ^ m - i) 0 ?_ aa ?_
       .refine (aL.lO 8 902 3 1 rfl rfl).trans ?_;refine bo fw
       .intro i ma;have tJ:=tM i
        have gQ:((RS.take i).map fun x=>[D.v (.int .i64 x)]).length=i:=by simp;omega
        generalize je:RS.take i=RI at tJ gQ ⊢;refine ae fw [1,4,7,8,56,57,63,64,65] [12,800,902] ?_;refine ag fun oK im=>?_;by_cases dr:i < 2 ^ m
        .have BR:(i:Int) < ((2 ^ m:Nat):Int):=by exact_mod_cast dr
         refine bR (by simpa using BR) (aq (im _ ?_));refine ag fun CY vH=>bf ?_;have tK:=tJ dr;have zE:=Mw i aa;have tF:=xA i;have sF:=BZ i;generalize x7 p FI (dL i m) ms.2=md at tF sF;generalize oP p FI (dL i m)=d1 at sF tK;generalize dL i m=ib at zE tF;generalize ie (bF p) d1=v1 at sF tK;obtain⟨_,I1,C1⟩:=ms;obtain⟨I2,C2⟩:=md;dsimp only at wD tF sF;rw[l8]at wD zE sF;refine ae fw [1,4,7,8,9,56,57,63,64] [12,800,902] ?_;refine P9 (ay _) ah ([12]) ([]) ([5,8,10]) ([(2,.d (.ip [.sl none NN,.sl none RR]))]) (List.range 14) ah fun K' ao=>?_;(repeat refine oH rfl fun K2 au=>?_;simp[ab,gQ,sh];(repeat refine⟨aa,?_⟩);refine au _ ?_;clear au K2);refine oH rfl fun K2 au=>?_;simp[ab,gQ,sh];refine vO.mc (wD) (by simp[ab,gQ,sh]) (by simp[ab,gQ,sh]) (by simp[ab,gQ,sh]) (by simp[ab,gQ,sh]) (by simp[ab,gQ,sh]) (by simp[ab,gQ,sh]) (by simp[kz,ab,gQ,sh]) ?_;simp[ab,gQ,sh];refine au _ ?_;clear au K2;(repeat refine oH rfl fun K2 au=>?_;simp[ab,gQ,sh];(repeat refine⟨aa,?_⟩);refine au _ ?_;clear au K2);refine oH rfl fun K2 au=>?_;simp[ab,gQ,sh];refine vO.mc (zE) (by simp[ab,gQ,sh]) (by simp[ab,gQ,sh]) (by simp[ab,gQ,sh]) (by simp[ab,gQ,sh]) (by simp[ab,gQ,sh]) (by simp[ab,gQ,sh]) (by simp[kz,ab,gQ,sh]) ?_;simp[ab,gQ,sh];refine au _ ?_;clear au K2;(repeat refine oH rfl fun K2 au=>?_;simp[ab,gQ,sh];(repeat refine⟨aa,?_⟩);refine au _ ?_;clear au K2);refine oH rfl fun K2 au=>?_;simp[ab,gQ,sh];refine pj.mk (tF) bt bt (by first | exact D.bC _ | simp[aP,amk,amc,D.le,D.le.go,D.le_refl,D.bC,ab,gQ,sh]) ak ?_;refine au _ ?_;clear au K2;simp only[aN,du];(repeat refine oH rfl fun K2 au=>?_;simp[ab,gQ,sh];(repeat refine⟨aa,?_⟩);refine au _ ?_;clear au K2);refine oH rfl fun K2 au=>?_;simp[ab,gQ,sh];refine vO.mc (sF) (by simp[ab,gQ,sh]) (by simp[ab,gQ,sh]) (by simp[ab,gQ,sh]) (by simp[ab,gQ,sh]) (by simp[ab,gQ,sh]) (by simp[ab,gQ,sh]) (by simp[kz,ab,gQ,sh]) ?_
         simp[ab,gQ,sh];refine au _ ?_;clear au K2;(repeat refine oH rfl fun K2 au=>?_;simp[ab,gQ,sh];(repeat refine⟨aa,?_⟩);refine au _ ?_;clear au K2);refine Xw (ao _ ?_);refine vH _ (AW.norm [1,4,7,8,56,57,63,64] [12,800,902] aQ (AW.st (by simp[ab,gQ,sh];rfl) ?_));refine cA fw ?_;(try simp only[aT,aW]);refine aZ.mk (i+1) aa aa ?_;rw[tK];refine bo fw
        .obtain rfl:i=2 ^ m:=aa
         have tw:RI=RS:=by rw[<- je];exact sh aa
         subst tw;refine bU ak ?_;refine bL (k7 _ (AW.imp (aL.freeze 902 trivial) ?_));refine AW.st (by simp[ab,gQ,sh];rfl) ?_;refine fD (ay _) fun K' ao=>?_;(repeat refine aK fun Kq af=>?_;simp[ab,l8,sh];(repeat refine⟨aa,?_⟩);refine af _ ?_);refine bH (ao _ ?_);refine nW _ (AW.norm [1,4,56,57] [12,800] aQ (AW.st (by simp[ab,l8,sh];rfl) ?_));refine cA fw ?_;(try simp only[aT,aW]);refine aZ.mk (s+1) aa aa ?_;rw[Es];refine bo fw
      .obtain rfl:s=S:=aa
       obtain rfl:=DM rfl;refine bL (jt _ (AW.imp (aL.freeze 800 trivial) ?_));refine AW.st (by simp[ab,l8,sh];rfl) ?_;refine ae fw [2,3] [12] ?_;exact aY (Aq fw @hS)
theorem Zv (G:aB) (hF:ve G) (hM:ky G) (hP:ub G) (hG:r7 G) {es er:Value} (hE:vf G es er) (sk:CW G) (so:CX G) (t:Tx):aD prog G 14 [dS t] (Bc (Aw t)):=by
 have hp:=aeK G hM hP hG hE t;have hw:=aiI G hF hM hP hE sk so t;unfold Aw;simp only[dS]at hp hw ⊢;by_cases hl:1500 < t.length
 .have fh:(1500:Int) < (t.length:Int):=aa
  rw[if_pos hl];simp only[Bc,KJ,KK];refine aD.aO (ay _) func14 rfl rfl (rs:=[.cell 2 58,.cell 3 45,.tmp 4]) results14 (by simp[ntmps14]) fun X=>?_;simp only[ntmps14,List.map];refine ar [0,2,3] [2,3] ?_;refine ag fun K1 aF=>?_;have qf:=(Aq @bX @fh);refine ax [0,2,3,11] [2,3] ?_;refine bR (by simp[fh]) (ar [2,3,4] [2,3] ?_);exact fP
 .have fh:¬ (1500:Int) < (t.length:Int):=aa
  rw[if_neg hl]
  cases gh:(kf t).1 with
  | none=>
   obtain⟨q,hq⟩:∃ q,kf t=(none,q):=⟨(kf t).2,by rw[<- gh]⟩;rw[hq]at hp hw ⊢;simp only[Bc,bG,fH,fe,eB,fF,ck,eZ,dN,codeF,cz,ab]at hp hw ⊢;generalize q.names.map bw=NN at *;generalize q.aC.map de=RR at *;generalize q.aC.map ez=RW at *;refine aD.aO (ay _) func14 rfl rfl (rs:=[.cell 2 58,.cell 3 45,.tmp 4]) results14 (by simp[ntmps14]) fun X=>?_;simp only[ntmps14,List.map];refine ar [0,2,3] [2,3] ?_;refine ag fun K1 aF=>?_;have qf:=(Aq @bX @fh);refine ax [0,2,3,11] [2,3] ?_;refine bU (by simp<;>omega) ?_;refine aq (aF _ (bh trivial hw [0,2,3,5,6] [2,3,5,6] ?_));refine gu 5 ?_;refine gu 6 ?_;refine ag fun K2 au=>ar [0,2,3,5,21] [2,3] ?_;refine al (aq (au _ ?_));refine bh trivial hp [2,3,5,7] [2,3,7] ?_;refine gu 7 ?_;refine qt (ay _) ah [(0,999),(1,999),(2,2),(3,3)] [2,3,4] [2,3] aQ ah fun K' ao=>?_;(repeat refine jX fun Kq af=>?_;simp;(repeat refine⟨aa,?_⟩);refine af _ ?_);refine lq (ao _ ?_);refine AW.st bt ?_;exact fP
  | some e=>
   have h2:=afG gh
   have hq:kf t=(some e,⟨[],[]⟩):=by rw[<- gh,<- h2]
   rw[hq]at hw ⊢;obtain⟨c,o⟩:=e;have jC:=afF gh;simp only[Bc,KJ,KK,dN,codeF,ab]at hw ⊢;generalize cz (some (c,o))=pl at hw;refine aD.aO (ay _) func14 rfl rfl (rs:=[.cell 2 58,.cell 3 45,.tmp 4]) results14 (by simp[ntmps14]) fun X=>?_;simp only[ntmps14,List.map];refine ar [0,2,3] [2,3] ?_;refine ag fun K1 aF=>?_;have qf:=(Aq @bX @fh);refine ax [0,2,3,11] [2,3] ?_;refine bU (by simp<;>omega) ?_;refine aq (aF _ (bh trivial hw [0,2,3,5,6] [2,3,5,6] ?_));refine gu 5 ?_;refine gu 6 ?_;refine ag fun K2 au=>ar [0,2,3,5,21] [2,3] ?_;refine bR (by simp[jC]) (ar [2,3,4] [2,3] ?_);exact fP
theorem ajQ {l l':List Bool} {n:Nat} (ht:l.take n=l'.take n) (h:n < l.length) (h':n < l'.length) (he:l[n]=l'[n]):l.take (n+1)=l'.take (n+1):=by
 rw[aml h,aml h',ht,he]
theorem ajP {l l':List Bool} (hl:l.length=l'.length) (ht:l.take l.length=l'.take l.length):l=l':=by
 rw[am8,hl,am8]at ht;exact ht
theorem akM (G:aB) (l l':List Bool) (h:l.length < 2^63):aD prog G 11 [ff l,ff l'] (.v (.bool (l == l'))):=by
 refine aD.aO (ay _) func11 rfl rfl (rs:=[.tmp 4]) results11 (by simp[ntmps11]) fun X=>?_;simp only[ntmps11,List.map];have fw:=@an8;refine ae fw [0,1] [] ?_;refine ag fun K1 aF=>ae (Aq fw @ff.eq_1) [0,1,10] [] ?_;refine eY (b:=l.length≠l'.length) (by simp[D.le,D.le.go,aP,ab]) (fun hc=>?_) (fun hc=>?_)
 .refine ae fw [4] [] ?_;refine bW ?_;simp[D.le,D.le.go,aP,ab];intro e;subst e;simp at hc
 .refine aq (aF _ ?_)
  have hl:l.length=l'.length:=by simpa using hc
  refine ag fun K2 au=>ae (Aq fw @ff.eq_1) [0,1,5] [] ?_;refine ch (S:=Nat) (fun n=>n<=l.length/\l.take n=l'.take n) (fun n=>⟨bg [(0,.d (ff l)),(1,.d (ff l')),(5,int n)],aw []⟩) (fun n=>l.length - n) 0 ?_ ak ?_
  .refine bo (Aq fw @ff.eq_1)
  .rintro n ⟨hn,ht⟩;refine ag fun K3 aX=>ae (Aq fw @ff.eq_1) [0,1,5,14] [] ?_;refine eY (b:=n < l.length) (by simp[D.le,D.le.go,aP,ab]) (fun hc=>?_) (fun hc=>?_)
   .refine aq (aX _ (ag fun K4 b6=>bf ?_));have fz:n < l.length:=hc
    have lf:n < l'.length:=aa
    cases he:(l[n] == l'[n]) with
    | false=>
     have qf:=(Aq fw (Aq @ff.eq_1 (Aq @fz (Aq @lf @he))));refine il [0,1,5,25] [] ?_;refine aJ (ae fw [4] [] ?_);refine bW ?_;simp[D.le,D.le.go,aP,ab];intro e;subst e;simp at he
    | true=>
     have lD:l[n]=l'[n]:=by simpa using he
     have qf:=(Aq fw (Aq @ff.eq_1 (Aq @fz (Aq @lf @lD))));refine il [0,1,5,25] [] ?_;refine al (aq ?_);refine b6 _ (AW.norm [0,1,5] [] aQ (AW.st (by simp[ab];rfl) ?_));refine cA fw ?_;(try simp only[aT,aW]);refine aZ.mk (n+1) ⟨aa,ajQ ht fz lf lD⟩ aa ?_;refine bo (Aq fw @ff.eq_1)
   .refine bL (au _ (ae fw [4] [] ?_));refine bW ?_;simp[D.le,D.le.go,aP,ab]
    have sD:n=l.length:=aa
    subst sD;exact ajP hl ht
def fS (p:aM):Nat:=2 ^ (bl p).length
def nQ (p:aM):D:=pV p (bT (bF p)) ((fS p:Nat):Int) (eW (aS p))
theorem aiX (G:aB) (p:aM) (aV:cO p=none) (hk:∀ r∈p.aC,mZ r) (s i:Nat) (hP:bT (bF p)<=4096) (hs:(s:Int) < bT (bF p)) (hi:i < fS p):aD prog G 25 [nQ p,ab s,ab i] (.bz [ff (oP p (jb p s) (dL i (bl p).length)).is,.v .nilIface]):=by
 have dW:=U3 G p aV (bT (bF p)) ((fS p:Nat):Int) (eW (aS p)) s aa aa;have aR:=aeV G p aV (bT (bF p)) ((fS p:Nat):Int) (eW (aS p)) i;have oV:=Q0 G p aV hk (jb p s) (u3 aV s) (dL i (bl p).length) (wE _ _);simp only[nQ,pV,sc,ck,eZ,oO,gd,ab,se,pS,ff,fH,fe]at dW aR oV ⊢;generalize oP p (jb p s) (dL i (bl p).length)=d at *;generalize jb p s=t at *;generalize dL i (bl p).length=ib at *;generalize eW (aS p)=NX at *;generalize bT (bF p)=S at *;generalize fS p=N at *;generalize (bl p).map (fun n=>[D.v (.int .i64 n)])=IN at *;generalize (bF p).map jc=PT at *;generalize p.names.map bw=NN at *;generalize p.aC.map de=RR at *;obtain⟨I1,C1⟩:=t;obtain⟨I2,C2⟩:=d;dsimp only at dW oV ⊢
 have h1:¬ S<=(s:Int):=aa
 have h2:¬ N<=i:=aa
 have h0:¬ (s:Int) < 0:=aa
 have h3:¬ (i:Int) < 0:=aa
 refine aD.aO (ay _) func25 rfl rfl (rs:=[.tmp 6,.tmp 7]) results25 (by simp[ntmps25]) fun X=>?_;simp only[ntmps25,List.map];have fw:=@an8;refine ae fw [0,1,2] [] ?_;refine ag fun K1 aF=>ae fw [0,1,2,9] [] ?_;refine al (aq (aF _ ?_));refine ag fun K2 au=>?_;have qf:=(Aq fw (Aq @h0 (Aq @h1 (Aq @h2 @h3))));refine ax [0,1,2,32] [] ?_;refine bU (by simp<;>omega) ?_;refine aq (au _ (tX (ay _) ah [6,7] [] aQ ah fun K' ao=>?_));(repeat refine gC fun Kq af=>?_;simp[ab];(repeat refine⟨aa,?_⟩);refine af _ ?_);refine gC fun Kq af=>?_;simp[ab];refine nj.data (dW) bt bt (by first | exact D.bC _ | simp[aP,amk,amc,D.le,D.le.go,D.le_refl,D.bC,ab]) ?_;refine af _ ?_;simp only[aN,du];(repeat refine gC fun Kq af=>?_;simp[ab];(repeat refine⟨aa,?_⟩);refine af _ ?_);refine gC fun Kq af=>?_;simp[ab];refine nj.data (aR) bt bt (by first | exact D.bC _ | simp[aP,amk,amc,D.le,D.le.go,D.le_refl,D.bC,ab]) ?_;refine af _ ?_;simp only[aN,du];(repeat refine gC fun Kq af=>?_;simp[ab];(repeat refine⟨aa,?_⟩);refine af _ ?_);refine gC fun Kq af=>?_;simp[ab];refine nj.data (oV) bt bt (by first | exact D.bC _ | simp[aP,amk,amc,D.le,D.le.go,D.le_refl,D.bC,ab]) ?_;refine af _ ?_;simp only[aN,du];(repeat refine gC fun Kq af=>?_;simp[ab];(repeat refine⟨aa,?_⟩);refine af _ ?_);refine o8 (ao _ ?_);refine AW.st (by simp[ab];rfl) ?_;exact aY fw
theorem Fy {p:aM} (h:qn p=false):bT (bF p)<=4096/\(bl p).length<=6:=by
 unfold qn at h;simp at h;exact h
theorem ae4 {p:aM} {most:Int} (h:qn p=false) (h2:wJ p most=false):bT (bF p)<=most/\(bl p).length<=4:=by
 unfold wJ at h2;rw[h]at h2;simp at h2;exact h2
def rr (p:aM):D:=rq p (bT (bF p)) ((fS p:Nat):Int) (eW (aS p))
def EZ (t:Tx) (most:Int):Option aM:=match Aw t with
 | some p=>if qn p || wJ p most then none else some p
 | none=>none
def vw:Option aM->D
 | none=>.bz [.v (.pointer none),.v (.pointer none),.v (.bool false)]
 | some p=>.bz [nQ p,rr p,.v (.bool true)]
theorem aeO {t:Tx} {most:Int} {p:aM} (h:EZ t most=some p):cO p=none/\(∀ r∈p.aC,mZ r)/\(bl p).length<=4/\bT (bF p)<=4096/\bT (bF p)<=most:=by
 unfold EZ at h
 cases kB:Aw t with
 | none=>rw[kB]at h;cases h
 | some q=>
  rw[kB]at h;dsimp only at h
  cases h1:qn q with
  | true=>rw[h1]at h;cases h
  | false=>
   cases h2:wJ q most with
   | true=>rw[h1,h2]at h;cases h
   | false=>
    rw[h1,h2]at h;obtain rfl:=AI h;obtain⟨c1,c2⟩:=VE (V8 kB);have h3:=ae4 h1 h2;exact⟨c1,c2,h3.2,(Fy h1).1,h3.1⟩
theorem aeP (G:aB) (hF:ve G) (hM:ky G) (hP:ub G) (hG:r7 G) {es er:Value} (hE:vf G es er) (sk:CW G) (so:CX G) (t:Tx) (most:Int):aD prog G 4 [dS t,ab most] (vw (EZ t most)):=by
 have hb:=Zv G hF hM hP hG hE sk so t;unfold EZ
 cases kB:Aw t with
 | none=>
  rw[kB]at hb;simp only[Bc,KJ,KK,dS]at hb;simp only[dS,ab,vw];refine aD.aO (ay _) func4 rfl rfl (rs:=[.tmp 4,.tmp 5,.tmp 6]) results4 (by simp[ntmps4]) fun X=>?_;simp only[ntmps4,List.map];have fw:=@an8;refine ae fw [0,1] [] ?_;refine bh fw hb [1,7,8,9] [7,8] ?_;refine ag fun K1 aF=>ae fw [1,7,8,23] [7,8] ?_;refine aJ (ae fw [4,5,6] [] ?_);exact aY fw
 | some p=>
  rw[kB]at hb;obtain⟨aV,hk⟩:=VE (V8 kB);have gm:=abd G hM p aV hk most;have iG:=fun (h:qn p=false)=>ae0 G p aV hk (Fy h).2 (Fy h).1;have lS:=fun (h:qn p=false)=>akB G hM p aV hk (Fy h).2 (Fy h).1;dsimp only;simp only[Bc,fH,fe,eB,fF,ck,eZ,dS,ab]at hb gm;simp only[fH,fe,eB,fF,ck,eZ,pV,sc,rq,ug,oO,gd]at iG lS;simp only[dS,ab]
  cases h1:qn p with
  | true=>
   rw[h1]at gm;simp only[Bool.true_or,if_true,vw];generalize wJ p most=mu at *;generalize p.names.map bw=NN at *;generalize p.aC.map de=RR at *;generalize p.aC.map ez=RW at *;refine aD.aO (ay _) func4 rfl rfl (rs:=[.tmp 4,.tmp 5,.tmp 6]) results4 (by simp[ntmps4]) fun X=>?_;simp only[ntmps4,List.map];have fw:=@an8;refine ae fw [0,1] [] ?_;refine bh fw hb [1,7,8,9] [7,8] ?_;refine ag fun K1 aF=>ae fw [1,7,8,23] [7,8] ?_;refine al (aq (aF _ ?_));refine dZ fw 7 ?_;refine dZ fw 8 ?_;refine bh fw gm [7,8,10,11] [] ?_;refine ag fun K2 au=>ae fw [7,8,33] [] ?_;refine aJ (ae fw [4,5,6] [] ?_);exact aY fw
  | false=>
   rw[h1]at gm
   cases h2:wJ p most with
   | true=>
    rw[h2]at gm;simp only[Bool.or_true,if_true,vw];generalize p.names.map bw=NN at *;generalize p.aC.map de=RR at *;generalize p.aC.map ez=RW at *;refine aD.aO (ay _) func4 rfl rfl (rs:=[.tmp 4,.tmp 5,.tmp 6]) results4 (by simp[ntmps4]) fun X=>?_;simp only[ntmps4,List.map];have fw:=@an8;refine ae fw [0,1] [] ?_;refine bh fw hb [1,7,8,9] [7,8] ?_;refine ag fun K1 aF=>ae fw [1,7,8,23] [7,8] ?_;refine al (aq (aF _ ?_));refine dZ fw 7 ?_;refine dZ fw 8 ?_;refine bh fw gm [7,8,10,11] [] ?_;refine ag fun K2 au=>ae fw [7,8,33] [] ?_;refine aJ (ae fw [4,5,6] [] ?_);exact aY fw
   | false=>
    rw[h2]at gm;have iG:=iG h1;have lS:=lS h1;simp only[Bool.or_false,amn,if_false,vw,nQ,rr,pV,sc,rq,ug,oO,gd,ck,eZ,fS];generalize eW (aS p)=NX at *;generalize bT (bF p)=S at *;generalize ((2 ^ (bl p).length:Nat):Int)=NI at *;generalize ((bl p).map fun n=>[D.v (.int .i64 n)])=IN at *;generalize (bF p).map jc=PT at *;generalize p.names.map bw=NN at *;generalize p.aC.map de=RR at *;generalize p.aC.map ez=RW at *;refine aD.aO (ay _) func4 rfl rfl (rs:=[.tmp 4,.tmp 5,.tmp 6]) results4 (by simp[ntmps4]) fun X=>?_;simp only[ntmps4,List.map];have fw:=@an8;refine ae fw [0,1] [] ?_;refine bh fw hb [1,7,8,9] [7,8] ?_;refine ag fun K1 aF=>ae fw [1,7,8,23] [7,8] ?_;refine al (aq (aF _ ?_));refine dZ fw 7 ?_;refine dZ fw 8 ?_;refine bh fw gm [7,8,10,11] [] ?_;refine ag fun K2 au=>ae fw [7,8,33] [] ?_;refine al (aq (au _ ?_));refine bh fw iG [8,12] [] ?_;refine bh fw lS [12,14] [] ?_;refine ae fw [4,5,6] [] ?_;exact aY fw
def Ap (a:Int) (n:Nat):Nat:=((IntKind.u64.wrap a).tmod (n:Int)).toNat
theorem X6 (a:Int):IntKind.u64.wrap a=a % 18446744073709551616:=by
 simp[IntKind.wrap,IntKind.signed,IntKind.bits]
theorem ahv (a:Int) {n:Nat} (hn:0 < n):((IntKind.u64.wrap a).tmod (n:Int))=(Ap a n:Int)/\Ap a n < n:=by
 have h0:0<=IntKind.u64.wrap a:=by rw[X6];omega
 have h1:0<=(IntKind.u64.wrap a).tmod (n:Int):=Int.tmod_nonneg _ h0;have h2:(IntKind.u64.wrap a).tmod (n:Int) < n:=Int.tmod_lt_of_pos _ aa;unfold Ap;constructor<;>omega
theorem adr (p:aM):0 < fS p:=Nat.pow_pos bD
def uq (p:aM) (e:Ex) (s i:Nat):Bool:=fg (ga p (oP p (jb p s) (dL (i:Int) (bl p).length)).is) (ga p (jb p s).is) e
def nS (p:aM) (e:Ex) (s:Nat):List Bool:=(List.range (fS p)).map (uq p e s)
def gW (p:aM) (e:Ex):List (List Bool):=(List.range (aS p).length).map (nS p e)
def nO (p:aM) (e:Ex):Bool:=(ey true e).any fun s=>decide (b7 p s < 0)
theorem zd (p:aM) (e:Ex):(gW p e).length=(aS p).length:=by simp[gW]
theorem DB {p:aM} {e:Ex} {s:Nat} (h:s < (gW p e).length):(gW p e)[s]=nS p e s:=by simp[gW]
theorem Rw {p:aM} {e:Ex} {s:Nat} (h:s < (aS p).length):(gW p e).getD s []=nS p e s:=by rw[dw (by rw[zd];exact h),DB]
theorem xt (p:aM) (e:Ex) (s:Nat):(nS p e s).length=fS p:=by simp[nS]
theorem Ld {p:aM} {e:Ex} {s i:Nat} (h:i < (nS p e s).length):(nS p e s)[i]=uq p e s i:=by simp[nS]
theorem aa9 {p:aM} {e:Ex} {s i:Nat} (h:kc (nS p e s) < 0) (hi:i < fS p):uq p e s i=true:=by
 have h1:i < (nS p e s).length:=by rw[xt];exact hi
 have:=Vn h i h1
 rwa [Ld]at this
theorem aba {p:aM} {e:Ex} {s i:Nat} (h:kc (nS p e s)=(i:Int)):i < fS p/\uq p e s i=false:=by
 obtain⟨k,hk,h1,h2⟩:=Vo (l:=nS p e s) aa
 obtain rfl:k=i:=aa
 rw[Ld]at h2;rw[xt]at hk;exact⟨hk,h2⟩
theorem VP {i n:Nat} (h:i < n) (hn:n < 2^40):Ap (i:Int) n=i:=by
 have hw:IntKind.u64.wrap (i:Int)=i:=by
  rw[X6];omega
 unfold Ap;rw[hw,anb aa,Int.emod_eq_of_lt aa aa,amd]
def qN (p:aM) (l:List Int):List Int:=l.map fun a=>(Ap a (fS p):Int)
def Kj (p:aM) (l:List Int) (j:Nat):Nat:=runN (aS p) 0 ((qN p l).take j)
def Ic (p:aM) (l:List Int) (j:Nat):Nat:=Ap (l.getD j 0) (fS p)
theorem adq (p:aM) (l:List Int) (j:Nat):Ic p l j < fS p:=(ahv _ (adr p)).2
theorem aiE {p:aM} {s:Nat} (h:s < (aS p).length):(yn (aS p) s).length=fS p:=by
 rw[sU h,Ct h,yo];rfl
noncomputable def mF (p:aM) (e:Ex):List Int:=Ao (aS p) (gl (aS p)) (gW p e)
theorem V4 {p:aM} (h6:fS p<=64):∀ {l:List Int},(∀ j (hj:j < l.length),∃ i:Nat,i < fS p/\l[j]=(i:Int))->qN p l=l
 | [],_=>rfl
 | a :: l,h=>by
  obtain⟨i,h1,h2⟩:=h 0 ak;have e:a=(i:Int):=h2;have:=V4 h6 (l:=l) fun j hj=>h (j+1) (by simp;omega);unfold qN at this ⊢;rw[amE,this,e,VP h1 aa]
theorem ahC {p:aM} (aV:cO p=none) (h6:fS p<=64) {e:Ex} (h:mF p e≠[]):qN p (mF p e)=mF p e/\0 < (mF p e).length/\(mF p e).length<=(aS p).length/\∀ j,j < (mF p e).length->uq p e (Kj p (mF p e) j) (Ic p (mF p e) j)=decide (j+1 < (mF p e).length):=by
 have ht:=yD aV;have hF:=tm ht
 rcases afL (aS p) (gl (aS p)) (gW p e) with⟨g,_⟩ | ⟨d,z,i,hz,hd,hi,g,hb⟩
 .exact absurd g h
 have hd2:=GH ht z hz;rw[Rw hz]at hi;obtain⟨fV,gx⟩:=aba hi;have ac0:=fun j (hj:j < d)=>akt ht hF hz hd hj;have su:=(JN ht hz d 0 ht.pos (xm hF d z hz hd)).1;have Hv:=XV ht hF hz hd;have tC:=pN (aS p) z d 0;unfold mF;rw[g];generalize dv (aS p) z d 0=W at *
 have hq:qN p (W ++ [(i:Int)])=W ++ [(i:Int)]:=V4 h6 fun j hj=>by
  by_cases S8:j < d
  .obtain⟨t,i2,u,h1,h2,h3,h4,_⟩:=ac0 j S8
   have h5:(aS p)[t].length=fS p:=by have:=aiE h1;rwa [sU h1]at this
   refine⟨i2,aa,?_⟩;rw[List.getElem_append_left aa];rw[dw aa]at h4;exact h4
  .have hl:j=W.length:=by simp at hj;omega
   subst hl;exact⟨i,fV,ak⟩
 have dz:∀ j,j<=d->Kj p (W ++ [(i:Int)]) j=runN (aS p) 0 (W.take j):=fun j hj=>by
  unfold Kj;rw[hq,anh aa]
 refine⟨hq,ak,by simp only[amp,amo,am2];omega,fun j hj=>?_⟩;simp only[amp,amo,am2,tC]at hj ⊢;by_cases S8:j < d
 .obtain⟨f1,f2,f3⟩:=Hv j aa;have:=hb _ f1 f2 aa;rw[Rw f1]at this;rw[dz j aa,aa9 this (adq p _ j)];exact (decide_eq_true aa).symm
 .obtain rfl:j=d:=aa
  have e1:Ic p (W ++ [(i:Int)]) j=i:=by
   unfold Ic;rw[show (W ++ [(i:Int)]).getD j 0=(i:Int) from by rw[dw (by simp;omega)];simp[<- tC]];exact VP fV aa
  have e2:runN (aS p) 0 (W.take j)=z:=by rw[sh aa];exact su
  rw[dz j (amh _),e1,e2,gx];exact (decide_eq_false aa).symm
