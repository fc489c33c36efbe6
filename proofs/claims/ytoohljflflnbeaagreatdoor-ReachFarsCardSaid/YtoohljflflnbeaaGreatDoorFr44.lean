/- Parts. -/
import Derived.Test.YtoohljflflnbeaaGreatDoorFr43
import Derived.Maps.RangeRun
set_option linter.unusedSectionVars false
set_option linter.unusedSimpArgs false
set_option linter.unusedVariables false
set_option maxHeartbeats 64000000
set_option maxRecDepth 100000
open Go.Proofs.Tryz
namespace Go.Av
open Go.ChangeMaps (setBlock)
section
variable {P:Program} {T:Ty} {Mv X:Nat->Prop} {G:ay} {N:Fr} {w:World} {μ:Mu} {a:Act} {σ:St}
def AQ:Op->Bool
 | .range _ _=>true
 | .next _ false=>true
 | .entry _=>true
 | _=>false
def Gu (T:Ty) (t:TypeId):Bool:=match T t with
 | some tt=>match tt.desc with
  | .map _ _=>true
  | _=>false
 | none=>false
def MK (T:Ty) (G:ay) (t:TypeId) (x:Operand) (d:Nat) (σ:St) (K:St->Prop):Prop:=match bC G σ.env x with
 | some (.d (.dm _ ents))=>Gu T t=true/\σ.H d=none/\∀ es:List (Value×Value),es.Perm ents->K ⟨gS σ.env d (.ref d 0 0),aY σ.H d (.it es [])⟩
 | _=>False
def L9 (G:ay) (x:Operand) (d:Nat) (σ:St) (K:St->Prop):Prop:=match bC G σ.env x with
 | some (.ref r 0 0)=>match σ.H r with
  | some (.it ents seen)=>((∀ j,j < ents.length->j∈seen)->K ⟨gS σ.env d (.d (.bz [.v (.bool false)])),σ.H⟩)/\
   ∀ j (hj:j < ents.length),j ∉ seen->K ⟨gS σ.env d (.d (.bz [.v (.bool true),.v ents[j].1,.v ents[j].2])),aY σ.H r (.it ents (seen ++ [j]))⟩
  | _=>False
 | _=>False
def I3 (G:ay) (x:Operand) (d:Nat) (σ:St) (K:St->Prop):Prop:=match bC G σ.env x with
 | some (.ref r 0 0)=>match σ.H r with
  | some (.it ents seen)=>∃ s j,∃ hj:j < ents.length,seen=s ++ [j]/\K ⟨gS σ.env d (.d (.bz [.v ents[j].1,.v ents[j].2])),σ.H⟩
  | _=>False
 | _=>False
def yL (T:Ty) (G:ay) (o:Oper) (σ:St) (K:St->Prop):Prop:=match o.op,o.dst with
 | .range t x,some d=>MK T G t x d σ K
 | .next x false,some d=>L9 G x d σ K
 | .entry x,some d=>I3 G x d σ K
 | _,_=>False
theorem RV.To {u:Value} {r:Nat} (h:RV w X μ u (.ref r 0 0)):∃ m b,μ r=some m/\m.fk=some b/\u = .pointer (some ⟨b,0,none⟩):=by
 generalize hy:AV.ref r 0 0=y at h
 cases h with
 | ref hm hb=>cases hy;exact⟨_,_,hm,hb,ak⟩
 | _=>cases hy
theorem eA.Rv {H:Heap} (hs:eA w X μ H) {r:Nat} {ents:List (Value×Value)} {seen:List Nat} (hH:H r=some (.it ents seen)) {m:jE} {b:Nat} (hm:μ r=some m) (hb:m.fk=some b) :
  ∃ bm,w.heap[b]? = some (.mapIter (some bm) ents.length seen.toArray ents.length)/\w.heap[bm]? = some (.map (j6 ents) ents.length)/\RD w (XX X μ) (.map (some bm)) (.dm true ents):=by
 obtain⟨m',cF,ok⟩:=hs.rows r _ hH;rw[hm]at cF;obtain rfl:=AI cF
 cases ok with
 | it bk hh hr=>
  rename_i b' bm;rw[hb]at bk;obtain rfl:=AI bk;refine⟨bm,hh,?_,hr⟩;generalize hy:D.dm true ents=y at hr
  cases hr with
  | dm hX Qh hp hx=>cases hy;rw[hx rfl]at Qh;exact Qh
  | _=>cases hy
theorem Sg {ents:List (Value×Value)} {e:MapEntry} (h:e∈(j6 ents).toList):∃ j,∃ hj:j < ents.length,e = { key:=ents[j].1,val:=ents[j].2,born:=j }:=by
 obtain⟨j,hj,rfl⟩:=aj1.1 h
 have c6:j < ents.length:=by simpa[qS]using hj
 have h1:=A5 c6
 have h2:j < (j6 ents).size:=by rw[qS];exact c6
 rw[ajZ h2]at h1;exact⟨j,c6,by simpa using AI h1⟩
theorem Sf {ents:List (Value×Value)} {j:Nat} (hj:j < ents.length):({ key:=ents[j].1,val:=ents[j].2,born:=j }:MapEntry)∈(j6 ents).toList:=by
 have h1:=A5 hj
 have h2:j < (j6 ents).size:=by rw[qS];exact hj
 rw[ajZ h2]at h1;rw[<- AI h1];simp
theorem acC (ents:List (Value×Value)):((j6 ents).toList.map (·.born)).Nodup:=by
 have:(j6 ents).toList.map (·.born)=List.range ents.length:=by
  refine alo (by simp[qS]) fun i h1 h2=>?_
  have hi:i < ents.length:=by simpa using h2
  have h3:=A5 hi
  have h4:i < (j6 ents).size:=by rw[qS];exact hi
  rw[ajZ h4]at h3;simp[AI h3]
 rw[this];exact List.nodup_range
theorem abn (hg:Good P T) (hi:In w X G μ N a σ) {o:Oper} {K:St->Prop} (hd:∀ d,o.dst=some d->d < N.n) (h:yL T G o σ K) {Q:Exit->Act->World->Prop} {next:Act->World->Prop}
  (hk:∀ w' aI a' aG,K aG->In w' X G aI N a' aG->Ev Mv w μ w' aI->next a' w'):o.wpIn (wd N.ro) 0 P a w next Q:=by
 obtain⟨dst,op,type,pos,after,guard⟩:=o;unfold yL at h;dsimp only at h hd;split at h
 .-- range
  rename_i t x d;unfold MK at h;split at h
  .rename_i XY hx;obtain⟨wy,hn,hK⟩:=h;refine xf (fun c e=>by cases e) ?_;have hv:=hi.eval hx;have Dc:=hv.data
   obtain⟨bm,ents,yy,Cw,Az,Dc⟩:∃ bm es,a.eval x = .map (some bm)/\w.heap[bm]? = some (.map (j6 es) es.length)/\es.Perm XY/\RD w (XX X μ) (a.eval x) (.dm true es):=by
    generalize a.eval x=u at Dc
    cases Dc with
    | dm hX hh hp hx=>exact⟨_,_,rfl,hh,hp,.dm hX hh (List.Perm.refl _) fun _=>rfl⟩
   have hK:=hK ents Az
   obtain⟨kt,et,hu⟩:∃ kt et,P.underlying t=some (.map kt et):=by
    unfold Gu at wy;split at wy
    .rename_i tt du;split at wy
     .rename_i kt et ZY;exact⟨kt,et,by rw[<- ZY];exact (hg _ _ du).1⟩
     .cases wy
    .cases wy
   have dw:=run_range_map w t kt et bm (j6 ents) ents.length hu Cw;unfold Oper.wp
   have hex:(execOp a.eval (⟨some d,.range t x,type,pos,after,guard⟩:Oper)).run P w = .ok (.value (.pointer (some ⟨w.heap.size,0,none⟩))) (w.alloc (.mapIter (some bm) ents.length #[] ents.length)):=by
    simp[execOp,yy,dw]
   rw[hex]
   have lU:(w.alloc (.mapIter (some bm) ents.length #[] ents.length)).heap[w.heap.size]? = some (.mapIter (some bm) ents.length #[] ents.length):=by rw[<- World.alloc_eq];simp
   obtain⟨aO,aW⟩:=hi.alloc (Mv:=Mv) hn (cN.alloc w (.mapIter (some bm) ents.length #[] ents.length)) (m:=⟨some w.heap.size,1,0⟩) (fun b hb=>by simp at hb;omega) (row:=.it ents []) fun ev=>.it rfl lU (by rw[yy]at Dc;exact Dc.ev ev)
   have gM:RV (w.alloc (.mapIter (some bm) ents.length #[] ents.length)) X (dY μ d ⟨some w.heap.size,1,0⟩) (.pointer (some ⟨w.heap.size,0,none⟩)) (.ref d 0 0):=by
    have:=RV.ref (w:=w.alloc (.mapIter (some bm) ents.length #[] ents.length)) (X:=X) (μ:=dY μ d ⟨some w.heap.size,1,0⟩) (r:=d) (e:=0) (j:=0) (b:=w.heap.size) (m:=⟨some w.heap.size,1,0⟩) (by simp[dY]) rfl;simpa using this
   exact hk _ _ _ _ hK (aO.put gM (dst:=some d) hd) aW
  .exact h.elim
 .-- next
  rename_i x d;unfold L9 at h;split at h
  .rename_i r hx;split at h
   .rename_i ents seen hH;obtain⟨h0,h1⟩:=h;refine xf (fun c e=>by cases e) ?_;obtain⟨m,b,hm,hb,yy⟩:=(hi.eval hx).To;obtain⟨bm,hit,Cw,bY⟩:=hi.bq.Rv hH hm hb
    have hold:∀ x∈(j6 ents).toList,x.born < ents.length:=fun x hx=>by
     obtain⟨j,hj,rfl⟩:=Sg hx;exact hj
    unfold Oper.wp
    rcases run_next_at (P:=P) w type b bm ents.length ents.length seen.toArray (j6 ents) ents.length hit Cw hold (ajJ _) with⟨hz,dw⟩ | ⟨e,he,w1,j5,dw⟩
    .have hex:(execOp a.eval (⟨some d,.next x false,type,pos,after,guard⟩:Oper)).run P w = .ok (.value (.tuple #[.bool false])) w:=by
      simp[execOp,yy,dw]
     rw[hex]
     have dA:∀ j,j < ents.length->j∈seen:=fun j hj=>by
      apply akf;intro jq
      have nE:({ key:=ents[j].1,val:=ents[j].2,born:=j }:MapEntry)∈(leftOf (j6 ents) seen.toArray).toList:=by
       unfold leftOf;rw[Array.toList_filter,List.mem_filter];exact⟨Sf hj,by simpa using jq⟩
      have:0 < (leftOf (j6 ents) seen.toArray).size:=by
       have:=List.length_pos_of_mem nE;simpa using this
      omega
     refine hk _ μ _ _ (h0 dA) (hi.put (.d (.bz rfl fun j u c hu hc=>?_)) (dst:=some d) hd) (.refl _ w μ)
     match j,hu,hc with
     | 0,hu,hc=>simp at hu hc;subst hu hc;exact .v _
     | j+1,hu,hc=>simp at hu
    .obtain⟨he1,lR⟩:=mem_left he;obtain⟨j,hj,rfl⟩:=Sg he1
     have jq:j ∉ seen:=by simpa using lR
     have hex:(execOp a.eval (⟨some d,.next x false,type,pos,after,guard⟩:Oper)).run P w = .ok (.value (.tuple #[.bool true,ents[j].1,ents[j].2])) (setBlock w1 b (.mapIter (some bm) ents.length (seen.toArray.push j) ents.length)):=by
      simp[execOp,yy,dw]
     rw[hex]
     have fJ:cN w w1:=by
      rcases j5 with rfl | rfl
      .exact cN.refl _
      .exact cN.drew w
     have aae:w1.heap=w.heap:=by rcases j5 with rfl | rfl<;>rfl
     obtain⟨gx,se⟩:=hi.qt (Mv:=Mv) fJ
     have aH:b < w1.heap.size:=by rw[aae];exact (abi.1 hit).1
     obtain⟨aO,aW⟩:=gx.write (Mv:=Mv) (w':=setBlock w1 b (.mapIter (some bm) ents.length (seen.toArray.push j) ents.length)) hm hb (by simp[setBlock]) rfl rfl rfl (fun k hk=>by simp[setBlock,akU (akI hk)]) (row:=.it ents (seen ++ [j])) fun ev=>.it hb (by simp[setBlock,aH]) ((bY.ev se).ev ev);refine hk _ μ _ _ (h1 j hj jq) (aO.put (.d (.bz rfl fun i u c hu hc=>?_)) (dst:=some d) hd) (se.trans aW)
     match i,hu,hc with
     | 0,hu,hc=>simp at hu hc;subst hu hc;exact .v _
     | 1,hu,hc=>simp at hu hc;subst hu hc;exact .v _
     | 2,hu,hc=>simp at hu hc;subst hu hc;exact .v _
     | i+3,hu,hc=>simp at hu
   .exact h.elim
  .exact h.elim
 .-- entry
  rename_i x d;unfold I3 at h;split at h
  .rename_i r hx;split at h
   .rename_i ents seen hH;obtain⟨s,j,hj,rfl,hK⟩:=h;refine xf (fun c e=>by cases e) ?_;obtain⟨m,b,hm,hb,yy⟩:=(hi.eval hx).To;obtain⟨bm,hit,Cw,bY⟩:=hi.bq.Rv hH hm hb
    have aai:w.heap[b]? = some (.mapIter (some bm) ents.length (s.toArray.push ({ key:=ents[j].1,val:=ents[j].2,born:=j }:MapEntry).born) ents.length):=by
     rw[hit];simp
    have dw:=run_entry_at (P:=P) w b bm ents.length s.toArray (j6 ents) ents.length _ aai Cw (Sf hj) (acC ents);unfold Oper.wp
    have hex:(execOp a.eval (⟨some d,.entry x,type,pos,after,guard⟩:Oper)).run P w = .ok (.value (.tuple #[ents[j].1,ents[j].2])) w:=by
     simp[execOp,yy,dw]
    rw[hex];refine hk _ μ _ _ hK (hi.put (.d (.bz rfl fun i u c hu hc=>?_)) (dst:=some d) hd) (.refl _ w μ)
    match i,hu,hc with
    | 0,hu,hc=>simp at hu hc;subst hu hc;exact .v _
    | 1,hu,hc=>simp at hu hc;subst hu hc;exact .v _
    | i+2,hu,hc=>simp at hu
   .exact h.elim
  .exact h.elim
 .exact h.elim
def oK (P:Program) (T:Ty) (Mv X:Nat->Prop) (G:ay) (N:Fr) (ops:Array Oper) (K:St->Prop):List Oper->St->Prop
 | [],σ=>K σ
 | o :: rest,σ=>eI N o/\match jb ops σ.env o with
  | some b=>if b=true then (if AQ o.op=true then yL T G o σ (oK P T Mv X G N ops K rest) else sV P T Mv X G N o σ (oK P T Mv X G N ops K rest)) else oK P T Mv X G N ops K rest ⟨aL σ.env o.dst da,σ.H⟩
  | none=>False
theorem ag3 (hg:Good P T) {ops:Array Oper} {Q:Exit->St->Prop} {w0:World} {lh:Mu}:∀ (l:List Oper) (k:Nat) (w:World) (μ:Mu) (a:Act) (σ:St),(∀ j,l[j]? = ops[k+j]?)->oK P T Mv X G N ops (fun aG=>Q .normal aG) l σ->In w X G μ N a σ->Ev Mv w0 lh w μ->
  wpOpsIn (wd N.ro) 0 P ops (After Mv X G N w0 lh Q) (List.range' k l.length) a w:=by
 intro l
 induction l with
 | nil=>intro k w μ a σ _ h hi aW;exact⟨μ,σ,h,hi,aW⟩
 | cons o l ih=>
  intro k w μ a σ hl h hi aW
  have h0:ops[k]? = some o:=by simpa using (hl 0).symm
  have fo:∀ j,l[j]? = ops[k+1+j]?:=fun j=>by have:=hl (j+1);simpa[akv,ala 1 j]using this
  obtain⟨hd,h⟩:=h
  have fm:∀ d,o.dst=some d->d < N.n:=fun d e=>by unfold eI at hd;rw[e]at hd;exact hd
  rw[ajP,alq];simp only[wpOpsIn,h0];split at h
  .rename_i b hb;rw[tS hi hb];split at h
   .rename_i qz;subst qz;rw[if_pos rfl];split at h
    .exact abn hg hi fm h fun w' aI a' aG k' aO mb=>ih (k+1) w' aI a' aG fo k' aO (aW.trans mb)
    .exact (E4 hg hi fm h fun w' aI a' aG k' aO mb=>ih (k+1) w' aI a' aG fo k' aO (aW.trans mb))
   .rename_i pI;rw[if_neg (by simpa using pI)];exact⟨fun _ _=>trivial,ih (k+1) w μ _ _ fo h (hi.put (.d (.v _)) fm) aW⟩
  .exact h.elim
theorem Vt (hg:Good P T) {id:Nat} {ops:Array Oper} {Q:Exit->St->Prop} (h:oK P T Mv X G N ops (fun aG=>Q .normal aG) ops.toList σ):AW P Mv X G N (.region id ops false) Q σ:=fun w μ a hi=>by
 refine wpIn_region ?_;have:=ag3 hg ops.toList 0 w μ a σ ak h hi (.refl _ w μ)
 rwa [<- alg,aj8]at this
theorem zr (hg:Good P T) (l ns:List Nat) (hM:∀ r,ns.contains r=false->Mv r) {id:Nat} {ops:Array Oper} {y:Code} {Q:Exit->St->Prop} (h:∀ K:St->Prop,(∀ τ:St,AW P Mv X G N y Q (τ.norm l ns)->K τ)->oK P T Mv X G N ops K ops.toList σ):AW P Mv X G N (.seq (.region id ops false) y) Q σ:=
 sK (Vt hg (h _ fun _ h=>h.norm l ns hM))
def UB (P:Program) (T:Ty) (Mv X:Nat->Prop) (G:ay) (N:Fr) (ops:Array Oper) (o:Oper) (σ:St) (K:St->Prop):Prop:=eI N o/\match jb ops σ.env o with
 | some b=>if b=true then (if AQ o.op=true then yL T G o σ K else sV P T Mv X G N o σ K) else K ⟨aL σ.env o.dst da,σ.H⟩
 | none=>False
theorem xb {ops:Array Oper} {K:St->Prop} {o:Oper} {l:List Oper} (h:∀ K':St->Prop,(∀ τ,oK P T Mv X G N ops K l τ->K' τ)->UB P T Mv X G N ops o σ K'):oK P T Mv X G N ops K (o :: l) σ:=h _ fun _ h=>h
theorem xc {ops:Array Oper} {K:St->Prop} (h:K σ):oK P T Mv X G N ops K [] σ:=h
theorem UG {ops:Array Oper} {K:St->Prop} {o:Oper} {l:List Oper} {t:TypeId} {x:Operand} {d:Nat} {ents:List (Value×Value)} (ho:o.op = .range t x) (s4:o.dst=some d) (hd:eI N o) (hg:jb ops σ.env o=some true) {y:Bool} (hx:bC G σ.env x=some (.d (.dm y ents))) (ht:Gu T t=true) (hH:σ.H d=none)
  (h:∀ es:List (Value×Value),es.Perm ents->oK P T Mv X G N ops K l ⟨gS σ.env d (.ref d 0 0),aY σ.H d (.it es [])⟩):oK P T Mv X G N ops K (o :: l) σ:=by
 refine⟨hd,?_⟩;rw[hg];simp only[if_true,ho,AQ];unfold yL MK;simp only[ho,s4,hx];exact⟨ht,hH,h⟩
theorem UF {ops:Array Oper} {K:St->Prop} {o:Oper} {l:List Oper} {x:Operand} {d r:Nat} {ents:List (Value×Value)} {seen:List Nat} (ho:o.op = .next x false) (s4:o.dst=some d) (hd:eI N o) (hg:jb ops σ.env o=some true) (hx:bC G σ.env x=some (.ref r 0 0)) (hH:σ.H r=some (.it ents seen))
  (h0:(∀ j,j < ents.length->j∈seen)->oK P T Mv X G N ops K l ⟨gS σ.env d (.d (.bz [.v (.bool false)])),σ.H⟩)
  (h1:∀ j (hj:j < ents.length),j ∉ seen->oK P T Mv X G N ops K l ⟨gS σ.env d (.d (.bz [.v (.bool true),.v ents[j].1,.v ents[j].2])),aY σ.H r (.it ents (seen ++ [j]))⟩):oK P T Mv X G N ops K (o :: l) σ:=by
 refine⟨hd,?_⟩;rw[hg];simp only[if_true,ho,AQ];unfold yL L9;simp only[ho,s4,hx,hH];exact⟨h0,h1⟩
theorem UE {ops:Array Oper} {K:St->Prop} {o:Oper} {l:List Oper} {x:Operand} {d r:Nat} {ents:List (Value×Value)} {seen:List Nat} {j:Nat} (ho:o.op = .entry x) (s4:o.dst=some d) (hd:eI N o) (hg:jb ops σ.env o=some true) (hx:bC G σ.env x=some (.ref r 0 0)) (hH:σ.H r=some (.it ents (seen ++ [j]))) (hj:j < ents.length)
  (h:oK P T Mv X G N ops K l ⟨gS σ.env d (.d (.bz [.v ents[j].1,.v ents[j].2])),σ.H⟩):oK P T Mv X G N ops K (o :: l) σ:=by
 refine⟨hd,?_⟩;rw[hg];simp only[if_true,ho,AQ];unfold yL I3;simp only[ho,s4,hx,hH];exact⟨seen,j,hj,rfl,h⟩
end
attribute [simp] UB AQ Gu nV
end Go.Av
namespace Go.Proofs.YtoohljflflnbeaaGreatDoor
open Go.Av
structure ku (L:List (Value×Value)):Prop where
 str:∀ p∈L,∃ s:ByteArray,p.1 = .string s
 once:(L.map (·.1)).Nodup
def dW (L:List (Value×Value)) (s:ByteArray):Option Value:=(L.find? fun p=>iY (.string s) p.1).map (·.2)
def cW (L:List (Value×Value)) (s:ByteArray) (x:Value):List (Value×Value):=match L.findIdx? fun p=>iY (.string s) p.1 with
 | some j=>L.set j (.string s,x)
 | none=>L ++ [(.string s,x)]
theorem Lw (s:ByteArray) (k:Value):iY (.string s) k=true↔k = .string s:=by
 cases k with
 | string s'=>
  constructor
  .intro h;exact Lt (d:=.string) rfl rfl h
  .intro h;obtain⟨r,h1,h2⟩:=MapKept.sameNow_of_keys (yN (d:=.string) (v:=.string s) rfl) (yN (d:=.string) (v:=.string s') rfl);rw[MR (d:=.string) rfl rfl]at h1;rw[AI h1];exact h2.2 (by first | exact h.symm | exact h)
 | _=>exact⟨fun h=>(by cases h),fun h=>(by cases h)⟩
theorem GI (s:ByteArray):iY (.string s) (.string s)=true:=(Lw s _).2 rfl
theorem GH {s:ByteArray} {k:Value} (h:k≠.string s):iY (.string s) k=false:=by
 cases hk:iY (.string s) k with
 | false=>rfl
 | true=>exact absurd ((Lw s k).1 hk) h
theorem AZ (x:Value) (L:List (Value×Value)) (s:ByteArray):dW ((.string s,x) :: L) s=some x:=by
 unfold dW;rw[List.find?_cons];simp only[GI];rfl
theorem yT {k:Value} (x:Value) (L:List (Value×Value)) {s:ByteArray} (h:k≠.string s):dW ((k,x) :: L) s=dW L s:=by
 unfold dW;rw[List.find?_cons];simp only[GH h]
theorem M9 {s s':ByteArray} (h:s'≠s):Value.string s≠Value.string s':=fun e=>h (by injection e with e;exact e.symm)
theorem LO:ku []:=⟨ak,ak⟩
theorem Sc {p:Value×Value} {L:List (Value×Value)} (h:ku (p :: L)):ku L:=⟨fun q hq=>h.str q (by simp[hq]),(akB.1 h.once).2⟩
theorem ME (s:ByteArray) (x:Value):cW [] s x=[(.string s,x)]:=rfl
theorem He (y:Value) (L:List (Value×Value)) (s:ByteArray) (x:Value):cW ((.string s,y) :: L) s x=(.string s,x) :: L:=by
 unfold cW;rw[ak1];simp only[GI,if_true];rfl
theorem Hf {k:Value} (y:Value) (L:List (Value×Value)) {s:ByteArray} (x:Value) (h:k≠.string s):cW ((k,y) :: L) s x=(k,y) :: cW L s x:=by
 unfold cW;rw[ak1];simp only[GH h,ajM,if_false]
 cases L.findIdx? fun p=>iY (.string s) p.1 with
 | none=>rfl
 | some j=>rfl
theorem rR (s s':ByteArray) (x:Value):∀ L:List (Value×Value),dW (cW L s x) s'=if s'=s then some x else dW L s'
 | []=>by
  rw[ME];by_cases h:s'=s
  .subst h;rw[AZ,if_pos rfl]
  .rw[yT _ _ (M9 h),if_neg h]
 | (k,y) :: L=>by
  by_cases hk:k = .string s
  .subst hk;rw[He];by_cases h:s'=s
   .subst h;rw[AZ,if_pos rfl]
   .rw[yT _ _ (M9 h),yT _ _ (M9 h),if_neg h]
  .rw[Hf _ _ _ hk];by_cases gy:k = .string s'
   .subst gy;rw[AZ,AZ,if_neg (fun e=>hk (by rw[e]))]
   .rw[yT _ _ gy,yT _ _ gy,rR s s' x L]
theorem Tf (s:ByteArray) (x:Value):∀ {L:List (Value×Value)} {k:Value},k∈(cW L s x).map (·.1)->k = .string s\/k∈L.map (·.1)
 | [],k,h=>by rw[ME]at h;simp at h;exact .inl h
 | (k0,y) :: L,k,h=>by
  by_cases hk:k0 = .string s
  .subst hk;rw[He]at h;simp only[aj6,ajX]at h ⊢
   rcases h with h | h
   .exact .inl h
   .exact .inr (.inr h)
  .rw[Hf _ _ _ hk]at h;simp only[aj6,ajX]at h ⊢
   rcases h with h | h
   .exact .inr (.inl h)
   .rcases Tf s x h with h | h
    .exact .inl h
    .exact .inr (.inr h)
theorem A3 (s:ByteArray) (x:Value):∀ {L:List (Value×Value)},ku L->ku (cW L s x)
 | [],_=>by rw[ME];exact⟨ak,ak⟩
 | (k,y) :: L,h=>by
  have ih:=A3 s x (Sc h);by_cases hk:k = .string s
  .subst hk;rw[He]
   exact⟨fun p hp=>by
    rcases ajX.1 hp with rfl | hp
    .exact⟨s,rfl⟩
    .exact h.str p (by simp[hp]),by simpa using h.once⟩
  .rw[Hf _ _ _ hk];refine⟨fun p hp=>?_,?_⟩
   .rcases ajX.1 hp with rfl | hp
    .exact h.str _ ak
    .exact ih.str p hp
   .rw[aj6,akB];refine⟨fun hm=>?_,ih.once⟩
    rcases Tf s x hm with e | e
    .exact hk e
    .exact (akB.1 h.once).1 e
theorem Du:∀ {L:List (Value×Value)},ku L->∀ {j:Nat} (hj:j < L.length) {s:ByteArray},L[j].1 = .string s->dW L s=some L[j].2
 | (k,y) :: L,h,0,_,s,he=>by
  have:k = .string s:=he;subst this;exact AZ _ _ _
 | (k,y) :: L,h,j+1,hj,s,he=>by
  have c6:j < L.length:=by simpa using hj
  have bf:k≠.string s:=fun e=>(akB.1 h.once).1 (by
   show k∈_;have kg:L[j].1 = .string s:=he;rw[e,<- kg]
   exact akh.2 ⟨L[j],By c6,rfl⟩)
  rw[yT _ _ bf];exact Du (Sc h) c6 he
theorem R7 {L:List (Value×Value)} {s:ByteArray} {v:Value} (h:dW L s=some v):∃ j,∃ hj:j < L.length,L[j].1 = .string s/\L[j].2=v:=by
 unfold dW at h;obtain⟨p,hp,rfl⟩:=AS.1 h;have h1:=List.find?_some hp;obtain⟨j,hj,rfl⟩:=aj1.1 (List.mem_of_find?_eq_some hp);exact⟨j,hj,(Lw s _).1 h1,rfl⟩
structure xm (E:List (Value×Value)) (seen:List Nat) (L:List (Value×Value)):Prop where
 ok:ku L
 have':∀ j∈seen,∀ hj:j < E.length,∀ s,E[j].1 = .string s->dW L s=some E[j].2
 only:∀ s v,dW L s=some v->∃ j,∃ hj:j < E.length,j∈seen/\E[j].1 = .string s
theorem OD (E:List (Value×Value)):xm E [] []:=⟨LO,ak,fun s v h=>by cases h⟩
theorem OC {E:List (Value×Value)} (hE:ku E) {seen:List Nat} {L:List (Value×Value)} (h:xm E seen L) {j:Nat} (hj:j < E.length) {s:ByteArray} (hs:E[j].1 = .string s):xm E (seen ++ [j]) (cW L s E[j].2):=by
 refine⟨A3 s _ h.ok,fun i hi dM s' qG=>?_,fun s' v hv=>?_⟩
 .rw[rR];by_cases e:s'=s
  .subst e;rw[if_pos rfl];have h1:=Du hE hj hs;have h2:=Du hE dM qG;rw[<- h1,h2]
  .rw[if_neg e]
   rcases ajR.1 hi with hi | hi
   .exact h.have' i hi dM s' qG
   .obtain rfl:i=j:=by simpa using hi
    rw[hs]at qG;injection qG with qG;exact absurd qG.symm e
 .rw[rR]at hv;by_cases e:s'=s
  .subst e;exact⟨j,hj,ak,hs⟩
  .rw[if_neg e]at hv;obtain⟨i,hi,h1,h2⟩:=h.only s' v hv;exact⟨i,hi,by simp[h1],h2⟩
theorem Xk {E:List (Value×Value)} (hE:ku E) {seen:List Nat} {L:List (Value×Value)} (h:xm E seen L) (dA:∀ j,j < E.length->j∈seen) (s:ByteArray):dW L s=dW E s:=by
 cases he:dW E s with
 | some v=>
  obtain⟨j,hj,h1,h2⟩:=R7 he;rw[h.have' j (dA j hj) hj s h1,h2]
 | none=>
  cases hl:dW L s with
  | none=>rfl
  | some v=>
   obtain⟨j,hj,_,h1⟩:=h.only s v hl;rw[Du hE hj h1]at he;cases he
theorem xE (s:ByteArray):∀ L:List (Value×Value),lO (.string s) (dX L)=(dW L s).map .v
 | []=>rfl
 | (k,x) :: L=>by
  have ih:=xE s L;by_cases hk:k = .string s
  .subst hk;rw[AZ];show ((List.find? _ ((Value.string s,D.v x) :: dX L)).map _)=_;rw[List.find?_cons];simp only[GI];rfl
  .rw[yT _ _ hk,<- ih];show ((List.find? _ ((k,D.v x) :: dX L)).map _)=_;rw[List.find?_cons];simp only[GH hk];rfl
theorem fC (s:ByteArray) (x:Value):∀ L:List (Value×Value),uD (.string s) (.v x) (dX L)=dX (cW L s x)
 | []=>rfl
 | (k,y) :: L=>by
  have ih:=fC s x L;by_cases hk:k = .string s
  .subst hk;rw[He];show (match List.findIdx? _ ((Value.string s,D.v y) :: dX L)with | some j=>_ | none=>_)=_;rw[ak1];simp only[GI,if_true];rfl
  .rw[Hf _ _ _ hk];unfold uD at ih;unfold uD;show (match List.findIdx? _ ((k,D.v y) :: dX L)with | some j=>_ | none=>_)=(k,D.v y) :: dX (cW L s x);rw[ak1,<- ih];simp only[GH hk,ajM,if_false]
   cases List.findIdx? (fun p=>iY (.string s) p.1) (dX L) with
   | none=>rfl
   | some j=>rfl
theorem r9:∀ L:List (Value×Value),nV (dX L)=some L
 | []=>rfl
 | (k,x) :: L=>by
  show (nV (dX L)).map _=_;rw[r9 L];rfl
theorem rQ {L:List (Value×Value)} (h:ku L):∀ p∈dX L,kJ .string p.1=true:=fun p hp=>by
 obtain⟨q,hq,rfl⟩:=akh.1 hp;obtain⟨s,hs⟩:=h.str q hq;show kJ .string q.1=true;rw[hs];rfl
def zA:Option Value->Bool
 | some (.bool b)=>b
 | _=>false
def oC:Option Value->Int
 | some (.int _ n)=>n
 | _=>0
structure iK (p:aS) (s:cL) (I C:List (Value×Value)):Prop where
 mZ:ku I
 iI:ku C
 bI:∀ k v,dW I k=some v->∃ b,v = .bool b
 iC:∀ k v,dW C k=some v->∃ n,v = .int .i64 n
 is:∀ i (hi:i < p.names.length),zA (dW I (bs p.names[i].name))=s.is.getD i false
 ct:∀ i (hi:i < p.names.length),oC (dW C (bs p.names[i].name))=s.ct.getD i 0
theorem WJ {a b:Tx} (h:bs a=bs b):a=b:=by
 have:=congrArg (fun x:ByteArray=>x.data.toList) h;simpa[bs]using this
theorem Su {p:aS} (hg:kS p) {i k:Nat} (hi:i < p.names.length) (hk:k < p.names.length) (h:bs p.names[k].name=bs p.names[i].name):k=i:=by
 have h1:=hg.num i hi;have h2:=hg.num k hk;rw[WJ h]at h2;rw[h1]at h2;omega
theorem aen {p:aS}:iK p (mC p) [] []:=by
 refine⟨LO,LO,fun k v h=>(by cases h),fun k v h=>(by cases h),fun i hi=>?_,fun i hi=>?_⟩
 .show false=(List.replicate _ false).getD i false;rw[vX]
 .show (0:Int)=(List.replicate _ (0:Int)).getD i 0;rw[vX]
theorem w5 {p:aS} (hg:kS p) {s:cL} {I C:List (Value×Value)} (h:iK p s I C) (hl:s.is.length=p.names.length) {i:Nat} (hi:i < p.names.length) (b:Bool):iK p ⟨s.is.set i b,s.ct⟩ (cW I (bs p.names[i].name) (.bool b)) C:=by
 refine⟨A3 _ _ h.mZ,h.iI,fun k v hv=>?_,h.iC,fun k hk=>?_,h.ct⟩
 .rw[rR]at hv;split at hv
  .exact⟨b,(AI hv).symm⟩
  .exact h.bI k v hv
 .rw[rR];show _=(s.is.set i b).getD k false;by_cases e:k=i
  .subst e;rw[if_pos rfl,kb aa];rfl
  .rw[if_neg (fun e2=>e (Su hg hi hk e2)),gw (fun e2=>e e2.symm)];exact h.is k hk
theorem Hk {p:aS} (hg:kS p) {s:cL} {I C:List (Value×Value)} (h:iK p s I C) (hl:s.ct.length=p.names.length) {i:Nat} (hi:i < p.names.length) (n:Int):iK p ⟨s.is,s.ct.set i n⟩ I (cW C (bs p.names[i].name) (.int .i64 n)):=by
 refine⟨h.mZ,A3 _ _ h.iI,h.bI,fun k v hv=>?_,h.is,fun k hk=>?_⟩
 .rw[rR]at hv;split at hv
  .exact⟨n,(AI hv).symm⟩
  .exact h.iC k v hv
 .rw[rR];show _=(s.ct.set i n).getD k 0;by_cases e:k=i
  .subst e;rw[if_pos rfl,kb aa];rfl
  .rw[if_neg (fun e2=>e (Su hg hi hk e2)),gw (fun e2=>e e2.symm)];exact h.ct k hk
theorem aem {p:aS} {s:cL} {I C I2 C2:List (Value×Value)} (h:iK p s I C) (h1:ku I2) (h2:ku C2) (h3:∀ k,dW I2 k=dW I k) (h4:∀ k,dW C2 k=dW C k):iK p s I2 C2:=
 ⟨h1,h2,fun k v hv=>h.bI k v (by rw[<- h3];exact hv),fun k v hv=>h.iC k v (by rw[<- h4];exact hv),fun i hi=>by rw[h3];exact h.is i hi,fun i hi=>by rw[h4];exact h.ct i hi⟩
theorem Tp {p:aS} {s:cL} {I C:List (Value×Value)} (h:iK p s I C) (nm:Tx) (hn:¬ cw p nm < 0):zA (dW I (bs nm))=gW p s.is nm:=by
 obtain⟨k,hk,he,hs⟩:=tu hn
 have qG:p.names[k].name=nm:=by simpa using hs
 have kg:cw p nm=k:=he;unfold gW;rw[kg,ajI,<- h.is k hk,qG]
theorem alS:type_of% (Aq @alC (Aq @alD @alE)):=(Aq @alC (Aq @alD @alE))
theorem ad7 (G:ay) {p:aS} {s:cL} {I C:List (Value×Value)} (h:iK p s I C):rb (fun nm=>¬ cw p nm < 0) G 190 [.ip [.dm false I,.dm false C]] (gW p s.is):=by
 intro nm hn;rw[<- Tp h nm hn];have hg:=xE (bs nm) I;have hb:=h.bI (bs nm);have iO:=rQ h.mZ;simp at iO;have bQ:=eq_true iO;have pQ:=h.mZ.once;simp only[dS];generalize bs nm=k at *
 cases hl:dW I k with
 | none=>
  rw[hl]at hg;simp only[Option.map_none]at hg;refine aD.aQ (aC _) func190 rfl rfl (rs:=[.tmp 3]) results190 (by simp[ntmps190]) fun X=>?_;simp only[ntmps190,List.map];refine aB [0,1] [] ?_;have qf:=(Aq @bQ (Aq @pQ (Aq @hg alS)));refine au [3] [] ?_;refine bT ?_;simp[D.le,D.le.go,aR,zA]
 | some v=>
  obtain⟨b,rfl⟩:=hb v hl;rw[hl]at hg;simp only[akb]at hg;refine aD.aQ (aC _) func190 rfl rfl (rs:=[.tmp 3]) results190 (by simp[ntmps190]) fun X=>?_;simp only[ntmps190,List.map];refine aB [0,1] [] ?_;have qf:=(Aq @bQ (Aq @pQ (Aq @hg alS)));refine au [3] [] ?_;refine bT ?_;simp[D.le,D.le.go,aR,zA]
theorem ad8 (G:ay) {p:aS} {s:cL} {I C:List (Value×Value)} (h:iK p s I C):rb (fun nm=>¬ cw p nm < 0) G 191 [.ip [.dm false I,.dm false C]] (gW p s.is):=by
 intro nm hn;rw[<- Tp h nm hn];have hg:=xE (bs nm) I;have hb:=h.bI (bs nm);have iO:=rQ h.mZ;simp at iO;have bQ:=eq_true iO;have pQ:=h.mZ.once;simp only[dS];generalize bs nm=k at *
 cases hl:dW I k with
 | none=>
  rw[hl]at hg;simp only[Option.map_none]at hg;refine aD.aQ (aC _) func191 rfl rfl (rs:=[.tmp 3]) results191 (by simp[ntmps191]) fun X=>?_;simp only[ntmps191,List.map];refine aB [0,1] [] ?_;have qf:=(Aq @bQ (Aq @pQ (Aq @hg alS)));refine au [3] [] ?_;refine bT ?_;simp[D.le,D.le.go,aR,zA]
 | some v=>
  obtain⟨b,rfl⟩:=hb v hl;rw[hl]at hg;simp only[akb]at hg;refine aD.aQ (aC _) func191 rfl rfl (rs:=[.tmp 3]) results191 (by simp[ntmps191]) fun X=>?_;simp only[ntmps191,List.map];refine aB [0,1] [] ?_;have qf:=(Aq @bQ (Aq @pQ (Aq @hg alS)));refine au [3] [] ?_;refine bT ?_;simp[D.le,D.le.go,aR,zA]
theorem TZ (G:ay):MC prog G [] 189 [] (aq []) (.agg [.mp 601,.mp 602]) (aq [(601,.mp 201 []),(602,.mp 217 [])]):=by
 refine MC.aQ (aC _) func189 rfl rfl (rs:=[.cell 0 219]) results189 (by simp[ntmps189]) rfl fun X=>?_;simp only[ntmps189];refine aB [0] [0] ?_;refine aB [0] [0,1,2] ?_;refine AW.imp (aM.dI (r:=1) (r':=601) bF ak) ?_;refine AW.st (by simp[ik,ij,Go.Av.dI,qU];rfl) ?_;refine AW.imp (aM.dI (r:=2) (r':=602) bF ak) ?_;refine AW.st (by simp[ik,ij,Go.Av.dI,qU];rfl) ?_;exact gn
def yU (p:aS) (cH:List Bool) (I:List (Value×Value)):Nat->List (Value×Value)
 | 0=>I
 | k+1=>cW (yU p cH I k) (bs (p.names.getD ((bA p).getD k 0).toNat ⟨[],0,0⟩).name) (.bool (cH.getD k false))
abbrev nT:=List (Value×Value)×List (Value×Value)
def wP (p:aS) (yes:Bool) (r:jd) (m:nT):nT:=
 let k:=bs r.name
 let top:=(p.names.getD (cw p r.name).toNat ⟨[],0,0⟩).count
 if r.kind=1 then (cW m.1 k (.bool yes),m.2)
 else if r.kind=2 then (if yes then cW m.1 k (.bool true) else m.1,m.2)
 else if r.kind=3 then (if yes then cW m.1 k (.bool false) else m.1,m.2)
 else if r.kind=6 then (if yes then (cW m.1 k (.bool false),cW m.2 k (.int .i64 0)) else m)
 else
  let c:=oC (dW m.2 k)
  let C1:=if yes then (if c < top then cW m.2 k (.int .i64 (c+1)) else m.2) else (if r.kind=4 then cW m.2 k (.int .i64 0) else m.2)
  (cW m.1 k (.bool (oC (dW C1 k) == top)),C1)
def wQ (p:aS) (fF t:cL):List jd->nT->nT
 | [],m=>m
 | r :: l,m=>wQ p fF (mz p fF t r) l (wP p (sU (gW p t.is) (gW p fF.is) r.cond) r m)
def A6 (p:aS) (s:cL) (cH:List Bool) (m:nT):nT:=wQ p s ⟨nK (bA p) cH s.is (bA p).length,s.ct⟩ p.ax (yU p cH m.1 (bA p).length,m.2)
theorem Sh (p:aS) (fF:cL):∀ (l:List jd) (t:cL) (m:nT) (n:Nat) (h:n < l.length),wQ p fF t (l.take (n+1)) m=wP p (sU (gW p ((l.take n).foldl (mz p fF) t).is) (gW p fF.is) l[n].cond) l[n] (wQ p fF t (l.take n) m)
 | r :: l,t,m,0,_=>rfl
 | r :: l,t,m,n+1,h=>by
  have:=Sh p fF l (mz p fF t r) (wP p (sU (gW p t.is) (gW p fF.is) r.cond) r m) n (by simpa using h);simp only[List.take_succ_cons,wQ,List.foldl_cons,List.getElem_cons_succ];exact this
theorem LW {p:aS} (hg:kS p) {s:cL} (hs:fV p s) (cH:List Bool) {I C:List (Value×Value)} (h:iK p s I C):∀ k,k<=(bA p).length->iK p ⟨nK (bA p) cH s.is k,s.ct⟩ (yU p cH I k) C
 | 0,_=>h
 | k+1,hk=>by
  have ih:=LW hg hs cH h k aa;obtain⟨i,hi,he,_⟩:=AP (p:=p) (j:=k) aa
  have e1:(bA p).getD k 0=(i:Int):=by rw[dV aa];exact he
  have e2:p.names.getD i ⟨[],0,0⟩=p.names[i]:=dV hi;rw[yU,e1,ajI,e2,MD aa he];exact w5 hg ih (y3 cH hs k aa).1.l1 hi _
theorem MV {α:Type} {l:List α} {i:Nat} {d x:α} (hi:i < l.length) (h:l.getD i d=x):l.set i x=l:=by
 rw[dV hi]at h;rw[<- h,List.set_getElem_self]
theorem acG {p:aS} (bn:c8 p=none) {r:jd} (hr:r∈p.ax) (fF:cL) {t:cL} (ht:fV p t) {m:nT} (h:iK p t m.1 m.2):iK p (mz p fF t r) (wP p (sU (gW p t.is) (gW p fF.is) r.cond) r m).1 (wP p (sU (gW p t.is) (gW p fF.is) r.cond) r m).2:=by
 have hg:=iB bn;obtain⟨i,hi,hn,hw,hd⟩:=Hs bn hr;obtain⟨hk,gA,_⟩:=xy bn r hr;obtain⟨i2,gJ,lR,fi⟩:=tu gA
 have iF:r.name=p.names[i].name:=by
  have h1:cw p r.name=(i2:Int):=lR
  have:i2=i:=aa
  subst this
  have:p.names[i2].name=r.name:=by simpa using fi
  exact this.symm
 have kG:=ht.l1;have kH:=ht.l2;have ye:=ht.lo i;have Ao:=ht.hi i hi;have his:=h.is i hi;have FN:=h.ct i hi;have lQ:=hg.count _ (By hi);unfold wP mz;simp only[hn,ajI,hd];generalize sU (gW p t.is) (gW p fF.is) r.cond=yes;obtain⟨kd,nm,cd⟩:=r;dsimp only at iF hk hw hn ⊢;subst iF;clear gA lR fi hr hn;obtain⟨is,ct⟩:=t;obtain⟨I,C⟩:=m;dsimp only at his FN kG kH ye Ao h ⊢
 have gx:i < is.length:=aa
 have gJ:i < ct.length:=aa
 generalize hv:ct.getD i 0=v at *;have QS:ct.set i v=ct:=MV gJ hv
 have put:∀ n,oC (dW (cW C (bs p.names[i].name) (.int .i64 n)) (bs p.names[i].name))=n:=fun n=>by rw[rR,if_pos rfl];rfl
 have fin:∀ (c:Int) (C1:List (Value×Value)),iK p ⟨is,ct.set i c⟩ I C1->oC (dW C1 (bs p.names[i].name))=c->∀ b,(c == p.names[i].count)=b->iK p ⟨is.set i b,ct.set i c⟩ (cW I (bs p.names[i].name) (.bool (oC (dW C1 (bs p.names[i].name)) == p.names[i].count))) C1:=fun c C1 h1 h2 b h3=>by
  rw[h2,h3];exact w5 (s:=⟨is,ct.set i c⟩) hg h1 kG hi b
 have CJ:kd=1\/kd=2\/kd=3\/kd=4\/kd=5\/kd=6:=aa
 have run:(kd=4\/kd=5)->∀ C1,C1=(if yes then (if oC (dW C (bs p.names[i].name)) < p.names[i].count then cW C (bs p.names[i].name) (.int .i64 (oC (dW C (bs p.names[i].name))+1)) else C) else C)->iK p (iJ ⟨is,ct⟩ i p.names[i].count yes) (cW I (bs p.names[i].name) (.bool (oC (dW C1 (bs p.names[i].name)) == p.names[i].count))) C1:=fun gZ C1 v7=>by
  have iQ:1<=p.names[i].count:=by
   have:p.names[i].kind=3\/p.names[i].kind=4:=by
    rcases gZ with rfl | rfl
    .exact .inl hw
    .exact .inr hw
   omega
  rw[FN]at v7;unfold iJ;simp only[hv]
  cases yes with
  | true=>
   simp only[if_true]at v7 ⊢;by_cases aH:v < p.names[i].count
   .rw[if_pos aH]at v7
    have e:(if v+1 < p.names[i].count then v+1 else p.names[i].count)=v+1:=by split<;>omega
    rw[e,v7];refine fin (v+1) _ (Hk hg h kH hi _) (put _) _ ?_;exact Bool.eq_iff_iff.2 (by simp;omega)
   .rw[if_neg aH]at v7
    have e:(if v+1 < p.names[i].count then v+1 else p.names[i].count)=v:=by split<;>omega
    rw[e,v7];refine fin v C (by rw[QS];exact h) FN _ ?_;exact Bool.eq_iff_iff.2 (by simp;omega)
  | false=>
   simp only[ajM,if_false]at v7 ⊢;rw[v7];refine fin v C (by rw[QS];exact h) FN _ ?_;exact Bool.eq_iff_iff.2 (by simp;omega)
 rcases CJ with rfl | rfl | rfl | rfl | rfl | rfl
 .exact w5 hg h kG hi yes
 .cases yes with
  | true=>
   show iK p ⟨is.set i (is.getD i false || true),ct⟩ (cW I _ (.bool true)) C;rw[Bool.or_true];exact w5 hg h kG hi true
  | false=>
   show iK p ⟨is.set i (is.getD i false || false),ct⟩ I C;rw[Bool.or_false,MV gx rfl];exact h
 .cases yes with
  | true=>
   show iK p ⟨is.set i (is.getD i false && !true),ct⟩ (cW I _ (.bool false)) C;rw[Bool.not_true,Bool.and_false];exact w5 hg h kG hi false
  | false=>
   show iK p ⟨is.set i (is.getD i false && !false),ct⟩ I C;rw[akG,Bool.and_true,MV gx rfl];exact h
 .cases yes with
  | true=>exact run (.inl rfl) _ rfl
  | false=>
   show iK p (tX (iJ ⟨is,ct⟩ i p.names[i].count false) i) (cW I _ (.bool (oC (dW (cW C _ (.int .i64 0)) _) == p.names[i].count))) (cW C _ (.int .i64 0))
   have iQ:1<=p.names[i].count:=by
    have:p.names[i].kind=3:=hw;omega
   have e:tX (iJ ⟨is,ct⟩ i p.names[i].count false) i=⟨is.set i false,ct.set i 0⟩:=by
    simp[tX,iJ,List.set_set]
   rw[e];refine fin 0 _ (Hk hg h kH hi _) (put _) false ?_;simp;omega
 .cases yes with
  | true=>exact run (.inr rfl) _ rfl
  | false=>exact run (.inr rfl) _ rfl
 .cases yes with
  | true=>exact Hk (s:=⟨is.set i false,ct⟩) hg (w5 hg h kG hi false) kH hi 0
  | false=>exact h
theorem LX {p:aS} (bn:c8 p=none) (fF:cL):∀ (l:List jd) {t:cL} {m:nT},(∀ r∈l,r∈p.ax)->fV p t->iK p t m.1 m.2->iK p (l.foldl (mz p fF) t) (wQ p fF t l m).1 (wQ p fF t l m).2
 | [],t,m,_,_,h=>h
 | r :: l,t,m,hl,ht,h=>LX bn fF l (fun r hr=>hl r (by simp[hr])) (Uh bn (hl r ak) fF ht).1 (acG bn (hl r ak) fF ht h)
theorem acJ {p:aS} (bn:c8 p=none) {s:cL} (hs:fV p s) (cH:List Bool) {m:nT} (h:iK p s m.1 m.2):iK p (rm p s cH) (A6 p s cH m).1 (A6 p s cH m).2:=
 LX bn s p.ax (fun r hr=>hr) (y3 cH hs _ (ajJ _)).1 (LW (iB bn) hs cH h _ (ajJ _))
theorem VO (y:Int):(pA .and .i64 y 1 == 1)=decide (y % 2=1):=by
 unfold pA;dsimp only
 have h2:(BitVec.ofInt 64 (1:Int)).toNat=1:=bF
 have h3:(BitVec.ofInt IntKind.i64.bits y &&& BitVec.ofInt IntKind.i64.bits (1:Int)).toNat=(y % 2).toNat:=by
  show (BitVec.ofInt 64 y &&& BitVec.ofInt 64 (1:Int)).toNat=(y % 2).toNat
  rw[BitVec.toNat_and,h2,Nat.and_one_is_mod,BitVec.toNat_ofInt];omega
 rw[h3]
 have:y % 2=0\/y % 2=1:=aa
 rcases this with h | h<;>rw[h]<;>decide
theorem aa7 (x:Int) {k:Nat} (hk:k<=6):Dl x k=decide ((x / 2 ^ k) % 2=1):=by
 unfold Dl
 have e:min k IntKind.i64.bits=k:=by
  have:IntKind.i64.bits=64:=rfl;rw[this];omega
 rw[e,Int.fdiv_eq_ediv_of_nonneg _ (by exact ak6 (Int.pow_pos bF)),VO]
theorem Zx (x:Int) (k:Nat):x / 2 ^ (k+1)=x / 2 ^ k / 2:=by
 rw[Int.pow_succ,Int.ediv_ediv_of_nonneg (by exact ak6 (Int.pow_pos bF))]
def GS (p:aS) (x:Int×nT) (nm:gV):Int×nT:=if dh p nm=0 then x else
 (x.1 / dh p nm,if 3<=nm.kind then (cW x.2.1 (bs nm.name) (.bool (decide (x.1 % dh p nm=nm.count))),cW x.2.2 (bs nm.name) (.int .i64 (x.1 % dh p nm))) else (cW x.2.1 (bs nm.name) (.bool (decide (x.1 % dh p nm=1))),x.2.2))
def nI (p:aS) (n:Int) (k:Nat):Int×nT:=(p.names.take k).foldl (GS p) (n,([],[]))
theorem acI (p:aS) (n:Int):nI p n 0=(n,([],[])):=rfl
theorem Si {p:aS} (n:Int) {k:Nat} (h:k < p.names.length):nI p n (k+1)=GS p (nI p n k) p.names[k]:=by
 unfold nI;rw[ajO h,List.foldl_append];rfl
theorem wY {p:aS} (hg:kS p) {i:Nat} (hi:i < p.names.length):0<=dh p p.names[i]:=by
 have h5:=hg.count _ (By hi);unfold dh;split
 .rcases h5 with h5 | h5<;>omega
 .split
  .omega
  .split<;>omega
theorem LY {p:aS} (bn:c8 p=none) (n:Int) (h0:0<=n):∀ k,k<=p.names.length->∃ s:cL,s.is.length=p.names.length/\s.ct.length=p.names.length/\iK p s (nI p n k).2.1 (nI p n k).2.2/\qX (jB p k) (nI p n k).1 s=pt p n/\0<=(nI p n k).1/\(nI p n k).1<=n
 | 0,_=>⟨mC p,by simp[mC],by simp[mC],aen,rfl,h0,als _⟩
 | k+1,hk=>by
  have hg:=iB bn
  have gy:k < p.names.length:=aa
  obtain⟨s,l1,l2,hr,he,b0,b1⟩:=LY bn n h0 k aa;rw[Si n gy];rw[agU hg _ s gy]at he;have wA:=wY hg gy;generalize nI p n k=x at *;obtain⟨m,I,C⟩:=x;dsimp only at hr he b0 b1;unfold GS;by_cases hz:dh p p.names[k]=0
  .rw[if_pos hz]at he;simp only[if_pos hz];exact⟨s,l1,l2,hr,he,b0,b1⟩
  .rw[if_neg hz]at he;simp only[if_neg hz];have d0:0<=m / dh p p.names[k]:=Int.ediv_nonneg b0 wA;have d1:m / dh p p.names[k]<=m:=Int.ediv_le_self _ b0;by_cases k3:3<=p.names[k].kind
   .simp only[if_pos k3]
    have hpK:dh p p.names[k]=p.names[k].count+1:=by unfold dh;rw[if_pos k3]
    have h1:=Hk hg hr l2 gy (m % dh p p.names[k]);have h2:=w5 hg h1 l1 gy (decide (m % dh p p.names[k]=p.names[k].count))
    have e:tL ⟨k,dh p p.names[k],decide (3<=p.names[k].kind)⟩ (m % dh p p.names[k]) s=⟨s.is.set k (decide (m % dh p p.names[k]=p.names[k].count)),s.ct.set k (m % dh p p.names[k])⟩:=by
     unfold tL
     have e2:dh p p.names[k] - 1=p.names[k].count:=aa
     simp only[decide_eq_true k3,if_true,e2]
    rw[e]at he;exact⟨_,by simp[l1],by simp[l2],h2,he,d0,aa⟩
   .simp only[if_neg k3];have h2:=w5 hg hr l1 gy (decide (m % dh p p.names[k]=1))
    have e:tL ⟨k,dh p p.names[k],decide (3<=p.names[k].kind)⟩ (m % dh p p.names[k]) s=⟨s.is.set k (decide (m % dh p p.names[k]=1)),s.ct⟩:=by
     unfold tL;simp only[decide_eq_false k3,ajM,if_false]
    rw[e]at he;exact⟨⟨s.is.set k (decide (m % dh p p.names[k]=1)),s.ct⟩,by simp[l1],l2,h2,he,d0,aa⟩
theorem acH {p:aS} (bn:c8 p=none) (n:Int) (h0:0<=n):iK p (pt p n) (nI p n p.names.length).2.1 (nI p n p.names.length).2.2:=by
 obtain⟨s,_,_,hr,he,_⟩:=LY bn n h0 _ (ajJ _);rw[Um]at he;have e:s=pt p n:=he;rw[<- e];exact hr
theorem M1 {p:aS} (bn:c8 p=none) {s:cL} (hs:fV p s) (k:Nat):0<=gF (jB p k) s/\gF (jB p k) s < bZ (bO p):=by
 have hg:=iB bn;have h:=G1 (l:=jB p k) (s:=s) fun _ hx=>IV hs (nJ hg (Un hx))
 have e:bZ (bO p)=bZ ((bO p).take (gQ p k).length) * bZ (jB p k):=by
  unfold jB;rw[<- DW,ale]
 have h1:0 < bZ ((bO p).take (gQ p k).length):=oJ fun x hx=>(nJ hg (ajS hx)).m2;have h2:0 < bZ (jB p k):=oJ fun x hx=>(nJ hg (Un hx)).m2;have h3:=Int.mul_le_mul_of_nonneg_right (show (1:Int)<=bZ ((bO p).take (gQ p k).length) by omega) (ak6 h2);rw[Int.one_mul]at h3;exact⟨h.1,aa⟩
theorem aib {p:aS} (bn:c8 p=none) {s:cL} (hs:fV p s) {i:Nat} (hi:i < p.names.length) (hP:bZ (bO p)<=4096) (hz:dh p p.names[i]≠0):0<=gF (jB p (i+1)) s * dh p p.names[i]/\gF (jB p (i+1)) s * dh p p.names[i]<=4096/\gF (jB p i) s=gF (jB p (i+1)) s * dh p p.names[i]+(if 3<=p.names[i].kind then s.ct.getD i 0 else if s.is.getD i false then 1 else 0):=by
 have hg:=iB bn;have h1:=Uo hg s hi;rw[if_neg hz,Int.mul_comm]at h1;have h2:=M1 bn hs i;have h3:=M1 bn hs (i+1);have h4:=alr h3.1 (wY hg hi)
 have h5:0<=(if 3<=p.names[i].kind then s.ct.getD i 0 else if s.is.getD i false then 1 else 0):=by
  split
  .exact hs.lo i
  .split<;>omega
 generalize (if 3<=p.names[i].kind then s.ct.getD i 0 else if s.is.getD i false then 1 else 0)=d at *;exact⟨h4,aa,aa⟩
def DL (R:List Nat) (q off n:Nat):AV:=if R.contains q then .dead else .own q off n
def DK (R:List Nat) (q e j:Nat):AV:=if R.contains q then .dead else .ref q e j
theorem aa6 {Mv X:Nat->Prop} {G:ay} {N:Fr} {σ:St} (R:List Nat) (hm:∀ r,R.contains r=true->Mv r) (i k:Nat) {x:AV} {d:D} (hx:σ.env i=some x) (hd:fW (eM R.contains (fA R) (fy R) σ.H) k (x.tr (fA R) (fy R))=some d):aM Mv X G N σ ⟨gS (lK (DL R) (DK R) σ.env) i (.d d),eM (fT R) (DL R) (DK R) σ.H⟩:=fun w μ a hi=>by
 have hp:=hi.bq.part R
 have h':=hi.tr (keep:=fT R) (o:=DL R) (f:=DK R) (fun u r off n h=>by
   unfold DL;split
   .exact .dead u
   .rename_i hk;exact h.Bi (by simpa[fT]using hk)) (fun u r e j h=>by
   unfold DK;split
   .exact .dead u
   .rename_i hk;exact h.Bm (by simpa[fT]using hk))
 obtain⟨u,hu,hr⟩:=hi.env.slot i x hx;have bY:RD w (XX X (cC (fT R) μ)) u d:=Ez hp.1 k hd (hp.2 hr);refine⟨cC (fT R) μ,⟨h'.bq,⟨h'.env.defers,h'.env.size,fun q y hy=>?_⟩,h'.jf⟩,xH fun r _ _ h=>hm r (by simpa[fT]using h)⟩;by_cases e:q=i
 .subst e
  have e2:some (AV.d d)=some y:=by simpa[gS]using hy
  obtain rfl:=AI e2;exact⟨u,hu,.d bY⟩
 .exact h'.env.slot q y (by simpa[gS,e]using hy)
def uq (p:aS) (st gN:Int) (nx:List (List D)):List D:=[cE p.names,.sl none (p.ax.map eo),.v (.int .i64 st),.v (.int .i64 gN),.sl none nx]
def sP (p:aS) (st gN:Int) (nx:List (List D)):D:=.ip (uq p st gN nx)
def tI (p:aS) (st gN:Int) (nx:List (List D)):List (Nat×Row):=[(12,.box 99 [.d (cE p.names),.d (.sl none (p.ax.map eo)),.d (.v (.int .i64 st)),.d (.v (.int .i64 gN)),.own 800 0 nx.length]),(800,.sl 41 1 nx)]
def BW (m:nT):D:=.agg [.dm false m.1,.dm false m.2]
theorem ah8 (G:ay) (p:aS) (bn:c8 p=none) (st gN:Int) (nx:List (List D)) (x:Int) (h0:0<=x) (h1:x<=2^40) (hm6:(bA p).length<=6):MC prog G [12,800] 120 [.ref 12 0 0,.d (ab x)] (aq (tI p st gN nx)) (.d (mG (iu x (bA p).length))) (aq (tI p st gN nx)):=by
 have iF:=(iB bn).names;have gZ:=HP G p aa 1;have oX:jQ p.names 1 p.names.length=bA p:=rfl;rw[oX]at gZ;simp only[eF,gr,cE]at gZ;simp only[tI,cE,ab,mG]
 have pE:((bA p).map fun n=>[D.v (.int .i64 n)]).length=(bA p).length:=ak
 generalize (bA p).length=m at *;generalize (bA p).map (fun n=>[D.v (.int .i64 n)])=IN at *;generalize p.names.map bw=NN at *;generalize p.ax.map eo=RR at *;refine MC.aQ (aC _) func120 rfl rfl (rs:=[.tmp 4]) results120 (by simp[ntmps120]) rfl fun X=>?_;simp only[ntmps120];have fw:=@alv;refine ae fw [0,1] [12,800] ?_;refine ae fw [0,1,5] [12,800] ?_;refine ag fun K1 aF=>br fw gZ [1,5,11,12] [12,800] ?_;refine cG (S:=Nat×Int) (fun s=>s.1<=m/\0<=s.2/\s.2<=2^40/\s.2=x / 2 ^ s.1) (fun s=>⟨bp [(1,int s.2),(5,.own 901 0 s.1),(11,int m),(12,int s.1)],aq [(12,.box 99 [.d (.sl none NN),.d (.sl none RR),.d (.v (.int .i64 st)),.d (.v (.int .i64 gN)),.own 800 0 nx.length]),(800,.sl 41 1 nx),(901,.sl 4 1 ((iu x s.1).map fun b=>[.v (.bool b)]))]⟩) (fun s=>m - s.1) (0,x) ?_ ⟨ak,h0,h1,ak⟩ ?_
 .refine (aM.nU 5 901 4 1 rfl rfl).trans ?_;refine bt (Aq fw (Aq @iu.eq_1 (Aq @iu.eq_2 @pE)))
 .rintro⟨k,v⟩ ⟨F0,js,jO,hv⟩;dsimp only at F0 js jO hv ⊢
  have sZ:((iu x k).map fun b=>[D.v (.bool b)]).length=k:=by simp[Dm]
  have Cc:iu x (k+1)=iu x k ++ [decide (v % 2=1)]:=by rw[hv,<- aa7 x aa];rfl
  generalize jn:iu x k=B at sZ Cc ⊢;refine ae fw [1,5,11,12,13] [12,800,901] ?_;refine ag fun K2 aw=>fG (b:=k < m) (by simp[D.le,D.le.go,aR,ab]) (fun hc=>?_) (fun hc=>?_)
  .have pP:v.tmod 2=v % 2:=Int.tmod_eq_emod_of_nonneg js
   have hdiv:IntKind.i64.wrap (v.tdiv 2)=v / 2:=by
    rw[Int.tdiv_eq_ediv_of_nonneg js];exact HX aa
   refine ar (aw _ (ag fun K3 aZ=>bg (rg [1,5,11,12] [12,800,901] (ew rfl) fun K' ao=>?_)));(repeat refine aK fun Kq af=>?_;simp[ab,sZ,sh,pP];(repeat refine⟨aa,?_⟩);refine af _ ?_);refine bJ (ao _ (AW.st (by simp[ab,sZ,sh,pP];rfl) ?_));have qf:=(Aq fw @hdiv);refine e6 aZ [1,5,11,12] [12,800,901] ?_;refine cD fw ?_;(try simp only[aV,aX]);refine bh.mk (k+1,v / 2) ⟨by dsimp only;omega,by dsimp only;omega,by dsimp only;omega,by dsimp only;rw[Zx,<- hv]⟩ (by dsimp only;omega) ?_;rw[Cc];refine bt fw
  .obtain rfl:k=m:=aa
   refine b5 (aF _ ?_);rw[jn];refine AW.imp (aM.freeze 901 bF) ?_;refine AW.st (by simp[ab,sZ,sh];rfl) ?_;refine ae fw [4] [12,800] ?_;exact aU fw
theorem aic (G:ay) (hM:k9 G) (p:aS) (bn:c8 p=none) (hk:∀ r∈p.ax,qj r) (st gN:Int) (nx:List (List D)) (s:cL) (hs:fV p s) (hP:bZ (bO p)<=4096) (I C:List (Value×Value)) (hr:iK p s I C):MC prog G [12,800] 188 [.ref 12 0 0,.d (BW (I,C))] (aq (tI p st gN nx)) (.d (ab (gF (bO p) s))) (aq (tI p st gN nx)):=by
 have hg:=iB bn;have iF:=hg.names;have nF:=Hr G hM p bn hk;simp only[eF,gr,cE,fI]at nF;have mZ:=hr.mZ;have iI:=hr.iI;have iO:=rQ mZ;simp at iO;have bQ:=eq_true iO;have fP:=rQ iI;simp at fP;have eG:=eq_true fP;have DE:=mZ.once;have DF:=iI.once
 have oS:∀ i (hi:i < p.names.length),(lO (.string (bs p.names[i].name)) (dX I)=none/\s.is.getD i false=false)\/lO (.string (bs p.names[i].name)) (dX I)=some (.v (.bool (s.is.getD i false))):=fun i hi=>by
  rw[xE,<- hr.is i hi]
  cases h:dW I (bs p.names[i].name) with
  | none=>exact .inl ⟨rfl,rfl⟩
  | some v=>obtain⟨b,rfl⟩:=hr.bI _ v h;exact .inr rfl
 have YP:∀ i (hi:i < p.names.length),(lO (.string (bs p.names[i].name)) (dX C)=none/\s.ct.getD i 0=0)\/lO (.string (bs p.names[i].name)) (dX C)=some (.v (.int .i64 (s.ct.getD i 0))):=fun i hi=>by
  rw[xE,<- hr.ct i hi]
  cases h:dW C (bs p.names[i].name) with
  | none=>exact .inl ⟨rfl,rfl⟩
  | some v=>obtain⟨b,rfl⟩:=hr.iC _ v h;exact .inr rfl
 have KO:=fun k=>M1 bn hs k;have QH:=fun i (hi:i < p.names.length)=>Uo hg s hi;have jq:=fun i (hi:i < p.names.length)=>aib bn hs hi hP
 have eK:(fM p).length=p.names.length:=by simp[fM]
 have uL:∀ i (hi:i < p.names.length),(fM p)[i]? = some (dh p p.names[i]):=fun i hi=>by simp[fM,hi]
 have lY:gF (jB p 0) s=gF (bO p) s:=by rw[agE]
 have wK:gF (jB p p.names.length) s=0:=by rw[Um];rfl
 rw[<- lY];clear lY;generalize fM p=RP at *;obtain⟨V,hV⟩:∃ V:Nat->Int,∀ k,gF (jB p k) s=V k:=⟨_,fun _=>rfl⟩;simp only[hV]at KO QH jq wK ⊢;clear hV hr mZ iI iO fP;simp only[tI,cE,ab,BW]
 have oT:(p.names.map bw).length=p.names.length:=ak
 have kc:∀ i (h:i < p.names.length),(p.names.map bw)[i]? = some [.v (.string (bs p.names[i].name)),.v (.int .i64 p.names[i].kind),.v (.int .i64 p.names[i].count)]:=fun i h=>by simp[h,bw,dS]
 generalize p.names.map bw=NN at *;generalize p.ax.map eo=RR at *;refine MC.aQ (aC _) func188 rfl rfl (rs:=[.tmp 4]) results188 (by simp[ntmps188]) rfl fun X=>?_;simp only[ntmps188];have fw:=@alv;refine ae fw [0,3] [12,800,3] ?_;refine dT fw 3 ?_;refine ae fw [0,3,5] [12,800] ?_;refine br fw nF [0,3,5,6] [12,800] ?_;refine ag fun K1 aF=>ae fw [0,3,5,6,7] [12,800] ?_;refine cG (S:=Nat) (fun k=>k<=p.names.length) (fun k=>⟨bp [(0,.ref 12 0 0),(3,.d (.ip [.dm false I,.dm false C])),(5,int (V k)),(6,.d (.sl none (RP.map fun x=>[.v (.int .i64 x)]))),(7,int ((k:Int) - 1))],aq [(12,.box 99 [.d (.sl none NN),.d (.sl none RR),.d (.v (.int .i64 st)),.d (.v (.int .i64 gN)),.own 800 0 nx.length]),(800,.sl 41 1 nx)]⟩) (fun k=>k) p.names.length ?_ (ajJ _) ?_
 .rw[wK];refine bt (Aq fw @eK)
 .intro k hk;refine ag fun K2 aw=>?_;have pV:=KO k
  cases k with
  | zero=>
   refine ae fw [0,3,5,6,7,18] [12,800] ?_;refine b9 ak ?_;refine b5 (aF _ (ae fw [4] [12,800] ?_));exact aU fw
  | succ i=>
   have hi:i < p.names.length:=aa
   have ei:((i+1:Nat):Int) - 1=(i:Int):=aa
   rw[ei];refine ae fw [0,3,5,6,7,18] [12,800] ?_;refine b8 ak ?_;refine ar (aw _ (ag fun K3 aZ=>bg ?_))
   have eD:i < NN.length:=aa
   have xP:NN[i]=[.v (.string (bs p.names[i].name)),.v (.int .i64 p.names[i].kind),.v (.int .i64 p.names[i].count)]:=by
    have:=kc i hi;rw[AT eD]at this;exact AI this
   have rD:i < RP.length:=aa
   have jK:RP[i]=dh p p.names[i]:=by
    have:=uL i hi;rw[AT rD]at this;exact AI this
   have hz:=QH i hi;have hn:=jq i hi;have xL:=oS i hi;have Jl:=YP i hi;generalize bs p.names[i].name=nm at xP xL Jl;generalize p.names[i].kind=kd at xP hz hn;generalize p.names[i].count=ct at xP;generalize dh p p.names[i]=K at jK hz hn;generalize s.is.getD i false=b at xL hz hn;generalize s.ct.getD i 0=c at Jl hz hn;generalize V (i+1)=v at hz hn pV ⊢;have nG:=KO i;generalize Ae:V i=vi at hz hn nG;have qf:=(Aq fw (Aq @eD @xP));refine au [0,3,5,6,7,8] [12,800,8] ?_;refine dT fw 8 ?_;refine ag fun K4 cr=>?_;by_cases ru:K=0
   .rw[if_pos ru]at hz;have qf:=(Aq fw (Aq @rD (Aq @jK @ru)));refine au [0,3,5,6,7,8,33] [12,800] ?_;refine b8 (by simp[ru]) (b5 (aZ _ ?_));refine cD fw ?_;(try simp only[aV,aX]);refine bh.mk i aa aa ?_;rw[Ae,hz];refine bt fw
   .clear hz;obtain⟨n1,n2,n3⟩:=hn ru;have qf:=(Aq fw (Aq @rD (Aq @jK @ru)));refine au [0,3,5,6,7,8,33] [12,800] ?_;refine b9 (by simp[ru]) (ar (cr _ ?_));have qf:=(Aq fw (Aq @rD @jK));refine au [0,3,5,6,7,8] [12,800] ?_;generalize v * K=w at n1 n2 n3 ⊢;by_cases k3:kd >= 3
    .rw[if_pos k3]at n3;have qf:=(Aq fw @k3);refine au [0,3,5,6,7,8,42] [12,800] ?_;refine b8 (by simp<;>omega) ?_
     rcases Jl with⟨h2,rfl⟩ | h2
     .have qf:=(Aq fw (Aq @h2 (Aq @bQ (Aq @eG (Aq @DE (Aq @DF alS))))));refine e6 aZ [0,3,5,6,7] [12,800] ?_;refine cD fw ?_;(try simp only[aV,aX]);refine bh.mk i aa aa ?_;rw[Ae,n3];refine bt fw
     .have qf:=(Aq fw (Aq @h2 (Aq @bQ (Aq @eG (Aq @DE (Aq @DF alS))))));refine e6 aZ [0,3,5,6,7] [12,800] ?_;refine cD fw ?_;(try simp only[aV,aX]);refine bh.mk i aa aa ?_;rw[Ae,n3];refine bt fw
    .rw[if_neg aa]at n3;have qf:=(Aq fw @k3);refine au [0,3,5,6,7,8,42] [12,800] ?_;refine b9 (by simp<;>omega) ?_;have YS:∃ ob,lO (.string nm) (dX I)=ob/\((ob=none/\b=false)\/ob=some (.v (.bool b))):=⟨_,rfl,xL⟩;clear xL;obtain⟨ob,h2,xL⟩:=YS
     cases b with
     | true=>
      obtain rfl:ob=some (.v (.bool true)):=xL.elim (fun h=>by cases h.2) id;have qf:=(Aq fw (Aq @h2 (Aq @bQ (Aq @eG (Aq @DE (Aq @DF alS))))));refine au [0,3,5,6,7,54] [12,800] ?_;refine aJ ?_;rw[if_pos rfl]at n3;refine gR fw aZ [0,3,5,6,7] [12,800] ?_;refine cD fw ?_;(try simp only[aV,aX]);refine bh.mk i aa aa ?_;rw[Ae,n3];refine bt fw
     | false=>
      rw[if_neg ak,Int.add_zero]at n3
      rcases xL with⟨rfl,_⟩ | rfl
      .have qf:=(Aq fw (Aq @h2 (Aq @bQ (Aq @eG (Aq @DE (Aq @DF alS))))));refine au [0,3,5,6,7,54] [12,800] ?_;refine al (ar ?_);refine aZ _ (AW.norm [0,3,5,6,7] [12,800] (ew rfl) (AW.st (by simp[ab];rfl) ?_));refine cD fw ?_;(try simp only[aV,aX]);refine bh.mk i aa aa ?_;rw[Ae,n3];refine bt fw
      .have qf:=(Aq fw (Aq @h2 (Aq @bQ (Aq @eG (Aq @DE (Aq @DF alS))))));refine au [0,3,5,6,7,54] [12,800] ?_;refine al (ar ?_);refine aZ _ (AW.norm [0,3,5,6,7] [12,800] (ew rfl) (AW.st (by simp[ab];rfl) ?_));refine cD fw ?_;(try simp only[aV,aX]);refine bh.mk i aa aa ?_;rw[Ae,n3];refine bt fw
theorem aim (G:ay) (hM:k9 G) (p:aS) (bn:c8 p=none) (hk:∀ r∈p.ax,qj r) (st gN:Int) (nx:List (List D)) (n:Int) (h0:0<=n) (h1:n<=2^40):MC prog G [12,800] 119 [.ref 12 0 0,.d (ab n)] (aq (tI p st gN nx)) (.d (BW (nI p n p.names.length).2)) (aq (tI p st gN nx)):=by
 have hg:=iB bn;have iF:=hg.names;have eL:=TZ G;have nF:=Hr G hM p bn hk;simp only[eF,gr,cE,fI]at nF;have aO:=fun k (h:k<=p.names.length)=>LY bn n h0 k h
 have eK:(fM p).length=p.names.length:=by simp[fM]
 have uL:∀ i (hi:i < p.names.length),(fM p)[i]? = some (dh p p.names[i]):=fun i hi=>by simp[fM,hi]
 have Jq:=fun i (hi:i < p.names.length)=>wY hg hi;have eZ:=fun k (h:k < p.names.length)=>Si n h;have eH:=acI p n;generalize fM p=RP at *;generalize nI p n=T at *;simp only[tI,cE,ab,BW]
 have oT:(p.names.map bw).length=p.names.length:=ak
 have kc:∀ i (h:i < p.names.length),(p.names.map bw)[i]? = some [.v (.string (bs p.names[i].name)),.v (.int .i64 p.names[i].kind),.v (.int .i64 p.names[i].count)]:=fun i h=>by simp[h,bw,dS]
 generalize p.names.map bw=NN at *;generalize p.ax.map eo=RR at *;refine MC.aQ (aC _) func119 rfl rfl (rs:=[.cell 4 219]) results119 (by simp[ntmps119]) rfl fun X=>?_;simp only[ntmps119];have fw:=@alv;refine ae fw [0,1,4] [12,800,4] ?_;refine bG fw eL [0,1,4,5] [12,800,4,5,601,602] ?_;refine ag fun K1 aF=>br fw nF [0,1,4,5,14,15,16] [12,800,4,5,601,602] ?_;refine cG (S:=Nat) (fun k=>k<=p.names.length) (fun k=>⟨bp [(0,.ref 12 0 0),(1,int (T k).1),(4,.ref 4 0 0),(5,.ref 5 0 0),(14,.d (.sl none (RP.map fun x=>[.v (.int .i64 x)]))),(15,int RP.length),(16,int k)],aq [(12,.box 99 [.d (.sl none NN),.d (.sl none RR),.d (.v (.int .i64 st)),.d (.v (.int .i64 gN)),.own 800 0 nx.length]),(800,.sl 41 1 nx),(4,.box 219 [.d (.v (.map none)),.d (.v (.map none))]),(5,.box 219 [.mp 601,.mp 602]),(601,.mp 201 (dX (T k).2.1)),(602,.mp 217 (dX (T k).2.2))]⟩) (fun k=>p.names.length - k) 0 ?_ aa ?_
 .rw[eH];refine aM.dk (ew rfl) (by simp[ab,dX]) (by simp[ab,dX])
 .intro k mR;obtain⟨_,_,_,hrel,_,ke,e9⟩:=aO k mR;have j4:=eZ k
  have FG:k=p.names.length->T p.names.length=T k:=fun e=>by rw[e]
  generalize T k=tk at hrel ke e9 j4 FG ⊢;obtain⟨m,I,C⟩:=tk;dsimp only at hrel ke e9 ⊢;refine ae fw [0,1,4,5,14,15,16,17] [12,800,4,5,601,602] ?_;refine ag fun K2 aw=>?_;by_cases aH:k < p.names.length
  .have rD:k < RP.length:=aa
   refine b8 (by simp[rD]) (ar (aw _ ?_));refine ag fun K3 aZ=>bg ?_;have j4:=j4 aH
   have eD:k < NN.length:=aa
   have qy:NN[k]=[.v (.string (bs p.names[k].name)),.v (.int .i64 p.names[k].kind),.v (.int .i64 p.names[k].count)]:=by
    have:=kc k aH;rw[AT eD]at this;exact AI this
   have gY:RP[k]=dh p p.names[k]:=by
    have:=uL k aH;rw[AT rD]at this;exact AI this
   have ru:=Jq k aH;unfold GS at j4;generalize bs p.names[k].name=nm at qy j4;generalize p.names[k].kind=kd at qy j4;generalize p.names[k].count=ct at qy j4;generalize dh p p.names[k]=K at gY ru j4;have iO:=rQ hrel.mZ;simp at iO;have bQ:=eq_true iO;have fP:=rQ hrel.iI;simp at fP;have eG:=eq_true fP;have qf:=(Aq fw (Aq @rD @gY));refine au [0,1,4,5,6,7,14,15,16] [12,800,4,5,601,602] ?_;refine ag fun K4 cr=>?_;by_cases qv:K=0
   .rw[if_pos qv]at j4;have qf:=(Aq fw @qv);refine au [0,1,4,5,6,7,14,15,16,22] [12,800,4,5,601,602] ?_;refine b8 (by simp[qv]) (b5 (aZ _ ?_));refine cD fw ?_;(try simp only[aV,aX]);refine bh.mk (k+1) aa aa ?_;rw[j4];refine bt fw
   .rw[if_neg qv]at j4;dsimp only at j4;have pP:m.tmod K=m % K:=Int.tmod_eq_emod_of_nonneg ke;have ji:0<=m / K:=Int.ediv_nonneg ke ru;have uT:m / K<=m:=Int.ediv_le_self _ ke
    have hdiv:IntKind.i64.wrap (m.tdiv K)=m / K:=by
     rw[Int.tdiv_eq_ediv_of_nonneg ke];exact HX aa
    generalize m / K=q at *;generalize m % K=r at *;have qf:=(Aq fw @qv);refine au [0,1,4,5,6,7,14,15,16,22] [12,800,4,5,601,602] ?_;refine b9 (by simp[qv]) (ar (cr _ ?_));have qf:=(Aq fw (Aq @eD @qy));refine au [0,1,4,5,7,8,14,15,16] [12,800,4,5,601,602,8] ?_;refine dT fw 8 ?_;refine ag fun K5 cg=>?_;by_cases k3:kd >= 3
    .rw[if_pos k3]at j4;have qf:=(Aq fw @k3);refine au [0,1,4,5,7,8,14,15,16,33] [12,800,4,5,601,602] ?_;refine b8 (by simp<;>omega) ?_;have qf:=(Aq fw (Aq @qv (Aq @pP (Aq @bQ (Aq @eG @fC)))));refine iz [0,1,4,5,7,8,14,15,16] [12,800,4,5,601,602] ?_;refine BB (aC _) ah ah fun K' ao=>?_;(repeat refine ja fun Kq af=>?_;simp[ab,qv,pP,bQ,eG,fC];(repeat refine⟨aa,?_⟩);refine af _ ?_);refine qd (ao _ ?_);refine cg _ (AW.norm [0,1,4,5,7,14,15,16] [12,800,4,5,601,602] (ew rfl) (AW.st (by simp[ab,qv,pP,bQ,eG,fC];rfl) ?_));have qf:=(Aq fw (Aq @qv @hdiv));refine e6 aZ [0,1,4,5,14,15,16] [12,800,4,5,601,602] ?_;refine cD fw ?_;(try simp only[aV,aX]);refine bh.mk (k+1) aa aa ?_;rw[j4];refine bt fw
    .rw[if_neg k3]at j4;have qf:=(Aq fw @k3);refine au [0,1,4,5,7,8,14,15,16,33] [12,800,4,5,601,602] ?_;refine b9 (by simp<;>omega) ?_;refine BB (aC _) ah ah fun K' ao=>?_;(repeat refine ja fun Kq af=>?_;simp[ab,qv,pP,bQ,eG,fC];(repeat refine⟨aa,?_⟩);refine af _ ?_);refine qd (ao _ ?_);refine cg _ (AW.norm [0,1,4,5,7,14,15,16] [12,800,4,5,601,602] (ew rfl) (AW.st (by simp[ab,qv,pP,bQ,eG,fC];rfl) ?_));have qf:=(Aq fw (Aq @qv @hdiv));refine e6 aZ [0,1,4,5,14,15,16] [12,800,4,5,601,602] ?_;refine cD fw ?_;(try simp only[aV,aX]);refine bh.mk (k+1) aa aa ?_;rw[j4];refine bt fw
  .obtain rfl:k=p.names.length:=aa
   have Zp:=FG rfl;refine b9 (by simp<;>omega) ?_;refine b5 (aF _ (ae fw [4] [12,800,4,601,602] ?_))
   refine AW.imp (aa6 [4,601,602] (fun r h=>by
    have h':r=4\/r=601\/r=602:=by simpa using h
    rcases h' with rfl | rfl | rfl<;>decide) 4 6 (x:=.ref 4 0 0) (d:=.ip [.dm false I,.dm false C]) ak (by simp[r9])) ?_
   refine AW.st (by simp[DL,DK,fT];rfl) ?_;refine bT ?_;simp[D.le,D.le.go,aR,ab,Zp,r9,D.le_refl,D.bR]
theorem ail {V:Nat} (h:V<=6):IntKind.i64.wrap (2 ^ (min V IntKind.i64.bits))=((2^V:Nat):Int):=by
 have:V=0\/V=1\/V=2\/V=3\/V=4\/V=5\/V=6:=aa
 rcases this with rfl | rfl | rfl | rfl | rfl | rfl | rfl<;>decide
def qb (n:Nat) (E:List Int):Nat->List Bool
 | 0=>List.replicate n false
 | j+1=>(qb n E j).set (E.getD j 0).toNat true
theorem D3 (n:Nat) (E:List Int):∀ j,(qb n E j).length=n
 | 0=>by simp[qb]
 | j+1=>by rw[qb,List.length_set,D3]
theorem Ui {n:Nat} {E:List Int} {i:Nat} (hi:i < n):∀ j,j<=E.length->((qb n E j).getD i false=true↔∃ q,q < j/\(E.getD q 0).toNat=i)
 | 0,_=>by
  rw[qb,vX];exact⟨fun h=>(by cases h),fun ⟨q,hq,_⟩=>absurd hq aa⟩
 | j+1,hj=>by
  rw[qb];by_cases e:(E.getD j 0).toNat=i
  .rw[<- e,kb (by rw[D3];omega)];exact⟨fun _=>⟨j,aa,rfl⟩,fun _=>rfl⟩
  .rw[gw e,Ui hi j aa];constructor
   .rintro⟨q,hq,h⟩;exact⟨q,aa,h⟩
   .rintro⟨q,hq,h⟩;refine⟨q,akf fun hn=>?_,h⟩
    obtain rfl:q=j:=aa
    exact e h
theorem agD (p:aS):qb p.names.length (gp p p.names.length) (gp p p.names.length).length=p.names.map (ka p):=by
 refine I9 (d:=false) (by rw[D3];simp) fun i hi=>?_;rw[D3]at hi
 have e1:(p.names.map (ka p)).getD i false=ka p p.names[i]:=by rw[dV (by simpa using hi)];simp
 rw[e1];have h:=Ui (E:=gp p p.names.length) hi _ (ajJ _)
 have h2:(∃ q,q < (gp p p.names.length).length/\((gp p p.names.length).getD q 0).toNat=i)↔ka p p.names[i]=true:=by
  constructor
  .rintro⟨q,hq,he⟩;rw[dV hq]at he;obtain⟨k,hk,_,hx,ha⟩:=(zm (ajJ _)).1 (By hq);rw[hx,ajI]at he;subst he;exact ha
  .intro ha;obtain⟨q,hq,he⟩:=aj1.1 ((zm (x:=(i:Int)) (ajJ _)).2 ⟨i,hi,hi,rfl,ha⟩);exact⟨q,hq,by rw[dV hq,he];simp⟩
 rw[h2]at h
 cases h3:ka p p.names[i] with
 | true=>exact h.2 h3
 | false=>
  cases h4:(qb p.names.length (gp p p.names.length) (gp p p.names.length).length).getD i false with
  | true=>rw[h.1 h4]at h3;cases h3
  | false=>rfl
theorem ah6 {p:aS} {q:Nat} (hq:q < (gp p p.names.length).length):∃ i,i < p.names.length/\(gp p p.names.length)[q]=(i:Int):=by
 obtain⟨k,hk,_,hx,_⟩:=(zm (ajJ _)).1 (By hq);exact⟨k,hk,hx⟩
theorem SC {p:aS} {s:Nat} (h:s < (bl p).length):fL ((bl p).take (s+1))=fL ((bl p).take s) ++ [[fI (p8 p (bA p).length s)]]:=by
 rw[ajO h,fL,fL,akj,DH h];rfl
theorem TU {p:aS} {m s i:Nat} (h:i < 2 ^ m):(p8 p m s).take (i+1)=(p8 p m s).take i ++ [gF (bO p) (rm p (pt p s) (iu i m))]:=by
 have h':i < (p8 p m s).length:=by rw[y6];exact h
 rw[ajO h',agi]
theorem acE (G:ay) (p:aS) (bn:c8 p=none) (hk:∀ r∈p.ax,qj r) (aO:(bA p).length<=6) (hP:bZ (bO p)<=4096):aD prog G 18 [gu p] (.bz [ri p (bZ (bO p)) ((2 ^ (bA p).length:Nat):Int) (fL (bl p)),.v .nilIface]):=by
 have hg:=iB bn;have iF:=hg.names;have cO:=RE G p (agL bn hk);rw[bn]at cO;have gZ:=R5 G p aa 1;have oX:jQ p.names 1 p.names.length=bA p:=rfl;rw[oX]at gZ
 have og:=ab5 G p aa (by have:=hg.ax;omega) (fun r hr=>by
  obtain⟨e,he,_,_,hb⟩:=hk r hr
  exact⟨e,he,aa⟩)
 rw[XG bn]at og;have hsL:=D3 p.names.length (gp p p.names.length);have hsE:=agD p;have hwA:=fun q (hq:q < (gp p p.names.length).length)=>ah6 hq;have hwS:=fun q (hq:q < (gp p p.names.length).length)=>(show qb p.names.length (gp p p.names.length) (q+1)=(qb p.names.length (gp p p.names.length) q).set ((gp p p.names.length)[q]).toNat true by rw[qb,dV hq]);have eH:qb p.names.length (gp p p.names.length) 0=List.replicate p.names.length false:=rfl;have lX:=HO p p.names.length;have vb:=fun (nx:List (List D)) (n:Nat) (h1:(n:Int) < 4096)=>acK G p bn (bZ (bO p)) ((2 ^ (bA p).length:Nat):Int) nx n aa aa;have u0:=fun (nx:List (List D)) (n:Nat)=>acz G p bn (bZ (bO p)) ((2 ^ (bA p).length:Nat):Int) nx n;have cu:=fun (nx:List (List D)) (s:cL) (hs:fV p s)=>acD G p bn (bZ (bO p)) ((2 ^ (bA p).length:Nat):Int) nx s hs hP;have xW:=fun (s:Nat) (i:Nat)=>Xw G p bn hk (pt p s) (Br bn s) (iu i (bA p).length) (Dm _ _);have JW:=fun (s:Nat) (i:Nat)=>(IW bn (Br bn s) (iu i (bA p).length)).1;have FC:∀ k (h:k < p.names.length),gQ p (k+1)=gQ p k ++ partOf p.names[k] (ka p p.names[k]) k:=fun k h=>Ha h;have pF:=G9 p;have Jw:gQ p p.names.length=bO p:=rfl;have pO:∀ x∈bO p,2<=x.most:=fun x hx=>(nJ hg hx).m2;have C4:=fun k (h:k < (bO p).length)=>adW h;have Az:=fun k=>adV pO k;have qF:0 < bZ (bO p):=oJ pO;have iX:=fun k=>(oJ (l:=(bO p).take k) fun x hx=>pO x (ajS hx));have rF:=fun s (h:s < (bl p).length)=>SC h;have fD:=sC p;have C7:=fun s i (h:i < 2 ^ (bA p).length)=>TU (p:=p) (s:=s) h;have fq:=fun s=>y6 p (bA p).length s;have va:=ail aO
 have Pj:2 ^ (bA p).length<=64:=by
  have:=akR (n:=2) aa aO;omega
 have lQ:=hg.count;simp only[tH,ab,vJ,rh,mG,fI,nY]at vb u0 cu xW;simp only[gu,gX,cE,fg,bD,ri,sa,nY,fI]at gZ cO og xW vb u0 cu rF ⊢;generalize bl p=r7 at *;generalize Co:p8 p (bA p).length=Es at *;clear Co;generalize gp p p.names.length=E at *;generalize qb p.names.length E=SB at *
 have pE:((bA p).map fun x=>[D.v (.int .i64 x)]).length=(bA p).length:=ak
 generalize ((bA p).map fun x=>[D.v (.int .i64 x)])=IN at *;generalize (bA p).length=m at *
 have oT:(p.names.map bw).length=p.names.length:=ak
 have kc:∀ i (h:i < p.names.length),(p.names.map bw)[i]? = some [.v (.string (bs p.names[i].name)),.v (.int .i64 p.names[i].kind),.v (.int .i64 p.names[i].count)]:=fun i h=>by simp[h,bw,dS]
 generalize p.names.map bw=NN at *;generalize p.ax.map cU=RR at *
 have Px:(E.map fun x=>[D.v (.int .i64 x)]).length=E.length:=ak
 refine aD.aQ (aC _) func18 rfl rfl (rs:=[.tmp 2,.tmp 3]) results18 (by simp[ntmps18]) fun X=>?_;simp only[ntmps18,List.map];have fw:=@alv;refine ae fw [1] [1] ?_;refine dT fw 1 ?_;refine ag fun K1 aF=>br fw cO [1,4] [] ?_;refine ae fw [1,4,19] [] ?_;refine al (ar (aF _ ?_));refine rdc fw gZ [1,5] [25] ?_;refine ag fun K2 aw=>?_
 have s6:¬ (IN.length:Int) > 6:=aa
 have qf:=(Aq fw @s6);refine au [1,5,31] [25] ?_;refine b9 (by simp<;>omega) ?_;refine ar (aw _ ?_);have qf:=(Aq fw (Aq @sH.eq_1 (Aq @sH.eq_2 (Aq @sH.eq_3 (Aq @pE @va)))));refine au [1,5] [25] ?_;refine ae (Aq fw (Aq @lZ.eq_1 (Aq @gg.eq_1 @gg.eq_2))) [1,5,6] [25,45] ?_;refine ag fun K3 aZ=>br fw og [1,5,6,47,48,49] [25,45] ?_;refine cG (S:=Nat) (fun j=>j<=E.length) (fun j=>⟨bp [(1,.d (.ip [.sl none NN,.sl none RR])),(5,.ref 25 0 0),(6,.own 45 0 p.names.length),(47,.d (.sl none (E.map fun x=>[.v (.int .i64 x)]))),(48,int E.length),(49,int j)],aq [(25,.box 113 [.d (.sl none NN),.d (.sl none RR),int 1,int ((2 ^ m:Nat):Int),.d (.sl (some false) []),.d (.sl (some false) []),.d (.sl none IN)]),(45,.sl 4 1 ((SB j).map fun b=>[.v (.bool b)]))]⟩) (fun j=>E.length - j) 0 ?_ aa ?_
 .rw[eH];refine aM.dk aN (by simp[ab,ake,oT,Px]) (by simp[ab,ake,oT,Px])
 .intro j hj;have hsj:=hsL j;have Q3:=hwS j;generalize PS:SB j=B at hsj Q3 ⊢;refine ae fw [1,5,6,47,48,49,50] [25,45] ?_;refine ag fun K4 cr=>fG (b:=j < E.length) (by simp[D.le,D.le.go,aR,ab]) (fun hc=>?_) (fun hc=>?_)
  .refine ar (cr _ (ag fun K5 cg=>bg ?_));obtain⟨i,hi,Pw⟩:=hwA j hc;have Q4:=Q3 hc;rw[Pw,ajI]at Q4
   have gJ:i < B.length:=aa
   have qf:=(Aq fw (Aq @hc @Pw));refine au [1,5,6,8,47,48,49] [25,45] ?_;have qf:=(Aq fw (Aq @gJ @hi));refine e6 cg [1,5,6,47,48,49] [25,45] ?_;refine cD fw ?_;(try simp only[aV,aX]);refine bh.mk (j+1) aa aa ?_;rw[Q4];refine aM.dk aN (by simp[ab,ajV]) (by simp[ab,ajV])
  .obtain rfl:j=E.length:=aa
   rw[hsE]at PS;subst PS;refine b5 (aZ _ (ag fun K6 eB=>ae fw [1,5,6,58,59,60] [25,45] ?_));refine cG (S:=Nat) (fun k=>k<=p.names.length) (fun k=>⟨bp [(1,.d (.ip [.sl none NN,.sl none RR])),(5,.ref 25 0 0),(6,.own 45 0 p.names.length),(58,.d (.sl none NN)),(59,int NN.length),(60,int k)],aq [(25,.box 113 [.d (.sl none NN),.d (.sl none RR),int 1,int ((2 ^ m:Nat):Int),.d (.sl (some false) []),.own 801 0 (gQ p k).length,.d (.sl none IN)]),(45,.sl 4 1 ((p.names.map (ka p)).map fun b=>[.v (.bool b)])),(801,.sl 165 3 ((gQ p k).map jF))]⟩) (fun k=>p.names.length - k) 0 ?_ aa ?_
   .refine (aM.r8 25 5 801 165 3 rfl rfl rfl).trans ?_;refine bt (Aq fw (Aq @gQ.eq_1 @gQ.eq_2))
   .intro k mR;have PJ:=FC k;have Zg:=pF k
    have PH:((gQ p k).map jF).length=(gQ p k).length:=ak
    generalize n9:gQ p k=PK at PJ Zg PH ⊢;refine ae fw [1,5,6,58,59,60,61] [25,45,801] ?_;refine ag fun K7 eO=>?_;by_cases aH:k < p.names.length
    .have eD:k < NN.length:=aa
     have ot:(k:Int) < (NN.length:Int):=aa
     refine b8 (by simp<;>omega) ?_;refine ar (eO _ (ag fun K8 eX=>bg ?_));have si:=PJ aH;have jh:=lQ _ (By aH)
     have qy:NN[k]=[.v (.string (bs p.names[k].name)),.v (.int .i64 p.names[k].kind),.v (.int .i64 p.names[k].count)]:=by
      have:=kc k aH;rw[AT eD]at this;exact AI this
     unfold partOf at si;generalize QE:p.names[k]=nk at si qy jh;obtain⟨nm,kd,ct⟩:=nk;dsimp only at si qy jh
     have Qa:ka p p.names[k]=ka p ⟨nm,kd,ct⟩:=by rw[QE]
     generalize aW:ka p ⟨nm,kd,ct⟩=ev at *;have qf:=(Aq fw (Aq @eD @qy));refine au [1,5,6,9,10,58,59,60] [25,45,801,10] ?_;refine dT fw 10 ?_;refine bg ?_;by_cases k2:kd=2
     .subst k2;rw[if_pos (.inl rfl)]at si;refine ae fw [1,5,6,9,10,58,59,60,65] [25,45,801] ?_;refine aJ (fH (aC _) fun K' ao=>?_);(repeat refine aK fun Kq af=>?_;simp[ab,sh];(repeat refine⟨aa,?_⟩);refine af _ ?_);refine bJ (ao _ ?_);refine eX _ (AW.norm [1,5,6,58,59,60] [25,45,801] aN (AW.st (by simp[ab,sh];rfl) ?_));refine cD fw ?_;(try simp only[aV,aX]);refine bh.mk (k+1) aa aa ?_;rw[si];refine bt (Aq fw @jF.eq_1)
     .by_cases k1:kd=1
      .subst k1
       cases ev with
       | true=>
        rw[if_pos (.inr ⟨rfl,rfl⟩)]at si;have qf:=(Aq fw (Aq @aH @Qa));refine au [1,5,6,9,10,58,59,60,65] [25,45,801] ?_;refine aJ (fH (aC _) fun K' ao=>?_);(repeat refine aK fun Kq af=>?_;simp[ab,sh];(repeat refine⟨aa,?_⟩);refine af _ ?_);refine bJ (ao _ ?_);refine eX _ (AW.norm [1,5,6,58,59,60] [25,45,801] aN (AW.st (by simp[ab,sh];rfl) ?_));refine cD fw ?_;(try simp only[aV,aX]);refine bh.mk (k+1) aa aa ?_;rw[si];refine bt (Aq fw @jF.eq_1)
       | false=>
        rw[if_neg ak,if_neg ak,ako]at si;have qf:=(Aq fw (Aq @aH @Qa));refine au [1,5,6,9,10,58,59,60,65] [25,45,801] ?_;refine al (ae fw [1,5,6,9,10,58,59,60,91] [25,45,801] ?_);refine al (ar ?_);refine eX _ (AW.norm [1,5,6,58,59,60] [25,45,801] aN (AW.st (by simp[ab];rfl) ?_));refine cD fw ?_;(try simp only[aV,aX]);refine bh.mk (k+1) aa aa ?_;rw[si];refine bt fw
      .rw[if_neg (by simp[k1,k2]),if_pos k1]at si;have qf:=(Aq fw (Aq @k1 @k2));refine au [1,5,6,9,10,58,59,60,65] [25,45,801] ?_;refine b9 (by simp[k1,k2]) ?_;have qf:=(Aq fw @k1);refine au [1,5,6,9,10,58,59,60,91] [25,45,801] ?_;refine b8 (by simp[k1]) (Eo (aC _) ah ([(11,(801,105))]) ([(0,[801])]) ([0,1,2,3,4,5,6,7,8,9,10,11,12,13,14]) ah fun K' ao=>?_);(repeat refine zh rfl fun K2 aw=>?_;simp[ab,sh];(repeat refine⟨aa,?_⟩);refine aw _ ?_;clear aw K2);refine zi (ao _ ?_);refine eX _ (AW.norm [1,5,6,58,59,60] [25,45,801] aN (AW.st (by simp[ab,sh];rfl) ?_));refine cD fw ?_;(try simp only[aV,aX]);refine bh.mk (k+1) aa aa ?_;rw[si];refine bt (Aq fw @jF.eq_1)
    .have ot:¬ (k:Int) < (NN.length:Int):=aa
     obtain rfl:k=p.names.length:=aa
     rw[Jw]at n9;subst n9;refine b9 (by simp<;>omega) ?_;refine b5 (eB _ (AW.imp (aM.freeze 801 trivial) ?_));refine AW.st (by simp[ab,PH,sh];rfl) ?_;refine ag fun K9 j2=>?_
     have aix:((bO p).map jF).length=(bO p).length:=ak
     have Ze:∀ i (h:i < (bO p).length),((bO p).map jF)[i]? = some [.v (.int .i64 (bO p)[i].nm),.v (.int .i64 (bO p)[i].most),.v (.bool (bO p)[i].far)]:=fun i h=>by simp[h,jF]
     generalize PG:bO p=dZ at *;generalize dZ.map jF=PT at *;refine ae fw [1,5,113,114,115] [25] ?_;refine cG (S:=Nat) (fun k=>k<=dZ.length) (fun k=>⟨bp [(1,.d (.ip [.sl none NN,.sl none RR])),(5,.ref 25 0 0),(113,.d (.sl none PT)),(114,int PT.length),(115,int k)],aq [(25,.box 113 [.d (.sl none NN),.d (.sl none RR),int (bZ (dZ.take k)),int ((2 ^ m:Nat):Int),.d (.sl (some false) []),.d (.sl none PT),.d (.sl none IN)])]⟩) (fun k=>dZ.length - k) 0 ?_ aa ?_
     .refine bt (Aq fw (Aq @bZ.eq_1 @bZ.eq_2))
     .intro k mR;have hq:=C4 k;have hqm:=Az (k+1);have pU:=iX k;have aaN:=Az k;generalize hQ:bZ (dZ.take k)=Q at hq pU aaN ⊢;refine ae fw [1,5,113,114,115,116] [25] ?_;refine ag fun nS eJ=>?_;by_cases aH:k < dZ.length
      .have eD:k < PT.length:=aa
       have ot:(k:Int) < (PT.length:Int):=aa
       refine b8 (by simp<;>omega) ?_;refine ar (eJ _ (ag fun ud mL=>bg ?_));have kZ:=hq aH;have qM:=pO _ (By aH)
       have n9:PT[k]=[.v (.int .i64 dZ[k].nm),.v (.int .i64 dZ[k].most),.v (.bool dZ[k].far)]:=by
        have:=Ze k aH;rw[AT eD]at this;exact AI this
       generalize dZ[k]=x at n9 kZ qM;obtain⟨xi,M,fa⟩:=x;dsimp only at n9 kZ qM;rw[kZ]at hqm;have PO:0 < Q * M:=Int.mul_pos pU aa
       have Zi:¬ Q * M > 4096:=aa
       have qf:=(Aq fw (Aq @eD @n9));refine au [1,5,12,113,114,115] [25,12] ?_;refine dT fw 12 ?_;refine px (aC _) ah [(3,25),(5,999),(9,25)] [1,5,113,114,115] [25] aN ah fun K' ao=>?_;(repeat refine jC fun Kq af=>?_;simp[ab,PO];(repeat refine⟨aa,?_⟩);refine af _ ?_);refine kN (ao _ ?_);refine AW.st (by simp[ab,PO];rfl) ?_;have qf:=(Aq fw @Zi);refine au [1,5,113,114,115,132] [25] ?_;refine b9 (by simp<;>omega) ?_;refine ar (mL _ (cD fw ?_));(try simp only[aV,aX]);refine bh.mk (k+1) aa aa ?_;rw[kZ];refine bt fw
      .have ot:¬ (k:Int) < (PT.length:Int):=aa
       refine b9 (by simp<;>omega) ?_;refine b5 (j2 _ ?_);rw[sh aa]at hQ;refine ag fun xp kB=>?_;obtain⟨S,hS⟩:∃ S:Nat,bZ dZ=(S:Int):=ajL aa;rw[hS]at fD hP vb u0 cu hQ ⊢;rw[ajI]at fD;subst hQ;refine ae fw [1,5,138,139] [25] ?_;refine cG (S:=Nat) (fun s=>s<=S) (fun s=>⟨bp [(1,.d (.ip [.sl none NN,.sl none RR])),(5,.ref 25 0 0),(138,int S),(139,int s)],aq [(25,.box 113 [.d (.sl none NN),.d (.sl none RR),int S,int ((2 ^ m:Nat):Int),.own 800 0 s,.d (.sl none PT),.d (.sl none IN)]),(800,.sl 41 1 (fL (r7.take s)))]⟩) (fun s=>S - s) 0 ?_ aa ?_
       .refine (aM.r8 25 4 800 41 1 rfl rfl rfl).trans ?_;refine bt (Aq fw @fL.eq_1)
       .intro s KU;have jq:=rF s
        have lv:(fL (r7.take s)).length=s:=by rw[Bc,ajW];omega
        have Ck:s=S->fL (r7.take s)=fL r7:=fun e=>by rw[sh aa]
        generalize fL (r7.take s)=NX at jq lv Ck ⊢;refine ae fw [1,5,138,139,140] [25,800] ?_;refine ag fun nq gH=>fG (b:=s < S) (by simp[D.le,D.le.go,aR,ab]) (fun hc=>?_) (fun hc=>?_)
        .refine ar (gH _ (ag fun BF uI=>bg ?_));have CX:=jq aa;have vc:=vb NX s aa;have Kj:=u0 NX;have Ak:=xW s;have Ay:=fun i=>cu NX _ (JW s i);have yp:=fun i h=>C7 s i h;have KQ:=fq s;generalize yu:pt p s=D8 at vc Ak Ay yp;generalize FF:Es s=RS at CX yp KQ;refine ae fw [1,5,13,138,139] [25,800] ?_;refine ae fw [1,5,13,14,138,139] [25,800] ?_;refine ag fun H7 xM=>ae fw [1,5,13,14,138,139,145,146] [25,800] ?_;refine cG (S:=Nat) (fun i=>i<=2 ^ m) (fun i=>⟨bp [(1,.d (.ip [.sl none NN,.sl none RR])),(5,.ref 25 0 0),(13,int s),(14,.own 902 0 i),(138,int S),(139,int s),(145,int ((2 ^ m:Nat):Int)),(146,int i)],aq [(25,.box 113 [.d (.sl none NN),.d (.sl none RR),int S,int ((2 ^ m:Nat):Int),.own 800 0 s,.d (.sl none PT),.d (.sl none IN)]),(800,.sl 41 1 NX),(902,.sl 3 1 ((RS.take i).map fun x=>[.v (.int .i64 x)]))]⟩) (fun i=>2 ^ m - i) 0 ?_ aa ?_
         .refine (aM.nU 14 902 3 1 rfl rfl).trans ?_;refine bt fw
         .intro i lz;have C6:=yp i
          have eK:((RS.take i).map fun x=>[D.v (.int .i64 x)]).length=i:=by simp;omega
          generalize jK:RS.take i=RI at C6 eK ⊢;refine ae fw [1,5,13,14,138,139,145,146,147] [25,800,902] ?_;refine ag fun K16 YT=>?_;by_cases dM:i < 2 ^ m
          .have Ap:(i:Int) < ((2 ^ m:Nat):Int):=by exact_mod_cast dM
           refine b8 (by simpa using Ap) (ar (YT _ ?_));refine ag fun K17 YU=>bg ?_;have yn:=C6 dM;have x9:=Kj i;have uU:=Ak i;have rG:=Ay i;generalize rm p D8 (iu i m)=d1 at uU rG yn;generalize iu i m=ib at x9 uU;generalize gF dZ d1=v1 at rG yn;obtain⟨I1,C1⟩:=D8;obtain⟨I2,C2⟩:=d1;dsimp only at vc uU rG;rw[lv]at vc x9 rG;refine ae fw [1,5,13,14,15,138,139,145,146] [25,800,902] ?_;refine NP (aC _) ah ([12]) ([]) ([5,8,10]) ([(2,.d (.ip [.sl none NN,.sl none RR]))]) (List.range 14) ah fun K' ao=>?_;(repeat refine nj rfl fun K2 aw=>?_;simp[ab,eK,sh];(repeat refine⟨aa,?_⟩);refine aw _ ?_;clear aw K2);refine nj rfl fun K2 aw=>?_;simp[ab,eK,sh];refine uP.mc (vc) (by simp[ab,eK,sh]) (by simp[ab,eK,sh]) (by simp[ab,eK,sh]) (by simp[ab,eK,sh]) (by simp[ab,eK,sh]) (by simp[ab,eK,sh]) (by simp[j0,ab,eK,sh]) ?_;simp[ab,eK,sh];refine aw _ ?_;clear aw K2;(repeat refine nj rfl fun K2 aw=>?_;simp[ab,eK,sh];(repeat refine⟨aa,?_⟩);refine aw _ ?_;clear aw K2);refine nj rfl fun K2 aw=>?_;simp[ab,eK,sh];refine uP.mc (x9) (by simp[ab,eK,sh]) (by simp[ab,eK,sh]) (by simp[ab,eK,sh]) (by simp[ab,eK,sh]) (by simp[ab,eK,sh]) (by simp[ab,eK,sh]) (by simp[j0,ab,eK,sh]) ?_;simp[ab,eK,sh];refine aw _ ?_;clear aw K2;(repeat refine nj rfl fun K2 aw=>?_;simp[ab,eK,sh];(repeat refine⟨aa,?_⟩);refine aw _ ?_;clear aw K2);refine nj rfl fun K2 aw=>?_;simp[ab,eK,sh];refine sb.mk (uU) bB bB (by first | exact D.bR _ | simp[aR,ajN,ajG,D.le,D.le.go,D.le_refl,D.bR,ab,eK,sh]) ak ?_;refine aw _ ?_;clear aw K2;simp only[aL,dL];(repeat refine nj rfl fun K2 aw=>?_;simp[ab,eK,sh];(repeat refine⟨aa,?_⟩);refine aw _ ?_;clear aw K2);refine nj rfl fun K2 aw=>?_;simp[ab,eK,sh];refine uP.mc (rG) (by simp[ab,eK,sh]) (by simp[ab,eK,sh]) (by simp[ab,eK,sh]) (by simp[ab,eK,sh]) (by simp[ab,eK,sh]) (by simp[ab,eK,sh]) (by simp[j0,ab,eK,sh]) ?_
           simp[ab,eK,sh];refine aw _ ?_;clear aw K2;(repeat refine nj rfl fun K2 aw=>?_;simp[ab,eK,sh];(repeat refine⟨aa,?_⟩);refine aw _ ?_;clear aw K2);refine UH (ao _ ?_);refine YU _ (AW.norm [1,5,13,14,138,139,145,146] [25,800,902] aN (AW.st (by simp[ab,eK,sh];rfl) ?_));refine cD fw ?_;(try simp only[aV,aX]);refine bh.mk (i+1) aa aa ?_;rw[yn];refine bt fw
          .obtain rfl:i=2 ^ m:=aa
           have xR:RI=RS:=by rw[<- jK];exact sh aa
           subst xR;refine b9 ak ?_;refine b5 (xM _ (AW.imp (aM.freeze 902 trivial) ?_));refine AW.st (by simp[ab,eK,sh];rfl) ?_;refine fH (aC _) fun K' ao=>?_;(repeat refine aK fun Kq af=>?_;simp[ab,lv,sh];(repeat refine⟨aa,?_⟩);refine af _ ?_);refine bJ (ao _ ?_);refine uI _ (AW.norm [1,5,138,139] [25,800] aN (AW.st (by simp[ab,lv,sh];rfl) ?_));refine cD fw ?_;(try simp only[aV,aX]);refine bh.mk (s+1) aa aa ?_;rw[CX];refine bt fw
        .obtain rfl:s=S:=aa
         obtain rfl:=Ck rfl;refine b5 (kB _ (AW.imp (aM.freeze 800 trivial) ?_));refine AW.st (by simp[ab,lv,sh];rfl) ?_;refine ae fw [2,3] [25] ?_;exact aU (Aq fw @hS)
structure qY (L L':List (Value×Value)):Prop where
 ok:ku L
 same:∀ k,dW L k=dW L' k
theorem kA {L L':List (Value×Value)} (h:qY L L') (s:ByteArray) (x:Value):qY (cW L s x) (cW L' s x):=⟨A3 s x h.ok,fun k=>by rw[rR,rR,h.same]⟩
theorem S4:∀ {L L':List (Value×Value)},L.Nodup->L'.Nodup->(∀ x,x∈L↔x∈L')->L.Perm L'
 | [],L',_,_,h=>by
  cases L' with
  | nil=>exact .nil
  | cons y l=>exact absurd ((h y).2 ak) ak
 | x :: L,L',h1,h2,h=>by
  obtain⟨A,B,rfl⟩:=List.append_of_mem ((h x).1 ak);rw[akB]at h1;have h3:(x :: (A ++ B)).Nodup:=(List.perm_middle.nodup_iff).1 h2;rw[akB]at h3;refine (List.Perm.cons x (S4 h1.2 h3.2 fun y=>?_)).trans List.perm_middle.symm;constructor
  .intro hy;have h4:=(h y).1 (by simp[hy])
   rcases ajR.1 h4 with h5 | h5
   .simp[h5]
   .rcases ajX.1 h5 with rfl | h5
    .exact absurd hy h1.1
    .simp[h5]
  .intro hy;have h4:=(h y).2 (by rcases ajR.1 hy with h5 | h5<;>simp[h5])
   rcases ajX.1 h4 with rfl | h4
   .exact absurd hy h3.1
   .exact h4
theorem Sb {L:List (Value×Value)} (h:ku L):L.Nodup:=(List.pairwise_map.1 h.once).imp fun h e=>h (by rw[e])
theorem A0 {E I:List (Value×Value)} (hp:E.Perm I) (h:ku I):ku E:=⟨fun p hm=>h.str p (hp.mem_iff.1 hm),((hp.map _).nodup_iff).2 h.once⟩
theorem wO {L:List (Value×Value)} (h:ku L) {s:ByteArray} {v:Value}:dW L s=some v↔(.string s,v)∈L:=by
 constructor
 .intro hl;obtain⟨j,hj,h1,h2⟩:=R7 hl;have:L[j]=(.string s,v):=Prod.ext h1 h2;rw[<- this];exact By hj
 .intro hm;obtain⟨j,hj,he⟩:=aj1.1 hm;have:=Du h hj (s:=s) (by rw[he]);rw[this,he]
theorem OX {L L':List (Value×Value)} (h:qY L L') (h':ku L'):L.Perm L':=by
 refine S4 (Sb h.ok) (Sb h') fun x=>?_;obtain⟨k,v⟩:=x;constructor
 .intro hm;obtain⟨s,hs⟩:=h.ok.str _ hm;have hs:k = .string s:=hs;subst hs;exact (wO h').1 (by rw[<- h.same];exact (wO h.ok).2 hm)
 .intro hm;obtain⟨s,hs⟩:=h'.str _ hm;have hs:k = .string s:=hs;subst hs;exact (wO h.ok).1 (by rw[h.same];exact (wO h').2 hm)
theorem aco {E I:List (Value×Value)} (hp:E.Perm I) (h:ku I) (k:ByteArray):dW E k=dW I k:=by
 have h2:=A0 hp h
 cases hl:dW I k with
 | some v=>exact (wO h2).2 (hp.mem_iff.2 ((wO h).1 hl))
 | none=>
  cases kH:dW E k with
  | none=>rfl
  | some v=>
   have:=(wO h).2 (hp.mem_iff.1 ((wO h2).1 kH));rw[hl]at this;cases this
theorem copied {E I L:List (Value×Value)} (hp:E.Perm I) (h:ku I) {seen:List Nat} (hc:xm E seen L) (dA:∀ j,j < E.length->j∈seen):qY L I:=⟨hc.ok,fun k=>by rw[Xk (A0 hp h) hc dA,aco hp h]⟩
theorem R4 {n:Nat} {seen:List Nat} {j:Nat} (hj:j < n) (jq:j ∉ seen):((List.range n).filter fun k=>!(seen ++ [j]).contains k).length < ((List.range n).filter fun k=>!seen.contains k).length:=by
 refine filter_lt (fun k=>!seen.contains k) (fun k=>!(seen ++ [j]).contains k) (fun k hk=>?_) j ?_ ?_ _ (akW.2 hj)
 .simp at hk ⊢;exact hk.1
 .simpa using jq
 .simp
theorem XV {C N:List (Value×Value)} (h:qY C N) (hi:∀ k v,dW N k=some v->∃ n,v = .int .i64 n) (k:ByteArray):(lO (.string k) (dX C)=none/\oC (dW N k)=0)\/lO (.string k) (dX C)=some (.v (.int .i64 (oC (dW N k)))):=by
 rw[xE,h.same]
 cases hl:dW N k with
 | none=>exact .inl ⟨rfl,rfl⟩
 | some v=>
  obtain⟨n,rfl⟩:=hi k v hl;exact .inr rfl
theorem XW (C:List (Value×Value)) (k:ByteArray) (x:Value):lO (.string k) (dX (cW C k x))=some (.v x):=by
 rw[xE,rR,if_pos rfl];rfl
theorem agn (G:ay) (p:aS) (bn:c8 p=none) (hk:∀ r∈p.ax,qj r) (s:cL) (hs:fV p s) (cH:List Bool) (aO:cH.length=(bA p).length) (I C:List (Value×Value)) (hr:iK p s I C) :
  aD prog G 118 [eF p,.agg [.dm false I,.dm false C],mG cH] (.agg [.dm false (A6 p s cH (I,C)).1,.dm false (A6 p s cH (I,C)).2]):=by
 have hg:=iB bn;have iF:=hg.names;have u9:=hg.ax;have eL:=TZ G;have gZ:=HP G p aa 1;have cu:=fun x=>Va G p aa x;have CE:=yP p.names 1 p.names.length;obtain⟨t0,qJ,Cd⟩:∃ t0,t0=(⟨nK (bA p) cH s.is (bA p).length,s.ct⟩:cL)/\fV p t0:=⟨_,rfl,(y3 cH hs _ (ajJ _)).1⟩;obtain⟨T,hT⟩:∃ T:Nat->cL,∀ n,T n=(p.ax.take n).foldl (mz p s) t0:=⟨_,fun _=>rfl⟩;obtain⟨MI,Cf⟩:∃ MI:Nat->List (Value×Value),∀ k,MI k=yU p cH I k:=⟨_,fun _=>rfl⟩;obtain⟨M,hM⟩:∃ M:Nat->nT,∀ n,M n=wQ p s t0 (p.ax.take n) (yU p cH I (bA p).length,C):=⟨_,fun _=>rfl⟩
 have Fx:M 0=(MI (bA p).length,C):=by rw[hM,Cf];rfl
 have PD:∀ n (h:n < p.ax.length),M (n+1)=wP p (sU (gW p (T n).is) (gW p s.is) p.ax[n].cond) p.ax[n] (M n):=fun n h=>by
  rw[hM,hM,hT];exact Sh p s p.ax t0 _ n h
 have Y5:M p.ax.length=A6 p s cH (I,C):=by rw[hM,akH,qJ];rfl
 have Ab:∀ n,fV p (T n):=fun n=>by rw[hT];exact (Ht bn s _ (fun r hr=>ajS hr) Cd).1
 have zZ:∀ n,iK p (T n) (M n).1 (M n).2:=fun n=>by
  rw[hT,hM];refine LX bn s _ (fun r hr=>ajS hr) Cd ?_;rw[qJ];exact LW hg hs cH hr _ (ajJ _)
 have im:∀ n (h:n < p.ax.length) (L1 L2:List (Value×Value)),qY L1 (M n).1->qY L2 (M n).2->∃ e,p.ax[n].cond=some e/\aD prog G 147 [dR e,.fn (.func 190) [.ip [.dm false L1,.dm false L2]],.fn (.func 191) [.ip [.dm false I,.dm false C]]] (.v (.bool (eN (gW p (T n).is) (gW p s.is) e))):=fun n h L1 L2 h1 h2=>by
  obtain⟨e,he,ha,hb⟩:=Ug bn hk (By h);obtain⟨e',kg,hw,_⟩:=hk _ (By h);rw[he]at kg;obtain rfl:=AI kg;exact⟨e,he,aeA G _ _ _ _ _ _ _ _ (ad7 G (aem (zZ n) h1.ok h2.ok h1.same h2.same)) (ad8 G hr) e ha hw hb⟩
 have Js:∀ n,ku (M n).1/\ku (M n).2:=fun n=>⟨(zZ n).mZ,(zZ n).iI⟩
 have PA:∀ n i (hi:i < p.names.length),0<=oC (dW (M n).2 (bs p.names[i].name))/\oC (dW (M n).2 (bs p.names[i].name))<=7:=fun n i hi=>by
  rw[(zZ n).ct i hi];have h1:=(Ab n).lo i;have h2:=(Ab n).hi i hi
  rcases hg.count _ (By hi)with h3 | h3<;>omega
 have PC:=fun n=>(zZ n).iC;have Y3:MI 0=I:=Cf 0
 have Y4:∀ k (h:k < (bA p).length) (h2:k < cH.length),∃ i,∃ hi:i < p.names.length,(bA p)[k]=(i:Int)/\MI (k+1)=cW (MI k) (bs p.names[i].name) (.bool cH[k]):=fun k h h2=>by
  obtain⟨i,hi,he,_⟩:=AP h;refine⟨i,hi,he,?_⟩
  have e1:(bA p).getD k 0=(i:Int):=by rw[dV h];exact he
  have e2:p.names.getD i ⟨[],0,0⟩=p.names[i]:=dV hi;have e3:cH.getD k false=cH[k]:=dV h2;rw[Cf,Cf,yU,e1,ajI,e2,e3]
 clear hM Cf hT Ab zZ Cd qJ;have mZ:=hr.mZ;have iI:=hr.iI;clear hr;have oX:jQ p.names 1 p.names.length=bA p:=rfl;rw[oX]at gZ CE;clear oX;rw[<- Y5];generalize bA p=KI at *;simp only[eF,gr,cE,mG,dS]at gZ cu ⊢
 have oT:(p.names.map bw).length=p.names.length:=ak
 have kc:∀ i (h:i < p.names.length),(p.names.map bw)[i]? = some [.v (.string (bs p.names[i].name)),.v (.int .i64 p.names[i].kind),.v (.int .i64 p.names[i].count)]:=fun i h=>by simp[h,bw,dS]
 have eK:(p.ax.map eo).length=p.ax.length:=ak
 have uL:∀ i (h:i < p.ax.length),(p.ax.map eo)[i]? = some (eo p.ax[i]):=fun i h=>by simp[h]
 generalize p.names.map bw=NN at *;generalize p.ax.map eo=RR at *;refine aD.aQ (aC _) func118 rfl rfl (rs:=[.cell 6 219]) results118 (by simp[ntmps118]) fun X=>?_;simp only[ntmps118,List.map];refine aB [2,3,4,6] [3,4,6] ?_;refine gv 3 ?_;refine gv 4 ?_;refine bG trivial eL [2,3,4,6,7] [6,7,601,602] ?_;refine ag fun K1 aF=>zr (aC _) [2,3,4,6,7,21] [6,7,601,602,21] aN fun K' ao=>?_
 (repeat refine xb fun Kq af=>?_;simp;(repeat refine⟨aa,?_⟩);refine af _ ?_)
 refine UG (y:=false) (ents:=I) rfl rfl ak ak ak ak ak fun E1 Fu=>?_;refine xc (ao _ ?_);refine AW.st bB ?_;refine cG (S:=List Nat×List (Value×Value)) (fun x=>xm E1 x.1 x.2) (fun x=>⟨bp [(2,.d (.sl none (cH.map fun b=>[.v (.bool b)]))),(3,.d (.ip [.sl none NN,.sl none RR])),(4,.d (.ip [.dm false I,.dm false C])),(6,.ref 6 0 0),(7,.ref 7 0 0),(21,.ref 21 0 0)],aq [(6,.box 219 [.d (.v (.map none)),.d (.v (.map none))]),(7,.box 219 [.mp 601,.mp 602]),(601,.mp 201 (dX x.2)),(602,.mp 217 []),(21,.it E1 x.1)]⟩) (fun x=>((List.range E1.length).filter fun k=>!x.1.contains k).length) ([],[]) ?_ (OD E1) ?_
 .refine aM.dk aN (by simp[dX]) (by simp[dX])
 .rintro⟨MS,L1⟩ xN;dsimp only at xN ⊢;refine zr (aC _) [2,3,4,6,7,21,23] [6,7,601,602,21] aN fun K' ao=>?_;refine UF (r:=21) (ents:=E1) (seen:=MS) rfl rfl ak ak ak ak (fun dA=>?_) (fun j hj jq=>?_)
  rotate_left
  .have iO:=rQ xN.ok;simp at iO;have bQ:=eq_true iO;obtain⟨s1,eZ⟩:=(A0 Fu mZ).str E1[j] (By hj)
   (repeat refine xb fun Kq af=>?_;simp;(repeat refine⟨aa,?_⟩);refine af _ ?_)
   refine xc (ao _ ?_);refine AW.st bB ?_;refine ag fun K2 aw=>aJ ?_;refine ar (aw _ (bg (zr (aC _) [2,3,4,6,7,8,9,21] [6,7,601,602,21] aN fun K' ao=>?_)));refine UE (r:=21) (ents:=E1) (seen:=MS) (j:=j) rfl rfl ak ak ak ak hj ?_
   (repeat refine xb fun Kq af=>?_;simp[eZ];(repeat refine⟨aa,?_⟩);refine af _ ?_)
   refine xc (ao _ ?_);refine AW.st (by simp[eZ];rfl) ?_;have qf:=(Aq @eZ (Aq @bQ @fC));refine Bl ?_;(try simp only[aV,aX]);refine bh.mk (MS ++ [j],cW L1 s1 E1[j].2) (OC (A0 Fu mZ) xN hj eZ) (R4 hj jq) ?_;refine df
  .have YW:=copied Fu mZ xN dA;clear xN dA
   (repeat refine xb fun Kq af=>?_;simp;(repeat refine⟨aa,?_⟩);refine af _ ?_)
   refine xc (ao _ ?_);refine AW.st bB ?_;refine ag fun K2 aw=>al ?_;refine b5 (aF _ (ag fun K3 aZ=>zr (aC _) [2,3,4,6,7,33] [6,7,601,602,33] aN fun K' ao=>?_))
   (repeat refine xb fun Kq af=>?_;simp;(repeat refine⟨aa,?_⟩);refine af _ ?_)
   refine UG (y:=false) (ents:=C) rfl rfl ak ak ak ak ak fun E2 xJ=>?_;refine xc (ao _ ?_);refine AW.st bB ?_;refine cG (S:=List Nat×List (Value×Value)) (fun x=>xm E2 x.1 x.2) (fun x=>⟨bp [(2,.d (.sl none (cH.map fun b=>[.v (.bool b)]))),(3,.d (.ip [.sl none NN,.sl none RR])),(4,.d (.ip [.dm false I,.dm false C])),(6,.ref 6 0 0),(7,.ref 7 0 0),(33,.ref 33 0 0)],aq [(6,.box 219 [.d (.v (.map none)),.d (.v (.map none))]),(7,.box 219 [.mp 601,.mp 602]),(601,.mp 201 (dX L1)),(602,.mp 217 (dX x.2)),(33,.it E2 x.1)]⟩) (fun x=>((List.range E2.length).filter fun k=>!x.1.contains k).length) ([],[]) ?_ (OD E2) ?_
   .refine aM.dk aN (by simp[dX]) (by simp[dX])
   .rintro⟨MT,L2⟩ qw;dsimp only at qw ⊢;refine zr (aC _) [2,3,4,6,7,33,35] [6,7,601,602,33] aN fun K' ao=>?_;refine UF (r:=33) (ents:=E2) (seen:=MT) rfl rfl ak ak ak ak (fun dA=>?_) (fun j hj jq=>?_)
    rotate_left
    .have iO:=rQ qw.ok;simp at iO;have bQ:=eq_true iO;obtain⟨s1,eZ⟩:=(A0 xJ iI).str E2[j] (By hj)
     (repeat refine xb fun Kq af=>?_;simp;(repeat refine⟨aa,?_⟩);refine af _ ?_)
     refine xc (ao _ ?_);refine AW.st bB ?_;refine ag fun K4 cr=>aJ ?_;refine ar (cr _ (bg (zr (aC _) [2,3,4,6,7,10,11,33] [6,7,601,602,33] aN fun K' ao=>?_)));refine UE (r:=33) (ents:=E2) (seen:=MT) (j:=j) rfl rfl ak ak ak ak hj ?_
     (repeat refine xb fun Kq af=>?_;simp[eZ];(repeat refine⟨aa,?_⟩);refine af _ ?_)
     refine xc (ao _ ?_);refine AW.st (by simp[eZ];rfl) ?_;have qf:=(Aq @eZ (Aq @bQ @fC));refine Bl ?_;(try simp only[aV,aX]);refine bh.mk (MT ++ [j],cW L2 s1 E2[j].2) (OC (A0 xJ iI) qw hj eZ) (R4 hj jq) ?_;refine df
    .have YX:=copied xJ iI qw dA;clear qw dA
     (repeat refine xb fun Kq af=>?_;simp;(repeat refine⟨aa,?_⟩);refine af _ ?_)
     refine xc (ao _ ?_);refine AW.st bB ?_;refine ag fun K4 cr=>al ?_;refine b5 (aZ _ (ag fun K5 cg=>br trivial gZ [2,3,4,6,7,44,45,46] [6,7,601,602] ?_));refine cG (S:=Nat×List (Value×Value)) (fun x=>x.1<=KI.length/\qY x.2 (MI x.1)) (fun x=>⟨bp [(2,.d (.sl none (cH.map fun b=>[.v (.bool b)]))),(3,.d (.ip [.sl none NN,.sl none RR])),(4,.d (.ip [.dm false I,.dm false C])),(6,.ref 6 0 0),(7,.ref 7 0 0),(44,.d (.sl none (KI.map fun x=>[.v (.int .i64 x)]))),(45,int KI.length),(46,int x.1)],aq [(6,.box 219 [.d (.v (.map none)),.d (.v (.map none))]),(7,.box 219 [.mp 601,.mp 602]),(601,.mp 201 (dX x.2)),(602,.mp 217 (dX L2))]⟩) (fun x=>KI.length - x.1) (0,L1) ?_ ⟨aa,by rw[Y3];exact YW⟩ ?_
     .refine df
     .rintro⟨k,L3⟩ ⟨mR,qx⟩;dsimp only at mR qx ⊢;refine aB [2,3,4,6,7,44,45,46,47] [6,7,601,602] ?_;refine ag fun K6 eB=>fG (b:=k < KI.length) (by simp[D.le,D.le.go,aR]) (fun hc=>?_) (fun hc=>?_)
      .have aH:=hc
       have fP:k < cH.length:=aa
       obtain⟨i,hi,Jp,zY⟩:=Y4 k aH fP
       have mO:i < NN.length:=aa
       have lP:NN[i]=[.v (.string (bs p.names[i].name)),.v (.int .i64 p.names[i].kind),.v (.int .i64 p.names[i].count)]:=by
        have:=kc i hi;rw[AT mO]at this;exact AI this
       generalize bs p.names[i].name=nm at lP zY;generalize p.names[i].kind=kd at lP;generalize p.names[i].count=ct at lP;have iO:=rQ qx.ok;simp at iO;have bQ:=eq_true iO;refine ar (eB _ (ag fun K7 eO=>bg ?_));have qf:=(Aq @aH @Jp);refine au [2,3,4,6,7,12,13,44,45,46] [6,7,601,602] ?_;refine BB (aC _) ah ah fun K' ao=>?_;(repeat refine ja fun Kq af=>?_;simp[mO,lP,fP,bQ,fC];(repeat refine⟨aa,?_⟩);refine af _ ?_);refine qd (ao _ ?_);refine eO _ (AW.norm [2,3,4,6,7,44,45,46] [6,7,601,602] aN (AW.st (by simp[mO,lP,fP,bQ,fC];rfl) ?_));refine dN ?_;(try simp only[aV,aX]);refine bh.mk (k+1,cW L3 nm (.bool cH[k])) ⟨aa,by rw[zY];exact kA qx _ _⟩ aa ?_;refine df
      .have kX:k=KI.length:=aa
       refine b5 (cg _ ?_)
       have YZ:qY L3 (M 0).1:=by rw[Fx,<- kX];exact qx
       have YY:qY L2 (M 0).2:=by rw[Fx];exact YX
       refine ag fun K8 eX=>aB [3,4,6,7,65,66,67] [6,7,601,602] ?_;refine cG (S:=Nat×nT) (fun x=>x.1<=p.ax.length/\qY x.2.1 (M x.1).1/\qY x.2.2 (M x.1).2) (fun x=>⟨bp [(3,.d (.ip [.sl none NN,.sl none RR])),(4,.d (.ip [.dm false I,.dm false C])),(6,.ref 6 0 0),(7,.ref 7 0 0),(65,.d (.sl none RR)),(66,int RR.length),(67,int x.1)],aq [(6,.box 219 [.d (.v (.map none)),.d (.v (.map none))]),(7,.box 219 [.mp 601,.mp 602]),(601,.mp 201 (dX x.2.1)),(602,.mp 217 (dX x.2.2))]⟩) (fun x=>p.ax.length - x.1) (0,(L3,L2)) ?_ ⟨aa,YZ,YY⟩ ?_
       .refine df
       .rintro⟨n,L4,L5⟩ ⟨hn,jI,jJ⟩;dsimp only at hn jI jJ ⊢;have Ad:=PD n;have Ag:=fun h=>im n h L4 L5 jI jJ;have aiv:=Js (n+1);have Jr:=PA n;have Kf:=PC n
        have PB:n=p.ax.length->M p.ax.length=M n:=fun h=>by rw[h]
        have FA:=Js n;generalize hmn:M n=mn at Ad Jr Kf jI jJ PB FA;obtain⟨N1,N2⟩:=mn;dsimp only at Jr Kf jI jJ FA;clear Js PA PC im PD;refine aB [3,4,6,7,65,66,67,68] [6,7,601,602] ?_;refine ag fun K9 j2=>?_;by_cases aH:n < p.ax.length
        .have eD:n < RR.length:=aa
         refine b8 (by simp[eD]) (ar (j2 _ ?_));refine ag fun nS eJ=>bg ?_;obtain⟨e,he,aW⟩:=Ag aH;obtain⟨i,hi,o0,_,lQ⟩:=Hs bn (By aH);obtain⟨wo,gA,_⟩:=xy bn _ (By aH)
         have QG:p.ax[n].name=p.names[i].name:=by
          obtain⟨i2,gJ,lR,fi⟩:=tu gA;have h1:cw p p.ax[n].name=(i2:Int):=lR
          have:i2=i:=aa
          subst this
          have:p.names[i2].name=p.ax[n].name:=by simpa using fi
          exact this.symm
         have bH:=Ad aH;have jK:=uL n aH;have mT:=cu p.ax[n].name;rw[o0]at mT;have Fz:=Jr i hi;rw[<- QG]at Fz;unfold wP at bH;simp only[o0,ajI,lQ,he,sU]at bH;unfold eo at jK;rw[he]at jK;clear gA QG Ad Ag;generalize p.ax[n]=r at jK mT wo bH Fz o0;obtain⟨rk,rn,rc⟩:=r;dsimp only at jK mT wo bH Fz o0;generalize eN (gW p (T n).is) (gW p s.is) e=yes at aW bH;rw[show l9 (some e)=dR e from rfl]at jK;simp only[dS]at jK;have uY:=XV jJ Kf (bs rn);have Al:=XW L5 (bs rn);generalize pK:oC (dW N2 (bs rn))=c at Fz uY bH
         have o4:∀ x:Int,oC (dW (cW N2 (bs rn) (.int .i64 x)) (bs rn))=x:=fun x=>by rw[rR,if_pos rfl];rfl
         have mO:i < NN.length:=aa
         have lP:NN[i]=[.v (.string (bs p.names[i].name)),.v (.int .i64 p.names[i].kind),.v (.int .i64 p.names[i].count)]:=by
          have:=kc i hi;rw[AT mO]at this;exact AI this
         have FE:RR[n]=[.v (.int .i64 rk),.v (.string (bs rn)),dR e]:=by
          rw[AT eD]at jK;exact AI jK
         have PR:(dR e).one=true:=by cases e<;>rfl
         generalize p.names[i].name=nm at lP;generalize p.names[i].kind=kd at lP;generalize p.names[i].count=top at lP bH;generalize bs rn=key at *;generalize dR e=er at FE aW PR;clear jK o0 lQ;have iO:=rQ jI.ok;simp at iO;have bQ:=eq_true iO;have fP:=rQ jJ.ok;simp at fP;have eG:=eq_true fP;have FX:=fun x:Value=>rQ (A3 key x jJ.ok);simp at FX;have iP:=fun x=>eq_true (FX x);have qf:=(Aq @eD (Aq @FE @PR));refine au [3,4,6,7,15,65,66,67] [6,7,601,602,15] ?_;refine gv 15 ?_;refine rg [3,4,6,7,15,16,65,66,67] [6,7,601,602] aN fun K' ao=>?_;(repeat refine aK fun Kq af=>?_;simp[r9];(repeat refine⟨aa,?_⟩);refine af _ ?_);refine aK fun Kq af=>?_;simp[r9];refine cX.sB (aW) (by simp[r9];rfl) (by first | exact D.bR _ | simp[aR,ajN,ajG,D.le,D.le.go,D.le_refl,D.bR,r9]) (by simp[D.scalar,r9]) ?_;refine af _ ?_;simp only[aL,dL];(repeat refine aK fun Kq af=>?_;simp[r9];(repeat refine⟨aa,?_⟩);refine af _ ?_);refine bJ (ao _ (AW.st (by simp[r9];rfl) ?_));have qf:=(Aq @mO @lP);refine Bk mT [3,4,6,7,15,16,17,65,66,67] [6,7,601,602] ?_;refine aB [3,4,6,7,15,16,17,65,66,67,86] [6,7,601,602] ?_;refine bg ?_
         have CJ:rk=1\/rk=2\/rk=3\/rk=4\/rk=5\/rk=6:=aa
         rcases CJ with rfl | rfl | rfl | rfl | rfl | rfl
         .simp at bH;refine aB [3,4,6,7,15,16,17,65,66,67,86,87] [6,7,601,602] ?_;refine aJ ?_;have qf:=(Aq @bQ (Aq @eG (Aq @iP @fC)));refine e6 eJ [3,4,6,7,65,66,67] [6,7,601,602] ?_;refine dN ?_;(try simp only[aV,aX]);refine bh.mk (n+1,(cW L4 key (.bool yes),L5)) ⟨aa,?_,?_⟩ aa ?_
          .rw[bH];exact kA jI _ _
          .rw[bH];exact jJ
          .refine df
         .simp at bH;refine aB [3,4,6,7,15,16,17,65,66,67,86,87] [6,7,601,602] ?_;refine al (aB [3,4,6,7,15,16,17,65,66,67,86,94] [6,7,601,602] ?_);refine aJ (aB [3,4,6,7,15,65,66,67,96] [6,7,601,602] ?_)
          cases yes with
          | true=>
           simp at bH;refine aJ ?_;have qf:=(Aq @bQ (Aq @eG (Aq @iP @fC)));refine e6 eJ [3,4,6,7,65,66,67] [6,7,601,602] ?_;refine dN ?_;(try simp only[aV,aX]);refine bh.mk (n+1,(cW L4 key (.bool true),L5)) ⟨aa,?_,?_⟩ aa ?_
           .rw[bH];exact kA jI _ _
           .rw[bH];exact jJ
           .refine df
          | false=>
           simp at bH;refine al (ar ?_);refine eJ _ (AW.norm [3,4,6,7,65,66,67] [6,7,601,602] aN (AW.st bB ?_));refine dN ?_;(try simp only[aV,aX]);refine bh.mk (n+1,(L4,L5)) ⟨aa,?_,?_⟩ aa ?_
           .rw[bH];exact jI
           .rw[bH];exact jJ
           .refine df
         .simp at bH;refine aB [3,4,6,7,15,16,17,65,66,67,86,87] [6,7,601,602] ?_;refine al (aB [3,4,6,7,15,16,17,65,66,67,86,94] [6,7,601,602] ?_);refine al (aB [3,4,6,7,15,16,17,65,66,67,86,101] [6,7,601,602] ?_);refine aJ (aB [3,4,6,7,15,65,66,67,103] [6,7,601,602] ?_)
          cases yes with
          | true=>
           simp at bH;refine aJ ?_;have qf:=(Aq @bQ (Aq @eG (Aq @iP @fC)));refine e6 eJ [3,4,6,7,65,66,67] [6,7,601,602] ?_;refine dN ?_;(try simp only[aV,aX]);refine bh.mk (n+1,(cW L4 key (.bool false),L5)) ⟨aa,?_,?_⟩ aa ?_
           .rw[bH];exact kA jI _ _
           .rw[bH];exact jJ
           .refine df
          | false=>
           simp at bH;refine al (ar ?_);refine eJ _ (AW.norm [3,4,6,7,65,66,67] [6,7,601,602] aN (AW.st bB ?_));refine dN ?_;(try simp only[aV,aX]);refine bh.mk (n+1,(L4,L5)) ⟨aa,?_,?_⟩ aa ?_
           .rw[bH];exact jI
           .rw[bH];exact jJ
           .refine df
         .simp at bH;refine aB [3,4,6,7,15,16,17,65,66,67,86,87] [6,7,601,602] ?_;refine al (aB [3,4,6,7,15,16,17,65,66,67,86,94] [6,7,601,602] ?_);refine al (aB [3,4,6,7,15,16,17,65,66,67,86,101] [6,7,601,602] ?_);refine al (ag fun ud mL=>?_);refine aB [3,4,6,7,15,16,17,65,66,67,86,108] [6,7,601,602] ?_;refine aJ (ar ?_);refine mL _ (AW.norm [3,4,6,7,15,16,17,65,66,67,86,108] [6,7,601,602] aN (AW.st bB ?_));refine aJ (ag fun xp kB=>?_);have J1:∃ oc,lO (.string key) (dX L5)=oc/\((oc=none/\c=0)\/oc=some (.v (.int .i64 c))):=⟨_,rfl,uY⟩;clear uY;obtain⟨oc,mi,uY⟩:=J1
          rcases uY with⟨rfl,rfl⟩ | rfl
          .cases yes with
           | true=>
            by_cases jL:0 < top
            .simp[jL,o4,pK]at bH;have qf:=(Aq @bQ (Aq @eG (Aq @iP (Aq @fC (Aq @mi (Aq @alC (Aq @alD (Aq @alE @jL))))))));refine au [3,4,6,7,15,16,17,65,66,67,120] [6,7,601,602] ?_;refine b8 (by simp[jL]) ?_;have qf:=(Aq @bQ (Aq @eG (Aq @iP (Aq @fC (Aq @mi alS)))));refine e6 kB [3,4,6,7,15,16,17,65,66,67] [6,7,601,602] ?_;refine ag fun nq gH=>aB [3,4,6,7,15,17,65,66,67,133] [6,7,601,602] ?_;refine al (ar ?_);refine gH _ (AW.norm [3,4,6,7,15,17,65,66,67] [6,7,601,602] aN (AW.st bB ?_));have qf:=(Aq @bQ (Aq @eG (Aq @iP (Aq @fC (Aq @Al alS)))));refine e6 eJ [3,4,6,7,65,66,67] [6,7,601,602] ?_;refine dN ?_;(try simp only[aV,aX]);refine bh.mk (n+1,(cW L4 key (.bool ((0:Int)+1 == top)),cW L5 key (.int .i64 ((0:Int)+1)))) ⟨aa,?_,?_⟩ aa ?_
             .rw[bH];exact kA jI _ _
             .rw[bH];exact kA jJ _ _
             .refine df
            .simp[jL,o4,pK]at bH;have qf:=(Aq @bQ (Aq @eG (Aq @iP (Aq @fC (Aq @mi (Aq @alC (Aq @alD (Aq @alE @jL))))))));refine au [3,4,6,7,15,16,17,65,66,67,120] [6,7,601,602] ?_;refine b9 (by simp[jL]) (ar ?_);refine kB _ (AW.norm [3,4,6,7,15,16,17,65,66,67] [6,7,601,602] aN (AW.st bB ?_));refine ag fun nq gH=>aB [3,4,6,7,15,17,65,66,67,133] [6,7,601,602] ?_;refine al (ar ?_);refine gH _ (AW.norm [3,4,6,7,15,17,65,66,67] [6,7,601,602] aN (AW.st bB ?_));have qf:=(Aq @bQ (Aq @eG (Aq @iP (Aq @fC (Aq @mi alS)))));refine e6 eJ [3,4,6,7,65,66,67] [6,7,601,602] ?_;refine dN ?_;(try simp only[aV,aX]);refine bh.mk (n+1,(cW L4 key (.bool ((0:Int) == top)),L5)) ⟨aa,?_,?_⟩ aa ?_
             .rw[bH];exact kA jI _ _
             .rw[bH];exact jJ
             .refine df
           | false=>
            simp[o4,pK]at bH;refine aB [3,4,6,7,15,16,17,65,66,67,120] [6,7,601,602] ?_;refine b9 ak ?_;refine ar ?_;refine kB _ (AW.norm [3,4,6,7,15,16,17,65,66,67] [6,7,601,602] aN (AW.st bB ?_));refine ag fun nq gH=>aB [3,4,6,7,15,17,65,66,67,133] [6,7,601,602] ?_;refine aJ ?_;have qf:=(Aq @bQ (Aq @eG (Aq @iP @fC)));refine e6 gH [3,4,6,7,15,17,65,66,67] [6,7,601,602] ?_;have qf:=(Aq @bQ (Aq @eG (Aq @iP (Aq @fC (Aq @Al alS)))));refine e6 eJ [3,4,6,7,65,66,67] [6,7,601,602] ?_;refine dN ?_;(try simp only[aV,aX]);refine bh.mk (n+1,(cW L4 key (.bool ((0:Int) == top)),cW L5 key (.int .i64 0))) ⟨aa,?_,?_⟩ aa ?_
            .rw[bH];exact kA jI _ _
            .rw[bH];exact kA jJ _ _
            .refine df
          .cases yes with
           | true=>
            by_cases jL:c < top
            .simp[jL,o4,pK]at bH;have qf:=(Aq @bQ (Aq @eG (Aq @iP (Aq @fC (Aq @mi (Aq @alC (Aq @alD (Aq @alE @jL))))))));refine au [3,4,6,7,15,16,17,65,66,67,120] [6,7,601,602] ?_;refine b8 (by simp[jL]) ?_;have qf:=(Aq @bQ (Aq @eG (Aq @iP (Aq @fC (Aq @mi alS)))));refine e6 kB [3,4,6,7,15,16,17,65,66,67] [6,7,601,602] ?_;refine ag fun nq gH=>aB [3,4,6,7,15,17,65,66,67,133] [6,7,601,602] ?_;refine al (ar ?_);refine gH _ (AW.norm [3,4,6,7,15,17,65,66,67] [6,7,601,602] aN (AW.st bB ?_));have qf:=(Aq @bQ (Aq @eG (Aq @iP (Aq @fC (Aq @Al alS)))));refine e6 eJ [3,4,6,7,65,66,67] [6,7,601,602] ?_;refine dN ?_;(try simp only[aV,aX]);refine bh.mk (n+1,(cW L4 key (.bool (c+1 == top)),cW L5 key (.int .i64 (c+1)))) ⟨aa,?_,?_⟩ aa ?_
             .rw[bH];exact kA jI _ _
             .rw[bH];exact kA jJ _ _
             .refine df
            .simp[jL,o4,pK]at bH;have qf:=(Aq @bQ (Aq @eG (Aq @iP (Aq @fC (Aq @mi (Aq @alC (Aq @alD (Aq @alE @jL))))))));refine au [3,4,6,7,15,16,17,65,66,67,120] [6,7,601,602] ?_;refine b9 (by simp[jL]) (ar ?_);refine kB _ (AW.norm [3,4,6,7,15,16,17,65,66,67] [6,7,601,602] aN (AW.st bB ?_));refine ag fun nq gH=>aB [3,4,6,7,15,17,65,66,67,133] [6,7,601,602] ?_;refine al (ar ?_);refine gH _ (AW.norm [3,4,6,7,15,17,65,66,67] [6,7,601,602] aN (AW.st bB ?_));have qf:=(Aq @bQ (Aq @eG (Aq @iP (Aq @fC (Aq @mi alS)))));refine e6 eJ [3,4,6,7,65,66,67] [6,7,601,602] ?_;refine dN ?_;(try simp only[aV,aX]);refine bh.mk (n+1,(cW L4 key (.bool (c == top)),L5)) ⟨aa,?_,?_⟩ aa ?_
             .rw[bH];exact kA jI _ _
             .rw[bH];exact jJ
             .refine df
           | false=>
            simp[o4,pK]at bH;refine aB [3,4,6,7,15,16,17,65,66,67,120] [6,7,601,602] ?_;refine b9 ak ?_;refine ar ?_;refine kB _ (AW.norm [3,4,6,7,15,16,17,65,66,67] [6,7,601,602] aN (AW.st bB ?_));refine ag fun nq gH=>aB [3,4,6,7,15,17,65,66,67,133] [6,7,601,602] ?_;refine aJ ?_;have qf:=(Aq @bQ (Aq @eG (Aq @iP @fC)));refine e6 gH [3,4,6,7,15,17,65,66,67] [6,7,601,602] ?_;have qf:=(Aq @bQ (Aq @eG (Aq @iP (Aq @fC (Aq @Al alS)))));refine e6 eJ [3,4,6,7,65,66,67] [6,7,601,602] ?_;refine dN ?_;(try simp only[aV,aX]);refine bh.mk (n+1,(cW L4 key (.bool ((0:Int) == top)),cW L5 key (.int .i64 0))) ⟨aa,?_,?_⟩ aa ?_
            .rw[bH];exact kA jI _ _
            .rw[bH];exact kA jJ _ _
            .refine df
         .simp at bH;refine aB [3,4,6,7,15,16,17,65,66,67,86,87] [6,7,601,602] ?_;refine al (aB [3,4,6,7,15,16,17,65,66,67,86,94] [6,7,601,602] ?_);refine al (aB [3,4,6,7,15,16,17,65,66,67,86,101] [6,7,601,602] ?_);refine al (ag fun ud mL=>?_);refine aB [3,4,6,7,15,16,17,65,66,67,86,108] [6,7,601,602] ?_;refine al (gR trivial mL [3,4,6,7,15,16,17,65,66,67,86,108] [6,7,601,602] ?_);refine aJ (ag fun xp kB=>?_);have J1:∃ oc,lO (.string key) (dX L5)=oc/\((oc=none/\c=0)\/oc=some (.v (.int .i64 c))):=⟨_,rfl,uY⟩;clear uY;obtain⟨oc,mi,uY⟩:=J1
          rcases uY with⟨rfl,rfl⟩ | rfl
          .cases yes with
           | true=>
            by_cases jL:0 < top
            .simp[jL,o4,pK]at bH;have qf:=(Aq @bQ (Aq @eG (Aq @iP (Aq @fC (Aq @mi (Aq @alC (Aq @alD (Aq @alE @jL))))))));refine au [3,4,6,7,15,16,17,65,66,67,120] [6,7,601,602] ?_;refine b8 (by simp[jL]) ?_;have qf:=(Aq @bQ (Aq @eG (Aq @iP (Aq @fC (Aq @mi alS)))));refine e6 kB [3,4,6,7,15,16,17,65,66,67] [6,7,601,602] ?_;refine ag fun nq gH=>aB [3,4,6,7,15,17,65,66,67,133] [6,7,601,602] ?_;refine al (ar ?_);refine gH _ (AW.norm [3,4,6,7,15,17,65,66,67] [6,7,601,602] aN (AW.st bB ?_));have qf:=(Aq @bQ (Aq @eG (Aq @iP (Aq @fC (Aq @Al alS)))));refine e6 eJ [3,4,6,7,65,66,67] [6,7,601,602] ?_;refine dN ?_;(try simp only[aV,aX]);refine bh.mk (n+1,(cW L4 key (.bool ((0:Int)+1 == top)),cW L5 key (.int .i64 ((0:Int)+1)))) ⟨aa,?_,?_⟩ aa ?_
             .rw[bH];exact kA jI _ _
             .rw[bH];exact kA jJ _ _
             .refine df
            .simp[jL,o4,pK]at bH;have qf:=(Aq @bQ (Aq @eG (Aq @iP (Aq @fC (Aq @mi (Aq @alC (Aq @alD (Aq @alE @jL))))))));refine au [3,4,6,7,15,16,17,65,66,67,120] [6,7,601,602] ?_;refine b9 (by simp[jL]) (ar ?_);refine kB _ (AW.norm [3,4,6,7,15,16,17,65,66,67] [6,7,601,602] aN (AW.st bB ?_));refine ag fun nq gH=>aB [3,4,6,7,15,17,65,66,67,133] [6,7,601,602] ?_;refine al (ar ?_);refine gH _ (AW.norm [3,4,6,7,15,17,65,66,67] [6,7,601,602] aN (AW.st bB ?_));have qf:=(Aq @bQ (Aq @eG (Aq @iP (Aq @fC (Aq @mi alS)))));refine e6 eJ [3,4,6,7,65,66,67] [6,7,601,602] ?_;refine dN ?_;(try simp only[aV,aX]);refine bh.mk (n+1,(cW L4 key (.bool ((0:Int) == top)),L5)) ⟨aa,?_,?_⟩ aa ?_
             .rw[bH];exact kA jI _ _
             .rw[bH];exact jJ
             .refine df
           | false=>
            simp[o4,pK]at bH;refine aB [3,4,6,7,15,16,17,65,66,67,120] [6,7,601,602] ?_;refine b9 ak ?_;refine ar ?_;refine kB _ (AW.norm [3,4,6,7,15,16,17,65,66,67] [6,7,601,602] aN (AW.st bB ?_));refine ag fun nq gH=>aB [3,4,6,7,15,17,65,66,67,133] [6,7,601,602] ?_;refine al (ar ?_);refine gH _ (AW.norm [3,4,6,7,15,17,65,66,67] [6,7,601,602] aN (AW.st bB ?_));have qf:=(Aq @bQ (Aq @eG (Aq @iP (Aq @fC (Aq @mi alS)))));refine e6 eJ [3,4,6,7,65,66,67] [6,7,601,602] ?_;refine dN ?_;(try simp only[aV,aX]);refine bh.mk (n+1,(cW L4 key (.bool ((0:Int) == top)),L5)) ⟨aa,?_,?_⟩ aa ?_
            .rw[bH];exact kA jI _ _
            .rw[bH];exact jJ
            .refine df
          .cases yes with
           | true=>
            by_cases jL:c < top
            .simp[jL,o4,pK]at bH;have qf:=(Aq @bQ (Aq @eG (Aq @iP (Aq @fC (Aq @mi (Aq @alC (Aq @alD (Aq @alE @jL))))))));refine au [3,4,6,7,15,16,17,65,66,67,120] [6,7,601,602] ?_;refine b8 (by simp[jL]) ?_;have qf:=(Aq @bQ (Aq @eG (Aq @iP (Aq @fC (Aq @mi alS)))));refine e6 kB [3,4,6,7,15,16,17,65,66,67] [6,7,601,602] ?_;refine ag fun nq gH=>aB [3,4,6,7,15,17,65,66,67,133] [6,7,601,602] ?_;refine al (ar ?_);refine gH _ (AW.norm [3,4,6,7,15,17,65,66,67] [6,7,601,602] aN (AW.st bB ?_));have qf:=(Aq @bQ (Aq @eG (Aq @iP (Aq @fC (Aq @Al alS)))));refine e6 eJ [3,4,6,7,65,66,67] [6,7,601,602] ?_;refine dN ?_;(try simp only[aV,aX]);refine bh.mk (n+1,(cW L4 key (.bool (c+1 == top)),cW L5 key (.int .i64 (c+1)))) ⟨aa,?_,?_⟩ aa ?_
             .rw[bH];exact kA jI _ _
             .rw[bH];exact kA jJ _ _
             .refine df
            .simp[jL,o4,pK]at bH;have qf:=(Aq @bQ (Aq @eG (Aq @iP (Aq @fC (Aq @mi (Aq @alC (Aq @alD (Aq @alE @jL))))))));refine au [3,4,6,7,15,16,17,65,66,67,120] [6,7,601,602] ?_;refine b9 (by simp[jL]) (ar ?_);refine kB _ (AW.norm [3,4,6,7,15,16,17,65,66,67] [6,7,601,602] aN (AW.st bB ?_));refine ag fun nq gH=>aB [3,4,6,7,15,17,65,66,67,133] [6,7,601,602] ?_;refine al (ar ?_);refine gH _ (AW.norm [3,4,6,7,15,17,65,66,67] [6,7,601,602] aN (AW.st bB ?_));have qf:=(Aq @bQ (Aq @eG (Aq @iP (Aq @fC (Aq @mi alS)))));refine e6 eJ [3,4,6,7,65,66,67] [6,7,601,602] ?_;refine dN ?_;(try simp only[aV,aX]);refine bh.mk (n+1,(cW L4 key (.bool (c == top)),L5)) ⟨aa,?_,?_⟩ aa ?_
             .rw[bH];exact kA jI _ _
             .rw[bH];exact jJ
             .refine df
           | false=>
            simp[o4,pK]at bH;refine aB [3,4,6,7,15,16,17,65,66,67,120] [6,7,601,602] ?_;refine b9 ak ?_;refine ar ?_;refine kB _ (AW.norm [3,4,6,7,15,16,17,65,66,67] [6,7,601,602] aN (AW.st bB ?_));refine ag fun nq gH=>aB [3,4,6,7,15,17,65,66,67,133] [6,7,601,602] ?_;refine al (ar ?_);refine gH _ (AW.norm [3,4,6,7,15,17,65,66,67] [6,7,601,602] aN (AW.st bB ?_));have qf:=(Aq @bQ (Aq @eG (Aq @iP (Aq @fC (Aq @mi alS)))));refine e6 eJ [3,4,6,7,65,66,67] [6,7,601,602] ?_;refine dN ?_;(try simp only[aV,aX]);refine bh.mk (n+1,(cW L4 key (.bool (c == top)),L5)) ⟨aa,?_,?_⟩ aa ?_
            .rw[bH];exact kA jI _ _
            .rw[bH];exact jJ
            .refine df
         .simp at bH;refine aB [3,4,6,7,15,16,17,65,66,67,86,87] [6,7,601,602] ?_;refine al (aB [3,4,6,7,15,16,17,65,66,67,86,94] [6,7,601,602] ?_);refine al (aB [3,4,6,7,15,16,17,65,66,67,86,101] [6,7,601,602] ?_);refine al (ag fun ud mL=>?_);refine aB [3,4,6,7,15,16,17,65,66,67,86,108] [6,7,601,602] ?_;refine al (gR trivial mL [3,4,6,7,15,16,17,65,66,67,86,108] [6,7,601,602] ?_);refine al (aB [3,4,6,7,15,16,65,66,67,149] [6,7,601,602] ?_);refine aJ (aB [3,4,6,7,15,65,66,67,151] [6,7,601,602] ?_)
          cases yes with
          | true=>
           simp at bH;refine aJ (sJ (aC _) ah [(1,7),(3,999),(5,7),(7,999),(8,602),(9,601)] ah fun K' ao=>?_);(repeat refine jC fun Kq af=>?_;simp[bQ,eG,iP,fC];(repeat refine⟨aa,?_⟩);refine af _ ?_);refine kN (ao _ ?_);refine eJ _ (AW.norm [3,4,6,7,65,66,67] [6,7,601,602] aN (AW.st (by simp[bQ,eG,iP,fC];rfl) ?_));refine dN ?_;(try simp only[aV,aX]);refine bh.mk (n+1,(cW L4 key (.bool false),cW L5 key (.int .i64 0))) ⟨aa,?_,?_⟩ aa ?_
           .rw[bH];exact kA jI _ _
           .rw[bH];exact kA jJ _ _
           .refine df
          | false=>
           simp at bH;refine al (ar ?_);refine eJ _ (AW.norm [3,4,6,7,65,66,67] [6,7,601,602] aN (AW.st bB ?_));refine dN ?_;(try simp only[aV,aX]);refine bh.mk (n+1,(L4,L5)) ⟨aa,?_,?_⟩ aa ?_
           .rw[bH];exact jI
           .rw[bH];exact jJ
           .refine df
        .have bf:n=p.ax.length:=aa
         have Y6:=PB bf;refine b9 (by simp<;>omega) ?_;refine b5 (eX _ (aB [6] [6,7,601,602] ?_));have iX:=OX jI FA.1;have gB:=OX jJ FA.2;refine bT ?_;simp[D.le,D.le.go,aR,Y6,r9,iX,gB]
theorem SY {p:aS} (hg:kS p) {i:Nat} (hi:i < p.names.length):dh p p.names[i]<=8:=by
 have h5:=hg.count _ (By hi);unfold dh;split
 .rcases h5 with h5 | h5<;>omega
 .split
  .omega
  .split<;>omega
def na (p:aS) (k:Nat):Int:=bZ (gQ p k)
theorem MA (p:aS):na p 0=1:=rfl
theorem Ta (p:aS):na p p.names.length=bZ (bO p):=rfl
theorem Hb {p:aS} (hg:kS p) {i:Nat} (hi:i < p.names.length):na p (i+1)=if dh p p.names[i]=0 then na p i else na p i * dh p p.names[i]:=adU hg hi
theorem DU {p:aS} (hg:kS p):∀ k,k<=p.names.length->0 < na p k
 | 0,_=>by rw[MA];decide
 | k+1,h=>by
  have ih:=DU hg k aa;have hk:=wY hg (show k < p.names.length by omega);rw[Hb hg aa];split
  .exact ih
  .exact Int.mul_pos ih aa
theorem Tc {p:aS} (hg:kS p) {k:Nat} (h:k < p.names.length):na p k<=na p (k+1):=by
 have ih:=DU hg k aa;have hk:=wY hg h;rw[Hb hg h];split
 .exact als _
 .have:=akC (show (1:Int)<=dh p p.names[k] by omega) (ak6 ih);rw[Int.mul_one]at this;exact this
theorem Tb {p:aS} (hg:kS p):∀ d k,k+d<=p.names.length->na p k<=na p (k+d)
 | 0,_,_=>als _
 | d+1,k,h=>by
  have h1:=Tb hg d k aa;have h2:=Tc hg (show k+d < p.names.length by omega)
  have:k+(d+1)=k+d+1:=aa
  rw[this];omega
theorem adR {p:aS} (hg:kS p) {k:Nat} (h:k<=p.names.length):na p k<=bZ (bO p):=by
 have:=Tb hg (p.names.length - k) k aa;rw[show k+(p.names.length - k)=p.names.length by omega]at this;exact this
def mJ (p:aS):Nat->Int
 | 0=>1
 | k+1=>if 0 < (fM p).getD k 0/\mJ p k<=4096 then mJ p k * (fM p).getD k 0 else mJ p k
theorem TY {p:aS} {k:Nat} (h:k < p.names.length):(fM p).getD k 0=dh p p.names[k]:=by
 have:k < (fM p).length:=by simpa[fM]using h
 rw[dV this];simp[fM]
theorem Fi {p:aS} (hg:kS p):∀ k,k<=p.names.length->(na p k<=4096/\mJ p k=na p k)\/(4096 < na p k/\4096 < mJ p k/\mJ p k<=32768)
 | 0,_=>.inl ⟨by rw[MA];decide,by rw[MA];rfl⟩
 | k+1,h=>by
  have hk:k < p.names.length:=aa
  have ih:=Fi hg k aa;have h1:=Hb hg hk;have h2:=wY hg hk;have h3:=SY hg hk;have h4:=Tc hg hk;have h5:=DU hg k aa;rw[mJ,TY hk]
  rcases ih with⟨i1,i2⟩ | ⟨i1,i2,i3⟩
  .rw[i2];by_cases hz:dh p p.names[k]=0
   .rw[if_pos hz]at h1;rw[if_neg aa,h1];exact .inl ⟨i1,rfl⟩
   .rw[if_neg hz]at h1;rw[if_pos ⟨aa,i1⟩,h1];have h6:=Int.mul_le_mul i1 h3 h2 bF;by_cases hb:na p k * dh p p.names[k]<=4096
    .exact .inl ⟨hb,rfl⟩
    .exact .inr ⟨aa,aa,aa⟩
  .rw[if_neg aa];exact .inr ⟨aa,i2,i3⟩
def pj (p:aS):Bool:=decide (4096 < bZ (bO p)) || decide (6 < (bA p).length)
def vl (p:aS) (most:Int):Bool:=!pj p && (decide (most < bZ (bO p)) || decide (4 < (bA p).length))
theorem Yx {p:aS} (hg:kS p):(decide (4096 < mJ p p.names.length) || decide (6 < (bA p).length))=pj p:=by
 unfold pj;have h:=Fi hg p.names.length (ajJ _);rw[Ta]at h
 rcases h with⟨h1,h2⟩ | ⟨h1,h2,_⟩
 .rw[h2]
 .rw[decide_eq_true h1,decide_eq_true h2]
theorem Yw {p:aS} (hg:kS p) (most:Int):(!pj p && (decide (most < mJ p p.names.length) || decide (4 < (bA p).length)))=vl p most:=by
 unfold vl;have h:=Fi hg p.names.length (ajJ _);rw[Ta]at h
 rcases h with⟨h1,h2⟩ | ⟨h1,h2,_⟩
 .rw[h2]
 .have:pj p=true:=by unfold pj;rw[decide_eq_true h1];rfl
  rw[this];rfl
theorem Yy (G:ay) (hM:k9 G) (p:aS) (bn:c8 p=none) (hk:∀ r∈p.ax,qj r) (most:Int):aD prog G 115 [eF p,ab most] (.bz [.v (.bool (pj p)),.v (.bool (vl p most))]):=by
 have hg:=iB bn;have iF:=hg.names;have nF:=Hr G hM p bn hk;have gZ:=HP G p aa 1;have oX:jQ p.names 1 p.names.length=bA p:=rfl;rw[oX]at gZ;simp only[eF,gr,cE,fI]at nF gZ
 have eK:(fM p).length=p.names.length:=by simp[fM]
 have x8:∀ k (h:k < (fM p).length),mJ p (k+1)=if 0 < (fM p)[k]/\mJ p k<=4096 then mJ p k * (fM p)[k] else mJ p k:=fun k h=>by rw[mJ,dV h]
 have hgb:∀ k,k<=(fM p).length->0 < mJ p k/\mJ p k<=32768:=fun k h=>by
  have h1:=Fi hg k aa;have h2:=DU hg k aa
  rcases h1 with⟨h1,h3⟩ | ⟨_,h1,h3⟩<;>omega
 have Zm:∀ k (h:k < (fM p).length),0<=(fM p)[k]/\(fM p)[k]<=8:=fun k h=>by
  have h1:=wY hg (show k < p.names.length by omega);have h2:=SY hg (show k < p.names.length by omega);rw[<- TY aa,dV h]at h1 h2;exact⟨h1,h2⟩
 have KP:=Yx hg;have rE:=Yw hg most;have dB:=yP p.names 1 p.names.length;rw[oX]at dB;rw[<- eK]at KP rE;rw[<- rE,<- KP];clear KP rE;have An:mJ p 0=1:=rfl;generalize mJ p=g at *;generalize fM p=RP at *
 have pE:((bA p).map fun x=>[D.v (.int .i64 x)]).length=(bA p).length:=ak
 generalize ((bA p).map fun x=>[D.v (.int .i64 x)])=IN at *;generalize (bA p).length=m at *;simp only[eF,gr,cE,ab];generalize p.names.map bw=NN at *;generalize p.ax.map eo=RR at *;refine aD.aQ (aC _) func115 rfl rfl (rs:=[.tmp 4,.tmp 5]) results115 (by simp[ntmps115]) fun X=>?_;simp only[ntmps115,List.map];refine aB [1,2] [2] ?_;refine gv 2 ?_;refine aB [1,2,6] [] ?_;refine ag fun K1 aF=>br trivial nF [1,2,6,7,8] [] ?_;refine cG (S:=Nat) (fun k=>k<=RP.length) (fun k=>⟨bp [(1,int most),(2,.d (.ip [.sl none NN,.sl none RR])),(6,int (g k)),(7,int k),(8,.d (.sl none (RP.map fun x=>[.v (.int .i64 x)])))],aq []⟩) (fun k=>RP.length - k) 0 ?_ aa ?_
 .rw[An];refine df
 .intro k mR;refine ag fun K2 aw=>?_;have qC:=x8 k;have hb:=hgb k mR
  have we:k=RP.length->g RP.length=g k:=fun e=>by rw[e]
  generalize om:g k=v at qC hb we ⊢;refine aB [1,2,6,7,8,15] [] ?_;refine fG (b:=k < RP.length) (by simp[D.le,D.le.go,aR]) (fun hc=>?_) (fun hc=>?_)
  .have qC:=qC hc;have hR:=Zm k hc;refine ar (aw _ (ag fun K3 aZ=>bg ?_));generalize gY:RP[k]=K at qC hR;by_cases hp:K > 0
   .by_cases hv:v<=4096
    .rw[if_pos ⟨hp,hv⟩]at qC;have hw:=Int.mul_le_mul hv hR.2 hR.1 bF;have qL:=alr (ak6 hb.1) hR.1;have qf:=(Aq @hc (Aq @gY (Aq @hp @hv)));refine au [1,2,6,7,8,26] [] ?_;refine b8 (by simp[hp,hv]) ?_;have qf:=(Aq @hc @gY);refine e6 aZ [1,2,6,7,8] [] ?_;refine dN ?_;(try simp only[aV,aX]);refine bh.mk (k+1) aa aa ?_;rw[qC];refine df
    .rw[if_neg (fun h=>hv h.2)]at qC;have qf:=(Aq @hc (Aq @gY (Aq @hp @hv)));refine au [1,2,6,7,8,26] [] ?_;refine b9 (by simp[hp,hv]) (ar (aZ _ ?_));refine dN ?_;(try simp only[aV,aX]);refine bh.mk (k+1) aa aa ?_;rw[qC];refine df
   .rw[if_neg (fun h=>hp h.1)]at qC;have qf:=(Aq @hc (Aq @gY @hp));refine au [1,2,6,7,8,26] [] ?_;refine b9 (by simp[hp]) (ar (aZ _ ?_));refine dN ?_;(try simp only[aV,aX]);refine bh.mk (k+1) aa aa ?_;rw[qC];refine df
  .have kX:k=RP.length:=aa
   refine b5 (aF _ ?_);rw[we kX];clear qC om we;by_cases h1:v > 4096
   .have qf:=@h1;refine au [1,2,6,9] [] ?_;have qf:=@h1;refine au [4,5] [] ?_;exact aU @h1
   .by_cases h2:(m:Int) > 6
    .have Fp:6 < m:=aa
     have Fo:¬ m<=6:=aa
     have qf:=(Aq @h1 (Aq @h2 @pE));refine e7 gZ [1,2,6,9] [] ?_;have qf:=(Aq @h1 @h2);refine au [4,5] [] ?_;exact aU (Aq @h1 (Aq @h2 (Aq @Fp @Fo)))
    .have Fp:m<=6:=aa
     have Fo:¬ 6 < m:=aa
     have h4:((4:Int) < (m:Int))=(4 < m):=propext aa;by_cases h3:v > most
     .have qf:=(Aq @h1 (Aq @h2 @pE));refine e7 gZ [1,2,6,9] [] ?_;have qf:=(Aq @h1 (Aq @h2 @h3));refine au [4,5] [] ?_;exact aU (Aq @h1 (Aq @h2 (Aq @h3 (Aq @Fp @Fo))))
     .have qf:=(Aq @h1 (Aq @h2 @pE));refine e7 gZ [1,2,6,9] [] ?_;have qf:=(Aq @h1 (Aq @h2 (Aq @h3 @pE)));refine e7 gZ [4,5] [] ?_;exact aU (Aq @h1 (Aq @h2 (Aq @h3 (Aq @Fp (Aq @Fo @h4)))))
theorem aia (G:ay) (hM:k9 G) (p:aS) (bn:c8 p=none) (hk:∀ r∈p.ax,qj r) (aO:(bA p).length<=6) (hP:bZ (bO p)<=4096):aD prog G 116 [eF p] (.bz [sP p (bZ (bO p)) ((2 ^ (bA p).length:Nat):Int) (fL (bl p)),.v (.bool true)]):=by
 have hg:=iB bn;have iF:=hg.names;have gZ:=HP G p aa 1;have oX:jQ p.names 1 p.names.length=bA p:=rfl;rw[oX]at gZ;have nF:=Hr G hM p bn hk;have vb:=fun (nx:List (List D)) (n:Nat) (h1:(n:Int) < 4096)=>aim G hM p bn hk (bZ (bO p)) ((2 ^ (bA p).length:Nat):Int) nx n aa aa;have u0:=fun (nx:List (List D)) (n:Nat) (h1:n < 64)=>ah8 G p bn (bZ (bO p)) ((2 ^ (bA p).length:Nat):Int) nx n aa aa aO;have pX:=fun n:Nat=>acH bn (n:Int) aa;have xW:=fun (s:Nat) (i:Nat)=>agn G p bn hk (pt p s) (Br bn s) (iu i (bA p).length) (Dm _ _) _ _ (pX s);have oV:=fun (s:Nat) (i:Nat)=>acJ bn (Br bn s) (iu i (bA p).length) (m:=((nI p s p.names.length).2.1,(nI p s p.names.length).2.2)) (pX s);have JW:=fun (s:Nat) (i:Nat)=>(IW bn (Br bn s) (iu i (bA p).length)).1;have cu:=fun (nx:List (List D)) (s i:Nat)=>aic G hM p bn hk (bZ (bO p)) ((2 ^ (bA p).length:Nat):Int) nx (rm p (pt p s) (iu i (bA p).length)) (JW s i) hP _ _ (oV s i);have qF:0 < bZ (bO p):=oJ fun x hx=>(nJ hg hx).m2;have ff:=fun k (h:k < p.names.length)=>Hb hg h;have mW:=fun k (h:k<=p.names.length)=>DU hg k h;have eY:=fun k (h:k<=p.names.length)=>adR hg h;have fE:na p p.names.length=bZ (bO p):=rfl;have F8:na p 0=1:=rfl
 have eK:(fM p).length=p.names.length:=by simp[fM]
 have uL:∀ i (hi:i < p.names.length),(fM p)[i]? = some (dh p p.names[i]):=fun i hi=>by simp[fM,hi]
 have Jq:=fun i (hi:i < p.names.length)=>wY hg hi;have rF:=fun s (h:s < (bl p).length)=>SC h;have fD:=sC p;have C7:=fun s i (h:i < 2 ^ (bA p).length)=>TU (p:=p) (s:=s) h;have fq:=fun s=>y6 p (bA p).length s
 have Pj:2 ^ (bA p).length<=64:=by
  have:=akR (n:=2) aa aO;omega
 simp only[tI,ab,BW,mG]at vb u0 cu xW;simp only[eF,gr,cE,sP,uq,fI]at gZ nF xW vb u0 cu rF ⊢;generalize bl p=r7 at *;generalize Co:p8 p (bA p).length=Es at *;clear Co;generalize fM p=RP at *;generalize na p=PN at *
 have pE:((bA p).map fun x=>[D.v (.int .i64 x)]).length=(bA p).length:=ak
 generalize ((bA p).map fun x=>[D.v (.int .i64 x)])=IN at *;generalize (bA p).length=m at *;generalize p.names.map bw=NN at *;generalize p.ax.map eo=RR at *;refine aD.aQ (aC _) func116 rfl rfl (rs:=[.tmp 2,.tmp 3]) results116 (by simp[ntmps116]) fun X=>?_;simp only[ntmps116,List.map];have fw:=@alv;refine ae fw [1] [1] ?_;refine dT fw 1 ?_;refine ae fw [1,4] [12] ?_;refine ag fun K1 aF=>?_
 have s6:¬ (IN.length:Int) > 6:=aa
 have qf:=(Aq fw @s6);refine e7 gZ [1,4,16] [12] ?_;refine b9 (by simp<;>omega) ?_;refine ar (aF _ (ag fun K2 aw=>br fw gZ [1,4,19,20] [12] ?_));refine cG (S:=Nat) (fun k=>k<=m) (fun k=>⟨bp [(1,.d (.ip [.sl none NN,.sl none RR])),(4,.ref 12 0 0),(19,int m),(20,int k)],aq [(12,.box 99 [.d (.sl none NN),.d (.sl none RR),int 1,int ((2 ^ k:Nat):Int),.d (.sl (some false) [])])]⟩) (fun k=>m - k) 0 ?_ aa ?_
 .refine bt (Aq fw @pE)
 .intro k F0;have Pk:2 ^ k<=64:=ald (akR bF F0) Pj;have Pm:0 < 2 ^ k:=Nat.pow_pos bF
  have Jh:((2 ^ (k+1):Nat):Int)=((2 ^ k:Nat):Int) * 2:=by rw[Nat.pow_succ];omega
  generalize wA:2 ^ k=w at Pk Pm Jh ⊢;refine ae fw [1,4,19,20,21] [12] ?_;refine ag fun K3 aZ=>fG (b:=k < m) (by simp[D.le,D.le.go,aR,ab]) (fun hc=>?_) (fun hc=>?_)
  .refine ar (aZ _ (ag fun K4 cr=>bg (gR fw cr [1,4,19,20] [12] ?_)));refine cD fw ?_;(try simp only[aV,aX]);refine bh.mk (k+1) aa aa ?_;rw[Jh];refine bt fw
  .obtain rfl:m=k:=aa
   rw[<- wA];clear wA Jh Pm Pk;refine b5 (aw _ (ag fun K5 cg=>br fw nF [1,4,31,32,33] [12] ?_));refine cG (S:=Nat) (fun j=>j<=p.names.length) (fun j=>⟨bp [(1,.d (.ip [.sl none NN,.sl none RR])),(4,.ref 12 0 0),(31,.d (.sl none (RP.map fun x=>[.v (.int .i64 x)]))),(32,int RP.length),(33,int j)],aq [(12,.box 99 [.d (.sl none NN),.d (.sl none RR),int (PN j),int ((2 ^ m:Nat):Int),.d (.sl (some false) [])])]⟩) (fun j=>p.names.length - j) 0 ?_ aa ?_
   .rw[F8];refine bt fw
   .intro j hj;have hq:=ff j;have pU:=mW j hj;have KM:=eY j hj;have kZ:=fun h:j < p.names.length=>eY (j+1) h;generalize hQ:PN j=Q at hq pU KM ⊢;refine ae fw [1,4,31,32,33,34] [12] ?_;refine ag fun K6 eB=>?_;by_cases aH:j < p.names.length
    .have rD:j < RP.length:=aa
     refine b8 (by simp[rD]) (ar (eB _ ?_));refine ag fun K7 eO=>bg ?_;have hq:=hq aH;have kZ:=kZ aH
     have PQ:RP[j]=dh p p.names[j]:=by
      have:=uL j aH;rw[AT rD]at this;exact AI this
     have ru:=Jq j aH;generalize dh p p.names[j]=K at hq PQ ru;have qf:=(Aq fw (Aq @rD @PQ));refine au [1,4,6,31,32,33] [12] ?_;refine ag fun K8 eX=>?_;by_cases hz:K=0
     .subst hz;rw[if_pos rfl]at hq;refine ae fw [1,4,6,31,32,33,38] [12] ?_;refine al ?_
      have Jy:¬ Q > 4096:=aa
      refine ar (eX _ ?_);have qf:=(Aq fw @Jy);refine au [1,4,31,32,33,51] [12] ?_;refine b9 (by simp<;>omega) ?_;refine ar (eO _ (cD fw ?_));(try simp only[aV,aX]);refine bh.mk (j+1) aa aa ?_;rw[hq];refine bt fw
     .rw[if_neg hz]at hq
      have YV:K > 0:=aa
      have hQ0:0<=Q * K:=alr (ak6 pU) ru
      have Jy:¬ Q * K > 4096:=aa
      have qf:=(Aq fw @YV);refine au [1,4,6,31,32,33,38] [12] ?_;refine b8 (by simp<;>omega) ?_;refine gR fw eX [1,4,31,32,33] [12] ?_;have qf:=(Aq fw @Jy);refine au [1,4,31,32,33,51] [12] ?_;refine b9 (by simp<;>omega) ?_;refine ar (eO _ (cD fw ?_));(try simp only[aV,aX]);refine bh.mk (j+1) aa aa ?_;rw[hq];refine bt fw
    .obtain rfl:j=p.names.length:=aa
     rw[fE]at hQ;subst hQ;refine b9 (by simp<;>omega) ?_;refine b5 (cg _ (ag fun K9 j2=>?_));obtain⟨S,hS⟩:∃ S:Nat,bZ (bO p)=(S:Int):=ajL aa;rw[hS]at fD hP vb u0 cu ⊢;rw[ajI]at fD;refine ae fw [1,4,56,57] [12] ?_;refine cG (S:=Nat) (fun s=>s<=S) (fun s=>⟨bp [(1,.d (.ip [.sl none NN,.sl none RR])),(4,.ref 12 0 0),(56,int S),(57,int s)],aq [(12,.box 99 [.d (.sl none NN),.d (.sl none RR),int S,int ((2 ^ m:Nat):Int),.own 800 0 s]),(800,.sl 41 1 (fL (r7.take s)))]⟩) (fun s=>S - s) 0 ?_ aa ?_
     .refine (aM.r8 12 4 800 41 1 rfl rfl rfl).trans ?_;refine bt (Aq fw @fL.eq_1)
     .intro s KU;have jq:=rF s
      have lv:(fL (r7.take s)).length=s:=by rw[Bc,ajW];omega
      have Ck:s=S->fL (r7.take s)=fL r7:=fun e=>by rw[sh aa]
      generalize fL (r7.take s)=NX at jq lv Ck ⊢;refine ae fw [1,4,56,57,58] [12,800] ?_;refine ag fun nS eJ=>fG (b:=s < S) (by simp[D.le,D.le.go,aR,ab]) (fun hc=>?_) (fun hc=>?_)
      .refine ar (eJ _ (ag fun ud mL=>bg ?_));have CX:=jq aa;have vc:=vb NX s aa;have Kj:=u0 NX;have Ak:=xW s;have Ay:=fun i=>cu NX s i;have yp:=fun i h=>C7 s i h;have KQ:=fq s;generalize pt p s=D8 at Ak Ay yp;generalize nI p s p.names.length=ms at vc Ak Ay;generalize FF:Es s=RS at CX yp KQ;refine ae fw [1,4,7,56,57] [12,800] ?_;refine ae fw [1,4,7,8,56,57] [12,800] ?_;refine ag fun xp kB=>ae fw [1,4,7,8,56,57,63,64] [12,800] ?_;refine cG (S:=Nat) (fun i=>i<=2 ^ m) (fun i=>⟨bp [(1,.d (.ip [.sl none NN,.sl none RR])),(4,.ref 12 0 0),(7,int s),(8,.own 902 0 i),(56,int S),(57,int s),(63,int ((2 ^ m:Nat):Int)),(64,int i)],aq [(12,.box 99 [.d (.sl none NN),.d (.sl none RR),int S,int ((2 ^ m:Nat):Int),.own 800 0 s]),(800,.sl 41 1 NX),(902,.sl 3 1 ((RS.take i).map fun x=>[.v (.int .i64 x)]))]⟩) (fun i=>2 ^ m - i) 0 ?_ aa ?_
       .refine (aM.nU 8 902 3 1 rfl rfl).trans ?_;refine bt fw
       .intro i lz;have C6:=yp i
        have gl:((RS.take i).map fun x=>[D.v (.int .i64 x)]).length=i:=by simp;omega
        generalize jK:RS.take i=RI at C6 gl ⊢;refine ae fw [1,4,7,8,56,57,63,64,65] [12,800,902] ?_;refine ag fun nq gH=>?_;by_cases dM:i < 2 ^ m
        .have Ap:(i:Int) < ((2 ^ m:Nat):Int):=by exact_mod_cast dM
         refine b8 (by simpa using Ap) (ar (gH _ ?_));refine ag fun BF uI=>bg ?_;have yn:=C6 dM;have x9:=Kj i aa;have uU:=Ak i;have rG:=Ay i;generalize A6 p D8 (iu i m) ms.2=md at uU rG;generalize rm p D8 (iu i m)=d1 at rG yn;generalize iu i m=ib at x9 uU;generalize gF (bO p) d1=v1 at rG yn;obtain⟨_,I1,C1⟩:=ms;obtain⟨I2,C2⟩:=md;dsimp only at vc uU rG;rw[lv]at vc x9 rG;refine ae fw [1,4,7,8,9,56,57,63,64] [12,800,902] ?_;refine NP (aC _) ah ([12]) ([]) ([5,8,10]) ([(2,.d (.ip [.sl none NN,.sl none RR]))]) (List.range 14) ah fun K' ao=>?_;(repeat refine nj rfl fun K2 aw=>?_;simp[ab,gl,sh];(repeat refine⟨aa,?_⟩);refine aw _ ?_;clear aw K2);refine nj rfl fun K2 aw=>?_;simp[ab,gl,sh];refine uP.mc (vc) (by simp[ab,gl,sh]) (by simp[ab,gl,sh]) (by simp[ab,gl,sh]) (by simp[ab,gl,sh]) (by simp[ab,gl,sh]) (by simp[ab,gl,sh]) (by simp[j0,ab,gl,sh]) ?_;simp[ab,gl,sh];refine aw _ ?_;clear aw K2;(repeat refine nj rfl fun K2 aw=>?_;simp[ab,gl,sh];(repeat refine⟨aa,?_⟩);refine aw _ ?_;clear aw K2);refine nj rfl fun K2 aw=>?_;simp[ab,gl,sh];refine uP.mc (x9) (by simp[ab,gl,sh]) (by simp[ab,gl,sh]) (by simp[ab,gl,sh]) (by simp[ab,gl,sh]) (by simp[ab,gl,sh]) (by simp[ab,gl,sh]) (by simp[j0,ab,gl,sh]) ?_;simp[ab,gl,sh];refine aw _ ?_;clear aw K2;(repeat refine nj rfl fun K2 aw=>?_;simp[ab,gl,sh];(repeat refine⟨aa,?_⟩);refine aw _ ?_;clear aw K2);refine nj rfl fun K2 aw=>?_;simp[ab,gl,sh];refine sb.mk (uU) bB bB (by first | exact D.bR _ | simp[aR,ajN,ajG,D.le,D.le.go,D.le_refl,D.bR,ab,gl,sh]) ak ?_;refine aw _ ?_;clear aw K2;simp only[aL,dL];(repeat refine nj rfl fun K2 aw=>?_;simp[ab,gl,sh];(repeat refine⟨aa,?_⟩);refine aw _ ?_;clear aw K2);refine nj rfl fun K2 aw=>?_;simp[ab,gl,sh];refine uP.mc (rG) (by simp[ab,gl,sh]) (by simp[ab,gl,sh]) (by simp[ab,gl,sh]) (by simp[ab,gl,sh]) (by simp[ab,gl,sh]) (by simp[ab,gl,sh]) (by simp[j0,ab,gl,sh]) ?_
         simp[ab,gl,sh];refine aw _ ?_;clear aw K2;(repeat refine nj rfl fun K2 aw=>?_;simp[ab,gl,sh];(repeat refine⟨aa,?_⟩);refine aw _ ?_;clear aw K2);refine UH (ao _ ?_);refine uI _ (AW.norm [1,4,7,8,56,57,63,64] [12,800,902] aN (AW.st (by simp[ab,gl,sh];rfl) ?_));refine cD fw ?_;(try simp only[aV,aX]);refine bh.mk (i+1) aa aa ?_;rw[yn];refine bt fw
        .obtain rfl:i=2 ^ m:=aa
         have xR:RI=RS:=by rw[<- jK];exact sh aa
         subst xR;refine b9 ak ?_;refine b5 (kB _ (AW.imp (aM.freeze 902 trivial) ?_));refine AW.st (by simp[ab,gl,sh];rfl) ?_;refine fH (aC _) fun K' ao=>?_;(repeat refine aK fun Kq af=>?_;simp[ab,lv,sh];(repeat refine⟨aa,?_⟩);refine af _ ?_);refine bJ (ao _ ?_);refine mL _ (AW.norm [1,4,56,57] [12,800] aN (AW.st (by simp[ab,lv,sh];rfl) ?_));refine cD fw ?_;(try simp only[aV,aX]);refine bh.mk (s+1) aa aa ?_;rw[CX];refine bt fw
      .obtain rfl:s=S:=aa
       obtain rfl:=Ck rfl;refine b5 (j2 _ (AW.imp (aM.freeze 800 trivial) ?_));refine AW.st (by simp[ab,lv,sh];rfl) ?_;refine ae fw [2,3] [12] ?_;exact aU (Aq fw @hS)
theorem WG (G:ay) (hF:vB G) (hM:k9 G) (hP:sL G) (hG:ra G) {es er:Value} (hE:uc G es er) (rv:BD G) (ry:BE G) (t:Tx):aD prog G 27 [dS t] (zG (y4 t)):=by
 have hp:=acp G hM hP hG hE t;have hw:=agm G hF hM hP hE rv ry t;unfold y4;simp only[dS]at hp hw ⊢;by_cases hl:1500 < t.length
 .have fo:(1500:Int) < (t.length:Int):=aa
  rw[if_pos hl];simp only[zG,IP,IQ];refine aD.aQ (aC _) func27 rfl rfl (rs:=[.cell 2 28,.cell 3 62,.tmp 4]) results27 (by simp[ntmps27]) fun X=>?_;simp only[ntmps27,List.map];refine aB [0,2,3] [2,3] ?_;refine ag fun K1 aF=>?_;have qf:=(Aq @bN @fo);refine au [0,2,3,11] [2,3] ?_;refine b8 (by simp[fo]) (aB [2,3,4] [2,3] ?_);exact gn
 .have fo:¬ (1500:Int) < (t.length:Int):=aa
  rw[if_neg hl]
  cases fE:(jT t).1 with
  | none=>
   obtain⟨q,hq⟩:∃ q,jT t=(none,q):=⟨(jT t).2,by rw[<- fE]⟩;rw[hq]at hp hw ⊢;simp only[zG,bD,gu,gX,eF,gr,cE,fg,dz,codeF,ch,ab]at hp hw ⊢;generalize q.names.map bw=NN at *;generalize q.ax.map cU=RR at *;generalize q.ax.map eo=RW at *;refine aD.aQ (aC _) func27 rfl rfl (rs:=[.cell 2 28,.cell 3 62,.tmp 4]) results27 (by simp[ntmps27]) fun X=>?_;simp only[ntmps27,List.map];refine aB [0,2,3] [2,3] ?_;refine ag fun K1 aF=>?_;have qf:=(Aq @bN @fo);refine au [0,2,3,11] [2,3] ?_;refine b9 (by simp<;>omega) ?_;refine ar (aF _ (br trivial hw [0,2,3,5,6] [2,3,5,6] ?_));refine gv 5 ?_;refine gv 6 ?_;refine ag fun K2 aw=>aB [0,2,3,5,21] [2,3] ?_;refine al (ar (aw _ ?_));refine br trivial hp [2,3,5,7] [2,3,7] ?_;refine gv 7 ?_;refine px (aC _) ah [(0,999),(1,999),(2,2),(3,3)] [2,3,4] [2,3] aN ah fun K' ao=>?_;(repeat refine jC fun Kq af=>?_;simp;(repeat refine⟨aa,?_⟩);refine af _ ?_);refine kN (ao _ ?_);refine AW.st bB ?_;exact gn
  | some e=>
   have h2:=adq fE
   have hq:jT t=(some e,⟨[],[]⟩):=by rw[<- fE,<- h2]
   rw[hq]at hw ⊢;obtain⟨c,o⟩:=e;have jh:=adp fE;simp only[zG,IP,IQ,dz,codeF,ab]at hw ⊢;generalize ch (some (c,o))=pl at hw;refine aD.aQ (aC _) func27 rfl rfl (rs:=[.cell 2 28,.cell 3 62,.tmp 4]) results27 (by simp[ntmps27]) fun X=>?_;simp only[ntmps27,List.map];refine aB [0,2,3] [2,3] ?_;refine ag fun K1 aF=>?_;have qf:=(Aq @bN @fo);refine au [0,2,3,11] [2,3] ?_;refine b9 (by simp<;>omega) ?_;refine ar (aF _ (br trivial hw [0,2,3,5,6] [2,3,5,6] ?_));refine gv 5 ?_;refine gv 6 ?_;refine ag fun K2 aw=>aB [0,2,3,5,21] [2,3] ?_;refine b8 (by simp[jh]) (aB [2,3,4] [2,3] ?_);exact gn
def pZ (p:aS):Nat:=2 ^ (bA p).length
def qp (p:aS):D:=ri p (bZ (bO p)) ((pZ p:Nat):Int) (fL (bl p))
theorem DY {p:aS} (h:pj p=false):bZ (bO p)<=4096/\(bA p).length<=6:=by
 unfold pj at h;simp at h;exact h
theorem acL {p:aS} {most:Int} (h:pj p=false) (h2:vl p most=false):bZ (bO p)<=most/\(bA p).length<=4:=by
 unfold vl at h2;rw[h]at h2;simp at h2;exact h2
def uz (p:aS):D:=sP p (bZ (bO p)) ((pZ p:Nat):Int) (fL (bl p))
def Dv (t:Tx) (most:Int):Option aS:=match y4 t with
 | some p=>if pj p || vl p most then none else some p
 | none=>none
def uy:Option aS->D
 | none=>.bz [.v (.pointer none),.v (.pointer none),.v (.bool false)]
 | some p=>.bz [qp p,uz p,.v (.bool true)]
theorem acs {t:Tx} {most:Int} {p:aS} (h:Dv t most=some p):c8 p=none/\(∀ r∈p.ax,qj r)/\(bA p).length<=4/\bZ (bO p)<=4096/\bZ (bO p)<=most:=by
 unfold Dv at h
 cases pX:y4 t with
 | none=>rw[pX]at h;cases h
 | some q=>
  rw[pX]at h;dsimp only at h
  cases h1:pj q with
  | true=>rw[h1]at h;cases h
  | false=>
   cases h2:vl q most with
   | true=>rw[h1,h2]at h;cases h
   | false=>
    rw[h1,h2]at h;obtain rfl:=AI h;obtain⟨c1,c2⟩:=SX (Tn pX);have h3:=acL h1 h2;exact⟨c1,c2,h3.2,(DY h1).1,h3.1⟩
theorem acu (G:ay) (hF:vB G) (hM:k9 G) (hP:sL G) (hG:ra G) {es er:Value} (hE:uc G es er) (rv:BD G) (ry:BE G) (t:Tx) (most:Int):aD prog G 43 [dS t,ab most] (uy (Dv t most)):=by
 have hb:=WG G hF hM hP hG hE rv ry t;unfold Dv
 cases pX:y4 t with
 | none=>
  rw[pX]at hb;simp only[zG,IP,IQ,dS]at hb;simp only[dS,ab,uy];refine aD.aQ (aC _) func43 rfl rfl (rs:=[.tmp 4,.tmp 5,.tmp 6]) results43 (by simp[ntmps43]) fun X=>?_;simp only[ntmps43,List.map];have fw:=@alv;refine ae fw [0,1] [] ?_;refine br fw hb [1,7,8,9] [7,8] ?_;refine ag fun K1 aF=>ae fw [1,7,8,23] [7,8] ?_;refine aJ (ae fw [4,5,6] [] ?_);exact aU fw
 | some p=>
  rw[pX]at hb;obtain⟨bn,hk⟩:=SX (Tn pX);have fJ:=Yy G hM p bn hk most;have mN:=fun (h:pj p=false)=>acE G p bn hk (DY h).2 (DY h).1;have lf:=fun (h:pj p=false)=>aia G hM p bn hk (DY h).2 (DY h).1;dsimp only;simp only[zG,gu,gX,eF,gr,cE,fg,dS,ab]at hb fJ;simp only[gu,gX,eF,gr,cE,fg,ri,sa,sP,uq,nY,fI]at mN lf;simp only[dS,ab]
  cases h1:pj p with
  | true=>
   rw[h1]at fJ;simp only[Bool.true_or,if_true,uy];generalize vl p most=mu at *;generalize p.names.map bw=NN at *;generalize p.ax.map cU=RR at *;generalize p.ax.map eo=RW at *;refine aD.aQ (aC _) func43 rfl rfl (rs:=[.tmp 4,.tmp 5,.tmp 6]) results43 (by simp[ntmps43]) fun X=>?_;simp only[ntmps43,List.map];have fw:=@alv;refine ae fw [0,1] [] ?_;refine br fw hb [1,7,8,9] [7,8] ?_;refine ag fun K1 aF=>ae fw [1,7,8,23] [7,8] ?_;refine al (ar (aF _ ?_));refine dT fw 7 ?_;refine dT fw 8 ?_;refine br fw fJ [7,8,10,11] [] ?_;refine ag fun K2 aw=>ae fw [7,8,33] [] ?_;refine aJ (ae fw [4,5,6] [] ?_);exact aU fw
  | false=>
   rw[h1]at fJ
   cases h2:vl p most with
   | true=>
    rw[h2]at fJ;simp only[Bool.or_true,if_true,uy];generalize p.names.map bw=NN at *;generalize p.ax.map cU=RR at *;generalize p.ax.map eo=RW at *;refine aD.aQ (aC _) func43 rfl rfl (rs:=[.tmp 4,.tmp 5,.tmp 6]) results43 (by simp[ntmps43]) fun X=>?_;simp only[ntmps43,List.map];have fw:=@alv;refine ae fw [0,1] [] ?_;refine br fw hb [1,7,8,9] [7,8] ?_;refine ag fun K1 aF=>ae fw [1,7,8,23] [7,8] ?_;refine al (ar (aF _ ?_));refine dT fw 7 ?_;refine dT fw 8 ?_;refine br fw fJ [7,8,10,11] [] ?_;refine ag fun K2 aw=>ae fw [7,8,33] [] ?_;refine aJ (ae fw [4,5,6] [] ?_);exact aU fw
   | false=>
    rw[h2]at fJ;have mN:=mN h1;have lf:=lf h1;simp only[Bool.or_false,ajM,if_false,uy,qp,uz,ri,sa,sP,uq,nY,fI,cE,fg,pZ];generalize fL (bl p)=NX at *;generalize bZ (bO p)=S at *;generalize ((2 ^ (bA p).length:Nat):Int)=NI at *;generalize ((bA p).map fun n=>[D.v (.int .i64 n)])=IN at *;generalize (bO p).map jF=PT at *;generalize p.names.map bw=NN at *;generalize p.ax.map cU=RR at *;generalize p.ax.map eo=RW at *;refine aD.aQ (aC _) func43 rfl rfl (rs:=[.tmp 4,.tmp 5,.tmp 6]) results43 (by simp[ntmps43]) fun X=>?_;simp only[ntmps43,List.map];have fw:=@alv;refine ae fw [0,1] [] ?_;refine br fw hb [1,7,8,9] [7,8] ?_;refine ag fun K1 aF=>ae fw [1,7,8,23] [7,8] ?_;refine al (ar (aF _ ?_));refine dT fw 7 ?_;refine dT fw 8 ?_;refine br fw fJ [7,8,10,11] [] ?_;refine ag fun K2 aw=>ae fw [7,8,33] [] ?_;refine al (ar (aw _ ?_));refine br fw mN [8,12] [] ?_;refine br fw lf [12,14] [] ?_;refine ae fw [4,5,6] [] ?_;exact aU fw
theorem U8 (G:ay) (p:aS) (bn:c8 p=none) (qD:(bA p).length<=6) (hP:bZ (bO p)<=4096):aD prog G 54 [uz p] (fI (fZ (bl p))):=by
 have ht:=Bu bn;have o3:=ht.pos;have fR:=ht.mem;have hlen:=sC p;have qF:0 < bZ (bO p):=oJ fun x hx=>(nJ (iB bn) hx).m2;have so:∀ O d,oN (bl p) O d (bl p).length->(∀ s,s < (bl p).length->O.getD s 0<=(d:Int))->O=fZ (bl p):=fun O d h h2=>Ja (ab7 h h2) (sW ht);obtain⟨yu,KV⟩:=acd ht
 have wB:∀ s (h:s < (bl p).length),(bl p)[s].length<=64:=fun s h=>by
  rw[DH h,y6];have:=akR (n:=2) bF qD;omega
 have oT:=Bc (bl p)
 have kc:∀ s (h:s < (bl p).length),(fL (bl p))[s]? = some [fI (bl p)[s]]:=fun s h=>by simp[fL,h]
 have hcast:((bl p).length:Int)=bZ (bO p):=by rw[hlen];omega
 simp only[uz,sP,uq,cE,fI]at kc ⊢;rw[<- hcast]
 have yh:(bl p).length<=4096:=aa
 generalize fZ (bl p)=F at *;generalize fL (bl p)=NX at *;generalize bl p=TN at *;clear hlen hcast qF hP;generalize pZ p=NI at *;generalize p.names.map bw=NN at *;generalize p.ax.map eo=RR at *;obtain⟨N,hN⟩:∃ N:Nat,TN.length=N:=⟨_,rfl⟩;rw[hN]at oT yh o3 yu KV;simp only[hN]at fR so ⊢;refine aD.aQ (aC _) func54 rfl rfl (rs:=[.tmp 2]) results54 (by simp[ntmps54]) fun X=>?_;simp only[ntmps54,List.map];refine aB [0] [] ?_;refine ae (Aq @lZ.eq_1 (Aq @gg.eq_1 @gg.eq_2)) [0,3] [15] ?_;refine ag fun K1 aF=>aB [0,3,17,18] [15] ?_;refine cG (S:=Nat) (fun k=>k<=N) (fun k=>⟨bp [(0,.d (.ip [.sl none NN,.sl none RR,.v (.int .i64 N),.v (.int .i64 NI),.sl none NX])),(3,.own 15 0 N),(17,int N),(18,int k)],aq [(15,.sl 3 1 ((List.replicate k (-1:Int) ++ List.replicate (N - k) 0).map fun n=>[.v (.int .i64 n)]))]⟩) (fun k=>N - k) 0 ?_ aa ?_
 .refine aM.dk aN (by simp[ake]) (by simp[ake])
 .intro k hk;have FP:=fun (h:k < N)=>Yj h
  have eQ:(List.replicate k (-1:Int) ++ List.replicate (N - k) 0).length=N:=by simp;omega
  generalize gY:List.replicate k (-1:Int) ++ List.replicate (N - k) 0=R at FP eQ ⊢;refine aB [0,3,17,18,19] [15] ?_;refine ag fun K2 aw=>?_;by_cases aH:k < N
  .have wb:=FP aH;clear gY FP;refine b8 (by simp<;>omega) ?_;refine ar (aw _ (ag fun K3 aZ=>bg (aB [0,3,4,17,18] [15] ?_)));have qf:=(Aq @eQ @aH);refine e6 aZ [0,3,17,18] [15] ?_;refine dN ?_;(try simp only[aV,aX]);refine bh.mk (k+1) aa aa ?_;rw[<- wb];refine aM.dk aN (by simp[ajV]) (by simp[ajV])
  .obtain rfl:k=N:=aa
   refine b9 (by simp<;>omega) ?_;refine b5 (aF _ ?_);rw[Nat.sub_self,List.replicate_zero,ako]at gY;rw[gY]at yu KV;clear gY FP;have Zj:=eQ;generalize hR0:R=R0 at *;generalize qy:k=N at *;have qf:=(Aq @Zj @o3);refine au [0,3] [15] ?_;refine aB [0,3,5] [15] ?_
   refine cG (S:=Nat×List Int) (fun q=>oN TN q.2 q.1 0/\(∀ s,s < N->q.2.getD s 0<=(q.1:Int))/\q.1+lC q.2<=N) (fun q=>⟨bp [(0,.d (.ip [.sl none NN,.sl none RR,.v (.int .i64 N),.v (.int .i64 NI),.sl none NX])),(3,.own 15 0 N),(5,int q.1)],aq [(15,.sl 3 1 (q.2.map fun n=>[.v (.int .i64 n)]))]⟩) (fun q=>lC q.2) (0,R0.set 0 0) ?_ ⟨yu,KV,by
    have:lC (R0.set 0 0)<=(R0.set 0 0).length:=List.countP_le_length;rw[List.length_set]at this
    dsimp only;omega⟩ ?_
   .refine aM.dk aN (by simp[ajV]) (by simp[ajV])
   .rintro⟨d,O⟩ ⟨hL,hle,gA⟩;dsimp only at hL hle gA ⊢;have z7:=hL.len;refine ag fun K4 cr=>bg ?_;refine aB [0,3,5,6] [15] ?_;refine ag fun K5 cg=>aB [0,3,5,6,32,33,34] [15] ?_;refine cG (S:=Nat×List Int×Bool) (fun q=>q.1<=N/\oN TN q.2.1 d q.1/\Ep TN q.2.1 d (lC O) q.2.2) (fun q=>⟨bp [(0,.d (.ip [.sl none NN,.sl none RR,.v (.int .i64 N),.v (.int .i64 NI),.sl none NX])),(3,.own 15 0 N),(5,int d),(6,.d (.v (.bool q.2.2))),(32,.d (.sl none NX)),(33,int NX.length),(34,int q.1)],aq [(15,.sl 3 1 (q.2.1.map fun n=>[.v (.int .i64 n)]))]⟩) (fun q=>N - q.1) (0,O,false) ?_ ⟨aa,hL,fun e=>(by cases e),fun _=>by rw[hN];exact hle,ajJ _⟩ ?_
    .refine df
    .rintro⟨k,O2,b⟩ ⟨hk,qw,Ce⟩;dsimp only at hk qw Ce ⊢
     have FB:O2.length=N:=by rw[qw.len];exact hN
     refine aB [0,3,5,6,32,33,34,35] [15] ?_;refine ag fun K6 eB=>?_;by_cases aH:k < N
     .have Qs:k < NX.length:=aa
      have CK:k < TN.length:=aa
      have FY:k < O2.length:=aa
      have rz:NX[k]=[.sl none (TN[k].map fun n=>[.v (.int .i64 n)])]:=by
       have pG:=kc k CK;rw[AT Qs]at pG;exact AI pG
      refine b8 (by simp<;>omega) ?_;refine ar (eB _ (ag fun K7 eO=>bg ?_));have qf:=(Aq @Qs @rz);refine au [0,3,5,6,7,8,32,33,34] [15] ?_;refine ag fun K8 eX=>?_;by_cases hd:O2.getD k 0=(d:Int)
      .have fm:=hd;rw[dV FY]at fm;have cY:=fR _ (By CK);have fq:=wB k CK;have qf:=(Aq @FY (Aq @fm (Aq @aH @FB)));refine au [0,3,5,6,8,32,33,34,44] [15] ?_;refine b9 (by simp<;>omega) ?_;refine ar (eX _ ?_);generalize hR:TN[k]=R at *;refine aB [0,3,5,6,32,33,34,45,46,47] [15] ?_;refine cG (S:=Nat×List Int×Bool) (fun q=>q.1<=R.length/\oN TN q.2.1 d k/\q.2.1.getD k 0=(d:Int)/\(∀ t∈R.take q.1,lD q.2.1 k t)/\Ep TN q.2.1 d (lC O) q.2.2) (fun q=>⟨bp [(0,.d (.ip [.sl none NN,.sl none RR,.v (.int .i64 N),.v (.int .i64 NI),.sl none NX])),(3,.own 15 0 N),(5,int d),(6,.d (.v (.bool q.2.2))),(32,.d (.sl none NX)),(33,int NX.length),(34,int k),(45,.d (.sl none (R.map fun n=>[.v (.int .i64 n)]))),(46,int R.length),(47,int q.1)],aq [(15,.sl 3 1 (q.2.1.map fun n=>[.v (.int .i64 n)]))]⟩) (fun q=>R.length - q.1) (0,O2,b) ?_ ⟨aa,qw,hd,ak,Ce⟩ ?_
       .refine df
       .rintro⟨i,O3,c⟩ ⟨hi,qx,FO,bX,Fy⟩;dsimp only at hi qx FO bX Fy ⊢
        have Jt:O3.length=N:=by rw[qx.len];exact hN
        refine aB [0,3,5,6,32,33,34,45,46,47,48] [15] ?_;refine ag fun K9 j2=>?_;by_cases dM:i < R.length
        .obtain⟨v0,v1⟩:=cY R[i] (By dM);obtain⟨u,hu⟩:=ajL v0
         have o9:u < O3.length:=aa
         have mY:u < N:=aa
         have oB:R.take (i+1)=R.take i ++ [(u:Int)]:=by rw[ajO dM,hu]
         have aO:(u:Int)∈TN[k]:=by rw[hR,<- hu];exact By dM
         refine b8 (by simp<;>omega) ?_;refine ar (j2 _ (ag fun nS eJ=>bg ?_));have qf:=(Aq @dM @hu);refine au [0,3,5,6,10,32,33,34,45,46,47] [15] ?_;by_cases hn:O3.getD u 0 < 0
         .have jI:=aca qx CK FO aa aO hn;have Y2:=acF Fy o9 hn
          have yx:u≠k:=fun e=>by subst e;omega
          have P7:(O3.set u ((d:Int)+1)).getD k 0=(d:Int):=by rw[gw yx];exact FO
          have KG:∀ t∈R.take (i+1),lD (O3.set u ((d:Int)+1)) k t:=fun t h=>by
           rw[oB]at h
           rcases ajR.1 h with h | h
           .exact DN (bX t h) aa hn
           .obtain rfl:=aj3.1 h;unfold lD;rw[ajI,kb o9,P7];omega
          have lS:=hn;rw[dV o9]at lS;generalize u6:O3[u]=ov at lS;have qf:=(Aq @o9 (Aq @u6 (Aq @lS (Aq @mY @Jt))));refine au [0,3,5,6,10,32,33,34,45,46,47,55] [15] ?_;refine b8 (by simp<;>omega) ?_;have qf:=(Aq @o9 (Aq @mY @Jt));refine au [0,3,5,32,33,34,45,46,47] [15] ?_;refine gR trivial eJ [0,3,5,6,32,33,34,45,46,47] [15] ?_;refine dN ?_;(try simp only[aV,aX]);refine bh.mk (i+1,O3.set u ((d:Int)+1),true) ⟨by dsimp only;omega,jI,P7,KG,Y2⟩ (by dsimp only;omega) ?_;refine aM.dk aN (by simp[ajV]) (by simp[ajV])
         .have KG:∀ t∈R.take (i+1),lD O3 k t:=fun t h=>by
           rw[oB]at h
           rcases ajR.1 h with h | h
           .exact bX t h
           .obtain rfl:=aj3.1 h;unfold lD;rw[ajI];have:=qx.hi u aa;omega
          have lS:=hn;rw[dV o9]at lS;generalize u6:O3[u]=ov at lS;have qf:=(Aq @o9 (Aq @u6 (Aq @lS (Aq @mY @Jt))));refine au [0,3,5,6,10,32,33,34,45,46,47,55] [15] ?_;refine b9 (by simp<;>omega) ?_;refine ar (eJ _ (dN ?_));(try simp only[aV,aX]);refine bh.mk (i+1,O3,c) ⟨by dsimp only;omega,qx,FO,KG,Fy⟩ (by dsimp only;omega) ?_;refine df
        .obtain rfl:i=R.length:=aa
         rw[sh (ajJ _)]at bX;refine b9 (by simp<;>omega) ?_;refine b5 (eO _ (dN ?_));(try simp only[aV,aX]);refine bh.mk (k+1,O3,c) ⟨by dsimp only;omega,ab9 qx CK (by rw[hR];exact bX),Fy⟩ (by dsimp only;omega) ?_;refine df
      .have fm:=hd;rw[dV FY]at fm;generalize u6:O2[k]=ov at fm;have qf:=(Aq @FY (Aq @u6 (Aq @fm (Aq @aH @FB))));refine au [0,3,5,6,8,32,33,34,44] [15] ?_;refine b8 (by simp<;>omega) ?_;refine b5 (eO _ (dN ?_));(try simp only[aV,aX]);refine bh.mk (k+1,O2,b) ⟨by dsimp only;omega,acb qw hd,Ce⟩ (by dsimp only;omega) ?_;refine df
     .have hkN:k=N:=aa
      subst hkN;refine b9 (by simp<;>omega) ?_;refine b5 (cg _ ?_)
      have qx:oN TN O2 d TN.length:=by rw[hN];exact qw
      cases b with
      | false=>
       have Zb:=so O2 d qw (by have:=Ce.2.1 rfl;rw[hN]at this;exact this)
       have Za:(O2.map fun n=>[D.v (.int .i64 n)]).length=k:=by simp[FB]
       refine aB [0,3,5,64] [15] ?_;refine aJ (AW.imp (aM.freeze 15 trivial) ?_);refine AW.st (by simp[Za,sh];rfl) ?_;refine aB [2] [] ?_;exact aU @Zb
      | true=>
       have eD:=Ce.1 rfl;refine aB [0,3,5,64] [15] ?_;refine al (ar (cr _ ?_));refine dN ?_;(try simp only[aV,aX]);refine bh.mk (d+1,O2) ⟨ab8 qx,fun s hs=>by have:=qw.hi s aa;dsimp only;omega,by dsimp only;omega⟩ (by dsimp only;omega) ?_;refine df
def zw (l:List Int) (X:List Bool):Bool:=l.any fun t=>X.getD t.toNat false
def DZ (NX:List (List Int)) (s:Nat):List Int:=NX.getD s []
theorem vn {NX:List (List Int)} {s:Nat} (h:s < NX.length):DZ NX s=NX[s]:=dV h
def gO (NX:List (List Int)) (z:Nat):Nat->List Bool
 | 0=>(List.replicate NX.length false).set z true
 | k+1=>NX.map fun l=>zw l (gO NX z k)
theorem RY (NX:List (List Int)) (z:Nat):∀ k,(gO NX z k).length=NX.length
 | 0=>by simp[gO]
 | k+1=>by simp[gO]
theorem RZ {NX:List (List Int)} {z k s:Nat} (h:s < NX.length):(gO NX z (k+1)).getD s false=zw NX[s] (gO NX z k):=by
 rw[dV (by rw[RY];exact h)];simp[gO]
def qZ (NX:List (List Int)):Nat->Nat->Nat->Prop
 | 0,s,t=>s=t
 | k+1,s,t=>∃ u:Nat,(u:Int)∈DZ NX s/\u < NX.length/\qZ NX k u t
theorem Pf {NX:List (List Int)}:∀ {k s u t:Nat},qZ NX k s u->(t:Int)∈DZ NX u->t < NX.length->qZ NX (k+1) s t
 | 0,s,u,t,h,h1,h2=>by
  obtain rfl:s=u:=h;exact⟨t,h1,h2,rfl⟩
 | k+1,s,u,t,⟨v,hv,hl,hg⟩,h1,h2=>⟨v,hv,hl,Pf hg h1 h2⟩
theorem Ds {NX:List (List Int)} (ht:nr NX) {z:Nat} (hz:z < NX.length):∀ {k s:Nat},s < NX.length->((gO NX z k).getD s false=true↔qZ NX k s z)
 | 0,s,hs=>by
  show ((List.replicate NX.length false).set z true).getD s false=true↔s=z;by_cases e:z=s
  .subst e;rw[kb (by simpa using hz)];simp
  .rw[gw e,vX];exact⟨fun h=>(by cases h),fun h=>absurd h.symm e⟩
 | k+1,s,hs=>by
  rw[RZ hs];unfold zw;rw[akT];constructor
  .rintro⟨t,fR,h⟩;obtain⟨h0,h1⟩:=ht.mem _ (By hs) t fR;obtain⟨u,rfl⟩:=ajL h0
   have hu:u < NX.length:=aa
   exact⟨u,by rw[vn hs];exact fR,hu,(Ds ht hz hu).1 (by simpa using h)⟩
  .rintro⟨u,hm,hu,hg⟩;rw[vn hs]at hm;exact⟨(u:Int),hm,by simpa using (Ds ht hz hu).2 hg⟩
theorem B6 {NX:List (List Int)} {F:List Int} (h:np NX F):∀ (d:Nat) (t:Nat),t < NX.length->F.getD t 0=d->qZ NX d 0 t
 | 0,t,ht,e=>by
  obtain rfl:=h.one t ht aa;rfl
 | d+1,t,ht,e=>by
  obtain⟨s,hs,h1,h2⟩:=h.back t ht aa;exact Pf (B6 h d s hs aa) (by rw[vn hs];exact h2) ht
def l3 (NX:List (List Int)) (z k s:Nat):Nat:=(idx (fun t=>(gO NX z k).getD t.toNat false) (DZ NX s)).toNat
def ek (NX:List (List Int)) (z:Nat):Nat->Nat->List Int
 | 0,_=>[]
 | k+1,s=>(l3 NX z k s:Int) :: ek NX z k ((DZ NX s).getD (l3 NX z k s) 0).toNat
theorem tT (NX:List (List Int)) (z:Nat):∀ k s,(ek NX z k s).length=k
 | 0,_=>rfl
 | k+1,s=>by rw[ek,ajP,tT]
theorem M7 {NX:List (List Int)} (ht:nr NX) {z:Nat} (hz:z < NX.length) {k s:Nat} (hs:s < NX.length) (hg:qZ NX (k+1) s z) :
  ∃ hi:l3 NX z k s < NX[s].length,idx (fun t:Int=>(gO NX z k).getD t.toNat false) NX[s]=(l3 NX z k s:Int)/\0<=NX[s][l3 NX z k s]/\NX[s][l3 NX z k s].toNat < NX.length/\qZ NX k NX[s][l3 NX z k s].toNat z:=by
 obtain⟨u,hm,hu,hg⟩:=hg;have hx:=(Ds ht hz hu).2 hg;unfold l3;rw[vn hs]at hm ⊢
 have bf:¬ idx (fun t:Int=>(gO NX z k).getD t.toNat false) NX[s] < 0:=fun h=>by
  have:=Re h _ hm;simp only[ajI]at this;rw[hx]at this;cases this
 obtain⟨i,hi,he,hp⟩:=tu bf
 have e2:(idx (fun t:Int=>(gO NX z k).getD t.toNat false) NX[s]).toNat=i:=by rw[he];simp
 obtain⟨h0,h1⟩:=ht.mem _ (By hs) _ (By hi);simp only[e2];exact⟨hi,he,h0,aa,(Ds ht hz aa).1 hp⟩
theorem O1 {NX:List (List Int)} (ht:nr NX):∀ s,s < NX.length->(fZ NX).getD s 0 < NX.length:=by
 have h:∀ (n:Nat) (O T:List Int),qi NX O T->2 * lC O+T.length<=n->∃ F,np NX F/\∀ s,s < NX.length->F.getD s 0 < NX.length:=by
  intro n
  induction n with
  | zero=>
   intro O T h hn;obtain rfl:T=[]:=aj2 aa;exact⟨O,BO h,fun s hs=>by have:=h.hi s hs;omega⟩
  | succ n ih=>
   intro O T h hn
   cases T with
   | nil=>exact⟨O,BO h,fun s hs=>by have:=h.hi s hs;omega⟩
   | cons t T=>
    obtain⟨h0,h1,_⟩:=h.mem t ak;obtain⟨s,rfl⟩:=ajL h0;obtain⟨O',T',g1,g2,g3⟩:=ED ht (s:=s) aa NX[s] [] O T rfl h ak;simp only[ajP]at hn;exact ih O' T' (Ix g1 aa g2) aa
 obtain⟨F,h1,h2⟩:=h _ _ _ (Iy ht) (ajJ _);rw[Ja (sW ht) h1];exact h2
def gk:List Int->List Int->Bool
 | a :: l,b :: m=>if a=b then gk l m else decide (a < b)
 | _,_=>false
theorem Od:∀ l,gk l l=false
 | []=>rfl
 | a :: l=>by rw[gk,if_pos rfl,Od l]
theorem Iw:∀ {l m:List Int},l.length=m.length->gk l m=false->gk m l=false->l=m
 | [],[],_,_,_=>rfl
 | a :: l,b :: m,h,h1,h2=>by
  rw[gk]at h1 h2;by_cases e:a=b
  .subst e;rw[if_pos rfl]at h1 h2;rw[Iw (by simpa using h) h1 h2]
  .rw[if_neg e]at h1;rw[if_neg (akI e)]at h2;have:=of_decide_eq_false h1;have:=of_decide_eq_false h2;omega
theorem Oe:∀ {a b c:List Int},a.length=b.length->b.length=c.length->gk b a=false->gk c b=false->gk c a=false
 | [],[],[],_,_,_,_=>rfl
 | a :: l,b :: m,c :: n,h1,h2,g1,g2=>by
  rw[gk]at g1 g2 ⊢;by_cases e1:b=a
  .subst e1;rw[if_pos rfl]at g1;by_cases e2:c=b
   .subst e2;rw[if_pos rfl]at g2 ⊢;exact Oe (by simpa using h1) (by simpa using h2) g1 g2
   .rw[if_neg e2]at g2 ⊢;exact g2
  .rw[if_neg e1]at g1;have x1:=of_decide_eq_false g1;by_cases e2:c=b
   .subst e2;rw[if_neg e1];exact g1
   .rw[if_neg e2]at g2;have x2:=of_decide_eq_false g2;rw[if_neg aa];exact decide_eq_false aa
theorem Ob:∀ {a b:List Int} (x y:List Int),a.length=b.length->gk (a ++ x) (b ++ y)=if a=b then gk x y else gk a b
 | [],[],x,y,_=>ak
 | a :: l,b :: m,x,y,h=>by
  have ih:=Ob (a:=l) (b:=m) x y (by simpa using h);rw[akF,akF,gk,gk,ih];by_cases e:a=b
  .subst e;by_cases e2:l=m
   .subst e2;simp
   .simp[e2]
  .simp[e]
def uf (NX:List (List Int)) (z:Nat):Nat->Nat->List Int->Prop
 | 0,s,q=>q=[]/\s=z
 | d+1,s,q=>∃ (i:Nat) (q':List Int),q=(i:Int) :: q'/\∃ h:s < NX.length,∃ hi:i < NX[s].length,uf NX z d NX[s][i].toNat q'
theorem U3 {NX:List (List Int)} {z:Nat}:∀ {d s:Nat} {q:List Int},uf NX z d s q->q.length=d
 | 0,_,_,⟨e,_⟩=>by rw[e];rfl
 | d+1,_,_,⟨i,q',e,_,_,h⟩=>by rw[e,ajP,U3 h]
theorem HN {NX:List (List Int)} (ht:nr NX) {z:Nat}:∀ {d s:Nat} {q:List Int},uf NX z d s q->qZ NX d s z
 | 0,_,_,⟨_,e⟩=>e
 | d+1,s,_,⟨i,q',_,hs,hi,h⟩=>by
  have h3:=ht.mem _ (By hs) _ (By hi);refine⟨NX[s][i].toNat,?_,aa,HN ht h⟩;rw[vn hs,Int.toNat_of_nonneg h3.1];exact By hi
theorem HM {NX:List (List Int)} (ht:nr NX) {z:Nat} (hz:z < NX.length):∀ (d s:Nat),s < NX.length->qZ NX d s z->uf NX z d s (ek NX z d s)
 | 0,s,_,h=>⟨rfl,h⟩
 | d+1,s,hs,h=>by
  obtain⟨hi,_,h0,h1,h2⟩:=M7 ht hz hs h;refine⟨l3 NX z d s,ek NX z d NX[s][l3 NX z d s].toNat,?_,hs,hi,HM ht hz d _ h1 h2⟩;rw[ek,vn hs,dV hi]
theorem HL {NX:List (List Int)} (ht:nr NX) {z:Nat} (hz:z < NX.length):∀ (d s:Nat) (q:List Int),s < NX.length->uf NX z d s q->gk q (ek NX z d s)=false
 | 0,s,q,_,⟨e,_⟩=>by rw[e];rfl
 | d+1,s,q,hs,h=>by
  have hg:=HN ht h;obtain⟨i,q',rfl,_,hi,hw⟩:=h;obtain⟨hj,he,h0,h1,h2⟩:=M7 ht hz hs hg;have h3:=ht.mem _ (By hs) _ (By hi);have x7:=(Ds ht hz (k:=d) (s:=NX[s][i].toNat) aa).2 (HN ht hw);rw[ek,vn hs,dV hj,gk]
  have hle:l3 NX z d s<=i:=by
   by_cases aH:i < l3 NX z d s
   .have bf:idx (fun t:Int=>(gO NX z d).getD t.toNat false) NX[s]≠(l3 NX z d s:Int):=fun e=>by
     have hb:∃ k:Nat,idx (fun t:Int=>(gO NX z d).getD t.toNat false) NX[s]=(k:Int)/\k<=i:=by
      unfold idx
      cases hf:NX[s].findIdx? fun t:Int=>(gO NX z d).getD t.toNat false with
      | none=>
       rw[akX]at hf;have:=hf _ (By hi);rw[x7]at this;cases this
      | some k=>
       refine⟨k,rfl,?_⟩;rw[aj9]at hf;obtain⟨g1,g2,g3⟩:=hf;by_cases yb:k<=i
       .exact yb
       .have:=g3 i aa;exact absurd x7 this
     obtain⟨k,hk,fP⟩:=hb;omega
    exact absurd he bf
   .omega
  by_cases e:(i:Int)=(l3 NX z d s:Int)
  .rw[if_pos e]
   have e':i=l3 NX z d s:=aa
   subst e';exact HL ht hz d _ q' h1 hw
  .rw[if_neg e];exact decide_eq_false aa
theorem U4 {NX:List (List Int)} {z:Nat}:∀ {d s:Nat} {q:List Int},uf NX z (d+1) s q->∃ (u:Nat) (q':List Int) (i:Nat),q=q' ++ [(i:Int)]/\uf NX u d s q'/\∃ h:u < NX.length,∃ hi:i < NX[u].length,NX[u][i].toNat=z
 | 0,s,_,⟨i,q',rfl,hs,hi,e,hz⟩=>⟨s,[],i,by rw[e];rfl,⟨rfl,rfl⟩,hs,hi,hz⟩
 | d+1,s,_,⟨i,q',rfl,hs,hi,h⟩=>by
  obtain⟨u,q2,j,e,h1,h2⟩:=U4 h;exact⟨u,(i:Int) :: q2,j,by rw[e];rfl,⟨i,q2,rfl,hs,hi,h1⟩,h2⟩
theorem Nu {NX:List (List Int)} {u:Nat}:∀ {d s:Nat} {q:List Int},uf NX u d s q->∀ {i:Nat} (h:u < NX.length) (hi:i < NX[u].length),uf NX NX[u][i].toNat (d+1) s (q ++ [(i:Int)])
 | 0,s,_,⟨e,e2⟩,i,h,hi=>by subst e2;subst e;exact⟨i,[],rfl,h,hi,rfl,rfl⟩
 | d+1,s,_,⟨j,q',e,hs,hj,hw⟩,i,h,hi=>by
  subst e;exact⟨j,q' ++ [(i:Int)],rfl,hs,hj,Nu hw h hi⟩
theorem Pe {NX:List (List Int)} {F:List Int} (hF:np NX F):∀ {d s z:Nat},s < NX.length->0<=F.getD s 0->qZ NX d s z->0<=F.getD z 0/\F.getD z 0<=F.getD s 0+d
 | 0,s,z,_,h0,e=>by
  obtain rfl:s=z:=e;exact⟨h0,aa⟩
 | d+1,s,z,hs,h0,⟨u,hu,hl,hg⟩=>by
  rw[vn hs]at hu;have h1:=hF.step s hs h0 _ hu;rw[ajI]at h1;have:=Pe hF hl h1.1 hg;exact⟨this.1,aa⟩
theorem ab2 {NX:List (List Int)} (ht:nr NX) {F:List Int} (hF:np NX F) {z d:Nat} (hz:z < NX.length) (hd:F.getD z 0=((d+1:Nat):Int)):∃ (u i:Nat),∃ h:u < NX.length,∃ hi:i < NX[u].length,F.getD u 0=(d:Int)/\NX[u][i]=(z:Int)/\ek NX z (d+1) 0=ek NX u d 0 ++ [(i:Int)]:=by
 have hp:=ht.pos;have hg:=B6 hF (d+1) z hz hd;have hw:=HM ht hz (d+1) 0 hp hg;have hle:=HL ht hz (d+1) 0;obtain⟨u,q,i,e,h1,h2,h3,h4⟩:=U4 hw;have h5:=ht.mem _ (By h2) _ (By h3);have hu:=Pe hF hp (by rw[hF.zero];omega) (HN ht h1);rw[hF.zero]at hu;have eL:=hF.step u h2 hu.1 _ (By h3);rw[h4]at eL
 have Q0:F.getD u 0=(d:Int):=aa
 have de:=B6 hF d u h2 Q0;have hwu:=HM ht h2 d 0 hp de;have h6:=Nu hwu h2 h3;rw[h4]at h6;have h7:=hle _ hp h6;have h8:=HL ht h2 d 0 q hp h1
 have hl:(ek NX u d 0).length=q.length:=by rw[tT,U3 h1]
 rw[e,Ob _ _ hl]at h7;refine⟨u,i,h2,h3,Q0,aa,?_⟩;rw[e];by_cases hq:ek NX u d 0=q
 .rw[hq]
 .rw[if_neg hq]at h7;exact absurd (Iw hl h7 h8) hq
theorem ab3 {NX:List (List Int)} (ht:nr NX) {F:List Int} (hF:np NX F) {u d i:Nat} (hu:u < NX.length) (hi:i < NX[u].length) (hd:F.getD u 0=(d:Int)) {z:Nat} (hz:NX[u][i]=(z:Int)):z < NX.length/\gk (ek NX u d 0 ++ [(i:Int)]) (ek NX z (d+1) 0)=false:=by
 have hp:=ht.pos;have h3:=ht.mem _ (By hu) _ (By hi);have h6:=Nu (HM ht hu d 0 hp (B6 hF d u hu hd)) hu hi;rw[hz,ajI]at h6;exact⟨aa,HL ht aa (d+1) 0 _ hp h6⟩
