/- Parts. -/
import Derived.Test.YtdigkhaofjmgkaaGreatDoorFx43
import Derived.Maps.RangeRun
set_option linter.unusedSectionVars false
set_option linter.unusedSimpArgs false
set_option linter.unusedVariables false
set_option maxHeartbeats 64000000
set_option maxRecDepth 100000
open Go.Proofs.Tryz
namespace Go.Av
open Go.ChangeMaps (setBlock)
section
variable {P:Program} {T:Ty} {Mv X:Nat->Prop} {G:aq} {N:Fr} {w:World} {μ:Mu} {a:Act} {σ:St}
def uQ:Op->Bool
 | .range _ _=>true
 | .next _ false=>true
 | .entry _=>true
 | _=>false
def z8 (T:Ty) (t:TypeId):Bool:=match T t with
 | some tt=>match tt.desc with
  | .map _ _=>true
  | _=>false
 | none=>false
def FA (T:Ty) (G:aq) (t:TypeId) (x:Operand) (d:Nat) (σ:St) (K:St->Prop):Prop:=match bh G σ.env x with
 | some (.d (.dm _ ents))=>z8 T t=true/\σ.H d=none/\∀ es:List (Value×Value),es.Perm ents->K ⟨eW σ.env d (.ref d 0 0),aM σ.H d (.it es [])⟩
 | _=>False
def E3 (G:aq) (x:Operand) (d:Nat) (σ:St) (K:St->Prop):Prop:=match bh G σ.env x with
 | some (.ref r 0 0)=>match σ.H r with
  | some (.it ents seen)=>((∀ j,j < ents.length->j∈seen)->K ⟨eW σ.env d (.d (.aW [.v (.bool false)])),σ.H⟩)/\
   ∀ j (hj:j < ents.length),j ∉ seen->K ⟨eW σ.env d (.d (.aW [.v (.bool true),.v ents[j].1,.v ents[j].2])),aM σ.H r (.it ents (seen ++ [j]))⟩
  | _=>False
 | _=>False
def Cx (G:aq) (x:Operand) (d:Nat) (σ:St) (K:St->Prop):Prop:=match bh G σ.env x with
 | some (.ref r 0 0)=>match σ.H r with
  | some (.it ents seen)=>∃ s j,∃ hj:j < ents.length,seen=s ++ [j]/\K ⟨eW σ.env d (.d (.aW [.v ents[j].1,.v ents[j].2])),σ.H⟩
  | _=>False
 | _=>False
def sU (T:Ty) (G:aq) (o:Oper) (σ:St) (K:St->Prop):Prop:=match o.op,o.dst with
 | .range t x,some d=>FA T G t x d σ K
 | .next x false,some d=>E3 G x d σ K
 | .entry x,some d=>Cx G x d σ K
 | _,_=>False
theorem RV.Lk {u:Value} {r:Nat} (h:RV w X μ u (.ref r 0 0)):∃ m b,μ r=some m/\m.blk=some b/\u = .pointer (some ⟨b,0,none⟩):=by
 generalize hy:AV.ref r 0 0=y at h
 cases h with
 | ref hm hb=>cases hy;exact⟨_,_,hm,hb,by simp⟩
 | _=>cases hy
theorem Sim.JS {H:Heap} (hs:Sim w X μ H) {r:Nat} {ents:List (Value×Value)} {seen:List Nat} (hH:H r=some (.it ents seen)) {m:gp} {b:Nat} (hm:μ r=some m) (hb:m.blk=some b) :
  ∃ bm,w.heap[b]? = some (.mapIter (some bm) ents.length seen.toArray ents.length)/\w.heap[bm]? = some (.map (gR ents) ents.length)/\RD w (XX X μ) (.map (some bm)) (.dm true ents):=by
 obtain⟨m',bU,ok⟩:=hs.rows r _ hH;rw[hm]at bU;obtain rfl:=AI bU
 cases ok with
 | it aU hh hr=>
  rename_i b' bm;rw[hb]at aU;obtain rfl:=AI aU;refine⟨bm,hh,?_,hr⟩;generalize hy:D.dm true ents=y at hr
  cases hr with
  | dm hX IJ hp hx=>cases hy;rw[hx rfl]at IJ;exact IJ
  | _=>cases hy
theorem Ko {ents:List (Value×Value)} {e:MapEntry} (h:e∈(gR ents).toList):∃ j,∃ hj:j < ents.length,e = { key:=ents[j].1,val:=ents[j].2,born:=j }:=by
 obtain⟨j,hj,rfl⟩:=aco.1 h
 have hj':j < ents.length:=by simpa[mf]using hj
 have h1:=u0 hj'
 have h2:j < (gR ents).size:=by rw[mf];exact hj'
 rw[acb h2]at h1;exact⟨j,hj',by simpa using AI h1⟩
theorem Kn {ents:List (Value×Value)} {j:Nat} (hj:j < ents.length):({ key:=ents[j].1,val:=ents[j].2,born:=j }:MapEntry)∈(gR ents).toList:=by
 have h1:=u0 hj
 have h2:j < (gR ents).size:=by rw[mf];exact hj
 rw[acb h2]at h1;rw[<- AI h1];simp
theorem UH (ents:List (Value×Value)):((gR ents).toList.map (·.born)).Nodup:=by
 have:(gR ents).toList.map (·.born)=List.range ents.length:=by
  refine List.ext_getElem (by simp[mf]) fun i h1 h2=>?_
  have hi:i < ents.length:=by simpa using h2
  have h3:=u0 hi
  have h4:i < (gR ents).size:=by rw[mf];exact hi
  rw[acb h4]at h3;simp[AI h3]
 rw[this];exact List.nodup_range
theorem Tt (hg:Good P T) (hi:In w X G μ N a σ) {o:Oper} {K:St->Prop} (hd:∀ d,o.dst=some d->d < N.n) (h:sU T G o σ K) {Q:Exit->Act->World->Prop} {next:Act->World->Prop}
  (hk:∀ w' ay a' aw,K aw->In w' X G ay N a' aw->Ev Mv w μ w' ay->next a' w'):o.wpIn (wd N.ro) 0 P a w next Q:=by
 obtain⟨dst,op,type,pos,after,guard⟩:=o;unfold sU at h;dsimp only at h hd;split at h
 .-- range
  rename_i t x d;unfold FA at h;split at h
  .rename_i Py hx;obtain⟨qU,hn,hK⟩:=h;refine vD (fun c e=>by cases e) ?_;have hv:=hi.eval hx;have xn:=hv.data
   obtain⟨bm,ents,sK,wP,zP,xn⟩:∃ bm es,a.eval x = .map (some bm)/\w.heap[bm]? = some (.map (gR es) es.length)/\es.Perm Py/\RD w (XX X μ) (a.eval x) (.dm true es):=by
    generalize a.eval x=u at xn
    cases xn with
    | dm hX hh hp hx=>exact⟨_,_,rfl,hh,hp,.dm hX hh (List.Perm.refl _) fun _=>rfl⟩
   have hK:=hK ents zP
   obtain⟨kt,et,hu⟩:∃ kt et,P.underlying t=some (.map kt et):=by
    unfold z8 at qU;split at qU
    .rename_i tt cC;split at qU
     .rename_i kt et Ry;exact⟨kt,et,by rw[<- Ry];exact (hg _ _ cC).1⟩
     .cases qU
    .cases qU
   have ab6:=run_range_map w t kt et bm (gR ents) ents.length hu wP;unfold Oper.wp
   have hex:(execOp a.eval (⟨some d,.range t x,type,pos,after,guard⟩:Oper)).run P w = .ok (.value (.pointer (some ⟨w.heap.size,0,none⟩))) (w.alloc (.mapIter (some bm) ents.length #[] ents.length)):=by
    simp[execOp,sK,ab6]
   rw[hex]
   have jw:(w.alloc (.mapIter (some bm) ents.length #[] ents.length)).heap[w.heap.size]? = some (.mapIter (some bm) ents.length #[] ents.length):=by rw[<- World.alloc_eq];simp
   obtain⟨aF,aH⟩:=hi.alloc (Mv:=Mv) hn (bZ.alloc w (.mapIter (some bm) ents.length #[] ents.length)) (m:=⟨some w.heap.size,1,0⟩) (fun b hb=>by simp at hb;omega) (row:=.it ents []) fun ev=>.it rfl jw (by rw[sK]at xn;exact xn.ev ev)
   have fv:RV (w.alloc (.mapIter (some bm) ents.length #[] ents.length)) X (mup μ d ⟨some w.heap.size,1,0⟩) (.pointer (some ⟨w.heap.size,0,none⟩)) (.ref d 0 0):=by
    have:=RV.ref (w:=w.alloc (.mapIter (some bm) ents.length #[] ents.length)) (X:=X) (μ:=mup μ d ⟨some w.heap.size,1,0⟩) (r:=d) (e:=0) (j:=0) (b:=w.heap.size) (m:=⟨some w.heap.size,1,0⟩) (by simp[mup]) rfl;simpa using this
   exact hk _ _ _ _ hK (aF.put fv (dst:=some d) hd) aH
  .exact h.elim
 .-- next
  rename_i x d;unfold E3 at h;split at h
  .rename_i r hx;split at h
   .rename_i ents seen hH;obtain⟨h0,h1⟩:=h;refine vD (fun c e=>by cases e) ?_;obtain⟨m,b,hm,hb,sK⟩:=(hi.eval hx).Lk;obtain⟨bm,hit,wP,bD⟩:=hi.aX.JS hH hm hb
    have hold:∀ x∈(gR ents).toList,x.born < ents.length:=fun x hx=>by
     obtain⟨j,hj,rfl⟩:=Ko hx;exact hj
    unfold Oper.wp
    rcases run_next_at (P:=P) w type b bm ents.length ents.length seen.toArray (gR ents) ents.length hit wP hold (abL _) with⟨hz,ab6⟩ | ⟨e,he,w1,gQ,ab6⟩
    .have hex:(execOp a.eval (⟨some d,.next x false,type,pos,after,guard⟩:Oper)).run P w = .ok (.value (.tuple #[.bool false])) w:=by
      simp[execOp,sK,ab6]
     rw[hex]
     have bC:∀ j,j < ents.length->j∈seen:=fun j hj=>by
      apply acj;intro fZ
      have adJ:({ key:=ents[j].1,val:=ents[j].2,born:=j }:MapEntry)∈(leftOf (gR ents) seen.toArray).toList:=by
       unfold leftOf;rw[Array.toList_filter,List.mem_filter];exact⟨Kn hj,by simpa using fZ⟩
      have:0 < (leftOf (gR ents) seen.toArray).size:=by
       have:=List.length_pos_of_mem adJ;simpa using this
      omega
     refine hk _ μ _ _ (h0 bC) (hi.put (.d (.aW rfl fun j u c hu hc=>?_)) (dst:=some d) hd) (.refl _ w μ)
     match j,hu,hc with
     | 0,hu,hc=>simp at hu hc;subst hu hc;exact .v _
     | j+1,hu,hc=>simp at hu
    .obtain⟨he1,he2⟩:=mem_left he;obtain⟨j,hj,rfl⟩:=Ko he1
     have fZ:j ∉ seen:=by simpa using he2
     have hex:(execOp a.eval (⟨some d,.next x false,type,pos,after,guard⟩:Oper)).run P w = .ok (.value (.tuple #[.bool true,ents[j].1,ents[j].2])) (setBlock w1 b (.mapIter (some bm) ents.length (seen.toArray.push j) ents.length)):=by
      simp[execOp,sK,ab6]
     rw[hex]
     have hgr:bZ w w1:=by
      rcases gQ with rfl | rfl
      .exact bZ.refl _
      .exact bZ.drew w
     have RU:w1.heap=w.heap:=by rcases gQ with rfl | rfl<;>rfl
     obtain⟨hi1,nq⟩:=hi.j8 (Mv:=Mv) hgr
     have au:b < w1.heap.size:=by rw[RU];exact (IS.1 hit).1
     obtain⟨aF,aH⟩:=hi1.write (Mv:=Mv) (w':=setBlock w1 b (.mapIter (some bm) ents.length (seen.toArray.push j) ents.length)) hm hb (by simp[setBlock]) rfl rfl rfl (fun k hk=>by simp[setBlock,ad2 (adr hk)]) (row:=.it ents (seen ++ [j])) fun ev=>.it hb (by simp[setBlock,au]) ((bD.ev nq).ev ev);refine hk _ μ _ _ (h1 j hj fZ) (aF.put (.d (.aW rfl fun i u c hu hc=>?_)) (dst:=some d) hd) (nq.trans aH)
     match i,hu,hc with
     | 0,hu,hc=>simp at hu hc;subst hu hc;exact .v _
     | 1,hu,hc=>simp at hu hc;subst hu hc;exact .v _
     | 2,hu,hc=>simp at hu hc;subst hu hc;exact .v _
     | i+3,hu,hc=>simp at hu
   .exact h.elim
  .exact h.elim
 .-- entry
  rename_i x d;unfold Cx at h;split at h
  .rename_i r hx;split at h
   .rename_i ents seen hH;obtain⟨s,j,hj,rfl,hK⟩:=h;refine vD (fun c e=>by cases e) ?_;obtain⟨m,b,hm,hb,sK⟩:=(hi.eval hx).Lk;obtain⟨bm,hit,wP,bD⟩:=hi.aX.JS hH hm hb
    have ahO:w.heap[b]? = some (.mapIter (some bm) ents.length (s.toArray.push ({ key:=ents[j].1,val:=ents[j].2,born:=j }:MapEntry).born) ents.length):=by
     rw[hit];simp
    have ab6:=run_entry_at (P:=P) w b bm ents.length s.toArray (gR ents) ents.length _ ahO wP (Kn hj) (UH ents);unfold Oper.wp
    have hex:(execOp a.eval (⟨some d,.entry x,type,pos,after,guard⟩:Oper)).run P w = .ok (.value (.tuple #[ents[j].1,ents[j].2])) w:=by
     simp[execOp,sK,ab6]
    rw[hex];refine hk _ μ _ _ hK (hi.put (.d (.aW rfl fun i u c hu hc=>?_)) (dst:=some d) hd) (.refl _ w μ)
    match i,hu,hc with
    | 0,hu,hc=>simp at hu hc;subst hu hc;exact .v _
    | 1,hu,hc=>simp at hu hc;subst hu hc;exact .v _
    | i+2,hu,hc=>simp at hu
   .exact h.elim
  .exact h.elim
 .exact h.elim
def sxI (P:Program) (T:Ty) (Mv X:Nat->Prop) (G:aq) (N:Fr) (ops:Array Oper) (K:St->Prop):List Oper->St->Prop
 | [],σ=>K σ
 | o :: rest,σ=>eU N o/\match fR ops σ.env o with
  | some b=>if b=true then (if uQ o.op=true then sU T G o σ (sxI P T Mv X G N ops K rest) else rZ P T Mv X G N o σ (sxI P T Mv X G N ops K rest)) else sxI P T Mv X G N ops K rest ⟨aD σ.env o.dst cy,σ.H⟩
  | none=>False
theorem Ze (hg:Good P T) {ops:Array Oper} {Q:Exit->St->Prop} {w0:World} {gn:Mu}:∀ (l:List Oper) (k:Nat) (w:World) (μ:Mu) (a:Act) (σ:St),(∀ j,l[j]? = ops[k+j]?)->sxI P T Mv X G N ops (fun aw=>Q .normal aw) l σ->In w X G μ N a σ->Ev Mv w0 gn w μ->
  wpOpsIn (wd N.ro) 0 P ops (After Mv X G N w0 gn Q) (List.range' k l.length) a w:=by
 intro l
 induction l with
 | nil=>intro k w μ a σ _ h hi aH;exact⟨μ,σ,h,hi,aH⟩
 | cons o l ih=>
  intro k w μ a σ hl h hi aH
  have h0:ops[k]? = some o:=by simpa using (hl 0).symm
  have eF:∀ j,l[j]? = ops[k+1+j]?:=fun j=>by have:=hl (j+1);simpa[adn,afc 1 j]using this
  obtain⟨hd,h⟩:=h
  have gN:∀ d,o.dst=some d->d < N.n:=fun d e=>by unfold eU at hd;rw[e]at hd;exact hd
  rw[acv,List.range'_succ];simp only[wpOpsIn,h0];split at h
  .rename_i b hb;rw[afU hi hb];split at h
   .rename_i py;subst py;rw[if_pos rfl];split at h
    .exact Tt hg hi gN h fun w' ay a' aw k' aF iU=>ih (k+1) w' ay a' aw eF k' aF (aH.trans iU)
    .exact (HE hg hi gN h fun w' ay a' aw k' aF iU=>ih (k+1) w' ay a' aw eF k' aF (aH.trans iU))
   .rename_i wO;rw[if_neg (by simpa using wO)];exact⟨fun _ _=>trivial,ih (k+1) w μ _ _ eF h (hi.put (.d (.v _)) gN) aH⟩
  .exact h.elim
theorem M7 (hg:Good P T) {id:Nat} {ops:Array Oper} {Q:Exit->St->Prop} (h:sxI P T Mv X G N ops (fun aw=>Q .normal aw) ops.toList σ):AW P Mv X G N (.region id ops false) Q σ:=fun w μ a hi=>by
 refine wpIn_region ?_;have:=Ze hg ops.toList 0 w μ a σ (by simp) h hi (.refl _ w μ)
 rwa [<- List.range_eq_range',ado]at this
theorem tw (hg:Good P T) (l ns:List Nat) (hM:∀ r,ns.contains r=false->Mv r) {id:Nat} {ops:Array Oper} {y:Code} {Q:Exit->St->Prop} (h:∀ K:St->Prop,(∀ τ:St,AW P Mv X G N y Q (τ.norm l ns)->K τ)->sxI P T Mv X G N ops K ops.toList σ):AW P Mv X G N (.seq (.region id ops false) y) Q σ:=
 oX (M7 hg (h _ fun _ h=>h.norm l ns hM))
def Mk (P:Program) (T:Ty) (Mv X:Nat->Prop) (G:aq) (N:Fr) (ops:Array Oper) (o:Oper) (σ:St) (K:St->Prop):Prop:=eU N o/\match fR ops σ.env o with
 | some b=>if b=true then (if uQ o.op=true then sU T G o σ K else rZ P T Mv X G N o σ K) else K ⟨aD σ.env o.dst cy,σ.H⟩
 | none=>False
theorem ry {ops:Array Oper} {K:St->Prop} {o:Oper} {l:List Oper} (h:∀ K':St->Prop,(∀ τ,sxI P T Mv X G N ops K l τ->K' τ)->Mk P T Mv X G N ops o σ K'):sxI P T Mv X G N ops K (o :: l) σ:=h _ fun _ h=>h
theorem rz {ops:Array Oper} {K:St->Prop} (h:K σ):sxI P T Mv X G N ops K [] σ:=h
theorem Mp {ops:Array Oper} {K:St->Prop} {o:Oper} {l:List Oper} {t:TypeId} {x:Operand} {d:Nat} {ents:List (Value×Value)} (ho:o.op = .range t x) (sd:o.dst=some d) (hd:eU N o) (hg:fR ops σ.env o=some true) {y:Bool} (hx:bh G σ.env x=some (.d (.dm y ents))) (ht:z8 T t=true) (hH:σ.H d=none)
  (h:∀ es:List (Value×Value),es.Perm ents->sxI P T Mv X G N ops K l ⟨eW σ.env d (.ref d 0 0),aM σ.H d (.it es [])⟩):sxI P T Mv X G N ops K (o :: l) σ:=by
 refine⟨hd,?_⟩;rw[hg];simp only[if_true,ho,uQ];unfold sU FA;simp only[ho,sd,hx];exact⟨ht,hH,h⟩
theorem Mo {ops:Array Oper} {K:St->Prop} {o:Oper} {l:List Oper} {x:Operand} {d r:Nat} {ents:List (Value×Value)} {seen:List Nat} (ho:o.op = .next x false) (sd:o.dst=some d) (hd:eU N o) (hg:fR ops σ.env o=some true) (hx:bh G σ.env x=some (.ref r 0 0)) (hH:σ.H r=some (.it ents seen))
  (h0:(∀ j,j < ents.length->j∈seen)->sxI P T Mv X G N ops K l ⟨eW σ.env d (.d (.aW [.v (.bool false)])),σ.H⟩)
  (h1:∀ j (hj:j < ents.length),j ∉ seen->sxI P T Mv X G N ops K l ⟨eW σ.env d (.d (.aW [.v (.bool true),.v ents[j].1,.v ents[j].2])),aM σ.H r (.it ents (seen ++ [j]))⟩):sxI P T Mv X G N ops K (o :: l) σ:=by
 refine⟨hd,?_⟩;rw[hg];simp only[if_true,ho,uQ];unfold sU E3;simp only[ho,sd,hx,hH];exact⟨h0,h1⟩
theorem Mn {ops:Array Oper} {K:St->Prop} {o:Oper} {l:List Oper} {x:Operand} {d r:Nat} {ents:List (Value×Value)} {seen:List Nat} {j:Nat} (ho:o.op = .entry x) (sd:o.dst=some d) (hd:eU N o) (hg:fR ops σ.env o=some true) (hx:bh G σ.env x=some (.ref r 0 0)) (hH:σ.H r=some (.it ents (seen ++ [j]))) (hj:j < ents.length)
  (h:sxI P T Mv X G N ops K l ⟨eW σ.env d (.d (.aW [.v ents[j].1,.v ents[j].2])),σ.H⟩):sxI P T Mv X G N ops K (o :: l) σ:=by
 refine⟨hd,?_⟩;rw[hg];simp only[if_true,ho,uQ];unfold sU Cx;simp only[ho,sd,hx,hH];exact⟨seen,j,hj,rfl,h⟩
end
attribute [simp] Mk uQ z8 j4
end Go.Av
namespace Go.Proofs.YtdigkhaofjmgkaaGreatDoor
open Go.Av
structure adi (L:List (Value×Value)):Prop where
 str:∀ p∈L,∃ s:ByteArray,p.1 = .string s
 once:(L.map (·.1)).Nodup
def cD (L:List (Value×Value)) (s:ByteArray):Option Value:=(L.find? fun p=>fE (.string s) p.1).map (·.2)
def acf (L:List (Value×Value)) (s:ByteArray) (x:Value):List (Value×Value):=match L.findIdx? fun p=>fE (.string s) p.1 with
 | some j=>L.set j (.string s,x)
 | none=>L ++ [(.string s,x)]
theorem Es (s:ByteArray) (k:Value):fE (.string s) k=true↔k = .string s:=by
 cases k with
 | string s'=>
  constructor
  .intro h;exact Eo (d:=.string) rfl rfl h
  .intro h;obtain⟨r,h1,h2⟩:=MapKept.sameNow_of_keys (sW (d:=.string) (v:=.string s) rfl) (sW (d:=.string) (v:=.string s') rfl);rw[FG (d:=.string) rfl rfl]at h1;rw[AI h1];exact h2.2 (by first | exact h.symm | exact h)
 | _=>exact⟨fun h=>(by cases h),fun h=>(by cases h)⟩
theorem Al (s:ByteArray):fE (.string s) (.string s)=true:=(Es s _).2 rfl
theorem Ak {s:ByteArray} {k:Value} (h:k≠.string s):fE (.string s) k=false:=by
 cases hk:fE (.string s) k with
 | false=>rfl
 | true=>exact absurd ((Es s k).1 hk) h
theorem uV (x:Value) (L:List (Value×Value)) (s:ByteArray):cD ((.string s,x) :: L) s=some x:=by
 unfold cD;rw[List.find?_cons];simp only[Al];rfl
theorem s3 {k:Value} (x:Value) (L:List (Value×Value)) {s:ByteArray} (h:k≠.string s):cD ((k,x) :: L) s=cD L s:=by
 unfold cD;rw[List.find?_cons];simp only[Ak h]
theorem FY {s s':ByteArray} (h:s'≠s):Value.string s≠Value.string s':=fun e=>h (by injection e with e;exact e.symm)
theorem EI:adi []:=⟨by simp,by simp⟩
theorem Kk {p:Value×Value} {L:List (Value×Value)} (h:adi (p :: L)):adi L:=⟨fun q hq=>h.str q (by simp[hq]),(acF.1 h.once).2⟩
theorem Fu (s:ByteArray) (x:Value):acf [] s x=[(.string s,x)]:=rfl
theorem AZ (y:Value) (L:List (Value×Value)) (s:ByteArray) (x:Value):acf ((.string s,y) :: L) s x=(.string s,x) :: L:=by
 unfold acf;rw[ael];simp only[Al,if_true];rfl
theorem A0 {k:Value} (y:Value) (L:List (Value×Value)) {s:ByteArray} (x:Value) (h:k≠.string s):acf ((k,y) :: L) s x=(k,y) :: acf L s x:=by
 unfold acf;rw[ael];simp only[Ak h,abT,if_false]
 cases L.findIdx? fun p=>fE (.string s) p.1 with
 | none=>rfl
 | some j=>rfl
theorem aeP (s s':ByteArray) (x:Value):∀ L:List (Value×Value),cD (acf L s x) s'=if s'=s then some x else cD L s'
 | []=>by
  rw[Fu];by_cases h:s'=s
  .subst h;rw[uV,if_pos rfl]
  .rw[s3 _ _ (FY h),if_neg h]
 | (k,y) :: L=>by
  by_cases hk:k = .string s
  .subst hk;rw[AZ];by_cases h:s'=s
   .subst h;rw[uV,if_pos rfl]
   .rw[s3 _ _ (FY h),s3 _ _ (FY h),if_neg h]
  .rw[A0 _ _ _ hk];by_cases eQ:k = .string s'
   .subst eQ;rw[uV,uV,if_neg (fun e=>hk (by rw[e]))]
   .rw[s3 _ _ eQ,s3 _ _ eQ,aeP s s' x L]
theorem Lc (s:ByteArray) (x:Value):∀ {L:List (Value×Value)} {k:Value},k∈(acf L s x).map (·.1)->k = .string s\/k∈L.map (·.1)
 | [],k,h=>by rw[Fu]at h;simp at h;exact .inl h
 | (k0,y) :: L,k,h=>by
  by_cases hk:k0 = .string s
  .subst hk;rw[AZ]at h;simp only[acJ,abV]at h ⊢
   rcases h with h | h
   .exact .inl h
   .exact .inr (.inr h)
  .rw[A0 _ _ _ hk]at h;simp only[acJ,abV]at h ⊢
   rcases h with h | h
   .exact .inr (.inl h)
   .rcases Lc s x h with h | h
    .exact .inl h
    .exact .inr (.inr h)
theorem uX (s:ByteArray) (x:Value):∀ {L:List (Value×Value)},adi L->adi (acf L s x)
 | [],_=>by rw[Fu];exact⟨by simp,by simp⟩
 | (k,y) :: L,h=>by
  have ih:=uX s x (Kk h);by_cases hk:k = .string s
  .subst hk;rw[AZ]
   exact⟨fun p hp=>by
    rcases abV.1 hp with rfl | hp
    .exact⟨s,rfl⟩
    .exact h.str p (by simp[hp]),by simpa using h.once⟩
  .rw[A0 _ _ _ hk];refine⟨fun p hp=>?_,?_⟩
   .rcases abV.1 hp with rfl | hp
    .exact h.str _ (by simp)
    .exact ih.str p hp
   .rw[acJ,acF];refine⟨fun hm=>?_,ih.once⟩
    rcases Lc s x hm with e | e
    .exact hk e
    .exact (acF.1 h.once).1 e
theorem xE:∀ {L:List (Value×Value)},adi L->∀ {j:Nat} (hj:j < L.length) {s:ByteArray},L[j].1 = .string s->cD L s=some L[j].2
 | (k,y) :: L,h,0,_,s,he=>by
  have:k = .string s:=he;subst this;exact uV _ _ _
 | (k,y) :: L,h,j+1,hj,s,he=>by
  have hj':j < L.length:=by simpa using hj
  have aI:k≠.string s:=fun e=>(acF.1 h.once).1 (by
   show k∈_;have gZ:L[j].1 = .string s:=he;rw[e,<- gZ]
   exact acD.2 ⟨L[j],abH hj',rfl⟩)
  rw[s3 _ _ aI];exact xE (Kk h) hj' he
theorem Kg {L:List (Value×Value)} {s:ByteArray} {v:Value} (h:cD L s=some v):∃ j,∃ hj:j < L.length,L[j].1 = .string s/\L[j].2=v:=by
 unfold cD at h;obtain⟨p,hp,rfl⟩:=AT.1 h;have h1:=List.find?_some hp;obtain⟨j,hj,rfl⟩:=aco.1 (List.mem_of_find?_eq_some hp);exact⟨j,hj,(Es s _).1 h1,rfl⟩
structure rE (E:List (Value×Value)) (seen:List Nat) (L:List (Value×Value)):Prop where
 ok:adi L
 have':∀ j∈seen,∀ hj:j < E.length,∀ s,E[j].1 = .string s->cD L s=some E[j].2
 only:∀ s v,cD L s=some v->∃ j,∃ hj:j < E.length,j∈seen/\E[j].1 = .string s
theorem Hh (E:List (Value×Value)):rE E [] []:=⟨EI,by simp,fun s v h=>by cases h⟩
theorem Hg {E:List (Value×Value)} (hE:adi E) {seen:List Nat} {L:List (Value×Value)} (h:rE E seen L) {j:Nat} (hj:j < E.length) {s:ByteArray} (hs:E[j].1 = .string s):rE E (seen ++ [j]) (acf L s E[j].2):=by
 refine⟨uX s _ h.ok,fun i hi c6 s' l3=>?_,fun s' v hv=>?_⟩
 .rw[aeP];by_cases e:s'=s
  .subst e;rw[if_pos rfl];have h1:=xE hE hj hs;have h2:=xE hE c6 l3;rw[<- h1,h2]
  .rw[if_neg e]
   rcases ab4.1 hi with hi | hi
   .exact h.have' i hi c6 s' l3
   .obtain rfl:i=j:=by simpa using hi
    rw[hs]at l3;injection l3 with l3;exact absurd l3.symm e
 .rw[aeP]at hv;by_cases e:s'=s
  .subst e;exact⟨j,hj,by simp,hs⟩
  .rw[if_neg e]at hv;obtain⟨i,hi,h1,h2⟩:=h.only s' v hv;exact⟨i,hi,by simp[h1],h2⟩
theorem O0 {E:List (Value×Value)} (hE:adi E) {seen:List Nat} {L:List (Value×Value)} (h:rE E seen L) (bC:∀ j,j < E.length->j∈seen) (s:ByteArray):cD L s=cD E s:=by
 cases he:cD E s with
 | some v=>
  obtain⟨j,hj,h1,h2⟩:=Kg he;rw[h.have' j (bC j hj) hj s h1,h2]
 | none=>
  cases hl:cD L s with
  | none=>rfl
  | some v=>
   obtain⟨j,hj,_,h1⟩:=h.only s v hl;rw[xE hE hj h1]at he;cases he
theorem afC (s:ByteArray):∀ L:List (Value×Value),iz (.string s) (cE L)=(cD L s).map .v
 | []=>rfl
 | (k,x) :: L=>by
  have ih:=afC s L;by_cases hk:k = .string s
  .subst hk;rw[uV];show ((List.find? _ ((Value.string s,D.v x) :: cE L)).map _)=_;rw[List.find?_cons];simp only[Al];rfl
  .rw[s3 _ _ hk,<- ih];show ((List.find? _ ((k,D.v x) :: cE L)).map _)=_;rw[List.find?_cons];simp only[Ak hk];rfl
theorem dI (s:ByteArray) (x:Value):∀ L:List (Value×Value),pf (.string s) (.v x) (cE L)=cE (acf L s x)
 | []=>rfl
 | (k,y) :: L=>by
  have ih:=dI s x L;by_cases hk:k = .string s
  .subst hk;rw[AZ];show (match List.findIdx? _ ((Value.string s,D.v y) :: cE L)with | some j=>_ | none=>_)=_;rw[ael];simp only[Al,if_true];rfl
  .rw[A0 _ _ _ hk];unfold pf at ih;unfold pf;show (match List.findIdx? _ ((k,D.v y) :: cE L)with | some j=>_ | none=>_)=(k,D.v y) :: cE (acf L s x);rw[ael,<- ih];simp only[Ak hk,abT,if_false]
   cases List.findIdx? (fun p=>fE (.string s) p.1) (cE L) with
   | none=>rfl
   | some j=>rfl
theorem aeS:∀ L:List (Value×Value),j4 (cE L)=some L
 | []=>rfl
 | (k,x) :: L=>by
  show (j4 (cE L)).map _=_;rw[aeS L];rfl
theorem aeO {L:List (Value×Value)} (h:adi L):∀ p∈cE L,ads .string p.1=true:=fun p hp=>by
 obtain⟨q,hq,rfl⟩:=acD.1 hp;obtain⟨s,hs⟩:=h.str q hq;show ads .string q.1=true;rw[hs];rfl
def tH:Option Value->Bool
 | some (.bool b)=>b
 | _=>false
def aec:Option Value->Int
 | some (.int _ n)=>n
 | _=>0
structure fm (p:PgP) (s:bX) (I C:List (Value×Value)):Prop where
 jB:adi I
 okC:adi C
 bI:∀ k v,cD I k=some v->∃ b,v = .bool b
 iC:∀ k v,cD C k=some v->∃ n,v = .int .i64 n
 is:∀ i (hi:i < p.names.length),tH (cD I (bs p.names[i].name))=s.is.getD i false
 ct:∀ i (hi:i < p.names.length),aec (cD C (bs p.names[i].name))=s.ct.getD i 0
theorem On {a b:Tx} (h:bs a=bs b):a=b:=by
 have:=congrArg (fun x:ByteArray=>x.data.toList) h;simpa[bs]using this
theorem Kw {p:PgP} (hg:hC p) {i k:Nat} (hi:i < p.names.length) (hk:k < p.names.length) (h:bs p.names[k].name=bs p.names[i].name):k=i:=by
 have h1:=hg.num i hi;have h2:=hg.num k hk;rw[On h]at h2;rw[h1]at h2;omega
theorem Wr {p:PgP}:fm p (jg p) [] []:=by
 refine⟨EI,EI,fun k v h=>(by cases h),fun k v h=>(by cases h),fun i hi=>?_,fun i hi=>?_⟩
 .show false=(List.replicate _ false).getD i false;rw[r0]
 .show (0:Int)=(List.replicate _ (0:Int)).getD i 0;rw[r0]
theorem rq {p:PgP} (hg:hC p) {s:bX} {I C:List (Value×Value)} (h:fm p s I C) (hl:s.is.length=p.names.length) {i:Nat} (hi:i < p.names.length) (b:Bool):fm p ⟨s.is.set i b,s.ct⟩ (acf I (bs p.names[i].name) (.bool b)) C:=by
 refine⟨uX _ _ h.jB,h.okC,fun k v hv=>?_,h.iC,fun k hk=>?_,h.ct⟩
 .rw[aeP]at hv;split at hv
  .exact⟨b,(AI hv).symm⟩
  .exact h.bI k v hv
 .rw[aeP];show _=(s.is.set i b).getD k false;by_cases e:k=i
  .subst e;rw[if_pos rfl,jK (by omega)];rfl
  .rw[if_neg (fun e2=>e (Kw hg hi hk e2)),gq (fun e2=>e e2.symm)];exact h.is k hk
theorem A5 {p:PgP} (hg:hC p) {s:bX} {I C:List (Value×Value)} (h:fm p s I C) (hl:s.ct.length=p.names.length) {i:Nat} (hi:i < p.names.length) (n:Int):fm p ⟨s.is,s.ct.set i n⟩ I (acf C (bs p.names[i].name) (.int .i64 n)):=by
 refine⟨h.jB,uX _ _ h.okC,h.bI,fun k v hv=>?_,h.is,fun k hk=>?_⟩
 .rw[aeP]at hv;split at hv
  .exact⟨n,(AI hv).symm⟩
  .exact h.iC k v hv
 .rw[aeP];show _=(s.ct.set i n).getD k 0;by_cases e:k=i
  .subst e;rw[if_pos rfl,jK (by omega)];rfl
  .rw[if_neg (fun e2=>e (Kw hg hi hk e2)),gq (fun e2=>e e2.symm)];exact h.ct k hk
theorem Wq {p:PgP} {s:bX} {I C I2 C2:List (Value×Value)} (h:fm p s I C) (h1:adi I2) (h2:adi C2) (h3:∀ k,cD I2 k=cD I k) (h4:∀ k,cD C2 k=cD C k):fm p s I2 C2:=
 ⟨h1,h2,fun k v hv=>h.bI k v (by rw[<- h3];exact hv),fun k v hv=>h.iC k v (by rw[<- h4];exact hv),fun i hi=>by rw[h3];exact h.is i hi,fun i hi=>by rw[h4];exact h.ct i hi⟩
theorem Ll {p:PgP} {s:bX} {I C:List (Value×Value)} (h:fm p s I C) (nm:Tx) (hn:¬ bF p nm < 0):tH (cD I (bs nm))=eO p s.is nm:=by
 obtain⟨k,hk,he,hs⟩:=pY hn
 have l3:p.names[k].name=nm:=by simpa using hs
 have gZ:bF p nm=k:=he;unfold eO;rw[gZ,abX,<- h.is k hk,l3]
theorem V7 (G:aq) {p:PgP} {s:bX} {I C:List (Value×Value)} (h:fm p s I C):aeG (fun nm=>¬ bF p nm < 0) G 72 [.ip [.dm false I,.dm false C]] (eO p s.is):=by
 intro nm hn;rw[<- Ll h nm hn];have hg:=afC (bs nm) I;have hb:=h.bI (bs nm);have hk0:=aeO h.jB;simp at hk0;have bq:=eq_true hk0;have fi:=h.jB.once;simp only[dS];generalize bs nm=k at *
 cases hl:cD I k with
 | none=>
  rw[hl]at hg;simp only[Option.map_none]at hg;refine ar.abS (al _) func72 rfl rfl (rs:=[.tmp 3]) results72 (by simp[ntmps72]) fun X=>?_;simp only[ntmps72,List.map];refine ah [0,1] [] ?_;have qf:=(Aq @bq (Aq @fi (Aq @hg (Aq @aft (Aq @afD @afE)))));refine abQ [3] [] ?_;refine ab1 ?_;simp[D.le,D.le.go,aC,tH]
 | some v=>
  obtain⟨b,rfl⟩:=hb v hl;rw[hl]at hg;simp only[acN]at hg;refine ar.abS (al _) func72 rfl rfl (rs:=[.tmp 3]) results72 (by simp[ntmps72]) fun X=>?_;simp only[ntmps72,List.map];refine ah [0,1] [] ?_;have qf:=(Aq @bq (Aq @fi (Aq @hg (Aq @aft (Aq @afD @afE)))));refine abQ [3] [] ?_;refine ab1 ?_;simp[D.le,D.le.go,aC,tH]
theorem V8 (G:aq) {p:PgP} {s:bX} {I C:List (Value×Value)} (h:fm p s I C):aeG (fun nm=>¬ bF p nm < 0) G 73 [.ip [.dm false I,.dm false C]] (eO p s.is):=by
 intro nm hn;rw[<- Ll h nm hn];have hg:=afC (bs nm) I;have hb:=h.bI (bs nm);have hk0:=aeO h.jB;simp at hk0;have bq:=eq_true hk0;have fi:=h.jB.once;simp only[dS];generalize bs nm=k at *
 cases hl:cD I k with
 | none=>
  rw[hl]at hg;simp only[Option.map_none]at hg;refine ar.abS (al _) func73 rfl rfl (rs:=[.tmp 3]) results73 (by simp[ntmps73]) fun X=>?_;simp only[ntmps73,List.map];refine ah [0,1] [] ?_;have qf:=(Aq @bq (Aq @fi (Aq @hg (Aq @aft (Aq @afD @afE)))));refine abQ [3] [] ?_;refine ab1 ?_;simp[D.le,D.le.go,aC,tH]
 | some v=>
  obtain⟨b,rfl⟩:=hb v hl;rw[hl]at hg;simp only[acN]at hg;refine ar.abS (al _) func73 rfl rfl (rs:=[.tmp 3]) results73 (by simp[ntmps73]) fun X=>?_;simp only[ntmps73,List.map];refine ah [0,1] [] ?_;have qf:=(Aq @bq (Aq @fi (Aq @hg (Aq @aft (Aq @afD @afE)))));refine abQ [3] [] ?_;refine ab1 ?_;simp[D.le,D.le.go,aC,tH]
theorem LQ (G:aq):MC prog G [] 70 [] (ak []) (.agg [.mp 601,.mp 602]) (ak [(601,.mp 59 []),(602,.mp 60 [])]):=by
 refine MC.abS (al _) func70 rfl rfl (rs:=[.cell 0 62]) results70 (by simp[ntmps70]) rfl fun X=>?_;simp only[ntmps70];refine ah [0] [0] ?_;refine ah [0] [0,1,2] ?_;refine AW.imp (aB.ren (r:=1) (r':=601) (by decide) (by simp)) ?_;refine AW.st (by simp[fb,ac4,Go.Av.ren,mZ];rfl) ?_;refine AW.imp (aB.ren (r:=2) (r':=602) (by decide) (by simp)) ?_;refine AW.st (by simp[fb,ac4,Go.Av.ren,mZ];rfl) ?_;exact cZ
def s4 (p:PgP) (bR:List Bool) (I:List (Value×Value)):Nat->List (Value×Value)
 | 0=>I
 | k+1=>acf (s4 p bR I k) (bs (p.names.getD ((ba p).getD k 0).toNat ⟨[],0,0⟩).name) (.bool (bR.getD k false))
abbrev j3:=List (Value×Value)×List (Value×Value)
def ra (p:PgP) (yes:Bool) (r:fI) (m:j3):j3:=
 let k:=bs r.name
 let top:=(p.names.getD (bF p r.name).toNat ⟨[],0,0⟩).count
 if r.kind=1 then (acf m.1 k (.bool yes),m.2)
 else if r.kind=2 then (if yes then acf m.1 k (.bool true) else m.1,m.2)
 else if r.kind=3 then (if yes then acf m.1 k (.bool false) else m.1,m.2)
 else if r.kind=6 then (if yes then (acf m.1 k (.bool false),acf m.2 k (.int .i64 0)) else m)
 else
  let c:=aec (cD m.2 k)
  let C1:=if yes then (if c < top then acf m.2 k (.int .i64 (c+1)) else m.2) else (if r.kind=4 then acf m.2 k (.int .i64 0) else m.2)
  (acf m.1 k (.bool (aec (cD C1 k) == top)),C1)
def rb (p:PgP) (dM t:bX):List fI->j3->j3
 | [],m=>m
 | r :: l,m=>rb p dM (jf p dM t r) l (ra p (og (eO p t.is) (eO p dM.is) r.cond) r m)
def u1 (p:PgP) (s:bX) (bR:List Bool) (m:j3):j3:=rb p s ⟨jX (ba p) bR s.is (ba p).length,s.ct⟩ p.ao (s4 p bR m.1 (ba p).length,m.2)
theorem Kp (p:PgP) (dM:bX):∀ (l:List fI) (t:bX) (m:j3) (n:Nat) (h:n < l.length),rb p dM t (l.take (n+1)) m=ra p (og (eO p ((l.take n).foldl (jf p dM) t).is) (eO p dM.is) l[n].cond) l[n] (rb p dM t (l.take n) m)
 | r :: l,t,m,0,_=>rfl
 | r :: l,t,m,n+1,h=>by
  have:=Kp p dM l (jf p dM t r) (ra p (og (eO p t.is) (eO p dM.is) r.cond) r m) n (by simpa using h);simp only[List.take_succ_cons,rb,List.foldl_cons,List.getElem_cons_succ];exact this
theorem EX {p:PgP} (hg:hC p) {s:bX} (hs:eb p s) (bR:List Bool) {I C:List (Value×Value)} (h:fm p s I C):∀ k,k<=(ba p).length->fm p ⟨jX (ba p) bR s.is k,s.ct⟩ (s4 p bR I k) C
 | 0,_=>h
 | k+1,hk=>by
  have ih:=EX hg hs bR h k (by omega);obtain⟨i,hi,he,_⟩:=uP (p:=p) (j:=k) (by omega)
  have e1:(ba p).getD k 0=(i:Int):=by rw[cT (by omega)];exact he
  have e2:p.names.getD i ⟨[],0,0⟩=p.names[i]:=cT hi;rw[s4,e1,abX,e2,Ft (by omega) he];exact rq hg ih (td bR hs k (by omega)).1.l1 hi _
theorem FM {α:Type} {l:List α} {i:Nat} {d x:α} (hi:i < l.length) (h:l.getD i d=x):l.set i x=l:=by
 rw[cT hi]at h;rw[<- h,List.set_getElem_self]
theorem UK {p:PgP} (aP:acg p=none) {r:fI} (hr:r∈p.ao) (dM:bX) {t:bX} (ht:eb p t) {m:j3} (h:fm p t m.1 m.2):fm p (jf p dM t r) (ra p (og (eO p t.is) (eO p dM.is) r.cond) r m).1 (ra p (og (eO p t.is) (eO p dM.is) r.cond) r m).2:=by
 have hg:=fq aP;obtain⟨i,hi,hn,hw,hd⟩:=Bd aP hr;obtain⟨hk,sx,_⟩:=rN aP r hr;obtain⟨i2,eE,he2,du⟩:=pY sx
 have fj:r.name=p.names[i].name:=by
  have h1:bF p r.name=(i2:Int):=he2
  have:i2=i:=by omega
  subst this
  have:p.names[i2].name=r.name:=by simpa using du
  exact this.symm
 have hl1:=ht.l1;have fX:=ht.l2;have hlo:=ht.lo i;have hhi:=ht.hi i hi;have R0:=h.is i hi;have zB:=h.ct i hi;have jM:=hg.count _ (abH hi);unfold ra jf;simp only[hn,abX,hd];generalize og (eO p t.is) (eO p dM.is) r.cond=yes;obtain⟨kd,nm,cd⟩:=r;dsimp only at fj hk hw hn ⊢;subst fj;clear sx he2 du hr hn;obtain⟨is,ct⟩:=t;obtain⟨I,C⟩:=m;dsimp only at R0 zB hl1 fX hlo hhi h ⊢
 have hi1:i < is.length:=by omega
 have eE:i < ct.length:=by omega
 generalize hv:ct.getD i 0=v at *;have Jk:ct.set i v=ct:=FM eE hv
 have put:∀ n,aec (cD (acf C (bs p.names[i].name) (.int .i64 n)) (bs p.names[i].name))=n:=fun n=>by rw[aeP,if_pos rfl];rfl
 have fin:∀ (c:Int) (C1:List (Value×Value)),fm p ⟨is,ct.set i c⟩ I C1->aec (cD C1 (bs p.names[i].name))=c->∀ b,(c == p.names[i].count)=b->fm p ⟨is.set i b,ct.set i c⟩ (acf I (bs p.names[i].name) (.bool (aec (cD C1 (bs p.names[i].name)) == p.names[i].count))) C1:=fun c C1 h1 h2 b h3=>by
  rw[h2,h3];exact rq (s:=⟨is,ct.set i c⟩) hg h1 hl1 hi b
 have wZ:kd=1\/kd=2\/kd=3\/kd=4\/kd=5\/kd=6:=by omega
 have run:(kd=4\/kd=5)->∀ C1,C1=(if yes then (if aec (cD C (bs p.names[i].name)) < p.names[i].count then acf C (bs p.names[i].name) (.int .i64 (aec (cD C (bs p.names[i].name))+1)) else C) else C)->fm p (gS ⟨is,ct⟩ i p.names[i].count yes) (acf I (bs p.names[i].name) (.bool (aec (cD C1 (bs p.names[i].name)) == p.names[i].count))) C1:=fun hkd C1 qB=>by
  have aib:1<=p.names[i].count:=by
   have:p.names[i].kind=3\/p.names[i].kind=4:=by
    rcases hkd with rfl | rfl
    .exact .inl hw
    .exact .inr hw
   omega
  rw[zB]at qB;unfold gS;simp only[hv]
  cases yes with
  | true=>
   simp only[if_true]at qB ⊢;by_cases au:v < p.names[i].count
   .rw[if_pos au]at qB
    have e:(if v+1 < p.names[i].count then v+1 else p.names[i].count)=v+1:=by split<;>omega
    rw[e,qB];refine fin (v+1) _ (A5 hg h fX hi _) (put _) _ ?_;exact aeB.2 (by simp;omega)
   .rw[if_neg au]at qB
    have e:(if v+1 < p.names[i].count then v+1 else p.names[i].count)=v:=by split<;>omega
    rw[e,qB];refine fin v C (by rw[Jk];exact h) zB _ ?_;exact aeB.2 (by simp;omega)
  | false=>
   simp only[abT,if_false]at qB ⊢;rw[qB];refine fin v C (by rw[Jk];exact h) zB _ ?_;exact aeB.2 (by simp;omega)
 rcases wZ with rfl | rfl | rfl | rfl | rfl | rfl
 .exact rq hg h hl1 hi yes
 .cases yes with
  | true=>
   show fm p ⟨is.set i (is.getD i false || true),ct⟩ (acf I _ (.bool true)) C;rw[Bool.or_true];exact rq hg h hl1 hi true
  | false=>
   show fm p ⟨is.set i (is.getD i false || false),ct⟩ I C;rw[Bool.or_false,FM hi1 rfl];exact h
 .cases yes with
  | true=>
   show fm p ⟨is.set i (is.getD i false && !true),ct⟩ (acf I _ (.bool false)) C;rw[Bool.not_true,Bool.and_false];exact rq hg h hl1 hi false
  | false=>
   show fm p ⟨is.set i (is.getD i false && !false),ct⟩ I C;rw[adg,Bool.and_true,FM hi1 rfl];exact h
 .cases yes with
  | true=>exact run (.inl rfl) _ rfl
  | false=>
   show fm p (oV (gS ⟨is,ct⟩ i p.names[i].count false) i) (acf I _ (.bool (aec (cD (acf C _ (.int .i64 0)) _) == p.names[i].count))) (acf C _ (.int .i64 0))
   have aib:1<=p.names[i].count:=by
    have:p.names[i].kind=3:=hw;omega
   have e:oV (gS ⟨is,ct⟩ i p.names[i].count false) i=⟨is.set i false,ct.set i 0⟩:=by
    simp[oV,gS,List.set_set]
   rw[e];refine fin 0 _ (A5 hg h fX hi _) (put _) false ?_;simp;omega
 .cases yes with
  | true=>exact run (.inr rfl) _ rfl
  | false=>exact run (.inr rfl) _ rfl
 .cases yes with
  | true=>exact A5 (s:=⟨is.set i false,ct⟩) hg (rq hg h hl1 hi false) fX hi 0
  | false=>exact h
theorem EY {p:PgP} (aP:acg p=none) (dM:bX):∀ (l:List fI) {t:bX} {m:j3},(∀ r∈l,r∈p.ao)->eb p t->fm p t m.1 m.2->fm p (l.foldl (jf p dM) t) (rb p dM t l m).1 (rb p dM t l m).2
 | [],t,m,_,_,h=>h
 | r :: l,t,m,hl,ht,h=>EY aP dM l (fun r hr=>hl r (by simp[hr])) (ahm aP (hl r (by simp)) dM ht).1 (UK aP (hl r (by simp)) dM ht h)
theorem UN {p:PgP} (aP:acg p=none) {s:bX} (hs:eb p s) (bR:List Bool) {m:j3} (h:fm p s m.1 m.2):fm p (mz p s bR) (u1 p s bR m).1 (u1 p s bR m).2:=
 EY aP s p.ao (fun r hr=>hr) (td bR hs _ (abL _)).1 (EX (fq aP) hs bR h _ (abL _))
theorem Nr (y:Int):(k9 .and .i64 y 1 == 1)=decide (y % 2=1):=by
 unfold k9;dsimp only
 have h2:(BitVec.ofInt 64 (1:Int)).toNat=1:=by decide
 have h3:(BitVec.ofInt IntKind.i64.bits y &&& BitVec.ofInt IntKind.i64.bits (1:Int)).toNat=(y % 2).toNat:=by
  show (BitVec.ofInt 64 y &&& BitVec.ofInt 64 (1:Int)).toNat=(y % 2).toNat
  rw[BitVec.toNat_and,h2,Nat.and_one_is_mod,BitVec.toNat_ofInt];omega
 rw[h3]
 have:y % 2=0\/y % 2=1:=by omega
 rcases this with h | h<;>rw[h]<;>decide
theorem Tf (x:Int) {k:Nat} (hk:k<=6):xy x k=decide ((x / 2 ^ k) % 2=1):=by
 unfold xy
 have e:min k IntKind.i64.bits=k:=by
  have:IntKind.i64.bits=64:=rfl;rw[this];omega
 rw[e,Int.fdiv_eq_ediv_of_nonneg _ (by exact aex (Int.pow_pos (by decide))),Nr]
theorem Q5 (x:Int) (k:Nat):x / 2 ^ (k+1)=x / 2 ^ k / 2:=by
 rw[Int.pow_succ,Int.ediv_ediv_of_nonneg (by exact aex (Int.pow_pos (by decide)))]
def Ay (p:PgP) (x:Int×j3) (nm:eM):Int×j3:=if ch p nm=0 then x else
 (x.1 / ch p nm,if 3<=nm.kind then (acf x.2.1 (bs nm.name) (.bool (decide (x.1 % ch p nm=nm.count))),acf x.2.2 (bs nm.name) (.int .i64 (x.1 % ch p nm))) else (acf x.2.1 (bs nm.name) (.bool (decide (x.1 % ch p nm=1))),x.2.2))
def jW (p:PgP) (n:Int) (k:Nat):Int×j3:=(p.names.take k).foldl (Ay p) (n,([],[]))
theorem UM (p:PgP) (n:Int):jW p n 0=(n,([],[])):=rfl
theorem Kq {p:PgP} (n:Int) {k:Nat} (h:k < p.names.length):jW p n (k+1)=Ay p (jW p n k) p.names[k]:=by
 unfold jW;rw[abR h,List.foldl_append];rfl
theorem afz {p:PgP} (hg:hC p) {i:Nat} (hi:i < p.names.length):0<=ch p p.names[i]:=by
 have h5:=hg.count _ (abH hi);unfold ch;split
 .rcases h5 with h5 | h5<;>omega
 .split
  .omega
  .split<;>omega
theorem EZ {p:PgP} (aP:acg p=none) (n:Int) (h0:0<=n):∀ k,k<=p.names.length->∃ s:bX,s.is.length=p.names.length/\s.ct.length=p.names.length/\fm p s (jW p n k).2.1 (jW p n k).2.2/\ml (gk p k) (jW p n k).1 s=stP p n/\0<=(jW p n k).1/\(jW p n k).1<=n
 | 0,_=>⟨jg p,by simp[jg],by simp[jg],Wr,rfl,h0,Int.le_refl _⟩
 | k+1,hk=>by
  have hg:=fq aP
  have eQ:k < p.names.length:=by omega
  obtain⟨s,l1,l2,hr,he,b0,b1⟩:=EZ aP n h0 k (by omega);rw[Kq n eQ];rw[ah8 hg _ s eQ]at he;have uE:=afz hg eQ;generalize jW p n k=x at *;obtain⟨m,I,C⟩:=x;dsimp only at hr he b0 b1;unfold Ay;by_cases hz:ch p p.names[k]=0
  .rw[if_pos hz]at he;simp only[if_pos hz];exact⟨s,l1,l2,hr,he,b0,b1⟩
  .rw[if_neg hz]at he;simp only[if_neg hz];have d0:0<=m / ch p p.names[k]:=Int.ediv_nonneg b0 uE;have d1:m / ch p p.names[k]<=m:=Int.ediv_le_self _ b0;by_cases k3:3<=p.names[k].kind
   .simp only[if_pos k3]
    have hpK:ch p p.names[k]=p.names[k].count+1:=by unfold ch;rw[if_pos k3]
    have h1:=A5 hg hr l2 eQ (m % ch p p.names[k]);have h2:=rq hg h1 l1 eQ (decide (m % ch p p.names[k]=p.names[k].count))
    have e:oN ⟨k,ch p p.names[k],decide (3<=p.names[k].kind)⟩ (m % ch p p.names[k]) s=⟨s.is.set k (decide (m % ch p p.names[k]=p.names[k].count)),s.ct.set k (m % ch p p.names[k])⟩:=by
     unfold oN
     have e2:ch p p.names[k] - 1=p.names[k].count:=by omega
     simp only[decide_eq_true k3,if_true,e2]
    rw[e]at he;exact⟨_,by simp[l1],by simp[l2],h2,he,d0,by omega⟩
   .simp only[if_neg k3];have h2:=rq hg hr l1 eQ (decide (m % ch p p.names[k]=1))
    have e:oN ⟨k,ch p p.names[k],decide (3<=p.names[k].kind)⟩ (m % ch p p.names[k]) s=⟨s.is.set k (decide (m % ch p p.names[k]=1)),s.ct⟩:=by
     unfold oN;simp only[decide_eq_false k3,abT,if_false]
    rw[e]at he;exact⟨⟨s.is.set k (decide (m % ch p p.names[k]=1)),s.ct⟩,by simp[l1],l2,h2,he,d0,by omega⟩
theorem UL {p:PgP} (aP:acg p=none) (n:Int) (h0:0<=n):fm p (stP p n) (jW p n p.names.length).2.1 (jW p n p.names.length).2.2:=by
 obtain⟨s,_,_,hr,he,_⟩:=EZ aP n h0 _ (abL _);rw[L7]at he;have e:s=stP p n:=he;rw[<- e];exact hr
theorem FT {p:PgP} (aP:acg p=none) {s:bX} (hs:eb p s) (k:Nat):0<=eA (gk p k) s/\eA (gk p k) s < bp (bn p):=by
 have hg:=fq aP;have h:=AG (l:=gk p k) (s:=s) fun _ hx=>Cr hs (kr hg (L8 hx))
 have e:bp (bn p)=bp ((bn p).take (eJ p k).length) * bp (gk p k):=by
  unfold gk;rw[<- x4,aeM]
 have h1:0 < bp ((bn p).take (eJ p k).length):=kW fun x hx=>(kr hg (acd hx)).m2;have h2:0 < bp (gk p k):=kW fun x hx=>(kr hg (L8 hx)).m2;have h3:=Int.mul_le_mul_of_nonneg_right (show (1:Int)<=bp ((bn p).take (eJ p k).length) by omega) (aex h2);rw[Int.one_mul]at h3;exact⟨h.1,by omega⟩
theorem aak {p:PgP} (aP:acg p=none) {s:bX} (hs:eb p s) {i:Nat} (hi:i < p.names.length) (hP:bp (bn p)<=4096) (hz:ch p p.names[i]≠0):0<=eA (gk p (i+1)) s * ch p p.names[i]/\eA (gk p (i+1)) s * ch p p.names[i]<=4096/\eA (gk p i) s=eA (gk p (i+1)) s * ch p p.names[i]+(if 3<=p.names[i].kind then s.ct.getD i 0 else if s.is.getD i false then 1 else 0):=by
 have hg:=fq aP;have h1:=L9 hg s hi;rw[if_neg hz,Int.mul_comm]at h1;have h2:=FT aP hs i;have h3:=FT aP hs (i+1);have h4:=ae7 h3.1 (afz hg hi)
 have h5:0<=(if 3<=p.names[i].kind then s.ct.getD i 0 else if s.is.getD i false then 1 else 0):=by
  split
  .exact hs.lo i
  .split<;>omega
 generalize (if 3<=p.names[i].kind then s.ct.getD i 0 else if s.is.getD i false then 1 else 0)=d at *;exact⟨h4,by omega,by omega⟩
def xU (R:List Nat) (q off n:Nat):AV:=if R.contains q then .dead else .own q off n
def xS (R:List Nat) (q e j:Nat):AV:=if R.contains q then .dead else .ref q e j
theorem Td {Mv X:Nat->Prop} {G:aq} {N:Fr} {σ:St} (R:List Nat) (hm:∀ r,R.contains r=true->Mv r) (i k:Nat) {x:AV} {d:D} (hx:σ.env i=some x) (hd:dW (trH R.contains (acH R) (acG R) σ.H) k (x.tr (acH R) (acG R))=some d):aB Mv X G N σ ⟨eW (trE (xU R) (xS R) σ.env) i (.d d),trH (dZ R) (xU R) (xS R) σ.H⟩:=fun w μ a hi=>by
 have hp:=hi.aX.part R
 have h':=hi.tr (keep:=dZ R) (o:=xU R) (f:=xS R) (fun u r off n h=>by
   unfold xU;split
   .exact .dead u
   .rename_i hk;exact h.vh (by simpa[dZ]using hk)) (fun u r e j h=>by
   unfold xS;split
   .exact .dead u
   .rename_i hk;exact h.vk (by simpa[dZ]using hk))
 obtain⟨u,hu,hr⟩:=hi.env.slot i x hx;have bD:RD w (XX X (bL (dZ R) μ)) u d:=agC hp.1 k hd (hp.2 hr);refine⟨bL (dZ R) μ,⟨h'.aX,⟨h'.env.defers,h'.env.size,fun q y hy=>?_⟩,h'.gr⟩,rY fun r _ _ h=>hm r (by simpa[dZ]using h)⟩;by_cases e:q=i
 .subst e
  have e2:some (AV.d d)=some y:=by simpa[eW]using hy
  obtain rfl:=AI e2;exact⟨u,hu,.d bD⟩
 .exact h'.env.slot q y (by simpa[eW,e]using hy)
def o7 (p:PgP) (st eI:Int) (nx:List (List D)):List D:=[bO p.names,.sl none (p.ao.map cL),.v (.int .i64 st),.v (.int .i64 eI),.sl none nx]
def dMw (p:PgP) (st eI:Int) (nx:List (List D)):D:=.ip (o7 p st eI nx)
def oK (p:PgP) (st eI:Int) (nx:List (List D)):List (Nat×Row):=[(12,.box 50 [.d (bO p.names),.d (.sl none (p.ao.map cL)),.d (.v (.int .i64 st)),.d (.v (.int .i64 eI)),.own 800 0 nx.length]),(800,.sl 46 1 nx)]
def vY (m:j3):D:=.agg [.dm false m.1,.dm false m.2]
theorem aah (G:aq) (p:PgP) (aP:acg p=none) (st eI:Int) (nx:List (List D)) (x:Int) (h0:0<=x) (h1:x<=2^40) (hm6:(ba p).length<=6):MC prog G [12,800] 23 [.ref 12 0 0,.d (ab x)] (ak (oK p st eI nx)) (.d (dBl (e6 x (ba p).length))) (ak (oK p st eI nx)):=by
 have fj:=(fq aP).names;have hkd:=Bv G p (by omega) 1;have kI:gD p.names 1 p.names.length=ba p:=rfl;rw[kI]at hkd;simp only[cX,eu,bO]at hkd;simp only[oK,bO,ab,dBl]
 have lh:((ba p).map fun n=>[D.v (.int .i64 n)]).length=(ba p).length:=by simp
 generalize (ba p).length=m at *;generalize (ba p).map (fun n=>[D.v (.int .i64 n)])=IN at *;generalize p.names.map cNm=NN at *;generalize p.ao.map cL=RR at *;refine MC.abS (al _) func23 rfl rfl (rs:=[.tmp 4]) results23 (by simp[ntmps23]) rfl fun X=>?_;simp only[ntmps23];have fw:=@afg;refine rgq fw [0,1] [12,800] ?_;refine rgq fw [0,1,5] [12,800] ?_;refine af fun K1 ax=>?_;refine aT fw hkd [1,5,11,12] [12,800] ?_;refine bQ (S:=Nat×Int) (fun s=>s.1<=m/\0<=s.2/\s.2<=2^40/\s.2=x / 2 ^ s.1) (fun s=>⟨aV [(1,int s.2),(5,.own 901 0 s.1),(11,int m),(12,int s.1)],ak [(12,.box 50 [.d (.sl none NN),.d (.sl none RR),.d (.v (.int .i64 st)),.d (.v (.int .i64 eI)),.own 800 0 nx.length]),(800,.sl 46 1 nx),(901,.sl 4 1 ((e6 x s.1).map fun b=>[.v (.bool b)]))]⟩) (fun s=>m - s.1) (0,x) ?_ ⟨by simp,h0,h1,by simp⟩ ?_
 .refine (aB.ky 5 901 4 1 rfl rfl).trans ?_;refine abW (Aq fw (Aq @e6.eq_1 (Aq @e6.eq_2 @lh)))
 .rintro⟨k,v⟩ ⟨zJ,ga,gC,hv⟩;dsimp only at zJ ga gC hv ⊢
  have lg:((e6 x k).map fun b=>[D.v (.bool b)]).length=k:=by simp[xz]
  have hBs:e6 x (k+1)=e6 x k ++ [decide (v % 2=1)]:=by rw[hv,<- Tf x (by omega)];rfl
  generalize iS:e6 x k=B at lg hBs ⊢;refine rgq fw [1,5,11,12,13] [12,800,901] ?_;refine af fun K2 aa=>?_;refine eh (b:=k < m) (by simp[D.le,D.le.go,aC,ab]) (fun hc=>?_) (fun hc=>?_)
  .have lv:v.tmod 2=v % 2:=Int.tmod_eq_emod_of_nonneg ga
   have hdiv:IntKind.i64.wrap (v.tdiv 2)=v / 2:=by
    rw[Int.tdiv_eq_ediv_of_nonneg ga];exact BE (by omega)
   refine abO (aa _ ?_);refine af fun K3 aQ=>?_;refine aR ?_;refine rg [1,5,11,12] [12,800,901] (cJ rfl) fun K' ae=>?_;(repeat (refine sxn fun K2 aa=>?_;simp[ab,lg,sh,lv];(repeat (refine⟨by omega,?_⟩));refine aa _ ?_;clear aa K2));refine sxz (ae _ (AW.st (by simp[ab,lg,sh,lv];rfl) ?_));clear ae K';have qf:=(Aq fw @hdiv);refine dN aQ [1,5,11,12] [12,800,901] ?_;refine reQ fw ?_;(try simp only[aJ,aL]);refine aS.mk (k+1,v / 2) ⟨by dsimp only;omega,by dsimp only;omega,by dsimp only;omega,by dsimp only;rw[Q5,<- hv]⟩ (by dsimp only;omega) ?_;rw[hBs];refine abW fw
  .obtain rfl:k=m:=by omega
   refine bx (ax _ ?_);rw[iS];refine AW.imp (aB.freeze 901 (by decide)) ?_;refine AW.st (by simp[ab,lg,sh];rfl) ?_;refine rgq fw [4] [12,800] ?_;exact aN fw
theorem aal (G:aq) (hM:adP G) (p:PgP) (aP:acg p=none) (hk:∀ r∈p.ao,lQ r) (st eI:Int) (nx:List (List D)) (s:bX) (hs:eb p s) (hP:bp (bn p)<=4096) (I C:List (Value×Value)) (hr:fm p s I C):MC prog G [12,800] 69 [.ref 12 0 0,.d (vY (I,C))] (ak (oK p st eI nx)) (.d (ab (eA (bn p) s))) (ak (oK p st eI nx)):=by
 have hg:=fq aP;have fj:=hg.names;have nH:=Bc G hM p aP hk;simp only[cX,eu,bO,dk]at nH;have jB:=hr.jB;have okC:=hr.okC;have hk0:=aeO jB;simp at hk0;have bq:=eq_true hk0;have hk2:=aeO okC;simp at hk2;have cY:=eq_true hk2;have xO:=jB.once;have xP:=okC.once
 have hIb:∀ i (hi:i < p.names.length),(iz (.string (bs p.names[i].name)) (cE I)=none/\s.is.getD i false=false)\/iz (.string (bs p.names[i].name)) (cE I)=some (.v (.bool (s.is.getD i false))):=fun i hi=>by
  rw[afC,<- hr.is i hi]
  cases h:cD I (bs p.names[i].name) with
  | none=>exact .inl ⟨rfl,rfl⟩
  | some v=>obtain⟨b,rfl⟩:=hr.bI _ v h;exact .inr rfl
 have Qt:∀ i (hi:i < p.names.length),(iz (.string (bs p.names[i].name)) (cE C)=none/\s.ct.getD i 0=0)\/iz (.string (bs p.names[i].name)) (cE C)=some (.v (.int .i64 (s.ct.getD i 0))):=fun i hi=>by
  rw[afC,<- hr.ct i hi]
  cases h:cD C (bs p.names[i].name) with
  | none=>exact .inl ⟨rfl,rfl⟩
  | some v=>obtain⟨b,rfl⟩:=hr.iC _ v h;exact .inr rfl
 have DX:=fun k=>FT aP hs k;have Jd:=fun i (hi:i < p.names.length)=>L9 hg s hi;have fZ:=fun i (hi:i < p.names.length)=>aak aP hs hi hP
 have df:(dT p).length=p.names.length:=by simp[dT]
 have pt:∀ i (hi:i < p.names.length),(dT p)[i]? = some (ch p p.names[i]):=fun i hi=>by simp[dT,hi]
 have hz0:eA (gk p 0) s=eA (bn p) s:=by rw[YK]
 have JA:eA (gk p p.names.length) s=0:=by rw[L7];rfl
 rw[<- hz0];clear hz0;generalize dT p=RP at *;obtain⟨V,hV⟩:∃ V:Nat->Int,∀ k,eA (gk p k) s=V k:=⟨_,fun _=>rfl⟩;simp only[hV]at DX Jd fZ JA ⊢;clear hV hr jB okC hk0 hk2;simp only[oK,bO,ab,vY]
 have nt:(p.names.map cNm).length=p.names.length:=by simp
 have gx:∀ i (h:i < p.names.length),(p.names.map cNm)[i]? = some [.v (.string (bs p.names[i].name)),.v (.int .i64 p.names[i].kind),.v (.int .i64 p.names[i].count)]:=fun i h=>by simp[h,cNm,dS]
 generalize p.names.map cNm=NN at *;generalize p.ao.map cL=RR at *;refine MC.abS (al _) func69 rfl rfl (rs:=[.tmp 4]) results69 (by simp[ntmps69]) rfl fun X=>?_;simp only[ntmps69];have fw:=@afg;refine rgq fw [0,3] [12,800,3] ?_;refine acp fw 3 ?_;refine rgq fw [0,3,5] [12,800] ?_;refine aT fw nH [0,3,5,6] [12,800] ?_;refine af fun K1 ax=>?_;refine rgq fw [0,3,5,6,7] [12,800] ?_;refine bQ (S:=Nat) (fun k=>k<=p.names.length) (fun k=>⟨aV [(0,.ref 12 0 0),(3,.d (.ip [.dm false I,.dm false C])),(5,int (V k)),(6,.d (.sl none (RP.map fun x=>[.v (.int .i64 x)]))),(7,int ((k:Int) - 1))],ak [(12,.box 50 [.d (.sl none NN),.d (.sl none RR),.d (.v (.int .i64 st)),.d (.v (.int .i64 eI)),.own 800 0 nx.length]),(800,.sl 46 1 nx)]⟩) (fun k=>k) p.names.length ?_ (abL _) ?_
 .rw[JA];refine abW (Aq fw @df)
 .intro k hk;refine af fun K2 aa=>?_;have qW:=DX k
  cases k with
  | zero=>
   refine rgq fw [0,3,5,6,7,18] [12,800] ?_;refine abN (by simp) ?_;refine bx (ax _ ?_);refine rgq fw [4] [12,800] ?_;exact aN fw
  | succ i=>
   have hi:i < p.names.length:=by omega
   have ei:((i+1:Nat):Int) - 1=(i:Int):=by omega
   rw[ei];refine rgq fw [0,3,5,6,7,18] [12,800] ?_;refine abP (by simp) ?_;refine abO (aa _ ?_);refine af fun K3 aQ=>?_;refine aR ?_
   have cr:i < NN.length:=by omega
   have r5:NN[i]=[.v (.string (bs p.names[i].name)),.v (.int .i64 p.names[i].kind),.v (.int .i64 p.names[i].count)]:=by
    have:=gx i hi;rw[By cr]at this;exact AI this
   have mJ:i < RP.length:=by omega
   have gy:RP[i]=ch p p.names[i]:=by
    have:=pt i hi;rw[By mJ]at this;exact AI this
   have hz:=Jd i hi;have hn:=fZ i hi;have hIi:=hIb i hi;have CO:=Qt i hi;generalize bs p.names[i].name=nm at r5 hIi CO;generalize p.names[i].kind=kd at r5 hz hn;generalize p.names[i].count=ct at r5;generalize ch p p.names[i]=K at gy hz hn;generalize s.is.getD i false=b at hIi hz hn;generalize s.ct.getD i 0=c at CO hz hn;generalize V (i+1)=v at hz hn qW ⊢;have jR:=DX i;generalize uj:V i=vi at hz hn jR;have qf:=(Aq fw (Aq @cr @r5));refine abQ [0,3,5,6,7,8] [12,800,8] ?_;refine acp fw 8 ?_;refine af fun K4 bK=>?_;by_cases mD:K=0
   .rw[if_pos mD]at hz;have qf:=(Aq fw (Aq @mJ (Aq @gy @mD)));refine abQ [0,3,5,6,7,8,33] [12,800] ?_;refine abP (by simp[mD]) ?_;refine bx (aQ _ ?_);refine reQ fw ?_;(try simp only[aJ,aL]);refine aS.mk i (by omega) (by omega) ?_;rw[uj,hz];refine abW fw
   .clear hz;obtain⟨n1,n2,n3⟩:=hn mD;have qf:=(Aq fw (Aq @mJ (Aq @gy @mD)));refine abQ [0,3,5,6,7,8,33] [12,800] ?_;refine abN (by simp[mD]) ?_;refine abO (bK _ ?_);have qf:=(Aq fw (Aq @mJ @gy));refine abQ [0,3,5,6,7,8] [12,800] ?_;generalize v * K=w at n1 n2 n3 ⊢;by_cases k3:kd >= 3
    .rw[if_pos k3]at n3;have qf:=(Aq fw @k3);refine abQ [0,3,5,6,7,8,42] [12,800] ?_;refine abP (by simp<;>omega) ?_
     rcases CO with⟨h2,rfl⟩ | h2
     .have qf:=(Aq fw (Aq @h2 (Aq @bq (Aq @cY (Aq @xO (Aq @xP (Aq @aft (Aq @afD @afE))))))));refine dN aQ [0,3,5,6,7] [12,800] ?_;refine reQ fw ?_;(try simp only[aJ,aL]);refine aS.mk i (by omega) (by omega) ?_;rw[uj,n3];refine abW fw
     .have qf:=(Aq fw (Aq @h2 (Aq @bq (Aq @cY (Aq @xO (Aq @xP (Aq @aft (Aq @afD @afE))))))));refine dN aQ [0,3,5,6,7] [12,800] ?_;refine reQ fw ?_;(try simp only[aJ,aL]);refine aS.mk i (by omega) (by omega) ?_;rw[uj,n3];refine abW fw
    .rw[if_neg (by omega)]at n3;have qf:=(Aq fw @k3);refine abQ [0,3,5,6,7,8,42] [12,800] ?_;refine abN (by simp<;>omega) ?_;have Qx:∃ ob,iz (.string nm) (cE I)=ob/\((ob=none/\b=false)\/ob=some (.v (.bool b))):=⟨_,rfl,hIi⟩;clear hIi;obtain⟨ob,h2,hIi⟩:=Qx
     cases b with
     | true=>
      obtain rfl:ob=some (.v (.bool true)):=hIi.elim (fun h=>by cases h.2) id;have qf:=(Aq fw (Aq @h2 (Aq @bq (Aq @cY (Aq @xO (Aq @xP (Aq @aft (Aq @afD @afE))))))));refine abQ [0,3,5,6,7,54] [12,800] ?_;refine abP rfl ?_;rw[if_pos rfl]at n3;refine reK fw aQ [0,3,5,6,7] [12,800] ?_;refine reQ fw ?_;(try simp only[aJ,aL]);refine aS.mk i (by omega) (by omega) ?_;rw[uj,n3];refine abW fw
     | false=>
      rw[if_neg (by simp),Int.add_zero]at n3
      rcases hIi with⟨rfl,_⟩ | rfl
      .have qf:=(Aq fw (Aq @h2 (Aq @bq (Aq @cY (Aq @xO (Aq @xP (Aq @aft (Aq @afD @afE))))))));refine abQ [0,3,5,6,7,54] [12,800] ?_;refine abN rfl ?_;refine abO ?_;refine aQ _ (AW.norm [0,3,5,6,7] [12,800] (cJ rfl) (AW.st (by simp[ab];rfl) ?_));refine reQ fw ?_;(try simp only[aJ,aL]);refine aS.mk i (by omega) (by omega) ?_;rw[uj,n3];refine abW fw
      .have qf:=(Aq fw (Aq @h2 (Aq @bq (Aq @cY (Aq @xO (Aq @xP (Aq @aft (Aq @afD @afE))))))));refine abQ [0,3,5,6,7,54] [12,800] ?_;refine abN rfl ?_;refine abO ?_;refine aQ _ (AW.norm [0,3,5,6,7] [12,800] (cJ rfl) (AW.st (by simp[ab];rfl) ?_));refine reQ fw ?_;(try simp only[aJ,aL]);refine aS.mk i (by omega) (by omega) ?_;rw[uj,n3];refine abW fw
theorem aat (G:aq) (hM:adP G) (p:PgP) (aP:acg p=none) (hk:∀ r∈p.ao,lQ r) (st eI:Int) (nx:List (List D)) (n:Int) (h0:0<=n) (h1:n<=2^40):MC prog G [12,800] 22 [.ref 12 0 0,.d (ab n)] (ak (oK p st eI nx)) (.d (vY (jW p n p.names.length).2)) (ak (oK p st eI nx)):=by
 have hg:=fq aP;have fj:=hg.names;have cU:=LQ G;have nH:=Bc G hM p aP hk;simp only[cX,eu,bO,dk]at nH;have aF:=fun k (h:k<=p.names.length)=>EZ aP n h0 k h
 have df:(dT p).length=p.names.length:=by simp[dT]
 have pt:∀ i (hi:i < p.names.length),(dT p)[i]? = some (ch p p.names[i]):=fun i hi=>by simp[dT,hi]
 have CS:=fun i (hi:i < p.names.length)=>afz hg hi;have hs1:=fun k (h:k < p.names.length)=>Kq n h;have hs0:=UM p n;generalize dT p=RP at *;generalize jW p n=T at *;simp only[oK,bO,ab,vY]
 have nt:(p.names.map cNm).length=p.names.length:=by simp
 have gx:∀ i (h:i < p.names.length),(p.names.map cNm)[i]? = some [.v (.string (bs p.names[i].name)),.v (.int .i64 p.names[i].kind),.v (.int .i64 p.names[i].count)]:=fun i h=>by simp[h,cNm,dS]
 generalize p.names.map cNm=NN at *;generalize p.ao.map cL=RR at *;refine MC.abS (al _) func22 rfl rfl (rs:=[.cell 4 62]) results22 (by simp[ntmps22]) rfl fun X=>?_;simp only[ntmps22];have fw:=@afg;refine rgq fw [0,1,4] [12,800,4] ?_;refine bf fw cU [0,1,4,5] [12,800,4,5,601,602] ?_;refine af fun K1 ax=>?_;refine aT fw nH [0,1,4,5,14,15,16] [12,800,4,5,601,602] ?_;refine bQ (S:=Nat) (fun k=>k<=p.names.length) (fun k=>⟨aV [(0,.ref 12 0 0),(1,int (T k).1),(4,.ref 4 0 0),(5,.ref 5 0 0),(14,.d (.sl none (RP.map fun x=>[.v (.int .i64 x)]))),(15,int RP.length),(16,int k)],ak [(12,.box 50 [.d (.sl none NN),.d (.sl none RR),.d (.v (.int .i64 st)),.d (.v (.int .i64 eI)),.own 800 0 nx.length]),(800,.sl 46 1 nx),(4,.box 62 [.d (.v (.map none)),.d (.v (.map none))]),(5,.box 62 [.mp 601,.mp 602]),(601,.mp 59 (cE (T k).2.1)),(602,.mp 60 (cE (T k).2.2))]⟩) (fun k=>p.names.length - k) 0 ?_ (by omega) ?_
 .rw[hs0];refine aB.to' (cJ rfl) (by simp[ab,cE]) (by simp[ab,cE])
 .intro k hkk;obtain⟨_,_,_,hrel,_,hb0,hb1⟩:=aF k hkk;have gP:=hs1 k
  have zx:k=p.names.length->T p.names.length=T k:=fun e=>by rw[e]
  generalize T k=tk at hrel hb0 hb1 gP zx ⊢;obtain⟨m,I,C⟩:=tk;dsimp only at hrel hb0 hb1 ⊢;refine rgq fw [0,1,4,5,14,15,16,17] [12,800,4,5,601,602] ?_;refine af fun K2 aa=>?_;by_cases au:k < p.names.length
  .have mJ:k < RP.length:=by omega
   refine abP (by simp[mJ]) ?_;refine abO (aa _ ?_);refine af fun K3 aQ=>?_;refine aR ?_;have gP:=gP au
   have cr:k < NN.length:=by omega
   have mF:NN[k]=[.v (.string (bs p.names[k].name)),.v (.int .i64 p.names[k].kind),.v (.int .i64 p.names[k].count)]:=by
    have:=gx k au;rw[By cr]at this;exact AI this
   have fK:RP[k]=ch p p.names[k]:=by
    have:=pt k au;rw[By mJ]at this;exact AI this
   have mD:=CS k au;unfold Ay at gP;generalize bs p.names[k].name=nm at mF gP;generalize p.names[k].kind=kd at mF gP;generalize p.names[k].count=ct at mF gP;generalize ch p p.names[k]=K at fK mD gP;have hk0:=aeO hrel.jB;simp at hk0;have bq:=eq_true hk0;have hk2:=aeO hrel.okC;simp at hk2;have cY:=eq_true hk2;have qf:=(Aq fw (Aq @mJ @fK));refine abQ [0,1,4,5,6,7,14,15,16] [12,800,4,5,601,602] ?_;refine af fun K4 bK=>?_;by_cases hKz:K=0
   .rw[if_pos hKz]at gP;have qf:=(Aq fw @hKz);refine abQ [0,1,4,5,6,7,14,15,16,22] [12,800,4,5,601,602] ?_;refine abP (by simp[hKz]) ?_;refine bx (aQ _ ?_);refine reQ fw ?_;(try simp only[aJ,aL]);refine aS.mk (k+1) (by omega) (by omega) ?_;rw[gP];refine abW fw
   .rw[if_neg hKz]at gP;dsimp only at gP;have lv:m.tmod K=m % K:=Int.tmod_eq_emod_of_nonneg hb0;have gY:0<=m / K:=Int.ediv_nonneg hb0 mD;have pC:m / K<=m:=Int.ediv_le_self _ hb0
    have hdiv:IntKind.i64.wrap (m.tdiv K)=m / K:=by
     rw[Int.tdiv_eq_ediv_of_nonneg hb0];exact BE (by omega)
    generalize m / K=q at *;generalize m % K=r at *;have qf:=(Aq fw @hKz);refine abQ [0,1,4,5,6,7,14,15,16,22] [12,800,4,5,601,602] ?_;refine abN (by simp[hKz]) ?_;refine abO (bK _ ?_);have qf:=(Aq fw (Aq @cr @mF));refine abQ [0,1,4,5,7,8,14,15,16] [12,800,4,5,601,602,8] ?_;refine acp fw 8 ?_;refine af fun K5 bB=>?_;by_cases k3:kd >= 3
    .rw[if_pos k3]at gP;have qf:=(Aq fw @k3);refine abQ [0,1,4,5,7,8,14,15,16,33] [12,800,4,5,601,602] ?_;refine abP (by simp<;>omega) ?_;have qf:=(Aq fw (Aq @hKz (Aq @lv (Aq @bq (Aq @cY @dI)))));refine fQ [0,1,4,5,7,8,14,15,16] [12,800,4,5,601,602] ?_;refine aeR (al _) (by kernel_rfl) (by kernel_rfl) fun K' ae=>?_;(repeat (refine eC fun K2 aa=>?_;simp[ab,hKz,lv,bq,cY,dI];(repeat (refine⟨by omega,?_⟩));refine aa _ ?_;clear aa K2));refine iL (ae _ ?_);clear ae K';refine bB _ (AW.norm [0,1,4,5,7,14,15,16] [12,800,4,5,601,602] (cJ rfl) (AW.st (by simp[ab,hKz,lv,bq,cY,dI];rfl) ?_));have qf:=(Aq fw (Aq @hKz @hdiv));refine dN aQ [0,1,4,5,14,15,16] [12,800,4,5,601,602] ?_;refine reQ fw ?_;(try simp only[aJ,aL]);refine aS.mk (k+1) (by omega) (by omega) ?_;rw[gP];refine abW fw
    .rw[if_neg k3]at gP;have qf:=(Aq fw @k3);refine abQ [0,1,4,5,7,8,14,15,16,33] [12,800,4,5,601,602] ?_;refine abN (by simp<;>omega) ?_;refine aeR (al _) (by kernel_rfl) (by kernel_rfl) fun K' ae=>?_;(repeat (refine eC fun K2 aa=>?_;simp[ab,hKz,lv,bq,cY,dI];(repeat (refine⟨by omega,?_⟩));refine aa _ ?_;clear aa K2));refine iL (ae _ ?_);clear ae K';refine bB _ (AW.norm [0,1,4,5,7,14,15,16] [12,800,4,5,601,602] (cJ rfl) (AW.st (by simp[ab,hKz,lv,bq,cY,dI];rfl) ?_));have qf:=(Aq fw (Aq @hKz @hdiv));refine dN aQ [0,1,4,5,14,15,16] [12,800,4,5,601,602] ?_;refine reQ fw ?_;(try simp only[aJ,aL]);refine aS.mk (k+1) (by omega) (by omega) ?_;rw[gP];refine abW fw
  .obtain rfl:k=p.names.length:=by omega
   have QX:=zx rfl;refine abN (by simp<;>omega) ?_;refine bx (ax _ ?_);refine rgq fw [4] [12,800,4,601,602] ?_
   refine AW.imp (Td [4,601,602] (fun r h=>by
    have h':r=4\/r=601\/r=602:=by simpa using h
    rcases h' with rfl | rfl | rfl<;>decide) 4 6 (x:=.ref 4 0 0) (d:=.ip [.dm false I,.dm false C]) (by simp) (by simp[aeS])) ?_
   refine AW.st (by simp[xU,xS,dZ];rfl) ?_;refine ab1 ?_;simp[D.le,D.le.go,aC,ab,QX,aeS,D.le_refl,D.abY]
theorem aas {V:Nat} (h:V<=6):IntKind.i64.wrap (2 ^ (min V IntKind.i64.bits))=((2^V:Nat):Int):=by
 have:V=0\/V=1\/V=2\/V=3\/V=4\/V=5\/V=6:=by omega
 rcases this with rfl | rfl | rfl | rfl | rfl | rfl | rfl<;>decide
def lM (n:Nat) (E:List Int):Nat->List Bool
 | 0=>List.replicate n false
 | j+1=>(lM n E j).set (E.getD j 0).toNat true
theorem yb (n:Nat) (E:List Int):∀ j,(lM n E j).length=n
 | 0=>by simp[lM]
 | j+1=>by rw[lM,List.length_set,yb]
theorem ahn {n:Nat} {E:List Int} {i:Nat} (hi:i < n):∀ j,j<=E.length->((lM n E j).getD i false=true↔∃ q,q < j/\(E.getD q 0).toNat=i)
 | 0,_=>by
  rw[lM,r0];exact⟨fun h=>(by cases h),fun ⟨q,hq,_⟩=>absurd hq (by omega)⟩
 | j+1,hj=>by
  rw[lM];by_cases e:(E.getD j 0).toNat=i
  .rw[<- e,jK (by rw[yb];omega)];exact⟨fun _=>⟨j,by omega,rfl⟩,fun _=>rfl⟩
  .rw[gq e,ahn hi j (by omega)];constructor
   .rintro⟨q,hq,h⟩;exact⟨q,by omega,h⟩
   .rintro⟨q,hq,h⟩;refine⟨q,acj fun hn=>?_,h⟩
    obtain rfl:q=j:=by omega
    exact e h
theorem YJ (p:PgP):lM p.names.length (acU p p.names.length) (acU p p.names.length).length=p.names.map (gV p):=by
 refine HF (d:=false) (by rw[yb];simp) fun i hi=>?_;rw[yb]at hi
 have e1:(p.names.map (gV p)).getD i false=gV p p.names[i]:=by rw[cT (by simpa using hi)];simp
 rw[e1];have h:=ahn (E:=acU p p.names.length) hi _ (abL _)
 have h2:(∃ q,q < (acU p p.names.length).length/\((acU p p.names.length).getD q 0).toNat=i)↔gV p p.names[i]=true:=by
  constructor
  .rintro⟨q,hq,he⟩;rw[cT hq]at he;obtain⟨k,hk,_,hx,ha⟩:=(afV (abL _)).1 (abH hq);rw[hx,abX]at he;subst he;exact ha
  .intro ha;obtain⟨q,hq,he⟩:=aco.1 ((afV (x:=(i:Int)) (abL _)).2 ⟨i,hi,hi,rfl,ha⟩);exact⟨q,hq,by rw[cT hq,he];simp⟩
 rw[h2]at h
 cases h3:gV p p.names[i] with
 | true=>exact h.2 h3
 | false=>
  cases h4:(lM p.names.length (acU p p.names.length) (acU p p.names.length).length).getD i false with
  | true=>rw[h.1 h4]at h3;cases h3
  | false=>rfl
theorem aac {p:PgP} {q:Nat} (hq:q < (acU p p.names.length).length):∃ i,i < p.names.length/\(acU p p.names.length)[q]=(i:Int):=by
 obtain⟨k,hk,_,hx,_⟩:=(afV (abL _)).1 (abH hq);exact⟨k,hk,hx⟩
theorem KC {p:PgP} {s:Nat} (h:s < (abZ p).length):nxD ((abZ p).take (s+1))=nxD ((abZ p).take s) ++ [[dk (lJ p (ba p).length s)]]:=by
 rw[abR h,nxD,nxD,ac5,s5 h];rfl
theorem ahk {p:PgP} {m s i:Nat} (h:i < 2 ^ m):(lJ p m s).take (i+1)=(lJ p m s).take i ++ [eA (bn p) (mz p (stP p s) (e6 i m))]:=by
 have h':i < (lJ p m s).length:=by rw[p4];exact h
 rw[abR h',Yh]
theorem UJ (G:aq) (p:PgP) (aP:acg p=none) (hk:∀ r∈p.ao,lQ r) (aF:(ba p).length<=6) (hP:bp (bn p)<=4096):ar prog G 15 [dPg p] (.aW [pc p (bp (bn p)) ((2 ^ (ba p).length:Nat):Int) (nxD (abZ p)),.v .nilIface]):=by
 have hg:=fq aP;have fj:=hg.names;have b8:=JZ G p (YS aP hk);rw[aP]at b8;have hkd:=Ke G p (by omega) 1;have kI:gD p.names 1 p.names.length=ba p:=rfl;rw[kI]at hkd
 have kc:=Ug G p (by omega) (by have:=hg.ao;omega) (fun r hr=>by
  obtain⟨e,he,_,_,hb⟩:=hk r hr
  exact⟨e,he,by omega⟩)
 rw[Pj aP]at kc;have SQ:=yb p.names.length (acU p p.names.length);have SP:=YJ p;have S6:=fun q (hq:q < (acU p p.names.length).length)=>aac hq;have S7:=fun q (hq:q < (acU p p.names.length).length)=>(show lM p.names.length (acU p p.names.length) (q+1)=(lM p.names.length (acU p p.names.length) q).set ((acU p p.names.length)[q]).toNat true by rw[lM,cT hq]);have hs0:lM p.names.length (acU p p.names.length) 0=List.replicate p.names.length false:=rfl;have jT:=Bu p p.names.length;have pS:=fun (nx:List (List D)) (n:Nat) (h1:(n:Int) < 4096)=>US G p aP (bp (bn p)) ((2 ^ (ba p).length:Nat):Int) nx n (by omega) (by omega);have pJ:=fun (nx:List (List D)) (n:Nat)=>UE G p aP (bp (bn p)) ((2 ^ (ba p).length:Nat):Int) nx n;have ab3:=fun (nx:List (List D)) (s:bX) (hs:eb p s)=>UI G p aP (bp (bn p)) ((2 ^ (ba p).length:Nat):Int) nx s hs hP;have sc:=fun (s:Nat) (i:Nat)=>O9 G p aP hk (stP p s) (vu aP s) (e6 i (ba p).length) (xz _ _);have Dj:=fun (s:Nat) (i:Nat)=>(Cs aP (vu aP s) (e6 i (ba p).length)).1;have zu:∀ k (h:k < p.names.length),eJ p (k+1)=eJ p k ++ partOf p.names[k] (gV p p.names[k]) k:=fun k h=>agL h;have mG:=AU p;have CX:eJ p p.names.length=bn p:=rfl;have hm2:∀ x∈bn p,2<=x.most:=fun x hx=>(kr hg hx).m2;have SD:=fun k (h:k < (bn p).length)=>VX h;have zP:=fun k=>VW hm2 k;have hpp:0 < bp (bn p):=kW hm2;have hp1:=fun k=>(kW (l:=(bn p).take k) fun x hx=>hm2 x (acd hx));have qV:=fun s (h:s < (abZ p).length)=>KC h;have hnl:=oL p;have hrt:=fun s i (h:i < 2 ^ (ba p).length)=>ahk (p:=p) (s:=s) h;have hrl:=fun s=>p4 p (ba p).length s;have hsh:=aas aF
 have HS:2 ^ (ba p).length<=64:=by
  have:=adH (n:=2) (by omega) aF;omega
 have jM:=hg.count;simp only[oJ,ab,qo,mv,dBl,dk,lX]at pS pJ ab3 sc;simp only[dPg,cPg,bO,dP,bd,pc,qk,lX,dk]at hkd b8 kc sc pS pJ ab3 qV ⊢;generalize abZ p=ni at *;generalize CZ:lJ p (ba p).length=BP at *;clear CZ;generalize acU p p.names.length=E at *;generalize lM p.names.length E=SB at *
 have lh:((ba p).map fun x=>[D.v (.int .i64 x)]).length=(ba p).length:=by simp
 generalize ((ba p).map fun x=>[D.v (.int .i64 x)])=IN at *;generalize (ba p).length=m at *
 have nt:(p.names.map cNm).length=p.names.length:=by simp
 have gx:∀ i (h:i < p.names.length),(p.names.map cNm)[i]? = some [.v (.string (bs p.names[i].name)),.v (.int .i64 p.names[i].kind),.v (.int .i64 p.names[i].count)]:=fun i h=>by simp[h,cNm,dS]
 generalize p.names.map cNm=NN at *;generalize p.ao.map cf=RR at *
 have H6:(E.map fun x=>[D.v (.int .i64 x)]).length=E.length:=by simp
 refine ar.abS (al _) func15 rfl rfl (rs:=[.tmp 2,.tmp 3]) results15 (by simp[ntmps15]) fun X=>?_;simp only[ntmps15,List.map];have fw:=@afg;refine rgq fw [1] [1] ?_;refine acp fw 1 ?_;refine af fun K1 ax=>?_;refine aT fw b8 [1,4] [] ?_;refine rgq fw [1,4,19] [] ?_;refine abN rfl ?_;refine abO (ax _ ?_);refine Wk fw hkd [1,5] [25] ?_;refine af fun K2 aa=>?_
 have qK:¬ (IN.length:Int) > 6:=by omega
 have qf:=(Aq fw @qK);refine abQ [1,5,31] [25] ?_;refine abN (by simp<;>omega) ?_;refine abO (aa _ ?_);have qf:=(Aq fw (Aq @nY.eq_1 (Aq @nY.eq_2 (Aq @nY.eq_3 (Aq @lh @hsh)))));refine abQ [1,5] [25] ?_;refine rgq (Aq fw (Aq @mW.eq_1 (Aq @adx.eq_1 @adx.eq_2))) [1,5,6] [25,45] ?_;refine af fun K3 aQ=>?_;refine aT fw kc [1,5,6,47,48,49] [25,45] ?_;refine bQ (S:=Nat) (fun j=>j<=E.length) (fun j=>⟨aV [(1,.d (.ip [.sl none NN,.sl none RR])),(5,.ref 25 0 0),(6,.own 45 0 p.names.length),(47,.d (.sl none (E.map fun x=>[.v (.int .i64 x)]))),(48,int E.length),(49,int j)],ak [(25,.box 48 [.d (.sl none NN),.d (.sl none RR),int 1,int ((2 ^ m:Nat):Int),.d (.sl (some false) []),.d (.sl (some false) []),.d (.sl none IN)]),(45,.sl 4 1 ((SB j).map fun b=>[.v (.bool b)]))]⟩) (fun j=>E.length - j) 0 ?_ (by omega) ?_
 .rw[hs0];refine aB.to' (fun _ _=>trivial) (by simp[ab,List.map_replicate,nt,H6]) (by simp[ab,List.map_replicate,nt,H6])
 .intro j hj;have SS:=SQ j;have Js:=S7 j;generalize Ip:SB j=B at SS Js ⊢;refine rgq fw [1,5,6,47,48,49,50] [25,45] ?_;refine af fun K4 bK=>?_;refine eh (b:=j < E.length) (by simp[D.le,D.le.go,aC,ab]) (fun hc=>?_) (fun hc=>?_)
  .refine abO (bK _ ?_);refine af fun K5 bB=>?_;refine aR ?_;obtain⟨i,hi,H5⟩:=S6 j hc;have Jt:=Js hc;rw[H5,abX]at Jt
   have eE:i < B.length:=by omega
   have qf:=(Aq fw (Aq @hc @H5));refine abQ [1,5,6,8,47,48,49] [25,45] ?_;have qf:=(Aq fw (Aq @eE @hi));refine dN bB [1,5,6,47,48,49] [25,45] ?_;refine reQ fw ?_;(try simp only[aJ,aL]);refine aS.mk (j+1) (by omega) (by omega) ?_;rw[Jt];refine aB.to' (fun _ _=>trivial) (by simp[ab,ab5]) (by simp[ab,ab5])
  .obtain rfl:j=E.length:=by omega
   rw[SP]at Ip;subst Ip;refine bx (aQ _ ?_);refine af fun K6 cq=>?_;refine rgq fw [1,5,6,58,59,60] [25,45] ?_;refine bQ (S:=Nat) (fun k=>k<=p.names.length) (fun k=>⟨aV [(1,.d (.ip [.sl none NN,.sl none RR])),(5,.ref 25 0 0),(6,.own 45 0 p.names.length),(58,.d (.sl none NN)),(59,int NN.length),(60,int k)],ak [(25,.box 48 [.d (.sl none NN),.d (.sl none RR),int 1,int ((2 ^ m:Nat):Int),.d (.sl (some false) []),.own 801 0 (eJ p k).length,.d (.sl none IN)]),(45,.sl 4 1 ((p.names.map (gV p)).map fun b=>[.v (.bool b)])),(801,.sl 134 3 ((eJ p k).map cPa))]⟩) (fun k=>p.names.length - k) 0 ?_ (by omega) ?_
   .refine (aB.nj 25 5 801 134 3 rfl rfl rfl).trans ?_;refine abW (Aq fw (Aq @eJ.eq_1 @eJ.eq_2))
   .intro k hkk;have Ik:=zu k;have QQ:=mG k
    have Ij:((eJ p k).map cPa).length=(eJ p k).length:=by simp
    generalize ka:eJ p k=PK at Ik QQ Ij ⊢;refine rgq fw [1,5,6,58,59,60,61] [25,45,801] ?_;refine af fun K7 de=>?_;by_cases au:k < p.names.length
    .have cr:k < NN.length:=by omega
     have ju:(k:Int) < (NN.length:Int):=by omega
     refine abP (by simp<;>omega) ?_;refine abO (de _ ?_);refine af fun K8 dz=>?_;refine aR ?_;have nv:=Ik au;have cm:=jM _ (abH au)
     have mF:NN[k]=[.v (.string (bs p.names[k].name)),.v (.int .i64 p.names[k].kind),.v (.int .i64 p.names[k].count)]:=by
      have:=gx k au;rw[By cr]at this;exact AI this
     unfold partOf at nv;generalize I9:p.names[k]=nk at nv mF cm;obtain⟨nm,kd,ct⟩:=nk;dsimp only at nv mF cm
     have IF:gV p p.names[k]=gV p ⟨nm,kd,ct⟩:=by rw[I9]
     generalize aH:gV p ⟨nm,kd,ct⟩=ev at *;have qf:=(Aq fw (Aq @cr @mF));refine abQ [1,5,6,9,10,58,59,60] [25,45,801,10] ?_;refine acp fw 10 ?_;refine aR ?_;by_cases k2:kd=2
     .subst k2;rw[if_pos (.inl rfl)]at nv;refine rgq fw [1,5,6,9,10,58,59,60,65] [25,45,801] ?_;refine abP rfl ?_;refine cR (al _) fun K' ae=>?_;(repeat (refine sxn fun K2 aa=>?_;simp[ab,sh];(repeat (refine⟨by omega,?_⟩));refine aa _ ?_;clear aa K2));refine sxz (ae _ ?_);clear ae K';refine dz _ (AW.norm [1,5,6,58,59,60] [25,45,801] (fun _ _=>trivial) (AW.st (by simp[ab,sh];rfl) ?_));refine reQ fw ?_;(try simp only[aJ,aL]);refine aS.mk (k+1) (by omega) (by omega) ?_;rw[nv];refine abW (Aq fw @cPa.eq_1)
     .by_cases k1:kd=1
      .subst k1
       cases ev with
       | true=>
        rw[if_pos (.inr ⟨rfl,rfl⟩)]at nv;have qf:=(Aq fw (Aq @au @IF));refine abQ [1,5,6,9,10,58,59,60,65] [25,45,801] ?_;refine abP rfl ?_;refine cR (al _) fun K' ae=>?_;(repeat (refine sxn fun K2 aa=>?_;simp[ab,sh];(repeat (refine⟨by omega,?_⟩));refine aa _ ?_;clear aa K2));refine sxz (ae _ ?_);clear ae K';refine dz _ (AW.norm [1,5,6,58,59,60] [25,45,801] (fun _ _=>trivial) (AW.st (by simp[ab,sh];rfl) ?_));refine reQ fw ?_;(try simp only[aJ,aL]);refine aS.mk (k+1) (by omega) (by omega) ?_;rw[nv];refine abW (Aq fw @cPa.eq_1)
       | false=>
        rw[if_neg (by simp),if_neg (by simp),adp]at nv;have qf:=(Aq fw (Aq @au @IF));refine abQ [1,5,6,9,10,58,59,60,65] [25,45,801] ?_;refine abN rfl ?_;refine rgq fw [1,5,6,9,10,58,59,60,91] [25,45,801] ?_;refine abN rfl ?_;refine abO ?_;refine dz _ (AW.norm [1,5,6,58,59,60] [25,45,801] (fun _ _=>trivial) (AW.st (by simp[ab];rfl) ?_));refine reQ fw ?_;(try simp only[aJ,aL]);refine aS.mk (k+1) (by omega) (by omega) ?_;rw[nv];refine abW fw
      .rw[if_neg (by simp[k1,k2]),if_pos k1]at nv;have qf:=(Aq fw (Aq @k1 @k2));refine abQ [1,5,6,9,10,58,59,60,65] [25,45,801] ?_;refine abN (by simp[k1,k2]) ?_;have qf:=(Aq fw @k1);refine abQ [1,5,6,9,10,58,59,60,91] [25,45,801] ?_;refine abP (by simp[k1]) ?_;refine yy (al _) (by kernel_rfl) ([(11,(801,105))]) ([(0,[801])]) ([0,1,2,3,4,5,6,7,8,9,10,11,12,13,14]) (by kernel_rfl) fun K' ae=>?_;(repeat (refine yn rfl fun K2 aa=>?_;simp[ab,sh];(repeat (refine⟨by omega,?_⟩));refine aa _ ?_;clear aa K2));refine yo (ae _ ?_);clear ae K';refine dz _ (AW.norm [1,5,6,58,59,60] [25,45,801] (fun _ _=>trivial) (AW.st (by simp[ab,sh];rfl) ?_));refine reQ fw ?_;(try simp only[aJ,aL]);refine aS.mk (k+1) (by omega) (by omega) ?_;rw[nv];refine abW (Aq fw @cPa.eq_1)
    .have ju:¬ (k:Int) < (NN.length:Int):=by omega
     obtain rfl:k=p.names.length:=by omega
     rw[CX]at ka;subst ka;refine abN (by simp<;>omega) ?_;refine bx (cq _ ?_);refine AW.imp (aB.freeze 801 trivial) ?_;refine AW.st (by simp[ab,Ij,sh];rfl) ?_;refine af fun K9 hK9=>?_
     have aaC:((bn p).map cPa).length=(bn p).length:=by simp
     have QP:∀ i (h:i < (bn p).length),((bn p).map cPa)[i]? = some [.v (.int .i64 (bn p)[i].nm),.v (.int .i64 (bn p)[i].most),.v (.bool (bn p)[i].far)]:=fun i h=>by simp[h,cPa]
     generalize Ii:bn p=cG at *;generalize cG.map cPa=PT at *;refine rgq fw [1,5,113,114,115] [25] ?_;refine bQ (S:=Nat) (fun k=>k<=cG.length) (fun k=>⟨aV [(1,.d (.ip [.sl none NN,.sl none RR])),(5,.ref 25 0 0),(113,.d (.sl none PT)),(114,int PT.length),(115,int k)],ak [(25,.box 48 [.d (.sl none NN),.d (.sl none RR),int (bp (cG.take k)),int ((2 ^ m:Nat):Int),.d (.sl (some false) []),.d (.sl none PT),.d (.sl none IN)])]⟩) (fun k=>cG.length - k) 0 ?_ (by omega) ?_
     .refine abW (Aq fw (Aq @bp.eq_1 @bp.eq_2))
     .intro k hkk;have hq:=SD k;have SG:=zP (k+1);have hqp:=hp1 k;have SH:=zP k;generalize hQ:bp (cG.take k)=Q at hq hqp SH ⊢;refine rgq fw [1,5,113,114,115,116] [25] ?_;refine af fun K10 dy=>?_;by_cases au:k < cG.length
      .have cr:k < PT.length:=by omega
       have ju:(k:Int) < (PT.length:Int):=by omega
       refine abP (by simp<;>omega) ?_;refine abO (dy _ ?_);refine af fun K11 j9=>?_;refine aR ?_;have gO:=hq au;have jU:=hm2 _ (abH au)
       have ka:PT[k]=[.v (.int .i64 cG[k].nm),.v (.int .i64 cG[k].most),.v (.bool cG[k].far)]:=by
        have:=QP k au;rw[By cr]at this;exact AI this
       generalize cG[k]=x at ka gO jU;obtain⟨xi,M,fa⟩:=x;dsimp only at ka gO jU;rw[gO]at SG;have Il:0 < Q * M:=Int.mul_pos hqp (by omega)
       have QS:¬ Q * M > 4096:=by omega
       have qf:=(Aq fw (Aq @cr @ka));refine abQ [1,5,12,113,114,115] [25,12] ?_;refine acp fw 12 ?_;refine aet (al _) (by kernel_rfl) [(3,25),(5,999),(9,25)] [1,5,113,114,115] [25] (fun _ _=>trivial) (by kernel_rfl) fun K' ae=>?_;(repeat (refine gl fun K2 aa=>?_;simp[ab,Il];(repeat (refine⟨by omega,?_⟩));refine aa _ ?_;clear aa K2));refine adw (ae _ ?_);refine AW.st (by simp[ab,Il];rfl) ?_;clear ae K';have qf:=(Aq fw @QS);refine abQ [1,5,113,114,115,132] [25] ?_;refine abN (by simp<;>omega) ?_;refine abO (j9 _ ?_);refine reQ fw ?_;(try simp only[aJ,aL]);refine aS.mk (k+1) (by omega) (by omega) ?_;rw[gO];refine abW fw
      .have ju:¬ (k:Int) < (PT.length:Int):=by omega
       refine abN (by simp<;>omega) ?_;refine bx (hK9 _ ?_);rw[sh (by omega)]at hQ;refine af fun K12 adR=>?_;obtain⟨S,hS⟩:∃ S:Nat,bp cG=(S:Int):=acn (by omega);rw[hS]at hnl hP pS pJ ab3 hQ ⊢;rw[abX]at hnl;subst hQ;refine rgq fw [1,5,138,139] [25] ?_;refine bQ (S:=Nat) (fun s=>s<=S) (fun s=>⟨aV [(1,.d (.ip [.sl none NN,.sl none RR])),(5,.ref 25 0 0),(138,int S),(139,int s)],ak [(25,.box 48 [.d (.sl none NN),.d (.sl none RR),int S,int ((2 ^ m:Nat):Int),.own 800 0 s,.d (.sl none PT),.d (.sl none IN)]),(800,.sl 46 1 (nxD (ni.take s)))]⟩) (fun s=>S - s) 0 ?_ (by omega) ?_
       .refine (aB.nj 25 4 800 46 1 rfl rfl rfl).trans ?_;refine abW (Aq fw @nxD.eq_1)
       .intro s D2;have fZ:=qV s
        have fU:(nxD (ni.take s)).length=s:=by rw[s9,acz];omega
        have wB:s=S->nxD (ni.take s)=nxD ni:=fun e=>by rw[sh (by omega)]
        generalize nxD (ni.take s)=NX at fZ fU wB ⊢;refine rgq fw [1,5,138,139,140] [25,800] ?_;refine af fun j2 eZ=>?_;refine eh (b:=s < S) (by simp[D.le,D.le.go,aC,ab]) (fun hc=>?_) (fun hc=>?_)
        .refine abO (eZ _ ?_);refine af fun vJ po=>?_;refine aR ?_;have xd:=fZ (by omega);have pT:=pS NX s (by omega);have DC:=pJ NX;have ur:=sc s;have uD:=fun i=>ab3 NX _ (Dj s i);have sC:=fun i h=>hrt s i h;have DZ:=hrl s;generalize D3:stP p s=yg at pT ur uD sC;generalize zw:BP s=RS at xd sC DZ;refine rgq fw [1,5,13,138,139] [25,800] ?_;refine rgq fw [1,5,13,14,138,139] [25,800] ?_;refine af fun BH r3=>?_;refine rgq fw [1,5,13,14,138,139,145,146] [25,800] ?_;refine bQ (S:=Nat) (fun i=>i<=2 ^ m) (fun i=>⟨aV [(1,.d (.ip [.sl none NN,.sl none RR])),(5,.ref 25 0 0),(13,int s),(14,.own 902 0 i),(138,int S),(139,int s),(145,int ((2 ^ m:Nat):Int)),(146,int i)],ak [(25,.box 48 [.d (.sl none NN),.d (.sl none RR),int S,int ((2 ^ m:Nat):Int),.own 800 0 s,.d (.sl none PT),.d (.sl none IN)]),(800,.sl 46 1 NX),(902,.sl 3 1 ((RS.take i).map fun x=>[.v (.int .i64 x)]))]⟩) (fun i=>2 ^ m - i) 0 ?_ (by omega) ?_
         .refine (aB.ky 14 902 3 1 rfl rfl).trans ?_;refine abW fw
         .intro i js;have xh:=sC i
          have df:((RS.take i).map fun x=>[D.v (.int .i64 x)]).length=i:=by simp;omega
          generalize gy:RS.take i=RI at xh df ⊢;refine rgq fw [1,5,13,14,138,139,145,146,147] [25,800,902] ?_;refine af fun K16 Qy=>?_;by_cases c6:i < 2 ^ m
          .have uw:(i:Int) < ((2 ^ m:Nat):Int):=by exact_mod_cast c6
           refine abP (by simpa using uw) ?_;refine abO (Qy _ ?_);refine af fun K17 Qz=>?_;refine aR ?_;have sA:=xh c6;have afF:=DC i;have pE:=ur i;have mN:=uD i;generalize mz p yg (e6 i m)=d1 at pE mN sA;generalize e6 i m=ib at afF pE;generalize eA cG d1=v1 at mN sA;obtain⟨I1,C1⟩:=yg;obtain⟨I2,C2⟩:=d1;dsimp only at pT pE mN;rw[fU]at pT afF mN;refine rgq fw [1,5,13,14,15,138,139,145,146] [25,800,902] ?_;refine Gx (al _) (by kernel_rfl) ([12]) ([]) ([5,8,10]) ([(2,.d (.ip [.sl none NN,.sl none RR]))]) (List.range 14) (by kernel_rfl) fun K' ae=>?_;(repeat (refine jF rfl fun K2 aa=>?_;simp[ab,df,sh];(repeat (refine⟨by omega,?_⟩));refine aa _ ?_;clear aa K2));refine jF rfl fun K2 aa=>?_;simp[ab,df,sh];refine pz.mc (pT) (by simp[ab,df,sh]) (by simp[ab,df,sh]) (by simp[ab,df,sh]) (by simp[ab,df,sh]) (by simp[ab,df,sh]) (by simp[ab,df,sh]) (by simp[gL,ab,df,sh]) ?_;simp[ab,df,sh];refine aa _ ?_;clear aa K2;(repeat (refine jF rfl fun K2 aa=>?_;simp[ab,df,sh];(repeat (refine⟨by omega,?_⟩));refine aa _ ?_;clear aa K2));refine jF rfl fun K2 aa=>?_;simp[ab,df,sh];refine pz.mc (afF) (by simp[ab,df,sh]) (by simp[ab,df,sh]) (by simp[ab,df,sh]) (by simp[ab,df,sh]) (by simp[ab,df,sh]) (by simp[ab,df,sh]) (by simp[gL,ab,df,sh]) ?_;simp[ab,df,sh];refine aa _ ?_;clear aa K2;(repeat (refine jF rfl fun K2 aa=>?_;simp[ab,df,sh];(repeat (refine⟨by omega,?_⟩));refine aa _ ?_;clear aa K2));refine jF rfl fun K2 aa=>?_;simp[ab,df,sh];refine aeT.mk (pE) (by simp;rfl) (by simp;rfl) (by first | exact D.abY _ | simp[aC,abU,abK,D.le,D.le.go,D.le_refl,D.abY,ab,df,sh]) (by simp) ?_;refine aa _ ?_;clear aa K2;simp only[aD,cz];(repeat (refine jF rfl fun K2 aa=>?_;simp[ab,df,sh];(repeat (refine⟨by omega,?_⟩));refine aa _ ?_;clear aa K2));refine jF rfl fun K2 aa=>?_;simp[ab,df,sh];refine pz.mc (mN) (by simp[ab,df,sh]) (by simp[ab,df,sh]) (by simp[ab,df,sh]) (by simp[ab,df,sh]) (by simp[ab,df,sh]) (by simp[ab,df,sh]) (by simp[gL,ab,df,sh]) ?_
           simp[ab,df,sh];refine aa _ ?_;clear aa K2;(repeat (refine jF rfl fun K2 aa=>?_;simp[ab,df,sh];(repeat (refine⟨by omega,?_⟩));refine aa _ ?_;clear aa K2));refine Mq (ae _ ?_);clear ae K';refine Qz _ (AW.norm [1,5,13,14,138,139,145,146] [25,800,902] (fun _ _=>trivial) (AW.st (by simp[ab,df,sh];rfl) ?_));refine reQ fw ?_;(try simp only[aJ,aL]);refine aS.mk (i+1) (by omega) (by omega) ?_;rw[sA];refine abW fw
          .obtain rfl:i=2 ^ m:=by omega
           have r7:RI=RS:=by rw[<- gy];exact sh (by omega)
           subst r7;refine abN (by simp) ?_;refine bx (r3 _ ?_);refine AW.imp (aB.freeze 902 trivial) ?_;refine AW.st (by simp[ab,df,sh];rfl) ?_;refine cR (al _) fun K' ae=>?_;(repeat (refine sxn fun K2 aa=>?_;simp[ab,fU,sh];(repeat (refine⟨by omega,?_⟩));refine aa _ ?_;clear aa K2));refine sxz (ae _ ?_);clear ae K';refine po _ (AW.norm [1,5,138,139] [25,800] (fun _ _=>trivial) (AW.st (by simp[ab,fU,sh];rfl) ?_));refine reQ fw ?_;(try simp only[aJ,aL]);refine aS.mk (s+1) (by omega) (by omega) ?_;rw[xd];refine abW fw
        .obtain rfl:s=S:=by omega
         obtain rfl:=wB rfl;refine bx (adR _ ?_);refine AW.imp (aB.freeze 800 trivial) ?_;refine AW.st (by simp[ab,fU,sh];rfl) ?_;refine rgq fw [2,3] [25] ?_;exact aN (Aq fw @hS)
structure EqM (L L':List (Value×Value)):Prop where
 ok:adi L
 same:∀ k,cD L k=cD L' k
theorem adl {L L':List (Value×Value)} (h:EqM L L') (s:ByteArray) (x:Value):EqM (acf L s x) (acf L' s x):=⟨uX s x h.ok,fun k=>by rw[aeP,aeP,h.same]⟩
theorem ahb:∀ {L L':List (Value×Value)},L.Nodup->L'.Nodup->(∀ x,x∈L↔x∈L')->L.Perm L'
 | [],L',_,_,h=>by
  cases L' with
  | nil=>exact .nil
  | cons y l=>exact absurd ((h y).2 (by simp)) (by simp)
 | x :: L,L',h1,h2,h=>by
  obtain⟨A,B,rfl⟩:=aem ((h x).1 (by simp));rw[acF]at h1;have h3:(x :: (A ++ B)).Nodup:=(List.perm_middle.nodup_iff).1 h2;rw[acF]at h3;refine (List.Perm.cons x (ahb h1.2 h3.2 fun y=>?_)).trans List.perm_middle.symm;constructor
  .intro hy;have h4:=(h y).1 (by simp[hy])
   rcases ab4.1 h4 with h5 | h5
   .simp[h5]
   .rcases abV.1 h5 with rfl | h5
    .exact absurd hy h1.1
    .simp[h5]
  .intro hy;have h4:=(h y).2 (by rcases ab4.1 hy with h5 | h5<;>simp[h5])
   rcases abV.1 h4 with rfl | h4
   .exact absurd hy h3.1
   .exact h4
theorem Kj {L:List (Value×Value)} (h:adi L):L.Nodup:=(List.pairwise_map.1 h.once).imp fun h e=>h (by rw[e])
theorem uW {E I:List (Value×Value)} (hp:E.Perm I) (h:adi I):adi E:=⟨fun p hm=>h.str p (hp.mem_iff.1 hm),((hp.map _).nodup_iff).2 h.once⟩
theorem afw {L:List (Value×Value)} (h:adi L) {s:ByteArray} {v:Value}:cD L s=some v↔(.string s,v)∈L:=by
 constructor
 .intro hl;obtain⟨j,hj,h1,h2⟩:=Kg hl;have:L[j]=(.string s,v):=Prod.ext h1 h2;rw[<- this];exact abH hj
 .intro hm;obtain⟨j,hj,he⟩:=aco.1 hm;have:=xE h hj (s:=s) (by rw[he]);rw[this,he]
theorem HA {L L':List (Value×Value)} (h:EqM L L') (h':adi L'):L.Perm L':=by
 refine ahb (Kj h.ok) (Kj h') fun x=>?_;obtain⟨k,v⟩:=x;constructor
 .intro hm;obtain⟨s,hs⟩:=h.ok.str _ hm;have hs:k = .string s:=hs;subst hs;exact (afw h').1 (by rw[<- h.same];exact (afw h.ok).2 hm)
 .intro hm;obtain⟨s,hs⟩:=h'.str _ hm;have hs:k = .string s:=hs;subst hs;exact (afw h.ok).1 (by rw[h.same];exact (afw h').2 hm)
theorem Ur {E I:List (Value×Value)} (hp:E.Perm I) (h:adi I) (k:ByteArray):cD E k=cD I k:=by
 have h2:=uW hp h
 cases hl:cD I k with
 | some v=>exact (afw h2).2 (hp.mem_iff.2 ((afw h).1 hl))
 | none=>
  cases fX:cD E k with
  | none=>rfl
  | some v=>
   have:=(afw h).2 (hp.mem_iff.1 ((afw h2).1 fX));rw[hl]at this;cases this
theorem copied {E I L:List (Value×Value)} (hp:E.Perm I) (h:adi I) {seen:List Nat} (hc:rE E seen L) (bC:∀ j,j < E.length->j∈seen):EqM L I:=⟨hc.ok,fun k=>by rw[O0 (uW hp h) hc bC,Ur hp h]⟩
theorem Kd {n:Nat} {seen:List Nat} {j:Nat} (hj:j < n) (fZ:j ∉ seen):((List.range n).filter fun k=>!(seen ++ [j]).contains k).length < ((List.range n).filter fun k=>!seen.contains k).length:=by
 refine filter_lt (fun k=>!seen.contains k) (fun k=>!(seen ++ [j]).contains k) (fun k hk=>?_) j ?_ ?_ _ (acW.2 hj)
 .simp at hk ⊢;exact hk.1
 .simpa using fZ
 .simp
theorem Pw {C N:List (Value×Value)} (h:EqM C N) (hi:∀ k v,cD N k=some v->∃ n,v = .int .i64 n) (k:ByteArray):(iz (.string k) (cE C)=none/\aec (cD N k)=0)\/iz (.string k) (cE C)=some (.v (.int .i64 (aec (cD N k)))):=by
 rw[afC,h.same]
 cases hl:cD N k with
 | none=>exact .inl ⟨rfl,rfl⟩
 | some v=>
  obtain⟨n,rfl⟩:=hi k v hl;exact .inr rfl
theorem Px (C:List (Value×Value)) (k:ByteArray) (x:Value):iz (.string k) (cE (acf C k x))=some (.v x):=by
 rw[afC,aeP,if_pos rfl];rfl
theorem Yn (G:aq) (p:PgP) (aP:acg p=none) (hk:∀ r∈p.ao,lQ r) (s:bX) (hs:eb p s) (bR:List Bool) (aF:bR.length=(ba p).length) (I C:List (Value×Value)) (hr:fm p s I C) :
  ar prog G 21 [cX p,.agg [.dm false I,.dm false C],dBl bR] (.agg [.dm false (u1 p s bR (I,C)).1,.dm false (u1 p s bR (I,C)).2]):=by
 have hg:=fq aP;have fj:=hg.names;have pQ:=hg.ao;have cU:=LQ G;have hkd:=Bv G p (by omega) 1;have ab3:=fun x=>MP G p (by omega) x;have wV:=sX p.names 1 p.names.length;obtain⟨t0,l4,hI0⟩:∃ t0,t0=(⟨jX (ba p) bR s.is (ba p).length,s.ct⟩:bX)/\eb p t0:=⟨_,rfl,(td bR hs _ (abL _)).1⟩;obtain⟨T,hT⟩:∃ T:Nat->bX,∀ n,T n=(p.ao.take n).foldl (jf p s) t0:=⟨_,fun _=>rfl⟩;obtain⟨MI,wv⟩:∃ MI:Nat->List (Value×Value),∀ k,MI k=s4 p bR I k:=⟨_,fun _=>rfl⟩;obtain⟨M,hM⟩:∃ M:Nat->j3,∀ n,M n=rb p s t0 (p.ao.take n) (s4 p bR I (ba p).length,C):=⟨_,fun _=>rfl⟩
 have H9:M 0=(MI (ba p).length,C):=by rw[hM,wv];rfl
 have Ie:∀ n (h:n < p.ao.length),M (n+1)=ra p (og (eO p (T n).is) (eO p s.is) p.ao[n].cond) p.ao[n] (M n):=fun n h=>by
  rw[hM,hM,hT];exact Kp p s p.ao t0 _ n h
 have QI:M p.ao.length=u1 p s bR (I,C):=by rw[hM,ac0,l4];rfl
 have uh:∀ n,eb p (T n):=fun n=>by rw[hT];exact (Be aP s _ (fun r hr=>acd hr) hI0).1
 have ud:∀ n,fm p (T n) (M n).1 (M n).2:=fun n=>by
  rw[hT,hM];refine EY aP s _ (fun r hr=>acd hr) hI0 ?_;rw[l4];exact EX hg hs bR hr _ (abL _)
 have acZ:∀ n (h:n < p.ao.length) (L1 L2:List (Value×Value)),EqM L1 (M n).1->EqM L2 (M n).2->∃ e,p.ao[n].cond=some e/\ar prog G 71 [dR e,.fn (.func 72) [.ip [.dm false L1,.dm false L2]],.fn (.func 73) [.ip [.dm false I,.dm false C]]] (.v (.bool (c8 (eO p (T n).is) (eO p s.is) e))):=fun n h L1 L2 h1 h2=>by
  obtain⟨e,he,ha,hb⟩:=ahl aP hk (abH h);obtain⟨e',gZ,hw,_⟩:=hk _ (abH h);rw[he]at gZ;obtain rfl:=AI gZ;exact⟨e,he,Wx G _ _ _ _ _ _ _ _ (V7 G (Wq (ud n) h1.ok h2.ok h1.same h2.same)) (V8 G hr) e ha hw hb⟩
 have CU:∀ n,adi (M n).1/\adi (M n).2:=fun n=>⟨(ud n).jB,(ud n).okC⟩
 have Ia:∀ n i (hi:i < p.names.length),0<=aec (cD (M n).2 (bs p.names[i].name))/\aec (cD (M n).2 (bs p.names[i].name))<=7:=fun n i hi=>by
  rw[(ud n).ct i hi];have h1:=(uh n).lo i;have h2:=(uh n).hi i hi
  rcases hg.count _ (abH hi)with h3 | h3<;>omega
 have Ic:=fun n=>(ud n).iC;have QG:MI 0=I:=wv 0
 have QH:∀ k (h:k < (ba p).length) (h2:k < bR.length),∃ i,∃ hi:i < p.names.length,(ba p)[k]=(i:Int)/\MI (k+1)=acf (MI k) (bs p.names[i].name) (.bool bR[k]):=fun k h h2=>by
  obtain⟨i,hi,he,_⟩:=uP h;refine⟨i,hi,he,?_⟩
  have e1:(ba p).getD k 0=(i:Int):=by rw[cT h];exact he
  have e2:p.names.getD i ⟨[],0,0⟩=p.names[i]:=cT hi;have e3:bR.getD k false=bR[k]:=cT h2;rw[wv,wv,s4,e1,abX,e2,e3]
 clear hM wv hT uh ud hI0 l4;have jB:=hr.jB;have okC:=hr.okC;clear hr;have kI:gD p.names 1 p.names.length=ba p:=rfl;rw[kI]at hkd wV;clear kI;rw[<- QI];generalize ba p=KI at *;simp only[cX,eu,bO,dBl,dS]at hkd ab3 ⊢
 have nt:(p.names.map cNm).length=p.names.length:=by simp
 have gx:∀ i (h:i < p.names.length),(p.names.map cNm)[i]? = some [.v (.string (bs p.names[i].name)),.v (.int .i64 p.names[i].kind),.v (.int .i64 p.names[i].count)]:=fun i h=>by simp[h,cNm,dS]
 have df:(p.ao.map cL).length=p.ao.length:=by simp
 have pt:∀ i (h:i < p.ao.length),(p.ao.map cL)[i]? = some (cL p.ao[i]):=fun i h=>by simp[h]
 generalize p.names.map cNm=NN at *;generalize p.ao.map cL=RR at *;refine ar.abS (al _) func21 rfl rfl (rs:=[.cell 6 62]) results21 (by simp[ntmps21]) fun X=>?_;simp only[ntmps21,List.map];refine ah [2,3,4,6] [3,4,6] ?_;refine dX 3 ?_;refine dX 4 ?_;refine bf trivial cU [2,3,4,6,7] [6,7,601,602] ?_;refine af fun K1 ax=>?_;refine tw (al _) [2,3,4,6,7,21] [6,7,601,602,21] (fun _ _=>trivial) fun K' ae=>?_
 (repeat (refine ry fun K2 aa=>?_;simp;(repeat (refine⟨by omega,?_⟩));refine aa _ ?_;clear aa K2))
 refine Mp (y:=false) (ents:=I) rfl rfl (by simp) (by simp) (by simp) (by simp) (by simp) fun E1 zo=>?_;refine rz (ae _ ?_);refine AW.st (by simp;rfl) ?_;clear ae K';refine bQ (S:=List Nat×List (Value×Value)) (fun x=>rE E1 x.1 x.2) (fun x=>⟨aV [(2,.d (.sl none (bR.map fun b=>[.v (.bool b)]))),(3,.d (.ip [.sl none NN,.sl none RR])),(4,.d (.ip [.dm false I,.dm false C])),(6,.ref 6 0 0),(7,.ref 7 0 0),(21,.ref 21 0 0)],ak [(6,.box 62 [.d (.v (.map none)),.d (.v (.map none))]),(7,.box 62 [.mp 601,.mp 602]),(601,.mp 59 (cE x.2)),(602,.mp 60 []),(21,.it E1 x.1)]⟩) (fun x=>((List.range E1.length).filter fun k=>!x.1.contains k).length) ([],[]) ?_ (Hh E1) ?_
 .refine aB.to' (fun _ _=>trivial) (by simp[cE]) (by simp[cE])
 .rintro⟨FK,L1⟩ r4;dsimp only at r4 ⊢;refine tw (al _) [2,3,4,6,7,21,23] [6,7,601,602,21] (fun _ _=>trivial) fun K' ae=>?_;refine Mo (r:=21) (ents:=E1) (seen:=FK) rfl rfl (by simp) (by simp) (by simp) (by simp) (fun bC=>?_) (fun j hj fZ=>?_)
  rotate_left
  .have hk0:=aeO r4.ok;simp at hk0;have bq:=eq_true hk0;obtain⟨s1,hs1⟩:=(uW zo jB).str E1[j] (abH hj)
   (repeat (refine ry fun K2 aa=>?_;simp;(repeat (refine⟨by omega,?_⟩));refine aa _ ?_;clear aa K2))
   refine rz (ae _ ?_);refine AW.st (by simp;rfl) ?_;clear ae K';refine af fun K2 aa=>?_;refine abP rfl ?_;refine abO (aa _ ?_);refine aR ?_;refine tw (al _) [2,3,4,6,7,8,9,21] [6,7,601,602,21] (fun _ _=>trivial) fun K' ae=>?_;refine Mn (r:=21) (ents:=E1) (seen:=FK) (j:=j) rfl rfl (by simp) (by simp) (by simp) (by simp) hj ?_
   (repeat (refine ry fun K2 aa=>?_;simp[hs1];(repeat (refine⟨by omega,?_⟩));refine aa _ ?_;clear aa K2))
   refine rz (ae _ ?_);refine AW.st (by simp[hs1];rfl) ?_;clear ae K';have qf:=(Aq @hs1 (Aq @bq @dI));refine x6 ?_;(try simp only[aJ,aL]);refine aS.mk (FK ++ [j],acf L1 s1 E1[j].2) (Hg (uW zo jB) r4 hj hs1) (Kd hj fZ) ?_;refine bJ
  .have QB:=copied zo jB r4 bC;clear r4 bC
   (repeat (refine ry fun K2 aa=>?_;simp;(repeat (refine⟨by omega,?_⟩));refine aa _ ?_;clear aa K2))
   refine rz (ae _ ?_);refine AW.st (by simp;rfl) ?_;clear ae K';refine af fun K2 aa=>?_;refine abN rfl ?_;refine bx (ax _ ?_);refine af fun K3 aQ=>?_;refine tw (al _) [2,3,4,6,7,33] [6,7,601,602,33] (fun _ _=>trivial) fun K' ae=>?_
   (repeat (refine ry fun K2 aa=>?_;simp;(repeat (refine⟨by omega,?_⟩));refine aa _ ?_;clear aa K2))
   refine Mp (y:=false) (ents:=C) rfl rfl (by simp) (by simp) (by simp) (by simp) (by simp) fun E2 hE2=>?_;refine rz (ae _ ?_);refine AW.st (by simp;rfl) ?_;clear ae K';refine bQ (S:=List Nat×List (Value×Value)) (fun x=>rE E2 x.1 x.2) (fun x=>⟨aV [(2,.d (.sl none (bR.map fun b=>[.v (.bool b)]))),(3,.d (.ip [.sl none NN,.sl none RR])),(4,.d (.ip [.dm false I,.dm false C])),(6,.ref 6 0 0),(7,.ref 7 0 0),(33,.ref 33 0 0)],ak [(6,.box 62 [.d (.v (.map none)),.d (.v (.map none))]),(7,.box 62 [.mp 601,.mp 602]),(601,.mp 59 (cE L1)),(602,.mp 60 (cE x.2)),(33,.it E2 x.1)]⟩) (fun x=>((List.range E2.length).filter fun k=>!x.1.contains k).length) ([],[]) ?_ (Hh E2) ?_
   .refine aB.to' (fun _ _=>trivial) (by simp[cE]) (by simp[cE])
   .rintro⟨FL,L2⟩ wm;dsimp only at wm ⊢;refine tw (al _) [2,3,4,6,7,33,35] [6,7,601,602,33] (fun _ _=>trivial) fun K' ae=>?_;refine Mo (r:=33) (ents:=E2) (seen:=FL) rfl rfl (by simp) (by simp) (by simp) (by simp) (fun bC=>?_) (fun j hj fZ=>?_)
    rotate_left
    .have hk0:=aeO wm.ok;simp at hk0;have bq:=eq_true hk0;obtain⟨s1,hs1⟩:=(uW hE2 okC).str E2[j] (abH hj)
     (repeat (refine ry fun K2 aa=>?_;simp;(repeat (refine⟨by omega,?_⟩));refine aa _ ?_;clear aa K2))
     refine rz (ae _ ?_);refine AW.st (by simp;rfl) ?_;clear ae K';refine af fun K4 bK=>?_;refine abP rfl ?_;refine abO (bK _ ?_);refine aR ?_;refine tw (al _) [2,3,4,6,7,10,11,33] [6,7,601,602,33] (fun _ _=>trivial) fun K' ae=>?_;refine Mn (r:=33) (ents:=E2) (seen:=FL) (j:=j) rfl rfl (by simp) (by simp) (by simp) (by simp) hj ?_
     (repeat (refine ry fun K2 aa=>?_;simp[hs1];(repeat (refine⟨by omega,?_⟩));refine aa _ ?_;clear aa K2))
     refine rz (ae _ ?_);refine AW.st (by simp[hs1];rfl) ?_;clear ae K';have qf:=(Aq @hs1 (Aq @bq @dI));refine x6 ?_;(try simp only[aJ,aL]);refine aS.mk (FL ++ [j],acf L2 s1 E2[j].2) (Hg (uW hE2 okC) wm hj hs1) (Kd hj fZ) ?_;refine bJ
    .have QC:=copied hE2 okC wm bC;clear wm bC
     (repeat (refine ry fun K2 aa=>?_;simp;(repeat (refine⟨by omega,?_⟩));refine aa _ ?_;clear aa K2))
     refine rz (ae _ ?_);refine AW.st (by simp;rfl) ?_;clear ae K';refine af fun K4 bK=>?_;refine abN rfl ?_;refine bx (aQ _ ?_);refine af fun K5 bB=>?_;refine aT trivial hkd [2,3,4,6,7,44,45,46] [6,7,601,602] ?_;refine bQ (S:=Nat×List (Value×Value)) (fun x=>x.1<=KI.length/\EqM x.2 (MI x.1)) (fun x=>⟨aV [(2,.d (.sl none (bR.map fun b=>[.v (.bool b)]))),(3,.d (.ip [.sl none NN,.sl none RR])),(4,.d (.ip [.dm false I,.dm false C])),(6,.ref 6 0 0),(7,.ref 7 0 0),(44,.d (.sl none (KI.map fun x=>[.v (.int .i64 x)]))),(45,int KI.length),(46,int x.1)],ak [(6,.box 62 [.d (.v (.map none)),.d (.v (.map none))]),(7,.box 62 [.mp 601,.mp 602]),(601,.mp 59 (cE x.2)),(602,.mp 60 (cE L2))]⟩) (fun x=>KI.length - x.1) (0,L1) ?_ ⟨by omega,by rw[QG];exact QB⟩ ?_
     .refine bJ
     .rintro⟨k,L3⟩ ⟨hkk,zr⟩;dsimp only at hkk zr ⊢;refine ah [2,3,4,6,7,44,45,46,47] [6,7,601,602] ?_;refine af fun K6 cq=>?_;refine eh (b:=k < KI.length) (by simp[D.le,D.le.go,aC]) (fun hc=>?_) (fun hc=>?_)
      .have au:=hc
       have hk2:k < bR.length:=by omega
       obtain⟨i,hi,CR,uc⟩:=QH k au hk2
       have jr:i < NN.length:=by omega
       have iA:NN[i]=[.v (.string (bs p.names[i].name)),.v (.int .i64 p.names[i].kind),.v (.int .i64 p.names[i].count)]:=by
        have:=gx i hi;rw[By jr]at this;exact AI this
       generalize bs p.names[i].name=nm at iA uc;generalize p.names[i].kind=kd at iA;generalize p.names[i].count=ct at iA;have hk0:=aeO zr.ok;simp at hk0;have bq:=eq_true hk0;refine abO (cq _ ?_);refine af fun K7 de=>?_;refine aR ?_;have qf:=(Aq @au @CR);refine abQ [2,3,4,6,7,12,13,44,45,46] [6,7,601,602] ?_;refine aeR (al _) (by kernel_rfl) (by kernel_rfl) fun K' ae=>?_;(repeat (refine eC fun K2 aa=>?_;simp[jr,iA,hk2,bq,dI];(repeat (refine⟨by omega,?_⟩));refine aa _ ?_;clear aa K2));refine iL (ae _ ?_);clear ae K';refine de _ (AW.norm [2,3,4,6,7,44,45,46] [6,7,601,602] (fun _ _=>trivial) (AW.st (by simp[jr,iA,hk2,bq,dI];rfl) ?_));refine re0 ?_;(try simp only[aJ,aL]);refine aS.mk (k+1,acf L3 nm (.bool bR[k])) ⟨by omega,by rw[uc];exact adl zr _ _⟩ (by omega) ?_;refine bJ
      .have hke:k=KI.length:=by omega
       refine bx (bB _ ?_)
       have QE:EqM L3 (M 0).1:=by rw[H9,<- hke];exact zr
       have QD:EqM L2 (M 0).2:=by rw[H9];exact QC
       refine af fun K8 dz=>?_;refine ah [3,4,6,7,65,66,67] [6,7,601,602] ?_;refine bQ (S:=Nat×j3) (fun x=>x.1<=p.ao.length/\EqM x.2.1 (M x.1).1/\EqM x.2.2 (M x.1).2) (fun x=>⟨aV [(3,.d (.ip [.sl none NN,.sl none RR])),(4,.d (.ip [.dm false I,.dm false C])),(6,.ref 6 0 0),(7,.ref 7 0 0),(65,.d (.sl none RR)),(66,int RR.length),(67,int x.1)],ak [(6,.box 62 [.d (.v (.map none)),.d (.v (.map none))]),(7,.box 62 [.mp 601,.mp 602]),(601,.mp 59 (cE x.2.1)),(602,.mp 60 (cE x.2.2))]⟩) (fun x=>p.ao.length - x.1) (0,(L3,L2)) ?_ ⟨by omega,QE,QD⟩ ?_
       .refine bJ
       .rintro⟨n,L4,L5⟩ ⟨hn,gW,gw⟩;dsimp only at hn gW gw ⊢;have ui:=Ie n;have af3:=fun h=>acZ n h L4 L5 gW gw;have aaA:=CU (n+1);have CT:=Ia n;have DB:=Ic n
        have Ib:n=p.ao.length->M p.ao.length=M n:=fun h=>by rw[h]
        have zt:=CU n;generalize hmn:M n=mn at ui CT DB gW gw Ib zt;obtain⟨N1,N2⟩:=mn;dsimp only at CT DB gW gw zt;clear CU Ia Ic acZ Ie;refine ah [3,4,6,7,65,66,67,68] [6,7,601,602] ?_;refine af fun K9 hK9=>?_;by_cases au:n < p.ao.length
        .have cr:n < RR.length:=by omega
         refine abP (by simp[cr]) ?_;refine abO (hK9 _ ?_);refine af fun K10 dy=>?_;refine aR ?_;obtain⟨e,he,aH⟩:=af3 au;obtain⟨i,hi,kM,_,jM⟩:=Bd aP (abH au);obtain⟨qO,sx,_⟩:=rN aP _ (abH au)
         have Jb:p.ao[n].name=p.names[i].name:=by
          obtain⟨i2,eE,he2,du⟩:=pY sx;have h1:bF p p.ao[n].name=(i2:Int):=he2
          have:i2=i:=by omega
          subst this
          have:p.names[i2].name=p.ao[n].name:=by simpa using du
          exact this.symm
         have bg:=ui au;have gy:=pt n au;have jx:=ab3 p.ao[n].name;rw[kM]at jx;have agH:=CT i hi;rw[<- Jb]at agH;unfold ra at bg;simp only[kM,abX,jM,he,og]at bg;unfold cL at gy;rw[he]at gy;clear sx Jb ui af3;generalize p.ao[n]=r at gy jx qO bg agH kM;obtain⟨rk,rn,rc⟩:=r;dsimp only at gy jx qO bg agH kM;generalize c8 (eO p (T n).is) (eO p s.is) e=yes at aH bg;rw[show iP (some e)=dR e from rfl]at gy;simp only[dS]at gy;have pH:=Pw gw DB (bs rn);have uu:=Px L5 (bs rn);generalize hcv:aec (cD N2 (bs rn))=c at agH pH bg
         have kN:∀ x:Int,aec (cD (acf N2 (bs rn) (.int .i64 x)) (bs rn))=x:=fun x=>by rw[aeP,if_pos rfl];rfl
         have jr:i < NN.length:=by omega
         have iA:NN[i]=[.v (.string (bs p.names[i].name)),.v (.int .i64 p.names[i].kind),.v (.int .i64 p.names[i].count)]:=by
          have:=gx i hi;rw[By jr]at this;exact AI this
         have zv:RR[n]=[.v (.int .i64 rk),.v (.string (bs rn)),dR e]:=by
          rw[By cr]at gy;exact AI gy
         have Io:(dR e).one=true:=by cases e<;>rfl
         generalize p.names[i].name=nm at iA;generalize p.names[i].kind=kd at iA;generalize p.names[i].count=top at iA bg;generalize bs rn=key at *;generalize dR e=er at zv aH Io;clear gy kM jM;have hk0:=aeO gW.ok;simp at hk0;have bq:=eq_true hk0;have hk2:=aeO gw.ok;simp at hk2;have cY:=eq_true hk2;have zH:=fun x:Value=>aeO (uX key x gw.ok);simp at zH;have ft:=fun x=>eq_true (zH x);have qf:=(Aq @cr (Aq @zv @Io));refine abQ [3,4,6,7,15,65,66,67] [6,7,601,602,15] ?_;refine dX 15 ?_;refine rg [3,4,6,7,15,16,65,66,67] [6,7,601,602] (fun _ _=>trivial) fun K' ae=>?_;(repeat (refine sxn fun K2 aa=>?_;simp[aeS];(repeat (refine⟨by omega,?_⟩));refine aa _ ?_;clear aa K2));refine sxn fun K2 aa=>?_;simp[aeS];refine ab8.aee (aH) (by simp[aeS];rfl) (by first | exact D.abY _ | simp[aC,abU,abK,D.le,D.le.go,D.le_refl,D.abY,aeS]) (by simp[D.scalar,aeS]) ?_;refine aa _ ?_;clear aa K2;simp only[aD,cz];(repeat (refine sxn fun K2 aa=>?_;simp[aeS];(repeat (refine⟨by omega,?_⟩));refine aa _ ?_;clear aa K2));refine sxz (ae _ (AW.st (by simp[aeS];rfl) ?_));clear ae K';have qf:=(Aq @jr @iA);refine aga jx [3,4,6,7,15,16,17,65,66,67] [6,7,601,602] ?_;refine ah [3,4,6,7,15,16,17,65,66,67,86] [6,7,601,602] ?_;refine aR ?_
         have wZ:rk=1\/rk=2\/rk=3\/rk=4\/rk=5\/rk=6:=by omega
         rcases wZ with rfl | rfl | rfl | rfl | rfl | rfl
         .simp at bg;refine ah [3,4,6,7,15,16,17,65,66,67,86,87] [6,7,601,602] ?_;refine abP rfl ?_;have qf:=(Aq @bq (Aq @cY (Aq @ft @dI)));refine dN dy [3,4,6,7,65,66,67] [6,7,601,602] ?_;refine re0 ?_;(try simp only[aJ,aL]);refine aS.mk (n+1,(acf L4 key (.bool yes),L5)) ⟨by omega,?_,?_⟩ (by omega) ?_
          .rw[bg];exact adl gW _ _
          .rw[bg];exact gw
          .refine bJ
         .simp at bg;refine ah [3,4,6,7,15,16,17,65,66,67,86,87] [6,7,601,602] ?_;refine abN rfl ?_;refine ah [3,4,6,7,15,16,17,65,66,67,86,94] [6,7,601,602] ?_;refine abP rfl ?_;refine ah [3,4,6,7,15,65,66,67,96] [6,7,601,602] ?_
          cases yes with
          | true=>
           simp at bg;refine abP rfl ?_;have qf:=(Aq @bq (Aq @cY (Aq @ft @dI)));refine dN dy [3,4,6,7,65,66,67] [6,7,601,602] ?_;refine re0 ?_;(try simp only[aJ,aL]);refine aS.mk (n+1,(acf L4 key (.bool true),L5)) ⟨by omega,?_,?_⟩ (by omega) ?_
           .rw[bg];exact adl gW _ _
           .rw[bg];exact gw
           .refine bJ
          | false=>
           simp at bg;refine abN rfl ?_;refine abO ?_;refine dy _ (AW.norm [3,4,6,7,65,66,67] [6,7,601,602] (fun _ _=>trivial) (AW.st (by simp;rfl) ?_));refine re0 ?_;(try simp only[aJ,aL]);refine aS.mk (n+1,(L4,L5)) ⟨by omega,?_,?_⟩ (by omega) ?_
           .rw[bg];exact gW
           .rw[bg];exact gw
           .refine bJ
         .simp at bg;refine ah [3,4,6,7,15,16,17,65,66,67,86,87] [6,7,601,602] ?_;refine abN rfl ?_;refine ah [3,4,6,7,15,16,17,65,66,67,86,94] [6,7,601,602] ?_;refine abN rfl ?_;refine ah [3,4,6,7,15,16,17,65,66,67,86,101] [6,7,601,602] ?_;refine abP rfl ?_;refine ah [3,4,6,7,15,65,66,67,103] [6,7,601,602] ?_
          cases yes with
          | true=>
           simp at bg;refine abP rfl ?_;have qf:=(Aq @bq (Aq @cY (Aq @ft @dI)));refine dN dy [3,4,6,7,65,66,67] [6,7,601,602] ?_;refine re0 ?_;(try simp only[aJ,aL]);refine aS.mk (n+1,(acf L4 key (.bool false),L5)) ⟨by omega,?_,?_⟩ (by omega) ?_
           .rw[bg];exact adl gW _ _
           .rw[bg];exact gw
           .refine bJ
          | false=>
           simp at bg;refine abN rfl ?_;refine abO ?_;refine dy _ (AW.norm [3,4,6,7,65,66,67] [6,7,601,602] (fun _ _=>trivial) (AW.st (by simp;rfl) ?_));refine re0 ?_;(try simp only[aJ,aL]);refine aS.mk (n+1,(L4,L5)) ⟨by omega,?_,?_⟩ (by omega) ?_
           .rw[bg];exact gW
           .rw[bg];exact gw
           .refine bJ
         .simp at bg;refine ah [3,4,6,7,15,16,17,65,66,67,86,87] [6,7,601,602] ?_;refine abN rfl ?_;refine ah [3,4,6,7,15,16,17,65,66,67,86,94] [6,7,601,602] ?_;refine abN rfl ?_;refine ah [3,4,6,7,15,16,17,65,66,67,86,101] [6,7,601,602] ?_;refine abN rfl ?_;refine af fun K11 j9=>?_;refine ah [3,4,6,7,15,16,17,65,66,67,86,108] [6,7,601,602] ?_;refine abP rfl ?_;refine abO ?_;refine j9 _ (AW.norm [3,4,6,7,15,16,17,65,66,67,86,108] [6,7,601,602] (fun _ _=>trivial) (AW.st (by simp;rfl) ?_));refine abP rfl ?_;refine af fun K12 adR=>?_;have Dn:∃ oc,iz (.string key) (cE L5)=oc/\((oc=none/\c=0)\/oc=some (.v (.int .i64 c))):=⟨_,rfl,pH⟩;clear pH;obtain⟨oc,iZ,pH⟩:=Dn
          rcases pH with⟨rfl,rfl⟩ | rfl
          .cases yes with
           | true=>
            by_cases gz:0 < top
            .simp[gz,kN,hcv]at bg;have qf:=(Aq @bq (Aq @cY (Aq @ft (Aq @dI (Aq @iZ (Aq @aft (Aq @afD (Aq @afE @gz))))))));refine abQ [3,4,6,7,15,16,17,65,66,67,120] [6,7,601,602] ?_;refine abP (by simp[gz]) ?_;have qf:=(Aq @bq (Aq @cY (Aq @ft (Aq @dI (Aq @iZ (Aq @aft (Aq @afD @afE)))))));refine dN adR [3,4,6,7,15,16,17,65,66,67] [6,7,601,602] ?_;refine af fun j2 eZ=>?_;refine ah [3,4,6,7,15,17,65,66,67,133] [6,7,601,602] ?_;refine abN rfl ?_;refine abO ?_;refine eZ _ (AW.norm [3,4,6,7,15,17,65,66,67] [6,7,601,602] (fun _ _=>trivial) (AW.st (by simp;rfl) ?_));have qf:=(Aq @bq (Aq @cY (Aq @ft (Aq @dI (Aq @uu (Aq @aft (Aq @afD @afE)))))));refine dN dy [3,4,6,7,65,66,67] [6,7,601,602] ?_;refine re0 ?_;(try simp only[aJ,aL]);refine aS.mk (n+1,(acf L4 key (.bool ((0:Int)+1 == top)),acf L5 key (.int .i64 ((0:Int)+1)))) ⟨by omega,?_,?_⟩ (by omega) ?_
             .rw[bg];exact adl gW _ _
             .rw[bg];exact adl gw _ _
             .refine bJ
            .simp[gz,kN,hcv]at bg;have qf:=(Aq @bq (Aq @cY (Aq @ft (Aq @dI (Aq @iZ (Aq @aft (Aq @afD (Aq @afE @gz))))))));refine abQ [3,4,6,7,15,16,17,65,66,67,120] [6,7,601,602] ?_;refine abN (by simp[gz]) ?_;refine abO ?_;refine adR _ (AW.norm [3,4,6,7,15,16,17,65,66,67] [6,7,601,602] (fun _ _=>trivial) (AW.st (by simp;rfl) ?_));refine af fun j2 eZ=>?_;refine ah [3,4,6,7,15,17,65,66,67,133] [6,7,601,602] ?_;refine abN rfl ?_;refine abO ?_;refine eZ _ (AW.norm [3,4,6,7,15,17,65,66,67] [6,7,601,602] (fun _ _=>trivial) (AW.st (by simp;rfl) ?_));have qf:=(Aq @bq (Aq @cY (Aq @ft (Aq @dI (Aq @iZ (Aq @aft (Aq @afD @afE)))))));refine dN dy [3,4,6,7,65,66,67] [6,7,601,602] ?_;refine re0 ?_;(try simp only[aJ,aL]);refine aS.mk (n+1,(acf L4 key (.bool ((0:Int) == top)),L5)) ⟨by omega,?_,?_⟩ (by omega) ?_
             .rw[bg];exact adl gW _ _
             .rw[bg];exact gw
             .refine bJ
           | false=>
            simp[kN,hcv]at bg;refine ah [3,4,6,7,15,16,17,65,66,67,120] [6,7,601,602] ?_;refine abN (by simp) ?_;refine abO ?_;refine adR _ (AW.norm [3,4,6,7,15,16,17,65,66,67] [6,7,601,602] (fun _ _=>trivial) (AW.st (by simp;rfl) ?_));refine af fun j2 eZ=>?_;refine ah [3,4,6,7,15,17,65,66,67,133] [6,7,601,602] ?_;refine abP rfl ?_;have qf:=(Aq @bq (Aq @cY (Aq @ft @dI)));refine dN eZ [3,4,6,7,15,17,65,66,67] [6,7,601,602] ?_;have qf:=(Aq @bq (Aq @cY (Aq @ft (Aq @dI (Aq @uu (Aq @aft (Aq @afD @afE)))))));refine dN dy [3,4,6,7,65,66,67] [6,7,601,602] ?_;refine re0 ?_;(try simp only[aJ,aL]);refine aS.mk (n+1,(acf L4 key (.bool ((0:Int) == top)),acf L5 key (.int .i64 0))) ⟨by omega,?_,?_⟩ (by omega) ?_
            .rw[bg];exact adl gW _ _
            .rw[bg];exact adl gw _ _
            .refine bJ
          .cases yes with
           | true=>
            by_cases gz:c < top
            .simp[gz,kN,hcv]at bg;have qf:=(Aq @bq (Aq @cY (Aq @ft (Aq @dI (Aq @iZ (Aq @aft (Aq @afD (Aq @afE @gz))))))));refine abQ [3,4,6,7,15,16,17,65,66,67,120] [6,7,601,602] ?_;refine abP (by simp[gz]) ?_;have qf:=(Aq @bq (Aq @cY (Aq @ft (Aq @dI (Aq @iZ (Aq @aft (Aq @afD @afE)))))));refine dN adR [3,4,6,7,15,16,17,65,66,67] [6,7,601,602] ?_;refine af fun j2 eZ=>?_;refine ah [3,4,6,7,15,17,65,66,67,133] [6,7,601,602] ?_;refine abN rfl ?_;refine abO ?_;refine eZ _ (AW.norm [3,4,6,7,15,17,65,66,67] [6,7,601,602] (fun _ _=>trivial) (AW.st (by simp;rfl) ?_));have qf:=(Aq @bq (Aq @cY (Aq @ft (Aq @dI (Aq @uu (Aq @aft (Aq @afD @afE)))))));refine dN dy [3,4,6,7,65,66,67] [6,7,601,602] ?_;refine re0 ?_;(try simp only[aJ,aL]);refine aS.mk (n+1,(acf L4 key (.bool (c+1 == top)),acf L5 key (.int .i64 (c+1)))) ⟨by omega,?_,?_⟩ (by omega) ?_
             .rw[bg];exact adl gW _ _
             .rw[bg];exact adl gw _ _
             .refine bJ
            .simp[gz,kN,hcv]at bg;have qf:=(Aq @bq (Aq @cY (Aq @ft (Aq @dI (Aq @iZ (Aq @aft (Aq @afD (Aq @afE @gz))))))));refine abQ [3,4,6,7,15,16,17,65,66,67,120] [6,7,601,602] ?_;refine abN (by simp[gz]) ?_;refine abO ?_;refine adR _ (AW.norm [3,4,6,7,15,16,17,65,66,67] [6,7,601,602] (fun _ _=>trivial) (AW.st (by simp;rfl) ?_));refine af fun j2 eZ=>?_;refine ah [3,4,6,7,15,17,65,66,67,133] [6,7,601,602] ?_;refine abN rfl ?_;refine abO ?_;refine eZ _ (AW.norm [3,4,6,7,15,17,65,66,67] [6,7,601,602] (fun _ _=>trivial) (AW.st (by simp;rfl) ?_));have qf:=(Aq @bq (Aq @cY (Aq @ft (Aq @dI (Aq @iZ (Aq @aft (Aq @afD @afE)))))));refine dN dy [3,4,6,7,65,66,67] [6,7,601,602] ?_;refine re0 ?_;(try simp only[aJ,aL]);refine aS.mk (n+1,(acf L4 key (.bool (c == top)),L5)) ⟨by omega,?_,?_⟩ (by omega) ?_
             .rw[bg];exact adl gW _ _
             .rw[bg];exact gw
             .refine bJ
           | false=>
            simp[kN,hcv]at bg;refine ah [3,4,6,7,15,16,17,65,66,67,120] [6,7,601,602] ?_;refine abN (by simp) ?_;refine abO ?_;refine adR _ (AW.norm [3,4,6,7,15,16,17,65,66,67] [6,7,601,602] (fun _ _=>trivial) (AW.st (by simp;rfl) ?_));refine af fun j2 eZ=>?_;refine ah [3,4,6,7,15,17,65,66,67,133] [6,7,601,602] ?_;refine abP rfl ?_;have qf:=(Aq @bq (Aq @cY (Aq @ft @dI)));refine dN eZ [3,4,6,7,15,17,65,66,67] [6,7,601,602] ?_;have qf:=(Aq @bq (Aq @cY (Aq @ft (Aq @dI (Aq @uu (Aq @aft (Aq @afD @afE)))))));refine dN dy [3,4,6,7,65,66,67] [6,7,601,602] ?_;refine re0 ?_;(try simp only[aJ,aL]);refine aS.mk (n+1,(acf L4 key (.bool ((0:Int) == top)),acf L5 key (.int .i64 0))) ⟨by omega,?_,?_⟩ (by omega) ?_
            .rw[bg];exact adl gW _ _
            .rw[bg];exact adl gw _ _
            .refine bJ
         .simp at bg;refine ah [3,4,6,7,15,16,17,65,66,67,86,87] [6,7,601,602] ?_;refine abN rfl ?_;refine ah [3,4,6,7,15,16,17,65,66,67,86,94] [6,7,601,602] ?_;refine abN rfl ?_;refine ah [3,4,6,7,15,16,17,65,66,67,86,101] [6,7,601,602] ?_;refine abN rfl ?_;refine af fun K11 j9=>?_;refine ah [3,4,6,7,15,16,17,65,66,67,86,108] [6,7,601,602] ?_;refine abN rfl ?_;refine reK trivial j9 [3,4,6,7,15,16,17,65,66,67,86,108] [6,7,601,602] ?_;refine abP rfl ?_;refine af fun K12 adR=>?_;have Dn:∃ oc,iz (.string key) (cE L5)=oc/\((oc=none/\c=0)\/oc=some (.v (.int .i64 c))):=⟨_,rfl,pH⟩;clear pH;obtain⟨oc,iZ,pH⟩:=Dn
          rcases pH with⟨rfl,rfl⟩ | rfl
          .cases yes with
           | true=>
            by_cases gz:0 < top
            .simp[gz,kN,hcv]at bg;have qf:=(Aq @bq (Aq @cY (Aq @ft (Aq @dI (Aq @iZ (Aq @aft (Aq @afD (Aq @afE @gz))))))));refine abQ [3,4,6,7,15,16,17,65,66,67,120] [6,7,601,602] ?_;refine abP (by simp[gz]) ?_;have qf:=(Aq @bq (Aq @cY (Aq @ft (Aq @dI (Aq @iZ (Aq @aft (Aq @afD @afE)))))));refine dN adR [3,4,6,7,15,16,17,65,66,67] [6,7,601,602] ?_;refine af fun j2 eZ=>?_;refine ah [3,4,6,7,15,17,65,66,67,133] [6,7,601,602] ?_;refine abN rfl ?_;refine abO ?_;refine eZ _ (AW.norm [3,4,6,7,15,17,65,66,67] [6,7,601,602] (fun _ _=>trivial) (AW.st (by simp;rfl) ?_));have qf:=(Aq @bq (Aq @cY (Aq @ft (Aq @dI (Aq @uu (Aq @aft (Aq @afD @afE)))))));refine dN dy [3,4,6,7,65,66,67] [6,7,601,602] ?_;refine re0 ?_;(try simp only[aJ,aL]);refine aS.mk (n+1,(acf L4 key (.bool ((0:Int)+1 == top)),acf L5 key (.int .i64 ((0:Int)+1)))) ⟨by omega,?_,?_⟩ (by omega) ?_
             .rw[bg];exact adl gW _ _
             .rw[bg];exact adl gw _ _
             .refine bJ
            .simp[gz,kN,hcv]at bg;have qf:=(Aq @bq (Aq @cY (Aq @ft (Aq @dI (Aq @iZ (Aq @aft (Aq @afD (Aq @afE @gz))))))));refine abQ [3,4,6,7,15,16,17,65,66,67,120] [6,7,601,602] ?_;refine abN (by simp[gz]) ?_;refine abO ?_;refine adR _ (AW.norm [3,4,6,7,15,16,17,65,66,67] [6,7,601,602] (fun _ _=>trivial) (AW.st (by simp;rfl) ?_));refine af fun j2 eZ=>?_;refine ah [3,4,6,7,15,17,65,66,67,133] [6,7,601,602] ?_;refine abN rfl ?_;refine abO ?_;refine eZ _ (AW.norm [3,4,6,7,15,17,65,66,67] [6,7,601,602] (fun _ _=>trivial) (AW.st (by simp;rfl) ?_));have qf:=(Aq @bq (Aq @cY (Aq @ft (Aq @dI (Aq @iZ (Aq @aft (Aq @afD @afE)))))));refine dN dy [3,4,6,7,65,66,67] [6,7,601,602] ?_;refine re0 ?_;(try simp only[aJ,aL]);refine aS.mk (n+1,(acf L4 key (.bool ((0:Int) == top)),L5)) ⟨by omega,?_,?_⟩ (by omega) ?_
             .rw[bg];exact adl gW _ _
             .rw[bg];exact gw
             .refine bJ
           | false=>
            simp[kN,hcv]at bg;refine ah [3,4,6,7,15,16,17,65,66,67,120] [6,7,601,602] ?_;refine abN (by simp) ?_;refine abO ?_;refine adR _ (AW.norm [3,4,6,7,15,16,17,65,66,67] [6,7,601,602] (fun _ _=>trivial) (AW.st (by simp;rfl) ?_));refine af fun j2 eZ=>?_;refine ah [3,4,6,7,15,17,65,66,67,133] [6,7,601,602] ?_;refine abN rfl ?_;refine abO ?_;refine eZ _ (AW.norm [3,4,6,7,15,17,65,66,67] [6,7,601,602] (fun _ _=>trivial) (AW.st (by simp;rfl) ?_));have qf:=(Aq @bq (Aq @cY (Aq @ft (Aq @dI (Aq @iZ (Aq @aft (Aq @afD @afE)))))));refine dN dy [3,4,6,7,65,66,67] [6,7,601,602] ?_;refine re0 ?_;(try simp only[aJ,aL]);refine aS.mk (n+1,(acf L4 key (.bool ((0:Int) == top)),L5)) ⟨by omega,?_,?_⟩ (by omega) ?_
            .rw[bg];exact adl gW _ _
            .rw[bg];exact gw
            .refine bJ
          .cases yes with
           | true=>
            by_cases gz:c < top
            .simp[gz,kN,hcv]at bg;have qf:=(Aq @bq (Aq @cY (Aq @ft (Aq @dI (Aq @iZ (Aq @aft (Aq @afD (Aq @afE @gz))))))));refine abQ [3,4,6,7,15,16,17,65,66,67,120] [6,7,601,602] ?_;refine abP (by simp[gz]) ?_;have qf:=(Aq @bq (Aq @cY (Aq @ft (Aq @dI (Aq @iZ (Aq @aft (Aq @afD @afE)))))));refine dN adR [3,4,6,7,15,16,17,65,66,67] [6,7,601,602] ?_;refine af fun j2 eZ=>?_;refine ah [3,4,6,7,15,17,65,66,67,133] [6,7,601,602] ?_;refine abN rfl ?_;refine abO ?_;refine eZ _ (AW.norm [3,4,6,7,15,17,65,66,67] [6,7,601,602] (fun _ _=>trivial) (AW.st (by simp;rfl) ?_));have qf:=(Aq @bq (Aq @cY (Aq @ft (Aq @dI (Aq @uu (Aq @aft (Aq @afD @afE)))))));refine dN dy [3,4,6,7,65,66,67] [6,7,601,602] ?_;refine re0 ?_;(try simp only[aJ,aL]);refine aS.mk (n+1,(acf L4 key (.bool (c+1 == top)),acf L5 key (.int .i64 (c+1)))) ⟨by omega,?_,?_⟩ (by omega) ?_
             .rw[bg];exact adl gW _ _
             .rw[bg];exact adl gw _ _
             .refine bJ
            .simp[gz,kN,hcv]at bg;have qf:=(Aq @bq (Aq @cY (Aq @ft (Aq @dI (Aq @iZ (Aq @aft (Aq @afD (Aq @afE @gz))))))));refine abQ [3,4,6,7,15,16,17,65,66,67,120] [6,7,601,602] ?_;refine abN (by simp[gz]) ?_;refine abO ?_;refine adR _ (AW.norm [3,4,6,7,15,16,17,65,66,67] [6,7,601,602] (fun _ _=>trivial) (AW.st (by simp;rfl) ?_));refine af fun j2 eZ=>?_;refine ah [3,4,6,7,15,17,65,66,67,133] [6,7,601,602] ?_;refine abN rfl ?_;refine abO ?_;refine eZ _ (AW.norm [3,4,6,7,15,17,65,66,67] [6,7,601,602] (fun _ _=>trivial) (AW.st (by simp;rfl) ?_));have qf:=(Aq @bq (Aq @cY (Aq @ft (Aq @dI (Aq @iZ (Aq @aft (Aq @afD @afE)))))));refine dN dy [3,4,6,7,65,66,67] [6,7,601,602] ?_;refine re0 ?_;(try simp only[aJ,aL]);refine aS.mk (n+1,(acf L4 key (.bool (c == top)),L5)) ⟨by omega,?_,?_⟩ (by omega) ?_
             .rw[bg];exact adl gW _ _
             .rw[bg];exact gw
             .refine bJ
           | false=>
            simp[kN,hcv]at bg;refine ah [3,4,6,7,15,16,17,65,66,67,120] [6,7,601,602] ?_;refine abN (by simp) ?_;refine abO ?_;refine adR _ (AW.norm [3,4,6,7,15,16,17,65,66,67] [6,7,601,602] (fun _ _=>trivial) (AW.st (by simp;rfl) ?_));refine af fun j2 eZ=>?_;refine ah [3,4,6,7,15,17,65,66,67,133] [6,7,601,602] ?_;refine abN rfl ?_;refine abO ?_;refine eZ _ (AW.norm [3,4,6,7,15,17,65,66,67] [6,7,601,602] (fun _ _=>trivial) (AW.st (by simp;rfl) ?_));have qf:=(Aq @bq (Aq @cY (Aq @ft (Aq @dI (Aq @iZ (Aq @aft (Aq @afD @afE)))))));refine dN dy [3,4,6,7,65,66,67] [6,7,601,602] ?_;refine re0 ?_;(try simp only[aJ,aL]);refine aS.mk (n+1,(acf L4 key (.bool (c == top)),L5)) ⟨by omega,?_,?_⟩ (by omega) ?_
            .rw[bg];exact adl gW _ _
            .rw[bg];exact gw
            .refine bJ
         .simp at bg;refine ah [3,4,6,7,15,16,17,65,66,67,86,87] [6,7,601,602] ?_;refine abN rfl ?_;refine ah [3,4,6,7,15,16,17,65,66,67,86,94] [6,7,601,602] ?_;refine abN rfl ?_;refine ah [3,4,6,7,15,16,17,65,66,67,86,101] [6,7,601,602] ?_;refine abN rfl ?_;refine af fun K11 j9=>?_;refine ah [3,4,6,7,15,16,17,65,66,67,86,108] [6,7,601,602] ?_;refine abN rfl ?_;refine reK trivial j9 [3,4,6,7,15,16,17,65,66,67,86,108] [6,7,601,602] ?_;refine abN rfl ?_;refine ah [3,4,6,7,15,16,65,66,67,149] [6,7,601,602] ?_;refine abP rfl ?_;refine ah [3,4,6,7,15,65,66,67,151] [6,7,601,602] ?_
          cases yes with
          | true=>
           simp at bg;refine abP rfl ?_;refine ae0 (al _) (by kernel_rfl) [(1,7),(3,999),(5,7),(7,999),(8,602),(9,601)] (by kernel_rfl) fun K' ae=>?_;(repeat (refine gl fun K2 aa=>?_;simp[bq,cY,ft,dI];(repeat (refine⟨by omega,?_⟩));refine aa _ ?_;clear aa K2));refine adw (ae _ ?_);clear ae K';refine dy _ (AW.norm [3,4,6,7,65,66,67] [6,7,601,602] (fun _ _=>trivial) (AW.st (by simp[bq,cY,ft,dI];rfl) ?_));refine re0 ?_;(try simp only[aJ,aL]);refine aS.mk (n+1,(acf L4 key (.bool false),acf L5 key (.int .i64 0))) ⟨by omega,?_,?_⟩ (by omega) ?_
           .rw[bg];exact adl gW _ _
           .rw[bg];exact adl gw _ _
           .refine bJ
          | false=>
           simp at bg;refine abN rfl ?_;refine abO ?_;refine dy _ (AW.norm [3,4,6,7,65,66,67] [6,7,601,602] (fun _ _=>trivial) (AW.st (by simp;rfl) ?_));refine re0 ?_;(try simp only[aJ,aL]);refine aS.mk (n+1,(L4,L5)) ⟨by omega,?_,?_⟩ (by omega) ?_
           .rw[bg];exact gW
           .rw[bg];exact gw
           .refine bJ
        .have aI:n=p.ao.length:=by omega
         have QJ:=Ib aI;refine abN (by simp<;>omega) ?_;refine bx (dz _ ?_);refine ah [6] [6,7,601,602] ?_;have hp1:=HA gW zt.1;have ey:=HA gw zt.2;refine ab1 ?_;simp[D.le,D.le.go,aC,QJ,aeS,hp1,ey]
theorem KY {p:PgP} (hg:hC p) {i:Nat} (hi:i < p.names.length):ch p p.names[i]<=8:=by
 have h5:=hg.count _ (abH hi);unfold ch;split
 .rcases h5 with h5 | h5<;>omega
 .split
  .omega
  .split<;>omega
def jC (p:PgP) (k:Nat):Int:=bp (eJ p k)
theorem Fq (p:PgP):jC p 0=1:=rfl
theorem ahg (p:PgP):jC p p.names.length=bp (bn p):=rfl
theorem agM {p:PgP} (hg:hC p) {i:Nat} (hi:i < p.names.length):jC p (i+1)=if ch p p.names[i]=0 then jC p i else jC p i * ch p p.names[i]:=VV hg hi
theorem agu {p:PgP} (hg:hC p):∀ k,k<=p.names.length->0 < jC p k
 | 0,_=>by rw[Fq];decide
 | k+1,h=>by
  have ih:=agu hg k (by omega);have hk:=afz hg (show k < p.names.length by omega);rw[agM hg (by omega)];split
  .exact ih
  .exact Int.mul_pos ih (by omega)
theorem ahi {p:PgP} (hg:hC p) {k:Nat} (h:k < p.names.length):jC p k<=jC p (k+1):=by
 have ih:=agu hg k (by omega);have hk:=afz hg h;rw[agM hg h];split
 .exact Int.le_refl _
 .have:=adv (show (1:Int)<=ch p p.names[k] by omega) (aex ih);rw[Int.mul_one]at this;exact this
theorem ahh {p:PgP} (hg:hC p):∀ d k,k+d<=p.names.length->jC p k<=jC p (k+d)
 | 0,_,_=>Int.le_refl _
 | d+1,k,h=>by
  have h1:=ahh hg d k (by omega);have h2:=ahi hg (show k+d < p.names.length by omega)
  have:k+(d+1)=k+d+1:=by omega
  rw[this];omega
theorem VS {p:PgP} (hg:hC p) {k:Nat} (h:k<=p.names.length):jC p k<=bp (bn p):=by
 have:=ahh hg (p.names.length - k) k (by omega);rw[show k+(p.names.length - k)=p.names.length by omega]at this;exact this
def jn (p:PgP):Nat->Int
 | 0=>1
 | k+1=>if 0 < (dT p).getD k 0/\jn p k<=4096 then jn p k * (dT p).getD k 0 else jn p k
theorem LP {p:PgP} {k:Nat} (h:k < p.names.length):(dT p).getD k 0=ch p p.names[k]:=by
 have:k < (dT p).length:=by simpa[dT]using h
 rw[cT this];simp[dT]
theorem ze {p:PgP} (hg:hC p):∀ k,k<=p.names.length->(jC p k<=4096/\jn p k=jC p k)\/(4096 < jC p k/\4096 < jn p k/\jn p k<=32768)
 | 0,_=>.inl ⟨by rw[Fq];decide,by rw[Fq];rfl⟩
 | k+1,h=>by
  have hk:k < p.names.length:=by omega
  have ih:=ze hg k (by omega);have h1:=agM hg hk;have h2:=afz hg hk;have h3:=KY hg hk;have h4:=ahi hg hk;have h5:=agu hg k (by omega);rw[jn,LP hk]
  rcases ih with⟨i1,i2⟩ | ⟨i1,i2,i3⟩
  .rw[i2];by_cases hz:ch p p.names[k]=0
   .rw[if_pos hz]at h1;rw[if_neg (by omega),h1];exact .inl ⟨i1,rfl⟩
   .rw[if_neg hz]at h1;rw[if_pos ⟨by omega,i1⟩,h1];have h6:=Int.mul_le_mul i1 h3 h2 (by decide);by_cases hb:jC p k * ch p p.names[k]<=4096
    .exact .inl ⟨hb,rfl⟩
    .exact .inr ⟨by omega,by omega,by omega⟩
  .rw[if_neg (by omega)];exact .inr ⟨by omega,i2,i3⟩
def kX (p:PgP):Bool:=decide (4096 < bp (bn p)) || decide (6 < (ba p).length)
def afk (p:PgP) (most:Int):Bool:=!kX p && (decide (most < bp (bn p)) || decide (4 < (ba p).length))
theorem P9 {p:PgP} (hg:hC p):(decide (4096 < jn p p.names.length) || decide (6 < (ba p).length))=kX p:=by
 unfold kX;have h:=ze hg p.names.length (abL _);rw[ahg]at h
 rcases h with⟨h1,h2⟩ | ⟨h1,h2,_⟩
 .rw[h2]
 .rw[decide_eq_true h1,decide_eq_true h2]
theorem P8 {p:PgP} (hg:hC p) (most:Int):(!kX p && (decide (most < jn p p.names.length) || decide (4 < (ba p).length)))=afk p most:=by
 unfold afk;have h:=ze hg p.names.length (abL _);rw[ahg]at h
 rcases h with⟨h1,h2⟩ | ⟨h1,h2,_⟩
 .rw[h2]
 .have:kX p=true:=by unfold kX;rw[decide_eq_true h1];rfl
  rw[this];rfl
theorem Qa (G:aq) (hM:adP G) (p:PgP) (aP:acg p=none) (hk:∀ r∈p.ao,lQ r) (most:Int):ar prog G 14 [cX p,ab most] (.aW [.v (.bool (kX p)),.v (.bool (afk p most))]):=by
 have hg:=fq aP;have fj:=hg.names;have nH:=Bc G hM p aP hk;have hkd:=Bv G p (by omega) 1;have kI:gD p.names 1 p.names.length=ba p:=rfl;rw[kI]at hkd;simp only[cX,eu,bO,dk]at nH hkd
 have df:(dT p).length=p.names.length:=by simp[dT]
 have sk:∀ k (h:k < (dT p).length),jn p (k+1)=if 0 < (dT p)[k]/\jn p k<=4096 then jn p k * (dT p)[k] else jn p k:=fun k h=>by rw[jn,cT h]
 have hgb:∀ k,k<=(dT p).length->0 < jn p k/\jn p k<=32768:=fun k h=>by
  have h1:=ze hg k (by omega);have h2:=agu hg k (by omega)
  rcases h1 with⟨h1,h3⟩ | ⟨_,h1,h3⟩<;>omega
 have QU:∀ k (h:k < (dT p).length),0<=(dT p)[k]/\(dT p)[k]<=8:=fun k h=>by
  have h1:=afz hg (show k < p.names.length by omega);have h2:=KY hg (show k < p.names.length by omega);rw[<- LP (by omega),cT h]at h1 h2;exact⟨h1,h2⟩
 have DY:=P9 hg;have pM:=P8 hg most;have hkl:=sX p.names 1 p.names.length;rw[kI]at hkl;rw[<- df]at DY pM;rw[<- pM,<- DY];clear DY pM;have hg0:jn p 0=1:=rfl;generalize jn p=g at *;generalize dT p=RP at *
 have lh:((ba p).map fun x=>[D.v (.int .i64 x)]).length=(ba p).length:=by simp
 generalize ((ba p).map fun x=>[D.v (.int .i64 x)])=IN at *;generalize (ba p).length=m at *;simp only[cX,eu,bO,ab];generalize p.names.map cNm=NN at *;generalize p.ao.map cL=RR at *;refine ar.abS (al _) func14 rfl rfl (rs:=[.tmp 4,.tmp 5]) results14 (by simp[ntmps14]) fun X=>?_;simp only[ntmps14,List.map];refine ah [1,2] [2] ?_;refine dX 2 ?_;refine ah [1,2,6] [] ?_;refine af fun K1 ax=>?_;refine aT trivial nH [1,2,6,7,8] [] ?_;refine bQ (S:=Nat) (fun k=>k<=RP.length) (fun k=>⟨aV [(1,int most),(2,.d (.ip [.sl none NN,.sl none RR])),(6,int (g k)),(7,int k),(8,.d (.sl none (RP.map fun x=>[.v (.int .i64 x)])))],ak []⟩) (fun k=>RP.length - k) 0 ?_ (by omega) ?_
 .rw[hg0];refine bJ
 .intro k hkk;refine af fun K2 aa=>?_;have hgk:=sk k;have hb:=hgb k hkk
  have qI:k=RP.length->g RP.length=g k:=fun e=>by rw[e]
  generalize ke:g k=v at hgk hb qI ⊢;refine ah [1,2,6,7,8,15] [] ?_;refine eh (b:=k < RP.length) (by simp[D.le,D.le.go,aC]) (fun hc=>?_) (fun hc=>?_)
  .have hgk:=hgk hc;have hR:=QU k hc;refine abO (aa _ ?_);refine af fun K3 aQ=>?_;refine aR ?_;generalize fK:RP[k]=K at hgk hR;by_cases hp:K > 0
   .by_cases hv:v<=4096
    .rw[if_pos ⟨hp,hv⟩]at hgk;have hw:=Int.mul_le_mul hv hR.2 hR.1 (by decide);have l6:=ae7 (aex hb.1) hR.1;have qf:=(Aq @hc (Aq @fK (Aq @hp @hv)));refine abQ [1,2,6,7,8,26] [] ?_;refine abP (by simp[hp,hv]) ?_;have qf:=(Aq @hc @fK);refine dN aQ [1,2,6,7,8] [] ?_;refine re0 ?_;(try simp only[aJ,aL]);refine aS.mk (k+1) (by omega) (by omega) ?_;rw[hgk];refine bJ
    .rw[if_neg (fun h=>hv h.2)]at hgk;have qf:=(Aq @hc (Aq @fK (Aq @hp @hv)));refine abQ [1,2,6,7,8,26] [] ?_;refine abN (by simp[hp,hv]) ?_;refine abO (aQ _ ?_);refine re0 ?_;(try simp only[aJ,aL]);refine aS.mk (k+1) (by omega) (by omega) ?_;rw[hgk];refine bJ
   .rw[if_neg (fun h=>hp h.1)]at hgk;have qf:=(Aq @hc (Aq @fK @hp));refine abQ [1,2,6,7,8,26] [] ?_;refine abN (by simp[hp]) ?_;refine abO (aQ _ ?_);refine re0 ?_;(try simp only[aJ,aL]);refine aS.mk (k+1) (by omega) (by omega) ?_;rw[hgk];refine bJ
  .have hke:k=RP.length:=by omega
   refine bx (ax _ ?_);rw[qI hke];clear hgk ke qI;by_cases h1:v > 4096
   .have qf:=@h1;refine abQ [1,2,6,9] [] ?_;have qf:=@h1;refine abQ [4,5] [] ?_;exact aN @h1
   .by_cases h2:(m:Int) > 6
    .have zj:6 < m:=by omega
     have zi:¬ m<=6:=by omega
     have qf:=(Aq @h1 (Aq @h2 @lh));refine dr hkd [1,2,6,9] [] ?_;have qf:=(Aq @h1 @h2);refine abQ [4,5] [] ?_;exact aN (Aq @h1 (Aq @h2 (Aq @zj @zi)))
    .have zj:m<=6:=by omega
     have zi:¬ 6 < m:=by omega
     have h4:((4:Int) < (m:Int))=(4 < m):=propext (by omega);by_cases h3:v > most
     .have qf:=(Aq @h1 (Aq @h2 @lh));refine dr hkd [1,2,6,9] [] ?_;have qf:=(Aq @h1 (Aq @h2 @h3));refine abQ [4,5] [] ?_;exact aN (Aq @h1 (Aq @h2 (Aq @h3 (Aq @zj @zi))))
     .have qf:=(Aq @h1 (Aq @h2 @lh));refine dr hkd [1,2,6,9] [] ?_;have qf:=(Aq @h1 (Aq @h2 (Aq @h3 @lh)));refine dr hkd [4,5] [] ?_;exact aN (Aq @h1 (Aq @h2 (Aq @h3 (Aq @zj (Aq @zi @h4)))))
theorem aaj (G:aq) (hM:adP G) (p:PgP) (aP:acg p=none) (hk:∀ r∈p.ao,lQ r) (aF:(ba p).length<=6) (hP:bp (bn p)<=4096):ar prog G 17 [cX p] (.aW [dMw p (bp (bn p)) ((2 ^ (ba p).length:Nat):Int) (nxD (abZ p)),.v (.bool true)]):=by
 have hg:=fq aP;have fj:=hg.names;have hkd:=Bv G p (by omega) 1;have kI:gD p.names 1 p.names.length=ba p:=rfl;rw[kI]at hkd;have nH:=Bc G hM p aP hk;have pS:=fun (nx:List (List D)) (n:Nat) (h1:(n:Int) < 4096)=>aat G hM p aP hk (bp (bn p)) ((2 ^ (ba p).length:Nat):Int) nx n (by omega) (by omega);have pJ:=fun (nx:List (List D)) (n:Nat) (h1:n < 64)=>aah G p aP (bp (bn p)) ((2 ^ (ba p).length:Nat):Int) nx n (by omega) (by omega) aF;have lz:=fun n:Nat=>UL aP (n:Int) (by omega);have sc:=fun (s:Nat) (i:Nat)=>Yn G p aP hk (stP p s) (vu aP s) (e6 i (ba p).length) (xz _ _) _ _ (lz s);have kH:=fun (s:Nat) (i:Nat)=>UN aP (vu aP s) (e6 i (ba p).length) (m:=((jW p s p.names.length).2.1,(jW p s p.names.length).2.2)) (lz s);have Dj:=fun (s:Nat) (i:Nat)=>(Cs aP (vu aP s) (e6 i (ba p).length)).1;have ab3:=fun (nx:List (List D)) (s i:Nat)=>aal G hM p aP hk (bp (bn p)) ((2 ^ (ba p).length:Nat):Int) nx (mz p (stP p s) (e6 i (ba p).length)) (Dj s i) hP _ _ (kH s i);have hpp:0 < bp (bn p):=kW fun x hx=>(kr hg hx).m2;have dB:=fun k (h:k < p.names.length)=>agM hg h;have DW:=fun k (h:k<=p.names.length)=>agu hg k h;have dt:=fun k (h:k<=p.names.length)=>VS hg h;have dL:jC p p.names.length=bp (bn p):=rfl;have zN:jC p 0=1:=rfl
 have df:(dT p).length=p.names.length:=by simp[dT]
 have pt:∀ i (hi:i < p.names.length),(dT p)[i]? = some (ch p p.names[i]):=fun i hi=>by simp[dT,hi]
 have CS:=fun i (hi:i < p.names.length)=>afz hg hi;have qV:=fun s (h:s < (abZ p).length)=>KC h;have hnl:=oL p;have hrt:=fun s i (h:i < 2 ^ (ba p).length)=>ahk (p:=p) (s:=s) h;have hrl:=fun s=>p4 p (ba p).length s
 have HS:2 ^ (ba p).length<=64:=by
  have:=adH (n:=2) (by omega) aF;omega
 simp only[oK,ab,vY,dBl]at pS pJ ab3 sc;simp only[cX,eu,bO,dMw,o7,dk]at hkd nH sc pS pJ ab3 qV ⊢;generalize abZ p=ni at *;generalize CZ:lJ p (ba p).length=BP at *;clear CZ;generalize dT p=RP at *;generalize jC p=PN at *
 have lh:((ba p).map fun x=>[D.v (.int .i64 x)]).length=(ba p).length:=by simp
 generalize ((ba p).map fun x=>[D.v (.int .i64 x)])=IN at *;generalize (ba p).length=m at *;generalize p.names.map cNm=NN at *;generalize p.ao.map cL=RR at *;refine ar.abS (al _) func17 rfl rfl (rs:=[.tmp 2,.tmp 3]) results17 (by simp[ntmps17]) fun X=>?_;simp only[ntmps17,List.map];have fw:=@afg;refine rgq fw [1] [1] ?_;refine acp fw 1 ?_;refine rgq fw [1,4] [12] ?_;refine af fun K1 ax=>?_
 have qK:¬ (IN.length:Int) > 6:=by omega
 have qf:=(Aq fw @qK);refine dr hkd [1,4,16] [12] ?_;refine abN (by simp<;>omega) ?_;refine abO (ax _ ?_);refine af fun K2 aa=>?_;refine aT fw hkd [1,4,19,20] [12] ?_;refine bQ (S:=Nat) (fun k=>k<=m) (fun k=>⟨aV [(1,.d (.ip [.sl none NN,.sl none RR])),(4,.ref 12 0 0),(19,int m),(20,int k)],ak [(12,.box 50 [.d (.sl none NN),.d (.sl none RR),int 1,int ((2 ^ k:Nat):Int),.d (.sl (some false) [])])]⟩) (fun k=>m - k) 0 ?_ (by omega) ?_
 .refine abW (Aq fw @lh)
 .intro k zJ;have HT:2 ^ k<=64:=aew (adH (by decide) zJ) HS;have HU:0 < 2 ^ k:=Nat.pow_pos (by decide)
  have CJ:((2 ^ (k+1):Nat):Int)=((2 ^ k:Nat):Int) * 2:=by rw[Nat.pow_succ];omega
  generalize uE:2 ^ k=w at HT HU CJ ⊢;refine rgq fw [1,4,19,20,21] [12] ?_;refine af fun K3 aQ=>?_;refine eh (b:=k < m) (by simp[D.le,D.le.go,aC,ab]) (fun hc=>?_) (fun hc=>?_)
  .refine abO (aQ _ ?_);refine af fun K4 bK=>?_;refine aR ?_;refine reK fw bK [1,4,19,20] [12] ?_;refine reQ fw ?_;(try simp only[aJ,aL]);refine aS.mk (k+1) (by omega) (by omega) ?_;rw[CJ];refine abW fw
  .obtain rfl:m=k:=by omega
   rw[<- uE];clear uE CJ HU HT;refine bx (aa _ ?_);refine af fun K5 bB=>?_;refine aT fw nH [1,4,31,32,33] [12] ?_;refine bQ (S:=Nat) (fun j=>j<=p.names.length) (fun j=>⟨aV [(1,.d (.ip [.sl none NN,.sl none RR])),(4,.ref 12 0 0),(31,.d (.sl none (RP.map fun x=>[.v (.int .i64 x)]))),(32,int RP.length),(33,int j)],ak [(12,.box 50 [.d (.sl none NN),.d (.sl none RR),int (PN j),int ((2 ^ m:Nat):Int),.d (.sl (some false) [])])]⟩) (fun j=>p.names.length - j) 0 ?_ (by omega) ?_
   .rw[zN];refine abW fw
   .intro j hj;have hq:=dB j;have hqp:=DW j hj;have SE:=dt j hj;have gO:=fun h:j < p.names.length=>dt (j+1) h;generalize hQ:PN j=Q at hq hqp SE ⊢;refine rgq fw [1,4,31,32,33,34] [12] ?_;refine af fun K6 cq=>?_;by_cases au:j < p.names.length
    .have mJ:j < RP.length:=by omega
     refine abP (by simp[mJ]) ?_;refine abO (cq _ ?_);refine af fun K7 de=>?_;refine aR ?_;have hq:=hq au;have gO:=gO au
     have Im:RP[j]=ch p p.names[j]:=by
      have:=pt j au;rw[By mJ]at this;exact AI this
     have mD:=CS j au;generalize ch p p.names[j]=K at hq Im mD;have qf:=(Aq fw (Aq @mJ @Im));refine abQ [1,4,6,31,32,33] [12] ?_;refine af fun K8 dz=>?_;by_cases hz:K=0
     .subst hz;rw[if_pos rfl]at hq;refine rgq fw [1,4,6,31,32,33,38] [12] ?_;refine abN rfl ?_
      have CY:¬ Q > 4096:=by omega
      refine abO (dz _ ?_);have qf:=(Aq fw @CY);refine abQ [1,4,31,32,33,51] [12] ?_;refine abN (by simp<;>omega) ?_;refine abO (de _ ?_);refine reQ fw ?_;(try simp only[aJ,aL]);refine aS.mk (j+1) (by omega) (by omega) ?_;rw[hq];refine abW fw
     .rw[if_neg hz]at hq
      have QA:K > 0:=by omega
      have hQ0:0<=Q * K:=ae7 (aex hqp) mD
      have CY:¬ Q * K > 4096:=by omega
      have qf:=(Aq fw @QA);refine abQ [1,4,6,31,32,33,38] [12] ?_;refine abP (by simp<;>omega) ?_;refine reK fw dz [1,4,31,32,33] [12] ?_;have qf:=(Aq fw @CY);refine abQ [1,4,31,32,33,51] [12] ?_;refine abN (by simp<;>omega) ?_;refine abO (de _ ?_);refine reQ fw ?_;(try simp only[aJ,aL]);refine aS.mk (j+1) (by omega) (by omega) ?_;rw[hq];refine abW fw
    .obtain rfl:j=p.names.length:=by omega
     rw[dL]at hQ;subst hQ;refine abN (by simp<;>omega) ?_;refine bx (bB _ ?_);refine af fun K9 hK9=>?_;obtain⟨S,hS⟩:∃ S:Nat,bp (bn p)=(S:Int):=acn (by omega);rw[hS]at hnl hP pS pJ ab3 ⊢;rw[abX]at hnl;refine rgq fw [1,4,56,57] [12] ?_;refine bQ (S:=Nat) (fun s=>s<=S) (fun s=>⟨aV [(1,.d (.ip [.sl none NN,.sl none RR])),(4,.ref 12 0 0),(56,int S),(57,int s)],ak [(12,.box 50 [.d (.sl none NN),.d (.sl none RR),int S,int ((2 ^ m:Nat):Int),.own 800 0 s]),(800,.sl 46 1 (nxD (ni.take s)))]⟩) (fun s=>S - s) 0 ?_ (by omega) ?_
     .refine (aB.nj 12 4 800 46 1 rfl rfl rfl).trans ?_;refine abW (Aq fw @nxD.eq_1)
     .intro s D2;have fZ:=qV s
      have fU:(nxD (ni.take s)).length=s:=by rw[s9,acz];omega
      have wB:s=S->nxD (ni.take s)=nxD ni:=fun e=>by rw[sh (by omega)]
      generalize nxD (ni.take s)=NX at fZ fU wB ⊢;refine rgq fw [1,4,56,57,58] [12,800] ?_;refine af fun K10 dy=>?_;refine eh (b:=s < S) (by simp[D.le,D.le.go,aC,ab]) (fun hc=>?_) (fun hc=>?_)
      .refine abO (dy _ ?_);refine af fun K11 j9=>?_;refine aR ?_;have xd:=fZ (by omega);have pT:=pS NX s (by omega);have DC:=pJ NX;have ur:=sc s;have uD:=fun i=>ab3 NX s i;have sC:=fun i h=>hrt s i h;have DZ:=hrl s;generalize stP p s=yg at ur uD sC;generalize jW p s p.names.length=ms at pT ur uD;generalize zw:BP s=RS at xd sC DZ;refine rgq fw [1,4,7,56,57] [12,800] ?_;refine rgq fw [1,4,7,8,56,57] [12,800] ?_;refine af fun K12 adR=>?_;refine rgq fw [1,4,7,8,56,57,63,64] [12,800] ?_;refine bQ (S:=Nat) (fun i=>i<=2 ^ m) (fun i=>⟨aV [(1,.d (.ip [.sl none NN,.sl none RR])),(4,.ref 12 0 0),(7,int s),(8,.own 902 0 i),(56,int S),(57,int s),(63,int ((2 ^ m:Nat):Int)),(64,int i)],ak [(12,.box 50 [.d (.sl none NN),.d (.sl none RR),int S,int ((2 ^ m:Nat):Int),.own 800 0 s]),(800,.sl 46 1 NX),(902,.sl 3 1 ((RS.take i).map fun x=>[.v (.int .i64 x)]))]⟩) (fun i=>2 ^ m - i) 0 ?_ (by omega) ?_
       .refine (aB.ky 8 902 3 1 rfl rfl).trans ?_;refine abW fw
       .intro i js;have xh:=sC i
        have acQ:((RS.take i).map fun x=>[D.v (.int .i64 x)]).length=i:=by simp;omega
        generalize gy:RS.take i=RI at xh acQ ⊢;refine rgq fw [1,4,7,8,56,57,63,64,65] [12,800,902] ?_;refine af fun j2 eZ=>?_;by_cases c6:i < 2 ^ m
        .have uw:(i:Int) < ((2 ^ m:Nat):Int):=by exact_mod_cast c6
         refine abP (by simpa using uw) ?_;refine abO (eZ _ ?_);refine af fun vJ po=>?_;refine aR ?_;have sA:=xh c6;have afF:=DC i (by omega);have pE:=ur i;have mN:=uD i;generalize u1 p yg (e6 i m) ms.2=md at pE mN;generalize mz p yg (e6 i m)=d1 at mN sA;generalize e6 i m=ib at afF pE;generalize eA (bn p) d1=v1 at mN sA;obtain⟨_,I1,C1⟩:=ms;obtain⟨I2,C2⟩:=md;dsimp only at pT pE mN;rw[fU]at pT afF mN;refine rgq fw [1,4,7,8,9,56,57,63,64] [12,800,902] ?_;refine Gx (al _) (by kernel_rfl) ([12]) ([]) ([5,8,10]) ([(2,.d (.ip [.sl none NN,.sl none RR]))]) (List.range 14) (by kernel_rfl) fun K' ae=>?_;(repeat (refine jF rfl fun K2 aa=>?_;simp[ab,acQ,sh];(repeat (refine⟨by omega,?_⟩));refine aa _ ?_;clear aa K2));refine jF rfl fun K2 aa=>?_;simp[ab,acQ,sh];refine pz.mc (pT) (by simp[ab,acQ,sh]) (by simp[ab,acQ,sh]) (by simp[ab,acQ,sh]) (by simp[ab,acQ,sh]) (by simp[ab,acQ,sh]) (by simp[ab,acQ,sh]) (by simp[gL,ab,acQ,sh]) ?_;simp[ab,acQ,sh];refine aa _ ?_;clear aa K2;(repeat (refine jF rfl fun K2 aa=>?_;simp[ab,acQ,sh];(repeat (refine⟨by omega,?_⟩));refine aa _ ?_;clear aa K2));refine jF rfl fun K2 aa=>?_;simp[ab,acQ,sh];refine pz.mc (afF) (by simp[ab,acQ,sh]) (by simp[ab,acQ,sh]) (by simp[ab,acQ,sh]) (by simp[ab,acQ,sh]) (by simp[ab,acQ,sh]) (by simp[ab,acQ,sh]) (by simp[gL,ab,acQ,sh]) ?_;simp[ab,acQ,sh];refine aa _ ?_;clear aa K2;(repeat (refine jF rfl fun K2 aa=>?_;simp[ab,acQ,sh];(repeat (refine⟨by omega,?_⟩));refine aa _ ?_;clear aa K2));refine jF rfl fun K2 aa=>?_;simp[ab,acQ,sh];refine aeT.mk (pE) (by simp;rfl) (by simp;rfl) (by first | exact D.abY _ | simp[aC,abU,abK,D.le,D.le.go,D.le_refl,D.abY,ab,acQ,sh]) (by simp) ?_;refine aa _ ?_;clear aa K2;simp only[aD,cz];(repeat (refine jF rfl fun K2 aa=>?_;simp[ab,acQ,sh];(repeat (refine⟨by omega,?_⟩));refine aa _ ?_;clear aa K2));refine jF rfl fun K2 aa=>?_;simp[ab,acQ,sh];refine pz.mc (mN) (by simp[ab,acQ,sh]) (by simp[ab,acQ,sh]) (by simp[ab,acQ,sh]) (by simp[ab,acQ,sh]) (by simp[ab,acQ,sh]) (by simp[ab,acQ,sh]) (by simp[gL,ab,acQ,sh]) ?_
         simp[ab,acQ,sh];refine aa _ ?_;clear aa K2;(repeat (refine jF rfl fun K2 aa=>?_;simp[ab,acQ,sh];(repeat (refine⟨by omega,?_⟩));refine aa _ ?_;clear aa K2));refine Mq (ae _ ?_);clear ae K';refine po _ (AW.norm [1,4,7,8,56,57,63,64] [12,800,902] (fun _ _=>trivial) (AW.st (by simp[ab,acQ,sh];rfl) ?_));refine reQ fw ?_;(try simp only[aJ,aL]);refine aS.mk (i+1) (by omega) (by omega) ?_;rw[sA];refine abW fw
        .obtain rfl:i=2 ^ m:=by omega
         have r7:RI=RS:=by rw[<- gy];exact sh (by omega)
         subst r7;refine abN (by simp) ?_;refine bx (adR _ ?_);refine AW.imp (aB.freeze 902 trivial) ?_;refine AW.st (by simp[ab,acQ,sh];rfl) ?_;refine cR (al _) fun K' ae=>?_;(repeat (refine sxn fun K2 aa=>?_;simp[ab,fU,sh];(repeat (refine⟨by omega,?_⟩));refine aa _ ?_;clear aa K2));refine sxz (ae _ ?_);clear ae K';refine j9 _ (AW.norm [1,4,56,57] [12,800] (fun _ _=>trivial) (AW.st (by simp[ab,fU,sh];rfl) ?_));refine reQ fw ?_;(try simp only[aJ,aL]);refine aS.mk (s+1) (by omega) (by omega) ?_;rw[xd];refine abW fw
      .obtain rfl:s=S:=by omega
       obtain rfl:=wB rfl;refine bx (hK9 _ ?_);refine AW.imp (aB.freeze 800 trivial) ?_;refine AW.st (by simp[ab,fU,sh];rfl) ?_;refine rgq fw [2,3] [12] ?_;exact aN (Aq fw @hS)
theorem Oj (G:aq) (hF:qe G) (hM:adP G) (hP:ae1 G) (hG:mo G) {es er:Value} (hE:o0 G es er) (hNW:vH G) (mH:vI G) (t:Tx):ar prog G 13 [dS t] (tN (afN t)):=by
 have hp:=Us G hM hP hG hE t;have hw:=Yl G hF hM hP hE hNW mH t;unfold afN;simp only[dS]at hp hw ⊢;by_cases hl:1500 < t.length
 .have eF:(1500:Int) < (t.length:Int):=by omega
  rw[if_pos hl];simp only[tN,Co,Cp];refine ar.abS (al _) func13 rfl rfl (rs:=[.cell 2 25,.cell 3 29,.tmp 4]) results13 (by simp[ntmps13]) fun X=>?_;simp only[ntmps13,List.map];refine ah [0,2,3] [2,3] ?_;refine af fun K1 ax=>?_;have qf:=(Aq @bl @eF);refine abQ [0,2,3,11] [2,3] ?_;refine abP (by simp[eF]) ?_;refine ah [2,3,4] [2,3] ?_;exact cZ
 .have eF:¬ (1500:Int) < (t.length:Int):=by omega
  rw[if_neg hl]
  cases dL:(gG t).1 with
  | none=>
   obtain⟨q,hq⟩:∃ q,gG t=(none,q):=⟨(gG t).2,by rw[<- dL]⟩;rw[hq]at hp hw ⊢;simp only[tN,bd,dPg,cPg,cX,eu,bO,dP,aci,codeF,bw,ab]at hp hw ⊢;generalize q.names.map cNm=NN at *;generalize q.ao.map cf=RR at *;generalize q.ao.map cL=RW at *;refine ar.abS (al _) func13 rfl rfl (rs:=[.cell 2 25,.cell 3 29,.tmp 4]) results13 (by simp[ntmps13]) fun X=>?_;simp only[ntmps13,List.map];refine ah [0,2,3] [2,3] ?_;refine af fun K1 ax=>?_;have qf:=(Aq @bl @eF);refine abQ [0,2,3,11] [2,3] ?_;refine abN (by simp<;>omega) ?_;refine abO (ax _ ?_);refine aT trivial hw [0,2,3,5,6] [2,3,5,6] ?_;refine dX 5 ?_;refine dX 6 ?_;refine af fun K2 aa=>?_;refine ah [0,2,3,5,21] [2,3] ?_;refine abN rfl ?_;refine abO (aa _ ?_);refine aT trivial hp [2,3,5,7] [2,3,7] ?_;refine dX 7 ?_;refine aet (al _) (by kernel_rfl) [(0,999),(1,999),(2,2),(3,3)] [2,3,4] [2,3] (fun _ _=>trivial) (by kernel_rfl) fun K' ae=>?_;(repeat (refine gl fun K2 aa=>?_;simp;(repeat (refine⟨by omega,?_⟩));refine aa _ ?_;clear aa K2));refine adw (ae _ ?_);refine AW.st (by simp;rfl) ?_;clear ae K';exact cZ
  | some e=>
   have h2:=VG dL
   have hq:gG t=(some e,⟨[],[]⟩):=by rw[<- dL,<- h2]
   rw[hq]at hw ⊢;obtain⟨c,o⟩:=e;have cm:=VF dL;simp only[tN,Co,Cp,aci,codeF,ab]at hw ⊢;generalize bw (some (c,o))=pl at hw;refine ar.abS (al _) func13 rfl rfl (rs:=[.cell 2 25,.cell 3 29,.tmp 4]) results13 (by simp[ntmps13]) fun X=>?_;simp only[ntmps13,List.map];refine ah [0,2,3] [2,3] ?_;refine af fun K1 ax=>?_;have qf:=(Aq @bl @eF);refine abQ [0,2,3,11] [2,3] ?_;refine abN (by simp<;>omega) ?_;refine abO (ax _ ?_);refine aT trivial hw [0,2,3,5,6] [2,3,5,6] ?_;refine dX 5 ?_;refine dX 6 ?_;refine af fun K2 aa=>?_;refine ah [0,2,3,5,21] [2,3] ?_;refine abP (by simp[cm]) ?_;refine ah [2,3,4] [2,3] ?_;exact cZ
theorem ZA {l l':List Bool} {n:Nat} (ht:l.take n=l'.take n) (h:n < l.length) (h':n < l'.length) (he:l[n]=l'[n]):l.take (n+1)=l'.take (n+1):=by
 rw[abR h,abR h',ht,he]
theorem Zz {l l':List Bool} (hl:l.length=l'.length) (ht:l.take l.length=l'.take l.length):l=l':=by
 rw[ac0,hl,ac0]at ht;exact ht
theorem Gp (G:aq) (l l':List Bool) (h:l.length < 2^63):ar prog G 26 [dBl l,dBl l'] (.v (.bool (l == l'))):=by
 refine ar.abS (al _) func26 rfl rfl (rs:=[.tmp 4]) results26 (by simp[ntmps26]) fun X=>?_;simp only[ntmps26,List.map];have fw:=@afg;refine rgq fw [0,1] [] ?_;refine af fun K1 ax=>?_;refine rgq (Aq fw @dBl.eq_1) [0,1,10] [] ?_;refine eh (b:=l.length≠l'.length) (by simp[D.le,D.le.go,aC,ab]) (fun hc=>?_) (fun hc=>?_)
 .refine rgq fw [4] [] ?_;refine ab1 ?_;simp[D.le,D.le.go,aC,ab];intro e;subst e;simp at hc
 .refine abO (ax _ ?_)
  have hl:l.length=l'.length:=by simpa using hc
  refine af fun K2 aa=>?_;refine rgq (Aq fw @dBl.eq_1) [0,1,5] [] ?_;refine bQ (S:=Nat) (fun n=>n<=l.length/\l.take n=l'.take n) (fun n=>⟨aV [(0,.d (dBl l)),(1,.d (dBl l')),(5,int n)],ak []⟩) (fun n=>l.length - n) 0 ?_ (by simp) ?_
  .refine abW (Aq fw @dBl.eq_1)
  .rintro n ⟨hn,ht⟩;refine af fun K3 aQ=>?_;refine rgq (Aq fw @dBl.eq_1) [0,1,5,14] [] ?_;refine eh (b:=n < l.length) (by simp[D.le,D.le.go,aC,ab]) (fun hc=>?_) (fun hc=>?_)
   .refine abO (aQ _ ?_);refine af fun K4 bK=>?_;refine aR ?_;have hnl:n < l.length:=hc
    have mM:n < l'.length:=by omega
    cases he:(l[n] == l'[n]) with
    | false=>
     have qf:=(Aq fw (Aq @dBl.eq_1 (Aq @hnl (Aq @mM @he))));refine fQ [0,1,5,25] [] ?_;refine abP rfl ?_;refine rgq fw [4] [] ?_;refine ab1 ?_;simp[D.le,D.le.go,aC,ab];intro e;subst e;simp at he
    | true=>
     have he2:l[n]=l'[n]:=by simpa using he
     have qf:=(Aq fw (Aq @dBl.eq_1 (Aq @hnl (Aq @mM @he2))));refine fQ [0,1,5,25] [] ?_;refine abN rfl ?_;refine abO ?_;refine bK _ (AW.norm [0,1,5] [] (fun _ _=>trivial) (AW.st (by simp[ab];rfl) ?_));refine reQ fw ?_;(try simp only[aJ,aL]);refine aS.mk (n+1) ⟨by omega,ZA ht hnl mM he2⟩ (by omega) ?_;refine abW (Aq fw @dBl.eq_1)
   .refine bx (aa _ ?_);refine rgq fw [4] [] ?_;refine ab1 ?_;simp[D.le,D.le.go,aC,ab]
    have ov:n=l.length:=by omega
    subst ov;exact Zz hl ht
def nT (p:PgP):Nat:=2 ^ (ba p).length
def lf (p:PgP):D:=pc p (bp (bn p)) ((nT p:Nat):Int) (nxD (abZ p))
theorem x7 {p:PgP} (h:kX p=false):bp (bn p)<=4096/\(ba p).length<=6:=by
 unfold kX at h;simp at h;exact h
theorem UU {p:PgP} {most:Int} (h:kX p=false) (h2:afk p most=false):bp (bn p)<=most/\(ba p).length<=4:=by
 unfold afk at h2;rw[h]at h2;simp at h2;exact h2
def ae4 (p:PgP):D:=dMw p (bp (bn p)) ((nT p:Nat):Int) (nxD (abZ p))
def xF (t:Tx) (most:Int):Option PgP:=match afN t with
 | some p=>if kX p || afk p most then none else some p
 | none=>none
def rQ:Option PgP->D
 | none=>.aW [.v (.pointer none),.v (.pointer none),.v (.bool false)]
 | some p=>.aW [lf p,ae4 p,.v (.bool true)]
theorem Ux {t:Tx} {most:Int} {p:PgP} (h:xF t most=some p):acg p=none/\(∀ r∈p.ao,lQ r)/\(ba p).length<=4/\bp (bn p)<=4096/\bp (bn p)<=most:=by
 unfold xF at h
 cases lz:afN t with
 | none=>rw[lz]at h;cases h
 | some q=>
  rw[lz]at h;dsimp only at h
  cases h1:kX q with
  | true=>rw[h1]at h;cases h
  | false=>
   cases h2:afk q most with
   | true=>rw[h1,h2]at h;cases h
   | false=>
    rw[h1,h2]at h;obtain rfl:=AI h;obtain⟨c1,c2⟩:=KX (Lj lz);have h3:=UU h1 h2;exact⟨c1,c2,h3.2,(x7 h1).1,h3.1⟩
theorem Uy (G:aq) (hF:qe G) (hM:adP G) (hP:ae1 G) (hG:mo G) {es er:Value} (hE:o0 G es er) (hNW:vH G) (mH:vI G) (t:Tx) (most:Int):ar prog G 19 [dS t,ab most] (rQ (xF t most)):=by
 have hb:=Oj G hF hM hP hG hE hNW mH t;unfold xF
 cases lz:afN t with
 | none=>
  rw[lz]at hb;simp only[tN,Co,Cp,dS]at hb;simp only[dS,ab,rQ];refine ar.abS (al _) func19 rfl rfl (rs:=[.tmp 4,.tmp 5,.tmp 6]) results19 (by simp[ntmps19]) fun X=>?_;simp only[ntmps19,List.map];have fw:=@afg;refine rgq fw [0,1] [] ?_;refine aT fw hb [1,7,8,9] [7,8] ?_;refine af fun K1 ax=>?_;refine rgq fw [1,7,8,23] [7,8] ?_;refine abP rfl ?_;refine rgq fw [4,5,6] [] ?_;exact aN fw
 | some p=>
  rw[lz]at hb;obtain⟨aP,hk⟩:=KX (Lj lz);have hgr:=Qa G hM p aP hk most;have jq:=fun (h:kX p=false)=>UJ G p aP hk (x7 h).2 (x7 h).1;have kf:=fun (h:kX p=false)=>aaj G hM p aP hk (x7 h).2 (x7 h).1;dsimp only;simp only[tN,dPg,cPg,cX,eu,bO,dP,dS,ab]at hb hgr;simp only[dPg,cPg,cX,eu,bO,dP,pc,qk,dMw,o7,lX,dk]at jq kf;simp only[dS,ab]
  cases h1:kX p with
  | true=>
   rw[h1]at hgr;simp only[Bool.true_or,if_true,rQ];generalize afk p most=mu at *;generalize p.names.map cNm=NN at *;generalize p.ao.map cf=RR at *;generalize p.ao.map cL=RW at *;refine ar.abS (al _) func19 rfl rfl (rs:=[.tmp 4,.tmp 5,.tmp 6]) results19 (by simp[ntmps19]) fun X=>?_;simp only[ntmps19,List.map];have fw:=@afg;refine rgq fw [0,1] [] ?_;refine aT fw hb [1,7,8,9] [7,8] ?_;refine af fun K1 ax=>?_;refine rgq fw [1,7,8,23] [7,8] ?_;refine abN rfl ?_;refine abO (ax _ ?_);refine acp fw 7 ?_;refine acp fw 8 ?_;refine aT fw hgr [7,8,10,11] [] ?_;refine af fun K2 aa=>?_;refine rgq fw [7,8,33] [] ?_;refine abP rfl ?_;refine rgq fw [4,5,6] [] ?_;exact aN fw
  | false=>
   rw[h1]at hgr
   cases h2:afk p most with
   | true=>
    rw[h2]at hgr;simp only[Bool.or_true,if_true,rQ];generalize p.names.map cNm=NN at *;generalize p.ao.map cf=RR at *;generalize p.ao.map cL=RW at *;refine ar.abS (al _) func19 rfl rfl (rs:=[.tmp 4,.tmp 5,.tmp 6]) results19 (by simp[ntmps19]) fun X=>?_;simp only[ntmps19,List.map];have fw:=@afg;refine rgq fw [0,1] [] ?_;refine aT fw hb [1,7,8,9] [7,8] ?_;refine af fun K1 ax=>?_;refine rgq fw [1,7,8,23] [7,8] ?_;refine abN rfl ?_;refine abO (ax _ ?_);refine acp fw 7 ?_;refine acp fw 8 ?_;refine aT fw hgr [7,8,10,11] [] ?_;refine af fun K2 aa=>?_;refine rgq fw [7,8,33] [] ?_;refine abP rfl ?_;refine rgq fw [4,5,6] [] ?_;exact aN fw
   | false=>
    rw[h2]at hgr;have jq:=jq h1;have kf:=kf h1;simp only[Bool.or_false,abT,if_false,rQ,lf,ae4,pc,qk,dMw,o7,lX,dk,bO,dP,nT];generalize nxD (abZ p)=NX at *;generalize bp (bn p)=S at *;generalize ((2 ^ (ba p).length:Nat):Int)=NI at *;generalize ((ba p).map fun n=>[D.v (.int .i64 n)])=IN at *;generalize (bn p).map cPa=PT at *;generalize p.names.map cNm=NN at *;generalize p.ao.map cf=RR at *;generalize p.ao.map cL=RW at *;refine ar.abS (al _) func19 rfl rfl (rs:=[.tmp 4,.tmp 5,.tmp 6]) results19 (by simp[ntmps19]) fun X=>?_;simp only[ntmps19,List.map];have fw:=@afg;refine rgq fw [0,1] [] ?_;refine aT fw hb [1,7,8,9] [7,8] ?_;refine af fun K1 ax=>?_;refine rgq fw [1,7,8,23] [7,8] ?_;refine abN rfl ?_;refine abO (ax _ ?_);refine acp fw 7 ?_;refine acp fw 8 ?_;refine aT fw hgr [7,8,10,11] [] ?_;refine af fun K2 aa=>?_;refine rgq fw [7,8,33] [] ?_;refine abN rfl ?_;refine abO (aa _ ?_);refine aT fw jq [8,12] [] ?_;refine aT fw kf [12,14] [] ?_;refine rgq fw [4,5,6] [] ?_;exact aN fw
