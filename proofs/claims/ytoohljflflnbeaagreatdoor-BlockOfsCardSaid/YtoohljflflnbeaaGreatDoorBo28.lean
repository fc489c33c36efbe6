/- Parts. -/
import Derived.Test.YtoohljflflnbeaaGreatDoorBo23
import Derived.Lib.SplitLaws
import Derived.Lib.FieldsP
import Derived.Lib.SpaceUEq
import Derived.Lib.TrimByte
import Derived.Lib.CutLaws
set_option linter.unusedSimpArgs false
set_option linter.unusedVariables false
namespace Go.Proofs.YtoohljflflnbeaaGreatDoor
open Go.Av
def kI (c:UInt8):Tx->Tx->List Tx
 | cur,[]=>[cur]
 | cur,x :: l=>if x=c then cur :: kI c [] l else kI c (cur ++ [x]) l
def eV (c:UInt8) (t:Tx):List Tx:=kI c [] t
def jN (c:UInt8):Tx->Tx->List Tx
 | cur,[]=>if cur=[] then [] else [cur]
 | cur,x :: l=>if x=c then (if cur=[] then jN c [] l else cur :: jN c [] l) else jN c (cur ++ [x]) l
def iw (t:Tx):List Tx:=jN 32 [] t
theorem F6 (c:UInt8):∀ (l cur:Tx),(kI c cur l).filter (fun w=>decide (w≠[]))=jN c cur l
 | [],cur=>by
  unfold kI jN;by_cases h:cur=[]<;>simp[h]
 | x :: l,cur=>by
  unfold kI jN;split
  .rw[List.filter_cons,F6 c l []];by_cases h:cur=[]<;>simp[h]
  .exact F6 c l _
theorem GL {c:UInt8}:∀ (l cur:Tx),kI c cur l≠[]
 | [],cur=>by unfold kI;simp
 | x :: l,cur=>by
  unfold kI;split
  .simp
  .exact GL l _
theorem L7 {c:UInt8}:∀ (l cur:Tx),c ∉ l->kI c cur l=[cur ++ l]
 | [],cur,_=>by simp[kI]
 | x :: l,cur,h=>by
  have hx:x≠c:=fun e=>h (by simp[e]);unfold kI;rw[if_neg hx,L7 l _ (fun e=>h (by simp[e]))];simp
theorem L8 {c:UInt8}:∀ (l cur r:Tx),c ∉ l->kI c cur (l ++ c :: r)=(cur ++ l) :: kI c [] r
 | [],cur,r,_=>by simp[kI]
 | x :: l,cur,r,h=>by
  have hx:x≠c:=fun e=>h (by simp[e]);rw[ahR,kI,if_neg hx,L8 l _ r (fun e=>h (by simp[e]))];simp
theorem L9 {c:UInt8} {t:Tx} (h:c ∉ t):eV c t=[t]:=by unfold eV;rw[L7 t [] h];rfl
theorem Ma {c:UInt8} {a b:Tx} (h:c ∉ a):eV c (a ++ c :: b)=a :: eV c b:=by unfold eV;rw[L8 a [] b h];rfl
theorem Ld {c:UInt8}:∀ (x cur l:Tx),c ∉ x->jN c cur (x ++ l)=jN c (cur ++ x) l
 | [],cur,l,_=>ak
 | y :: x,cur,l,h=>by
  have hy:y≠c:=fun e=>h (by simp[e]);rw[ahR]
  conv=>lhs;unfold jN
  rw[if_neg hy,Ld x _ l (fun e=>h (by simp[e]))];simp
theorem EL {c:UInt8}:∀ {t:Tx},c ∉ t->Lib.index t [c] = -1
 | [],_=>rfl
 | x :: t,h=>by
  have hx:x≠c:=fun e=>h (by simp[e]);unfold Lib.index;rw[EL (t:=t) (fun e=>h (by simp[e]))];simp[List.isPrefixOf,ahD hx]
theorem B6 {c:UInt8}:∀ {a:Tx} (b:Tx),c ∉ a->Lib.index (a ++ c :: b) [c]=(a.length:Int)
 | [],b,_=>by
  rw[ahP];unfold Lib.index;simp[List.isPrefixOf]
 | x :: a,b,h=>by
  have hx:x≠c:=fun e=>h (by simp[e]);rw[ahR];unfold Lib.index;rw[B6 (a:=a) b (fun e=>h (by simp[e]))]
  have h1:((a.length:Int) == -1)=false:=by rw[beq_eq_false_iff_ne];omega
  simp[List.isPrefixOf,ahD hx,h1]
theorem adV (c:UInt8):∀ (n:Nat) (t:Tx),t.length<=n->Lib.splitK [c] 0 (t.count c) t=eV c t:=by
 intro n
 induction n with
 | zero=>
  intro t h;obtain rfl:t=[]:=ahV.1 aa;rfl
 | succ n ih=>
  intro t h;by_cases hc:c∈t
  .obtain⟨a,b,rfl,ha⟩:=ahj hc
   have Yl:(a ++ c :: b).count c=b.count c+1:=by
    rw[List.count_append,List.count_eq_zero.2 ha,List.count_cons];simp
   rw[Yl,Lib.splitK,B6 b ha,Ma ha]
   have h1:((a.length:Int) == -1)=false:=by rw[beq_eq_false_iff_ne];omega
   have hb:b.length<=n:=by simp at h;omega
   simp[h1,ih b hb]
  .rw[List.count_eq_zero.2 hc,L9 hc];rfl
theorem Rz (c:UInt8) (t:Tx):(Lib.splitB (bs [c]) 0 (Lib.countB (bs t) (bs [c])) (bs t)).map (fun x=>x.data.toList)=eV c t:=by
 rw[Lib.splitB_data,dk,dk]
 have:Lib.countB (bs t) (bs [c])=t.count c:=by
  show Lib.count (bs t).data.toList (bs [c]).data.toList=_;rw[dk,dk,Lib.count_one]
 rw[this];exact adV c _ t (agD _)
theorem adY (c:UInt8) (t:Tx):Lib.countB (bs t) (bs [c])+1=(eV c t).length:=by
 rw[<- Rz,ag5,Lib.splitB_all (bs [c]) (by rw[bQ];simp) 0 _ (bs t) rfl]
def cutAt (c:UInt8) (t:Tx):Tx×Tx:=(t.takeWhile (fun x=>!decide (x=c)),(t.dropWhile (fun x=>!decide (x=c))).drop 1)
theorem yx {c:UInt8} {a b:Tx} (h:c ∉ a):cutAt c (a ++ c :: b)=(a,b):=by
 unfold cutAt
 have h1:∀ x∈a,(!decide (x=c))=true:=fun x hx=>by
  have:x≠c:=fun e=>h (e ▸ hx);simp[this]
 rw[List.takeWhile_append_of_pos h1,List.dropWhile_append_of_pos h1];simp
theorem V0 {c:UInt8} {t:Tx} (h:c∈t):t=(cutAt c t).1 ++ c :: (cutAt c t).2/\c ∉ (cutAt c t).1:=by
 obtain⟨a,b,rfl,ha⟩:=ahj h;rw[yx ha];exact⟨rfl,ha⟩
theorem V1 (c:UInt8) (t:Tx):Lib.cut t [c]=if c∈t then ((cutAt c t).1,(cutAt c t).2,true) else (t,[],false):=by
 split
 .rename_i h;obtain⟨a,b,rfl,ha⟩:=ahj h;rw[yx ha];unfold Lib.cut;rw[B6 b ha,if_pos aa];simp
 .rename_i h;unfold Lib.cut;rw[EL h];simp
def qL (r:Nat):Bool:=decide (r=32)
theorem VU (s:ByteArray) (pos:Nat) (aG:pos < s.size) (h:qL (Utf8.decode s pos).1=false):(32:UInt8) ∉ (s.data.toList.drop pos).take (Utf8.decode s pos).2:=by
 intro hm;obtain⟨j,hj,he⟩:=agG.1 hm;rw[agM,agX]at hj;rw[List.getElem_take,List.getElem_drop]at he
 have hg:s.data.toList.getD (pos+j) 0=32:=by rw[agw,By aa,he];rfl
 have hw:Utf8.decode s pos=_:=Lib.decode_N s pos
 have hc:=Lib.decodeN_conts (s.data.toList.length - pos) (s.data.toList.getD pos 0).toNat (s.data.toList.getD (pos+1) 0).toNat (s.data.toList.getD (pos+2) 0).toNat (s.data.toList.getD (pos+3) 0).toNat
 rw[<- hw]at hc;obtain⟨c1,c2,c3,c4⟩:=hc
 have pj:j < (Utf8.decode s pos).2:=aa
 have js:(32:UInt8).toNat=32:=rfl
 rcases ahH j 1 with p4 | p4
 .obtain rfl:j=0:=aa
  rw[ahB]at hg;rw[hg,js,Lib.decodeN_ascii _ _ _ _ _ aa]at hw;rw[hw]at h;simp[qL]at h
 .obtain rfl | rfl | rfl:j=1\/j=2\/j=3:=aa
  .have:=(c1 aa).1;rw[hg,js]at this;omega
  .have:=(c2 aa).1;rw[hg,js]at this;omega
  .have:=(c3 aa).1;rw[hg,js]at this;omega
theorem TN (s:ByteArray) (pos:Nat) (aG:pos < s.size) (h:qL (Utf8.decode s pos).1=true):(Utf8.decode s pos).2=1/\s.data.toList.drop pos=32 :: s.data.toList.drop (pos+1):=by
 have hl:pos < s.data.toList.length:=by rw[<- Lib.size_eq];exact aG
 have hw:Utf8.decode s pos=_:=Lib.decode_N s pos
 have hg:s.data.toList.getD pos 0=s.data.toList[pos]:=by rw[agw,By hl];rfl
 have js:(Utf8.decode s pos).1=32:=by simpa[qL]using h
 rcases Lib.decodeN_cases (s.data.toList.length - pos) (s.data.toList.getD pos 0).toNat (s.data.toList.getD (pos+1) 0).toNat (s.data.toList.getD (pos+2) 0).toNat (s.data.toList.getD (pos+3) 0).toNat with⟨c,e⟩ | ⟨c1,c2,c3,cv,e⟩ | ⟨c1,c2,c3,c4,cv,e⟩ | ⟨c,e⟩ | e
 .rw[e]at hw;rw[hw]at js ⊢;refine⟨rfl,?_⟩;dsimp only at js;rw[agR hl,<- hg];have:s.data.toList.getD pos 0=32:=UInt8.toNat.inj (by rw[js];rfl);rw[this]
 .rw[hw,e]at js;dsimp only at js;omega
 .rw[hw,e]at js;dsimp only at js;omega
 .rw[hw]at js;omega
 .rw[hw,e]at js;dsimp only at js;omega
theorem CN (s:ByteArray):∀ (f pos:Nat) (st:Option Nat) (acc:List (Nat×Nat)),s.size<=pos+f->pos<=s.size->(∀ a,st=some a->a < pos)->
  acc.map (fun p=>Lib.pieceU s.data.toList p.1 p.2) ++ jN 32 (Lib.openPiece s.data.toList st pos) (s.data.toList.drop pos)=(Lib.closeSpans s (Lib.spansFromP qL s f pos st acc)).map (fun p=>Lib.pieceU s.data.toList p.1 p.2)
 | 0,pos,st,acc,h,hp,dP=>by
  obtain rfl:pos=s.size:=aa
  have hd:s.data.toList.drop s.size=[]:=ahe (by rw[<- Lib.size_eq];exact agD _);rw[hd,jN]
  cases st with
  | none=>simp[Lib.spansFromP,Lib.closeSpans,Lib.openPiece]
  | some a=>
   have:=Lib.pieceU_ne s.data.toList a s.size (dP a rfl) (by rw[<- Lib.size_eq];exact agD _);simp[Lib.spansFromP,Lib.closeSpans,Lib.openPiece,this]
 | f+1,pos,st,acc,h,hp,dP=>by
  by_cases aG:pos < s.size
  .have hw:=Lib.width_pos s pos
   have rF:pos+(Utf8.decode s pos).2<=s.size:=by
    have:=Lib.decodeN_le_n' (s.size - pos) (s.get! pos).toNat (s.get! (pos+1)).toNat (s.get! (pos+2)).toNat (s.get! (pos+3)).toNat aa;rw[<- Lib.decode_at]at this;omega
   simp only[Lib.spansFromP,if_pos aG]
   cases ub:qL (Utf8.decode s pos).1 with
   | true=>
    obtain⟨h1,h2⟩:=TN s pos aG ub;rw[h1];simp only[if_true];rw[h2]
    cases st with
    | none=>
     have ih:=CN s f (pos+1) none acc aa aa (fun a h=>by cases h);simpa[Lib.openPiece,jN]using ih
    | some a=>
     have Iu:=Lib.pieceU_ne s.data.toList a pos (dP a rfl) (by rw[<- Lib.size_eq];omega);have ih:=CN s f (pos+1) none (acc ++ [(a,pos)]) aa aa (fun a h=>by cases h);simpa[Lib.openPiece,Iu,jN]using ih
   | false=>
    have hf:=VU s pos aG ub;simp only[agE,if_false]
    have Om:s.data.toList.drop pos=(s.data.toList.drop pos).take (Utf8.decode s pos).2 ++ s.data.toList.drop (pos+(Utf8.decode s pos).2):=by
     rw[<- List.drop_drop,ah6]
    cases st with
    | none=>
     have ih:=CN s f (pos+(Utf8.decode s pos).2) (some pos) acc aa rF (fun a h=>by cases h;omega)
     have e:([]:Tx) ++ (s.data.toList.drop pos).take (Utf8.decode s pos).2=Lib.pieceU s.data.toList pos (pos+(Utf8.decode s pos).2):=by
      unfold Lib.pieceU;rw[ahP,Nat.add_sub_cancel_left]
     simp only[Lib.openPiece]at ih ⊢;rw[Om,Ld _ _ _ hf,e];exact ih
    | some a=>
     have ih:=CN s f (pos+(Utf8.decode s pos).2) (some a) acc aa rF (fun b h=>by cases h;have:=dP a rfl;omega);simp only[Lib.openPiece]at ih ⊢;rw[Om,Ld _ _ _ hf,Lib.pieceU_grow _ _ _ _ (by have:=dP a rfl;omega)];exact ih
  .have hd:s.data.toList.drop pos=[]:=ahe (by rw[<- Lib.size_eq];omega)
   obtain rfl:pos=s.size:=aa
   rw[Lib.spansFromP_end _ _ _ _ _ _ aG,hd,jN]
   cases st with
   | none=>simp[Lib.closeSpans,Lib.openPiece]
   | some a=>
    have:=Lib.pieceU_ne s.data.toList a s.size (dP a rfl) (by rw[<- Lib.size_eq];exact agD _);simp[Lib.closeSpans,Lib.openPiece,this]
theorem WO (s:ByteArray) (a b:Nat):(s.extract a b).data.toList=Lib.pieceU s.data.toList a b:=by
 rw[Lib.extract_data];unfold Lib.pieceU;first | rfl | simp[List.take_drop]
theorem Mz (t:Tx):(Lib.goFieldsP qL (bs t)).map (fun x=>x.data.toList)=iw t:=by
 have h:=CN (bs t) (bs t).size 0 none [] aa aa (fun a h=>by cases h);simp only[Lib.openPiece,aia,ahP,List.drop_zero,dk]at h;unfold Lib.goFieldsP Lib.spansOfP iw;rw[agF,h];refine List.map_congr_left fun p _=>?_;show ((bs t).extract p.1 p.2).data.toList=_;rw[WO,dk]
theorem Pq {x:UInt8}:∀ {l:Tx},x∈l.takeWhile (fun x=>x == 32)->x=32
 | y :: l,h=>by
  rw[ah0]at h;split at h
  .rename_i hy
   rcases agK.1 h with rfl | h
   .simpa using hy
   .exact Pq h
  .cases h
theorem aez {t:Tx} (h:Lib.trimB t 32=[]):∀ x∈t,x=32:=by
 have h0:∀ (l:Tx),l.dropWhile (fun x=>x == 32)=[]->∀ x∈l,x=32:=fun l hl x hx=>by
  have:=(dropWhile_nil (p:=fun x:UInt8=>x == 32)).1 hl x hx;simpa using this
 unfold Lib.trimB Lib.trimLeftB Lib.trimRightB at h;have h1:=h0 _ h;intro x hx;by_cases hm:x∈t.reverse.dropWhile (fun x=>x == 32)
 .exact h1 x (by simpa using hm)
 .have h2:=List.takeWhile_append_dropWhile (p:=fun x:UInt8=>x == 32) (l:=t.reverse)
  have h3:x∈t.reverse.takeWhile (fun x=>x == 32):=by
   have:x∈t.reverse:=by simpa using hx
   rw[<- h2,agN]at this;exact this.resolve_right hm
  exact Pq h3
theorem Sl {c:UInt8}:∀ (l cur:Tx),cur≠[]->jN c cur l≠[]
 | [],cur,h=>by unfold jN;simp[h]
 | x :: l,cur,h=>by
  unfold jN;split
  .simp[h]
  .exact Sl l _ ak
theorem Sm:∀ (t:Tx),iw t=[]↔∀ x∈t,x=32
 | []=>by simp[iw,jN]
 | x :: t=>by
  have ih:=Sm t;unfold iw at ih ⊢;unfold jN;by_cases hx:x=32
  .simp only[hx,if_true];rw[ih];simp
  .rw[if_neg hx];refine⟨fun h=>absurd h (Sl _ _ ak),fun h=>absurd (h x ak) hx⟩
theorem aeB (t:Tx):Lib.trimB t 32=[]↔iw t=[]:=by
 rw[Sm];refine⟨aez,fun h=>?_⟩
 have h1:t.reverse.dropWhile (fun x=>x == 32)=[]:=(dropWhile_nil (p:=fun x:UInt8=>x == 32)).2 fun x hx=>by
  have:=h x (by simpa using hx);simp[this]
 unfold Lib.trimB Lib.trimRightB Lib.trimLeftB;rw[h1];rfl
theorem Ga {c:UInt8}:∀ (l cur:Tx),∀ w∈jN c cur l,w≠[]/\w.length<=cur.length+l.length
 | [],cur,w,h=>by
  unfold jN at h;split at h
  .cases h
  .rename_i hc
   obtain rfl:w=cur:=by simpa using h
   exact⟨hc,ak⟩
 | x :: l,cur,w,h=>by
  unfold jN at h;split at h
  .split at h
   .have:=Ga l [] w h;simp at this ⊢;exact⟨this.1,aa⟩
   .rename_i hc
    rcases agK.1 h with rfl | h
    .exact⟨hc,ak⟩
    .have:=Ga l [] w h;simp at this ⊢;exact⟨this.1,aa⟩
  .have:=Ga l (cur ++ [x]) w h;simp at this ⊢;exact⟨this.1,aa⟩
theorem F9 {t w:Tx} (h:w∈iw t):w≠[]/\w.length<=t.length:=by
 have:=Ga t [] w h;simpa using this
theorem F7 {c:UInt8}:∀ (l cur:Tx),(jN c cur l).length<=l.length+1
 | [],cur=>by unfold jN;split<;>simp
 | x :: l,cur=>by
  unfold jN;split
  .split
   .have:=F7 (c:=c) l [];simp;omega
   .have:=F7 (c:=c) l [];simp;omega
  .have:=F7 (c:=c) l (cur ++ [x]);simp;omega
theorem F8 (t:Tx):(iw t).length<=t.length+1:=F7 t []
theorem GK {c:UInt8}:∀ (l cur:Tx),(kI c cur l).length<=l.length+1
 | [],cur=>by simp[kI]
 | x :: l,cur=>by
  unfold kI;split
  .have:=GK (c:=c) l [];simp;omega
  .have:=GK (c:=c) l (cur ++ [x]);simp;omega
theorem Dx (c:UInt8) (t:Tx):(eV c t).length<=t.length+1:=GK t []
def jC (l:List Tx) (k:Nat):Nat:=((l.take k).map fun s=>s.length+1).sum
theorem acm (l:List Tx):jC l 0=0:=rfl
theorem J6 {l:List Tx} {k:Nat} (h:k < l.length):jC l (k+1)=jC l k+l[k].length+1:=by
 unfold jC;rw[agB h,agV,List.sum_append];simp;omega
theorem GM {c:UInt8}:∀ (l cur:Tx),((kI c cur l).map fun s=>s.length+1).sum=cur.length+l.length+1
 | [],cur=>by simp[kI]
 | x :: l,cur=>by
  unfold kI;split
  .rw[agW,List.sum_cons,GM l []];simp;omega
  .rw[GM l (cur ++ [x])];simp;omega
theorem ad4 (l:List Nat) (k:Nat):(l.take k).sum<=l.sum:=by
 have h:=ah6 k l;have:=congrArg List.sum h;rw[List.sum_append]at this;omega
theorem ack (c:UInt8) (t:Tx) (k:Nat):jC (eV c t) k<=t.length+1:=by
 have h:=GM (c:=c) t [];unfold jC eV;rw[List.map_take];have:=ad4 ((kI c [] t).map fun s=>s.length+1) k;simp at h;omega
theorem J5 {c:UInt8} {t:Tx} {k:Nat} (h:k < (eV c t).length):jC (eV c t) k+((eV c t)[k]).length<=t.length:=by
 have h1:=J6 h;have h2:=ack c t (k+1);omega
