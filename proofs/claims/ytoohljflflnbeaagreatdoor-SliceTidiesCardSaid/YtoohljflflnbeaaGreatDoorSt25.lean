/- Parts. -/
import Derived.Test.YtoohljflflnbeaaGreatDoorSt24
import Derived.Lib.SplitLaws
import Derived.Lib.FieldsP
import Derived.Lib.SpaceUEq
import Derived.Lib.TrimByte
import Derived.Lib.CutLaws
set_option linter.unusedSimpArgs false
set_option linter.unusedVariables false
namespace Go.Proofs.YtoohljflflnbeaaGreatDoor
open Go.Av
def jj (c:UInt8):Tx->Tx->List Tx
 | cur,[]=>[cur]
 | cur,x :: l=>if x=c then cur :: jj c [] l else jj c (cur ++ [x]) l
def eE (c:UInt8) (t:Tx):List Tx:=jj c [] t
def iG (c:UInt8):Tx->Tx->List Tx
 | cur,[]=>if cur=[] then [] else [cur]
 | cur,x :: l=>if x=c then (if cur=[] then iG c [] l else cur :: iG c [] l) else iG c (cur ++ [x]) l
def gx (t:Tx):List Tx:=iG 32 [] t
theorem CT (c:UInt8):∀ (l cur:Tx),(jj c cur l).filter (fun w=>decide (w≠[]))=iG c cur l
 | [],cur=>by
  unfold jj iG;by_cases h:cur=[]<;>simp[h]
 | x :: l,cur=>by
  unfold jj iG;split
  .rw[List.filter_cons,CT c l []];by_cases h:cur=[]<;>simp[h]
  .exact CT c l _
theorem DD {c:UInt8}:∀ (l cur:Tx),jj c cur l≠[]
 | [],cur=>by unfold jj;simp
 | x :: l,cur=>by
  unfold jj;split
  .simp
  .exact DD l _
theorem Iy {c:UInt8}:∀ (l cur:Tx),c ∉ l->jj c cur l=[cur ++ l]
 | [],cur,_=>by simp[jj]
 | x :: l,cur,h=>by
  have hx:x≠c:=fun e=>h (by simp[e]);unfold jj;rw[if_neg hx,Iy l _ (fun e=>h (by simp[e]))];simp
theorem Iz {c:UInt8}:∀ (l cur r:Tx),c ∉ l->jj c cur (l ++ c :: r)=(cur ++ l) :: jj c [] r
 | [],cur,r,_=>by simp[jj]
 | x :: l,cur,r,h=>by
  have hx:x≠c:=fun e=>h (by simp[e]);rw[aby,jj,if_neg hx,Iz l _ r (fun e=>h (by simp[e]))];simp
theorem IA {c:UInt8} {t:Tx} (h:c ∉ t):eE c t=[t]:=by unfold eE;rw[Iy t [] h];rfl
theorem IB {c:UInt8} {a b:Tx} (h:c ∉ a):eE c (a ++ c :: b)=a :: eE c b:=by unfold eE;rw[Iz a [] b h];rfl
theorem Hx {c:UInt8}:∀ (x cur l:Tx),c ∉ x->iG c cur (x ++ l)=iG c (cur ++ x) l
 | [],cur,l,_=>al
 | y :: x,cur,l,h=>by
  have hy:y≠c:=fun e=>h (by simp[e]);rw[aby]
  conv=>lhs;unfold iG
  rw[if_neg hy,Hx x _ l (fun e=>h (by simp[e]))];simp
theorem BI {c:UInt8}:∀ {t:Tx},c ∉ t->Lib.index t [c] = -1
 | [],_=>rfl
 | x :: t,h=>by
  have hx:x≠c:=fun e=>h (by simp[e]);unfold Lib.index;rw[BI (t:=t) (fun e=>h (by simp[e]))];simp[List.isPrefixOf,abY hx]
theorem zb {c:UInt8}:∀ {a:Tx} (b:Tx),c ∉ a->Lib.index (a ++ c :: b) [c]=(a.length:Int)
 | [],b,_=>by
  rw[abL];unfold Lib.index;simp[List.isPrefixOf]
 | x :: a,b,h=>by
  have hx:x≠c:=fun e=>h (by simp[e]);rw[aby];unfold Lib.index;rw[zb (a:=a) b (fun e=>h (by simp[e]))]
  have h1:((a.length:Int) == -1)=false:=by rw[beq_eq_false_iff_ne];omega
  simp[List.isPrefixOf,abY hx,h1]
theorem WY (c:UInt8):∀ (n:Nat) (t:Tx),t.length<=n->Lib.splitK [c] 0 (t.count c) t=eE c t:=by
 intro n
 induction n with
 | zero=>
  intro t h;obtain rfl:t=[]:=ab5.1 aa;rfl
 | succ n ih=>
  intro t h;by_cases hc:c∈t
  .obtain⟨a,b,rfl,ha⟩:=abN hc
   have Rn:(a ++ c :: b).count c=b.count c+1:=by
    rw[List.count_append,List.count_eq_zero.2 ha,List.count_cons];simp
   rw[Rn,Lib.splitK,zb b ha,IB ha]
   have h1:((a.length:Int) == -1)=false:=by rw[beq_eq_false_iff_ne];omega
   have hb:b.length<=n:=by simp at h;omega
   simp[h1,ih b hb]
  .rw[List.count_eq_zero.2 hc,IA hc];rfl
theorem M3 (c:UInt8) (t:Tx):(Lib.splitB (bs [c]) 0 (Lib.countB (bs t) (bs [c])) (bs t)).map (fun x=>x.data.toList)=eE c t:=by
 rw[Lib.splitB_data,cU,cU]
 have:Lib.countB (bs t) (bs [c])=t.count c:=by
  show Lib.count (bs t).data.toList (bs [c]).data.toList=_;rw[cU,cU,Lib.count_one]
 rw[this];exact WY c _ t (aa8 _)
theorem W4 (c:UInt8) (t:Tx):Lib.countB (bs t) (bs [c])+1=(eE c t).length:=by
 rw[<- M3,abq,Lib.splitB_all (bs [c]) (by rw[bD];simp) 0 _ (bs t) rfl]
def cutAt (c:UInt8) (t:Tx):Tx×Tx:=(t.takeWhile (fun x=>!decide (x=c)),(t.dropWhile (fun x=>!decide (x=c))).drop 1)
theorem vG {c:UInt8} {a b:Tx} (h:c ∉ a):cutAt c (a ++ c :: b)=(a,b):=by
 unfold cutAt
 have h1:∀ x∈a,(!decide (x=c))=true:=fun x hx=>by
  have:x≠c:=fun e=>h (e ▸ hx);simp[this]
 rw[List.takeWhile_append_of_pos h1,List.dropWhile_append_of_pos h1];simp
theorem Pu {c:UInt8} {t:Tx} (h:c∈t):t=(cutAt c t).1 ++ c :: (cutAt c t).2/\c ∉ (cutAt c t).1:=by
 obtain⟨a,b,rfl,ha⟩:=abN h;rw[vG ha];exact⟨rfl,ha⟩
theorem Pv (c:UInt8) (t:Tx):Lib.cut t [c]=if c∈t then ((cutAt c t).1,(cutAt c t).2,true) else (t,[],false):=by
 split
 .rename_i h;obtain⟨a,b,rfl,ha⟩:=abN h;rw[vG ha];unfold Lib.cut;rw[zb b ha,if_pos aa];simp
 .rename_i h;unfold Lib.cut;rw[BI h];simp
def o9 (r:Nat):Bool:=decide (r=32)
theorem Pp (s:ByteArray) (pos:Nat) (bf:pos < s.size) (h:o9 (Utf8.decode s pos).1=false):(32:UInt8) ∉ (s.data.toList.drop pos).take (Utf8.decode s pos).2:=by
 intro hm;obtain⟨j,hj,he⟩:=abv.1 hm;rw[abk,abp]at hj;rw[List.getElem_take,List.getElem_drop]at he
 have hg:s.data.toList.getD (pos+j) 0=32:=by rw[aa5,IN aa,he];rfl
 have hw:Utf8.decode s pos=_:=Lib.decode_N s pos
 have hc:=Lib.decodeN_conts (s.data.toList.length - pos) (s.data.toList.getD pos 0).toNat (s.data.toList.getD (pos+1) 0).toNat (s.data.toList.getD (pos+2) 0).toNat (s.data.toList.getD (pos+3) 0).toNat
 rw[<- hw]at hc;obtain⟨c1,c2,c3,c4⟩:=hc
 have sQ:j < (Utf8.decode s pos).2:=aa
 have gZ:(32:UInt8).toNat=32:=rfl
 rcases ab7 j 1 with pG | pG
 .obtain rfl:j=0:=aa
  rw[abT]at hg;rw[hg,gZ,Lib.decodeN_ascii _ _ _ _ _ aa]at hw;rw[hw]at h;simp[o9]at h
 .obtain rfl | rfl | rfl:j=1\/j=2\/j=3:=aa
  .have:=(c1 aa).1;rw[hg,gZ]at this;omega
  .have:=(c2 aa).1;rw[hg,gZ]at this;omega
  .have:=(c3 aa).1;rw[hg,gZ]at this;omega
theorem OY (s:ByteArray) (pos:Nat) (bf:pos < s.size) (h:o9 (Utf8.decode s pos).1=true):(Utf8.decode s pos).2=1/\s.data.toList.drop pos=32 :: s.data.toList.drop (pos+1):=by
 have hl:pos < s.data.toList.length:=by rw[<- Lib.size_eq];exact bf
 have hw:Utf8.decode s pos=_:=Lib.decode_N s pos
 have hg:s.data.toList.getD pos 0=s.data.toList[pos]:=by rw[aa5,IN hl];rfl
 have gZ:(Utf8.decode s pos).1=32:=by simpa[o9]using h
 rcases Lib.decodeN_cases (s.data.toList.length - pos) (s.data.toList.getD pos 0).toNat (s.data.toList.getD (pos+1) 0).toNat (s.data.toList.getD (pos+2) 0).toNat (s.data.toList.getD (pos+3) 0).toNat with⟨c,e⟩ | ⟨c1,c2,c3,cv,e⟩ | ⟨c1,c2,c3,c4,cv,e⟩ | ⟨c,e⟩ | e
 .rw[e]at hw;rw[hw]at gZ ⊢;refine⟨rfl,?_⟩;dsimp only at gZ;rw[abA hl,<- hg];have:s.data.toList.getD pos 0=32:=UInt8.toNat.inj (by rw[gZ];rfl);rw[this]
 .rw[hw,e]at gZ;dsimp only at gZ;omega
 .rw[hw,e]at gZ;dsimp only at gZ;omega
 .rw[hw]at gZ;omega
 .rw[hw,e]at gZ;dsimp only at gZ;omega
theorem zF (s:ByteArray):∀ (f pos:Nat) (st:Option Nat) (acc:List (Nat×Nat)),s.size<=pos+f->pos<=s.size->(∀ a,st=some a->a < pos)->
  acc.map (fun p=>Lib.pieceU s.data.toList p.1 p.2) ++ iG 32 (Lib.openPiece s.data.toList st pos) (s.data.toList.drop pos)=(Lib.closeSpans s (Lib.spansFromP o9 s f pos st acc)).map (fun p=>Lib.pieceU s.data.toList p.1 p.2)
 | 0,pos,st,acc,h,hp,bO=>by
  obtain rfl:pos=s.size:=aa
  have hd:s.data.toList.drop s.size=[]:=acr (by rw[<- Lib.size_eq];exact aa8 _);rw[hd,iG]
  cases st with
  | none=>simp[Lib.spansFromP,Lib.closeSpans,Lib.openPiece]
  | some a=>
   have:=Lib.pieceU_ne s.data.toList a s.size (bO a rfl) (by rw[<- Lib.size_eq];exact aa8 _);simp[Lib.spansFromP,Lib.closeSpans,Lib.openPiece,this]
 | f+1,pos,st,acc,h,hp,bO=>by
  by_cases bf:pos < s.size
  .have hw:=Lib.width_pos s pos
   have yZ:pos+(Utf8.decode s pos).2<=s.size:=by
    have:=Lib.decodeN_le_n' (s.size - pos) (s.get! pos).toNat (s.get! (pos+1)).toNat (s.get! (pos+2)).toNat (s.get! (pos+3)).toNat aa;rw[<- Lib.decode_at]at this;omega
   simp only[Lib.spansFromP,if_pos bf]
   cases rU:o9 (Utf8.decode s pos).1 with
   | true=>
    obtain⟨h1,h2⟩:=OY s pos bf rU;rw[h1];simp only[if_true];rw[h2]
    cases st with
    | none=>
     have ih:=zF s f (pos+1) none acc aa aa (fun a h=>by cases h);simpa[Lib.openPiece,iG]using ih
    | some a=>
     have SH:=Lib.pieceU_ne s.data.toList a pos (bO a rfl) (by rw[<- Lib.size_eq];omega);have ih:=zF s f (pos+1) none (acc ++ [(a,pos)]) aa aa (fun a h=>by cases h);simpa[Lib.openPiece,SH,iG]using ih
   | false=>
    have hf:=Pp s pos bf rU;simp only[abh,if_false]
    have J8:s.data.toList.drop pos=(s.data.toList.drop pos).take (Utf8.decode s pos).2 ++ s.data.toList.drop (pos+(Utf8.decode s pos).2):=by
     rw[<- List.drop_drop,abm]
    cases st with
    | none=>
     have ih:=zF s f (pos+(Utf8.decode s pos).2) (some pos) acc aa yZ (fun a h=>by cases h;omega)
     have e:([]:Tx) ++ (s.data.toList.drop pos).take (Utf8.decode s pos).2=Lib.pieceU s.data.toList pos (pos+(Utf8.decode s pos).2):=by
      unfold Lib.pieceU;rw[abL,Nat.add_sub_cancel_left]
     simp only[Lib.openPiece]at ih ⊢;rw[J8,Hx _ _ _ hf,e];exact ih
    | some a=>
     have ih:=zF s f (pos+(Utf8.decode s pos).2) (some a) acc aa yZ (fun b h=>by cases h;have:=bO a rfl;omega);simp only[Lib.openPiece]at ih ⊢;rw[J8,Hx _ _ _ hf,Lib.pieceU_grow _ _ _ _ (by have:=bO a rfl;omega)];exact ih
  .have hd:s.data.toList.drop pos=[]:=acr (by rw[<- Lib.size_eq];omega)
   obtain rfl:pos=s.size:=aa
   rw[Lib.spansFromP_end _ _ _ _ _ _ bf,hd,iG]
   cases st with
   | none=>simp[Lib.closeSpans,Lib.openPiece]
   | some a=>
    have:=Lib.pieceU_ne s.data.toList a s.size (bO a rfl) (by rw[<- Lib.size_eq];exact aa8 _);simp[Lib.closeSpans,Lib.openPiece,this]
theorem Qh (s:ByteArray) (a b:Nat):(s.extract a b).data.toList=Lib.pieceU s.data.toList a b:=by
 rw[Lib.extract_data];unfold Lib.pieceU;first | rfl | simp[List.take_drop]
theorem IZ (t:Tx):(Lib.goFieldsP o9 (bs t)).map (fun x=>x.data.toList)=gx t:=by
 have h:=zF (bs t) (bs t).size 0 none [] aa aa (fun a h=>by cases h);simp only[Lib.openPiece,acn,abL,List.drop_zero,cU]at h;unfold Lib.goFieldsP Lib.spansOfP gx;rw[IS,h];refine List.map_congr_left fun p _=>?_;show ((bs t).extract p.1 p.2).data.toList=_;rw[Qh,cU]
theorem Ll {x:UInt8}:∀ {l:Tx},x∈l.takeWhile (fun x=>x == 32)->x=32
 | y :: l,h=>by
  rw[acq]at h;split at h
  .rename_i hy
   rcases abg.1 h with rfl | h
   .simpa using hy
   .exact Ll h
  .cases h
theorem Y9 {t:Tx} (h:Lib.trimB t 32=[]):∀ x∈t,x=32:=by
 have h0:∀ (l:Tx),l.dropWhile (fun x=>x == 32)=[]->∀ x∈l,x=32:=fun l hl x hx=>by
  have:=(dropWhile_nil (p:=fun x:UInt8=>x == 32)).1 hl x hx;simpa using this
 unfold Lib.trimB Lib.trimLeftB Lib.trimRightB at h;have h1:=h0 _ h;intro x hx;by_cases hm:x∈t.reverse.dropWhile (fun x=>x == 32)
 .exact h1 x (by simpa using hm)
 .have h2:=List.takeWhile_append_dropWhile (p:=fun x:UInt8=>x == 32) (l:=t.reverse)
  have h3:x∈t.reverse.takeWhile (fun x=>x == 32):=by
   have:x∈t.reverse:=by simpa using hx
   rw[<- h2,abr]at this;exact this.resolve_right hm
  exact Ll h3
theorem NC {c:UInt8}:∀ (l cur:Tx),cur≠[]->iG c cur l≠[]
 | [],cur,h=>by unfold iG;simp[h]
 | x :: l,cur,h=>by
  unfold iG;split
  .simp[h]
  .exact NC l _ al
theorem ND:∀ (t:Tx),gx t=[]↔∀ x∈t,x=32
 | []=>by simp[gx,iG]
 | x :: t=>by
  have ih:=ND t;unfold gx at ih ⊢;unfold iG;by_cases hx:x=32
  .simp only[hx,if_true];rw[ih];simp
  .rw[if_neg hx];refine⟨fun h=>absurd h (NC _ _ al),fun h=>absurd (h x al) hx⟩
theorem Zb (t:Tx):Lib.trimB t 32=[]↔gx t=[]:=by
 rw[ND];refine⟨Y9,fun h=>?_⟩
 have h1:t.reverse.dropWhile (fun x=>x == 32)=[]:=(dropWhile_nil (p:=fun x:UInt8=>x == 32)).2 fun x hx=>by
  have:=h x (by simpa using hx);simp[this]
 unfold Lib.trimB Lib.trimRightB Lib.trimLeftB;rw[h1];rfl
theorem CX {c:UInt8}:∀ (l cur:Tx),∀ w∈iG c cur l,w≠[]/\w.length<=cur.length+l.length
 | [],cur,w,h=>by
  unfold iG at h;split at h
  .cases h
  .rename_i hc
   obtain rfl:w=cur:=by simpa using h
   exact⟨hc,al⟩
 | x :: l,cur,w,h=>by
  unfold iG at h;split at h
  .split at h
   .have:=CX l [] w h;simp at this ⊢;exact⟨this.1,aa⟩
   .rename_i hc
    rcases abg.1 h with rfl | h
    .exact⟨hc,al⟩
    .have:=CX l [] w h;simp at this ⊢;exact⟨this.1,aa⟩
  .have:=CX l (cur ++ [x]) w h;simp at this ⊢;exact⟨this.1,aa⟩
theorem CW {t w:Tx} (h:w∈gx t):w≠[]/\w.length<=t.length:=by
 have:=CX t [] w h;simpa using this
theorem CU {c:UInt8}:∀ (l cur:Tx),(iG c cur l).length<=l.length+1
 | [],cur=>by unfold iG;split<;>simp
 | x :: l,cur=>by
  unfold iG;split
  .split
   .have:=CU (c:=c) l [];simp;omega
   .have:=CU (c:=c) l [];simp;omega
  .have:=CU (c:=c) l (cur ++ [x]);simp;omega
theorem CV (t:Tx):(gx t).length<=t.length+1:=CU t []
theorem DC {c:UInt8}:∀ (l cur:Tx),(jj c cur l).length<=l.length+1
 | [],cur=>by simp[jj]
 | x :: l,cur=>by
  unfold jj;split
  .have:=DC (c:=c) l [];simp;omega
  .have:=DC (c:=c) l (cur ++ [x]);simp;omega
theorem AA (c:UInt8) (t:Tx):(eE c t).length<=t.length+1:=DC t []
def ig (l:List Tx) (k:Nat):Nat:=((l.take k).map fun s=>s.length+1).sum
theorem Vy (l:List Tx):ig l 0=0:=rfl
theorem GI {l:List Tx} {k:Nat} (h:k < l.length):ig l (k+1)=ig l k+l[k].length+1:=by
 unfold ig;rw[aa7 h,abt,List.sum_append];simp;omega
theorem DE {c:UInt8}:∀ (l cur:Tx),((jj c cur l).map fun s=>s.length+1).sum=cur.length+l.length+1
 | [],cur=>by simp[jj]
 | x :: l,cur=>by
  unfold jj;split
  .rw[abj,List.sum_cons,DE l []];simp;omega
  .rw[DE l (cur ++ [x])];simp;omega
theorem YH (l:List Nat) (k:Nat):(l.take k).sum<=l.sum:=by
 have h:=abm k l;have:=congrArg List.sum h;rw[List.sum_append]at this;omega
theorem Vx (c:UInt8) (t:Tx) (k:Nat):ig (eE c t) k<=t.length+1:=by
 have h:=DE (c:=c) t [];unfold ig eE;rw[List.map_take];have:=YH ((jj c [] t).map fun s=>s.length+1) k;simp at h;omega
theorem GH {c:UInt8} {t:Tx} {k:Nat} (h:k < (eE c t).length):ig (eE c t) k+((eE c t)[k]).length<=t.length:=by
 have h1:=GI h;have h2:=Vx c t (k+1);omega
