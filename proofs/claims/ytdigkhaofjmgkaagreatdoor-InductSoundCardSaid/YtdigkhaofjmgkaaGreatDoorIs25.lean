/- Parts. -/
import Derived.Test.YtdigkhaofjmgkaaGreatDoorIs21
import Derived.Lib.SplitLaws
import Derived.Lib.FieldsP
import Derived.Lib.SpaceUEq
import Derived.Lib.TrimByte
import Derived.Lib.CutLaws
set_option linter.unusedSimpArgs false
set_option linter.unusedVariables false
namespace Go.Proofs.YtdigkhaofjmgkaaGreatDoor
open Go.Av
def gT (c:UInt8):Tx->Tx->List Tx
 | cur,[]=>[cur]
 | cur,x :: l=>if x=c then cur :: gT c [] l else gT c (cur ++ [x]) l
def Zk (c:UInt8) (t:Tx):List Tx:=gT c [] t
def ZX (c:UInt8):Tx->Tx->List Tx
 | cur,[]=>if cur=[] then [] else [cur]
 | cur,x :: l=>if x=c then (if cur=[] then ZX c [] l else cur :: ZX c [] l) else ZX c (cur ++ [x]) l
def dW (t:Tx):List Tx:=ZX 32 [] t
theorem zm {c:UInt8}:∀ (l cur:Tx),gT c cur l≠[]
 | [],cur=>by unfold gT;simp
 | x :: l,cur=>by
  unfold gT;split
  .simp
  .exact zm l _
theorem Ed {c:UInt8}:∀ (l cur:Tx),c ∉ l->gT c cur l=[cur ++ l]
 | [],cur,_=>by simp[gT]
 | x :: l,cur,h=>by
  have hx:x≠c:=fun e=>h (by simp[e]);unfold gT;rw[if_neg hx,Ed l _ (fun e=>h (by simp[e]))];simp
theorem Ee {c:UInt8}:∀ (l cur r:Tx),c ∉ l->gT c cur (l ++ c :: r)=(cur ++ l) :: gT c [] r
 | [],cur,r,_=>by simp[gT]
 | x :: l,cur,r,h=>by
  have hx:x≠c:=fun e=>h (by simp[e]);rw[List.cons_append,gT,if_neg hx,Ee l _ r (fun e=>h (by simp[e]))];simp
theorem Mg {c:UInt8} {t:Tx} (h:c ∉ t):Zk c t=[t]:=by unfold Zk;rw[Ed t [] h];rfl
theorem Ef {c:UInt8} {a b:Tx} (h:c ∉ a):Zk c (a ++ c :: b)=a :: Zk c b:=by unfold Zk;rw[Ee a [] b h];rfl
theorem ve {c:UInt8}:∀ (x cur l:Tx),c ∉ x->ZX c cur (x ++ l)=ZX c (cur ++ x) l
 | [],cur,l,_=>by simp
 | y :: x,cur,l,h=>by
  have hy:y≠c:=fun e=>h (by simp[e]);rw[List.cons_append]
  conv=>lhs;unfold ZX
  rw[if_neg hy,ve x _ l (fun e=>h (by simp[e]))];simp
theorem BM {c:UInt8}:∀ {t:Tx},c ∉ t->Lib.index t [c] = -1
 | [],_=>rfl
 | x :: t,h=>by
  have hx:x≠c:=fun e=>h (by simp[e]);unfold Lib.index;rw[BM (t:=t) (fun e=>h (by simp[e]))];simp[List.isPrefixOf,Ne.symm hx]
theorem adp {c:UInt8}:∀ {a:Tx} (b:Tx),c ∉ a->Lib.index (a ++ c :: b) [c]=(a.length:Int)
 | [],b,_=>by
  rw[List.nil_append];unfold Lib.index;simp[List.isPrefixOf]
 | x :: a,b,h=>by
  have hx:x≠c:=fun e=>h (by simp[e]);rw[List.cons_append];unfold Lib.index;rw[adp (a:=a) b (fun e=>h (by simp[e]))]
  have h1:((a.length:Int) == -1)=false:=by rw[beq_eq_false_iff_ne];omega
  simp[List.isPrefixOf,Ne.symm hx,h1]
def cutAt (c:UInt8) (t:Tx):Tx×Tx:=(t.takeWhile (fun x=>!decide (x=c)),(t.dropWhile (fun x=>!decide (x=c))).drop 1)
theorem sF {c:UInt8} {a b:Tx} (h:c ∉ a):cutAt c (a ++ c :: b)=(a,b):=by
 unfold cutAt
 have h1:∀ x∈a,(!decide (x=c))=true:=fun x hx=>by
  have:x≠c:=fun e=>h (e ▸ hx);simp[this]
 rw[List.takeWhile_append_of_pos h1,List.dropWhile_append_of_pos h1];simp
theorem Me {c:UInt8} {t:Tx} (h:c∈t):t=(cutAt c t).1 ++ c :: (cutAt c t).2/\c ∉ (cutAt c t).1:=by
 obtain⟨a,b,rfl,ha⟩:=List.eq_append_cons_of_mem h;rw[sF ha];exact⟨rfl,ha⟩
theorem Mh (c:UInt8) (t:Tx):Lib.cut t [c]=if c∈t then ((cutAt c t).1,(cutAt c t).2,true) else (t,[],false):=by
 split
 .rename_i h;obtain⟨a,b,rfl,ha⟩:=List.eq_append_cons_of_mem h;rw[sF ha];unfold Lib.cut;rw[adp b ha,if_pos (by omega)];simp
 .rename_i h;unfold Lib.cut;rw[BM h];simp
def k6 (r:Nat):Bool:=decide (r=32)
theorem L7 (s:ByteArray) (pos:Nat) (YJ:pos < s.size) (h:k6 (Utf8.decode s pos).1=false):(32:UInt8) ∉ (s.data.toList.drop pos).take (Utf8.decode s pos).2:=by
 intro hm;obtain⟨j,hj,he⟩:=List.mem_iff_getElem.1 hm;rw[List.length_take,List.length_drop]at hj;rw[List.getElem_take,List.getElem_drop]at he
 have hg:s.data.toList.getD (pos+j) 0=32:=by rw[List.getD_eq_getElem?_getD,List.getElem?_eq_getElem (by omega),he];rfl
 have hw:Utf8.decode s pos=_:=Lib.decode_N s pos
 have hc:=Lib.decodeN_conts (s.data.toList.length - pos) (s.data.toList.getD pos 0).toNat (s.data.toList.getD (pos+1) 0).toNat (s.data.toList.getD (pos+2) 0).toNat (s.data.toList.getD (pos+3) 0).toNat
 rw[<- hw]at hc;obtain⟨c1,c2,c3,c4⟩:=hc
 have ZY:j < (Utf8.decode s pos).2:=by omega
 have gy:(32:UInt8).toNat=32:=rfl
 rcases Nat.lt_or_ge j 1 with gC | gC
 .obtain rfl:j=0:=by omega
  rw[Nat.add_zero]at hg;rw[hg,gy,Lib.decodeN_ascii _ _ _ _ _ (by omega)]at hw;rw[hw]at h;simp[k6]at h
 .obtain rfl | rfl | rfl:j=1\/j=2\/j=3:=by omega
  .have:=(c1 (by omega)).1;rw[hg,gy]at this;omega
  .have:=(c2 (by omega)).1;rw[hg,gy]at this;omega
  .have:=(c3 (by omega)).1;rw[hg,gy]at this;omega
theorem Lz (s:ByteArray) (pos:Nat) (YJ:pos < s.size) (h:k6 (Utf8.decode s pos).1=true):(Utf8.decode s pos).2=1/\s.data.toList.drop pos=32 :: s.data.toList.drop (pos+1):=by
 have hl:pos < s.data.toList.length:=by rw[<- Lib.size_eq];exact YJ
 have hw:Utf8.decode s pos=_:=Lib.decode_N s pos
 have hg:s.data.toList.getD pos 0=s.data.toList[pos]:=by rw[List.getD_eq_getElem?_getD,List.getElem?_eq_getElem hl];rfl
 have gy:(Utf8.decode s pos).1=32:=by simpa[k6]using h
 rcases Lib.decodeN_cases (s.data.toList.length - pos) (s.data.toList.getD pos 0).toNat (s.data.toList.getD (pos+1) 0).toNat (s.data.toList.getD (pos+2) 0).toNat (s.data.toList.getD (pos+3) 0).toNat with⟨c,e⟩ | ⟨c1,c2,c3,cv,e⟩ | ⟨c1,c2,c3,c4,cv,e⟩ | ⟨c,e⟩ | e
 .rw[e]at hw;rw[hw]at gy ⊢;refine⟨rfl,?_⟩;dsimp only at gy;rw[List.drop_eq_getElem_cons hl,<- hg];have:s.data.toList.getD pos 0=32:=UInt8.toNat.inj (by rw[gy];rfl);rw[this]
 .rw[hw,e]at gy;dsimp only at gy;omega
 .rw[hw,e]at gy;dsimp only at gy;omega
 .rw[hw]at gy;omega
 .rw[hw,e]at gy;dsimp only at gy;omega
theorem uZ (s:ByteArray):∀ (f pos:Nat) (st:Option Nat) (acc:List (Nat×Nat)),s.size<=pos+f->pos<=s.size->(∀ a,st=some a->a < pos)->
  acc.map (fun p=>Lib.pieceU s.data.toList p.1 p.2) ++ ZX 32 (Lib.openPiece s.data.toList st pos) (s.data.toList.drop pos)=(Lib.closeSpans s (Lib.spansFromP k6 s f pos st acc)).map (fun p=>Lib.pieceU s.data.toList p.1 p.2)
 | 0,pos,st,acc,h,hp,bA=>by
  obtain rfl:pos=s.size:=by omega
  have hd:s.data.toList.drop s.size=[]:=List.drop_eq_nil_of_le (by rw[<- Lib.size_eq];exact Nat.le_refl _);rw[hd,ZX]
  cases st with
  | none=>simp[Lib.spansFromP,Lib.closeSpans,Lib.openPiece]
  | some a=>
   have:=Lib.pieceU_ne s.data.toList a s.size (bA a rfl) (by rw[<- Lib.size_eq];exact Nat.le_refl _);simp[Lib.spansFromP,Lib.closeSpans,Lib.openPiece,this]
 | f+1,pos,st,acc,h,hp,bA=>by
  by_cases YJ:pos < s.size
  .have hw:=Lib.width_pos s pos
   have GZ:pos+(Utf8.decode s pos).2<=s.size:=by
    have:=Lib.decodeN_le_n' (s.size - pos) (s.get! pos).toNat (s.get! (pos+1)).toNat (s.get! (pos+2)).toNat (s.get! (pos+3)).toNat (by omega);rw[<- Lib.decode_at]at this;omega
   simp only[Lib.spansFromP,if_pos YJ]
   cases GP:k6 (Utf8.decode s pos).1 with
   | true=>
    obtain⟨h1,h2⟩:=Lz s pos YJ GP;rw[h1];simp only[if_true];rw[h2]
    cases st with
    | none=>
     have ih:=uZ s f (pos+1) none acc (by omega) (by omega) (fun a h=>by cases h);simpa[Lib.openPiece,ZX]using ih
    | some a=>
     have jg:=Lib.pieceU_ne s.data.toList a pos (bA a rfl) (by rw[<- Lib.size_eq];omega);have ih:=uZ s f (pos+1) none (acc ++ [(a,pos)]) (by omega) (by omega) (fun a h=>by cases h);simpa[Lib.openPiece,jg,ZX]using ih
   | false=>
    have hf:=L7 s pos YJ GP;simp only[Bool.false_eq_true,if_false]
    have GQ:s.data.toList.drop pos=(s.data.toList.drop pos).take (Utf8.decode s pos).2 ++ s.data.toList.drop (pos+(Utf8.decode s pos).2):=by
     rw[<- List.drop_drop,List.take_append_drop]
    cases st with
    | none=>
     have ih:=uZ s f (pos+(Utf8.decode s pos).2) (some pos) acc (by omega) GZ (fun a h=>by cases h;omega)
     have e:([]:Tx) ++ (s.data.toList.drop pos).take (Utf8.decode s pos).2=Lib.pieceU s.data.toList pos (pos+(Utf8.decode s pos).2):=by
      unfold Lib.pieceU;rw[List.nil_append,Nat.add_sub_cancel_left]
     simp only[Lib.openPiece]at ih ⊢;rw[GQ,ve _ _ _ hf,e];exact ih
    | some a=>
     have ih:=uZ s f (pos+(Utf8.decode s pos).2) (some a) acc (by omega) GZ (fun b h=>by cases h;have:=bA a rfl;omega);simp only[Lib.openPiece]at ih ⊢;rw[GQ,ve _ _ _ hf,Lib.pieceU_grow _ _ _ _ (by have:=bA a rfl;omega)];exact ih
  .have hd:s.data.toList.drop pos=[]:=List.drop_eq_nil_of_le (by rw[<- Lib.size_eq];omega)
   obtain rfl:pos=s.size:=by omega
   rw[Lib.spansFromP_end _ _ _ _ _ _ YJ,hd,ZX]
   cases st with
   | none=>simp[Lib.closeSpans,Lib.openPiece]
   | some a=>
    have:=Lib.pieceU_ne s.data.toList a s.size (bA a rfl) (by rw[<- Lib.size_eq];exact Nat.le_refl _);simp[Lib.closeSpans,Lib.openPiece,this]
theorem MR (s:ByteArray) (a b:Nat):(s.extract a b).data.toList=Lib.pieceU s.data.toList a b:=by
 rw[Lib.extract_data];unfold Lib.pieceU;first | rfl | simp[List.take_drop]
theorem ET (t:Tx):(Lib.goFieldsP k6 (bs t)).map (fun x=>x.data.toList)=dW t:=by
 have h:=uZ (bs t) (bs t).size 0 none [] (by omega) (by omega) (fun a h=>by cases h);simp only[Lib.openPiece,List.map_nil,List.nil_append,List.drop_zero,Zo]at h;unfold Lib.goFieldsP Lib.spansOfP dW;rw[List.map_map,h];refine List.map_congr_left fun p _=>?_;show ((bs t).extract p.1 p.2).data.toList=_;rw[MR,Zo]
theorem HG {x:UInt8}:∀ {l:Tx},x∈l.takeWhile (fun x=>x == 32)->x=32
 | y :: l,h=>by
  rw[List.takeWhile_cons]at h;split at h
  .rename_i hy
   rcases List.mem_cons.1 h with rfl | h
   .simpa using hy
   .exact HG h
  .cases h
theorem WA {t:Tx} (h:Lib.trimB t 32=[]):∀ x∈t,x=32:=by
 have h0:∀ (l:Tx),l.dropWhile (fun x=>x == 32)=[]->∀ x∈l,x=32:=fun l hl x hx=>by
  have:=(dropWhile_nil (p:=fun x:UInt8=>x == 32)).1 hl x hx;simpa using this
 unfold Lib.trimB Lib.trimLeftB Lib.trimRightB at h;have h1:=h0 _ h;intro x hx;by_cases hm:x∈t.reverse.dropWhile (fun x=>x == 32)
 .exact h1 x (by simpa using hm)
 .have h2:=List.takeWhile_append_dropWhile (p:=fun x:UInt8=>x == 32) (l:=t.reverse)
  have h3:x∈t.reverse.takeWhile (fun x=>x == 32):=by
   have:x∈t.reverse:=by simpa using hx
   rw[<- h2,List.mem_append]at this;exact this.resolve_right hm
  exact HG h3
theorem J1 {c:UInt8}:∀ (l cur:Tx),cur≠[]->ZX c cur l≠[]
 | [],cur,h=>by unfold ZX;simp[h]
 | x :: l,cur,h=>by
  unfold ZX;split
  .simp[h]
  .exact J1 l _ (by simp)
theorem Dr:∀ (t:Tx),dW t=[]↔∀ x∈t,x=32
 | []=>by simp[dW,ZX]
 | x :: t=>by
  have ih:=Dr t;unfold dW at ih ⊢;unfold ZX;by_cases hx:x=32
  .simp only[hx,if_true];rw[ih];simp
  .rw[if_neg hx];refine⟨fun h=>absurd h (J1 _ _ (by simp)),fun h=>absurd (h x (by simp)) hx⟩
theorem WC (t:Tx):Lib.trimB t 32=[]↔dW t=[]:=by
 rw[Dr];refine⟨WA,fun h=>?_⟩
 have h1:t.reverse.dropWhile (fun x=>x == 32)=[]:=(dropWhile_nil (p:=fun x:UInt8=>x == 32)).2 fun x hx=>by
  have:=h x (by simpa using hx);simp[this]
 unfold Lib.trimB Lib.trimRightB Lib.trimLeftB;rw[h1];rfl
theorem ada {c:UInt8}:∀ (l cur:Tx),∀ w∈ZX c cur l,w≠[]/\w.length<=cur.length+l.length
 | [],cur,w,h=>by
  unfold ZX at h;split at h
  .cases h
  .rename_i hc
   obtain rfl:w=cur:=by simpa using h
   exact⟨hc,by simp⟩
 | x :: l,cur,w,h=>by
  unfold ZX at h;split at h
  .split at h
   .have:=ada l [] w h;simp at this ⊢;exact⟨this.1,by omega⟩
   .rename_i hc
    rcases List.mem_cons.1 h with rfl | h
    .exact⟨hc,by simp⟩
    .have:=ada l [] w h;simp at this ⊢;exact⟨this.1,by omega⟩
  .have:=ada l (cur ++ [x]) w h;simp at this ⊢;exact⟨this.1,by omega⟩
theorem Dq {t w:Tx} (h:w∈dW t):w≠[]/\w.length<=t.length:=by
 have:=ada t [] w h;simpa using this
theorem yq {c:UInt8}:∀ (l cur:Tx),(ZX c cur l).length<=l.length+1
 | [],cur=>by unfold ZX;split<;>simp
 | x :: l,cur=>by
  unfold ZX;split
  .split
   .have:=yq (c:=c) l [];simp;omega
   .have:=yq (c:=c) l [];simp;omega
  .have:=yq (c:=c) l (cur ++ [x]);simp;omega
theorem Dp (t:Tx):(dW t).length<=t.length+1:=yq t []
theorem zl {c:UInt8}:∀ (l cur:Tx),(gT c cur l).length<=l.length+1
 | [],cur=>by simp[gT]
 | x :: l,cur=>by
  unfold gT;split
  .have:=zl (c:=c) l [];simp;omega
  .have:=zl (c:=c) l (cur ++ [x]);simp;omega
theorem Mf (c:UInt8) (t:Tx):(Zk c t).length<=t.length+1:=zl t []
def Z4 (l:List Tx) (k:Nat):Nat:=((l.take k).map fun s=>s.length+1).sum
theorem Ur (l:List Tx):Z4 l 0=0:=rfl
theorem Ir {l:List Tx} {k:Nat} (h:k < l.length):Z4 l (k+1)=Z4 l k+l[k].length+1:=by
 unfold Z4;rw[List.take_succ_eq_append_getElem h,List.map_append,List.sum_append];simp;omega
theorem zn {c:UInt8}:∀ (l cur:Tx),((gT c cur l).map fun s=>s.length+1).sum=cur.length+l.length+1
 | [],cur=>by simp[gT]
 | x :: l,cur=>by
  unfold gT;split
  .rw[List.map_cons,List.sum_cons,zn l []];simp;omega
  .rw[zn l (cur ++ [x])];simp;omega
theorem VZ (l:List Nat) (k:Nat):(l.take k).sum<=l.sum:=by
 have h:=List.take_append_drop k l;have:=congrArg List.sum h;rw[List.sum_append]at this;omega
theorem Uq (c:UInt8) (t:Tx) (k:Nat):Z4 (Zk c t) k<=t.length+1:=by
 have h:=zn (c:=c) t [];unfold Z4 Zk;rw[List.map_take];have:=VZ ((gT c [] t).map fun s=>s.length+1) k;simp at h;omega
theorem Ip {c:UInt8} {t:Tx} {k:Nat} (h:k < (Zk c t).length):Z4 (Zk c t) k+((Zk c t)[k]).length<=t.length:=by
 have h1:=Ir h;have h2:=Uq c t (k+1);omega
