/-
  Texts that belong together,in one file: PM0.
-/
import Derived.Test.YtpboiimemmfkiaaGreatDoorRp25
import Derived.Lib.SplitLaws
import Derived.Lib.FieldsP
import Derived.Lib.SpaceUEq
import Derived.Lib.TrimByte
import Derived.Lib.CutLaws
set_option linter.unusedSimpArgs false
set_option linter.unusedVariables false
namespace Go.Proofs.YtpboiimemmfkiaaGreatDoor
open Go.Av
def cutGo (c:UInt8):Tx→Tx→List Tx
 | cur,[]=>[cur]
 | cur,x :: l=>if x=c then cur :: cutGo c [] l else cutGo c (cur ++ [x]) l
def cutT (c:UInt8) (t:Tx):List Tx:=cutGo c [] t
def wordsGo (c:UInt8):Tx→Tx→List Tx
 | cur,[]=>if cur=[] then [] else [cur]
 | cur,x :: l=>if x=c then (if cur=[] then wordsGo c [] l else cur :: wordsGo c [] l) else wordsGo c (cur ++ [x]) l
def wordsT (t:Tx):List Tx:=wordsGo 32 [] t
theorem cutGo_ne {c:UInt8}:∀ (l cur:Tx),cutGo c cur l≠[]
 | [],cur=>by unfold cutGo;simp
 | x :: l,cur=>by
  unfold cutGo
  split
  ·simp
  ·exact cutGo_ne l _
theorem cutGo_none {c:UInt8}:∀ (l cur:Tx),c ∉ l→cutGo c cur l=[cur ++ l]
 | [],cur,_=>by simp [cutGo]
 | x :: l,cur,h=>by
  have hx:x≠c:=fun e=>h (by simp [e])
  unfold cutGo;rw [if_neg hx,cutGo_none l _ (fun e=>h (by simp [e]))];simp
theorem cutGo_some {c:UInt8}:∀ (l cur r:Tx),c ∉ l→cutGo c cur (l ++ c :: r)=(cur ++ l) :: cutGo c [] r
 | [],cur,r,_=>by simp [cutGo]
 | x :: l,cur,r,h=>by
  have hx:x≠c:=fun e=>h (by simp [e])
  rw [List.cons_append,cutGo,if_neg hx,cutGo_some l _ r (fun e=>h (by simp [e]))];simp
theorem cutT_none {c:UInt8} {t:Tx} (h:c ∉ t):cutT c t=[t]:=by unfold cutT;rw [cutGo_none t [] h];rfl
theorem cutT_some {c:UInt8} {a b:Tx} (h:c ∉ a):cutT c (a ++ c :: b)=a :: cutT c b:=by unfold cutT;rw [cutGo_some a [] b h];rfl
theorem wordsGo_skip {c:UInt8}:∀ (x cur l:Tx),c ∉ x→wordsGo c cur (x ++ l)=wordsGo c (cur ++ x) l
 | [],cur,l,_=>by simp
 | y :: x,cur,l,h=>by
  have hy:y≠c:=fun e=>h (by simp [e])
  rw [List.cons_append]
  conv=>lhs;unfold wordsGo
  rw [if_neg hy,wordsGo_skip x _ l (fun e=>h (by simp [e]))];simp
theorem index_none1 {c:UInt8}:∀ {t:Tx},c ∉ t→Lib.index t [c] = -1
 | [],_=>rfl
 | x :: t,h=>by
  have hx:x≠c:=fun e=>h (by simp [e])
  unfold Lib.index;rw [index_none1 (t:=t) (fun e=>h (by simp [e]))];simp [List.isPrefixOf,Ne.symm hx]
theorem index_some1 {c:UInt8}:∀ {a:Tx} (b:Tx),c ∉ a→Lib.index (a ++ c :: b) [c]=(a.length:Int)
 | [],b,_=>by
  rw [List.nil_append];unfold Lib.index;simp [List.isPrefixOf]
 | x :: a,b,h=>by
  have hx:x≠c:=fun e=>h (by simp [e])
  rw [List.cons_append];unfold Lib.index;rw [index_some1 (a:=a) b (fun e=>h (by simp [e]))]
  have h1:((a.length:Int) == -1)=false:=by rw [beq_eq_false_iff_ne];omega
  simp [List.isPrefixOf,Ne.symm hx,h1]
def cutAt (c:UInt8) (t:Tx):Tx×Tx:=(t.takeWhile (fun x=>!decide (x=c)),(t.dropWhile (fun x=>!decide (x=c))).drop 1)
theorem cutAt_some {c:UInt8} {a b:Tx} (h:c ∉ a):cutAt c (a ++ c :: b)=(a,b):=by
 unfold cutAt
 have h1:∀ x∈a,(!decide (x=c))=true:=fun x hx=>by
  have:x≠c:=fun e=>h (e ▸ hx)
  simp [this]
 rw [List.takeWhile_append_of_pos h1,List.dropWhile_append_of_pos h1];simp
theorem cutAt_parts {c:UInt8} {t:Tx} (h:c∈t):t=(cutAt c t).1 ++ c :: (cutAt c t).2∧c ∉ (cutAt c t).1:=by
 obtain ⟨a,b,rfl,ha⟩:=List.eq_append_cons_of_mem h
 rw [cutAt_some ha];exact ⟨rfl,ha⟩
theorem cut_lib (c:UInt8) (t:Tx):Lib.cut t [c]=if c∈t then ((cutAt c t).1,(cutAt c t).2,true) else (t,[],false):=by
 split
 ·rename_i h
  obtain ⟨a,b,rfl,ha⟩:=List.eq_append_cons_of_mem h
  rw [cutAt_some ha];unfold Lib.cut;rw [index_some1 b ha,if_pos (by omega)];simp
 ·rename_i h
  unfold Lib.cut;rw [index_none1 h];simp
def isBl (r:Nat):Bool:=decide (r=32)
theorem conts_free (s:ByteArray) (pos:Nat) (hlt:pos < s.size) (h:isBl (Utf8.decode s pos).1=false):(32:UInt8) ∉ (s.data.toList.drop pos).take (Utf8.decode s pos).2:=by
 intro hm
 obtain ⟨j,hj,he⟩:=List.mem_iff_getElem.1 hm
 rw [List.length_take,List.length_drop] at hj;rw [List.getElem_take,List.getElem_drop] at he
 have hg:s.data.toList.getD (pos+j) 0=32:=by rw [List.getD_eq_getElem?_getD,List.getElem?_eq_getElem (by omega),he];rfl
 have hw:Utf8.decode s pos=_:=Lib.decode_N s pos
 have hc:=Lib.decodeN_conts (s.data.toList.length - pos) (s.data.toList.getD pos 0).toNat (s.data.toList.getD (pos+1) 0).toNat (s.data.toList.getD (pos+2) 0).toNat (s.data.toList.getD (pos+3) 0).toNat
 rw [← hw] at hc
 obtain ⟨c1,c2,c3,c4⟩:=hc
 have hj2:j < (Utf8.decode s pos).2:=by omega
 have h32:(32:UInt8).toNat=32:=rfl
 rcases Nat.lt_or_ge j 1 with hj1 | hj1
 ·obtain rfl:j=0:=by omega
  rw [Nat.add_zero] at hg;rw [hg,h32,Lib.decodeN_ascii _ _ _ _ _ (by omega)] at hw;rw [hw] at h;simp [isBl] at h
 ·obtain rfl | rfl | rfl:j=1∨j=2∨j=3:=by omega
  ·have:=(c1 (by omega)).1;rw [hg,h32] at this;omega
  ·have:=(c2 (by omega)).1;rw [hg,h32] at this;omega
  ·have:=(c3 (by omega)).1;rw [hg,h32] at this;omega
theorem blank_one (s:ByteArray) (pos:Nat) (hlt:pos < s.size) (h:isBl (Utf8.decode s pos).1=true):(Utf8.decode s pos).2=1∧s.data.toList.drop pos=32 :: s.data.toList.drop (pos+1):=by
 have hl:pos < s.data.toList.length:=by rw [← Lib.size_eq];exact hlt
 have hw:Utf8.decode s pos=_:=Lib.decode_N s pos
 have hg:s.data.toList.getD pos 0=s.data.toList[pos]:=by rw [List.getD_eq_getElem?_getD,List.getElem?_eq_getElem hl];rfl
 have h32:(Utf8.decode s pos).1=32:=by simpa [isBl] using h
 rcases Lib.decodeN_cases (s.data.toList.length - pos) (s.data.toList.getD pos 0).toNat (s.data.toList.getD (pos+1) 0).toNat (s.data.toList.getD (pos+2) 0).toNat (s.data.toList.getD (pos+3) 0).toNat with ⟨c,e⟩ | ⟨c1,c2,c3,cv,e⟩ | ⟨c1,c2,c3,c4,cv,e⟩ | ⟨c,e⟩ | e
 ·rw [e] at hw;rw [hw] at h32 ⊢;refine ⟨rfl,?_⟩
  dsimp only at h32
  rw [List.drop_eq_getElem_cons hl,← hg]
  have:s.data.toList.getD pos 0=32:=UInt8.toNat.inj (by rw [h32];rfl)
  rw [this]
 ·rw [hw,e] at h32;dsimp only at h32;omega
 ·rw [hw,e] at h32;dsimp only at h32;omega
 ·rw [hw] at h32;omega
 ·rw [hw,e] at h32;dsimp only at h32;omega
theorem spans_words (s:ByteArray):∀ (f pos:Nat) (st:Option Nat) (acc:List (Nat×Nat)),s.size≤pos+f→pos≤s.size→(∀ a,st=some a→a < pos)→
  acc.map (fun p=>Lib.pieceU s.data.toList p.1 p.2) ++ wordsGo 32 (Lib.openPiece s.data.toList st pos) (s.data.toList.drop pos)=(Lib.closeSpans s (Lib.spansFromP isBl s f pos st acc)).map (fun p=>Lib.pieceU s.data.toList p.1 p.2)
 | 0,pos,st,acc,h,hp,hst=>by
  obtain rfl:pos=s.size:=by omega
  have hd:s.data.toList.drop s.size=[]:=List.drop_eq_nil_of_le (by rw [← Lib.size_eq];exact Nat.le_refl _)
  rw [hd,wordsGo]
  cases st with
  | none=>simp [Lib.spansFromP,Lib.closeSpans,Lib.openPiece]
  | some a=>
   have:=Lib.pieceU_ne s.data.toList a s.size (hst a rfl) (by rw [← Lib.size_eq];exact Nat.le_refl _)
   simp [Lib.spansFromP,Lib.closeSpans,Lib.openPiece,this]
 | f+1,pos,st,acc,h,hp,hst=>by
  by_cases hlt:pos < s.size
  ·have hw:=Lib.width_pos s pos
   have hwn:pos+(Utf8.decode s pos).2≤s.size:=by
    have:=Lib.decodeN_le_n' (s.size - pos) (s.get! pos).toNat (s.get! (pos+1)).toNat (s.get! (pos+2)).toNat (s.get! (pos+3)).toNat (by omega)
    rw [← Lib.decode_at] at this
    omega
   simp only [Lib.spansFromP,if_pos hlt]
   cases hsp:isBl (Utf8.decode s pos).1 with
   | true=>
    obtain ⟨h1,h2⟩:=blank_one s pos hlt hsp
    rw [h1];simp only [if_true];rw [h2]
    cases st with
    | none=>
     have ih:=spans_words s f (pos+1) none acc (by omega) (by omega) (fun a h=>by cases h)
     simpa [Lib.openPiece,wordsGo] using ih
    | some a=>
     have hpn:=Lib.pieceU_ne s.data.toList a pos (hst a rfl) (by rw [← Lib.size_eq];omega)
     have ih:=spans_words s f (pos+1) none (acc ++ [(a,pos)]) (by omega) (by omega) (fun a h=>by cases h)
     simpa [Lib.openPiece,hpn,wordsGo] using ih
   | false=>
    have hf:=conts_free s pos hlt hsp
    simp only [Bool.false_eq_true,if_false]
    have hsplit:s.data.toList.drop pos=(s.data.toList.drop pos).take (Utf8.decode s pos).2 ++ s.data.toList.drop (pos+(Utf8.decode s pos).2):=by
     rw [← List.drop_drop,List.take_append_drop]
    cases st with
    | none=>
     have ih:=spans_words s f (pos+(Utf8.decode s pos).2) (some pos) acc (by omega) hwn (fun a h=>by cases h;omega)
     have e:([]:Tx) ++ (s.data.toList.drop pos).take (Utf8.decode s pos).2=Lib.pieceU s.data.toList pos (pos+(Utf8.decode s pos).2):=by
      unfold Lib.pieceU;rw [List.nil_append,Nat.add_sub_cancel_left]
     simp only [Lib.openPiece] at ih ⊢;rw [hsplit,wordsGo_skip _ _ _ hf,e];exact ih
    | some a=>
     have ih:=spans_words s f (pos+(Utf8.decode s pos).2) (some a) acc (by omega) hwn (fun b h=>by cases h;have:=hst a rfl;omega)
     simp only [Lib.openPiece] at ih ⊢;rw [hsplit,wordsGo_skip _ _ _ hf,Lib.pieceU_grow _ _ _ _ (by have:=hst a rfl;omega)];exact ih
  ·have hd:s.data.toList.drop pos=[]:=List.drop_eq_nil_of_le (by rw [← Lib.size_eq];omega)
   obtain rfl:pos=s.size:=by omega
   rw [Lib.spansFromP_end _ _ _ _ _ _ hlt,hd,wordsGo]
   cases st with
   | none=>simp [Lib.closeSpans,Lib.openPiece]
   | some a=>
    have:=Lib.pieceU_ne s.data.toList a s.size (hst a rfl) (by rw [← Lib.size_eq];exact Nat.le_refl _)
    simp [Lib.closeSpans,Lib.openPiece,this]
theorem extract_piece (s:ByteArray) (a b:Nat):(s.extract a b).data.toList=Lib.pieceU s.data.toList a b:=by
 rw [Lib.extract_data];unfold Lib.pieceU;first | rfl | simp [List.take_drop]
theorem fields_words (t:Tx):(Lib.goFieldsP isBl (bs t)).map (fun x=>x.data.toList)=wordsT t:=by
 have h:=spans_words (bs t) (bs t).size 0 none [] (by omega) (by omega) (fun a h=>by cases h)
 simp only [Lib.openPiece,List.map_nil,List.nil_append,List.drop_zero,bs_data] at h;unfold Lib.goFieldsP Lib.spansOfP wordsT;rw [List.map_map,h];refine List.map_congr_left fun p _=>?_
 show ((bs t).extract p.1 p.2).data.toList=_
 rw [extract_piece,bs_data]
theorem mem_tw {x:UInt8}:∀ {l:Tx},x∈l.takeWhile (fun x=>x == 32)→x=32
 | y :: l,h=>by
  rw [List.takeWhile_cons] at h
  split at h
  ·rename_i hy
   rcases List.mem_cons.1 h with rfl | h
   ·simpa using hy
   ·exact mem_tw h
  ·cases h
theorem trimB_nil {t:Tx} (h:Lib.trimB t 32=[]):∀ x∈t,x=32:=by
 have h0:∀ (l:Tx),l.dropWhile (fun x=>x == 32)=[]→∀ x∈l,x=32:=fun l hl x hx=>by
  have:=(dropWhile_nil (p:=fun x:UInt8=>x == 32)).1 hl x hx
  simpa using this
 unfold Lib.trimB Lib.trimLeftB Lib.trimRightB at h
 have h1:=h0 _ h
 intro x hx
 by_cases hm:x∈t.reverse.dropWhile (fun x=>x == 32)
 ·exact h1 x (by simpa using hm)
 ·have h2:=List.takeWhile_append_dropWhile (p:=fun x:UInt8=>x == 32) (l:=t.reverse)
  have h3:x∈t.reverse.takeWhile (fun x=>x == 32):=by
   have:x∈t.reverse:=by simpa using hx
   rw [← h2,List.mem_append] at this;exact this.resolve_right hm
  exact mem_tw h3
theorem wordsGo_ne {c:UInt8}:∀ (l cur:Tx),cur≠[]→wordsGo c cur l≠[]
 | [],cur,h=>by unfold wordsGo;simp [h]
 | x :: l,cur,h=>by
  unfold wordsGo
  split
  ·simp [h]
  ·exact wordsGo_ne l _ (by simp)
theorem wordsT_nil:∀ (t:Tx),wordsT t=[]↔∀ x∈t,x=32
 | []=>by simp [wordsT,wordsGo]
 | x :: t=>by
  have ih:=wordsT_nil t
  unfold wordsT at ih ⊢;unfold wordsGo
  by_cases hx:x=32
  ·simp only [hx,if_true];rw [ih];simp
  ·rw [if_neg hx];refine ⟨fun h=>absurd h (wordsGo_ne _ _ (by simp)),fun h=>absurd (h x (by simp)) hx⟩
theorem trim_words (t:Tx):Lib.trimB t 32=[]↔wordsT t=[]:=by
 rw [wordsT_nil];refine ⟨trimB_nil,fun h=>?_⟩
 have h1:t.reverse.dropWhile (fun x=>x == 32)=[]:=(dropWhile_nil (p:=fun x:UInt8=>x == 32)).2 fun x hx=>by
  have:=h x (by simpa using hx)
  simp [this]
 unfold Lib.trimB Lib.trimRightB Lib.trimLeftB;rw [h1]
 rfl
theorem words_mem {c:UInt8}:∀ (l cur:Tx),∀ w∈wordsGo c cur l,w≠[]∧w.length≤cur.length+l.length
 | [],cur,w,h=>by
  unfold wordsGo at h
  split at h
  ·cases h
  ·rename_i hc
   obtain rfl:w=cur:=by simpa using h
   exact ⟨hc,by simp⟩
 | x :: l,cur,w,h=>by
  unfold wordsGo at h
  split at h
  ·split at h
   ·have:=words_mem l [] w h
    simp at this ⊢;exact ⟨this.1,by omega⟩
   ·rename_i hc
    rcases List.mem_cons.1 h with rfl | h
    ·exact ⟨hc,by simp⟩
    ·have:=words_mem l [] w h
     simp at this ⊢;exact ⟨this.1,by omega⟩
  ·have:=words_mem l (cur ++ [x]) w h
   simp at this ⊢;exact ⟨this.1,by omega⟩
theorem wordsT_mem {t w:Tx} (h:w∈wordsT t):w≠[]∧w.length≤t.length:=by
 have:=words_mem t [] w h
 simpa using this
theorem wordsGo_len {c:UInt8}:∀ (l cur:Tx),(wordsGo c cur l).length≤l.length+1
 | [],cur=>by unfold wordsGo;split<;>simp
 | x :: l,cur=>by
  unfold wordsGo
  split
  ·split
   ·have:=wordsGo_len (c:=c) l [];simp;omega
   ·have:=wordsGo_len (c:=c) l [];simp;omega
  ·have:=wordsGo_len (c:=c) l (cur ++ [x]);simp;omega
theorem wordsT_len (t:Tx):(wordsT t).length≤t.length+1:=wordsGo_len t []
theorem cutGo_len {c:UInt8}:∀ (l cur:Tx),(cutGo c cur l).length≤l.length+1
 | [],cur=>by simp [cutGo]
 | x :: l,cur=>by
  unfold cutGo
  split
  ·have:=cutGo_len (c:=c) l [];simp;omega
  ·have:=cutGo_len (c:=c) l (cur ++ [x]);simp;omega
theorem cutT_len (c:UInt8) (t:Tx):(cutT c t).length≤t.length+1:=cutGo_len t []
def placeK (l:List Tx) (k:Nat):Nat:=((l.take k).map fun s=>s.length+1).sum
theorem placeK_zero (l:List Tx):placeK l 0=0:=rfl
theorem placeK_succ {l:List Tx} {k:Nat} (h:k < l.length):placeK l (k+1)=placeK l k+l[k].length+1:=by
 unfold placeK;rw [List.take_succ_eq_append_getElem h,List.map_append,List.sum_append];simp;omega
theorem cutGo_sum {c:UInt8}:∀ (l cur:Tx),((cutGo c cur l).map fun s=>s.length+1).sum=cur.length+l.length+1
 | [],cur=>by simp [cutGo]
 | x :: l,cur=>by
  unfold cutGo
  split
  ·rw [List.map_cons,List.sum_cons,cutGo_sum l []];simp;omega
  ·rw [cutGo_sum l (cur ++ [x])];simp;omega
theorem sum_take_le (l:List Nat) (k:Nat):(l.take k).sum≤l.sum:=by
 have h:=List.take_append_drop k l
 have:=congrArg List.sum h
 rw [List.sum_append] at this
 omega
theorem placeK_le (c:UInt8) (t:Tx) (k:Nat):placeK (cutT c t) k≤t.length+1:=by
 have h:=cutGo_sum (c:=c) t []
 unfold placeK cutT;rw [List.map_take]
 have:=sum_take_le ((cutGo c [] t).map fun s=>s.length+1) k
 simp at h
 omega
theorem piece_le {c:UInt8} {t:Tx} {k:Nat} (h:k < (cutT c t).length):placeK (cutT c t) k+((cutT c t)[k]).length≤t.length:=by
 have h1:=placeK_succ h
 have h2:=placeK_le c t (k+1)
 omega
end Go.Proofs.YtpboiimemmfkiaaGreatDoor
