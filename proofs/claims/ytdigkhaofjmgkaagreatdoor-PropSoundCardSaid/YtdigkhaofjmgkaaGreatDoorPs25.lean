/-
  Texts that belong together,in one file: PM0.
-/
import Derived.Test.YtdigkhaofjmgkaaGreatDoorPs21
import Derived.Lib.SplitLaws
import Derived.Lib.FieldsP
import Derived.Lib.SpaceUEq
import Derived.Lib.TrimByte
import Derived.Lib.CutLaws
set_option linter.unusedSimpArgs false
set_option linter.unusedVariables false
namespace Go.Proofs.YtdigkhaofjmgkaaGreatDoor
open Go.Av
def gJ (c:UInt8):Tx->Tx->List Tx
 | cur,[]=>[cur]
 | cur,x :: l=>if x=c then cur :: gJ c [] l else gJ c (cur ++ [x]) l
def cT (c:UInt8) (t:Tx):List Tx:=gJ c [] t
def ZH (c:UInt8):Tx->Tx->List Tx
 | cur,[]=>if cur=[] then [] else [cur]
 | cur,x :: l=>if x=c then (if cur=[] then ZH c [] l else cur :: ZH c [] l) else ZH c (cur ++ [x]) l
def eb (t:Tx):List Tx:=ZH 32 [] t
theorem acX {c:UInt8}:∀ (l cur:Tx),gJ c cur l≠[]
 | [],cur=>by unfold gJ;simp
 | x :: l,cur=>by
  unfold gJ;split
  .simp
  .exact acX l _
theorem DX {c:UInt8}:∀ (l cur:Tx),c ∉ l->gJ c cur l=[cur ++ l]
 | [],cur,_=>by simp [gJ]
 | x :: l,cur,h=>by
  have hx:x≠c:=fun e=>h (by simp [e]);unfold gJ;rw [if_neg hx,DX l _ (fun e=>h (by simp [e]))];simp
theorem DY {c:UInt8}:∀ (l cur r:Tx),c ∉ l->gJ c cur (l ++ c :: r)=(cur ++ l) :: gJ c [] r
 | [],cur,r,_=>by simp [gJ]
 | x :: l,cur,r,h=>by
  have hx:x≠c:=fun e=>h (by simp [e]);rw [List.cons_append,gJ,if_neg hx,DY l _ r (fun e=>h (by simp [e]))];simp
theorem LP {c:UInt8} {t:Tx} (h:c ∉ t):cT c t=[t]:=by unfold cT;rw [DX t [] h];rfl
theorem DZ {c:UInt8} {a b:Tx} (h:c ∉ a):cT c (a ++ c :: b)=a :: cT c b:=by unfold cT;rw [DY a [] b h];rfl
theorem uP {c:UInt8}:∀ (x cur l:Tx),c ∉ x->ZH c cur (x ++ l)=ZH c (cur ++ x) l
 | [],cur,l,_=>by simp
 | y :: x,cur,l,h=>by
  have hy:y≠c:=fun e=>h (by simp [e]);rw [List.cons_append]
  conv=>lhs;unfold ZH
  rw [if_neg hy,uP x _ l (fun e=>h (by simp [e]))];simp
theorem Bw {c:UInt8}:∀ {t:Tx},c ∉ t->Lib.index t [c] = -1
 | [],_=>rfl
 | x :: t,h=>by
  have hx:x≠c:=fun e=>h (by simp [e]);unfold Lib.index;rw [Bw (t:=t) (fun e=>h (by simp [e]))];simp [List.isPrefixOf,Ne.symm hx]
theorem Bx {c:UInt8}:∀ {a:Tx} (b:Tx),c ∉ a->Lib.index (a ++ c :: b) [c]=(a.length:Int)
 | [],b,_=>by
  rw [List.nil_append];unfold Lib.index;simp [List.isPrefixOf]
 | x :: a,b,h=>by
  have hx:x≠c:=fun e=>h (by simp [e]);rw [List.cons_append];unfold Lib.index;rw [Bx (a:=a) b (fun e=>h (by simp [e]))]
  have h1:((a.length:Int) == -1)=false:=by rw [beq_eq_false_iff_ne];omega
  simp [List.isPrefixOf,Ne.symm hx,h1]
def cutAt (c:UInt8) (t:Tx):Tx×Tx:=(t.takeWhile (fun x=>!decide (x=c)),(t.dropWhile (fun x=>!decide (x=c))).drop 1)
theorem abZ {c:UInt8} {a b:Tx} (h:c ∉ a):cutAt c (a ++ c :: b)=(a,b):=by
 unfold cutAt
 have h1:∀ x∈a,(!decide (x=c))=true:=fun x hx=>by
  have:x≠c:=fun e=>h (e ▸ hx);simp [this]
 rw [List.takeWhile_append_of_pos h1,List.dropWhile_append_of_pos h1];simp
theorem LN {c:UInt8} {t:Tx} (h:c∈t):t=(cutAt c t).1 ++ c :: (cutAt c t).2/\c ∉ (cutAt c t).1:=by
 obtain ⟨a,b,rfl,ha⟩:=List.eq_append_cons_of_mem h;rw [abZ ha];exact ⟨rfl,ha⟩
theorem LQ (c:UInt8) (t:Tx):Lib.cut t [c]=if c∈t then ((cutAt c t).1,(cutAt c t).2,true) else (t,[],false):=by
 split
 .rename_i h;obtain ⟨a,b,rfl,ha⟩:=List.eq_append_cons_of_mem h;rw [abZ ha];unfold Lib.cut;rw [Bx b ha,if_pos (by omega)];simp
 .rename_i h;unfold Lib.cut;rw [Bw h];simp
def kW (r:Nat):Bool:=decide (r=32)
theorem LG (s:ByteArray) (pos:Nat) (Yw:pos < s.size) (h:kW (Utf8.decode s pos).1=false):(32:UInt8) ∉ (s.data.toList.drop pos).take (Utf8.decode s pos).2:=by
 intro hm;obtain ⟨j,hj,he⟩:=List.mem_iff_getElem.1 hm;rw [List.length_take,List.length_drop] at hj;rw [List.getElem_take,List.getElem_drop] at he
 have hg:s.data.toList.getD (pos+j) 0=32:=by rw [List.getD_eq_getElem?_getD,List.getElem?_eq_getElem (by omega),he];rfl
 have hw:Utf8.decode s pos=_:=Lib.decode_N s pos
 have hc:=Lib.decodeN_conts (s.data.toList.length - pos) (s.data.toList.getD pos 0).toNat (s.data.toList.getD (pos+1) 0).toNat (s.data.toList.getD (pos+2) 0).toNat (s.data.toList.getD (pos+3) 0).toNat
 rw [<- hw] at hc;obtain ⟨c1,c2,c3,c4⟩:=hc
 have fY:j < (Utf8.decode s pos).2:=by omega
 have gn:(32:UInt8).toNat=32:=rfl
 rcases Nat.lt_or_ge j 1 with gu | gu
 .obtain rfl:j=0:=by omega
  rw [Nat.add_zero] at hg;rw [hg,gn,Lib.decodeN_ascii _ _ _ _ _ (by omega)] at hw;rw [hw] at h;simp [kW] at h
 .obtain rfl | rfl | rfl:j=1\/j=2\/j=3:=by omega
  .have:=(c1 (by omega)).1;rw [hg,gn] at this;omega
  .have:=(c2 (by omega)).1;rw [hg,gn] at this;omega
  .have:=(c3 (by omega)).1;rw [hg,gn] at this;omega
theorem adE (s:ByteArray) (pos:Nat) (Yw:pos < s.size) (h:kW (Utf8.decode s pos).1=true):(Utf8.decode s pos).2=1/\s.data.toList.drop pos=32 :: s.data.toList.drop (pos+1):=by
 have hl:pos < s.data.toList.length:=by rw [<- Lib.size_eq];exact Yw
 have hw:Utf8.decode s pos=_:=Lib.decode_N s pos
 have hg:s.data.toList.getD pos 0=s.data.toList[pos]:=by rw [List.getD_eq_getElem?_getD,List.getElem?_eq_getElem hl];rfl
 have gn:(Utf8.decode s pos).1=32:=by simpa [kW] using h
 rcases Lib.decodeN_cases (s.data.toList.length - pos) (s.data.toList.getD pos 0).toNat (s.data.toList.getD (pos+1) 0).toNat (s.data.toList.getD (pos+2) 0).toNat (s.data.toList.getD (pos+3) 0).toNat with ⟨c,e⟩ | ⟨c1,c2,c3,cv,e⟩ | ⟨c1,c2,c3,c4,cv,e⟩ | ⟨c,e⟩ | e
 .rw [e] at hw;rw [hw] at gn ⊢;refine ⟨rfl,?_⟩;dsimp only at gn;rw [List.drop_eq_getElem_cons hl,<- hg];have:s.data.toList.getD pos 0=32:=UInt8.toNat.inj (by rw [gn];rfl);rw [this]
 .rw [hw,e] at gn;dsimp only at gn;omega
 .rw [hw,e] at gn;dsimp only at gn;omega
 .rw [hw] at gn;omega
 .rw [hw,e] at gn;dsimp only at gn;omega
theorem uC (s:ByteArray):∀ (f pos:Nat) (st:Option Nat) (acc:List (Nat×Nat)),s.size<=pos+f->pos<=s.size->(∀ a,st=some a->a < pos)->
  acc.map (fun p=>Lib.pieceU s.data.toList p.1 p.2) ++ ZH 32 (Lib.openPiece s.data.toList st pos) (s.data.toList.drop pos)=(Lib.closeSpans s (Lib.spansFromP kW s f pos st acc)).map (fun p=>Lib.pieceU s.data.toList p.1 p.2)
 | 0,pos,st,acc,h,hp,bw=>by
  obtain rfl:pos=s.size:=by omega
  have hd:s.data.toList.drop s.size=[]:=List.drop_eq_nil_of_le (by rw [<- Lib.size_eq];exact Nat.le_refl _);rw [hd,ZH]
  cases st with
  | none=>simp [Lib.spansFromP,Lib.closeSpans,Lib.openPiece]
  | some a=>
   have:=Lib.pieceU_ne s.data.toList a s.size (bw a rfl) (by rw [<- Lib.size_eq];exact Nat.le_refl _);simp [Lib.spansFromP,Lib.closeSpans,Lib.openPiece,this]
 | f+1,pos,st,acc,h,hp,bw=>by
  by_cases Yw:pos < s.size
  .have hw:=Lib.width_pos s pos
   have GC:pos+(Utf8.decode s pos).2<=s.size:=by
    have:=Lib.decodeN_le_n' (s.size - pos) (s.get! pos).toNat (s.get! (pos+1)).toNat (s.get! (pos+2)).toNat (s.get! (pos+3)).toNat (by omega);rw [<- Lib.decode_at] at this;omega
   simp only [Lib.spansFromP,if_pos Yw]
   cases Gs:kW (Utf8.decode s pos).1 with
   | true=>
    obtain ⟨h1,h2⟩:=adE s pos Yw Gs;rw [h1];simp only [if_true];rw [h2]
    cases st with
    | none=>
     have ih:=uC s f (pos+1) none acc (by omega) (by omega) (fun a h=>by cases h);simpa [Lib.openPiece,ZH] using ih
    | some a=>
     have hpn:=Lib.pieceU_ne s.data.toList a pos (bw a rfl) (by rw [<- Lib.size_eq];omega);have ih:=uC s f (pos+1) none (acc ++ [(a,pos)]) (by omega) (by omega) (fun a h=>by cases h);simpa [Lib.openPiece,hpn,ZH] using ih
   | false=>
    have hf:=LG s pos Yw Gs;simp only [Bool.false_eq_true,if_false]
    have Gt:s.data.toList.drop pos=(s.data.toList.drop pos).take (Utf8.decode s pos).2 ++ s.data.toList.drop (pos+(Utf8.decode s pos).2):=by
     rw [<- List.drop_drop,List.take_append_drop]
    cases st with
    | none=>
     have ih:=uC s f (pos+(Utf8.decode s pos).2) (some pos) acc (by omega) GC (fun a h=>by cases h;omega)
     have e:([]:Tx) ++ (s.data.toList.drop pos).take (Utf8.decode s pos).2=Lib.pieceU s.data.toList pos (pos+(Utf8.decode s pos).2):=by
      unfold Lib.pieceU;rw [List.nil_append,Nat.add_sub_cancel_left]
     simp only [Lib.openPiece] at ih ⊢;rw [Gt,uP _ _ _ hf,e];exact ih
    | some a=>
     have ih:=uC s f (pos+(Utf8.decode s pos).2) (some a) acc (by omega) GC (fun b h=>by cases h;have:=bw a rfl;omega);simp only [Lib.openPiece] at ih ⊢;rw [Gt,uP _ _ _ hf,Lib.pieceU_grow _ _ _ _ (by have:=bw a rfl;omega)];exact ih
  .have hd:s.data.toList.drop pos=[]:=List.drop_eq_nil_of_le (by rw [<- Lib.size_eq];omega)
   obtain rfl:pos=s.size:=by omega
   rw [Lib.spansFromP_end _ _ _ _ _ _ Yw,hd,ZH]
   cases st with
   | none=>simp [Lib.closeSpans,Lib.openPiece]
   | some a=>
    have:=Lib.pieceU_ne s.data.toList a s.size (bw a rfl) (by rw [<- Lib.size_eq];exact Nat.le_refl _);simp [Lib.closeSpans,Lib.openPiece,this]
theorem Mt (s:ByteArray) (a b:Nat):(s.extract a b).data.toList=Lib.pieceU s.data.toList a b:=by
 rw [Lib.extract_data];unfold Lib.pieceU;first | rfl | simp [List.take_drop]
theorem ED (t:Tx):(Lib.goFieldsP kW (bs t)).map (fun x=>x.data.toList)=eb t:=by
 have h:=uC (bs t) (bs t).size 0 none [] (by omega) (by omega) (fun a h=>by cases h);simp only [Lib.openPiece,List.map_nil,List.nil_append,List.drop_zero,de] at h;unfold Lib.goFieldsP Lib.spansOfP eb;rw [List.map_map,h];refine List.map_congr_left fun p _=>?_;show ((bs t).extract p.1 p.2).data.toList=_;rw [Mt,de]
theorem Hk {x:UInt8}:∀ {l:Tx},x∈l.takeWhile (fun x=>x == 32)->x=32
 | y :: l,h=>by
  rw [List.takeWhile_cons] at h;split at h
  .rename_i hy
   rcases List.mem_cons.1 h with rfl | h
   .simpa using hy
   .exact Hk h
  .cases h
theorem Wl {t:Tx} (h:Lib.trimB t 32=[]):∀ x∈t,x=32:=by
 have h0:∀ (l:Tx),l.dropWhile (fun x=>x == 32)=[]->∀ x∈l,x=32:=fun l hl x hx=>by
  have:=(dropWhile_nil (p:=fun x:UInt8=>x == 32)).1 hl x hx;simpa using this
 unfold Lib.trimB Lib.trimLeftB Lib.trimRightB at h;have h1:=h0 _ h;intro x hx;by_cases hm:x∈t.reverse.dropWhile (fun x=>x == 32)
 .exact h1 x (by simpa using hm)
 .have h2:=List.takeWhile_append_dropWhile (p:=fun x:UInt8=>x == 32) (l:=t.reverse)
  have h3:x∈t.reverse.takeWhile (fun x=>x == 32):=by
   have:x∈t.reverse:=by simpa using hx
   rw [<- h2,List.mem_append] at this;exact this.resolve_right hm
  exact Hk h3
theorem JI {c:UInt8}:∀ (l cur:Tx),cur≠[]->ZH c cur l≠[]
 | [],cur,h=>by unfold ZH;simp [h]
 | x :: l,cur,h=>by
  unfold ZH;split
  .simp [h]
  .exact JI l _ (by simp)
theorem Db:∀ (t:Tx),eb t=[]↔∀ x∈t,x=32
 | []=>by simp [eb,ZH]
 | x :: t=>by
  have ih:=Db t;unfold eb at ih ⊢;unfold ZH;by_cases hx:x=32
  .simp only [hx,if_true];rw [ih];simp
  .rw [if_neg hx];refine ⟨fun h=>absurd h (JI _ _ (by simp)),fun h=>absurd (h x (by simp)) hx⟩
theorem Wn (t:Tx):Lib.trimB t 32=[]↔eb t=[]:=by
 rw [Db];refine ⟨Wl,fun h=>?_⟩
 have h1:t.reverse.dropWhile (fun x=>x == 32)=[]:=(dropWhile_nil (p:=fun x:UInt8=>x == 32)).2 fun x hx=>by
  have:=h x (by simpa using hx);simp [this]
 unfold Lib.trimB Lib.trimRightB Lib.trimLeftB;rw [h1];rfl
theorem x7 {c:UInt8}:∀ (l cur:Tx),∀ w∈ZH c cur l,w≠[]/\w.length<=cur.length+l.length
 | [],cur,w,h=>by
  unfold ZH at h;split at h
  .cases h
  .rename_i hc
   obtain rfl:w=cur:=by simpa using h
   exact ⟨hc,by simp⟩
 | x :: l,cur,w,h=>by
  unfold ZH at h;split at h
  .split at h
   .have:=x7 l [] w h;simp at this ⊢;exact ⟨this.1,by omega⟩
   .rename_i hc
    rcases List.mem_cons.1 h with rfl | h
    .exact ⟨hc,by simp⟩
    .have:=x7 l [] w h;simp at this ⊢;exact ⟨this.1,by omega⟩
  .have:=x7 l (cur ++ [x]) w h;simp at this ⊢;exact ⟨this.1,by omega⟩
theorem Da {t w:Tx} (h:w∈eb t):w≠[]/\w.length<=t.length:=by
 have:=x7 t [] w h;simpa using this
theorem x5 {c:UInt8}:∀ (l cur:Tx),(ZH c cur l).length<=l.length+1
 | [],cur=>by unfold ZH;split<;>simp
 | x :: l,cur=>by
  unfold ZH;split
  .split
   .have:=x5 (c:=c) l [];simp;omega
   .have:=x5 (c:=c) l [];simp;omega
  .have:=x5 (c:=c) l (cur ++ [x]);simp;omega
theorem C9 (t:Tx):(eb t).length<=t.length+1:=x5 t []
theorem acW {c:UInt8}:∀ (l cur:Tx),(gJ c cur l).length<=l.length+1
 | [],cur=>by simp [gJ]
 | x :: l,cur=>by
  unfold gJ;split
  .have:=acW (c:=c) l [];simp;omega
  .have:=acW (c:=c) l (cur ++ [x]);simp;omega
theorem LO (c:UInt8) (t:Tx):(cT c t).length<=t.length+1:=acW t []
def gW (l:List Tx) (k:Nat):Nat:=((l.take k).map fun s=>s.length+1).sum
theorem SF (l:List Tx):gW l 0=0:=rfl
theorem H4 {l:List Tx} {k:Nat} (h:k < l.length):gW l (k+1)=gW l k+l[k].length+1:=by
 unfold gW;rw [List.take_succ_eq_append_getElem h,List.map_append,List.sum_append];simp;omega
theorem acY {c:UInt8}:∀ (l cur:Tx),((gJ c cur l).map fun s=>s.length+1).sum=cur.length+l.length+1
 | [],cur=>by simp [gJ]
 | x :: l,cur=>by
  unfold gJ;split
  .rw [List.map_cons,List.sum_cons,acY l []];simp;omega
  .rw [acY l (cur ++ [x])];simp;omega
theorem VJ (l:List Nat) (k:Nat):(l.take k).sum<=l.sum:=by
 have h:=List.take_append_drop k l;have:=congrArg List.sum h;rw [List.sum_append] at this;omega
theorem SE (c:UInt8) (t:Tx) (k:Nat):gW (cT c t) k<=t.length+1:=by
 have h:=acY (c:=c) t [];unfold gW cT;rw [List.map_take];have:=VJ ((gJ c [] t).map fun s=>s.length+1) k;simp at h;omega
theorem HZ {c:UInt8} {t:Tx} {k:Nat} (h:k < (cT c t).length):gW (cT c t) k+((cT c t)[k]).length<=t.length:=by
 have h1:=H4 h;have h2:=SE c t (k+1);omega
end Go.Proofs.YtdigkhaofjmgkaaGreatDoor
