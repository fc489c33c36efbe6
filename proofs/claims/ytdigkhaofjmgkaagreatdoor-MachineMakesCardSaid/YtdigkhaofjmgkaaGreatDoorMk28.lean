/-
  Texts that belong together,in one file: PM0.
-/
import Derived.Test.YtdigkhaofjmgkaaGreatDoorMk23
import Derived.Lib.SplitLaws
import Derived.Lib.FieldsP
import Derived.Lib.SpaceUEq
import Derived.Lib.TrimByte
import Derived.Lib.CutLaws
set_option linter.unusedSimpArgs false
set_option linter.unusedVariables false
namespace Go.Proofs.YtdigkhaofjmgkaaGreatDoor
open Go.Av
def abp (c:UInt8):Tx->Tx->List Tx
 | cur,[]=>[cur]
 | cur,x :: l=>if x=c then cur :: abp c [] l else abp c (cur ++ [x]) l
def cU (c:UInt8) (t:Tx):List Tx:=abp c [] t
def gA (c:UInt8):Tx->Tx->List Tx
 | cur,[]=>if cur=[] then [] else [cur]
 | cur,x :: l=>if x=c then (if cur=[] then gA c [] l else cur :: gA c [] l) else gA c (cur ++ [x]) l
def fe (t:Tx):List Tx:=gA 32 [] t
theorem Am (c:UInt8):∀ (l cur:Tx),(abp c cur l).filter (fun w=>decide (w≠[]))=gA c cur l
 | [],cur=>by
  unfold abp gA;by_cases h:cur=[]<;>simp [h]
 | x :: l,cur=>by
  unfold abp gA;split
  .rw [List.filter_cons,Am c l []];by_cases h:cur=[]<;>simp [h]
  .exact Am c l _
theorem Bb {c:UInt8}:∀ (l cur:Tx),abp c cur l≠[]
 | [],cur=>by unfold abp;simp
 | x :: l,cur=>by
  unfold abp;split
  .simp
  .exact Bb l _
theorem FY {c:UInt8}:∀ (l cur:Tx),c ∉ l->abp c cur l=[cur ++ l]
 | [],cur,_=>by simp [abp]
 | x :: l,cur,h=>by
  have hx:x≠c:=fun e=>h (by simp [e]);unfold abp;rw [if_neg hx,FY l _ (fun e=>h (by simp [e]))];simp
theorem FZ {c:UInt8}:∀ (l cur r:Tx),c ∉ l->abp c cur (l ++ c :: r)=(cur ++ l) :: abp c [] r
 | [],cur,r,_=>by simp [abp]
 | x :: l,cur,r,h=>by
  have hx:x≠c:=fun e=>h (by simp [e]);rw [List.cons_append,abp,if_neg hx,FZ l _ r (fun e=>h (by simp [e]))];simp
theorem F0 {c:UInt8} {t:Tx} (h:c ∉ t):cU c t=[t]:=by unfold cU;rw [FY t [] h];rfl
theorem F1 {c:UInt8} {a b:Tx} (h:c ∉ a):cU c (a ++ c :: b)=a :: cU c b:=by unfold cU;rw [FZ a [] b h];rfl
theorem E8 {c:UInt8}:∀ (x cur l:Tx),c ∉ x->gA c cur (x ++ l)=gA c (cur ++ x) l
 | [],cur,l,_=>by simp
 | y :: x,cur,l,h=>by
  have hy:y≠c:=fun e=>h (by simp [e]);rw [List.cons_append]
  conv=>lhs;unfold gA
  rw [if_neg hy,E8 x _ l (fun e=>h (by simp [e]))];simp
theorem yW {c:UInt8}:∀ {t:Tx},c ∉ t->Lib.index t [c] = -1
 | [],_=>rfl
 | x :: t,h=>by
  have hx:x≠c:=fun e=>h (by simp [e]);unfold Lib.index;rw [yW (t:=t) (fun e=>h (by simp [e]))];simp [List.isPrefixOf,Ne.symm hx]
theorem wm {c:UInt8}:∀ {a:Tx} (b:Tx),c ∉ a->Lib.index (a ++ c :: b) [c]=(a.length:Int)
 | [],b,_=>by
  rw [List.nil_append];unfold Lib.index;simp [List.isPrefixOf]
 | x :: a,b,h=>by
  have hx:x≠c:=fun e=>h (by simp [e]);rw [List.cons_append];unfold Lib.index;rw [wm (a:=a) b (fun e=>h (by simp [e]))]
  have h1:((a.length:Int) == -1)=false:=by rw [beq_eq_false_iff_ne];omega
  simp [List.isPrefixOf,Ne.symm hx,h1]
theorem WK (c:UInt8):∀ (n:Nat) (t:Tx),t.length<=n->Lib.splitK [c] 0 (t.count c) t=cU c t:=by
 intro n
 induction n with
 | zero=>
  intro t h;obtain rfl:t=[]:=List.length_eq_zero_iff.1 (by omega);rfl
 | succ n ih=>
  intro t h;by_cases hc:c∈t
  .obtain ⟨a,b,rfl,ha⟩:=List.eq_append_cons_of_mem hc
   have PD:(a ++ c :: b).count c=b.count c+1:=by
    rw [List.count_append,List.count_eq_zero.2 ha,List.count_cons];simp
   rw [PD,Lib.splitK,wm b ha,F1 ha]
   have h1:((a.length:Int) == -1)=false:=by rw [beq_eq_false_iff_ne];omega
   have hb:b.length<=n:=by simp at h;omega
   simp [h1,ih b hb]
  .rw [List.count_eq_zero.2 hc,F0 hc];rfl
theorem KG (c:UInt8) (t:Tx):(Lib.splitB (bs [c]) 0 (Lib.countB (bs t) (bs [c])) (bs t)).map (fun x=>x.data.toList)=cU c t:=by
 rw [Lib.splitB_data,aao,aao]
 have:Lib.countB (bs t) (bs [c])=t.count c:=by
  show Lib.count (bs t).data.toList (bs [c]).data.toList=_;rw [aao,aao,Lib.count_one]
 rw [this];exact WK c _ t (Nat.le_refl _)
theorem WN (c:UInt8) (t:Tx):Lib.countB (bs t) (bs [c])+1=(cU c t).length:=by
 rw [<- KG,List.length_map,Lib.splitB_all (bs [c]) (by rw [bh];simp) 0 _ (bs t) rfl]
def cutAt (c:UInt8) (t:Tx):Tx×Tx:=(t.takeWhile (fun x=>!decide (x=c)),(t.dropWhile (fun x=>!decide (x=c))).drop 1)
theorem sr {c:UInt8} {a b:Tx} (h:c ∉ a):cutAt c (a ++ c :: b)=(a,b):=by
 unfold cutAt
 have h1:∀ x∈a,(!decide (x=c))=true:=fun x hx=>by
  have:x≠c:=fun e=>h (e ▸ hx);simp [this]
 rw [List.takeWhile_append_of_pos h1,List.dropWhile_append_of_pos h1];simp
theorem Ni {c:UInt8} {t:Tx} (h:c∈t):t=(cutAt c t).1 ++ c :: (cutAt c t).2/\c ∉ (cutAt c t).1:=by
 obtain ⟨a,b,rfl,ha⟩:=List.eq_append_cons_of_mem h;rw [sr ha];exact ⟨rfl,ha⟩
theorem Nj (c:UInt8) (t:Tx):Lib.cut t [c]=if c∈t then ((cutAt c t).1,(cutAt c t).2,true) else (t,[],false):=by
 split
 .rename_i h;obtain ⟨a,b,rfl,ha⟩:=List.eq_append_cons_of_mem h;rw [sr ha];unfold Lib.cut;rw [wm b ha,if_pos (by omega)];simp
 .rename_i h;unfold Lib.cut;rw [yW h];simp
def acG (r:Nat):Bool:=decide (r=32)
theorem Nb (s:ByteArray) (pos:Nat) (ax:pos < s.size) (h:acG (Utf8.decode s pos).1=false):(32:UInt8) ∉ (s.data.toList.drop pos).take (Utf8.decode s pos).2:=by
 intro hm;obtain ⟨j,hj,he⟩:=List.mem_iff_getElem.1 hm;rw [List.length_take,List.length_drop] at hj;rw [List.getElem_take,List.getElem_drop] at he
 have hg:s.data.toList.getD (pos+j) 0=32:=by rw [List.getD_eq_getElem?_getD,List.getElem?_eq_getElem (by omega),he];rfl
 have hw:Utf8.decode s pos=_:=Lib.decode_N s pos
 have hc:=Lib.decodeN_conts (s.data.toList.length - pos) (s.data.toList.getD pos 0).toNat (s.data.toList.getD (pos+1) 0).toNat (s.data.toList.getD (pos+2) 0).toNat (s.data.toList.getD (pos+3) 0).toNat
 rw [<- hw] at hc;obtain ⟨c1,c2,c3,c4⟩:=hc
 have hC:j < (Utf8.decode s pos).2:=by omega
 have fX:(32:UInt8).toNat=32:=rfl
 rcases Nat.lt_or_ge j 1 with hj1 | hj1
 .obtain rfl:j=0:=by omega
  rw [Nat.add_zero] at hg;rw [hg,fX,Lib.decodeN_ascii _ _ _ _ _ (by omega)] at hw;rw [hw] at h;simp [acG] at h
 .obtain rfl | rfl | rfl:j=1\/j=2\/j=3:=by omega
  .have:=(c1 (by omega)).1;rw [hg,fX] at this;omega
  .have:=(c2 (by omega)).1;rw [hg,fX] at this;omega
  .have:=(c3 (by omega)).1;rw [hg,fX] at this;omega
theorem MD (s:ByteArray) (pos:Nat) (ax:pos < s.size) (h:acG (Utf8.decode s pos).1=true):(Utf8.decode s pos).2=1/\s.data.toList.drop pos=32 :: s.data.toList.drop (pos+1):=by
 have hl:pos < s.data.toList.length:=by rw [<- Lib.size_eq];exact ax
 have hw:Utf8.decode s pos=_:=Lib.decode_N s pos
 have hg:s.data.toList.getD pos 0=s.data.toList[pos]:=by rw [List.getD_eq_getElem?_getD,List.getElem?_eq_getElem hl];rfl
 have fX:(Utf8.decode s pos).1=32:=by simpa [acG] using h
 rcases Lib.decodeN_cases (s.data.toList.length - pos) (s.data.toList.getD pos 0).toNat (s.data.toList.getD (pos+1) 0).toNat (s.data.toList.getD (pos+2) 0).toNat (s.data.toList.getD (pos+3) 0).toNat with ⟨c,e⟩ | ⟨c1,c2,c3,cv,e⟩ | ⟨c1,c2,c3,c4,cv,e⟩ | ⟨c,e⟩ | e
 .rw [e] at hw;rw [hw] at fX ⊢;refine ⟨rfl,?_⟩;dsimp only at fX;rw [List.drop_eq_getElem_cons hl,<- hg];have:s.data.toList.getD pos 0=32:=UInt8.toNat.inj (by rw [fX];rfl);rw [this]
 .rw [hw,e] at fX;dsimp only at fX;omega
 .rw [hw,e] at fX;dsimp only at fX;omega
 .rw [hw] at fX;omega
 .rw [hw,e] at fX;dsimp only at fX;omega
theorem aeu (s:ByteArray):∀ (f pos:Nat) (st:Option Nat) (acc:List (Nat×Nat)),s.size<=pos+f->pos<=s.size->(∀ a,st=some a->a < pos)->
  acc.map (fun p=>Lib.pieceU s.data.toList p.1 p.2) ++ gA 32 (Lib.openPiece s.data.toList st pos) (s.data.toList.drop pos)=(Lib.closeSpans s (Lib.spansFromP acG s f pos st acc)).map (fun p=>Lib.pieceU s.data.toList p.1 p.2)
 | 0,pos,st,acc,h,hp,dO=>by
  obtain rfl:pos=s.size:=by omega
  have hd:s.data.toList.drop s.size=[]:=List.drop_eq_nil_of_le (by rw [<- Lib.size_eq];exact Nat.le_refl _);rw [hd,gA]
  cases st with
  | none=>simp [Lib.spansFromP,Lib.closeSpans,Lib.openPiece]
  | some a=>
   have:=Lib.pieceU_ne s.data.toList a s.size (dO a rfl) (by rw [<- Lib.size_eq];exact Nat.le_refl _);simp [Lib.spansFromP,Lib.closeSpans,Lib.openPiece,this]
 | f+1,pos,st,acc,h,hp,dO=>by
  by_cases ax:pos < s.size
  .have hw:=Lib.width_pos s pos
   have wb:pos+(Utf8.decode s pos).2<=s.size:=by
    have:=Lib.decodeN_le_n' (s.size - pos) (s.get! pos).toNat (s.get! (pos+1)).toNat (s.get! (pos+2)).toNat (s.get! (pos+3)).toNat (by omega);rw [<- Lib.decode_at] at this;omega
   simp only [Lib.spansFromP,if_pos ax]
   cases oM:acG (Utf8.decode s pos).1 with
   | true=>
    obtain ⟨h1,h2⟩:=MD s pos ax oM;rw [h1];simp only [if_true];rw [h2]
    cases st with
    | none=>
     have ih:=aeu s f (pos+1) none acc (by omega) (by omega) (fun a h=>by cases h);simpa [Lib.openPiece,gA] using ih
    | some a=>
     have CN:=Lib.pieceU_ne s.data.toList a pos (dO a rfl) (by rw [<- Lib.size_eq];omega);have ih:=aeu s f (pos+1) none (acc ++ [(a,pos)]) (by omega) (by omega) (fun a h=>by cases h);simpa [Lib.openPiece,CN,gA] using ih
   | false=>
    have hf:=Nb s pos ax oM;simp only [Bool.false_eq_true,if_false]
    have HL:s.data.toList.drop pos=(s.data.toList.drop pos).take (Utf8.decode s pos).2 ++ s.data.toList.drop (pos+(Utf8.decode s pos).2):=by
     rw [<- List.drop_drop,List.take_append_drop]
    cases st with
    | none=>
     have ih:=aeu s f (pos+(Utf8.decode s pos).2) (some pos) acc (by omega) wb (fun a h=>by cases h;omega)
     have e:([]:Tx) ++ (s.data.toList.drop pos).take (Utf8.decode s pos).2=Lib.pieceU s.data.toList pos (pos+(Utf8.decode s pos).2):=by
      unfold Lib.pieceU;rw [List.nil_append,Nat.add_sub_cancel_left]
     simp only [Lib.openPiece] at ih ⊢;rw [HL,E8 _ _ _ hf,e];exact ih
    | some a=>
     have ih:=aeu s f (pos+(Utf8.decode s pos).2) (some a) acc (by omega) wb (fun b h=>by cases h;have:=dO a rfl;omega);simp only [Lib.openPiece] at ih ⊢;rw [HL,E8 _ _ _ hf,Lib.pieceU_grow _ _ _ _ (by have:=dO a rfl;omega)];exact ih
  .have hd:s.data.toList.drop pos=[]:=List.drop_eq_nil_of_le (by rw [<- Lib.size_eq];omega)
   obtain rfl:pos=s.size:=by omega
   rw [Lib.spansFromP_end _ _ _ _ _ _ ax,hd,gA]
   cases st with
   | none=>simp [Lib.closeSpans,Lib.openPiece]
   | some a=>
    have:=Lib.pieceU_ne s.data.toList a s.size (dO a rfl) (by rw [<- Lib.size_eq];exact Nat.le_refl _);simp [Lib.closeSpans,Lib.openPiece,this]
theorem N8 (s:ByteArray) (a b:Nat):(s.extract a b).data.toList=Lib.pieceU s.data.toList a b:=by
 rw [Lib.extract_data];unfold Lib.pieceU;first | rfl | simp [List.take_drop]
theorem Gq (t:Tx):(Lib.goFieldsP acG (bs t)).map (fun x=>x.data.toList)=fe t:=by
 have h:=aeu (bs t) (bs t).size 0 none [] (by omega) (by omega) (fun a h=>by cases h);simp only [Lib.openPiece,List.map_nil,List.nil_append,List.drop_zero,aao] at h;unfold Lib.goFieldsP Lib.spansOfP fe;rw [List.map_map,h];refine List.map_congr_left fun p _=>?_;show ((bs t).extract p.1 p.2).data.toList=_;rw [N8,aao]
theorem IJ {x:UInt8}:∀ {l:Tx},x∈l.takeWhile (fun x=>x == 32)->x=32
 | y :: l,h=>by
  rw [List.takeWhile_cons] at h;split at h
  .rename_i hy
   rcases List.mem_cons.1 h with rfl | h
   .simpa using hy
   .exact IJ h
  .cases h
theorem Xr {t:Tx} (h:Lib.trimB t 32=[]):∀ x∈t,x=32:=by
 have h0:∀ (l:Tx),l.dropWhile (fun x=>x == 32)=[]->∀ x∈l,x=32:=fun l hl x hx=>by
  have:=(dropWhile_nil (p:=fun x:UInt8=>x == 32)).1 hl x hx;simpa using this
 unfold Lib.trimB Lib.trimLeftB Lib.trimRightB at h;have h1:=h0 _ h;intro x hx;by_cases hm:x∈t.reverse.dropWhile (fun x=>x == 32)
 .exact h1 x (by simpa using hm)
 .have h2:=List.takeWhile_append_dropWhile (p:=fun x:UInt8=>x == 32) (l:=t.reverse)
  have h3:x∈t.reverse.takeWhile (fun x=>x == 32):=by
   have:x∈t.reverse:=by simpa using hx
   rw [<- h2,List.mem_append] at this;exact this.resolve_right hm
  exact IJ h3
theorem Lg {c:UInt8}:∀ (l cur:Tx),cur≠[]->gA c cur l≠[]
 | [],cur,h=>by unfold gA;simp [h]
 | x :: l,cur,h=>by
  unfold gA;split
  .simp [h]
  .exact Lg l _ (by simp)
theorem Lh:∀ (t:Tx),fe t=[]↔∀ x∈t,x=32
 | []=>by simp [fe,gA]
 | x :: t=>by
  have ih:=Lh t;unfold fe at ih ⊢;unfold gA;by_cases hx:x=32
  .simp only [hx,if_true];rw [ih];simp
  .rw [if_neg hx];refine ⟨fun h=>absurd h (Lg _ _ (by simp)),fun h=>absurd (h x (by simp)) hx⟩
theorem Xt (t:Tx):Lib.trimB t 32=[]↔fe t=[]:=by
 rw [Lh];refine ⟨Xr,fun h=>?_⟩
 have h1:t.reverse.dropWhile (fun x=>x == 32)=[]:=(dropWhile_nil (p:=fun x:UInt8=>x == 32)).2 fun x hx=>by
  have:=h x (by simpa using hx);simp [this]
 unfold Lib.trimB Lib.trimRightB Lib.trimLeftB;rw [h1];rfl
theorem af9 {c:UInt8}:∀ (l cur:Tx),∀ w∈gA c cur l,w≠[]/\w.length<=cur.length+l.length
 | [],cur,w,h=>by
  unfold gA at h;split at h
  .cases h
  .rename_i hc
   obtain rfl:w=cur:=by simpa using h
   exact ⟨hc,by simp⟩
 | x :: l,cur,w,h=>by
  unfold gA at h;split at h
  .split at h
   .have:=af9 l [] w h;simp at this ⊢;exact ⟨this.1,by omega⟩
   .rename_i hc
    rcases List.mem_cons.1 h with rfl | h
    .exact ⟨hc,by simp⟩
    .have:=af9 l [] w h;simp at this ⊢;exact ⟨this.1,by omega⟩
  .have:=af9 l (cur ++ [x]) w h;simp at this ⊢;exact ⟨this.1,by omega⟩
theorem Ap {t w:Tx} (h:w∈fe t):w≠[]/\w.length<=t.length:=by
 have:=af9 t [] w h;simpa using this
theorem An {c:UInt8}:∀ (l cur:Tx),(gA c cur l).length<=l.length+1
 | [],cur=>by unfold gA;split<;>simp
 | x :: l,cur=>by
  unfold gA;split
  .split
   .have:=An (c:=c) l [];simp;omega
   .have:=An (c:=c) l [];simp;omega
  .have:=An (c:=c) l (cur ++ [x]);simp;omega
theorem Ao (t:Tx):(fe t).length<=t.length+1:=An t []
theorem Ba {c:UInt8}:∀ (l cur:Tx),(abp c cur l).length<=l.length+1
 | [],cur=>by simp [abp]
 | x :: l,cur=>by
  unfold abp;split
  .have:=Ba (c:=c) l [];simp;omega
  .have:=Ba (c:=c) l (cur ++ [x]);simp;omega
theorem xK (c:UInt8) (t:Tx):(cU c t).length<=t.length+1:=Ba t []
def gk (l:List Tx) (k:Nat):Nat:=((l.take k).map fun s=>s.length+1).sum
theorem Vb (l:List Tx):gk l 0=0:=rfl
theorem Ed {l:List Tx} {k:Nat} (h:k < l.length):gk l (k+1)=gk l k+l[k].length+1:=by
 unfold gk;rw [List.take_succ_eq_append_getElem h,List.map_append,List.sum_append];simp;omega
theorem Bc {c:UInt8}:∀ (l cur:Tx),((abp c cur l).map fun s=>s.length+1).sum=cur.length+l.length+1
 | [],cur=>by simp [abp]
 | x :: l,cur=>by
  unfold abp;split
  .rw [List.map_cons,List.sum_cons,Bc l []];simp;omega
  .rw [Bc l (cur ++ [x])];simp;omega
theorem WV (l:List Nat) (k:Nat):(l.take k).sum<=l.sum:=by
 have h:=List.take_append_drop k l;have:=congrArg List.sum h;rw [List.sum_append] at this;omega
theorem Va (c:UInt8) (t:Tx) (k:Nat):gk (cU c t) k<=t.length+1:=by
 have h:=Bc (c:=c) t [];unfold gk cU;rw [List.map_take];have:=WV ((abp c [] t).map fun s=>s.length+1) k;simp at h;omega
theorem Ec {c:UInt8} {t:Tx} {k:Nat} (h:k < (cU c t).length):gk (cU c t) k+((cU c t)[k]).length<=t.length:=by
 have h1:=Ed h;have h2:=Va c t (k+1);omega
end Go.Proofs.YtdigkhaofjmgkaaGreatDoor
