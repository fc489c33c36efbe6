/- Parts. -/
import Derived.Test.YtdigkhaofjmgkaaGreatDoorMs23
import Derived.Lib.SplitLaws
import Derived.Lib.FieldsP
import Derived.Lib.SpaceUEq
import Derived.Lib.TrimByte
import Derived.Lib.CutLaws
set_option linter.unusedSimpArgs false
set_option linter.unusedVariables false
namespace Go.Proofs.YtdigkhaofjmgkaaGreatDoor
open Go.Av
def acg (c:UInt8):Tx->Tx->List Tx
 | cur,[]=>[cur]
 | cur,x :: l=>if x=c then cur :: acg c [] l else acg c (cur ++ [x]) l
def abe (c:UInt8) (t:Tx):List Tx:=acg c [] t
def gQ (c:UInt8):Tx->Tx->List Tx
 | cur,[]=>if cur=[] then [] else [cur]
 | cur,x :: l=>if x=c then (if cur=[] then gQ c [] l else cur :: gQ c [] l) else gQ c (cur ++ [x]) l
def fy (t:Tx):List Tx:=gQ 32 [] t
theorem Ay (c:UInt8):∀ (l cur:Tx),(acg c cur l).filter (fun w=>decide (w≠[]))=gQ c cur l
 | [],cur=>by
  unfold acg gQ;by_cases h:cur=[]<;>simp[h]
 | x :: l,cur=>by
  unfold acg gQ;split
  .rw[List.filter_cons,Ay c l []];by_cases h:cur=[]<;>simp[h]
  .exact Ay c l _
theorem Bm {c:UInt8}:∀ (l cur:Tx),acg c cur l≠[]
 | [],cur=>by unfold acg;simp
 | x :: l,cur=>by
  unfold acg;split
  .simp
  .exact Bm l _
theorem F4 {c:UInt8}:∀ (l cur:Tx),c ∉ l->acg c cur l=[cur ++ l]
 | [],cur,_=>by simp[acg]
 | x :: l,cur,h=>by
  have hx:x≠c:=fun e=>h (by simp[e]);unfold acg;rw[if_neg hx,F4 l _ (fun e=>h (by simp[e]))];simp
theorem F5 {c:UInt8}:∀ (l cur r:Tx),c ∉ l->acg c cur (l ++ c :: r)=(cur ++ l) :: acg c [] r
 | [],cur,r,_=>by simp[acg]
 | x :: l,cur,r,h=>by
  have hx:x≠c:=fun e=>h (by simp[e]);rw[List.cons_append,acg,if_neg hx,F5 l _ r (fun e=>h (by simp[e]))];simp
theorem F6 {c:UInt8} {t:Tx} (h:c ∉ t):abe c t=[t]:=by unfold abe;rw[F4 t [] h];rfl
theorem F7 {c:UInt8} {a b:Tx} (h:c ∉ a):abe c (a ++ c :: b)=a :: abe c b:=by unfold abe;rw[F5 a [] b h];rfl
theorem Fc {c:UInt8}:∀ (x cur l:Tx),c ∉ x->gQ c cur (x ++ l)=gQ c (cur ++ x) l
 | [],cur,l,_=>by simp
 | y :: x,cur,l,h=>by
  have hy:y≠c:=fun e=>h (by simp[e]);rw[List.cons_append]
  conv=>lhs;unfold gQ
  rw[if_neg hy,Fc x _ l (fun e=>h (by simp[e]))];simp
theorem zd {c:UInt8}:∀ {t:Tx},c ∉ t->Lib.index t [c] = -1
 | [],_=>rfl
 | x :: t,h=>by
  have hx:x≠c:=fun e=>h (by simp[e]);unfold Lib.index;rw[zd (t:=t) (fun e=>h (by simp[e]))];simp[List.isPrefixOf,Ne.symm hx]
theorem wR {c:UInt8}:∀ {a:Tx} (b:Tx),c ∉ a->Lib.index (a ++ c :: b) [c]=(a.length:Int)
 | [],b,_=>by
  rw[List.nil_append];unfold Lib.index;simp[List.isPrefixOf]
 | x :: a,b,h=>by
  have hx:x≠c:=fun e=>h (by simp[e]);rw[List.cons_append];unfold Lib.index;rw[wR (a:=a) b (fun e=>h (by simp[e]))]
  have h1:((a.length:Int) == -1)=false:=by rw[beq_eq_false_iff_ne];omega
  simp[List.isPrefixOf,Ne.symm hx,h1]
theorem Xo (c:UInt8):∀ (n:Nat) (t:Tx),t.length<=n->Lib.splitK [c] 0 (t.count c) t=abe c t:=by
 intro n
 induction n with
 | zero=>
  intro t h;obtain rfl:t=[]:=List.length_eq_zero_iff.1 (by omega);rfl
 | succ n ih=>
  intro t h;by_cases hc:c∈t
  .obtain⟨a,b,rfl,ha⟩:=List.eq_append_cons_of_mem hc
   have agn:(a ++ c :: b).count c=b.count c+1:=by
    rw[List.count_append,List.count_eq_zero.2 ha,List.count_cons];simp
   rw[agn,Lib.splitK,wR b ha,F7 ha]
   have h1:((a.length:Int) == -1)=false:=by rw[beq_eq_false_iff_ne];omega
   have hb:b.length<=n:=by simp at h;omega
   simp[h1,ih b hb]
  .rw[List.count_eq_zero.2 hc,F6 hc];rfl
theorem afP (c:UInt8) (t:Tx):(Lib.splitB (bs [c]) 0 (Lib.countB (bs t) (bs [c])) (bs t)).map (fun x=>x.data.toList)=abe c t:=by
 rw[Lib.splitB_data,ch,ch]
 have:Lib.countB (bs t) (bs [c])=t.count c:=by
  show Lib.count (bs t).data.toList (bs [c]).data.toList=_;rw[ch,ch,Lib.count_one]
 rw[this];exact Xo c _ t (Nat.le_refl _)
theorem Xr (c:UInt8) (t:Tx):Lib.countB (bs t) (bs [c])+1=(abe c t).length:=by
 rw[<- afP,List.length_map,Lib.splitB_all (bs [c]) (by rw[bl];simp) 0 _ (bs t) rfl]
def cutAt (c:UInt8) (t:Tx):Tx×Tx:=(t.takeWhile (fun x=>!decide (x=c)),(t.dropWhile (fun x=>!decide (x=c))).drop 1)
theorem aeu {c:UInt8} {a b:Tx} (h:c ∉ a):cutAt c (a ++ c :: b)=(a,b):=by
 unfold cutAt
 have h1:∀ x∈a,(!decide (x=c))=true:=fun x hx=>by
  have:x≠c:=fun e=>h (e ▸ hx);simp[this]
 rw[List.takeWhile_append_of_pos h1,List.dropWhile_append_of_pos h1];simp
theorem NH {c:UInt8} {t:Tx} (h:c∈t):t=(cutAt c t).1 ++ c :: (cutAt c t).2/\c ∉ (cutAt c t).1:=by
 obtain⟨a,b,rfl,ha⟩:=List.eq_append_cons_of_mem h;rw[aeu ha];exact⟨rfl,ha⟩
theorem af9 (c:UInt8) (t:Tx):Lib.cut t [c]=if c∈t then ((cutAt c t).1,(cutAt c t).2,true) else (t,[],false):=by
 split
 .rename_i h;obtain⟨a,b,rfl,ha⟩:=List.eq_append_cons_of_mem h;rw[aeu ha];unfold Lib.cut;rw[wR b ha,if_pos (by omega)];simp
 .rename_i h;unfold Lib.cut;rw[zd h];simp
def mv (r:Nat):Bool:=decide (r=32)
theorem af8 (s:ByteArray) (pos:Nat) (ay:pos < s.size) (h:mv (Utf8.decode s pos).1=false):(32:UInt8) ∉ (s.data.toList.drop pos).take (Utf8.decode s pos).2:=by
 intro hm;obtain⟨j,hj,he⟩:=List.mem_iff_getElem.1 hm;rw[List.length_take,List.length_drop]at hj;rw[List.getElem_take,List.getElem_drop]at he
 have hg:s.data.toList.getD (pos+j) 0=32:=by rw[List.getD_eq_getElem?_getD,List.getElem?_eq_getElem (by omega),he];rfl
 have hw:Utf8.decode s pos=_:=Lib.decode_N s pos
 have hc:=Lib.decodeN_conts (s.data.toList.length - pos) (s.data.toList.getD pos 0).toNat (s.data.toList.getD (pos+1) 0).toNat (s.data.toList.getD (pos+2) 0).toNat (s.data.toList.getD (pos+3) 0).toNat
 rw[<- hw]at hc;obtain⟨c1,c2,c3,c4⟩:=hc
 have hj2:j < (Utf8.decode s pos).2:=by omega
 have gu:(32:UInt8).toNat=32:=rfl
 rcases Nat.lt_or_ge j 1 with ia | ia
 .obtain rfl:j=0:=by omega
  rw[Nat.add_zero]at hg;rw[hg,gu,Lib.decodeN_ascii _ _ _ _ _ (by omega)]at hw;rw[hw]at h;simp[mv]at h
 .obtain rfl | rfl | rfl:j=1\/j=2\/j=3:=by omega
  .have:=(c1 (by omega)).1;rw[hg,gu]at this;omega
  .have:=(c2 (by omega)).1;rw[hg,gu]at this;omega
  .have:=(c3 (by omega)).1;rw[hg,gu]at this;omega
theorem MZ (s:ByteArray) (pos:Nat) (ay:pos < s.size) (h:mv (Utf8.decode s pos).1=true):(Utf8.decode s pos).2=1/\s.data.toList.drop pos=32 :: s.data.toList.drop (pos+1):=by
 have hl:pos < s.data.toList.length:=by rw[<- Lib.size_eq];exact ay
 have hw:Utf8.decode s pos=_:=Lib.decode_N s pos
 have hg:s.data.toList.getD pos 0=s.data.toList[pos]:=by rw[List.getD_eq_getElem?_getD,List.getElem?_eq_getElem hl];rfl
 have gu:(Utf8.decode s pos).1=32:=by simpa[mv]using h
 rcases Lib.decodeN_cases (s.data.toList.length - pos) (s.data.toList.getD pos 0).toNat (s.data.toList.getD (pos+1) 0).toNat (s.data.toList.getD (pos+2) 0).toNat (s.data.toList.getD (pos+3) 0).toNat with⟨c,e⟩ | ⟨c1,c2,c3,cv,e⟩ | ⟨c1,c2,c3,c4,cv,e⟩ | ⟨c,e⟩ | e
 .rw[e]at hw;rw[hw]at gu ⊢;refine⟨rfl,?_⟩;dsimp only at gu;rw[List.drop_eq_getElem_cons hl,<- hg];have:s.data.toList.getD pos 0=32:=UInt8.toNat.inj (by rw[gu];rfl);rw[this]
 .rw[hw,e]at gu;dsimp only at gu;omega
 .rw[hw,e]at gu;dsimp only at gu;omega
 .rw[hw]at gu;omega
 .rw[hw,e]at gu;dsimp only at gu;omega
theorem xw (s:ByteArray):∀ (f pos:Nat) (st:Option Nat) (acc:List (Nat×Nat)),s.size<=pos+f->pos<=s.size->(∀ a,st=some a->a < pos)->
  acc.map (fun p=>Lib.pieceU s.data.toList p.1 p.2) ++ gQ 32 (Lib.openPiece s.data.toList st pos) (s.data.toList.drop pos)=(Lib.closeSpans s (Lib.spansFromP mv s f pos st acc)).map (fun p=>Lib.pieceU s.data.toList p.1 p.2)
 | 0,pos,st,acc,h,hp,cZ=>by
  obtain rfl:pos=s.size:=by omega
  have hd:s.data.toList.drop s.size=[]:=List.drop_eq_nil_of_le (by rw[<- Lib.size_eq];exact Nat.le_refl _);rw[hd,gQ]
  cases st with
  | none=>simp[Lib.spansFromP,Lib.closeSpans,Lib.openPiece]
  | some a=>
   have:=Lib.pieceU_ne s.data.toList a s.size (cZ a rfl) (by rw[<- Lib.size_eq];exact Nat.le_refl _);simp[Lib.spansFromP,Lib.closeSpans,Lib.openPiece,this]
 | f+1,pos,st,acc,h,hp,cZ=>by
  by_cases ay:pos < s.size
  .have hw:=Lib.width_pos s pos
   have wL:pos+(Utf8.decode s pos).2<=s.size:=by
    have:=Lib.decodeN_le_n' (s.size - pos) (s.get! pos).toNat (s.get! (pos+1)).toNat (s.get! (pos+2)).toNat (s.get! (pos+3)).toNat (by omega);rw[<- Lib.decode_at]at this;omega
   simp only[Lib.spansFromP,if_pos ay]
   cases pf:mv (Utf8.decode s pos).1 with
   | true=>
    obtain⟨h1,h2⟩:=MZ s pos ay pf;rw[h1];simp only[if_true];rw[h2]
    cases st with
    | none=>
     have ih:=xw s f (pos+1) none acc (by omega) (by omega) (fun a h=>by cases h);simpa[Lib.openPiece,gQ]using ih
    | some a=>
     have CV:=Lib.pieceU_ne s.data.toList a pos (cZ a rfl) (by rw[<- Lib.size_eq];omega);have ih:=xw s f (pos+1) none (acc ++ [(a,pos)]) (by omega) (by omega) (fun a h=>by cases h);simpa[Lib.openPiece,CV,gQ]using ih
   | false=>
    have hf:=af8 s pos ay pf;simp only[Bool.false_eq_true,if_false]
    have HW:s.data.toList.drop pos=(s.data.toList.drop pos).take (Utf8.decode s pos).2 ++ s.data.toList.drop (pos+(Utf8.decode s pos).2):=by
     rw[<- List.drop_drop,List.take_append_drop]
    cases st with
    | none=>
     have ih:=xw s f (pos+(Utf8.decode s pos).2) (some pos) acc (by omega) wL (fun a h=>by cases h;omega)
     have e:([]:Tx) ++ (s.data.toList.drop pos).take (Utf8.decode s pos).2=Lib.pieceU s.data.toList pos (pos+(Utf8.decode s pos).2):=by
      unfold Lib.pieceU;rw[List.nil_append,Nat.add_sub_cancel_left]
     simp only[Lib.openPiece]at ih ⊢;rw[HW,Fc _ _ _ hf,e];exact ih
    | some a=>
     have ih:=xw s f (pos+(Utf8.decode s pos).2) (some a) acc (by omega) wL (fun b h=>by cases h;have:=cZ a rfl;omega);simp only[Lib.openPiece]at ih ⊢;rw[HW,Fc _ _ _ hf,Lib.pieceU_grow _ _ _ _ (by have:=cZ a rfl;omega)];exact ih
  .have hd:s.data.toList.drop pos=[]:=List.drop_eq_nil_of_le (by rw[<- Lib.size_eq];omega)
   obtain rfl:pos=s.size:=by omega
   rw[Lib.spansFromP_end _ _ _ _ _ _ ay,hd,gQ]
   cases st with
   | none=>simp[Lib.closeSpans,Lib.openPiece]
   | some a=>
    have:=Lib.pieceU_ne s.data.toList a s.size (cZ a rfl) (by rw[<- Lib.size_eq];exact Nat.le_refl _);simp[Lib.closeSpans,Lib.openPiece,this]
theorem Oz (s:ByteArray) (a b:Nat):(s.extract a b).data.toList=Lib.pieceU s.data.toList a b:=by
 rw[Lib.extract_data];unfold Lib.pieceU;first | rfl | simp[List.take_drop]
theorem Gu (t:Tx):(Lib.goFieldsP mv (bs t)).map (fun x=>x.data.toList)=fy t:=by
 have h:=xw (bs t) (bs t).size 0 none [] (by omega) (by omega) (fun a h=>by cases h);simp only[Lib.openPiece,List.map_nil,List.nil_append,List.drop_zero,ch]at h;unfold Lib.goFieldsP Lib.spansOfP fy;rw[List.map_map,h];refine List.map_congr_left fun p _=>?_;show ((bs t).extract p.1 p.2).data.toList=_;rw[Oz,ch]
theorem I4 {x:UInt8}:∀ {l:Tx},x∈l.takeWhile (fun x=>x == 32)->x=32
 | y :: l,h=>by
  rw[List.takeWhile_cons]at h;split at h
  .rename_i hy
   rcases List.mem_cons.1 h with rfl | h
   .simpa using hy
   .exact I4 h
  .cases h
theorem X5 {t:Tx} (h:Lib.trimB t 32=[]):∀ x∈t,x=32:=by
 have h0:∀ (l:Tx),l.dropWhile (fun x=>x == 32)=[]->∀ x∈l,x=32:=fun l hl x hx=>by
  have:=(dropWhile_nil (p:=fun x:UInt8=>x == 32)).1 hl x hx;simpa using this
 unfold Lib.trimB Lib.trimLeftB Lib.trimRightB at h;have h1:=h0 _ h;intro x hx;by_cases hm:x∈t.reverse.dropWhile (fun x=>x == 32)
 .exact h1 x (by simpa using hm)
 .have h2:=List.takeWhile_append_dropWhile (p:=fun x:UInt8=>x == 32) (l:=t.reverse)
  have h3:x∈t.reverse.takeWhile (fun x=>x == 32):=by
   have:x∈t.reverse:=by simpa using hx
   rw[<- h2,List.mem_append]at this;exact this.resolve_right hm
  exact I4 h3
theorem LF {c:UInt8}:∀ (l cur:Tx),cur≠[]->gQ c cur l≠[]
 | [],cur,h=>by unfold gQ;simp[h]
 | x :: l,cur,h=>by
  unfold gQ;split
  .simp[h]
  .exact LF l _ (by simp)
theorem LG:∀ (t:Tx),fy t=[]↔∀ x∈t,x=32
 | []=>by simp[fy,gQ]
 | x :: t=>by
  have ih:=LG t;unfold fy at ih ⊢;unfold gQ;by_cases hx:x=32
  .simp only[hx,if_true];rw[ih];simp
  .rw[if_neg hx];refine⟨fun h=>absurd h (LF _ _ (by simp)),fun h=>absurd (h x (by simp)) hx⟩
theorem X7 (t:Tx):Lib.trimB t 32=[]↔fy t=[]:=by
 rw[LG];refine⟨X5,fun h=>?_⟩
 have h1:t.reverse.dropWhile (fun x=>x == 32)=[]:=(dropWhile_nil (p:=fun x:UInt8=>x == 32)).2 fun x hx=>by
  have:=h x (by simpa using hx);simp[this]
 unfold Lib.trimB Lib.trimRightB Lib.trimLeftB;rw[h1];rfl
theorem AD {c:UInt8}:∀ (l cur:Tx),∀ w∈gQ c cur l,w≠[]/\w.length<=cur.length+l.length
 | [],cur,w,h=>by
  unfold gQ at h;split at h
  .cases h
  .rename_i hc
   obtain rfl:w=cur:=by simpa using h
   exact⟨hc,by simp⟩
 | x :: l,cur,w,h=>by
  unfold gQ at h;split at h
  .split at h
   .have:=AD l [] w h;simp at this ⊢;exact⟨this.1,by omega⟩
   .rename_i hc
    rcases List.mem_cons.1 h with rfl | h
    .exact⟨hc,by simp⟩
    .have:=AD l [] w h;simp at this ⊢;exact⟨this.1,by omega⟩
  .have:=AD l (cur ++ [x]) w h;simp at this ⊢;exact⟨this.1,by omega⟩
theorem AB {t w:Tx} (h:w∈fy t):w≠[]/\w.length<=t.length:=by
 have:=AD t [] w h;simpa using this
theorem Az {c:UInt8}:∀ (l cur:Tx),(gQ c cur l).length<=l.length+1
 | [],cur=>by unfold gQ;split<;>simp
 | x :: l,cur=>by
  unfold gQ;split
  .split
   .have:=Az (c:=c) l [];simp;omega
   .have:=Az (c:=c) l [];simp;omega
  .have:=Az (c:=c) l (cur ++ [x]);simp;omega
theorem afp (t:Tx):(fy t).length<=t.length+1:=Az t []
theorem Bl {c:UInt8}:∀ (l cur:Tx),(acg c cur l).length<=l.length+1
 | [],cur=>by simp[acg]
 | x :: l,cur=>by
  unfold acg;split
  .have:=Bl (c:=c) l [];simp;omega
  .have:=Bl (c:=c) l (cur ++ [x]);simp;omega
theorem x8 (c:UInt8) (t:Tx):(abe c t).length<=t.length+1:=Bl t []
def gE (l:List Tx) (k:Nat):Nat:=((l.take k).map fun s=>s.length+1).sum
theorem VG (l:List Tx):gE l 0=0:=rfl
theorem Eg {l:List Tx} {k:Nat} (h:k < l.length):gE l (k+1)=gE l k+l[k].length+1:=by
 unfold gE;rw[List.take_succ_eq_append_getElem h,List.map_append,List.sum_append];simp;omega
theorem Bn {c:UInt8}:∀ (l cur:Tx),((acg c cur l).map fun s=>s.length+1).sum=cur.length+l.length+1
 | [],cur=>by simp[acg]
 | x :: l,cur=>by
  unfold acg;split
  .rw[List.map_cons,List.sum_cons,Bn l []];simp;omega
  .rw[Bn l (cur ++ [x])];simp;omega
theorem Xx (l:List Nat) (k:Nat):(l.take k).sum<=l.sum:=by
 have h:=List.take_append_drop k l;have:=congrArg List.sum h;rw[List.sum_append]at this;omega
theorem VF (c:UInt8) (t:Tx) (k:Nat):gE (abe c t) k<=t.length+1:=by
 have h:=Bn (c:=c) t [];unfold gE abe;rw[List.map_take];have:=Xx ((acg c [] t).map fun s=>s.length+1) k;simp at h;omega
theorem Ef {c:UInt8} {t:Tx} {k:Nat} (h:k < (abe c t).length):gE (abe c t) k+((abe c t)[k]).length<=t.length:=by
 have h1:=Eg h;have h2:=VF c t (k+1);omega
