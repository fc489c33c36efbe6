/- Parts. -/
import Derived.Test.YtdigkhaofjmgkaaGreatDoorPs21
import Derived.Lib.SplitLaws
import Derived.Lib.FieldsP
import Derived.Lib.SpaceUEq
import Derived.Lib.TrimByte
import Derived.Lib.CutLaws
set_option linter.unusedSimpArgs false
set_option linter.unusedVariables false
namespace Go.Proofs.YtdigkhaofjmgkaaGreatDoor
open Go.Av
def gJ (c:UInt8):Tx->Tx->List Tx
 | cur,[]=>[cur]
 | cur,x :: l=>if x=c then cur :: gJ c [] l else gJ c (cur ++ [x]) l
def cT (c:UInt8) (t:Tx):List Tx:=gJ c [] t
def ZG (c:UInt8):Tx->Tx->List Tx
 | cur,[]=>if cur=[] then [] else [cur]
 | cur,x :: l=>if x=c then (if cur=[] then ZG c [] l else cur :: ZG c [] l) else ZG c (cur ++ [x]) l
def eb (t:Tx):List Tx:=ZG 32 [] t
theorem acV {c:UInt8}:∀ (l cur:Tx),gJ c cur l≠[]
 | [],cur=>by unfold gJ;simp
 | x :: l,cur=>by
  unfold gJ;split
  .simp
  .exact acV l _
theorem DW {c:UInt8}:∀ (l cur:Tx),c ∉ l->gJ c cur l=[cur ++ l]
 | [],cur,_=>by simp[gJ]
 | x :: l,cur,h=>by
  have hx:x≠c:=fun e=>h (by simp[e]);unfold gJ;rw[if_neg hx,DW l _ (fun e=>h (by simp[e]))];simp
theorem DX {c:UInt8}:∀ (l cur r:Tx),c ∉ l->gJ c cur (l ++ c :: r)=(cur ++ l) :: gJ c [] r
 | [],cur,r,_=>by simp[gJ]
 | x :: l,cur,r,h=>by
  have hx:x≠c:=fun e=>h (by simp[e]);rw[List.cons_append,gJ,if_neg hx,DX l _ r (fun e=>h (by simp[e]))];simp
theorem LO {c:UInt8} {t:Tx} (h:c ∉ t):cT c t=[t]:=by unfold cT;rw[DW t [] h];rfl
theorem DY {c:UInt8} {a b:Tx} (h:c ∉ a):cT c (a ++ c :: b)=a :: cT c b:=by unfold cT;rw[DX a [] b h];rfl
theorem uO {c:UInt8}:∀ (x cur l:Tx),c ∉ x->ZG c cur (x ++ l)=ZG c (cur ++ x) l
 | [],cur,l,_=>by simp
 | y :: x,cur,l,h=>by
  have hy:y≠c:=fun e=>h (by simp[e]);rw[List.cons_append]
  conv=>lhs;unfold ZG
  rw[if_neg hy,uO x _ l (fun e=>h (by simp[e]))];simp
theorem Bv {c:UInt8}:∀ {t:Tx},c ∉ t->Lib.index t [c] = -1
 | [],_=>rfl
 | x :: t,h=>by
  have hx:x≠c:=fun e=>h (by simp[e]);unfold Lib.index;rw[Bv (t:=t) (fun e=>h (by simp[e]))];simp[List.isPrefixOf,Ne.symm hx]
theorem Bw {c:UInt8}:∀ {a:Tx} (b:Tx),c ∉ a->Lib.index (a ++ c :: b) [c]=(a.length:Int)
 | [],b,_=>by
  rw[List.nil_append];unfold Lib.index;simp[List.isPrefixOf]
 | x :: a,b,h=>by
  have hx:x≠c:=fun e=>h (by simp[e]);rw[List.cons_append];unfold Lib.index;rw[Bw (a:=a) b (fun e=>h (by simp[e]))]
  have h1:((a.length:Int) == -1)=false:=by rw[beq_eq_false_iff_ne];omega
  simp[List.isPrefixOf,Ne.symm hx,h1]
def cutAt (c:UInt8) (t:Tx):Tx×Tx:=(t.takeWhile (fun x=>!decide (x=c)),(t.dropWhile (fun x=>!decide (x=c))).drop 1)
theorem sk {c:UInt8} {a b:Tx} (h:c ∉ a):cutAt c (a ++ c :: b)=(a,b):=by
 unfold cutAt
 have h1:∀ x∈a,(!decide (x=c))=true:=fun x hx=>by
  have:x≠c:=fun e=>h (e ▸ hx);simp[this]
 rw[List.takeWhile_append_of_pos h1,List.dropWhile_append_of_pos h1];simp
theorem LM {c:UInt8} {t:Tx} (h:c∈t):t=(cutAt c t).1 ++ c :: (cutAt c t).2/\c ∉ (cutAt c t).1:=by
 obtain⟨a,b,rfl,ha⟩:=List.eq_append_cons_of_mem h;rw[sk ha];exact⟨rfl,ha⟩
theorem LP (c:UInt8) (t:Tx):Lib.cut t [c]=if c∈t then ((cutAt c t).1,(cutAt c t).2,true) else (t,[],false):=by
 split
 .rename_i h;obtain⟨a,b,rfl,ha⟩:=List.eq_append_cons_of_mem h;rw[sk ha];unfold Lib.cut;rw[Bw b ha,if_pos (by omega)];simp
 .rename_i h;unfold Lib.cut;rw[Bv h];simp
def kW (r:Nat):Bool:=decide (r=32)
theorem LF (s:ByteArray) (pos:Nat) (Yv:pos < s.size) (h:kW (Utf8.decode s pos).1=false):(32:UInt8) ∉ (s.data.toList.drop pos).take (Utf8.decode s pos).2:=by
 intro hm;obtain⟨j,hj,he⟩:=List.mem_iff_getElem.1 hm;rw[List.length_take,List.length_drop]at hj;rw[List.getElem_take,List.getElem_drop]at he
 have hg:s.data.toList.getD (pos+j) 0=32:=by rw[List.getD_eq_getElem?_getD,List.getElem?_eq_getElem (by omega),he];rfl
 have hw:Utf8.decode s pos=_:=Lib.decode_N s pos
 have hc:=Lib.decodeN_conts (s.data.toList.length - pos) (s.data.toList.getD pos 0).toNat (s.data.toList.getD (pos+1) 0).toNat (s.data.toList.getD (pos+2) 0).toNat (s.data.toList.getD (pos+3) 0).toNat
 rw[<- hw]at hc;obtain⟨c1,c2,c3,c4⟩:=hc
 have fY:j < (Utf8.decode s pos).2:=by omega
 have gn:(32:UInt8).toNat=32:=rfl
 rcases Nat.lt_or_ge j 1 with gu | gu
 .obtain rfl:j=0:=by omega
  rw[Nat.add_zero]at hg;rw[hg,gn,Lib.decodeN_ascii _ _ _ _ _ (by omega)]at hw;rw[hw]at h;simp[kW]at h
 .obtain rfl | rfl | rfl:j=1\/j=2\/j=3:=by omega
  .have:=(c1 (by omega)).1;rw[hg,gn]at this;omega
  .have:=(c2 (by omega)).1;rw[hg,gn]at this;omega
  .have:=(c3 (by omega)).1;rw[hg,gn]at this;omega
theorem adC (s:ByteArray) (pos:Nat) (Yv:pos < s.size) (h:kW (Utf8.decode s pos).1=true):(Utf8.decode s pos).2=1/\s.data.toList.drop pos=32 :: s.data.toList.drop (pos+1):=by
 have hl:pos < s.data.toList.length:=by rw[<- Lib.size_eq];exact Yv
 have hw:Utf8.decode s pos=_:=Lib.decode_N s pos
 have hg:s.data.toList.getD pos 0=s.data.toList[pos]:=by rw[List.getD_eq_getElem?_getD,List.getElem?_eq_getElem hl];rfl
 have gn:(Utf8.decode s pos).1=32:=by simpa[kW]using h
 rcases Lib.decodeN_cases (s.data.toList.length - pos) (s.data.toList.getD pos 0).toNat (s.data.toList.getD (pos+1) 0).toNat (s.data.toList.getD (pos+2) 0).toNat (s.data.toList.getD (pos+3) 0).toNat with⟨c,e⟩ | ⟨c1,c2,c3,cv,e⟩ | ⟨c1,c2,c3,c4,cv,e⟩ | ⟨c,e⟩ | e
 .rw[e]at hw;rw[hw]at gn ⊢;refine⟨rfl,?_⟩;dsimp only at gn;rw[List.drop_eq_getElem_cons hl,<- hg];have:s.data.toList.getD pos 0=32:=UInt8.toNat.inj (by rw[gn];rfl);rw[this]
 .rw[hw,e]at gn;dsimp only at gn;omega
 .rw[hw,e]at gn;dsimp only at gn;omega
 .rw[hw]at gn;omega
 .rw[hw,e]at gn;dsimp only at gn;omega
theorem uB (s:ByteArray):∀ (f pos:Nat) (st:Option Nat) (acc:List (Nat×Nat)),s.size<=pos+f->pos<=s.size->(∀ a,st=some a->a < pos)->
  acc.map (fun p=>Lib.pieceU s.data.toList p.1 p.2) ++ ZG 32 (Lib.openPiece s.data.toList st pos) (s.data.toList.drop pos)=(Lib.closeSpans s (Lib.spansFromP kW s f pos st acc)).map (fun p=>Lib.pieceU s.data.toList p.1 p.2)
 | 0,pos,st,acc,h,hp,bw=>by
  obtain rfl:pos=s.size:=by omega
  have hd:s.data.toList.drop s.size=[]:=List.drop_eq_nil_of_le (by rw[<- Lib.size_eq];exact Nat.le_refl _);rw[hd,ZG]
  cases st with
  | none=>simp[Lib.spansFromP,Lib.closeSpans,Lib.openPiece]
  | some a=>
   have:=Lib.pieceU_ne s.data.toList a s.size (bw a rfl) (by rw[<- Lib.size_eq];exact Nat.le_refl _);simp[Lib.spansFromP,Lib.closeSpans,Lib.openPiece,this]
 | f+1,pos,st,acc,h,hp,bw=>by
  by_cases Yv:pos < s.size
  .have hw:=Lib.width_pos s pos
   have hwn:pos+(Utf8.decode s pos).2<=s.size:=by
    have:=Lib.decodeN_le_n' (s.size - pos) (s.get! pos).toNat (s.get! (pos+1)).toNat (s.get! (pos+2)).toNat (s.get! (pos+3)).toNat (by omega);rw[<- Lib.decode_at]at this;omega
   simp only[Lib.spansFromP,if_pos Yv]
   cases Gr:kW (Utf8.decode s pos).1 with
   | true=>
    obtain⟨h1,h2⟩:=adC s pos Yv Gr;rw[h1];simp only[if_true];rw[h2]
    cases st with
    | none=>
     have ih:=uB s f (pos+1) none acc (by omega) (by omega) (fun a h=>by cases h);simpa[Lib.openPiece,ZG]using ih
    | some a=>
     have hpn:=Lib.pieceU_ne s.data.toList a pos (bw a rfl) (by rw[<- Lib.size_eq];omega);have ih:=uB s f (pos+1) none (acc ++ [(a,pos)]) (by omega) (by omega) (fun a h=>by cases h);simpa[Lib.openPiece,hpn,ZG]using ih
   | false=>
    have hf:=LF s pos Yv Gr;simp only[Bool.false_eq_true,if_false]
    have Gs:s.data.toList.drop pos=(s.data.toList.drop pos).take (Utf8.decode s pos).2 ++ s.data.toList.drop (pos+(Utf8.decode s pos).2):=by
     rw[<- List.drop_drop,List.take_append_drop]
    cases st with
    | none=>
     have ih:=uB s f (pos+(Utf8.decode s pos).2) (some pos) acc (by omega) hwn (fun a h=>by cases h;omega)
     have e:([]:Tx) ++ (s.data.toList.drop pos).take (Utf8.decode s pos).2=Lib.pieceU s.data.toList pos (pos+(Utf8.decode s pos).2):=by
      unfold Lib.pieceU;rw[List.nil_append,Nat.add_sub_cancel_left]
     simp only[Lib.openPiece]at ih ⊢;rw[Gs,uO _ _ _ hf,e];exact ih
    | some a=>
     have ih:=uB s f (pos+(Utf8.decode s pos).2) (some a) acc (by omega) hwn (fun b h=>by cases h;have:=bw a rfl;omega);simp only[Lib.openPiece]at ih ⊢;rw[Gs,uO _ _ _ hf,Lib.pieceU_grow _ _ _ _ (by have:=bw a rfl;omega)];exact ih
  .have hd:s.data.toList.drop pos=[]:=List.drop_eq_nil_of_le (by rw[<- Lib.size_eq];omega)
   obtain rfl:pos=s.size:=by omega
   rw[Lib.spansFromP_end _ _ _ _ _ _ Yv,hd,ZG]
   cases st with
   | none=>simp[Lib.closeSpans,Lib.openPiece]
   | some a=>
    have:=Lib.pieceU_ne s.data.toList a s.size (bw a rfl) (by rw[<- Lib.size_eq];exact Nat.le_refl _);simp[Lib.closeSpans,Lib.openPiece,this]
theorem Ms (s:ByteArray) (a b:Nat):(s.extract a b).data.toList=Lib.pieceU s.data.toList a b:=by
 rw[Lib.extract_data];unfold Lib.pieceU;first | rfl | simp[List.take_drop]
theorem EC (t:Tx):(Lib.goFieldsP kW (bs t)).map (fun x=>x.data.toList)=eb t:=by
 have h:=uB (bs t) (bs t).size 0 none [] (by omega) (by omega) (fun a h=>by cases h);simp only[Lib.openPiece,List.map_nil,List.nil_append,List.drop_zero,de]at h;unfold Lib.goFieldsP Lib.spansOfP eb;rw[List.map_map,h];refine List.map_congr_left fun p _=>?_;show ((bs t).extract p.1 p.2).data.toList=_;rw[Ms,de]
theorem Hj {x:UInt8}:∀ {l:Tx},x∈l.takeWhile (fun x=>x == 32)->x=32
 | y :: l,h=>by
  rw[List.takeWhile_cons]at h;split at h
  .rename_i hy
   rcases List.mem_cons.1 h with rfl | h
   .simpa using hy
   .exact Hj h
  .cases h
theorem Wk {t:Tx} (h:Lib.trimB t 32=[]):∀ x∈t,x=32:=by
 have h0:∀ (l:Tx),l.dropWhile (fun x=>x == 32)=[]->∀ x∈l,x=32:=fun l hl x hx=>by
  have:=(dropWhile_nil (p:=fun x:UInt8=>x == 32)).1 hl x hx;simpa using this
 unfold Lib.trimB Lib.trimLeftB Lib.trimRightB at h;have h1:=h0 _ h;intro x hx;by_cases hm:x∈t.reverse.dropWhile (fun x=>x == 32)
 .exact h1 x (by simpa using hm)
 .have h2:=List.takeWhile_append_dropWhile (p:=fun x:UInt8=>x == 32) (l:=t.reverse)
  have h3:x∈t.reverse.takeWhile (fun x=>x == 32):=by
   have:x∈t.reverse:=by simpa using hx
   rw[<- h2,List.mem_append]at this;exact this.resolve_right hm
  exact Hj h3
theorem JH {c:UInt8}:∀ (l cur:Tx),cur≠[]->ZG c cur l≠[]
 | [],cur,h=>by unfold ZG;simp[h]
 | x :: l,cur,h=>by
  unfold ZG;split
  .simp[h]
  .exact JH l _ (by simp)
theorem Da:∀ (t:Tx),eb t=[]↔∀ x∈t,x=32
 | []=>by simp[eb,ZG]
 | x :: t=>by
  have ih:=Da t;unfold eb at ih ⊢;unfold ZG;by_cases hx:x=32
  .simp only[hx,if_true];rw[ih];simp
  .rw[if_neg hx];refine⟨fun h=>absurd h (JH _ _ (by simp)),fun h=>absurd (h x (by simp)) hx⟩
theorem Wm (t:Tx):Lib.trimB t 32=[]↔eb t=[]:=by
 rw[Da];refine⟨Wk,fun h=>?_⟩
 have h1:t.reverse.dropWhile (fun x=>x == 32)=[]:=(dropWhile_nil (p:=fun x:UInt8=>x == 32)).2 fun x hx=>by
  have:=h x (by simpa using hx);simp[this]
 unfold Lib.trimB Lib.trimRightB Lib.trimLeftB;rw[h1];rfl
theorem x6 {c:UInt8}:∀ (l cur:Tx),∀ w∈ZG c cur l,w≠[]/\w.length<=cur.length+l.length
 | [],cur,w,h=>by
  unfold ZG at h;split at h
  .cases h
  .rename_i hc
   obtain rfl:w=cur:=by simpa using h
   exact⟨hc,by simp⟩
 | x :: l,cur,w,h=>by
  unfold ZG at h;split at h
  .split at h
   .have:=x6 l [] w h;simp at this ⊢;exact⟨this.1,by omega⟩
   .rename_i hc
    rcases List.mem_cons.1 h with rfl | h
    .exact⟨hc,by simp⟩
    .have:=x6 l [] w h;simp at this ⊢;exact⟨this.1,by omega⟩
  .have:=x6 l (cur ++ [x]) w h;simp at this ⊢;exact⟨this.1,by omega⟩
theorem C9 {t w:Tx} (h:w∈eb t):w≠[]/\w.length<=t.length:=by
 have:=x6 t [] w h;simpa using this
theorem x4 {c:UInt8}:∀ (l cur:Tx),(ZG c cur l).length<=l.length+1
 | [],cur=>by unfold ZG;split<;>simp
 | x :: l,cur=>by
  unfold ZG;split
  .split
   .have:=x4 (c:=c) l [];simp;omega
   .have:=x4 (c:=c) l [];simp;omega
  .have:=x4 (c:=c) l (cur ++ [x]);simp;omega
theorem C8 (t:Tx):(eb t).length<=t.length+1:=x4 t []
theorem yZ {c:UInt8}:∀ (l cur:Tx),(gJ c cur l).length<=l.length+1
 | [],cur=>by simp[gJ]
 | x :: l,cur=>by
  unfold gJ;split
  .have:=yZ (c:=c) l [];simp;omega
  .have:=yZ (c:=c) l (cur ++ [x]);simp;omega
theorem LN (c:UInt8) (t:Tx):(cT c t).length<=t.length+1:=yZ t []
def gW (l:List Tx) (k:Nat):Nat:=((l.take k).map fun s=>s.length+1).sum
theorem SE (l:List Tx):gW l 0=0:=rfl
theorem adp {l:List Tx} {k:Nat} (h:k < l.length):gW l (k+1)=gW l k+l[k].length+1:=by
 unfold gW;rw[List.take_succ_eq_append_getElem h,List.map_append,List.sum_append];simp;omega
theorem acW {c:UInt8}:∀ (l cur:Tx),((gJ c cur l).map fun s=>s.length+1).sum=cur.length+l.length+1
 | [],cur=>by simp[gJ]
 | x :: l,cur=>by
  unfold gJ;split
  .rw[List.map_cons,List.sum_cons,acW l []];simp;omega
  .rw[acW l (cur ++ [x])];simp;omega
theorem VI (l:List Nat) (k:Nat):(l.take k).sum<=l.sum:=by
 have h:=List.take_append_drop k l;have:=congrArg List.sum h;rw[List.sum_append]at this;omega
theorem SD (c:UInt8) (t:Tx) (k:Nat):gW (cT c t) k<=t.length+1:=by
 have h:=acW (c:=c) t [];unfold gW cT;rw[List.map_take];have:=VI ((gJ c [] t).map fun s=>s.length+1) k;simp at h;omega
theorem HY {c:UInt8} {t:Tx} {k:Nat} (h:k < (cT c t).length):gW (cT c t) k+((cT c t)[k]).length<=t.length:=by
 have h1:=adp h;have h2:=SD c t (k+1);omega
