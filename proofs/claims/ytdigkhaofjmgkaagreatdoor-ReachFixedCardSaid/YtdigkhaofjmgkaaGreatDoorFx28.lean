/- Parts. -/
import Derived.Test.YtdigkhaofjmgkaaGreatDoorFx23
import Derived.Lib.SplitLaws
import Derived.Lib.FieldsP
import Derived.Lib.SpaceUEq
import Derived.Lib.TrimByte
import Derived.Lib.CutLaws
set_option linter.unusedSimpArgs false
set_option linter.unusedVariables false
namespace Go.Proofs.YtdigkhaofjmgkaaGreatDoor
open Go.Av
def adD (c:UInt8):Tx->Tx->List Tx
 | cur,[]=>[cur]
 | cur,x :: l=>if x=c then cur :: adD c [] l else adD c (cur ++ [x]) l
def acx (c:UInt8) (t:Tx):List Tx:=adD c [] t
def gT (c:UInt8):Tx->Tx->List Tx
 | cur,[]=>if cur=[] then [] else [cur]
 | cur,x :: l=>if x=c then (if cur=[] then gT c [] l else cur :: gT c [] l) else gT c (cur ++ [x]) l
def fz (t:Tx):List Tx:=gT 32 [] t
theorem Bz (c:UInt8):∀ (l cur:Tx),(adD c cur l).filter (fun w=>decide (w≠[]))=gT c cur l
 | [],cur=>by
  unfold adD gT;by_cases h:cur=[]<;>simp[h]
 | x :: l,cur=>by
  unfold adD gT;split
  .rw[List.filter_cons,Bz c l []];by_cases h:cur=[]<;>simp[h]
  .exact Bz c l _
theorem Cm {c:UInt8}:∀ (l cur:Tx),adD c cur l≠[]
 | [],cur=>by unfold adD;simp
 | x :: l,cur=>by
  unfold adD;split
  .simp
  .exact Cm l _
theorem Hi {c:UInt8}:∀ (l cur:Tx),c ∉ l->adD c cur l=[cur ++ l]
 | [],cur,_=>by simp[adD]
 | x :: l,cur,h=>by
  have hx:x≠c:=fun e=>h (by simp[e]);unfold adD;rw[if_neg hx,Hi l _ (fun e=>h (by simp[e]))];simp
theorem Hj {c:UInt8}:∀ (l cur r:Tx),c ∉ l->adD c cur (l ++ c :: r)=(cur ++ l) :: adD c [] r
 | [],cur,r,_=>by simp[adD]
 | x :: l,cur,r,h=>by
  have hx:x≠c:=fun e=>h (by simp[e]);rw[aeo,adD,if_neg hx,Hj l _ r (fun e=>h (by simp[e]))];simp
theorem Hk {c:UInt8} {t:Tx} (h:c ∉ t):acx c t=[t]:=by unfold acx;rw[Hi t [] h];rfl
theorem Hl {c:UInt8} {a b:Tx} (h:c ∉ a):acx c (a ++ c :: b)=a :: acx c b:=by unfold acx;rw[Hj a [] b h];rfl
theorem Gn {c:UInt8}:∀ (x cur l:Tx),c ∉ x->gT c cur (x ++ l)=gT c (cur ++ x) l
 | [],cur,l,_=>by simp
 | y :: x,cur,l,h=>by
  have hy:y≠c:=fun e=>h (by simp[e]);rw[aeo]
  conv=>lhs;unfold gT
  rw[if_neg hy,Gn x _ l (fun e=>h (by simp[e]))];simp
theorem z7 {c:UInt8}:∀ {t:Tx},c ∉ t->Lib.index t [c] = -1
 | [],_=>rfl
 | x :: t,h=>by
  have hx:x≠c:=fun e=>h (by simp[e]);unfold Lib.index;rw[z7 (t:=t) (fun e=>h (by simp[e]))];simp[List.isPrefixOf,adr hx]
theorem xA {c:UInt8}:∀ {a:Tx} (b:Tx),c ∉ a->Lib.index (a ++ c :: b) [c]=(a.length:Int)
 | [],b,_=>by
  rw[aei];unfold Lib.index;simp[List.isPrefixOf]
 | x :: a,b,h=>by
  have hx:x≠c:=fun e=>h (by simp[e]);rw[aeo];unfold Lib.index;rw[xA (a:=a) b (fun e=>h (by simp[e]))]
  have h1:((a.length:Int) == -1)=false:=by rw[beq_eq_false_iff_ne];omega
  simp[List.isPrefixOf,adr hx,h1]
theorem YX (c:UInt8):∀ (n:Nat) (t:Tx),t.length<=n->Lib.splitK [c] 0 (t.count c) t=acx c t:=by
 intro n
 induction n with
 | zero=>
  intro t h;obtain rfl:t=[]:=aeu.1 (by omega);rfl
 | succ n ih=>
  intro t h;by_cases hc:c∈t
  .obtain⟨a,b,rfl,ha⟩:=adm hc
   have Rr:(a ++ c :: b).count c=b.count c+1:=by
    rw[List.count_append,List.count_eq_zero.2 ha,List.count_cons];simp
   rw[Rr,Lib.splitK,xA b ha,Hl ha]
   have h1:((a.length:Int) == -1)=false:=by rw[beq_eq_false_iff_ne];omega
   have hb:b.length<=n:=by simp at h;omega
   simp[h1,ih b hb]
  .rw[List.count_eq_zero.2 hc,Hk hc];rfl
theorem Me (c:UInt8) (t:Tx):(Lib.splitB (bs [c]) 0 (Lib.countB (bs t) (bs [c])) (bs t)).map (fun x=>x.data.toList)=acx c t:=by
 rw[Lib.splitB_data,cj,cj]
 have:Lib.countB (bs t) (bs [c])=t.count c:=by
  show Lib.count (bs t).data.toList (bs [c]).data.toList=_;rw[cj,cj,Lib.count_one]
 rw[this];exact YX c _ t (abL _)
theorem Y0 (c:UInt8) (t:Tx):Lib.countB (bs t) (bs [c])+1=(acx c t).length:=by
 rw[<- Me,ac1,Lib.splitB_all (bs [c]) (by rw[bl];simp) 0 _ (bs t) rfl]
def cutAt (c:UInt8) (t:Tx):Tx×Tx:=(t.takeWhile (fun x=>!decide (x=c)),(t.dropWhile (fun x=>!decide (x=c))).drop 1)
theorem tM {c:UInt8} {a b:Tx} (h:c ∉ a):cutAt c (a ++ c :: b)=(a,b):=by
 unfold cutAt
 have h1:∀ x∈a,(!decide (x=c))=true:=fun x hx=>by
  have:x≠c:=fun e=>h (e ▸ hx);simp[this]
 rw[List.takeWhile_append_of_pos h1,List.dropWhile_append_of_pos h1];simp
theorem O2 {c:UInt8} {t:Tx} (h:c∈t):t=(cutAt c t).1 ++ c :: (cutAt c t).2/\c ∉ (cutAt c t).1:=by
 obtain⟨a,b,rfl,ha⟩:=adm h;rw[tM ha];exact⟨rfl,ha⟩
theorem O3 (c:UInt8) (t:Tx):Lib.cut t [c]=if c∈t then ((cutAt c t).1,(cutAt c t).2,true) else (t,[],false):=by
 split
 .rename_i h;obtain⟨a,b,rfl,ha⟩:=adm h;rw[tM ha];unfold Lib.cut;rw[xA b ha,if_pos (by omega)];simp
 .rename_i h;unfold Lib.cut;rw[z7 h];simp
def mT (r:Nat):Bool:=decide (r=32)
theorem OW (s:ByteArray) (pos:Nat) (au:pos < s.size) (h:mT (Utf8.decode s pos).1=false):(32:UInt8) ∉ (s.data.toList.drop pos).take (Utf8.decode s pos).2:=by
 intro hm;obtain⟨j,hj,he⟩:=aco.1 hm;rw[acz,acK]at hj;rw[List.getElem_take,List.getElem_drop]at he
 have hg:s.data.toList.getD (pos+j) 0=32:=by rw[abJ,By (by omega),he];rfl
 have hw:Utf8.decode s pos=_:=Lib.decode_N s pos
 have hc:=Lib.decodeN_conts (s.data.toList.length - pos) (s.data.toList.getD pos 0).toNat (s.data.toList.getD (pos+1) 0).toNat (s.data.toList.getD (pos+2) 0).toNat (s.data.toList.getD (pos+3) 0).toNat
 rw[<- hw]at hc;obtain⟨c1,c2,c3,c4⟩:=hc
 have hj2:j < (Utf8.decode s pos).2:=by omega
 have gv:(32:UInt8).toNat=32:=rfl
 rcases adY j 1 with ig | ig
 .obtain rfl:j=0:=by omega
  rw[adF]at hg;rw[hg,gv,Lib.decodeN_ascii _ _ _ _ _ (by omega)]at hw;rw[hw]at h;simp[mT]at h
 .obtain rfl | rfl | rfl:j=1\/j=2\/j=3:=by omega
  .have:=(c1 (by omega)).1;rw[hg,gv]at this;omega
  .have:=(c2 (by omega)).1;rw[hg,gv]at this;omega
  .have:=(c3 (by omega)).1;rw[hg,gv]at this;omega
theorem Oe (s:ByteArray) (pos:Nat) (au:pos < s.size) (h:mT (Utf8.decode s pos).1=true):(Utf8.decode s pos).2=1/\s.data.toList.drop pos=32 :: s.data.toList.drop (pos+1):=by
 have hl:pos < s.data.toList.length:=by rw[<- Lib.size_eq];exact au
 have hw:Utf8.decode s pos=_:=Lib.decode_N s pos
 have hg:s.data.toList.getD pos 0=s.data.toList[pos]:=by rw[abJ,By hl];rfl
 have gv:(Utf8.decode s pos).1=32:=by simpa[mT]using h
 rcases Lib.decodeN_cases (s.data.toList.length - pos) (s.data.toList.getD pos 0).toNat (s.data.toList.getD (pos+1) 0).toNat (s.data.toList.getD (pos+2) 0).toNat (s.data.toList.getD (pos+3) 0).toNat with⟨c,e⟩ | ⟨c1,c2,c3,cv,e⟩ | ⟨c1,c2,c3,c4,cv,e⟩ | ⟨c,e⟩ | e
 .rw[e]at hw;rw[hw]at gv ⊢;refine⟨rfl,?_⟩;dsimp only at gv;rw[acy hl,<- hg];have:s.data.toList.getD pos 0=32:=UInt8.toNat.inj (by rw[gv];rfl);rw[this]
 .rw[hw,e]at gv;dsimp only at gv;omega
 .rw[hw,e]at gv;dsimp only at gv;omega
 .rw[hw]at gv;omega
 .rw[hw,e]at gv;dsimp only at gv;omega
theorem ye (s:ByteArray):∀ (f pos:Nat) (st:Option Nat) (acc:List (Nat×Nat)),s.size<=pos+f->pos<=s.size->(∀ a,st=some a->a < pos)->
  acc.map (fun p=>Lib.pieceU s.data.toList p.1 p.2) ++ gT 32 (Lib.openPiece s.data.toList st pos) (s.data.toList.drop pos)=(Lib.closeSpans s (Lib.spansFromP mT s f pos st acc)).map (fun p=>Lib.pieceU s.data.toList p.1 p.2)
 | 0,pos,st,acc,h,hp,cU=>by
  obtain rfl:pos=s.size:=by omega
  have hd:s.data.toList.drop s.size=[]:=adI (by rw[<- Lib.size_eq];exact abL _);rw[hd,gT]
  cases st with
  | none=>simp[Lib.spansFromP,Lib.closeSpans,Lib.openPiece]
  | some a=>
   have:=Lib.pieceU_ne s.data.toList a s.size (cU a rfl) (by rw[<- Lib.size_eq];exact abL _);simp[Lib.spansFromP,Lib.closeSpans,Lib.openPiece,this]
 | f+1,pos,st,acc,h,hp,cU=>by
  by_cases au:pos < s.size
  .have hw:=Lib.width_pos s pos
   have xq:pos+(Utf8.decode s pos).2<=s.size:=by
    have:=Lib.decodeN_le_n' (s.size - pos) (s.get! pos).toNat (s.get! (pos+1)).toNat (s.get! (pos+2)).toNat (s.get! (pos+3)).toNat (by omega);rw[<- Lib.decode_at]at this;omega
   simp only[Lib.spansFromP,if_pos au]
   cases hsp:mT (Utf8.decode s pos).1 with
   | true=>
    obtain⟨h1,h2⟩:=Oe s pos au hsp;rw[h1];simp only[if_true];rw[h2]
    cases st with
    | none=>
     have ih:=ye s f (pos+1) none acc (by omega) (by omega) (fun a h=>by cases h);simpa[Lib.openPiece,gT]using ih
    | some a=>
     have DW:=Lib.pieceU_ne s.data.toList a pos (cU a rfl) (by rw[<- Lib.size_eq];omega);have ih:=ye s f (pos+1) none (acc ++ [(a,pos)]) (by omega) (by omega) (fun a h=>by cases h);simpa[Lib.openPiece,DW,gT]using ih
   | false=>
    have hf:=OW s pos au hsp;simp only[abT,if_false]
    have Jp:s.data.toList.drop pos=(s.data.toList.drop pos).take (Utf8.decode s pos).2 ++ s.data.toList.drop (pos+(Utf8.decode s pos).2):=by
     rw[<- List.drop_drop,aeM]
    cases st with
    | none=>
     have ih:=ye s f (pos+(Utf8.decode s pos).2) (some pos) acc (by omega) xq (fun a h=>by cases h;omega)
     have e:([]:Tx) ++ (s.data.toList.drop pos).take (Utf8.decode s pos).2=Lib.pieceU s.data.toList pos (pos+(Utf8.decode s pos).2):=by
      unfold Lib.pieceU;rw[aei,Nat.add_sub_cancel_left]
     simp only[Lib.openPiece]at ih ⊢;rw[Jp,Gn _ _ _ hf,e];exact ih
    | some a=>
     have ih:=ye s f (pos+(Utf8.decode s pos).2) (some a) acc (by omega) xq (fun b h=>by cases h;have:=cU a rfl;omega);simp only[Lib.openPiece]at ih ⊢;rw[Jp,Gn _ _ _ hf,Lib.pieceU_grow _ _ _ _ (by have:=cU a rfl;omega)];exact ih
  .have hd:s.data.toList.drop pos=[]:=adI (by rw[<- Lib.size_eq];omega)
   obtain rfl:pos=s.size:=by omega
   rw[Lib.spansFromP_end _ _ _ _ _ _ au,hd,gT]
   cases st with
   | none=>simp[Lib.closeSpans,Lib.openPiece]
   | some a=>
    have:=Lib.pieceU_ne s.data.toList a s.size (cU a rfl) (by rw[<- Lib.size_eq];exact abL _);simp[Lib.closeSpans,Lib.openPiece,this]
theorem PQ (s:ByteArray) (a b:Nat):(s.extract a b).data.toList=Lib.pieceU s.data.toList a b:=by
 rw[Lib.extract_data];unfold Lib.pieceU;first | rfl | simp[List.take_drop]
theorem HH (t:Tx):(Lib.goFieldsP mT (bs t)).map (fun x=>x.data.toList)=fz t:=by
 have h:=ye (bs t) (bs t).size 0 none [] (by omega) (by omega) (fun a h=>by cases h);simp only[Lib.openPiece,aeX,aei,List.drop_zero,cj]at h;unfold Lib.goFieldsP Lib.spansOfP fz;rw[abU,h];refine List.map_congr_left fun p _=>?_;show ((bs t).extract p.1 p.2).data.toList=_;rw[PQ,cj]
theorem Km {x:UInt8}:∀ {l:Tx},x∈l.takeWhile (fun x=>x == 32)->x=32
 | y :: l,h=>by
  rw[aeC]at h;split at h
  .rename_i hy
   rcases abV.1 h with rfl | h
   .simpa using hy
   .exact Km h
  .cases h
theorem ZJ {t:Tx} (h:Lib.trimB t 32=[]):∀ x∈t,x=32:=by
 have h0:∀ (l:Tx),l.dropWhile (fun x=>x == 32)=[]->∀ x∈l,x=32:=fun l hl x hx=>by
  have:=(dropWhile_nil (p:=fun x:UInt8=>x == 32)).1 hl x hx;simpa using this
 unfold Lib.trimB Lib.trimLeftB Lib.trimRightB at h;have h1:=h0 _ h;intro x hx;by_cases hm:x∈t.reverse.dropWhile (fun x=>x == 32)
 .exact h1 x (by simpa using hm)
 .have h2:=List.takeWhile_append_dropWhile (p:=fun x:UInt8=>x == 32) (l:=t.reverse)
  have h3:x∈t.reverse.takeWhile (fun x=>x == 32):=by
   have:x∈t.reverse:=by simpa using hx
   rw[<- h2,ab4]at this;exact this.resolve_right hm
  exact Km h3
theorem MQ {c:UInt8}:∀ (l cur:Tx),cur≠[]->gT c cur l≠[]
 | [],cur,h=>by unfold gT;simp[h]
 | x :: l,cur,h=>by
  unfold gT;split
  .simp[h]
  .exact MQ l _ (by simp)
theorem MR:∀ (t:Tx),fz t=[]↔∀ x∈t,x=32
 | []=>by simp[fz,gT]
 | x :: t=>by
  have ih:=MR t;unfold fz at ih ⊢;unfold gT;by_cases hx:x=32
  .simp only[hx,if_true];rw[ih];simp
  .rw[if_neg hx];refine⟨fun h=>absurd h (MQ _ _ (by simp)),fun h=>absurd (h x (by simp)) hx⟩
theorem ZL (t:Tx):Lib.trimB t 32=[]↔fz t=[]:=by
 rw[MR];refine⟨ZJ,fun h=>?_⟩
 have h1:t.reverse.dropWhile (fun x=>x == 32)=[]:=(dropWhile_nil (p:=fun x:UInt8=>x == 32)).2 fun x hx=>by
  have:=h x (by simpa using hx);simp[this]
 unfold Lib.trimB Lib.trimRightB Lib.trimLeftB;rw[h1];rfl
theorem BD {c:UInt8}:∀ (l cur:Tx),∀ w∈gT c cur l,w≠[]/\w.length<=cur.length+l.length
 | [],cur,w,h=>by
  unfold gT at h;split at h
  .cases h
  .rename_i hc
   obtain rfl:w=cur:=by simpa using h
   exact⟨hc,by simp⟩
 | x :: l,cur,w,h=>by
  unfold gT at h;split at h
  .split at h
   .have:=BD l [] w h;simp at this ⊢;exact⟨this.1,by omega⟩
   .rename_i hc
    rcases abV.1 h with rfl | h
    .exact⟨hc,by simp⟩
    .have:=BD l [] w h;simp at this ⊢;exact⟨this.1,by omega⟩
  .have:=BD l (cur ++ [x]) w h;simp at this ⊢;exact⟨this.1,by omega⟩
theorem BC {t w:Tx} (h:w∈fz t):w≠[]/\w.length<=t.length:=by
 have:=BD t [] w h;simpa using this
theorem BA {c:UInt8}:∀ (l cur:Tx),(gT c cur l).length<=l.length+1
 | [],cur=>by unfold gT;split<;>simp
 | x :: l,cur=>by
  unfold gT;split
  .split
   .have:=BA (c:=c) l [];simp;omega
   .have:=BA (c:=c) l [];simp;omega
  .have:=BA (c:=c) l (cur ++ [x]);simp;omega
theorem agP (t:Tx):(fz t).length<=t.length+1:=BA t []
theorem Cl {c:UInt8}:∀ (l cur:Tx),(adD c cur l).length<=l.length+1
 | [],cur=>by simp[adD]
 | x :: l,cur=>by
  unfold adD;split
  .have:=Cl (c:=c) l [];simp;omega
  .have:=Cl (c:=c) l (cur ++ [x]);simp;omega
theorem yV (c:UInt8) (t:Tx):(acx c t).length<=t.length+1:=Cl t []
def gH (l:List Tx) (k:Nat):Nat:=((l.take k).map fun s=>s.length+1).sum
theorem VM (l:List Tx):gH l 0=0:=rfl
theorem Fo {l:List Tx} {k:Nat} (h:k < l.length):gH l (k+1)=gH l k+l[k].length+1:=by
 unfold gH;rw[abR h,ac5,List.sum_append];simp;omega
theorem Cn {c:UInt8}:∀ (l cur:Tx),((adD c cur l).map fun s=>s.length+1).sum=cur.length+l.length+1
 | [],cur=>by simp[adD]
 | x :: l,cur=>by
  unfold adD;split
  .rw[acJ,List.sum_cons,Cn l []];simp;omega
  .rw[Cn l (cur ++ [x])];simp;omega
theorem Zd (l:List Nat) (k:Nat):(l.take k).sum<=l.sum:=by
 have h:=aeM k l;have:=congrArg List.sum h;rw[List.sum_append]at this;omega
theorem VL (c:UInt8) (t:Tx) (k:Nat):gH (acx c t) k<=t.length+1:=by
 have h:=Cn (c:=c) t [];unfold gH acx;rw[List.map_take];have:=Zd ((adD c [] t).map fun s=>s.length+1) k;simp at h;omega
theorem ag0 {c:UInt8} {t:Tx} {k:Nat} (h:k < (acx c t).length):gH (acx c t) k+((acx c t)[k]).length<=t.length:=by
 have h1:=Fo h;have h2:=VL c t (k+1);omega
