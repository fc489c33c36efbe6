/- Parts. -/
import Derived.Test.YtobejfcgcfdpfaaGreatDoorPc23
import Derived.Lib.SplitLaws
import Derived.Lib.FieldsP
import Derived.Lib.SpaceUEq
import Derived.Lib.TrimByte
import Derived.Lib.CutLaws
set_option linter.unusedSimpArgs false
set_option linter.unusedVariables false
namespace Go.Proofs.YtobejfcgcfdpfaaGreatDoor
open Go.Av
def ly (c:UInt8):Tx->Tx->List Tx
 | cur,[]=>[cur]
 | cur,x :: l=>if x=c then cur :: ly c [] l else ly c (cur ++ [x]) l
def fy (c:UInt8) (t:Tx):List Tx:=ly c [] t
def kG (c:UInt8):Tx->Tx->List Tx
 | cur,[]=>if cur=[] then [] else [cur]
 | cur,x :: l=>if x=c then (if cur=[] then kG c [] l else cur :: kG c [] l) else kG c (cur ++ [x]) l
def jo (t:Tx):List Tx:=kG 32 [] t
theorem JR (c:UInt8):∀ (l cur:Tx),(ly c cur l).filter (fun w=>decide (w≠[]))=kG c cur l
 | [],cur=>by
  unfold ly kG;by_cases h:cur=[]<;>simp[h]
 | x :: l,cur=>by
  unfold ly kG;split
  .rw[List.filter_cons,JR c l []];by_cases h:cur=[]<;>simp[h]
  .exact JR c l _
theorem KG {c:UInt8}:∀ (l cur:Tx),ly c cur l≠[]
 | [],cur=>by unfold ly;simp
 | x :: l,cur=>by
  unfold ly;split
  .simp
  .exact KG l _
theorem QT {c:UInt8}:∀ (l cur:Tx),c ∉ l->ly c cur l=[cur ++ l]
 | [],cur,_=>by simp[ly]
 | x :: l,cur,h=>by
  have hx:x≠c:=fun e=>h (by simp[e]);unfold ly;rw[if_neg hx,QT l _ (fun e=>h (by simp[e]))];simp
theorem QU {c:UInt8}:∀ (l cur r:Tx),c ∉ l->ly c cur (l ++ c :: r)=(cur ++ l) :: ly c [] r
 | [],cur,r,_=>by simp[ly]
 | x :: l,cur,r,h=>by
  have hx:x≠c:=fun e=>h (by simp[e]);rw[am7,ly,if_neg hx,QU l _ r (fun e=>h (by simp[e]))];simp
theorem QV {c:UInt8} {t:Tx} (h:c ∉ t):fy c t=[t]:=by unfold fy;rw[QT t [] h];rfl
theorem QW {c:UInt8} {a b:Tx} (h:c ∉ a):fy c (a ++ c :: b)=a :: fy c b:=by unfold fy;rw[QU a [] b h];rfl
theorem P1 {c:UInt8}:∀ (x cur l:Tx),c ∉ x->kG c cur (x ++ l)=kG c (cur ++ x) l
 | [],cur,l,_=>ak
 | y :: x,cur,l,h=>by
  have hy:y≠c:=fun e=>h (by simp[e]);rw[am7]
  conv=>lhs;unfold kG
  rw[if_neg hy,P1 x _ l (fun e=>h (by simp[e]))];simp
theorem Ig {c:UInt8}:∀ {t:Tx},c ∉ t->Lib.index t [c] = -1
 | [],_=>rfl
 | x :: t,h=>by
  have hx:x≠c:=fun e=>h (by simp[e]);unfold Lib.index;rw[Ig (t:=t) (fun e=>h (by simp[e]))];simp[List.isPrefixOf,ann hx]
theorem ER {c:UInt8}:∀ {a:Tx} (b:Tx),c ∉ a->Lib.index (a ++ c :: b) [c]=(a.length:Int)
 | [],b,_=>by
  rw[ang];unfold Lib.index;simp[List.isPrefixOf]
 | x :: a,b,h=>by
  have hx:x≠c:=fun e=>h (by simp[e]);rw[am7];unfold Lib.index;rw[ER (a:=a) b (fun e=>h (by simp[e]))]
  have h1:((a.length:Int) == -1)=false:=by rw[beq_eq_false_iff_ne];omega
  simp[List.isPrefixOf,ann hx,h1]
theorem ajc (c:UInt8):∀ (n:Nat) (t:Tx),t.length<=n->Lib.splitK [c] 0 (t.count c) t=fy c t:=by
 intro n
 induction n with
 | zero=>
  intro t h;obtain rfl:t=[]:=anI.1 aa;rfl
 | succ n ih=>
  intro t h;by_cases hc:c∈t
  .obtain⟨a,b,rfl,ha⟩:=ana hc
   have ab2:(a ++ c :: b).count c=b.count c+1:=by
    rw[List.count_append,List.count_eq_zero.2 ha,List.count_cons];simp
   rw[ab2,Lib.splitK,ER b ha,QW ha]
   have h1:((a.length:Int) == -1)=false:=by rw[beq_eq_false_iff_ne];omega
   have hb:b.length<=n:=by simp at h;omega
   simp[h1,ih b hb]
  .rw[List.count_eq_zero.2 hc,QV hc];rfl
theorem Xh (c:UInt8) (t:Tx):(Lib.splitB (bs [c]) 0 (Lib.countB (bs t) (bs [c])) (bs t)).map (fun x=>x.data.toList)=fy c t:=by
 rw[Lib.splitB_data,dM,dM]
 have:Lib.countB (bs t) (bs [c])=t.count c:=by
  show Lib.count (bs t).data.toList (bs [c]).data.toList=_;rw[dM,dM,Lib.count_one]
 rw[this];exact ajc c _ t (amh _)
theorem ajf (c:UInt8) (t:Tx):Lib.countB (bs t) (bs [c])+1=(fy c t).length:=by
 rw[<- Xh,amT,Lib.splitB_all (bs [c]) (by rw[bX];simp) 0 _ (bs t) rfl]
def cutAt (c:UInt8) (t:Tx):Tx×Tx:=(t.takeWhile (fun x=>!decide (x=c)),(t.dropWhile (fun x=>!decide (x=c))).drop 1)
theorem Bb {c:UInt8} {a b:Tx} (h:c ∉ a):cutAt c (a ++ c :: b)=(a,b):=by
 unfold cutAt
 have h1:∀ x∈a,(!decide (x=c))=true:=fun x hx=>by
  have:x≠c:=fun e=>h (e ▸ hx);simp[this]
 rw[List.takeWhile_append_of_pos h1,List.dropWhile_append_of_pos h1];simp
theorem aaf {c:UInt8} {t:Tx} (h:c∈t):t=(cutAt c t).1 ++ c :: (cutAt c t).2/\c ∉ (cutAt c t).1:=by
 obtain⟨a,b,rfl,ha⟩:=ana h;rw[Bb ha];exact⟨rfl,ha⟩
theorem aag (c:UInt8) (t:Tx):Lib.cut t [c]=if c∈t then ((cutAt c t).1,(cutAt c t).2,true) else (t,[],false):=by
 split
 .rename_i h;obtain⟨a,b,rfl,ha⟩:=ana h;rw[Bb ha];unfold Lib.cut;rw[ER b ha,if_pos aa];simp
 .rename_i h;unfold Lib.cut;rw[Ig h];simp
def sP (r:Nat):Bool:=decide (r=32)
theorem Z6 (s:ByteArray) (pos:Nat) (aG:pos < s.size) (h:sP (Utf8.decode s pos).1=false):(32:UInt8) ∉ (s.data.toList.drop pos).take (Utf8.decode s pos).2:=by
 intro hm;obtain⟨j,hj,he⟩:=amz.1 hm;rw[amw,amF]at hj;rw[List.getElem_take,List.getElem_drop]at he
 have hg:s.data.toList.getD (pos+j) 0=32:=by rw[ame,AT aa,he];rfl
 have hw:Utf8.decode s pos=_:=Lib.decode_N s pos
 have hc:=Lib.decodeN_conts (s.data.toList.length - pos) (s.data.toList.getD pos 0).toNat (s.data.toList.getD (pos+1) 0).toNat (s.data.toList.getD (pos+2) 0).toNat (s.data.toList.getD (pos+3) 0).toNat
 rw[<- hw]at hc;obtain⟨c1,c2,c3,c4⟩:=hc
 have qJ:j < (Utf8.decode s pos).2:=aa
 have j2:(32:UInt8).toNat=32:=rfl
 rcases anv j 1 with rF | rF
 .obtain rfl:j=0:=aa
  rw[anj]at hg;rw[hg,j2,Lib.decodeN_ascii _ _ _ _ _ aa]at hw;rw[hw]at h;simp[sP]at h
 .obtain rfl | rfl | rfl:j=1\/j=2\/j=3:=aa
  .have:=(c1 aa).1;rw[hg,j2]at this;omega
  .have:=(c2 aa).1;rw[hg,j2]at this;omega
  .have:=(c3 aa).1;rw[hg,j2]at this;omega
theorem Zs (s:ByteArray) (pos:Nat) (aG:pos < s.size) (h:sP (Utf8.decode s pos).1=true):(Utf8.decode s pos).2=1/\s.data.toList.drop pos=32 :: s.data.toList.drop (pos+1):=by
 have hl:pos < s.data.toList.length:=by rw[<- Lib.size_eq];exact aG
 have hw:Utf8.decode s pos=_:=Lib.decode_N s pos
 have hg:s.data.toList.getD pos 0=s.data.toList[pos]:=by rw[ame,AT hl];rfl
 have j2:(Utf8.decode s pos).1=32:=by simpa[sP]using h
 rcases Lib.decodeN_cases (s.data.toList.length - pos) (s.data.toList.getD pos 0).toNat (s.data.toList.getD (pos+1) 0).toNat (s.data.toList.getD (pos+2) 0).toNat (s.data.toList.getD (pos+3) 0).toNat with⟨c,e⟩ | ⟨c1,c2,c3,cv,e⟩ | ⟨c1,c2,c3,c4,cv,e⟩ | ⟨c,e⟩ | e
 .rw[e]at hw;rw[hw]at j2 ⊢;refine⟨rfl,?_⟩;dsimp only at j2;rw[amu hl,<- hg];have:s.data.toList.getD pos 0=32:=UInt8.toNat.inj (by rw[j2];rfl);rw[this]
 .rw[hw,e]at j2;dsimp only at j2;omega
 .rw[hw,e]at j2;dsimp only at j2;omega
 .rw[hw]at j2;omega
 .rw[hw,e]at j2;dsimp only at j2;omega
theorem FG (s:ByteArray):∀ (f pos:Nat) (st:Option Nat) (acc:List (Nat×Nat)),s.size<=pos+f->pos<=s.size->(∀ a,st=some a->a < pos)->
  acc.map (fun p=>Lib.pieceU s.data.toList p.1 p.2) ++ kG 32 (Lib.openPiece s.data.toList st pos) (s.data.toList.drop pos)=(Lib.closeSpans s (Lib.spansFromP sP s f pos st acc)).map (fun p=>Lib.pieceU s.data.toList p.1 p.2)
 | 0,pos,st,acc,h,hp,dW=>by
  obtain rfl:pos=s.size:=aa
  have hd:s.data.toList.drop s.size=[]:=amH (by rw[<- Lib.size_eq];exact amh _);rw[hd,kG]
  cases st with
  | none=>simp[Lib.spansFromP,Lib.closeSpans,Lib.openPiece]
  | some a=>
   have:=Lib.pieceU_ne s.data.toList a s.size (dW a rfl) (by rw[<- Lib.size_eq];exact amh _);simp[Lib.spansFromP,Lib.closeSpans,Lib.openPiece,this]
 | f+1,pos,st,acc,h,hp,dW=>by
  by_cases aG:pos < s.size
  .have hw:=Lib.width_pos s pos
   have EJ:pos+(Utf8.decode s pos).2<=s.size:=by
    have:=Lib.decodeN_le_n' (s.size - pos) (s.get! pos).toNat (s.get! (pos+1)).toNat (s.get! (pos+2)).toNat (s.get! (pos+3)).toNat aa;rw[<- Lib.decode_at]at this;omega
   simp only[Lib.spansFromP,if_pos aG]
   cases wB:sP (Utf8.decode s pos).1 with
   | true=>
    obtain⟨h1,h2⟩:=Zs s pos aG wB;rw[h1];simp only[if_true];rw[h2]
    cases st with
    | none=>
     have ih:=FG s f (pos+1) none acc aa aa (fun a h=>by cases h);simpa[Lib.openPiece,kG]using ih
    | some a=>
     have nD:=Lib.pieceU_ne s.data.toList a pos (dW a rfl) (by rw[<- Lib.size_eq];omega);have ih:=FG s f (pos+1) none (acc ++ [(a,pos)]) aa aa (fun a h=>by cases h);simpa[Lib.openPiece,nD,kG]using ih
   | false=>
    have hf:=Z6 s pos aG wB;simp only[amn,if_false]
    have TK:s.data.toList.drop pos=(s.data.toList.drop pos).take (Utf8.decode s pos).2 ++ s.data.toList.drop (pos+(Utf8.decode s pos).2):=by
     rw[<- List.drop_drop,anR]
    cases st with
    | none=>
     have ih:=FG s f (pos+(Utf8.decode s pos).2) (some pos) acc aa EJ (fun a h=>by cases h;omega)
     have e:([]:Tx) ++ (s.data.toList.drop pos).take (Utf8.decode s pos).2=Lib.pieceU s.data.toList pos (pos+(Utf8.decode s pos).2):=by
      unfold Lib.pieceU;rw[ang,Nat.add_sub_cancel_left]
     simp only[Lib.openPiece]at ih ⊢;rw[TK,P1 _ _ _ hf,e];exact ih
    | some a=>
     have ih:=FG s f (pos+(Utf8.decode s pos).2) (some a) acc aa EJ (fun b h=>by cases h;have:=dW a rfl;omega);simp only[Lib.openPiece]at ih ⊢;rw[TK,P1 _ _ _ hf,Lib.pieceU_grow _ _ _ _ (by have:=dW a rfl;omega)];exact ih
  .have hd:s.data.toList.drop pos=[]:=amH (by rw[<- Lib.size_eq];omega)
   obtain rfl:pos=s.size:=aa
   rw[Lib.spansFromP_end _ _ _ _ _ _ aG,hd,kG]
   cases st with
   | none=>simp[Lib.closeSpans,Lib.openPiece]
   | some a=>
    have:=Lib.pieceU_ne s.data.toList a s.size (dW a rfl) (by rw[<- Lib.size_eq];exact amh _);simp[Lib.closeSpans,Lib.openPiece,this]
theorem aaT (s:ByteArray) (a b:Nat):(s.extract a b).data.toList=Lib.pieceU s.data.toList a b:=by
 rw[Lib.extract_data];unfold Lib.pieceU;first | rfl | simp[List.take_drop]
theorem Rm (t:Tx):(Lib.goFieldsP sP (bs t)).map (fun x=>x.data.toList)=jo t:=by
 have h:=FG (bs t) (bs t).size 0 none [] aa aa (fun a h=>by cases h);simp only[Lib.openPiece,anS,ang,List.drop_zero,dM]at h;unfold Lib.goFieldsP Lib.spansOfP jo;rw[amk,h];refine List.map_congr_left fun p _=>?_;show ((bs t).extract p.1 p.2).data.toList=_;rw[aaT,dM]
theorem UW {x:UInt8}:∀ {l:Tx},x∈l.takeWhile (fun x=>x == 32)->x=32
 | y :: l,h=>by
  rw[anL]at h;split at h
  .rename_i hy
   rcases amx.1 h with rfl | h
   .simpa using hy
   .exact UW h
  .cases h
theorem aj0 {t:Tx} (h:Lib.trimB t 32=[]):∀ x∈t,x=32:=by
 have h0:∀ (l:Tx),l.dropWhile (fun x=>x == 32)=[]->∀ x∈l,x=32:=fun l hl x hx=>by
  have:=(dropWhile_nil (p:=fun x:UInt8=>x == 32)).1 hl x hx;simpa using this
 unfold Lib.trimB Lib.trimLeftB Lib.trimRightB at h;have h1:=h0 _ h;intro x hx;by_cases hm:x∈t.reverse.dropWhile (fun x=>x == 32)
 .exact h1 x (by simpa using hm)
 .have h2:=List.takeWhile_append_dropWhile (p:=fun x:UInt8=>x == 32) (l:=t.reverse)
  have h3:x∈t.reverse.takeWhile (fun x=>x == 32):=by
   have:x∈t.reverse:=by simpa using hx
   rw[<- h2,amq]at this;exact this.resolve_right hm
  exact UW h3
theorem X2 {c:UInt8}:∀ (l cur:Tx),cur≠[]->kG c cur l≠[]
 | [],cur,h=>by unfold kG;simp[h]
 | x :: l,cur,h=>by
  unfold kG;split
  .simp[h]
  .exact X2 l _ ak
theorem X3:∀ (t:Tx),jo t=[]↔∀ x∈t,x=32
 | []=>by simp[jo,kG]
 | x :: t=>by
  have ih:=X3 t;unfold jo at ih ⊢;unfold kG;by_cases hx:x=32
  .simp only[hx,if_true];rw[ih];simp
  .rw[if_neg hx];refine⟨fun h=>absurd h (X2 _ _ ak),fun h=>absurd (h x ak) hx⟩
theorem aj2 (t:Tx):Lib.trimB t 32=[]↔jo t=[]:=by
 rw[X3];refine⟨aj0,fun h=>?_⟩
 have h1:t.reverse.dropWhile (fun x=>x == 32)=[]:=(dropWhile_nil (p:=fun x:UInt8=>x == 32)).2 fun x hx=>by
  have:=h x (by simpa using hx);simp[this]
 unfold Lib.trimB Lib.trimRightB Lib.trimLeftB;rw[h1];rfl
theorem JV {c:UInt8}:∀ (l cur:Tx),∀ w∈kG c cur l,w≠[]/\w.length<=cur.length+l.length
 | [],cur,w,h=>by
  unfold kG at h;split at h
  .cases h
  .rename_i hc
   obtain rfl:w=cur:=by simpa using h
   exact⟨hc,ak⟩
 | x :: l,cur,w,h=>by
  unfold kG at h;split at h
  .split at h
   .have:=JV l [] w h;simp at this ⊢;exact⟨this.1,aa⟩
   .rename_i hc
    rcases amx.1 h with rfl | h
    .exact⟨hc,ak⟩
    .have:=JV l [] w h;simp at this ⊢;exact⟨this.1,aa⟩
  .have:=JV l (cur ++ [x]) w h;simp at this ⊢;exact⟨this.1,aa⟩
theorem JU {t w:Tx} (h:w∈jo t):w≠[]/\w.length<=t.length:=by
 have:=JV t [] w h;simpa using this
theorem JS {c:UInt8}:∀ (l cur:Tx),(kG c cur l).length<=l.length+1
 | [],cur=>by unfold kG;split<;>simp
 | x :: l,cur=>by
  unfold kG;split
  .split
   .have:=JS (c:=c) l [];simp;omega
   .have:=JS (c:=c) l [];simp;omega
  .have:=JS (c:=c) l (cur ++ [x]);simp;omega
theorem JT (t:Tx):(jo t).length<=t.length+1:=JS t []
theorem KF {c:UInt8}:∀ (l cur:Tx),(ly c cur l).length<=l.length+1
 | [],cur=>by simp[ly]
 | x :: l,cur=>by
  unfold ly;split
  .have:=KF (c:=c) l [];simp;omega
  .have:=KF (c:=c) l (cur ++ [x]);simp;omega
theorem Gt (c:UInt8) (t:Tx):(fy c t).length<=t.length+1:=KF t []
def kg (l:List Tx) (k:Nat):Nat:=((l.take k).map fun s=>s.length+1).sum
theorem ahx (l:List Tx):kg l 0=0:=rfl
theorem OP {l:List Tx} {k:Nat} (h:k < l.length):kg l (k+1)=kg l k+l[k].length+1:=by
 unfold kg;rw[aml h,amV,List.sum_append];simp;omega
theorem KH {c:UInt8}:∀ (l cur:Tx),((ly c cur l).map fun s=>s.length+1).sum=cur.length+l.length+1
 | [],cur=>by simp[ly]
 | x :: l,cur=>by
  unfold ly;split
  .rw[amE,List.sum_cons,KH l []];simp;omega
  .rw[KH l (cur ++ [x])];simp;omega
theorem ajk (l:List Nat) (k:Nat):(l.take k).sum<=l.sum:=by
 have h:=anR k l;have:=congrArg List.sum h;rw[List.sum_append]at this;omega
theorem ahw (c:UInt8) (t:Tx) (k:Nat):kg (fy c t) k<=t.length+1:=by
 have h:=KH (c:=c) t [];unfold kg fy;rw[an7];have:=ajk ((ly c [] t).map fun s=>s.length+1) k;simp at h;omega
theorem OO {c:UInt8} {t:Tx} {k:Nat} (h:k < (fy c t).length):kg (fy c t) k+((fy c t)[k]).length<=t.length:=by
 have h1:=OP h;have h2:=ahw c t (k+1);omega
