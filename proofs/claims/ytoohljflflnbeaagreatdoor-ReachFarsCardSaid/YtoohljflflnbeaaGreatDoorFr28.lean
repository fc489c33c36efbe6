/- Parts. -/
import Derived.Test.YtoohljflflnbeaaGreatDoorFr23
import Derived.Lib.SplitLaws
import Derived.Lib.FieldsP
import Derived.Lib.SpaceUEq
import Derived.Lib.TrimByte
import Derived.Lib.CutLaws
set_option linter.unusedSimpArgs false
set_option linter.unusedVariables false
namespace Go.Proofs.YtoohljflflnbeaaGreatDoor
open Go.Av
def kV (c:UInt8):Tx->Tx->List Tx
 | cur,[]=>[cur]
 | cur,x :: l=>if x=c then cur :: kV c [] l else kV c (cur ++ [x]) l
def eW (c:UInt8) (t:Tx):List Tx:=kV c [] t
def j7 (c:UInt8):Tx->Tx->List Tx
 | cur,[]=>if cur=[] then [] else [cur]
 | cur,x :: l=>if x=c then (if cur=[] then j7 c [] l else cur :: j7 c [] l) else j7 c (cur ++ [x]) l
def iT (t:Tx):List Tx:=j7 32 [] t
theorem HS (c:UInt8):∀ (l cur:Tx),(kV c cur l).filter (fun w=>decide (w≠[]))=j7 c cur l
 | [],cur=>by
  unfold kV j7;by_cases h:cur=[]<;>simp[h]
 | x :: l,cur=>by
  unfold kV j7;split
  .rw[List.filter_cons,HS c l []];by_cases h:cur=[]<;>simp[h]
  .exact HS c l _
theorem IK {c:UInt8}:∀ (l cur:Tx),kV c cur l≠[]
 | [],cur=>by unfold kV;simp
 | x :: l,cur=>by
  unfold kV;split
  .simp
  .exact IK l _
theorem OE {c:UInt8}:∀ (l cur:Tx),c ∉ l->kV c cur l=[cur ++ l]
 | [],cur,_=>by simp[kV]
 | x :: l,cur,h=>by
  have hx:x≠c:=fun e=>h (by simp[e]);unfold kV;rw[if_neg hx,OE l _ (fun e=>h (by simp[e]))];simp
theorem OG {c:UInt8}:∀ (l cur r:Tx),c ∉ l->kV c cur (l ++ c :: r)=(cur ++ l) :: kV c [] r
 | [],cur,r,_=>by simp[kV]
 | x :: l,cur,r,h=>by
  have hx:x≠c:=fun e=>h (by simp[e]);rw[akF,kV,if_neg hx,OG l _ r (fun e=>h (by simp[e]))];simp
theorem OH {c:UInt8} {t:Tx} (h:c ∉ t):eW c t=[t]:=by unfold eW;rw[OE t [] h];rfl
theorem OI {c:UInt8} {a b:Tx} (h:c ∉ a):eW c (a ++ c :: b)=a :: eW c b:=by unfold eW;rw[OG a [] b h];rfl
theorem NF {c:UInt8}:∀ (x cur l:Tx),c ∉ x->j7 c cur (x ++ l)=j7 c (cur ++ x) l
 | [],cur,l,_=>ak
 | y :: x,cur,l,h=>by
  have hy:y≠c:=fun e=>h (by simp[e]);rw[akF]
  conv=>lhs;unfold j7
  rw[if_neg hy,NF x _ l (fun e=>h (by simp[e]))];simp
theorem Gt {c:UInt8}:∀ {t:Tx},c ∉ t->Lib.index t [c] = -1
 | [],_=>rfl
 | x :: t,h=>by
  have hx:x≠c:=fun e=>h (by simp[e]);unfold Lib.index;rw[Gt (t:=t) (fun e=>h (by simp[e]))];simp[List.isPrefixOf,akI hx]
theorem Dn {c:UInt8}:∀ {a:Tx} (b:Tx),c ∉ a->Lib.index (a ++ c :: b) [c]=(a.length:Int)
 | [],b,_=>by
  rw[akM];unfold Lib.index;simp[List.isPrefixOf]
 | x :: a,b,h=>by
  have hx:x≠c:=fun e=>h (by simp[e]);rw[akF];unfold Lib.index;rw[Dn (a:=a) b (fun e=>h (by simp[e]))]
  have h1:((a.length:Int) == -1)=false:=by rw[beq_eq_false_iff_ne];omega
  simp[List.isPrefixOf,akI hx,h1]
theorem agQ (c:UInt8):∀ (n:Nat) (t:Tx),t.length<=n->Lib.splitK [c] 0 (t.count c) t=eW c t:=by
 intro n
 induction n with
 | zero=>
  intro t h;obtain rfl:t=[]:=ak4.1 aa;rfl
 | succ n ih=>
  intro t h;by_cases hc:c∈t
  .obtain⟨a,b,rfl,ha⟩:=akx hc
   have ZS:(a ++ c :: b).count c=b.count c+1:=by
    rw[List.count_append,List.count_eq_zero.2 ha,List.count_cons];simp
   rw[ZS,Lib.splitK,Dn b ha,OI ha]
   have h1:((a.length:Int) == -1)=false:=by rw[beq_eq_false_iff_ne];omega
   have hb:b.length<=n:=by simp at h;omega
   simp[h1,ih b hb]
  .rw[List.count_eq_zero.2 hc,OH hc];rfl
theorem Ut (c:UInt8) (t:Tx):(Lib.splitB (bs [c]) 0 (Lib.countB (bs t) (bs [c])) (bs t)).map (fun x=>x.data.toList)=eW c t:=by
 rw[Lib.splitB_data,dr,dr]
 have:Lib.countB (bs t) (bs [c])=t.count c:=by
  show Lib.count (bs t).data.toList (bs [c]).data.toList=_;rw[dr,dr,Lib.count_one]
 rw[this];exact agQ c _ t (ajJ _)
theorem agT (c:UInt8) (t:Tx):Lib.countB (bs t) (bs [c])+1=(eW c t).length:=by
 rw[<- Ut,aki,Lib.splitB_all (bs [c]) (by rw[bN];simp) 0 _ (bs t) rfl]
def cutAt (c:UInt8) (t:Tx):Tx×Tx:=(t.takeWhile (fun x=>!decide (x=c)),(t.dropWhile (fun x=>!decide (x=c))).drop 1)
theorem zF {c:UInt8} {a b:Tx} (h:c ∉ a):cutAt c (a ++ c :: b)=(a,b):=by
 unfold cutAt
 have h1:∀ x∈a,(!decide (x=c))=true:=fun x hx=>by
  have:x≠c:=fun e=>h (e ▸ hx);simp[this]
 rw[List.takeWhile_append_of_pos h1,List.dropWhile_append_of_pos h1];simp
theorem Xp {c:UInt8} {t:Tx} (h:c∈t):t=(cutAt c t).1 ++ c :: (cutAt c t).2/\c ∉ (cutAt c t).1:=by
 obtain⟨a,b,rfl,ha⟩:=akx h;rw[zF ha];exact⟨rfl,ha⟩
theorem Xq (c:UInt8) (t:Tx):Lib.cut t [c]=if c∈t then ((cutAt c t).1,(cutAt c t).2,true) else (t,[],false):=by
 split
 .rename_i h;obtain⟨a,b,rfl,ha⟩:=akx h;rw[zF ha];unfold Lib.cut;rw[Dn b ha,if_pos aa];simp
 .rename_i h;unfold Lib.cut;rw[Gt h];simp
def rO (r:Nat):Bool:=decide (r=32)
theorem Xg (s:ByteArray) (pos:Nat) (aH:pos < s.size) (h:rO (Utf8.decode s pos).1=false):(32:UInt8) ∉ (s.data.toList.drop pos).take (Utf8.decode s pos).2:=by
 intro hm;obtain⟨j,hj,he⟩:=aj1.1 hm;rw[ajW,aj5]at hj;rw[List.getElem_take,List.getElem_drop]at he
 have hg:s.data.toList.getD (pos+j) 0=32:=by rw[OF,AT aa,he];rfl
 have hw:Utf8.decode s pos=_:=Lib.decode_N s pos
 have hc:=Lib.decodeN_conts (s.data.toList.length - pos) (s.data.toList.getD pos 0).toNat (s.data.toList.getD (pos+1) 0).toNat (s.data.toList.getD (pos+2) 0).toNat (s.data.toList.getD (pos+3) 0).toNat
 rw[<- hw]at hc;obtain⟨c1,c2,c3,c4⟩:=hc
 have pM:j < (Utf8.decode s pos).2:=aa
 have jH:(32:UInt8).toNat=32:=rfl
 rcases akS j 1 with qE | qE
 .obtain rfl:j=0:=aa
  rw[akD]at hg;rw[hg,jH,Lib.decodeN_ascii _ _ _ _ _ aa]at hw;rw[hw]at h;simp[rO]at h
 .obtain rfl | rfl | rfl:j=1\/j=2\/j=3:=aa
  .have:=(c1 aa).1;rw[hg,jH]at this;omega
  .have:=(c2 aa).1;rw[hg,jH]at this;omega
  .have:=(c3 aa).1;rw[hg,jH]at this;omega
theorem WB (s:ByteArray) (pos:Nat) (aH:pos < s.size) (h:rO (Utf8.decode s pos).1=true):(Utf8.decode s pos).2=1/\s.data.toList.drop pos=32 :: s.data.toList.drop (pos+1):=by
 have hl:pos < s.data.toList.length:=by rw[<- Lib.size_eq];exact aH
 have hw:Utf8.decode s pos=_:=Lib.decode_N s pos
 have hg:s.data.toList.getD pos 0=s.data.toList[pos]:=by rw[OF,AT hl];rfl
 have jH:(Utf8.decode s pos).1=32:=by simpa[rO]using h
 rcases Lib.decodeN_cases (s.data.toList.length - pos) (s.data.toList.getD pos 0).toNat (s.data.toList.getD (pos+1) 0).toNat (s.data.toList.getD (pos+2) 0).toNat (s.data.toList.getD (pos+3) 0).toNat with⟨c,e⟩ | ⟨c1,c2,c3,cv,e⟩ | ⟨c1,c2,c3,c4,cv,e⟩ | ⟨c,e⟩ | e
 .rw[e]at hw;rw[hw]at jH ⊢;refine⟨rfl,?_⟩;dsimp only at jH;rw[aj4 hl,<- hg];have:s.data.toList.getD pos 0=32:=UInt8.toNat.inj (by rw[jH];rfl);rw[this]
 .rw[hw,e]at jH;dsimp only at jH;omega
 .rw[hw,e]at jH;dsimp only at jH;omega
 .rw[hw]at jH;omega
 .rw[hw,e]at jH;dsimp only at jH;omega
theorem D6 (s:ByteArray):∀ (f pos:Nat) (st:Option Nat) (acc:List (Nat×Nat)),s.size<=pos+f->pos<=s.size->(∀ a,st=some a->a < pos)->
  acc.map (fun p=>Lib.pieceU s.data.toList p.1 p.2) ++ j7 32 (Lib.openPiece s.data.toList st pos) (s.data.toList.drop pos)=(Lib.closeSpans s (Lib.spansFromP rO s f pos st acc)).map (fun p=>Lib.pieceU s.data.toList p.1 p.2)
 | 0,pos,st,acc,h,hp,eL=>by
  obtain rfl:pos=s.size:=aa
  have hd:s.data.toList.drop s.size=[]:=akr (by rw[<- Lib.size_eq];exact ajJ _);rw[hd,j7]
  cases st with
  | none=>simp[Lib.spansFromP,Lib.closeSpans,Lib.openPiece]
  | some a=>
   have:=Lib.pieceU_ne s.data.toList a s.size (eL a rfl) (by rw[<- Lib.size_eq];exact ajJ _);simp[Lib.spansFromP,Lib.closeSpans,Lib.openPiece,this]
 | f+1,pos,st,acc,h,hp,eL=>by
  by_cases aH:pos < s.size
  .have hw:=Lib.width_pos s pos
   have Df:pos+(Utf8.decode s pos).2<=s.size:=by
    have:=Lib.decodeN_le_n' (s.size - pos) (s.get! pos).toNat (s.get! (pos+1)).toNat (s.get! (pos+2)).toNat (s.get! (pos+3)).toNat aa;rw[<- Lib.decode_at]at this;omega
   simp only[Lib.spansFromP,if_pos aH]
   cases qH:rO (Utf8.decode s pos).1 with
   | true=>
    obtain⟨h1,h2⟩:=WB s pos aH qH;rw[h1];simp only[if_true];rw[h2]
    cases st with
    | none=>
     have ih:=D6 s f (pos+1) none acc aa aa (fun a h=>by cases h);simpa[Lib.openPiece,j7]using ih
    | some a=>
     have mW:=Lib.pieceU_ne s.data.toList a pos (eL a rfl) (by rw[<- Lib.size_eq];omega);have ih:=D6 s f (pos+1) none (acc ++ [(a,pos)]) aa aa (fun a h=>by cases h);simpa[Lib.openPiece,mW,j7]using ih
   | false=>
    have hf:=Xg s pos aH qH;simp only[ajM,if_false]
    have QW:s.data.toList.drop pos=(s.data.toList.drop pos).take (Utf8.decode s pos).2 ++ s.data.toList.drop (pos+(Utf8.decode s pos).2):=by
     rw[<- List.drop_drop,ale]
    cases st with
    | none=>
     have ih:=D6 s f (pos+(Utf8.decode s pos).2) (some pos) acc aa Df (fun a h=>by cases h;omega)
     have e:([]:Tx) ++ (s.data.toList.drop pos).take (Utf8.decode s pos).2=Lib.pieceU s.data.toList pos (pos+(Utf8.decode s pos).2):=by
      unfold Lib.pieceU;rw[akM,Nat.add_sub_cancel_left]
     simp only[Lib.openPiece]at ih ⊢;rw[QW,NF _ _ _ hf,e];exact ih
    | some a=>
     have ih:=D6 s f (pos+(Utf8.decode s pos).2) (some a) acc aa Df (fun b h=>by cases h;have:=eL a rfl;omega);simp only[Lib.openPiece]at ih ⊢;rw[QW,NF _ _ _ hf,Lib.pieceU_grow _ _ _ _ (by have:=eL a rfl;omega)];exact ih
  .have hd:s.data.toList.drop pos=[]:=akr (by rw[<- Lib.size_eq];omega)
   obtain rfl:pos=s.size:=aa
   rw[Lib.spansFromP_end _ _ _ _ _ _ aH,hd,j7]
   cases st with
   | none=>simp[Lib.closeSpans,Lib.openPiece]
   | some a=>
    have:=Lib.pieceU_ne s.data.toList a s.size (eL a rfl) (by rw[<- Lib.size_eq];exact ajJ _);simp[Lib.closeSpans,Lib.openPiece,this]
theorem Yg (s:ByteArray) (a b:Nat):(s.extract a b).data.toList=Lib.pieceU s.data.toList a b:=by
 rw[Lib.extract_data];unfold Lib.pieceU;first | rfl | simp[List.take_drop]
theorem O7 (t:Tx):(Lib.goFieldsP rO (bs t)).map (fun x=>x.data.toList)=iT t:=by
 have h:=D6 (bs t) (bs t).size 0 none [] aa aa (fun a h=>by cases h);simp only[Lib.openPiece,alj,akM,List.drop_zero,dr]at h;unfold Lib.goFieldsP Lib.spansOfP iT;rw[ajN,h];refine List.map_congr_left fun p _=>?_;show ((bs t).extract p.1 p.2).data.toList=_;rw[Yg,dr]
theorem Se {x:UInt8}:∀ {l:Tx},x∈l.takeWhile (fun x=>x == 32)->x=32
 | y :: l,h=>by
  rw[ak7]at h;split at h
  .rename_i hy
   rcases ajX.1 h with rfl | h
   .simpa using hy
   .exact Se h
  .cases h
theorem ahD {t:Tx} (h:Lib.trimB t 32=[]):∀ x∈t,x=32:=by
 have h0:∀ (l:Tx),l.dropWhile (fun x=>x == 32)=[]->∀ x∈l,x=32:=fun l hl x hx=>by
  have:=(dropWhile_nil (p:=fun x:UInt8=>x == 32)).1 hl x hx;simpa using this
 unfold Lib.trimB Lib.trimLeftB Lib.trimRightB at h;have h1:=h0 _ h;intro x hx;by_cases hm:x∈t.reverse.dropWhile (fun x=>x == 32)
 .exact h1 x (by simpa using hm)
 .have h2:=List.takeWhile_append_dropWhile (p:=fun x:UInt8=>x == 32) (l:=t.reverse)
  have h3:x∈t.reverse.takeWhile (fun x=>x == 32):=by
   have:x∈t.reverse:=by simpa using hx
   rw[<- h2,ajR]at this;exact this.resolve_right hm
  exact Se h3
theorem Vb {c:UInt8}:∀ (l cur:Tx),cur≠[]->j7 c cur l≠[]
 | [],cur,h=>by unfold j7;simp[h]
 | x :: l,cur,h=>by
  unfold j7;split
  .simp[h]
  .exact Vb l _ ak
theorem Vc:∀ (t:Tx),iT t=[]↔∀ x∈t,x=32
 | []=>by simp[iT,j7]
 | x :: t=>by
  have ih:=Vc t;unfold iT at ih ⊢;unfold j7;by_cases hx:x=32
  .simp only[hx,if_true];rw[ih];simp
  .rw[if_neg hx];refine⟨fun h=>absurd h (Vb _ _ ak),fun h=>absurd (h x ak) hx⟩
theorem ahF (t:Tx):Lib.trimB t 32=[]↔iT t=[]:=by
 rw[Vc];refine⟨ahD,fun h=>?_⟩
 have h1:t.reverse.dropWhile (fun x=>x == 32)=[]:=(dropWhile_nil (p:=fun x:UInt8=>x == 32)).2 fun x hx=>by
  have:=h x (by simpa using hx);simp[this]
 unfold Lib.trimB Lib.trimRightB Lib.trimLeftB;rw[h1];rfl
theorem HW {c:UInt8}:∀ (l cur:Tx),∀ w∈j7 c cur l,w≠[]/\w.length<=cur.length+l.length
 | [],cur,w,h=>by
  unfold j7 at h;split at h
  .cases h
  .rename_i hc
   obtain rfl:w=cur:=by simpa using h
   exact⟨hc,ak⟩
 | x :: l,cur,w,h=>by
  unfold j7 at h;split at h
  .split at h
   .have:=HW l [] w h;simp at this ⊢;exact⟨this.1,aa⟩
   .rename_i hc
    rcases ajX.1 h with rfl | h
    .exact⟨hc,ak⟩
    .have:=HW l [] w h;simp at this ⊢;exact⟨this.1,aa⟩
  .have:=HW l (cur ++ [x]) w h;simp at this ⊢;exact⟨this.1,aa⟩
theorem HV {t w:Tx} (h:w∈iT t):w≠[]/\w.length<=t.length:=by
 have:=HW t [] w h;simpa using this
theorem HT {c:UInt8}:∀ (l cur:Tx),(j7 c cur l).length<=l.length+1
 | [],cur=>by unfold j7;split<;>simp
 | x :: l,cur=>by
  unfold j7;split
  .split
   .have:=HT (c:=c) l [];simp;omega
   .have:=HT (c:=c) l [];simp;omega
  .have:=HT (c:=c) l (cur ++ [x]);simp;omega
theorem HU (t:Tx):(iT t).length<=t.length+1:=HT t []
theorem IJ {c:UInt8}:∀ (l cur:Tx),(kV c cur l).length<=l.length+1
 | [],cur=>by simp[kV]
 | x :: l,cur=>by
  unfold kV;split
  .have:=IJ (c:=c) l [];simp;omega
  .have:=IJ (c:=c) l (cur ++ [x]);simp;omega
theorem ET (c:UInt8) (t:Tx):(eW c t).length<=t.length+1:=IJ t []
def jU (l:List Tx) (k:Nat):Nat:=((l.take k).map fun s=>s.length+1).sum
theorem adL (l:List Tx):jU l 0=0:=rfl
theorem My {l:List Tx} {k:Nat} (h:k < l.length):jU l (k+1)=jU l k+l[k].length+1:=by
 unfold jU;rw[ajO h,akj,List.sum_append];simp;omega
theorem IL {c:UInt8}:∀ (l cur:Tx),((kV c cur l).map fun s=>s.length+1).sum=cur.length+l.length+1
 | [],cur=>by simp[kV]
 | x :: l,cur=>by
  unfold kV;split
  .rw[aj6,List.sum_cons,IL l []];simp;omega
  .rw[IL l (cur ++ [x])];simp;omega
theorem agZ (l:List Nat) (k:Nat):(l.take k).sum<=l.sum:=by
 have h:=ale k l;have:=congrArg List.sum h;rw[List.sum_append]at this;omega
theorem adK (c:UInt8) (t:Tx) (k:Nat):jU (eW c t) k<=t.length+1:=by
 have h:=IL (c:=c) t [];unfold jU eW;rw[alu];have:=agZ ((kV c [] t).map fun s=>s.length+1) k;simp at h;omega
theorem Mx {c:UInt8} {t:Tx} {k:Nat} (h:k < (eW c t).length):jU (eW c t) k+((eW c t)[k]).length<=t.length:=by
 have h1:=My h;have h2:=adK c t (k+1);omega
