/- Parts. -/
import Derived.Test.YtoohljflflnbeaaGreatDoorSt21
import Derived.Test.YtoohljflflnbeaaGreatDoorSt22
import Derived.Shelf.Small.Strs
import Derived.Lib.IndexLaws
set_option linter.unusedSimpArgs false
set_option linter.unusedVariables false
set_option maxHeartbeats 16000000
set_option maxRecDepth 100000
open Go.Proofs.Tryz
namespace Go.Proofs.YtoohljflflnbeaaGreatDoor
open Go.Av
open Go.Shelf
def cq (t:List UInt8) (i:Int):Row:=.box 258 [.d (dS t),int i]
def bK (t:List UInt8) (i:Int):List (Nat×Row):=[(500,cq t i)]
theorem xg (a:UInt8) (n:Nat) (hn:n < 256):((a.toNat:Int)=(n:Int))↔a=UInt8.ofNat n:=by
 constructor
 .intro h
  have:a.toNat=n:=aa
  rw[<- this,UInt8.ofNat_toNat]
 .rintro rfl;simp;omega
theorem acR:type_of% (Aq @acC (Aq @bK.eq_1 (Aq @cq.eq_1 @acB))):=(Aq @acC (Aq @bK.eq_1 (Aq @cq.eq_1 @acB)))
theorem An (G:aF) (t:List UInt8) (i:Nat) (ht:t.length < 2^60) (hi:i<=t.length) :
  MC prog G [500] 137 [.ref 500 0 0] (au (bK t i)) (.d (.bI [])) (au (bK t (aQ t i))):=by
 refine MC.aU (aw _) func137 rfl rfl (rs:=[]) results137 (by simp[ntmps137]) rfl fun X=>?_;simp only[ntmps137];have fw:=acR;refine eD (S:=Nat) (fun k=>k<=t.length/\aQ t k=aQ t i) (fun k=>⟨bl [(0,.ref 500 0 0)],au [(500,.box 258 [.d (dS t),int k])]⟩) (fun k=>t.length - k) i ?_ ⟨hi,rfl⟩ ?_
 .refine bL fw
 .rintro k ⟨hk,hs⟩;refine ah fun K1 aI=>?_;by_cases de:k < t.length
  .have R9:(k:Int) < (t.length:Int):=aa
   have oD:t.getD k 0=t[k]:=by simp[aa5,de]
   by_cases hb:((t[k]).toNat:Int)=32
   .have qf:=(Aq fw (Aq @bD (Aq @cU (Aq @de @hb))));refine gh [0,23] [500] ?_;refine aD (ax (aI _ ?_));refine bd (fe fw ?_);try simp only[bY,b9]
    have gZ:t[k]? = some 32:=by
     rw[IN de,(xg _ 32 bh).1 hb];rfl
    refine cC.mk (k+1) ⟨aa,?_⟩ aa ?_
    .rw[<- zD gZ];exact hs
    refine bL fw
   .have qf:=(Aq fw (Aq @bD (Aq @cU (Aq @de @hb))));refine gh [0,23] [500] ?_;refine aj (cX ?_)
    have gZ:t[k]?≠some 32:=by
     rw[IN de];intro h;apply hb;rw[AI h];rfl
    rw[pc gZ]at hs;rw[<- hs];simp[bK,cq,dS,D.le_refl]
  .obtain rfl:k=t.length:=aa
   have qf:=(Aq fw (Aq @bD @cU));refine gh [0,23] [500] ?_;refine aj (cX ?_)
   have gZ:t[t.length]?≠some 32:=al
   rw[pc gZ]at hs;rw[<- hs];simp[bK,cq,dS,D.le_refl]
theorem CI (G:aF) (t:List UInt8) (i:Nat) (ht:t.length < 2^60) (hi:i<=t.length) (c:UInt8) :
  MC prog G [500] 258 [.ref 500 0 0,.d (.v (.int .u8 c.toNat))] (au (bK t i)) (.d (.v (.bool (du t c i).1))) (au (bK t (du t c i).2)):=by
 have eG:=An G t i ht hi;have fX:=iD hi;unfold du;generalize aQ t i=j at eG fX ⊢;by_cases j9:j < t.length
 .rw[IN j9];by_cases hb:t[j]=c
  .have bp:((t[j]).toNat:Int)=(c.toNat:Int):=by rw[hb]
   rw[if_pos (by rw[hb])];refine MC.aU (aw _) func258 rfl rfl (rs:=[.tmp 4]) results258 (by simp[ntmps258]) rfl fun X=>?_;simp only[ntmps258];have fw:=acR;refine af fw [0,1] [500] ?_;refine bA fw eG [0,1] [500] ?_;refine ah fun K1 aI=>?_;have qf:=(Aq fw (Aq @bD (Aq @cU (Aq @j9 @bp))));refine gh [0,29] [500] ?_;refine aD (af fw [] [500] ?_);refine af fw [4] [500] ?_;exact bg (Aq fw (Aq @bK.eq_1 @cq.eq_1))
  .have bp:¬ ((t[j]).toNat:Int)=(c.toNat:Int):=fun h=>hb (UInt8.toNat_inj.1 aa);rw[if_neg (fun h=>hb (AI h))];refine MC.aU (aw _) func258 rfl rfl (rs:=[.tmp 4]) results258 (by simp[ntmps258]) rfl fun X=>?_;simp only[ntmps258];have fw:=acR;refine af fw [0,1] [500] ?_;refine bA fw eG [0,1] [500] ?_;refine ah fun K1 aI=>?_;have qf:=(Aq fw (Aq @bD (Aq @cU (Aq @j9 @bp))));refine gh [0,29] [500] ?_;refine aj (ax (aI _ ?_));refine af fw [4] [500] ?_;exact bg (Aq fw (Aq @bK.eq_1 @cq.eq_1))
 .obtain rfl:j=t.length:=aa
  rw[if_neg al];refine MC.aU (aw _) func258 rfl rfl (rs:=[.tmp 4]) results258 (by simp[ntmps258]) rfl fun X=>?_;simp only[ntmps258];have fw:=acR;refine af fw [0,1] [500] ?_;refine bA fw eG [0,1] [500] ?_;refine ah fun K1 aI=>?_;have qf:=(Aq fw (Aq @bD @cU));refine gh [0,29] [500] ?_;refine aj (ax (aI _ ?_));refine af fw [4] [500] ?_;exact bg (Aq fw (Aq @bK.eq_1 @cq.eq_1))
theorem xL (G:aF) (t:List UInt8) (i:Nat) (ht:t.length < 2^60) (hi:i<=t.length) (e:Int) :
  MC prog G [500] 138 [.ref 500 0 0,.d (ab e)] (au (bK t i)) (.d (bC (some (e,some (aQ t i))))) (au (bK t (aQ t i))):=by
 have eG:=An G t i ht hi;generalize aQ t i=j at eG ⊢;refine MC.aU (aw _) func138 rfl rfl (rs:=[.tmp 4]) results138 (by simp[ntmps138]) rfl fun X=>?_;simp only[ntmps138];have fw:=acR;refine af fw [0,1] [500] ?_;refine bA fw eG [0,1] [500] ?_;refine af fw [4] [500,13] ?_;refine jk fw 13 ?_;exact bg (Aq fw (Aq @bK.eq_1 (Aq @cq.eq_1 (Aq @acL (Aq @acM @acN)))))
def oS:List UInt8:=[32,38,124,33,94,126,40,41,48,49,61]
theorem FM (l:List UInt8) (c:UInt8):Lib.indexByte l c < 0↔c ∉ l:=by
 have Bi:=Lib.indexByte_ge l c;constructor
 .intro h hm;obtain⟨k,hk,rfl⟩:=abv.1 hm;exact Lib.indexByte_none (show Lib.indexByte l l[k] = -1 by omega) k (IN hk)
 .intro hm;apply abH;intro h;obtain⟨n,hn⟩:=abz (show 0<=Lib.indexByte l c by omega);exact hm (abR (Lib.indexByte_some hn).1)
theorem KG (G:aF) (l:List UInt8) (c:UInt8):aH prog G 174 [dS l,.v (.int .u8 c.toNat)] (ab (Lib.indexByte l c)):=by
 refine aH.pa (fU.of func174 rfl rfl) fun X w vs bc cm cY=>?_
 obtain⟨a,b,rfl⟩:∃ a b,vs = #[a,b]:=by
  match vs,bc with
  | ⟨[a,b]⟩,_=>exact⟨a,b,rfl⟩
 have ha:=(cm 0 a _ rfl rfl).scalar;have hb:=(cm 1 b _ rfl rfl).scalar;subst ha hb;have fG:=Any.strings_IndexByte (P:=prog) (ρ:=Tryz.F3) { Tryz.F2 with } (bs l) c.toNat w;rw[show (c.toNat:Int).toNat.toUInt8=c by simp]at fG;exact fG.mono fun e w' ⟨he,hw⟩=>⟨_,he,by rw[hw];exact cT.refl _,.v _⟩
end Go.Proofs.YtoohljflflnbeaaGreatDoor
namespace Go.Proofs.YtoohljflflnbeaaGreatDoor
open Go.Av
theorem Ii (t:List UInt8) (i j:Nat):(bs t).extract i j=bs ((t.drop i).take (j - i)):=ByteArray.ext (by
 rw[ByteArray.data_extract];unfold bs;apply abI.1
 simp[List.take_drop,List.extract])
theorem va:(⟨#[32,38,124,33,94,126,40,41,48,49,61]⟩:ByteArray)=bs oS:=rfl
def lW:Rs (List UInt8)->D
 | .ok s _=>.bI [dS s,.v .nilIface]
 | .err c p _=>.bI [dS [],bC (some (c,some p))]
def cL {α:Type}:Rs α->Nat
 | .ok _ i=>i
 | .err _ p _=>p
theorem wO (c:UInt8):c∈oS↔(jG c=true\/c=48\/c=49):=by
 simp only[oS,jG,abg,List.not_mem_nil,or_false,ab1];constructor
 .rintro (h | h | h | h | h | h | h | h | h | h | h)<;>simp[h]
 .rintro ((h | h | h | h | h | h | h | h | h) | h | h)<;>simp[h]
def tP (t:List UInt8) (j k:Nat):Prop:=k=j\/(j < k/\pD t j=true/\oU t (j+1)=oU t k)
theorem rb {t:List UInt8} {j k:Nat} (h:tP t j k) (hk:k<=t.length) (hstop:∀ hk:k < t.length,t[k]∈oS/\(j < k->t[k]≠48/\t[k]≠49)):k=ml t j:=by
 unfold ml
 rcases h with rfl | ⟨ur,hh,he⟩
 .by_cases jm:k < t.length
  .have:=(wO _).1 (hstop jm).1
   have eQ:pD t k=false:=by
    unfold pD;rw[IN jm]
    rcases this with h | h | h<;>simp[h]
   rw[eQ];rfl
  .have eQ:pD t k=false:=by
    unfold pD;rw[abS aa]
   rw[eQ];rfl
 .rw[hh,if_pos rfl,he,Nh];intro jm;obtain⟨h1,h2⟩:=hstop jm
  rcases (wO _).1 h1 with h | h | h
  .exact h
  .exact absurd h (h2 ur).1
  .exact absurd h (h2 ur).2
theorem xt {t:List UInt8} {j k:Nat} (h:tP t j k) (hk:k < t.length) (cM:t[k] ∉ oS\/(j < k/\(t[k]=48\/t[k]=49))):tP t j (k+1):=by
 have hs:jG t[k]=false:=by
  rcases cM with h | ⟨_,h⟩
  .cases hc:jG t[k] with
   | false=>rfl
   | true=>exact absurd ((wO _).2 (.inl hc)) h
  .rcases h with h | h<;>rw[h]<;>rfl
 right
 rcases h with rfl | ⟨ur,hh,he⟩
 .refine⟨aa,?_,rfl⟩
  rcases cM with h | ⟨h,_⟩
  .have h1:t[k]≠48:=fun e=>h ((wO _).2 (.inr (.inl e)));have h2:t[k]≠49:=fun e=>h ((wO _).2 (.inr (.inr e)));unfold pD;rw[IN hk];simp[hs,h1,h2]
  .omega
 .refine⟨aa,hh,?_⟩;rw[he,Ng hk hs]
theorem ac9:type_of% (Aq @acL (Aq @acM @acN)):=(Aq @acL (Aq @acM @acN))
theorem Hv (G:aF) (t:List UInt8) (q i:Nat) (ht:t.length < 2^60) (hi:i<=t.length) :
  MC prog G [500] 295 [.ref 500 0 0] (au (bK t i)) (.d (lW (eU t q i))) (au (bK t (cL (eU t q i)))):=by
 have eG:=An G t i ht hi;have fX:=iD hi;have sP:=qM hi;unfold eU;generalize aQ t i=j at eG fX sP ⊢;have yj:=xL G t j ht fX 3;have yl:=xL G t j ht fX 5;rw[sP]at yj yl;have bu:=CO t j;have het:=Hn fX;have nI:(t.drop j).take (ml t j - j)=gw t j:=rfl
 have Fq:(gw t j).length < 2^60:=by
  rw[<- nI,abk,abp];omega
 have kc:=Lp G (gw t j) Fq;refine MC.aU (aw _) func295 rfl rfl (rs:=[.tmp 2,.tmp 3]) results295 (by simp[ntmps295]) rfl fun X=>?_;simp only[ntmps295];have fw:=acR;refine af fw [0] [500] ?_;refine bA fw eG [0] [500] ?_;refine af fw [0,4] [500] ?_;refine ah fun K1 aI=>eD (S:=Nat) (fun k=>j<=k/\k<=t.length/\tP t j k) (fun k=>⟨bl [(0,.ref 500 0 0),(4,int k)],au [(500,.box 258 [.d (dS t),int j])]⟩) (fun k=>t.length - k) j ?_ ⟨aa8 _,fX,.inl rfl⟩ ?_
 .refine bL fw
 .rintro k ⟨ur,hk,df⟩;refine ah fun K2 ak=>?_
  refine (fun cM hstop=>?_) (fun (σ:St) (hn:tP t j (k+1)) (de:k < t.length) himp=>ak σ (AW.imp (τ:=⟨bl [(0,.ref 500 0 0),(4,int k)],au [(500,.box 258 [.d (dS t),int j])]⟩) himp ?_))
   (fun (σ:St) (he:k=ml t j) himp=>aI σ (AW.imp (τ:=⟨bl [(0,.ref 500 0 0),(4,int k)],au [(500,.box 258 [.d (dS t),int j])]⟩) himp ?_))
  .by_cases de:k < t.length
   .have iT:=KG G oS t[k];have JJ:=FM oS t[k];by_cases hm:t[k]∈oS
    .have wb:¬ Lib.indexByte oS t[k] < 0:=fun h=>JJ.1 h hm;by_cases jC:j < k
     .have kK:(j:Int) < (k:Int):=aa
      by_cases oY:((t[k]).toNat:Int)=48
      .have hc:t[k]=48:=(xg _ 48 bh).1 oY;have qf:=(Aq fw (Aq @bD (Aq @cU (Aq @va (Aq @de (Aq @wb (Aq @kK (Aq @jC @oY))))))));refine eC iT [0,4,63] [500] ?_;refine aD (ax (cM _ (xt df de (.inr ⟨jC,.inl hc⟩)) de ?_));refine bL fw
      .by_cases ql:((t[k]).toNat:Int)=49
       .have hc:t[k]=49:=(xg _ 49 bh).1 ql;have qf:=(Aq fw (Aq @bD (Aq @cU (Aq @va (Aq @de (Aq @wb (Aq @kK (Aq @jC (Aq @oY @ql)))))))));refine eC iT [0,4,63] [500] ?_;refine aD (ax (cM _ (xt df de (.inr ⟨jC,.inr hc⟩)) de ?_));refine bL fw
       .have qf:=(Aq fw (Aq @bD (Aq @cU (Aq @va (Aq @de (Aq @wb (Aq @kK (Aq @jC (Aq @oY @ql)))))))));refine eC iT [0,4,63] [500] ?_;refine aj (cX (hstop _ (rb df hk fun _=>⟨hm,fun _=>⟨fun e=>oY (by rw[e];rfl),fun e=>ql (by rw[e];rfl)⟩⟩) ?_));refine bL fw
     .have kK:¬ (j:Int) < (k:Int):=aa
      have qf:=(Aq fw (Aq @bD (Aq @cU (Aq @va (Aq @de (Aq @wb (Aq @kK @jC)))))));refine eC iT [0,4,63] [500] ?_;refine aj (cX (hstop _ (rb df hk fun _=>⟨hm,fun h=>absurd h jC⟩) ?_));refine bL fw
    .have wb:Lib.indexByte oS t[k] < 0:=JJ.2 hm;have qf:=(Aq fw (Aq @bD (Aq @cU (Aq @va (Aq @de @wb)))));refine eC iT [0,4,63] [500] ?_;refine aD (ax (cM _ (xt df de (.inl hm)) de ?_));refine bL fw
   .obtain rfl:k=t.length:=aa
    by_cases jC:j < t.length
    .have kK:(j:Int) < (t.length:Int):=aa
     have qf:=(Aq fw (Aq @bD (Aq @cU (Aq @va (Aq @kK @jC)))));refine aC [0,4,63] [500] ?_;refine aj (cX (hstop _ (rb df hk fun h=>absurd h de) ?_));refine bL fw
    .have kK:¬ (j:Int) < (t.length:Int):=aa
     have qf:=(Aq fw (Aq @bD (Aq @cU (Aq @va (Aq @kK @jC)))));refine aC [0,4,63] [500] ?_;refine aj (cX (hstop _ (rb df hk fun h=>absurd h de) ?_));refine bL fw
  .refine bd (fe fw ?_);(try simp only[bY,b9]);refine cC.mk (k+1) ⟨aa,aa,hn⟩ aa ?_;refine bL fw
  .subst he;clear aI ak;have FC:List.take (ml t j - j) (List.drop j t)=gw t j:=nI;have qf:=(Aq fw (Aq @bD (Aq @Ii (Aq @bu (Aq @het @FC)))));refine gh [0,4,5] [500] ?_;refine ah fun K3 bF=>?_;by_cases hs:gw t j=[]
   .refine rg [0,4,5,77] [500] (cy rfl) fun K' ai=>?_;(repeat refine aq fun Kq ae=>?_;simp[ab,bK,cq,dS,hs,bM,aJ,ay];(repeat refine⟨aa,?_⟩);refine ae _ ?_);refine aZ (ai _ (AW.st (by simp[ab,bK,cq,dS,hs,bM,aJ,ay];rfl) ?_));refine aD (bA (Aq fw ac9) yj [2,3] [500] ?_);refine bt ?_;simp[D.le,D.le.go,aL,ab,bK,cq,dS,bK,cq,lW,cL,bC,bM,hs]
   .have sV:(gw t j == [])=false:=by simpa using hs
    have yP:(gw t j).isEmpty=false:=by rw[ab9];exact hs
    refine rg [0,4,5,77] [500] (cy rfl) fun K' ai=>?_;(repeat refine aq fun Kq ae=>?_;simp[ab,bK,cq,dS,bM,aJ,ay,hs,sV,yP];(repeat refine⟨aa,?_⟩);refine ae _ ?_);refine aZ (ai _ (AW.st (by simp[ab,bK,cq,dS,bM,aJ,ay,hs,sV,yP];rfl) ?_));refine aj (ax (bF _ ?_));refine ah fun K4 cF=>?_
    cases hn:gr (gw t j) with
    | false=>
     rw[hn]at kc;refine bB fw kc [0,4,5,82] [500] ?_;refine aD (bA (Aq fw ac9) yl [2,3] [500] ?_);refine bt ?_;simp[D.le,D.le.go,aL,ab,bK,cq,dS,bK,cq,lW,cL,bC,bM,hs,hn]
    | true=>
     rw[hn]at kc;refine bB fw kc [0,4,5,82] [500] ?_;refine aj (ax (cF _ ?_));refine af fw [5] [500] ?_;refine af fw [2,3] [500] ?_;exact bg (Aq fw (Aq @bK.eq_1 (Aq @cq.eq_1 (Aq @lW.eq_1 (Aq @lW.eq_2 (Aq @cL.eq_1 (Aq @cL.eq_2 (Aq @hs @hn))))))))
end Go.Proofs.YtoohljflflnbeaaGreatDoor
namespace Go.Proofs.YtoohljflflnbeaaGreatDoor
theorem MY {α:Type} {t:List UInt8} {s:UInt8} {f:Nat->Rs α} (hf:jL t f):∀ (n m i:Nat) (acc:List α),i<=t.length->t.length+1 - i<=n->t.length+1 - i<=m->gv t s f n i acc=gv t s f m i acc
 | 0,_,i,_,hi,h,_=>aa
 | _+1,0,i,_,hi,_,h=>aa
 | n+1,m+1,i,acc,hi,h1,h2=>by
  rw[gv,gv]
  cases ck:f i with
  | err c p q=>rfl
  | ok x j=>
   obtain⟨g1,g2⟩:=hf i x j hi ck;obtain⟨t1,t2,t3⟩:=mj (c:=s) g2;dsimp only;split
   .exact MY hf n m _ _ t2 aa aa
   .rfl
def iC {α:Type} (t:List UInt8) (s:UInt8) (f:Nat->Rs α) (i:Nat) (acc:List α):Rs (List α):=gv t s f (t.length+1 - i) i acc
theorem p6 {α:Type} {t:List UInt8} {s:UInt8} {f:Nat->Rs α} (hf:jL t f) {i:Nat} (hi:i<=t.length) (acc:List α):iC t s f i acc=match f i with
  | .err c p _=>.err c p 0
  | .ok x j=>if (du t s j).1 then iC t s f (du t s j).2 (acc ++ [x]) else .ok (acc ++ [x]) (du t s j).2:=by
 unfold iC;obtain⟨n,hn⟩:∃ n,t.length+1 - i=n+1:=⟨t.length - i,aa⟩;rw[hn,gv]
 cases ck:f i with
 | err c p q=>rfl
 | ok x j=>
  obtain⟨g1,g2⟩:=hf i x j hi ck;obtain⟨t1,t2,t3⟩:=mj (c:=s) g2;dsimp only;split
  .exact MY hf _ _ _ _ t2 aa aa
  .rfl
theorem G1 {α:Type} {t:List UInt8} {s:UInt8} {f:Nat->Rs α}:∀ (n i:Nat) (acc:List α) {c:Int} {p q:Nat},gv t s f n i acc = .err c p q->q=0
 | 0,_,_,_,_,_,h=>by simp only[gv,Rs.err.injEq]at h;omega
 | n+1,i,acc,c,p,q,h=>by
  rw[gv]at h;split at h
  .simp only[Rs.err.injEq]at h;omega
  .split at h
   .exact G1 n _ _ h
   .cases h
theorem As {l:List Ex} (h:l.length≠1):og l = .and l:=by
 match l,h with
 | [],_=>rfl
 | [_],h=>exact absurd rfl h
 | _ :: _ :: _,_=>rfl
theorem Au {l:List Ex} (h:l.length≠1):oh l = .or l:=by
 match l,h with
 | [],_=>rfl
 | [_],h=>exact absurd rfl h
 | _ :: _ :: _,_=>rfl
theorem Ad (x:List UInt8) (r:List (List UInt8)):Lib.lens (x :: r)=x.length+Lib.lens r:=by simp[Lib.lens]
theorem tM:∀ (e:Ex) (k:Nat),(aB e k).length<=(aB e 2).length/\(aB e 2).length<=(aB e k).length+2:=by
 intro e k;cases e<;>simp only[aB]<;>(try split)<;>simp<;>omega
theorem B1 {t:List (List UInt8)} {x:List UInt8} (h:x∈t):x.length<=Lib.lens t:=by
 induction t with
 | nil=>simp at h
 | cons y t ih=>
  rw[Ad]
  rcases abg.1 h with rfl | h
  .omega
  .have:=ih h;omega
theorem BZ (t:List (List UInt8)) (sep:List UInt8):Lib.lens t<=(Lib.join t sep).length:=by
 cases t with
 | nil=>simp[Lib.lens]
 | cons x r=>rw[Lib.join_length];omega
theorem Ax (t:List (List UInt8)) (sep:List UInt8):sep.length * (t.length - 1)<=(Lib.join t sep).length:=by
 cases t with
 | nil=>simp
 | cons x r=>rw[Lib.join_length];simp
open Go.Av
mutual
def dE:Ex->D
 | .b5 b=>.b6 163 (.v (.bool b))
 | .bit s=>.b6 149 (dS s)
 | .ef s=>.b6 160 (dS s)
 | .eb s=>.b6 162 (dS s)
 | .not e=>.b6 130 (.agg [dE e])
 | .and l=>.b6 159 (.sl none (tX l))
 | .or l=>.b6 132 (.sl none (tX l))
def tX:List Ex->List (List D)
 | []=>[]
 | e :: l=>[dE e] :: tX l
end
theorem kG:∀ l:List Ex,tX l=l.map fun e=>[dE e]
 | []=>rfl
 | e :: l=>by rw[tX,kG l];rfl
theorem gk (e:Ex):∃ t y,dE e = .b6 t y:=by
 cases e<;>simp only[dE]<;>exact⟨_,_,rfl⟩
def lD (l:List Ex):D:=.sl none (l.map fun e=>[dE e])
def dQ (q:Nat):D:=if q=1 then .b6 160 (dS []) else if q=2 then .b6 162 (dS []) else if q=3 then .b6 149 (dS []) else .v .nilIface
def dK:Rs Ex->D
 | .ok x _=>.bI [dE x,.v .nilIface]
 | .err c p q=>.bI [dQ q,bC (some (c,some p))]
def lV:Rs (List Ex)->D
 | .ok l _=>.bI [lD l,.v .nilIface]
 | .err c p _=>.bI [.sl (some false) [],bC (some (c,some p))]
theorem ac5:type_of% (Aq @dK.eq_1 (Aq @dK.eq_2 (Aq @acL (Aq @acM @acN)))):=(Aq @dK.eq_1 (Aq @dK.eq_2 (Aq @acL (Aq @acM @acN))))
theorem MZ (G:aF) (t:List UInt8) (ht:t.length<=2000) (g:FuncId) (s:UInt8) (sn:Int) (ed:(s.toNat:Int)=sn) (d:Int) (f:Nat->Rs Ex) (hf:jL t f)
  (eL:∀ i,i<=t.length->MC prog G [500] g [.ref 500 0 0,.d (ab d)] (au (bK t i)) (.d (dK (f i))) (au (bK t (cL (f i))))) (i:Nat) (hi:i<=t.length) :
  MC prog G [500] 205 [.ref 500 0 0,.d (.v (.int .u8 sn)),.d (ab d),.bm g (.ref 500 0 0)] (au (bK t i)) (.d (lV (iC t s f i []))) (au (bK t (cL (iC t s f i [])))):=by
 generalize hR:iC t s f i []=R;refine MC.aU (aw _) func205 rfl rfl (rs:=[.tmp 8,.tmp 9]) results205 (by simp[ntmps205]) rfl fun X=>?_;simp only[ntmps205];have fw:=acR;refine af fw [0,1,2,3] [500] ?_;refine af fw [0,1,2,3,10] [500] ?_;refine eD (S:=Nat×List Ex) (fun z=>z.1<=t.length/\z.2.length<=z.1/\iC t s f z.1 z.2=R) (fun z=>⟨bl [(0,.ref 500 0 0),(1,.d (.v (.int .u8 sn))),(2,.d (ab d)),(3,.bm g (.ref 500 0 0)),(10,.own 300 0 z.2.length)],au [(500,.box 258 [.d (dS t),int z.1]),(300,.sl 34 1 (z.2.map fun e=>[dE e]))]⟩) (fun z=>t.length - z.1) (i,[]) ?_ ⟨hi,al,hR⟩ ?_
 .refine (aY.qb 10 300 34 1 rfl rfl).trans ?_;refine bL fw
 .rintro⟨k,acc⟩ ⟨hk,Ed,hs⟩;dsimp only at hk Ed hs ⊢;have hc:=eL k hk;rw[p6 hf hk]at hs;refine bd ?_
  cases EF:f k with
  | err c p q=>
   rw[EF]at hc hs;dsimp only at hs;subst hs;refine bA (Aq fw ac5) hc [0,1,2,3,10,11,12] [500,300] ?_;refine ah fun K1 aI=>af fw [0,1,2,3,10,11,12,20] [500,300] ?_;refine aD (af fw [8,9] [500] ?_);exact bg (Aq fw (Aq @bK.eq_1 (Aq @cq.eq_1 (Aq @lV.eq_1 (Aq @lV.eq_2 (Aq @cL.eq_1 (Aq @cL.eq_2 (Aq @acL (Aq @acM @acN)))))))))
  | ok x j=>
   rw[EF]at hc hs;dsimp only at hs;obtain⟨g1,g2⟩:=hf k x j hk EF;have da:=CI G t j aa g2 s;rw[ed]at da;obtain⟨t1,t2,t3⟩:=mj (c:=s) g2;obtain⟨tx,cx,hx⟩:=gk x;have qf:=(Aq fw (Aq @dK.eq_1 (Aq @dK.eq_2 (Aq @cL.eq_1 (Aq @cL.eq_2 @hx)))));refine iA hc [0,1,2,3,10,11,12] [500,300] ?_;refine ah fun K1 aI=>af fw [0,1,2,3,10,11,12,20] [500,300] ?_;refine aj (ax (aI _ ?_));refine rg [0,1,2,3,10] [500,300] (cy rfl) fun K' ai=>?_;(repeat refine aq fun Kq ae=>?_;simp[ab,bK,cq,dS,sh];(repeat refine⟨aa,?_⟩);refine ae _ ?_);refine aZ (ai _ (AW.st (by simp[ab,bK,cq,dS,sh];rfl) ?_))
   cases yW:du t s j with
   | mk b k2=>
   rw[yW]at hs da t1 t2 t3;dsimp only at hs da t1 t2 t3
   cases b with
   | true=>
    rw[if_pos rfl]at hs;have bf:=t3 rfl;refine bA fw da [0,1,2,3,10,29] [500,300] ?_;refine aj (ax ?_);refine cC.mk (k2,acc ++ [x]) ⟨t2,by simp;omega,hs⟩ (by dsimp only;omega) ?_;refine bL (Aq fw @hx)
   | false=>
    rw[if_neg al]at hs;subst hs;refine bA fw da [0,1,2,3,10,29] [500,300] ?_;refine aD (AW.imp (aY.freeze 300 bh) ?_);refine AW.st (by simp[ab,bK,cq,dS];rfl) ?_;refine af fw [8,9] [500] ?_;exact bg (Aq fw (Aq @bK.eq_1 (Aq @cq.eq_1 (Aq @lV.eq_1 (Aq @lV.eq_2 (Aq @lD.eq_1 (Aq @cL.eq_1 (Aq @cL.eq_2 @hx))))))))
theorem Om (G:aF) (t:List UInt8) (ht:t.length<=2000) (d:Nat) (gn:∀ i,i<=t.length->MC prog G [500] 259 [.ref 500 0 0,.d (ab d)] (au (bK t i)) (.d (dK (cf t d i))) (au (bK t (cL (cf t d i))))) (i:Nat) (hi:i<=t.length) :
  MC prog G [500] 206 [.ref 500 0 0,.d (ab d)] (au (bK t i)) (.d (dK (j1 t (cf t d) i))) (au (bK t (cL (j1 t (cf t d) i)))):=by
 have pN:=MZ G t ht 259 38 38 rfl d (cf t d) (kp t d) gn i hi;have hR:j1 t (cf t d) i=(iC t 38 (cf t d) i []).map og:=rfl;rw[hR];have hq:∀ {c:Int} {p q:Nat},iC t 38 (cf t d) i [] = .err c p q->q=0:=fun h=>G1 _ _ _ h
 cases hs:iC t 38 (cf t d) i [] with
 | err c p q=>
  obtain rfl:=hq hs;rw[hs]at pN;refine MC.aU (aw _) func206 rfl rfl (rs:=[.tmp 4,.tmp 5]) results206 (by simp[ntmps206]) rfl fun X=>?_;simp only[ntmps206];have fw:=acR;refine af fw [0,1] [500] ?_;refine bA (Aq fw (Aq @lV.eq_1 (Aq @lV.eq_2 (Aq @acL (Aq @acM @acN))))) pN [6,7] [500] ?_;refine ah fun K1 aI=>af fw [6,7,17] [500] ?_;refine aD (af fw [4,5] [500] ?_);refine bt ?_;simp[D.le,D.le.go,aL,ab,bK,cq,dS,bK,cq,dK,cL,bC,Rs.map,dQ]
 | ok l p=>
  rw[hs]at pN;by_cases hl:l.length=1
  .obtain⟨x,rfl⟩:=abw.1 hl;obtain⟨tx,cx,hx⟩:=gk x;refine MC.aU (aw _) func206 rfl rfl (rs:=[.tmp 4,.tmp 5]) results206 (by simp[ntmps206]) rfl fun X=>?_;simp only[ntmps206];have fw:=acR;refine af fw [0,1] [500] ?_;have qf:=(Aq fw (Aq @lV.eq_1 (Aq @lV.eq_2 (Aq @lD.eq_1 @hx))));refine iA pN [6,7] [500] ?_;refine ah fun K1 aI=>af fw [6,7,17] [500] ?_;refine aj (ax (aI _ ?_));refine ah fun K2 ak=>af fw [6,21] [500] ?_;refine aD (af fw [4,5] [500] ?_);refine bt ?_;simp[D.le,D.le.go,aL,ab,bK,cq,dS,bK,cq,dK,cL,Rs.map,og,hx,D.le_refl]
  .have eX:¬ (l.length:Int)=1:=aa
   have ug:=As hl;refine MC.aU (aw _) func206 rfl rfl (rs:=[.tmp 4,.tmp 5]) results206 (by simp[ntmps206]) rfl fun X=>?_;simp only[ntmps206];have fw:=acR;refine af fw [0,1] [500] ?_;refine bA (Aq fw (Aq @lV.eq_1 (Aq @lV.eq_2 @lD.eq_1))) pN [6,7] [500] ?_;refine ah fun K1 aI=>af fw [6,7,17] [500] ?_;refine aj (ax (aI _ ?_));refine ah fun K2 ak=>?_;have qf:=(Aq fw (Aq @hl @eX));refine aC [6,21] [500] ?_;refine aj (ax (ak _ ?_));refine af fw [4,5] [500] ?_;refine bt ?_;simp[D.le,D.le.go,aL,ab,bK,cq,dS,bK,cq,dK,cL,Rs.map,ug,dE,kG,D.le_refl,D.aV]
theorem LP (G:aF) (t:List UInt8) (ht:t.length<=2000) (d:Nat) (gn:∀ i,i<=t.length->MC prog G [500] 259 [.ref 500 0 0,.d (ab d)] (au (bK t i)) (.d (dK (cf t d i))) (au (bK t (cL (cf t d i))))) (i:Nat) (hi:i<=t.length) :
  MC prog G [500] 136 [.ref 500 0 0,.d (ab d)] (au (bK t i)) (.d (dK (jt t (cf t d) i))) (au (bK t (cL (jt t (cf t d) i)))):=by
 have pN:=MZ G t ht 206 124 124 rfl d (j1 t (cf t d)) (tV (kp t d)) (Om G t ht d gn) i hi;have hR:jt t (cf t d) i=(iC t 124 (j1 t (cf t d)) i []).map oh:=rfl;rw[hR];have hq:∀ {c:Int} {p q:Nat},iC t 124 (j1 t (cf t d)) i [] = .err c p q->q=0:=fun h=>G1 _ _ _ h
 cases hs:iC t 124 (j1 t (cf t d)) i [] with
 | err c p q=>
  obtain rfl:=hq hs;rw[hs]at pN;refine MC.aU (aw _) func136 rfl rfl (rs:=[.tmp 4,.tmp 5]) results136 (by simp[ntmps136]) rfl fun X=>?_;simp only[ntmps136];have fw:=acR;refine af fw [0,1] [500] ?_;refine bA (Aq fw (Aq @lV.eq_1 (Aq @lV.eq_2 (Aq @acL (Aq @acM @acN))))) pN [6,7] [500] ?_;refine ah fun K1 aI=>af fw [6,7,17] [500] ?_;refine aD (af fw [4,5] [500] ?_);refine bt ?_;simp[D.le,D.le.go,aL,ab,bK,cq,dS,bK,cq,dK,cL,bC,Rs.map,dQ]
 | ok l p=>
  rw[hs]at pN;by_cases hl:l.length=1
  .obtain⟨x,rfl⟩:=abw.1 hl;obtain⟨tx,cx,hx⟩:=gk x;refine MC.aU (aw _) func136 rfl rfl (rs:=[.tmp 4,.tmp 5]) results136 (by simp[ntmps136]) rfl fun X=>?_;simp only[ntmps136];have fw:=acR;refine af fw [0,1] [500] ?_;have qf:=(Aq fw (Aq @lV.eq_1 (Aq @lV.eq_2 (Aq @lD.eq_1 @hx))));refine iA pN [6,7] [500] ?_;refine ah fun K1 aI=>af fw [6,7,17] [500] ?_;refine aj (ax (aI _ ?_));refine ah fun K2 ak=>af fw [6,21] [500] ?_;refine aD (af fw [4,5] [500] ?_);refine bt ?_;simp[D.le,D.le.go,aL,ab,bK,cq,dS,bK,cq,dK,cL,Rs.map,oh,hx,D.le_refl]
  .have eX:¬ (l.length:Int)=1:=aa
   have ug:=Au hl;refine MC.aU (aw _) func136 rfl rfl (rs:=[.tmp 4,.tmp 5]) results136 (by simp[ntmps136]) rfl fun X=>?_;simp only[ntmps136];have fw:=acR;refine af fw [0,1] [500] ?_;refine bA (Aq fw (Aq @lV.eq_1 (Aq @lV.eq_2 @lD.eq_1))) pN [6,7] [500] ?_;refine ah fun K1 aI=>af fw [6,7,17] [500] ?_;refine aj (ax (aI _ ?_));refine ah fun K2 ak=>?_;have qf:=(Aq fw (Aq @hl @eX));refine aC [6,21] [500] ?_;refine aj (ax (ak _ ?_));refine af fw [4,5] [500] ?_;refine bt ?_;simp[D.le,D.le.go,aL,ab,bK,cq,dS,bK,cq,dK,cL,Rs.map,ug,dE,kG,D.le_refl,D.aV]
theorem NB (G:aF) (l:List Ex) (sep:List UInt8) (k:Nat) (ar:Bool) (hl:l.length<=2^31) (hlen:(Lib.join (l.map fun e=>aB e k) sep).length<=2^31) (gM:∀ e∈l,aH prog G 359 [dE e,ab k] (dS (aB e k))) :
  aH prog G 360 [lD l,dS sep,ab k,.v (.bool ar)] (dS (if ar then [40] ++ Lib.join (l.map fun e=>aB e k) sep ++ [41] else Lib.join (l.map fun e=>aB e k) sep)):=by
 have kL:=BM G (l.map fun e=>aB e k) sep aa (by simp;omega);rw[show ((l.map fun e=>aB e k).map fun s=>[dS s])=l.map fun e=>[dS (aB e k)] by rw[IS];rfl]at kL;refine aH.aU (aw _) func360 rfl rfl (rs:=[.tmp 8]) results360 (by simp[ntmps360]) fun X=>?_;simp only[ntmps360,List.map];have fw:=(Aq @acC @lD.eq_1);refine af fw [0,1,2,3] [] ?_;refine af fw [0,1,2,3,9] [] ?_;refine ah fun K1 aI=>af fw [1,2,3,9,12,13,14] [] ?_;refine eD (S:=Nat) (fun i=>i<=l.length) (fun i=>⟨bl [(1,.d (dS sep)),(2,.d (ab k)),(3,.d (.v (.bool ar))),(9,.own 300 0 i),(12,.d (.sl none (l.map fun e=>[dE e]))),(13,int l.length),(14,int i)],au [(300,.sl 9 1 (List.take i (l.map fun e=>[dS (aB e k)])))]⟩) (fun i=>l.length - i) 0 ?_ aa ?_
 .refine (aY.qb 9 300 9 1 rfl rfl).trans ?_;refine bL (Aq fw @acB)
 .intro i hi;refine af fw [1,2,3,9,12,13,14,15] [300] ?_;refine ah fun K2 ak=>ga (b:=i < l.length) (by simp[D.le,D.le.go,aL,ab,lD]) (fun hc=>?_) (fun hc=>?_)
  .have dG:i < l.length:=hc;obtain⟨ti,ci,gN⟩:=gk l[i];have cA:=gM _ (aa6 dG);rw[gN]at cA
   have da:∀ g:Ex->List D,List.take (i+1) (List.map g l)=List.take i (List.map g l) ++ [g l[i]]:=fun g=>by
    rw[aa7 (by simp;exact dG),List.getElem_map]
   refine ax (ak _ (ah fun K3 bF=>bd ?_));have qf:=(Aq fw (Aq @dG @gN));refine aC [1,2,3,9,11,12,13,14] [300] ?_;refine ea (aw _) fun K' ai=>?_;(repeat refine aq fun Kq ae=>?_;simp[ab,lD,dS,acm];(repeat refine⟨aa,?_⟩);refine ae _ ?_);refine aq fun Kq ae=>?_;simp[ab,lD,dS,acm];refine ch.data (cA) bq (by first | exact D.aV _ | simp[aL,IS,AT,D.le,D.le.go,D.le_refl,D.aV,ab,lD,dS,acm]) ?_;refine ae _ ?_;simp only[aR,cw];(repeat refine aq fun Kq ae=>?_;simp[ab,lD,dS,acm];(repeat refine⟨aa,?_⟩);refine ae _ ?_);refine aZ (ai _ ?_);refine bF _ (AW.norm [1,2,3,9,12,13,14] [300] aT (AW.st (by simp[ab,lD,dS,acm];rfl) ?_));refine fe fw ?_;(try simp only[bY,b9]);refine cC.mk (i+1) aa aa ?_;refine bL (Aq fw (Aq @da @acB))
  .obtain rfl:i=l.length:=aa
   refine cX (aI _ ?_);have yV:∀ g:Ex->List D,List.take l.length (l.map g)=l.map g:=fun g=>sh al;refine AW.imp (aY.freeze 300 trivial) ?_;refine AW.st (by simp[ab,lD,yV];rfl) ?_;refine ah fun K4 cF=>af fw [1,9,25] [] ?_;have h1:ay .add ⟨#[40]⟩ (bs (Lib.join (l.map fun e=>aB e k) sep))=some (True,.string (bs (40 :: Lib.join (l.map fun e=>aB e k) sep))):=j3 [40] _ (by simp;omega);have h2:ay .add (bs (40 :: Lib.join (l.map fun e=>aB e k) sep)) ⟨#[41]⟩=some (True,.string (bs (40 :: (Lib.join (l.map fun e=>aB e k) sep ++ [41])))):=j3 (40 :: _) [41] (by simp;omega)
   cases ar with
   | true=>
    refine aD ?_;have qf:=(Aq fw (Aq @acB (Aq @h1 @h2)));refine eC kL [8] [] ?_;exact bg (Aq fw @acB)
   | false=>
    refine aj (ax (cF _ ?_));refine bB (Aq fw @acB) kL [8] [] ?_;exact bg (Aq fw @acB)
theorem ZL (G:aF):∀ (n:Nat) (e:Ex),SizeOf.sizeOf e<=n->(aB e 2).length<=2^30->∀ (k:Nat),k<=2->aH prog G 359 [dE e,ab k] (dS (aB e k)):=by
 intro n
 induction n with
 | zero=>intro e bc;cases e<;>simp at bc
 | succ n ih=>
  intro e bc hlen k hk;have fw:=(Aq @acC (Aq @acI (Aq @acJ @acK)))
  cases e with
  | b5 b=>
   cases b with
   | true=>
    rw[dE];refine aH.aU (aw _) func359 rfl rfl (rs:=[.tmp 4]) results359 (by simp[ntmps359]) fun X=>?_;simp only[ntmps359,List.map];refine af fw [0,1] [] ?_;refine ah fun K1 aI=>af fw [1,12] [] ?_;refine bd (af fw [1,12,14,15] [] ?_);refine aD (af fw [5] [] ?_);refine ah fun K2 ak=>af fw [16] [] ?_;refine aD (af fw [4] [] ?_);refine bt ?_;simp[D.le,D.le.go,aL,ab,aM,aG,aB,dS,Ij]
   | false=>
    rw[dE];refine aH.aU (aw _) func359 rfl rfl (rs:=[.tmp 4]) results359 (by simp[ntmps359]) fun X=>?_;simp only[ntmps359,List.map];refine af fw [0,1] [] ?_;refine ah fun K1 aI=>af fw [1,12] [] ?_;refine bd (af fw [1,12,14,15] [] ?_);refine aD (af fw [5] [] ?_);refine ah fun K2 ak=>af fw [16] [] ?_;refine aj (ax (ak _ ?_));refine af fw [4] [] ?_;refine bt ?_;simp[D.le,D.le.go,aL,ab,aM,aG,aB,dS,Ij]
  | bit s=>
   rw[dE];refine aH.aU (aw _) func359 rfl rfl (rs:=[.tmp 4]) results359 (by simp[ntmps359]) fun X=>?_;simp only[ntmps359,List.map];refine af fw [0,1] [] ?_;refine ah fun K1 aI=>af fw [1,12] [] ?_;refine bd (af (Aq fw @acB) [1,12,14,15] [] ?_);refine aj (af (Aq fw @acB) [1,12,18,19] [] ?_);refine aD (af fw [6] [] ?_);refine af fw [4] [] ?_;refine bt ?_;simp[D.le,D.le.go,aL,ab,aM,aG,aB,dS]
  | ef s=>
   have h1:ay .add ⟨#[94]⟩ (bs s)=some (True,.string (bs (94 :: s))):=j3 [94] _ (by simp[aB]at hlen ⊢;omega);rw[dE];refine aH.aU (aw _) func359 rfl rfl (rs:=[.tmp 4]) results359 (by simp[ntmps359]) fun X=>?_;simp only[ntmps359,List.map];refine af fw [0,1] [] ?_;refine ah fun K1 aI=>af fw [1,12] [] ?_;refine bd (af (Aq fw @acB) [1,12,14,15] [] ?_);refine aj (af (Aq fw @acB) [1,12,18,19] [] ?_);refine aj (af (Aq fw @acB) [1,12,22,23] [] ?_);refine aD (af fw [7] [] ?_);have qf:=(Aq fw @h1);refine aC [4] [] ?_;refine bt ?_;simp[D.le,D.le.go,aL,ab,aM,aG,aB,dS]
  | eb s=>
   have h1:ay .add ⟨#[126]⟩ (bs s)=some (True,.string (bs (126 :: s))):=j3 [126] _ (by simp[aB]at hlen ⊢;omega);rw[dE];refine aH.aU (aw _) func359 rfl rfl (rs:=[.tmp 4]) results359 (by simp[ntmps359]) fun X=>?_;simp only[ntmps359,List.map];refine af fw [0,1] [] ?_;refine ah fun K1 aI=>af fw [1,12] [] ?_;refine bd (af (Aq fw @acB) [1,12,14,15] [] ?_);refine aj (af (Aq fw @acB) [1,12,18,19] [] ?_);refine aj (af (Aq fw @acB) [1,12,22,23] [] ?_);refine aj (af (Aq fw @acB) [1,12,27,28] [] ?_);refine aD (af fw [8] [] ?_);have qf:=(Aq fw @h1);refine aC [4] [] ?_;refine bt ?_;simp[D.le,D.le.go,aL,ab,aM,aG,aB,dS]
  | not x=>
   obtain⟨tx,cx,hx⟩:=gk x;have hc:=ih x (by simp at bc;omega) (by simp[aB]at hlen;omega) 2 aa;have h1:ay .add ⟨#[33]⟩ (bs (aB x 2))=some (True,.string (bs (33 :: aB x 2))):=j3 [33] _ (by simp[aB]at hlen ⊢;omega);rw[dE,hx];rw[hx]at hc;refine aH.aU (aw _) func359 rfl rfl (rs:=[.tmp 4]) results359 (by simp[ntmps359]) fun X=>?_;simp only[ntmps359,List.map];refine af fw [0,1] [] ?_;refine ah fun K1 aI=>af fw [1,12] [] ?_;refine bd (af fw [1,12,14,15] [] ?_);refine aj (af fw [1,12,18,19] [] ?_);refine aj (af fw [1,12,22,23] [] ?_);refine aj (af fw [1,12,27,28] [] ?_);refine aj (af fw [1,12,32,33] [] ?_);refine aD (af fw [9] [9] ?_);have qf:=(Aq fw (Aq @acB @h1));refine eC hc [4] [] ?_;refine bt ?_;simp[D.le,D.le.go,aL,ab,aM,aG,aB,dS]
  | and l=>
   have hj:(Lib.join (l.map fun e=>aB e 2) [32,38,32]).length<=2^30:=by
    rw[aB,if_pos aa,nY]at hlen;simp at hlen;omega
   have hn:=Ax (l.map fun e=>aB e 2) [32,38,32];rw[abq]at hn;have wc:[32,38,32].length=3:=rfl
   have gM:∀ x∈l,aH prog G 359 [dE x,ab 2] (dS (aB x 2)):=fun x hx=>ih x (by have:=aba hx;simp only[Ex.and.sizeOf_spec]at bc;omega) (by
     have h1:=BZ (l.map fun e=>aB e 2) [32,38,32];have h2:=B1 (abE.2 ⟨x,hx,rfl⟩:aB x 2∈l.map fun e=>aB e 2)
     omega) 2 aa
   have hw:=NB G l [32,38,32] 2 (decide (2<=k)) (by simp at hn;omega) aa gM
   have e1:aB (.and l) k=if decide (2<=k) then [40] ++ Lib.join (l.map fun e=>aB e 2) [32,38,32] ++ [41] else Lib.join (l.map fun e=>aB e 2) [32,38,32]:=by
    rw[aB,nY];by_cases h:2<=k<;>simp[h]
   have EU:(⟨#[32,38,32]⟩:ByteArray)=bs [32,38,32]:=rfl
   have rE:dE (.and l) = .b6 159 (.sl none (l.map fun e=>[dE e])):=by rw[dE,kG]
   rw[rE,e1];generalize (if decide (2<=k) then [40] ++ Lib.join (l.map fun e=>aB e 2) [32,38,32] ++ [41] else Lib.join (l.map fun e=>aB e 2) [32,38,32])=r at hw ⊢
   have mb:decide ((2:Int)<=(k:Int))=decide (2<=k):=by apply decide_eq_decide.2;omega
   unfold lD at hw;refine aH.aU (aw _) func359 rfl rfl (rs:=[.tmp 4]) results359 (by simp[ntmps359]) fun X=>?_;simp only[ntmps359,List.map];refine af fw [0,1] [] ?_;refine ah fun K1 aI=>af fw [1,12] [] ?_;refine bd (af fw [1,12,14,15] [] ?_);refine aj (af fw [1,12,18,19] [] ?_);refine aj (af fw [1,12,22,23] [] ?_);refine aj (af fw [1,12,27,28] [] ?_);refine aj (af fw [1,12,32,33] [] ?_);refine aj (af fw [1,12,39,40] [] ?_);refine aD (af fw [1,10] [] ?_);have qf:=(Aq fw (Aq @acB (Aq @EU @mb)));refine eC hw [4] [] ?_;exact bg (Aq fw @acB)
  | or l=>
   have hj:(Lib.join (l.map fun e=>aB e 1) [32,124,32]).length<=2^30:=by
    rw[aB,if_pos aa,nY]at hlen;simp at hlen;omega
   have hn:=Ax (l.map fun e=>aB e 1) [32,124,32];rw[abq]at hn;have wc:[32,124,32].length=3:=rfl
   have gM:∀ x∈l,aH prog G 359 [dE x,ab 1] (dS (aB x 1)):=fun x hx=>ih x (by have:=aba hx;simp only[Ex.or.sizeOf_spec]at bc;omega) (by
     have h1:=BZ (l.map fun e=>aB e 1) [32,124,32];have h2:=B1 (abE.2 ⟨x,hx,rfl⟩:aB x 1∈l.map fun e=>aB e 1);have h3:=(tM x 1).2
     have h4:(Lib.join (l.map fun e=>aB e 1) [32,124,32]).length+2<=2^30:=by
      rw[aB,if_pos aa,nY]at hlen;simp at hlen;omega
     omega) 1 aa
   have hw:=NB G l [32,124,32] 1 (decide (1<=k)) (by simp at hn;omega) aa gM
   have e1:aB (.or l) k=if decide (1<=k) then [40] ++ Lib.join (l.map fun e=>aB e 1) [32,124,32] ++ [41] else Lib.join (l.map fun e=>aB e 1) [32,124,32]:=by
    rw[aB,nY];by_cases h:1<=k<;>simp[h]
   have EU:(⟨#[32,124,32]⟩:ByteArray)=bs [32,124,32]:=rfl
   have rE:dE (.or l) = .b6 132 (.sl none (l.map fun e=>[dE e])):=by rw[dE,kG]
   rw[rE,e1];generalize (if decide (1<=k) then [40] ++ Lib.join (l.map fun e=>aB e 1) [32,124,32] ++ [41] else Lib.join (l.map fun e=>aB e 1) [32,124,32])=r at hw ⊢
   have mb:decide ((1:Int)<=(k:Int))=decide (1<=k):=by apply decide_eq_decide.2;omega
   unfold lD at hw;refine aH.aU (aw _) func359 rfl rfl (rs:=[.tmp 4]) results359 (by simp[ntmps359]) fun X=>?_;simp only[ntmps359,List.map];refine af fw [0,1] [] ?_;refine ah fun K1 aI=>af fw [1,12] [] ?_;refine bd (af fw [1,12,14,15] [] ?_);refine aj (af fw [1,12,18,19] [] ?_);refine aj (af fw [1,12,22,23] [] ?_);refine aj (af fw [1,12,27,28] [] ?_);refine aj (af fw [1,12,32,33] [] ?_);refine aj (af fw [1,12,39,40] [] ?_);refine aj (af fw [1,46,47] [] ?_);refine aD (af fw [1,11] [] ?_);have qf:=(Aq fw (Aq @acB (Aq @EU @mb)));refine eC hw [4] [] ?_;exact bg (Aq fw @acB)
theorem vn (G:aF) (e:Ex) (hlen:(aB e 2).length<=2^30) (k:Nat) (hk:k<=2):aH prog G 359 [dE e,ab k] (dS (aB e k)):=ZL G _ e (aa8 _) hlen k hk
end Go.Proofs.YtoohljflflnbeaaGreatDoor
namespace Go.Proofs.YtoohljflflnbeaaGreatDoor
def CH (e:Ex):Nat:=(aB e 2).length
def tG:List Ex->Nat
 | []=>0
 | e :: l=>CH e+tG l
theorem join_le (sep:List UInt8) (k:Nat):∀ (l:List Ex),(Lib.join (l.map fun e=>aB e k) sep).length<=tG l+sep.length * (l.length - 1)
 | []=>by simp[Lib.join]
 | e :: l=>by
  have SY:∀ (l:List Ex),Lib.lens (l.map fun e=>aB e k)<=tG l:=by
   intro l
   induction l with
   | nil=>simp[Lib.lens,tG]
   | cons e l ih=>
    have:=(tM e k).1;rw[abj,Ad,tG];unfold CH;omega
  have h1:=SY (e :: l);rw[abj,Lib.join_length,Ad];rw[abj,Ad]at h1;simp only[abq,aa9,Nat.add_sub_cancel];omega
def vr {α:Type} (sz:α->Nat) (t:List UInt8) (f:Nat->Rs α):Prop:=∀ i x j,i<=t.length->f i = .ok x j->sz x<=5 * (j - i)
def Has (t:List UInt8) (p:Nat) (w:List UInt8):Prop:=∀ k,k < w.length->t[p+k]? = w[k]?
theorem Has.cons {t:List UInt8} {p:Nat} {c:UInt8} {w:List UInt8} (h:Has t p (c :: w)):t[p]? = some c/\Has t (p+1) w:=by
 refine⟨by simpa using h 0 al,fun k hk=>?_⟩;have:=h (k+1) (by simp;omega);rw[show p+1+k=p+(k+1) by omega,this];rfl
theorem Has.app {t:List UInt8} {p:Nat} {u v:List UInt8} (h:Has t p (u ++ v)):Has t p u/\Has t (p+u.length) v:=by
 constructor
 .intro k hk;rw[h k (by simp;omega),abQ hk]
 .intro k hk;rw[show p+u.length+k=p+(u.length+k) by omega,h (u.length+k) (by simp;omega),List.getElem?_append_right aa];congr 1;omega
theorem Has.top {t:List UInt8} {p:Nat} {w:List UInt8} (h:Has t p w) (hp:p<=t.length):p+w.length<=t.length:=by
 cases w with
 | nil=>simpa using hp
 | cons c w=>
  have h1:=h w.length al
  have h2:(c :: w)[w.length]?≠none:=al
  rw[<- h1]at h2
  have h3:p+w.length < t.length:=by
   apply abH;intro hn;exact h2 (abS aa)
  simp only[aa9];omega
theorem Jr (t:List UInt8):Has t 0 t:=fun k hk=>al
theorem Gm {s:List UInt8} (h:gr s=true):s≠[]/\s.length<=8/\(∀ c∈s,jG c=false)/\∀ c,s[0]? = some c->jG c=false/\c≠48/\c≠49/\97<=c.toNat:=by
 unfold gr at h;simp only[OF,decide_eq_true_eq,Nn]at h;obtain⟨h1,h2,h3,h4,h5,-⟩:=h
 have hs:∀ c:UInt8,oo.contains c=true->jG c=false:=by
  have h:∀ n:Fin 256,oo.contains (UInt8.ofNat n)=true->jG (UInt8.ofNat n)=false:=by decide +kernel
  intro c;have:=h ⟨c.toNat,c.toNat_lt⟩;simpa using this
 refine⟨h1,h2,fun c hc=>hs c (h5 c hc),fun c hc=>?_⟩;have hm:c∈s:=abR hc
 have hg:s.getD 0 0=c:=by rw[aa5,hc];rfl
 rw[hg]at h3;refine⟨hs c (h5 c hm),?_,?_,h3⟩<;>rintro rfl<;>revert h3<;>decide
def qX (t:List UInt8) (e:Nat):Prop:=∀ c,t[e]? = some c->jG c=true
theorem Nf {t:List UInt8}:∀ (w:List UInt8) (k:Nat),Has t k w->(∀ c∈w,jG c=false)->qX t (k+w.length)->oU t k=k+w.length
 | [],k,_,_,hs=>by
  rw[Nh fun hk=>hs _ (by simp[IN hk])];rfl
 | c :: w,k,h,hw,hs=>by
  obtain⟨h1,h2⟩:=h.cons;obtain⟨hk,he⟩:=By.1 h1;rw[Ng hk (by rw[he];exact hw c al),Nf w (k+1) h2 (fun c hc=>hw c (by simp[hc])) (by rw[show k+1+w.length=k+(c :: w).length by simp;omega];exact hs)];simp;omega
theorem Hp {t s:List UInt8} {q i:Nat} (hn:gr s=true) (h:Has t (aQ t i) s) (hs:qX t (aQ t i+s.length)):eU t q i = .ok s (aQ t i+s.length):=by
 obtain⟨h1,h2,h3,h4⟩:=Gm hn;unfold eU;generalize aQ t i=p at *
 have hw:ml t p=p+s.length:=by
  cases s with
  | nil=>exact absurd rfl h1
  | cons c w=>
   obtain⟨g1,g2⟩:=h.cons;obtain⟨f1,f2,f3,f4⟩:=h4 c rfl
   have ho:pD t p=true:=by
    unfold pD;rw[g1];simp[f1,f2,f3]
   unfold ml;rw[ho,if_pos rfl,Nf w (p+1) g2 (fun c hc=>h3 c (by simp[hc])) (by rw[show p+1+w.length=p+(c :: w).length by simp;omega];exact hs)];simp;omega
 have nI:gw t p=s:=by
  unfold gw;rw[hw];apply List.ext_getElem?;intro k;rw[show p+s.length - p=s.length by omega,abf];split
  .rename_i hk;rw[abB,h k hk]
  .rw[abS aa]
 rw[nI,if_neg h1,if_neg (by rw[hn];simp),hw]
mutual
def ew:Ex->Prop
 | .b5 _=>True
 | .bit s=>gr s=true
 | .ef s=>gr s=true
 | .eb s=>gr s=true
 | .not e=>ew e
 | .and l=>2<=l.length/\vx l
 | .or l=>2<=l.length/\vx l
def vx:List Ex->Prop
 | []=>True
 | e :: l=>ew e/\vx l
end
theorem kz:∀ l:List Ex,vx l↔∀ e∈l,ew e
 | []=>by simp[vx]
 | e :: l=>by simp[vx,kz l]
mutual
def ft:Ex->Nat
 | .b5 _=>1
 | .bit _=>1
 | .ef _=>1
 | .eb _=>1
 | .not e=>ft e+1
 | .and l=>qj l+1
 | .or l=>rj l+1
def qj:List Ex->Nat
 | []=>0
 | e :: l=>max (ft e) (qj l)
def rj:List Ex->Nat
 | []=>0
 | e :: l=>max (match e with | .and m=>qj m | e=>ft e) (rj l)
end
def lE:Ex->Nat
 | .and l=>qj l
 | .or l=>rj l
 | e=>ft e
def nv:Ex->Nat
 | .and l=>qj l
 | e=>ft e
theorem IH (e:Ex) (l:List Ex):rj (e :: l)=max (nv e) (rj l):=by
 cases e<;>simp[rj,nv]
theorem xE {x:Ex}:∀ {l:List Ex},x∈l->ft x<=qj l
 | e :: l,h=>by
  rw[qj]
  rcases abg.1 h with rfl | h
  .omega
  .have:=xE h;omega
theorem DI {x:Ex}:∀ {l:List Ex},x∈l->nv x<=rj l
 | e :: l,h=>by
  rw[IH]
  rcases abg.1 h with rfl | h
  .omega
  .have:=DI h;omega
theorem PH (e:Ex):nv e<=ft e:=by cases e<;>simp[nv,ft]
theorem PG (e:Ex):lE e<=nv e:=by
 cases e<;>simp[lE,nv,ft]
theorem PF (e:Ex):ft e<=lE e+1:=by
 cases e<;>simp[lE,ft]
theorem tL:∀ (e:Ex) (k:Nat),ew e->∃ c r,aB e k=c :: r/\c≠32
 | .b5 b,k,_=>by cases b<;>exact⟨_,_,rfl,bh⟩
 | .bit s,k,h=>by
  obtain⟨h1,h2,h3,h4⟩:=Gm h
  cases s with
  | nil=>exact absurd rfl h1
  | cons c r=>exact⟨c,r,rfl,by rintro rfl;have:=(h4 32 rfl).1;revert this;decide⟩
 | .ef s,k,_=>⟨_,_,rfl,bh⟩
 | .eb s,k,_=>⟨_,_,rfl,bh⟩
 | .not e,k,_=>⟨_,_,rfl,bh⟩
 | .and l,k,h=>by
  rw[aB];split
  .exact⟨40,_,rfl,bh⟩
  .obtain⟨h1,h2⟩:=h
   match l,h1,h2 with
   | x :: l,_,h2=>
    obtain⟨c,r,he,hc⟩:=tL x 2 h2.1;rw[sj,Lib.join_cons,he];exact⟨c,_,rfl,hc⟩
 | .or l,k,h=>by
  rw[aB];split
  .exact⟨40,_,rfl,bh⟩
  .obtain⟨h1,h2⟩:=h
   match l,h1,h2 with
   | x :: l,_,h2=>
    obtain⟨c,r,he,hc⟩:=tL x 1 h2.1;rw[sj,Lib.join_cons,he];exact⟨c,_,rfl,hc⟩
theorem xa {t:List UInt8} {p:Nat} {w:List UInt8} (h:Has t p w) (hw:∃ c r,w=c :: r/\c≠32):aQ t p=p:=by
 obtain⟨c,r,rfl,hc⟩:=hw;exact pc (by rw[h.cons.1];intro e;exact hc (AI e))
theorem Cy {t:List UInt8} {s:UInt8} (hs:s≠32) {f:Nat->Rs Ex} (hg:jL t f) (k:Nat) (Q:Nat->Prop) (L:List Ex) (hL:∀ y∈L,ew y)
  (hQ:∀ e,t[e]? = some 32->t[e+1]? = some s->aQ t e=e+1->Q e)
  (hf:∀ y∈L,∀ i,i<=t.length->Has t (aQ t i) (aB y k)->Q (aQ t i+(aB y k).length)->∃ j,f i = .ok y j/\aQ t j=aQ t (aQ t i+(aB y k).length)) :
  ∀ (l:List Ex) (x:Ex),(∀ y∈x :: l,y∈L)->∀ (i:Nat) (acc:List Ex),i<=t.length->Has t (aQ t i) (aB x k ++ Lib.joinTail [32,s,32] (l.map fun e=>aB e k))->
   Q (aQ t i+(aB x k ++ Lib.joinTail [32,s,32] (l.map fun e=>aB e k)).length)->t[aQ t (aQ t i+(aB x k ++ Lib.joinTail [32,s,32] (l.map fun e=>aB e k)).length)]?≠some s->
   iC t s f i acc = .ok (acc ++ x :: l) (aQ t (aQ t i+(aB x k ++ Lib.joinTail [32,s,32] (l.map fun e=>aB e k)).length)):=by
 intro l
 induction l with
 | nil=>
  intro x hx i acc hi hh hq hn;simp only[acn,Lib.joinTail,List.flatten_nil,abK]at hh hq hn ⊢;obtain⟨j,hj,nG⟩:=hf x (hx x al) i hi hh hq;rw[p6 hg hi,hj];dsimp only;unfold du;rw[nG,if_neg hn];simp
 | cons y l ih=>
  intro x hx i acc hi hh hq hn
  have ej:Lib.joinTail [32,s,32] ((y :: l).map fun e=>aB e k)=32 :: s :: 32 :: (aB y k ++ Lib.joinTail [32,s,32] (l.map fun e=>aB e k)):=by
   simp[Lib.joinTail]
  rw[ej]at hh hq hn ⊢;have fX:=iD hi;obtain⟨h1,h2⟩:=hh.app;have wF:=h1.top fX;generalize hE:aQ t i+(aB x k).length=e1 at h2 wF;obtain⟨g1,h2⟩:=h2.cons;obtain⟨g2,h2⟩:=h2.cons;obtain⟨g3,h2⟩:=h2.cons
  have k1:aQ t e1=e1+1:=by
   rw[zD g1,pc];rw[g2];intro h;exact hs (AI h)
  obtain⟨j,hj,nG⟩:=hf x (hx x al) i hi h1 (by rw[hE];exact hQ e1 g1 g2 k1);rw[hE,k1]at nG
  have ht:du t s j=(true,e1+2):=by
   unfold du;rw[nG,if_pos g2]
  have k2:aQ t (e1+2)=e1+3:=by
   rw[zD g3]
   exact xa h2 (by
    obtain⟨c,r,he,hc⟩:=tL y k (hL y (hx y al))
    exact⟨c,_,by rw[he];rfl,hc⟩)
  have hlen:e1+2<=t.length:=by
   obtain⟨h,_⟩:=By.1 g3;omega
  have mG:aQ t i+(aB x k ++ 32 :: s :: 32 :: (aB y k ++ Lib.joinTail [32,s,32] (l.map fun e=>aB e k))).length=aQ t (e1+2)+(aB y k ++ Lib.joinTail [32,s,32] (l.map fun e=>aB e k)).length:=by
   rw[k2,abb];simp only[aa9];omega
  rw[mG]at hq hn ⊢;have:=ih y (fun z hz=>hx z (acj x hz)) (e1+2) (acc ++ [x]) hlen (by rw[k2];exact h2) hq hn;rw[p6 hg hi,hj];dsimp only;rw[ht];simp only[if_true];rw[this];simp
def z6 (t:List UInt8) (d:Nat) (e:Ex):Prop:=∀ i,i<=t.length->Has t (aQ t i) (aB e 2)->qX t (aQ t i+(aB e 2).length)->cf t d i = .ok e (aQ t i+(aB e 2).length)
def zW (t:List UInt8) (d:Nat) (e:Ex):Prop:=∀ i,i<=t.length->Has t (aQ t i) (aB e 1)->qX t (aQ t i+(aB e 1).length)->t[aQ t (aQ t i+(aB e 1).length)]?≠some 38->j1 t (cf t d) i = .ok e (aQ t (aQ t i+(aB e 1).length))
def z7 (t:List UInt8) (d:Nat) (e:Ex):Prop:=∀ i,i<=t.length->Has t (aQ t i) (aB e 0)->qX t (aQ t i+(aB e 0).length)->t[aQ t (aQ t i+(aB e 0).length)]?≠some 38->t[aQ t (aQ t i+(aB e 0).length)]?≠some 124->jt t (cf t d) i = .ok e (aQ t (aQ t i+(aB e 0).length))
theorem Ag {t:List UInt8} {d:Nat} {l:List Ex} (hw:ew (.and l)) (h:∀ y∈l,z6 t d y):zW t d (.and l):=by
 intro i hi hh bO hn;obtain⟨h2,nI⟩:=hw
 match l,h2 with
 | x :: l,h2=>
  have e1:aB (.and (x :: l)) 1=aB x 2 ++ Lib.joinTail [32,38,32] (l.map fun e=>aB e 2):=by
   rw[aB,if_neg aa,nY,abj,Lib.join_cons]
  rw[e1]at hh bO hn ⊢
  have:=Cy (s:=38) bh (kp t d) 2 (qX t) (x :: l) ((kz _).1 nI) (fun e h1 _ _ c hc=>by rw[h1]at hc;obtain rfl:=AI hc;rfl)
   (fun y hy i hi hh hs=>⟨_,h y hy i hi hh hs,rfl⟩) l x (fun y hy=>hy) i [] hi hh bO hn
  show (iC t 38 (cf t d) i []).map og=_;rw[this];show Rs.ok (og ([] ++ x :: l)) _=_;rw[abL,As (by simp only[aa9]at h2 ⊢;omega)]
theorem Dh {t:List UInt8} {d:Nat} {e:Ex} (hw:ew e) (D0:aB e 1=aB e 2) (h:z6 t d e):zW t d e:=by
 intro i hi hh bO hn;rw[D0]at hh bO hn ⊢
 have:=Cy (s:=38) bh (kp t d) 2 (qX t) [e] (fun y hy=>by simp at hy;subst hy;exact hw) (fun e h1 _ _ c hc=>by rw[h1]at hc;obtain rfl:=AI hc;rfl)
  (fun y hy i2 jB Bl lO=>⟨_,by have FE:=abV.1 hy;subst FE;exact h i2 jB Bl lO,rfl⟩) [] e (fun y hy=>hy) i [] hi (by simpa[Lib.joinTail]using hh) (by simpa[Lib.joinTail]using bO) (by simpa[Lib.joinTail]using hn)
 show (iC t 38 (cf t d) i []).map og=_;rw[this];simp[Rs.map,og,Lib.joinTail]
theorem LM {t:List UInt8} {d:Nat} {l:List Ex} (hw:ew (.or l)) (h:∀ y∈l,zW t d y):z7 t d (.or l):=by
 intro i hi hh bO rN kQ;obtain⟨h2,nI⟩:=hw
 match l,h2 with
 | x :: l,h2=>
  have e1:aB (.or (x :: l)) 0=aB x 1 ++ Lib.joinTail [32,124,32] (l.map fun e=>aB e 1):=by
   rw[aB,if_neg aa,nY,abj,Lib.join_cons]
  rw[e1]at hh bO rN kQ ⊢
  have:=Cy (s:=124) bh (tV (kp t d)) 1 (fun e=>qX t e/\t[aQ t e]?≠some 38) (x :: l) ((kz _).1 nI)
   (fun e h1 h2 h3=>⟨fun c hc=>by rw[h1]at hc;obtain rfl:=AI hc;rfl,by rw[h3,h2];decide⟩)
   (fun y hy i hi hh hs=>⟨_,h y hy i hi hh hs.1 hs.2,qM (hh.top (iD hi))⟩) l x (fun y hy=>hy) i [] hi hh ⟨bO,rN⟩ kQ
  show (iC t 124 (j1 t (cf t d)) i []).map oh=_;rw[this];show Rs.ok (oh ([] ++ x :: l)) _=_;rw[abL,Au (by simp only[aa9]at h2 ⊢;omega)]
theorem LL {t:List UInt8} {d:Nat} {e:Ex} (hw:ew e) (QA:aB e 0=aB e 1) (h:zW t d e):z7 t d e:=by
 intro i hi hh bO rN kQ;rw[QA]at hh bO rN kQ ⊢
 have:=Cy (s:=124) bh (tV (kp t d)) 1 (fun e=>qX t e/\t[aQ t e]?≠some 38) [e] (fun y hy=>by simp at hy;subst hy;exact hw)
  (fun e h1 h2 h3=>⟨fun c hc=>by rw[h1]at hc;obtain rfl:=AI hc;rfl,by rw[h3,h2];decide⟩)
  (fun y hy i2 jB Bl lO=>⟨_,by have FE:=abV.1 hy;subst FE;exact h i2 jB Bl lO.1 lO.2,qM (Bl.top (iD jB))⟩) [] e (fun y hy=>hy) i [] hi (by simpa[Lib.joinTail]using hh) ⟨by simpa[Lib.joinTail]using bO,by simpa[Lib.joinTail]using rN⟩ (by simpa[Lib.joinTail]using kQ)
 show (iC t 124 (j1 t (cf t d)) i []).map oh=_;rw[this];simp[Rs.map,oh,Lib.joinTail]
theorem LH {t:List UInt8} {d:Nat} {e:Ex} (hw:ew e) (h2:aB e 2=40 :: (aB e 0 ++ [41])) (h:z7 t d e):z6 t (d+1) e:=by
 intro i hi hh bO;rw[h2]at hh bO ⊢;have fX:=iD hi;generalize hp:aQ t i=p at *;obtain⟨g1,hh⟩:=hh.cons;obtain⟨g2,g3⟩:=hh.app;have cR:p+1<=t.length:=(By.1 g1).1;have k1:aQ t (p+1)=p+1:=xa g2 (tL e 0 hw);have g4:=g3.cons.1;have k2:aQ t (p+1+(aB e 0).length)=p+1+(aB e 0).length:=pc (by rw[g4];decide);have:=h (p+1) cR (by rw[k1];exact g2) (by rw[k1];intro c hc;rw[g4]at hc;obtain rfl:=AI hc;rfl) (by rw[k1,k2,g4];decide) (by rw[k1,k2,g4];decide);rw[k1,k2]at this
 have ht:du t 41 (p+1+(aB e 0).length)=(true,p+1+(aB e 0).length+1):=by
  unfold du;rw[k2,if_pos g4]
 rw[cf,hp,if_neg (by rw[g1];decide),if_pos g1,this];dsimp only;rw[ht];simp;omega
theorem tu {t:List UInt8}:∀ (n:Nat) (e:Ex),SizeOf.sizeOf e<=n->ew e->∀ d,ft e<=d->z6 t d e
 | 0,e,hn,_,_,_=>by cases e<;>simp at hn
 | n+1,e,hn,hw,d,hd=>by
  have key:∀ b:Bool,∀ (p:Nat),t[p]? = some (if b then 49 else 48)->aQ t p=p:=fun b p h=>pc (by rw[h];cases b<;>decide)
  cases e with
  | b5 b=>
   obtain⟨d,rfl⟩:∃ d',d=d'+1:=⟨d - 1,by simp only[ft]at hd;omega⟩;intro i hi hh bO
   cases b with
   | true=>
    have g:t[aQ t i]? = some 49:=(show Has t (aQ t i) (_ :: _) from hh).cons.1;rw[cf,if_neg (by rw[g];decide),if_neg (by rw[g];decide),if_neg (by rw[g];decide),if_pos g];simp[aB]
   | false=>
    have g:t[aQ t i]? = some 48:=(show Has t (aQ t i) (_ :: _) from hh).cons.1;rw[cf,if_neg (by rw[g];decide),if_neg (by rw[g];decide),if_pos g];simp[aB]
  | bit s=>
   obtain⟨d,rfl⟩:∃ d',d=d'+1:=⟨d - 1,by simp only[ft]at hd;omega⟩;intro i hi hh bO;rw[aB]at hh bO ⊢;obtain⟨n1,n2,n3,n4⟩:=Gm hw;have fX:=iD hi;have hid:=qM hi
   have hlen:0 < s.length:=by cases s with | nil=>exact absurd rfl n1 | cons c s=>simp
   have hc:t[aQ t i]? = s[0]?:=by simpa using hh 0 hlen
   have bw:∀ c:UInt8,jG c=true\/c=48\/c=49->t[aQ t i]?≠some c:=by
    intro c eh h;rw[hc]at h;obtain⟨f1,f2,f3,_⟩:=n4 c h
    rcases eh with h | h | h
    .rw[f1]at h;cases h
    .exact f2 h
    .exact f3 h
   rw[cf,if_neg (bw 33 bh),if_neg (bw 40 bh),if_neg (bw 48 bh),if_neg (bw 49 bh),if_neg (bw 94 bh),if_neg (bw 126 bh),Hp hw (by rw[hid];exact hh) (by rw[hid];exact bO),hid];rfl
  | ef s=>
   obtain⟨d,rfl⟩:∃ d',d=d'+1:=⟨d - 1,by simp only[ft]at hd;omega⟩;intro i hi hh bO;rw[aB]at hh bO ⊢;obtain⟨g,hh⟩:=hh.cons;have k1:aQ t (aQ t i+1)=aQ t i+1:=xa hh (tL (.bit s) 0 hw);rw[cf,if_neg (by rw[g];decide),if_neg (by rw[g];decide),if_neg (by rw[g];decide),if_neg (by rw[g];decide),if_pos g,Hp hw (by rw[k1];exact hh) (by rw[k1];rw[aa9]at bO;rw[show aQ t i+1+s.length=aQ t i+(s.length+1) by omega];exact bO),k1];simp[Rs.map];omega
  | eb s=>
   obtain⟨d,rfl⟩:∃ d',d=d'+1:=⟨d - 1,by simp only[ft]at hd;omega⟩;intro i hi hh bO;rw[aB]at hh bO ⊢;obtain⟨g,hh⟩:=hh.cons;have k1:aQ t (aQ t i+1)=aQ t i+1:=xa hh (tL (.bit s) 0 hw);rw[cf,if_neg (by rw[g];decide),if_neg (by rw[g];decide),if_neg (by rw[g];decide),if_neg (by rw[g];decide),if_neg (by rw[g];decide),if_pos g,Hp hw (by rw[k1];exact hh) (by rw[k1];rw[aa9]at bO;rw[show aQ t i+1+s.length=aQ t i+(s.length+1) by omega];exact bO),k1];simp[Rs.map];omega
  | not x=>
   obtain⟨d,rfl⟩:∃ d',d=d'+1:=⟨d - 1,by simp only[ft]at hd;omega⟩;have ih:=tu (t:=t) n x (by simp at hn;omega) hw d (by simp only[ft]at hd;omega);intro i hi hh bO;rw[aB]at hh bO ⊢;obtain⟨g,hh⟩:=hh.cons;have cR:=(By.1 g).1;have k1:aQ t (aQ t i+1)=aQ t i+1:=xa hh (tL x 2 hw);rw[cf,if_pos g,ih (aQ t i+1) cR (by rw[k1];exact hh) (by rw[k1];rw[aa9]at bO;rw[show aQ t i+1+(aB x 2).length=aQ t i+((aB x 2).length+1) by omega];exact bO),k1];simp;omega
  | and l=>
   obtain⟨d,rfl⟩:∃ d',d=d'+1:=⟨d - 1,by simp only[ft]at hd;omega⟩;simp only[ft]at hd;refine LH hw (by simp[aB]) (LL hw (by simp[aB]) (Ag hw fun y hy=>?_));have:=aba hy;have h2:=xE hy;exact tu n y (by simp only[Ex.and.sizeOf_spec]at hn;omega) ((kz _).1 hw.2 y hy) d aa
  | or l=>
   obtain⟨d,rfl⟩:∃ d',d=d'+1:=⟨d - 1,by simp only[ft]at hd;omega⟩;simp only[ft]at hd;refine LH hw (by simp[aB]) (LM hw fun y hy=>?_);have hs:=aba hy;have h2:=DI hy;have pU:=(kz _).1 hw.2 y hy
   have qw:SizeOf.sizeOf y+1<=n:=by simp only[Ex.or.sizeOf_spec]at hn;omega
   by_cases hm:∃ m,y = .and m
   .obtain⟨m,rfl⟩:=hm;refine Ag pU fun z hz=>?_;have:=aba hz;have h3:=xE hz;simp only[nv]at h2;exact tu n z (by simp only[Ex.and.sizeOf_spec]at qw;omega) ((kz _).1 pU.2 z hz) d aa
   .have h3:nv y=ft y:=by
     cases y<;>first | rfl | exact absurd ⟨_,rfl⟩ hm
    have h4:aB y 1=aB y 2:=by
     cases y<;>first | rfl | exact absurd ⟨_,rfl⟩ hm | simp[aB]
    exact Dh pU h4 (tu n y aa pU d aa)
theorem Vm {t:List UInt8} {e:Ex} (hw:ew e) {d:Nat} (hd:lE e<=d):z7 t d e:=by
 by_cases ho:∃ l,e = .or l
 .obtain⟨l,rfl⟩:=ho;refine LM hw fun y hy=>?_;have h2:=DI hy;have pU:=(kz _).1 hw.2 y hy;simp only[lE]at hd;by_cases hm:∃ m,y = .and m
  .obtain⟨m,rfl⟩:=hm;refine Ag pU fun z hz=>?_;have h3:=xE hz;simp only[nv]at h2;exact tu _ z (aa8 _) ((kz _).1 pU.2 z hz) d aa
  .have h3:nv y=ft y:=by
    cases y<;>first | rfl | exact absurd ⟨_,rfl⟩ hm
   have h4:aB y 1=aB y 2:=by
    cases y<;>first | rfl | exact absurd ⟨_,rfl⟩ hm | simp[aB]
   exact Dh pU h4 (tu _ y (aa8 _) pU d aa)
 .have h0:aB e 0=aB e 1:=by
   cases e<;>first | rfl | exact absurd ⟨_,rfl⟩ ho | simp[aB]
  refine LL hw h0 ?_;by_cases hm:∃ m,e = .and m
  .obtain⟨m,rfl⟩:=hm;refine Ag hw fun z hz=>?_;have h3:=xE hz;simp only[lE]at hd;exact tu _ z (aa8 _) ((kz _).1 hw.2 z hz) d aa
  .have h3:lE e=ft e:=by
    cases e<;>first | rfl | exact absurd ⟨_,rfl⟩ hm | exact absurd ⟨_,rfl⟩ ho
   have h4:aB e 1=aB e 2:=by
    cases e<;>first | rfl | exact absurd ⟨_,rfl⟩ hm | exact absurd ⟨_,rfl⟩ ho | simp[aB]
   exact Dh hw h4 (tu _ e (aa8 _) hw d aa)
theorem or_self {e:Ex} (hw:ew e) {d:Nat} (hd:lE e<=d):jt (aB e 0) (cf (aB e 0) d) 0 = .ok e (aB e 0).length:=by
 have k0:aQ (aB e 0) 0=0:=xa (Jr _) (tL e 0 hw);have k1:aQ (aB e 0) (aB e 0).length=(aB e 0).length:=pc al;have:=Vm (t:=aB e 0) hw hd 0 (acv _) (by rw[k0];exact Jr _) (by rw[k0];intro c hc;simp at hc) (by rw[k0,abe,k1];simp) (by rw[k0,abe,k1];simp);rw[k0,abe,k1]at this;exact this
theorem ZG {a b:Ex} (ha:ew a) (hb:ew b) (h:aB a 0=aB b 0):a=b:=by
 have h1:=or_self ha (d:=max (lE a) (lE b)) aa;have h2:=or_self hb (d:=max (lE a) (lE b)) aa;rw[h,h2]at h1;simp only[Rs.ok.injEq]at h1;exact h1.1.symm
theorem GX {t:List UInt8} {s:UInt8} {f:Nat->Rs Ex} (P:Ex->Prop) (hf:∀ i x j,f i = .ok x j->P x):∀ (n i:Nat) (acc l:List Ex) (j:Nat),gv t s f n i acc = .ok l j->(∀ x∈acc,P x)->∀ x∈l,P x
 | 0,i,acc,l,j,h,_=>by simp[gv]at h
 | n+1,i,acc,l,j,h,ha=>by
  rw[gv]at h
  cases ck:f i with
  | err c p q=>rw[ck]at h;cases h
  | ok x k=>
   rw[ck]at h;dsimp only at h
   have gL:∀ y∈acc ++ [x],P y:=fun y hy=>by
    rcases abr.1 hy with hy | hy
    .exact ha y hy
    .simp at hy;subst hy;exact hf _ _ _ ck
   split at h
   .exact GX P hf n _ _ l j h gL
   .simp only[Rs.ok.injEq]at h;obtain⟨rfl,-⟩:=h;exact gL
theorem G0 {t:List UInt8} {s:UInt8} {f:Nat->Rs Ex}:∀ (n i:Nat) (acc l:List Ex) (j:Nat),gv t s f n i acc = .ok l j->acc.length < l.length
 | 0,i,acc,l,j,h=>by simp[gv]at h
 | n+1,i,acc,l,j,h=>by
  rw[gv]at h;split at h
  .cases h
  .split at h
   .have:=G0 n _ _ l j h;simp only[abb,ab2]at this;omega
   .simp only[Rs.ok.injEq]at h;obtain⟨rfl,-⟩:=h;simp
theorem IG {d:Nat}:∀ {l:List Ex},(∀ x∈l,ft x<=d)->qj l<=d
 | [],_=>by simp[qj]
 | e :: l,h=>by
  have h1:=h e al;have h2:=IG (l:=l) fun x hx=>h x (by simp[hx]);rw[qj];omega
theorem II {d:Nat}:∀ {l:List Ex},(∀ x∈l,nv x<=d)->rj l<=d
 | [],_=>by simp[rj]
 | e :: l,h=>by
  have h1:=h e al;have h2:=II (l:=l) fun x hx=>h x (by simp[hx]);rw[IH];omega
theorem On {t:List UInt8} {d:Nat} (h:∀ i x j,cf t d i = .ok x j->ew x/\ft x<=d) {i j:Nat} {x:Ex} (he:j1 t (cf t d) i = .ok x j):ew x/\nv x<=d:=by
 obtain⟨l,h1,rfl⟩:=mZ he;have ha:=GX (fun x=>ew x/\ft x<=d) h _ _ _ _ _ h1 al;have hp:=G0 _ _ _ _ _ h1;by_cases hl:l.length=1
 .obtain⟨x,rfl⟩:=abw.1 hl;have:=ha x al;exact⟨this.1,acb (PH x) this.2⟩
 .rw[As hl];exact⟨⟨by simp at hp;omega,(kz _).2 fun x hx=>(ha x hx).1⟩,IG fun x hx=>(ha x hx).2⟩
theorem LQ {t:List UInt8} {d:Nat} (h:∀ i x j,cf t d i = .ok x j->ew x/\ft x<=d) {i j:Nat} {x:Ex} (he:jt t (cf t d) i = .ok x j):ew x/\lE x<=d:=by
 obtain⟨l,h1,rfl⟩:=mZ he;have ha:=GX (fun x=>ew x/\nv x<=d) (fun i x j h'=>On h h') _ _ _ _ _ h1 al;have hp:=G0 _ _ _ _ _ h1;by_cases hl:l.length=1
 .obtain⟨x,rfl⟩:=abw.1 hl;have:=ha x al;exact⟨this.1,acb (PG x) this.2⟩
 .rw[Au hl];exact⟨⟨by simp at hp;omega,(kz _).2 fun x hx=>(ha x hx).1⟩,II fun x hx=>(ha x hx).2⟩
theorem Hw {t:List UInt8} {q i j:Nat} {s:List UInt8} (h:eU t q i = .ok s j):gr s=true:=by
 unfold eU at h;split at h
 .cases h
 .split at h
  .cases h
  .rename_i hn;simp only[Rs.ok.injEq]at h;obtain⟨rfl,-⟩:=h;simpa using hn
theorem LK (t:List UInt8):∀ d i x j,cf t d i = .ok x j->ew x/\ft x<=d
 | 0,i,x,j,h=>by simp[cf]at h
 | d+1,i,x,j,h=>by
  have ih:=LK t d;rw[cf]at h;split at h
  .cases he:cf t d (aQ t i+1) with
   | err c p q=>rw[he]at h;cases h
   | ok y k=>
    rw[he]at h;simp only[Rs.ok.injEq]at h;obtain⟨rfl,rfl⟩:=h;have:=ih _ _ _ he;exact⟨this.1,by simp only[ft];omega⟩
  split at h
  .cases he:jt t (cf t d) (aQ t i+1) with
   | err c p q=>rw[he]at h;cases h
   | ok y k=>
    rw[he]at h;dsimp only at h;split at h
    .simp only[Rs.ok.injEq]at h;obtain⟨rfl,rfl⟩:=h;have:=LQ ih he;have h3:=PF y;exact⟨this.1,aa⟩
    .cases h
  split at h
  .simp only[Rs.ok.injEq]at h;obtain⟨rfl,rfl⟩:=h;exact⟨trivial,by simp only[ft];omega⟩
  split at h
  .simp only[Rs.ok.injEq]at h;obtain⟨rfl,rfl⟩:=h;exact⟨trivial,by simp only[ft];omega⟩
  split at h
  .obtain⟨s,h3,rfl⟩:=mZ h;exact⟨Hw h3,by simp only[ft];omega⟩
  split at h
  .obtain⟨s,h3,rfl⟩:=mZ h;exact⟨Hw h3,by simp only[ft];omega⟩
  .obtain⟨s,h3,rfl⟩:=mZ h;exact⟨Hw h3,by simp only[ft];omega⟩
theorem GG {t:List UInt8} {x:Ex} (h:(gB t).1=some x):ew x/\lE x<=20:=by
 unfold gB at h;split at h
 .cases h
 .split at h
  .cases h
  .rename_i y i he;split at h
   .cases h
   .obtain rfl:=AI h;exact LQ (LK t 20) he
mutual
def gK (is b7:List UInt8->Bool):Ex->Bool
 | .b5 b=>b
 | .bit s=>is s
 | .ef s=>is s && !b7 s
 | .eb s=>!is s && b7 s
 | .not e=>!gK is b7 e
 | .and l=>DR is b7 l
 | .or l=>DS is b7 l
def DR (is b7:List UInt8->Bool):List Ex->Bool
 | []=>true
 | e :: l=>gK is b7 e && DR is b7 l
def DS (is b7:List UInt8->Bool):List Ex->Bool
 | []=>false
 | e :: l=>gK is b7 e || DS is b7 l
end
mutual
def jv:Ex->Nat
 | .not e=>jv e+1
 | .and l=>gC l+1
 | .or l=>gC l+1
 | _=>1
def gC:List Ex->Nat
 | []=>0
 | e :: l=>jv e+gC l
end
def sJ (and:Bool) (l:List Ex):Ex:=if and then .and l else .or l
def fv (is b7:List UInt8->Bool) (and:Bool) (l:List Ex):Bool:=gK is b7 (sJ and l)
theorem rp (is b7:List UInt8->Bool) (and:Bool):fv is b7 and []=and:=by cases and<;>rfl
theorem rn (is b7:List UInt8->Bool) (and:Bool) (e:Ex) (l:List Ex):fv is b7 and (e :: l)=if and then (gK is b7 e && fv is b7 and l) else (gK is b7 e || fv is b7 and l):=by
 cases and<;>simp[fv,sJ,gK,DR,DS]
theorem vL (is b7:List UInt8->Bool) (and:Bool):∀ (a b:List Ex),fv is b7 and (a ++ b)=if and then (fv is b7 and a && fv is b7 and b) else (fv is b7 and a || fv is b7 and b)
 | [],b=>by rw[abL,rp];cases and<;>simp
 | e :: a,b=>by
  rw[aby,rn,rn,vL is b7 and a b];cases and<;>simp[Bool.and_assoc,Bool.or_assoc]
theorem AK (is b7:List UInt8->Bool) (and:Bool) {e:Ex}:∀ {l:List Ex},e∈l->gK is b7 e = !and->fv is b7 and l = !and
 | x :: l,h,he=>by
  rw[rn]
  rcases abg.1 h with rfl | h
  .rw[he];cases and<;>rfl
  .rw[AK is b7 and h he];cases and<;>simp
theorem Qa (is b7:List UInt8->Bool) (and:Bool) {e:Ex} {l:List Ex} (h:e∈l):fv is b7 and (l ++ [e])=fv is b7 and l:=by
 rw[vL,rn,rp];by_cases he:gK is b7 e=and
 .rw[he];cases and<;>simp
 .have o3:gK is b7 e = !and:=by cases and<;>simpa using he
  rw[AK is b7 and h o3];cases and<;>simp
theorem Nc:∀ (a b:List Ex),gC (a ++ b)=gC a+gC b
 | [],b=>by simp[gC]
 | e :: a,b=>by simp only[aby,gC,Nc a b];omega
def fZ (e:Ex):List UInt8:=aB e 0
def ll:Ex->Ex
 | .b5 b=>.b5 (!b)
 | .not y=>y
 | y=>.not y
def eA:Ex->Ex
 | .not y=>y
 | y=>.not y
def iz (and:Bool):Ex->Option (List Ex)
 | .b5 b=>if b != and then none else some []
 | .and l=>some (if and then l else [.and l])
 | .or l=>some (if and then [.or l] else l)
 | y=>some [y]
def fV (out:List Ex) (x:Ex):Bool:=out.any fun z=>fZ z == fZ x
def mv (out:List Ex) (x:Ex):Option (List Ex):=if fV out x then some out else if fV out (eA x) then none else some (out ++ [x])
def gz:List Ex->List Ex->Option (List Ex)
 | out,[]=>some out
 | out,x :: l=>match mv out x with
  | none=>none
  | some o=>gz o l
def eB (and:Bool):List Ex->List Ex->Option (List Ex)
 | out,[]=>some out
 | out,x :: l=>match iz and x with
  | none=>none
  | some i=>match gz out i with
   | none=>none
   | some o=>eB and o l
def ez (and:Bool):Option (List Ex)->Ex
 | none=>.b5 (!and)
 | some []=>.b5 and
 | some [x]=>x
 | some l=>sJ and l
mutual
def cu:Ex->Ex
 | .not e=>ll (cu e)
 | .and l=>ez true (eB true [] (gD l))
 | .or l=>ez false (eB false [] (gD l))
 | e=>e
def gD:List Ex->List Ex
 | []=>[]
 | e :: l=>cu e :: gD l
end
theorem xd:∀ l:List Ex,gD l=l.map cu
 | []=>rfl
 | e :: l=>by rw[gD,xd l];rfl
def jq:Ex->Bool | .b5 _=>true | _=>false
def wL:Ex->Bool | .not _=>true | _=>false
def pW (and:Bool):Ex->Bool | .and _=>and | .or _=>!and | _=>false
mutual
def ji:Ex->Prop
 | .b5 _=>True
 | .bit s=>gr s=true
 | .ef s=>gr s=true
 | .eb s=>gr s=true
 | .not e=>jq e=false/\wL e=false/\ji e
 | .and l=>2<=l.length/\vv true l/\l.Pairwise (fun a b=>a≠b/\a≠eA b)
 | .or l=>2<=l.length/\vv false l/\l.Pairwise (fun a b=>a≠b/\a≠eA b)
def vv (and:Bool):List Ex->Prop
 | []=>True
 | e :: l=>jq e=false/\pW and e=false/\ji e/\vv and l
end
theorem vw (and:Bool):∀ l:List Ex,vv and l↔∀ e∈l,jq e=false/\pW and e=false/\ji e
 | []=>by simp[vv]
 | e :: l=>by simp[vv,vw and l,and_assoc]
theorem tI:∀ e:Ex,ji e->ew e
 | .b5 _,_=>trivial
 | .bit s,h=>h
 | .ef s,h=>h
 | .eb s,h=>h
 | .not e,h=>tI e h.2.2
 | .and l,h=>⟨h.1,(kz _).2 fun x hx=>tI x ((vw _ _).1 h.2.1 x hx).2.2⟩
 | .or l,h=>⟨h.1,(kz _).2 fun x hx=>tI x ((vw _ _).1 h.2.1 x hx).2.2⟩
termination_by e=>SizeOf.sizeOf e
decreasing_by
 all_goals simp_wf
 all_goals first
  | omega
  | (have:=aba hx;omega)
structure n5 (and:Bool) (out:List Ex):Prop where
 zN:∀ e∈out,jq e=false/\pW and e=false/\ji e
 pw:out.Pairwise fun a b=>a≠b/\a≠eA b
theorem LU {x:Ex} (h:ew x):ew (eA x):=by
 cases x<;>exact h
theorem Vn (is b7:List UInt8->Bool) (x:Ex):gK is b7 (eA x) = !gK is b7 x:=by
 cases x<;>simp[eA,gK]
theorem Be {out:List Ex} {x:Ex} (ho:∀ e∈out,ew e) (hx:ew x):fV out x=true↔x∈out:=by
 unfold fV;rw[List.any_eq_true];constructor
 .rintro⟨z,hz,he⟩;have:=ZG (ho z hz) hx (by simpa[fZ]using he);exact this ▸ hz
 .intro h;exact⟨x,h,al⟩
theorem Og {and:Bool} {out:List Ex} (hg:n5 and out) {x:Ex} (hx:jq x=false/\pW and x=false/\ji x) :
  (x∈out/\mv out x=some out)\/(x ∉ out/\eA x∈out/\mv out x=none)\/(x ∉ out/\eA x ∉ out/\mv out x=some (out ++ [x])/\n5 and (out ++ [x])):=by
 have hw:=tI x hx.2.2;have ho:∀ e∈out,ew e:=fun e he=>tI e (hg.zN e he).2.2;have h1:=Be ho hw;have h2:=Be ho (LU hw);unfold mv;by_cases c1:x∈out
 .exact .inl ⟨c1,if_pos (h1.2 c1)⟩
 .rw[if_neg (fun h=>c1 (h1.1 h))];by_cases c2:eA x∈out
  .exact .inr (.inl ⟨c1,c2,if_pos (h2.2 c2)⟩)
  .refine .inr (.inr ⟨c1,c2,if_neg (fun h=>c2 (h2.1 h)),fun e he=>?_,?_⟩)
   .rcases abr.1 he with he | he
    .exact hg.zN e he
    .simp at he;subst he;exact hx
   .rw[aci];refine⟨hg.pw,al,fun a ha b hb=>?_⟩;simp at hb;subst hb;exact⟨fun e=>c1 (e ▸ ha),fun e=>c2 (e ▸ ha)⟩
theorem Af (is b7:List UInt8->Bool) {and:Bool}:∀ (l:List Ex) (out:List Ex),n5 and out->(∀ x∈l,jq x=false/\pW and x=false/\ji x)->
  (gz out l=none/\fv is b7 and (out ++ l) = !and)\/(∃ o,gz out l=some o/\n5 and o/\fv is b7 and o=fv is b7 and (out ++ l)/\gC o<=gC out+gC l)
 | [],out,hg,_=>.inr ⟨out,rfl,hg,al,by simp[gC]⟩
 | x :: l,out,hg,hl=>by
  have hx:=hl x al;have eX:=fun y hy=>hl y (acj x hy);rw[gz]
  rcases Og hg hx with⟨c,e⟩ | ⟨_,c,e⟩ | ⟨_,_,e,qq⟩
  .rw[e]
   have h1:fv is b7 and (out ++ x :: l)=fv is b7 and (out ++ l):=by
    rw[show out ++ x :: l=(out ++ [x]) ++ l by simp,vL,Qa is b7 and c,<- vL]
   rcases Af is b7 l out hg eX with⟨a,b⟩ | ⟨o,a,b,c,d⟩
   .exact .inl ⟨a,by rw[h1];exact b⟩
   .exact .inr ⟨o,a,b,by rw[h1];exact c,by simp only[gC];omega⟩
  .rw[e];refine .inl ⟨rfl,?_⟩;by_cases hv:gK is b7 x=and
   .exact AK is b7 and (e:=eA x) (by simp[c]) (by rw[Vn,hv])
   .exact AK is b7 and (e:=x) al (by cases and<;>simpa using hv)
  .rw[e]
   have h1:out ++ x :: l=(out ++ [x]) ++ l:=al
   rcases Af is b7 l (out ++ [x]) qq eX with⟨a,b⟩ | ⟨o,a,b,c,d⟩
   .exact .inl ⟨a,by rw[h1];exact b⟩
   .exact .inr ⟨o,a,b,by rw[h1];exact c,by rw[Nc]at d;simp only[gC]at d ⊢;omega⟩
theorem L2 (is b7:List UInt8->Bool) {and:Bool} {x:Ex} (hx:ji x) :
  (iz and x=none/\gK is b7 x = !and)\/(∃ i,iz and x=some i/\fv is b7 and i=gK is b7 x/\(∀ y∈i,jq y=false/\pW and y=false/\ji y)/\gC i<=jv x):=by
 have gn:∀ y:Ex,ji y->jq y=false->pW and y=false->fv is b7 and [y]=gK is b7 y/\(∀ z∈[y],jq z=false/\pW and z=false/\ji z)/\gC [y]<=jv y:=by
  intro y h1 h2 h3;refine⟨by rw[rn,rp];cases and<;>simp,fun z hz=>?_,by simp[gC]⟩;simp at hz;subst hz;exact⟨h2,h3,h1⟩
 cases x with
 | b5 b=>
  have hp:iz and (.b5 b)=if b != and then none else some []:=rfl;rw[hp];by_cases hb:(b != and)=true
  .rw[if_pos hb];refine .inl ⟨rfl,?_⟩
   revert hb
   cases b<;>cases and<;>simp[gK]
  .rw[if_neg hb];refine .inr ⟨[],rfl,?_,al,by simp[gC]⟩;rw[rp]
   revert hb
   cases b<;>cases and<;>simp[gK]
 | bit s=>exact .inr ⟨_,rfl,gn _ hx rfl rfl⟩
 | ef s=>exact .inr ⟨_,rfl,gn _ hx rfl rfl⟩
 | eb s=>exact .inr ⟨_,rfl,gn _ hx rfl rfl⟩
 | not y=>exact .inr ⟨_,rfl,gn _ hx rfl rfl⟩
 | and l=>
  cases and with
  | true=>exact .inr ⟨l,rfl,rfl,(vw _ _).1 hx.2.1,by simp[jv]⟩
  | false=>exact .inr ⟨_,rfl,gn _ hx rfl rfl⟩
 | or l=>
  cases and with
  | true=>exact .inr ⟨_,rfl,gn _ hx rfl rfl⟩
  | false=>exact .inr ⟨l,rfl,rfl,(vw _ _).1 hx.2.1,by simp[jv]⟩
theorem L0 (is b7:List UInt8->Bool) {and:Bool}:∀ (l:List Ex) (out:List Ex),n5 and out->(∀ x∈l,ji x)->
  (eB and out l=none/\(if and then (fv is b7 and out && fv is b7 and l) else (fv is b7 and out || fv is b7 and l)) = !and)\/(∃ o,eB and out l=some o/\n5 and o/\fv is b7 and o=(if and then (fv is b7 and out && fv is b7 and l) else (fv is b7 and out || fv is b7 and l))/\gC o<=gC out+gC l)
 | [],out,hg,_=>.inr ⟨out,rfl,hg,by rw[rp];cases and<;>simp,by simp[gC]⟩
 | x :: l,out,hg,hl=>by
  have hx:=hl x al;have eX:=fun y hy=>hl y (acj x hy);rw[eB,rn]
  rcases L2 is b7 (and:=and) hx with⟨a,b⟩ | ⟨i,a,b,c,d⟩
  .rw[a,b];refine .inl ⟨rfl,by cases and<;>simp⟩
  .rw[a];dsimp only
   rcases Af is b7 i out hg c with⟨e,f⟩ | ⟨o,e,f,g,h⟩
   .rw[e];refine .inl ⟨rfl,?_⟩;rw[vL,b]at f
    revert f
    cases and<;>cases gK is b7 x<;>cases fv is b7 _ out<;>simp
   .rw[e];dsimp only;rw[vL,b]at g
    rcases L0 is b7 l o f eX with⟨p,q⟩ | ⟨o2,p,q,r,s⟩
    .refine .inl ⟨p,?_⟩;rw[g]at q
     revert q
     cases and<;>simp[Bool.and_assoc,Bool.or_assoc]
    .refine .inr ⟨o2,p,q,?_,by simp only[gC];omega⟩;rw[r,g];cases and<;>simp[Bool.and_assoc,Bool.or_assoc]
theorem Qn (is b7:List UInt8->Bool) {and:Bool} {l:List Ex} (hl:∀ x∈l,ji x):ji (ez and (eB and [] l))/\gK is b7 (ez and (eB and [] l))=fv is b7 and l/\jv (ez and (eB and [] l))<=gC l+1:=by
 rcases L0 is b7 (and:=and) l [] ⟨al,al⟩ hl with⟨a,b⟩ | ⟨o,a,b,c,d⟩
 .rw[a];rw[rp]at b;refine⟨trivial,?_,by simp[ez,jv]⟩;show (!and)=_
  revert b
  cases and<;>simp
 .rw[a];rw[rp]at c
  have c':fv is b7 and o=fv is b7 and l:=by rw[c];cases and<;>simp
  simp only[gC,abe]at d
  match o,b,c',d with
  | [],_,c',_=>exact⟨trivial,by rw[<- c',rp];rfl,by simp[ez,jv]⟩
  | [x],b,c',d=>
   refine⟨(b.zN x al).2.2,?_,by simp only[ez,gC]at d ⊢;omega⟩;rw[<- c',rn,rp];cases and<;>simp[ez]
  | x :: y :: l',b,c',d=>
   have hT:=(vw and (x :: y :: l')).2 b.zN
   cases and with
   | true=>exact⟨⟨al,hT,b.pw⟩,c',by simp only[ez,sJ,if_true,jv];omega⟩
   | false=>exact⟨⟨al,hT,b.pw⟩,c',by simp only[ez,sJ,abh,if_false,jv];omega⟩
theorem Hi (is b7:List UInt8->Bool):∀ (n:Nat) (e:Ex),SizeOf.sizeOf e<=n->ew e->ji (cu e)/\gK is b7 (cu e)=gK is b7 e/\jv (cu e)<=jv e
 | 0,e,hn,_=>by cases e<;>simp at hn
 | n+1,e,hn,hw=>by
  have many:∀ (and:Bool) (l:List Ex),(∀ x∈l,SizeOf.sizeOf x<=n/\ew x)->ji (ez and (eB and [] (gD l)))/\gK is b7 (ez and (eB and [] (gD l)))=fv is b7 and l/\jv (ez and (eB and [] (gD l)))<=gC l+1:=by
   intro and l hl
   have h1:∀ l:List Ex,(∀ x∈l,SizeOf.sizeOf x<=n/\ew x)->(∀ x∈gD l,ji x)/\fv is b7 and (gD l)=fv is b7 and l/\gC (gD l)<=gC l:=by
    intro l
    induction l with
    | nil=>intro _;exact⟨by simp[gD],rfl,by simp[gD]⟩
    | cons x l ih=>
     intro h;obtain⟨a,b,c⟩:=ih fun y hy=>h y (by simp[hy]);obtain⟨p,q,r⟩:=Hi is b7 n x (h x al).1 (h x al).2;refine⟨fun y hy=>?_,?_,?_⟩
     .rw[gD]at hy
      rcases abg.1 hy with rfl | hy
      .exact p
      .exact a y hy
     .rw[gD,rn,rn,b,q]
     .simp only[gD,gC];omega
   obtain⟨a,b,c⟩:=h1 l hl;obtain⟨p,q,r⟩:=Qn is b7 (and:=and) a;exact⟨p,by rw[q,b],aa⟩
  cases e with
  | b5 b=>exact⟨trivial,rfl,aa8 _⟩
  | bit s=>exact⟨hw,rfl,aa8 _⟩
  | ef s=>exact⟨hw,rfl,aa8 _⟩
  | eb s=>exact⟨hw,rfl,aa8 _⟩
  | not x=>
   obtain⟨a,b,c⟩:=Hi is b7 n x (by simp at hn;omega) hw;rw[cu];have e1:gK is b7 (.not x) = !gK is b7 x:=rfl;have e2:jv (.not x)=jv x+1:=rfl;rw[e1,e2,<- b]
   revert a c
   generalize cu x=y;intro a c
   cases y with
   | b5 b=>exact⟨trivial,rfl,by simp[ll,jv]⟩
   | not y=>exact⟨a.2.2,by simp[ll,gK],by simp only[ll,jv]at c ⊢;omega⟩
   | bit s=>exact⟨⟨rfl,rfl,a⟩,rfl,by simp only[ll,jv]at c ⊢;omega⟩
   | ef s=>exact⟨⟨rfl,rfl,a⟩,rfl,by simp only[ll,jv]at c ⊢;omega⟩
   | eb s=>exact⟨⟨rfl,rfl,a⟩,rfl,by simp only[ll,jv]at c ⊢;omega⟩
   | and l=>exact⟨⟨rfl,rfl,a⟩,rfl,by simp only[ll,jv]at c ⊢;omega⟩
   | or l=>exact⟨⟨rfl,rfl,a⟩,rfl,by simp only[ll,jv]at c ⊢;omega⟩
  | and l=>exact many true l fun x hx=>⟨by have:=aba hx;simp only[Ex.and.sizeOf_spec]at hn;omega,(kz _).1 hw.2 x hx⟩
  | or l=>exact many false l fun x hx=>⟨by have:=aba hx;simp only[Ex.or.sizeOf_spec]at hn;omega,(kz _).1 hw.2 x hx⟩
def nk (out:List Ex) (x:Ex):Option (List Ex):=if fV out (eA x) then none else if fV out x then some out else some (out ++ [x])
theorem Vp {x:Ex} (h:ji x):eA (eA x)=x:=by
 cases x with
 | not y=>
  obtain⟨_,h2,_⟩:=h
  cases y<;>first | rfl | cases h2
 | _=>rfl
theorem Vo (x:Ex):eA x≠x:=by
 intro h
 cases x with
 | not y=>have:=congrArg SizeOf.sizeOf h;simp[eA]at this
 | b5 _=>cases h
 | bit _=>cases h
 | ef _=>cases h
 | eb _=>cases h
 | and _=>cases h
 | or _=>cases h
theorem add_same {and:Bool} {out:List Ex} (hg:n5 and out) {x:Ex} (hx:jq x=false/\pW and x=false/\ji x):nk out x=mv out x:=by
 have hw:=tI x hx.2.2;have ho:∀ e∈out,ew e:=fun e he=>tI e (hg.zN e he).2.2;have h1:=Be ho hw;have h2:=Be ho (LU hw);unfold nk mv;by_cases c1:fV out x=true
 .rw[if_pos c1];by_cases c2:fV out (eA x)=true
  .exfalso;have m1:=h1.1 c1;have m2:=h2.1 c2;obtain⟨i,hi,e1⟩:=abv.1 m1;obtain⟨j,hj,e2⟩:=abv.1 m2;have o6:=List.pairwise_iff_getElem.1 hg.pw
   rcases Nat.lt_trichotomy i j with h | h | h
   .have:=(o6 i j hi hj h).2;rw[e1,e2,Vp hx.2.2]at this;exact this rfl
   .subst h;rw[e1]at e2;exact Vo x e2.symm
   .have:=(o6 j i hj hi h).2;rw[e1,e2]at this;exact this rfl
  .rw[if_neg c2,if_pos c1]
 .rw[if_neg c1,if_neg c1]
mutual
def bE:Ex->Nat
 | .b5 _=>4
 | .bit s=>s.length+3
 | .ef s=>s.length+4
 | .eb s=>s.length+4
 | .not e=>bE e+1
 | .and l=>bx l+5
 | .or l=>bx l+5
def bx:List Ex->Nat
 | []=>0
 | e :: l=>bE e+bx l
end
theorem lz:∀ (a b:List Ex),bx (a ++ b)=bx a+bx b
 | [],b=>by simp[bx]
 | e :: a,b=>by simp only[aby,bx,lz a b];omega
theorem xu:∀ e:Ex,3<=bE e
 | .not e=>by have:=xu e;simp only[bE];omega
 | .b5 _=>by simp[bE]
 | .bit _=>by simp[bE]
 | .ef _=>by simp only[bE];omega
 | .eb _=>by simp only[bE];omega
 | .and _=>by simp only[bE];omega
 | .or _=>by simp only[bE];omega
theorem qd {x:Ex}:∀ {l:List Ex},x∈l->bE x<=bx l
 | y :: l,h=>by
  rw[bx]
  rcases abg.1 h with rfl | h
  .omega
  .have:=qd h;omega
theorem lA:∀ l:List Ex,3 * l.length<=bx l
 | []=>al
 | e :: l=>by have:=lA l;have:=xu e;simp only[aa9,bx];omega
theorem Hz:∀ (n:Nat) (e:Ex),SizeOf.sizeOf e<=n->(aB e 2).length+3<=bE e
 | 0,e,hn=>by cases e<;>simp at hn
 | n+1,e,hn=>by
  have many:∀ (sep:List UInt8) (k:Nat) (l:List Ex),sep.length=3->(∀ x∈l,SizeOf.sizeOf x<=n)->(Lib.join (l.map fun e=>aB e k) sep).length<=bx l:=by
   intro sep k l hs hl;have h1:=join_le sep k l
   have h2:∀ l:List Ex,(∀ x∈l,SizeOf.sizeOf x<=n)->tG l+3 * l.length<=bx l:=by
    intro l
    induction l with
    | nil=>intro _;simp[tG,bx]
    | cons x l ih=>
     intro h;have a:=ih fun y hy=>h y (by simp[hy]);have b:=Hz n x (h x al);unfold CH at *;simp only[tG,bx,aa9,CH];omega
   have h3:=h2 l hl;rw[hs]at h1;omega
  cases e with
  | b5 b=>cases b<;>simp[aB,bE]
  | bit s=>simp[aB,bE]
  | ef s=>simp[aB,bE]
  | eb s=>simp[aB,bE]
  | not x=>
   have:=Hz n x (by simp at hn;omega);simp only[aB,bE,aa9];omega
  | and l=>
   have:=many [32,38,32] 2 l rfl fun x hx=>by have:=aba hx;simp only[Ex.and.sizeOf_spec]at hn;omega
   rw[aB,if_pos aa,nY];simp only[abb,ab2,bE];omega
  | or l=>
   have:=many [32,124,32] 1 l rfl fun x hx=>by have:=aba hx;simp only[Ex.or.sizeOf_spec]at hn;omega
   rw[aB,if_pos aa,nY];simp only[abb,ab2,bE];omega
theorem pj (e:Ex):(aB e 2).length<=bE e:=by have:=Hz _ e (aa8 _);omega
theorem Oe {out o:List Ex} {x:Ex} (h:mv out x=some o):bx o<=bx out+bE x:=by
 unfold mv at h;split at h
 .obtain rfl:=AI h;omega
 .split at h
  .cases h
  .obtain rfl:=AI h;rw[lz];simp only[bx];omega
theorem Ae:∀ (l out o:List Ex),gz out l=some o->bx o<=bx out+bx l
 | [],out,o,h=>by rw[gz]at h;obtain rfl:=AI h;omega
 | x :: l,out,o,h=>by
  rw[gz]at h;split at h
  .cases h
  .rename_i o1 h1;have a:=Oe h1;have b:=Ae l o1 o h;simp only[bx];omega
theorem Ch {and:Bool} {x:Ex} {i:List Ex} (h:iz and x=some i):bx i<=bE x:=by
 cases x with
 | b5 b=>
  have hp:iz and (.b5 b)=if b != and then none else some []:=rfl;rw[hp]at h;split at h
  .cases h
  .obtain rfl:=AI h;simp[bx]
 | and l=>cases and<;>(obtain rfl:=AI h;simp[bx,bE])
 | or l=>cases and<;>(obtain rfl:=AI h;simp[bx,bE])
 | bit s=>obtain rfl:=AI h;simp[bx]
 | ef s=>obtain rfl:=AI h;simp[bx]
 | eb s=>obtain rfl:=AI h;simp[bx]
 | not y=>obtain rfl:=AI h;simp[bx]
theorem se {and:Bool}:∀ (l out o:List Ex),eB and out l=some o->bx o<=bx out+bx l
 | [],out,o,h=>by rw[eB]at h;obtain rfl:=AI h;omega
 | x :: l,out,o,h=>by
  rw[eB]at h;split at h
  .cases h
  .rename_i i hi;split at h
   .cases h
   .rename_i o1 h1;have a:=Ch hi;have b:=Ae _ _ _ h1;have c:=se l o1 o h;simp only[bx];omega
theorem Qm {and:Bool} {l:List Ex}:bE (ez and (eB and [] l))<=bx l+5:=by
 cases h:eB and [] l with
 | none=>simp[ez,bE]
 | some o=>
  have:=se l [] o h;simp only[bx,abe]at this
  match o,this with
  | [],_=>simp[ez,bE]
  | [x],this=>simp only[ez,bx]at this ⊢;omega
  | x :: y :: o,this=>cases and<;>(simp only[ez,sJ,bE,if_true,if_false,abh];omega)
theorem Hh:∀ (n:Nat) (e:Ex),SizeOf.sizeOf e<=n->bE (cu e)<=bE e
 | 0,e,hn=>by cases e<;>simp at hn
 | n+1,e,hn=>by
  have many:∀ (and:Bool) (l:List Ex),(∀ x∈l,SizeOf.sizeOf x<=n)->bE (ez and (eB and [] (gD l)))<=bx l+5:=by
   intro and l hl
   have h1:∀ l:List Ex,(∀ x∈l,SizeOf.sizeOf x<=n)->bx (gD l)<=bx l:=by
    intro l
    induction l with
    | nil=>intro _;simp[gD]
    | cons x l ih=>
     intro h;have a:=ih fun y hy=>h y (by simp[hy]);have b:=Hh n x (h x al);simp only[gD,bx];omega
   have a:=h1 l hl;have b:=Qm (and:=and) (l:=gD l);omega
  cases e with
  | b5 b=>exact aa8 _
  | bit s=>exact aa8 _
  | ef s=>exact aa8 _
  | eb s=>exact aa8 _
  | not x=>
   have h:=Hh n x (by simp at hn;omega);rw[cu];show _<=bE x+1;generalize cu x=y at h;have:=xu x;cases y<;>simp only[ll,bE]at h ⊢<;>omega
  | and l=>exact many true l fun x hx=>by have:=aba hx;simp only[Ex.and.sizeOf_spec]at hn;omega
  | or l=>exact many false l fun x hx=>by have:=aba hx;simp only[Ex.or.sizeOf_spec]at hn;omega
theorem zP (e:Ex):bE (cu e)<=bE e:=Hh _ e (aa8 _)
theorem LR (x:Ex):bE (eA x)<=bE x+1:=by
 cases x<;>simp[eA,bE]<;>omega
theorem GZ {t:List UInt8} {s:UInt8} {f:Nat->Rs Ex} (hg:jL t f) (hf:vr bE t f):∀ (n i:Nat) (acc l:List Ex) (j:Nat),i<=t.length->gv t s f n i acc = .ok l j->bx l+5 * (l.length - 1)<=bx acc+5 * acc.length+5 * (j - i)/\acc.length < l.length
 | 0,i,acc,l,j,_,h=>by simp[gv]at h
 | n+1,i,acc,l,j,hi,h=>by
  rw[gv]at h
  cases ck:f i with
  | err c p q=>rw[ck]at h;cases h
  | ok x k=>
   rw[ck]at h;obtain⟨h1,h2⟩:=hg i x k hi ck;have h5:=hf i x k hi ck;obtain⟨t1,t2,t3⟩:=mj (c:=s) h2;dsimp only at h;split at h
   .rename_i ht;have h4:=t3 ht;have ih:=GZ hg hf n _ _ l j t2 h;have h6:=Cz hg n _ _ l j t2 h;simp only[lz,bx,abb,ab2]at ih;omega
   .simp only[Rs.ok.injEq]at h;obtain⟨rfl,rfl⟩:=h;simp only[lz,bx,abb,ab2];omega
theorem Pd {l:List Ex} {m:Nat} (h:bx l+5 * (l.length - 1)<=m) (h0:0 < l.length):bE (og l)<=m:=by
 by_cases h1:l.length=1
 .obtain⟨x,rfl⟩:=abw.1 h1;simp only[bx,ab2]at h;show bE x<=m;omega
 .rw[As h1,bE];omega
theorem Pf {l:List Ex} {m:Nat} (h:bx l+5 * (l.length - 1)<=m) (h0:0 < l.length):bE (oh l)<=m:=by
 by_cases h1:l.length=1
 .obtain⟨x,rfl⟩:=abw.1 h1;simp only[bx,ab2]at h;show bE x<=m;omega
 .rw[Au h1,bE];omega
theorem Ol {t:List UInt8} {one:Nat->Rs Ex} (hg:jL t one) (h:vr bE t one):vr bE t (j1 t one):=fun i x j hi he=>by
 obtain⟨l,h1,rfl⟩:=mZ he;have:=GZ hg h _ _ _ _ _ hi h1;simp only[bx,abX]at this;exact Pd aa aa
theorem LO {t:List UInt8} {one:Nat->Rs Ex} (hg:jL t one) (h:vr bE t one):vr bE t (jt t one):=fun i x j hi he=>by
 obtain⟨l,h1,rfl⟩:=mZ he;have:=GZ (tV hg) (Ol hg h) _ _ _ _ _ hi h1;simp only[bx,abX]at this;exact Pf aa aa
theorem Hr (t:List UInt8) (q i j:Nat) (s:List UInt8) (hi:i<=t.length) (h:eU t q i = .ok s j):s.length<=j - i/\1<=j - i:=by
 have hg:=CS t q i s j hi h;have h1:=zE t i;unfold eU at h;split at h
 .cases h
 .split at h
  .cases h
  .simp only[Rs.ok.injEq]at h;obtain⟨rfl,rfl⟩:=h;have h4:=CO t (aQ t i);unfold gw;rw[abk];omega
theorem LJ (t:List UInt8):∀ d,vr bE t (cf t d)
 | 0=>fun i x j _ h=>by simp[cf]at h
 | d+1=>fun i x j hi h=>by
  have ih:=LJ t d;have hg:=kp t d;have h1:=zE t i;have h2:=iD hi;have hb:∀ {c:UInt8},t[aQ t i]? = some c->aQ t i < t.length:=fun hc=>(By.1 hc).1;rw[cf]at h;split at h
  .rename_i hc;have:=hb hc
   cases he:cf t d (aQ t i+1) with
   | err c p q=>rw[he]at h;cases h
   | ok y k=>
    rw[he]at h;simp only[Rs.ok.injEq]at h;obtain⟨rfl,rfl⟩:=h;have h3:=ih _ y k aa he;have h4:=hg _ y k aa he;simp only[bE];omega
  split at h
  .rename_i _ hc;have:=hb hc
   cases he:jt t (cf t d) (aQ t i+1) with
   | err c p q=>rw[he]at h;cases h
   | ok y k=>
    rw[he]at h;dsimp only at h;have h3:=LO hg ih _ y k aa he;have h4:=sd hg _ y k aa he;obtain⟨t1,t2,t3⟩:=mj (c:=41) h4.2;split at h
    .simp only[Rs.ok.injEq]at h;obtain⟨rfl,rfl⟩:=h;omega
    .cases h
  split at h
  .rename_i _ _ hc;have:=hb hc;simp only[Rs.ok.injEq]at h;obtain⟨rfl,rfl⟩:=h;simp only[bE];omega
  split at h
  .rename_i _ _ _ hc;have:=hb hc;simp only[Rs.ok.injEq]at h;obtain⟨rfl,rfl⟩:=h;simp only[bE];omega
  split at h
  .rename_i _ _ _ _ hc;have:=hb hc;obtain⟨s,h3,rfl⟩:=mZ h;have h4:=Hr t 1 _ j s aa h3;simp only[bE];omega
  split at h
  .rename_i _ _ _ _ _ hc;have:=hb hc;obtain⟨s,h3,rfl⟩:=mZ h;have h4:=Hr t 2 _ j s aa h3;simp only[bE];omega
  .obtain⟨s,h3,rfl⟩:=mZ h;have h4:=Hr t 3 _ j s aa h3;simp only[bE];omega
theorem LX {t:List UInt8} {x:Ex} (h:(gB t).1=some x):bE x<=10000:=by
 unfold gB at h;split at h
 .cases h
 .rename_i hl;split at h
  .cases h
  .rename_i y i he;split at h
   .cases h
   .obtain rfl:=AI h;have h1:=LO (kp t 20) (LJ t 20) 0 y i (acv _) he;have h2:=sd (kp t 20) 0 y i (acv _) he;omega
def jz (out:List Ex) (x:Ex):List Ex×Bool:=if fV out x then (out,false) else if fV out (eA x) then (out,true) else (out ++ [x],false)
def eK:List Ex->List Ex->List Ex×Bool
 | out,[]=>(out,false)
 | out,x :: l=>if (jz out x).2 then jz out x else eK (jz out x).1 l
theorem Oc (out:List Ex) (x:Ex):mv out x=if (jz out x).2 then none else some (jz out x).1:=by
 unfold mv jz;split
 .rfl
 .split<;>rfl
theorem HQ:∀ (l out:List Ex),gz out l=if (eK out l).2 then none else some (eK out l).1
 | [],out=>rfl
 | x :: l,out=>by
  rw[gz,Oc,eK];by_cases h:(jz out x).2=true
  .rw[if_pos h,if_pos h,if_pos h]
  .rw[if_neg h,if_neg h];exact HQ l _
theorem Od (out:List Ex) (x:Ex):bx (jz out x).1<=bx out+bE x:=by
 unfold jz;split
 .dsimp only;omega
 .split
  .dsimp only;omega
  .rw[lz];simp only[bx];omega
theorem HR:∀ (l out:List Ex) (x:Ex),(eK out l).2=false->eK out (l ++ [x])=jz (eK out l).1 x
 | [],out,x,_=>by
  rw[abL,eK,eK];dsimp only;by_cases h:(jz out x).2=true
  .rw[if_pos h]
  .rw[if_neg h];rw[eK]
   have:(jz out x).2=false:=by simpa using h
   rw[<- this]
 | y :: l,out,x,h=>by
  rw[aby,eK,eK];rw[eK]at h;by_cases h1:(jz out y).2=true
  .rw[if_pos h1]at h;rw[h1]at h;cases h
  .rw[if_neg h1]at h ⊢;rw[if_neg h1];exact HR l _ x h
theorem HS:∀ (l out r:List Ex),(eK out l).2=true->eK out (l ++ r)=eK out l
 | [],out,r,h=>by cases h
 | y :: l,out,r,h=>by
  rw[aby,eK,eK];rw[eK]at h;by_cases h1:(jz out y).2=true
  .rw[if_pos h1,if_pos h1]
  .rw[if_neg h1]at h ⊢;rw[if_neg h1];exact HS l _ r h
open Go.Av
theorem Ni {t:List UInt8} {c:UInt8} {i j:Nat} (hj:aQ t i=j):du t c i=if t[j]? = some c then (true,j+1) else (false,j):=by
 unfold du;rw[hj]
theorem Hu {t:List UInt8} {q i:Nat} {c:Int} {p q':Nat} (h:eU t q i = .err c p q'):q'=q:=by
 unfold eU at h;split at h
 .simp only[Rs.err.injEq]at h;omega
 .split at h
  .simp only[Rs.err.injEq]at h;omega
  .cases h
theorem ac7:type_of% (Aq @lW.eq_1 (Aq @lW.eq_2 (Aq @acL (Aq @acM @acN)))):=(Aq @lW.eq_1 (Aq @lW.eq_2 (Aq @acL (Aq @acM @acN))))
theorem Vj (G:aF) (t:List UInt8) (ht:t.length<=2000):∀ (d:Nat),d<=20->∀ i,i<=t.length->MC prog G [500] 259 [.ref 500 0 0,.d (ab d)] (au (bK t i)) (.d (dK (cf t d i))) (au (bK t (cL (cf t d i)))):=by
 intro d
 induction d with
 | zero=>
  intro _ i hi;have eW:=xL G t i aa hi 4;refine MC.aU (aw _) func259 rfl rfl (rs:=[.tmp 4,.tmp 5]) results259 (by simp[ntmps259]) rfl fun X=>?_;simp only[ntmps259];have fw:=acR;refine af fw [0,1] [500] ?_;refine ah fun K1 aI=>af fw [0,1,17] [500] ?_;refine aD (bA (Aq fw ac9) eW [4,5] [500] ?_);exact bg (Aq fw (Aq @bK.eq_1 (Aq @cq.eq_1 (Aq @dK.eq_1 (Aq @dK.eq_2 (Aq @cf.eq_1 (Aq @cf.eq_2 (Aq @cL.eq_1 (Aq @cL.eq_2 (Aq @acL (Aq @acM (Aq @acN @dQ.eq_1))))))))))))
 | succ d ih=>
  intro hd i hi;have ih:=ih aa;have lN:=LP G t ht d ih;have fX:=iD hi;have sP:=qM hi
  have oA:¬ (d:Int)+1=0:=aa
  have uM:t.length < 2^60:=aa
  have Fw:∀ c,MC prog G [500] 258 [.ref 500 0 0,.d (.v (.int .u8 c.toNat))] (au (bK t i)) (.d (.v (.bool (du t c i).1))) (au (bK t (du t c i).2)):=fun c=>CI G t i uM hi c;rw[cf];generalize hj:aQ t i=j at fX sP ⊢;have qA:∀ c,MC prog G [500] 258 [.ref 500 0 0,.d (.v (.int .u8 c.toNat))] (au (bK t j)) (.d (.v (.bool (du t c j).1))) (au (bK t (du t c j).2)):=fun c=>CI G t j uM fX c;have Ak:=fun c=>Ni (t:=t) (c:=c) hj;have H7:=fun c=>Ni (t:=t) (c:=c) sP;simp only[Ak]at Fw;simp only[H7]at qA;have bf:∀ {c:UInt8},t[j]? = some c->j+1<=t.length:=fun h=>(By.1 h).1;have mR:=Fw 33;have oM:=qA 40;have iZ:=qA 48;have jr:=qA 49;have s6:=qA 94;have wM:=qA 126;clear Fw Ak H7 hj;by_cases qe:t[j]? = some 33
  .rw[if_pos qe]at mR ⊢;have hc:=ih (j+1) (bf qe)
   cases hr:cf t d (j+1) with
   | err c p q=>
    rw[hr]at hc;refine MC.aU (aw _) func259 rfl rfl (rs:=[.tmp 4,.tmp 5]) results259 (by simp[ntmps259]) rfl fun X=>?_;simp only[ntmps259];have fw:=acR;refine af fw [0,1] [500] ?_;refine ah fun K1 aI=>?_;have qf:=(Aq fw @oA);refine aC [0,1,17] [500] ?_;refine aj (ax (aI _ ?_));refine ah fun K2 ak=>bd ?_;refine bA fw mR [0,1,20] [500] ?_;refine aD (bA (Aq fw ac5) hc [6,7] [500] ?_);refine ah fun K3 bF=>af fw [6,7,31] [500] ?_;refine aD (af fw [4,5] [500] ?_);exact bg (Aq fw (Aq @bK.eq_1 (Aq @cq.eq_1 (Aq @dK.eq_1 (Aq @dK.eq_2 (Aq @cL.eq_1 (Aq @cL.eq_2 (Aq @acL (Aq @acM (Aq @acN @dQ.eq_1))))))))))
   | ok x k=>
    rw[hr]at hc;obtain⟨tx,cx,hx⟩:=gk x;refine MC.aU (aw _) func259 rfl rfl (rs:=[.tmp 4,.tmp 5]) results259 (by simp[ntmps259]) rfl fun X=>?_;simp only[ntmps259];have fw:=acR;refine af fw [0,1] [500] ?_;refine ah fun K1 aI=>?_;have qf:=(Aq fw @oA);refine aC [0,1,17] [500] ?_;refine aj (ax (aI _ ?_));refine ah fun K2 ak=>bd ?_;refine bA fw mR [0,1,20] [500] ?_;refine aD ?_;have qf:=(Aq fw (Aq @dK.eq_1 (Aq @dK.eq_2 @hx)));refine iA hc [6,7] [500] ?_;refine ah fun K3 bF=>af fw [6,7,31] [500] ?_;refine aj (ax (bF _ ?_));refine af fw [4,5] [500] ?_;refine bt ?_;simp[D.le,D.le.go,aL,ab,bK,cq,dS,bK,cq,dK,cL,dE,hx,D.le_refl]
  rw[if_neg qe]at mR ⊢;by_cases c40:t[j]? = some 40
  .rw[if_pos c40]at oM ⊢;have hc:=lN (j+1) (bf c40)
   cases hr:jt t (cf t d) (j+1) with
   | err c p q=>
    rw[hr]at hc;refine MC.aU (aw _) func259 rfl rfl (rs:=[.tmp 4,.tmp 5]) results259 (by simp[ntmps259]) rfl fun X=>?_;simp only[ntmps259];have fw:=acR;refine af fw [0,1] [500] ?_;refine ah fun K1 aI=>?_;have qf:=(Aq fw @oA);refine aC [0,1,17] [500] ?_;refine aj (ax (aI _ ?_));refine ah fun K2 ak=>bd ?_;refine bA fw mR [0,1,20] [500] ?_;refine aj (bA fw oM [0,1,36] [500] ?_);refine aD (bA (Aq fw ac5) hc [0,8,9] [500] ?_);refine ah fun K4 cF=>af fw [0,8,9,47] [500] ?_;refine aD (af fw [4,5] [500] ?_);exact bg (Aq fw (Aq @bK.eq_1 (Aq @cq.eq_1 (Aq @dK.eq_1 (Aq @dK.eq_2 (Aq @cL.eq_1 (Aq @cL.eq_2 (Aq @acL (Aq @acM (Aq @acN @dQ.eq_1))))))))))
   | ok x k=>
    rw[hr]at hc;obtain⟨tx,cx,hx⟩:=gk x;have yx:=(sd (kp t d) (j+1) x k (bf c40) hr).2;have BO:=CI G t k uM yx 41;have Fu:=mj (c:=41) yx
    have D4:(du t 41 k).1=false->aQ t (du t 41 k).2=(du t 41 k).2:=fun h=>by
     unfold du at h ⊢;split at h
     .cases h
     .rw[if_neg ‹_›];exact qM yx
    cases yW:du t 41 k with
    | mk b k2=>
    rw[yW]at BO Fu D4;dsimp only at BO Fu D4 ⊢
    cases b with
    | true=>
     refine MC.aU (aw _) func259 rfl rfl (rs:=[.tmp 4,.tmp 5]) results259 (by simp[ntmps259]) rfl fun X=>?_;simp only[ntmps259];have fw:=acR;refine af fw [0,1] [500] ?_;refine ah fun K1 aI=>?_;have qf:=(Aq fw @oA);refine aC [0,1,17] [500] ?_;refine aj (ax (aI _ ?_));refine ah fun K2 ak=>bd ?_;refine bA fw mR [0,1,20] [500] ?_;refine aj (bA fw oM [0,1,36] [500] ?_);refine aD ?_;have qf:=(Aq fw (Aq @dK.eq_1 (Aq @dK.eq_2 (Aq @cL.eq_1 (Aq @cL.eq_2 @hx)))));refine iA hc [0,8,9] [500] ?_;refine ah fun K4 cF=>af fw [0,8,9,47] [500] ?_;refine aj (ax (cF _ ?_));refine ah fun K5 cI=>bA fw BO [0,8,51] [500] ?_;refine aj (ax (cI _ ?_));refine af fw [4,5] [500] ?_;exact bg (Aq fw (Aq @bK.eq_1 (Aq @cq.eq_1 (Aq @dK.eq_1 (Aq @dK.eq_2 (Aq @cL.eq_1 (Aq @cL.eq_2 (Aq @hx @yW))))))))
    | false=>
     have eW:=xL G t k2 uM Fu.2.1 3;rw[D4 rfl]at eW;refine MC.aU (aw _) func259 rfl rfl (rs:=[.tmp 4,.tmp 5]) results259 (by simp[ntmps259]) rfl fun X=>?_;simp only[ntmps259];have fw:=acR;refine af fw [0,1] [500] ?_;refine ah fun K1 aI=>?_;have qf:=(Aq fw @oA);refine aC [0,1,17] [500] ?_;refine aj (ax (aI _ ?_));refine ah fun K2 ak=>bd ?_;refine bA fw mR [0,1,20] [500] ?_;refine aj (bA fw oM [0,1,36] [500] ?_);refine aD ?_;have qf:=(Aq fw (Aq @dK.eq_1 (Aq @dK.eq_2 (Aq @cL.eq_1 (Aq @cL.eq_2 @hx)))));refine iA hc [0,8,9] [500] ?_;refine ah fun K4 cF=>af fw [0,8,9,47] [500] ?_;refine aj (ax (cF _ ?_));refine ah fun K5 cI=>bA fw BO [0,8,51] [500] ?_;refine aD (bA (Aq fw ac9) eW [4,5] [500] ?_);exact bg (Aq fw (Aq @bK.eq_1 (Aq @cq.eq_1 (Aq @dK.eq_1 (Aq @dK.eq_2 (Aq @cL.eq_1 (Aq @cL.eq_2 (Aq @acL (Aq @acM (Aq @acN (Aq @dQ.eq_1 @yW)))))))))))
  rw[if_neg c40]at oM ⊢;by_cases sA:t[j]? = some 48
  .rw[if_pos sA]at iZ ⊢;refine MC.aU (aw _) func259 rfl rfl (rs:=[.tmp 4,.tmp 5]) results259 (by simp[ntmps259]) rfl fun X=>?_;simp only[ntmps259];have fw:=acR;refine af fw [0,1] [500] ?_;refine ah fun K1 aI=>?_;have qf:=(Aq fw @oA);refine aC [0,1,17] [500] ?_;refine aj (ax (aI _ ?_));refine ah fun K2 ak=>bd ?_;refine bA fw mR [0,1,20] [500] ?_;refine aj (bA fw oM [0,1,36] [500] ?_);refine aj (bA fw iZ [0,55] [500] ?_);refine aD (af fw [4,5] [500] ?_);refine bt ?_;simp[D.le,D.le.go,aL,ab,bK,cq,dS,bK,cq,dK,cL,dE]
  rw[if_neg sA]at iZ ⊢;by_cases c49:t[j]? = some 49
  .rw[if_pos c49]at jr ⊢;refine MC.aU (aw _) func259 rfl rfl (rs:=[.tmp 4,.tmp 5]) results259 (by simp[ntmps259]) rfl fun X=>?_;simp only[ntmps259];have fw:=acR;refine af fw [0,1] [500] ?_;refine ah fun K1 aI=>?_;have qf:=(Aq fw @oA);refine aC [0,1,17] [500] ?_;refine aj (ax (aI _ ?_));refine ah fun K2 ak=>bd ?_;refine bA fw mR [0,1,20] [500] ?_;refine aj (bA fw oM [0,1,36] [500] ?_);refine aj (bA fw iZ [0,55] [500] ?_);refine aj (bA fw jr [0,59] [500] ?_);refine aD (af fw [4,5] [500] ?_);refine bt ?_;simp[D.le,D.le.go,aL,ab,bK,cq,dS,bK,cq,dK,cL,dE]
  rw[if_neg c49]at jr ⊢;by_cases rf:t[j]? = some 94
  .rw[if_pos rf]at s6 ⊢;have hc:=Hv G t 1 (j+1) uM (bf rf);have hq:∀ {c:Int} {p q':Nat},eU t 1 (j+1) = .err c p q'->q'=1:=fun h=>Hu h
   cases hr:eU t 1 (j+1) with
   | err c p q'=>
    obtain rfl:=hq hr;rw[hr]at hc;refine MC.aU (aw _) func259 rfl rfl (rs:=[.tmp 4,.tmp 5]) results259 (by simp[ntmps259]) rfl fun X=>?_;simp only[ntmps259];have fw:=acR;refine af fw [0,1] [500] ?_;refine ah fun K1 aI=>?_;have qf:=(Aq fw @oA);refine aC [0,1,17] [500] ?_;refine aj (ax (aI _ ?_));refine ah fun K2 ak=>bd ?_;refine bA fw mR [0,1,20] [500] ?_;refine aj (bA fw oM [0,1,36] [500] ?_);refine aj (bA fw iZ [0,55] [500] ?_);refine aj (bA fw jr [0,59] [500] ?_);refine aj (bA fw s6 [0,63] [500] ?_);refine aD (bA (Aq fw ac7) hc [10,11] [500] ?_);refine af fw [4,5] [500] ?_;refine bt ?_;simp[D.le,D.le.go,aL,ab,bK,cq,dS,bK,cq,dK,cL,bC,dQ,Rs.map,bM]
   | ok s p=>
    rw[hr]at hc;refine MC.aU (aw _) func259 rfl rfl (rs:=[.tmp 4,.tmp 5]) results259 (by simp[ntmps259]) rfl fun X=>?_;simp only[ntmps259];have fw:=acR;refine af fw [0,1] [500] ?_;refine ah fun K1 aI=>?_;have qf:=(Aq fw @oA);refine aC [0,1,17] [500] ?_;refine aj (ax (aI _ ?_));refine ah fun K2 ak=>bd ?_;refine bA fw mR [0,1,20] [500] ?_;refine aj (bA fw oM [0,1,36] [500] ?_);refine aj (bA fw iZ [0,55] [500] ?_);refine aj (bA fw jr [0,59] [500] ?_);refine aj (bA fw s6 [0,63] [500] ?_);refine aD (bA (Aq fw (Aq @lW.eq_1 @lW.eq_2)) hc [10,11] [500] ?_);refine af fw [4,5] [500] ?_;refine bt ?_;simp[D.le,D.le.go,aL,ab,bK,cq,dS,bK,cq,dK,cL,Rs.map,dE]
  rw[if_neg rf]at s6 ⊢;by_cases re:t[j]? = some 126
  .rw[if_pos re]at wM ⊢;have hc:=Hv G t 2 (j+1) uM (bf re);have hq:∀ {c:Int} {p q':Nat},eU t 2 (j+1) = .err c p q'->q'=2:=fun h=>Hu h
   cases hr:eU t 2 (j+1) with
   | err c p q'=>
    obtain rfl:=hq hr;rw[hr]at hc;refine MC.aU (aw _) func259 rfl rfl (rs:=[.tmp 4,.tmp 5]) results259 (by simp[ntmps259]) rfl fun X=>?_;simp only[ntmps259];have fw:=acR;refine af fw [0,1] [500] ?_;refine ah fun K1 aI=>?_;have qf:=(Aq fw @oA);refine aC [0,1,17] [500] ?_;refine aj (ax (aI _ ?_));refine ah fun K2 ak=>bd ?_;refine bA fw mR [0,1,20] [500] ?_;refine aj (bA fw oM [0,1,36] [500] ?_);refine aj (bA fw iZ [0,55] [500] ?_);refine aj (bA fw jr [0,59] [500] ?_);refine aj (bA fw s6 [0,63] [500] ?_);refine aj (bA fw wM [0,74] [500] ?_);refine aD (bA (Aq fw ac7) hc [12,13] [500] ?_);refine af fw [4,5] [500] ?_;refine bt ?_;simp[D.le,D.le.go,aL,ab,bK,cq,dS,bK,cq,dK,cL,bC,dQ,Rs.map,bM]
   | ok s p=>
    rw[hr]at hc;refine MC.aU (aw _) func259 rfl rfl (rs:=[.tmp 4,.tmp 5]) results259 (by simp[ntmps259]) rfl fun X=>?_;simp only[ntmps259];have fw:=acR;refine af fw [0,1] [500] ?_;refine ah fun K1 aI=>?_;have qf:=(Aq fw @oA);refine aC [0,1,17] [500] ?_;refine aj (ax (aI _ ?_));refine ah fun K2 ak=>bd ?_;refine bA fw mR [0,1,20] [500] ?_;refine aj (bA fw oM [0,1,36] [500] ?_);refine aj (bA fw iZ [0,55] [500] ?_);refine aj (bA fw jr [0,59] [500] ?_);refine aj (bA fw s6 [0,63] [500] ?_);refine aj (bA fw wM [0,74] [500] ?_);refine aD (bA (Aq fw (Aq @lW.eq_1 @lW.eq_2)) hc [12,13] [500] ?_);refine af fw [4,5] [500] ?_;refine bt ?_;simp[D.le,D.le.go,aL,ab,bK,cq,dS,bK,cq,dK,cL,Rs.map,dE]
  rw[if_neg re]at wM ⊢;have hc:=Hv G t 3 j uM fX;have hq:∀ {c:Int} {p q':Nat},eU t 3 j = .err c p q'->q'=3:=fun h=>Hu h
  cases hr:eU t 3 j with
  | err c p q'=>
   obtain rfl:=hq hr;rw[hr]at hc;refine MC.aU (aw _) func259 rfl rfl (rs:=[.tmp 4,.tmp 5]) results259 (by simp[ntmps259]) rfl fun X=>?_;simp only[ntmps259];have fw:=acR;refine af fw [0,1] [500] ?_;refine ah fun K1 aI=>?_;have qf:=(Aq fw @oA);refine aC [0,1,17] [500] ?_;refine aj (ax (aI _ ?_));refine ah fun K2 ak=>bd ?_;refine bA fw mR [0,1,20] [500] ?_;refine aj (bA fw oM [0,1,36] [500] ?_);refine aj (bA fw iZ [0,55] [500] ?_);refine aj (bA fw jr [0,59] [500] ?_);refine aj (bA fw s6 [0,63] [500] ?_);refine aj (bA fw wM [0,74] [500] ?_);refine aj (ax (ak _ ?_));refine bA (Aq fw ac7) hc [14,15] [500] ?_;refine af fw [4,5] [500] ?_;refine bt ?_;simp[D.le,D.le.go,aL,ab,bK,cq,dS,bK,cq,dK,cL,bC,dQ,Rs.map,bM]
  | ok s p=>
   rw[hr]at hc;refine MC.aU (aw _) func259 rfl rfl (rs:=[.tmp 4,.tmp 5]) results259 (by simp[ntmps259]) rfl fun X=>?_;simp only[ntmps259];have fw:=acR;refine af fw [0,1] [500] ?_;refine ah fun K1 aI=>?_;have qf:=(Aq fw @oA);refine aC [0,1,17] [500] ?_;refine aj (ax (aI _ ?_));refine ah fun K2 ak=>bd ?_;refine bA fw mR [0,1,20] [500] ?_;refine aj (bA fw oM [0,1,36] [500] ?_);refine aj (bA fw iZ [0,55] [500] ?_);refine aj (bA fw jr [0,59] [500] ?_);refine aj (bA fw s6 [0,63] [500] ?_);refine aj (bA fw wM [0,74] [500] ?_);refine aj (ax (ak _ ?_));refine bA (Aq fw (Aq @lW.eq_1 @lW.eq_2)) hc [14,15] [500] ?_;refine af fw [4,5] [500] ?_;refine bt ?_;simp[D.le,D.le.go,aL,ab,bK,cq,dS,bK,cq,dK,cL,Rs.map,dE]
theorem zA {r r':Nat} (h:r≠r') (row:Row):na r r' (au [(r,row)])=au [(r',row.tr (fR r r') (fQ r r'))]:=by
 funext q;unfold na;by_cases h1:q=r'
 .subst h1;simp[au,List.lookup]
 .rw[if_neg h1];by_cases h2:q=r
  .subst h2;simp[au,List.lookup,h1,beq_eq_false_iff_ne.2 h1]
  .simp[au,List.lookup,h2,beq_eq_false_iff_ne.2 h1,beq_eq_false_iff_ne.2 h2]
def qg:Option Ex->D
 | some x=>dE x
 | none=>.v .nilIface
theorem ac8:type_of% (Aq @qg.eq_1 (Aq @qg.eq_2 (Aq @acL (Aq @acM @acN)))):=(Aq @qg.eq_1 (Aq @qg.eq_2 (Aq @acL (Aq @acM @acN))))
theorem Vv (G:aF) (t:List UInt8) (ht:t.length < 2^60):aH prog G 64 [dS t] (.bI [qg (gB t).1,bC (gB t).2]):=by
 unfold gB;by_cases hl:2000 < t.length
 .have eX:(2000:Int) < (t.length:Int):=aa
  rw[if_pos hl];refine aH.aU (aw _) func64 rfl rfl (rs:=[.tmp 2,.tmp 3]) results64 (by simp[ntmps64]) fun X=>?_;simp only[ntmps64,List.map];have fw:=acR;refine af fw [0] [] ?_;refine ah fun K1 aI=>?_;have qf:=(Aq fw (Aq @bD (Aq @hl @eX)));refine aC [0,9] [] ?_;refine aD (af fw [2,3] [] ?_);exact bg (Aq fw ac8)
 have eX:¬ (2000:Int) < (t.length:Int):=aa
 rw[if_neg hl];have lN:=LP G t aa 20 (Vj G t aa 20 bh) 0 (acv _)
 cases hr:jt t (cf t 20) 0 with
 | err c p q=>
  rw[hr]at lN;refine aH.aU (aw _) func64 rfl rfl (rs:=[.tmp 2,.tmp 3]) results64 (by simp[ntmps64]) fun X=>?_;simp only[ntmps64,List.map];have fw:=acR;refine af fw [0] [] ?_;refine ah fun K1 aI=>?_;have qf:=(Aq fw (Aq @bD (Aq @hl @eX)));refine aC [0,9] [] ?_;refine aj (ax (aI _ ?_));refine af fw [0,4] [13] ?_;refine AW.imp (aY.dT (r:=13) (r':=500) trivial al) ?_;refine AW.st (by simp[fR,fQ,Go.Av.dT,zA];rfl) ?_;refine bA (Aq fw ac5) lN [0,4,5,6] [500] ?_;refine ah fun K2 ak=>af fw [0,4,5,6,20] [500] ?_;refine aD (af fw [2,3] [] ?_);exact bg (Aq fw ac8)
 | ok x k=>
  rw[hr]at lN;have hk:=(sd (kp t 20) 0 x k (acv _) hr).2;have eG:=An G t k aa hk;have fX:=iD hk;have eW:=xL G t (aQ t k) aa fX 3;rw[qM hk]at eW;obtain⟨tx,cx,hx⟩:=gk x;dsimp only;generalize aQ t k=j at eG fX eW ⊢;by_cases hj:j < t.length
  .have fH:(j:Int) < (t.length:Int):=aa
   rw[if_pos hj];refine aH.aU (aw _) func64 rfl rfl (rs:=[.tmp 2,.tmp 3]) results64 (by simp[ntmps64]) fun X=>?_;simp only[ntmps64,List.map];have fw:=acR;refine af fw [0] [] ?_;refine ah fun K1 aI=>?_;have qf:=(Aq fw (Aq @bD (Aq @hl @eX)));refine aC [0,9] [] ?_;refine aj (ax (aI _ ?_));refine af fw [0,4] [13] ?_;refine AW.imp (aY.dT (r:=13) (r':=500) trivial al) ?_;refine AW.st (by simp[fR,fQ,Go.Av.dT,zA];rfl) ?_;have qf:=(Aq fw (Aq @dK.eq_1 (Aq @dK.eq_2 (Aq @cL.eq_1 (Aq @cL.eq_2 @hx)))));refine iA lN [0,4,5,6] [500] ?_;refine ah fun K2 ak=>af fw [0,4,5,6,20] [500] ?_;refine aj (ax (ak _ ?_));refine ah fun K3 bF=>bA fw eG [0,4,5] [500] ?_;have qf:=(Aq fw (Aq @bD (Aq @hj @fH)));refine aC [4,5,30] [500] ?_;refine aD (bA (Aq fw ac9) eW [2,3] [] ?_);exact bg (Aq fw ac8)
  .have fH:¬ (j:Int) < (t.length:Int):=aa
   rw[if_neg hj];refine aH.aU (aw _) func64 rfl rfl (rs:=[.tmp 2,.tmp 3]) results64 (by simp[ntmps64]) fun X=>?_;simp only[ntmps64,List.map];have fw:=acR;refine af fw [0] [] ?_;refine ah fun K1 aI=>?_;have qf:=(Aq fw (Aq @bD (Aq @hl @eX)));refine aC [0,9] [] ?_;refine aj (ax (aI _ ?_));refine af fw [0,4] [13] ?_;refine AW.imp (aY.dT (r:=13) (r':=500) trivial al) ?_;refine AW.st (by simp[fR,fQ,Go.Av.dT,zA];rfl) ?_;have qf:=(Aq fw (Aq @dK.eq_1 (Aq @dK.eq_2 (Aq @cL.eq_1 (Aq @cL.eq_2 @hx)))));refine iA lN [0,4,5,6] [500] ?_;refine ah fun K2 ak=>af fw [0,4,5,6,20] [500] ?_;refine aj (ax (ak _ ?_));refine ah fun K3 bF=>bA fw eG [0,4,5] [500] ?_;have qf:=(Aq fw (Aq @bD (Aq @hj @fH)));refine aC [4,5,30] [500] ?_;refine aj (ax (bF _ ?_));refine af fw [2,3] [] ?_;exact bg (Aq fw (Aq @qg.eq_1 (Aq @qg.eq_2 (Aq @acL (Aq @acM (Aq @acN @hx))))))
theorem Dp {l:List Ex} {i:Nat} (hi:i < l.length):bx (l.take i)+bE l[i]<=bx l:=by
 have h1:=lz (l.take i) [l[i]];rw[<- aa7 hi]at h1;have h2:=lz (l.take (i+1)) (l.drop (i+1));rw[abm]at h2;simp only[bx]at h1;omega
theorem Tq:su prog 163 "Text" 366:=fun v w=>by   kernel_rfl
theorem acW:type_of% (Aq @acC @acB):=(Aq @acC @acB)
theorem UH (G:aF) (b:Bool) (hlen:(aB (.b5 b) 2).length<=2^30):aH prog G 366 [.v (.bool b)] (dS (aB (.b5 b) 0)):=by
 have hw:=vn G (.b5 b) hlen 0 aa;rw[dE]at hw;generalize aB (.b5 b) 0=r at hw ⊢;refine aH.aU (aw _) func366 rfl rfl (rs:=[.tmp 2]) results366 (by simp[ntmps366]) fun X=>?_;simp only[ntmps366,List.map];have fw:=acW;refine af fw [0] [] ?_;refine bB fw hw [2] [] ?_;exact bg fw
theorem Tp:su prog 149 "Text" 362:=fun v w=>by   kernel_rfl
theorem UG (G:aF) (s:List UInt8) (hlen:(aB (.bit s) 2).length<=2^30):aH prog G 362 [dS s] (dS (aB (.bit s) 0)):=by
 have hw:=vn G (.bit s) hlen 0 aa;rw[dE]at hw;generalize aB (.bit s) 0=r at hw ⊢;refine aH.aU (aw _) func362 rfl rfl (rs:=[.tmp 2]) results362 (by simp[ntmps362]) fun X=>?_;simp only[ntmps362,List.map];have fw:=acW;refine af fw [0] [] ?_;refine bB fw hw [2] [] ?_;exact bg fw
theorem Tu:su prog 160 "Text" 364:=fun v w=>by   kernel_rfl
theorem UL (G:aF) (s:List UInt8) (hlen:(aB (.ef s) 2).length<=2^30):aH prog G 364 [dS s] (dS (aB (.ef s) 0)):=by
 have hw:=vn G (.ef s) hlen 0 aa;rw[dE]at hw;generalize aB (.ef s) 0=r at hw ⊢;refine aH.aU (aw _) func364 rfl rfl (rs:=[.tmp 2]) results364 (by simp[ntmps364]) fun X=>?_;simp only[ntmps364,List.map];have fw:=acW;refine af fw [0] [] ?_;refine bB fw hw [2] [] ?_;exact bg fw
theorem Tr:su prog 162 "Text" 365:=fun v w=>by   kernel_rfl
theorem UI (G:aF) (s:List UInt8) (hlen:(aB (.eb s) 2).length<=2^30):aH prog G 365 [dS s] (dS (aB (.eb s) 0)):=by
 have hw:=vn G (.eb s) hlen 0 aa;rw[dE]at hw;generalize aB (.eb s) 0=r at hw ⊢;refine aH.aU (aw _) func365 rfl rfl (rs:=[.tmp 2]) results365 (by simp[ntmps365]) fun X=>?_;simp only[ntmps365,List.map];have fw:=acW;refine af fw [0] [] ?_;refine bB fw hw [2] [] ?_;exact bg fw
theorem Ts:su prog 130 "Text" 358:=fun v w=>by   kernel_rfl
theorem UJ (G:aF) (x:Ex) (hlen:(aB (.not x) 2).length<=2^30):aH prog G 358 [.agg [dE x]] (dS (aB (.not x) 0)):=by
 have hw:=vn G (.not x) hlen 0 aa;rw[dE]at hw;generalize aB (.not x) 0=r at hw ⊢;obtain⟨tx,cx,hx⟩:=gk x;rw[hx]at hw ⊢;refine aH.aU (aw _) func358 rfl rfl (rs:=[.tmp 2]) results358 (by simp[ntmps358]) fun X=>?_;simp only[ntmps358,List.map];have fw:=acW;refine af fw [1] [1] ?_;refine bB fw hw [2] [1] ?_;exact bg fw
theorem To:su prog 159 "Text" 363:=fun v w=>by   kernel_rfl
theorem UF (G:aF) (l:List Ex) (hlen:(aB (.and l) 2).length<=2^30):aH prog G 363 [.sl none (tX l)] (dS (aB (.and l) 0)):=by
 have hw:=vn G (.and l) hlen 0 aa;rw[dE]at hw;generalize aB (.and l) 0=r at hw ⊢;refine aH.aU (aw _) func363 rfl rfl (rs:=[.tmp 2]) results363 (by simp[ntmps363]) fun X=>?_;simp only[ntmps363,List.map];have fw:=acW;refine af fw [0] [] ?_;refine bB fw hw [2] [] ?_;exact bg fw
theorem Tt:su prog 132 "Text" 361:=fun v w=>by   kernel_rfl
theorem UK (G:aF) (l:List Ex) (hlen:(aB (.or l) 2).length<=2^30):aH prog G 361 [.sl none (tX l)] (dS (aB (.or l) 0)):=by
 have hw:=vn G (.or l) hlen 0 aa;rw[dE]at hw;generalize aB (.or l) 0=r at hw ⊢;refine aH.aU (aw _) func361 rfl rfl (rs:=[.tmp 2]) results361 (by simp[ntmps361]) fun X=>?_;simp only[ntmps361,List.map];have fw:=acW;refine af fw [0] [] ?_;refine bB fw hw [2] [] ?_;exact bg fw
theorem AJ (G:aF) (e:Ex) (hlen:(aB e 2).length<=2^30):aH prog G 25 [dE e] (dS (aB e 0)):=by
 cases e with
 | b5 b=>
  have hm:=UH G b hlen;rw[dE];generalize aB (.b5 b) 0=r at hm ⊢;refine aH.aU (aw _) func25 rfl rfl (rs:=[.tmp 2]) results25 (by simp[ntmps25]) fun X=>?_;simp only[ntmps25,List.map];have fw:=acW;refine af fw [0] [] ?_;refine ah fun K1 aI=>af fw [0,4] [] ?_;refine aj (ax (aI _ ?_));refine tO (aw _) [2] [] aT fun K' ai=>?_;(repeat refine jZ fun Kq ae=>?_;simp[ab,dS];(repeat refine⟨aa,?_⟩);refine ae _ ?_);refine jZ fun Kq ae=>?_;simp[ab,dS];refine⟨_,_,⟨rfl,rfl⟩,_,Tq,ch.data (hm) bq (by first | exact D.aV _ | simp[aL,IS,AT,D.le,D.le.go,D.le_refl,D.aV,ab,dS]) ?_⟩;refine ae _ ?_;simp only[aR,cw];(repeat refine jZ fun Kq ae=>?_;simp[ab,dS];(repeat refine⟨aa,?_⟩);refine ae _ ?_);refine vh (ai _ ?_);refine AW.st (by simp[ab,dS];rfl) ?_;exact bg fw
 | bit s=>
  have hm:=UG G s hlen;rw[dE];generalize aB (.bit s) 0=r at hm ⊢;refine aH.aU (aw _) func25 rfl rfl (rs:=[.tmp 2]) results25 (by simp[ntmps25]) fun X=>?_;simp only[ntmps25,List.map];have fw:=acW;refine af fw [0] [] ?_;refine ah fun K1 aI=>af fw [0,4] [] ?_;refine aj (ax (aI _ ?_));refine tO (aw _) [2] [] aT fun K' ai=>?_;(repeat refine jZ fun Kq ae=>?_;simp[ab,dS];(repeat refine⟨aa,?_⟩);refine ae _ ?_);refine jZ fun Kq ae=>?_;simp[ab,dS];refine⟨_,_,⟨rfl,rfl⟩,_,Tp,ch.data (hm) bq (by first | exact D.aV _ | simp[aL,IS,AT,D.le,D.le.go,D.le_refl,D.aV,ab,dS]) ?_⟩;refine ae _ ?_;simp only[aR,cw];(repeat refine jZ fun Kq ae=>?_;simp[ab,dS];(repeat refine⟨aa,?_⟩);refine ae _ ?_);refine vh (ai _ ?_);refine AW.st (by simp[ab,dS];rfl) ?_;exact bg fw
 | ef s=>
  have hm:=UL G s hlen;rw[dE];generalize aB (.ef s) 0=r at hm ⊢;refine aH.aU (aw _) func25 rfl rfl (rs:=[.tmp 2]) results25 (by simp[ntmps25]) fun X=>?_;simp only[ntmps25,List.map];have fw:=acW;refine af fw [0] [] ?_;refine ah fun K1 aI=>af fw [0,4] [] ?_;refine aj (ax (aI _ ?_));refine tO (aw _) [2] [] aT fun K' ai=>?_;(repeat refine jZ fun Kq ae=>?_;simp[ab,dS];(repeat refine⟨aa,?_⟩);refine ae _ ?_);refine jZ fun Kq ae=>?_;simp[ab,dS];refine⟨_,_,⟨rfl,rfl⟩,_,Tu,ch.data (hm) bq (by first | exact D.aV _ | simp[aL,IS,AT,D.le,D.le.go,D.le_refl,D.aV,ab,dS]) ?_⟩;refine ae _ ?_;simp only[aR,cw];(repeat refine jZ fun Kq ae=>?_;simp[ab,dS];(repeat refine⟨aa,?_⟩);refine ae _ ?_);refine vh (ai _ ?_);refine AW.st (by simp[ab,dS];rfl) ?_;exact bg fw
 | eb s=>
  have hm:=UI G s hlen;rw[dE];generalize aB (.eb s) 0=r at hm ⊢;refine aH.aU (aw _) func25 rfl rfl (rs:=[.tmp 2]) results25 (by simp[ntmps25]) fun X=>?_;simp only[ntmps25,List.map];have fw:=acW;refine af fw [0] [] ?_;refine ah fun K1 aI=>af fw [0,4] [] ?_;refine aj (ax (aI _ ?_));refine tO (aw _) [2] [] aT fun K' ai=>?_;(repeat refine jZ fun Kq ae=>?_;simp[ab,dS];(repeat refine⟨aa,?_⟩);refine ae _ ?_);refine jZ fun Kq ae=>?_;simp[ab,dS];refine⟨_,_,⟨rfl,rfl⟩,_,Tr,ch.data (hm) bq (by first | exact D.aV _ | simp[aL,IS,AT,D.le,D.le.go,D.le_refl,D.aV,ab,dS]) ?_⟩;refine ae _ ?_;simp only[aR,cw];(repeat refine jZ fun Kq ae=>?_;simp[ab,dS];(repeat refine⟨aa,?_⟩);refine ae _ ?_);refine vh (ai _ ?_);refine AW.st (by simp[ab,dS];rfl) ?_;exact bg fw
 | not x=>
  have hm:=UJ G x hlen;rw[dE];generalize aB (.not x) 0=r at hm ⊢;obtain⟨tx,cx,hx⟩:=gk x;rw[hx]at hm ⊢;refine aH.aU (aw _) func25 rfl rfl (rs:=[.tmp 2]) results25 (by simp[ntmps25]) fun X=>?_;simp only[ntmps25,List.map];have fw:=acW;refine af fw [0] [] ?_;refine ah fun K1 aI=>af fw [0,4] [] ?_;refine aj (ax (aI _ ?_));refine tO (aw _) [2] [] aT fun K' ai=>?_;(repeat refine jZ fun Kq ae=>?_;simp[ab,dS];(repeat refine⟨aa,?_⟩);refine ae _ ?_);refine jZ fun Kq ae=>?_;simp[ab,dS];refine⟨_,_,⟨rfl,rfl⟩,_,Ts,ch.data (hm) bq (by first | exact D.aV _ | simp[aL,IS,AT,D.le,D.le.go,D.le_refl,D.aV,ab,dS]) ?_⟩;refine ae _ ?_;simp only[aR,cw];(repeat refine jZ fun Kq ae=>?_;simp[ab,dS];(repeat refine⟨aa,?_⟩);refine ae _ ?_);refine vh (ai _ ?_);refine AW.st (by simp[ab,dS];rfl) ?_;exact bg fw
 | and l=>
  have hm:=UF G l hlen;rw[dE];generalize aB (.and l) 0=r at hm ⊢;refine aH.aU (aw _) func25 rfl rfl (rs:=[.tmp 2]) results25 (by simp[ntmps25]) fun X=>?_;simp only[ntmps25,List.map];have fw:=acW;refine af fw [0] [] ?_;refine ah fun K1 aI=>af fw [0,4] [] ?_;refine aj (ax (aI _ ?_));refine tO (aw _) [2] [] aT fun K' ai=>?_;(repeat refine jZ fun Kq ae=>?_;simp[ab,dS];(repeat refine⟨aa,?_⟩);refine ae _ ?_);refine jZ fun Kq ae=>?_;simp[ab,dS];refine⟨_,_,⟨rfl,rfl⟩,_,To,ch.data (hm) bq (by first | exact D.aV _ | simp[aL,IS,AT,D.le,D.le.go,D.le_refl,D.aV,ab,dS]) ?_⟩;refine ae _ ?_;simp only[aR,cw];(repeat refine jZ fun Kq ae=>?_;simp[ab,dS];(repeat refine⟨aa,?_⟩);refine ae _ ?_);refine vh (ai _ ?_);refine AW.st (by simp[ab,dS];rfl) ?_;exact bg fw
 | or l=>
  have hm:=UK G l hlen;rw[dE];generalize aB (.or l) 0=r at hm ⊢;refine aH.aU (aw _) func25 rfl rfl (rs:=[.tmp 2]) results25 (by simp[ntmps25]) fun X=>?_;simp only[ntmps25,List.map];have fw:=acW;refine af fw [0] [] ?_;refine ah fun K1 aI=>af fw [0,4] [] ?_;refine aj (ax (aI _ ?_));refine tO (aw _) [2] [] aT fun K' ai=>?_;(repeat refine jZ fun Kq ae=>?_;simp[ab,dS];(repeat refine⟨aa,?_⟩);refine ae _ ?_);refine jZ fun Kq ae=>?_;simp[ab,dS];refine⟨_,_,⟨rfl,rfl⟩,_,Tt,ch.data (hm) bq (by first | exact D.aV _ | simp[aL,IS,AT,D.le,D.le.go,D.le_refl,D.aV,ab,dS]) ?_⟩;refine ae _ ?_;simp only[aR,cw];(repeat refine jZ fun Kq ae=>?_;simp[ab,dS];(repeat refine⟨aa,?_⟩);refine ae _ ?_);refine vh (ai _ ?_);refine AW.st (by simp[ab,dS];rfl) ?_;exact bg fw
def aX (out:List Ex):List (Nat×Row):=[(501,.box 58 [.own 503 0 out.length]),(502,.box 131 [.own 504 0 out.length]),(503,.sl 9 1 (out.map fun z=>[dS (fZ z)])),(504,.sl 34 1 (out.map fun z=>[dE z]))]
theorem Q1 (out:List Ex) (x:Ex):((out.map fZ).any fun y=>fZ x == y)=fV out x:=by
 unfold fV;rw[List.any_map];congr 1;funext z;simp only[Function.comp];rw[Bool.eq_iff_iff];simp only[beq_iff_eq];exact eq_comm
theorem PB (y:Ex) (h1:jq y=false) (h2:∀ l,y≠.and l) (h3:∀ l,y≠.or l):∃ t c,dE y = .b6 t c/\¬ t=163/\¬ t=159/\¬ t=132:=by
 cases y with
 | b5 b=>cases h1
 | and l=>exact absurd rfl (h2 l)
 | or l=>exact absurd rfl (h3 l)
 | bit s=>exact⟨_,_,by rw[dE],bh,bh,bh⟩
 | ef s=>exact⟨_,_,by rw[dE],bh,bh,bh⟩
 | eb s=>exact⟨_,_,by rw[dE],bh,bh,bh⟩
 | not s=>exact⟨_,_,by rw[dE],bh,bh,bh⟩
theorem PA (y:Ex) (h1:wL y=false):∃ t c,dE y = .b6 t c/\¬ t=130:=by
 cases y with
 | b5 b=>exact⟨_,_,by rw[dE],bh⟩
 | and l=>exact⟨_,_,by rw[dE],bh⟩
 | or l=>exact⟨_,_,by rw[dE],bh⟩
 | bit s=>exact⟨_,_,by rw[dE],bh⟩
 | ef s=>exact⟨_,_,by rw[dE],bh⟩
 | eb s=>exact⟨_,_,by rw[dE],bh⟩
 | not s=>cases h1
theorem LS {x:Ex} (h:wL x=false):eA x = .not x:=by
 cases x<;>first | rfl | cases h
theorem Oh (G:aF) (out:List Ex) (x:Ex) (hb:bx out+bE x<=2^28):MC prog G [501,502] 247 [.d (dE x),.ref 501 0 0,.ref 502 0 0] (au (aX out)) (.d (.v (.bool (jz out x).2))) (au (aX (jz out x).1)):=by
 have yC:=pj x;have lM:=lA out;have uD:=pj (.not x);simp only[bE]at uD;have dB:=AJ G x aa;have sX:=AJ G (.not x) aa;have c8:=DA G none (out.map fZ) (fZ x) (by simp;omega);have eh:=DA G none (out.map fZ) (fZ (eA x)) (by simp;omega);rw[Q1]at c8 eh;rw[show ((out.map fZ).map fun x=>[dS x])=out.map fun z=>[dS (fZ z)] by rw[IS];rfl]at c8 eh;have nH:aB x 0=fZ x:=rfl;have hU:aB (.not x) 0=fZ (.not x):=rfl;rw[nH]at dB;rw[hU,dE]at sX;unfold jz;by_cases h1:fV out x=true
 .rw[if_pos h1];rw[h1]at c8;obtain⟨tx,cx,hx⟩:=gk x;rw[hx]at dB ⊢;refine MC.aU (aw _) func247 rfl rfl (rs:=[.tmp 4]) results247 (by simp[ntmps247]) rfl fun X=>?_;simp only[ntmps247];refine rg [0,1,2] [501,502,503,504] (cy rfl) fun K' ai=>?_;(repeat refine aq fun Kq ae=>?_;simp[ab,dS,aX,aG,aM,sh];(repeat refine⟨aa,?_⟩);refine ae _ ?_);refine aZ (ai _ (AW.st (by simp[ab,dS,aX,aG,aM,sh];rfl) ?_));refine rg [0,1,2,5] [501,502,503,504] (cy rfl) fun K' ai=>?_;(repeat refine aq fun Kq ae=>?_;simp[ab,dS,aX,aG,aM,sh];(repeat refine⟨aa,?_⟩);refine ae _ ?_);refine aq fun Kq ae=>?_;simp[ab,dS,aX,aG,aM,sh];refine ch.data (dB) bq (by first | exact D.aV _ | simp[aL,IS,AT,D.le,D.le.go,D.le_refl,D.aV,ab,dS,aX,aG,aM,sh]) ?_;refine ae _ ?_;simp only[aR,cw];(repeat refine aq fun Kq ae=>?_;simp[ab,dS,aX,aG,aM,sh];(repeat refine⟨aa,?_⟩);refine ae _ ?_);refine aZ (ai _ (AW.st (by simp[ab,dS,aX,aG,aM,sh];rfl) ?_));refine ah fun K1 aI=>rg [0,1,2,5,13] [501,502,503,504] (cy rfl) fun K' ai=>?_;(repeat refine aq fun Kq ae=>?_;simp[ab,dS,aX,aG,aM,sh];(repeat refine⟨aa,?_⟩);refine ae _ ?_);refine aq fun Kq ae=>?_;simp[ab,dS,aX,aG,aM,sh];refine ch.kU (c8) bq (by first | exact D.aV _ | simp[aL,IS,AT,D.le,D.le.go,D.le_refl,D.aV,ab,dS,aX,aG,aM,sh]) (by simp[D.scalar]) ?_;refine ae _ ?_;simp only[aR,cw];(repeat refine aq fun Kq ae=>?_;simp[ab,dS,aX,aG,aM,sh];(repeat refine⟨aa,?_⟩);refine ae _ ?_);refine aZ (ai _ (AW.st (by simp[ab,dS,aX,aG,aM,sh];rfl) ?_));refine aD (rg [4] [501,502,503,504] (cy rfl) fun K' ai=>?_);(repeat refine aq fun Kq ae=>?_;simp[ab,dS,aX,aG,aM,sh];(repeat refine⟨aa,?_⟩);refine ae _ ?_);refine aZ (ai _ (AW.st (by simp[ab,dS,aX,aG,aM,sh];rfl) ?_));refine bt ?_;simp[D.le,D.le.go,aL,ab,dS,aX,aG,aM,sh,aX,dS,D.le_refl]
 rw[if_neg h1]
 have QC:fV out x=false:=by simpa using h1
 rw[QC]at c8
 cases hN:wL x with
 | false=>
  obtain⟨tx,cx,hx,A7⟩:=PA x hN;rw[LS hN]at eh ⊢;rw[hx]at dB sX ⊢;by_cases h2:fV out (.not x)=true
  .rw[if_pos h2];rw[h2]at eh;refine MC.aU (aw _) func247 rfl rfl (rs:=[.tmp 4]) results247 (by simp[ntmps247]) rfl fun X=>?_;simp only[ntmps247];refine rg [0,1,2] [501,502,503,504] (cy rfl) fun K' ai=>?_;(repeat refine aq fun Kq ae=>?_;simp[ab,dS,aX,aG,aM,sh];(repeat refine⟨aa,?_⟩);refine ae _ ?_);refine aZ (ai _ (AW.st (by simp[ab,dS,aX,aG,aM,sh];rfl) ?_));refine rg [0,1,2,5] [501,502,503,504] (cy rfl) fun K' ai=>?_;(repeat refine aq fun Kq ae=>?_;simp[ab,dS,aX,aG,aM,sh];(repeat refine⟨aa,?_⟩);refine ae _ ?_);refine aq fun Kq ae=>?_;simp[ab,dS,aX,aG,aM,sh];refine ch.data (dB) bq (by first | exact D.aV _ | simp[aL,IS,AT,D.le,D.le.go,D.le_refl,D.aV,ab,dS,aX,aG,aM,sh]) ?_;refine ae _ ?_;simp only[aR,cw];(repeat refine aq fun Kq ae=>?_;simp[ab,dS,aX,aG,aM,sh];(repeat refine⟨aa,?_⟩);refine ae _ ?_);refine aZ (ai _ (AW.st (by simp[ab,dS,aX,aG,aM,sh];rfl) ?_));refine ah fun K1 aI=>rg [0,1,2,5,13] [501,502,503,504] (cy rfl) fun K' ai=>?_;(repeat refine aq fun Kq ae=>?_;simp[ab,dS,aX,aG,aM,sh];(repeat refine⟨aa,?_⟩);refine ae _ ?_);refine aq fun Kq ae=>?_;simp[ab,dS,aX,aG,aM,sh];refine ch.kU (c8) bq (by first | exact D.aV _ | simp[aL,IS,AT,D.le,D.le.go,D.le_refl,D.aV,ab,dS,aX,aG,aM,sh]) (by simp[D.scalar]) ?_;refine ae _ ?_;simp only[aR,cw];(repeat refine aq fun Kq ae=>?_;simp[ab,dS,aX,aG,aM,sh];(repeat refine⟨aa,?_⟩);refine ae _ ?_);refine aZ (ai _ (AW.st (by simp[ab,dS,aX,aG,aM,sh];rfl) ?_));refine aj (ax (aI _ ?_));refine rg [0,1,2,5,6] [501,502,503,504] (cy rfl) fun K' ai=>?_;(repeat refine aq fun Kq ae=>?_;simp[ab,dS,aX,aG,aM,sh];(repeat refine⟨aa,?_⟩);refine ae _ ?_);refine aq fun K2 ak=>?_;simp[ab,dS,aX,aG,aM,sh];refine ch.data (sX) bq (by first | exact D.aV _ | simp[aL,IS,AT,D.le,D.le.go,D.le_refl,D.aV,ab,dS,aX,aG,aM,sh]) ?_
   refine ak _ ?_;clear ak K2;simp only[aR,cw];(repeat refine aq fun Kq ae=>?_;simp[ab,dS,aX,aG,aM,sh];(repeat refine⟨aa,?_⟩);refine ae _ ?_);refine aZ (ai _ (AW.st (by simp[ab,dS,aX,aG,aM,sh];rfl) ?_));refine ah fun K2 ak=>rg [0,1,2,5,6,7,8] [501,502,503,504,7] (cy rfl) fun K' ai=>?_;(repeat refine aq fun Kq ae=>?_;simp[ab,dS,aX,aG,aM,sh,A7];(repeat refine⟨aa,?_⟩);refine ae _ ?_);refine aZ (ai _ (AW.st (by simp[ab,dS,aX,aG,aM,sh,A7];rfl) ?_));refine rg [0,1,2,5,6,7,23] [501,502,503,504,7] (cy rfl) fun K' ai=>?_;(repeat refine aq fun Kq ae=>?_;simp[ab,dS,aX,aG,aM,sh];(repeat refine⟨aa,?_⟩);refine ae _ ?_);refine aZ (ai _ (AW.st (by simp[ab,dS,aX,aG,aM,sh];rfl) ?_));refine aj (ax (ak _ ?_));refine ah fun K3 bF=>rg [0,1,2,5,29] [501,502,503,504,7] (cy rfl) fun K' ai=>?_;(repeat refine aq fun Kq ae=>?_;simp[ab,dS,aX,aG,aM,sh];(repeat refine⟨aa,?_⟩);refine ae _ ?_);refine aq fun Kq ae=>?_;simp[ab,dS,aX,aG,aM,sh];refine ch.kU (eh) bq (by first | exact D.aV _ | simp[aL,IS,AT,D.le,D.le.go,D.le_refl,D.aV,ab,dS,aX,aG,aM,sh]) (by simp[D.scalar]) ?_;refine ae _ ?_;simp only[aR,cw];(repeat refine aq fun Kq ae=>?_;simp[ab,dS,aX,aG,aM,sh];(repeat refine⟨aa,?_⟩);refine ae _ ?_);refine aZ (ai _ (AW.st (by simp[ab,dS,aX,aG,aM,sh];rfl) ?_));refine aD (rg [4] [501,502,503,504] (cy rfl) fun K' ai=>?_);(repeat refine aq fun Kq ae=>?_;simp[ab,dS,aX,aG,aM,sh];(repeat refine⟨aa,?_⟩);refine ae _ ?_);refine aZ (ai _ (AW.st (by simp[ab,dS,aX,aG,aM,sh];rfl) ?_));refine bt ?_;simp[D.le,D.le.go,aL,ab,dS,aX,aG,aM,sh,aX,dS,D.le_refl]
  .rw[if_neg h2]
   have D2:fV out (.not x)=false:=by simpa using h2
   rw[D2]at eh;refine MC.aU (aw _) func247 rfl rfl (rs:=[.tmp 4]) results247 (by simp[ntmps247]) rfl fun X=>?_;simp only[ntmps247];refine rg [0,1,2] [501,502,503,504] (cy rfl) fun K' ai=>?_;(repeat refine aq fun Kq ae=>?_;simp[ab,dS,aX,aG,aM,sh];(repeat refine⟨aa,?_⟩);refine ae _ ?_);refine aZ (ai _ (AW.st (by simp[ab,dS,aX,aG,aM,sh];rfl) ?_));refine rg [0,1,2,5] [501,502,503,504] (cy rfl) fun K' ai=>?_;(repeat refine aq fun Kq ae=>?_;simp[ab,dS,aX,aG,aM,sh];(repeat refine⟨aa,?_⟩);refine ae _ ?_);refine aq fun Kq ae=>?_;simp[ab,dS,aX,aG,aM,sh];refine ch.data (dB) bq (by first | exact D.aV _ | simp[aL,IS,AT,D.le,D.le.go,D.le_refl,D.aV,ab,dS,aX,aG,aM,sh]) ?_;refine ae _ ?_;simp only[aR,cw];(repeat refine aq fun Kq ae=>?_;simp[ab,dS,aX,aG,aM,sh];(repeat refine⟨aa,?_⟩);refine ae _ ?_);refine aZ (ai _ (AW.st (by simp[ab,dS,aX,aG,aM,sh];rfl) ?_));refine ah fun K1 aI=>rg [0,1,2,5,13] [501,502,503,504] (cy rfl) fun K' ai=>?_;(repeat refine aq fun Kq ae=>?_;simp[ab,dS,aX,aG,aM,sh];(repeat refine⟨aa,?_⟩);refine ae _ ?_);refine aq fun Kq ae=>?_;simp[ab,dS,aX,aG,aM,sh];refine ch.kU (c8) bq (by first | exact D.aV _ | simp[aL,IS,AT,D.le,D.le.go,D.le_refl,D.aV,ab,dS,aX,aG,aM,sh]) (by simp[D.scalar]) ?_;refine ae _ ?_;simp only[aR,cw];(repeat refine aq fun Kq ae=>?_;simp[ab,dS,aX,aG,aM,sh];(repeat refine⟨aa,?_⟩);refine ae _ ?_);refine aZ (ai _ (AW.st (by simp[ab,dS,aX,aG,aM,sh];rfl) ?_));refine aj (ax (aI _ ?_));refine rg [0,1,2,5,6] [501,502,503,504] (cy rfl) fun K' ai=>?_;(repeat refine aq fun Kq ae=>?_;simp[ab,dS,aX,aG,aM,sh];(repeat refine⟨aa,?_⟩);refine ae _ ?_);refine aq fun K2 ak=>?_;simp[ab,dS,aX,aG,aM,sh];refine ch.data (sX) bq (by first | exact D.aV _ | simp[aL,IS,AT,D.le,D.le.go,D.le_refl,D.aV,ab,dS,aX,aG,aM,sh]) ?_
   refine ak _ ?_;clear ak K2;simp only[aR,cw];(repeat refine aq fun Kq ae=>?_;simp[ab,dS,aX,aG,aM,sh];(repeat refine⟨aa,?_⟩);refine ae _ ?_);refine aZ (ai _ (AW.st (by simp[ab,dS,aX,aG,aM,sh];rfl) ?_));refine ah fun K2 ak=>rg [0,1,2,5,6,7,8] [501,502,503,504,7] (cy rfl) fun K' ai=>?_;(repeat refine aq fun Kq ae=>?_;simp[ab,dS,aX,aG,aM,sh,A7];(repeat refine⟨aa,?_⟩);refine ae _ ?_);refine aZ (ai _ (AW.st (by simp[ab,dS,aX,aG,aM,sh,A7];rfl) ?_));refine rg [0,1,2,5,6,7,23] [501,502,503,504,7] (cy rfl) fun K' ai=>?_;(repeat refine aq fun Kq ae=>?_;simp[ab,dS,aX,aG,aM,sh];(repeat refine⟨aa,?_⟩);refine ae _ ?_);refine aZ (ai _ (AW.st (by simp[ab,dS,aX,aG,aM,sh];rfl) ?_));refine aj (ax (ak _ ?_));refine ah fun K3 bF=>rg [0,1,2,5,29] [501,502,503,504,7] (cy rfl) fun K' ai=>?_;(repeat refine aq fun Kq ae=>?_;simp[ab,dS,aX,aG,aM,sh];(repeat refine⟨aa,?_⟩);refine ae _ ?_);refine aq fun Kq ae=>?_;simp[ab,dS,aX,aG,aM,sh];refine ch.kU (eh) bq (by first | exact D.aV _ | simp[aL,IS,AT,D.le,D.le.go,D.le_refl,D.aV,ab,dS,aX,aG,aM,sh]) (by simp[D.scalar]) ?_;refine ae _ ?_;simp only[aR,cw];(repeat refine aq fun Kq ae=>?_;simp[ab,dS,aX,aG,aM,sh];(repeat refine⟨aa,?_⟩);refine ae _ ?_);refine aZ (ai _ (AW.st (by simp[ab,dS,aX,aG,aM,sh];rfl) ?_));refine aj (ax (bF _ ?_));refine HJ (aw _) ag ([(3,(504,32)),(7,(503,36))]) ([(0,[503]),(1,[503]),(2,[503]),(4,[504]),(5,[504]),(6,[504]),(8,[503])]) ([0,1,4,5,2,6,3,7,8,9]) [] [501,502,503,504] (cy rfl) ag fun K' ai=>?_;(repeat refine zK rfl fun K2 ak=>?_;simp[ab,dS,aX,aG,aM,sh];(repeat refine⟨aa,?_⟩);refine ak _ ?_;clear ak K2);refine zL (ai _ ?_);refine AW.st (by simp[ab,dS,aX,aG,aM,sh];rfl) ?_;refine rg [4] [501,502,503,504] (cy rfl) fun K' ai=>?_;repeat (refine aq fun Kq ae=>?_;simp[ab,dS,aX,aG,aM,sh];(repeat refine⟨aa,?_⟩);refine ae _ ?_)
   refine aZ (ai _ (AW.st (by simp[ab,dS,aX,aG,aM,sh];rfl) ?_));refine bt ?_;simp[D.le,D.le.go,aL,ab,dS,aX,aG,aM,sh,aX,dS,hx,D.le_refl]
 | true=>
  obtain⟨y,rfl⟩:∃ y,x = .not y:=by
   cases x with
   | not y=>exact⟨y,rfl⟩
   | _=>cases hN
  have SC:eA (.not y)=y:=rfl;rw[SC]at eh ⊢;have sY:=AJ G y (by have:=pj y;simp only[bE]at hb;omega);have pU:aB y 0=fZ y:=rfl;rw[pU]at sY;obtain⟨tx,cx,hx⟩:=gk y;rw[dE]at dB sX ⊢;rw[hx]at dB sX sY ⊢;by_cases h2:fV out y=true
  .rw[if_pos h2];rw[h2]at eh;refine MC.aU (aw _) func247 rfl rfl (rs:=[.tmp 4]) results247 (by simp[ntmps247]) rfl fun X=>?_;simp only[ntmps247];refine rg [0,1,2] [501,502,503,504] (cy rfl) fun K' ai=>?_;(repeat refine aq fun Kq ae=>?_;simp[ab,dS,aX,aG,aM,sh];(repeat refine⟨aa,?_⟩);refine ae _ ?_);refine aZ (ai _ (AW.st (by simp[ab,dS,aX,aG,aM,sh];rfl) ?_));refine rg [0,1,2,5] [501,502,503,504] (cy rfl) fun K' ai=>?_;(repeat refine aq fun Kq ae=>?_;simp[ab,dS,aX,aG,aM,sh];(repeat refine⟨aa,?_⟩);refine ae _ ?_);refine aq fun Kq ae=>?_;simp[ab,dS,aX,aG,aM,sh];refine ch.data (dB) bq (by first | exact D.aV _ | simp[aL,IS,AT,D.le,D.le.go,D.le_refl,D.aV,ab,dS,aX,aG,aM,sh]) ?_;refine ae _ ?_;simp only[aR,cw];(repeat refine aq fun Kq ae=>?_;simp[ab,dS,aX,aG,aM,sh];(repeat refine⟨aa,?_⟩);refine ae _ ?_);refine aZ (ai _ (AW.st (by simp[ab,dS,aX,aG,aM,sh];rfl) ?_));refine ah fun K1 aI=>rg [0,1,2,5,13] [501,502,503,504] (cy rfl) fun K' ai=>?_;(repeat refine aq fun Kq ae=>?_;simp[ab,dS,aX,aG,aM,sh];(repeat refine⟨aa,?_⟩);refine ae _ ?_);refine aq fun Kq ae=>?_;simp[ab,dS,aX,aG,aM,sh];refine ch.kU (c8) bq (by first | exact D.aV _ | simp[aL,IS,AT,D.le,D.le.go,D.le_refl,D.aV,ab,dS,aX,aG,aM,sh]) (by simp[D.scalar]) ?_;refine ae _ ?_;simp only[aR,cw];(repeat refine aq fun Kq ae=>?_;simp[ab,dS,aX,aG,aM,sh];(repeat refine⟨aa,?_⟩);refine ae _ ?_);refine aZ (ai _ (AW.st (by simp[ab,dS,aX,aG,aM,sh];rfl) ?_));refine aj (ax (aI _ ?_));refine rg [0,1,2,5,6] [501,502,503,504] (cy rfl) fun K' ai=>?_;(repeat refine aq fun Kq ae=>?_;simp[ab,dS,aX,aG,aM,sh];(repeat refine⟨aa,?_⟩);refine ae _ ?_);refine aq fun K2 ak=>?_;simp[ab,dS,aX,aG,aM,sh];refine ch.data (sX) bq (by first | exact D.aV _ | simp[aL,IS,AT,D.le,D.le.go,D.le_refl,D.aV,ab,dS,aX,aG,aM,sh]) ?_
   refine ak _ ?_;clear ak K2;simp only[aR,cw];(repeat refine aq fun Kq ae=>?_;simp[ab,dS,aX,aG,aM,sh];(repeat refine⟨aa,?_⟩);refine ae _ ?_);refine aZ (ai _ (AW.st (by simp[ab,dS,aX,aG,aM,sh];rfl) ?_));refine ah fun K2 ak=>rg [0,1,2,5,6,7,8] [501,502,503,504,7] (cy rfl) fun K' ai=>?_;(repeat refine aq fun Kq ae=>?_;simp[ab,dS,aX,aG,aM,sh];(repeat refine⟨aa,?_⟩);refine ae _ ?_);refine aZ (ai _ (AW.st (by simp[ab,dS,aX,aG,aM,sh];rfl) ?_));refine rg [0,1,2,5,6,7,23] [501,502,503,504,7] (cy rfl) fun K' ai=>?_;(repeat refine aq fun Kq ae=>?_;simp[ab,dS,aX,aG,aM,sh];(repeat refine⟨aa,?_⟩);refine ae _ ?_);refine aZ (ai _ (AW.st (by simp[ab,dS,aX,aG,aM,sh];rfl) ?_));refine aD (ea (aw _) fun K' ai=>?_);(repeat refine aq fun Kq ae=>?_;simp[ab,dS,aX,aG,aM,sh];(repeat refine⟨aa,?_⟩);refine ae _ ?_);refine aq fun Kq ae=>?_;simp[ab,dS,aX,aG,aM,sh];refine ch.data (sY) bq (by first | exact D.aV _ | simp[aL,IS,AT,D.le,D.le.go,D.le_refl,D.aV,ab,dS,aX,aG,aM,sh]) ?_;refine ae _ ?_;simp only[aR,cw];(repeat refine aq fun Kq ae=>?_;simp[ab,dS,aX,aG,aM,sh];(repeat refine⟨aa,?_⟩);refine ae _ ?_);refine aZ (ai _ ?_);refine ak _ (AW.norm [0,1,2,5,6] [501,502,503,504,7] (cy rfl) (AW.st (by simp[ab,dS,aX,aG,aM,sh];rfl) ?_));refine ah fun K3 bF=>rg [0,1,2,5,29] [501,502,503,504,7] (cy rfl) fun K' ai=>?_;(repeat refine aq fun Kq ae=>?_;simp[ab,dS,aX,aG,aM,sh];(repeat refine⟨aa,?_⟩);refine ae _ ?_);refine aq fun Kq ae=>?_;simp[ab,dS,aX,aG,aM,sh];refine ch.kU (eh) bq (by first | exact D.aV _ | simp[aL,IS,AT,D.le,D.le.go,D.le_refl,D.aV,ab,dS,aX,aG,aM,sh]) (by simp[D.scalar]) ?_;refine ae _ ?_;simp only[aR,cw];(repeat refine aq fun Kq ae=>?_;simp[ab,dS,aX,aG,aM,sh];(repeat refine⟨aa,?_⟩);refine ae _ ?_);refine aZ (ai _ (AW.st (by simp[ab,dS,aX,aG,aM,sh];rfl) ?_))
   refine aD (rg [4] [501,502,503,504] (cy rfl) fun K' ai=>?_);(repeat refine aq fun Kq ae=>?_;simp[ab,dS,aX,aG,aM,sh];(repeat refine⟨aa,?_⟩);refine ae _ ?_);refine aZ (ai _ (AW.st (by simp[ab,dS,aX,aG,aM,sh];rfl) ?_));refine bt ?_;simp[D.le,D.le.go,aL,ab,dS,aX,aG,aM,sh,aX,dS,D.le_refl]
  .rw[if_neg h2]
   have D2:fV out y=false:=by simpa using h2
   rw[D2]at eh;refine MC.aU (aw _) func247 rfl rfl (rs:=[.tmp 4]) results247 (by simp[ntmps247]) rfl fun X=>?_;simp only[ntmps247];refine rg [0,1,2] [501,502,503,504] (cy rfl) fun K' ai=>?_;(repeat refine aq fun Kq ae=>?_;simp[ab,dS,aX,aG,aM,sh];(repeat refine⟨aa,?_⟩);refine ae _ ?_);refine aZ (ai _ (AW.st (by simp[ab,dS,aX,aG,aM,sh];rfl) ?_));refine rg [0,1,2,5] [501,502,503,504] (cy rfl) fun K' ai=>?_;(repeat refine aq fun Kq ae=>?_;simp[ab,dS,aX,aG,aM,sh];(repeat refine⟨aa,?_⟩);refine ae _ ?_);refine aq fun Kq ae=>?_;simp[ab,dS,aX,aG,aM,sh];refine ch.data (dB) bq (by first | exact D.aV _ | simp[aL,IS,AT,D.le,D.le.go,D.le_refl,D.aV,ab,dS,aX,aG,aM,sh]) ?_;refine ae _ ?_;simp only[aR,cw];(repeat refine aq fun Kq ae=>?_;simp[ab,dS,aX,aG,aM,sh];(repeat refine⟨aa,?_⟩);refine ae _ ?_);refine aZ (ai _ (AW.st (by simp[ab,dS,aX,aG,aM,sh];rfl) ?_));refine ah fun K1 aI=>rg [0,1,2,5,13] [501,502,503,504] (cy rfl) fun K' ai=>?_;(repeat refine aq fun Kq ae=>?_;simp[ab,dS,aX,aG,aM,sh];(repeat refine⟨aa,?_⟩);refine ae _ ?_);refine aq fun Kq ae=>?_;simp[ab,dS,aX,aG,aM,sh];refine ch.kU (c8) bq (by first | exact D.aV _ | simp[aL,IS,AT,D.le,D.le.go,D.le_refl,D.aV,ab,dS,aX,aG,aM,sh]) (by simp[D.scalar]) ?_;refine ae _ ?_;simp only[aR,cw];(repeat refine aq fun Kq ae=>?_;simp[ab,dS,aX,aG,aM,sh];(repeat refine⟨aa,?_⟩);refine ae _ ?_);refine aZ (ai _ (AW.st (by simp[ab,dS,aX,aG,aM,sh];rfl) ?_));refine aj (ax (aI _ ?_));refine rg [0,1,2,5,6] [501,502,503,504] (cy rfl) fun K' ai=>?_;(repeat refine aq fun Kq ae=>?_;simp[ab,dS,aX,aG,aM,sh];(repeat refine⟨aa,?_⟩);refine ae _ ?_);refine aq fun K2 ak=>?_;simp[ab,dS,aX,aG,aM,sh];refine ch.data (sX) bq (by first | exact D.aV _ | simp[aL,IS,AT,D.le,D.le.go,D.le_refl,D.aV,ab,dS,aX,aG,aM,sh]) ?_
   refine ak _ ?_;clear ak K2;simp only[aR,cw];(repeat refine aq fun Kq ae=>?_;simp[ab,dS,aX,aG,aM,sh];(repeat refine⟨aa,?_⟩);refine ae _ ?_);refine aZ (ai _ (AW.st (by simp[ab,dS,aX,aG,aM,sh];rfl) ?_));refine ah fun K2 ak=>rg [0,1,2,5,6,7,8] [501,502,503,504,7] (cy rfl) fun K' ai=>?_;(repeat refine aq fun Kq ae=>?_;simp[ab,dS,aX,aG,aM,sh];(repeat refine⟨aa,?_⟩);refine ae _ ?_);refine aZ (ai _ (AW.st (by simp[ab,dS,aX,aG,aM,sh];rfl) ?_));refine rg [0,1,2,5,6,7,23] [501,502,503,504,7] (cy rfl) fun K' ai=>?_;(repeat refine aq fun Kq ae=>?_;simp[ab,dS,aX,aG,aM,sh];(repeat refine⟨aa,?_⟩);refine ae _ ?_);refine aZ (ai _ (AW.st (by simp[ab,dS,aX,aG,aM,sh];rfl) ?_));refine aD (ea (aw _) fun K' ai=>?_);(repeat refine aq fun Kq ae=>?_;simp[ab,dS,aX,aG,aM,sh];(repeat refine⟨aa,?_⟩);refine ae _ ?_);refine aq fun Kq ae=>?_;simp[ab,dS,aX,aG,aM,sh];refine ch.data (sY) bq (by first | exact D.aV _ | simp[aL,IS,AT,D.le,D.le.go,D.le_refl,D.aV,ab,dS,aX,aG,aM,sh]) ?_;refine ae _ ?_;simp only[aR,cw];(repeat refine aq fun Kq ae=>?_;simp[ab,dS,aX,aG,aM,sh];(repeat refine⟨aa,?_⟩);refine ae _ ?_);refine aZ (ai _ ?_);refine ak _ (AW.norm [0,1,2,5,6] [501,502,503,504,7] (cy rfl) (AW.st (by simp[ab,dS,aX,aG,aM,sh];rfl) ?_));refine ah fun K3 bF=>rg [0,1,2,5,29] [501,502,503,504,7] (cy rfl) fun K' ai=>?_;(repeat refine aq fun Kq ae=>?_;simp[ab,dS,aX,aG,aM,sh];(repeat refine⟨aa,?_⟩);refine ae _ ?_);refine aq fun Kq ae=>?_;simp[ab,dS,aX,aG,aM,sh];refine ch.kU (eh) bq (by first | exact D.aV _ | simp[aL,IS,AT,D.le,D.le.go,D.le_refl,D.aV,ab,dS,aX,aG,aM,sh]) (by simp[D.scalar]) ?_;refine ae _ ?_;simp only[aR,cw];(repeat refine aq fun Kq ae=>?_;simp[ab,dS,aX,aG,aM,sh];(repeat refine⟨aa,?_⟩);refine ae _ ?_);refine aZ (ai _ (AW.st (by simp[ab,dS,aX,aG,aM,sh];rfl) ?_))
   refine aj (ax (bF _ ?_));refine HJ (aw _) ag ([(3,(504,32)),(7,(503,36))]) ([(0,[503]),(1,[503]),(2,[503]),(4,[504]),(5,[504]),(6,[504]),(8,[503])]) ([0,1,4,5,2,6,3,7,8,9]) [] [501,502,503,504] (cy rfl) ag fun K' ai=>?_;(repeat refine zK rfl fun K2 ak=>?_;simp[ab,dS,aX,aG,aM,sh];(repeat refine⟨aa,?_⟩);refine ak _ ?_;clear ak K2);refine zL (ai _ ?_);refine AW.st (by simp[ab,dS,aX,aG,aM,sh];rfl) ?_;refine rg [4] [501,502,503,504] (cy rfl) fun K' ai=>?_;(repeat refine aq fun Kq ae=>?_;simp[ab,dS,aX,aG,aM,sh];(repeat refine⟨aa,?_⟩);refine ae _ ?_);refine aZ (ai _ (AW.st (by simp[ab,dS,aX,aG,aM,sh];rfl) ?_));refine bt ?_;simp[D.le,D.le.go,aL,ab,dS,aX,aG,aM,sh,aX,dS,dE,hx,D.le_refl]
def zv:List Ex->List Ex->Nat
 | _,[]=>0
 | out,x :: l=>if (jz out x).2 then 0 else zv (jz out x).1 l+1
theorem L4:∀ (l out:List Ex) (n:Nat) (hn:n < l.length),(eK out (l.take n)).2=false->(jz (eK out (l.take n)).1 l[n]).2=true->zv out l=n
 | x :: l,out,0,_,_,h=>by
  simp only[List.take_zero,eK,List.getElem_cons_zero]at h;rw[zv,if_pos h]
 | x :: l,out,n+1,hn,h1,h2=>by
  simp only[List.take_succ_cons,eK]at h1 h2;by_cases h:(jz out x).2=true
  .rw[if_pos h]at h1;rw[h]at h1;cases h1
  .rw[if_neg h]at h1 h2;rw[zv,if_neg h,L4 l _ n (by simpa using hn) h1 (by simpa using h2)]
def rI (out l:List Ex):Int:=if (eK out l).2 then zv out l else -1
theorem VL (out l:List Ex):decide (0<=rI out l)=(eK out l).2:=by
 unfold rI
 cases h:(eK out l).2 with
 | true=>simp
 | false=>simp
theorem Te (G:aF) (k:Option Bool) (l out:List Ex) (hb:bx out+bx l<=2^28):MC prog G [501,502] 293 [.d (.sl k (l.map fun e=>[dE e])),.fn (.func 247) [.ref 501 0 0,.ref 502 0 0]] (au (aX out)) (.d (ab (rI out l))) (au (aX (eK out l).1)):=by
 have lM:=lA l
 have Ra:∀ l2 wZ,bx (eK wZ l2).1<=bx wZ+bx l2:=by
  intro l2
  induction l2 with
  | nil=>intro wZ;simp[eK]
  | cons x l2 ih=>
   intro wZ;have h1:=Od wZ x;rw[eK];split
   .simp only[bx];omega
   .have:=ih (jz wZ x).1;simp only[bx];omega
 have da:∀ n,bx (l.take n)<=bx l:=fun n=>by
  have:=lz (l.take n) (l.drop n);rw[abm]at this;omega
 have gn:∀ x∈l,bE x<=bx l:=fun x hx=>qd hx;refine MC.aU (aw _) func293 rfl rfl (rs:=[.tmp 4]) results293 (by simp[ntmps293]) rfl fun X=>?_;simp only[ntmps293];have fw:=@acC;refine af (Aq fw @aX.eq_1) [0,1] [501,502,503,504] ?_;refine ah fun K1 aI=>af fw [0,1,7,8] [501,502,503,504] ?_;refine eD (S:=Nat) (fun n=>n<=l.length/\(eK out (l.take n)).2=false) (fun n=>⟨bl [(0,.d (.sl k (l.map fun e=>[dE e]))),(1,.fn (.func 247) [.ref 501 0 0,.ref 502 0 0]),(7,int l.length),(8,int n)],au (aX (eK out (l.take n)).1)⟩) (fun n=>l.length - n) 0 ?_ ⟨aa,rfl⟩ ?_
 .refine bL (Aq fw (Aq @aX.eq_1 (Aq @eK.eq_1 @eK.eq_2)))
 .rintro n ⟨hn,hp⟩;refine af (Aq fw @aX.eq_1) [0,1,7,8,9] [501,502,503,504] ?_;refine ah fun K2 ak=>ga (b:=n < l.length) (by simp[D.le,D.le.go,aL,ab]) (fun hc=>?_) (fun hc=>?_)
  .have dX:n < l.length:=hc;have ed:=HR (l.take n) out l[n] hp;rw[<- aa7 dX]at ed
   have Ei:bx (eK out (l.take n)).1+bE l[n]<=2^28:=by
    have h1:=Ra (l.take n) out;have h2:=lz (l.take n) [l[n]];rw[<- aa7 dX]at h2;have h3:=da (n+1);simp only[bx]at h2;omega
   have mD:=Oh G (eK out (l.take n)).1 l[n] Ei;have qy:=L4 l out n dX hp;have hstop:=HS (l.take (n+1)) out (l.drop (n+1));rw[abm]at hstop;rw[<- ed]at mD qy;obtain⟨tx,cx,hx⟩:=gk l[n];rw[hx]at mD;generalize hS:(eK out (l.take n)).1=S at mD
   cases rT:(eK out (l.take (n+1))).2 with
   | true=>
    rw[rT]at mD;have dk:=hstop rT
    have hr:rI out l=n:=by
     unfold rI;rw[dk,rT,if_pos rfl,qy rT]
    refine ax (ak _ (ah fun K3 bF=>bd (af fw [0,1,5,7,8] [501,502,503,504] ?_)));have qf:=(Aq fw (Aq @aX.eq_1 (Aq @dX @hx)));refine iA mD [0,1,5,7,8,16] [501,502,503,504] ?_;refine aD (af fw [4] [501,502,503,504] ?_);exact bg (Aq fw (Aq @aX.eq_1 (Aq @hr @dk)))
   | false=>
    rw[rT]at mD;refine ax (ak _ (ah fun K3 bF=>bd (af fw [0,1,5,7,8] [501,502,503,504] ?_)));have qf:=(Aq fw (Aq @aX.eq_1 (Aq @dX @hx)));refine iA mD [0,1,5,7,8,16] [501,502,503,504] ?_;refine aj (ax (bF _ ?_));refine fe fw ?_;(try simp only[bY,b9]);refine cC.mk (n+1) ⟨aa,rT⟩ aa ?_;refine bL (Aq fw @aX.eq_1)
  .obtain rfl:n=l.length:=aa
   rw[abo]at hp
   have hr:rI out l = -1:=by unfold rI;rw[hp];rfl
   refine cX (aI _ (af fw [4] [501,502,503,504] ?_));refine bt ?_;simp[D.le,D.le.go,aL,ab,aX,hr,D.le_refl,abo]
theorem Pm (G:aF) (k:Option Bool) (l out:List Ex) (hb:bx out+bx l<=2^28):MC prog G [501,502] 248 [.d (.sl k (l.map fun e=>[dE e])),.fn (.func 247) [.ref 501 0 0,.ref 502 0 0]] (au (aX out)) (.d (.v (.bool (eK out l).2))) (au (aX (eK out l).1)):=by
 have hi:=Te G k l out hb;have hd:=VL out l;generalize rI out l=r at hi hd;rw[<- hd];generalize (eK out l).1=o at hi ⊢;refine MC.aU (aw _) func248 rfl rfl (rs:=[.tmp 4]) results248 (by simp[ntmps248]) rfl fun X=>?_;simp only[ntmps248];have fw:=@acC;refine af (Aq fw @aX.eq_1) [0,1] [501,502,503,504] ?_;refine bA (Aq fw @aX.eq_1) hi [4] [501,502,503,504] ?_;exact bg (Aq fw @aX.eq_1)
