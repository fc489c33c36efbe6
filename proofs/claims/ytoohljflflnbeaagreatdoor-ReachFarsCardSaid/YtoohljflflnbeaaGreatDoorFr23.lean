/- Parts. -/
import Derived.Test.YtoohljflflnbeaaGreatDoorFr22
import Derived.Shelf.Strings.Runes
set_option linter.unusedSimpArgs false
set_option linter.unusedVariables false
set_option maxHeartbeats 32000000
set_option maxRecDepth 100000
open Go.Proofs.Tryz
namespace Go.Proofs
open Go.Shelf
def Tryz.RM:Go.Shelf.Ren:=⟨fun | 151=>287 | 152=>314 | 137=>174 | 119=>332 | 224=>277 | 225=>276 | 217=>224 | 266=>281 | n=>n,fun | 9=>9 | 21=>21 | 4=>4 | 3=>3 | 5=>5 | 0=>0 | 46=>205 | n=>n,fun | n=>n⟩
theorem Tryz.abM:Go.Proofs.Lays.n151 prog Tryz.RM:={
 mixed:=ah
 f119:=func332.trans aP
 f137:=func174.trans aP
 f151:=func287.trans aP
 f152:=func314.trans aP
 f217:=func224.trans aP
 f224:=func277.trans aP
 f225:=func276.trans aP
 f266:=func281.trans aP
 t0:=underlying0
 a0:=isAgg0
 z0:=sizeOf0
 v0:=zeroValue0
 t3:=underlying3
 a3:=isAgg3
 z3:=sizeOf3
 v3:=zeroValue3
 t4:=underlying4
 a4:=isAgg4
 z4:=sizeOf4
 v4:=zeroValue4
 t5:=underlying5
 a5:=isAgg5
 z5:=sizeOf5
 v5:=zeroValue5
 t9:=underlying9
 a9:=isAgg9
 z9:=sizeOf9
 v9:=zeroValue9
 t21:=underlying21
 a21:=isAgg21
 z21:=sizeOf21
 v21:=zeroValue21
 t46:=underlying205
 a46:=isAgg205
 z46:=sizeOf205
 v46:=zeroValue205 }
end Go.Proofs
namespace Go.Proofs.YtoohljflflnbeaaGreatDoor
open Go.Av
open Go.Shelf
def bK (t:List UInt8) (i:Int) (e p:Int):List (Nat×Row):=[(500,.box 323 [.d (dS t),int i,int e,int p])]
theorem alQ:type_of% (Aq @alv (Aq @bK.eq_1 @alw)):=(Aq @alv (Aq @bK.eq_1 @alw))
theorem MB (G:ay) (t:List UInt8) (i:Nat) (ht:t.length < 2^60) (hi:i<=t.length) (e p:Int) :
  MC prog G [500] 257 [.ref 500 0 0] (aq (bK t i e p)) (.d (.bz [])) (aq (bK t (bx t i) e p)):=by
 refine MC.aQ (aC _) func257 rfl rfl (rs:=[]) results257 (by simp[ntmps257]) rfl fun X=>?_;simp only[ntmps257];have fw:=alQ;refine cG (S:=Nat) (fun k=>k<=t.length/\bx t k=bx t i) (fun k=>⟨bp [(0,.ref 500 0 0)],aq [(500,.box 323 [.d (dS t),int k,int e,int p])]⟩) (fun k=>t.length - k) i ?_ ⟨hi,rfl⟩ ?_
 .refine bt fw
 .rintro k ⟨hk,hs⟩;refine ag fun K1 aF=>?_;by_cases dB:k < t.length
  .have aap:(k:Int) < (t.length:Int):=aa
   by_cases hb:((t[k]).toNat:Int)=32
   .have qf:=(Aq fw (Aq @bN (Aq @dr (Aq @dB @hb))));refine iz [0,23] [500] ?_;refine aJ (ar (aF _ ?_));refine bg (cD fw ?_);try simp only[aV,aX]
    have jH:t[k]? = some 32:=by
     rw[AT dB,(Bx _ 32 bF).1 hb];rfl
    refine bh.mk (k+1) ⟨aa,?_⟩ aa ?_
    .rw[<- M3 jH];exact hs
    refine bt fw
   .have qf:=(Aq fw (Aq @bN (Aq @dr (Aq @dB @hb))));refine iz [0,23] [500] ?_;refine al (b5 ?_)
    have jH:t[k]?≠some 32:=by
     rw[AT dB];intro h;apply hb;rw[AI h];rfl
    rw[zd jH]at hs;rw[<- hs];simp[bK,dS,D.le_refl]
  .obtain rfl:k=t.length:=aa
   have qf:=(Aq fw (Aq @bN @dr));refine iz [0,23] [500] ?_;refine al (b5 ?_)
   have jH:t[t.length]?≠some 32:=ak
   rw[zd jH]at hs;rw[<- hs];simp[bK,dS,D.le_refl]
def p5 (t:List UInt8) (i:Nat):UInt8:=t.getD (bx t i) 0
theorem DS (G:ay) (t:List UInt8) (i:Nat) (ht:t.length < 2^60) (hi:i<=t.length) (e p:Int) :
  MC prog G [500] 203 [.ref 500 0 0] (aq (bK t i e p)) (.d (.v (.int .u8 (p5 t i).toNat))) (aq (bK t (bx t i) e p)):=by
 have j4:=MB G t i ht hi e p;have iQ:=lI hi;unfold p5;generalize bx t i=j at j4 iQ ⊢;by_cases nB:j < t.length
 .have aak:(j:Int) < (t.length:Int):=aa
  have mN:t.getD j 0=t[j]:=by simp[OF,nB]
  rw[mN];refine MC.aQ (aC _) func203 rfl rfl (rs:=[.tmp 2]) results203 (by simp[ntmps203]) rfl fun X=>?_;simp only[ntmps203];have fw:=alQ;refine ae fw [0] [500] ?_;refine bG fw j4 [0] [500] ?_;refine ag fun K1 aF=>?_;have qf:=(Aq fw (Aq @bN (Aq @nB @aak)));refine iz [0,14] [500] ?_;refine aJ ?_;have qf:=(Aq fw (Aq @bN (Aq @dr @nB)));refine iz [2] [500] ?_;exact aU (Aq fw (Aq @bK.eq_1 @nB))
 .obtain rfl:j=t.length:=aa
  refine MC.aQ (aC _) func203 rfl rfl (rs:=[.tmp 2]) results203 (by simp[ntmps203]) rfl fun X=>?_;simp only[ntmps203];have fw:=alQ;refine ae fw [0] [500] ?_;refine bG fw j4 [0] [500] ?_;refine ag fun K1 aF=>?_;have qf:=(Aq fw @bN);refine iz [0,14] [500] ?_;refine al (ar (aF _ ?_));refine ae fw [2] [500] ?_;exact aU (Aq fw @bK.eq_1)
theorem DQ (G:ay) (t:List UInt8) (i:Nat) (ht:t.length < 2^60) (hi:i<=t.length) (e:Int) :
  MC prog G [500] 204 [.ref 500 0 0,.d (ab e)] (aq (bK t i 0 (-1))) (.d (.v (.pointer none))) (aq (bK t (bx t i) e (bx t i))):=by
 have j4:=MB G t i ht hi 0 (-1);generalize bx t i=j at j4 ⊢;refine MC.aQ (aC _) func204 rfl rfl (rs:=[.tmp 4]) results204 (by simp[ntmps204]) rfl fun X=>?_;simp only[ntmps204];have fw:=alQ;refine ae fw [0,1] [500] ?_;refine bG fw j4 [0,1] [500] ?_;refine ag fun K1 aF=>ae fw [0,1,12] [500] ?_;refine aJ (gR fw aF [] [500] ?_);refine ae fw [4] [500] ?_;exact aU (Aq fw @bK.eq_1)
def qa:List UInt8:=[32,38,124,33,94,126,40,41,61]
theorem abl (c:UInt8):mw c=qa.contains c:=rfl
theorem XQ {c:UInt8} (h:128<=c.toNat):∃ b0 b1:UInt8,Utf8.encode (c.toNat:Int)=bs [b0,b1]/\128<=b1.toNat:=by
 have hv:Utf8.valid (c.toNat:Int)=true:=by
  have hc:=c.toNat_lt;simp[Utf8.valid];omega
 refine⟨UInt8.ofNat (0xC0+c.toNat / 64),UInt8.ofNat (0x80+c.toNat % 64),?_,?_⟩
 .have hc:=c.toNat_lt;unfold Utf8.encode;rw[hv];simp only[if_true,ajI];rw[if_neg aa,if_pos aa];rfl
 .simp;omega
theorem al5:type_of% (Aq @alv @alw):=(Aq @alv @alw)
theorem ah2 (G:ay) (n:Nat) (h:n < 256):aD prog G 332 [.v (.int .i32 n)] (.v (.bool true)):=by
 have h1:(n:Int) < 55296:=aa
 refine aD.aQ (aC _) func332 rfl rfl (rs:=[.tmp 2]) results332 (by simp[ntmps332]) fun X=>?_;simp only[ntmps332,List.map];have fw:=al5;refine ae fw [0] [] ?_;refine ag fun K1 aF=>bg ?_;have qf:=(Aq fw @h1);refine au [0,3] [] ?_;refine aJ (ae fw [2] [] ?_);exact aU fw
theorem abk (G:ay) (c:UInt8) (h:128<=c.toNat):aD prog G 314 [dS qa,.v (.int .i32 c.toNat)] (ab (-1)):=by
 have hc:=c.toNat_lt;obtain⟨b0,b1,he,hb⟩:=XQ h
 have h1:¬ (c.toNat:Int) < 128:=aa
 have h2:¬ (c.toNat:Int)=65533:=aa
 have hv:=ah2 G c.toNat hc
 have ea:¬ (38:Int)=(b1.toNat:Int):=aa
 have iq:=Rz G [124,33,94,126,40,41,61] b1
 have gA:Lib.indexByte [124,33,94,126,40,41,61] b1 < 0:=(Ls _ _).2 (by
  intro hm
  have:∀ x∈([124,33,94,126,40,41,61]:List UInt8),x.toNat < 128:=bF
  have:=this _ hm
  omega)
 have QV:(bs qa).extract 2 9=bs [124,33,94,126,40,41,61]:=rfl;refine aD.aQ (aC _) func314 rfl rfl (rs:=[.tmp 4]) results314 (by simp[ntmps314]) fun X=>?_;simp only[ntmps314,List.map];have fw:=al5;refine ae fw [0,1] [] ?_;refine bg ?_;have qf:=(Aq fw @h1);refine au [0,1,160] [] ?_;refine al ?_;have qf:=(Aq fw @h2);refine au [0,1,171] [] ?_;refine al (br fw hv [0,1,183] [] ?_);refine al (NQ ?_);have qf:=(Aq fw @he);refine au [0,7] [] ?_;have qf:=(Aq fw @bN);refine au [0,7,8] [] ?_;refine ae fw [0,7,8,9] [] ?_;refine ae fw [0,7,8,9] [] ?_;refine ag fun K3 aZ=>cG (S:=Nat) (fun n=>True) (fun n=>⟨bp [(0,.d (dS qa)),(7,.d (dS [b0,b1])),(8,int 1),(9,int 1)],aq []⟩) (fun n=>0) 0 ?_ trivial ?_
 .refine bt fw
 .intro n hn;refine ag fun K4 cr=>?_;have qf:=(Aq fw (Aq @bN @qa.eq_1));refine au [0,7,8,9,26] [] ?_;refine aJ (ar (cr _ ?_));refine bg (NQ ?_);refine ag fun K5 cg=>?_;have qf:=(Aq fw (Aq @bN (Aq @dr (Aq @qa.eq_1 @ea))));refine iz [0,7,8,9,33] [] ?_;refine aJ ?_;have qf:=(Aq fw (Aq @bN (Aq @dr (Aq @qa.eq_1 @QV))));refine Bk iq [0,7,8,9,11] [] ?_;refine ag fun K6 eB=>?_;have qf:=(Aq fw @gA);refine au [0,7,8,9,11,43] [] ?_;refine aJ (ae fw [4] [] ?_);exact aU fw
theorem Xm (G:ay) (c:UInt8):aD prog G 287 [dS qa,.v (.int .i32 c.toNat)] (.v (.bool (mw c))):=by
 by_cases h:c.toNat < 128
 .refine aD.sE (iA.of func287 rfl rfl) fun X w vs bd bY dt=>?_
  obtain⟨a,b,rfl⟩:∃ a b,vs = #[a,b]:=by
   match vs,bd with
   | ⟨[a,b]⟩,_=>exact⟨a,b,rfl⟩
  have ha:=(bY 0 a _ rfl rfl).scalar;have hb:=(bY 1 b _ rfl rfl).scalar;subst ha hb;have iW:=Any.strings_ContainsRune_ascii (P:=prog) (ρ:=Tryz.RM) { Tryz.abM with } (bs qa) c.toNat w aa aa;rw[show (c.toNat:Int).toNat.toUInt8=c by simp]at iW;refine iW.mono fun e w' ⟨he,hw⟩=>⟨_,he,by rw[hw];exact cN.refl _,?_⟩
  have FL:decide (0<=Lib.indexByte (bs qa).data.toList c)=mw c:=by
   rw[abl,Bool.eq_iff_iff,decide_eq_true_eq,akq];have:=Ls qa c;have e:(bs qa).data.toList=qa:=rfl;rw[e];constructor
   .intro h0;apply akf;intro hn;have:=this.2 hn;omega
   .intro hm;apply akf;intro hn;exact this.1 aa hm
  rw[FL];exact .v _
 .have ZF:=abk G c aa
  have jj:mw c=false:=by
   have h:∀ n:Fin 256,128<=n.val->mw (UInt8.ofNat n)=false:=by decide +kernel
   have:=h ⟨c.toNat,c.toNat_lt⟩ (by simp;omega);simpa using this
  rw[jj];refine aD.aQ (aC _) func287 rfl rfl (rs:=[.tmp 4]) results287 (by simp[ntmps287]) fun X=>?_;simp only[ntmps287,List.map];have fw:=al5;refine ae fw [0,1] [] ?_;refine br fw ZF [4] [] ?_;exact aU fw
end Go.Proofs.YtoohljflflnbeaaGreatDoor
namespace Go.Proofs.YtoohljflflnbeaaGreatDoor
open Go.Av
def eR {α:Type}:Rs α->Int
 | .ok _ _=>0
 | .err c _ _=>c
def pR {α:Type}:Rs α->Int
 | .ok _ _=>-1
 | .err _ p _=>p
theorem Nq (c:UInt8):IntKind.i32.wrap (c.toNat:Int)=(c.toNat:Int):=by
 have h:∀ n:Fin 256,IntKind.i32.wrap ((UInt8.ofNat n.val).toNat:Int)=((UInt8.ofNat n.val).toNat:Int):=by decide +kernel
 have:=h ⟨c.toNat,c.toNat_lt⟩;simpa using this
theorem aij:IntKind.i32.wrap 48=48:=by decide +kernel
theorem aik:IntKind.i32.wrap 49=49:=by decide +kernel
theorem D1:(⟨#[32,38,124,33,94,126,40,41,61]⟩:ByteArray)=bs qa:=rfl
theorem MF (G:ay) (t:List UInt8) (q i:Nat) (ht:t.length < 2^60) (hi:i<=t.length) :
  MC prog G [500] 294 [.ref 500 0 0] (aq (bK t i 0 (-1))) (.d (dS (jk t (bx t i)))) (aq (bK t (cR (fU t q i)) (eR (fU t q i)) (pR (fU t q i)))):=by
 have j4:=MB G t i ht hi 0 (-1);have iQ:=lI hi;have wg:=zc hi;unfold fU;generalize bx t i=j at j4 iQ wg ⊢;have CA:=DQ G t j ht iQ 3;have CB:=DQ G t j ht iQ 5;rw[wg]at CA CB;have ba:=HJ t j;have het:=Nt iQ;have wH:(t.drop j).take (qg t j - j)=jk t j:=rfl
 have KS:(jk t j).length < 2^60:=by
  rw[<- wH,ajW,aj5];omega
 have lT:=Sw G (jk t j) KS;rw[<- Sq]at lT;refine MC.aQ (aC _) func294 rfl rfl (rs:=[.tmp 2]) results294 (by simp[ntmps294]) rfl fun X=>?_;simp only[ntmps294];have fw:=alQ;refine ae fw [0] [500] ?_;refine bG fw j4 [0] [500] ?_;refine ae fw [0,3] [500] ?_;refine ag fun K1 aF=>cG (S:=Nat) (fun k=>j<=k/\k<=t.length/\xk t j k) (fun k=>⟨bp [(0,.ref 500 0 0),(3,int k)],aq [(500,.box 323 [.d (dS t),int j,int 0,int (-1)])]⟩) (fun k=>t.length - k) j ?_ ⟨ajJ _,iQ,.inl rfl⟩ ?_
 .refine bt fw
 .rintro k ⟨ya,hk,dD⟩;refine ag fun K2 aw=>?_
  refine (fun fO hstop=>?_) (fun (σ:St) (hn:xk t j (k+1)) (dB:k < t.length) himp=>aw σ (AW.imp (τ:=⟨bp [(0,.ref 500 0 0),(3,int k)],aq [(500,.box 323 [.d (dS t),int j,int 0,int (-1)])]⟩) himp ?_))
   (fun (σ:St) (he:k=qg t j) himp=>aF σ (AW.imp (τ:=⟨bp [(0,.ref 500 0 0),(3,int k)],aq [(500,.box 323 [.d (dS t),int j,int 0,int (-1)])]⟩) himp ?_))
  .by_cases dB:k < t.length
   .have jo:=Xm G t[k];have yf:=A4 t[k]
    cases AF:mw t[k] with
    | true=>
     rw[AF]at jo yf;have qf:=(Aq fw (Aq @bN (Aq @dr (Aq @D1 (Aq @Nq @dB)))));refine e7 jo [0,3,54] [500] ?_;refine al (b5 (hstop _ (ui dD hk fun _=>⟨yf.2 (.inl rfl),fun _=>⟨fun e=>?_,fun e=>?_⟩⟩) ?_))
     .rw[e]at AF;exact absurd AF bF
     .rw[e]at AF;exact absurd AF bF
     .refine bt fw
    | false=>
     rw[AF]at jo yf;by_cases lg:j < k
     .have mf:(j:Int) < (k:Int):=aa
      have FT:t[k] ∉ qW\/(j < k/\(t[k]=48\/t[k]=49)):=by
       by_cases hm:t[k]∈qW
       .rcases yf.1 hm with h | h | h
        .cases h
        .exact .inr ⟨lg,.inl h⟩
        .exact .inr ⟨lg,.inr h⟩
       .exact .inl hm
      have qf:=(Aq fw (Aq @bN (Aq @dr (Aq @D1 (Aq @Nq (Aq @dB (Aq @mf @lg)))))));refine e7 jo [0,3,54] [500] ?_;refine aJ (ar (fO _ (BL dD dB FT) dB ?_));refine bt fw
     .have mf:¬ (j:Int) < (k:Int):=aa
      by_cases rr:((t[k]).toNat:Int)=48
      .have hc:t[k]=48:=(Bx _ 48 bF).1 rr;rw[rr]at jo;have qf:=(Aq fw (Aq @bN (Aq @dr (Aq @D1 (Aq @aij (Aq @dB (Aq @mf (Aq @lg @rr))))))));refine e7 jo [0,3,54] [500] ?_;refine al (b5 (hstop _ (ui dD hk fun _=>⟨yf.2 (.inr (.inl hc)),fun h=>absurd h lg⟩) ?_));refine bt fw
      .by_cases sY:((t[k]).toNat:Int)=49
       .have hc:t[k]=49:=(Bx _ 49 bF).1 sY;rw[sY]at jo;have qf:=(Aq fw (Aq @bN (Aq @dr (Aq @D1 (Aq @aik (Aq @dB (Aq @mf (Aq @lg (Aq @rr @sY)))))))));refine e7 jo [0,3,54] [500] ?_;refine al (b5 (hstop _ (ui dD hk fun _=>⟨yf.2 (.inr (.inr hc)),fun h=>absurd h lg⟩) ?_));refine bt fw
       .have hm:t[k] ∉ qW:=fun hm=>by
         rcases yf.1 hm with h | h | h
         .cases h
         .exact rr (by rw[h];rfl)
         .exact sY (by rw[h];rfl)
        have qf:=(Aq fw (Aq @bN (Aq @dr (Aq @D1 (Aq @Nq (Aq @dB (Aq @mf (Aq @lg (Aq @rr @sY)))))))));refine e7 jo [0,3,54] [500] ?_;refine aJ (ar (fO _ (BL dD dB (.inl hm)) dB ?_));refine bt fw
   .obtain rfl:k=t.length:=aa
    by_cases lg:j < t.length
    .have mf:(j:Int) < (t.length:Int):=aa
     have qf:=(Aq fw (Aq @bN (Aq @dr (Aq @mf @lg))));refine au [0,3,54] [500] ?_;refine al (b5 (hstop _ (ui dD hk fun h=>absurd h dB) ?_));refine bt fw
    .have mf:¬ (j:Int) < (t.length:Int):=aa
     have qf:=(Aq fw (Aq @bN (Aq @dr (Aq @mf @lg))));refine au [0,3,54] [500] ?_;refine al (b5 (hstop _ (ui dD hk fun h=>absurd h dB) ?_));refine bt fw
  .refine bg (cD fw ?_);(try simp only[aV,aX]);refine bh.mk (k+1) ⟨aa,aa,hn⟩ aa ?_;refine bt fw
  .subst he;clear aF aw;have Ll:List.take (qg t j - j) (List.drop j t)=jk t j:=wH;have qf:=(Aq fw (Aq @bN (Aq @Ol (Aq @ba (Aq @het @Ll)))));refine iz [0,3,4] [500] ?_;refine ag fun K3 aZ=>bg ?_;by_cases hs:jk t j=[]
   .refine rg [0,3,4,71] [500] (ew rfl) fun K' ao=>?_;(repeat refine aK fun Kq af=>?_;simp[ab,bK,dS,hs,b7,bu,bo];(repeat refine⟨aa,?_⟩);refine af _ ?_);refine bJ (ao _ (AW.st (by simp[ab,bK,dS,hs,b7,bu,bo];rfl) ?_));refine aJ (fH (aC _) fun K' ao=>?_);(repeat refine aK fun Kq af=>?_;simp[ab,bK,dS];(repeat refine⟨aa,?_⟩);refine af _ ?_);refine aK fun Kq af=>?_;simp[ab,bK,dS];refine cX.mc (CA) ?_ ?_ ?_ ?_ ?_<;>simp[ab,bK,dS];refine af _ ?_;(repeat refine aK fun Kq af=>?_;simp[ab,bK,dS];(repeat refine⟨aa,?_⟩);refine af _ ?_);refine bJ (ao _ ?_);refine aZ _ (AW.norm [4] [500] (ew rfl) (AW.st (by simp[ab,bK,dS];rfl) ?_));refine ae fw [2] [500] ?_;refine bT ?_;simp[D.le,D.le.go,aR,ab,bK,dS,bK,cR,eR,pR,hs,b7]
   .have wC:(jk t j == [])=false:=by simpa using hs
    have Da:(jk t j).isEmpty=false:=by rw[akY];exact hs
    refine rg [0,3,4,71] [500] (ew rfl) fun K' ao=>?_;(repeat refine aK fun Kq af=>?_;simp[ab,bK,dS,b7,bu,bo,hs,wC,Da];(repeat refine⟨aa,?_⟩);refine af _ ?_);refine bJ (ao _ (AW.st (by simp[ab,bK,dS,b7,bu,bo,hs,wC,Da];rfl) ?_));refine al ?_
    cases hn:jv (jk t j) with
    | false=>
     rw[hn]at lT;refine br fw lT [0,3,4,76] [500] ?_;refine aJ (fH (aC _) fun K' ao=>?_);(repeat refine aK fun Kq af=>?_;simp[ab,bK,dS];(repeat refine⟨aa,?_⟩);refine af _ ?_);refine aK fun Kq af=>?_;simp[ab,bK,dS];refine cX.mc (CB) ?_ ?_ ?_ ?_ ?_<;>simp[ab,bK,dS];refine af _ ?_;(repeat refine aK fun Kq af=>?_;simp[ab,bK,dS];(repeat refine⟨aa,?_⟩);refine af _ ?_);refine bJ (ao _ ?_);refine aZ _ (AW.norm [4] [500] (ew rfl) (AW.st (by simp[ab,bK,dS];rfl) ?_));refine ae fw [2] [500] ?_;exact aU (Aq fw (Aq @bK.eq_1 (Aq @cR.eq_1 (Aq @cR.eq_2 (Aq @eR.eq_1 (Aq @eR.eq_2 (Aq @pR.eq_1 (Aq @pR.eq_2 (Aq @hs @hn)))))))))
    | true=>
     rw[hn]at lT;refine br fw lT [0,3,4,76] [500] ?_;refine al (gR fw aZ [4] [500] ?_);refine ae fw [2] [500] ?_;exact aU (Aq fw (Aq @bK.eq_1 (Aq @cR.eq_1 (Aq @cR.eq_2 (Aq @eR.eq_1 (Aq @eR.eq_2 (Aq @pR.eq_1 (Aq @pR.eq_2 (Aq @hs @hn)))))))))
def eE:D:=.sl (some false) []
mutual
def dR:Ex->D
 | .iD b=>.ip [dS [if b then 49 else 48],dS [],eE]
 | .bit s=>.ip [dS [98,105,116],dS s,eE]
 | .jA s=>.ip [dS [94],dS s,eE]
 | .jm s=>.ip [dS [126],dS s,eE]
 | .not e=>.ip [dS [33],dS [],.sl none [[dR e]]]
 | .and l=>.ip [dS [38],dS [],.sl none (xD l)]
 | .or l=>.ip [dS [124],dS [],.sl none (xD l)]
def xD:List Ex->List (List D)
 | []=>[]
 | e :: l=>[dR e] :: xD l
end
theorem zL:∀ l:List Ex,xD l=l.map fun e=>[dR e]
 | []=>rfl
 | e :: l=>by rw[xD,zL l];rfl
theorem zK (e:Ex):∃ c,dR e = .ip c:=by
 cases e<;>simp only[dR]<;>exact⟨_,rfl⟩
theorem xC (e:Ex):(dR e).one=true:=by
 obtain⟨c,h⟩:=zK e;rw[h];rfl
theorem cells_one {y:D} (h:y.one=true):jD (.d y)=some [.d y]:=by
 cases y<;>first | (simp[jD,AV.one,D.one]at h ⊢;done) | (simp[D.one]at h;simp[jD,AV.one,D.one,h])
def jS (r:Rs Ex) (y:D):D:=match r with
 | .ok x _=>dR x
 | .err _ _ _=>y
def jy {α:Type} (r:Rs α) (k:Nat):Nat:=match r with
 | .ok _ j=>j
 | .err _ _ _=>k
def Er (G:ay) (t:List UInt8) (fx:List Nat) (xr:List (Nat×Row)) (g:FuncId) (xs:List AV) (d:Nat) (r:Rs Ex) (i:Nat) (y:D) (k:Nat):Prop:=
 MC prog G fx g xs (aq (bK t i 0 (-1) ++ xr)) (.d (jS r y)) (aq (bK t (jy r k) (eR r) (pR r) ++ xr))/\(∀ c p q,r = .err c p q->0 < c/\y.one=true/\k<=t.length+d)
def Reads (G:ay) (t:List UInt8) (fx:List Nat) (xr:List (Nat×Row)) (g:FuncId) (xs:List AV) (d:Nat) (f:Nat->Rs Ex):Prop:=∃ (yF:Nat->D) (kF:Nat->Nat),∀ i,i<=t.length->Er G t fx xr g xs d (f i) i (yF i) (kF i)
theorem Hj {G:ay} {t:List UInt8} {fx:List Nat} {xr:List (Nat×Row)} {g:FuncId} {xs:List AV} {d:Nat} {f:Nat->Rs Ex} (h:∀ i,i<=t.length->∃ y k,Er G t fx xr g xs d (f i) i y k):Reads G t fx xr g xs d f:=by
 have h2:∀ i,∃ z:D×Nat,i<=t.length->Er G t fx xr g xs d (f i) i z.1 z.2:=fun i=>by
  by_cases hi:i<=t.length
  .obtain⟨y,k,h⟩:=h i hi;exact⟨(y,k),fun _=>h⟩
  .exact⟨(default,0),fun h=>absurd h hi⟩
 exact⟨fun i=>(Classical.choose (h2 i)).1,fun i=>(Classical.choose (h2 i)).2,fun i hi=>Classical.choose_spec (h2 i) hi⟩
def po (t:List UInt8) (s:UInt8) (f:Nat->Rs Ex):Nat->Nat->List Ex->List Ex×Nat
 | 0,i,acc=>(acc,i)
 | n+1,i,acc=>match f i with
  | .err _ _ _=>(acc,i)
  | .ok x j=>if (eC t s j).1 then po t s f n (eC t s j).2 (acc ++ [x]) else (acc,i)
theorem Uj {t:List UInt8} {s:UInt8} {f:Nat->Rs Ex} (hf:lM t f):∀ (n m i:Nat) (acc:List Ex),i<=t.length->t.length+1 - i<=n->t.length+1 - i<=m->po t s f n i acc=po t s f m i acc
 | 0,_,i,_,hi,h,_=>aa
 | _+1,0,i,_,hi,_,h=>aa
 | n+1,m+1,i,acc,hi,h1,h2=>by
  rw[po,po]
  cases cm:f i with
  | err c p q=>rfl
  | ok x j=>
   obtain⟨g1,g2⟩:=hf i x j hi cm;obtain⟨t1,t2,t3⟩:=oL (c:=s) g2;dsimp only;split
   .exact Uj hf n m _ _ t2 aa aa
   .rfl
def zb (t:List UInt8) (s:UInt8) (f:Nat->Rs Ex) (i:Nat) (acc:List Ex):List Ex×Nat:=po t s f (t.length+1 - i) i acc
theorem w8 {t:List UInt8} {s:UInt8} {f:Nat->Rs Ex} (hf:lM t f) {i:Nat} (hi:i<=t.length) (acc:List Ex):zb t s f i acc=match f i with
  | .err _ _ _=>(acc,i)
  | .ok x j=>if (eC t s j).1 then zb t s f (eC t s j).2 (acc ++ [x]) else (acc,i):=by
 unfold zb;obtain⟨n,hn⟩:∃ n,t.length+1 - i=n+1:=⟨t.length - i,aa⟩;rw[hn,po]
 cases cm:f i with
 | err c p q=>rfl
 | ok x j=>
  obtain⟨g1,g2⟩:=hf i x j hi cm;obtain⟨t1,t2,t3⟩:=oL (c:=s) g2;dsimp only;split
  .exact Uj hf _ _ _ _ t2 aa aa
  .rfl
theorem G3 {t:List UInt8} {i:Nat} {c:UInt8} (hc:c≠0):(eC t c i).1=decide (((p5 t i).toNat:Int)=(c.toNat:Int)):=by
 unfold eC p5;rw[OF]
 cases h:t[bx t i]? with
 | none=>
  rw[if_neg ak];simp only[Option.getD_none]
  symm
  rw[decide_eq_false_iff_not];intro e;apply hc
  have:c.toNat=0:=by simp at e;omega
  exact UInt8.toNat_inj.1 (by simpa using this)
 | some b=>
  simp only[ak8];by_cases hb:b=c
  .subst hb;simp
  .have:¬ ((b.toNat:Int)=(c.toNat:Int)):=fun e=>hb (UInt8.toNat_inj.1 aa);simp[hb,this]
theorem Nk {t:List UInt8} {c:UInt8} {i:Nat}:(eC t c i).2=if (eC t c i).1 then bx t i+1 else bx t i:=by
 unfold eC;split<;>rfl
def nd (s:UInt8) (ys:List D):D:=match ys with
 | [y]=>y
 | ys=>.ip [dS [s],dS [],.sl none (ys.map fun y=>[y])]
theorem Hp {s:UInt8} {ys:List D} (h:ys.length≠1):nd s ys = .ip [dS [s],dS [],.sl none (ys.map fun y=>[y])]:=by
 match ys,h with
 | [],_=>rfl
 | [_],h=>exact absurd rfl h
 | _ :: _ :: _,_=>rfl
theorem TQ {s:UInt8} {ys:List D} (h:∀ y∈ys,y.one=true):(nd s ys).one=true:=by
 match ys,h with
 | [],_=>rfl
 | [y],h=>exact h y ak
 | _ :: _ :: _,_=>rfl
theorem adX (G:ay) (t:List UInt8) (ht:t.length<=2000) (g:FuncId) (s:UInt8) (sn:Int) (fQ:(s.toNat:Int)=sn) (eH:s≠0) (J0:Utf8.encode sn=bs [s]) (a:Int) (d:Nat) (f:Nat->Rs Ex) (hf:lM t f) (oO:List Ex->Ex) (xU:∀ l,dR (oO l)=nd s (l.map dR))
  (fh:Reads G t [500] [] g [.ref 500 0 0,.d (ab a)] d f):Reads G t [500] [] 254 [.ref 500 0 0,.d (.v (.int .u8 sn)),.d (ab a),.bm g (.ref 500 0 0)] d (fun i=>(lH t s f i []).map oO):=by
 obtain⟨yF,kF,fh⟩:=fh;refine Hj fun i hi=>?_;generalize hR:lH t s f i []=R;generalize hZ:zb t s f i []=Z;refine⟨nd s (Z.1.map dR ++ [yF Z.2]),kF Z.2,?_⟩
 have s5:∀ (k:Nat) (ys:List D) (e p:Int),((e=0/\p = -1/\∃ acc,ys=acc.map dR/\R = .ok acc k)\/(∃ c p' q,R = .err c p' q/\e=c/\p=p'/\ys=Z.1.map dR ++ [yF Z.2]/\k=kF Z.2))->
   jS (R.map oO) (nd s (Z.1.map dR ++ [yF Z.2]))=nd s ys/\jy (R.map oO) (kF Z.2)=k/\eR (R.map oO)=e/\pR (R.map oO)=p:=by
  rintro k ys e p (⟨rfl,rfl,acc,rfl,rfl⟩ | ⟨c,p',q,rfl,rfl,rfl,rfl,rfl⟩)
  .exact⟨by simp[Rs.map,jS,xU],rfl,rfl,rfl⟩
  .exact⟨rfl,rfl,rfl,rfl⟩
 have ld:∀ (n i:Nat) (acc:List Ex),i<=t.length->t.length+1 - i<=n->∀ c p q,iS t s f n i acc = .err c p q->0 < c/\(yF (po t s f n i acc).2).one=true/\kF (po t s f n i acc).2<=t.length+d:=by
  intro n
  induction n with
  | zero=>intro i acc hi hn;omega
  | succ n ih=>
   intro i acc hi hn c p q h;rw[iS]at h;rw[po]
   cases cm:f i with
   | err c' p' q'=>
    rw[cm]at h;simp only[Rs.err.injEq]at h;obtain⟨rfl,-,-⟩:=h;exact (fh i hi).2 _ _ _ cm
   | ok x j=>
    rw[cm]at h;obtain⟨g1,g2⟩:=hf i x j hi cm;obtain⟨t1,t2,t3⟩:=oL (c:=s) g2;dsimp only at h ⊢;split at h
    .rename_i cY;rw[if_pos cY];exact ih _ _ t2 aa c p q h
    .cases h
 refine⟨?_,fun c p q h=>?_⟩
 rotate_left
 .cases R with
  | ok l j=>cases h
  | err c' p' q'=>
   simp only[Rs.map,Rs.err.injEq]at h;obtain⟨rfl,rfl,rfl⟩:=h;obtain⟨h1,h2,h3⟩:=ld _ i [] hi (ajJ _) _ _ _ hR
   have JC:(po t s f (t.length+1 - i) i []).2=Z.2:=by rw[<- hZ];rfl
   rw[JC]at h2 h3;refine⟨h1,TQ fun y hy=>?_,h3⟩
   rcases ajR.1 hy with hy | hy
   .obtain⟨x,_,rfl⟩:=akh.1 hy;exact xC x
   .simp at hy;subst hy;exact h2
 generalize hyE:nd s (Z.1.map dR ++ [yF Z.2])=yE at s5 ⊢;generalize R.map oO=RR at s5 ⊢;refine MC.aQ (aC _) func254 rfl rfl (rs:=[.tmp 8]) results254 (by simp[ntmps254]) rfl fun X=>?_;simp only[ntmps254];have fw:=alQ;refine ae fw [0,1,2,3] [500] ?_;have J8:=(fh i hi).1
 have kY:(jS (f i) (yF i)).one=true:=by
  cases cm:f i with
  | ok x j=>exact xC x
  | err c p q=>exact ((fh i hi).2 _ _ _ cm).2.1
 have Aj:=cells_one kY;have qf:=(Aq fw @Aj);refine jW J8 [0,1,2,3,9] [500,13] ?_;refine ag fun K1 aF=>?_
 refine cG (S:=Nat×List D×Int×Int) (fun z=>(z.2.2.1=0/\z.2.2.2 = -1/\z.1<=t.length/\∃ acc,z.2.1=acc.map dR/\0 < acc.length/\acc.length<=z.1/\(if (eC t s z.1).1 then lH t s f (eC t s z.1).2 acc else .ok acc (eC t s z.1).2)=R/\((eC t s z.1).1=true->zb t s f (eC t s z.1).2 acc=Z))\/(0 < z.2.2.1/\z.2.1.length<=2001/\∃ c p q,R = .err c p q/\z.2.2.1=c/\z.2.2.2=p/\z.2.1=Z.1.map dR ++ [yF Z.2]/\z.1=kF Z.2))
  (fun z=>⟨bp [(0,.ref 500 0 0),(1,.d (.v (.int .u8 sn))),(2,.d (ab a)),(3,.bm g (.ref 500 0 0)),(9,.own 13 0 z.2.1.length)],aq [(500,.box 323 [.d (dS t),int z.1,int z.2.2.1,int z.2.2.2]),(13,.sl 119 1 (z.2.1.map fun y=>[y]))]⟩) (fun z=>if z.2.2.1=0 then t.length+1 - z.1 else 0) (jy (f i) (kF i),[jS (f i) (yF i)],eR (f i),pR (f i)) ?_ ?_ ?_
 .refine bt fw
 .cases cm:f i with
  | ok x j=>
   obtain⟨g1,g2⟩:=hf i x j hi cm;rw[vo hf hi,cm]at hR;rw[w8 hf hi,cm]at hZ;exact .inl ⟨rfl,rfl,g2,[x],rfl,ak,by simp[jy];omega,hR,fun h=>by dsimp only[jy]at h ⊢;simpa only[h,if_true,akM]using hZ⟩
  | err c p q=>
   rw[vo hf hi,cm]at hR;rw[w8 hf hi,cm]at hZ;obtain⟨h1,h2,h3⟩:=(fh i hi).2 _ _ _ cm;exact .inr ⟨h1,ak,c,p,0,hR.symm,rfl,rfl,by rw[<- hZ];rfl,by rw[<- hZ];rfl⟩
 .rintro⟨k,ys,e,p⟩ hI;dsimp only at hI ⊢;refine ag fun K2 aw=>?_
  refine (fun xV=>?_) (fun (σ:St) (k:Nat) (ys:List D) (e p:Int) (hl:ys.length<=2001) (JP:(e=0/\p = -1/\∃ acc,ys=acc.map dR/\R = .ok acc k)\/(∃ c p' q,R = .err c p' q/\e=c/\p=p'/\ys=Z.1.map dR ++ [yF Z.2]/\k=kF Z.2)) himp=>
   aF σ (AW.imp (τ:=⟨bp [(0,.ref 500 0 0),(1,.d (.v (.int .u8 sn))),(9,.own 13 0 ys.length)],aq [(500,.box 323 [.d (dS t),int k,int e,int p]),(13,.sl 119 1 (ys.map fun y=>[y]))]⟩) himp ?_))
  .rcases hI with⟨rfl,rfl,hk,acc,rfl,JE,Zw,gY,ma⟩ | ⟨he,hlen,c,p',q,xR,rfl,rfl,rfl,rfl⟩
   .have ga:=DS G t k aa hk 0 (-1);have cY:=G3 (t:=t) (i:=k) eH;rw[fQ]at cY;have lW:=Nk (t:=t) (c:=s) (i:=k);obtain⟨t1,t2,t3⟩:=oL (t:=t) (c:=s) hk;have iQ:=lI hk;by_cases hb:((p5 t k).toNat:Int)=sn
    .rw[decide_eq_true hb]at cY;rw[cY]at gY ma lW t3;simp only[if_true]at gY lW;have ma:=ma rfl;have t3:=t3 rfl;rw[lW]at gY ma t2 t3;have qf:=(Aq fw @hb);refine jW ga [0,1,2,3,9,25] [500,13] ?_;refine aJ (ar (aw _ ?_));refine bg (ae fw [0,1,2,3,9] [500,13] ?_);have s7:=(fh _ t2).1;rw[akQ]at s7
     have su:(jS (f (bx t k+1)) (yF (bx t k+1))).one=true:=by
      cases cm:f (bx t k+1) with
      | ok x j=>exact xC x
      | err c p q=>exact ((fh _ t2).2 _ _ _ cm).2.1
     have uQ:=cells_one su;refine fH (aC _) fun K' ao=>?_;(repeat refine aK fun Kq af=>?_;simp[ab,bK,dS,uQ,su,sh];(repeat refine⟨aa,?_⟩);refine af _ ?_);refine aK fun Kq af=>?_;simp[ab,bK,dS,uQ,su,sh];refine cX.mc (s7) ?_ ?_ ?_ ?_ ?_<;>simp[ab,bK,dS,uQ,su,sh];refine af _ ?_;(repeat refine aK fun Kq af=>?_;simp[ab,bK,dS,uQ,su,sh];(repeat refine⟨aa,?_⟩);refine af _ ?_);refine bJ (ao _ ?_);(try simp only[aV,aX]);refine bh.mk (jy (f (bx t k+1)) (kF (bx t k+1)),acc.map dR ++ [jS (f (bx t k+1)) (yF (bx t k+1))],eR (f (bx t k+1)),pR (f (bx t k+1))) ?_ ?_ ?_
     .cases cm:f (bx t k+1) with
      | ok x j=>
       obtain⟨g1,g2⟩:=hf _ x j t2 cm;rw[vo hf t2,cm]at gY;rw[w8 hf t2,cm]at ma;exact .inl ⟨rfl,rfl,g2,acc ++ [x],by simp[jS],ak,by simp[jy];omega,gY,fun h=>by dsimp only[jy]at h ⊢;simpa only[h,if_true]using ma⟩
      | err c p q=>
       rw[vo hf t2,cm]at gY;rw[w8 hf t2,cm]at ma;obtain⟨h1,h2,h3⟩:=(fh _ t2).2 _ _ _ cm;exact .inr ⟨h1,by simp;omega,c,p,0,gY.symm,rfl,rfl,by rw[<- ma];rfl,by rw[<- ma];rfl⟩
     .cases cm:f (bx t k+1) with
      | ok x j=>
       obtain⟨g1,g2⟩:=hf _ x j t2 cm;simp only[eR,jy,if_true];omega
      | err c p q=>
       obtain⟨h1,h2,h3⟩:=(fh _ t2).2 _ _ _ cm
       have ly:¬ c=0:=aa
       simp[eR,ly];omega
     .refine bt fw
    .rw[decide_eq_false hb]at cY;rw[cY]at gY lW;simp only[ajM,if_false]at gY lW;have qf:=(Aq fw @hb);refine jW ga [0,1,2,3,9,25] [500,13] ?_;refine al (b5 (xV _ (bx t k) (acc.map dR) 0 (-1) (by simp;omega) (.inl ⟨rfl,rfl,acc,rfl,by rw[<- gY,lW]⟩) ?_));refine bt fw
   .have lR:¬ e=0:=aa
    have qf:=(Aq fw @lR);refine au [0,1,2,3,9,25] [500,13] ?_;refine al (b5 (xV _ (kF Z.2) _ e p' hlen (.inr ⟨e,p',q,xR,rfl,rfl,rfl,rfl⟩) ?_));refine bt fw
  .obtain⟨h1,h2,h3,h4⟩:=s5 k ys e p JP;rw[h1,h2,h3,h4];refine ag fun K3 aZ=>?_;by_cases kG:ys.length=1
   .obtain⟨y,rfl⟩:=akk.1 kG;refine ae fw [1,9,41] [500,13] ?_;refine aJ (ae fw [8] [500] ?_);exact aU (Aq fw (Aq @nd.eq_1 @nd.eq_2))
   .have kH:¬ (ys.length:Int)=1:=aa
    have qf:=(Aq fw (Aq @kG @kH));refine au [1,9,41] [500,13] ?_;refine al (ar (aZ _ ?_));refine AW.imp (aM.freeze 13 bF) ?_;refine AW.st (by simp[ab,bK,dS,sh];rfl) ?_;have qf:=(Aq fw @J0);refine au [8] [500,49] ?_;refine dT fw 49 ?_;refine bT ?_;simp[D.le,D.le.go,aR,ab,bK,dS,Hp kG,dS,b7,D.le_refl,D.bR]
theorem adY (G:ay) (t:List UInt8) (ht:t.length<=2000) (g:FuncId) (s:UInt8) (sn:Int) (fQ:(s.toNat:Int)=sn) (eH:s≠0) (J0:Utf8.encode sn=bs [s]) (a:Int) (d:Nat) (f:Nat->Rs Ex) (hf:lM t f) (oO:List Ex->Ex) (xU:∀ l,dR (oO l)=nd s (l.map dR))
  (fh:Reads G t [500,501] [(501,.box 321 [.ref 500 0 0])] g [.d (ab a),.ref 501 0 0] d f):Reads G t [500,501] [(501,.box 321 [.ref 500 0 0])] 254 [.ref 500 0 0,.d (.v (.int .u8 sn)),.d (ab a),.fn (.func g) [.ref 501 0 0]] d (fun i=>(lH t s f i []).map oO):=by
 obtain⟨yF,kF,fh⟩:=fh;refine Hj fun i hi=>?_;generalize hR:lH t s f i []=R;generalize hZ:zb t s f i []=Z;refine⟨nd s (Z.1.map dR ++ [yF Z.2]),kF Z.2,?_⟩
 have s5:∀ (k:Nat) (ys:List D) (e p:Int),((e=0/\p = -1/\∃ acc,ys=acc.map dR/\R = .ok acc k)\/(∃ c p' q,R = .err c p' q/\e=c/\p=p'/\ys=Z.1.map dR ++ [yF Z.2]/\k=kF Z.2))->
   jS (R.map oO) (nd s (Z.1.map dR ++ [yF Z.2]))=nd s ys/\jy (R.map oO) (kF Z.2)=k/\eR (R.map oO)=e/\pR (R.map oO)=p:=by
  rintro k ys e p (⟨rfl,rfl,acc,rfl,rfl⟩ | ⟨c,p',q,rfl,rfl,rfl,rfl,rfl⟩)
  .exact⟨by simp[Rs.map,jS,xU],rfl,rfl,rfl⟩
  .exact⟨rfl,rfl,rfl,rfl⟩
 have ld:∀ (n i:Nat) (acc:List Ex),i<=t.length->t.length+1 - i<=n->∀ c p q,iS t s f n i acc = .err c p q->0 < c/\(yF (po t s f n i acc).2).one=true/\kF (po t s f n i acc).2<=t.length+d:=by
  intro n
  induction n with
  | zero=>intro i acc hi hn;omega
  | succ n ih=>
   intro i acc hi hn c p q h;rw[iS]at h;rw[po]
   cases cm:f i with
   | err c' p' q'=>
    rw[cm]at h;simp only[Rs.err.injEq]at h;obtain⟨rfl,-,-⟩:=h;exact (fh i hi).2 _ _ _ cm
   | ok x j=>
    rw[cm]at h;obtain⟨g1,g2⟩:=hf i x j hi cm;obtain⟨t1,t2,t3⟩:=oL (c:=s) g2;dsimp only at h ⊢;split at h
    .rename_i cY;rw[if_pos cY];exact ih _ _ t2 aa c p q h
    .cases h
 refine⟨?_,fun c p q h=>?_⟩
 rotate_left
 .cases R with
  | ok l j=>cases h
  | err c' p' q'=>
   simp only[Rs.map,Rs.err.injEq]at h;obtain⟨rfl,rfl,rfl⟩:=h;obtain⟨h1,h2,h3⟩:=ld _ i [] hi (ajJ _) _ _ _ hR
   have JC:(po t s f (t.length+1 - i) i []).2=Z.2:=by rw[<- hZ];rfl
   rw[JC]at h2 h3;refine⟨h1,TQ fun y hy=>?_,h3⟩
   rcases ajR.1 hy with hy | hy
   .obtain⟨x,_,rfl⟩:=akh.1 hy;exact xC x
   .simp at hy;subst hy;exact h2
 generalize hyE:nd s (Z.1.map dR ++ [yF Z.2])=yE at s5 ⊢;generalize R.map oO=RR at s5 ⊢;refine MC.aQ (aC _) func254 rfl rfl (rs:=[.tmp 8]) results254 (by simp[ntmps254]) rfl fun X=>?_;simp only[ntmps254];have fw:=alQ;refine ae fw [0,1,2,3] [500,501] ?_;have J8:=(fh i hi).1
 have kY:(jS (f i) (yF i)).one=true:=by
  cases cm:f i with
  | ok x j=>exact xC x
  | err c p q=>exact ((fh i hi).2 _ _ _ cm).2.1
 have Aj:=cells_one kY;have qf:=(Aq fw @Aj);refine jW J8 [0,1,2,3,9] [500,501,13] ?_;refine ag fun K1 aF=>?_
 refine cG (S:=Nat×List D×Int×Int) (fun z=>(z.2.2.1=0/\z.2.2.2 = -1/\z.1<=t.length/\∃ acc,z.2.1=acc.map dR/\0 < acc.length/\acc.length<=z.1/\(if (eC t s z.1).1 then lH t s f (eC t s z.1).2 acc else .ok acc (eC t s z.1).2)=R/\((eC t s z.1).1=true->zb t s f (eC t s z.1).2 acc=Z))\/(0 < z.2.2.1/\z.2.1.length<=2001/\∃ c p q,R = .err c p q/\z.2.2.1=c/\z.2.2.2=p/\z.2.1=Z.1.map dR ++ [yF Z.2]/\z.1=kF Z.2))
  (fun z=>⟨bp [(0,.ref 500 0 0),(1,.d (.v (.int .u8 sn))),(2,.d (ab a)),(3,.fn (.func g) [.ref 501 0 0]),(9,.own 13 0 z.2.1.length)],aq [(500,.box 323 [.d (dS t),int z.1,int z.2.2.1,int z.2.2.2]),(501,.box 321 [.ref 500 0 0]),(13,.sl 119 1 (z.2.1.map fun y=>[y]))]⟩) (fun z=>if z.2.2.1=0 then t.length+1 - z.1 else 0) (jy (f i) (kF i),[jS (f i) (yF i)],eR (f i),pR (f i)) ?_ ?_ ?_
 .refine bt fw
 .cases cm:f i with
  | ok x j=>
   obtain⟨g1,g2⟩:=hf i x j hi cm;rw[vo hf hi,cm]at hR;rw[w8 hf hi,cm]at hZ;exact .inl ⟨rfl,rfl,g2,[x],rfl,ak,by simp[jy];omega,hR,fun h=>by dsimp only[jy]at h ⊢;simpa only[h,if_true,akM]using hZ⟩
  | err c p q=>
   rw[vo hf hi,cm]at hR;rw[w8 hf hi,cm]at hZ;obtain⟨h1,h2,h3⟩:=(fh i hi).2 _ _ _ cm;exact .inr ⟨h1,ak,c,p,0,hR.symm,rfl,rfl,by rw[<- hZ];rfl,by rw[<- hZ];rfl⟩
 .rintro⟨k,ys,e,p⟩ hI;dsimp only at hI ⊢;refine ag fun K2 aw=>?_
  refine (fun xV=>?_) (fun (σ:St) (k:Nat) (ys:List D) (e p:Int) (hl:ys.length<=2001) (JP:(e=0/\p = -1/\∃ acc,ys=acc.map dR/\R = .ok acc k)\/(∃ c p' q,R = .err c p' q/\e=c/\p=p'/\ys=Z.1.map dR ++ [yF Z.2]/\k=kF Z.2)) himp=>
   aF σ (AW.imp (τ:=⟨bp [(0,.ref 500 0 0),(1,.d (.v (.int .u8 sn))),(9,.own 13 0 ys.length)],aq [(500,.box 323 [.d (dS t),int k,int e,int p]),(501,.box 321 [.ref 500 0 0]),(13,.sl 119 1 (ys.map fun y=>[y]))]⟩) himp ?_))
  .rcases hI with⟨rfl,rfl,hk,acc,rfl,JE,Zw,gY,ma⟩ | ⟨he,hlen,c,p',q,xR,rfl,rfl,rfl,rfl⟩
   .have ga:=DS G t k aa hk 0 (-1);have cY:=G3 (t:=t) (i:=k) eH;rw[fQ]at cY;have lW:=Nk (t:=t) (c:=s) (i:=k);obtain⟨t1,t2,t3⟩:=oL (t:=t) (c:=s) hk;have iQ:=lI hk;by_cases hb:((p5 t k).toNat:Int)=sn
    .rw[decide_eq_true hb]at cY;rw[cY]at gY ma lW t3;simp only[if_true]at gY lW;have ma:=ma rfl;have t3:=t3 rfl;rw[lW]at gY ma t2 t3;have qf:=(Aq fw @hb);refine jW ga [0,1,2,3,9,25] [500,501,13] ?_;refine aJ (ar (aw _ ?_));refine bg (ae fw [0,1,2,3,9] [500,501,13] ?_);have s7:=(fh _ t2).1;rw[akQ]at s7
     have su:(jS (f (bx t k+1)) (yF (bx t k+1))).one=true:=by
      cases cm:f (bx t k+1) with
      | ok x j=>exact xC x
      | err c p q=>exact ((fh _ t2).2 _ _ _ cm).2.1
     have uQ:=cells_one su;refine fH (aC _) fun K' ao=>?_;(repeat refine aK fun Kq af=>?_;simp[ab,bK,dS,uQ,su,sh];(repeat refine⟨aa,?_⟩);refine af _ ?_);refine aK fun Kq af=>?_;simp[ab,bK,dS,uQ,su,sh];refine cX.mc (s7) ?_ ?_ ?_ ?_ ?_<;>simp[ab,bK,dS,uQ,su,sh];refine af _ ?_;(repeat refine aK fun Kq af=>?_;simp[ab,bK,dS,uQ,su,sh];(repeat refine⟨aa,?_⟩);refine af _ ?_);refine bJ (ao _ ?_);(try simp only[aV,aX]);refine bh.mk (jy (f (bx t k+1)) (kF (bx t k+1)),acc.map dR ++ [jS (f (bx t k+1)) (yF (bx t k+1))],eR (f (bx t k+1)),pR (f (bx t k+1))) ?_ ?_ ?_
     .cases cm:f (bx t k+1) with
      | ok x j=>
       obtain⟨g1,g2⟩:=hf _ x j t2 cm;rw[vo hf t2,cm]at gY;rw[w8 hf t2,cm]at ma;exact .inl ⟨rfl,rfl,g2,acc ++ [x],by simp[jS],ak,by simp[jy];omega,gY,fun h=>by dsimp only[jy]at h ⊢;simpa only[h,if_true]using ma⟩
      | err c p q=>
       rw[vo hf t2,cm]at gY;rw[w8 hf t2,cm]at ma;obtain⟨h1,h2,h3⟩:=(fh _ t2).2 _ _ _ cm;exact .inr ⟨h1,by simp;omega,c,p,0,gY.symm,rfl,rfl,by rw[<- ma];rfl,by rw[<- ma];rfl⟩
     .cases cm:f (bx t k+1) with
      | ok x j=>
       obtain⟨g1,g2⟩:=hf _ x j t2 cm;simp only[eR,jy,if_true];omega
      | err c p q=>
       obtain⟨h1,h2,h3⟩:=(fh _ t2).2 _ _ _ cm
       have ly:¬ c=0:=aa
       simp[eR,ly];omega
     .refine bt fw
    .rw[decide_eq_false hb]at cY;rw[cY]at gY lW;simp only[ajM,if_false]at gY lW;have qf:=(Aq fw @hb);refine jW ga [0,1,2,3,9,25] [500,501,13] ?_;refine al (b5 (xV _ (bx t k) (acc.map dR) 0 (-1) (by simp;omega) (.inl ⟨rfl,rfl,acc,rfl,by rw[<- gY,lW]⟩) ?_));refine bt fw
   .have lR:¬ e=0:=aa
    have qf:=(Aq fw @lR);refine au [0,1,2,3,9,25] [500,501,13] ?_;refine al (b5 (xV _ (kF Z.2) _ e p' hlen (.inr ⟨e,p',q,xR,rfl,rfl,rfl,rfl⟩) ?_));refine bt fw
  .obtain⟨h1,h2,h3,h4⟩:=s5 k ys e p JP;rw[h1,h2,h3,h4];refine ag fun K3 aZ=>?_;by_cases kG:ys.length=1
   .obtain⟨y,rfl⟩:=akk.1 kG;refine ae fw [1,9,41] [500,501,13] ?_;refine aJ (ae fw [8] [500,501] ?_);exact aU (Aq fw (Aq @nd.eq_1 @nd.eq_2))
   .have kH:¬ (ys.length:Int)=1:=aa
    have qf:=(Aq fw (Aq @kG @kH));refine au [1,9,41] [500,501,13] ?_;refine al (ar (aZ _ ?_));refine AW.imp (aM.freeze 13 bF) ?_;refine AW.st (by simp[ab,bK,dS,sh];rfl) ?_;have qf:=(Aq fw @J0);refine au [8] [500,501,49] ?_;refine dT fw 49 ?_;refine bT ?_;simp[D.le,D.le.go,aR,ab,bK,dS,Hp kG,dS,b7,D.le_refl,D.bR]
theorem aeo {r r' s:Nat} (h:r≠r') (hs:s≠r') (hr:s≠r) (row y5:Row):rU r r' (aq [(r,row),(s,y5)])=aq [(r',row.tr (ik r r') (ij r r')),(s,y5.tr (ik r r') (ij r r'))]:=by
 funext q;unfold rU;by_cases h1:q=r'
 .subst h1;simp[aq,List.lookup]
 .rw[if_neg h1];by_cases h2:q=r
  .subst h2;simp[aq,List.lookup,beq_eq_false_iff_ne.2 h1,beq_eq_false_iff_ne.2 (akI hr)]
  .by_cases h3:q=s
   .subst h3;simp[aq,List.lookup,h2,beq_eq_false_iff_ne.2 h1,beq_eq_false_iff_ne.2 h2]
   .simp[aq,List.lookup,h2,beq_eq_false_iff_ne.2 h1,beq_eq_false_iff_ne.2 h2,beq_eq_false_iff_ne.2 h3]
theorem W4 (l:List Ex):dR (ur l)=nd 38 (l.map dR):=by
 match l with
 | []=>rfl
 | [x]=>rfl
 | x :: y :: l=>rw[Hp ak];simp[ur,dR,zL]
theorem W6 (l:List Ex):dR (uu l)=nd 124 (l.map dR):=by
 match l with
 | []=>rfl
 | [x]=>rfl
 | x :: y :: l=>rw[Hp ak];simp[uu,dR,zL]
theorem l33:(⟨#[33]⟩:ByteArray)=bs [33]:=rfl
theorem abY:(⟨#[98,105,116]⟩:ByteArray)=bs [98,105,116]:=rfl
theorem XM:Utf8.encode 38=bs [38]:=by decide +kernel
theorem XK:Utf8.encode 124=bs [124]:=by decide +kernel
theorem XN:Utf8.encode 48=bs [48]:=by decide +kernel
theorem XO:Utf8.encode 49=bs [49]:=by decide +kernel
theorem XP:Utf8.encode 94=bs [94]:=by decide +kernel
theorem XL:Utf8.encode 126=bs [126]:=by decide +kernel
theorem al7:type_of% (Aq @bK.eq_1 @alw):=(Aq @bK.eq_1 @alw)
theorem ad1 (G:ay) (t:List UInt8) (ht:t.length<=2000) (a:Int) (d:Nat) (h:Reads G t [500] [] 256 [.ref 500 0 0,.d (ab a)] d (cI t d)) :
  Reads G t [500,501] [(501,.box 321 [.ref 500 0 0])] 255 [.d (ab a),.ref 501 0 0] d (nt t (cI t d)):=by
 obtain⟨yF,kF,hr⟩:=adX G t ht 256 38 38 rfl bF XM a d (cI t d) (oI t d) ur W4 h;refine⟨yF,kF,fun i hi=>⟨?_,(hr i hi).2⟩⟩;have hc:=(hr i hi).1;have hR:nt t (cI t d) i=(lH t 38 (cI t d) i []).map ur:=rfl;dsimp only at hc;rw[<- hR]at hc;generalize nt t (cI t d) i=R at hc ⊢;refine MC.aQ (aC _) func255 rfl rfl (rs:=[.tmp 3]) results255 (by simp[ntmps255]) rfl fun X=>?_;simp only[ntmps255];have fw:=alQ;refine ae fw [0,1] [500,501] ?_;refine bG fw hc [3] [500,501] ?_;exact aU (Aq fw al7)
theorem Tj (G:ay) (t:List UInt8) (ht:t.length<=2000) (a:Int) (d:Nat) (h:Reads G t [500] [] 256 [.ref 500 0 0,.d (ab a)] d (cI t d)) :
  Reads G t [500] [] 202 [.ref 500 0 0,.d (ab a)] d (lE t (cI t d)):=by
 obtain⟨yF,kF,hr⟩:=adY G t ht 255 124 124 rfl bF XK a d (nt t (cI t d)) (BJ (oI t d)) uu W6 (ad1 G t ht a d h);refine⟨yF,kF,fun i hi=>⟨?_,(hr i hi).2⟩⟩;have hc:=(hr i hi).1;have hR:lE t (cI t d) i=(lH t 124 (nt t (cI t d)) i []).map uu:=rfl;dsimp only at hc;rw[<- hR]at hc;generalize lE t (cI t d) i=R at hc ⊢;refine MC.aQ (aC _) func202 rfl rfl (rs:=[.tmp 4]) results202 (by simp[ntmps202]) rfl fun X=>?_;simp only[ntmps202];have fw:=alQ;refine ae fw [1,2] [2,500] ?_;refine AW.imp (aM.dI (r:=2) (r':=501) bF ak) ?_;refine AW.st (by simp[ik,ij,Go.Av.dI,aeo];rfl) ?_;refine bG fw hc [4] [500,501] ?_;exact aU (Aq fw al7)
theorem ac7 {t:List UInt8} {i:Nat} {c:UInt8} (h:t[bx t i]? = some c):p5 t i=c:=by
 unfold p5;rw[OF,h];rfl
theorem ac6 {t:List UInt8} {i:Nat} {c:UInt8} (hc:c≠0) (h:t[bx t i]?≠some c):¬ ((p5 t i).toNat:Int)=(c.toNat:Int):=by
 have h1:=G3 (t:=t) (i:=i) hc
 have h2:(eC t c i).1=false:=by
  unfold eC;rw[if_neg h]
 rw[h2]at h1;exact of_decide_eq_false h1.symm
def Bb:Rs Ex->Rs Ex
 | .ok x k=>.ok (.not x) k
 | .err c p _=>.err c p 0
theorem Ny {t:List UInt8} {q i j:Nat} {s:List UInt8} (h:fU t q i = .ok s j):jk t (bx t i)=s:=by
 unfold fU at h;split at h
 .cases h
 .split at h
  .cases h
  .simp only[Rs.ok.injEq]at h;exact h.1
theorem Nz {t:List UInt8} {q i p q':Nat} {c:Int} (hi:i<=t.length) (h:fU t q i = .err c p q'):0 < c/\p<=t.length:=by
 have iQ:=lI hi;unfold fU at h;split at h
 .simp only[Rs.err.injEq]at h;omega
 .split at h
  .simp only[Rs.err.injEq]at h;omega
  .cases h
theorem adA (G:ay) (t:List UInt8) (ht:t.length<=2000):∀ (d:Nat) (a:Int),d<=20->a+d=20->Reads G t [500] [] 256 [.ref 500 0 0,.d (ab a)] d (cI t d):=by
 intro d
 induction d with
 | zero=>
  intro a _ ha;refine Hj fun i hi=>⟨.v (.pointer none),bx t i,?_,fun c p q h=>?_⟩
  .have eQ:=DQ G t i aa hi 4
   have ny:20<=a:=aa
   rw[cI];show MC _ _ _ _ _ _ (.d (.v (.pointer none))) (aq (bK t (bx t i) 4 (bx t i) ++ []));refine MC.aQ (aC _) func256 rfl rfl (rs:=[.tmp 4]) results256 (by simp[ntmps256]) rfl fun X=>?_;simp only[ntmps256];have fw:=alQ;refine ae fw [0,1] [500] ?_;refine ag fun K1 aF=>ae fw [0,1,12] [500] ?_;refine al (ar (aF _ ?_));refine ag fun K2 aw=>?_;have qf:=(Aq fw @ny);refine au [0,1,14] [500] ?_;refine aJ (bG fw eQ [4] [500] ?_);exact aU (Aq fw al7)
  .rw[cI]at h;simp only[Rs.err.injEq]at h;have:=lI hi;exact⟨aa,rfl,aa⟩
 | succ d ih=>
  intro a hd ha;have Dj:=ih (a+1) aa aa;have yI:=Tj G t ht (a+1) d Dj;obtain⟨yF,kF,Dj⟩:=Dj;obtain⟨yO,kO,yI⟩:=yI;refine Hj fun i hi=>?_;have ga:=DS G t i aa hi 0 (-1);have iQ:=lI hi
  have ny:¬ 20<=a:=aa
  have P1:0<=a:=aa
  have wT:=fun (c:UInt8) (h:t[bx t i]? = some c)=>ac7 h;have wR:=fun (c:UInt8) (hc:c≠0) (h:t[bx t i]?≠some c)=>ac6 hc h;have aH:∀ {c:UInt8},t[bx t i]? = some c->bx t i+1<=t.length:=fun h=>(BY.1 h).1;rw[cI];generalize p5 t i=b at ga wT wR;generalize bx t i=j at ga iQ wT wR aH ⊢;by_cases sO:t[j]? = some 33
  .rw[if_pos sO];obtain rfl:=wT 33 sO;have hc:=(Dj (j+1) (aH sO)).1;rw[akQ]at hc;have he:=(Dj (j+1) (aH sO)).2
   have kY:(jS (cI t d (j+1)) (yF (j+1))).one=true:=by
    cases cm:cI t d (j+1) with
    | ok x k=>exact xC x
    | err c p q=>exact (he _ _ _ cm).2.1
   have Aj:=cells_one kY
   change ∃ y k,Er G t [500] [] 256 [.ref 500 0 0,.d (ab a)] (d+1) (Bb (cI t d (j+1))) i y k
   generalize uK:cI t d (j+1)=R at hc he kY Aj ⊢;refine⟨.ip [dS [33],dS [],.sl none [[yF (j+1)]]],kF (j+1),?_,fun c p q h=>?_⟩
   .have h1:jS (Bb R) (.ip [dS [33],dS [],.sl none [[yF (j+1)]]]) = .ip [dS [33],dS [],.sl none [[jS R (yF (j+1))]]]:=by cases R<;>rfl
    have h2:jy (Bb R) (kF (j+1))=jy R (kF (j+1)):=by cases R<;>rfl
    have h3:eR (Bb R)=eR R:=by cases R<;>rfl
    have h4:pR (Bb R)=pR R:=by cases R<;>rfl
    rw[h1,h2,h3,h4];refine MC.aQ (aC _) func256 rfl rfl (rs:=[.tmp 4]) results256 (by simp[ntmps256]) rfl fun X=>?_;simp only[ntmps256];have fw:=alQ;refine ae fw [0,1] [500] ?_;refine ag fun K1 aF=>ae fw [0,1,12] [500] ?_;refine al (ar (aF _ ?_));refine ag fun K2 aw=>?_;have qf:=(Aq fw @ny);refine au [0,1,14] [500] ?_;refine al (ar (aw _ ?_));refine ag fun K3 aZ=>bG fw ga [0,1,5] [500] ?_;refine ae fw [0,1,5,19] [500] ?_;refine bg (ae fw [0,1,5,19,20] [500] ?_);refine aJ (ae fw [0,1] [500] ?_);have qf:=(Aq fw (Aq @Aj (Aq @kY @l33)));refine jW hc [4] [33,35,500] ?_;refine AW.imp (aM.freeze 33 bF) ?_;refine AW.st (by simp[ab,bK,dS];rfl) ?_;refine dT fw 35 ?_;refine bT ?_;simp[D.le,D.le.go,aR,ab,bK,dS,bK,dS,b7,D.le_refl,D.bR]
   .cases R with
    | ok x k=>cases h
    | err c' p' q'=>
     simp only[Bb,Rs.err.injEq]at h;obtain⟨rfl,rfl,rfl⟩:=h;obtain⟨g1,g2,g3⟩:=he _ _ _ rfl;exact⟨g1,rfl,aa⟩
  rw[if_neg sO];have n33:¬ (b.toNat:Int)=33:=wR 33 bF sO;by_cases c40:t[j]? = some 40
  .rw[if_pos c40];obtain rfl:=wT 40 c40;have hc:=(yI (j+1) (aH c40)).1;rw[akQ]at hc;have he:=(yI (j+1) (aH c40)).2
   cases hr:lE t (cI t d) (j+1) with
   | err c p q=>
    rw[hr]at hc;obtain⟨g1,g2,g3⟩:=he _ _ _ hr
    have g4:¬ c=0:=aa
    refine⟨yO (j+1),kO (j+1)+1,?_,fun c' p' q' h=>?_⟩
    .show MC _ _ _ _ _ _ (.d (yO (j+1))) (aq (bK t ((kO (j+1)+1:Nat):Int) c p ++ []));rw[akQ];refine MC.aQ (aC _) func256 rfl rfl (rs:=[.tmp 4]) results256 (by simp[ntmps256]) rfl fun X=>?_;simp only[ntmps256];have fw:=alQ;refine ae fw [0,1] [500] ?_;refine ag fun K1 aF=>ae fw [0,1,12] [500] ?_;refine al (ar (aF _ ?_));refine ag fun K2 aw=>?_;have qf:=(Aq fw @ny);refine au [0,1,14] [500] ?_;refine al (ar (aw _ ?_));refine ag fun K3 aZ=>bG fw ga [0,1,5] [500] ?_;refine ae fw [0,1,5,19] [500] ?_;refine bg (ae fw [0,1,5,19,20] [500] ?_);refine al (ae fw [0,1,5,19,36] [500] ?_);refine aJ (ae fw [0,1] [500] ?_);refine bG (Aq fw (Aq @jS.eq_1 (Aq @jS.eq_2 (Aq @jy.eq_1 (Aq @jy.eq_2 (Aq @eR.eq_1 (Aq @eR.eq_2 (Aq @pR.eq_1 @pR.eq_2)))))))) hc [0,6] [500] ?_;refine ag fun K4 cr=>?_;have qf:=(Aq fw @g4);refine au [0,6,59] [500] ?_;refine al (ar (cr _ ?_));refine ae fw [6] [500] ?_;refine ae fw [4] [500] ?_;exact aU (Aq fw al7)
    .simp only[Rs.err.injEq]at h;obtain⟨rfl,rfl,rfl⟩:=h;exact⟨g1,g2,aa⟩
   | ok x k=>
    rw[hr]at hc;dsimp only[jS,jy,eR,pR]at hc;have hk:=(vm (oI t d) (j+1) x k (aH c40) hr).2;have ou:=DS G t k aa hk 0 (-1);have fP:=lI hk;have eQ:=DQ G t (bx t k) aa fP 3;rw[zc hk]at eQ;have cY:=G3 (t:=t) (i:=k) (c:=41) bF;have lW:=Nk (t:=t) (c:=41) (i:=k);have ZX:((41:UInt8).toNat:Int)=41:=rfl;rw[ZX]at cY;dsimp only;by_cases hb:((p5 t k).toNat:Int)=41
    .rw[decide_eq_true hb]at cY;rw[cY]at lW ⊢;simp only[if_true]at lW ⊢;rw[lW];refine⟨default,0,?_,fun c p q h=>by cases h⟩;show MC _ _ _ _ _ _ (.d (dR x)) (aq (bK t ((bx t k+1:Nat):Int) 0 (-1) ++ []));rw[akQ];obtain⟨cx,hx⟩:=zK x;rw[hx]at hc ⊢;refine MC.aQ (aC _) func256 rfl rfl (rs:=[.tmp 4]) results256 (by simp[ntmps256]) rfl fun X=>?_;simp only[ntmps256];have fw:=alQ;refine ae fw [0,1] [500] ?_;refine ag fun K1 aF=>ae fw [0,1,12] [500] ?_;refine al (ar (aF _ ?_));refine ag fun K2 aw=>?_;have qf:=(Aq fw @ny);refine au [0,1,14] [500] ?_;refine al (ar (aw _ ?_));refine ag fun K3 aZ=>bG fw ga [0,1,5] [500] ?_;refine ae fw [0,1,5,19] [500] ?_;refine bg (ae fw [0,1,5,19,20] [500] ?_);refine al (ae fw [0,1,5,19,36] [500] ?_);refine aJ (ae fw [0,1] [500] ?_);refine bG fw hc [0,6] [500] ?_;refine ag fun K4 cr=>?_;have qf:=(Aq fw @hb);refine jW ou [0,6,59] [500] ?_;refine al (ar (cr _ ?_));refine ae fw [6] [500] ?_;refine ae fw [4] [500] ?_;exact aU (Aq fw al7)
    .rw[decide_eq_false hb]at cY;rw[cY]at lW ⊢;simp only[ajM,if_false]at lW ⊢;rw[lW];refine⟨.v (.pointer none),bx t k,?_,fun c p q h=>?_⟩
     .show MC _ _ _ _ _ _ (.d (.v (.pointer none))) (aq (bK t (bx t k) 3 (bx t k) ++ []));obtain⟨cx,hx⟩:=zK x;rw[hx]at hc;refine MC.aQ (aC _) func256 rfl rfl (rs:=[.tmp 4]) results256 (by simp[ntmps256]) rfl fun X=>?_;simp only[ntmps256];have fw:=alQ;refine ae fw [0,1] [500] ?_;refine ag fun K1 aF=>ae fw [0,1,12] [500] ?_;refine al (ar (aF _ ?_));refine ag fun K2 aw=>?_;have qf:=(Aq fw @ny);refine au [0,1,14] [500] ?_;refine al (ar (aw _ ?_));refine ag fun K3 aZ=>bG fw ga [0,1,5] [500] ?_;refine ae fw [0,1,5,19] [500] ?_;refine bg (ae fw [0,1,5,19,20] [500] ?_);refine al (ae fw [0,1,5,19,36] [500] ?_);refine aJ (ae fw [0,1] [500] ?_);refine bG fw hc [0,6] [500] ?_;refine ag fun K4 cr=>?_;have qf:=(Aq fw @hb);refine jW ou [0,6,59] [500] ?_;refine aJ (bG fw eQ [4] [500] ?_);exact aU (Aq fw al7)
     .simp only[Rs.err.injEq]at h;exact⟨aa,rfl,aa⟩
  rw[if_neg c40];have A7:¬ (b.toNat:Int)=40:=wR 40 bF c40;by_cases vG:t[j]? = some 48
  .rw[if_pos vG];obtain rfl:=wT 48 vG;have:=aH vG;refine⟨default,0,?_,fun c p q h=>by cases h⟩;show MC _ _ _ _ _ _ (.d (.ip [dS [48],dS [],eE])) (aq (bK t ((j+1:Nat):Int) 0 (-1) ++ []));rw[akQ];refine MC.aQ (aC _) func256 rfl rfl (rs:=[.tmp 4]) results256 (by simp[ntmps256]) rfl fun X=>?_;simp only[ntmps256];have fw:=alQ;refine ae fw [0,1] [500] ?_;refine ag fun K1 aF=>ae fw [0,1,12] [500] ?_;refine al (ar (aF _ ?_));refine ag fun K2 aw=>?_;have qf:=(Aq fw @ny);refine au [0,1,14] [500] ?_;refine al (ar (aw _ ?_));refine ag fun K3 aZ=>bG fw ga [0,1,5] [500] ?_;refine ae fw [0,1,5,19] [500] ?_;refine bg (ae fw [0,1,5,19,20] [500] ?_);refine al (ae fw [0,1,5,19,36] [500] ?_);refine al (ag fun K5 cg=>?_);refine ae fw [0,5,19,70] [500] ?_;refine aJ (ar (cg _ ?_));refine aJ (ae fw [5] [500] ?_);have qf:=(Aq fw (Aq @XN @eE.eq_1));refine au [4] [83,500] ?_;refine dT fw 83 ?_;refine bT ?_;simp[D.le,D.le.go,aR,ab,bK,dS,bK,dS,eE,b7,D.le_refl,D.bR]
  rw[if_neg vG];have A8:¬ (b.toNat:Int)=48:=wR 48 bF vG;by_cases c49:t[j]? = some 49
  .rw[if_pos c49];obtain rfl:=wT 49 c49;have:=aH c49;refine⟨default,0,?_,fun c p q h=>by cases h⟩;show MC _ _ _ _ _ _ (.d (.ip [dS [49],dS [],eE])) (aq (bK t ((j+1:Nat):Int) 0 (-1) ++ []));rw[akQ];refine MC.aQ (aC _) func256 rfl rfl (rs:=[.tmp 4]) results256 (by simp[ntmps256]) rfl fun X=>?_;simp only[ntmps256];have fw:=alQ;refine ae fw [0,1] [500] ?_;refine ag fun K1 aF=>ae fw [0,1,12] [500] ?_;refine al (ar (aF _ ?_));refine ag fun K2 aw=>?_;have qf:=(Aq fw @ny);refine au [0,1,14] [500] ?_;refine al (ar (aw _ ?_));refine ag fun K3 aZ=>bG fw ga [0,1,5] [500] ?_;refine ae fw [0,1,5,19] [500] ?_;refine bg (ae fw [0,1,5,19,20] [500] ?_);refine al (ae fw [0,1,5,19,36] [500] ?_);refine al (ag fun K5 cg=>?_);refine ae fw [0,5,19,70] [500] ?_;refine al (gR fw cg [0,5,19,70] [500] ?_);refine aJ (ae fw [5] [500] ?_);have qf:=(Aq fw (Aq @XO @eE.eq_1));refine au [4] [83,500] ?_;refine dT fw 83 ?_;refine bT ?_;simp[D.le,D.le.go,aR,ab,bK,dS,bK,dS,eE,b7,D.le_refl,D.bR]
  rw[if_neg c49];have A9:¬ (b.toNat:Int)=49:=wR 49 bF c49;by_cases uo:t[j]? = some 94
  .rw[if_pos uo];obtain rfl:=wT 94 uo;have hj:=aH uo;have hw:=MF G t 1 (j+1) aa hj;rw[akQ]at hw;have sy:∀ s k,fU t 1 (j+1) = .ok s k->jk t (bx t (j+1))=s:=fun s k h=>Ny h;have wG:∀ c p q',fU t 1 (j+1) = .err c p q'->0 < c/\p<=t.length:=fun c p q' h=>Nz hj h;generalize hW:fU t 1 (j+1)=W at hw sy wG ⊢;generalize jk t (bx t (j+1))=sw at hw sy;refine⟨.ip [dS [94],dS sw,eE],cR W,?_,fun c p q h=>?_⟩
   .have h1:jS (W.map .jA) (.ip [dS [94],dS sw,eE]) = .ip [dS [94],dS sw,eE]:=by
     cases W with
     | ok s k=>obtain rfl:=sy _ _ rfl;rfl
     | err c p q=>rfl
    have h2:jy (W.map Ex.jA) (cR W)=cR W:=by cases W<;>rfl
    have h3:eR (W.map Ex.jA)=eR W:=by cases W<;>rfl
    have h4:pR (W.map Ex.jA)=pR W:=by cases W<;>rfl
    rw[h1,h2,h3,h4];refine MC.aQ (aC _) func256 rfl rfl (rs:=[.tmp 4]) results256 (by simp[ntmps256]) rfl fun X=>?_;simp only[ntmps256];have fw:=alQ;refine ae fw [0,1] [500] ?_;refine ag fun K1 aF=>ae fw [0,1,12] [500] ?_;refine al (ar (aF _ ?_));refine ag fun K2 aw=>?_;have qf:=(Aq fw @ny);refine au [0,1,14] [500] ?_;refine al (ar (aw _ ?_));refine ag fun K3 aZ=>bG fw ga [0,1,5] [500] ?_;refine ae fw [0,1,5,19] [500] ?_;refine bg (ae fw [0,1,5,19,20] [500] ?_);refine al (ae fw [0,1,5,19,36] [500] ?_);refine al (ag fun K5 cg=>?_);refine ae fw [0,5,19,70] [500] ?_;refine al (gR fw cg [0,5,19,70] [500] ?_);refine al (ag fun K6 eB=>?_);refine ae fw [0,5,19,84] [500] ?_;refine aJ (ar (eB _ ?_));refine aJ (ae fw [0,5] [500] ?_);have qf:=(Aq fw (Aq @XP @eE.eq_1));refine jW hw [4] [99,500] ?_;refine dT fw 99 ?_;refine bT ?_;simp[D.le,D.le.go,aR,ab,bK,dS,bK,dS,eE,b7,D.le_refl,D.bR]
   .cases W with
    | ok s k=>cases h
    | err c' p' q'=>
     simp only[Rs.map,Rs.err.injEq]at h;obtain⟨rfl,rfl,rfl⟩:=h;obtain⟨g1,g2⟩:=wG _ _ _ rfl;exact⟨g1,rfl,by simp only[cR];omega⟩
  rw[if_neg uo];have Ba:¬ (b.toNat:Int)=94:=wR 94 bF uo;by_cases uj:t[j]? = some 126
  .rw[if_pos uj];obtain rfl:=wT 126 uj;have hj:=aH uj;have hw:=MF G t 2 (j+1) aa hj;rw[akQ]at hw;have sy:∀ s k,fU t 2 (j+1) = .ok s k->jk t (bx t (j+1))=s:=fun s k h=>Ny h;have wG:∀ c p q',fU t 2 (j+1) = .err c p q'->0 < c/\p<=t.length:=fun c p q' h=>Nz hj h;generalize hW:fU t 2 (j+1)=W at hw sy wG ⊢;generalize jk t (bx t (j+1))=sw at hw sy;refine⟨.ip [dS [126],dS sw,eE],cR W,?_,fun c p q h=>?_⟩
   .have h1:jS (W.map .jm) (.ip [dS [126],dS sw,eE]) = .ip [dS [126],dS sw,eE]:=by
     cases W with
     | ok s k=>obtain rfl:=sy _ _ rfl;rfl
     | err c p q=>rfl
    have h2:jy (W.map Ex.jm) (cR W)=cR W:=by cases W<;>rfl
    have h3:eR (W.map Ex.jm)=eR W:=by cases W<;>rfl
    have h4:pR (W.map Ex.jm)=pR W:=by cases W<;>rfl
    rw[h1,h2,h3,h4];refine MC.aQ (aC _) func256 rfl rfl (rs:=[.tmp 4]) results256 (by simp[ntmps256]) rfl fun X=>?_;simp only[ntmps256];have fw:=alQ;refine ae fw [0,1] [500] ?_;refine ag fun K1 aF=>ae fw [0,1,12] [500] ?_;refine al (ar (aF _ ?_));refine ag fun K2 aw=>?_;have qf:=(Aq fw @ny);refine au [0,1,14] [500] ?_;refine al (ar (aw _ ?_));refine ag fun K3 aZ=>bG fw ga [0,1,5] [500] ?_;refine ae fw [0,1,5,19] [500] ?_;refine bg (ae fw [0,1,5,19,20] [500] ?_);refine al (ae fw [0,1,5,19,36] [500] ?_);refine al (ag fun K5 cg=>?_);refine ae fw [0,5,19,70] [500] ?_;refine al (gR fw cg [0,5,19,70] [500] ?_);refine al (ag fun K6 eB=>?_);refine ae fw [0,5,19,84] [500] ?_;refine al (gR fw eB [0,5,84] [500] ?_);refine aJ (ae fw [0,5] [500] ?_);have qf:=(Aq fw (Aq @XL @eE.eq_1));refine jW hw [4] [99,500] ?_;refine dT fw 99 ?_;refine bT ?_;simp[D.le,D.le.go,aR,ab,bK,dS,bK,dS,eE,b7,D.le_refl,D.bR]
   .cases W with
    | ok s k=>cases h
    | err c' p' q'=>
     simp only[Rs.map,Rs.err.injEq]at h;obtain⟨rfl,rfl,rfl⟩:=h;obtain⟨g1,g2⟩:=wG _ _ _ rfl;exact⟨g1,rfl,by simp only[cR];omega⟩
  rw[if_neg uj];have n126:¬ (b.toNat:Int)=126:=wR 126 bF uj;have hw:=MF G t 3 j aa iQ;have sy:∀ s k,fU t 3 j = .ok s k->jk t (bx t j)=s:=fun s k h=>Ny h;have wG:∀ c p q',fU t 3 j = .err c p q'->0 < c/\p<=t.length:=fun c p q' h=>Nz iQ h;generalize hW:fU t 3 j=W at hw sy wG ⊢;generalize jk t (bx t j)=sw at hw sy;refine⟨.ip [dS [98,105,116],dS sw,eE],cR W,?_,fun c p q h=>?_⟩
  .have h1:jS (W.map .bit) (.ip [dS [98,105,116],dS sw,eE]) = .ip [dS [98,105,116],dS sw,eE]:=by
    cases W with
    | ok s k=>obtain rfl:=sy _ _ rfl;rfl
    | err c p q=>rfl
   have h2:jy (W.map Ex.bit) (cR W)=cR W:=by cases W<;>rfl
   have h3:eR (W.map Ex.bit)=eR W:=by cases W<;>rfl
   have h4:pR (W.map Ex.bit)=pR W:=by cases W<;>rfl
   rw[h1,h2,h3,h4];refine MC.aQ (aC _) func256 rfl rfl (rs:=[.tmp 4]) results256 (by simp[ntmps256]) rfl fun X=>?_;simp only[ntmps256];have fw:=alQ;refine ae fw [0,1] [500] ?_;refine ag fun K1 aF=>ae fw [0,1,12] [500] ?_;refine al (ar (aF _ ?_));refine ag fun K2 aw=>?_;have qf:=(Aq fw @ny);refine au [0,1,14] [500] ?_;refine al (ar (aw _ ?_));refine ag fun K3 aZ=>bG fw ga [0,1,5] [500] ?_;refine ae fw [0,1,5,19] [500] ?_;refine bg ?_;have qf:=(Aq fw (Aq @n33 (Aq @A7 (Aq @A8 (Aq @A9 (Aq @Ba @n126))))));refine au [0,1,5,19,20] [500] ?_;refine al ?_;have qf:=(Aq fw (Aq @n33 (Aq @A7 (Aq @A8 (Aq @A9 (Aq @Ba @n126))))));refine au [0,1,5,19,36] [500] ?_;refine al (ag fun K5 cg=>?_);have qf:=(Aq fw (Aq @n33 (Aq @A7 (Aq @A8 (Aq @A9 (Aq @Ba @n126))))));refine au [0,5,19,70] [500] ?_;refine al ?_;have qf:=(Aq fw (Aq @n33 (Aq @A7 (Aq @A8 (Aq @A9 (Aq @Ba @n126))))));refine e6 cg [0,5,19,70] [500] ?_;refine al (ag fun K6 eB=>?_);have qf:=(Aq fw (Aq @n33 (Aq @A7 (Aq @A8 (Aq @A9 (Aq @Ba @n126))))));refine au [0,5,19,84] [500] ?_;refine al ?_;have qf:=(Aq fw (Aq @n33 (Aq @A7 (Aq @A8 (Aq @A9 (Aq @Ba @n126))))));refine e6 eB [0,5,84] [500] ?_;refine al (ar (aZ _ ?_));have qf:=(Aq fw (Aq @eE.eq_1 @abY));refine jW hw [4] [103,500] ?_;refine dT fw 103 ?_;refine bT ?_;simp[D.le,D.le.go,aR,ab,bK,dS,bK,dS,eE,b7,D.le_refl,D.bR]
  .cases W with
   | ok s k=>cases h
   | err c' p' q'=>
    simp only[Rs.map,Rs.err.injEq]at h;obtain⟨rfl,rfl,rfl⟩:=h;obtain⟨g1,g2⟩:=wG _ _ _ rfl;exact⟨g1,rfl,by simp only[cR];omega⟩
def dK (all:Bool):Ex->List UInt8
 | .bit s=>if all then s else []
 | .jA s=>s
 | .jm s=>s
 | _=>[]
def ie (s:List UInt8):List (List UInt8):=if s=[] then [] else [s]
mutual
def dv (all:Bool):Ex->List (List UInt8)
 | .not e=>dv all e
 | .and l=>gb all l
 | .or l=>gb all l
 | e=>ie (dK all e)
def gb (all:Bool):List Ex->List (List UInt8)
 | []=>[]
 | e :: l=>dv all e ++ gb all l
end
theorem SD (all:Bool):∀ a b:List Ex,gb all (a ++ b)=gb all a ++ gb all b
 | [],b=>rfl
 | e :: a,b=>by simp[gb,SD all a b]
theorem Md (all:Bool) {l:List Ex} {i:Nat} (hi:i < l.length):gb all (l.take (i+1))=gb all (l.take i) ++ dv all l[i]:=by
 rw[ajO hi,SD];simp[gb]
theorem Me (all:Bool):∀ (n:Nat) (e:Ex),SizeOf.sizeOf e<=n->(dv all e).length<=bE e
 | 0,e,hn=>by cases e<;>simp at hn
 | n+1,e,hn=>by
  have many:∀ l:List Ex,(∀ x∈l,SizeOf.sizeOf x<=n)->(gb all l).length<=il l:=by
   intro l
   induction l with
   | nil=>intro _;simp[gb]
   | cons x l ih=>
    intro h;have a:=ih fun y hy=>h y (by simp[hy]);have b:=Me all n x (h x ak);simp only[gb,il,ajQ];omega
  have kY:∀ s,(ie s).length<=1:=fun s=>by unfold ie;split<;>simp
  have hp:=EB e
  cases e with
  | not x=>have:=Me all n x (by simp at hn;omega);simp only[dv,bE];omega
  | and l=>
   have:=many l fun x hx=>by have:=aka hx;simp only[Ex.and.sizeOf_spec]at hn;omega
   simp only[dv,bE];omega
  | or l=>
   have:=many l fun x hx=>by have:=aka hx;simp only[Ex.or.sizeOf_spec]at hn;omega
   simp only[dv,bE];omega
  | iD b=>have:=kY (dK all (.iD b));simp only[dv];omega
  | bit s=>have:=kY (dK all (.bit s));simp only[dv];omega
  | jA s=>have:=kY (dK all (.jA s));simp only[dv];omega
  | jm s=>have:=kY (dK all (.jm s));simp only[dv];omega
theorem yV (all:Bool) (e:Ex):(dv all e).length<=bE e:=Me all _ e (ajJ _)
theorem DI (all:Bool):∀ l:List Ex,(gb all l).length<=il l
 | []=>by simp[gb]
 | e :: l=>by have:=yV all e;have:=DI all l;simp only[gb,il,ajQ];omega
def eS (l:List (List UInt8)):List (Nat×Row):=[(502,.box 58 [.own 503 0 l.length]),(503,.sl 9 1 (l.map fun s=>[dS s]))]
def rp (all:Bool):FuncId:=if all then 183 else 216
theorem alW:type_of% (Aq @dK.eq_1 (Aq @dK.eq_2 (Aq @dK.eq_3 (Aq @dK.eq_4 @alw)))):=(Aq @dK.eq_1 (Aq @dK.eq_2 (Aq @dK.eq_3 (Aq @dK.eq_4 @alw))))
theorem alU:type_of% (Aq @alv (Aq @alw (Aq @alI (Aq @alJ @alK)))):=(Aq @alv (Aq @alw (Aq @alI (Aq @alJ @alK))))
theorem acS (G:ay) (e:Ex):aD prog G 183 [dE e] (dS (dK true e)):=by
 by_cases h1:∃ s,e = .bit s
 .obtain⟨s,rfl⟩:=h1;rw[dE];refine aD.aQ (aC _) func183 rfl rfl (rs:=[.tmp 2]) results183 (by simp[ntmps183]) fun X=>?_;simp only[ntmps183,List.map];have fw:=alU;refine ae fw [0] [] ?_;refine ag fun K1 aF=>ae fw [6] [] ?_;refine bg (ae fw [6,8,9] [] ?_);refine aJ (ae fw [3] [] ?_);refine ae fw [2] [] ?_;exact aU (Aq fw alW)
 by_cases h2:∃ s,e = .jA s
 .obtain⟨s,rfl⟩:=h2;rw[dE];refine aD.aQ (aC _) func183 rfl rfl (rs:=[.tmp 2]) results183 (by simp[ntmps183]) fun X=>?_;simp only[ntmps183,List.map];have fw:=alU;refine ae fw [0] [] ?_;refine ag fun K1 aF=>ae fw [6] [] ?_;refine bg (ae fw [6,8,9] [] ?_);refine al (ae fw [6,12,13] [] ?_);refine aJ (ae fw [4] [] ?_);refine ae fw [2] [] ?_;exact aU (Aq fw alW)
 by_cases h3:∃ s,e = .jm s
 .obtain⟨s,rfl⟩:=h3;rw[dE];refine aD.aQ (aC _) func183 rfl rfl (rs:=[.tmp 2]) results183 (by simp[ntmps183]) fun X=>?_;simp only[ntmps183,List.map];have fw:=alU;refine ae fw [0] [] ?_;refine ag fun K1 aF=>ae fw [6] [] ?_;refine bg (ae fw [6,8,9] [] ?_);refine al (ae fw [6,12,13] [] ?_);refine al (ae fw [16,17] [] ?_);refine aJ (ae fw [5] [] ?_);refine ae fw [2] [] ?_;exact aU (Aq fw alW)
 have hk:∃ t c,dE e = .cf t c/\¬ t=149/\¬ t=160/\¬ t=162/\dK true e=[]:=by
  cases e with
  | bit s=>exact absurd ⟨s,rfl⟩ h1
  | jA s=>exact absurd ⟨s,rfl⟩ h2
  | jm s=>exact absurd ⟨s,rfl⟩ h3
  | iD b=>exact⟨_,_,by rw[dE],bF,bF,bF,rfl⟩
  | not b=>exact⟨_,_,by rw[dE],bF,bF,bF,rfl⟩
  | and b=>exact⟨_,_,by rw[dE],bF,bF,bF,rfl⟩
  | or b=>exact⟨_,_,by rw[dE],bF,bF,bF,rfl⟩
 obtain⟨t,c,hy,a1,a2,a3,a4⟩:=hk;rw[a4,hy];refine aD.aQ (aC _) func183 rfl rfl (rs:=[.tmp 2]) results183 (by simp[ntmps183]) fun X=>?_;simp only[ntmps183,List.map];have fw:=alU;refine ae fw [0] [] ?_;refine ag fun K1 aF=>ae fw [6] [] ?_;refine bg ?_;have qf:=(Aq fw @a1);refine au [6,8,9] [] ?_;refine al ?_;have qf:=(Aq fw @a2);refine au [6,12,13] [] ?_;refine al ?_;have qf:=(Aq fw @a3);refine au [16,17] [] ?_;refine al (ar (aF _ ?_));refine ae fw [2] [] ?_;refine bT ?_;simp[D.le,D.le.go,aR,ab,dS,bW,cT,dS,b7,D.le_refl]
theorem XE (G:ay) (e:Ex):aD prog G 216 [dE e] (dS (dK false e)):=by
 by_cases h2:∃ s,e = .jA s
 .obtain⟨s,rfl⟩:=h2;rw[dE];refine aD.aQ (aC _) func216 rfl rfl (rs:=[.tmp 2]) results216 (by simp[ntmps216]) fun X=>?_;simp only[ntmps216,List.map];have fw:=alU;refine ae fw [0] [] ?_;refine ag fun K1 aF=>ae fw [5] [] ?_;refine bg (ae fw [5,7,8] [] ?_);refine aJ (ae fw [3] [] ?_);refine ae fw [2] [] ?_;exact aU (Aq fw alW)
 by_cases h3:∃ s,e = .jm s
 .obtain⟨s,rfl⟩:=h3;rw[dE];refine aD.aQ (aC _) func216 rfl rfl (rs:=[.tmp 2]) results216 (by simp[ntmps216]) fun X=>?_;simp only[ntmps216,List.map];have fw:=alU;refine ae fw [0] [] ?_;refine ag fun K1 aF=>ae fw [5] [] ?_;refine bg (ae fw [5,7,8] [] ?_);refine al (ae fw [11,12] [] ?_);refine aJ (ae fw [4] [] ?_);refine ae fw [2] [] ?_;exact aU (Aq fw alW)
 have hk:∃ t c,dE e = .cf t c/\¬ t=160/\¬ t=162/\dK false e=[]:=by
  cases e with
  | jA s=>exact absurd ⟨s,rfl⟩ h2
  | jm s=>exact absurd ⟨s,rfl⟩ h3
  | iD b=>exact⟨_,_,by rw[dE],bF,bF,rfl⟩
  | bit b=>exact⟨_,_,by rw[dE],bF,bF,rfl⟩
  | not b=>exact⟨_,_,by rw[dE],bF,bF,rfl⟩
  | and b=>exact⟨_,_,by rw[dE],bF,bF,rfl⟩
  | or b=>exact⟨_,_,by rw[dE],bF,bF,rfl⟩
 obtain⟨t,c,hy,a2,a3,a4⟩:=hk;rw[a4,hy];refine aD.aQ (aC _) func216 rfl rfl (rs:=[.tmp 2]) results216 (by simp[ntmps216]) fun X=>?_;simp only[ntmps216,List.map];have fw:=alU;refine ae fw [0] [] ?_;refine ag fun K1 aF=>ae fw [5] [] ?_;refine bg ?_;have qf:=(Aq fw @a2);refine au [5,7,8] [] ?_;refine al ?_;have qf:=(Aq fw @a3);refine au [11,12] [] ?_;refine al (ar (aF _ ?_));refine ae fw [2] [] ?_;refine bT ?_;simp[D.le,D.le.go,aR,ab,dS,bW,cT,dS,b7,D.le_refl]
theorem acN (G:ay) (all:Bool) (e:Ex):aD prog G (rp all) [dE e] (dS (dK all e)):=by
 cases all with
 | true=>exact acS G e
 | false=>exact XE G e
theorem Fe (G:ay) (all:Bool) (l:List (List UInt8)) (e:Ex) (hl:l.length < 2^40):MC prog G [502] 242 ([.d (dE e)] ++ [.d (.ip [.fn (.func (rp all)) []]),.ref 502 0 0]) (aq (eS l)) (.d (.bz [])) (aq (eS (l ++ ie (dK all e)))):=by
 have hn:=acN G all e;obtain⟨t,c,hx⟩:=kW e;rw[hx]at hn ⊢;generalize rp all=g at hn ⊢;generalize dK all e=s at hn ⊢;by_cases hs:s=[]
 .subst hs
  have he:l ++ ie []=l:=by simp[ie]
  rw[he];refine MC.aQ (aC _) func242 rfl rfl (rs:=[]) results242 (by simp[ntmps242]) rfl fun X=>?_;simp only[ntmps242];have fw:=(Aq @alv (Aq @alw @eS.eq_1));refine br fw hn [2,4] [502,503] ?_;refine rg [2,4,9] [502,503] (ew rfl) fun K' ao=>?_;(repeat refine aK fun Kq af=>?_;simp[ab,dS,eS,bo,bu,b7];(repeat refine⟨aa,?_⟩);refine af _ ?_);refine bJ (ao _ (AW.st (by simp[ab,dS,eS,bo,bu,b7];rfl) ?_));refine al (ar ?_);simp[D.le_refl,eS,dS]
 .have he:ie s=[s]:=by unfold ie;rw[if_neg hs]
  have wC:s.isEmpty=false:=by rw[akY];exact hs
  have QQ:(s == [])=false:=by simpa using hs
  rw[he];refine MC.aQ (aC _) func242 rfl rfl (rs:=[]) results242 (by simp[ntmps242]) rfl fun X=>?_;simp only[ntmps242];have fw:=(Aq @alv (Aq @alw @eS.eq_1));refine br fw hn [2,4] [502,503] ?_;refine rg [2,4,9] [502,503] (ew rfl) fun K' ao=>?_;(repeat refine aK fun Kq af=>?_;simp[ab,dS,eS,bo,bu,b7,hs,wC,QQ];(repeat refine⟨aa,?_⟩);refine af _ ?_);refine bJ (ao _ (AW.st (by simp[ab,dS,eS,bo,bu,b7,hs,wC,QQ];rfl) ?_));refine aJ (fH (aC _) fun K' ao=>?_);(repeat refine aK fun Kq af=>?_;simp[ab,dS,eS,sh];(repeat refine⟨aa,?_⟩);refine af _ ?_);refine bJ (ao _ ?_);(try simp only[aV,aX]);simp[D.le_refl,eS,dS]
theorem alT:type_of% (Aq @alv (Aq @alw (Aq @eS.eq_1 (Aq @alI (Aq @alJ @alK))))):=(Aq @alv (Aq @alw (Aq @eS.eq_1 (Aq @alI (Aq @alJ @alK)))))
theorem ah3 (G:ay) (all:Bool):∀ (m:Nat) (e:Ex),SizeOf.sizeOf e<=m->∀ l0:List (List UInt8),l0.length+bE e<=2^39->MC prog G [502] 241 [.d (dE e),.fn (.func 242) [.d (.ip [.fn (.func (rp all)) []]),.ref 502 0 0]] (aq (eS l0)) (.d (.bz [])) (aq (eS (l0 ++ dv all e))):=by
 intro m
 induction m with
 | zero=>intro e bd;cases e<;>simp at bd
 | succ m ih=>
  intro e bd l0 hb;have hbp:=EB e;by_cases hN:∃ x,e = .not x
  .obtain⟨x,rfl⟩:=hN;simp only[bE]at hb;obtain⟨tx,cx,hx⟩:=kW x;have eZ:=Fe G all l0 (.not x) aa;have CV:ie (dK all (.not x))=[]:=rfl;rw[CV,ako,akE]at eZ;have hc:=ih x (by simp at bd;omega) l0 aa;rw[dv];rw[dE,hx];rw[dE,hx]at eZ;rw[hx]at hc;generalize l0 ++ dv all x=l1 at hc ⊢;generalize rp all=g at hc eZ ⊢;refine MC.aQ (aC _) func241 rfl rfl (rs:=[]) results241 (by simp[ntmps241]) rfl fun X=>?_;simp only[ntmps241];have fw:=alT;refine bG fw eZ [0,1] [502,503] ?_;refine ae fw [1,14] [502,503] ?_;refine bg (ae fw [1,14,16,17] [502,503] ?_);refine aJ (ae fw [1,4] [4,502,503] ?_);refine fH (aC _) fun K' ao=>?_;(repeat refine aK fun Kq af=>?_;simp[ab,dS,eS,bW,cT];(repeat refine⟨aa,?_⟩);refine af _ ?_);refine aK fun Kq af=>?_;simp[ab,dS,eS,bW,cT];refine cX.mc (hc) ?_ ?_ ?_ ?_ ?_<;>simp[ab,dS,eS,bW,cT];refine af _ ?_;(repeat refine aK fun Kq af=>?_;simp[ab,dS,eS,bW,cT];(repeat refine⟨aa,?_⟩);refine af _ ?_);refine bJ (ao _ ?_);(try simp only[aV,aX]);simp[D.le_refl,eS,dS]
  by_cases hand:∃ l,e = .and l
  .obtain⟨l,rfl⟩:=hand;simp only[bE]at hb;have eZ:=Fe G all l0 (.and l) aa;have CV:ie (dK all (.and l))=[]:=rfl;rw[CV,ako,akE]at eZ;have nz:=fun (x:Ex) (hx:x∈l)=>ih x (by have:=aka hx;simp only[Ex.and.sizeOf_spec]at bd;omega);have pN:=vF l;rw[dv];rw[dE,ux];rw[dE,ux]at eZ;clear ih;generalize hg:rp all=g at nz eZ ⊢;refine MC.aQ (aC _) func241 rfl rfl (rs:=[]) results241 (by simp[ntmps241]) rfl fun X=>?_;simp only[ntmps241];have fw:=alT;refine bG fw eZ [0,1] [502,503] ?_;refine ae fw [1,14] [502,503] ?_;refine bg (ae fw [1,14,16,17] [502,503] ?_);refine al (ae fw [1,14,23,24] [502,503] ?_);refine aJ (ae fw [1,5] [502,503] ?_);refine ae fw [1,25,26,27] [502,503] ?_;refine cG (S:=Nat) (fun i=>i<=l.length) (fun i=>⟨bp [(1,.fn (.func 242) [.d (.ip [.fn (.func g) []]),.ref 502 0 0]),(25,.d (.sl none (l.map fun e=>[dE e]))),(26,int l.length),(27,int i)],aq (eS (l0 ++ gb all (l.take i)))⟩) (fun i=>l.length - i) 0 ?_ aa ?_
   .refine bt (Aq fw (Aq @gb.eq_1 @gb.eq_2))
   .intro i hi;refine ae fw [1,25,26,27,28] [502,503] ?_;refine ag fun K1 aF=>fG (b:=i < l.length) (by simp[D.le,D.le.go,aR,ab,dS,eS,bW,cT]) (fun hc=>?_) (fun hc=>?_)
    .have dM:i < l.length:=hc;have h1:=Md all dM;have h2:=DI all (l.take i);have h3:=Ir dM;have cK:=nz _ (By dM) (l0 ++ gb all (l.take i)) (by rw[ajQ];omega);rw[akt,<- h1]at cK;obtain⟨tx,cx,hx⟩:=kW l[i];rw[hx]at cK;refine ar (aF _ (ag fun K2 aw=>bg ?_));have qf:=(Aq fw (Aq @dM @hx));refine au [1,7,25,26,27] [502,503] ?_;refine fH (aC _) fun K' ao=>?_;(repeat refine aK fun Kq af=>?_;simp[ab,dS,eS,bW,cT];(repeat refine⟨aa,?_⟩);refine af _ ?_);refine aK fun Kq af=>?_;simp[ab,dS,eS,bW,cT];refine cX.mc (cK) ?_ ?_ ?_ ?_ ?_<;>simp[ab,dS,eS,bW,cT];refine af _ ?_;(repeat refine aK fun Kq af=>?_;simp[ab,dS,eS,bW,cT];(repeat refine⟨aa,?_⟩);refine af _ ?_);refine bJ (ao _ ?_);refine aw _ (AW.norm [1,25,26,27] [502,503] (ew rfl) (AW.st (by simp[ab,dS,eS,bW,cT];rfl) ?_));refine cD fw ?_;(try simp only[aV,aX]);refine bh.mk (i+1) aa aa ?_;refine bt fw
    .obtain rfl:i=l.length:=aa
     refine b5 ?_;simp[D.le_refl,akH,eS,dS]
  by_cases s9:∃ l,e = .or l
  .obtain⟨l,rfl⟩:=s9;simp only[bE]at hb;have eZ:=Fe G all l0 (.or l) aa;have CV:ie (dK all (.or l))=[]:=rfl;rw[CV,ako,akE]at eZ;have nz:=fun (x:Ex) (hx:x∈l)=>ih x (by have:=aka hx;simp only[Ex.or.sizeOf_spec]at bd;omega);have pN:=vF l;rw[dv];rw[dE,ux];rw[dE,ux]at eZ;clear ih;generalize hg:rp all=g at nz eZ ⊢;refine MC.aQ (aC _) func241 rfl rfl (rs:=[]) results241 (by simp[ntmps241]) rfl fun X=>?_;simp only[ntmps241];have fw:=alT;refine bG fw eZ [0,1] [502,503] ?_;refine ae fw [1,14] [502,503] ?_;refine bg (ae fw [1,14,16,17] [502,503] ?_);refine al (ae fw [1,14,23,24] [502,503] ?_);refine al (ae fw [1,36,37] [502,503] ?_);refine aJ (ae fw [1,8] [502,503] ?_);refine ae fw [1,38,39,40] [502,503] ?_;refine cG (S:=Nat) (fun i=>i<=l.length) (fun i=>⟨bp [(1,.fn (.func 242) [.d (.ip [.fn (.func g) []]),.ref 502 0 0]),(38,.d (.sl none (l.map fun e=>[dE e]))),(39,int l.length),(40,int i)],aq (eS (l0 ++ gb all (l.take i)))⟩) (fun i=>l.length - i) 0 ?_ aa ?_
   .refine bt (Aq fw (Aq @gb.eq_1 @gb.eq_2))
   .intro i hi;refine ae fw [1,38,39,40,41] [502,503] ?_;refine ag fun K1 aF=>fG (b:=i < l.length) (by simp[D.le,D.le.go,aR,ab,dS,eS,bW,cT]) (fun hc=>?_) (fun hc=>?_)
    .have dM:i < l.length:=hc;have h1:=Md all dM;have h2:=DI all (l.take i);have h3:=Ir dM;have cK:=nz _ (By dM) (l0 ++ gb all (l.take i)) (by rw[ajQ];omega);rw[akt,<- h1]at cK;obtain⟨tx,cx,hx⟩:=kW l[i];rw[hx]at cK;refine ar (aF _ (ag fun K2 aw=>bg ?_));have qf:=(Aq fw (Aq @dM @hx));refine au [1,10,38,39,40] [502,503] ?_;refine fH (aC _) fun K' ao=>?_;(repeat refine aK fun Kq af=>?_;simp[ab,dS,eS,bW,cT];(repeat refine⟨aa,?_⟩);refine af _ ?_);refine aK fun Kq af=>?_;simp[ab,dS,eS,bW,cT];refine cX.mc (cK) ?_ ?_ ?_ ?_ ?_<;>simp[ab,dS,eS,bW,cT];refine af _ ?_;(repeat refine aK fun Kq af=>?_;simp[ab,dS,eS,bW,cT];(repeat refine⟨aa,?_⟩);refine af _ ?_);refine bJ (ao _ ?_);refine aw _ (AW.norm [1,38,39,40] [502,503] (ew rfl) (AW.st (by simp[ab,dS,eS,bW,cT];rfl) ?_));refine cD fw ?_;(try simp only[aV,aX]);refine bh.mk (i+1) aa aa ?_;refine bt fw
    .obtain rfl:i=l.length:=aa
     refine b5 ?_;simp[D.le_refl,akH,eS,dS]
  have hk:∃ t c,dE e = .cf t c/\¬ t=130/\¬ t=159/\¬ t=132/\dv all e=ie (dK all e):=by
   cases e with
   | not z=>exact absurd ⟨z,rfl⟩ hN
   | and l=>exact absurd ⟨l,rfl⟩ hand
   | or l=>exact absurd ⟨l,rfl⟩ s9
   | iD b=>exact⟨_,_,by rw[dE],bF,bF,bF,rfl⟩
   | bit s=>exact⟨_,_,by rw[dE],bF,bF,bF,rfl⟩
   | jA s=>exact⟨_,_,by rw[dE],bF,bF,bF,rfl⟩
   | jm s=>exact⟨_,_,by rw[dE],bF,bF,bF,rfl⟩
  obtain⟨t,c,hy,h1,h2,h3,h4⟩:=hk;have eZ:=Fe G all l0 e aa;rw[akE]at eZ;rw[h4,hy];rw[hy]at eZ;generalize l0 ++ ie (dK all e)=l1 at eZ ⊢;generalize rp all=g at eZ ⊢;refine MC.aQ (aC _) func241 rfl rfl (rs:=[]) results241 (by simp[ntmps241]) rfl fun X=>?_;simp only[ntmps241];have fw:=alT;refine bG fw eZ [0,1] [502,503] ?_;refine ae fw [1,14] [502,503] ?_;refine bg ?_;have qf:=(Aq fw @h1);refine au [1,14,16,17] [502,503] ?_;refine al ?_;have qf:=(Aq fw @h2);refine au [1,14,23,24] [502,503] ?_;refine al ?_;have qf:=(Aq fw @h3);refine au [1,36,37] [502,503] ?_;refine al (ar ?_);simp[D.le_refl,eS,dS]
def fj (all:Bool) (e:Ex):List (List UInt8):=Lib.compact (nM (dv all e))
theorem Ur (G:ay) (all:Bool) (e:Ex) (hb:bE e<=2^28):aD prog G 182 [dE e,.fn (.func (rp all)) []] (.sl none ((fj all e).map fun s=>[dS s])):=by
 have hlen:=yV all e;have hw:=ah3 G all _ e (ajJ _) [] (by simp;omega);rw[akM]at hw;have yt:=agN G 503 9 (dv all e) aa;have qB:=W8 G 503 9 (nM (dv all e)) (by rw[tO];omega);rw[tO]at qB;have cA:=Lib.compact_length_le (nM (dv all e));rw[tO]at cA;unfold fj;obtain⟨tx,cx,hx⟩:=kW e;rw[hx]at hw ⊢;generalize rp all=g at hw ⊢;generalize dv all e=l at hw yt qB cA hlen ⊢;generalize nM l=z at yt qB cA ⊢
 have cY:List.take (Lib.compact z).length ((Lib.compact z ++ List.replicate (l.length - (Lib.compact z).length) []).map fun s=>[dS s])=(Lib.compact z).map fun s=>[dS s]:=by
  rw[akj,akN ak,sh ak]
 have Ln:(Lib.compact z ++ List.replicate (l.length - (Lib.compact z).length) []).length=l.length:=by simp;omega
 generalize Lib.compact z ++ List.replicate (l.length - (Lib.compact z).length) []=y at qB cY Ln;generalize Lib.compact z=c at qB cA cY ⊢;refine aD.aQ (aC _) func182 rfl rfl (rs:=[.tmp 4]) results182 (by simp[ntmps182]) fun X=>?_;simp only[ntmps182,List.map];have fw:=alT;refine ae fw [0,3] [3] ?_;refine dT fw 3 ?_;refine ae fw [0,3,5] [5] ?_;refine AW.imp (aM.dI (r:=5) (r':=502) trivial ak) ?_;refine AW.st (by simp[ik,ij,Go.Av.dI,Hl];rfl) ?_;refine AW.imp (aM.r8 502 0 503 9 1 rfl rfl rfl) ?_;refine AW.imp (τ:=⟨bp [(0,.d (.cf tx cx)),(3,.d (.ip [.fn (.func g) []])),(5,.ref 502 0 0)],aq (eS [])⟩) ?_ ?_
 .refine bt (Aq fw @eS.eq_1)
 refine bG fw hw [5] [502,503] ?_;refine bG fw yt [5] [502,503] ?_;refine bG fw qB [4] [502,503] ?_
 have hle:c.length<=y.length:=aa
 by_cases uS:c.length=y.length
 .have oB:(y.map fun s=>[dS s])=c.map fun s=>[dS s]:=by rw[<- cY,uS,sh ak]
  simp only[dS]at oB;refine AW.imp (aM.freeze 503 trivial) ?_;refine AW.st (by simp[ab,dS,eS,bW,cT,uS,hle,oB];rfl) ?_;exact aU (Aq fw (Aq @uS @oB))
 .simp only[dS]at cY;refine AW.imp (aM.freeze 503 trivial) ?_;refine AW.st (by simp[ab,dS,eS,bW,cT,uS,hle,cY];rfl) ?_;exact aU (Aq fw @cY)
theorem acT (G:ay) (e:Ex) (hb:bE e<=2^28):aD prog G 107 [dE e] (.sl none ((fj true e).map fun s=>[dS s])):=by
 have hs:=Ur G true e hb;obtain⟨tx,cx,hx⟩:=kW e;rw[hx]at hs ⊢;generalize fj true e=l at hs ⊢;simp only[rp,if_true,if_false,ajM]at hs;refine aD.aQ (aC _) func107 rfl rfl (rs:=[.tmp 2]) results107 (by simp[ntmps107]) fun X=>?_;simp only[ntmps107,List.map];have fw:=alT;refine ae fw [0] [] ?_;refine br fw hs [2] [] ?_;exact aU fw
theorem XF (G:ay) (e:Ex) (hb:bE e<=2^28):aD prog G 160 [dE e] (.sl none ((fj false e).map fun s=>[dS s])):=by
 have hs:=Ur G false e hb;obtain⟨tx,cx,hx⟩:=kW e;rw[hx]at hs ⊢;generalize fj false e=l at hs ⊢;simp only[rp,if_true,if_false,ajM]at hs;refine aD.aQ (aC _) func160 rfl rfl (rs:=[.tmp 2]) results160 (by simp[ntmps160]) fun X=>?_;simp only[ntmps160,List.map];have fw:=alT;refine ae fw [0] [] ?_;refine br fw hs [2] [] ?_;exact aU fw
abbrev Tx:=List UInt8
theorem Nn (a:Tx):¬ a < a:=List.lt_irrefl a
theorem UT {a b c:Tx} (h1:a < b) (h2:b < c):a < c:=List.lt_trans h1 h2
theorem Eh {a b:Tx}:a<=b↔¬ b < a:=Iff.rfl
theorem UU {a b:Tx} (h1:¬ a < b) (h2:¬ b < a):a=b:=List.le_antisymm (Eh.2 h2) (Eh.2 h1)
def mv (s:Tx):List Tx->List Tx
 | []=>[s]
 | y :: l=>if y < s then y :: mv s l else if y=s then y :: l else s :: y :: l
theorem Rn (s:Tx):∀ (l:List Tx) (k:Nat),k<=l.length->(∀ i (hi:i < l.length),i < k->l[i] < s)->(∀ hk:k < l.length,¬ l[k] < s)->
  mv s l=if (∃ hk:k < l.length,l[k]=s) then l else l.take k ++ s :: l.drop k
 | [],k,hk,_,_=>by
  obtain rfl:k=0:=by simpa using hk
  simp[mv]
 | y :: l,0,_,_,h2=>by
  have h3:¬ y < s:=h2 ak;rw[mv,if_neg h3];by_cases he:y=s
  .rw[if_pos he,if_pos ⟨ak,he⟩]
  .rw[if_neg he,if_neg (fun ⟨_,h⟩=>he h)];simp
 | y :: l,k+1,hk,h1,h2=>by
  have h3:y < s:=h1 0 ak aa;rw[mv,if_pos h3,Rn s l k (by simpa using hk) (fun i hi CF=>h1 (i+1) (by simpa using hi) aa) (fun fP=>h2 (by simpa using fP))];by_cases he:∃ hk:k < l.length,l[k]=s
  .rw[if_pos he,if_pos (by obtain⟨a,b⟩:=he;exact⟨by simpa using a,b⟩)]
  .rw[if_neg he,if_neg (fun ⟨a,b⟩=>he ⟨by simpa using a,b⟩)];simp
theorem Lq {s x:Tx}:∀ {l:List Tx},x∈mv s l↔x=s\/x∈l
 | []=>by simp[mv]
 | y :: l=>by
  rw[mv];by_cases h1:y < s
  .rw[if_pos h1,ajX,Lq,ajX];constructor
   .rintro (h | h | h)<;>simp[h]
   .rintro (h | h | h)<;>simp[h]
  .rw[if_neg h1];by_cases h2:y=s
   .rw[if_pos h2];subst h2;simp
   .rw[if_neg h2];simp
theorem Rp (s:Tx):∀ {l:List Tx},l.Pairwise (· < ·)->(mv s l).Pairwise (· < ·)
 | [],_=>by simp[mv]
 | y :: l,h=>by
  obtain⟨ha,hb⟩:=aku.1 h;rw[mv];by_cases h1:y < s
  .rw[if_pos h1];refine aku.2 ⟨fun x hx=>?_,Rp s hb⟩
   rcases Lq.1 hx with rfl | hx
   .exact h1
   .exact ha x hx
  .rw[if_neg h1];by_cases h2:y=s
   .rw[if_pos h2];exact h
   .rw[if_neg h2];have h3:s < y:=akf fun hn=>h2 (UU h1 hn);refine aku.2 ⟨fun x hx=>?_,h⟩
    rcases ajX.1 hx with rfl | hx
    .exact h3
    .exact UT h3 (ha x hx)
theorem Ro (s:Tx):∀ l:List Tx,(mv s l).length<=l.length+1
 | []=>by simp[mv]
 | y :: l=>by
  have:=Ro s l;rw[mv];split
  .simp;omega
  .split<;>simp
def mo (l ss:List Tx):List Tx:=ss.foldl (fun l s=>mv s l) l
theorem Rl (l:List Tx):mo l []=l:=rfl
theorem Rj (l a b:List Tx):mo l (a ++ b)=mo (mo l a) b:=List.foldl_append ..
theorem Lp:∀ (ss l:List Tx),(mo l ss).length<=l.length+ss.length
 | [],l=>by simp[mo]
 | s :: ss,l=>by
  have h1:=Lp ss (mv s l);have h2:=Ro s l;have h3:mo l (s :: ss)=mo (mv s l) ss:=rfl;rw[h3,ajP];omega
theorem Rk {x:Tx}:∀ (ss l:List Tx),x∈mo l ss↔x∈l\/x∈ss
 | [],l=>by simp[mo]
 | s :: ss,l=>by
  have h3:mo l (s :: ss)=mo (mv s l) ss:=rfl;rw[h3,Rk ss,Lq,ajX];constructor
  .rintro ((h | h) | h)<;>simp[h]
  .rintro (h | h | h)<;>simp[h]
theorem Rm:∀ (ss l:List Tx),l.Pairwise (· < ·)->(mo l ss).Pairwise (· < ·)
 | [],l,h=>h
 | s :: ss,l,h=>Rm ss _ (Rp s h)
theorem Ux:∀ {a b:List Tx},a.Pairwise (· < ·)->b.Pairwise (· < ·)->(∀ x,x∈a↔x∈b)->a=b
 | [],[],_,_,_=>rfl
 | [],y :: b,_,_,h=>absurd ((h y).2 ak) ak
 | x :: a,[],_,_,h=>absurd ((h x).1 ak) ak
 | x :: a,y :: b,ha,hb,h=>by
  obtain⟨uM,ny⟩:=aku.1 ha;obtain⟨e9,ea⟩:=aku.1 hb
  have Dh:x=y:=by
   rcases ajX.1 ((h x).1 ak)with e | hx
   .exact e
   .rcases ajX.1 ((h y).2 ak)with e | hy
    .exact e.symm
    .exact absurd (UT (e9 x hx) (uM y hy)) (Nn _)
  subst Dh;rw[Ux ny ea fun z=>?_];constructor
  .intro hz
   rcases ajX.1 ((h z).1 (by simp[hz]))with e | e
   .subst e;exact absurd (uM z hz) (Nn _)
   .exact e
  .intro hz
   rcases ajX.1 ((h z).2 (by simp[hz]))with e | e
   .subst e;exact absurd (e9 z hz) (Nn _)
   .exact e
theorem LS (d:Array Tx):∀ (m:Nat),m<=d.size->∀ j,j < m->d[j]!∈Lib.compactUpTo d m
 | 0,_,j,h=>aa
 | m+1,hm,j,hj=>by
  rw[Lib.compactUpTo_succ];by_cases FW:j < m
  .exact alf _ (LS d m aa j FW)
  .obtain rfl:j=m:=aa
   by_cases hk:Lib.keeps d j=true
   .exact List.mem_append_right _ (by simp[hk])
   .have mQ:j≠0:=by rintro rfl;exact hk (Lib.keeps_lt_one d 0 aa)
    have he:d[j]! = d[j - 1]!:=by
     unfold Lib.keeps at hk;simp[mQ]at hk
     first | exact hk | exact hk.symm
    rw[he];exact alf _ (LS d j aa (j - 1) aa)
theorem Ns (d:Array Tx):∀ (m:Nat),m<=d.size->∀ x∈Lib.compactUpTo d m,∃ j,j < m/\x=d[j]!
 | 0,_,x,h=>by simp[Lib.compactUpTo]at h
 | m+1,hm,x,h=>by
  rw[Lib.compactUpTo_succ]at h
  rcases ajR.1 h with h | h
  .obtain⟨j,hj,e⟩:=Ns d m aa x h;exact⟨j,aa,e⟩
  .split at h
   .simp at h;exact⟨m,aa,h⟩
   .simp at h
theorem U2 (d:Array Tx) (hs:∀ i j,i<=j->j < d.size->d[i]!<=d[j]!):∀ (m:Nat),m<=d.size->(Lib.compactUpTo d m).Pairwise (· < ·)
 | 0,_=>by simp[Lib.compactUpTo]
 | m+1,hm=>by
  have ih:=U2 d hs m aa;rw[Lib.compactUpTo_succ];by_cases hk:Lib.keeps d m=true
  .rw[if_pos hk,akJ];refine⟨ih,ak,fun a ha b hb=>?_⟩;rw[aj3]at hb;subst hb;obtain⟨j,hj,rfl⟩:=Ns d m aa a ha
   have bf:d[m]!≠d[m - 1]!:=by
    intro he;rw[Lib.keeps_neg aa he]at hk;cases hk
   have h1:=hs j (m - 1) aa aa;have h2:=hs (m - 1) m aa aa;have h3:d[m - 1]! < d[m]!:=akf fun hn=>bf (UU (Eh.1 h2) hn)
   exact akf fun hn=>by
    have h4:d[m]!<=d[j]!:=Eh.2 hn;exact (Eh.1 (List.le_trans h4 h1)) h3
  .rw[if_neg hk,ako];exact ih
theorem acU (all:Bool) (e:Ex):(fj all e).Pairwise (· < ·):=by
 unfold fj Lib.compact;refine U2 _ (fun i j pL hj=>?_) _ ak
 have hp:(nM (dv all e)).Pairwise (·<=·):=by
  unfold nM;have:=List.pairwise_mergeSort (le:=fun x y:Tx=>decide (x<=y)) (by intro a b c h1 h2;simp only[decide_eq_true_eq]at *;exact List.le_trans h1 h2) (by intro a b;simp only[akp,decide_eq_true_eq];exact List.le_total a b) (dv all e)
  exact this.imp fun h=>by simpa using h
 generalize nM (dv all e)=l at hp hj ⊢
 have c6:j < l.length:=by simpa using hj
 rw[getElem!_pos l.toArray i (by simpa using (by omega:i < l.length)),getElem!_pos l.toArray j (by simpa using c6)];simp only[List.getElem_toArray];by_cases he:i=j
 .subst he;exact List.le_refl _
 .exact (List.pairwise_iff_getElem.1 hp) i j aa c6 aa
theorem DD {all:Bool} {e:Ex} {s:Tx}:s∈fj all e↔s∈dv all e:=by
 unfold fj
 have h0:∀ l:List Tx,s∈Lib.compact l↔s∈l:=by
  intro l;unfold Lib.compact;constructor
  .intro h;obtain⟨j,hj,rfl⟩:=Ns l.toArray l.length ak s h;rw[getElem!_pos l.toArray j (by simpa using hj)];simp
  .intro h;obtain⟨j,hj,rfl⟩:=aj1.1 h;have:=LS l.toArray l.length ak j hj;rw[getElem!_pos l.toArray j (by simpa using hj)]at this;simpa using this
 rw[h0];unfold nM;exact List.mem_mergeSort
theorem abf (all:Bool) (e:Ex):mo [] (dv all e)=fj all e:=by
 refine Ux (Rm _ _ ak) (acU all e) fun x=>?_;rw[Rk,DD];simp
def yM:Ex->List UInt8
 | .iD b=>[if b then 49 else 48]
 | .bit _=>[98,105,116]
 | .jA _=>[94]
 | .jm _=>[126]
 | .not _=>[33]
 | .and _=>[38]
 | .or _=>[124]
def sD:Ex->List UInt8
 | .bit s=>s
 | .jA s=>s
 | .jm s=>s
 | _=>[]
def DJ:Ex->D
 | .not e=>.sl none [[dR e]]
 | .and l=>.sl none (xD l)
 | .or l=>.sl none (xD l)
 | _=>eE
theorem sR (e:Ex):dR e = .ip [dS (yM e),dS (sD e),DJ e]:=by cases e<;>simp[dR,yM,sD,DJ]
theorem ll (k:List UInt8) (arr:Array UInt8):bo .eql (bs k) ⟨arr⟩=some (True,.bool (decide (k=arr.toList))):=by
 have h:(bs k).toList=k:=bu k
 have h2:(⟨arr⟩:ByteArray).toList=arr.toList:=by rw[ByteArray.toList_eq]
 unfold bo;dsimp only;rw[h,h2];congr 3;by_cases e:k=arr.toList
 .subst e;simp
 .rw[decide_eq_false e,beq_eq_false_iff_ne.2 e]
theorem Hm {r r' s:Nat} (h:r≠r') (hs:s≠r') (hr:s≠r) (row y5:Row):rU r r' (aq [(s,y5),(r,row)])=aq [(s,y5.tr (ik r r') (ij r r')),(r',row.tr (ik r r') (ij r r'))]:=by
 funext q;unfold rU;by_cases h1:q=r'
 .subst h1;simp[aq,List.lookup,beq_eq_false_iff_ne.2 (akI hs),beq_eq_false_iff_ne.2 (akI hr)]
 .rw[if_neg h1];by_cases h2:q=r
  .subst h2;simp[aq,List.lookup,beq_eq_false_iff_ne.2 h1,beq_eq_false_iff_ne.2 (akI hr)]
  .by_cases h3:q=s
   .subst h3;simp[aq,List.lookup,h2,beq_eq_false_iff_ne.2 h1,beq_eq_false_iff_ne.2 h2]
   .simp[aq,List.lookup,h2,beq_eq_false_iff_ne.2 h1,beq_eq_false_iff_ne.2 h2,beq_eq_false_iff_ne.2 h3]
def l9:Option Ex->D
 | some x=>dR x
 | none=>.v (.pointer none)
theorem U9 (G:ay) (t:List UInt8) (ht:t.length<=2000):Reads G t [500] [] 202 [.ref 500 0 0,.d (ab 0)] 20 (lE t (cI t 20)):=
 Tj G t ht 0 20 (adA G t ht 20 0 (ajJ _) rfl)
theorem Mr {t:List UInt8} {c:Int} {p:Option Nat} (h:(iZ t).2=some (c,p)):0 < c:=by
 unfold iZ at h;split at h
 .simp at h;omega
 .rename_i hl;obtain⟨yF,kF,hr⟩:=U9 (fun _=>none) t aa;split at h
  .rename_i c' p' q' he;simp at h;have:=(hr 0 (alm _)).2 _ _ _ he;omega
  .split at h
   .simp at h;omega
   .cases h
theorem DP {t:List UInt8} (h:(iZ t).2=none):∃ x,(iZ t).1=some x:=by
 unfold iZ at h ⊢;split at h
 .cases h
 .rw[if_neg ‹_›];split at h
  .cases h
  .split at h
   .cases h
   .rw[if_neg ‹_›];exact⟨_,rfl⟩
theorem alZ:type_of% (Aq @l9.eq_1 (Aq @l9.eq_2 (Aq @alx (Aq @aly (Aq @alz (Aq @alA @alB)))))):=(Aq @l9.eq_1 (Aq @l9.eq_2 (Aq @alx (Aq @aly (Aq @alz (Aq @alA @alB))))))
theorem agk (G:ay) (hF:vB G) (t:List UInt8) (ht:t.length < 2^60):aD prog G 134 [dS t] (.bz [l9 (iZ t).1,dz (iZ t).2]):=by
 unfold iZ;unfold vB at hF;by_cases hl:2000 < t.length
 .have fo:(2000:Int) < (t.length:Int):=aa
  have hb:=EC G 4;rw[if_pos hl];refine aD.aQ (aC _) func134 rfl rfl (rs:=[.tmp 2,.cell 3 52]) results134 (by simp[ntmps134]) fun X=>?_;simp only[ntmps134,List.map];have fw:=alQ;refine ae fw [0,3] [3] ?_;refine ag fun K1 aF=>?_;have qf:=(Aq fw (Aq @bN (Aq @hl @fo)));refine au [0,3,8] [3] ?_;refine aJ (br fw hb [2,3] [3] ?_);exact aU (Aq fw alZ)
 have fo:¬ (2000:Int) < (t.length:Int):=aa
 rw[if_neg hl];obtain⟨yF,kF,hr⟩:=U9 G t aa;have hc:=(hr 0 (alm _)).1;have he:=(hr 0 (alm _)).2
 cases ho:lE t (cI t 20) 0 with
 | err c p q=>
  rw[ho]at hc;obtain⟨h1,h2,h3⟩:=he _ _ _ ho
  have h0:¬ c=0:=aa
  generalize yF 0=y at hc h2;generalize kF 0=k at hc h3;refine aD.aQ (aC _) func134 rfl rfl (rs:=[.tmp 2,.cell 3 52]) results134 (by simp[ntmps134]) fun X=>?_;simp only[ntmps134,List.map];have fw:=alQ;refine ae fw [0,3] [3] ?_;refine ag fun K1 aF=>?_;have qf:=(Aq fw (Aq @bN (Aq @hl @fo)));refine au [0,3,8] [3] ?_;refine al (ar (aF _ ?_));have qf:=(Aq fw @hF);refine au [0,3,4] [3,13] ?_;refine AW.imp (aM.dI (r:=13) (r':=500) trivial ak) ?_;refine AW.st (by simp[ik,ij,Go.Av.dI,Hm];rfl) ?_;refine bG (Aq fw (Aq @jS.eq_1 (Aq @jS.eq_2 (Aq @jy.eq_1 (Aq @jy.eq_2 (Aq @eR.eq_1 (Aq @eR.eq_2 (Aq @pR.eq_1 @pR.eq_2)))))))) hc [0,3,4,5] [3,500] ?_;refine ag fun K2 aw=>?_;have qf:=(Aq fw @h0);refine au [3,4,5,43] [3,500] ?_;refine al (ar (aw _ ?_));refine ag fun K3 aZ=>?_;have qf:=(Aq fw @h0);refine au [3,4,5,51] [3,500] ?_;refine aJ (px (aC _) ah [(3,500),(5,3)] [2,3] [3,500] aN ah fun K' ao=>?_);(repeat refine jC fun Kq af=>?_;simp[ab,bK,dS];(repeat refine⟨aa,?_⟩);refine af _ ?_);refine kN (ao _ ?_);refine AW.st (by simp[ab,bK,dS];rfl) ?_;exact aU (Aq fw alZ)
 | ok x k=>
  rw[ho]at hc;dsimp only[jS,jy,eR,pR]at hc;have hk:=(vm (oI t 20) 0 x k (alm _) ho).2;have ga:=DS G t k aa hk 0 (-1);have fP:=lI hk;have eQ:=DQ G t (bx t k) aa fP 3;rw[zc hk]at eQ
  have oZ:bx t k < t.length\/p5 t k=0:=by
   by_cases h:bx t k < t.length
   .exact .inl h
   .exact .inr (by unfold p5;rw[OF,akZ aa];rfl)
  obtain⟨cx,hx⟩:=zK x;dsimp only;generalize bx t k=j at ga fP eQ oZ ⊢;generalize p5 t k=b at ga oZ;by_cases hj:j < t.length
  .have c6:(j:Int) < (t.length:Int):=aa
   rw[if_pos hj];rw[hx]at hc;by_cases hb:((b.toNat:Int)=0)
   .have xS:b.toNat=0:=aa
    refine aD.aQ (aC _) func134 rfl rfl (rs:=[.tmp 2,.cell 3 52]) results134 (by simp[ntmps134]) fun X=>?_;simp only[ntmps134,List.map];have fw:=alQ;refine ae fw [0,3] [3] ?_;refine ag fun K1 aF=>?_;have qf:=(Aq fw (Aq @bN (Aq @hl @fo)));refine au [0,3,8] [3] ?_;refine al (ar (aF _ ?_));have qf:=(Aq fw @hF);refine au [0,3,4] [3,13] ?_;refine AW.imp (aM.dI (r:=13) (r':=500) trivial ak) ?_;refine AW.st (by simp[ik,ij,Go.Av.dI,Hm];rfl) ?_;refine bG fw hc [0,3,4,5] [3,500] ?_;refine ag fun K2 aw=>?_;have qf:=(Aq fw (Aq @hb (Aq @xS (Aq @bN (Aq @hj @c6)))));refine jW ga [3,4,5,43] [3,500] ?_;refine aJ (fH (aC _) fun K' ao=>?_);(repeat refine aK fun Kq af=>?_;simp[ab,bK,dS];(repeat refine⟨aa,?_⟩);refine af _ ?_);refine aK fun Kq af=>?_;simp[ab,bK,dS];refine cX.mc (eQ) ?_ ?_ ?_ ?_ ?_<;>simp[ab,bK,dS];refine af _ ?_;(repeat refine aK fun Kq af=>?_;simp[ab,bK,dS];(repeat refine⟨aa,?_⟩);refine af _ ?_);refine bJ (ao _ ?_);refine aw _ (AW.norm [3,4,5] [3,500] aN (AW.st (by simp[ab,bK,dS];rfl) ?_));refine ag fun K3 aZ=>ae fw [3,4,5,51] [3,500] ?_;refine aJ (px (aC _) ah [(3,500),(5,3)] [2,3] [3,500] aN ah fun K' ao=>?_);(repeat refine jC fun Kq af=>?_;simp[ab,bK,dS];(repeat refine⟨aa,?_⟩);refine af _ ?_);refine kN (ao _ ?_);refine AW.st (by simp[ab,bK,dS];rfl) ?_;exact aU (Aq fw alZ)
   .have xS:¬ b.toNat=0:=aa
    refine aD.aQ (aC _) func134 rfl rfl (rs:=[.tmp 2,.cell 3 52]) results134 (by simp[ntmps134]) fun X=>?_;simp only[ntmps134,List.map];have fw:=alQ;refine ae fw [0,3] [3] ?_;refine ag fun K1 aF=>?_;have qf:=(Aq fw (Aq @bN (Aq @hl @fo)));refine au [0,3,8] [3] ?_;refine al (ar (aF _ ?_));have qf:=(Aq fw @hF);refine au [0,3,4] [3,13] ?_;refine AW.imp (aM.dI (r:=13) (r':=500) trivial ak) ?_;refine AW.st (by simp[ik,ij,Go.Av.dI,Hm];rfl) ?_;refine bG fw hc [0,3,4,5] [3,500] ?_;refine ag fun K2 aw=>?_;have qf:=(Aq fw (Aq @hb (Aq @xS (Aq @bN (Aq @hj @c6)))));refine jW ga [3,4,5,43] [3,500] ?_;refine aJ (fH (aC _) fun K' ao=>?_);(repeat refine aK fun Kq af=>?_;simp[ab,bK,dS];(repeat refine⟨aa,?_⟩);refine af _ ?_);refine aK fun Kq af=>?_;simp[ab,bK,dS];refine cX.mc (eQ) ?_ ?_ ?_ ?_ ?_<;>simp[ab,bK,dS];refine af _ ?_;(repeat refine aK fun Kq af=>?_;simp[ab,bK,dS];(repeat refine⟨aa,?_⟩);refine af _ ?_);refine bJ (ao _ ?_);refine aw _ (AW.norm [3,4,5] [3,500] aN (AW.st (by simp[ab,bK,dS];rfl) ?_));refine ag fun K3 aZ=>ae fw [3,4,5,51] [3,500] ?_;refine aJ (px (aC _) ah [(3,500),(5,3)] [2,3] [3,500] aN ah fun K' ao=>?_);(repeat refine jC fun Kq af=>?_;simp[ab,bK,dS];(repeat refine⟨aa,?_⟩);refine af _ ?_);refine kN (ao _ ?_);refine AW.st (by simp[ab,bK,dS];rfl) ?_;exact aU (Aq fw alZ)
  .have c6:¬ (j:Int) < (t.length:Int):=aa
   have hb:((b.toNat:Int)=0):=by
    rcases oZ with h | h
    .exact absurd h hj
    .rw[h];rfl
   have xS:b.toNat=0:=aa
   rw[if_neg hj];simp only[l9];rw[hx]at hc ⊢;refine aD.aQ (aC _) func134 rfl rfl (rs:=[.tmp 2,.cell 3 52]) results134 (by simp[ntmps134]) fun X=>?_;simp only[ntmps134,List.map];have fw:=alQ;refine ae fw [0,3] [3] ?_;refine ag fun K1 aF=>?_;have qf:=(Aq fw (Aq @bN (Aq @hl @fo)));refine au [0,3,8] [3] ?_;refine al (ar (aF _ ?_));have qf:=(Aq fw @hF);refine au [0,3,4] [3,13] ?_;refine AW.imp (aM.dI (r:=13) (r':=500) trivial ak) ?_;refine AW.st (by simp[ik,ij,Go.Av.dI,Hm];rfl) ?_;refine bG fw hc [0,3,4,5] [3,500] ?_;refine ag fun K2 aw=>?_;have qf:=(Aq fw (Aq @hb (Aq @xS (Aq @bN (Aq @hj @c6)))));refine jW ga [3,4,5,43] [3,500] ?_;refine al (ar (aw _ ?_));refine ag fun K3 aZ=>ae fw [3,4,5,51] [3,500] ?_;refine al (ar (aZ _ ?_));refine px (aC _) ah [(3,3)] [2,3] [3,500] aN ah fun K' ao=>?_;(repeat refine jC fun Kq af=>?_;simp[ab,bK,dS,hF];(repeat refine⟨aa,?_⟩);refine af _ ?_);refine kN (ao _ ?_);refine AW.st (by simp[ab,bK,dS,hF];rfl) ?_;exact aU (Aq fw (Aq @alx (Aq @aly (Aq @alz (Aq @alA @alB)))))
theorem Rf {α:Type} (p:α->Bool) (l:List α):decide (0<=idx p l)=l.any p:=by
 unfold idx
 cases h:l.findIdx? p with
 | none=>
  rw[akX]at h
  have:l.any p=false:=by rw[List.any_eq_false];intro x hx;simp[h x hx]
  rw[this];simp
 | some i=>
  rw[aj9]at h;obtain⟨hi,hp,_⟩:=h;have:l.any p=true:=akT.2 ⟨_,By hi,hp⟩;rw[this];simp
theorem OZ (is cz:List UInt8->Bool):∀ l:List Ex,zO is cz l = !(l.any fun e=>!eN is cz e)
 | []=>rfl
 | e :: l=>by rw[zO,OZ is cz l];simp
theorem O0 (is cz:List UInt8->Bool):∀ l:List Ex,zP is cz l=l.any fun e=>eN is cz e
 | []=>rfl
 | e :: l=>by rw[zP,O0 is cz l];simp
theorem aba (G:ay) (k:Option Bool) (xs:List Ex) (g:FuncId) (caps:List D) (p:Ex->Bool) (hl:xs.length < 2^63) (ha:∀ x∈xs,aD prog G g (dE x :: caps) (.v (.bool (p x)))) :
  aD prog G 207 [.sl k (xs.map fun x=>[dE x]),.fn (.func g) caps] (.v (.int .i64 (idx p xs))):=by
 refine aD.aQ (aC _) func207 rfl rfl (rs:=[.tmp 4]) results207 (by simp[ntmps207]) fun X=>?_;simp only[ntmps207,List.map];refine aB [0,1] [] ?_;refine ag fun K1 aF=>aB [0,1,7,8] [] ?_;refine cG (S:=Nat) (fun n=>n<=xs.length/\∀ i (hi:i < xs.length),i < n->p xs[i]=false) (fun n=>⟨bp [(0,.d (.sl k (xs.map fun x=>[dE x]))),(1,.d (.fn (.func g) caps)),(7,int xs.length),(8,int n)],aq []⟩) (fun n=>xs.length - n) 0 ?_ ak ?_
 .refine df
 .rintro n ⟨hn,hp⟩;refine aB [0,1,7,8,9] [] ?_;refine ag fun K2 aw=>fG (b:=n < xs.length) (by simp[D.le,D.le.go,aR]) (fun hc=>?_) (fun hc=>?_)
  .have uO:=ha xs[n] ak;refine ar (aw _ (ag fun K3 aZ=>bg (aB [0,1,5,7,8] [] ?_)));have qf:=@hc;refine e7 uO [0,1,5,7,8,16] [] ?_;refine r4 _ rfl (fun gB=>?_) (fun gB=>?_)
   .refine aB [4] [] ?_;refine bT ?_;simp[D.le,D.le.go,aR];exact (ve hc gB fun i hi=>hp i aa hi).symm
   .refine ar (aZ _ (dN ?_));(try simp only[aV,aX]);refine bh.mk (n+1) ⟨aa,fun i hi aO=>?_⟩ aa ?_
    .by_cases h:i=n
     .subst h;exact gB
     .exact hp i hi aa
    refine df
  .refine b5 (aF _ (aB [4] [] ?_));refine bT ?_;simp[D.le,D.le.go,aR];exact (vf fun i hi=>hp i hi aa).symm
theorem Xb (G:ay) (k:Option Bool) (xs:List Ex) (g:FuncId) (caps:List D) (p:Ex->Bool) (hl:xs.length < 2^63) (ha:∀ x∈xs,aD prog G g (dE x :: caps) (.v (.bool (p x)))) :
  aD prog G 139 [.sl k (xs.map fun x=>[dE x]),.fn (.func g) caps] (.v (.bool (xs.any p))):=by
 have hi:=aba G k xs g caps p hl ha;have hd:=Rf p xs;generalize idx p xs=r at hi hd;rw[<- hd];refine aD.aQ (aC _) func139 rfl rfl (rs:=[.tmp 4]) results139 (by simp[ntmps139]) fun X=>?_;simp only[ntmps139,List.map];refine aB [0,1] [] ?_;refine br trivial hi [4] [] ?_;exact gn
theorem abc (G:ay) (k:Option Bool) (xs:List Ex) (g:FuncId) (caps:List D) (p:Ex->Bool) (hl:xs.length < 2^63) (ha:∀ x∈xs,aD prog G g (dE x :: caps) (.v (.bool (p x)))) :
  aD prog G 208 [.sl k (xs.map fun x=>[dE x]),.fn (.func g) caps] (.v (.int .i64 (idx p xs))):=by
 refine aD.aQ (aC _) func208 rfl rfl (rs:=[.tmp 4]) results208 (by simp[ntmps208]) fun X=>?_;simp only[ntmps208,List.map];refine aB [0,1] [] ?_;refine ag fun K1 aF=>aB [0,1,7,8] [] ?_;refine cG (S:=Nat) (fun n=>n<=xs.length/\∀ i (hi:i < xs.length),i < n->p xs[i]=false) (fun n=>⟨bp [(0,.d (.sl k (xs.map fun x=>[dE x]))),(1,.d (.fn (.func g) caps)),(7,int xs.length),(8,int n)],aq []⟩) (fun n=>xs.length - n) 0 ?_ ak ?_
 .refine df
 .rintro n ⟨hn,hp⟩;refine aB [0,1,7,8,9] [] ?_;refine ag fun K2 aw=>fG (b:=n < xs.length) (by simp[D.le,D.le.go,aR]) (fun hc=>?_) (fun hc=>?_)
  .have uO:=ha xs[n] ak;refine ar (aw _ (ag fun K3 aZ=>bg (aB [0,1,5,7,8] [] ?_)));have qf:=@hc;refine e7 uO [0,1,5,7,8,16] [] ?_;refine r4 _ rfl (fun gB=>?_) (fun gB=>?_)
   .refine aB [4] [] ?_;refine bT ?_;simp[D.le,D.le.go,aR];exact (ve hc gB fun i hi=>hp i aa hi).symm
   .refine ar (aZ _ (dN ?_));(try simp only[aV,aX]);refine bh.mk (n+1) ⟨aa,fun i hi aO=>?_⟩ aa ?_
    .by_cases h:i=n
     .subst h;exact gB
     .exact hp i hi aa
    refine df
  .refine b5 (aF _ (aB [4] [] ?_));refine bT ?_;simp[D.le,D.le.go,aR];exact (vf fun i hi=>hp i hi aa).symm
theorem Xc (G:ay) (k:Option Bool) (xs:List Ex) (g:FuncId) (caps:List D) (p:Ex->Bool) (hl:xs.length < 2^63) (ha:∀ x∈xs,aD prog G g (dE x :: caps) (.v (.bool (p x)))) :
  aD prog G 141 [.sl k (xs.map fun x=>[dE x]),.fn (.func g) caps] (.v (.bool (xs.any p))):=by
 have hi:=abc G k xs g caps p hl ha;have hd:=Rf p xs;generalize idx p xs=r at hi hd;rw[<- hd];refine aD.aQ (aC _) func141 rfl rfl (rs:=[.tmp 4]) results141 (by simp[ntmps141]) fun X=>?_;simp only[ntmps141,List.map];refine aB [0,1] [] ?_;refine br trivial hi [4] [] ?_;exact gn
mutual
def jc (S1 S2:List UInt8->Prop):Ex->Prop
 | .iD _=>True
 | .bit s=>S1 s
 | .jA s=>S1 s/\S2 s
 | .jm s=>S1 s/\S2 s
 | .not e=>jc S1 S2 e
 | .and l=>tZ S1 S2 l
 | .or l=>tZ S1 S2 l
def tZ (S1 S2:List UInt8->Prop):List Ex->Prop
 | []=>True
 | e :: l=>jc S1 S2 e/\tZ S1 S2 l
end
theorem BC {S1 S2:List UInt8->Prop}:∀ {l:List Ex},tZ S1 S2 l↔∀ x∈l,jc S1 S2 x
 | []=>by simp[tZ]
 | e :: l=>by rw[tZ,BC];simp
def rb (S:List UInt8->Prop) (G:ay) (g:FuncId) (caps:List D) (p:List UInt8->Bool):Prop:=∀ s,S s->aD prog G g (dS s :: caps) (.v (.bool (p s)))
theorem eval_at (G:ay) (g1 g2:FuncId) (c1 c2:List D) (is cz:List UInt8->Bool) (S1 S2:List UInt8->Prop) (h1:rb S1 G g1 c1 is) (h2:rb S2 G g2 c2 cz):∀ (n:Nat) (e:Ex),SizeOf.sizeOf e<=n->jc S1 S2 e->bE e<=2^28->aD prog G 67 [dE e,.fn (.func g1) c1,.fn (.func g2) c2] (.v (.bool (eN is cz e))):=by
 intro n
 induction n with
 | zero=>intro e bd;cases e<;>simp at bd
 | succ n ih=>
  intro e bd im hb;have fw:=alU
  cases e with
  | iD b=>
   rw[dE];refine aD.aQ (aC _) func67 rfl rfl (rs:=[.tmp 6]) results67 (by simp[ntmps67]) fun X=>?_;simp only[ntmps67,List.map];refine ae fw [0,4,5] [4,5] ?_;refine dT fw 4 ?_;refine dT fw 5 ?_;refine ag fun K1 aF=>ae fw [4,5,14] [] ?_;refine bg (ae fw [4,5,14,16,17] [] ?_);refine aJ (ae fw [7] [] ?_);refine ae fw [6] [] ?_;refine bT ?_;simp[D.le,D.le.go,aR,ab,dS,bW,cT,eN]
  | bit s=>
   rw[jc]at im;have hi:=h1 s im;rw[dE,eN];refine aD.aQ (aC _) func67 rfl rfl (rs:=[.tmp 6]) results67 (by simp[ntmps67]) fun X=>?_;simp only[ntmps67,List.map];refine ae fw [0,4,5] [4,5] ?_;refine dT fw 4 ?_;refine dT fw 5 ?_;refine ag fun K1 aF=>ae fw [4,5,14] [] ?_;refine bg (ae fw [4,5,14,16,17] [] ?_);refine al (ae fw [4,5,14,20,21] [] ?_);refine aJ (ae fw [4,8] [] ?_);refine br fw hi [6] [] ?_;exact aU fw
  | jA s=>
   rw[jc]at im;have hi:=h1 s im.1;have hw:=h2 s im.2;rw[dE,eN]
   cases hs:is s with
   | false=>
    rw[hs]at hi;refine aD.aQ (aC _) func67 rfl rfl (rs:=[.tmp 6]) results67 (by simp[ntmps67]) fun X=>?_;simp only[ntmps67,List.map];refine ae fw [0,4,5] [4,5] ?_;refine dT fw 4 ?_;refine dT fw 5 ?_;refine ag fun K1 aF=>ae fw [4,5,14] [] ?_;refine bg (ae fw [4,5,14,16,17] [] ?_);refine al (ae fw [4,5,14,20,21] [] ?_);refine al (ae fw [4,5,14,26,27] [] ?_);refine aJ (ae fw [4,5,9] [] ?_);refine br fw hi [6] [] ?_;exact aU fw
   | true=>
    rw[hs]at hi;refine aD.aQ (aC _) func67 rfl rfl (rs:=[.tmp 6]) results67 (by simp[ntmps67]) fun X=>?_;simp only[ntmps67,List.map];refine ae fw [0,4,5] [4,5] ?_;refine dT fw 4 ?_;refine dT fw 5 ?_;refine ag fun K1 aF=>ae fw [4,5,14] [] ?_;refine bg (ae fw [4,5,14,16,17] [] ?_);refine al (ae fw [4,5,14,20,21] [] ?_);refine al (ae fw [4,5,14,26,27] [] ?_);refine aJ (ae fw [4,5,9] [] ?_);refine rg [6] [] aN fun K' ao=>?_;(repeat refine aK fun Kq af=>?_;simp[ab,dS,bW,cT];(repeat refine⟨aa,?_⟩);refine af _ ?_);refine aK fun Kq af=>?_;simp[ab,dS,bW,cT];refine cX.data (hi) bB (by first | exact D.bR _ | simp[aR,ajN,ajG,D.le,D.le.go,D.le_refl,D.bR,ab,dS,bW,cT]) ?_;refine af _ ?_;simp only[aL,dL];(repeat refine aK fun Kq af=>?_;simp[ab,dS,bW,cT];(repeat refine⟨aa,?_⟩);refine af _ ?_);refine aK fun Kq af=>?_;simp[ab,dS,bW,cT];refine cX.data (hw) bB (by first | exact D.bR _ | simp[aR,ajN,ajG,D.le,D.le.go,D.le_refl,D.bR,ab,dS,bW,cT]) ?_;refine af _ ?_;simp only[aL,dL];(repeat refine aK fun Kq af=>?_;simp[ab,dS,bW,cT];(repeat refine⟨aa,?_⟩);refine af _ ?_);refine bJ (ao _ (AW.st (by simp[ab,dS,bW,cT];rfl) ?_));exact aU fw
  | jm s=>
   rw[jc]at im;have hi:=h1 s im.1;have hw:=h2 s im.2;rw[dE,eN]
   cases hs:is s with
   | true=>
    rw[hs]at hi;refine aD.aQ (aC _) func67 rfl rfl (rs:=[.tmp 6]) results67 (by simp[ntmps67]) fun X=>?_;simp only[ntmps67,List.map];refine ae fw [0,4,5] [4,5] ?_;refine dT fw 4 ?_;refine dT fw 5 ?_;refine ag fun K1 aF=>ae fw [4,5,14] [] ?_;refine bg (ae fw [4,5,14,16,17] [] ?_);refine al (ae fw [4,5,14,20,21] [] ?_);refine al (ae fw [4,5,14,26,27] [] ?_);refine al (ae fw [4,5,14,38,39] [] ?_);refine aJ (ae fw [4,5,10] [] ?_);refine br fw hi [6] [] ?_;exact aU fw
   | false=>
    rw[hs]at hi;refine aD.aQ (aC _) func67 rfl rfl (rs:=[.tmp 6]) results67 (by simp[ntmps67]) fun X=>?_;simp only[ntmps67,List.map];refine ae fw [0,4,5] [4,5] ?_;refine dT fw 4 ?_;refine dT fw 5 ?_;refine ag fun K1 aF=>ae fw [4,5,14] [] ?_;refine bg (ae fw [4,5,14,16,17] [] ?_);refine al (ae fw [4,5,14,20,21] [] ?_);refine al (ae fw [4,5,14,26,27] [] ?_);refine al (ae fw [4,5,14,38,39] [] ?_);refine aJ (ae fw [4,5,10] [] ?_);refine rg [6] [] aN fun K' ao=>?_;(repeat refine aK fun Kq af=>?_;simp[ab,dS,bW,cT];(repeat refine⟨aa,?_⟩);refine af _ ?_);refine aK fun Kq af=>?_;simp[ab,dS,bW,cT];refine cX.data (hi) bB (by first | exact D.bR _ | simp[aR,ajN,ajG,D.le,D.le.go,D.le_refl,D.bR,ab,dS,bW,cT]) ?_;refine af _ ?_;simp only[aL,dL];(repeat refine aK fun Kq af=>?_;simp[ab,dS,bW,cT];(repeat refine⟨aa,?_⟩);refine af _ ?_);refine aK fun Kq af=>?_;simp[ab,dS,bW,cT];refine cX.data (hw) bB (by first | exact D.bR _ | simp[aR,ajN,ajG,D.le,D.le.go,D.le_refl,D.bR,ab,dS,bW,cT]) ?_;refine af _ ?_;simp only[aL,dL];(repeat refine aK fun Kq af=>?_;simp[ab,dS,bW,cT];(repeat refine⟨aa,?_⟩);refine af _ ?_);refine bJ (ao _ (AW.st (by simp[ab,dS,bW,cT];rfl) ?_));exact aU fw
  | not x=>
   have hc:=ih x (by simp at bd;omega) (by rwa [jc]at im) (by simp only[bE]at hb;omega);obtain⟨tx,cx,hx⟩:=kW x;rw[dE,eN,hx];rw[hx]at hc;generalize eN is cz x=r at hc ⊢;refine aD.aQ (aC _) func67 rfl rfl (rs:=[.tmp 6]) results67 (by simp[ntmps67]) fun X=>?_;simp only[ntmps67,List.map];refine ae fw [0,4,5] [4,5] ?_;refine dT fw 4 ?_;refine dT fw 5 ?_;refine ag fun K1 aF=>ae fw [4,5,14] [] ?_;refine bg (ae fw [4,5,14,16,17] [] ?_);refine al (ae fw [4,5,14,20,21] [] ?_);refine al (ae fw [4,5,14,26,27] [] ?_);refine al (ae fw [4,5,14,38,39] [] ?_);refine al (ae fw [4,5,14,50,51] [] ?_);refine aJ (ae fw [4,5,11] [11] ?_);refine br fw hc [6] [11] ?_;exact aU fw
  | and l=>
   have nz:∀ x∈l,aD prog G 140 [dE x,.ip [.fn (.func g1) c1],.ip [.fn (.func g2) c2]] (.v (.bool (!eN is cz x))):=fun x hx=>by
    have hc:=ih x (by have:=aka hx;simp only[Ex.and.sizeOf_spec]at bd;omega) (by rw[jc,BC]at im;exact im x hx) (by have:=BN hx;simp only[bE]at hb;omega);obtain⟨tx,cx,Lm⟩:=kW x;rw[Lm]at hc ⊢;generalize eN is cz x=r at hc ⊢;refine aD.aQ (aC _) func140 rfl rfl (rs:=[.tmp 4]) results140 (by simp[ntmps140]) fun X=>?_;simp only[ntmps140,List.map];refine ae fw [0,1,2] [] ?_;refine br fw hc [4] [] ?_;exact aU fw
   have pN:=vF l;have Cy:=Xb G none l 140 [.ip [.fn (.func g1) c1],.ip [.fn (.func g2) c2]] (fun x=>!eN is cz x) (by simp only[bE]at hb;omega) nz;rw[dE,ux,eN,OZ];generalize l.any (fun x=>!eN is cz x)=r at Cy ⊢;refine aD.aQ (aC _) func67 rfl rfl (rs:=[.tmp 6]) results67 (by simp[ntmps67]) fun X=>?_;simp only[ntmps67,List.map];refine ae fw [0,4,5] [4,5] ?_;refine dT fw 4 ?_;refine dT fw 5 ?_;refine ag fun K1 aF=>ae fw [4,5,14] [] ?_;refine bg (ae fw [4,5,14,16,17] [] ?_);refine al (ae fw [4,5,14,20,21] [] ?_);refine al (ae fw [4,5,14,26,27] [] ?_);refine al (ae fw [4,5,14,38,39] [] ?_);refine al (ae fw [4,5,14,50,51] [] ?_);refine al (ae fw [4,5,14,59,60] [] ?_);refine aJ (ae fw [4,5,12] [] ?_);refine br fw Cy [6] [] ?_;exact aU fw
  | or l=>
   have nz:∀ x∈l,aD prog G 142 [dE x,.ip [.fn (.func g1) c1],.ip [.fn (.func g2) c2]] (.v (.bool (eN is cz x))):=fun x hx=>by
    have hc:=ih x (by have:=aka hx;simp only[Ex.or.sizeOf_spec]at bd;omega) (by rw[jc,BC]at im;exact im x hx) (by have:=BN hx;simp only[bE]at hb;omega);obtain⟨tx,cx,Lm⟩:=kW x;rw[Lm]at hc ⊢;generalize eN is cz x=r at hc ⊢;refine aD.aQ (aC _) func142 rfl rfl (rs:=[.tmp 4]) results142 (by simp[ntmps142]) fun X=>?_;simp only[ntmps142,List.map];refine ae fw [0,1,2] [] ?_;refine br fw hc [4] [] ?_;exact aU fw
   have pN:=vF l;have Cy:=Xc G none l 142 [.ip [.fn (.func g1) c1],.ip [.fn (.func g2) c2]] (fun x=>eN is cz x) (by simp only[bE]at hb;omega) nz;rw[dE,ux,eN,O0];generalize l.any (fun x=>eN is cz x)=r at Cy ⊢;refine aD.aQ (aC _) func67 rfl rfl (rs:=[.tmp 6]) results67 (by simp[ntmps67]) fun X=>?_;simp only[ntmps67,List.map];refine ae fw [0,4,5] [4,5] ?_;refine dT fw 4 ?_;refine dT fw 5 ?_;refine ag fun K1 aF=>ae fw [4,5,14] [] ?_;refine bg (ae fw [4,5,14,16,17] [] ?_);refine al (ae fw [4,5,14,20,21] [] ?_);refine al (ae fw [4,5,14,26,27] [] ?_);refine al (ae fw [4,5,14,38,39] [] ?_);refine al (ae fw [4,5,14,50,51] [] ?_);refine al (ae fw [4,5,14,59,60] [] ?_);refine al (ae fw [4,5,66,67] [] ?_);refine aJ (ae fw [4,5,13] [] ?_);refine br fw Cy [6] [] ?_;exact aU fw
theorem X9 (G:ay) (g1 g2:FuncId) (c1 c2:List D) (is cz:List UInt8->Bool) (S1 S2:List UInt8->Prop) (h1:rb S1 G g1 c1 is) (h2:rb S2 G g2 c2 cz) (e:Ex) (ha:jc S1 S2 e) (hb:bE e<=2^28):aD prog G 67 [dE e,.fn (.func g1) c1,.fn (.func g2) c2] (.v (.bool (eN is cz e))):=
 eval_at G g1 g2 c1 c2 is cz S1 S2 h1 h2 _ e (ajJ _) ha hb
theorem la:(⟨#[97]⟩:ByteArray)=bs [97]:=rfl
theorem lb:(⟨#[98]⟩:ByteArray)=bs [98]:=rfl
theorem UZ (x:Nat) (h:x < 2^64):(BitVec.ofInt 64 (x:Int)).toNat=x:=by
 rw[BitVec.toNat_ofInt]
 have:(2:Nat)^64=18446744073709551616:=bF
 omega
theorem U0 (x:Nat) (h:x < 2^64):IntKind.u64.wrap (x:Int)=(x:Int):=by
 rw[IntKind.wrap_u64]
 have:(2:Nat)^64=18446744073709551616:=bF
 omega
theorem ahI (x y:Nat) (hx:x < 2^64) (hy:y < 2^64):pA .and .u64 (x:Int) (y:Int)=((x &&& y:Nat):Int):=by
 unfold pA;dsimp only
 have h3:(BitVec.ofInt IntKind.u64.bits (x:Int) &&& BitVec.ofInt IntKind.u64.bits (y:Int)).toNat=x &&& y:=by
  show (BitVec.ofInt 64 (x:Int) &&& BitVec.ofInt 64 (y:Int)).toNat=x &&& y;rw[BitVec.toNat_and,UZ x hx,UZ y hy]
 rw[h3,U0 _ (Nat.lt_of_le_of_lt Nat.and_le_left hx)]
structure gV where
 name:Tx
 kind:Int
 count:Int
structure jd where
 kind:Int
 name:Tx
 cond:Option Ex
structure aS where
 names:List gV
 ax:List jd
def cw (p:aS) (s:Tx):Int:=idx (fun n:gV=>n.name == s) p.names
theorem SF (p:aS) {i:Nat} (hi:i < p.names.length):0<=cw p p.names[i].name/\cw p p.names[i].name<=i:=by
 have bf:¬ cw p p.names[i].name < 0:=fun h=>by
  have:=Re h _ (By hi);simp at this
 obtain⟨k,hk,he,_⟩:=tu bf;refine⟨aa,?_⟩;apply akf;intro aH
 have CF:i < k:=by unfold cw at aH;omega
 unfold idx at he
 cases hf:p.names.findIdx? (fun n:gV=>n.name == p.names[i].name) with
 | none=>rw[hf]at he;simp at he
 | some k'=>
  rw[hf]at he;simp only[Int.ofNat.injEq,Int.natCast_inj]at he
  have mR:k'=k:=by simpa using he
  subst mR;have:=(aj9.1 hf).2.2 i CF;simp at this
def n7 {α:Type} (f:Nat->α->Int):List α->Nat->Option (Int×Nat)
 | [],_=>none
 | x :: l,i=>if f i x=0 then n7 f l (i+1) else some (f i x,i)
theorem B9 {α:Type} {f:Nat->α->Int}:∀ {l:List α} {i:Nat} {e:Int} {k:Nat},n7 f l i=some (e,k)->i<=k/\k < i+l.length/\e≠0
 | x :: l,i,e,k,h=>by
  rw[n7]at h;split at h
  .have:=B9 h;simp only[ajP];omega
  .rename_i bf;obtain⟨h1,h2⟩:=eh h;rw[h1]at bf;simp only[ajP];exact⟨aa,aa,bf⟩
theorem Fa {α:Type} {f:Nat->α->Int}:∀ {l:List α} {i:Nat},n7 f l i=none->∀ k (hk:k < l.length),f (i+k) l[k]=0
 | x :: l,i,h,k,hk=>by
  rw[n7]at h;split at h
  .rename_i h0
   cases k with
   | zero=>simpa using h0
   | succ k=>
    have:=Fa h k (by simpa using hk);simpa[akv,ala 1 k]using this
  .cases h
def ER (n:gV):Bool:=decide (n.kind=3) || decide (n.kind=4)
def nW (p:aS) (i:Nat) (n:gV):Int:=
 if !jv n.name then 5 else if decide (n.kind < 1) || decide (n.kind > 4) then 1 else if (ER n && (decide (n.count < 1) || decide (n.count > 7))) || (!ER n && decide (n.count≠0)) then 2 else if cw p n.name < i then 9 else 0
def jY (k:Int):Int:=if k<=3 then 2 else if k=4 then 3 else 4
def l7 (p:aS) (r:jd):Int:=match r.cond with
 | none=>1
 | some e=>if decide (r.kind < 1) || decide (r.kind > 6) then 1 else if cw p r.name < 0 then 7
  else if jY r.kind≠(p.names.getD (cw p r.name).toNat ⟨[],0,0⟩).kind then 1 else if (fj true e).any fun s=>decide (cw p s < 0) then 7 else 0
def c8 (p:aS):Option (Int×Option Nat):=
 if p.names.length > 12\/p.ax.length > 40 then some (4,none) else match n7 (nW p) p.names 0 with
  | some (e,i)=>some (e,some i)
  | none=>match n7 (fun _ r=>l7 p r) p.ax 0 with
   | some (e,i)=>some (e,some (p.names.length+i))
   | none=>none
def Iu (p:aS) (i:Nat) (n:gV):Int:=
 if !jv n.name then 5 else if !(decide (1<=n.kind) && decide (n.kind<=4)) then 1 else if (decide (n.kind >= 3) && !(decide (1<=n.count) && decide (n.count<=7))) || (decide (n.kind < 3) && decide (n.count≠0)) then 2 else if cw p n.name≠i then 9 else 0
theorem Wo (p:aS) (i:Nat) (hi:i < p.names.length):Iu p i p.names[i]=nW p i p.names[i]:=by
 have hle:=SF p hi;generalize hn:p.names[i]=n at hle ⊢;unfold nW Iu ER
 cases lT:jv n.name with
 | false=>simp
 | true=>
  by_cases hk:1<=n.kind/\n.kind<=4
  .have e1:(!(decide (1<=n.kind) && decide (n.kind<=4)))=false:=by simp[hk.1,hk.2]
   have e2:(decide (n.kind < 1) || decide (n.kind > 4))=false:=by simp;omega
   have e3:((decide (n.kind >= 3) && !(decide (1<=n.count) && decide (n.count<=7))) || (decide (n.kind < 3) && decide (n.count≠0)))=(((decide (n.kind=3) || decide (n.kind=4)) && (decide (n.count < 1) || decide (n.count > 7))) || (!(decide (n.kind=3) || decide (n.kind=4)) && decide (n.count≠0))):=by
    have:n.kind=1\/n.kind=2\/n.kind=3\/n.kind=4:=aa
    have ec:(!(decide (1<=n.count) && decide (n.count<=7)))=(decide (n.count < 1) || decide (n.count > 7)):=by
     by_cases h1:1<=n.count<;>by_cases h2:n.count<=7<;>simp[h1,h2]<;>omega
    rw[ec]
    rcases this with h | h | h | h<;>simp[h]
   rw[e1,e2,e3];have e4:(cw p n.name≠(i:Int))=(cw p n.name < (i:Int)):=propext ⟨fun h=>aa,fun h=>aa⟩;simp only[e4]
  .have e1:(!(decide (1<=n.kind) && decide (n.kind<=4)))=true:=by
    rw[<- Bool.decide_and];simp;omega
   have e2:(decide (n.kind < 1) || decide (n.kind > 4))=true:=by simp;omega
   rw[e1,e2];simp
structure kS (p:aS):Prop where
 names:p.names.length<=12
 ax:p.ax.length<=40
 name:∀ n∈p.names,jv n.name=true/\1<=n.kind/\n.kind<=4
 count:∀ n∈p.names,(n.kind < 3/\n.count=0)\/(3<=n.kind/\1<=n.count/\n.count<=7)
 num:∀ i (hi:i < p.names.length),cw p p.names[i].name=i
theorem iB {p:aS} (h:c8 p=none):kS p:=by
 unfold c8 at h;split at h
 .cases h
 .rename_i hl;split at h
  .cases h
  .rename_i hN;have dA:=fun i hi=>Fa hN i hi
   have one:∀ i (hi:i < p.names.length),jv p.names[i].name=true/\1<=p.names[i].kind/\p.names[i].kind<=4/\((p.names[i].kind < 3/\p.names[i].count=0)\/(3<=p.names[i].kind/\1<=p.names[i].count/\p.names[i].count<=7))/\cw p p.names[i].name=i:=fun i hi=>by
    have hb:=dA i hi;have hle:=SF p hi;rw[akg]at hb;generalize p.names[i]=n at hb hle ⊢;unfold nW ER at hb;split at hb
    .omega
    .rename_i h1;split at hb
     .omega
     .rename_i h2;split at hb
      .omega
      .rename_i h3;split at hb
       .omega
       .rename_i h4;simp at h1 h2 h3;refine⟨h1,aa,aa,?_,aa⟩;by_cases hk:n.kind=3\/n.kind=4
        .exact .inr ⟨aa,by have:=h3.1 hk;omega,by have:=h3.1 hk;omega⟩
        .have:=h3.2 aa aa;exact .inl ⟨aa,aa⟩
   refine⟨aa,aa,fun n hn=>?_,fun n hn=>?_,fun i hi=>(one i hi).2.2.2.2⟩
   .obtain⟨i,hi,rfl⟩:=aj1.1 hn;exact⟨(one i hi).1,(one i hi).2.1,(one i hi).2.2.1⟩
   .obtain⟨i,hi,rfl⟩:=aj1.1 hn;exact (one i hi).2.2.2.1
def bw (n:gV):List D:=[dS n.name,.v (.int .i64 n.kind),.v (.int .i64 n.count)]
def EV (n:gV):D:=.agg (bw n)
def cE (l:List gV):D:=.sl none (l.map bw)
def dC (c:Option Ex):D:=match c with
 | none=>.v .nilIface
 | some e=>dE e
def cU (r:jd):List D:=[.v (.int .i64 r.kind),dS r.name,dC r.cond]
def IU (r:jd):D:=.agg (cU r)
def fg (l:List jd):D:=.sl none (l.map cU)
def gX (p:aS):List D:=[cE p.names,fg p.ax]
def gu (p:aS):D:=.agg (gX p)
theorem abb (G:ay) (k:Option Bool) (xs:List gV) (g:FuncId) (caps:List D) (p:gV->Bool) (hl:xs.length < 2^62) (ha:H4 G g caps EV p xs) :
  aD prog G 113 [.sl k (xs.map bw),.fn (.func g) caps] (.v (.int .i64 (idx p xs))):=by
 refine aD.aQ (aC _) func113 rfl rfl (rs:=[.tmp 4]) results113 (by simp[ntmps113]) fun X=>?_;simp only[ntmps113,List.map];refine aB [0,1] [] ?_;refine ag fun K1 aF=>aB [0,1,7,8] [] ?_;refine cG (S:=Nat) (fun n=>n<=xs.length/\∀ i (hi:i < xs.length),i < n->p xs[i]=false) (fun n=>⟨bp [(0,.d (.sl k (xs.map bw))),(1,.d (.fn (.func g) caps)),(7,int xs.length),(8,int n)],aq []⟩) (fun n=>xs.length - n) 0 ?_ ak ?_
 .refine df
 .rintro n ⟨hn,hp⟩;refine aB [0,1,7,8,9] [] ?_;refine ag fun K2 aw=>fG (b:=n < xs.length) (by simp[D.le,D.le.go,aR]) (fun hc=>?_) (fun hc=>?_)
  .refine ar (aw _ (ag fun K3 aZ=>bg (aB [0,1,5,7,8] [] ?_)));have uO:=ha xs[n] ak;simp only[EV,bw]at uO;have qf:=(Aq @hc @bw.eq_1);refine e7 uO [0,1,5,7,8,16] [] ?_;refine r4 _ rfl (fun gB=>?_) (fun gB=>?_)
   .refine aB [4] [] ?_;refine bT ?_;simp[D.le,D.le.go,aR];exact (ve hc gB fun i hi=>hp i aa hi).symm
   .refine ar (aZ _ (dN ?_));(try simp only[aV,aX]);refine bh.mk (n+1) ⟨aa,fun i hi aO=>?_⟩ aa ?_
    .by_cases h:i=n
     .subst h;exact gB
     .exact hp i hi aa
    refine df
  .refine b5 (aF _ (aB [4] [] ?_));refine bT ?_;simp[D.le,D.le.go,aR];exact (vf fun i hi=>hp i hi aa).symm
theorem abe (G:ay) (k:Option Bool) (xs:List (List UInt8)) (g:FuncId) (caps:List D) (p:(List UInt8)->Bool) (hl:xs.length < 2^62) (ha:H4 G g caps dS p xs) :
  aD prog G 209 [.sl k (xs.map (fun s=>[dS s])),.fn (.func g) caps] (.v (.int .i64 (idx p xs))):=by
 refine aD.aQ (aC _) func209 rfl rfl (rs:=[.tmp 4]) results209 (by simp[ntmps209]) fun X=>?_;simp only[ntmps209,List.map];refine aB [0,1] [] ?_;refine ag fun K1 aF=>aB [0,1,7,8] [] ?_;refine cG (S:=Nat) (fun n=>n<=xs.length/\∀ i (hi:i < xs.length),i < n->p xs[i]=false) (fun n=>⟨bp [(0,.d (.sl k (xs.map (fun s=>[dS s])))),(1,.d (.fn (.func g) caps)),(7,int xs.length),(8,int n)],aq []⟩) (fun n=>xs.length - n) 0 ?_ ak ?_
 .refine bt @alw
 .rintro n ⟨hn,hp⟩;refine aB [0,1,7,8,9] [] ?_;refine ag fun K2 aw=>fG (b:=n < xs.length) (by simp[D.le,D.le.go,aR]) (fun hc=>?_) (fun hc=>?_)
  .refine ar (aw _ (ag fun K3 aZ=>bg (aB [0,1,5,7,8] [] ?_)));have uO:=ha xs[n] ak;simp only[dS]at uO;have qf:=(Aq @hc @alw);refine e7 uO [0,1,5,7,8,16] [] ?_;refine r4 _ rfl (fun gB=>?_) (fun gB=>?_)
   .refine aB [4] [] ?_;refine bT ?_;simp[D.le,D.le.go,aR];exact (ve hc gB fun i hi=>hp i aa hi).symm
   .refine ar (aZ _ (dN ?_));(try simp only[aV,aX]);refine bh.mk (n+1) ⟨aa,fun i hi aO=>?_⟩ aa ?_
    .by_cases h:i=n
     .subst h;exact gB
     .exact hp i hi aa
    refine bt @alw
  .refine b5 (aF _ (aB [4] [] ?_));refine bT ?_;simp[D.le,D.le.go,aR];exact (vf fun i hi=>hp i hi aa).symm
theorem Xd (G:ay) (k:Option Bool) (xs:List (List UInt8)) (g:FuncId) (caps:List D) (p:List UInt8->Bool) (hl:xs.length < 2^62) (ha:H4 G g caps dS p xs) :
  aD prog G 144 [.sl k (xs.map fun s=>[dS s]),.fn (.func g) caps] (.v (.bool (xs.any p))):=by
 refine aD.aQ (aC _) func144 rfl rfl (rs:=[.tmp 4]) results144 (by simp[ntmps144]) fun X=>?_;simp only[ntmps144,List.map];refine aB [0,1] [] ?_;refine br trivial (abe G k xs g caps p hl ha) [4] [] ?_;refine bT ?_;simp[D.le,D.le.go,aR];exact Gr p xs
theorem ab0 (G:ay) (n:gV) (s:List UInt8):aD prog G 114 [EV n,.ip [dS s]] (.v (.bool (n.name == s))):=by
 simp only[EV,bw,dS];refine aD.aQ (aC _) func114 rfl rfl (rs:=[.tmp 3]) results114 (by simp[ntmps114]) fun X=>?_;simp only[ntmps114,List.map];refine aB [1,2] [2] ?_;refine rg [3] [2] aN fun K' ao=>?_;(repeat refine aK fun Kq af=>?_;simp[bo,bu];(repeat refine⟨aa,?_⟩);refine af _ ?_);refine bJ (ao _ (AW.st (by simp[bo,bu];rfl) ?_));exact gn
theorem yQ (G:ay) (p:aS) (hp:p.names.length < 2^62) (s:List UInt8):aD prog G 42 [gu p,dS s] (.v (.int .i64 (cw p s))):=by
 have hi:=abb G none p.names 114 [.ip [dS s]] (fun n=>n.name == s) hp fun n _=>ab0 G n s;unfold cw;simp only[gu,gX,cE,dS]at hi ⊢;generalize fg p.ax=R at *;generalize idx (fun n:gV=>n.name == s) p.names=z at hi ⊢;refine aD.aQ (aC _) func42 rfl rfl (rs:=[.tmp 4]) results42 (by simp[ntmps42]) fun X=>?_;simp only[ntmps42,List.map];refine ae @fg.eq_1 [2,3] [2,3] ?_;refine gv 3 ?_;refine br trivial hi [4] [2] ?_;exact gn
theorem RX (G:ay) (p:aS) (hp:p.names.length < 2^62) (s:List UInt8):aD prog G 214 [dS s,.ip (gX p)] (.v (.bool (decide (cw p s < 0)))):=by
 have hi:=yQ G p hp s;simp only[gu,gX,cE,fg,dS]at hi ⊢;refine aD.aQ (aC _) func214 rfl rfl (rs:=[.tmp 3]) results214 (by simp[ntmps214]) fun X=>?_;simp only[ntmps214,List.map];refine aB [0,1] [] ?_;refine br trivial hi [3] [] ?_;exact gn
structure VI (T:Prop):Prop where
 out:T
theorem GM {T U:Prop} (h:VI T->U) (t:T):U:=h ⟨t⟩
theorem SG {p:aS} {s:List UInt8} (h:¬ cw p s < 0):∃ k:Nat,∃ hk:k < p.names.length,cw p s=k:=by
 obtain⟨k,hk,he,_⟩:=tu h;exact⟨k,hk,he⟩
theorem abZ (G:ay) (p:aS) (hp:p.names.length < 2^62) (r:jd) (hb:∀ e,r.cond=some e->bE e<=2^28/\(fj true e).length < 2^62):aD prog G 158 [gu p,IU r] (.v (.int .i64 (l7 p r))):=by
 obtain⟨kind,name,cond⟩:=r;dsimp only at hb;have cu:=yQ G p hp name;have bn:=fun s=>RX G p hp s;simp only[gu,gX,cE,fg,IU,cU,dS]at cu bn ⊢
 cases cond with
 | none=>
  have kI:l7 p ⟨kind,name,none⟩=1:=rfl;generalize l7 p ⟨kind,name,none⟩=res at kI;refine aD.aQ (aC _) func158 rfl rfl (rs:=[.tmp 4]) results158 (by simp[ntmps158]) fun X=>?_;simp only[ntmps158,List.map];have fw:=(Aq @dC.eq_1 @dC.eq_2);refine ae fw [2,3] [2,3] ?_;refine ag fun K1 aF=>?_;by_cases h1:kind < 1
  .have qf:=(Aq fw @h1);refine au [2,3,19] [2,3] ?_;refine aJ (ae fw [4] [] ?_);exact aU (Aq fw @kI)
  .by_cases h2:kind > 6
   .have qf:=(Aq fw (Aq @h1 @h2));refine au [2,3,19] [2,3] ?_;refine aJ (ae fw [4] [] ?_);exact aU (Aq fw @kI)
   .have qf:=(Aq fw (Aq @h1 @h2));refine au [2,3,19] [2,3] ?_;refine aJ (ae fw [4] [] ?_);exact aU (Aq fw @kI)
 | some e=>
  have kI:l7 p ⟨kind,name,some e⟩=if decide (kind < 1) || decide (kind > 6) then 1 else if cw p name < 0 then 7
   else if jY kind≠(p.names.getD (cw p name).toNat ⟨[],0,0⟩).kind then 1 else if (fj true e).any fun s=>decide (cw p s < 0) then 7 else 0:=rfl
  generalize l7 p ⟨kind,name,some e⟩=res at kI;obtain⟨JL,fD⟩:=hb e rfl;have jq:=acT G e JL;have wa:=Xd G none (fj true e) 214 [.ip (gX p)] (fun s=>decide (cw p s < 0)) fD fun s _=>RX G p hp s;have JT:dC (some e)=dE e:=rfl;rw[JT];obtain⟨tx,cx,hx⟩:=kW e;rw[hx]at jq ⊢;simp only[gX,cE,fg,dS]at jq wa;generalize ((fj true e).any fun s=>decide (cw p s < 0))=an at kI wa;generalize fj true e=nm at jq wa;refine aD.aQ (aC _) func158 rfl rfl (rs:=[.tmp 4]) results158 (by simp[ntmps158]) fun X=>?_;simp only[ntmps158,List.map];have fw:=(Aq @dC.eq_1 @dC.eq_2);refine ae fw [2,3] [2,3] ?_;refine dT fw 2 ?_;refine dT fw 3 ?_;refine ag fun K1 aF=>?_;by_cases h1:kind < 1
  .rw[if_pos (by simp[h1])]at kI;have qf:=(Aq fw @h1);refine au [2,3,19] [] ?_;refine aJ (ae fw [4] [] ?_);exact aU (Aq fw @kI)
  by_cases h2:kind > 6
  .rw[if_pos (by simp[h2])]at kI;have qf:=(Aq fw (Aq @h1 @h2));refine au [2,3,19] [] ?_;refine aJ (ae fw [4] [] ?_);exact aU (Aq fw @kI)
  rw[if_neg (by simp[h1,h2])]at kI;have qf:=(Aq fw (Aq @h1 @h2));refine au [2,3,19] [] ?_;refine al (ar (aF _ ?_));refine br fw cu [2,3,5] [] ?_;refine ag fun K2 aw=>ae fw [2,3,5,25] [] ?_;by_cases h3:cw p name < 0
  .rw[if_pos h3]at kI;refine b8 (by simp[h3]) (ae fw [4] [] ?_);exact aU (Aq fw @kI)
  rw[if_neg h3]at kI;obtain⟨k,hk,kX⟩:=SG h3
  have mN:p.names.getD (cw p name).toNat ⟨[],0,0⟩=p.names[k]:=by
   rw[kX,ajI,OF,AT hk];rfl
  rw[mN]at kI;refine b9 (by simp[h3]) (ar (aw _ ?_));refine ag fun K3 aZ=>?_;have iN:bw p.names[k]=[dS p.names[k].name,.v (.int .i64 p.names[k].kind),.v (.int .i64 p.names[k].count)]:=rfl;generalize mR:p.names[k].kind=kk at kI iN
  refine' GM (fun dH=>?_) ?_
  rotate_left
  .have iO:=h1;by_cases bQ:kind=1
   .have qf:=(Aq fw @bQ);refine au [2,3,5,6] [] ?_;refine AW.st (show _=(⟨bp [(2,.d (.ip [.sl none (p.names.map bw),.sl none (p.ax.map cU)])),(3,.d (.ip [.v (.int .i64 kind),.v (.string (bs name)),.cf tx cx])),(5,int (cw p name)),(6,int (jY kind))],aq []⟩:St) by rw[bQ]<;>rfl) ?_;exact dH.out
   by_cases bQ:kind=2
   .have qf:=(Aq fw @bQ);refine au [2,3,5,6] [] ?_;refine AW.st (show _=(⟨bp [(2,.d (.ip [.sl none (p.names.map bw),.sl none (p.ax.map cU)])),(3,.d (.ip [.v (.int .i64 kind),.v (.string (bs name)),.cf tx cx])),(5,int (cw p name)),(6,int (jY kind))],aq []⟩:St) by rw[bQ]<;>rfl) ?_;exact dH.out
   by_cases bQ:kind=3
   .have qf:=(Aq fw @bQ);refine au [2,3,5,6] [] ?_;refine AW.st (show _=(⟨bp [(2,.d (.ip [.sl none (p.names.map bw),.sl none (p.ax.map cU)])),(3,.d (.ip [.v (.int .i64 kind),.v (.string (bs name)),.cf tx cx])),(5,int (cw p name)),(6,int (jY kind))],aq []⟩:St) by rw[bQ]<;>rfl) ?_;exact dH.out
   by_cases bQ:kind=4
   .have qf:=(Aq fw @bQ);refine au [2,3,5,6] [] ?_;refine AW.st (show _=(⟨bp [(2,.d (.ip [.sl none (p.names.map bw),.sl none (p.ax.map cU)])),(3,.d (.ip [.v (.int .i64 kind),.v (.string (bs name)),.cf tx cx])),(5,int (cw p name)),(6,int (jY kind))],aq []⟩:St) by rw[bQ]<;>rfl) ?_;exact dH.out
   by_cases bQ:kind=5
   .have qf:=(Aq fw @bQ);refine au [2,3,5,6] [] ?_;refine AW.st (show _=(⟨bp [(2,.d (.ip [.sl none (p.names.map bw),.sl none (p.ax.map cU)])),(3,.d (.ip [.v (.int .i64 kind),.v (.string (bs name)),.cf tx cx])),(5,int (cw p name)),(6,int (jY kind))],aq []⟩:St) by rw[bQ]<;>rfl) ?_;exact dH.out
   have bQ:kind=6:=aa
   have qf:=(Aq fw @bQ);refine au [2,3,5,6] [] ?_;refine AW.st (show _=(⟨bp [(2,.d (.ip [.sl none (p.names.map bw),.sl none (p.ax.map cU)])),(3,.d (.ip [.v (.int .i64 kind),.v (.string (bs name)),.cf tx cx])),(5,int (cw p name)),(6,int (jY kind))],aq []⟩:St) by rw[bQ]<;>rfl) ?_;exact dH.out
  .rw[kX];have qf:=(Aq fw (Aq @hk @iN));refine au [2,3,37] [] ?_;by_cases h4:kk=jY kind
   .rw[if_neg (by simp[h4])]at kI;refine b9 (by simp[h4]) (ar (aZ _ ?_));refine ag fun K4 cr=>rg [42] [] aN fun K' ao=>?_;(repeat refine aK fun Kq af=>?_;simp[dC];(repeat refine⟨aa,?_⟩);refine af _ ?_);refine aK fun Kq af=>?_;simp[dC];refine cX.data (jq) bB (by first | exact D.bR _ | simp[aR,ajN,ajG,D.le,D.le.go,D.le_refl,D.bR,dC]) ?_;refine af _ ?_;simp only[aL,dL];(repeat refine aK fun Kq af=>?_;simp[dC];(repeat refine⟨aa,?_⟩);refine af _ ?_);refine aK fun Kq af=>?_;simp[dC];refine cX.data (wa) bB (by first | exact D.bR _ | simp[aR,ajN,ajG,D.le,D.le.go,D.le_refl,D.bR,dC]) ?_;refine af _ ?_;simp only[aL,dL];(repeat refine aK fun Kq af=>?_;simp[dC];(repeat refine⟨aa,?_⟩);refine af _ ?_);refine bJ (ao _ (AW.st (by simp[dC];rfl) ?_))
    cases an with
    | true=>
     rw[if_pos rfl]at kI;refine aJ (ae fw [4] [] ?_);exact aU (Aq fw @kI)
    | false=>
     rw[if_neg bF]at kI;refine al (ar (cr _ ?_));refine ae fw [4] [] ?_;exact aU (Aq fw @kI)
   .rw[if_pos (fun h=>h4 h.symm)]at kI;refine b8 (by simp[h4]) (ae fw [4] [] ?_);exact aU (Aq fw @kI)
theorem B8 {α:Type} {f:Nat->α->Int}:∀ {l:List α} {i n:Nat} (hn:n < l.length),(∀ k (hk:k < l.length),k < n->f (i+k) l[k]=0)->f (i+n) l[n]≠0->n7 f l i=some (f (i+n) l[n],i+n)
 | x :: l,i,0,_,_,bf=>by rw[n7,if_neg (show ¬ f i x=0 from bf)];rfl
 | x :: l,i,n+1,hn,hb,bf=>by
  have h0:f i x=0:=hb 0 ak aa
  have e:∀ k,i+1+k=i+(k+1):=fun k=>aa
  rw[n7,if_pos h0,B8 (l:=l) (i:=i+1) (n:=n) (by simpa using hn) (fun k hk nD=>by rw[e];exact hb (k+1) (by simpa using hk) aa) (by rw[e];exact bf),e];rfl
theorem Ca {α:Type} {f:Nat->α->Int}:∀ {l:List α} {i:Nat},(∀ k (hk:k < l.length),f (i+k) l[k]=0)->n7 f l i=none
 | [],_,_=>rfl
 | x :: l,i,hb=>by
  have e:∀ k,i+1+k=i+(k+1):=fun k=>aa
  rw[n7,if_pos (show f i x=0 from hb 0 ak),Ca fun k hk=>by rw[e];exact hb (k+1) (by simpa using hk)]
structure Et (p:aS):Prop where
 nl:p.names.length < 2^62
 rl:p.ax.length < 2^62
 nn:∀ n∈p.names,n.name.length < 2^60
 cb:∀ r∈p.ax,∀ e,r.cond=some e->bE e<=2^28/\(fj true e).length < 2^62
theorem RE (G:ay) (p:aS) (hp:Et p):aD prog G 81 [gu p] (bD (c8 p)):=by
 obtain⟨fD,fq,s8,Ai⟩:=hp
 have yl:c8 p=if p.names.length > 12\/p.ax.length > 40 then some (4,none) else match n7 (nW p) p.names 0 with
  | some (e,i)=>some (e,some i)
  | none=>match n7 (fun _ r=>l7 p r) p.ax 0 with
   | some (e,i)=>some (e,some (p.names.length+i))
   | none=>none:=rfl
 generalize ko:c8 p=res;rw[yl]at ko;have cu:=fun s=>yQ G p fD s;have kf:=fun r h=>abZ G p fD r h;simp only[gu,gX,cE,fg,dS]at cu kf ⊢;refine aD.aQ (aC _) func81 rfl rfl (rs:=[.tmp 2]) results81 (by simp[ntmps81]) fun X=>?_;simp only[ntmps81,List.map];refine aB [1] [1] ?_;refine gv 1 ?_;refine ag fun K1 aF=>?_;by_cases g0:(p.names.length:Int) > 12
 .rw[if_pos (.inl aa)]at ko;have qf:=@g0;refine au [1,19] [] ?_;refine aJ (aB [2] [] ?_);refine bT ?_;simp[D.le,D.le.go,aR];simp[<- ko,bD,D.le]
 by_cases g1:(p.ax.length:Int) > 40
 .rw[if_pos (.inr aa)]at ko;have qf:=(Aq @g0 @g1);refine au [1,19] [] ?_;refine aJ (aB [2] [] ?_);refine bT ?_;simp[D.le,D.le.go,aR];simp[<- ko,bD,D.le]
 rw[if_neg aa]at ko;have qf:=(Aq @g0 @g1);refine au [1,19] [] ?_;refine al (ar (aF _ ?_));refine ag fun K2 aw=>aB [1,22,23,24] [] ?_;refine cG (S:=Nat) (fun n=>n<=p.names.length/\∀ k (hk:k < p.names.length),k < n->nW p k p.names[k]=0) (fun n=>⟨bp [(1,.d (.ip [.sl none (p.names.map bw),.sl none (p.ax.map cU)])),(22,.d (.sl none (p.names.map bw))),(23,int p.names.length),(24,int n)],aq []⟩) (fun n=>p.names.length - n) 0 ?_ ak ?_
 .refine df
 .rintro n ⟨hn,hb⟩;refine aB [1,22,23,24,25] [] ?_;refine ag fun K3 aZ=>fG (b:=n < p.names.length) (by simp[D.le,D.le.go,aR]) (fun hc=>?_) (fun hc=>?_)
  .have aH:=hc
   have fO:nW p n p.names[n]≠0->res=some (nW p n p.names[n],some n):=fun bf=>by
    rw[<- ko,B8 (i:=0) aH (fun k hk nD=>by rw[akg];exact hb k hk nD) (by rw[akg];exact bf)];simp
   have iF:=s8 _ (By aH);have iN:bw p.names[n]=[dS p.names[n].name,.v (.int .i64 p.names[n].kind),.v (.int .i64 p.names[n].count)]:=rfl
   have ck:nW p n p.names[n]=if !jv p.names[n].name then 5 else if decide (p.names[n].kind < 1) || decide (p.names[n].kind > 4) then 1 else if ((decide (p.names[n].kind=3) || decide (p.names[n].kind=4)) && (decide (p.names[n].count < 1) || decide (p.names[n].count > 7))) || (!(decide (p.names[n].kind=3) || decide (p.names[n].kind=4)) && decide (p.names[n].count≠0)) then 2 else if cw p p.names[n].name < n then 9 else 0:=rfl
   generalize hv:nW p n p.names[n]=v at ck fO;generalize p.names[n].name=nm at iF iN ck;generalize p.names[n].kind=kd at iN ck;generalize p.names[n].count=ct at iN ck;have lT:=Sr G nm iF;have mT:=cu nm;simp only[dS]at iN lT;generalize jv nm=nf at lT ck;refine ar (aZ _ (ag fun K4 cr=>bg ?_));have qf:=(Aq @aH @iN);refine au [1,3,4,22,23,24] [4] ?_;refine gv 4 ?_
   refine' GM (fun eL=>?_) ?_
   rotate_left
   .by_cases k3:kd=3
    .have qf:=@k3;refine au [1,3,4,5,22,23,24] [] ?_;refine AW.st (show _=(⟨bp [(1,.d (.ip [.sl none (p.names.map bw),.sl none (p.ax.map cU)])),(3,int n),(4,.d (.ip [.v (.string (bs nm)),.v (.int .i64 kd),.v (.int .i64 ct)])),(5,.d (.v (.bool (decide (kd=3) || decide (kd=4))))),(22,.d (.sl none (p.names.map bw))),(23,int p.names.length),(24,int n)],aq []⟩:St) by rw[k3]<;>rfl) ?_;exact eL.out
    .by_cases k4:kd=4
     .have qf:=(Aq @k3 @k4);refine au [1,3,4,5,22,23,24] [] ?_;refine AW.st (show _=(⟨bp [(1,.d (.ip [.sl none (p.names.map bw),.sl none (p.ax.map cU)])),(3,int n),(4,.d (.ip [.v (.string (bs nm)),.v (.int .i64 kd),.v (.int .i64 ct)])),(5,.d (.v (.bool (decide (kd=3) || decide (kd=4))))),(22,.d (.sl none (p.names.map bw))),(23,int p.names.length),(24,int n)],aq []⟩:St) by rw[k4]<;>rfl) ?_;exact eL.out
     .have e:(decide (kd=3) || decide (kd=4))=false:=by simp[k3,k4]
      have qf:=(Aq @k3 @k4);refine au [1,3,4,5,22,23,24] [] ?_;refine AW.st (show _=(⟨bp [(1,.d (.ip [.sl none (p.names.map bw),.sl none (p.ax.map cU)])),(3,int n),(4,.d (.ip [.v (.string (bs nm)),.v (.int .i64 kd),.v (.int .i64 ct)])),(5,.d (.v (.bool (decide (kd=3) || decide (kd=4))))),(22,.d (.sl none (p.names.map bw))),(23,int p.names.length),(24,int n)],aq []⟩:St) by rw[e]<;>rfl) ?_;exact eL.out
   .generalize (decide (kd=3) || decide (kd=4))=cB at ck;refine aB [1,3,4,5,6,22,23,24] [] ?_;refine ag fun K5 cg=>?_
    refine' GM (fun dH=>?_) ?_
    rotate_left
    .refine bg (br trivial lT [1,3,4,5,6,22,23,24,37] [] ?_);by_cases Ax:nf=true
     rotate_left
     .have QC:nf=false:=by simpa using Ax
      rw[if_pos (by simp[QC])]at ck;rw[QC];refine aJ (gR trivial cg [1,3,6,22,23,24] [] ?_);refine AW.st (show _=(⟨bp [(1,.d (.ip [.sl none (p.names.map bw),.sl none (p.ax.map cU)])),(3,int n),(6,int v),(22,.d (.sl none (p.names.map bw))),(23,int p.names.length),(24,int n)],aq []⟩:St) by rw[ck]<;>rfl) ?_;exact dH.out
     .rw[if_neg (by simp[Ax])]at ck;rw[Ax];refine al ?_;by_cases k1:kd < 1
      .rw[if_pos (by simp[k1])]at ck;have qf:=@k1;refine au [1,3,4,5,6,22,23,24,42] [] ?_;refine aJ (gR trivial cg [1,3,6,22,23,24] [] ?_);refine AW.st (show _=(⟨bp [(1,.d (.ip [.sl none (p.names.map bw),.sl none (p.ax.map cU)])),(3,int n),(6,int v),(22,.d (.sl none (p.names.map bw))),(23,int p.names.length),(24,int n)],aq []⟩:St) by rw[ck]<;>rfl) ?_;exact dH.out
      by_cases k2:kd > 4
      .rw[if_pos (by simp[k2])]at ck;have qf:=(Aq @k1 @k2);refine au [1,3,4,5,6,22,23,24,42] [] ?_;refine aJ (gR trivial cg [1,3,6,22,23,24] [] ?_);refine AW.st (show _=(⟨bp [(1,.d (.ip [.sl none (p.names.map bw),.sl none (p.ax.map cU)])),(3,int n),(6,int v),(22,.d (.sl none (p.names.map bw))),(23,int p.names.length),(24,int n)],aq []⟩:St) by rw[ck]<;>rfl) ?_;exact dH.out
      rw[if_neg (by simp[k1,k2])]at ck;have qf:=(Aq @k1 @k2);refine au [1,3,4,5,6,22,23,24,42] [] ?_;refine al ?_;by_cases P6:cB=true
      .rw[P6]at ck ⊢;by_cases c1:ct < 1
       .rw[if_pos (by simp[c1])]at ck;have qf:=@c1;refine au [1,3,4,6,22,23,24,51] [] ?_;refine aJ (gR trivial cg [1,3,6,22,23,24] [] ?_);refine AW.st (show _=(⟨bp [(1,.d (.ip [.sl none (p.names.map bw),.sl none (p.ax.map cU)])),(3,int n),(6,int v),(22,.d (.sl none (p.names.map bw))),(23,int p.names.length),(24,int n)],aq []⟩:St) by rw[ck]<;>rfl) ?_;exact dH.out
       by_cases c2:ct > 7
       .rw[if_pos (by simp[c2])]at ck;have qf:=(Aq @c1 @c2);refine au [1,3,4,6,22,23,24,51] [] ?_;refine aJ (gR trivial cg [1,3,6,22,23,24] [] ?_);refine AW.st (show _=(⟨bp [(1,.d (.ip [.sl none (p.names.map bw),.sl none (p.ax.map cU)])),(3,int n),(6,int v),(22,.d (.sl none (p.names.map bw))),(23,int p.names.length),(24,int n)],aq []⟩:St) by rw[ck]<;>rfl) ?_;exact dH.out
       rw[if_neg (by simp[c1,c2])]at ck;have qf:=(Aq @c1 @c2);refine au [1,3,4,6,22,23,24,51] [] ?_;refine al (br trivial mT [1,3,6,22,23,24,72] [] ?_);by_cases c9:cw p nm < n
       .rw[if_pos c9]at ck;refine b8 (by simp[c9]) (gR trivial cg [1,3,6,22,23,24] [] ?_);refine AW.st (show _=(⟨bp [(1,.d (.ip [.sl none (p.names.map bw),.sl none (p.ax.map cU)])),(3,int n),(6,int v),(22,.d (.sl none (p.names.map bw))),(23,int p.names.length),(24,int n)],aq []⟩:St) by rw[ck]<;>rfl) ?_;exact dH.out
       .rw[if_neg c9]at ck;refine b9 (by simp[c9]) (ar ?_);refine cg _ (AW.norm [1,3,6,22,23,24] [] aN (AW.st bB ?_));refine AW.st (show _=(⟨bp [(1,.d (.ip [.sl none (p.names.map bw),.sl none (p.ax.map cU)])),(3,int n),(6,int v),(22,.d (.sl none (p.names.map bw))),(23,int p.names.length),(24,int n)],aq []⟩:St) by rw[ck]<;>rfl) ?_;exact dH.out
      .have ZI:cB=false:=by simpa using P6
       rw[ZI]at ck ⊢;by_cases c0:ct=0
       .rw[if_neg (by simp[c0])]at ck;have qf:=@c0;refine au [1,3,4,6,22,23,24,51] [] ?_;refine al (br trivial mT [1,3,6,22,23,24,72] [] ?_);by_cases c9:cw p nm < n
        .rw[if_pos c9]at ck;refine b8 (by simp[c9]) (gR trivial cg [1,3,6,22,23,24] [] ?_);refine AW.st (show _=(⟨bp [(1,.d (.ip [.sl none (p.names.map bw),.sl none (p.ax.map cU)])),(3,int n),(6,int v),(22,.d (.sl none (p.names.map bw))),(23,int p.names.length),(24,int n)],aq []⟩:St) by rw[ck]<;>rfl) ?_;exact dH.out
        .rw[if_neg c9]at ck;refine b9 (by simp[c9]) (ar ?_);refine cg _ (AW.norm [1,3,6,22,23,24] [] aN (AW.st bB ?_));refine AW.st (show _=(⟨bp [(1,.d (.ip [.sl none (p.names.map bw),.sl none (p.ax.map cU)])),(3,int n),(6,int v),(22,.d (.sl none (p.names.map bw))),(23,int p.names.length),(24,int n)],aq []⟩:St) by rw[ck]<;>rfl) ?_;exact dH.out
       .rw[if_pos (by simp[c0])]at ck;have qf:=@c0;refine au [1,3,4,6,22,23,24,51] [] ?_;refine aJ (gR trivial cg [1,3,6,22,23,24] [] ?_);refine AW.st (show _=(⟨bp [(1,.d (.ip [.sl none (p.names.map bw),.sl none (p.ax.map cU)])),(3,int n),(6,int v),(22,.d (.sl none (p.names.map bw))),(23,int p.names.length),(24,int n)],aq []⟩:St) by rw[ck]<;>rfl) ?_;exact dH.out
    .by_cases js:v=0
     .have qf:=@js;refine au [1,3,6,22,23,24,80] [] ?_;refine al (ar ?_);refine cr _ ?_;refine dN ?_;(try simp only[aV,aX]);refine bh.mk (n+1) ⟨aa,fun k hk nD=>?_⟩ aa ?_
      .by_cases h:k=n
       .subst h;rw[hv,js]
       .exact hb k hk aa
      refine df
     .have qf:=@js;refine au [1,3,6,22,23,24,80] [] ?_;refine aJ (aB [2] [84] ?_);refine bT ?_;simp[D.le,D.le.go,aR];simp[fO js,bD,D.le,D.le.go]
  .rw[Ca fun k hk=>by rw[akg];exact hb k hk aa]at ko;dsimp only at ko;refine b5 (aw _ (ag fun K6 eB=>aB [1,88,89,90] [] ?_));refine cG (S:=Nat) (fun n=>n<=p.ax.length/\∀ k (hk:k < p.ax.length),k < n->l7 p p.ax[k]=0) (fun n=>⟨bp [(1,.d (.ip [.sl none (p.names.map bw),.sl none (p.ax.map cU)])),(88,.d (.sl none (p.ax.map cU))),(89,int p.ax.length),(90,int n)],aq []⟩) (fun n=>p.ax.length - n) 0 ?_ ak ?_
   .refine df
   .rintro n ⟨hn,hb⟩;refine aB [1,88,89,90,91] [] ?_;refine ag fun K7 eO=>fG (b:=n < p.ax.length) (by simp[D.le,D.le.go,aR]) (fun hc=>?_) (fun hc=>?_)
    .have aH:=hc
     have fO:l7 p p.ax[n]≠0->res=some (l7 p p.ax[n],some (p.names.length+n)):=fun bf=>by
      rw[<- ko,B8 (i:=0) aH (fun k hk nD=>hb k hk nD) bf];simp
     have iN:cU p.ax[n]=[.v (.int .i64 p.ax[n].kind),dS p.ax[n].name,dC p.ax[n].cond]:=rfl;have bn:=kf p.ax[n] (Ai _ (By aH));simp only[IU,iN]at bn;generalize hv:l7 p p.ax[n]=v at bn fO
     obtain⟨tc,JT,hsc⟩:∃ tc,dC p.ax[n].cond=tc/\((∃ a b,tc = .cf a b)\/tc = .v .nilIface):=by
      cases p.ax[n].cond with
      | none=>exact⟨_,rfl,.inr rfl⟩
      | some e=>obtain⟨a,b,h⟩:=kW e;exact⟨_,rfl,.inl ⟨a,b,h⟩⟩
     rw[JT]at iN bn;generalize p.ax[n].kind=kd at iN bn;generalize p.ax[n].name=nm at iN bn;simp only[dS]at iN bn
     have F3:(p.names.length:Int)+(n:Int)<=2^62:=aa
     refine ar (eO _ (ag fun K8 eX=>bg ?_))
     rcases hsc with⟨ta,tb2,rfl⟩ | rfl
     all_goals
      .have qf:=(Aq @aH @iN);refine au [1,7,8,88,89,90] [8] ?_;refine gv 8 ?_;refine br trivial bn [1,7,9,88,89,90] [] ?_;by_cases js:v=0
       .have qf:=@js;refine au [1,7,9,88,89,90,99] [] ?_;refine al (ar (eX _ ?_));refine dN ?_;(try simp only[aV,aX]);refine bh.mk (n+1) ⟨aa,fun k hk nD=>?_⟩ aa ?_
        .by_cases h:k=n
         .subst h;rw[hv,js]
         .exact hb k hk aa
        refine df
       .have qf:=@js;refine au [1,7,9,88,89,90,99] [] ?_;refine aJ (aB [2] [107] ?_);refine bT ?_;simp[D.le,D.le.go,aR];simp[fO js,bD,D.le,D.le.go]
    .rw[Ca fun k hk=>hb k hk aa]at ko;refine b5 (eB _ (aB [2] [] ?_));refine bT ?_;simp[D.le,D.le.go,aR];simp[<- ko,bD]
def eo (r:jd):List D:=[.v (.int .i64 r.kind),dS r.name,l9 r.cond]
def gr (p:aS):List D:=[cE p.names,.sl none (p.ax.map eo)]
def eF (p:aS):D:=.agg (gr p)
theorem Va (G:ay) (p:aS) (hl:p.names.length < 2^62) (s:List UInt8):aD prog G 28 [eF p,dS s] (.v (.int .i64 (cw p s))):=by
 unfold cw;simp only[eF,gr,cE,dS];generalize p.ax.map eo=R;refine aD.aQ (aC _) func28 rfl rfl (rs:=[.tmp 4]) results28 (by simp[ntmps28]) fun X=>?_;simp only[ntmps28,List.map];refine aB [1,2] [2] ?_;refine gv 2 ?_;refine ag fun K1 aF=>aB [1,8,9,10] [] ?_;refine cG (S:=Nat) (fun n=>n<=p.names.length/\∀ i (hi:i < p.names.length),i < n->(p.names[i].name == s)=false) (fun n=>⟨bp [(1,.d (.v (.string (bs s)))),(8,.d (.sl none (p.names.map bw))),(9,int p.names.length),(10,int n)],aq []⟩) (fun n=>p.names.length - n) 0 ?_ ak ?_
 .refine df
 .rintro n ⟨hn,hp⟩;refine aB [1,8,9,10,11] [] ?_;refine ag fun K2 aw=>fG (b:=n < p.names.length) (by simp[D.le,D.le.go,aR]) (fun hc=>?_) (fun hc=>?_)
  .have aH:=hc;have jh:bw p.names[n]=[.v (.string (bs p.names[n].name)),.v (.int .i64 p.names[n].kind),.v (.int .i64 p.names[n].count)]:=rfl;refine ar (aw _ (ag fun K3 aZ=>bg ?_));have qf:=(Aq @aH @jh);refine au [1,5,6,8,9,10] [6] ?_;refine gv 6 ?_;by_cases heq:p.names[n].name=s
   .refine rg [1,5,8,9,10,18] [] aN fun K' ao=>?_;(repeat refine aK fun Kq af=>?_;simp[bo,bu,heq];(repeat refine⟨aa,?_⟩);refine af _ ?_);refine bJ (ao _ (AW.st (by simp[bo,bu,heq];rfl) ?_));refine aJ (aB [4] [] ?_);refine bT ?_;simp[D.le,D.le.go,aR];exact (ve (p:=fun m:gV=>m.name == s) aH (by simp[heq]) fun i hi=>hp i aa hi).symm
   .refine rg [1,5,8,9,10,18] [] aN fun K' ao=>?_;(repeat refine aK fun Kq af=>?_;simp[bo,bu,heq];(repeat refine⟨aa,?_⟩);refine af _ ?_);refine bJ (ao _ (AW.st (by simp[bo,bu,heq];rfl) ?_));refine b9 (by simp[heq]) (ar (aZ _ ?_));refine dN ?_;(try simp only[aV,aX]);refine bh.mk (n+1) ⟨aa,fun i hi aO=>?_⟩ aa ?_
    .by_cases h:i=n
     .subst h;simpa using heq
     .exact hp i hi aa
    refine df
  .refine b5 (aF _ (aB [4] [] ?_));refine bT ?_;simp[D.le,D.le.go,aR];exact (vf (p:=fun m:gV=>m.name == s) fun i hi=>hp i hi aa).symm
def jQ (l:List gV) (k:Int):Nat->List Int
 | 0=>[]
 | i+1=>jQ l k i ++ if (l.getD i ⟨[],0,0⟩).kind=k then [(i:Int)] else []
theorem yP (l:List gV) (k:Int):∀ n,(jQ l k n).length<=n
 | 0=>ajJ _
 | n+1=>by rw[jQ,ajQ];have:=yP l k n;split<;>simp<;>omega
theorem GG (l:List gV) (k:Int):jQ l k 0=[]:=rfl
theorem GF {l:List gV} {k:Int} {i:Nat} (h:i < l.length):jQ l k (i+1)=jQ l k i ++ if l[i].kind=k then [(i:Int)] else []:=by
 rw[jQ,OF,AT h];rfl
theorem R5 (G:ay) (p:aS) (hl:p.names.length < 2^40) (k:Int):aD prog G 40 [gu p,.v (.int .i64 k)] (.sl none ((jQ p.names k p.names.length).map fun x=>[.v (.int .i64 x)])):=by
 simp only[gu,gX,cE,fg];generalize p.ax.map cU=R;refine aD.aQ (aC _) func40 rfl rfl (rs:=[.tmp 4]) results40 (by simp[ntmps40]) fun X=>?_;simp only[ntmps40,List.map];refine aB [1,2] [2] ?_;refine gv 2 ?_;refine aB [1,2,5] [] ?_;refine ag fun K1 aF=>aB [1,5,9,10,11] [] ?_;refine cG (S:=Nat) (fun i=>i<=p.names.length) (fun i=>⟨bp [(1,.d (.v (.int .i64 k))),(5,.own 300 0 (jQ p.names k i).length),(9,.d (.sl none (p.names.map bw))),(10,int p.names.length),(11,int i)],aq [(300,.sl 3 1 ((jQ p.names k i).map fun x=>[.v (.int .i64 x)]))]⟩) (fun i=>p.names.length - i) 0 ?_ ak ?_
 .refine (aM.nU 5 300 3 1 rfl rfl).trans ?_;refine aM.dk aN (by simp[GG]) (by simp[GG])
 .intro i hi;have dB:=yP p.names k i;have sx:=fun h=>GF (l:=p.names) (k:=k) (i:=i) h;generalize Kl:jQ p.names k i=L at dB sx ⊢;refine aB [1,5,9,10,11,12] [300] ?_;refine ag fun K2 aw=>fG (b:=i < p.names.length) (by simp[D.le,D.le.go,aR]) (fun hc=>?_) (fun hc=>?_)
  .have aH:=hc;have fi:=sx aH;have jh:bw p.names[i]=[.v (.string (bs p.names[i].name)),.v (.int .i64 p.names[i].kind),.v (.int .i64 p.names[i].count)]:=rfl;generalize p.names[i].name=nm at jh;generalize p.names[i].kind=kd at jh fi;generalize p.names[i].count=ct at jh;refine ar (aw _ (ag fun K3 aZ=>bg ?_));have qf:=(Aq @aH @jh);refine au [1,5,6,7,9,10,11] [300,7] ?_;refine gv 7 ?_;by_cases heq:kd=k
   .rw[if_pos heq]at fi;have qf:=@heq;refine au [1,5,6,9,10,11,19] [300] ?_;refine aJ (fH (aC _) fun K' ao=>?_);(repeat refine aK fun Kq af=>?_;simp[sh];(repeat refine⟨aa,?_⟩);refine af _ ?_);refine bJ (ao _ ?_);refine aZ _ (AW.norm [1,5,9,10,11] [300] aN (AW.st (by simp[sh];rfl) ?_));refine dN ?_;(try simp only[aV,aX]);refine bh.mk (i+1) aa aa ?_;refine bt @fi
   .rw[if_neg heq,ako]at fi;have qf:=@heq;refine au [1,5,6,9,10,11,19] [300] ?_;refine al (ar (aZ _ ?_));refine dN ?_;(try simp only[aV,aX]);refine bh.mk (i+1) aa aa ?_;refine bt @fi
  .obtain rfl:i=p.names.length:=aa
   refine b5 (aF _ (AW.imp (aM.freeze 300 trivial) ?_));refine AW.st (by simp[sh];rfl) ?_;refine aB [4] [] ?_;exact aU @Kl
theorem HP (G:ay) (p:aS) (hl:p.names.length < 2^40) (k:Int):aD prog G 187 [eF p,.v (.int .i64 k)] (.sl none ((jQ p.names k p.names.length).map fun x=>[.v (.int .i64 x)])):=by
 simp only[eF,gr,cE,fg];generalize p.ax.map eo=R;refine aD.aQ (aC _) func187 rfl rfl (rs:=[.tmp 4]) results187 (by simp[ntmps187]) fun X=>?_;simp only[ntmps187,List.map];refine aB [1,2] [2] ?_;refine gv 2 ?_;refine aB [1,2,5] [] ?_;refine ag fun K1 aF=>aB [1,5,9,10,11] [] ?_;refine cG (S:=Nat) (fun i=>i<=p.names.length) (fun i=>⟨bp [(1,.d (.v (.int .i64 k))),(5,.own 300 0 (jQ p.names k i).length),(9,.d (.sl none (p.names.map bw))),(10,int p.names.length),(11,int i)],aq [(300,.sl 3 1 ((jQ p.names k i).map fun x=>[.v (.int .i64 x)]))]⟩) (fun i=>p.names.length - i) 0 ?_ ak ?_
 .refine (aM.nU 5 300 3 1 rfl rfl).trans ?_;refine aM.dk aN (by simp[GG]) (by simp[GG])
 .intro i hi;have dB:=yP p.names k i;have sx:=fun h=>GF (l:=p.names) (k:=k) (i:=i) h;generalize Kl:jQ p.names k i=L at dB sx ⊢;refine aB [1,5,9,10,11,12] [300] ?_;refine ag fun K2 aw=>fG (b:=i < p.names.length) (by simp[D.le,D.le.go,aR]) (fun hc=>?_) (fun hc=>?_)
  .have aH:=hc;have fi:=sx aH;have jh:bw p.names[i]=[.v (.string (bs p.names[i].name)),.v (.int .i64 p.names[i].kind),.v (.int .i64 p.names[i].count)]:=rfl;generalize p.names[i].name=nm at jh;generalize p.names[i].kind=kd at jh fi;generalize p.names[i].count=ct at jh;refine ar (aw _ (ag fun K3 aZ=>bg ?_));have qf:=(Aq @aH @jh);refine au [1,5,6,7,9,10,11] [300,7] ?_;refine gv 7 ?_;by_cases heq:kd=k
   .rw[if_pos heq]at fi;have qf:=@heq;refine au [1,5,6,9,10,11,19] [300] ?_;refine aJ (fH (aC _) fun K' ao=>?_);(repeat refine aK fun Kq af=>?_;simp[sh];(repeat refine⟨aa,?_⟩);refine af _ ?_);refine bJ (ao _ ?_);refine aZ _ (AW.norm [1,5,9,10,11] [300] aN (AW.st (by simp[sh];rfl) ?_));refine dN ?_;(try simp only[aV,aX]);refine bh.mk (i+1) aa aa ?_;refine bt @fi
   .rw[if_neg heq,ako]at fi;have qf:=@heq;refine au [1,5,6,9,10,11,19] [300] ?_;refine al (ar (aZ _ ?_));refine dN ?_;(try simp only[aV,aX]);refine bh.mk (i+1) aa aa ?_;refine bt @fi
  .obtain rfl:i=p.names.length:=aa
   refine b5 (aF _ (AW.imp (aM.freeze 300 trivial) ?_));refine AW.st (by simp[sh];rfl) ?_;refine aB [4] [] ?_;exact aU @Kl
def j9 (is cz:List UInt8->Bool):List Ex->Nat
 | []=>0
 | e :: l=>(if eN is cz e then 1 else 0)+j9 is cz l
theorem Oz (is cz:List UInt8->Bool):∀ a b:List Ex,j9 is cz (a ++ b)=j9 is cz a+j9 is cz b
 | [],b=>by simp[j9]
 | e :: a,b=>by simp only[akF,j9,Oz is cz a b];omega
theorem EK (is cz:List UInt8->Bool):∀ l:List Ex,j9 is cz l<=l.length
 | []=>by simp[j9]
 | e :: l=>by have:=EK is cz l;simp only[j9,ajP];split<;>omega
theorem OB (is cz:List UInt8->Bool) {l:List Ex} {i:Nat} (hi:i < l.length):j9 is cz (l.take (i+1))=j9 is cz (l.take i)+(if eN is cz l[i] then 1 else 0):=by
 rw[ajO hi,Oz];simp[j9]
theorem Oy (is cz:List UInt8->Bool):∀ l:List Ex,decide (j9 is cz l=l.length)=zO is cz l
 | []=>rfl
 | e :: l=>by
  have h1:=Oy is cz l;have h2:=EK is cz l;rw[zO,<- h1];simp only[j9,ajP]
  rcases Bool.eq_false_or_eq_true (eN is cz e)with hE | hE
  .simp[hE,ala 1]
  .have:¬ j9 is cz l=l.length+1:=aa
   simp[hE,this]
theorem OA (is cz:List UInt8->Bool):∀ l:List Ex,decide (0 < j9 is cz l)=zP is cz l
 | []=>rfl
 | e :: l=>by
  have h1:=OA is cz l;rw[zP,<- h1];simp only[j9]
  rcases Bool.eq_false_or_eq_true (eN is cz e)with hE | hE
  .simp[hE];omega
  .simp[hE]
theorem aez (G:ay) (g1 g2:FuncId) (c1 c2:List D) (is cz:List UInt8->Bool) (S1 S2:List UInt8->Prop) (h1:rb S1 G g1 c1 is) (h2:rb S2 G g2 c2 cz):∀ (n:Nat) (e:Ex),SizeOf.sizeOf e<=n->jc S1 S2 e->iL e->bE e<=2^28->aD prog G 147 [dR e,.fn (.func g1) c1,.fn (.func g2) c2] (.v (.bool (eN is cz e))):=by
 intro n
 induction n with
 | zero=>intro e bd;cases e<;>simp at bd
 | succ n ih=>
  intro e bd im ml hb;have fw:=(Aq @alv (Aq @alw (Aq @ll @eE.eq_1)))
  cases e with
  | iD b=>
   cases b with
   | true=>
    rw[dR];refine aD.aQ (aC _) func147 rfl rfl (rs:=[.tmp 6]) results147 (by simp[ntmps147]) fun X=>?_;simp only[ntmps147,List.map];refine ae fw [0,1,2] [] ?_;refine ag fun K1 aF=>ae fw [0,1,2,13] [] ?_;refine bg (ae fw [0,1,2,13,14] [] ?_);refine aJ (ae fw [6] [] ?_);refine bT ?_;simp[D.le,D.le.go,aR,ab,dS,ll,eE,eN]
   | false=>
    rw[dR];refine aD.aQ (aC _) func147 rfl rfl (rs:=[.tmp 6]) results147 (by simp[ntmps147]) fun X=>?_;simp only[ntmps147,List.map];refine ae fw [0,1,2] [] ?_;refine ag fun K1 aF=>ae fw [0,1,2,13] [] ?_;refine bg (ae fw [0,1,2,13,14] [] ?_);refine al (ae fw [0,1,2,13,16] [] ?_);refine al (ae fw [0,1,2,13,24] [] ?_);refine al (ae fw [0,1,2,13,41] [] ?_);refine al (ae fw [0,1,2,13,58] [] ?_);refine al (ag fun K2 aw=>?_);refine ae fw [0,1,2,13,70] [] ?_;refine al (gR fw aw [0,1,2,70] [] ?_);refine al (ar (aF _ ?_));refine ae fw [6] [] ?_;refine bT ?_;simp[D.le,D.le.go,aR,ab,dS,ll,eE,eN]
  | bit s=>
   rw[jc]at im;have hi:=h1 s im;rw[dR,eN];refine aD.aQ (aC _) func147 rfl rfl (rs:=[.tmp 6]) results147 (by simp[ntmps147]) fun X=>?_;simp only[ntmps147,List.map];refine ae fw [0,1,2] [] ?_;refine ag fun K1 aF=>ae fw [0,1,2,13] [] ?_;refine bg (ae fw [0,1,2,13,14] [] ?_);refine al (ae fw [0,1,2,13,16] [] ?_);refine aJ (br fw hi [6] [] ?_);exact aU fw
  | jA s=>
   rw[jc]at im;have hi:=h1 s im.1;have hw:=h2 s im.2;rw[dR,eN]
   cases hx:is s with
   | false=>
    rw[hx]at hi;refine aD.aQ (aC _) func147 rfl rfl (rs:=[.tmp 6]) results147 (by simp[ntmps147]) fun X=>?_;simp only[ntmps147,List.map];refine ae fw [0,1,2] [] ?_;refine ag fun K1 aF=>ae fw [0,1,2,13] [] ?_;refine bg (ae fw [0,1,2,13,14] [] ?_);refine al (ae fw [0,1,2,13,16] [] ?_);refine al (ae fw [0,1,2,13,24] [] ?_);refine aJ (br fw hi [6] [] ?_);exact aU fw
   | true=>
    rw[hx]at hi;refine aD.aQ (aC _) func147 rfl rfl (rs:=[.tmp 6]) results147 (by simp[ntmps147]) fun X=>?_;simp only[ntmps147,List.map];refine ae fw [0,1,2] [] ?_;refine ag fun K1 aF=>ae fw [0,1,2,13] [] ?_;refine bg (ae fw [0,1,2,13,14] [] ?_);refine al (ae fw [0,1,2,13,16] [] ?_);refine al (ae fw [0,1,2,13,24] [] ?_);refine aJ (rg [6] [] aN fun K' ao=>?_);(repeat refine aK fun Kq af=>?_;simp[ab,dS,ll,eE];(repeat refine⟨aa,?_⟩);refine af _ ?_);refine aK fun Kq af=>?_;simp[ab,dS,ll,eE];refine cX.data (hi) bB (by first | exact D.bR _ | simp[aR,ajN,ajG,D.le,D.le.go,D.le_refl,D.bR,ab,dS,ll,eE]) ?_;refine af _ ?_;simp only[aL,dL];(repeat refine aK fun Kq af=>?_;simp[ab,dS,ll,eE];(repeat refine⟨aa,?_⟩);refine af _ ?_);refine aK fun Kq af=>?_;simp[ab,dS,ll,eE];refine cX.data (hw) bB (by first | exact D.bR _ | simp[aR,ajN,ajG,D.le,D.le.go,D.le_refl,D.bR,ab,dS,ll,eE]) ?_;refine af _ ?_;simp only[aL,dL];(repeat refine aK fun Kq af=>?_;simp[ab,dS,ll,eE];(repeat refine⟨aa,?_⟩);refine af _ ?_);refine bJ (ao _ (AW.st (by simp[ab,dS,ll,eE];rfl) ?_));exact aU fw
  | jm s=>
   rw[jc]at im;have hi:=h2 s im.2;have hw:=h1 s im.1;rw[dR,eN];rw[Bool.and_comm]
   cases hx:cz s with
   | false=>
    rw[hx]at hi;refine aD.aQ (aC _) func147 rfl rfl (rs:=[.tmp 6]) results147 (by simp[ntmps147]) fun X=>?_;simp only[ntmps147,List.map];refine ae fw [0,1,2] [] ?_;refine ag fun K1 aF=>ae fw [0,1,2,13] [] ?_;refine bg (ae fw [0,1,2,13,14] [] ?_);refine al (ae fw [0,1,2,13,16] [] ?_);refine al (ae fw [0,1,2,13,24] [] ?_);refine al (ae fw [0,1,2,13,41] [] ?_);refine aJ (br fw hi [6] [] ?_);exact aU fw
   | true=>
    rw[hx]at hi;refine aD.aQ (aC _) func147 rfl rfl (rs:=[.tmp 6]) results147 (by simp[ntmps147]) fun X=>?_;simp only[ntmps147,List.map];refine ae fw [0,1,2] [] ?_;refine ag fun K1 aF=>ae fw [0,1,2,13] [] ?_;refine bg (ae fw [0,1,2,13,14] [] ?_);refine al (ae fw [0,1,2,13,16] [] ?_);refine al (ae fw [0,1,2,13,24] [] ?_);refine al (ae fw [0,1,2,13,41] [] ?_);refine aJ (rg [6] [] aN fun K' ao=>?_);(repeat refine aK fun Kq af=>?_;simp[ab,dS,ll,eE];(repeat refine⟨aa,?_⟩);refine af _ ?_);refine aK fun Kq af=>?_;simp[ab,dS,ll,eE];refine cX.data (hi) bB (by first | exact D.bR _ | simp[aR,ajN,ajG,D.le,D.le.go,D.le_refl,D.bR,ab,dS,ll,eE]) ?_;refine af _ ?_;simp only[aL,dL];(repeat refine aK fun Kq af=>?_;simp[ab,dS,ll,eE];(repeat refine⟨aa,?_⟩);refine af _ ?_);refine aK fun Kq af=>?_;simp[ab,dS,ll,eE];refine cX.data (hw) bB (by first | exact D.bR _ | simp[aR,ajN,ajG,D.le,D.le.go,D.le_refl,D.bR,ab,dS,ll,eE]) ?_;refine af _ ?_;simp only[aL,dL];(repeat refine aK fun Kq af=>?_;simp[ab,dS,ll,eE];(repeat refine⟨aa,?_⟩);refine af _ ?_);refine bJ (ao _ (AW.st (by simp[ab,dS,ll,eE];rfl) ?_));exact aU fw
  | not x=>
   have hc:=ih x (by simp at bd;omega) (by rwa [jc]at im) (by simpa[iL]using ml) (by simp only[bE]at hb;omega);rw[dR,eN];rw[sR x]at hc ⊢;refine aD.aQ (aC _) func147 rfl rfl (rs:=[.tmp 6]) results147 (by simp[ntmps147]) fun X=>?_;simp only[ntmps147,List.map];refine ae fw [0,1,2] [] ?_;refine ag fun K1 aF=>ae fw [0,1,2,13] [] ?_;refine bg (ae fw [0,1,2,13,14] [] ?_);refine al (ae fw [0,1,2,13,16] [] ?_);refine al (ae fw [0,1,2,13,24] [] ?_);refine al (ae fw [0,1,2,13,41] [] ?_);refine al (ae fw [0,1,2,13,58] [] ?_);refine aJ (br fw hc [6] [] ?_);exact aU fw
  | and l=>
   have pN:=vF l;simp only[bE]at hb
   have lX:2<=l.length/\∀ x∈l,iL x:=by rw[iL]at ml;exact⟨ml.1,(xv l).1 ml.2⟩
   have nz:∀ x∈l,aD prog G 147 [dR x,.fn (.func g1) c1,.fn (.func g2) c2] (.v (.bool (eN is cz x))):=fun x hx=>by
    have h5:=aka hx;exact ih x (by simp only[Ex.and.sizeOf_spec]at bd;omega) (by rw[jc,BC]at im;exact im x hx) (lX.2 x hx) (by have:=BN hx;omega)
   have lQ:=Oy is cz l;rw[eN,<- lQ];rw[dR,zL];clear lQ;refine aD.aQ (aC _) func147 rfl rfl (rs:=[.tmp 6]) results147 (by simp[ntmps147]) fun X=>?_;simp only[ntmps147,List.map];refine ae fw [0,1,2] [] ?_;refine ag fun K1 aF=>ae fw [0,1,2,13] [] ?_;refine bg (ae fw [0,1,2,13,14] [] ?_);refine al (ae fw [0,1,2,13,16] [] ?_);refine al (ae fw [0,1,2,13,24] [] ?_);refine al (ae fw [0,1,2,13,41] [] ?_);refine al (ae fw [0,1,2,13,58] [] ?_);refine al (ag fun K2 aw=>?_);refine ae fw [0,1,2,13,70] [] ?_;refine aJ (ar (aw _ ?_));refine aJ (ae fw [0,1,2,7] [] ?_);refine ag fun K3 aZ=>ae fw [0,1,2,7,76,77,78] [] ?_;refine cG (S:=Nat) (fun i=>i<=l.length) (fun i=>⟨bp [(0,.d (.ip [dS [38],dS [],.sl none (l.map fun e=>[dR e])])),(1,.d (.fn (.func g1) c1)),(2,.d (.fn (.func g2) c2)),(7,int (j9 is cz (l.take i):Nat)),(76,.d (.sl none (l.map fun e=>[dR e]))),(77,int l.length),(78,int i)],aq []⟩) (fun i=>l.length - i) 0 ?_ aa ?_
   .refine bt (Aq fw (Aq @j9.eq_1 @j9.eq_2))
   .intro i hi;have cA:=EK is cz (l.take i);rw[ajW]at cA;refine ae fw [0,1,2,7,76,77,78,79] [] ?_;refine ag fun K4 cr=>fG (b:=i < l.length) (by simp[D.le,D.le.go,aR,ab,dS,ll,eE]) (fun hc=>?_) (fun hc=>?_)
    .have dM:i < l.length:=hc;have cK:=nz _ (By dM);have cY:=OB is cz dM;have hf:=sR l[i];rw[hf]at cK;refine ar (cr _ (ag fun K5 cg=>bg ?_));have qf:=(Aq fw (Aq @dM @hf));refine au [0,1,2,7,9,76,77,78] [] ?_;refine br fw cK [0,1,2,7,76,77,78,85] [] ?_
     cases hv:eN is cz l[i] with
     | true=>
      rw[hv]at cY;refine b8 (by simp[hv]) (gR fw cg [0,1,2,7,76,77,78] [] ?_);refine cD fw ?_;(try simp only[aV,aX]);refine bh.mk (i+1) aa aa ?_;refine bt (Aq fw @cY)
     | false=>
      rw[hv]at cY;refine b9 (by simp[hv]) (ar (cg _ ?_));refine cD fw ?_;(try simp only[aV,aX]);refine bh.mk (i+1) aa aa ?_;refine bt (Aq fw @cY)
    .obtain rfl:i=l.length:=aa
     refine b5 (aZ _ ?_);rw[akH]at cA ⊢;refine ae fw [6] [] ?_;exact aU fw
  | or l=>
   have pN:=vF l;simp only[bE]at hb
   have lX:2<=l.length/\∀ x∈l,iL x:=by rw[iL]at ml;exact⟨ml.1,(xv l).1 ml.2⟩
   have nz:∀ x∈l,aD prog G 147 [dR x,.fn (.func g1) c1,.fn (.func g2) c2] (.v (.bool (eN is cz x))):=fun x hx=>by
    have h5:=aka hx;exact ih x (by simp only[Ex.or.sizeOf_spec]at bd;omega) (by rw[jc,BC]at im;exact im x hx) (lX.2 x hx) (by have:=BN hx;omega)
   have lQ:=OA is cz l;rw[eN,<- lQ];rw[dR,zL];clear lQ;refine aD.aQ (aC _) func147 rfl rfl (rs:=[.tmp 6]) results147 (by simp[ntmps147]) fun X=>?_;simp only[ntmps147,List.map];refine ae fw [0,1,2] [] ?_;refine ag fun K1 aF=>ae fw [0,1,2,13] [] ?_;refine bg (ae fw [0,1,2,13,14] [] ?_);refine al (ae fw [0,1,2,13,16] [] ?_);refine al (ae fw [0,1,2,13,24] [] ?_);refine al (ae fw [0,1,2,13,41] [] ?_);refine al (ae fw [0,1,2,13,58] [] ?_);refine al (ag fun K2 aw=>?_);refine ae fw [0,1,2,13,70] [] ?_;refine al (gR fw aw [0,1,2,70] [] ?_);refine aJ (ae fw [0,1,2,7] [] ?_);refine ag fun K3 aZ=>ae fw [0,1,2,7,76,77,78] [] ?_;refine cG (S:=Nat) (fun i=>i<=l.length) (fun i=>⟨bp [(0,.d (.ip [dS [124],dS [],.sl none (l.map fun e=>[dR e])])),(1,.d (.fn (.func g1) c1)),(2,.d (.fn (.func g2) c2)),(7,int (j9 is cz (l.take i):Nat)),(76,.d (.sl none (l.map fun e=>[dR e]))),(77,int l.length),(78,int i)],aq []⟩) (fun i=>l.length - i) 0 ?_ aa ?_
   .refine bt (Aq fw (Aq @j9.eq_1 @j9.eq_2))
   .intro i hi;have cA:=EK is cz (l.take i);rw[ajW]at cA;refine ae fw [0,1,2,7,76,77,78,79] [] ?_;refine ag fun K4 cr=>fG (b:=i < l.length) (by simp[D.le,D.le.go,aR,ab,dS,ll,eE]) (fun hc=>?_) (fun hc=>?_)
    .have dM:i < l.length:=hc;have cK:=nz _ (By dM);have cY:=OB is cz dM;have hf:=sR l[i];rw[hf]at cK;refine ar (cr _ (ag fun K5 cg=>bg ?_));have qf:=(Aq fw (Aq @dM @hf));refine au [0,1,2,7,9,76,77,78] [] ?_;refine br fw cK [0,1,2,7,76,77,78,85] [] ?_
     cases hv:eN is cz l[i] with
     | true=>
      rw[hv]at cY;refine b8 (by simp[hv]) (gR fw cg [0,1,2,7,76,77,78] [] ?_);refine cD fw ?_;(try simp only[aV,aX]);refine bh.mk (i+1) aa aa ?_;refine bt (Aq fw @cY)
     | false=>
      rw[hv]at cY;refine b9 (by simp[hv]) (ar (cg _ ?_));refine cD fw ?_;(try simp only[aV,aX]);refine bh.mk (i+1) aa aa ?_;refine bt (Aq fw @cY)
    .obtain rfl:i=l.length:=aa
     refine b5 (aZ _ ?_);rw[akH]at cA ⊢;by_cases h0:0 < j9 is cz l
     .have qf:=(Aq fw @h0);refine au [6] [] ?_;exact aU (Aq fw @h0)
     .have hz:j9 is cz l=0:=aa
      have bf:¬ l.length=0:=aa
      have QB:¬ 0=(l.length:Int):=aa
      have qf:=(Aq fw (Aq @h0 (Aq @hz (Aq @bf @QB))));refine au [6] [] ?_;exact aU (Aq fw (Aq @h0 (Aq @hz (Aq @bf @QB))))
theorem aeA (G:ay) (g1 g2:FuncId) (c1 c2:List D) (is cz:List UInt8->Bool) (S1 S2:List UInt8->Prop) (h1:rb S1 G g1 c1 is) (h2:rb S2 G g2 c2 cz) (e:Ex) (ha:jc S1 S2 e) (hw:iL e) (hb:bE e<=2^28):aD prog G 147 [dR e,.fn (.func g1) c1,.fn (.func g2) c2] (.v (.bool (eN is cz e))):=
 aez G g1 g2 c1 c2 is cz S1 S2 h1 h2 _ e (ajJ _) ha hw hb
def nH:Ex->List Ex
 | .not e=>[e]
 | .and l=>l
 | .or l=>l
 | _=>[]
def kR:Ex->Option Bool
 | .not _=>none
 | .and _=>none
 | .or _=>none
 | _=>some false
theorem ac8 (e:Ex):DJ e = .sl (kR e) ((nH e).map fun x=>[dR x]):=by
 cases e<;>simp[DJ,nH,kR,eE,zL]
theorem Wm (e:Ex):il (nH e)<=bE e:=by cases e<;>simp[bE,nH,il]<;>omega
theorem ahm {e x:Ex} (h:x∈nH e):SizeOf.sizeOf x < SizeOf.sizeOf e:=by
 cases e with
 | not y=>simp only[nH,aj3]at h;subst h;simp
 | and l=>simp only[nH]at h;have:=aka h;simp only[Ex.and.sizeOf_spec];omega
 | or l=>simp only[nH]at h;have:=aka h;simp only[Ex.or.sizeOf_spec];omega
 | _=>simp[nH]at h
theorem alL:type_of% @cE.eq_1:=@cE.eq_1
theorem alM:type_of% @eF.eq_1:=@eF.eq_1
theorem alN:type_of% @gr.eq_1:=@gr.eq_1
