/- Parts. -/
import Derived.Test.YtoohljflflnbeaaGreatDoorSt23
import Derived.Shelf.Strings.Runes
set_option linter.unusedSimpArgs false
set_option linter.unusedVariables false
set_option maxHeartbeats 32000000
open Go.Proofs.Tryz
namespace Go.Proofs
open Go.Shelf
def Tryz.KW:Go.Shelf.Ren:=⟨fun | 151=>287 | 152=>314 | 137=>174 | 119=>332 | 224=>277 | 225=>276 | 217=>224 | 266=>281 | n=>n,fun | 9=>9 | 21=>21 | 4=>4 | 3=>3 | 5=>5 | 0=>0 | 46=>205 | n=>n,fun | n=>n⟩
theorem Tryz.T6:Go.Proofs.Lays.n151 prog Tryz.KW:={
 mixed:=ag
 f119:=func332.trans aW
 f137:=func174.trans aW
 f151:=func287.trans aW
 f152:=func314.trans aW
 f217:=func224.trans aW
 f224:=func277.trans aW
 f225:=func276.trans aW
 f266:=func281.trans aW
 t0:=underlying0
 a0:=isAgg0
 z0:=sizeOf0
 v0:=zeroValue0
 t3:=underlying3
 a3:=isAgg3
 z3:=sizeOf3
 v3:=zeroValue3
 t4:=underlying4
 a4:=isAgg4
 z4:=sizeOf4
 v4:=zeroValue4
 t5:=underlying5
 a5:=isAgg5
 z5:=sizeOf5
 v5:=zeroValue5
 t9:=underlying9
 a9:=isAgg9
 z9:=sizeOf9
 v9:=zeroValue9
 t21:=underlying21
 a21:=isAgg21
 z21:=sizeOf21
 v21:=zeroValue21
 t46:=underlying205
 a46:=isAgg205
 z46:=sizeOf205
 v46:=zeroValue205 }
end Go.Proofs
namespace Go.Proofs.YtoohljflflnbeaaGreatDoor
open Go.Av
open Go.Shelf
def bJ (t:List UInt8) (i:Int) (e p:Int):List (Nat×Row):=[(500,.box 323 [.d (dS t),int i,int e,int p])]
theorem acT:type_of% (Aq @acC (Aq @bJ.eq_1 @acB)):=(Aq @acC (Aq @bJ.eq_1 @acB))
theorem GK (G:aF) (t:List UInt8) (i:Nat) (ht:t.length < 2^60) (hi:i<=t.length) (e p:Int) :
  MC prog G [500] 257 [.ref 500 0 0] (au (bJ t i e p)) (.d (.bI [])) (au (bJ t (aQ t i) e p)):=by
 refine MC.aU (aw _) func257 rfl rfl (rs:=[]) results257 (by simp[ntmps257]) rfl fun X=>?_;simp only[ntmps257];have fw:=acT;refine eD (S:=Nat) (fun k=>k<=t.length/\aQ t k=aQ t i) (fun k=>⟨bl [(0,.ref 500 0 0)],au [(500,.box 323 [.d (dS t),int k,int e,int p])]⟩) (fun k=>t.length - k) i ?_ ⟨hi,rfl⟩ ?_
 .refine bL fw
 .rintro k ⟨hk,hs⟩;refine ah fun K1 aI=>?_;by_cases de:k < t.length
  .have R9:(k:Int) < (t.length:Int):=aa
   by_cases hb:((t[k]).toNat:Int)=32
   .have qf:=(Aq fw (Aq @bD (Aq @cU (Aq @de @hb))));refine gh [0,23] [500] ?_;refine aD (ax (aI _ ?_));refine bd (fe fw ?_);try simp only[bY,b9]
    have gZ:t[k]? = some 32:=by
     rw[IN de,(xg _ 32 bh).1 hb];rfl
    refine cC.mk (k+1) ⟨aa,?_⟩ aa ?_
    .rw[<- zD gZ];exact hs
    refine bL fw
   .have qf:=(Aq fw (Aq @bD (Aq @cU (Aq @de @hb))));refine gh [0,23] [500] ?_;refine aj (cX ?_)
    have gZ:t[k]?≠some 32:=by
     rw[IN de];intro h;apply hb;rw[AI h];rfl
    rw[pc gZ]at hs;rw[<- hs];simp[bJ,dS,D.le_refl]
  .obtain rfl:k=t.length:=aa
   have qf:=(Aq fw (Aq @bD @cU));refine gh [0,23] [500] ?_;refine aj (cX ?_)
   have gZ:t[t.length]?≠some 32:=al
   rw[pc gZ]at hs;rw[<- hs];simp[bJ,dS,D.le_refl]
def nL (t:List UInt8) (i:Nat):UInt8:=t.getD (aQ t i) 0
theorem zu (G:aF) (t:List UInt8) (i:Nat) (ht:t.length < 2^60) (hi:i<=t.length) (e p:Int) :
  MC prog G [500] 203 [.ref 500 0 0] (au (bJ t i e p)) (.d (.v (.int .u8 (nL t i).toNat))) (au (bJ t (aQ t i) e p)):=by
 have nG:=GK G t i ht hi e p;have fX:=iD hi;unfold nL;generalize aQ t i=j at nG fX ⊢;by_cases j9:j < t.length
 .have R0:(j:Int) < (t.length:Int):=aa
  have oD:t.getD j 0=t[j]:=by simp[aa5,j9]
  rw[oD];refine MC.aU (aw _) func203 rfl rfl (rs:=[.tmp 2]) results203 (by simp[ntmps203]) rfl fun X=>?_;simp only[ntmps203];have fw:=acT;refine af fw [0] [500] ?_;refine bA fw nG [0] [500] ?_;refine ah fun K1 aI=>?_;have qf:=(Aq fw (Aq @bD (Aq @j9 @R0)));refine gh [0,14] [500] ?_;refine aD ?_;have qf:=(Aq fw (Aq @bD (Aq @cU @j9)));refine gh [2] [500] ?_;exact bg (Aq fw (Aq @bJ.eq_1 @j9))
 .obtain rfl:j=t.length:=aa
  refine MC.aU (aw _) func203 rfl rfl (rs:=[.tmp 2]) results203 (by simp[ntmps203]) rfl fun X=>?_;simp only[ntmps203];have fw:=acT;refine af fw [0] [500] ?_;refine bA fw nG [0] [500] ?_;refine ah fun K1 aI=>?_;have qf:=(Aq fw @bD);refine gh [0,14] [500] ?_;refine aj (ax (aI _ ?_));refine af fw [2] [500] ?_;exact bg (Aq fw @bJ.eq_1)
theorem zt (G:aF) (t:List UInt8) (i:Nat) (ht:t.length < 2^60) (hi:i<=t.length) (e:Int) :
  MC prog G [500] 204 [.ref 500 0 0,.d (ab e)] (au (bJ t i 0 (-1))) (.d (.v (.pointer none))) (au (bJ t (aQ t i) e (aQ t i))):=by
 have nG:=GK G t i ht hi 0 (-1);generalize aQ t i=j at nG ⊢;refine MC.aU (aw _) func204 rfl rfl (rs:=[.tmp 4]) results204 (by simp[ntmps204]) rfl fun X=>?_;simp only[ntmps204];have fw:=acT;refine af fw [0,1] [500] ?_;refine bA fw nG [0,1] [500] ?_;refine ah fun K1 aI=>af fw [0,1,12] [500] ?_;refine aD (fc fw aI [] [500] ?_);refine af fw [4] [500] ?_;exact bg (Aq fw @bJ.eq_1)
def nR:List UInt8:=[32,38,124,33,94,126,40,41,61]
theorem Tw (c:UInt8):jG c=nR.contains c:=rfl
theorem PV {c:UInt8} (h:128<=c.toNat):∃ b0 b1:UInt8,Utf8.encode (c.toNat:Int)=bs [b0,b1]/\128<=b1.toNat:=by
 have hv:Utf8.valid (c.toNat:Int)=true:=by
  have hc:=c.toNat_lt;simp[Utf8.valid];omega
 refine⟨UInt8.ofNat (0xC0+c.toNat / 64),UInt8.ofNat (0x80+c.toNat % 64),?_,?_⟩
 .have hc:=c.toNat_lt;unfold Utf8.encode;rw[hv];simp only[if_true,ab0];rw[if_neg aa,if_pos aa];rfl
 .simp;omega
theorem Zx (G:aF) (n:Nat) (h:n < 256):aH prog G 332 [.v (.int .i32 n)] (.v (.bool true)):=by
 have h1:(n:Int) < 55296:=aa
 refine aH.aU (aw _) func332 rfl rfl (rs:=[.tmp 2]) results332 (by simp[ntmps332]) fun X=>?_;simp only[ntmps332,List.map];have fw:=acW;refine af fw [0] [] ?_;refine ah fun K1 aI=>bd ?_;have qf:=(Aq fw @h1);refine aC [0,3] [] ?_;refine aD (af fw [2] [] ?_);exact bg fw
theorem Tv (G:aF) (c:UInt8) (h:128<=c.toNat):aH prog G 314 [dS nR,.v (.int .i32 c.toNat)] (ab (-1)):=by
 have hc:=c.toNat_lt;obtain⟨b0,b1,he,hb⟩:=PV h
 have h1:¬ (c.toNat:Int) < 128:=aa
 have h2:¬ (c.toNat:Int)=65533:=aa
 have hv:=Zx G c.toNat hc
 have eV:¬ (38:Int)=(b1.toNat:Int):=aa
 have iT:=KG G [124,33,94,126,40,41,61] b1
 have Sp:Lib.indexByte [124,33,94,126,40,41,61] b1 < 0:=(FM _ _).2 (by
  intro hm
  have:∀ x∈([124,33,94,126,40,41,61]:List UInt8),x.toNat < 128:=bh
  have:=this _ hm
  omega)
 have J6:(bs nR).extract 2 9=bs [124,33,94,126,40,41,61]:=rfl;refine aH.aU (aw _) func314 rfl rfl (rs:=[.tmp 4]) results314 (by simp[ntmps314]) fun X=>?_;simp only[ntmps314,List.map];have fw:=acW;refine af fw [0,1] [] ?_;refine bd ?_;have qf:=(Aq fw @h1);refine aC [0,1,160] [] ?_;refine aj ?_;have qf:=(Aq fw @h2);refine aC [0,1,171] [] ?_;refine aj (bB fw hv [0,1,183] [] ?_);refine aj (HK ?_);have qf:=(Aq fw @he);refine aC [0,7] [] ?_;have qf:=(Aq fw @bD);refine aC [0,7,8] [] ?_;refine af fw [0,7,8,9] [] ?_;refine af fw [0,7,8,9] [] ?_;refine ah fun K3 bF=>eD (S:=Nat) (fun n=>True) (fun n=>⟨bl [(0,.d (dS nR)),(7,.d (dS [b0,b1])),(8,int 1),(9,int 1)],au []⟩) (fun n=>0) 0 ?_ trivial ?_
 .refine bL fw
 .intro n hn;refine ah fun K4 cF=>?_;have qf:=(Aq fw (Aq @bD @nR.eq_1));refine aC [0,7,8,9,26] [] ?_;refine aD (ax (cF _ ?_));refine bd (HK ?_);refine ah fun K5 cI=>?_;have qf:=(Aq fw (Aq @bD (Aq @cU (Aq @nR.eq_1 @eV))));refine gh [0,7,8,9,33] [] ?_;refine aD ?_;have qf:=(Aq fw (Aq @bD (Aq @cU (Aq @nR.eq_1 @J6))));refine GN iT [0,7,8,9,11] [] ?_;refine ah fun K6 fN=>?_;have qf:=(Aq fw @Sp);refine aC [0,7,8,9,11,43] [] ?_;refine aD (af fw [4] [] ?_);exact bg fw
theorem Pt (G:aF) (c:UInt8):aH prog G 287 [dS nR,.v (.int .i32 c.toNat)] (.v (.bool (jG c))):=by
 by_cases h:c.toNat < 128
 .refine aH.pa (fU.of func287 rfl rfl) fun X w vs bc cm cY=>?_
  obtain⟨a,b,rfl⟩:∃ a b,vs = #[a,b]:=by
   match vs,bc with
   | ⟨[a,b]⟩,_=>exact⟨a,b,rfl⟩
  have ha:=(cm 0 a _ rfl rfl).scalar;have hb:=(cm 1 b _ rfl rfl).scalar;subst ha hb;have fG:=Any.strings_ContainsRune_ascii (P:=prog) (ρ:=Tryz.KW) { Tryz.T6 with } (bs nR) c.toNat w aa aa;rw[show (c.toNat:Int).toNat.toUInt8=c by simp]at fG;refine fG.mono fun e w' ⟨he,hw⟩=>⟨_,he,by rw[hw];exact cT.refl _,?_⟩
  have Ei:decide (0<=Lib.indexByte (bs nR).data.toList c)=jG c:=by
   rw[Tw,Bool.eq_iff_iff,decide_eq_true_eq,ab1];have:=FM nR c;have e:(bs nR).data.toList=nR:=rfl;rw[e];constructor
   .intro h0;apply abH;intro hn;have:=this.2 hn;omega
   .intro hm;apply abH;intro hn;exact this.1 aa hm
  rw[Ei];exact .v _
 .have Q5:=Tv G c aa
  have eQ:jG c=false:=by
   have h:∀ n:Fin 256,128<=n.val->jG (UInt8.ofNat n)=false:=by decide +kernel
   have:=h ⟨c.toNat,c.toNat_lt⟩ (by simp;omega);simpa using this
  rw[eQ];refine aH.aU (aw _) func287 rfl rfl (rs:=[.tmp 4]) results287 (by simp[ntmps287]) fun X=>?_;simp only[ntmps287,List.map];have fw:=acW;refine af fw [0,1] [] ?_;refine bB fw Q5 [4] [] ?_;exact bg fw
end Go.Proofs.YtoohljflflnbeaaGreatDoor
namespace Go.Proofs.YtoohljflflnbeaaGreatDoor
open Go.Av
def eR {α:Type}:Rs α->Int
 | .ok _ _=>0
 | .err c _ _=>c
def pR {α:Type}:Rs α->Int
 | .ok _ _=>-1
 | .err _ p _=>p
theorem Hl (c:UInt8):IntKind.i32.wrap (c.toNat:Int)=(c.toNat:Int):=by
 have h:∀ n:Fin 256,IntKind.i32.wrap ((UInt8.ofNat n.val).toNat:Int)=((UInt8.ofNat n.val).toNat:Int):=by decide +kernel
 have:=h ⟨c.toNat,c.toNat_lt⟩;simpa using this
theorem ZI:IntKind.i32.wrap 48=48:=by decide +kernel
theorem ZJ:IntKind.i32.wrap 49=49:=by decide +kernel
theorem zC:(⟨#[32,38,124,33,94,126,40,41,61]⟩:ByteArray)=bs nR:=rfl
theorem GL (G:aF) (t:List UInt8) (q i:Nat) (ht:t.length < 2^60) (hi:i<=t.length) :
  MC prog G [500] 294 [.ref 500 0 0] (au (bJ t i 0 (-1))) (.d (dS (gw t (aQ t i)))) (au (bJ t (cL (eU t q i)) (eR (eU t q i)) (pR (eU t q i)))):=by
 have nG:=GK G t i ht hi 0 (-1);have fX:=iD hi;have sP:=qM hi;unfold eU;generalize aQ t i=j at nG fX sP ⊢;have yj:=zt G t j ht fX 3;have yl:=zt G t j ht fX 5;rw[sP]at yj yl;have bu:=CO t j;have het:=Hn fX;have nI:(t.drop j).take (ml t j - j)=gw t j:=rfl
 have Fq:(gw t j).length < 2^60:=by
  rw[<- nI,abk,abp];omega
 have kc:=Lr G (gw t j) Fq;rw[<- Lo]at kc;refine MC.aU (aw _) func294 rfl rfl (rs:=[.tmp 2]) results294 (by simp[ntmps294]) rfl fun X=>?_;simp only[ntmps294];have fw:=acT;refine af fw [0] [500] ?_;refine bA fw nG [0] [500] ?_;refine af fw [0,3] [500] ?_;refine ah fun K1 aI=>eD (S:=Nat) (fun k=>j<=k/\k<=t.length/\tP t j k) (fun k=>⟨bl [(0,.ref 500 0 0),(3,int k)],au [(500,.box 323 [.d (dS t),int j,int 0,int (-1)])]⟩) (fun k=>t.length - k) j ?_ ⟨aa8 _,fX,.inl rfl⟩ ?_
 .refine bL fw
 .rintro k ⟨ur,hk,df⟩;refine ah fun K2 ak=>?_
  refine (fun cM hstop=>?_) (fun (σ:St) (hn:tP t j (k+1)) (de:k < t.length) himp=>ak σ (AW.imp (τ:=⟨bl [(0,.ref 500 0 0),(3,int k)],au [(500,.box 323 [.d (dS t),int j,int 0,int (-1)])]⟩) himp ?_))
   (fun (σ:St) (he:k=ml t j) himp=>aI σ (AW.imp (τ:=⟨bl [(0,.ref 500 0 0),(3,int k)],au [(500,.box 323 [.d (dS t),int j,int 0,int (-1)])]⟩) himp ?_))
  .by_cases de:k < t.length
   .have gO:=Pt G t[k];have uE:=wO t[k]
    cases wy:jG t[k] with
    | true=>
     rw[wy]at gO uE;have qf:=(Aq fw (Aq @bD (Aq @cU (Aq @zC (Aq @Hl @de)))));refine eC gO [0,3,54] [500] ?_;refine aj (cX (hstop _ (rb df hk fun _=>⟨uE.2 (.inl rfl),fun _=>⟨fun e=>?_,fun e=>?_⟩⟩) ?_))
     .rw[e]at wy;exact absurd wy bh
     .rw[e]at wy;exact absurd wy bh
     .refine bL fw
    | false=>
     rw[wy]at gO uE;by_cases jC:j < k
     .have kK:(j:Int) < (k:Int):=aa
      have Bk:t[k] ∉ oS\/(j < k/\(t[k]=48\/t[k]=49)):=by
       by_cases hm:t[k]∈oS
       .rcases uE.1 hm with h | h | h
        .cases h
        .exact .inr ⟨jC,.inl h⟩
        .exact .inr ⟨jC,.inr h⟩
       .exact .inl hm
      have qf:=(Aq fw (Aq @bD (Aq @cU (Aq @zC (Aq @Hl (Aq @de (Aq @kK @jC)))))));refine eC gO [0,3,54] [500] ?_;refine aD (ax (cM _ (xt df de Bk) de ?_));refine bL fw
     .have kK:¬ (j:Int) < (k:Int):=aa
      by_cases oY:((t[k]).toNat:Int)=48
      .have hc:t[k]=48:=(xg _ 48 bh).1 oY;rw[oY]at gO;have qf:=(Aq fw (Aq @bD (Aq @cU (Aq @zC (Aq @ZI (Aq @de (Aq @kK (Aq @jC @oY))))))));refine eC gO [0,3,54] [500] ?_;refine aj (cX (hstop _ (rb df hk fun _=>⟨uE.2 (.inr (.inl hc)),fun h=>absurd h jC⟩) ?_));refine bL fw
      .by_cases ql:((t[k]).toNat:Int)=49
       .have hc:t[k]=49:=(xg _ 49 bh).1 ql;rw[ql]at gO;have qf:=(Aq fw (Aq @bD (Aq @cU (Aq @zC (Aq @ZJ (Aq @de (Aq @kK (Aq @jC (Aq @oY @ql)))))))));refine eC gO [0,3,54] [500] ?_;refine aj (cX (hstop _ (rb df hk fun _=>⟨uE.2 (.inr (.inr hc)),fun h=>absurd h jC⟩) ?_));refine bL fw
       .have hm:t[k] ∉ oS:=fun hm=>by
         rcases uE.1 hm with h | h | h
         .cases h
         .exact oY (by rw[h];rfl)
         .exact ql (by rw[h];rfl)
        have qf:=(Aq fw (Aq @bD (Aq @cU (Aq @zC (Aq @Hl (Aq @de (Aq @kK (Aq @jC (Aq @oY @ql)))))))));refine eC gO [0,3,54] [500] ?_;refine aD (ax (cM _ (xt df de (.inl hm)) de ?_));refine bL fw
   .obtain rfl:k=t.length:=aa
    by_cases jC:j < t.length
    .have kK:(j:Int) < (t.length:Int):=aa
     have qf:=(Aq fw (Aq @bD (Aq @cU (Aq @kK @jC))));refine aC [0,3,54] [500] ?_;refine aj (cX (hstop _ (rb df hk fun h=>absurd h de) ?_));refine bL fw
    .have kK:¬ (j:Int) < (t.length:Int):=aa
     have qf:=(Aq fw (Aq @bD (Aq @cU (Aq @kK @jC))));refine aC [0,3,54] [500] ?_;refine aj (cX (hstop _ (rb df hk fun h=>absurd h de) ?_));refine bL fw
  .refine bd (fe fw ?_);(try simp only[bY,b9]);refine cC.mk (k+1) ⟨aa,aa,hn⟩ aa ?_;refine bL fw
  .subst he;clear aI ak;have FC:List.take (ml t j - j) (List.drop j t)=gw t j:=nI;have qf:=(Aq fw (Aq @bD (Aq @Ii (Aq @bu (Aq @het @FC)))));refine gh [0,3,4] [500] ?_;refine ah fun K3 bF=>bd ?_;by_cases hs:gw t j=[]
   .refine rg [0,3,4,71] [500] (cy rfl) fun K' ai=>?_;(repeat refine aq fun Kq ae=>?_;simp[ab,bJ,dS,hs,bM,aJ,ay];(repeat refine⟨aa,?_⟩);refine ae _ ?_);refine aZ (ai _ (AW.st (by simp[ab,bJ,dS,hs,bM,aJ,ay];rfl) ?_));refine aD (ea (aw _) fun K' ai=>?_);(repeat refine aq fun Kq ae=>?_;simp[ab,bJ,dS];(repeat refine⟨aa,?_⟩);refine ae _ ?_);refine aq fun Kq ae=>?_;simp[ab,bJ,dS];refine ch.mc (yj) ?_ ?_ ?_ ?_ ?_<;>simp[ab,bJ,dS];refine ae _ ?_;(repeat refine aq fun Kq ae=>?_;simp[ab,bJ,dS];(repeat refine⟨aa,?_⟩);refine ae _ ?_);refine aZ (ai _ ?_);refine bF _ (AW.norm [4] [500] (cy rfl) (AW.st (by simp[ab,bJ,dS];rfl) ?_));refine af fw [2] [500] ?_;refine bt ?_;simp[D.le,D.le.go,aL,ab,bJ,dS,bJ,cL,eR,pR,hs,bM]
   .have sV:(gw t j == [])=false:=by simpa using hs
    have yP:(gw t j).isEmpty=false:=by rw[ab9];exact hs
    refine rg [0,3,4,71] [500] (cy rfl) fun K' ai=>?_;(repeat refine aq fun Kq ae=>?_;simp[ab,bJ,dS,bM,aJ,ay,hs,sV,yP];(repeat refine⟨aa,?_⟩);refine ae _ ?_);refine aZ (ai _ (AW.st (by simp[ab,bJ,dS,bM,aJ,ay,hs,sV,yP];rfl) ?_));refine aj ?_
    cases hn:gr (gw t j) with
    | false=>
     rw[hn]at kc;refine bB fw kc [0,3,4,76] [500] ?_;refine aD (ea (aw _) fun K' ai=>?_);(repeat refine aq fun Kq ae=>?_;simp[ab,bJ,dS];(repeat refine⟨aa,?_⟩);refine ae _ ?_);refine aq fun Kq ae=>?_;simp[ab,bJ,dS];refine ch.mc (yl) ?_ ?_ ?_ ?_ ?_<;>simp[ab,bJ,dS];refine ae _ ?_;(repeat refine aq fun Kq ae=>?_;simp[ab,bJ,dS];(repeat refine⟨aa,?_⟩);refine ae _ ?_);refine aZ (ai _ ?_);refine bF _ (AW.norm [4] [500] (cy rfl) (AW.st (by simp[ab,bJ,dS];rfl) ?_));refine af fw [2] [500] ?_;exact bg (Aq fw (Aq @bJ.eq_1 (Aq @cL.eq_1 (Aq @cL.eq_2 (Aq @eR.eq_1 (Aq @eR.eq_2 (Aq @pR.eq_1 (Aq @pR.eq_2 (Aq @hs @hn)))))))))
    | true=>
     rw[hn]at kc;refine bB fw kc [0,3,4,76] [500] ?_;refine aj (fc fw bF [4] [500] ?_);refine af fw [2] [500] ?_;exact bg (Aq fw (Aq @bJ.eq_1 (Aq @cL.eq_1 (Aq @cL.eq_2 (Aq @eR.eq_1 (Aq @eR.eq_2 (Aq @pR.eq_1 (Aq @pR.eq_2 (Aq @hs @hn)))))))))
def cJ:D:=.sl (some false) []
mutual
def dR:Ex->D
 | .b5 b=>.ip [dS [if b then 49 else 48],dS [],cJ]
 | .bit s=>.ip [dS [98,105,116],dS s,cJ]
 | .ef s=>.ip [dS [94],dS s,cJ]
 | .eb s=>.ip [dS [126],dS s,cJ]
 | .not e=>.ip [dS [33],dS [],.sl none [[dR e]]]
 | .and l=>.ip [dS [38],dS [],.sl none (uc l)]
 | .or l=>.ip [dS [124],dS [],.sl none (uc l)]
def uc:List Ex->List (List D)
 | []=>[]
 | e :: l=>[dR e] :: uc l
end
theorem pr:∀ l:List Ex,uc l=l.map fun e=>[dR e]
 | []=>rfl
 | e :: l=>by rw[uc,pr l];rfl
theorem j5 (e:Ex):∃ c,dR e = .ip c:=by
 cases e<;>simp only[dR]<;>exact⟨_,rfl⟩
theorem ub (e:Ex):(dR e).one=true:=by
 obtain⟨c,h⟩:=j5 e;rw[h];rfl
theorem cells_one {y:D} (h:y.one=true):gU (.d y)=some [.d y]:=by
 cases y<;>first | (simp[gU,AV.one,D.one]at h ⊢;done) | (simp[D.one]at h;simp[gU,AV.one,D.one,h])
def ic (r:Rs Ex) (y:D):D:=match r with
 | .ok x _=>dR x
 | .err _ _ _=>y
def gT {α:Type} (r:Rs α) (k:Nat):Nat:=match r with
 | .ok _ j=>j
 | .err _ _ _=>k
def z8 (G:aF) (t:List UInt8) (fx:List Nat) (xr:List (Nat×Row)) (g:FuncId) (xs:List AV) (d:Nat) (r:Rs Ex) (i:Nat) (y:D) (k:Nat):Prop:=
 MC prog G fx g xs (au (bJ t i 0 (-1) ++ xr)) (.d (ic r y)) (au (bJ t (gT r k) (eR r) (pR r) ++ xr))/\(∀ c p q,r = .err c p q->0 < c/\y.one=true/\k<=t.length+d)
def Reads (G:aF) (t:List UInt8) (fx:List Nat) (xr:List (Nat×Row)) (g:FuncId) (xs:List AV) (d:Nat) (f:Nat->Rs Ex):Prop:=∃ (yF:Nat->D) (kF:Nat->Nat),∀ i,i<=t.length->z8 G t fx xr g xs d (f i) i (yF i) (kF i)
theorem Co {G:aF} {t:List UInt8} {fx:List Nat} {xr:List (Nat×Row)} {g:FuncId} {xs:List AV} {d:Nat} {f:Nat->Rs Ex} (h:∀ i,i<=t.length->∃ y k,z8 G t fx xr g xs d (f i) i y k):Reads G t fx xr g xs d f:=by
 have h2:∀ i,∃ z:D×Nat,i<=t.length->z8 G t fx xr g xs d (f i) i z.1 z.2:=fun i=>by
  by_cases hi:i<=t.length
  .obtain⟨y,k,h⟩:=h i hi;exact⟨(y,k),fun _=>h⟩
  .exact⟨(default,0),fun h=>absurd h hi⟩
 exact⟨fun i=>(Classical.choose (h2 i)).1,fun i=>(Classical.choose (h2 i)).2,fun i hi=>Classical.choose_spec (h2 i) hi⟩
def ng (t:List UInt8) (s:UInt8) (f:Nat->Rs Ex):Nat->Nat->List Ex->List Ex×Nat
 | 0,i,acc=>(acc,i)
 | n+1,i,acc=>match f i with
  | .err _ _ _=>(acc,i)
  | .ok x j=>if (du t s j).1 then ng t s f n (du t s j).2 (acc ++ [x]) else (acc,i)
theorem MX {t:List UInt8} {s:UInt8} {f:Nat->Rs Ex} (hf:jL t f):∀ (n m i:Nat) (acc:List Ex),i<=t.length->t.length+1 - i<=n->t.length+1 - i<=m->ng t s f n i acc=ng t s f m i acc
 | 0,_,i,_,hi,h,_=>aa
 | _+1,0,i,_,hi,_,h=>aa
 | n+1,m+1,i,acc,hi,h1,h2=>by
  rw[ng,ng]
  cases ck:f i with
  | err c p q=>rfl
  | ok x j=>
   obtain⟨g1,g2⟩:=hf i x j hi ck;obtain⟨t1,t2,t3⟩:=mj (c:=s) g2;dsimp only;split
   .exact MX hf n m _ _ t2 aa aa
   .rfl
def vb (t:List UInt8) (s:UInt8) (f:Nat->Rs Ex) (i:Nat) (acc:List Ex):List Ex×Nat:=ng t s f (t.length+1 - i) i acc
theorem tD {t:List UInt8} {s:UInt8} {f:Nat->Rs Ex} (hf:jL t f) {i:Nat} (hi:i<=t.length) (acc:List Ex):vb t s f i acc=match f i with
  | .err _ _ _=>(acc,i)
  | .ok x j=>if (du t s j).1 then vb t s f (du t s j).2 (acc ++ [x]) else (acc,i):=by
 unfold vb;obtain⟨n,hn⟩:∃ n,t.length+1 - i=n+1:=⟨t.length - i,aa⟩;rw[hn,ng]
 cases ck:f i with
 | err c p q=>rfl
 | ok x j=>
  obtain⟨g1,g2⟩:=hf i x j hi ck;obtain⟨t1,t2,t3⟩:=mj (c:=s) g2;dsimp only;split
  .exact MX hf _ _ _ _ t2 aa aa
  .rfl
theorem Cc {t:List UInt8} {i:Nat} {c:UInt8} (hc:c≠0):(du t c i).1=decide (((nL t i).toNat:Int)=(c.toNat:Int)):=by
 unfold du nL;rw[aa5]
 cases h:t[aQ t i]? with
 | none=>
  rw[if_neg al];simp only[Option.getD_none]
  symm
  rw[decide_eq_false_iff_not];intro e;apply hc
  have:c.toNat=0:=by simp at e;omega
  exact UInt8.toNat_inj.1 (by simpa using this)
 | some b=>
  simp only[acs];by_cases hb:b=c
  .subst hb;simp
  .have:¬ ((b.toNat:Int)=(c.toNat:Int)):=fun e=>hb (UInt8.toNat_inj.1 aa);simp[hb,this]
theorem Hd {t:List UInt8} {c:UInt8} {i:Nat}:(du t c i).2=if (du t c i).1 then aQ t i+1 else aQ t i:=by
 unfold du;split<;>rfl
def lr (s:UInt8) (ys:List D):D:=match ys with
 | [y]=>y
 | ys=>.ip [dS [s],dS [],.sl none (ys.map fun y=>[y])]
theorem Ct {s:UInt8} {ys:List D} (h:ys.length≠1):lr s ys = .ip [dS [s],dS [],.sl none (ys.map fun y=>[y])]:=by
 match ys,h with
 | [],_=>rfl
 | [_],h=>exact absurd rfl h
 | _ :: _ :: _,_=>rfl
theorem ME {s:UInt8} {ys:List D} (h:∀ y∈ys,y.one=true):(lr s ys).one=true:=by
 match ys,h with
 | [],_=>rfl
 | [y],h=>exact h y al
 | _ :: _ :: _,_=>rfl
theorem VD (G:aF) (t:List UInt8) (ht:t.length<=2000) (g:FuncId) (s:UInt8) (sn:Int) (ed:(s.toNat:Int)=sn) (gF:s≠0) (Ey:Utf8.encode sn=bs [s]) (a:Int) (d:Nat) (f:Nat->Rs Ex) (hf:jL t f) (my:List Ex->Ex) (ug:∀ l,dR (my l)=lr s (l.map dR))
  (eL:Reads G t [500] [] g [.ref 500 0 0,.d (ab a)] d f):Reads G t [500] [] 254 [.ref 500 0 0,.d (.v (.int .u8 sn)),.d (ab a),.bm g (.ref 500 0 0)] d (fun i=>(iC t s f i []).map my):=by
 obtain⟨yF,kF,eL⟩:=eL;refine Co fun i hi=>?_;generalize hR:iC t s f i []=R;generalize hZ:vb t s f i []=Z;refine⟨lr s (Z.1.map dR ++ [yF Z.2]),kF Z.2,?_⟩
 have mG:∀ (k:Nat) (ys:List D) (e p:Int),((e=0/\p = -1/\∃ acc,ys=acc.map dR/\R = .ok acc k)\/(∃ c p' q,R = .err c p' q/\e=c/\p=p'/\ys=Z.1.map dR ++ [yF Z.2]/\k=kF Z.2))->
   ic (R.map my) (lr s (Z.1.map dR ++ [yF Z.2]))=lr s ys/\gT (R.map my) (kF Z.2)=k/\eR (R.map my)=e/\pR (R.map my)=p:=by
  rintro k ys e p (⟨rfl,rfl,acc,rfl,rfl⟩ | ⟨c,p',q,rfl,rfl,rfl,rfl,rfl⟩)
  .exact⟨by simp[Rs.map,ic,ug],rfl,rfl,rfl⟩
  .exact⟨rfl,rfl,rfl,rfl⟩
 have jA:∀ (n i:Nat) (acc:List Ex),i<=t.length->t.length+1 - i<=n->∀ c p q,gv t s f n i acc = .err c p q->0 < c/\(yF (ng t s f n i acc).2).one=true/\kF (ng t s f n i acc).2<=t.length+d:=by
  intro n
  induction n with
  | zero=>intro i acc hi hn;omega
  | succ n ih=>
   intro i acc hi hn c p q h;rw[gv]at h;rw[ng]
   cases ck:f i with
   | err c' p' q'=>
    rw[ck]at h;simp only[Rs.err.injEq]at h;obtain⟨rfl,-,-⟩:=h;exact (eL i hi).2 _ _ _ ck
   | ok x j=>
    rw[ck]at h;obtain⟨g1,g2⟩:=hf i x j hi ck;obtain⟨t1,t2,t3⟩:=mj (c:=s) g2;dsimp only at h ⊢;split at h
    .rename_i da;rw[if_pos da];exact ih _ _ t2 aa c p q h
    .cases h
 refine⟨?_,fun c p q h=>?_⟩
 rotate_left
 .cases R with
  | ok l j=>cases h
  | err c' p' q'=>
   simp only[Rs.map,Rs.err.injEq]at h;obtain⟨rfl,rfl,rfl⟩:=h;obtain⟨h1,h2,h3⟩:=jA _ i [] hi (aa8 _) _ _ _ hR
   have Ec:(ng t s f (t.length+1 - i) i []).2=Z.2:=by rw[<- hZ];rfl
   rw[Ec]at h2 h3;refine⟨h1,ME fun y hy=>?_,h3⟩
   rcases abr.1 hy with hy | hy
   .obtain⟨x,_,rfl⟩:=abE.1 hy;exact ub x
   .simp at hy;subst hy;exact h2
 generalize Tb:lr s (Z.1.map dR ++ [yF Z.2])=yE at mG ⊢;generalize R.map my=RR at mG ⊢;refine MC.aU (aw _) func254 rfl rfl (rs:=[.tmp 8]) results254 (by simp[ntmps254]) rfl fun X=>?_;simp only[ntmps254];have fw:=acT;refine af fw [0,1,2,3] [500] ?_;have EE:=(eL i hi).1
 have gn:(ic (f i) (yF i)).one=true:=by
  cases ck:f i with
  | ok x j=>exact ub x
  | err c p q=>exact ((eL i hi).2 _ _ _ ck).2.1
 have vZ:=cells_one gn;have qf:=(Aq fw @vZ);refine iA EE [0,1,2,3,9] [500,13] ?_;refine ah fun K1 aI=>?_
 refine eD (S:=Nat×List D×Int×Int) (fun z=>(z.2.2.1=0/\z.2.2.2 = -1/\z.1<=t.length/\∃ acc,z.2.1=acc.map dR/\0 < acc.length/\acc.length<=z.1/\(if (du t s z.1).1 then iC t s f (du t s z.1).2 acc else .ok acc (du t s z.1).2)=R/\((du t s z.1).1=true->vb t s f (du t s z.1).2 acc=Z))\/(0 < z.2.2.1/\z.2.1.length<=2001/\∃ c p q,R = .err c p q/\z.2.2.1=c/\z.2.2.2=p/\z.2.1=Z.1.map dR ++ [yF Z.2]/\z.1=kF Z.2))
  (fun z=>⟨bl [(0,.ref 500 0 0),(1,.d (.v (.int .u8 sn))),(2,.d (ab a)),(3,.bm g (.ref 500 0 0)),(9,.own 13 0 z.2.1.length)],au [(500,.box 323 [.d (dS t),int z.1,int z.2.2.1,int z.2.2.2]),(13,.sl 119 1 (z.2.1.map fun y=>[y]))]⟩) (fun z=>if z.2.2.1=0 then t.length+1 - z.1 else 0) (gT (f i) (kF i),[ic (f i) (yF i)],eR (f i),pR (f i)) ?_ ?_ ?_
 .refine bL fw
 .cases ck:f i with
  | ok x j=>
   obtain⟨g1,g2⟩:=hf i x j hi ck;rw[p6 hf hi,ck]at hR;rw[tD hf hi,ck]at hZ;exact .inl ⟨rfl,rfl,g2,[x],rfl,al,by simp[gT];omega,hR,fun h=>by dsimp only[gT]at h ⊢;simpa only[h,if_true,abL]using hZ⟩
  | err c p q=>
   rw[p6 hf hi,ck]at hR;rw[tD hf hi,ck]at hZ;obtain⟨h1,h2,h3⟩:=(eL i hi).2 _ _ _ ck;exact .inr ⟨h1,al,c,p,0,hR.symm,rfl,rfl,by rw[<- hZ];rfl,by rw[<- hZ];rfl⟩
 .rintro⟨k,ys,e,p⟩ hI;dsimp only at hI ⊢;refine ah fun K2 ak=>?_
  refine (fun uh=>?_) (fun (σ:St) (k:Nat) (ys:List D) (e p:Int) (hl:ys.length<=2001) (Ep:(e=0/\p = -1/\∃ acc,ys=acc.map dR/\R = .ok acc k)\/(∃ c p' q,R = .err c p' q/\e=c/\p=p'/\ys=Z.1.map dR ++ [yF Z.2]/\k=kF Z.2)) himp=>
   aI σ (AW.imp (τ:=⟨bl [(0,.ref 500 0 0),(1,.d (.v (.int .u8 sn))),(9,.own 13 0 ys.length)],au [(500,.box 323 [.d (dS t),int k,int e,int p]),(13,.sl 119 1 (ys.map fun y=>[y]))]⟩) himp ?_))
  .rcases hI with⟨rfl,rfl,hk,acc,rfl,Ed,QX,jQ,kI⟩ | ⟨he,hlen,c,p',q,Ea,rfl,rfl,rfl,rfl⟩
   .have fI:=zu G t k aa hk 0 (-1);have da:=Cc (t:=t) (i:=k) gF;rw[ed]at da;have kg:=Hd (t:=t) (c:=s) (i:=k);obtain⟨t1,t2,t3⟩:=mj (t:=t) (c:=s) hk;have fX:=iD hk;by_cases hb:((nL t k).toNat:Int)=sn
    .rw[decide_eq_true hb]at da;rw[da]at jQ kI kg t3;simp only[if_true]at jQ kg;have kI:=kI rfl;have t3:=t3 rfl;rw[kg]at jQ kI t2 t3;have qf:=(Aq fw @hb);refine iA fI [0,1,2,3,9,25] [500,13] ?_;refine aD (ax (ak _ ?_));refine bd (af fw [0,1,2,3,9] [500,13] ?_);have uF:=(eL _ t2).1;rw[ab4]at uF
     have pI:(ic (f (aQ t k+1)) (yF (aQ t k+1))).one=true:=by
      cases ck:f (aQ t k+1) with
      | ok x j=>exact ub x
      | err c p q=>exact ((eL _ t2).2 _ _ _ ck).2.1
     have rD:=cells_one pI;refine ea (aw _) fun K' ai=>?_;(repeat refine aq fun Kq ae=>?_;simp[ab,bJ,dS,rD,pI,sh];(repeat refine⟨aa,?_⟩);refine ae _ ?_);refine aq fun Kq ae=>?_;simp[ab,bJ,dS,rD,pI,sh];refine ch.mc (uF) ?_ ?_ ?_ ?_ ?_<;>simp[ab,bJ,dS,rD,pI,sh];refine ae _ ?_;(repeat refine aq fun Kq ae=>?_;simp[ab,bJ,dS,rD,pI,sh];(repeat refine⟨aa,?_⟩);refine ae _ ?_);refine aZ (ai _ ?_);(try simp only[bY,b9]);refine cC.mk (gT (f (aQ t k+1)) (kF (aQ t k+1)),acc.map dR ++ [ic (f (aQ t k+1)) (yF (aQ t k+1))],eR (f (aQ t k+1)),pR (f (aQ t k+1))) ?_ ?_ ?_
     .cases ck:f (aQ t k+1) with
      | ok x j=>
       obtain⟨g1,g2⟩:=hf _ x j t2 ck;rw[p6 hf t2,ck]at jQ;rw[tD hf t2,ck]at kI;exact .inl ⟨rfl,rfl,g2,acc ++ [x],by simp[ic],al,by simp[gT];omega,jQ,fun h=>by dsimp only[gT]at h ⊢;simpa only[h,if_true]using kI⟩
      | err c p q=>
       rw[p6 hf t2,ck]at jQ;rw[tD hf t2,ck]at kI;obtain⟨h1,h2,h3⟩:=(eL _ t2).2 _ _ _ ck;exact .inr ⟨h1,by simp;omega,c,p,0,jQ.symm,rfl,rfl,by rw[<- kI];rfl,by rw[<- kI];rfl⟩
     .cases ck:f (aQ t k+1) with
      | ok x j=>
       obtain⟨g1,g2⟩:=hf _ x j t2 ck;simp only[eR,gT,if_true];omega
      | err c p q=>
       obtain⟨h1,h2,h3⟩:=(eL _ t2).2 _ _ _ ck
       have gA:¬ c=0:=aa
       simp[eR,gA];omega
     .refine bL fw
    .rw[decide_eq_false hb]at da;rw[da]at jQ kg;simp only[abh,if_false]at jQ kg;have qf:=(Aq fw @hb);refine iA fI [0,1,2,3,9,25] [500,13] ?_;refine aj (cX (uh _ (aQ t k) (acc.map dR) 0 (-1) (by simp;omega) (.inl ⟨rfl,rfl,acc,rfl,by rw[<- jQ,kg]⟩) ?_));refine bL fw
   .have o3:¬ e=0:=aa
    have qf:=(Aq fw @o3);refine aC [0,1,2,3,9,25] [500,13] ?_;refine aj (cX (uh _ (kF Z.2) _ e p' hlen (.inr ⟨e,p',q,Ea,rfl,rfl,rfl,rfl⟩) ?_));refine bL fw
  .obtain⟨h1,h2,h3,h4⟩:=mG k ys e p Ep;rw[h1,h2,h3,h4];refine ah fun K3 bF=>?_;by_cases iM:ys.length=1
   .obtain⟨y,rfl⟩:=abw.1 iM;refine af fw [1,9,41] [500,13] ?_;refine aD (af fw [8] [500] ?_);exact bg (Aq fw (Aq @lr.eq_1 @lr.eq_2))
   .have yy:¬ (ys.length:Int)=1:=aa
    have qf:=(Aq fw (Aq @iM @yy));refine aC [1,9,41] [500,13] ?_;refine aj (ax (bF _ ?_));refine AW.imp (aY.freeze 13 bh) ?_;refine AW.st (by simp[ab,bJ,dS,sh];rfl) ?_;have qf:=(Aq fw @Ey);refine aC [8] [500,49] ?_;refine jk fw 49 ?_;refine bt ?_;simp[D.le,D.le.go,aL,ab,bJ,dS,Ct iM,dS,bM,D.le_refl,D.aV]
theorem VE (G:aF) (t:List UInt8) (ht:t.length<=2000) (g:FuncId) (s:UInt8) (sn:Int) (ed:(s.toNat:Int)=sn) (gF:s≠0) (Ey:Utf8.encode sn=bs [s]) (a:Int) (d:Nat) (f:Nat->Rs Ex) (hf:jL t f) (my:List Ex->Ex) (ug:∀ l,dR (my l)=lr s (l.map dR))
  (eL:Reads G t [500,501] [(501,.box 321 [.ref 500 0 0])] g [.d (ab a),.ref 501 0 0] d f):Reads G t [500,501] [(501,.box 321 [.ref 500 0 0])] 254 [.ref 500 0 0,.d (.v (.int .u8 sn)),.d (ab a),.fn (.func g) [.ref 501 0 0]] d (fun i=>(iC t s f i []).map my):=by
 obtain⟨yF,kF,eL⟩:=eL;refine Co fun i hi=>?_;generalize hR:iC t s f i []=R;generalize hZ:vb t s f i []=Z;refine⟨lr s (Z.1.map dR ++ [yF Z.2]),kF Z.2,?_⟩
 have mG:∀ (k:Nat) (ys:List D) (e p:Int),((e=0/\p = -1/\∃ acc,ys=acc.map dR/\R = .ok acc k)\/(∃ c p' q,R = .err c p' q/\e=c/\p=p'/\ys=Z.1.map dR ++ [yF Z.2]/\k=kF Z.2))->
   ic (R.map my) (lr s (Z.1.map dR ++ [yF Z.2]))=lr s ys/\gT (R.map my) (kF Z.2)=k/\eR (R.map my)=e/\pR (R.map my)=p:=by
  rintro k ys e p (⟨rfl,rfl,acc,rfl,rfl⟩ | ⟨c,p',q,rfl,rfl,rfl,rfl,rfl⟩)
  .exact⟨by simp[Rs.map,ic,ug],rfl,rfl,rfl⟩
  .exact⟨rfl,rfl,rfl,rfl⟩
 have jA:∀ (n i:Nat) (acc:List Ex),i<=t.length->t.length+1 - i<=n->∀ c p q,gv t s f n i acc = .err c p q->0 < c/\(yF (ng t s f n i acc).2).one=true/\kF (ng t s f n i acc).2<=t.length+d:=by
  intro n
  induction n with
  | zero=>intro i acc hi hn;omega
  | succ n ih=>
   intro i acc hi hn c p q h;rw[gv]at h;rw[ng]
   cases ck:f i with
   | err c' p' q'=>
    rw[ck]at h;simp only[Rs.err.injEq]at h;obtain⟨rfl,-,-⟩:=h;exact (eL i hi).2 _ _ _ ck
   | ok x j=>
    rw[ck]at h;obtain⟨g1,g2⟩:=hf i x j hi ck;obtain⟨t1,t2,t3⟩:=mj (c:=s) g2;dsimp only at h ⊢;split at h
    .rename_i da;rw[if_pos da];exact ih _ _ t2 aa c p q h
    .cases h
 refine⟨?_,fun c p q h=>?_⟩
 rotate_left
 .cases R with
  | ok l j=>cases h
  | err c' p' q'=>
   simp only[Rs.map,Rs.err.injEq]at h;obtain⟨rfl,rfl,rfl⟩:=h;obtain⟨h1,h2,h3⟩:=jA _ i [] hi (aa8 _) _ _ _ hR
   have Ec:(ng t s f (t.length+1 - i) i []).2=Z.2:=by rw[<- hZ];rfl
   rw[Ec]at h2 h3;refine⟨h1,ME fun y hy=>?_,h3⟩
   rcases abr.1 hy with hy | hy
   .obtain⟨x,_,rfl⟩:=abE.1 hy;exact ub x
   .simp at hy;subst hy;exact h2
 generalize Tb:lr s (Z.1.map dR ++ [yF Z.2])=yE at mG ⊢;generalize R.map my=RR at mG ⊢;refine MC.aU (aw _) func254 rfl rfl (rs:=[.tmp 8]) results254 (by simp[ntmps254]) rfl fun X=>?_;simp only[ntmps254];have fw:=acT;refine af fw [0,1,2,3] [500,501] ?_;have EE:=(eL i hi).1
 have gn:(ic (f i) (yF i)).one=true:=by
  cases ck:f i with
  | ok x j=>exact ub x
  | err c p q=>exact ((eL i hi).2 _ _ _ ck).2.1
 have vZ:=cells_one gn;have qf:=(Aq fw @vZ);refine iA EE [0,1,2,3,9] [500,501,13] ?_;refine ah fun K1 aI=>?_
 refine eD (S:=Nat×List D×Int×Int) (fun z=>(z.2.2.1=0/\z.2.2.2 = -1/\z.1<=t.length/\∃ acc,z.2.1=acc.map dR/\0 < acc.length/\acc.length<=z.1/\(if (du t s z.1).1 then iC t s f (du t s z.1).2 acc else .ok acc (du t s z.1).2)=R/\((du t s z.1).1=true->vb t s f (du t s z.1).2 acc=Z))\/(0 < z.2.2.1/\z.2.1.length<=2001/\∃ c p q,R = .err c p q/\z.2.2.1=c/\z.2.2.2=p/\z.2.1=Z.1.map dR ++ [yF Z.2]/\z.1=kF Z.2))
  (fun z=>⟨bl [(0,.ref 500 0 0),(1,.d (.v (.int .u8 sn))),(2,.d (ab a)),(3,.fn (.func g) [.ref 501 0 0]),(9,.own 13 0 z.2.1.length)],au [(500,.box 323 [.d (dS t),int z.1,int z.2.2.1,int z.2.2.2]),(501,.box 321 [.ref 500 0 0]),(13,.sl 119 1 (z.2.1.map fun y=>[y]))]⟩) (fun z=>if z.2.2.1=0 then t.length+1 - z.1 else 0) (gT (f i) (kF i),[ic (f i) (yF i)],eR (f i),pR (f i)) ?_ ?_ ?_
 .refine bL fw
 .cases ck:f i with
  | ok x j=>
   obtain⟨g1,g2⟩:=hf i x j hi ck;rw[p6 hf hi,ck]at hR;rw[tD hf hi,ck]at hZ;exact .inl ⟨rfl,rfl,g2,[x],rfl,al,by simp[gT];omega,hR,fun h=>by dsimp only[gT]at h ⊢;simpa only[h,if_true,abL]using hZ⟩
  | err c p q=>
   rw[p6 hf hi,ck]at hR;rw[tD hf hi,ck]at hZ;obtain⟨h1,h2,h3⟩:=(eL i hi).2 _ _ _ ck;exact .inr ⟨h1,al,c,p,0,hR.symm,rfl,rfl,by rw[<- hZ];rfl,by rw[<- hZ];rfl⟩
 .rintro⟨k,ys,e,p⟩ hI;dsimp only at hI ⊢;refine ah fun K2 ak=>?_
  refine (fun uh=>?_) (fun (σ:St) (k:Nat) (ys:List D) (e p:Int) (hl:ys.length<=2001) (Ep:(e=0/\p = -1/\∃ acc,ys=acc.map dR/\R = .ok acc k)\/(∃ c p' q,R = .err c p' q/\e=c/\p=p'/\ys=Z.1.map dR ++ [yF Z.2]/\k=kF Z.2)) himp=>
   aI σ (AW.imp (τ:=⟨bl [(0,.ref 500 0 0),(1,.d (.v (.int .u8 sn))),(9,.own 13 0 ys.length)],au [(500,.box 323 [.d (dS t),int k,int e,int p]),(501,.box 321 [.ref 500 0 0]),(13,.sl 119 1 (ys.map fun y=>[y]))]⟩) himp ?_))
  .rcases hI with⟨rfl,rfl,hk,acc,rfl,Ed,QX,jQ,kI⟩ | ⟨he,hlen,c,p',q,Ea,rfl,rfl,rfl,rfl⟩
   .have fI:=zu G t k aa hk 0 (-1);have da:=Cc (t:=t) (i:=k) gF;rw[ed]at da;have kg:=Hd (t:=t) (c:=s) (i:=k);obtain⟨t1,t2,t3⟩:=mj (t:=t) (c:=s) hk;have fX:=iD hk;by_cases hb:((nL t k).toNat:Int)=sn
    .rw[decide_eq_true hb]at da;rw[da]at jQ kI kg t3;simp only[if_true]at jQ kg;have kI:=kI rfl;have t3:=t3 rfl;rw[kg]at jQ kI t2 t3;have qf:=(Aq fw @hb);refine iA fI [0,1,2,3,9,25] [500,501,13] ?_;refine aD (ax (ak _ ?_));refine bd (af fw [0,1,2,3,9] [500,501,13] ?_);have uF:=(eL _ t2).1;rw[ab4]at uF
     have pI:(ic (f (aQ t k+1)) (yF (aQ t k+1))).one=true:=by
      cases ck:f (aQ t k+1) with
      | ok x j=>exact ub x
      | err c p q=>exact ((eL _ t2).2 _ _ _ ck).2.1
     have rD:=cells_one pI;refine ea (aw _) fun K' ai=>?_;(repeat refine aq fun Kq ae=>?_;simp[ab,bJ,dS,rD,pI,sh];(repeat refine⟨aa,?_⟩);refine ae _ ?_);refine aq fun Kq ae=>?_;simp[ab,bJ,dS,rD,pI,sh];refine ch.mc (uF) ?_ ?_ ?_ ?_ ?_<;>simp[ab,bJ,dS,rD,pI,sh];refine ae _ ?_;(repeat refine aq fun Kq ae=>?_;simp[ab,bJ,dS,rD,pI,sh];(repeat refine⟨aa,?_⟩);refine ae _ ?_);refine aZ (ai _ ?_);(try simp only[bY,b9]);refine cC.mk (gT (f (aQ t k+1)) (kF (aQ t k+1)),acc.map dR ++ [ic (f (aQ t k+1)) (yF (aQ t k+1))],eR (f (aQ t k+1)),pR (f (aQ t k+1))) ?_ ?_ ?_
     .cases ck:f (aQ t k+1) with
      | ok x j=>
       obtain⟨g1,g2⟩:=hf _ x j t2 ck;rw[p6 hf t2,ck]at jQ;rw[tD hf t2,ck]at kI;exact .inl ⟨rfl,rfl,g2,acc ++ [x],by simp[ic],al,by simp[gT];omega,jQ,fun h=>by dsimp only[gT]at h ⊢;simpa only[h,if_true]using kI⟩
      | err c p q=>
       rw[p6 hf t2,ck]at jQ;rw[tD hf t2,ck]at kI;obtain⟨h1,h2,h3⟩:=(eL _ t2).2 _ _ _ ck;exact .inr ⟨h1,by simp;omega,c,p,0,jQ.symm,rfl,rfl,by rw[<- kI];rfl,by rw[<- kI];rfl⟩
     .cases ck:f (aQ t k+1) with
      | ok x j=>
       obtain⟨g1,g2⟩:=hf _ x j t2 ck;simp only[eR,gT,if_true];omega
      | err c p q=>
       obtain⟨h1,h2,h3⟩:=(eL _ t2).2 _ _ _ ck
       have gA:¬ c=0:=aa
       simp[eR,gA];omega
     .refine bL fw
    .rw[decide_eq_false hb]at da;rw[da]at jQ kg;simp only[abh,if_false]at jQ kg;have qf:=(Aq fw @hb);refine iA fI [0,1,2,3,9,25] [500,501,13] ?_;refine aj (cX (uh _ (aQ t k) (acc.map dR) 0 (-1) (by simp;omega) (.inl ⟨rfl,rfl,acc,rfl,by rw[<- jQ,kg]⟩) ?_));refine bL fw
   .have o3:¬ e=0:=aa
    have qf:=(Aq fw @o3);refine aC [0,1,2,3,9,25] [500,501,13] ?_;refine aj (cX (uh _ (kF Z.2) _ e p' hlen (.inr ⟨e,p',q,Ea,rfl,rfl,rfl,rfl⟩) ?_));refine bL fw
  .obtain⟨h1,h2,h3,h4⟩:=mG k ys e p Ep;rw[h1,h2,h3,h4];refine ah fun K3 bF=>?_;by_cases iM:ys.length=1
   .obtain⟨y,rfl⟩:=abw.1 iM;refine af fw [1,9,41] [500,501,13] ?_;refine aD (af fw [8] [500,501] ?_);exact bg (Aq fw (Aq @lr.eq_1 @lr.eq_2))
   .have yy:¬ (ys.length:Int)=1:=aa
    have qf:=(Aq fw (Aq @iM @yy));refine aC [1,9,41] [500,501,13] ?_;refine aj (ax (bF _ ?_));refine AW.imp (aY.freeze 13 bh) ?_;refine AW.st (by simp[ab,bJ,dS,sh];rfl) ?_;have qf:=(Aq fw @Ey);refine aC [8] [500,501,49] ?_;refine jk fw 49 ?_;refine bt ?_;simp[D.le,D.le.go,aL,ab,bJ,dS,Ct iM,dS,bM,D.le_refl,D.aV]
theorem Mi {r r' s:Nat} (h:r≠r') (hs:s≠r') (hr:s≠r) (row nP:Row):na r r' (au [(r,row),(s,nP)])=au [(r',row.tr (fR r r') (fQ r r')),(s,nP.tr (fR r r') (fQ r r'))]:=by
 funext q;unfold na;by_cases h1:q=r'
 .subst h1;simp[au,List.lookup]
 .rw[if_neg h1];by_cases h2:q=r
  .subst h2;simp[au,List.lookup,beq_eq_false_iff_ne.2 h1,beq_eq_false_iff_ne.2 (abY hr)]
  .by_cases h3:q=s
   .subst h3;simp[au,List.lookup,h2,beq_eq_false_iff_ne.2 h1,beq_eq_false_iff_ne.2 h2]
   .simp[au,List.lookup,h2,beq_eq_false_iff_ne.2 h1,beq_eq_false_iff_ne.2 h2,beq_eq_false_iff_ne.2 h3]
theorem Pe (l:List Ex):dR (og l)=lr 38 (l.map dR):=by
 match l with
 | []=>rfl
 | [x]=>rfl
 | x :: y :: l=>rw[Ct al];simp[og,dR,pr]
theorem Pg (l:List Ex):dR (oh l)=lr 124 (l.map dR):=by
 match l with
 | []=>rfl
 | [x]=>rfl
 | x :: y :: l=>rw[Ct al];simp[oh,dR,pr]
theorem FU:(⟨#[33]⟩:ByteArray)=bs [33]:=rfl
theorem Ue:(⟨#[98,105,116]⟩:ByteArray)=bs [98,105,116]:=rfl
theorem PR:Utf8.encode 38=bs [38]:=by decide +kernel
theorem PO:Utf8.encode 124=bs [124]:=by decide +kernel
theorem PS:Utf8.encode 48=bs [48]:=by decide +kernel
theorem PT:Utf8.encode 49=bs [49]:=by decide +kernel
theorem PU:Utf8.encode 94=bs [94]:=by decide +kernel
theorem PQ:Utf8.encode 126=bs [126]:=by decide +kernel
theorem ada:type_of% (Aq @bJ.eq_1 @acB):=(Aq @bJ.eq_1 @acB)
theorem VG (G:aF) (t:List UInt8) (ht:t.length<=2000) (a:Int) (d:Nat) (h:Reads G t [500] [] 256 [.ref 500 0 0,.d (ab a)] d (cf t d)) :
  Reads G t [500,501] [(501,.box 321 [.ref 500 0 0])] 255 [.d (ab a),.ref 501 0 0] d (j1 t (cf t d)):=by
 obtain⟨yF,kF,hr⟩:=VD G t ht 256 38 38 rfl bh PR a d (cf t d) (kp t d) og Pe h;refine⟨yF,kF,fun i hi=>⟨?_,(hr i hi).2⟩⟩;have hc:=(hr i hi).1;have hR:j1 t (cf t d) i=(iC t 38 (cf t d) i []).map og:=rfl;dsimp only at hc;rw[<- hR]at hc;generalize j1 t (cf t d) i=R at hc ⊢;refine MC.aU (aw _) func255 rfl rfl (rs:=[.tmp 3]) results255 (by simp[ntmps255]) rfl fun X=>?_;simp only[ntmps255];have fw:=acT;refine af fw [0,1] [500,501] ?_;refine bA fw hc [3] [500,501] ?_;exact bg (Aq fw ada)
theorem Mf (G:aF) (t:List UInt8) (ht:t.length<=2000) (a:Int) (d:Nat) (h:Reads G t [500] [] 256 [.ref 500 0 0,.d (ab a)] d (cf t d)) :
  Reads G t [500] [] 202 [.ref 500 0 0,.d (ab a)] d (jt t (cf t d)):=by
 obtain⟨yF,kF,hr⟩:=VE G t ht 255 124 124 rfl bh PO a d (j1 t (cf t d)) (tV (kp t d)) oh Pg (VG G t ht a d h);refine⟨yF,kF,fun i hi=>⟨?_,(hr i hi).2⟩⟩;have hc:=(hr i hi).1;have hR:jt t (cf t d) i=(iC t 124 (j1 t (cf t d)) i []).map oh:=rfl;dsimp only at hc;rw[<- hR]at hc;generalize jt t (cf t d) i=R at hc ⊢;refine MC.aU (aw _) func202 rfl rfl (rs:=[.tmp 4]) results202 (by simp[ntmps202]) rfl fun X=>?_;simp only[ntmps202];have fw:=acT;refine af fw [1,2] [2,500] ?_;refine AW.imp (aY.dT (r:=2) (r':=501) bh al) ?_;refine AW.st (by simp[fR,fQ,Go.Av.dT,Mi];rfl) ?_;refine bA fw hc [4] [500,501] ?_;exact bg (Aq fw ada)
theorem U9 {t:List UInt8} {i:Nat} {c:UInt8} (h:t[aQ t i]? = some c):nL t i=c:=by
 unfold nL;rw[aa5,h];rfl
theorem U8 {t:List UInt8} {i:Nat} {c:UInt8} (hc:c≠0) (h:t[aQ t i]?≠some c):¬ ((nL t i).toNat:Int)=(c.toNat:Int):=by
 have h1:=Cc (t:=t) (i:=i) hc
 have h2:(du t c i).1=false:=by
  unfold du;rw[if_neg h]
 rw[h2]at h1;exact of_decide_eq_false h1.symm
def wU:Rs Ex->Rs Ex
 | .ok x k=>.ok (.not x) k
 | .err c p _=>.err c p 0
theorem Hs {t:List UInt8} {q i j:Nat} {s:List UInt8} (h:eU t q i = .ok s j):gw t (aQ t i)=s:=by
 unfold eU at h;split at h
 .cases h
 .split at h
  .cases h
  .simp only[Rs.ok.injEq]at h;exact h.1
theorem Ht {t:List UInt8} {q i p q':Nat} {c:Int} (hi:i<=t.length) (h:eU t q i = .err c p q'):0 < c/\p<=t.length:=by
 have fX:=iD hi;unfold eU at h;split at h
 .simp only[Rs.err.injEq]at h;omega
 .split at h
  .simp only[Rs.err.injEq]at h;omega
  .cases h
theorem Vw (G:aF) (t:List UInt8) (ht:t.length<=2000):∀ (d:Nat) (a:Int),d<=20->a+d=20->Reads G t [500] [] 256 [.ref 500 0 0,.d (ab a)] d (cf t d):=by
 intro d
 induction d with
 | zero=>
  intro a _ ha;refine Co fun i hi=>⟨.v (.pointer none),aQ t i,?_,fun c p q h=>?_⟩
  .have eW:=zt G t i aa hi 4
   have ou:20<=a:=aa
   rw[cf];show MC _ _ _ _ _ _ (.d (.v (.pointer none))) (au (bJ t (aQ t i) 4 (aQ t i) ++ []));refine MC.aU (aw _) func256 rfl rfl (rs:=[.tmp 4]) results256 (by simp[ntmps256]) rfl fun X=>?_;simp only[ntmps256];have fw:=acT;refine af fw [0,1] [500] ?_;refine ah fun K1 aI=>af fw [0,1,12] [500] ?_;refine aj (ax (aI _ ?_));refine ah fun K2 ak=>?_;have qf:=(Aq fw @ou);refine aC [0,1,14] [500] ?_;refine aD (bA fw eW [4] [500] ?_);exact bg (Aq fw ada)
  .rw[cf]at h;simp only[Rs.err.injEq]at h;have:=iD hi;exact⟨aa,rfl,aa⟩
 | succ d ih=>
  intro a hd ha;have y9:=ih (a+1) aa aa;have uW:=Mf G t ht (a+1) d y9;obtain⟨yF,kF,y9⟩:=y9;obtain⟨yO,kO,uW⟩:=uW;refine Co fun i hi=>?_;have fI:=zu G t i aa hi 0 (-1);have fX:=iD hi
  have ou:¬ 20<=a:=aa
  have Z1:0<=a:=aa
  have tm:=fun (c:UInt8) (h:t[aQ t i]? = some c)=>U9 h;have th:=fun (c:UInt8) (hc:c≠0) (h:t[aQ t i]?≠some c)=>U8 hc h;have bf:∀ {c:UInt8},t[aQ t i]? = some c->aQ t i+1<=t.length:=fun h=>(By.1 h).1;rw[cf];generalize nL t i=b at fI tm th;generalize aQ t i=j at fI fX tm th bf ⊢;by_cases qe:t[j]? = some 33
  .rw[if_pos qe];obtain rfl:=tm 33 qe;have hc:=(y9 (j+1) (bf qe)).1;rw[ab4]at hc;have he:=(y9 (j+1) (bf qe)).2
   have gn:(ic (cf t d (j+1)) (yF (j+1))).one=true:=by
    cases ck:cf t d (j+1) with
    | ok x k=>exact ub x
    | err c p q=>exact (he _ _ _ ck).2.1
   have vZ:=cells_one gn
   change ∃ y k,z8 G t [500] [] 256 [.ref 500 0 0,.d (ab a)] (d+1) (wU (cf t d (j+1))) i y k
   generalize rA:cf t d (j+1)=R at hc he gn vZ ⊢;refine⟨.ip [dS [33],dS [],.sl none [[yF (j+1)]]],kF (j+1),?_,fun c p q h=>?_⟩
   .have h1:ic (wU R) (.ip [dS [33],dS [],.sl none [[yF (j+1)]]]) = .ip [dS [33],dS [],.sl none [[ic R (yF (j+1))]]]:=by cases R<;>rfl
    have h2:gT (wU R) (kF (j+1))=gT R (kF (j+1)):=by cases R<;>rfl
    have h3:eR (wU R)=eR R:=by cases R<;>rfl
    have h4:pR (wU R)=pR R:=by cases R<;>rfl
    rw[h1,h2,h3,h4];refine MC.aU (aw _) func256 rfl rfl (rs:=[.tmp 4]) results256 (by simp[ntmps256]) rfl fun X=>?_;simp only[ntmps256];have fw:=acT;refine af fw [0,1] [500] ?_;refine ah fun K1 aI=>af fw [0,1,12] [500] ?_;refine aj (ax (aI _ ?_));refine ah fun K2 ak=>?_;have qf:=(Aq fw @ou);refine aC [0,1,14] [500] ?_;refine aj (ax (ak _ ?_));refine ah fun K3 bF=>bA fw fI [0,1,5] [500] ?_;refine af fw [0,1,5,19] [500] ?_;refine bd (af fw [0,1,5,19,20] [500] ?_);refine aD (af fw [0,1] [500] ?_);have qf:=(Aq fw (Aq @vZ (Aq @gn @FU)));refine iA hc [4] [33,35,500] ?_;refine AW.imp (aY.freeze 33 bh) ?_;refine AW.st (by simp[ab,bJ,dS];rfl) ?_;refine jk fw 35 ?_;refine bt ?_;simp[D.le,D.le.go,aL,ab,bJ,dS,bJ,dS,bM,D.le_refl,D.aV]
   .cases R with
    | ok x k=>cases h
    | err c' p' q'=>
     simp only[wU,Rs.err.injEq]at h;obtain⟨rfl,rfl,rfl⟩:=h;obtain⟨g1,g2,g3⟩:=he _ _ _ rfl;exact⟨g1,rfl,aa⟩
  rw[if_neg qe];have n33:¬ (b.toNat:Int)=33:=th 33 bh qe;by_cases c40:t[j]? = some 40
  .rw[if_pos c40];obtain rfl:=tm 40 c40;have hc:=(uW (j+1) (bf c40)).1;rw[ab4]at hc;have he:=(uW (j+1) (bf c40)).2
   cases hr:jt t (cf t d) (j+1) with
   | err c p q=>
    rw[hr]at hc;obtain⟨g1,g2,g3⟩:=he _ _ _ hr
    have g4:¬ c=0:=aa
    refine⟨yO (j+1),kO (j+1)+1,?_,fun c' p' q' h=>?_⟩
    .show MC _ _ _ _ _ _ (.d (yO (j+1))) (au (bJ t ((kO (j+1)+1:Nat):Int) c p ++ []));rw[ab4];refine MC.aU (aw _) func256 rfl rfl (rs:=[.tmp 4]) results256 (by simp[ntmps256]) rfl fun X=>?_;simp only[ntmps256];have fw:=acT;refine af fw [0,1] [500] ?_;refine ah fun K1 aI=>af fw [0,1,12] [500] ?_;refine aj (ax (aI _ ?_));refine ah fun K2 ak=>?_;have qf:=(Aq fw @ou);refine aC [0,1,14] [500] ?_;refine aj (ax (ak _ ?_));refine ah fun K3 bF=>bA fw fI [0,1,5] [500] ?_;refine af fw [0,1,5,19] [500] ?_;refine bd (af fw [0,1,5,19,20] [500] ?_);refine aj (af fw [0,1,5,19,36] [500] ?_);refine aD (af fw [0,1] [500] ?_);refine bA (Aq fw (Aq @ic.eq_1 (Aq @ic.eq_2 (Aq @gT.eq_1 (Aq @gT.eq_2 (Aq @eR.eq_1 (Aq @eR.eq_2 (Aq @pR.eq_1 @pR.eq_2)))))))) hc [0,6] [500] ?_;refine ah fun K4 cF=>?_;have qf:=(Aq fw @g4);refine aC [0,6,59] [500] ?_;refine aj (ax (cF _ ?_));refine af fw [6] [500] ?_;refine af fw [4] [500] ?_;exact bg (Aq fw ada)
    .simp only[Rs.err.injEq]at h;obtain⟨rfl,rfl,rfl⟩:=h;exact⟨g1,g2,aa⟩
   | ok x k=>
    rw[hr]at hc;dsimp only[ic,gT,eR,pR]at hc;have hk:=(sd (kp t d) (j+1) x k (bf c40) hr).2;have kQ:=zu G t k aa hk 0 (-1);have mb:=iD hk;have eW:=zt G t (aQ t k) aa mb 3;rw[qM hk]at eW;have da:=Cc (t:=t) (i:=k) (c:=41) bh;have kg:=Hd (t:=t) (c:=41) (i:=k);have Rv:((41:UInt8).toNat:Int)=41:=rfl;rw[Rv]at da;dsimp only;by_cases hb:((nL t k).toNat:Int)=41
    .rw[decide_eq_true hb]at da;rw[da]at kg ⊢;simp only[if_true]at kg ⊢;rw[kg];refine⟨default,0,?_,fun c p q h=>by cases h⟩;show MC _ _ _ _ _ _ (.d (dR x)) (au (bJ t ((aQ t k+1:Nat):Int) 0 (-1) ++ []));rw[ab4];obtain⟨cx,hx⟩:=j5 x;rw[hx]at hc ⊢;refine MC.aU (aw _) func256 rfl rfl (rs:=[.tmp 4]) results256 (by simp[ntmps256]) rfl fun X=>?_;simp only[ntmps256];have fw:=acT;refine af fw [0,1] [500] ?_;refine ah fun K1 aI=>af fw [0,1,12] [500] ?_;refine aj (ax (aI _ ?_));refine ah fun K2 ak=>?_;have qf:=(Aq fw @ou);refine aC [0,1,14] [500] ?_;refine aj (ax (ak _ ?_));refine ah fun K3 bF=>bA fw fI [0,1,5] [500] ?_;refine af fw [0,1,5,19] [500] ?_;refine bd (af fw [0,1,5,19,20] [500] ?_);refine aj (af fw [0,1,5,19,36] [500] ?_);refine aD (af fw [0,1] [500] ?_);refine bA fw hc [0,6] [500] ?_;refine ah fun K4 cF=>?_;have qf:=(Aq fw @hb);refine iA kQ [0,6,59] [500] ?_;refine aj (ax (cF _ ?_));refine af fw [6] [500] ?_;refine af fw [4] [500] ?_;exact bg (Aq fw ada)
    .rw[decide_eq_false hb]at da;rw[da]at kg ⊢;simp only[abh,if_false]at kg ⊢;rw[kg];refine⟨.v (.pointer none),aQ t k,?_,fun c p q h=>?_⟩
     .show MC _ _ _ _ _ _ (.d (.v (.pointer none))) (au (bJ t (aQ t k) 3 (aQ t k) ++ []));obtain⟨cx,hx⟩:=j5 x;rw[hx]at hc;refine MC.aU (aw _) func256 rfl rfl (rs:=[.tmp 4]) results256 (by simp[ntmps256]) rfl fun X=>?_;simp only[ntmps256];have fw:=acT;refine af fw [0,1] [500] ?_;refine ah fun K1 aI=>af fw [0,1,12] [500] ?_;refine aj (ax (aI _ ?_));refine ah fun K2 ak=>?_;have qf:=(Aq fw @ou);refine aC [0,1,14] [500] ?_;refine aj (ax (ak _ ?_));refine ah fun K3 bF=>bA fw fI [0,1,5] [500] ?_;refine af fw [0,1,5,19] [500] ?_;refine bd (af fw [0,1,5,19,20] [500] ?_);refine aj (af fw [0,1,5,19,36] [500] ?_);refine aD (af fw [0,1] [500] ?_);refine bA fw hc [0,6] [500] ?_;refine ah fun K4 cF=>?_;have qf:=(Aq fw @hb);refine iA kQ [0,6,59] [500] ?_;refine aD (bA fw eW [4] [500] ?_);exact bg (Aq fw ada)
     .simp only[Rs.err.injEq]at h;exact⟨aa,rfl,aa⟩
  rw[if_neg c40];have wP:¬ (b.toNat:Int)=40:=th 40 bh c40;by_cases sA:t[j]? = some 48
  .rw[if_pos sA];obtain rfl:=tm 48 sA;have:=bf sA;refine⟨default,0,?_,fun c p q h=>by cases h⟩;show MC _ _ _ _ _ _ (.d (.ip [dS [48],dS [],cJ])) (au (bJ t ((j+1:Nat):Int) 0 (-1) ++ []));rw[ab4];refine MC.aU (aw _) func256 rfl rfl (rs:=[.tmp 4]) results256 (by simp[ntmps256]) rfl fun X=>?_;simp only[ntmps256];have fw:=acT;refine af fw [0,1] [500] ?_;refine ah fun K1 aI=>af fw [0,1,12] [500] ?_;refine aj (ax (aI _ ?_));refine ah fun K2 ak=>?_;have qf:=(Aq fw @ou);refine aC [0,1,14] [500] ?_;refine aj (ax (ak _ ?_));refine ah fun K3 bF=>bA fw fI [0,1,5] [500] ?_;refine af fw [0,1,5,19] [500] ?_;refine bd (af fw [0,1,5,19,20] [500] ?_);refine aj (af fw [0,1,5,19,36] [500] ?_);refine aj (ah fun K5 cI=>?_);refine af fw [0,5,19,70] [500] ?_;refine aD (ax (cI _ ?_));refine aD (af fw [5] [500] ?_);have qf:=(Aq fw (Aq @PS @cJ.eq_1));refine aC [4] [83,500] ?_;refine jk fw 83 ?_;refine bt ?_;simp[D.le,D.le.go,aL,ab,bJ,dS,bJ,dS,cJ,bM,D.le_refl,D.aV]
  rw[if_neg sA];have wQ:¬ (b.toNat:Int)=48:=th 48 bh sA;by_cases c49:t[j]? = some 49
  .rw[if_pos c49];obtain rfl:=tm 49 c49;have:=bf c49;refine⟨default,0,?_,fun c p q h=>by cases h⟩;show MC _ _ _ _ _ _ (.d (.ip [dS [49],dS [],cJ])) (au (bJ t ((j+1:Nat):Int) 0 (-1) ++ []));rw[ab4];refine MC.aU (aw _) func256 rfl rfl (rs:=[.tmp 4]) results256 (by simp[ntmps256]) rfl fun X=>?_;simp only[ntmps256];have fw:=acT;refine af fw [0,1] [500] ?_;refine ah fun K1 aI=>af fw [0,1,12] [500] ?_;refine aj (ax (aI _ ?_));refine ah fun K2 ak=>?_;have qf:=(Aq fw @ou);refine aC [0,1,14] [500] ?_;refine aj (ax (ak _ ?_));refine ah fun K3 bF=>bA fw fI [0,1,5] [500] ?_;refine af fw [0,1,5,19] [500] ?_;refine bd (af fw [0,1,5,19,20] [500] ?_);refine aj (af fw [0,1,5,19,36] [500] ?_);refine aj (ah fun K5 cI=>?_);refine af fw [0,5,19,70] [500] ?_;refine aj (fc fw cI [0,5,19,70] [500] ?_);refine aD (af fw [5] [500] ?_);have qf:=(Aq fw (Aq @PT @cJ.eq_1));refine aC [4] [83,500] ?_;refine jk fw 83 ?_;refine bt ?_;simp[D.le,D.le.go,aL,ab,bJ,dS,bJ,dS,cJ,bM,D.le_refl,D.aV]
  rw[if_neg c49];have wR:¬ (b.toNat:Int)=49:=th 49 bh c49;by_cases rf:t[j]? = some 94
  .rw[if_pos rf];obtain rfl:=tm 94 rf;have hj:=bf rf;have hw:=GL G t 1 (j+1) aa hj;rw[ab4]at hw;have pT:∀ s k,eU t 1 (j+1) = .ok s k->gw t (aQ t (j+1))=s:=fun s k h=>Hs h;have s4:∀ c p q',eU t 1 (j+1) = .err c p q'->0 < c/\p<=t.length:=fun c p q' h=>Ht hj h;generalize hW:eU t 1 (j+1)=W at hw pT s4 ⊢;generalize gw t (aQ t (j+1))=sw at hw pT;refine⟨.ip [dS [94],dS sw,cJ],cL W,?_,fun c p q h=>?_⟩
   .have h1:ic (W.map .ef) (.ip [dS [94],dS sw,cJ]) = .ip [dS [94],dS sw,cJ]:=by
     cases W with
     | ok s k=>obtain rfl:=pT _ _ rfl;rfl
     | err c p q=>rfl
    have h2:gT (W.map Ex.ef) (cL W)=cL W:=by cases W<;>rfl
    have h3:eR (W.map Ex.ef)=eR W:=by cases W<;>rfl
    have h4:pR (W.map Ex.ef)=pR W:=by cases W<;>rfl
    rw[h1,h2,h3,h4];refine MC.aU (aw _) func256 rfl rfl (rs:=[.tmp 4]) results256 (by simp[ntmps256]) rfl fun X=>?_;simp only[ntmps256];have fw:=acT;refine af fw [0,1] [500] ?_;refine ah fun K1 aI=>af fw [0,1,12] [500] ?_;refine aj (ax (aI _ ?_));refine ah fun K2 ak=>?_;have qf:=(Aq fw @ou);refine aC [0,1,14] [500] ?_;refine aj (ax (ak _ ?_));refine ah fun K3 bF=>bA fw fI [0,1,5] [500] ?_;refine af fw [0,1,5,19] [500] ?_;refine bd (af fw [0,1,5,19,20] [500] ?_);refine aj (af fw [0,1,5,19,36] [500] ?_);refine aj (ah fun K5 cI=>?_);refine af fw [0,5,19,70] [500] ?_;refine aj (fc fw cI [0,5,19,70] [500] ?_);refine aj (ah fun K6 fN=>?_);refine af fw [0,5,19,84] [500] ?_;refine aD (ax (fN _ ?_));refine aD (af fw [0,5] [500] ?_);have qf:=(Aq fw (Aq @PU @cJ.eq_1));refine iA hw [4] [99,500] ?_;refine jk fw 99 ?_;refine bt ?_;simp[D.le,D.le.go,aL,ab,bJ,dS,bJ,dS,cJ,bM,D.le_refl,D.aV]
   .cases W with
    | ok s k=>cases h
    | err c' p' q'=>
     simp only[Rs.map,Rs.err.injEq]at h;obtain⟨rfl,rfl,rfl⟩:=h;obtain⟨g1,g2⟩:=s4 _ _ _ rfl;exact⟨g1,rfl,by simp only[cL];omega⟩
  rw[if_neg rf];have wT:¬ (b.toNat:Int)=94:=th 94 bh rf;by_cases re:t[j]? = some 126
  .rw[if_pos re];obtain rfl:=tm 126 re;have hj:=bf re;have hw:=GL G t 2 (j+1) aa hj;rw[ab4]at hw;have pT:∀ s k,eU t 2 (j+1) = .ok s k->gw t (aQ t (j+1))=s:=fun s k h=>Hs h;have s4:∀ c p q',eU t 2 (j+1) = .err c p q'->0 < c/\p<=t.length:=fun c p q' h=>Ht hj h;generalize hW:eU t 2 (j+1)=W at hw pT s4 ⊢;generalize gw t (aQ t (j+1))=sw at hw pT;refine⟨.ip [dS [126],dS sw,cJ],cL W,?_,fun c p q h=>?_⟩
   .have h1:ic (W.map .eb) (.ip [dS [126],dS sw,cJ]) = .ip [dS [126],dS sw,cJ]:=by
     cases W with
     | ok s k=>obtain rfl:=pT _ _ rfl;rfl
     | err c p q=>rfl
    have h2:gT (W.map Ex.eb) (cL W)=cL W:=by cases W<;>rfl
    have h3:eR (W.map Ex.eb)=eR W:=by cases W<;>rfl
    have h4:pR (W.map Ex.eb)=pR W:=by cases W<;>rfl
    rw[h1,h2,h3,h4];refine MC.aU (aw _) func256 rfl rfl (rs:=[.tmp 4]) results256 (by simp[ntmps256]) rfl fun X=>?_;simp only[ntmps256];have fw:=acT;refine af fw [0,1] [500] ?_;refine ah fun K1 aI=>af fw [0,1,12] [500] ?_;refine aj (ax (aI _ ?_));refine ah fun K2 ak=>?_;have qf:=(Aq fw @ou);refine aC [0,1,14] [500] ?_;refine aj (ax (ak _ ?_));refine ah fun K3 bF=>bA fw fI [0,1,5] [500] ?_;refine af fw [0,1,5,19] [500] ?_;refine bd (af fw [0,1,5,19,20] [500] ?_);refine aj (af fw [0,1,5,19,36] [500] ?_);refine aj (ah fun K5 cI=>?_);refine af fw [0,5,19,70] [500] ?_;refine aj (fc fw cI [0,5,19,70] [500] ?_);refine aj (ah fun K6 fN=>?_);refine af fw [0,5,19,84] [500] ?_;refine aj (fc fw fN [0,5,84] [500] ?_);refine aD (af fw [0,5] [500] ?_);have qf:=(Aq fw (Aq @PQ @cJ.eq_1));refine iA hw [4] [99,500] ?_;refine jk fw 99 ?_;refine bt ?_;simp[D.le,D.le.go,aL,ab,bJ,dS,bJ,dS,cJ,bM,D.le_refl,D.aV]
   .cases W with
    | ok s k=>cases h
    | err c' p' q'=>
     simp only[Rs.map,Rs.err.injEq]at h;obtain⟨rfl,rfl,rfl⟩:=h;obtain⟨g1,g2⟩:=s4 _ _ _ rfl;exact⟨g1,rfl,by simp only[cL];omega⟩
  rw[if_neg re];have n126:¬ (b.toNat:Int)=126:=th 126 bh re;have hw:=GL G t 3 j aa fX;have pT:∀ s k,eU t 3 j = .ok s k->gw t (aQ t j)=s:=fun s k h=>Hs h;have s4:∀ c p q',eU t 3 j = .err c p q'->0 < c/\p<=t.length:=fun c p q' h=>Ht fX h;generalize hW:eU t 3 j=W at hw pT s4 ⊢;generalize gw t (aQ t j)=sw at hw pT;refine⟨.ip [dS [98,105,116],dS sw,cJ],cL W,?_,fun c p q h=>?_⟩
  .have h1:ic (W.map .bit) (.ip [dS [98,105,116],dS sw,cJ]) = .ip [dS [98,105,116],dS sw,cJ]:=by
    cases W with
    | ok s k=>obtain rfl:=pT _ _ rfl;rfl
    | err c p q=>rfl
   have h2:gT (W.map Ex.bit) (cL W)=cL W:=by cases W<;>rfl
   have h3:eR (W.map Ex.bit)=eR W:=by cases W<;>rfl
   have h4:pR (W.map Ex.bit)=pR W:=by cases W<;>rfl
   rw[h1,h2,h3,h4];refine MC.aU (aw _) func256 rfl rfl (rs:=[.tmp 4]) results256 (by simp[ntmps256]) rfl fun X=>?_;simp only[ntmps256];have fw:=acT;refine af fw [0,1] [500] ?_;refine ah fun K1 aI=>af fw [0,1,12] [500] ?_;refine aj (ax (aI _ ?_));refine ah fun K2 ak=>?_;have qf:=(Aq fw @ou);refine aC [0,1,14] [500] ?_;refine aj (ax (ak _ ?_));refine ah fun K3 bF=>bA fw fI [0,1,5] [500] ?_;refine af fw [0,1,5,19] [500] ?_;refine bd ?_;have qf:=(Aq fw (Aq @n33 (Aq @wP (Aq @wQ (Aq @wR (Aq @wT @n126))))));refine aC [0,1,5,19,20] [500] ?_;refine aj ?_;have qf:=(Aq fw (Aq @n33 (Aq @wP (Aq @wQ (Aq @wR (Aq @wT @n126))))));refine aC [0,1,5,19,36] [500] ?_;refine aj (ah fun K5 cI=>?_);have qf:=(Aq fw (Aq @n33 (Aq @wP (Aq @wQ (Aq @wR (Aq @wT @n126))))));refine aC [0,5,19,70] [500] ?_;refine aj ?_;have qf:=(Aq fw (Aq @n33 (Aq @wP (Aq @wQ (Aq @wR (Aq @wT @n126))))));refine nN cI [0,5,19,70] [500] ?_;refine aj (ah fun K6 fN=>?_);have qf:=(Aq fw (Aq @n33 (Aq @wP (Aq @wQ (Aq @wR (Aq @wT @n126))))));refine aC [0,5,19,84] [500] ?_;refine aj ?_;have qf:=(Aq fw (Aq @n33 (Aq @wP (Aq @wQ (Aq @wR (Aq @wT @n126))))));refine nN fN [0,5,84] [500] ?_;refine aj (ax (bF _ ?_));have qf:=(Aq fw (Aq @cJ.eq_1 @Ue));refine iA hw [4] [103,500] ?_;refine jk fw 103 ?_;refine bt ?_;simp[D.le,D.le.go,aL,ab,bJ,dS,bJ,dS,cJ,bM,D.le_refl,D.aV]
  .cases W with
   | ok s k=>cases h
   | err c' p' q'=>
    simp only[Rs.map,Rs.err.injEq]at h;obtain⟨rfl,rfl,rfl⟩:=h;obtain⟨g1,g2⟩:=s4 _ _ _ rfl;exact⟨g1,rfl,by simp only[cL];omega⟩
theorem V0 {r r' s:Nat} (h:r≠r') (hs:s≠r') (hr:s≠r) (row nP:Row):na r r' (au [(r,row),(s,nP)])=au [(r',row.tr (fR r r') (fQ r r')),(s,nP.tr (fR r r') (fQ r r'))]:=Mi h hs hr row nP
theorem V1 {r r' s:Nat} (h:r≠r') (hs:s≠r') (hr:s≠r) (row nP:Row):na r r' (au [(s,nP),(r,row)])=au [(s,nP.tr (fR r r') (fQ r r')),(r',row.tr (fR r r') (fQ r r'))]:=by
 funext q;unfold na;by_cases h1:q=r'
 .subst h1;simp[au,List.lookup,beq_eq_false_iff_ne.2 (abY hs),beq_eq_false_iff_ne.2 (abY hr)]
 .rw[if_neg h1];by_cases h2:q=r
  .subst h2;simp[au,List.lookup,beq_eq_false_iff_ne.2 h1,beq_eq_false_iff_ne.2 (abY hr)]
  .by_cases h3:q=s
   .subst h3;simp[au,List.lookup,h2,beq_eq_false_iff_ne.2 h1,beq_eq_false_iff_ne.2 h2]
   .simp[au,List.lookup,h2,beq_eq_false_iff_ne.2 h1,beq_eq_false_iff_ne.2 h2,beq_eq_false_iff_ne.2 h3]
theorem LZ {and:Bool}:∀ (l:List Ex) (out:List Ex) (r:List Ex),eB and out l=none->eB and out (l ++ r)=none
 | [],out,r,h=>by cases h
 | x :: l,out,r,h=>by
  rw[aby,eB];rw[eB]at h
  cases hp:iz and x with
  | none=>rfl
  | some i=>
   rw[hp]at h;dsimp only at h ⊢
   cases ha:gz out i with
   | none=>rfl
   | some o=>
    rw[ha]at h;exact LZ l o r h
theorem LY {and:Bool}:∀ (l:List Ex) (out o:List Ex) (x:Ex),eB and out l=some o->eB and out (l ++ [x])=(match iz and x with | none=>none | some i=>gz o i)
 | [],out,o,x,h=>by
  obtain rfl:=AI h;rw[abL,eB]
  cases hp:iz and x with
  | none=>rfl
  | some i=>
   dsimp only
   cases ha:gz out i with
   | none=>rfl
   | some o=>rfl
 | y :: l,out,o,x,h=>by
  rw[aby,eB];rw[eB]at h
  cases hp:iz and y with
  | none=>rw[hp]at h;cases h
  | some i=>
   rw[hp]at h;dsimp only at h ⊢
   cases ha:gz out i with
   | none=>rw[ha]at h;cases h
   | some o2=>
    rw[ha]at h;exact LY l o2 o x h
theorem Dq:∀ l:List Ex,bx (l.map cu)<=bx l
 | []=>al
 | x :: l=>by have:=zP x;have:=Dq l;simp only[abj,bx];omega
def iI:Option (List Ex)->D
 | none=>.bI [.sl (some false) [],.v (.bool true)]
 | some o=>.bI [.sl none (o.map fun e=>[dE e]),.v (.bool false)]
theorem ac3:type_of% (Aq @iI.eq_1 @iI.eq_2):=(Aq @iI.eq_1 @iI.eq_2)
theorem acV:type_of% (Aq @acC (Aq @acB (Aq @acJ (Aq @acK @acI)))):=(Aq @acC (Aq @acB (Aq @acJ (Aq @acK @acI))))
theorem L1 (G:aF) (and:Bool) (l:List Ex) (hb:bx l<=2^27) (gM:∀ x∈l,aH prog G 123 [dE x] (dE (cu x))):aH prog G 192 [.sl none (l.map fun e=>[dE e]),.v (.bool and)] (iI (eB and [] (gD l))):=by
 have lM:=lA l;rw[xd]
 have lJ:∀ n,bx ((l.take n).map cu)<=bx l:=by
  have h:∀ l2:List Ex,bx (l2.map cu)<=bx l2:=by
   intro l2
   induction l2 with
   | nil=>simp
   | cons x l2 ih=>have:=zP x;simp only[abj,bx];omega
  intro n;have:=lz (l.take n) (l.drop n);rw[abm]at this;have:=h (l.take n);omega
 refine aH.aU (aw _) func192 rfl rfl (rs:=[.tmp 4,.tmp 5]) results192 (by simp[ntmps192]) fun X=>?_;simp only[ntmps192,List.map];have fw:=acV;refine af fw [0,1] [] ?_;refine af fw [0,1,6] [6] ?_;refine af fw [0,1,6,7] [6,7] ?_;refine af fw [0,1,6,8] [6,7] ?_;refine AW.imp (aY.dT (r:=6) (r':=502) trivial al) ?_;refine AW.st (by simp[fR,fQ,Go.Av.dT,V0];rfl) ?_;refine AW.imp (aY.dT (r:=7) (r':=501) trivial al) ?_;refine AW.st (by simp[fR,fQ,Go.Av.dT,V1];rfl) ?_;refine ah fun K1 aI=>af fw [1,6,8,17,18,19] [502,501] ?_;refine eD (S:=Nat×List Ex) (fun z=>z.1<=l.length/\eB and [] ((l.take z.1).map cu)=some z.2) (fun z=>⟨bl [(1,.d (.v (.bool and))),(6,.ref 502 0 0),(8,.fn (.func 247) [.ref 501 0 0,.ref 502 0 0]),(17,.d (.sl none (l.map fun e=>[dE e]))),(18,int l.length),(19,int z.1)],au (aX z.2)⟩) (fun z=>l.length - z.1) (0,[]) ?_ ⟨aa,rfl⟩ ?_
 .refine (aY.n7 501 0 503 9 1 rfl rfl rfl).trans ((aY.n7 502 0 504 34 1 rfl rfl rfl).trans ?_);refine bL (Aq fw @aX.eq_1)
 .rintro⟨n,out⟩ ⟨hn,hp⟩;dsimp only at hn hp ⊢;refine af (Aq fw @aX.eq_1) [1,6,8,17,18,19,20] [501,502,503,504] ?_;refine ah fun K2 ak=>ga (b:=n < l.length) (by simp[D.le,D.le.go,aL,ab,dS,aG,aM]) (fun hc=>?_) (fun hc=>?_)
  .have dX:n < l.length:=hc;have ed:=LY ((l.take n).map cu) [] out (cu l[n]) hp;have bO:=LZ (and:=and) ((l.take (n+1)).map cu) [] ((l.drop (n+1)).map cu);rw[<- abt,abm]at bO
   have e1:(l.take n).map cu ++ [cu l[n]]=(l.take (n+1)).map cu:=by
    rw[aa7 dX,abt];rfl
   rw[e1]at ed;have rC:=se _ _ _ hp;simp only[bx,abe]at rC
   have ye:bx out+bE (cu l[n])<=2^28:=by
    have h1:=lJ (n+1);rw[<- e1,lz]at h1;simp only[bx]at h1;omega
   have dB:=gM _ (aa6 dX);obtain⟨tx,cx,hx⟩:=gk l[n];rw[hx]at dB;refine ax (ak _ (ah fun K3 bF=>bd ?_));have qf:=(Aq fw (Aq @dX @hx));refine aC [1,6,8,10,17,18,19] [501,502,503,504] ?_;refine af fw [1,6,8,10,11,17,18,19] [501,502,503,504] ?_;refine ah fun K4 cF=>?_;clear gM;generalize cu l[n]=y at dB ed ye;refine (fun cM=>?_) (fun (σ:St) (k:Option Bool) (i:List Ex) (hi:iz and y=some i) himp=>cF σ (AW.imp (τ:=⟨bl [(1,.d (.v (.bool and))),(6,.ref 502 0 0),(8,.fn (.func 247) [.ref 501 0 0,.ref 502 0 0]),(11,.d (.sl k (i.map fun e=>[dE e]))),(17,.d (.sl none (l.map fun e=>[dE e]))),(18,int l.length),(19,int n)],au (aX out)⟩) himp ?_))
   .by_cases lL:∃ b,y = .b5 b
    .obtain⟨b,rfl⟩:=lL;rw[dE]at dB;have pJ:iz and (.b5 b)=if b != and then none else some []:=rfl;rw[pJ]at ed cM;by_cases ya:b=and
     .have eV:(b != and)=false:=by rw[ya];simp
      rw[eV]at ed cM;refine bB fw dB [1,6,8,11,17,18,19,24] [501,502,503,504] ?_;refine bd (af fw [1,6,8,11,17,18,19,24,28,29] [501,502,503,504] ?_);refine aD (af fw [1,6,8,11,12,17,18,19] [501,502,503,504] ?_);have qf:=(Aq fw @ya);refine aC [1,6,8,11,17,18,19,32] [501,502,503,504] ?_;refine aj (ax (cM _ (some false) [] rfl ?_));refine bL (Aq fw @aX.eq_1)
     .have eV:(b != and)=true:=by simpa using ya
      have x9:(b == and)=false:=by simpa using ya
      rw[eV,if_pos rfl]at ed;rw[bO ed];refine bB fw dB [1,6,8,11,17,18,19,24] [501,502,503,504] ?_;refine bd (af fw [1,6,8,11,17,18,19,24,28,29] [501,502,503,504] ?_);refine aD (af fw [1,6,8,11,12,17,18,19] [501,502,503,504] ?_);have qf:=(Aq fw (Aq @ya (Aq @eV @x9)));refine aC [1,6,8,11,17,18,19,32] [501,502,503,504] ?_;refine aD (af fw [4,5] [501,502,503,504] ?_);exact bg (Aq fw ac3)
    have hC:jq y=false:=by
     cases y with
     | b5 b=>exact absurd ⟨b,rfl⟩ lL
     | _=>rfl
    by_cases hand:∃ m,y = .and m
    .obtain⟨m,rfl⟩:=hand;rw[dE,kG]at dB;have pJ:iz and (.and m)=some (if and then m else [.and m]):=rfl;rw[pJ]at ed cM
     cases and with
     | true=>
      refine bB fw dB [1,6,8,11,17,18,19,24] [501,502,503,504] ?_;refine bd (af fw [1,6,8,11,17,18,19,24,28,29] [501,502,503,504] ?_);refine aj (af fw [1,6,8,11,17,18,19,24,34,35] [501,502,503,504] ?_);refine aD (af fw [1,6,8,13,17,18,19] [501,502,503,504] ?_);refine af fw [1,6,8,11,13,17,18,19] [501,502,503,504,38] ?_;refine AW.imp (aY.freeze 38 trivial) ?_;refine AW.st (by simp[ab,dS,aG,aM];rfl) ?_;refine af fw [1,6,8,11,13,17,18,19,39] [501,502,503,504] ?_;refine aD (fe fw ?_);(try simp only[bY,b9]);refine cM _ none m rfl ?_;refine bL (Aq fw @aX.eq_1)
     | false=>
      refine bB fw dB [1,6,8,11,17,18,19,24] [501,502,503,504] ?_;refine bd (af fw [1,6,8,11,17,18,19,24,28,29] [501,502,503,504] ?_);refine aj (af fw [1,6,8,11,17,18,19,24,34,35] [501,502,503,504] ?_);refine aD (af fw [1,6,8,13,17,18,19] [501,502,503,504] ?_);refine af fw [1,6,8,11,13,17,18,19] [501,502,503,504,38] ?_;refine AW.imp (aY.freeze 38 trivial) ?_;refine AW.st (by simp[ab,dS,aG,aM];rfl) ?_;refine af fw [1,6,8,11,13,17,18,19,39] [501,502,503,504] ?_;refine aj (ax (cM _ none [.and m] rfl ?_));refine aY.fo aT (by simp[ab,dS,aG,aM,aX,dE,kG]) (by simp[ab,dS,aG,aM,aX,dE,kG])
    by_cases lN:∃ m,y = .or m
    .obtain⟨m,rfl⟩:=lN;rw[dE,kG]at dB;have pJ:iz and (.or m)=some (if and then [.or m] else m):=rfl;rw[pJ]at ed cM
     cases and with
     | true=>
      refine bB fw dB [1,6,8,11,17,18,19,24] [501,502,503,504] ?_;refine bd (af fw [1,6,8,11,17,18,19,24,28,29] [501,502,503,504] ?_);refine aj (af fw [1,6,8,11,17,18,19,24,34,35] [501,502,503,504] ?_);refine aj (af fw [1,6,8,11,17,18,19,24,42,43] [501,502,503,504] ?_);refine aD (af fw [1,6,8,14,17,18,19] [501,502,503,504] ?_);refine af fw [1,6,8,11,14,17,18,19] [501,502,503,504,46] ?_;refine AW.imp (aY.freeze 46 trivial) ?_;refine AW.st (by simp[ab,dS,aG,aM];rfl) ?_;refine af fw [1,6,8,11,14,17,18,19,48] [501,502,503,504] ?_;refine aj (ax (cM _ none [.or m] rfl ?_));refine aY.fo aT (by simp[ab,dS,aG,aM,aX,dE,kG]) (by simp[ab,dS,aG,aM,aX,dE,kG])
     | false=>
      refine bB fw dB [1,6,8,11,17,18,19,24] [501,502,503,504] ?_;refine bd (af fw [1,6,8,11,17,18,19,24,28,29] [501,502,503,504] ?_);refine aj (af fw [1,6,8,11,17,18,19,24,34,35] [501,502,503,504] ?_);refine aj (af fw [1,6,8,11,17,18,19,24,42,43] [501,502,503,504] ?_);refine aD (af fw [1,6,8,14,17,18,19] [501,502,503,504] ?_);refine af fw [1,6,8,11,14,17,18,19] [501,502,503,504,46] ?_;refine AW.imp (aY.freeze 46 trivial) ?_;refine AW.st (by simp[ab,dS,aG,aM];rfl) ?_;refine af fw [1,6,8,11,14,17,18,19,48] [501,502,503,504] ?_;refine aD (fe fw ?_);(try simp only[bY,b9]);refine cM _ none m rfl ?_;refine bL (Aq fw @aX.eq_1)
    obtain⟨t,c,hy,h1,h2,h3⟩:=PB y hC (fun m h=>hand ⟨m,h⟩) (fun m h=>lN ⟨m,h⟩)
    have pJ:iz and y=some [y]:=by
     cases y with
     | b5 b=>cases hC
     | and m=>exact absurd ⟨m,rfl⟩ hand
     | or m=>exact absurd ⟨m,rfl⟩ lN
     | _=>rfl
    rw[hy]at dB;refine bB fw dB [1,6,8,11,17,18,19,24] [501,502,503,504] ?_;refine bd ?_;have qf:=(Aq fw @h1);refine aC [1,6,8,11,17,18,19,24,28,29] [501,502,503,504] ?_;refine aj ?_;have qf:=(Aq fw @h2);refine aC [1,6,8,11,17,18,19,24,34,35] [501,502,503,504] ?_;refine aj ?_;have qf:=(Aq fw @h3);refine aC [1,6,8,11,17,18,19,24,42,43] [501,502,503,504] ?_;refine aj (af fw [1,6,8,15,17,18,19] [501,502,503,504] ?_);refine fe fw ?_;(try simp only[bY,b9]);refine cM _ none [y] pJ ?_;refine (aY.freeze 26 trivial).trans ?_;refine aY.fo aT (by simp[ab,dS,aG,aM,aX,hy,St.freeze]) (by simp[ab,dS,aG,aM,aX,hy,St.freeze])
   .have cK:=Pm G k i out (by have:=Ch hi;omega);rw[hi]at ed;dsimp only at ed;rw[HQ]at ed
    cases rT:(eK out i).2 with
    | true=>
     rw[rT]at cK ed;rw[if_pos rfl]at ed;rw[bO ed];refine bA (Aq fw @aX.eq_1) cK [1,6,8,17,18,19,52] [501,502,503,504] ?_;refine aD (af fw [4,5] [501,502,503,504] ?_);exact bg (Aq fw ac3)
    | false=>
     rw[rT]at cK ed;rw[if_neg al]at ed;refine bA (Aq fw @aX.eq_1) cK [1,6,8,17,18,19,52] [501,502,503,504] ?_;refine aj (ax (bF _ ?_));refine fe fw ?_;(try simp only[bY,b9]);refine cC.mk (n+1,(eK out i).1) ⟨by dsimp only;omega,ed⟩ (by dsimp only;omega) ?_;refine bL (Aq fw @aX.eq_1)
  .obtain rfl:n=l.length:=aa
   rw[abo]at hp;refine cX (aI _ ?_);rw[hp];refine af fw [4,5] [501,502,503,504] ?_;refine AW.imp (aY.freeze 504 trivial) ?_;refine AW.st (by simp[ab,dS,aG,aM,sh];rfl) ?_;exact bg (Aq fw ac3)
theorem Y3 (G:aF):∀ (n:Nat) (e:Ex),SizeOf.sizeOf e<=n->bE e<=2^27->aH prog G 123 [dE e] (dE (cu e)):=by
 intro n
 induction n with
 | zero=>intro e bc;cases e<;>simp at bc
 | succ n ih=>
  intro e bc hb;have fw:=acV;by_cases hN:∃ x,e = .not x
  .obtain⟨x,rfl⟩:=hN;have hc:=ih x (by simp at bc;omega) (by simp only[bE]at hb;omega);obtain⟨tx,cx,hx⟩:=gk x;rw[cu];rw[dE,hx];rw[hx]at hc;generalize cu x=y at hc ⊢;by_cases lL:∃ b,y = .b5 b
   .obtain⟨b,rfl⟩:=lL;rw[dE]at hc;refine aH.aU (aw _) func123 rfl rfl (rs:=[.tmp 2]) results123 (by simp[ntmps123]) fun X=>?_;simp only[ntmps123,List.map];refine af fw [0] [] ?_;refine ah fun K1 aI=>af fw [0,13] [] ?_;refine bd (af fw [0,13,15,16] [] ?_);refine aD (af fw [3] [3] ?_);refine bB fw hc [19] [3] ?_;refine bd (af fw [19,24,25] [3] ?_);refine aD (af fw [4] [3] ?_);refine af fw [2] [3] ?_;refine bt ?_;simp[D.le,D.le.go,aL,ab,dS,aG,aM,ll,dE,D.le_refl]
   by_cases uG:∃ z,y = .not z
   .obtain⟨z,rfl⟩:=uG;obtain⟨tz,cz,hz⟩:=gk z;rw[dE,hz]at hc;refine aH.aU (aw _) func123 rfl rfl (rs:=[.tmp 2]) results123 (by simp[ntmps123]) fun X=>?_;simp only[ntmps123,List.map];refine af fw [0] [] ?_;refine ah fun K1 aI=>af fw [0,13] [] ?_;refine bd (af fw [0,13,15,16] [] ?_);refine aD (af fw [3] [3] ?_);refine bB fw hc [19] [3] ?_;refine bd (af fw [19,24,25] [3] ?_);refine aj (af fw [19,30,31] [3] ?_);refine aD (af fw [5] [3,5] ?_);refine af fw [2] [3,5] ?_;exact bg (Aq fw (Aq @ll.eq_1 (Aq @ll.eq_2 (Aq @ll.eq_3 @hz))))
   have hk:∃ t c,dE y = .b6 t c/\¬ t=163/\¬ t=130:=by
    cases y with
    | b5 b=>exact absurd ⟨b,rfl⟩ lL
    | not z=>exact absurd ⟨z,rfl⟩ uG
    | bit s=>exact⟨_,_,by rw[dE],bh,bh⟩
    | ef s=>exact⟨_,_,by rw[dE],bh,bh⟩
    | eb s=>exact⟨_,_,by rw[dE],bh,bh⟩
    | and l=>exact⟨_,_,by rw[dE],bh,bh⟩
    | or l=>exact⟨_,_,by rw[dE],bh,bh⟩
   have bw:ll y = .not y:=by
    cases y with
    | b5 b=>exact absurd ⟨b,rfl⟩ lL
    | not z=>exact absurd ⟨z,rfl⟩ uG
    | _=>rfl
   obtain⟨t,c,hy,h1,h2⟩:=hk;rw[bw,dE,hy];rw[hy]at hc;refine aH.aU (aw _) func123 rfl rfl (rs:=[.tmp 2]) results123 (by simp[ntmps123]) fun X=>?_;simp only[ntmps123,List.map];refine af fw [0] [] ?_;refine ah fun K1 aI=>af fw [0,13] [] ?_;refine bd (af fw [0,13,15,16] [] ?_);refine aD (af fw [3] [3] ?_);refine bB fw hc [19] [3] ?_;refine bd ?_;have qf:=(Aq fw @h1);refine aC [19,24,25] [3] ?_;refine aj ?_;have qf:=(Aq fw @h2);refine aC [19,30,31] [3] ?_;refine aj (af fw [6] [3] ?_);refine af fw [2] [3] ?_;exact bg fw
  by_cases hand:∃ l,e = .and l
  .obtain⟨l,rfl⟩:=hand;have hp:=L1 G true l (by simp only[bE]at hb;omega) (fun x hx=>ih x (by have:=aba hx;simp only[Ex.and.sizeOf_spec]at bc;omega) (by have:=qd hx;simp only[bE]at hb;omega));rw[cu,dE,kG]
   have vY:∀ o,eB true [] (gD l)=some o->o.length<=2^27:=fun o ho=>by
    have h1:=se _ _ _ ho;have h2:=lA o
    have h3:bx (gD l)<=bx l:=by rw[xd];exact Dq l
    simp only[bx,bE]at h1 hb;omega
   generalize eB true [] (gD l)=R at hp vY ⊢
   cases R with
   | none=>
    refine aH.aU (aw _) func123 rfl rfl (rs:=[.tmp 2]) results123 (by simp[ntmps123]) fun X=>?_;simp only[ntmps123,List.map];refine af fw [0] [] ?_;refine ah fun K1 aI=>af fw [0,13] [] ?_;refine bd (af fw [0,13,15,16] [] ?_);refine aj (af fw [0,13,35,36] [] ?_);refine aD (af fw [7] [] ?_);refine bB (Aq fw ac3) hp [8,9] [] ?_;refine ah fun K2 ak=>bd ?_;refine af fw [8,42] [] ?_;refine aD (af fw [2] [] ?_);refine bt ?_;simp[D.le,D.le.go,aL,ab,dS,aG,aM,ez,dE,D.le_refl]
   | some o=>
    have jT:=vY o rfl
    match o,hp,jT with
    | [],hp,_=>
     refine aH.aU (aw _) func123 rfl rfl (rs:=[.tmp 2]) results123 (by simp[ntmps123]) fun X=>?_;simp only[ntmps123,List.map];refine af fw [0] [] ?_;refine ah fun K1 aI=>af fw [0,13] [] ?_;refine bd (af fw [0,13,15,16] [] ?_);refine aj (af fw [0,13,35,36] [] ?_);refine aD (af fw [7] [] ?_);refine bB (Aq fw ac3) hp [8,9] [] ?_;refine ah fun K2 ak=>bd ?_;refine af fw [8,42] [] ?_;refine aj (af fw [8,45] [] ?_);refine aD (af fw [2] [] ?_);refine bt ?_;simp[D.le,D.le.go,aL,ab,dS,aG,aM,ez,dE,D.le_refl]
    | [x],hp,_=>
     obtain⟨tx,cx,hx⟩:=gk x;refine aH.aU (aw _) func123 rfl rfl (rs:=[.tmp 2]) results123 (by simp[ntmps123]) fun X=>?_;simp only[ntmps123,List.map];refine af fw [0] [] ?_;refine ah fun K1 aI=>af fw [0,13] [] ?_;refine bd (af fw [0,13,15,16] [] ?_);refine aj (af fw [0,13,35,36] [] ?_);refine aD (af fw [7] [] ?_);refine bB (Aq fw ac3) hp [8,9] [] ?_;refine ah fun K2 ak=>bd ?_;refine af fw [8,42] [] ?_;refine aj (af fw [8,45] [] ?_);refine aj (af fw [8,50] [] ?_);refine aD ?_;have qf:=(Aq fw @hx);refine aC [2] [] ?_;exact bg (Aq fw (Aq @ez.eq_1 (Aq @ez.eq_2 (Aq @ez.eq_3 (Aq @ez.eq_4 @hx)))))
    | x :: y :: o,hp,jT=>
     have kM:¬ (((x :: y :: o).length:Int)=0):=by simp;omega
     have iM:¬ (((x :: y :: o).length:Int)=1):=by simp;omega
     have e7:ez true (some (x :: y :: o)) = .and (x :: y :: o):=rfl;rw[e7,dE,kG];simp only[iI]at hp;generalize x :: y :: o=q at hp kM iM jT ⊢
     have ux:¬ q.length=0:=aa
     have uy:¬ q.length=1:=aa
     have uz:¬ q=[]:=by rintro rfl;simp at kM
     refine aH.aU (aw _) func123 rfl rfl (rs:=[.tmp 2]) results123 (by simp[ntmps123]) fun X=>?_;simp only[ntmps123,List.map];refine af fw [0] [] ?_;refine ah fun K1 aI=>af fw [0,13] [] ?_;refine bd (af fw [0,13,15,16] [] ?_);refine aj (af fw [0,13,35,36] [] ?_);refine aD (af fw [7] [] ?_);refine bB (Aq fw ac3) hp [8,9] [] ?_;refine ah fun K2 ak=>bd ?_;refine af fw [8,42] [] ?_;refine aj ?_;have qf:=(Aq fw (Aq @kM (Aq @ux @uz)));refine aC [8,45] [] ?_;refine aj ?_;have qf:=(Aq fw (Aq @iM @uy));refine aC [8,50] [] ?_;refine aj (ax (ak _ ?_));refine af fw [2] [] ?_;exact bg fw
  by_cases lN:∃ l,e = .or l
  .obtain⟨l,rfl⟩:=lN;have hp:=L1 G false l (by simp only[bE]at hb;omega) (fun x hx=>ih x (by have:=aba hx;simp only[Ex.or.sizeOf_spec]at bc;omega) (by have:=qd hx;simp only[bE]at hb;omega));rw[cu,dE,kG]
   have vY:∀ o,eB false [] (gD l)=some o->o.length<=2^27:=fun o ho=>by
    have h1:=se _ _ _ ho;have h2:=lA o
    have h3:bx (gD l)<=bx l:=by rw[xd];exact Dq l
    simp only[bx,bE]at h1 hb;omega
   generalize eB false [] (gD l)=R at hp vY ⊢
   cases R with
   | none=>
    refine aH.aU (aw _) func123 rfl rfl (rs:=[.tmp 2]) results123 (by simp[ntmps123]) fun X=>?_;simp only[ntmps123,List.map];refine af fw [0] [] ?_;refine ah fun K1 aI=>af fw [0,13] [] ?_;refine bd (af fw [0,13,15,16] [] ?_);refine aj (af fw [0,13,35,36] [] ?_);refine aj (af fw [0,60,61] [] ?_);refine aD (af fw [10] [] ?_);refine bB (Aq fw ac3) hp [11,12] [] ?_;refine ah fun K2 ak=>bd ?_;refine af fw [11,67] [] ?_;refine aD (af fw [2] [] ?_);refine bt ?_;simp[D.le,D.le.go,aL,ab,dS,aG,aM,ez,dE,D.le_refl]
   | some o=>
    have jT:=vY o rfl
    match o,hp,jT with
    | [],hp,_=>
     refine aH.aU (aw _) func123 rfl rfl (rs:=[.tmp 2]) results123 (by simp[ntmps123]) fun X=>?_;simp only[ntmps123,List.map];refine af fw [0] [] ?_;refine ah fun K1 aI=>af fw [0,13] [] ?_;refine bd (af fw [0,13,15,16] [] ?_);refine aj (af fw [0,13,35,36] [] ?_);refine aj (af fw [0,60,61] [] ?_);refine aD (af fw [10] [] ?_);refine bB (Aq fw ac3) hp [11,12] [] ?_;refine ah fun K2 ak=>bd ?_;refine af fw [11,67] [] ?_;refine aj (af fw [11,70] [] ?_);refine aD (af fw [2] [] ?_);refine bt ?_;simp[D.le,D.le.go,aL,ab,dS,aG,aM,ez,dE,D.le_refl]
    | [x],hp,_=>
     obtain⟨tx,cx,hx⟩:=gk x;refine aH.aU (aw _) func123 rfl rfl (rs:=[.tmp 2]) results123 (by simp[ntmps123]) fun X=>?_;simp only[ntmps123,List.map];refine af fw [0] [] ?_;refine ah fun K1 aI=>af fw [0,13] [] ?_;refine bd (af fw [0,13,15,16] [] ?_);refine aj (af fw [0,13,35,36] [] ?_);refine aj (af fw [0,60,61] [] ?_);refine aD (af fw [10] [] ?_);refine bB (Aq fw ac3) hp [11,12] [] ?_;refine ah fun K2 ak=>bd ?_;refine af fw [11,67] [] ?_;refine aj (af fw [11,70] [] ?_);refine aj (af fw [11,75] [] ?_);refine aD ?_;have qf:=(Aq fw @hx);refine aC [2] [] ?_;exact bg (Aq fw (Aq @ez.eq_1 (Aq @ez.eq_2 (Aq @ez.eq_3 (Aq @ez.eq_4 @hx)))))
    | x :: y :: o,hp,jT=>
     have kM:¬ (((x :: y :: o).length:Int)=0):=by simp;omega
     have iM:¬ (((x :: y :: o).length:Int)=1):=by simp;omega
     have e7:ez false (some (x :: y :: o)) = .or (x :: y :: o):=rfl;rw[e7,dE,kG];simp only[iI]at hp;generalize x :: y :: o=q at hp kM iM jT ⊢
     have ux:¬ q.length=0:=aa
     have uy:¬ q.length=1:=aa
     have uz:¬ q=[]:=by rintro rfl;simp at kM
     refine aH.aU (aw _) func123 rfl rfl (rs:=[.tmp 2]) results123 (by simp[ntmps123]) fun X=>?_;simp only[ntmps123,List.map];refine af fw [0] [] ?_;refine ah fun K1 aI=>af fw [0,13] [] ?_;refine bd (af fw [0,13,15,16] [] ?_);refine aj (af fw [0,13,35,36] [] ?_);refine aj (af fw [0,60,61] [] ?_);refine aD (af fw [10] [] ?_);refine bB (Aq fw ac3) hp [11,12] [] ?_;refine ah fun K2 ak=>bd ?_;refine af fw [11,67] [] ?_;refine aj ?_;have qf:=(Aq fw (Aq @kM (Aq @ux @uz)));refine aC [11,70] [] ?_;refine aj ?_;have qf:=(Aq fw (Aq @iM @uy));refine aC [11,75] [] ?_;refine aj (ax (ak _ ?_));refine af fw [2] [] ?_;exact bg fw
  have hk:∃ t c,dE e = .b6 t c/\¬ t=130/\¬ t=159/\¬ t=132/\cu e=e:=by
   cases e with
   | not z=>exact absurd ⟨z,rfl⟩ hN
   | and l=>exact absurd ⟨l,rfl⟩ hand
   | or l=>exact absurd ⟨l,rfl⟩ lN
   | b5 b=>exact⟨_,_,by rw[dE],bh,bh,bh,rfl⟩
   | bit s=>exact⟨_,_,by rw[dE],bh,bh,bh,rfl⟩
   | ef s=>exact⟨_,_,by rw[dE],bh,bh,bh,rfl⟩
   | eb s=>exact⟨_,_,by rw[dE],bh,bh,bh,rfl⟩
  obtain⟨t,c,hy,h1,h2,h3,h4⟩:=hk;rw[h4,hy];refine aH.aU (aw _) func123 rfl rfl (rs:=[.tmp 2]) results123 (by simp[ntmps123]) fun X=>?_;simp only[ntmps123,List.map];refine af fw [0] [] ?_;refine ah fun K1 aI=>af fw [0,13] [] ?_;refine bd ?_;have qf:=(Aq fw @h1);refine aC [0,13,15,16] [] ?_;refine aj ?_;have qf:=(Aq fw @h2);refine aC [0,13,35,36] [] ?_;refine aj ?_;have qf:=(Aq fw @h3);refine aC [0,60,61] [] ?_;refine aj (ax (aI _ ?_));refine af fw [2] [] ?_;exact bg fw
theorem Y4 (G:aF) (e:Ex) (hb:bE e<=2^27):aH prog G 123 [dE e] (dE (cu e)):=Y3 G _ e (aa8 _) hb
def dP (all:Bool):Ex->List UInt8
 | .bit s=>if all then s else []
 | .ef s=>s
 | .eb s=>s
 | _=>[]
def ib (s:List UInt8):List (List UInt8):=if s=[] then [] else [s]
mutual
def fD (all:Bool):Ex->List (List UInt8)
 | .not e=>fD all e
 | .and l=>gu all l
 | .or l=>gu all l
 | e=>ib (dP all e)
def gu (all:Bool):List Ex->List (List UInt8)
 | []=>[]
 | e :: l=>fD all e ++ gu all l
end
theorem Lv (all:Bool):∀ a b:List Ex,gu all (a ++ b)=gu all a ++ gu all b
 | [],b=>rfl
 | e :: a,b=>by simp[gu,Lv all a b]
theorem Gr (all:Bool) {l:List Ex} {i:Nat} (hi:i < l.length):gu all (l.take (i+1))=gu all (l.take i) ++ fD all l[i]:=by
 rw[aa7 hi,Lv];simp[gu]
theorem Gs (all:Bool):∀ (n:Nat) (e:Ex),SizeOf.sizeOf e<=n->(fD all e).length<=bE e
 | 0,e,hn=>by cases e<;>simp at hn
 | n+1,e,hn=>by
  have many:∀ l:List Ex,(∀ x∈l,SizeOf.sizeOf x<=n)->(gu all l).length<=bx l:=by
   intro l
   induction l with
   | nil=>intro _;simp[gu]
   | cons x l ih=>
    intro h;have a:=ih fun y hy=>h y (by simp[hy]);have b:=Gs all n x (h x al);simp only[gu,bx,abb];omega
  have gn:∀ s,(ib s).length<=1:=fun s=>by unfold ib;split<;>simp
  have hp:=xu e
  cases e with
  | not x=>have:=Gs all n x (by simp at hn;omega);simp only[fD,bE];omega
  | and l=>
   have:=many l fun x hx=>by have:=aba hx;simp only[Ex.and.sizeOf_spec]at hn;omega
   simp only[fD,bE];omega
  | or l=>
   have:=many l fun x hx=>by have:=aba hx;simp only[Ex.or.sizeOf_spec]at hn;omega
   simp only[fD,bE];omega
  | b5 b=>have:=gn (dP all (.b5 b));simp only[fD];omega
  | bit s=>have:=gn (dP all (.bit s));simp only[fD];omega
  | ef s=>have:=gn (dP all (.ef s));simp only[fD];omega
  | eb s=>have:=gn (dP all (.eb s));simp only[fD];omega
theorem B9 (all:Bool) (e:Ex):(fD all e).length<=bE e:=Gs all _ e (aa8 _)
theorem zn (all:Bool):∀ l:List Ex,(gu all l).length<=bx l
 | []=>by simp[gu]
 | e :: l=>by have:=B9 all e;have:=zn all l;simp only[gu,bx,abb];omega
def eI (l:List (List UInt8)):List (Nat×Row):=[(502,.box 58 [.own 503 0 l.length]),(503,.sl 9 1 (l.map fun s=>[dS s]))]
def py (all:Bool):FuncId:=if all then 183 else 216
theorem acZ:type_of% (Aq @dP.eq_1 (Aq @dP.eq_2 (Aq @dP.eq_3 (Aq @dP.eq_4 @acB)))):=(Aq @dP.eq_1 (Aq @dP.eq_2 (Aq @dP.eq_3 (Aq @dP.eq_4 @acB))))
theorem UT (G:aF) (e:Ex):aH prog G 183 [dE e] (dS (dP true e)):=by
 by_cases h1:∃ s,e = .bit s
 .obtain⟨s,rfl⟩:=h1;rw[dE];refine aH.aU (aw _) func183 rfl rfl (rs:=[.tmp 2]) results183 (by simp[ntmps183]) fun X=>?_;simp only[ntmps183,List.map];have fw:=acV;refine af fw [0] [] ?_;refine ah fun K1 aI=>af fw [6] [] ?_;refine bd (af fw [6,8,9] [] ?_);refine aD (af fw [3] [] ?_);refine af fw [2] [] ?_;exact bg (Aq fw acZ)
 by_cases h2:∃ s,e = .ef s
 .obtain⟨s,rfl⟩:=h2;rw[dE];refine aH.aU (aw _) func183 rfl rfl (rs:=[.tmp 2]) results183 (by simp[ntmps183]) fun X=>?_;simp only[ntmps183,List.map];have fw:=acV;refine af fw [0] [] ?_;refine ah fun K1 aI=>af fw [6] [] ?_;refine bd (af fw [6,8,9] [] ?_);refine aj (af fw [6,12,13] [] ?_);refine aD (af fw [4] [] ?_);refine af fw [2] [] ?_;exact bg (Aq fw acZ)
 by_cases h3:∃ s,e = .eb s
 .obtain⟨s,rfl⟩:=h3;rw[dE];refine aH.aU (aw _) func183 rfl rfl (rs:=[.tmp 2]) results183 (by simp[ntmps183]) fun X=>?_;simp only[ntmps183,List.map];have fw:=acV;refine af fw [0] [] ?_;refine ah fun K1 aI=>af fw [6] [] ?_;refine bd (af fw [6,8,9] [] ?_);refine aj (af fw [6,12,13] [] ?_);refine aj (af fw [16,17] [] ?_);refine aD (af fw [5] [] ?_);refine af fw [2] [] ?_;exact bg (Aq fw acZ)
 have hk:∃ t c,dE e = .b6 t c/\¬ t=149/\¬ t=160/\¬ t=162/\dP true e=[]:=by
  cases e with
  | bit s=>exact absurd ⟨s,rfl⟩ h1
  | ef s=>exact absurd ⟨s,rfl⟩ h2
  | eb s=>exact absurd ⟨s,rfl⟩ h3
  | b5 b=>exact⟨_,_,by rw[dE],bh,bh,bh,rfl⟩
  | not b=>exact⟨_,_,by rw[dE],bh,bh,bh,rfl⟩
  | and b=>exact⟨_,_,by rw[dE],bh,bh,bh,rfl⟩
  | or b=>exact⟨_,_,by rw[dE],bh,bh,bh,rfl⟩
 obtain⟨t,c,hy,a1,a2,a3,a4⟩:=hk;rw[a4,hy];refine aH.aU (aw _) func183 rfl rfl (rs:=[.tmp 2]) results183 (by simp[ntmps183]) fun X=>?_;simp only[ntmps183,List.map];have fw:=acV;refine af fw [0] [] ?_;refine ah fun K1 aI=>af fw [6] [] ?_;refine bd ?_;have qf:=(Aq fw @a1);refine aC [6,8,9] [] ?_;refine aj ?_;have qf:=(Aq fw @a2);refine aC [6,12,13] [] ?_;refine aj ?_;have qf:=(Aq fw @a3);refine aC [16,17] [] ?_;refine aj (ax (aI _ ?_));refine af fw [2] [] ?_;refine bt ?_;simp[D.le,D.le.go,aL,ab,dS,aG,aM,dS,bM,D.le_refl]
theorem PK (G:aF) (e:Ex):aH prog G 216 [dE e] (dS (dP false e)):=by
 by_cases h2:∃ s,e = .ef s
 .obtain⟨s,rfl⟩:=h2;rw[dE];refine aH.aU (aw _) func216 rfl rfl (rs:=[.tmp 2]) results216 (by simp[ntmps216]) fun X=>?_;simp only[ntmps216,List.map];have fw:=acV;refine af fw [0] [] ?_;refine ah fun K1 aI=>af fw [5] [] ?_;refine bd (af fw [5,7,8] [] ?_);refine aD (af fw [3] [] ?_);refine af fw [2] [] ?_;exact bg (Aq fw acZ)
 by_cases h3:∃ s,e = .eb s
 .obtain⟨s,rfl⟩:=h3;rw[dE];refine aH.aU (aw _) func216 rfl rfl (rs:=[.tmp 2]) results216 (by simp[ntmps216]) fun X=>?_;simp only[ntmps216,List.map];have fw:=acV;refine af fw [0] [] ?_;refine ah fun K1 aI=>af fw [5] [] ?_;refine bd (af fw [5,7,8] [] ?_);refine aj (af fw [11,12] [] ?_);refine aD (af fw [4] [] ?_);refine af fw [2] [] ?_;exact bg (Aq fw acZ)
 have hk:∃ t c,dE e = .b6 t c/\¬ t=160/\¬ t=162/\dP false e=[]:=by
  cases e with
  | ef s=>exact absurd ⟨s,rfl⟩ h2
  | eb s=>exact absurd ⟨s,rfl⟩ h3
  | b5 b=>exact⟨_,_,by rw[dE],bh,bh,rfl⟩
  | bit b=>exact⟨_,_,by rw[dE],bh,bh,rfl⟩
  | not b=>exact⟨_,_,by rw[dE],bh,bh,rfl⟩
  | and b=>exact⟨_,_,by rw[dE],bh,bh,rfl⟩
  | or b=>exact⟨_,_,by rw[dE],bh,bh,rfl⟩
 obtain⟨t,c,hy,a2,a3,a4⟩:=hk;rw[a4,hy];refine aH.aU (aw _) func216 rfl rfl (rs:=[.tmp 2]) results216 (by simp[ntmps216]) fun X=>?_;simp only[ntmps216,List.map];have fw:=acV;refine af fw [0] [] ?_;refine ah fun K1 aI=>af fw [5] [] ?_;refine bd ?_;have qf:=(Aq fw @a2);refine aC [5,7,8] [] ?_;refine aj ?_;have qf:=(Aq fw @a3);refine aC [11,12] [] ?_;refine aj (ax (aI _ ?_));refine af fw [2] [] ?_;refine bt ?_;simp[D.le,D.le.go,aL,ab,dS,aG,aM,dS,bM,D.le_refl]
theorem UP (G:aF) (all:Bool) (e:Ex):aH prog G (py all) [dE e] (dS (dP all e)):=by
 cases all with
 | true=>exact UT G e
 | false=>exact PK G e
theorem AY (G:aF) (all:Bool) (l:List (List UInt8)) (e:Ex) (hl:l.length < 2^40):MC prog G [502] 242 ([.d (dE e)] ++ [.d (.ip [.fn (.func (py all)) []]),.ref 502 0 0]) (au (eI l)) (.d (.bI [])) (au (eI (l ++ ib (dP all e)))):=by
 have hn:=UP G all e;obtain⟨t,c,hx⟩:=gk e;rw[hx]at hn ⊢;generalize py all=g at hn ⊢;generalize dP all e=s at hn ⊢;by_cases hs:s=[]
 .subst hs
  have he:l ++ ib []=l:=by simp[ib]
  rw[he];refine MC.aU (aw _) func242 rfl rfl (rs:=[]) results242 (by simp[ntmps242]) rfl fun X=>?_;simp only[ntmps242];have fw:=(Aq @acC (Aq @acB @eI.eq_1));refine bB fw hn [2,4] [502,503] ?_;refine rg [2,4,9] [502,503] (cy rfl) fun K' ai=>?_;(repeat refine aq fun Kq ae=>?_;simp[ab,dS,eI,ay,aJ,bM];(repeat refine⟨aa,?_⟩);refine ae _ ?_);refine aZ (ai _ (AW.st (by simp[ab,dS,eI,ay,aJ,bM];rfl) ?_));refine aj (ax ?_);simp[D.le_refl,eI,dS]
 .have he:ib s=[s]:=by unfold ib;rw[if_neg hs]
  have sV:s.isEmpty=false:=by rw[ab9];exact hs
  have J3:(s == [])=false:=by simpa using hs
  rw[he];refine MC.aU (aw _) func242 rfl rfl (rs:=[]) results242 (by simp[ntmps242]) rfl fun X=>?_;simp only[ntmps242];have fw:=(Aq @acC (Aq @acB @eI.eq_1));refine bB fw hn [2,4] [502,503] ?_;refine rg [2,4,9] [502,503] (cy rfl) fun K' ai=>?_;(repeat refine aq fun Kq ae=>?_;simp[ab,dS,eI,ay,aJ,bM,hs,sV,J3];(repeat refine⟨aa,?_⟩);refine ae _ ?_);refine aZ (ai _ (AW.st (by simp[ab,dS,eI,ay,aJ,bM,hs,sV,J3];rfl) ?_));refine aD (ea (aw _) fun K' ai=>?_);(repeat refine aq fun Kq ae=>?_;simp[ab,dS,eI,sh];(repeat refine⟨aa,?_⟩);refine ae _ ?_);refine aZ (ai _ ?_);(try simp only[bY,b9]);simp[D.le_refl,eI,dS]
theorem acX:type_of% (Aq @acC (Aq @acB (Aq @eI.eq_1 (Aq @acJ (Aq @acK @acI))))):=(Aq @acC (Aq @acB (Aq @eI.eq_1 (Aq @acJ (Aq @acK @acI)))))
theorem Zy (G:aF) (all:Bool):∀ (m:Nat) (e:Ex),SizeOf.sizeOf e<=m->∀ l0:List (List UInt8),l0.length+bE e<=2^39->MC prog G [502] 241 [.d (dE e),.fn (.func 242) [.d (.ip [.fn (.func (py all)) []]),.ref 502 0 0]] (au (eI l0)) (.d (.bI [])) (au (eI (l0 ++ fD all e))):=by
 intro m
 induction m with
 | zero=>intro e bc;cases e<;>simp at bc
 | succ m ih=>
  intro e bc l0 hb;have vY:=xu e;by_cases hN:∃ x,e = .not x
  .obtain⟨x,rfl⟩:=hN;simp only[bE]at hb;obtain⟨tx,cx,hx⟩:=gk x;have fW:=AY G all l0 (.not x) aa;have yJ:ib (dP all (.not x))=[]:=rfl;rw[yJ,abK,ace]at fW;have hc:=ih x (by simp at bc;omega) l0 aa;rw[fD];rw[dE,hx];rw[dE,hx]at fW;rw[hx]at hc;generalize l0 ++ fD all x=l1 at hc ⊢;generalize py all=g at hc fW ⊢;refine MC.aU (aw _) func241 rfl rfl (rs:=[]) results241 (by simp[ntmps241]) rfl fun X=>?_;simp only[ntmps241];have fw:=acX;refine bA fw fW [0,1] [502,503] ?_;refine af fw [1,14] [502,503] ?_;refine bd (af fw [1,14,16,17] [502,503] ?_);refine aD (af fw [1,4] [4,502,503] ?_);refine ea (aw _) fun K' ai=>?_;(repeat refine aq fun Kq ae=>?_;simp[ab,dS,eI,aG,aM];(repeat refine⟨aa,?_⟩);refine ae _ ?_);refine aq fun Kq ae=>?_;simp[ab,dS,eI,aG,aM];refine ch.mc (hc) ?_ ?_ ?_ ?_ ?_<;>simp[ab,dS,eI,aG,aM];refine ae _ ?_;(repeat refine aq fun Kq ae=>?_;simp[ab,dS,eI,aG,aM];(repeat refine⟨aa,?_⟩);refine ae _ ?_);refine aZ (ai _ ?_);(try simp only[bY,b9]);simp[D.le_refl,eI,dS]
  by_cases hand:∃ l,e = .and l
  .obtain⟨l,rfl⟩:=hand;simp only[bE]at hb;have fW:=AY G all l0 (.and l) aa;have yJ:ib (dP all (.and l))=[]:=rfl;rw[yJ,abK,ace]at fW;have gM:=fun (x:Ex) (hx:x∈l)=>ih x (by have:=aba hx;simp only[Ex.and.sizeOf_spec]at bc;omega);have lM:=lA l;rw[fD];rw[dE,kG];rw[dE,kG]at fW;clear ih;generalize hg:py all=g at gM fW ⊢;refine MC.aU (aw _) func241 rfl rfl (rs:=[]) results241 (by simp[ntmps241]) rfl fun X=>?_;simp only[ntmps241];have fw:=acX;refine bA fw fW [0,1] [502,503] ?_;refine af fw [1,14] [502,503] ?_;refine bd (af fw [1,14,16,17] [502,503] ?_);refine aj (af fw [1,14,23,24] [502,503] ?_);refine aD (af fw [1,5] [502,503] ?_);refine af fw [1,25,26,27] [502,503] ?_;refine eD (S:=Nat) (fun i=>i<=l.length) (fun i=>⟨bl [(1,.fn (.func 242) [.d (.ip [.fn (.func g) []]),.ref 502 0 0]),(25,.d (.sl none (l.map fun e=>[dE e]))),(26,int l.length),(27,int i)],au (eI (l0 ++ gu all (l.take i)))⟩) (fun i=>l.length - i) 0 ?_ aa ?_
   .refine bL (Aq fw (Aq @gu.eq_1 @gu.eq_2))
   .intro i hi;refine af fw [1,25,26,27,28] [502,503] ?_;refine ah fun K1 aI=>ga (b:=i < l.length) (by simp[D.le,D.le.go,aL,ab,dS,eI,aG,aM]) (fun hc=>?_) (fun hc=>?_)
    .have dG:i < l.length:=hc;have h1:=Gr all dG;have h2:=zn all (l.take i);have h3:=Dp dG;have cA:=gM _ (aa6 dG) (l0 ++ gu all (l.take i)) (by rw[abb];omega);rw[aco,<- h1]at cA;obtain⟨tx,cx,hx⟩:=gk l[i];rw[hx]at cA;refine ax (aI _ (ah fun K2 ak=>bd ?_));have qf:=(Aq fw (Aq @dG @hx));refine aC [1,7,25,26,27] [502,503] ?_;refine ea (aw _) fun K' ai=>?_;(repeat refine aq fun Kq ae=>?_;simp[ab,dS,eI,aG,aM];(repeat refine⟨aa,?_⟩);refine ae _ ?_);refine aq fun Kq ae=>?_;simp[ab,dS,eI,aG,aM];refine ch.mc (cA) ?_ ?_ ?_ ?_ ?_<;>simp[ab,dS,eI,aG,aM];refine ae _ ?_;(repeat refine aq fun Kq ae=>?_;simp[ab,dS,eI,aG,aM];(repeat refine⟨aa,?_⟩);refine ae _ ?_);refine aZ (ai _ ?_);refine ak _ (AW.norm [1,25,26,27] [502,503] (cy rfl) (AW.st (by simp[ab,dS,eI,aG,aM];rfl) ?_));refine fe fw ?_;(try simp only[bY,b9]);refine cC.mk (i+1) aa aa ?_;refine bL fw
    .obtain rfl:i=l.length:=aa
     refine cX ?_;simp[D.le_refl,abo,eI,dS]
  by_cases lN:∃ l,e = .or l
  .obtain⟨l,rfl⟩:=lN;simp only[bE]at hb;have fW:=AY G all l0 (.or l) aa;have yJ:ib (dP all (.or l))=[]:=rfl;rw[yJ,abK,ace]at fW;have gM:=fun (x:Ex) (hx:x∈l)=>ih x (by have:=aba hx;simp only[Ex.or.sizeOf_spec]at bc;omega);have lM:=lA l;rw[fD];rw[dE,kG];rw[dE,kG]at fW;clear ih;generalize hg:py all=g at gM fW ⊢;refine MC.aU (aw _) func241 rfl rfl (rs:=[]) results241 (by simp[ntmps241]) rfl fun X=>?_;simp only[ntmps241];have fw:=acX;refine bA fw fW [0,1] [502,503] ?_;refine af fw [1,14] [502,503] ?_;refine bd (af fw [1,14,16,17] [502,503] ?_);refine aj (af fw [1,14,23,24] [502,503] ?_);refine aj (af fw [1,36,37] [502,503] ?_);refine aD (af fw [1,8] [502,503] ?_);refine af fw [1,38,39,40] [502,503] ?_;refine eD (S:=Nat) (fun i=>i<=l.length) (fun i=>⟨bl [(1,.fn (.func 242) [.d (.ip [.fn (.func g) []]),.ref 502 0 0]),(38,.d (.sl none (l.map fun e=>[dE e]))),(39,int l.length),(40,int i)],au (eI (l0 ++ gu all (l.take i)))⟩) (fun i=>l.length - i) 0 ?_ aa ?_
   .refine bL (Aq fw (Aq @gu.eq_1 @gu.eq_2))
   .intro i hi;refine af fw [1,38,39,40,41] [502,503] ?_;refine ah fun K1 aI=>ga (b:=i < l.length) (by simp[D.le,D.le.go,aL,ab,dS,eI,aG,aM]) (fun hc=>?_) (fun hc=>?_)
    .have dG:i < l.length:=hc;have h1:=Gr all dG;have h2:=zn all (l.take i);have h3:=Dp dG;have cA:=gM _ (aa6 dG) (l0 ++ gu all (l.take i)) (by rw[abb];omega);rw[aco,<- h1]at cA;obtain⟨tx,cx,hx⟩:=gk l[i];rw[hx]at cA;refine ax (aI _ (ah fun K2 ak=>bd ?_));have qf:=(Aq fw (Aq @dG @hx));refine aC [1,10,38,39,40] [502,503] ?_;refine ea (aw _) fun K' ai=>?_;(repeat refine aq fun Kq ae=>?_;simp[ab,dS,eI,aG,aM];(repeat refine⟨aa,?_⟩);refine ae _ ?_);refine aq fun Kq ae=>?_;simp[ab,dS,eI,aG,aM];refine ch.mc (cA) ?_ ?_ ?_ ?_ ?_<;>simp[ab,dS,eI,aG,aM];refine ae _ ?_;(repeat refine aq fun Kq ae=>?_;simp[ab,dS,eI,aG,aM];(repeat refine⟨aa,?_⟩);refine ae _ ?_);refine aZ (ai _ ?_);refine ak _ (AW.norm [1,38,39,40] [502,503] (cy rfl) (AW.st (by simp[ab,dS,eI,aG,aM];rfl) ?_));refine fe fw ?_;(try simp only[bY,b9]);refine cC.mk (i+1) aa aa ?_;refine bL fw
    .obtain rfl:i=l.length:=aa
     refine cX ?_;simp[D.le_refl,abo,eI,dS]
  have hk:∃ t c,dE e = .b6 t c/\¬ t=130/\¬ t=159/\¬ t=132/\fD all e=ib (dP all e):=by
   cases e with
   | not z=>exact absurd ⟨z,rfl⟩ hN
   | and l=>exact absurd ⟨l,rfl⟩ hand
   | or l=>exact absurd ⟨l,rfl⟩ lN
   | b5 b=>exact⟨_,_,by rw[dE],bh,bh,bh,rfl⟩
   | bit s=>exact⟨_,_,by rw[dE],bh,bh,bh,rfl⟩
   | ef s=>exact⟨_,_,by rw[dE],bh,bh,bh,rfl⟩
   | eb s=>exact⟨_,_,by rw[dE],bh,bh,bh,rfl⟩
  obtain⟨t,c,hy,h1,h2,h3,h4⟩:=hk;have fW:=AY G all l0 e aa;rw[ace]at fW;rw[h4,hy];rw[hy]at fW;generalize l0 ++ ib (dP all e)=l1 at fW ⊢;generalize py all=g at fW ⊢;refine MC.aU (aw _) func241 rfl rfl (rs:=[]) results241 (by simp[ntmps241]) rfl fun X=>?_;simp only[ntmps241];have fw:=acX;refine bA fw fW [0,1] [502,503] ?_;refine af fw [1,14] [502,503] ?_;refine bd ?_;have qf:=(Aq fw @h1);refine aC [1,14,16,17] [502,503] ?_;refine aj ?_;have qf:=(Aq fw @h2);refine aC [1,14,23,24] [502,503] ?_;refine aj ?_;have qf:=(Aq fw @h3);refine aC [1,36,37] [502,503] ?_;refine aj (ax ?_);simp[D.le_refl,eI,dS]
def iQ (all:Bool) (e:Ex):List (List UInt8):=Lib.compact (nS (fD all e))
theorem WX (G:aF) (all:Bool) (e:Ex) (hb:bE e<=2^28):aH prog G 182 [dE e,.fn (.func (py all)) []] (.sl none ((iQ all e).map fun s=>[dS s])):=by
 have hlen:=B9 all e;have hw:=Zy G all _ e (aa8 _) [] (by simp;omega);rw[abL]at hw;have jo:=WW G 503 9 (fD all e) aa;have oZ:=Ph G 503 9 (nS (fD all e)) (by rw[vc];omega);rw[vc]at oZ;have e6:=Lib.compact_length_le (nS (fD all e));rw[vc]at e6;unfold iQ;obtain⟨tx,cx,hx⟩:=gk e;rw[hx]at hw ⊢;generalize py all=g at hw ⊢;generalize fD all e=l at hw jo oZ e6 hlen ⊢;generalize nS l=z at jo oZ e6 ⊢
 have da:List.take (Lib.compact z).length ((Lib.compact z ++ List.replicate (l.length - (Lib.compact z).length) []).map fun s=>[dS s])=(Lib.compact z).map fun s=>[dS s]:=by
  rw[abt,List.take_append_of_le_length al,sh al]
 have Tc:(Lib.compact z ++ List.replicate (l.length - (Lib.compact z).length) []).length=l.length:=by simp;omega
 generalize Lib.compact z ++ List.replicate (l.length - (Lib.compact z).length) []=y at oZ da Tc;generalize Lib.compact z=c at oZ e6 da ⊢;refine aH.aU (aw _) func182 rfl rfl (rs:=[.tmp 4]) results182 (by simp[ntmps182]) fun X=>?_;simp only[ntmps182,List.map];have fw:=acX;refine af fw [0,3] [3] ?_;refine jk fw 3 ?_;refine af fw [0,3,5] [5] ?_;refine AW.imp (aY.dT (r:=5) (r':=502) trivial al) ?_;refine AW.st (by simp[fR,fQ,Go.Av.dT,zA];rfl) ?_;refine AW.imp (aY.n7 502 0 503 9 1 rfl rfl rfl) ?_;refine AW.imp (τ:=⟨bl [(0,.d (.b6 tx cx)),(3,.d (.ip [.fn (.func g) []])),(5,.ref 502 0 0)],au (eI [])⟩) ?_ ?_
 .refine bL (Aq fw @eI.eq_1)
 refine bA fw hw [5] [502,503] ?_;refine bA fw jo [5] [502,503] ?_;refine bA fw oZ [4] [502,503] ?_
 have hle:c.length<=y.length:=aa
 by_cases Bh:c.length=y.length
 .have qA:(y.map fun s=>[dS s])=c.map fun s=>[dS s]:=by rw[<- da,Bh,sh al]
  simp only[dS]at qA;refine AW.imp (aY.freeze 503 trivial) ?_;refine AW.st (by simp[ab,dS,eI,aG,aM,Bh,hle,qA];rfl) ?_;exact bg (Aq fw (Aq @Bh @qA))
 .simp only[dS]at da;refine AW.imp (aY.freeze 503 trivial) ?_;refine AW.st (by simp[ab,dS,eI,aG,aM,Bh,hle,da];rfl) ?_;exact bg (Aq fw @da)
theorem UW (G:aF) (e:Ex) (hb:bE e<=2^28):aH prog G 107 [dE e] (.sl none ((iQ true e).map fun s=>[dS s])):=by
 have hs:=WX G true e hb;obtain⟨tx,cx,hx⟩:=gk e;rw[hx]at hs ⊢;generalize iQ true e=l at hs ⊢;simp only[py,if_true,if_false,abh]at hs;refine aH.aU (aw _) func107 rfl rfl (rs:=[.tmp 2]) results107 (by simp[ntmps107]) fun X=>?_;simp only[ntmps107,List.map];have fw:=acX;refine af fw [0] [] ?_;refine bB fw hs [2] [] ?_;exact bg fw
abbrev Tx:=List UInt8
theorem Hj (a:Tx):¬ a < a:=List.lt_irrefl a
theorem Ns {a b c:Tx} (h1:a < b) (h2:b < c):a < c:=List.lt_trans h1 h2
theorem zQ {a b:Tx}:a<=b↔¬ b < a:=Iff.rfl
theorem Nt {a b:Tx} (h1:¬ a < b) (h2:¬ b < a):a=b:=List.le_antisymm (zQ.2 h2) (zQ.2 h1)
def kT (s:Tx):List Tx->List Tx
 | []=>[s]
 | y :: l=>if y < s then y :: kT s l else if y=s then y :: l else s :: y :: l
theorem Ku (s:Tx):∀ (l:List Tx) (k:Nat),k<=l.length->(∀ i (hi:i < l.length),i < k->l[i] < s)->(∀ hk:k < l.length,¬ l[k] < s)->
  kT s l=if (∃ hk:k < l.length,l[k]=s) then l else l.take k ++ s :: l.drop k
 | [],k,hk,_,_=>by
  obtain rfl:k=0:=by simpa using hk
  simp[kT]
 | y :: l,0,_,_,h2=>by
  have h3:¬ y < s:=h2 al;rw[kT,if_neg h3];by_cases he:y=s
  .rw[if_pos he,if_pos ⟨al,he⟩]
  .rw[if_neg he,if_neg (fun ⟨_,h⟩=>he h)];simp
 | y :: l,k+1,hk,h1,h2=>by
  have h3:y < s:=h1 0 al aa;rw[kT,if_pos h3,Ku s l k (by simpa using hk) (fun i hi yn=>h1 (i+1) (by simpa using hi) aa) (fun mb=>h2 (by simpa using mb))];by_cases he:∃ hk:k < l.length,l[k]=s
  .rw[if_pos he,if_pos (by obtain⟨a,b⟩:=he;exact⟨by simpa using a,b⟩)]
  .rw[if_neg he,if_neg (fun ⟨a,b⟩=>he ⟨by simpa using a,b⟩)];simp
theorem FJ {s x:Tx}:∀ {l:List Tx},x∈kT s l↔x=s\/x∈l
 | []=>by simp[kT]
 | y :: l=>by
  rw[kT];by_cases h1:y < s
  .rw[if_pos h1,abg,FJ,abg];constructor
   .rintro (h | h | h)<;>simp[h]
   .rintro (h | h | h)<;>simp[h]
  .rw[if_neg h1];by_cases h2:y=s
   .rw[if_pos h2];subst h2;simp
   .rw[if_neg h2];simp
theorem Kw (s:Tx):∀ {l:List Tx},l.Pairwise (· < ·)->(kT s l).Pairwise (· < ·)
 | [],_=>by simp[kT]
 | y :: l,h=>by
  obtain⟨ha,hb⟩:=abU.1 h;rw[kT];by_cases h1:y < s
  .rw[if_pos h1];refine abU.2 ⟨fun x hx=>?_,Kw s hb⟩
   rcases FJ.1 hx with rfl | hx
   .exact h1
   .exact ha x hx
  .rw[if_neg h1];by_cases h2:y=s
   .rw[if_pos h2];exact h
   .rw[if_neg h2];have h3:s < y:=abH fun hn=>h2 (Nt h1 hn);refine abU.2 ⟨fun x hx=>?_,h⟩
    rcases abg.1 hx with rfl | hx
    .exact h3
    .exact Ns h3 (ha x hx)
theorem Kv (s:Tx):∀ l:List Tx,(kT s l).length<=l.length+1
 | []=>by simp[kT]
 | y :: l=>by
  have:=Kv s l;rw[kT];split
  .simp;omega
  .split<;>simp
def kS (l ss:List Tx):List Tx:=ss.foldl (fun l s=>kT s l) l
theorem Ks (l:List Tx):kS l []=l:=rfl
theorem Kp (l a b:List Tx):kS l (a ++ b)=kS (kS l a) b:=List.foldl_append ..
theorem FI:∀ (ss l:List Tx),(kS l ss).length<=l.length+ss.length
 | [],l=>by simp[kS]
 | s :: ss,l=>by
  have h1:=FI ss (kT s l);have h2:=Kv s l;have h3:kS l (s :: ss)=kS (kT s l) ss:=rfl;rw[h3,aa9];omega
theorem Kr {x:Tx}:∀ (ss l:List Tx),x∈kS l ss↔x∈l\/x∈ss
 | [],l=>by simp[kS]
 | s :: ss,l=>by
  have h3:kS l (s :: ss)=kS (kT s l) ss:=rfl;rw[h3,Kr ss,FJ,abg];constructor
  .rintro ((h | h) | h)<;>simp[h]
  .rintro (h | h | h)<;>simp[h]
theorem Kt:∀ (ss l:List Tx),l.Pairwise (· < ·)->(kS l ss).Pairwise (· < ·)
 | [],l,h=>h
 | s :: ss,l,h=>Kt ss _ (Kw s h)
theorem M5:∀ {a b:List Tx},a.Pairwise (· < ·)->b.Pairwise (· < ·)->(∀ x,x∈a↔x∈b)->a=b
 | [],[],_,_,_=>rfl
 | [],y :: b,_,_,h=>absurd ((h y).2 al) al
 | x :: a,[],_,_,h=>absurd ((h x).1 al) al
 | x :: a,y :: b,ha,hb,h=>by
  obtain⟨Jo,ou⟩:=abU.1 ha;obtain⟨fi,eV⟩:=abU.1 hb
  have FD:x=y:=by
   rcases abg.1 ((h x).1 al)with e | hx
   .exact e
   .rcases abg.1 ((h y).2 al)with e | hy
    .exact e.symm
    .exact absurd (Ns (fi x hx) (Jo y hy)) (Hj _)
  subst FD;rw[M5 ou eV fun z=>?_];constructor
  .intro hz
   rcases abg.1 ((h z).1 (by simp[hz]))with e | e
   .subst e;exact absurd (Jo z hz) (Hj _)
   .exact e
  .intro hz
   rcases abg.1 ((h z).2 (by simp[hz]))with e | e
   .subst e;exact absurd (fi z hz) (Hj _)
   .exact e
theorem Gg (d:Array Tx):∀ (m:Nat),m<=d.size->∀ j,j < m->d[j]!∈Lib.compactUpTo d m
 | 0,_,j,h=>aa
 | m+1,hm,j,hj=>by
  rw[Lib.compactUpTo_succ];by_cases JK:j < m
  .exact List.mem_append_left _ (Gg d m aa j JK)
  .obtain rfl:j=m:=aa
   by_cases hk:Lib.keeps d j=true
   .exact List.mem_append_right _ (by simp[hk])
   .have nB:j≠0:=by rintro rfl;exact hk (Lib.keeps_lt_one d 0 aa)
    have he:d[j]! = d[j - 1]!:=by
     unfold Lib.keeps at hk;simp[nB]at hk
     first | exact hk | exact hk.symm
    rw[he];exact List.mem_append_left _ (Gg d j aa (j - 1) aa)
theorem Hm (d:Array Tx):∀ (m:Nat),m<=d.size->∀ x∈Lib.compactUpTo d m,∃ j,j < m/\x=d[j]!
 | 0,_,x,h=>by simp[Lib.compactUpTo]at h
 | m+1,hm,x,h=>by
  rw[Lib.compactUpTo_succ]at h
  rcases abr.1 h with h | h
  .obtain⟨j,hj,e⟩:=Hm d m aa x h;exact⟨j,aa,e⟩
  .split at h
   .simp at h;exact⟨m,aa,h⟩
   .simp at h
theorem Nx (d:Array Tx) (hs:∀ i j,i<=j->j < d.size->d[i]!<=d[j]!):∀ (m:Nat),m<=d.size->(Lib.compactUpTo d m).Pairwise (· < ·)
 | 0,_=>by simp[Lib.compactUpTo]
 | m+1,hm=>by
  have ih:=Nx d hs m aa;rw[Lib.compactUpTo_succ];by_cases hk:Lib.keeps d m=true
  .rw[if_pos hk,aci];refine⟨ih,al,fun a ha b hb=>?_⟩;rw[abV]at hb;subst hb;obtain⟨j,hj,rfl⟩:=Hm d m aa a ha
   have bw:d[m]!≠d[m - 1]!:=by
    intro he;rw[Lib.keeps_neg aa he]at hk;cases hk
   have h1:=hs j (m - 1) aa aa;have h2:=hs (m - 1) m aa aa;have h3:d[m - 1]! < d[m]!:=abH fun hn=>bw (Nt (zQ.1 h2) hn)
   exact abH fun hn=>by
    have h4:d[m]!<=d[j]!:=zQ.2 hn;exact (zQ.1 (List.le_trans h4 h1)) h3
  .rw[if_neg hk,abK];exact ih
theorem UX (all:Bool) (e:Ex):(iQ all e).Pairwise (· < ·):=by
 unfold iQ Lib.compact;refine Nx _ (fun i j oF hj=>?_) _ al
 have hp:(nS (fD all e)).Pairwise (·<=·):=by
  unfold nS;have:=List.pairwise_mergeSort (le:=fun x y:Tx=>decide (x<=y)) (by intro a b c h1 h2;simp only[decide_eq_true_eq]at *;exact List.le_trans h1 h2) (by intro a b;simp only[abD,decide_eq_true_eq];exact List.le_total a b) (fD all e)
  exact this.imp fun h=>by simpa using h
 generalize nS (fD all e)=l at hp hj ⊢
 have fH:j < l.length:=by simpa using hj
 rw[getElem!_pos l.toArray i (by simpa using (by omega:i < l.length)),getElem!_pos l.toArray j (by simpa using fH)];simp only[List.getElem_toArray];by_cases he:i=j
 .subst he;exact List.le_refl _
 .exact (List.pairwise_iff_getElem.1 hp) i j aa fH aa
theorem UU {all:Bool} {e:Ex} {s:Tx}:s∈iQ all e↔s∈fD all e:=by
 unfold iQ
 have h0:∀ l:List Tx,s∈Lib.compact l↔s∈l:=by
  intro l;unfold Lib.compact;constructor
  .intro h;obtain⟨j,hj,rfl⟩:=Hm l.toArray l.length al s h;rw[getElem!_pos l.toArray j (by simpa using hj)];simp
  .intro h;obtain⟨j,hj,rfl⟩:=abv.1 h;have:=Gg l.toArray l.length al j hj;rw[getElem!_pos l.toArray j (by simpa using hj)]at this;simpa using this
 rw[h0];unfold nS;exact List.mem_mergeSort
theorem Tn (all:Bool) (e:Ex):kS [] (fD all e)=iQ all e:=by
 refine M5 (Kt _ _ al) (UX all e) fun x=>?_;rw[Kr,UU];simp
