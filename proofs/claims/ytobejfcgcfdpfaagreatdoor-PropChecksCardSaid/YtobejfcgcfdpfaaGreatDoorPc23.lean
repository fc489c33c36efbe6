/- Parts. -/
import Derived.Test.YtobejfcgcfdpfaaGreatDoorPc22
import Derived.Shelf.Strings.Runes
set_option linter.unusedSimpArgs false
set_option linter.unusedVariables false
set_option maxHeartbeats 32000000
set_option maxRecDepth 100000
open Go.Proofs.Tryz
namespace Go.Proofs
open Go.Shelf
def Tryz.UC:Go.Shelf.Ren:=⟨fun | 151=>167 | 152=>210 | 137=>87 | 119=>235 | 224=>225 | 225=>224 | 217=>124 | 266=>160 | n=>n,fun | 9=>9 | 21=>21 | 4=>4 | 3=>3 | 5=>5 | 0=>0 | 46=>198 | n=>n,fun | n=>n⟩
theorem Tryz.ad7:Go.Proofs.Lays.n151 prog Tryz.UC:={
 mixed:=ah
 f119:=func235.trans aU
 f137:=func87.trans aU
 f151:=func167.trans aU
 f152:=func210.trans aU
 f217:=func124.trans aU
 f224:=func225.trans aU
 f225:=func224.trans aU
 f266:=func160.trans aU
 t0:=underlying0
 a0:=isAgg0
 z0:=sizeOf0
 v0:=zeroValue0
 t3:=underlying3
 a3:=isAgg3
 z3:=sizeOf3
 v3:=zeroValue3
 t4:=underlying4
 a4:=isAgg4
 z4:=sizeOf4
 v4:=zeroValue4
 t5:=underlying5
 a5:=isAgg5
 z5:=sizeOf5
 v5:=zeroValue5
 t9:=underlying9
 a9:=isAgg9
 z9:=sizeOf9
 v9:=zeroValue9
 t21:=underlying21
 a21:=isAgg21
 z21:=sizeOf21
 v21:=zeroValue21
 t46:=underlying198
 a46:=isAgg198
 z46:=sizeOf198
 v46:=zeroValue198 }
end Go.Proofs
namespace Go.Proofs.YtobejfcgcfdpfaaGreatDoor
open Go.Av
open Go.Shelf
def bY (t:List UInt8) (i:Int) (e p:Int):List (Nat×Row):=[(500,.box 123 [.d (dS t),int i,int e,int p])]
theorem aou:type_of% (Aq @an8 (Aq @bY.eq_1 @an9)):=(Aq @an8 (Aq @bY.eq_1 @an9))
theorem OS (G:aB) (t:List UInt8) (i:Nat) (ht:t.length < 2^60) (hi:i<=t.length) (e p:Int) :
  MC prog G [500] 109 [.ref 500 0 0] (aw (bY t i e p)) (.d (.bz [])) (aw (bY t (bB t i) e p)):=by
 refine MC.aO (ay _) func109 rfl rfl (rs:=[]) results109 (by simp[ntmps109]) rfl fun X=>?_;simp only[ntmps109];have fw:=aou;refine ch (S:=Nat) (fun k=>k<=t.length/\bB t k=bB t i) (fun k=>⟨bg [(0,.ref 500 0 0)],aw [(500,.box 123 [.d (dS t),int k,int e,int p])]⟩) (fun k=>t.length - k) i ?_ ⟨hi,rfl⟩ ?_
 .refine bo fw
 .rintro k ⟨hk,hs⟩;refine ag fun K1 aF=>?_;by_cases dO:k < t.length
  .have acy:(k:Int) < (t.length:Int):=aa
   by_cases hb:((t[k]).toNat:Int)=32
   .have qf:=(Aq fw (Aq @bX (Aq @dM (Aq @dO @hb))));refine il [0,23] [500] ?_;refine aJ (aq (aF _ ?_));refine bf (cA fw ?_);try simp only[aT,aW]
    have j2:t[k]? = some 32:=by
     rw[AT dO,(CQ _ 32 bD).1 hb];rfl
    refine aZ.mk (k+1) ⟨aa,?_⟩ aa ?_
    .rw[<- Pn j2];exact hs
    refine bo fw
   .have qf:=(Aq fw (Aq @bX (Aq @dM (Aq @dO @hb))));refine il [0,23] [500] ?_;refine al (bL ?_)
    have j2:t[k]?≠some 32:=by
     rw[AT dO];intro h;apply hb;rw[AI h];rfl
    rw[AG j2]at hs;rw[<- hs];simp[bY,dS,D.le_refl]
  .obtain rfl:k=t.length:=aa
   have qf:=(Aq fw (Aq @bX @dM));refine il [0,23] [500] ?_;refine al (bL ?_)
   have j2:t[t.length]?≠some 32:=ak
   rw[AG j2]at hs;rw[<- hs];simp[bY,dS,D.le_refl]
def qS (t:List UInt8) (i:Nat):UInt8:=t.getD (bB t i) 0
theorem Fs (G:aB) (t:List UInt8) (i:Nat) (ht:t.length < 2^60) (hi:i<=t.length) (e p:Int) :
  MC prog G [500] 57 [.ref 500 0 0] (aw (bY t i e p)) (.d (.v (.int .u8 (qS t i).toNat))) (aw (bY t (bB t i) e p)):=by
 have fR:=OS G t i ht hi e p;have jj:=mw hi;unfold qS;generalize bB t i=j at fR jj ⊢;by_cases mb:j < t.length
 .have acs:(j:Int) < (t.length:Int):=aa
  have iG:t.getD j 0=t[j]:=by simp[ame,mb]
  rw[iG];refine MC.aO (ay _) func57 rfl rfl (rs:=[.tmp 2]) results57 (by simp[ntmps57]) rfl fun X=>?_;simp only[ntmps57];have fw:=aou;refine ae fw [0] [500] ?_;refine bK fw fR [0] [500] ?_;refine ag fun K1 aF=>?_;have qf:=(Aq fw (Aq @bX (Aq @mb @acs)));refine il [0,14] [500] ?_;refine aJ ?_;have qf:=(Aq fw (Aq @bX (Aq @dM @mb)));refine il [2] [500] ?_;exact aY (Aq fw (Aq @bY.eq_1 @mb))
 .obtain rfl:j=t.length:=aa
  refine MC.aO (ay _) func57 rfl rfl (rs:=[.tmp 2]) results57 (by simp[ntmps57]) rfl fun X=>?_;simp only[ntmps57];have fw:=aou;refine ae fw [0] [500] ?_;refine bK fw fR [0] [500] ?_;refine ag fun K1 aF=>?_;have qf:=(Aq fw @bX);refine il [0,14] [500] ?_;refine al (aq (aF _ ?_));refine ae fw [2] [500] ?_;exact aY (Aq fw @bY.eq_1)
theorem Fp (G:aB) (t:List UInt8) (i:Nat) (ht:t.length < 2^60) (hi:i<=t.length) (e:Int) :
  MC prog G [500] 58 [.ref 500 0 0,.d (ab e)] (aw (bY t i 0 (-1))) (.d (.v (.pointer none))) (aw (bY t (bB t i) e (bB t i))):=by
 have fR:=OS G t i ht hi 0 (-1);generalize bB t i=j at fR ⊢;refine MC.aO (ay _) func58 rfl rfl (rs:=[.tmp 4]) results58 (by simp[ntmps58]) rfl fun X=>?_;simp only[ntmps58];have fw:=aou;refine ae fw [0,1] [500] ?_;refine bK fw fR [0,1] [500] ?_;refine ag fun K1 aF=>ae fw [0,1,12] [500] ?_;refine aJ (gq fw aF [] [500] ?_);refine ae fw [4] [500] ?_;exact aY (Aq fw @bY.eq_1)
def qX:List UInt8:=[32,38,124,33,94,126,40,41,61]
theorem adE (c:UInt8):nH c=qX.contains c:=rfl
theorem aaC {c:UInt8} (h:128<=c.toNat):∃ b0 b1:UInt8,Utf8.encode (c.toNat:Int)=bs [b0,b1]/\128<=b1.toNat:=by
 have hv:Utf8.valid (c.toNat:Int)=true:=by
  have hc:=c.toNat_lt;simp[Utf8.valid];omega
 refine⟨UInt8.ofNat (0xC0+c.toNat / 64),UInt8.ofNat (0x80+c.toNat % 64),?_,?_⟩
 .have hc:=c.toNat_lt;unfold Utf8.encode;rw[hv];simp only[if_true,amd];rw[if_neg aa,if_pos aa];rfl
 .simp;omega
theorem aoF:type_of% (Aq @an8 @an9):=(Aq @an8 @an9)
theorem akp (G:aB) (n:Nat) (h:n < 256):aD prog G 235 [.v (.int .i32 n)] (.v (.bool true)):=by
 have h1:(n:Int) < 55296:=aa
 refine aD.aO (ay _) func235 rfl rfl (rs:=[.tmp 2]) results235 (by simp[ntmps235]) fun X=>?_;simp only[ntmps235,List.map];have fw:=aoF;refine ae fw [0] [] ?_;refine ag fun K1 aF=>bf ?_;have qf:=(Aq fw @h1);refine ax [0,3] [] ?_;refine aJ (ae fw [2] [] ?_);exact aY fw
theorem adD (G:aB) (c:UInt8) (h:128<=c.toNat):aD prog G 210 [dS qX,.v (.int .i32 c.toNat)] (ab (-1)):=by
 have hc:=c.toNat_lt;obtain⟨b0,b1,he,hb⟩:=aaC h
 have h1:¬ (c.toNat:Int) < 128:=aa
 have h2:¬ (c.toNat:Int)=65533:=aa
 have hv:=akp G c.toNat hc
 have fk:¬ (38:Int)=(b1.toNat:Int):=aa
 have gR:=Us G [124,33,94,126,40,41,61] b1
 have iY:Lib.indexByte [124,33,94,126,40,41,61] b1 < 0:=(NC _ _).2 (by
  intro hm
  have:∀ x∈([124,33,94,126,40,41,61]:List UInt8),x.toNat < 128:=bD
  have:=this _ hm
  omega)
 have TJ:(bs qX).extract 2 9=bs [124,33,94,126,40,41,61]:=rfl;refine aD.aO (ay _) func210 rfl rfl (rs:=[.tmp 4]) results210 (by simp[ntmps210]) fun X=>?_;simp only[ntmps210,List.map];have fw:=aoF;refine ae fw [0,1] [] ?_;refine bf ?_;have qf:=(Aq fw @h1);refine ax [0,1,160] [] ?_;refine al ?_;have qf:=(Aq fw @h2);refine ax [0,1,171] [] ?_;refine al (bh fw hv [0,1,183] [] ?_);refine al (Qa ?_);have qf:=(Aq fw @he);refine ax [0,7] [] ?_;have qf:=(Aq fw @bX);refine ax [0,7,8] [] ?_;refine ae fw [0,7,8,9] [] ?_;refine ae fw [0,7,8,9] [] ?_;refine ag fun K3 aX=>ch (S:=Nat) (fun n=>True) (fun n=>⟨bg [(0,.d (dS qX)),(7,.d (dS [b0,b1])),(8,int 1),(9,int 1)],aw []⟩) (fun n=>0) 0 ?_ trivial ?_
 .refine bo fw
 .intro n hn;refine ag fun K4 b6=>?_;have qf:=(Aq fw (Aq @bX @qX.eq_1));refine ax [0,7,8,9,26] [] ?_;refine aJ (aq (b6 _ ?_));refine bf (Qa ?_);refine ag fun K5 b5=>?_;have qf:=(Aq fw (Aq @bX (Aq @dM (Aq @qX.eq_1 @fk))));refine il [0,7,8,9,33] [] ?_;refine aJ ?_;have qf:=(Aq fw (Aq @bX (Aq @dM (Aq @qX.eq_1 @TJ))));refine u1 gR [0,7,8,9,11] [] ?_;refine ag fun K6 dy=>?_;have qf:=(Aq fw @iY);refine ax [0,7,8,9,11,43] [] ?_;refine aJ (ae fw [4] [] ?_);exact aY fw
theorem aac (G:aB) (c:UInt8):aD prog G 167 [dS qX,.v (.int .i32 c.toNat)] (.v (.bool (nH c))):=by
 by_cases h:c.toNat < 128
 .refine aD.tS (iV.of func167 rfl rfl) fun X w vs bp bQ cW=>?_
  obtain⟨a,b,rfl⟩:∃ a b,vs = #[a,b]:=by
   match vs,bp with
   | ⟨[a,b]⟩,_=>exact⟨a,b,rfl⟩
  have ha:=(bQ 0 a _ rfl rfl).scalar;have hb:=(bQ 1 b _ rfl rfl).scalar;subst ha hb;have ju:=Any.strings_ContainsRune_ascii (P:=prog) (ρ:=Tryz.UC) { Tryz.ad7 with } (bs qX) c.toNat w aa aa;rw[show (c.toNat:Int).toNat.toUInt8=c by simp]at ju;refine ju.mono fun e w' ⟨he,hw⟩=>⟨_,he,by rw[hw];exact cX.refl _,?_⟩
  have BE:decide (0<=Lib.indexByte (bs qX).data.toList c)=nH c:=by
   rw[adE,Bool.eq_iff_iff,decide_eq_true_eq,am1];have:=NC qX c;have e:(bs qX).data.toList=qX:=rfl;rw[e];constructor
   .intro h0;apply amQ;intro hn;have:=this.2 hn;omega
   .intro hm;apply amQ;intro hn;exact this.1 aa hm
  rw[BE];exact .v _
 .have abT:=adD G c aa
  have ji:nH c=false:=by
   have h:∀ n:Fin 256,128<=n.val->nH (UInt8.ofNat n)=false:=by decide +kernel
   have:=h ⟨c.toNat,c.toNat_lt⟩ (by simp;omega);simpa using this
  rw[ji];refine aD.aO (ay _) func167 rfl rfl (rs:=[.tmp 4]) results167 (by simp[ntmps167]) fun X=>?_;simp only[ntmps167,List.map];have fw:=aoF;refine ae fw [0,1] [] ?_;refine bh fw abT [4] [] ?_;exact aY fw
end Go.Proofs.YtobejfcgcfdpfaaGreatDoor
namespace Go.Proofs.YtobejfcgcfdpfaaGreatDoor
open Go.Av
def eR {α:Type}:Rs α->Int
 | .ok _ _=>0
 | .err c _ _=>c
def pR {α:Type}:Rs α->Int
 | .ok _ _=>-1
 | .err _ p _=>p
theorem PE (c:UInt8):IntKind.i32.wrap (c.toNat:Int)=(c.toNat:Int):=by
 have h:∀ n:Fin 256,IntKind.i32.wrap ((UInt8.ofNat n.val).toNat:Int)=((UInt8.ofNat n.val).toNat:Int):=by decide +kernel
 have:=h ⟨c.toNat,c.toNat_lt⟩;simpa using this
theorem akJ:IntKind.i32.wrap 48=48:=by decide +kernel
theorem akK:IntKind.i32.wrap 49=49:=by decide +kernel
theorem FB:(⟨#[32,38,124,33,94,126,40,41,61]⟩:ByteArray)=bs qX:=rfl
theorem OV (G:aB) (t:List UInt8) (q i:Nat) (ht:t.length < 2^60) (hi:i<=t.length) :
  MC prog G [500] 150 [.ref 500 0 0] (aw (bY t i 0 (-1))) (.d (dS (jJ t (bB t i)))) (aw (bY t (dh (gD t q i)) (eR (gD t q i)) (pR (gD t q i)))):=by
 have fR:=OS G t i ht hi 0 (-1);have jj:=mw hi;have xD:=AF hi;unfold gD;generalize bB t i=j at fR jj xD ⊢;have D4:=Fp G t j ht jj 3;have D5:=Fp G t j ht jj 5;rw[xD]at D4 D5;have bn:=JI t j;have het:=PH jj;have sL:(t.drop j).take (rb t j - j)=jJ t j:=rfl
 have M9:(jJ t j).length < 2^60:=by
  rw[<- sL,amw,amF];omega
 have mN:=Vf G (jJ t j) M9;rw[<- Va]at mN;refine MC.aO (ay _) func150 rfl rfl (rs:=[.tmp 2]) results150 (by simp[ntmps150]) rfl fun X=>?_;simp only[ntmps150];have fw:=aou;refine ae fw [0] [500] ?_;refine bK fw fR [0] [500] ?_;refine ae fw [0,3] [500] ?_;refine ag fun K1 aF=>ch (S:=Nat) (fun k=>j<=k/\k<=t.length/\yL t j k) (fun k=>⟨bg [(0,.ref 500 0 0),(3,int k)],aw [(500,.box 123 [.d (dS t),int j,int 0,int (-1)])]⟩) (fun k=>t.length - k) j ?_ ⟨amh _,jj,.inl rfl⟩ ?_
 .refine bo fw
 .rintro k ⟨zF,hk,dz⟩;refine ag fun K2 au=>?_
  refine (fun gw hstop=>?_) (fun (σ:St) (hn:yL t j (k+1)) (dO:k < t.length) himp=>au σ (AW.imp (τ:=⟨bg [(0,.ref 500 0 0),(3,int k)],aw [(500,.box 123 [.d (dS t),int j,int 0,int (-1)])]⟩) himp ?_))
   (fun (σ:St) (he:k=rb t j) himp=>aF σ (AW.imp (τ:=⟨bg [(0,.ref 500 0 0),(3,int k)],aw [(500,.box 123 [.d (dS t),int j,int 0,int (-1)])]⟩) himp ?_))
  .by_cases dO:k < t.length
   .have jM:=aac G t[k];have zK:=Cm t[k]
    cases B3:nH t[k] with
    | true=>
     rw[B3]at jM zK;have qf:=(Aq fw (Aq @bX (Aq @dM (Aq @FB (Aq @PE @dO)))));refine eF jM [0,3,54] [500] ?_;refine al (bL (hstop _ (vo dz hk fun _=>⟨zK.2 (.inl rfl),fun _=>⟨fun e=>?_,fun e=>?_⟩⟩) ?_))
     .rw[e]at B3;exact absurd B3 bD
     .rw[e]at B3;exact absurd B3 bD
     .refine bo fw
    | false=>
     rw[B3]at jM zK;by_cases lT:j < k
     .have nw:(j:Int) < (k:Int):=aa
      have Hz:t[k] ∉ r3\/(j < k/\(t[k]=48\/t[k]=49)):=by
       by_cases hm:t[k]∈r3
       .rcases zK.1 hm with h | h | h
        .cases h
        .exact .inr ⟨lT,.inl h⟩
        .exact .inr ⟨lT,.inr h⟩
       .exact .inl hm
      have qf:=(Aq fw (Aq @bX (Aq @dM (Aq @FB (Aq @PE (Aq @dO (Aq @nw @lT)))))));refine eF jM [0,3,54] [500] ?_;refine aJ (aq (gw _ (C9 dz dO Hz) dO ?_));refine bo fw
     .have nw:¬ (j:Int) < (k:Int):=aa
      by_cases sj:((t[k]).toNat:Int)=48
      .have hc:t[k]=48:=(CQ _ 48 bD).1 sj;rw[sj]at jM;have qf:=(Aq fw (Aq @bX (Aq @dM (Aq @FB (Aq @akJ (Aq @dO (Aq @nw (Aq @lT @sj))))))));refine eF jM [0,3,54] [500] ?_;refine al (bL (hstop _ (vo dz hk fun _=>⟨zK.2 (.inr (.inl hc)),fun h=>absurd h lT⟩) ?_));refine bo fw
      .by_cases ux:((t[k]).toNat:Int)=49
       .have hc:t[k]=49:=(CQ _ 49 bD).1 ux;rw[ux]at jM;have qf:=(Aq fw (Aq @bX (Aq @dM (Aq @FB (Aq @akK (Aq @dO (Aq @nw (Aq @lT (Aq @sj @ux)))))))));refine eF jM [0,3,54] [500] ?_;refine al (bL (hstop _ (vo dz hk fun _=>⟨zK.2 (.inr (.inr hc)),fun h=>absurd h lT⟩) ?_));refine bo fw
       .have hm:t[k] ∉ r3:=fun hm=>by
         rcases zK.1 hm with h | h | h
         .cases h
         .exact sj (by rw[h];rfl)
         .exact ux (by rw[h];rfl)
        have qf:=(Aq fw (Aq @bX (Aq @dM (Aq @FB (Aq @PE (Aq @dO (Aq @nw (Aq @lT (Aq @sj @ux)))))))));refine eF jM [0,3,54] [500] ?_;refine aJ (aq (gw _ (C9 dz dO (.inl hm)) dO ?_));refine bo fw
   .obtain rfl:k=t.length:=aa
    by_cases lT:j < t.length
    .have nw:(j:Int) < (t.length:Int):=aa
     have qf:=(Aq fw (Aq @bX (Aq @dM (Aq @nw @lT))));refine ax [0,3,54] [500] ?_;refine al (bL (hstop _ (vo dz hk fun h=>absurd h dO) ?_));refine bo fw
    .have nw:¬ (j:Int) < (t.length:Int):=aa
     have qf:=(Aq fw (Aq @bX (Aq @dM (Aq @nw @lT))));refine ax [0,3,54] [500] ?_;refine al (bL (hstop _ (vo dz hk fun h=>absurd h dO) ?_));refine bo fw
  .refine bf (cA fw ?_);(try simp only[aT,aW]);refine aZ.mk (k+1) ⟨aa,aa,hn⟩ aa ?_;refine bo fw
  .subst he;clear aF au;have EK:List.take (rb t j - j) (List.drop j t)=jJ t j:=sL;have qf:=(Aq fw (Aq @bX (Aq @QD (Aq @bn (Aq @het @EK)))));refine il [0,3,4] [500] ?_;refine ag fun K3 aX=>bf ?_;by_cases hs:jJ t j=[]
   .refine rg [0,3,4,71] [500] (dT rfl) fun K' ao=>?_;(repeat refine aK fun Kq af=>?_;simp[ab,bY,dS,hs,cu,bA,bu];(repeat refine⟨aa,?_⟩);refine af _ ?_);refine bH (ao _ (AW.st (by simp[ab,bY,dS,hs,cu,bA,bu];rfl) ?_));refine aJ (fD (ay _) fun K' ao=>?_);(repeat refine aK fun Kq af=>?_;simp[ab,bY,dS];(repeat refine⟨aa,?_⟩);refine af _ ?_);refine aK fun Kq af=>?_;simp[ab,bY,dS];refine cZ.mc (D4) ?_ ?_ ?_ ?_ ?_<;>simp[ab,bY,dS];refine af _ ?_;(repeat refine aK fun Kq af=>?_;simp[ab,bY,dS];(repeat refine⟨aa,?_⟩);refine af _ ?_);refine bH (ao _ ?_);refine aX _ (AW.norm [4] [500] (dT rfl) (AW.st (by simp[ab,bY,dS];rfl) ?_));refine ae fw [2] [500] ?_;refine bW ?_;simp[D.le,D.le.go,aP,ab,bY,dS,bY,dh,eR,pR,hs,cu]
   .have wz:(jJ t j == [])=false:=by simpa using hs
    have EC:(jJ t j).isEmpty=false:=by rw[anC];exact hs
    refine rg [0,3,4,71] [500] (dT rfl) fun K' ao=>?_;(repeat refine aK fun Kq af=>?_;simp[ab,bY,dS,cu,bA,bu,hs,wz,EC];(repeat refine⟨aa,?_⟩);refine af _ ?_);refine bH (ao _ (AW.st (by simp[ab,bY,dS,cu,bA,bu,hs,wz,EC];rfl) ?_));refine al ?_
    cases hn:jQ (jJ t j) with
    | false=>
     rw[hn]at mN;refine bh fw mN [0,3,4,76] [500] ?_;refine aJ (fD (ay _) fun K' ao=>?_);(repeat refine aK fun Kq af=>?_;simp[ab,bY,dS];(repeat refine⟨aa,?_⟩);refine af _ ?_);refine aK fun Kq af=>?_;simp[ab,bY,dS];refine cZ.mc (D5) ?_ ?_ ?_ ?_ ?_<;>simp[ab,bY,dS];refine af _ ?_;(repeat refine aK fun Kq af=>?_;simp[ab,bY,dS];(repeat refine⟨aa,?_⟩);refine af _ ?_);refine bH (ao _ ?_);refine aX _ (AW.norm [4] [500] (dT rfl) (AW.st (by simp[ab,bY,dS];rfl) ?_));refine ae fw [2] [500] ?_;exact aY (Aq fw (Aq @bY.eq_1 (Aq @dh.eq_1 (Aq @dh.eq_2 (Aq @eR.eq_1 (Aq @eR.eq_2 (Aq @pR.eq_1 (Aq @pR.eq_2 (Aq @hs @hn)))))))))
    | true=>
     rw[hn]at mN;refine bh fw mN [0,3,4,76] [500] ?_;refine al (gq fw aX [4] [500] ?_);refine ae fw [2] [500] ?_;exact aY (Aq fw (Aq @bY.eq_1 (Aq @dh.eq_1 (Aq @dh.eq_2 (Aq @eR.eq_1 (Aq @eR.eq_2 (Aq @pR.eq_1 (Aq @pR.eq_2 (Aq @hs @hn)))))))))
def e8:D:=.sl (some false) []
mutual
def dR:Ex->D
 | .iW b=>.ip [dS [if b then 49 else 48],dS [],e8]
 | .bit s=>.ip [dS [98,105,116],dS s,e8]
 | .jV s=>.ip [dS [94],dS s,e8]
 | .jL s=>.ip [dS [126],dS s,e8]
 | .not e=>.ip [dS [33],dS [],.sl none [[dR e]]]
 | .and l=>.ip [dS [38],dS [],.sl none (y8 l)]
 | .or l=>.ip [dS [124],dS [],.sl none (y8 l)]
def y8:List Ex->List (List D)
 | []=>[]
 | e :: l=>[dR e] :: y8 l
end
theorem Bf:∀ l:List Ex,y8 l=l.map fun e=>[dR e]
 | []=>rfl
 | e :: l=>by rw[y8,Bf l];rfl
theorem uj (e:Ex):∃ c,dR e = .ip c:=by
 cases e<;>simp only[dR]<;>exact⟨_,rfl⟩
theorem y7 (e:Ex):(dR e).one=true:=by
 obtain⟨c,h⟩:=uj e;rw[h];rfl
theorem cells_one {y:D} (h:y.one=true):jY (.d y)=some [.d y]:=by
 cases y<;>first | (simp[jY,AV.one,D.one]at h ⊢;done) | (simp[D.one]at h;simp[jY,AV.one,D.one,h])
def ke (r:Rs Ex) (y:D):D:=match r with
 | .ok x _=>dR x
 | .err _ _ _=>y
def jT {α:Type} (r:Rs α) (k:Nat):Nat:=match r with
 | .ok _ j=>j
 | .err _ _ _=>k
def F2 (G:aB) (t:List UInt8) (fx:List Nat) (xr:List (Nat×Row)) (g:FuncId) (xs:List AV) (d:Nat) (r:Rs Ex) (i:Nat) (y:D) (k:Nat):Prop:=
 MC prog G fx g xs (aw (bY t i 0 (-1) ++ xr)) (.d (ke r y)) (aw (bY t (jT r k) (eR r) (pR r) ++ xr))/\(∀ c p q,r = .err c p q->0 < c/\y.one=true/\k<=t.length+d)
def Reads (G:aB) (t:List UInt8) (fx:List Nat) (xr:List (Nat×Row)) (g:FuncId) (xs:List AV) (d:Nat) (f:Nat->Rs Ex):Prop:=∃ (yF:Nat->D) (kF:Nat->Nat),∀ i,i<=t.length->F2 G t fx xr g xs d (f i) i (yF i) (kF i)
theorem Jg {G:aB} {t:List UInt8} {fx:List Nat} {xr:List (Nat×Row)} {g:FuncId} {xs:List AV} {d:Nat} {f:Nat->Rs Ex} (h:∀ i,i<=t.length->∃ y k,F2 G t fx xr g xs d (f i) i y k):Reads G t fx xr g xs d f:=by
 have h2:∀ i,∃ z:D×Nat,i<=t.length->F2 G t fx xr g xs d (f i) i z.1 z.2:=fun i=>by
  by_cases hi:i<=t.length
  .obtain⟨y,k,h⟩:=h i hi;exact⟨(y,k),fun _=>h⟩
  .exact⟨(default,0),fun h=>absurd h hi⟩
 exact⟨fun i=>(Classical.choose (h2 i)).1,fun i=>(Classical.choose (h2 i)).2,fun i hi=>Classical.choose_spec (h2 i) hi⟩
def qp (t:List UInt8) (s:UInt8) (f:Nat->Rs Ex):Nat->Nat->List Ex->List Ex×Nat
 | 0,i,acc=>(acc,i)
 | n+1,i,acc=>match f i with
  | .err _ _ _=>(acc,i)
  | .ok x j=>if (eX t s j).1 then qp t s f n (eX t s j).2 (acc ++ [x]) else (acc,i)
theorem W7 {t:List UInt8} {s:UInt8} {f:Nat->Rs Ex} (hf:mC t f):∀ (n m i:Nat) (acc:List Ex),i<=t.length->t.length+1 - i<=n->t.length+1 - i<=m->qp t s f n i acc=qp t s f m i acc
 | 0,_,i,_,hi,h,_=>aa
 | _+1,0,i,_,hi,_,h=>aa
 | n+1,m+1,i,acc,hi,h1,h2=>by
  rw[qp,qp]
  cases cE:f i with
  | err c p q=>rfl
  | ok x j=>
   obtain⟨g1,g2⟩:=hf i x j hi cE;obtain⟨t1,t2,t3⟩:=pM (c:=s) g2;dsimp only;split
   .exact W7 hf n m _ _ t2 aa aa
   .rfl
def AE (t:List UInt8) (s:UInt8) (f:Nat->Rs Ex) (i:Nat) (acc:List Ex):List Ex×Nat:=qp t s f (t.length+1 - i) i acc
theorem yq {t:List UInt8} {s:UInt8} {f:Nat->Rs Ex} (hf:mC t f) {i:Nat} (hi:i<=t.length) (acc:List Ex):AE t s f i acc=match f i with
  | .err _ _ _=>(acc,i)
  | .ok x j=>if (eX t s j).1 then AE t s f (eX t s j).2 (acc ++ [x]) else (acc,i):=by
 unfold AE;obtain⟨n,hn⟩:∃ n,t.length+1 - i=n+1:=⟨t.length - i,aa⟩;rw[hn,qp]
 cases cE:f i with
 | err c p q=>rfl
 | ok x j=>
  obtain⟨g1,g2⟩:=hf i x j hi cE;obtain⟨t1,t2,t3⟩:=pM (c:=s) g2;dsimp only;split
  .exact W7 hf _ _ _ _ t2 aa aa
  .rfl
theorem IX {t:List UInt8} {i:Nat} {c:UInt8} (hc:c≠0):(eX t c i).1=decide (((qS t i).toNat:Int)=(c.toNat:Int)):=by
 unfold eX qS;rw[ame]
 cases h:t[bB t i]? with
 | none=>
  rw[if_neg ak];simp only[Option.getD_none]
  symm
  rw[decide_eq_false_iff_not];intro e;apply hc
  have:c.toNat=0:=by simp at e;omega
  exact UInt8.toNat_inj.1 (by simpa using this)
 | some b=>
  simp only[anM];by_cases hb:b=c
  .subst hb;simp
  .have:¬ ((b.toNat:Int)=(c.toNat:Int)):=fun e=>hb (UInt8.toNat_inj.1 aa);simp[hb,this]
theorem PA {t:List UInt8} {c:UInt8} {i:Nat}:(eX t c i).2=if (eX t c i).1 then bB t i+1 else bB t i:=by
 unfold eX;split<;>rfl
def oB (s:UInt8) (ys:List D):D:=match ys with
 | [y]=>y
 | ys=>.ip [dS [s],dS [],.sl none (ys.map fun y=>[y])]
theorem Jn {s:UInt8} {ys:List D} (h:ys.length≠1):oB s ys = .ip [dS [s],dS [],.sl none (ys.map fun y=>[y])]:=by
 match ys,h with
 | [],_=>rfl
 | [_],h=>exact absurd rfl h
 | _ :: _ :: _,_=>rfl
theorem Ww {s:UInt8} {ys:List D} (h:∀ y∈ys,y.one=true):(oB s ys).one=true:=by
 match ys,h with
 | [],_=>rfl
 | [y],h=>exact h y ak
 | _ :: _ :: _,_=>rfl
theorem ahK (G:aB) (t:List UInt8) (ht:t.length<=2000) (g:FuncId) (s:UInt8) (sn:Int) (gy:(s.toNat:Int)=sn) (eV:s≠0) (L7:Utf8.encode sn=bs [s]) (a:Int) (d:Nat) (f:Nat->Rs Ex) (hf:mC t f) (pT:List Ex->Ex) (zu:∀ l,dR (pT l)=oB s (l.map dR))
  (fQ:Reads G t [500] [] g [.ref 500 0 0,.d (ab a)] d f):Reads G t [500] [] 106 [.ref 500 0 0,.d (.v (.int .u8 sn)),.d (ab a),.bm g (.ref 500 0 0)] d (fun i=>(mv t s f i []).map pT):=by
 obtain⟨yF,kF,fQ⟩:=fQ;refine Jg fun i hi=>?_;generalize hR:mv t s f i []=R;generalize hZ:AE t s f i []=Z;refine⟨oB s (Z.1.map dR ++ [yF Z.2]),kF Z.2,?_⟩
 have su:∀ (k:Nat) (ys:List D) (e p:Int),((e=0/\p = -1/\∃ acc,ys=acc.map dR/\R = .ok acc k)\/(∃ c p' q,R = .err c p' q/\e=c/\p=p'/\ys=Z.1.map dR ++ [yF Z.2]/\k=kF Z.2))->
   ke (R.map pT) (oB s (Z.1.map dR ++ [yF Z.2]))=oB s ys/\jT (R.map pT) (kF Z.2)=k/\eR (R.map pT)=e/\pR (R.map pT)=p:=by
  rintro k ys e p (⟨rfl,rfl,acc,rfl,rfl⟩ | ⟨c,p',q,rfl,rfl,rfl,rfl,rfl⟩)
  .exact⟨by simp[Rs.map,ke,zu],rfl,rfl,rfl⟩
  .exact⟨rfl,rfl,rfl,rfl⟩
 have lR:∀ (n i:Nat) (acc:List Ex),i<=t.length->t.length+1 - i<=n->∀ c p q,jn t s f n i acc = .err c p q->0 < c/\(yF (qp t s f n i acc).2).one=true/\kF (qp t s f n i acc).2<=t.length+d:=by
  intro n
  induction n with
  | zero=>intro i acc hi hn;omega
  | succ n ih=>
   intro i acc hi hn c p q h;rw[jn]at h;rw[qp]
   cases cE:f i with
   | err c' p' q'=>
    rw[cE]at h;simp only[Rs.err.injEq]at h;obtain⟨rfl,-,-⟩:=h;exact (fQ i hi).2 _ _ _ cE
   | ok x j=>
    rw[cE]at h;obtain⟨g1,g2⟩:=hf i x j hi cE;obtain⟨t1,t2,t3⟩:=pM (c:=s) g2;dsimp only at h ⊢;split at h
    .rename_i dA;rw[if_pos dA];exact ih _ _ t2 aa c p q h
    .cases h
 refine⟨?_,fun c p q h=>?_⟩
 rotate_left
 .cases R with
  | ok l j=>cases h
  | err c' p' q'=>
   simp only[Rs.map,Rs.err.injEq]at h;obtain⟨rfl,rfl,rfl⟩:=h;obtain⟨h1,h2,h3⟩:=lR _ i [] hi (amh _) _ _ _ hR
   have LG:(qp t s f (t.length+1 - i) i []).2=Z.2:=by rw[<- hZ];rfl
   rw[LG]at h2 h3;refine⟨h1,Ww fun y hy=>?_,h3⟩
   rcases amq.1 hy with hy | hy
   .obtain⟨x,_,rfl⟩:=amS.1 hy;exact y7 x
   .simp at hy;subst hy;exact h2
 generalize hyE:oB s (Z.1.map dR ++ [yF Z.2])=yE at su ⊢;generalize R.map pT=RR at su ⊢;refine MC.aO (ay _) func106 rfl rfl (rs:=[.tmp 8]) results106 (by simp[ntmps106]) rfl fun X=>?_;simp only[ntmps106];have fw:=aou;refine ae fw [0,1,2,3] [500] ?_;have Mh:=(fQ i hi).1
 have lH:(ke (f i) (yF i)).one=true:=by
  cases cE:f i with
  | ok x j=>exact y7 x
  | err c p q=>exact ((fQ i hi).2 _ _ _ cE).2.1
 have BH:=cells_one lH;have qf:=(Aq fw @BH);refine ko Mh [0,1,2,3,9] [500,13] ?_;refine ag fun K1 aF=>?_
 refine ch (S:=Nat×List D×Int×Int) (fun z=>(z.2.2.1=0/\z.2.2.2 = -1/\z.1<=t.length/\∃ acc,z.2.1=acc.map dR/\0 < acc.length/\acc.length<=z.1/\(if (eX t s z.1).1 then mv t s f (eX t s z.1).2 acc else .ok acc (eX t s z.1).2)=R/\((eX t s z.1).1=true->AE t s f (eX t s z.1).2 acc=Z))\/(0 < z.2.2.1/\z.2.1.length<=2001/\∃ c p q,R = .err c p q/\z.2.2.1=c/\z.2.2.2=p/\z.2.1=Z.1.map dR ++ [yF Z.2]/\z.1=kF Z.2))
  (fun z=>⟨bg [(0,.ref 500 0 0),(1,.d (.v (.int .u8 sn))),(2,.d (ab a)),(3,.bm g (.ref 500 0 0)),(9,.own 13 0 z.2.1.length)],aw [(500,.box 123 [.d (dS t),int z.1,int z.2.2.1,int z.2.2.2]),(13,.sl 28 1 (z.2.1.map fun y=>[y]))]⟩) (fun z=>if z.2.2.1=0 then t.length+1 - z.1 else 0) (jT (f i) (kF i),[ke (f i) (yF i)],eR (f i),pR (f i)) ?_ ?_ ?_
 .refine bo fw
 .cases cE:f i with
  | ok x j=>
   obtain⟨g1,g2⟩:=hf i x j hi cE;rw[wN hf hi,cE]at hR;rw[yq hf hi,cE]at hZ;exact .inl ⟨rfl,rfl,g2,[x],rfl,ak,by simp[jT];omega,hR,fun h=>by dsimp only[jT]at h ⊢;simpa only[h,if_true,ang]using hZ⟩
  | err c p q=>
   rw[wN hf hi,cE]at hR;rw[yq hf hi,cE]at hZ;obtain⟨h1,h2,h3⟩:=(fQ i hi).2 _ _ _ cE;exact .inr ⟨h1,ak,c,p,0,hR.symm,rfl,rfl,by rw[<- hZ];rfl,by rw[<- hZ];rfl⟩
 .rintro⟨k,ys,e,p⟩ hI;dsimp only at hI ⊢;refine ag fun K2 au=>?_
  refine (fun zv=>?_) (fun (σ:St) (k:Nat) (ys:List D) (e p:Int) (hl:ys.length<=2001) (LS:(e=0/\p = -1/\∃ acc,ys=acc.map dR/\R = .ok acc k)\/(∃ c p' q,R = .err c p' q/\e=c/\p=p'/\ys=Z.1.map dR ++ [yF Z.2]/\k=kF Z.2)) himp=>
   aF σ (AW.imp (τ:=⟨bg [(0,.ref 500 0 0),(1,.d (.v (.int .u8 sn))),(9,.own 13 0 ys.length)],aw [(500,.box 123 [.d (dS t),int k,int e,int p]),(13,.sl 28 1 (ys.map fun y=>[y]))]⟩) himp ?_))
  .rcases hI with⟨rfl,rfl,hk,acc,rfl,LI,hak,gP,nq⟩ | ⟨he,hlen,c,p',q,tw,rfl,rfl,rfl,rfl⟩
   .have gI:=Fs G t k aa hk 0 (-1);have dA:=IX (t:=t) (i:=k) eV;rw[gy]at dA;have mT:=PA (t:=t) (c:=s) (i:=k);obtain⟨t1,t2,t3⟩:=pM (t:=t) (c:=s) hk;have jj:=mw hk;by_cases hb:((qS t k).toNat:Int)=sn
    .rw[decide_eq_true hb]at dA;rw[dA]at gP nq mT t3;simp only[if_true]at gP mT;have nq:=nq rfl;have t3:=t3 rfl;rw[mT]at gP nq t2 t3;have qf:=(Aq fw @hb);refine ko gI [0,1,2,3,9,25] [500,13] ?_;refine aJ (aq (au _ ?_));refine bf (ae fw [0,1,2,3,9] [500,13] ?_);have uF:=(fQ _ t2).1;rw[anu]at uF
     have tI:(ke (f (bB t k+1)) (yF (bB t k+1))).one=true:=by
      cases cE:f (bB t k+1) with
      | ok x j=>exact y7 x
      | err c p q=>exact ((fQ _ t2).2 _ _ _ cE).2.1
     have vQ:=cells_one tI;refine fD (ay _) fun K' ao=>?_;(repeat refine aK fun Kq af=>?_;simp[ab,bY,dS,vQ,tI,sh];(repeat refine⟨aa,?_⟩);refine af _ ?_);refine aK fun Kq af=>?_;simp[ab,bY,dS,vQ,tI,sh];refine cZ.mc (uF) ?_ ?_ ?_ ?_ ?_<;>simp[ab,bY,dS,vQ,tI,sh];refine af _ ?_;(repeat refine aK fun Kq af=>?_;simp[ab,bY,dS,vQ,tI,sh];(repeat refine⟨aa,?_⟩);refine af _ ?_);refine bH (ao _ ?_);(try simp only[aT,aW]);refine aZ.mk (jT (f (bB t k+1)) (kF (bB t k+1)),acc.map dR ++ [ke (f (bB t k+1)) (yF (bB t k+1))],eR (f (bB t k+1)),pR (f (bB t k+1))) ?_ ?_ ?_
     .cases cE:f (bB t k+1) with
      | ok x j=>
       obtain⟨g1,g2⟩:=hf _ x j t2 cE;rw[wN hf t2,cE]at gP;rw[yq hf t2,cE]at nq;exact .inl ⟨rfl,rfl,g2,acc ++ [x],by simp[ke],ak,by simp[jT];omega,gP,fun h=>by dsimp only[jT]at h ⊢;simpa only[h,if_true]using nq⟩
      | err c p q=>
       rw[wN hf t2,cE]at gP;rw[yq hf t2,cE]at nq;obtain⟨h1,h2,h3⟩:=(fQ _ t2).2 _ _ _ cE;exact .inr ⟨h1,by simp;omega,c,p,0,gP.symm,rfl,rfl,by rw[<- nq];rfl,by rw[<- nq];rfl⟩
     .cases cE:f (bB t k+1) with
      | ok x j=>
       obtain⟨g1,g2⟩:=hf _ x j t2 cE;simp only[eR,jT,if_true];omega
      | err c p q=>
       obtain⟨h1,h2,h3⟩:=(fQ _ t2).2 _ _ _ cE
       have l9:¬ c=0:=aa
       simp[eR,l9];omega
     .refine bo fw
    .rw[decide_eq_false hb]at dA;rw[dA]at gP mT;simp only[amn,if_false]at gP mT;have qf:=(Aq fw @hb);refine ko gI [0,1,2,3,9,25] [500,13] ?_;refine al (bL (zv _ (bB t k) (acc.map dR) 0 (-1) (by simp;omega) (.inl ⟨rfl,rfl,acc,rfl,by rw[<- gP,mT]⟩) ?_));refine bo fw
   .have lD:¬ e=0:=aa
    have qf:=(Aq fw @lD);refine ax [0,1,2,3,9,25] [500,13] ?_;refine al (bL (zv _ (kF Z.2) _ e p' hlen (.inr ⟨e,p',q,tw,rfl,rfl,rfl,rfl⟩) ?_));refine bo fw
  .obtain⟨h1,h2,h3,h4⟩:=su k ys e p LS;rw[h1,h2,h3,h4];refine ag fun K3 aX=>?_;by_cases jD:ys.length=1
   .obtain⟨y,rfl⟩:=amW.1 jD;refine ae fw [1,9,41] [500,13] ?_;refine aJ (ae fw [8] [500] ?_);exact aY (Aq fw (Aq @oB.eq_1 @oB.eq_2))
   .have jE:¬ (ys.length:Int)=1:=aa
    have qf:=(Aq fw (Aq @jD @jE));refine ax [1,9,41] [500,13] ?_;refine al (aq (aX _ ?_));refine AW.imp (aL.freeze 13 bD) ?_;refine AW.st (by simp[ab,bY,dS,sh];rfl) ?_;have qf:=(Aq fw @L7);refine ax [8] [500,49] ?_;refine dZ fw 49 ?_;refine bW ?_;simp[D.le,D.le.go,aP,ab,bY,dS,Jn jD,dS,cu,D.le_refl,D.bC]
theorem ahL (G:aB) (t:List UInt8) (ht:t.length<=2000) (g:FuncId) (s:UInt8) (sn:Int) (gy:(s.toNat:Int)=sn) (eV:s≠0) (L7:Utf8.encode sn=bs [s]) (a:Int) (d:Nat) (f:Nat->Rs Ex) (hf:mC t f) (pT:List Ex->Ex) (zu:∀ l,dR (pT l)=oB s (l.map dR))
  (fQ:Reads G t [500,501] [(501,.box 121 [.ref 500 0 0])] g [.d (ab a),.ref 501 0 0] d f):Reads G t [500,501] [(501,.box 121 [.ref 500 0 0])] 106 [.ref 500 0 0,.d (.v (.int .u8 sn)),.d (ab a),.fn (.func g) [.ref 501 0 0]] d (fun i=>(mv t s f i []).map pT):=by
 obtain⟨yF,kF,fQ⟩:=fQ;refine Jg fun i hi=>?_;generalize hR:mv t s f i []=R;generalize hZ:AE t s f i []=Z;refine⟨oB s (Z.1.map dR ++ [yF Z.2]),kF Z.2,?_⟩
 have su:∀ (k:Nat) (ys:List D) (e p:Int),((e=0/\p = -1/\∃ acc,ys=acc.map dR/\R = .ok acc k)\/(∃ c p' q,R = .err c p' q/\e=c/\p=p'/\ys=Z.1.map dR ++ [yF Z.2]/\k=kF Z.2))->
   ke (R.map pT) (oB s (Z.1.map dR ++ [yF Z.2]))=oB s ys/\jT (R.map pT) (kF Z.2)=k/\eR (R.map pT)=e/\pR (R.map pT)=p:=by
  rintro k ys e p (⟨rfl,rfl,acc,rfl,rfl⟩ | ⟨c,p',q,rfl,rfl,rfl,rfl,rfl⟩)
  .exact⟨by simp[Rs.map,ke,zu],rfl,rfl,rfl⟩
  .exact⟨rfl,rfl,rfl,rfl⟩
 have lR:∀ (n i:Nat) (acc:List Ex),i<=t.length->t.length+1 - i<=n->∀ c p q,jn t s f n i acc = .err c p q->0 < c/\(yF (qp t s f n i acc).2).one=true/\kF (qp t s f n i acc).2<=t.length+d:=by
  intro n
  induction n with
  | zero=>intro i acc hi hn;omega
  | succ n ih=>
   intro i acc hi hn c p q h;rw[jn]at h;rw[qp]
   cases cE:f i with
   | err c' p' q'=>
    rw[cE]at h;simp only[Rs.err.injEq]at h;obtain⟨rfl,-,-⟩:=h;exact (fQ i hi).2 _ _ _ cE
   | ok x j=>
    rw[cE]at h;obtain⟨g1,g2⟩:=hf i x j hi cE;obtain⟨t1,t2,t3⟩:=pM (c:=s) g2;dsimp only at h ⊢;split at h
    .rename_i dA;rw[if_pos dA];exact ih _ _ t2 aa c p q h
    .cases h
 refine⟨?_,fun c p q h=>?_⟩
 rotate_left
 .cases R with
  | ok l j=>cases h
  | err c' p' q'=>
   simp only[Rs.map,Rs.err.injEq]at h;obtain⟨rfl,rfl,rfl⟩:=h;obtain⟨h1,h2,h3⟩:=lR _ i [] hi (amh _) _ _ _ hR
   have LG:(qp t s f (t.length+1 - i) i []).2=Z.2:=by rw[<- hZ];rfl
   rw[LG]at h2 h3;refine⟨h1,Ww fun y hy=>?_,h3⟩
   rcases amq.1 hy with hy | hy
   .obtain⟨x,_,rfl⟩:=amS.1 hy;exact y7 x
   .simp at hy;subst hy;exact h2
 generalize hyE:oB s (Z.1.map dR ++ [yF Z.2])=yE at su ⊢;generalize R.map pT=RR at su ⊢;refine MC.aO (ay _) func106 rfl rfl (rs:=[.tmp 8]) results106 (by simp[ntmps106]) rfl fun X=>?_;simp only[ntmps106];have fw:=aou;refine ae fw [0,1,2,3] [500,501] ?_;have Mh:=(fQ i hi).1
 have lH:(ke (f i) (yF i)).one=true:=by
  cases cE:f i with
  | ok x j=>exact y7 x
  | err c p q=>exact ((fQ i hi).2 _ _ _ cE).2.1
 have BH:=cells_one lH;have qf:=(Aq fw @BH);refine ko Mh [0,1,2,3,9] [500,501,13] ?_;refine ag fun K1 aF=>?_
 refine ch (S:=Nat×List D×Int×Int) (fun z=>(z.2.2.1=0/\z.2.2.2 = -1/\z.1<=t.length/\∃ acc,z.2.1=acc.map dR/\0 < acc.length/\acc.length<=z.1/\(if (eX t s z.1).1 then mv t s f (eX t s z.1).2 acc else .ok acc (eX t s z.1).2)=R/\((eX t s z.1).1=true->AE t s f (eX t s z.1).2 acc=Z))\/(0 < z.2.2.1/\z.2.1.length<=2001/\∃ c p q,R = .err c p q/\z.2.2.1=c/\z.2.2.2=p/\z.2.1=Z.1.map dR ++ [yF Z.2]/\z.1=kF Z.2))
  (fun z=>⟨bg [(0,.ref 500 0 0),(1,.d (.v (.int .u8 sn))),(2,.d (ab a)),(3,.fn (.func g) [.ref 501 0 0]),(9,.own 13 0 z.2.1.length)],aw [(500,.box 123 [.d (dS t),int z.1,int z.2.2.1,int z.2.2.2]),(501,.box 121 [.ref 500 0 0]),(13,.sl 28 1 (z.2.1.map fun y=>[y]))]⟩) (fun z=>if z.2.2.1=0 then t.length+1 - z.1 else 0) (jT (f i) (kF i),[ke (f i) (yF i)],eR (f i),pR (f i)) ?_ ?_ ?_
 .refine bo fw
 .cases cE:f i with
  | ok x j=>
   obtain⟨g1,g2⟩:=hf i x j hi cE;rw[wN hf hi,cE]at hR;rw[yq hf hi,cE]at hZ;exact .inl ⟨rfl,rfl,g2,[x],rfl,ak,by simp[jT];omega,hR,fun h=>by dsimp only[jT]at h ⊢;simpa only[h,if_true,ang]using hZ⟩
  | err c p q=>
   rw[wN hf hi,cE]at hR;rw[yq hf hi,cE]at hZ;obtain⟨h1,h2,h3⟩:=(fQ i hi).2 _ _ _ cE;exact .inr ⟨h1,ak,c,p,0,hR.symm,rfl,rfl,by rw[<- hZ];rfl,by rw[<- hZ];rfl⟩
 .rintro⟨k,ys,e,p⟩ hI;dsimp only at hI ⊢;refine ag fun K2 au=>?_
  refine (fun zv=>?_) (fun (σ:St) (k:Nat) (ys:List D) (e p:Int) (hl:ys.length<=2001) (LS:(e=0/\p = -1/\∃ acc,ys=acc.map dR/\R = .ok acc k)\/(∃ c p' q,R = .err c p' q/\e=c/\p=p'/\ys=Z.1.map dR ++ [yF Z.2]/\k=kF Z.2)) himp=>
   aF σ (AW.imp (τ:=⟨bg [(0,.ref 500 0 0),(1,.d (.v (.int .u8 sn))),(9,.own 13 0 ys.length)],aw [(500,.box 123 [.d (dS t),int k,int e,int p]),(501,.box 121 [.ref 500 0 0]),(13,.sl 28 1 (ys.map fun y=>[y]))]⟩) himp ?_))
  .rcases hI with⟨rfl,rfl,hk,acc,rfl,LI,hak,gP,nq⟩ | ⟨he,hlen,c,p',q,tw,rfl,rfl,rfl,rfl⟩
   .have gI:=Fs G t k aa hk 0 (-1);have dA:=IX (t:=t) (i:=k) eV;rw[gy]at dA;have mT:=PA (t:=t) (c:=s) (i:=k);obtain⟨t1,t2,t3⟩:=pM (t:=t) (c:=s) hk;have jj:=mw hk;by_cases hb:((qS t k).toNat:Int)=sn
    .rw[decide_eq_true hb]at dA;rw[dA]at gP nq mT t3;simp only[if_true]at gP mT;have nq:=nq rfl;have t3:=t3 rfl;rw[mT]at gP nq t2 t3;have qf:=(Aq fw @hb);refine ko gI [0,1,2,3,9,25] [500,501,13] ?_;refine aJ (aq (au _ ?_));refine bf (ae fw [0,1,2,3,9] [500,501,13] ?_);have uF:=(fQ _ t2).1;rw[anu]at uF
     have tI:(ke (f (bB t k+1)) (yF (bB t k+1))).one=true:=by
      cases cE:f (bB t k+1) with
      | ok x j=>exact y7 x
      | err c p q=>exact ((fQ _ t2).2 _ _ _ cE).2.1
     have vQ:=cells_one tI;refine fD (ay _) fun K' ao=>?_;(repeat refine aK fun Kq af=>?_;simp[ab,bY,dS,vQ,tI,sh];(repeat refine⟨aa,?_⟩);refine af _ ?_);refine aK fun Kq af=>?_;simp[ab,bY,dS,vQ,tI,sh];refine cZ.mc (uF) ?_ ?_ ?_ ?_ ?_<;>simp[ab,bY,dS,vQ,tI,sh];refine af _ ?_;(repeat refine aK fun Kq af=>?_;simp[ab,bY,dS,vQ,tI,sh];(repeat refine⟨aa,?_⟩);refine af _ ?_);refine bH (ao _ ?_);(try simp only[aT,aW]);refine aZ.mk (jT (f (bB t k+1)) (kF (bB t k+1)),acc.map dR ++ [ke (f (bB t k+1)) (yF (bB t k+1))],eR (f (bB t k+1)),pR (f (bB t k+1))) ?_ ?_ ?_
     .cases cE:f (bB t k+1) with
      | ok x j=>
       obtain⟨g1,g2⟩:=hf _ x j t2 cE;rw[wN hf t2,cE]at gP;rw[yq hf t2,cE]at nq;exact .inl ⟨rfl,rfl,g2,acc ++ [x],by simp[ke],ak,by simp[jT];omega,gP,fun h=>by dsimp only[jT]at h ⊢;simpa only[h,if_true]using nq⟩
      | err c p q=>
       rw[wN hf t2,cE]at gP;rw[yq hf t2,cE]at nq;obtain⟨h1,h2,h3⟩:=(fQ _ t2).2 _ _ _ cE;exact .inr ⟨h1,by simp;omega,c,p,0,gP.symm,rfl,rfl,by rw[<- nq];rfl,by rw[<- nq];rfl⟩
     .cases cE:f (bB t k+1) with
      | ok x j=>
       obtain⟨g1,g2⟩:=hf _ x j t2 cE;simp only[eR,jT,if_true];omega
      | err c p q=>
       obtain⟨h1,h2,h3⟩:=(fQ _ t2).2 _ _ _ cE
       have l9:¬ c=0:=aa
       simp[eR,l9];omega
     .refine bo fw
    .rw[decide_eq_false hb]at dA;rw[dA]at gP mT;simp only[amn,if_false]at gP mT;have qf:=(Aq fw @hb);refine ko gI [0,1,2,3,9,25] [500,501,13] ?_;refine al (bL (zv _ (bB t k) (acc.map dR) 0 (-1) (by simp;omega) (.inl ⟨rfl,rfl,acc,rfl,by rw[<- gP,mT]⟩) ?_));refine bo fw
   .have lD:¬ e=0:=aa
    have qf:=(Aq fw @lD);refine ax [0,1,2,3,9,25] [500,501,13] ?_;refine al (bL (zv _ (kF Z.2) _ e p' hlen (.inr ⟨e,p',q,tw,rfl,rfl,rfl,rfl⟩) ?_));refine bo fw
  .obtain⟨h1,h2,h3,h4⟩:=su k ys e p LS;rw[h1,h2,h3,h4];refine ag fun K3 aX=>?_;by_cases jD:ys.length=1
   .obtain⟨y,rfl⟩:=amW.1 jD;refine ae fw [1,9,41] [500,501,13] ?_;refine aJ (ae fw [8] [500,501] ?_);exact aY (Aq fw (Aq @oB.eq_1 @oB.eq_2))
   .have jE:¬ (ys.length:Int)=1:=aa
    have qf:=(Aq fw (Aq @jD @jE));refine ax [1,9,41] [500,501,13] ?_;refine al (aq (aX _ ?_));refine AW.imp (aL.freeze 13 bD) ?_;refine AW.st (by simp[ab,bY,dS,sh];rfl) ?_;have qf:=(Aq fw @L7);refine ax [8] [500,501,49] ?_;refine dZ fw 49 ?_;refine bW ?_;simp[D.le,D.le.go,aP,ab,bY,dS,Jn jD,dS,cu,D.le_refl,D.bC]
theorem aid {r r' s:Nat} (h:r≠r') (hs:s≠r') (hr:s≠r) (row Ax:Row):sT r r' (aw [(r,row),(s,Ax)])=aw [(r',row.tr (iN r r') (iM r r')),(s,Ax.tr (iN r r') (iM r r'))]:=by
 funext q;unfold sT;by_cases h1:q=r'
 .subst h1;simp[aw,List.lookup]
 .rw[if_neg h1];by_cases h2:q=r
  .subst h2;simp[aw,List.lookup,beq_eq_false_iff_ne.2 h1,beq_eq_false_iff_ne.2 (ann hr)]
  .by_cases h3:q=s
   .subst h3;simp[aw,List.lookup,h2,beq_eq_false_iff_ne.2 h1,beq_eq_false_iff_ne.2 h2]
   .simp[aw,List.lookup,h2,beq_eq_false_iff_ne.2 h1,beq_eq_false_iff_ne.2 h2,beq_eq_false_iff_ne.2 h3]
theorem ZV (l:List Ex):dR (vr l)=oB 38 (l.map dR):=by
 match l with
 | []=>rfl
 | [x]=>rfl
 | x :: y :: l=>rw[Jn ak];simp[vr,dR,Bf]
theorem ZX (l:List Ex):dR (vt l)=oB 124 (l.map dR):=by
 match l with
 | []=>rfl
 | [x]=>rfl
 | x :: y :: l=>rw[Jn ak];simp[vt,dR,Bf]
theorem l33:(⟨#[33]⟩:ByteArray)=bs [33]:=rfl
theorem aej:(⟨#[98,105,116]⟩:ByteArray)=bs [98,105,116]:=rfl
theorem aay:Utf8.encode 38=bs [38]:=by decide +kernel
theorem aaw:Utf8.encode 124=bs [124]:=by decide +kernel
theorem aaz:Utf8.encode 48=bs [48]:=by decide +kernel
theorem aaA:Utf8.encode 49=bs [49]:=by decide +kernel
theorem aaB:Utf8.encode 94=bs [94]:=by decide +kernel
theorem aax:Utf8.encode 126=bs [126]:=by decide +kernel
theorem aoK:type_of% (Aq @bY.eq_1 @an9):=(Aq @bY.eq_1 @an9)
theorem ahO (G:aB) (t:List UInt8) (ht:t.length<=2000) (a:Int) (d:Nat) (h:Reads G t [500] [] 108 [.ref 500 0 0,.d (ab a)] d (cR t d)) :
  Reads G t [500,501] [(501,.box 121 [.ref 500 0 0])] 107 [.d (ab a),.ref 501 0 0] d (oL t (cR t d)):=by
 obtain⟨yF,kF,hr⟩:=ahK G t ht 108 38 38 rfl bD aay a d (cR t d) (pK t d) vr ZV h;refine⟨yF,kF,fun i hi=>⟨?_,(hr i hi).2⟩⟩;have hc:=(hr i hi).1;have hR:oL t (cR t d) i=(mv t 38 (cR t d) i []).map vr:=rfl;dsimp only at hc;rw[<- hR]at hc;generalize oL t (cR t d) i=R at hc ⊢;refine MC.aO (ay _) func107 rfl rfl (rs:=[.tmp 3]) results107 (by simp[ntmps107]) rfl fun X=>?_;simp only[ntmps107];have fw:=aou;refine ae fw [0,1] [500,501] ?_;refine bK fw hc [3] [500,501] ?_;exact aY (Aq fw aoK)
theorem V3 (G:aB) (t:List UInt8) (ht:t.length<=2000) (a:Int) (d:Nat) (h:Reads G t [500] [] 108 [.ref 500 0 0,.d (ab a)] d (cR t d)) :
  Reads G t [500] [] 56 [.ref 500 0 0,.d (ab a)] d (mj t (cR t d)):=by
 obtain⟨yF,kF,hr⟩:=ahL G t ht 107 124 124 rfl bD aaw a d (oL t (cR t d)) (C7 (pK t d)) vt ZX (ahO G t ht a d h);refine⟨yF,kF,fun i hi=>⟨?_,(hr i hi).2⟩⟩;have hc:=(hr i hi).1;have hR:mj t (cR t d) i=(mv t 124 (oL t (cR t d)) i []).map vt:=rfl;dsimp only at hc;rw[<- hR]at hc;generalize mj t (cR t d) i=R at hc ⊢;refine MC.aO (ay _) func56 rfl rfl (rs:=[.tmp 4]) results56 (by simp[ntmps56]) rfl fun X=>?_;simp only[ntmps56];have fw:=aou;refine ae fw [1,2] [2,500] ?_;refine AW.imp (aL.eb (r:=2) (r':=501) bD ak) ?_;refine AW.st (by simp[iN,iM,Go.Av.eb,aid];rfl) ?_;refine bK fw hc [4] [500,501] ?_;exact aY (Aq fw aoK)
theorem afp {t:List UInt8} {i:Nat} {c:UInt8} (h:t[bB t i]? = some c):qS t i=c:=by
 unfold qS;rw[ame,h];rfl
theorem afo {t:List UInt8} {i:Nat} {c:UInt8} (hc:c≠0) (h:t[bB t i]?≠some c):¬ ((qS t i).toNat:Int)=(c.toNat:Int):=by
 have h1:=IX (t:=t) (i:=i) hc
 have h2:(eX t c i).1=false:=by
  unfold eX;rw[if_neg h]
 rw[h2]at h1;exact of_decide_eq_false h1.symm
def Cu:Rs Ex->Rs Ex
 | .ok x k=>.ok (.not x) k
 | .err c p _=>.err c p 0
theorem PV {t:List UInt8} {q i j:Nat} {s:List UInt8} (h:gD t q i = .ok s j):jJ t (bB t i)=s:=by
 unfold gD at h;split at h
 .cases h
 .split at h
  .cases h
  .simp only[Rs.ok.injEq]at h;exact h.1
theorem PX {t:List UInt8} {q i p q':Nat} {c:Int} (hi:i<=t.length) (h:gD t q i = .err c p q'):0 < c/\p<=t.length:=by
 have jj:=mw hi;unfold gD at h;split at h
 .simp only[Rs.err.injEq]at h;omega
 .split at h
  .simp only[Rs.err.injEq]at h;omega
  .cases h
theorem ahl (G:aB) (t:List UInt8) (ht:t.length<=2000):∀ (d:Nat) (a:Int),d<=20->a+d=20->Reads G t [500] [] 108 [.ref 500 0 0,.d (ab a)] d (cR t d):=by
 intro d
 induction d with
 | zero=>
  intro a _ ha;refine Jg fun i hi=>⟨.v (.pointer none),bB t i,?_,fun c p q h=>?_⟩
  .have fm:=Fp G t i aa hi 4
   have oU:20<=a:=aa
   rw[cR];show MC _ _ _ _ _ _ (.d (.v (.pointer none))) (aw (bY t (bB t i) 4 (bB t i) ++ []));refine MC.aO (ay _) func108 rfl rfl (rs:=[.tmp 4]) results108 (by simp[ntmps108]) rfl fun X=>?_;simp only[ntmps108];have fw:=aou;refine ae fw [0,1] [500] ?_;refine ag fun K1 aF=>ae fw [0,1,12] [500] ?_;refine al (aq (aF _ ?_));refine ag fun K2 au=>?_;have qf:=(Aq fw @oU);refine ax [0,1,14] [500] ?_;refine aJ (bK fw fm [4] [500] ?_);exact aY (Aq fw aoK)
  .rw[cR]at h;simp only[Rs.err.injEq]at h;have:=mw hi;exact⟨aa,rfl,aa⟩
 | succ d ih=>
  intro a hd ha;have EO:=ih (a+1) aa aa;have z7:=V3 G t ht (a+1) d EO;obtain⟨yF,kF,EO⟩:=EO;obtain⟨yO,kO,z7⟩:=z7;refine Jg fun i hi=>?_;have gI:=Fs G t i aa hi 0 (-1);have jj:=mw hi
  have oU:¬ 20<=a:=aa
  have SH:0<=a:=aa
  have yb:=fun (c:UInt8) (h:t[bB t i]? = some c)=>afp h;have x9:=fun (c:UInt8) (hc:c≠0) (h:t[bB t i]?≠some c)=>afo hc h;have aG:∀ {c:UInt8},t[bB t i]? = some c->bB t i+1<=t.length:=fun h=>(BY.1 h).1;rw[cR];generalize qS t i=b at gI yb x9;generalize bB t i=j at gI jj yb x9 aG ⊢;by_cases uf:t[j]? = some 33
  .rw[if_pos uf];obtain rfl:=yb 33 uf;have hc:=(EO (j+1) (aG uf)).1;rw[anu]at hc;have he:=(EO (j+1) (aG uf)).2
   have lH:(ke (cR t d (j+1)) (yF (j+1))).one=true:=by
    cases cE:cR t d (j+1) with
    | ok x k=>exact y7 x
    | err c p q=>exact (he _ _ _ cE).2.1
   have BH:=cells_one lH
   change ∃ y k,F2 G t [500] [] 108 [.ref 500 0 0,.d (ab a)] (d+1) (Cu (cR t d (j+1))) i y k
   generalize vJ:cR t d (j+1)=R at hc he lH BH ⊢;refine⟨.ip [dS [33],dS [],.sl none [[yF (j+1)]]],kF (j+1),?_,fun c p q h=>?_⟩
   .have h1:ke (Cu R) (.ip [dS [33],dS [],.sl none [[yF (j+1)]]]) = .ip [dS [33],dS [],.sl none [[ke R (yF (j+1))]]]:=by cases R<;>rfl
    have h2:jT (Cu R) (kF (j+1))=jT R (kF (j+1)):=by cases R<;>rfl
    have h3:eR (Cu R)=eR R:=by cases R<;>rfl
    have h4:pR (Cu R)=pR R:=by cases R<;>rfl
    rw[h1,h2,h3,h4];refine MC.aO (ay _) func108 rfl rfl (rs:=[.tmp 4]) results108 (by simp[ntmps108]) rfl fun X=>?_;simp only[ntmps108];have fw:=aou;refine ae fw [0,1] [500] ?_;refine ag fun K1 aF=>ae fw [0,1,12] [500] ?_;refine al (aq (aF _ ?_));refine ag fun K2 au=>?_;have qf:=(Aq fw @oU);refine ax [0,1,14] [500] ?_;refine al (aq (au _ ?_));refine ag fun K3 aX=>bK fw gI [0,1,5] [500] ?_;refine ae fw [0,1,5,19] [500] ?_;refine bf (ae fw [0,1,5,19,20] [500] ?_);refine aJ (ae fw [0,1] [500] ?_);have qf:=(Aq fw (Aq @BH (Aq @lH @l33)));refine ko hc [4] [33,35,500] ?_;refine AW.imp (aL.freeze 33 bD) ?_;refine AW.st (by simp[ab,bY,dS];rfl) ?_;refine dZ fw 35 ?_;refine bW ?_;simp[D.le,D.le.go,aP,ab,bY,dS,bY,dS,cu,D.le_refl,D.bC]
   .cases R with
    | ok x k=>cases h
    | err c' p' q'=>
     simp only[Cu,Rs.err.injEq]at h;obtain⟨rfl,rfl,rfl⟩:=h;obtain⟨g1,g2,g3⟩:=he _ _ _ rfl;exact⟨g1,rfl,aa⟩
  rw[if_neg uf];have n33:¬ (b.toNat:Int)=33:=x9 33 bD uf;by_cases c40:t[j]? = some 40
  .rw[if_pos c40];obtain rfl:=yb 40 c40;have hc:=(z7 (j+1) (aG c40)).1;rw[anu]at hc;have he:=(z7 (j+1) (aG c40)).2
   cases hr:mj t (cR t d) (j+1) with
   | err c p q=>
    rw[hr]at hc;obtain⟨g1,g2,g3⟩:=he _ _ _ hr
    have g4:¬ c=0:=aa
    refine⟨yO (j+1),kO (j+1)+1,?_,fun c' p' q' h=>?_⟩
    .show MC _ _ _ _ _ _ (.d (yO (j+1))) (aw (bY t ((kO (j+1)+1:Nat):Int) c p ++ []));rw[anu];refine MC.aO (ay _) func108 rfl rfl (rs:=[.tmp 4]) results108 (by simp[ntmps108]) rfl fun X=>?_;simp only[ntmps108];have fw:=aou;refine ae fw [0,1] [500] ?_;refine ag fun K1 aF=>ae fw [0,1,12] [500] ?_;refine al (aq (aF _ ?_));refine ag fun K2 au=>?_;have qf:=(Aq fw @oU);refine ax [0,1,14] [500] ?_;refine al (aq (au _ ?_));refine ag fun K3 aX=>bK fw gI [0,1,5] [500] ?_;refine ae fw [0,1,5,19] [500] ?_;refine bf (ae fw [0,1,5,19,20] [500] ?_);refine al (ae fw [0,1,5,19,36] [500] ?_);refine aJ (ae fw [0,1] [500] ?_);refine bK (Aq fw (Aq @ke.eq_1 (Aq @ke.eq_2 (Aq @jT.eq_1 (Aq @jT.eq_2 (Aq @eR.eq_1 (Aq @eR.eq_2 (Aq @pR.eq_1 @pR.eq_2)))))))) hc [0,6] [500] ?_;refine ag fun K4 b6=>?_;have qf:=(Aq fw @g4);refine ax [0,6,59] [500] ?_;refine al (aq (b6 _ ?_));refine ae fw [6] [500] ?_;refine ae fw [4] [500] ?_;exact aY (Aq fw aoK)
    .simp only[Rs.err.injEq]at h;obtain⟨rfl,rfl,rfl⟩:=h;exact⟨g1,g2,aa⟩
   | ok x k=>
    rw[hr]at hc;dsimp only[ke,jT,eR,pR]at hc;have hk:=(wL (pK t d) (j+1) x k (aG c40) hr).2;have lU:=Fs G t k aa hk 0 (-1);have fW:=mw hk;have fm:=Fp G t (bB t k) aa fW 3;rw[AF hk]at fm;have dA:=IX (t:=t) (i:=k) (c:=41) bD;have mT:=PA (t:=t) (c:=41) (i:=k);have ab5:((41:UInt8).toNat:Int)=41:=rfl;rw[ab5]at dA;dsimp only;by_cases hb:((qS t k).toNat:Int)=41
    .rw[decide_eq_true hb]at dA;rw[dA]at mT ⊢;simp only[if_true]at mT ⊢;rw[mT];refine⟨default,0,?_,fun c p q h=>by cases h⟩;show MC _ _ _ _ _ _ (.d (dR x)) (aw (bY t ((bB t k+1:Nat):Int) 0 (-1) ++ []));rw[anu];obtain⟨cx,hx⟩:=uj x;rw[hx]at hc ⊢;refine MC.aO (ay _) func108 rfl rfl (rs:=[.tmp 4]) results108 (by simp[ntmps108]) rfl fun X=>?_;simp only[ntmps108];have fw:=aou;refine ae fw [0,1] [500] ?_;refine ag fun K1 aF=>ae fw [0,1,12] [500] ?_;refine al (aq (aF _ ?_));refine ag fun K2 au=>?_;have qf:=(Aq fw @oU);refine ax [0,1,14] [500] ?_;refine al (aq (au _ ?_));refine ag fun K3 aX=>bK fw gI [0,1,5] [500] ?_;refine ae fw [0,1,5,19] [500] ?_;refine bf (ae fw [0,1,5,19,20] [500] ?_);refine al (ae fw [0,1,5,19,36] [500] ?_);refine aJ (ae fw [0,1] [500] ?_);refine bK fw hc [0,6] [500] ?_;refine ag fun K4 b6=>?_;have qf:=(Aq fw @hb);refine ko lU [0,6,59] [500] ?_;refine al (aq (b6 _ ?_));refine ae fw [6] [500] ?_;refine ae fw [4] [500] ?_;exact aY (Aq fw aoK)
    .rw[decide_eq_false hb]at dA;rw[dA]at mT ⊢;simp only[amn,if_false]at mT ⊢;rw[mT];refine⟨.v (.pointer none),bB t k,?_,fun c p q h=>?_⟩
     .show MC _ _ _ _ _ _ (.d (.v (.pointer none))) (aw (bY t (bB t k) 3 (bB t k) ++ []));obtain⟨cx,hx⟩:=uj x;rw[hx]at hc;refine MC.aO (ay _) func108 rfl rfl (rs:=[.tmp 4]) results108 (by simp[ntmps108]) rfl fun X=>?_;simp only[ntmps108];have fw:=aou;refine ae fw [0,1] [500] ?_;refine ag fun K1 aF=>ae fw [0,1,12] [500] ?_;refine al (aq (aF _ ?_));refine ag fun K2 au=>?_;have qf:=(Aq fw @oU);refine ax [0,1,14] [500] ?_;refine al (aq (au _ ?_));refine ag fun K3 aX=>bK fw gI [0,1,5] [500] ?_;refine ae fw [0,1,5,19] [500] ?_;refine bf (ae fw [0,1,5,19,20] [500] ?_);refine al (ae fw [0,1,5,19,36] [500] ?_);refine aJ (ae fw [0,1] [500] ?_);refine bK fw hc [0,6] [500] ?_;refine ag fun K4 b6=>?_;have qf:=(Aq fw @hb);refine ko lU [0,6,59] [500] ?_;refine aJ (bK fw fm [4] [500] ?_);exact aY (Aq fw aoK)
     .simp only[Rs.err.injEq]at h;exact⟨aa,rfl,aa⟩
  rw[if_neg c40];have Co:¬ (b.toNat:Int)=40:=x9 40 bD c40;by_cases w9:t[j]? = some 48
  .rw[if_pos w9];obtain rfl:=yb 48 w9;have:=aG w9;refine⟨default,0,?_,fun c p q h=>by cases h⟩;show MC _ _ _ _ _ _ (.d (.ip [dS [48],dS [],e8])) (aw (bY t ((j+1:Nat):Int) 0 (-1) ++ []));rw[anu];refine MC.aO (ay _) func108 rfl rfl (rs:=[.tmp 4]) results108 (by simp[ntmps108]) rfl fun X=>?_;simp only[ntmps108];have fw:=aou;refine ae fw [0,1] [500] ?_;refine ag fun K1 aF=>ae fw [0,1,12] [500] ?_;refine al (aq (aF _ ?_));refine ag fun K2 au=>?_;have qf:=(Aq fw @oU);refine ax [0,1,14] [500] ?_;refine al (aq (au _ ?_));refine ag fun K3 aX=>bK fw gI [0,1,5] [500] ?_;refine ae fw [0,1,5,19] [500] ?_;refine bf (ae fw [0,1,5,19,20] [500] ?_);refine al (ae fw [0,1,5,19,36] [500] ?_);refine al (ag fun K5 b5=>?_);refine ae fw [0,5,19,70] [500] ?_;refine aJ (aq (b5 _ ?_));refine aJ (ae fw [5] [500] ?_);have qf:=(Aq fw (Aq @aaz @e8.eq_1));refine ax [4] [83,500] ?_;refine dZ fw 83 ?_;refine bW ?_;simp[D.le,D.le.go,aP,ab,bY,dS,bY,dS,e8,cu,D.le_refl,D.bC]
  rw[if_neg w9];have Cp:¬ (b.toNat:Int)=48:=x9 48 bD w9;by_cases c49:t[j]? = some 49
  .rw[if_pos c49];obtain rfl:=yb 49 c49;have:=aG c49;refine⟨default,0,?_,fun c p q h=>by cases h⟩;show MC _ _ _ _ _ _ (.d (.ip [dS [49],dS [],e8])) (aw (bY t ((j+1:Nat):Int) 0 (-1) ++ []));rw[anu];refine MC.aO (ay _) func108 rfl rfl (rs:=[.tmp 4]) results108 (by simp[ntmps108]) rfl fun X=>?_;simp only[ntmps108];have fw:=aou;refine ae fw [0,1] [500] ?_;refine ag fun K1 aF=>ae fw [0,1,12] [500] ?_;refine al (aq (aF _ ?_));refine ag fun K2 au=>?_;have qf:=(Aq fw @oU);refine ax [0,1,14] [500] ?_;refine al (aq (au _ ?_));refine ag fun K3 aX=>bK fw gI [0,1,5] [500] ?_;refine ae fw [0,1,5,19] [500] ?_;refine bf (ae fw [0,1,5,19,20] [500] ?_);refine al (ae fw [0,1,5,19,36] [500] ?_);refine al (ag fun K5 b5=>?_);refine ae fw [0,5,19,70] [500] ?_;refine al (gq fw b5 [0,5,19,70] [500] ?_);refine aJ (ae fw [5] [500] ?_);have qf:=(Aq fw (Aq @aaA @e8.eq_1));refine ax [4] [83,500] ?_;refine dZ fw 83 ?_;refine bW ?_;simp[D.le,D.le.go,aP,ab,bY,dS,bY,dS,e8,cu,D.le_refl,D.bC]
  rw[if_neg c49];have Cq:¬ (b.toNat:Int)=49:=x9 49 bD c49;by_cases vq:t[j]? = some 94
  .rw[if_pos vq];obtain rfl:=yb 94 vq;have hj:=aG vq;have hw:=OV G t 1 (j+1) aa hj;rw[anu]at hw;have tO:∀ s k,gD t 1 (j+1) = .ok s k->jJ t (bB t (j+1))=s:=fun s k h=>PV h;have xU:∀ c p q',gD t 1 (j+1) = .err c p q'->0 < c/\p<=t.length:=fun c p q' h=>PX hj h;generalize hW:gD t 1 (j+1)=W at hw tO xU ⊢;generalize jJ t (bB t (j+1))=sw at hw tO;refine⟨.ip [dS [94],dS sw,e8],dh W,?_,fun c p q h=>?_⟩
   .have h1:ke (W.map .jV) (.ip [dS [94],dS sw,e8]) = .ip [dS [94],dS sw,e8]:=by
     cases W with
     | ok s k=>obtain rfl:=tO _ _ rfl;rfl
     | err c p q=>rfl
    have h2:jT (W.map Ex.jV) (dh W)=dh W:=by cases W<;>rfl
    have h3:eR (W.map Ex.jV)=eR W:=by cases W<;>rfl
    have h4:pR (W.map Ex.jV)=pR W:=by cases W<;>rfl
    rw[h1,h2,h3,h4];refine MC.aO (ay _) func108 rfl rfl (rs:=[.tmp 4]) results108 (by simp[ntmps108]) rfl fun X=>?_;simp only[ntmps108];have fw:=aou;refine ae fw [0,1] [500] ?_;refine ag fun K1 aF=>ae fw [0,1,12] [500] ?_;refine al (aq (aF _ ?_));refine ag fun K2 au=>?_;have qf:=(Aq fw @oU);refine ax [0,1,14] [500] ?_;refine al (aq (au _ ?_));refine ag fun K3 aX=>bK fw gI [0,1,5] [500] ?_;refine ae fw [0,1,5,19] [500] ?_;refine bf (ae fw [0,1,5,19,20] [500] ?_);refine al (ae fw [0,1,5,19,36] [500] ?_);refine al (ag fun K5 b5=>?_);refine ae fw [0,5,19,70] [500] ?_;refine al (gq fw b5 [0,5,19,70] [500] ?_);refine al (ag fun K6 dy=>?_);refine ae fw [0,5,19,84] [500] ?_;refine aJ (aq (dy _ ?_));refine aJ (ae fw [0,5] [500] ?_);have qf:=(Aq fw (Aq @aaB @e8.eq_1));refine ko hw [4] [99,500] ?_;refine dZ fw 99 ?_;refine bW ?_;simp[D.le,D.le.go,aP,ab,bY,dS,bY,dS,e8,cu,D.le_refl,D.bC]
   .cases W with
    | ok s k=>cases h
    | err c' p' q'=>
     simp only[Rs.map,Rs.err.injEq]at h;obtain⟨rfl,rfl,rfl⟩:=h;obtain⟨g1,g2⟩:=xU _ _ _ rfl;exact⟨g1,rfl,by simp only[dh];omega⟩
  rw[if_neg vq];have Cr:¬ (b.toNat:Int)=94:=x9 94 bD vq;by_cases vp:t[j]? = some 126
  .rw[if_pos vp];obtain rfl:=yb 126 vp;have hj:=aG vp;have hw:=OV G t 2 (j+1) aa hj;rw[anu]at hw;have tO:∀ s k,gD t 2 (j+1) = .ok s k->jJ t (bB t (j+1))=s:=fun s k h=>PV h;have xU:∀ c p q',gD t 2 (j+1) = .err c p q'->0 < c/\p<=t.length:=fun c p q' h=>PX hj h;generalize hW:gD t 2 (j+1)=W at hw tO xU ⊢;generalize jJ t (bB t (j+1))=sw at hw tO;refine⟨.ip [dS [126],dS sw,e8],dh W,?_,fun c p q h=>?_⟩
   .have h1:ke (W.map .jL) (.ip [dS [126],dS sw,e8]) = .ip [dS [126],dS sw,e8]:=by
     cases W with
     | ok s k=>obtain rfl:=tO _ _ rfl;rfl
     | err c p q=>rfl
    have h2:jT (W.map Ex.jL) (dh W)=dh W:=by cases W<;>rfl
    have h3:eR (W.map Ex.jL)=eR W:=by cases W<;>rfl
    have h4:pR (W.map Ex.jL)=pR W:=by cases W<;>rfl
    rw[h1,h2,h3,h4];refine MC.aO (ay _) func108 rfl rfl (rs:=[.tmp 4]) results108 (by simp[ntmps108]) rfl fun X=>?_;simp only[ntmps108];have fw:=aou;refine ae fw [0,1] [500] ?_;refine ag fun K1 aF=>ae fw [0,1,12] [500] ?_;refine al (aq (aF _ ?_));refine ag fun K2 au=>?_;have qf:=(Aq fw @oU);refine ax [0,1,14] [500] ?_;refine al (aq (au _ ?_));refine ag fun K3 aX=>bK fw gI [0,1,5] [500] ?_;refine ae fw [0,1,5,19] [500] ?_;refine bf (ae fw [0,1,5,19,20] [500] ?_);refine al (ae fw [0,1,5,19,36] [500] ?_);refine al (ag fun K5 b5=>?_);refine ae fw [0,5,19,70] [500] ?_;refine al (gq fw b5 [0,5,19,70] [500] ?_);refine al (ag fun K6 dy=>?_);refine ae fw [0,5,19,84] [500] ?_;refine al (gq fw dy [0,5,84] [500] ?_);refine aJ (ae fw [0,5] [500] ?_);have qf:=(Aq fw (Aq @aax @e8.eq_1));refine ko hw [4] [99,500] ?_;refine dZ fw 99 ?_;refine bW ?_;simp[D.le,D.le.go,aP,ab,bY,dS,bY,dS,e8,cu,D.le_refl,D.bC]
   .cases W with
    | ok s k=>cases h
    | err c' p' q'=>
     simp only[Rs.map,Rs.err.injEq]at h;obtain⟨rfl,rfl,rfl⟩:=h;obtain⟨g1,g2⟩:=xU _ _ _ rfl;exact⟨g1,rfl,by simp only[dh];omega⟩
  rw[if_neg vp];have n126:¬ (b.toNat:Int)=126:=x9 126 bD vp;have hw:=OV G t 3 j aa jj;have tO:∀ s k,gD t 3 j = .ok s k->jJ t (bB t j)=s:=fun s k h=>PV h;have xU:∀ c p q',gD t 3 j = .err c p q'->0 < c/\p<=t.length:=fun c p q' h=>PX jj h;generalize hW:gD t 3 j=W at hw tO xU ⊢;generalize jJ t (bB t j)=sw at hw tO;refine⟨.ip [dS [98,105,116],dS sw,e8],dh W,?_,fun c p q h=>?_⟩
  .have h1:ke (W.map .bit) (.ip [dS [98,105,116],dS sw,e8]) = .ip [dS [98,105,116],dS sw,e8]:=by
    cases W with
    | ok s k=>obtain rfl:=tO _ _ rfl;rfl
    | err c p q=>rfl
   have h2:jT (W.map Ex.bit) (dh W)=dh W:=by cases W<;>rfl
   have h3:eR (W.map Ex.bit)=eR W:=by cases W<;>rfl
   have h4:pR (W.map Ex.bit)=pR W:=by cases W<;>rfl
   rw[h1,h2,h3,h4];refine MC.aO (ay _) func108 rfl rfl (rs:=[.tmp 4]) results108 (by simp[ntmps108]) rfl fun X=>?_;simp only[ntmps108];have fw:=aou;refine ae fw [0,1] [500] ?_;refine ag fun K1 aF=>ae fw [0,1,12] [500] ?_;refine al (aq (aF _ ?_));refine ag fun K2 au=>?_;have qf:=(Aq fw @oU);refine ax [0,1,14] [500] ?_;refine al (aq (au _ ?_));refine ag fun K3 aX=>bK fw gI [0,1,5] [500] ?_;refine ae fw [0,1,5,19] [500] ?_;refine bf ?_;have qf:=(Aq fw (Aq @n33 (Aq @Co (Aq @Cp (Aq @Cq (Aq @Cr @n126))))));refine ax [0,1,5,19,20] [500] ?_;refine al ?_;have qf:=(Aq fw (Aq @n33 (Aq @Co (Aq @Cp (Aq @Cq (Aq @Cr @n126))))));refine ax [0,1,5,19,36] [500] ?_;refine al (ag fun K5 b5=>?_);have qf:=(Aq fw (Aq @n33 (Aq @Co (Aq @Cp (Aq @Cq (Aq @Cr @n126))))));refine ax [0,5,19,70] [500] ?_;refine al ?_;have qf:=(Aq fw (Aq @n33 (Aq @Co (Aq @Cp (Aq @Cq (Aq @Cr @n126))))));refine eM b5 [0,5,19,70] [500] ?_;refine al (ag fun K6 dy=>?_);have qf:=(Aq fw (Aq @n33 (Aq @Co (Aq @Cp (Aq @Cq (Aq @Cr @n126))))));refine ax [0,5,19,84] [500] ?_;refine al ?_;have qf:=(Aq fw (Aq @n33 (Aq @Co (Aq @Cp (Aq @Cq (Aq @Cr @n126))))));refine eM dy [0,5,84] [500] ?_;refine al (aq (aX _ ?_));have qf:=(Aq fw (Aq @e8.eq_1 @aej));refine ko hw [4] [103,500] ?_;refine dZ fw 103 ?_;refine bW ?_;simp[D.le,D.le.go,aP,ab,bY,dS,bY,dS,e8,cu,D.le_refl,D.bC]
  .cases W with
   | ok s k=>cases h
   | err c' p' q'=>
    simp only[Rs.map,Rs.err.injEq]at h;obtain⟨rfl,rfl,rfl⟩:=h;obtain⟨g1,g2⟩:=xU _ _ _ rfl;exact⟨g1,rfl,by simp only[dh];omega⟩
def eh (all:Bool):Ex->List UInt8
 | .bit s=>if all then s else []
 | .jV s=>s
 | .jL s=>s
 | _=>[]
def iK (s:List UInt8):List (List UInt8):=if s=[] then [] else [s]
mutual
def dH (all:Bool):Ex->List (List UInt8)
 | .not e=>dH all e
 | .and l=>gJ all l
 | .or l=>gJ all l
 | e=>iK (eh all e)
def gJ (all:Bool):List Ex->List (List UInt8)
 | []=>[]
 | e :: l=>dH all e ++ gJ all l
end
theorem Vk (all:Bool):∀ a b:List Ex,gJ all (a ++ b)=gJ all a ++ gJ all b
 | [],b=>rfl
 | e :: a,b=>by simp[gJ,Vk all a b]
theorem Ow (all:Bool) {l:List Ex} {i:Nat} (hi:i < l.length):gJ all (l.take (i+1))=gJ all (l.take i) ++ dH all l[i]:=by
 rw[aml hi,Vk];simp[gJ]
theorem Ox (all:Bool):∀ (n:Nat) (e:Ex),SizeOf.sizeOf e<=n->(dH all e).length<=bE e
 | 0,e,hn=>by cases e<;>simp at hn
 | n+1,e,hn=>by
  have many:∀ l:List Ex,(∀ x∈l,SizeOf.sizeOf x<=n)->(gJ all l).length<=iP l:=by
   intro l
   induction l with
   | nil=>intro _;simp[gJ]
   | cons x l ih=>
    intro h;have a:=ih fun y hy=>h y (by simp[hy]);have b:=Ox all n x (h x ak);simp only[gJ,iP,amp];omega
  have lH:∀ s,(iK s).length<=1:=fun s=>by unfold iK;split<;>simp
  have hp:=Ga e
  cases e with
  | not x=>have:=Ox all n x (by simp at hn;omega);simp only[dH,bE];omega
  | and l=>
   have:=many l fun x hx=>by have:=amL hx;simp only[Ex.and.sizeOf_spec]at hn;omega
   simp only[dH,bE];omega
  | or l=>
   have:=many l fun x hx=>by have:=amL hx;simp only[Ex.or.sizeOf_spec]at hn;omega
   simp only[dH,bE];omega
  | iW b=>have:=lH (eh all (.iW b));simp only[dH];omega
  | bit s=>have:=lH (eh all (.bit s));simp only[dH];omega
  | jV s=>have:=lH (eh all (.jV s));simp only[dH];omega
  | jL s=>have:=lH (eh all (.jL s));simp only[dH];omega
theorem x8 (all:Bool) (e:Ex):(dH all e).length<=bE e:=Ox all _ e (amh _)
theorem Ff (all:Bool):∀ l:List Ex,(gJ all l).length<=iP l
 | []=>by simp[gJ]
 | e :: l=>by have:=x8 all e;have:=Ff all l;simp only[gJ,iP,amp];omega
def fo (l:List (List UInt8)):List (Nat×Row):=[(502,.box 77 [.own 503 0 l.length]),(503,.sl 9 1 (l.map fun s=>[dS s]))]
def sg (all:Bool):FuncId:=if all then 64 else 147
theorem aoA:type_of% (Aq @eh.eq_1 (Aq @eh.eq_2 (Aq @eh.eq_3 (Aq @eh.eq_4 @an9)))):=(Aq @eh.eq_1 (Aq @eh.eq_2 (Aq @eh.eq_3 (Aq @eh.eq_4 @an9))))
theorem aoy:type_of% (Aq @an8 (Aq @an9 (Aq @aol (Aq @aom @aon)))):=(Aq @an8 (Aq @an9 (Aq @aol (Aq @aom @aon))))
theorem afb (G:aB) (e:Ex):aD prog G 64 [dE e] (dS (eh true e)):=by
 by_cases h1:∃ s,e = .bit s
 .obtain⟨s,rfl⟩:=h1;rw[dE];refine aD.aO (ay _) func64 rfl rfl (rs:=[.tmp 2]) results64 (by simp[ntmps64]) fun X=>?_;simp only[ntmps64,List.map];have fw:=aoy;refine ae fw [0] [] ?_;refine ag fun K1 aF=>ae fw [6] [] ?_;refine bf (ae fw [6,8,9] [] ?_);refine aJ (ae fw [3] [] ?_);refine ae fw [2] [] ?_;exact aY (Aq fw aoA)
 by_cases h2:∃ s,e = .jV s
 .obtain⟨s,rfl⟩:=h2;rw[dE];refine aD.aO (ay _) func64 rfl rfl (rs:=[.tmp 2]) results64 (by simp[ntmps64]) fun X=>?_;simp only[ntmps64,List.map];have fw:=aoy;refine ae fw [0] [] ?_;refine ag fun K1 aF=>ae fw [6] [] ?_;refine bf (ae fw [6,8,9] [] ?_);refine al (ae fw [6,12,13] [] ?_);refine aJ (ae fw [4] [] ?_);refine ae fw [2] [] ?_;exact aY (Aq fw aoA)
 by_cases h3:∃ s,e = .jL s
 .obtain⟨s,rfl⟩:=h3;rw[dE];refine aD.aO (ay _) func64 rfl rfl (rs:=[.tmp 2]) results64 (by simp[ntmps64]) fun X=>?_;simp only[ntmps64,List.map];have fw:=aoy;refine ae fw [0] [] ?_;refine ag fun K1 aF=>ae fw [6] [] ?_;refine bf (ae fw [6,8,9] [] ?_);refine al (ae fw [6,12,13] [] ?_);refine al (ae fw [16,17] [] ?_);refine aJ (ae fw [5] [] ?_);refine ae fw [2] [] ?_;exact aY (Aq fw aoA)
 have hk:∃ t c,dE e = .cC t c/\¬ t=134/\¬ t=135/\¬ t=136/\eh true e=[]:=by
  cases e with
  | bit s=>exact absurd ⟨s,rfl⟩ h1
  | jV s=>exact absurd ⟨s,rfl⟩ h2
  | jL s=>exact absurd ⟨s,rfl⟩ h3
  | iW b=>exact⟨_,_,by rw[dE],bD,bD,bD,rfl⟩
  | not b=>exact⟨_,_,by rw[dE],bD,bD,bD,rfl⟩
  | and b=>exact⟨_,_,by rw[dE],bD,bD,bD,rfl⟩
  | or b=>exact⟨_,_,by rw[dE],bD,bD,bD,rfl⟩
 obtain⟨t,c,hy,a1,a2,a3,a4⟩:=hk;rw[a4,hy];refine aD.aO (ay _) func64 rfl rfl (rs:=[.tmp 2]) results64 (by simp[ntmps64]) fun X=>?_;simp only[ntmps64,List.map];have fw:=aoy;refine ae fw [0] [] ?_;refine ag fun K1 aF=>ae fw [6] [] ?_;refine bf ?_;have qf:=(Aq fw @a1);refine ax [6,8,9] [] ?_;refine al ?_;have qf:=(Aq fw @a2);refine ax [6,12,13] [] ?_;refine al ?_;have qf:=(Aq fw @a3);refine ax [16,17] [] ?_;refine al (aq (aF _ ?_));refine ae fw [2] [] ?_;refine bW ?_;simp[D.le,D.le.go,aP,ab,dS,b9,dk,dS,cu,D.le_refl]
theorem aaq (G:aB) (e:Ex):aD prog G 147 [dE e] (dS (eh false e)):=by
 by_cases h2:∃ s,e = .jV s
 .obtain⟨s,rfl⟩:=h2;rw[dE];refine aD.aO (ay _) func147 rfl rfl (rs:=[.tmp 2]) results147 (by simp[ntmps147]) fun X=>?_;simp only[ntmps147,List.map];have fw:=aoy;refine ae fw [0] [] ?_;refine ag fun K1 aF=>ae fw [5] [] ?_;refine bf (ae fw [5,7,8] [] ?_);refine aJ (ae fw [3] [] ?_);refine ae fw [2] [] ?_;exact aY (Aq fw aoA)
 by_cases h3:∃ s,e = .jL s
 .obtain⟨s,rfl⟩:=h3;rw[dE];refine aD.aO (ay _) func147 rfl rfl (rs:=[.tmp 2]) results147 (by simp[ntmps147]) fun X=>?_;simp only[ntmps147,List.map];have fw:=aoy;refine ae fw [0] [] ?_;refine ag fun K1 aF=>ae fw [5] [] ?_;refine bf (ae fw [5,7,8] [] ?_);refine al (ae fw [11,12] [] ?_);refine aJ (ae fw [4] [] ?_);refine ae fw [2] [] ?_;exact aY (Aq fw aoA)
 have hk:∃ t c,dE e = .cC t c/\¬ t=135/\¬ t=136/\eh false e=[]:=by
  cases e with
  | jV s=>exact absurd ⟨s,rfl⟩ h2
  | jL s=>exact absurd ⟨s,rfl⟩ h3
  | iW b=>exact⟨_,_,by rw[dE],bD,bD,rfl⟩
  | bit b=>exact⟨_,_,by rw[dE],bD,bD,rfl⟩
  | not b=>exact⟨_,_,by rw[dE],bD,bD,rfl⟩
  | and b=>exact⟨_,_,by rw[dE],bD,bD,rfl⟩
  | or b=>exact⟨_,_,by rw[dE],bD,bD,rfl⟩
 obtain⟨t,c,hy,a2,a3,a4⟩:=hk;rw[a4,hy];refine aD.aO (ay _) func147 rfl rfl (rs:=[.tmp 2]) results147 (by simp[ntmps147]) fun X=>?_;simp only[ntmps147,List.map];have fw:=aoy;refine ae fw [0] [] ?_;refine ag fun K1 aF=>ae fw [5] [] ?_;refine bf ?_;have qf:=(Aq fw @a2);refine ax [5,7,8] [] ?_;refine al ?_;have qf:=(Aq fw @a3);refine ax [11,12] [] ?_;refine al (aq (aF _ ?_));refine ae fw [2] [] ?_;refine bW ?_;simp[D.le,D.le.go,aP,ab,dS,b9,dk,dS,cu,D.le_refl]
theorem ae6 (G:aB) (all:Bool) (e:Ex):aD prog G (sg all) [dE e] (dS (eh all e)):=by
 cases all with
 | true=>exact afb G e
 | false=>exact aaq G e
theorem GP (G:aB) (all:Bool) (l:List (List UInt8)) (e:Ex) (hl:l.length < 2^40):MC prog G [502] 113 ([.d (dE e)] ++ [.d (.ip [.fn (.func (sg all)) []]),.ref 502 0 0]) (aw (fo l)) (.d (.bz [])) (aw (fo (l ++ iK (eh all e)))):=by
 have hn:=ae6 G all e;obtain⟨t,c,hx⟩:=js e;rw[hx]at hn ⊢;generalize sg all=g at hn ⊢;generalize eh all e=s at hn ⊢;by_cases hs:s=[]
 .subst hs
  have he:l ++ iK []=l:=by simp[iK]
  rw[he];refine MC.aO (ay _) func113 rfl rfl (rs:=[]) results113 (by simp[ntmps113]) rfl fun X=>?_;simp only[ntmps113];have fw:=(Aq @an8 (Aq @an9 @fo.eq_1));refine bh fw hn [2,4] [502,503] ?_;refine rg [2,4,9] [502,503] (dT rfl) fun K' ao=>?_;(repeat refine aK fun Kq af=>?_;simp[ab,dS,fo,bu,bA,cu];(repeat refine⟨aa,?_⟩);refine af _ ?_);refine bH (ao _ (AW.st (by simp[ab,dS,fo,bu,bA,cu];rfl) ?_));refine al (aq ?_);simp[D.le_refl,fo,dS]
 .have he:iK s=[s]:=by unfold iK;rw[if_neg hs]
  have wz:s.isEmpty=false:=by rw[anC];exact hs
  have zO:(s == [])=false:=by simpa using hs
  rw[he];refine MC.aO (ay _) func113 rfl rfl (rs:=[]) results113 (by simp[ntmps113]) rfl fun X=>?_;simp only[ntmps113];have fw:=(Aq @an8 (Aq @an9 @fo.eq_1));refine bh fw hn [2,4] [502,503] ?_;refine rg [2,4,9] [502,503] (dT rfl) fun K' ao=>?_;(repeat refine aK fun Kq af=>?_;simp[ab,dS,fo,bu,bA,cu,hs,wz,zO];(repeat refine⟨aa,?_⟩);refine af _ ?_);refine bH (ao _ (AW.st (by simp[ab,dS,fo,bu,bA,cu,hs,wz,zO];rfl) ?_));refine aJ (fD (ay _) fun K' ao=>?_);(repeat refine aK fun Kq af=>?_;simp[ab,dS,fo,sh];(repeat refine⟨aa,?_⟩);refine af _ ?_);refine bH (ao _ ?_);(try simp only[aT,aW]);simp[D.le_refl,fo,dS]
theorem aow:type_of% (Aq @an8 (Aq @an9 (Aq @fo.eq_1 (Aq @aol (Aq @aom @aon))))):=(Aq @an8 (Aq @an9 (Aq @fo.eq_1 (Aq @aol (Aq @aom @aon)))))
theorem akq (G:aB) (all:Bool):∀ (m:Nat) (e:Ex),SizeOf.sizeOf e<=m->∀ l0:List (List UInt8),l0.length+bE e<=2^39->MC prog G [502] 112 [.d (dE e),.fn (.func 113) [.d (.ip [.fn (.func (sg all)) []]),.ref 502 0 0]] (aw (fo l0)) (.d (.bz [])) (aw (fo (l0 ++ dH all e))):=by
 intro m
 induction m with
 | zero=>intro e bp;cases e<;>simp at bp
 | succ m ih=>
  intro e bp l0 hb;have hbp:=Ga e;by_cases hN:∃ x,e = .not x
  .obtain⟨x,rfl⟩:=hN;simp only[bE]at hb;obtain⟨tx,cx,hx⟩:=js x;have e7:=GP G all l0 (.not x) aa;have Ep:iK (eh all (.not x))=[]:=rfl;rw[Ep,am0,ank]at e7;have hc:=ih x (by simp at bp;omega) l0 aa;rw[dH];rw[dE,hx];rw[dE,hx]at e7;rw[hx]at hc;generalize l0 ++ dH all x=l1 at hc ⊢;generalize sg all=g at hc e7 ⊢;refine MC.aO (ay _) func112 rfl rfl (rs:=[]) results112 (by simp[ntmps112]) rfl fun X=>?_;simp only[ntmps112];have fw:=aow;refine bK fw e7 [0,1] [502,503] ?_;refine ae fw [1,14] [502,503] ?_;refine bf (ae fw [1,14,16,17] [502,503] ?_);refine aJ (ae fw [1,4] [4,502,503] ?_);refine fD (ay _) fun K' ao=>?_;(repeat refine aK fun Kq af=>?_;simp[ab,dS,fo,b9,dk];(repeat refine⟨aa,?_⟩);refine af _ ?_);refine aK fun Kq af=>?_;simp[ab,dS,fo,b9,dk];refine cZ.mc (hc) ?_ ?_ ?_ ?_ ?_<;>simp[ab,dS,fo,b9,dk];refine af _ ?_;(repeat refine aK fun Kq af=>?_;simp[ab,dS,fo,b9,dk];(repeat refine⟨aa,?_⟩);refine af _ ?_);refine bH (ao _ ?_);(try simp only[aT,aW]);simp[D.le_refl,fo,dS]
  by_cases hand:∃ l,e = .and l
  .obtain⟨l,rfl⟩:=hand;simp only[bE]at hb;have e7:=GP G all l0 (.and l) aa;have Ep:iK (eh all (.and l))=[]:=rfl;rw[Ep,am0,ank]at e7;have lB:=fun (x:Ex) (hx:x∈l)=>ih x (by have:=amL hx;simp only[Ex.and.sizeOf_spec]at bp;omega);have od:=w7 l;rw[dH];rw[dE,vv];rw[dE,vv]at e7;clear ih;generalize hg:sg all=g at lB e7 ⊢;refine MC.aO (ay _) func112 rfl rfl (rs:=[]) results112 (by simp[ntmps112]) rfl fun X=>?_;simp only[ntmps112];have fw:=aow;refine bK fw e7 [0,1] [502,503] ?_;refine ae fw [1,14] [502,503] ?_;refine bf (ae fw [1,14,16,17] [502,503] ?_);refine al (ae fw [1,14,23,24] [502,503] ?_);refine aJ (ae fw [1,5] [502,503] ?_);refine ae fw [1,25,26,27] [502,503] ?_;refine ch (S:=Nat) (fun i=>i<=l.length) (fun i=>⟨bg [(1,.fn (.func 113) [.d (.ip [.fn (.func g) []]),.ref 502 0 0]),(25,.d (.sl none (l.map fun e=>[dE e]))),(26,int l.length),(27,int i)],aw (fo (l0 ++ gJ all (l.take i)))⟩) (fun i=>l.length - i) 0 ?_ aa ?_
   .refine bo (Aq fw (Aq @gJ.eq_1 @gJ.eq_2))
   .intro i hi;refine ae fw [1,25,26,27,28] [502,503] ?_;refine ag fun K1 aF=>eY (b:=i < l.length) (by simp[D.le,D.le.go,aP,ab,dS,fo,b9,dk]) (fun hc=>?_) (fun hc=>?_)
    .have dr:i < l.length:=hc;have h1:=Ow all dr;have h2:=Ff all (l.take i);have h3:=Kk dr;have cU:=lB _ (By dr) (l0 ++ gJ all (l.take i)) (by rw[amp];omega);rw[am4,<- h1]at cU;obtain⟨tx,cx,hx⟩:=js l[i];rw[hx]at cU;refine aq (aF _ (ag fun K2 au=>bf ?_));have qf:=(Aq fw (Aq @dr @hx));refine ax [1,7,25,26,27] [502,503] ?_;refine fD (ay _) fun K' ao=>?_;(repeat refine aK fun Kq af=>?_;simp[ab,dS,fo,b9,dk];(repeat refine⟨aa,?_⟩);refine af _ ?_);refine aK fun Kq af=>?_;simp[ab,dS,fo,b9,dk];refine cZ.mc (cU) ?_ ?_ ?_ ?_ ?_<;>simp[ab,dS,fo,b9,dk];refine af _ ?_;(repeat refine aK fun Kq af=>?_;simp[ab,dS,fo,b9,dk];(repeat refine⟨aa,?_⟩);refine af _ ?_);refine bH (ao _ ?_);refine au _ (AW.norm [1,25,26,27] [502,503] (dT rfl) (AW.st (by simp[ab,dS,fo,b9,dk];rfl) ?_));refine cA fw ?_;(try simp only[aT,aW]);refine aZ.mk (i+1) aa aa ?_;refine bo fw
    .obtain rfl:i=l.length:=aa
     refine bL ?_;simp[D.le_refl,am8,fo,dS]
  by_cases uG:∃ l,e = .or l
  .obtain⟨l,rfl⟩:=uG;simp only[bE]at hb;have e7:=GP G all l0 (.or l) aa;have Ep:iK (eh all (.or l))=[]:=rfl;rw[Ep,am0,ank]at e7;have lB:=fun (x:Ex) (hx:x∈l)=>ih x (by have:=amL hx;simp only[Ex.or.sizeOf_spec]at bp;omega);have od:=w7 l;rw[dH];rw[dE,vv];rw[dE,vv]at e7;clear ih;generalize hg:sg all=g at lB e7 ⊢;refine MC.aO (ay _) func112 rfl rfl (rs:=[]) results112 (by simp[ntmps112]) rfl fun X=>?_;simp only[ntmps112];have fw:=aow;refine bK fw e7 [0,1] [502,503] ?_;refine ae fw [1,14] [502,503] ?_;refine bf (ae fw [1,14,16,17] [502,503] ?_);refine al (ae fw [1,14,23,24] [502,503] ?_);refine al (ae fw [1,36,37] [502,503] ?_);refine aJ (ae fw [1,8] [502,503] ?_);refine ae fw [1,38,39,40] [502,503] ?_;refine ch (S:=Nat) (fun i=>i<=l.length) (fun i=>⟨bg [(1,.fn (.func 113) [.d (.ip [.fn (.func g) []]),.ref 502 0 0]),(38,.d (.sl none (l.map fun e=>[dE e]))),(39,int l.length),(40,int i)],aw (fo (l0 ++ gJ all (l.take i)))⟩) (fun i=>l.length - i) 0 ?_ aa ?_
   .refine bo (Aq fw (Aq @gJ.eq_1 @gJ.eq_2))
   .intro i hi;refine ae fw [1,38,39,40,41] [502,503] ?_;refine ag fun K1 aF=>eY (b:=i < l.length) (by simp[D.le,D.le.go,aP,ab,dS,fo,b9,dk]) (fun hc=>?_) (fun hc=>?_)
    .have dr:i < l.length:=hc;have h1:=Ow all dr;have h2:=Ff all (l.take i);have h3:=Kk dr;have cU:=lB _ (By dr) (l0 ++ gJ all (l.take i)) (by rw[amp];omega);rw[am4,<- h1]at cU;obtain⟨tx,cx,hx⟩:=js l[i];rw[hx]at cU;refine aq (aF _ (ag fun K2 au=>bf ?_));have qf:=(Aq fw (Aq @dr @hx));refine ax [1,10,38,39,40] [502,503] ?_;refine fD (ay _) fun K' ao=>?_;(repeat refine aK fun Kq af=>?_;simp[ab,dS,fo,b9,dk];(repeat refine⟨aa,?_⟩);refine af _ ?_);refine aK fun Kq af=>?_;simp[ab,dS,fo,b9,dk];refine cZ.mc (cU) ?_ ?_ ?_ ?_ ?_<;>simp[ab,dS,fo,b9,dk];refine af _ ?_;(repeat refine aK fun Kq af=>?_;simp[ab,dS,fo,b9,dk];(repeat refine⟨aa,?_⟩);refine af _ ?_);refine bH (ao _ ?_);refine au _ (AW.norm [1,38,39,40] [502,503] (dT rfl) (AW.st (by simp[ab,dS,fo,b9,dk];rfl) ?_));refine cA fw ?_;(try simp only[aT,aW]);refine aZ.mk (i+1) aa aa ?_;refine bo fw
    .obtain rfl:i=l.length:=aa
     refine bL ?_;simp[D.le_refl,am8,fo,dS]
  have hk:∃ t c,dE e = .cC t c/\¬ t=143/\¬ t=145/\¬ t=148/\dH all e=iK (eh all e):=by
   cases e with
   | not z=>exact absurd ⟨z,rfl⟩ hN
   | and l=>exact absurd ⟨l,rfl⟩ hand
   | or l=>exact absurd ⟨l,rfl⟩ uG
   | iW b=>exact⟨_,_,by rw[dE],bD,bD,bD,rfl⟩
   | bit s=>exact⟨_,_,by rw[dE],bD,bD,bD,rfl⟩
   | jV s=>exact⟨_,_,by rw[dE],bD,bD,bD,rfl⟩
   | jL s=>exact⟨_,_,by rw[dE],bD,bD,bD,rfl⟩
  obtain⟨t,c,hy,h1,h2,h3,h4⟩:=hk;have e7:=GP G all l0 e aa;rw[ank]at e7;rw[h4,hy];rw[hy]at e7;generalize l0 ++ iK (eh all e)=l1 at e7 ⊢;generalize sg all=g at e7 ⊢;refine MC.aO (ay _) func112 rfl rfl (rs:=[]) results112 (by simp[ntmps112]) rfl fun X=>?_;simp only[ntmps112];have fw:=aow;refine bK fw e7 [0,1] [502,503] ?_;refine ae fw [1,14] [502,503] ?_;refine bf ?_;have qf:=(Aq fw @h1);refine ax [1,14,16,17] [502,503] ?_;refine al ?_;have qf:=(Aq fw @h2);refine ax [1,14,23,24] [502,503] ?_;refine al ?_;have qf:=(Aq fw @h3);refine ax [1,36,37] [502,503] ?_;refine al (aq ?_);simp[D.le_refl,fo,dS]
def ey (all:Bool) (e:Ex):List (List UInt8):=Lib.compact (oD (dH all e))
theorem Xf (G:aB) (all:Bool) (e:Ex) (hb:bE e<=2^28):aD prog G 63 [dE e,.fn (.func (sg all)) []] (.sl none ((ey all e).map fun s=>[dS s])):=by
 have hlen:=x8 all e;have hw:=akq G all _ e (amh _) [] (by simp;omega);rw[ang]at hw;have zP:=ai9 G 503 9 (dH all e) aa;have lC:=ZZ G 503 9 (oD (dH all e)) (by rw[tW];omega);rw[tW]at lC;have cH:=Lib.compact_length_le (oD (dH all e));rw[tW]at cH;unfold ey;obtain⟨tx,cx,hx⟩:=js e;rw[hx]at hw ⊢;generalize sg all=g at hw ⊢;generalize dH all e=l at hw zP lC cH hlen ⊢;generalize oD l=z at zP lC cH ⊢
 have dA:List.take (Lib.compact z).length ((Lib.compact z ++ List.replicate (l.length - (Lib.compact z).length) []).map fun s=>[dS s])=(Lib.compact z).map fun s=>[dS s]:=by
  rw[amV,anh ak,sh ak]
 have Nu:(Lib.compact z ++ List.replicate (l.length - (Lib.compact z).length) []).length=l.length:=by simp;omega
 generalize Lib.compact z ++ List.replicate (l.length - (Lib.compact z).length) []=y at lC dA Nu;generalize Lib.compact z=c at lC cH dA ⊢;refine aD.aO (ay _) func63 rfl rfl (rs:=[.tmp 4]) results63 (by simp[ntmps63]) fun X=>?_;simp only[ntmps63,List.map];have fw:=aow;refine ae fw [0,3] [3] ?_;refine dZ fw 3 ?_;refine ae fw [0,3,5] [5] ?_;refine AW.imp (aL.eb (r:=5) (r':=502) trivial ak) ?_;refine AW.st (by simp[iN,iM,Go.Av.eb,Jj];rfl) ?_;refine AW.imp (aL.s6 502 0 503 9 1 rfl rfl rfl) ?_;refine AW.imp (τ:=⟨bg [(0,.d (.cC tx cx)),(3,.d (.ip [.fn (.func g) []])),(5,.ref 502 0 0)],aw (fo [])⟩) ?_ ?_
 .refine bo (Aq fw @fo.eq_1)
 refine bK fw hw [5] [502,503] ?_;refine bK fw zP [5] [502,503] ?_;refine bK fw lC [4] [502,503] ?_
 have hle:c.length<=y.length:=aa
 by_cases vU:c.length=y.length
 .have pD:(y.map fun s=>[dS s])=c.map fun s=>[dS s]:=by rw[<- dA,vU,sh ak]
  simp only[dS]at pD;refine AW.imp (aL.freeze 503 trivial) ?_;refine AW.st (by simp[ab,dS,fo,b9,dk,vU,hle,pD];rfl) ?_;exact aY (Aq fw (Aq @vU @pD))
 .simp only[dS]at dA;refine AW.imp (aL.freeze 503 trivial) ?_;refine AW.st (by simp[ab,dS,fo,b9,dk,vU,hle,dA];rfl) ?_;exact aY (Aq fw @dA)
theorem Ol (G:aB) (e:Ex) (hb:bE e<=2^28):aD prog G 21 [dE e] (.sl none ((ey true e).map fun s=>[dS s])):=by
 have hs:=Xf G true e hb;obtain⟨tx,cx,hx⟩:=js e;rw[hx]at hs ⊢;generalize ey true e=l at hs ⊢;simp only[sg,if_true,if_false,amn]at hs;refine aD.aO (ay _) func21 rfl rfl (rs:=[.tmp 2]) results21 (by simp[ntmps21]) fun X=>?_;simp only[ntmps21,List.map];have fw:=aow;refine ae fw [0] [] ?_;refine bh fw hs [2] [] ?_;exact aY fw
theorem aar (G:aB) (e:Ex) (hb:bE e<=2^28):aD prog G 98 [dE e] (.sl none ((ey false e).map fun s=>[dS s])):=by
 have hs:=Xf G false e hb;obtain⟨tx,cx,hx⟩:=js e;rw[hx]at hs ⊢;generalize ey false e=l at hs ⊢;simp only[sg,if_true,if_false,amn]at hs;refine aD.aO (ay _) func98 rfl rfl (rs:=[.tmp 2]) results98 (by simp[ntmps98]) fun X=>?_;simp only[ntmps98,List.map];have fw:=aow;refine ae fw [0] [] ?_;refine bh fw hs [2] [] ?_;exact aY fw
abbrev Tx:=List UInt8
theorem PC (a:Tx):¬ a < a:=List.lt_irrefl a
theorem XJ {a b c:Tx} (h1:a < b) (h2:b < c):a < c:=List.lt_trans h1 h2
theorem FR {a b:Tx}:a<=b↔¬ b < a:=Iff.rfl
theorem XK {a b:Tx} (h1:¬ a < b) (h2:¬ b < a):a=b:=List.le_antisymm (FR.2 h2) (FR.2 h1)
def nG (s:Tx):List Tx->List Tx
 | []=>[s]
 | y :: l=>if y < s then y :: nG s l else if y=s then y :: l else s :: y :: l
theorem Uh (s:Tx):∀ (l:List Tx) (k:Nat),k<=l.length->(∀ i (hi:i < l.length),i < k->l[i] < s)->(∀ hk:k < l.length,¬ l[k] < s)->
  nG s l=if (∃ hk:k < l.length,l[k]=s) then l else l.take k ++ s :: l.drop k
 | [],k,hk,_,_=>by
  obtain rfl:k=0:=by simpa using hk
  simp[nG]
 | y :: l,0,_,_,h2=>by
  have h3:¬ y < s:=h2 ak;rw[nG,if_neg h3];by_cases he:y=s
  .rw[if_pos he,if_pos ⟨ak,he⟩]
  .rw[if_neg he,if_neg (fun ⟨_,h⟩=>he h)];simp
 | y :: l,k+1,hk,h1,h2=>by
  have h3:y < s:=h1 0 ak aa;rw[nG,if_pos h3,Uh s l k (by simpa using hk) (fun i hi D8=>h1 (i+1) (by simpa using hi) aa) (fun fW=>h2 (by simpa using fW))];by_cases he:∃ hk:k < l.length,l[k]=s
  .rw[if_pos he,if_pos (by obtain⟨a,b⟩:=he;exact⟨by simpa using a,b⟩)]
  .rw[if_neg he,if_neg (fun ⟨a,b⟩=>he ⟨by simpa using a,b⟩)];simp
theorem Nz {s x:Tx}:∀ {l:List Tx},x∈nG s l↔x=s\/x∈l
 | []=>by simp[nG]
 | y :: l=>by
  rw[nG];by_cases h1:y < s
  .rw[if_pos h1,amx,Nz,amx];constructor
   .rintro (h | h | h)<;>simp[h]
   .rintro (h | h | h)<;>simp[h]
  .rw[if_neg h1];by_cases h2:y=s
   .rw[if_pos h2];subst h2;simp
   .rw[if_neg h2];simp
theorem Uj (s:Tx):∀ {l:List Tx},l.Pairwise (· < ·)->(nG s l).Pairwise (· < ·)
 | [],_=>by simp[nG]
 | y :: l,h=>by
  obtain⟨ha,hb⟩:=am5.1 h;rw[nG];by_cases h1:y < s
  .rw[if_pos h1];refine am5.2 ⟨fun x hx=>?_,Uj s hb⟩
   rcases Nz.1 hx with rfl | hx
   .exact h1
   .exact ha x hx
  .rw[if_neg h1];by_cases h2:y=s
   .rw[if_pos h2];exact h
   .rw[if_neg h2];have h3:s < y:=amQ fun hn=>h2 (XK h1 hn);refine am5.2 ⟨fun x hx=>?_,h⟩
    rcases amx.1 hx with rfl | hx
    .exact h3
    .exact XJ h3 (ha x hx)
theorem Ui (s:Tx):∀ l:List Tx,(nG s l).length<=l.length+1
 | []=>by simp[nG]
 | y :: l=>by
  have:=Ui s l;rw[nG];split
  .simp;omega
  .split<;>simp
def nF (l ss:List Tx):List Tx:=ss.foldl (fun l s=>nG s l) l
theorem Uf (l:List Tx):nF l []=l:=rfl
theorem Ud (l a b:List Tx):nF l (a ++ b)=nF (nF l a) b:=List.foldl_append ..
theorem Ny:∀ (ss l:List Tx),(nF l ss).length<=l.length+ss.length
 | [],l=>by simp[nF]
 | s :: ss,l=>by
  have h1:=Ny ss (nG s l);have h2:=Ui s l;have h3:nF l (s :: ss)=nF (nG s l) ss:=rfl;rw[h3,amo];omega
theorem Ue {x:Tx}:∀ (ss l:List Tx),x∈nF l ss↔x∈l\/x∈ss
 | [],l=>by simp[nF]
 | s :: ss,l=>by
  have h3:nF l (s :: ss)=nF (nG s l) ss:=rfl;rw[h3,Ue ss,Nz,amx];constructor
  .rintro ((h | h) | h)<;>simp[h]
  .rintro (h | h | h)<;>simp[h]
theorem Ug:∀ (ss l:List Tx),l.Pairwise (· < ·)->(nF l ss).Pairwise (· < ·)
 | [],l,h=>h
 | s :: ss,l,h=>Ug ss _ (Uj s h)
theorem Xl:∀ {a b:List Tx},a.Pairwise (· < ·)->b.Pairwise (· < ·)->(∀ x,x∈a↔x∈b)->a=b
 | [],[],_,_,_=>rfl
 | [],y :: b,_,_,h=>absurd ((h y).2 ak) ak
 | x :: a,[],_,_,h=>absurd ((h x).1 ak) ak
 | x :: a,y :: b,ha,hb,h=>by
  obtain⟨vK,oU⟩:=am5.1 ha;obtain⟨e9,fk⟩:=am5.1 hb
  have EM:x=y:=by
   rcases amx.1 ((h x).1 ak)with e | hx
   .exact e
   .rcases amx.1 ((h y).2 ak)with e | hy
    .exact e.symm
    .exact absurd (XJ (e9 x hx) (vK y hy)) (PC _)
  subst EM;rw[Xl oU fk fun z=>?_];constructor
  .intro hz
   rcases amx.1 ((h z).1 (by simp[hz]))with e | e
   .subst e;exact absurd (vK z hz) (PC _)
   .exact e
  .intro hz
   rcases amx.1 ((h z).2 (by simp[hz]))with e | e
   .subst e;exact absurd (e9 z hz) (PC _)
   .exact e
theorem Oa (d:Array Tx):∀ (m:Nat),m<=d.size->∀ j,j < m->d[j]!∈Lib.compactUpTo d m
 | 0,_,j,h=>aa
 | m+1,hm,j,hj=>by
  rw[Lib.compactUpTo_succ];by_cases HE:j < m
  .exact anT _ (Oa d m aa j HE)
  .obtain rfl:j=m:=aa
   by_cases hk:Lib.keeps d j=true
   .exact List.mem_append_right _ (by simp[hk])
   .have n9:j≠0:=by rintro rfl;exact hk (Lib.keeps_lt_one d 0 aa)
    have he:d[j]! = d[j - 1]!:=by
     unfold Lib.keeps at hk;simp[n9]at hk
     first | exact hk | exact hk.symm
    rw[he];exact anT _ (Oa d j aa (j - 1) aa)
theorem PG (d:Array Tx):∀ (m:Nat),m<=d.size->∀ x∈Lib.compactUpTo d m,∃ j,j < m/\x=d[j]!
 | 0,_,x,h=>by simp[Lib.compactUpTo]at h
 | m+1,hm,x,h=>by
  rw[Lib.compactUpTo_succ]at h
  rcases amq.1 h with h | h
  .obtain⟨j,hj,e⟩:=PG d m aa x h;exact⟨j,aa,e⟩
  .split at h
   .simp at h;exact⟨m,aa,h⟩
   .simp at h
theorem XR (d:Array Tx) (hs:∀ i j,i<=j->j < d.size->d[i]!<=d[j]!):∀ (m:Nat),m<=d.size->(Lib.compactUpTo d m).Pairwise (· < ·)
 | 0,_=>by simp[Lib.compactUpTo]
 | m+1,hm=>by
  have ih:=XR d hs m aa;rw[Lib.compactUpTo_succ];by_cases hk:Lib.keeps d m=true
  .rw[if_pos hk,ano];refine⟨ih,ak,fun a ha b hb=>?_⟩;rw[amD]at hb;subst hb;obtain⟨j,hj,rfl⟩:=PG d m aa a ha
   have bq:d[m]!≠d[m - 1]!:=by
    intro he;rw[Lib.keeps_neg aa he]at hk;cases hk
   have h1:=hs j (m - 1) aa aa;have h2:=hs (m - 1) m aa aa;have h3:d[m - 1]! < d[m]!:=amQ fun hn=>bq (XK (FR.1 h2) hn)
   exact amQ fun hn=>by
    have h4:d[m]!<=d[j]!:=FR.2 hn;exact (FR.1 (List.le_trans h4 h1)) h3
  .rw[if_neg hk,am0];exact ih
theorem afc (all:Bool) (e:Ex):(ey all e).Pairwise (· < ·):=by
 unfold ey Lib.compact;refine XR _ (fun i j qI hj=>?_) _ ak
 have hp:(oD (dH all e)).Pairwise (·<=·):=by
  unfold oD;have:=List.pairwise_mergeSort (le:=fun x y:Tx=>decide (x<=y)) (by intro a b c h1 h2;simp only[decide_eq_true_eq]at *;exact List.le_trans h1 h2) (by intro a b;simp only[amU,decide_eq_true_eq];exact List.le_total a b) (dH all e)
  exact this.imp fun h=>by simpa using h
 generalize oD (dH all e)=l at hp hj ⊢
 have dG:j < l.length:=by simpa using hj
 rw[getElem!_pos l.toArray i (by simpa using (by omega:i < l.length)),getElem!_pos l.toArray j (by simpa using dG)];simp only[List.getElem_toArray];by_cases he:i=j
 .subst he;exact List.le_refl _
 .exact (List.pairwise_iff_getElem.1 hp) i j aa dG aa
theorem Aj {all:Bool} {e:Ex} {s:Tx}:s∈ey all e↔s∈dH all e:=by
 unfold ey
 have h0:∀ l:List Tx,s∈Lib.compact l↔s∈l:=by
  intro l;unfold Lib.compact;constructor
  .intro h;obtain⟨j,hj,rfl⟩:=PG l.toArray l.length ak s h;rw[getElem!_pos l.toArray j (by simpa using hj)];simp
  .intro h;obtain⟨j,hj,rfl⟩:=amz.1 h;have:=Oa l.toArray l.length ak j hj;rw[getElem!_pos l.toArray j (by simpa using hj)]at this;simpa using this
 rw[h0];unfold oD;exact List.mem_mergeSort
theorem adz (all:Bool) (e:Ex):nF [] (dH all e)=ey all e:=by
 refine Xl (Ug _ _ ak) (afc all e) fun x=>?_;rw[Ue,Aj];simp
def Ad:Ex->List UInt8
 | .iW b=>[if b then 49 else 48]
 | .bit _=>[98,105,116]
 | .jV _=>[94]
 | .jL _=>[126]
 | .not _=>[33]
 | .and _=>[38]
 | .or _=>[124]
def tR:Ex->List UInt8
 | .bit s=>s
 | .jV s=>s
 | .jL s=>s
 | _=>[]
def Fg:Ex->D
 | .not e=>.sl none [[dR e]]
 | .and l=>.sl none (y8 l)
 | .or l=>.sl none (y8 l)
 | _=>e8
theorem ui (e:Ex):dR e = .ip [dS (Ad e),dS (tR e),Fg e]:=by cases e<;>simp[dR,Ad,tR,Fg]
theorem l3 (k:List UInt8) (arr:Array UInt8):bu .eql (bs k) ⟨arr⟩=some (True,.bool (decide (k=arr.toList))):=by
 have h:(bs k).toList=k:=bA k
 have h2:(⟨arr⟩:ByteArray).toList=arr.toList:=by rw[ByteArray.toList_eq]
 unfold bu;dsimp only;rw[h,h2];congr 3;by_cases e:k=arr.toList
 .subst e;simp
 .rw[decide_eq_false e,beq_eq_false_iff_ne.2 e]
theorem Jk {r r' s:Nat} (h:r≠r') (hs:s≠r') (hr:s≠r) (row Ax:Row):sT r r' (aw [(s,Ax),(r,row)])=aw [(s,Ax.tr (iN r r') (iM r r')),(r',row.tr (iN r r') (iM r r'))]:=by
 funext q;unfold sT;by_cases h1:q=r'
 .subst h1;simp[aw,List.lookup,beq_eq_false_iff_ne.2 (ann hs),beq_eq_false_iff_ne.2 (ann hr)]
 .rw[if_neg h1];by_cases h2:q=r
  .subst h2;simp[aw,List.lookup,beq_eq_false_iff_ne.2 h1,beq_eq_false_iff_ne.2 (ann hr)]
  .by_cases h3:q=s
   .subst h3;simp[aw,List.lookup,h2,beq_eq_false_iff_ne.2 h1,beq_eq_false_iff_ne.2 h2]
   .simp[aw,List.lookup,h2,beq_eq_false_iff_ne.2 h1,beq_eq_false_iff_ne.2 h2,beq_eq_false_iff_ne.2 h3]
def lQ:Option Ex->D
 | some x=>dR x
 | none=>.v (.pointer none)
theorem X1 (G:aB) (t:List UInt8) (ht:t.length<=2000):Reads G t [500] [] 56 [.ref 500 0 0,.d (ab 0)] 20 (mj t (cR t 20)):=
 V3 G t ht 0 20 (ahl G t ht 20 0 (amh _) rfl)
theorem I5 {t:List UInt8} {c:Int} {p:Option Nat} (h:(ig t).2=some (c,p)):0 < c:=by
 unfold ig at h;split at h
 .simp at h;omega
 .rename_i hl;obtain⟨yF,kF,hr⟩:=X1 (fun _=>none) t aa;split at h
  .rename_i c' p' q' he;simp at h;have:=(hr 0 (anZ _)).2 _ _ _ he;omega
  .split at h
   .simp at h;omega
   .cases h
theorem afH {t:List UInt8} {e:Int×Option Nat} (h:(ig t).2=some e):(ig t).1=none:=by
 unfold ig at h ⊢;split at h
 .rw[if_pos ‹_›]
 .rw[if_neg ‹_›];split at h
  .rfl
  .split at h
   .rw[if_pos ‹_›]
   .cases h
theorem CD {t:List UInt8} (h:(ig t).2=none):∃ x,(ig t).1=some x:=by
 unfold ig at h ⊢;split at h
 .cases h
 .rw[if_neg ‹_›];split at h
  .cases h
  .split at h
   .cases h
   .rw[if_neg ‹_›];exact⟨_,rfl⟩
theorem aox:type_of% (Aq @lQ.eq_1 (Aq @lQ.eq_2 (Aq @aod (Aq @aoe (Aq @aof (Aq @aog @aoh)))))):=(Aq @lQ.eq_1 (Aq @lQ.eq_2 (Aq @aod (Aq @aoe (Aq @aof (Aq @aog @aoh))))))
theorem WH (G:aB) (hF:ve G) (t:List UInt8) (ht:t.length < 2^60):aD prog G 18 [dS t] (.bz [lQ (ig t).1,dN (ig t).2]):=by
 unfold ig;unfold ve at hF;by_cases hl:2000 < t.length
 .have fh:(2000:Int) < (t.length:Int):=aa
  have hb:=Gb G 4;rw[if_pos hl];refine aD.aO (ay _) func18 rfl rfl (rs:=[.tmp 2,.cell 3 68]) results18 (by simp[ntmps18]) fun X=>?_;simp only[ntmps18,List.map];have fw:=aou;refine ae fw [0,3] [3] ?_;refine ag fun K1 aF=>?_;have qf:=(Aq fw (Aq @bX (Aq @hl @fh)));refine ax [0,3,8] [3] ?_;refine aJ (bh fw hb [2,3] [3] ?_);exact aY (Aq fw aox)
 have fh:¬ (2000:Int) < (t.length:Int):=aa
 rw[if_neg hl];obtain⟨yF,kF,hr⟩:=X1 G t aa;have hc:=(hr 0 (anZ _)).1;have he:=(hr 0 (anZ _)).2
 cases ho:mj t (cR t 20) 0 with
 | err c p q=>
  rw[ho]at hc;obtain⟨h1,h2,h3⟩:=he _ _ _ ho
  have h0:¬ c=0:=aa
  generalize yF 0=y at hc h2;generalize kF 0=k at hc h3;refine aD.aO (ay _) func18 rfl rfl (rs:=[.tmp 2,.cell 3 68]) results18 (by simp[ntmps18]) fun X=>?_;simp only[ntmps18,List.map];have fw:=aou;refine ae fw [0,3] [3] ?_;refine ag fun K1 aF=>?_;have qf:=(Aq fw (Aq @bX (Aq @hl @fh)));refine ax [0,3,8] [3] ?_;refine al (aq (aF _ ?_));have qf:=(Aq fw @hF);refine ax [0,3,4] [3,13] ?_;refine AW.imp (aL.eb (r:=13) (r':=500) trivial ak) ?_;refine AW.st (by simp[iN,iM,Go.Av.eb,Jk];rfl) ?_;refine bK (Aq fw (Aq @ke.eq_1 (Aq @ke.eq_2 (Aq @jT.eq_1 (Aq @jT.eq_2 (Aq @eR.eq_1 (Aq @eR.eq_2 (Aq @pR.eq_1 @pR.eq_2)))))))) hc [0,3,4,5] [3,500] ?_;refine ag fun K2 au=>?_;have qf:=(Aq fw @h0);refine ax [3,4,5,43] [3,500] ?_;refine al (aq (au _ ?_));refine ag fun K3 aX=>?_;have qf:=(Aq fw @h0);refine ax [3,4,5,51] [3,500] ?_;refine aJ (qt (ay _) ah [(3,500),(5,3)] [2,3] [3,500] aQ ah fun K' ao=>?_);(repeat refine jX fun Kq af=>?_;simp[ab,bY,dS];(repeat refine⟨aa,?_⟩);refine af _ ?_);refine lq (ao _ ?_);refine AW.st (by simp[ab,bY,dS];rfl) ?_;exact aY (Aq fw aox)
 | ok x k=>
  rw[ho]at hc;dsimp only[ke,jT,eR,pR]at hc;have hk:=(wL (pK t 20) 0 x k (anZ _) ho).2;have gI:=Fs G t k aa hk 0 (-1);have fW:=mw hk;have fm:=Fp G t (bB t k) aa fW 3;rw[AF hk]at fm
  have gg:bB t k < t.length\/qS t k=0:=by
   by_cases h:bB t k < t.length
   .exact .inl h
   .exact .inr (by unfold qS;rw[ame,anD aa];rfl)
  obtain⟨cx,hx⟩:=uj x;dsimp only;generalize bB t k=j at gI fW fm gg ⊢;generalize qS t k=b at gI gg;by_cases hj:j < t.length
  .have dG:(j:Int) < (t.length:Int):=aa
   rw[if_pos hj];rw[hx]at hc;by_cases hb:((b.toNat:Int)=0)
   .have qC:b.toNat=0:=aa
    refine aD.aO (ay _) func18 rfl rfl (rs:=[.tmp 2,.cell 3 68]) results18 (by simp[ntmps18]) fun X=>?_;simp only[ntmps18,List.map];have fw:=aou;refine ae fw [0,3] [3] ?_;refine ag fun K1 aF=>?_;have qf:=(Aq fw (Aq @bX (Aq @hl @fh)));refine ax [0,3,8] [3] ?_;refine al (aq (aF _ ?_));have qf:=(Aq fw @hF);refine ax [0,3,4] [3,13] ?_;refine AW.imp (aL.eb (r:=13) (r':=500) trivial ak) ?_;refine AW.st (by simp[iN,iM,Go.Av.eb,Jk];rfl) ?_;refine bK fw hc [0,3,4,5] [3,500] ?_;refine ag fun K2 au=>?_;have qf:=(Aq fw (Aq @hb (Aq @qC (Aq @bX (Aq @hj @dG)))));refine ko gI [3,4,5,43] [3,500] ?_;refine aJ (fD (ay _) fun K' ao=>?_);(repeat refine aK fun Kq af=>?_;simp[ab,bY,dS];(repeat refine⟨aa,?_⟩);refine af _ ?_);refine aK fun Kq af=>?_;simp[ab,bY,dS];refine cZ.mc (fm) ?_ ?_ ?_ ?_ ?_<;>simp[ab,bY,dS];refine af _ ?_;(repeat refine aK fun Kq af=>?_;simp[ab,bY,dS];(repeat refine⟨aa,?_⟩);refine af _ ?_);refine bH (ao _ ?_);refine au _ (AW.norm [3,4,5] [3,500] aQ (AW.st (by simp[ab,bY,dS];rfl) ?_));refine ag fun K3 aX=>ae fw [3,4,5,51] [3,500] ?_;refine aJ (qt (ay _) ah [(3,500),(5,3)] [2,3] [3,500] aQ ah fun K' ao=>?_);(repeat refine jX fun Kq af=>?_;simp[ab,bY,dS];(repeat refine⟨aa,?_⟩);refine af _ ?_);refine lq (ao _ ?_);refine AW.st (by simp[ab,bY,dS];rfl) ?_;exact aY (Aq fw aox)
   .have qC:¬ b.toNat=0:=aa
    refine aD.aO (ay _) func18 rfl rfl (rs:=[.tmp 2,.cell 3 68]) results18 (by simp[ntmps18]) fun X=>?_;simp only[ntmps18,List.map];have fw:=aou;refine ae fw [0,3] [3] ?_;refine ag fun K1 aF=>?_;have qf:=(Aq fw (Aq @bX (Aq @hl @fh)));refine ax [0,3,8] [3] ?_;refine al (aq (aF _ ?_));have qf:=(Aq fw @hF);refine ax [0,3,4] [3,13] ?_;refine AW.imp (aL.eb (r:=13) (r':=500) trivial ak) ?_;refine AW.st (by simp[iN,iM,Go.Av.eb,Jk];rfl) ?_;refine bK fw hc [0,3,4,5] [3,500] ?_;refine ag fun K2 au=>?_;have qf:=(Aq fw (Aq @hb (Aq @qC (Aq @bX (Aq @hj @dG)))));refine ko gI [3,4,5,43] [3,500] ?_;refine aJ (fD (ay _) fun K' ao=>?_);(repeat refine aK fun Kq af=>?_;simp[ab,bY,dS];(repeat refine⟨aa,?_⟩);refine af _ ?_);refine aK fun Kq af=>?_;simp[ab,bY,dS];refine cZ.mc (fm) ?_ ?_ ?_ ?_ ?_<;>simp[ab,bY,dS];refine af _ ?_;(repeat refine aK fun Kq af=>?_;simp[ab,bY,dS];(repeat refine⟨aa,?_⟩);refine af _ ?_);refine bH (ao _ ?_);refine au _ (AW.norm [3,4,5] [3,500] aQ (AW.st (by simp[ab,bY,dS];rfl) ?_));refine ag fun K3 aX=>ae fw [3,4,5,51] [3,500] ?_;refine aJ (qt (ay _) ah [(3,500),(5,3)] [2,3] [3,500] aQ ah fun K' ao=>?_);(repeat refine jX fun Kq af=>?_;simp[ab,bY,dS];(repeat refine⟨aa,?_⟩);refine af _ ?_);refine lq (ao _ ?_);refine AW.st (by simp[ab,bY,dS];rfl) ?_;exact aY (Aq fw aox)
  .have dG:¬ (j:Int) < (t.length:Int):=aa
   have hb:((b.toNat:Int)=0):=by
    rcases gg with h | h
    .exact absurd h hj
    .rw[h];rfl
   have qC:b.toNat=0:=aa
   rw[if_neg hj];simp only[lQ];rw[hx]at hc ⊢;refine aD.aO (ay _) func18 rfl rfl (rs:=[.tmp 2,.cell 3 68]) results18 (by simp[ntmps18]) fun X=>?_;simp only[ntmps18,List.map];have fw:=aou;refine ae fw [0,3] [3] ?_;refine ag fun K1 aF=>?_;have qf:=(Aq fw (Aq @bX (Aq @hl @fh)));refine ax [0,3,8] [3] ?_;refine al (aq (aF _ ?_));have qf:=(Aq fw @hF);refine ax [0,3,4] [3,13] ?_;refine AW.imp (aL.eb (r:=13) (r':=500) trivial ak) ?_;refine AW.st (by simp[iN,iM,Go.Av.eb,Jk];rfl) ?_;refine bK fw hc [0,3,4,5] [3,500] ?_;refine ag fun K2 au=>?_;have qf:=(Aq fw (Aq @hb (Aq @qC (Aq @bX (Aq @hj @dG)))));refine ko gI [3,4,5,43] [3,500] ?_;refine al (aq (au _ ?_));refine ag fun K3 aX=>ae fw [3,4,5,51] [3,500] ?_;refine al (aq (aX _ ?_));refine qt (ay _) ah [(3,3)] [2,3] [3,500] aQ ah fun K' ao=>?_;(repeat refine jX fun Kq af=>?_;simp[ab,bY,dS,hF];(repeat refine⟨aa,?_⟩);refine af _ ?_);refine lq (ao _ ?_);refine AW.st (by simp[ab,bY,dS,hF];rfl) ?_;exact aY (Aq fw (Aq @aod (Aq @aoe (Aq @aof (Aq @aog @aoh)))))
theorem T8 {α:Type} (p:α->Bool) (l:List α):decide (0<=idx p l)=l.any p:=by
 unfold idx
 cases h:l.findIdx? p with
 | none=>
  rw[anB]at h
  have:l.any p=false:=by rw[anX];intro x hx;simp[h x hx]
  rw[this];simp
 | some i=>
  rw[amG]at h;obtain⟨hi,hp,_⟩:=h;have:l.any p=true:=anr.2 ⟨_,By hi,hp⟩;rw[this];simp
theorem Rg (is cI:List UInt8->Bool):∀ l:List Ex,Bi is cI l = !(l.any fun e=>!fg is cI e)
 | []=>rfl
 | e :: l=>by rw[Bi,Rg is cI l];simp
theorem Rh (is cI:List UInt8->Bool):∀ l:List Ex,Bj is cI l=l.any fun e=>fg is cI e
 | []=>rfl
 | e :: l=>by rw[Bj,Rh is cI l];simp
theorem adu (G:aB) (k:Option Bool) (xs:List Ex) (g:FuncId) (caps:List D) (p:Ex->Bool) (hl:xs.length < 2^63) (ha:∀ x∈xs,aD prog G g (dE x :: caps) (.v (.bool (p x)))) :
  aD prog G 116 [.sl k (xs.map fun x=>[dE x]),.fn (.func g) caps] (.v (.int .i64 (idx p xs))):=by
 refine aD.aO (ay _) func116 rfl rfl (rs:=[.tmp 4]) results116 (by simp[ntmps116]) fun X=>?_;simp only[ntmps116,List.map];refine ar [0,1] [] ?_;refine ag fun K1 aF=>ar [0,1,7,8] [] ?_;refine ch (S:=Nat) (fun n=>n<=xs.length/\∀ i (hi:i < xs.length),i < n->p xs[i]=false) (fun n=>⟨bg [(0,.d (.sl k (xs.map fun x=>[dE x]))),(1,.d (.fn (.func g) caps)),(7,int xs.length),(8,int n)],aw []⟩) (fun n=>xs.length - n) 0 ?_ ak ?_
 .refine cg
 .rintro n ⟨hn,hp⟩;refine ar [0,1,7,8,9] [] ?_;refine ag fun K2 au=>eY (b:=n < xs.length) (by simp[D.le,D.le.go,aP]) (fun hc=>?_) (fun hc=>?_)
  .have vM:=ha xs[n] ak;refine aq (au _ (ag fun K3 aX=>bf (ar [0,1,5,7,8] [] ?_)));have qf:=@hc;refine eF vM [0,1,5,7,8,16] [] ?_;refine r5 _ rfl (fun gZ=>?_) (fun gZ=>?_)
   .refine ar [4] [] ?_;refine bW ?_;simp[D.le,D.le.go,aP];exact (uN hc gZ fun i hi=>hp i aa hi).symm
   .refine aq (aX _ (cK ?_));(try simp only[aT,aW]);refine aZ.mk (n+1) ⟨aa,fun i hi aR=>?_⟩ aa ?_
    .by_cases h:i=n
     .subst h;exact gZ
     .exact hp i hi aa
    refine cg
  .refine bL (aF _ (ar [4] [] ?_));refine bW ?_;simp[D.le,D.le.go,aP];exact (uO fun i hi=>hp i hi aa).symm
theorem Z2 (G:aB) (k:Option Bool) (xs:List Ex) (g:FuncId) (caps:List D) (p:Ex->Bool) (hl:xs.length < 2^63) (ha:∀ x∈xs,aD prog G g (dE x :: caps) (.v (.bool (p x)))) :
  aD prog G 68 [.sl k (xs.map fun x=>[dE x]),.fn (.func g) caps] (.v (.bool (xs.any p))):=by
 have hi:=adu G k xs g caps p hl ha;have hd:=T8 p xs;generalize idx p xs=r at hi hd;rw[<- hd];refine aD.aO (ay _) func68 rfl rfl (rs:=[.tmp 4]) results68 (by simp[ntmps68]) fun X=>?_;simp only[ntmps68,List.map];refine ar [0,1] [] ?_;refine bh trivial hi [4] [] ?_;exact fP
theorem adw (G:aB) (k:Option Bool) (xs:List Ex) (g:FuncId) (caps:List D) (p:Ex->Bool) (hl:xs.length < 2^63) (ha:∀ x∈xs,aD prog G g (dE x :: caps) (.v (.bool (p x)))) :
  aD prog G 117 [.sl k (xs.map fun x=>[dE x]),.fn (.func g) caps] (.v (.int .i64 (idx p xs))):=by
 refine aD.aO (ay _) func117 rfl rfl (rs:=[.tmp 4]) results117 (by simp[ntmps117]) fun X=>?_;simp only[ntmps117,List.map];refine ar [0,1] [] ?_;refine ag fun K1 aF=>ar [0,1,7,8] [] ?_;refine ch (S:=Nat) (fun n=>n<=xs.length/\∀ i (hi:i < xs.length),i < n->p xs[i]=false) (fun n=>⟨bg [(0,.d (.sl k (xs.map fun x=>[dE x]))),(1,.d (.fn (.func g) caps)),(7,int xs.length),(8,int n)],aw []⟩) (fun n=>xs.length - n) 0 ?_ ak ?_
 .refine cg
 .rintro n ⟨hn,hp⟩;refine ar [0,1,7,8,9] [] ?_;refine ag fun K2 au=>eY (b:=n < xs.length) (by simp[D.le,D.le.go,aP]) (fun hc=>?_) (fun hc=>?_)
  .have vM:=ha xs[n] ak;refine aq (au _ (ag fun K3 aX=>bf (ar [0,1,5,7,8] [] ?_)));have qf:=@hc;refine eF vM [0,1,5,7,8,16] [] ?_;refine r5 _ rfl (fun gZ=>?_) (fun gZ=>?_)
   .refine ar [4] [] ?_;refine bW ?_;simp[D.le,D.le.go,aP];exact (uN hc gZ fun i hi=>hp i aa hi).symm
   .refine aq (aX _ (cK ?_));(try simp only[aT,aW]);refine aZ.mk (n+1) ⟨aa,fun i hi aR=>?_⟩ aa ?_
    .by_cases h:i=n
     .subst h;exact gZ
     .exact hp i hi aa
    refine cg
  .refine bL (aF _ (ar [4] [] ?_));refine bW ?_;simp[D.le,D.le.go,aP];exact (uO fun i hi=>hp i hi aa).symm
theorem Z3 (G:aB) (k:Option Bool) (xs:List Ex) (g:FuncId) (caps:List D) (p:Ex->Bool) (hl:xs.length < 2^63) (ha:∀ x∈xs,aD prog G g (dE x :: caps) (.v (.bool (p x)))) :
  aD prog G 70 [.sl k (xs.map fun x=>[dE x]),.fn (.func g) caps] (.v (.bool (xs.any p))):=by
 have hi:=adw G k xs g caps p hl ha;have hd:=T8 p xs;generalize idx p xs=r at hi hd;rw[<- hd];refine aD.aO (ay _) func70 rfl rfl (rs:=[.tmp 4]) results70 (by simp[ntmps70]) fun X=>?_;simp only[ntmps70,List.map];refine ar [0,1] [] ?_;refine bh trivial hi [4] [] ?_;exact fP
mutual
def jr (S1 S2:List UInt8->Prop):Ex->Prop
 | .iW _=>True
 | .bit s=>S1 s
 | .jV s=>S1 s/\S2 s
 | .jL s=>S1 s/\S2 s
 | .not e=>jr S1 S2 e
 | .and l=>vc S1 S2 l
 | .or l=>vc S1 S2 l
def vc (S1 S2:List UInt8->Prop):List Ex->Prop
 | []=>True
 | e :: l=>jr S1 S2 e/\vc S1 S2 l
end
theorem CV {S1 S2:List UInt8->Prop}:∀ {l:List Ex},vc S1 S2 l↔∀ x∈l,jr S1 S2 x
 | []=>by simp[vc]
 | e :: l=>by rw[vc,CV];simp
def pP (S:List UInt8->Prop) (G:aB) (g:FuncId) (caps:List D) (p:List UInt8->Bool):Prop:=∀ s,S s->aD prog G g (dS s :: caps) (.v (.bool (p s)))
theorem eval_at (G:aB) (g1 g2:FuncId) (c1 c2:List D) (is cI:List UInt8->Bool) (S1 S2:List UInt8->Prop) (h1:pP S1 G g1 c1 is) (h2:pP S2 G g2 c2 cI):∀ (n:Nat) (e:Ex),SizeOf.sizeOf e<=n->jr S1 S2 e->bE e<=2^28->aD prog G 26 [dE e,.fn (.func g1) c1,.fn (.func g2) c2] (.v (.bool (fg is cI e))):=by
 intro n
 induction n with
 | zero=>intro e bp;cases e<;>simp at bp
 | succ n ih=>
  intro e bp iQ hb;have fw:=aoy
  cases e with
  | iW b=>
   rw[dE];refine aD.aO (ay _) func26 rfl rfl (rs:=[.tmp 6]) results26 (by simp[ntmps26]) fun X=>?_;simp only[ntmps26,List.map];refine ae fw [0,4,5] [4,5] ?_;refine dZ fw 4 ?_;refine dZ fw 5 ?_;refine ag fun K1 aF=>ae fw [4,5,14] [] ?_;refine bf (ae fw [4,5,14,16,17] [] ?_);refine aJ (ae fw [7] [] ?_);refine ae fw [6] [] ?_;refine bW ?_;simp[D.le,D.le.go,aP,ab,dS,b9,dk,fg]
  | bit s=>
   rw[jr]at iQ;have hi:=h1 s iQ;rw[dE,fg];refine aD.aO (ay _) func26 rfl rfl (rs:=[.tmp 6]) results26 (by simp[ntmps26]) fun X=>?_;simp only[ntmps26,List.map];refine ae fw [0,4,5] [4,5] ?_;refine dZ fw 4 ?_;refine dZ fw 5 ?_;refine ag fun K1 aF=>ae fw [4,5,14] [] ?_;refine bf (ae fw [4,5,14,16,17] [] ?_);refine al (ae fw [4,5,14,20,21] [] ?_);refine aJ (ae fw [4,8] [] ?_);refine bh fw hi [6] [] ?_;exact aY fw
  | jV s=>
   rw[jr]at iQ;have hi:=h1 s iQ.1;have hw:=h2 s iQ.2;rw[dE,fg]
   cases hs:is s with
   | false=>
    rw[hs]at hi;refine aD.aO (ay _) func26 rfl rfl (rs:=[.tmp 6]) results26 (by simp[ntmps26]) fun X=>?_;simp only[ntmps26,List.map];refine ae fw [0,4,5] [4,5] ?_;refine dZ fw 4 ?_;refine dZ fw 5 ?_;refine ag fun K1 aF=>ae fw [4,5,14] [] ?_;refine bf (ae fw [4,5,14,16,17] [] ?_);refine al (ae fw [4,5,14,20,21] [] ?_);refine al (ae fw [4,5,14,26,27] [] ?_);refine aJ (ae fw [4,5,9] [] ?_);refine bh fw hi [6] [] ?_;exact aY fw
   | true=>
    rw[hs]at hi;refine aD.aO (ay _) func26 rfl rfl (rs:=[.tmp 6]) results26 (by simp[ntmps26]) fun X=>?_;simp only[ntmps26,List.map];refine ae fw [0,4,5] [4,5] ?_;refine dZ fw 4 ?_;refine dZ fw 5 ?_;refine ag fun K1 aF=>ae fw [4,5,14] [] ?_;refine bf (ae fw [4,5,14,16,17] [] ?_);refine al (ae fw [4,5,14,20,21] [] ?_);refine al (ae fw [4,5,14,26,27] [] ?_);refine aJ (ae fw [4,5,9] [] ?_);refine rg [6] [] aQ fun K' ao=>?_;(repeat refine aK fun Kq af=>?_;simp[ab,dS,b9,dk];(repeat refine⟨aa,?_⟩);refine af _ ?_);refine aK fun Kq af=>?_;simp[ab,dS,b9,dk];refine cZ.data (hi) bt (by first | exact D.bC _ | simp[aP,amk,amc,D.le,D.le.go,D.le_refl,D.bC,ab,dS,b9,dk]) ?_;refine af _ ?_;simp only[aN,du];(repeat refine aK fun Kq af=>?_;simp[ab,dS,b9,dk];(repeat refine⟨aa,?_⟩);refine af _ ?_);refine aK fun Kq af=>?_;simp[ab,dS,b9,dk];refine cZ.data (hw) bt (by first | exact D.bC _ | simp[aP,amk,amc,D.le,D.le.go,D.le_refl,D.bC,ab,dS,b9,dk]) ?_;refine af _ ?_;simp only[aN,du];(repeat refine aK fun Kq af=>?_;simp[ab,dS,b9,dk];(repeat refine⟨aa,?_⟩);refine af _ ?_);refine bH (ao _ (AW.st (by simp[ab,dS,b9,dk];rfl) ?_));exact aY fw
  | jL s=>
   rw[jr]at iQ;have hi:=h1 s iQ.1;have hw:=h2 s iQ.2;rw[dE,fg]
   cases hs:is s with
   | true=>
    rw[hs]at hi;refine aD.aO (ay _) func26 rfl rfl (rs:=[.tmp 6]) results26 (by simp[ntmps26]) fun X=>?_;simp only[ntmps26,List.map];refine ae fw [0,4,5] [4,5] ?_;refine dZ fw 4 ?_;refine dZ fw 5 ?_;refine ag fun K1 aF=>ae fw [4,5,14] [] ?_;refine bf (ae fw [4,5,14,16,17] [] ?_);refine al (ae fw [4,5,14,20,21] [] ?_);refine al (ae fw [4,5,14,26,27] [] ?_);refine al (ae fw [4,5,14,38,39] [] ?_);refine aJ (ae fw [4,5,10] [] ?_);refine bh fw hi [6] [] ?_;exact aY fw
   | false=>
    rw[hs]at hi;refine aD.aO (ay _) func26 rfl rfl (rs:=[.tmp 6]) results26 (by simp[ntmps26]) fun X=>?_;simp only[ntmps26,List.map];refine ae fw [0,4,5] [4,5] ?_;refine dZ fw 4 ?_;refine dZ fw 5 ?_;refine ag fun K1 aF=>ae fw [4,5,14] [] ?_;refine bf (ae fw [4,5,14,16,17] [] ?_);refine al (ae fw [4,5,14,20,21] [] ?_);refine al (ae fw [4,5,14,26,27] [] ?_);refine al (ae fw [4,5,14,38,39] [] ?_);refine aJ (ae fw [4,5,10] [] ?_);refine rg [6] [] aQ fun K' ao=>?_;(repeat refine aK fun Kq af=>?_;simp[ab,dS,b9,dk];(repeat refine⟨aa,?_⟩);refine af _ ?_);refine aK fun Kq af=>?_;simp[ab,dS,b9,dk];refine cZ.data (hi) bt (by first | exact D.bC _ | simp[aP,amk,amc,D.le,D.le.go,D.le_refl,D.bC,ab,dS,b9,dk]) ?_;refine af _ ?_;simp only[aN,du];(repeat refine aK fun Kq af=>?_;simp[ab,dS,b9,dk];(repeat refine⟨aa,?_⟩);refine af _ ?_);refine aK fun Kq af=>?_;simp[ab,dS,b9,dk];refine cZ.data (hw) bt (by first | exact D.bC _ | simp[aP,amk,amc,D.le,D.le.go,D.le_refl,D.bC,ab,dS,b9,dk]) ?_;refine af _ ?_;simp only[aN,du];(repeat refine aK fun Kq af=>?_;simp[ab,dS,b9,dk];(repeat refine⟨aa,?_⟩);refine af _ ?_);refine bH (ao _ (AW.st (by simp[ab,dS,b9,dk];rfl) ?_));exact aY fw
  | not x=>
   have hc:=ih x (by simp at bp;omega) (by rwa [jr]at iQ) (by simp only[bE]at hb;omega);obtain⟨tx,cx,hx⟩:=js x;rw[dE,fg,hx];rw[hx]at hc;generalize fg is cI x=r at hc ⊢;refine aD.aO (ay _) func26 rfl rfl (rs:=[.tmp 6]) results26 (by simp[ntmps26]) fun X=>?_;simp only[ntmps26,List.map];refine ae fw [0,4,5] [4,5] ?_;refine dZ fw 4 ?_;refine dZ fw 5 ?_;refine ag fun K1 aF=>ae fw [4,5,14] [] ?_;refine bf (ae fw [4,5,14,16,17] [] ?_);refine al (ae fw [4,5,14,20,21] [] ?_);refine al (ae fw [4,5,14,26,27] [] ?_);refine al (ae fw [4,5,14,38,39] [] ?_);refine al (ae fw [4,5,14,50,51] [] ?_);refine aJ (ae fw [4,5,11] [11] ?_);refine bh fw hc [6] [11] ?_;exact aY fw
  | and l=>
   have lB:∀ x∈l,aD prog G 69 [dE x,.ip [.fn (.func g1) c1],.ip [.fn (.func g2) c2]] (.v (.bool (!fg is cI x))):=fun x hx=>by
    have hc:=ih x (by have:=amL hx;simp only[Ex.and.sizeOf_spec]at bp;omega) (by rw[jr,CV]at iQ;exact iQ x hx) (by have:=Db hx;simp only[bE]at hb;omega);obtain⟨tx,cx,Nt⟩:=js x;rw[Nt]at hc ⊢;generalize fg is cI x=r at hc ⊢;refine aD.aO (ay _) func69 rfl rfl (rs:=[.tmp 4]) results69 (by simp[ntmps69]) fun X=>?_;simp only[ntmps69,List.map];refine ae fw [0,1,2] [] ?_;refine bh fw hc [4] [] ?_;exact aY fw
   have od:=w7 l;have D2:=Z2 G none l 69 [.ip [.fn (.func g1) c1],.ip [.fn (.func g2) c2]] (fun x=>!fg is cI x) (by simp only[bE]at hb;omega) lB;rw[dE,vv,fg,Rg];generalize l.any (fun x=>!fg is cI x)=r at D2 ⊢;refine aD.aO (ay _) func26 rfl rfl (rs:=[.tmp 6]) results26 (by simp[ntmps26]) fun X=>?_;simp only[ntmps26,List.map];refine ae fw [0,4,5] [4,5] ?_;refine dZ fw 4 ?_;refine dZ fw 5 ?_;refine ag fun K1 aF=>ae fw [4,5,14] [] ?_;refine bf (ae fw [4,5,14,16,17] [] ?_);refine al (ae fw [4,5,14,20,21] [] ?_);refine al (ae fw [4,5,14,26,27] [] ?_);refine al (ae fw [4,5,14,38,39] [] ?_);refine al (ae fw [4,5,14,50,51] [] ?_);refine al (ae fw [4,5,14,59,60] [] ?_);refine aJ (ae fw [4,5,12] [] ?_);refine bh fw D2 [6] [] ?_;exact aY fw
  | or l=>
   have lB:∀ x∈l,aD prog G 71 [dE x,.ip [.fn (.func g1) c1],.ip [.fn (.func g2) c2]] (.v (.bool (fg is cI x))):=fun x hx=>by
    have hc:=ih x (by have:=amL hx;simp only[Ex.or.sizeOf_spec]at bp;omega) (by rw[jr,CV]at iQ;exact iQ x hx) (by have:=Db hx;simp only[bE]at hb;omega);obtain⟨tx,cx,Nt⟩:=js x;rw[Nt]at hc ⊢;generalize fg is cI x=r at hc ⊢;refine aD.aO (ay _) func71 rfl rfl (rs:=[.tmp 4]) results71 (by simp[ntmps71]) fun X=>?_;simp only[ntmps71,List.map];refine ae fw [0,1,2] [] ?_;refine bh fw hc [4] [] ?_;exact aY fw
   have od:=w7 l;have D2:=Z3 G none l 71 [.ip [.fn (.func g1) c1],.ip [.fn (.func g2) c2]] (fun x=>fg is cI x) (by simp only[bE]at hb;omega) lB;rw[dE,vv,fg,Rh];generalize l.any (fun x=>fg is cI x)=r at D2 ⊢;refine aD.aO (ay _) func26 rfl rfl (rs:=[.tmp 6]) results26 (by simp[ntmps26]) fun X=>?_;simp only[ntmps26,List.map];refine ae fw [0,4,5] [4,5] ?_;refine dZ fw 4 ?_;refine dZ fw 5 ?_;refine ag fun K1 aF=>ae fw [4,5,14] [] ?_;refine bf (ae fw [4,5,14,16,17] [] ?_);refine al (ae fw [4,5,14,20,21] [] ?_);refine al (ae fw [4,5,14,26,27] [] ?_);refine al (ae fw [4,5,14,38,39] [] ?_);refine al (ae fw [4,5,14,50,51] [] ?_);refine al (ae fw [4,5,14,59,60] [] ?_);refine al (ae fw [4,5,66,67] [] ?_);refine aJ (ae fw [4,5,13] [] ?_);refine bh fw D2 [6] [] ?_;exact aY fw
theorem Ri (G:aB) (g1 g2:FuncId) (c1 c2:List D) (is cI:List UInt8->Bool) (S1 S2:List UInt8->Prop) (h1:pP S1 G g1 c1 is) (h2:pP S2 G g2 c2 cI) (e:Ex) (ha:jr S1 S2 e) (hb:bE e<=2^28):aD prog G 26 [dE e,.fn (.func g1) c1,.fn (.func g2) c2] (.v (.bool (fg is cI e))):=
 eval_at G g1 g2 c1 c2 is cI S1 S2 h1 h2 _ e (amh _) ha hb
theorem la:(⟨#[97]⟩:ByteArray)=bs [97]:=rfl
theorem lb:(⟨#[98]⟩:ByteArray)=bs [98]:=rfl
theorem XO (x:Nat) (h:x < 2^64):(BitVec.ofInt 64 (x:Int)).toNat=x:=by
 rw[BitVec.toNat_ofInt]
 have:(2:Nat)^64=18446744073709551616:=bD
 omega
theorem XP (x:Nat) (h:x < 2^64):IntKind.u64.wrap (x:Int)=(x:Int):=by
 rw[IntKind.wrap_u64]
 have:(2:Nat)^64=18446744073709551616:=bD
 omega
theorem aj5 (x y:Nat) (hx:x < 2^64) (hy:y < 2^64):pQ .and .u64 (x:Int) (y:Int)=((x &&& y:Nat):Int):=by
 unfold pQ;dsimp only
 have h3:(BitVec.ofInt IntKind.u64.bits (x:Int) &&& BitVec.ofInt IntKind.u64.bits (y:Int)).toNat=x &&& y:=by
  show (BitVec.ofInt 64 (x:Int) &&& BitVec.ofInt 64 (y:Int)).toNat=x &&& y;rw[BitVec.toNat_and,XO x hx,XO y hy]
 rw[h3,XP _ (Nat.lt_of_le_of_lt Nat.and_le_left hx)]
structure iD where
 name:Tx
 kind:Int
 count:Int
structure jy where
 kind:Int
 name:Tx
 cond:Option Ex
structure aM where
 names:List iD
 aC:List jy
def b7 (p:aM) (s:Tx):Int:=idx (fun n:iD=>n.name == s) p.names
theorem Vp (p:aM) {i:Nat} (hi:i < p.names.length):0<=b7 p p.names[i].name/\b7 p p.names[i].name<=i:=by
 have bq:¬ b7 p p.names[i].name < 0:=fun h=>by
  have:=Nw h _ (By hi);simp at this
 obtain⟨k,hk,he,_⟩:=tQ bq;refine⟨aa,?_⟩;apply amQ;intro aG
 have D8:i < k:=by unfold b7 at aG;omega
 unfold idx at he
 cases hf:p.names.findIdx? (fun n:iD=>n.name == p.names[i].name) with
 | none=>rw[hf]at he;simp at he
 | some k'=>
  rw[hf]at he;simp only[Int.ofNat.injEq,Int.natCast_inj]at he
  have mM:k'=k:=by simpa using he
  subst mM;have:=(amG.1 hf).2.2 i D8;simp at this
def pq {α:Type} (f:Nat->α->Int):List α->Nat->Option (Int×Nat)
 | [],_=>none
 | x :: l,i=>if f i x=0 then pq f l (i+1) else some (f i x,i)
theorem Dz {α:Type} {f:Nat->α->Int}:∀ {l:List α} {i:Nat} {e:Int} {k:Nat},pq f l i=some (e,k)->i<=k/\k < i+l.length/\e≠0
 | x :: l,i,e,k,h=>by
  rw[pq]at h;split at h
  .have:=Dz h;simp only[amo];omega
  .rename_i bq;obtain⟨h1,h2⟩:=eN h;rw[h1]at bq;simp only[amo];exact⟨aa,aa,bq⟩
theorem GL {α:Type} {f:Nat->α->Int}:∀ {l:List α} {i:Nat},pq f l i=none->∀ k (hk:k < l.length),f (i+k) l[k]=0
 | x :: l,i,h,k,hk=>by
  rw[pq]at h;split at h
  .rename_i h0
   cases k with
   | zero=>simpa using h0
   | succ k=>
    have:=GL h k (by simpa using hk);simpa[am6,anN 1 k]using this
  .cases h
def Gr (n:iD):Bool:=decide (n.kind=3) || decide (n.kind=4)
def ph (p:aM) (i:Nat) (n:iD):Int:=
 if !jQ n.name then 5 else if decide (n.kind < 1) || decide (n.kind > 4) then 1 else if (Gr n && (decide (n.count < 1) || decide (n.count > 7))) || (!Gr n && decide (n.count≠0)) then 2 else if b7 p n.name < i then 9 else 0
def kr (k:Int):Int:=if k<=3 then 2 else if k=4 then 3 else 4
def nh (p:aM) (r:jy):Int:=match r.cond with
 | none=>1
 | some e=>if decide (r.kind < 1) || decide (r.kind > 6) then 1 else if b7 p r.name < 0 then 7
  else if kr r.kind≠(p.names.getD (b7 p r.name).toNat ⟨[],0,0⟩).kind then 1 else if (ey true e).any fun s=>decide (b7 p s < 0) then 7 else 0
def cO (p:aM):Option (Int×Option Nat):=
 if p.names.length > 12\/p.aC.length > 40 then some (4,none) else match pq (ph p) p.names 0 with
  | some (e,i)=>some (e,some i)
  | none=>match pq (fun _ r=>nh p r) p.aC 0 with
   | some (e,i)=>some (e,some (p.names.length+i))
   | none=>none
def Km (p:aM) (i:Nat) (n:iD):Int:=
 if !jQ n.name then 5 else if !(decide (1<=n.kind) && decide (n.kind<=4)) then 1 else if (decide (n.kind >= 3) && !(decide (1<=n.count) && decide (n.count<=7))) || (decide (n.kind < 3) && decide (n.count≠0)) then 2 else if b7 p n.name≠i then 9 else 0
theorem Zg (p:aM) (i:Nat) (hi:i < p.names.length):Km p i p.names[i]=ph p i p.names[i]:=by
 have hle:=Vp p hi;generalize hn:p.names[i]=n at hle ⊢;unfold ph Km Gr
 cases mN:jQ n.name with
 | false=>simp
 | true=>
  by_cases hk:1<=n.kind/\n.kind<=4
  .have e1:(!(decide (1<=n.kind) && decide (n.kind<=4)))=false:=by simp[hk.1,hk.2]
   have e2:(decide (n.kind < 1) || decide (n.kind > 4))=false:=by simp;omega
   have e3:((decide (n.kind >= 3) && !(decide (1<=n.count) && decide (n.count<=7))) || (decide (n.kind < 3) && decide (n.count≠0)))=(((decide (n.kind=3) || decide (n.kind=4)) && (decide (n.count < 1) || decide (n.count > 7))) || (!(decide (n.kind=3) || decide (n.kind=4)) && decide (n.count≠0))):=by
    have:n.kind=1\/n.kind=2\/n.kind=3\/n.kind=4:=aa
    have ec:(!(decide (1<=n.count) && decide (n.count<=7)))=(decide (n.count < 1) || decide (n.count > 7)):=by
     by_cases h1:1<=n.count<;>by_cases h2:n.count<=7<;>simp[h1,h2]<;>omega
    rw[ec]
    rcases this with h | h | h | h<;>simp[h]
   rw[e1,e2,e3];have e4:(b7 p n.name≠(i:Int))=(b7 p n.name < (i:Int)):=propext ⟨fun h=>aa,fun h=>aa⟩;simp only[e4]
  .have e1:(!(decide (1<=n.kind) && decide (n.kind<=4)))=true:=by
    rw[<- Bool.decide_and];simp;omega
   have e2:(decide (n.kind < 1) || decide (n.kind > 4))=true:=by simp;omega
   rw[e1,e2];simp
structure lu (p:aM):Prop where
 names:p.names.length<=12
 aC:p.aC.length<=40
 name:∀ n∈p.names,jQ n.name=true/\1<=n.kind/\n.kind<=4
 count:∀ n∈p.names,(n.kind < 3/\n.count=0)\/(3<=n.kind/\1<=n.count/\n.count<=7)
 num:∀ i (hi:i < p.names.length),b7 p p.names[i].name=i
theorem gb {p:aM} (h:cO p=none):lu p:=by
 unfold cO at h;split at h
 .cases h
 .rename_i hl;split at h
  .cases h
  .rename_i hN;have dY:=fun i hi=>GL hN i hi
   have one:∀ i (hi:i < p.names.length),jQ p.names[i].name=true/\1<=p.names[i].kind/\p.names[i].kind<=4/\((p.names[i].kind < 3/\p.names[i].count=0)\/(3<=p.names[i].kind/\1<=p.names[i].count/\p.names[i].count<=7))/\b7 p p.names[i].name=i:=fun i hi=>by
    have hb:=dY i hi;have hle:=Vp p hi;rw[amR]at hb;generalize p.names[i]=n at hb hle ⊢;unfold ph Gr at hb;split at hb
    .omega
    .rename_i h1;split at hb
     .omega
     .rename_i h2;split at hb
      .omega
      .rename_i h3;split at hb
       .omega
       .rename_i h4;simp at h1 h2 h3;refine⟨h1,aa,aa,?_,aa⟩;by_cases hk:n.kind=3\/n.kind=4
        .exact .inr ⟨aa,by have:=h3.1 hk;omega,by have:=h3.1 hk;omega⟩
        .have:=h3.2 aa aa;exact .inl ⟨aa,aa⟩
   refine⟨aa,aa,fun n hn=>?_,fun n hn=>?_,fun i hi=>(one i hi).2.2.2.2⟩
   .obtain⟨i,hi,rfl⟩:=amz.1 hn;exact⟨(one i hi).1,(one i hi).2.1,(one i hi).2.2.1⟩
   .obtain⟨i,hi,rfl⟩:=amz.1 hn;exact (one i hi).2.2.2.1
def bw (n:iD):List D:=[dS n.name,.v (.int .i64 n.kind),.v (.int .i64 n.count)]
def Gu (n:iD):D:=.agg (bw n)
def ck (l:List iD):D:=.sl none (l.map bw)
def dC (c:Option Ex):D:=match c with
 | none=>.v .nilIface
 | some e=>dE e
def de (r:jy):List D:=[.v (.int .i64 r.kind),dS r.name,dC r.cond]
def KL (r:jy):D:=.agg (de r)
def eZ (l:List jy):D:=.sl none (l.map de)
def fe (p:aM):List D:=[ck p.names,eZ p.aC]
def fH (p:aM):D:=.agg (fe p)
theorem adv (G:aB) (k:Option Bool) (xs:List iD) (g:FuncId) (caps:List D) (p:iD->Bool) (hl:xs.length < 2^62) (ha:JX G g caps Gu p xs) :
  aD prog G 65 [.sl k (xs.map bw),.fn (.func g) caps] (.v (.int .i64 (idx p xs))):=by
 refine aD.aO (ay _) func65 rfl rfl (rs:=[.tmp 4]) results65 (by simp[ntmps65]) fun X=>?_;simp only[ntmps65,List.map];refine ar [0,1] [] ?_;refine ag fun K1 aF=>ar [0,1,7,8] [] ?_;refine ch (S:=Nat) (fun n=>n<=xs.length/\∀ i (hi:i < xs.length),i < n->p xs[i]=false) (fun n=>⟨bg [(0,.d (.sl k (xs.map bw))),(1,.d (.fn (.func g) caps)),(7,int xs.length),(8,int n)],aw []⟩) (fun n=>xs.length - n) 0 ?_ ak ?_
 .refine cg
 .rintro n ⟨hn,hp⟩;refine ar [0,1,7,8,9] [] ?_;refine ag fun K2 au=>eY (b:=n < xs.length) (by simp[D.le,D.le.go,aP]) (fun hc=>?_) (fun hc=>?_)
  .refine aq (au _ (ag fun K3 aX=>bf (ar [0,1,5,7,8] [] ?_)));have vM:=ha xs[n] ak;simp only[Gu,bw]at vM;have qf:=(Aq @hc @bw.eq_1);refine eF vM [0,1,5,7,8,16] [] ?_;refine r5 _ rfl (fun gZ=>?_) (fun gZ=>?_)
   .refine ar [4] [] ?_;refine bW ?_;simp[D.le,D.le.go,aP];exact (uN hc gZ fun i hi=>hp i aa hi).symm
   .refine aq (aX _ (cK ?_));(try simp only[aT,aW]);refine aZ.mk (n+1) ⟨aa,fun i hi aR=>?_⟩ aa ?_
    .by_cases h:i=n
     .subst h;exact gZ
     .exact hp i hi aa
    refine cg
  .refine bL (aF _ (ar [4] [] ?_));refine bW ?_;simp[D.le,D.le.go,aP];exact (uO fun i hi=>hp i hi aa).symm
theorem ady (G:aB) (k:Option Bool) (xs:List (List UInt8)) (g:FuncId) (caps:List D) (p:(List UInt8)->Bool) (hl:xs.length < 2^62) (ha:JX G g caps dS p xs) :
  aD prog G 62 [.sl k (xs.map (fun s=>[dS s])),.fn (.func g) caps] (.v (.int .i64 (idx p xs))):=by
 refine aD.aO (ay _) func62 rfl rfl (rs:=[.tmp 4]) results62 (by simp[ntmps62]) fun X=>?_;simp only[ntmps62,List.map];refine ar [0,1] [] ?_;refine ag fun K1 aF=>ar [0,1,7,8] [] ?_;refine ch (S:=Nat) (fun n=>n<=xs.length/\∀ i (hi:i < xs.length),i < n->p xs[i]=false) (fun n=>⟨bg [(0,.d (.sl k (xs.map (fun s=>[dS s])))),(1,.d (.fn (.func g) caps)),(7,int xs.length),(8,int n)],aw []⟩) (fun n=>xs.length - n) 0 ?_ ak ?_
 .refine bo @an9
 .rintro n ⟨hn,hp⟩;refine ar [0,1,7,8,9] [] ?_;refine ag fun K2 au=>eY (b:=n < xs.length) (by simp[D.le,D.le.go,aP]) (fun hc=>?_) (fun hc=>?_)
  .refine aq (au _ (ag fun K3 aX=>bf (ar [0,1,5,7,8] [] ?_)));have vM:=ha xs[n] ak;simp only[dS]at vM;have qf:=(Aq @hc @an9);refine eF vM [0,1,5,7,8,16] [] ?_;refine r5 _ rfl (fun gZ=>?_) (fun gZ=>?_)
   .refine ar [4] [] ?_;refine bW ?_;simp[D.le,D.le.go,aP];exact (uN hc gZ fun i hi=>hp i aa hi).symm
   .refine aq (aX _ (cK ?_));(try simp only[aT,aW]);refine aZ.mk (n+1) ⟨aa,fun i hi aR=>?_⟩ aa ?_
    .by_cases h:i=n
     .subst h;exact gZ
     .exact hp i hi aa
    refine bo @an9
  .refine bL (aF _ (ar [4] [] ?_));refine bW ?_;simp[D.le,D.le.go,aP];exact (uO fun i hi=>hp i hi aa).symm
theorem KC (G:aB) (k:Option Bool) (xs:List (List UInt8)) (g:FuncId) (caps:List D) (p:List UInt8->Bool) (hl:xs.length < 2^62) (ha:JX G g caps dS p xs) :
  aD prog G 20 [.sl k (xs.map fun s=>[dS s]),.fn (.func g) caps] (.v (.bool (xs.any p))):=by
 refine aD.aO (ay _) func20 rfl rfl (rs:=[.tmp 4]) results20 (by simp[ntmps20]) fun X=>?_;simp only[ntmps20,List.map];refine ar [0,1] [] ?_;refine bh trivial (ady G k xs g caps p hl ha) [4] [] ?_;refine bW ?_;simp[D.le,D.le.go,aP];exact Ib p xs
theorem ael (G:aB) (n:iD) (s:List UInt8):aD prog G 66 [Gu n,.ip [dS s]] (.v (.bool (n.name == s))):=by
 simp only[Gu,bw,dS];refine aD.aO (ay _) func66 rfl rfl (rs:=[.tmp 3]) results66 (by simp[ntmps66]) fun X=>?_;simp only[ntmps66,List.map];refine ar [1,2] [2] ?_;refine rg [3] [2] aQ fun K' ao=>?_;(repeat refine aK fun Kq af=>?_;simp[bu,bA];(repeat refine⟨aa,?_⟩);refine af _ ?_);refine bH (ao _ (AW.st (by simp[bu,bA];rfl) ?_));exact fP
theorem wH (G:aB) (p:aM) (hp:p.names.length < 2^62) (s:List UInt8):aD prog G 23 [fH p,dS s] (.v (.int .i64 (b7 p s))):=by
 have hi:=adv G none p.names 66 [.ip [dS s]] (fun n=>n.name == s) hp fun n _=>ael G n s;unfold b7;simp only[fH,fe,ck,dS]at hi ⊢;generalize eZ p.aC=R at *;generalize idx (fun n:iD=>n.name == s) p.names=z at hi ⊢;refine aD.aO (ay _) func23 rfl rfl (rs:=[.tmp 4]) results23 (by simp[ntmps23]) fun X=>?_;simp only[ntmps23,List.map];refine ae @eZ.eq_1 [2,3] [2,3] ?_;refine gu 3 ?_;refine bh trivial hi [4] [2] ?_;exact fP
theorem UI (G:aB) (p:aM) (hp:p.names.length < 2^62) (s:List UInt8):aD prog G 146 [dS s,.ip (fe p)] (.v (.bool (decide (b7 p s < 0)))):=by
 have hi:=wH G p hp s;simp only[fH,fe,ck,eZ,dS]at hi ⊢;refine aD.aO (ay _) func146 rfl rfl (rs:=[.tmp 3]) results146 (by simp[ntmps146]) fun X=>?_;simp only[ntmps146,List.map];refine ar [0,1] [] ?_;refine bh trivial hi [3] [] ?_;exact fP
structure Yz (T:Prop):Prop where
 out:T
theorem Iz {T U:Prop} (h:Yz T->U) (t:T):U:=h ⟨t⟩
theorem Vq {p:aM} {s:List UInt8} (h:¬ b7 p s < 0):∃ k:Nat,∃ hk:k < p.names.length,b7 p s=k:=by
 obtain⟨k,hk,he,_⟩:=tQ h;exact⟨k,hk,he⟩
theorem aek (G:aB) (p:aM) (hp:p.names.length < 2^62) (r:jy) (hb:∀ e,r.cond=some e->bE e<=2^28/\(ey true e).length < 2^62):aD prog G 97 [fH p,KL r] (.v (.int .i64 (nh p r))):=by
 obtain⟨kind,name,cond⟩:=r;dsimp only at hb;have cy:=wH G p hp name;have aV:=fun s=>UI G p hp s;simp only[fH,fe,ck,eZ,KL,de,dS]at cy aV ⊢
 cases cond with
 | none=>
  have lg:nh p ⟨kind,name,none⟩=1:=rfl;generalize nh p ⟨kind,name,none⟩=res at lg;refine aD.aO (ay _) func97 rfl rfl (rs:=[.tmp 4]) results97 (by simp[ntmps97]) fun X=>?_;simp only[ntmps97,List.map];have fw:=(Aq @dC.eq_1 @dC.eq_2);refine ae fw [2,3] [2,3] ?_;refine ag fun K1 aF=>?_;by_cases h1:kind < 1
  .have qf:=(Aq fw @h1);refine ax [2,3,19] [2,3] ?_;refine aJ (ae fw [4] [] ?_);exact aY (Aq fw @lg)
  .by_cases h2:kind > 6
   .have qf:=(Aq fw (Aq @h1 @h2));refine ax [2,3,19] [2,3] ?_;refine aJ (ae fw [4] [] ?_);exact aY (Aq fw @lg)
   .have qf:=(Aq fw (Aq @h1 @h2));refine ax [2,3,19] [2,3] ?_;refine aJ (ae fw [4] [] ?_);exact aY (Aq fw @lg)
 | some e=>
  have lg:nh p ⟨kind,name,some e⟩=if decide (kind < 1) || decide (kind > 6) then 1 else if b7 p name < 0 then 7
   else if kr kind≠(p.names.getD (b7 p name).toNat ⟨[],0,0⟩).kind then 1 else if (ey true e).any fun s=>decide (b7 p s < 0) then 7 else 0:=rfl
  generalize nh p ⟨kind,name,some e⟩=res at lg;obtain⟨zr,fz⟩:=hb e rfl;have jN:=Ol G e zr;have xz:=KC G none (ey true e) 146 [.ip (fe p)] (fun s=>decide (b7 p s < 0)) fz fun s _=>UI G p hp s;have LX:dC (some e)=dE e:=rfl;rw[LX];obtain⟨tx,cx,hx⟩:=js e;rw[hx]at jN ⊢;simp only[fe,ck,eZ,dS]at jN xz;generalize ((ey true e).any fun s=>decide (b7 p s < 0))=an at lg xz;generalize ey true e=nm at jN xz;refine aD.aO (ay _) func97 rfl rfl (rs:=[.tmp 4]) results97 (by simp[ntmps97]) fun X=>?_;simp only[ntmps97,List.map];have fw:=(Aq @dC.eq_1 @dC.eq_2);refine ae fw [2,3] [2,3] ?_;refine dZ fw 2 ?_;refine dZ fw 3 ?_;refine ag fun K1 aF=>?_;by_cases h1:kind < 1
  .rw[if_pos (by simp[h1])]at lg;have qf:=(Aq fw @h1);refine ax [2,3,19] [] ?_;refine aJ (ae fw [4] [] ?_);exact aY (Aq fw @lg)
  by_cases h2:kind > 6
  .rw[if_pos (by simp[h2])]at lg;have qf:=(Aq fw (Aq @h1 @h2));refine ax [2,3,19] [] ?_;refine aJ (ae fw [4] [] ?_);exact aY (Aq fw @lg)
  rw[if_neg (by simp[h1,h2])]at lg;have qf:=(Aq fw (Aq @h1 @h2));refine ax [2,3,19] [] ?_;refine al (aq (aF _ ?_));refine bh fw cy [2,3,5] [] ?_;refine ag fun K2 au=>ae fw [2,3,5,25] [] ?_;by_cases h3:b7 p name < 0
  .rw[if_pos h3]at lg;refine bR (by simp[h3]) (ae fw [4] [] ?_);exact aY (Aq fw @lg)
  rw[if_neg h3]at lg;obtain⟨k,hk,lF⟩:=Vq h3
  have iG:p.names.getD (b7 p name).toNat ⟨[],0,0⟩=p.names[k]:=by
   rw[lF,amd,ame,AT hk];rfl
  rw[iG]at lg;refine bU (by simp[h3]) (aq (au _ ?_));refine ag fun K3 aX=>?_;have jf:bw p.names[k]=[dS p.names[k].name,.v (.int .i64 p.names[k].kind),.v (.int .i64 p.names[k].count)]:=rfl;generalize mM:p.names[k].kind=kk at lg jf
  refine' Iz (fun df=>?_) ?_
  rotate_left
  .have gn:=h1;by_cases bO:kind=1
   .have qf:=(Aq fw @bO);refine ax [2,3,5,6] [] ?_;refine AW.st (show _=(⟨bg [(2,.d (.ip [.sl none (p.names.map bw),.sl none (p.aC.map de)])),(3,.d (.ip [.v (.int .i64 kind),.v (.string (bs name)),.cC tx cx])),(5,int (b7 p name)),(6,int (kr kind))],aw []⟩:St) by rw[bO]<;>rfl) ?_;exact df.out
   by_cases bO:kind=2
   .have qf:=(Aq fw @bO);refine ax [2,3,5,6] [] ?_;refine AW.st (show _=(⟨bg [(2,.d (.ip [.sl none (p.names.map bw),.sl none (p.aC.map de)])),(3,.d (.ip [.v (.int .i64 kind),.v (.string (bs name)),.cC tx cx])),(5,int (b7 p name)),(6,int (kr kind))],aw []⟩:St) by rw[bO]<;>rfl) ?_;exact df.out
   by_cases bO:kind=3
   .have qf:=(Aq fw @bO);refine ax [2,3,5,6] [] ?_;refine AW.st (show _=(⟨bg [(2,.d (.ip [.sl none (p.names.map bw),.sl none (p.aC.map de)])),(3,.d (.ip [.v (.int .i64 kind),.v (.string (bs name)),.cC tx cx])),(5,int (b7 p name)),(6,int (kr kind))],aw []⟩:St) by rw[bO]<;>rfl) ?_;exact df.out
   by_cases bO:kind=4
   .have qf:=(Aq fw @bO);refine ax [2,3,5,6] [] ?_;refine AW.st (show _=(⟨bg [(2,.d (.ip [.sl none (p.names.map bw),.sl none (p.aC.map de)])),(3,.d (.ip [.v (.int .i64 kind),.v (.string (bs name)),.cC tx cx])),(5,int (b7 p name)),(6,int (kr kind))],aw []⟩:St) by rw[bO]<;>rfl) ?_;exact df.out
   by_cases bO:kind=5
   .have qf:=(Aq fw @bO);refine ax [2,3,5,6] [] ?_;refine AW.st (show _=(⟨bg [(2,.d (.ip [.sl none (p.names.map bw),.sl none (p.aC.map de)])),(3,.d (.ip [.v (.int .i64 kind),.v (.string (bs name)),.cC tx cx])),(5,int (b7 p name)),(6,int (kr kind))],aw []⟩:St) by rw[bO]<;>rfl) ?_;exact df.out
   have bO:kind=6:=aa
   have qf:=(Aq fw @bO);refine ax [2,3,5,6] [] ?_;refine AW.st (show _=(⟨bg [(2,.d (.ip [.sl none (p.names.map bw),.sl none (p.aC.map de)])),(3,.d (.ip [.v (.int .i64 kind),.v (.string (bs name)),.cC tx cx])),(5,int (b7 p name)),(6,int (kr kind))],aw []⟩:St) by rw[bO]<;>rfl) ?_;exact df.out
  .rw[lF];have qf:=(Aq fw (Aq @hk @jf));refine ax [2,3,37] [] ?_;by_cases h4:kk=kr kind
   .rw[if_neg (by simp[h4])]at lg;refine bU (by simp[h4]) (aq (aX _ ?_));refine ag fun K4 b6=>rg [42] [] aQ fun K' ao=>?_;(repeat refine aK fun Kq af=>?_;simp[dC];(repeat refine⟨aa,?_⟩);refine af _ ?_);refine aK fun Kq af=>?_;simp[dC];refine cZ.data (jN) bt (by first | exact D.bC _ | simp[aP,amk,amc,D.le,D.le.go,D.le_refl,D.bC,dC]) ?_;refine af _ ?_;simp only[aN,du];(repeat refine aK fun Kq af=>?_;simp[dC];(repeat refine⟨aa,?_⟩);refine af _ ?_);refine aK fun Kq af=>?_;simp[dC];refine cZ.data (xz) bt (by first | exact D.bC _ | simp[aP,amk,amc,D.le,D.le.go,D.le_refl,D.bC,dC]) ?_;refine af _ ?_;simp only[aN,du];(repeat refine aK fun Kq af=>?_;simp[dC];(repeat refine⟨aa,?_⟩);refine af _ ?_);refine bH (ao _ (AW.st (by simp[dC];rfl) ?_))
    cases an with
    | true=>
     rw[if_pos rfl]at lg;refine aJ (ae fw [4] [] ?_);exact aY (Aq fw @lg)
    | false=>
     rw[if_neg bD]at lg;refine al (aq (b6 _ ?_));refine ae fw [4] [] ?_;exact aY (Aq fw @lg)
   .rw[if_pos (fun h=>h4 h.symm)]at lg;refine bR (by simp[h4]) (ae fw [4] [] ?_);exact aY (Aq fw @lg)
theorem Dy {α:Type} {f:Nat->α->Int}:∀ {l:List α} {i n:Nat} (hn:n < l.length),(∀ k (hk:k < l.length),k < n->f (i+k) l[k]=0)->f (i+n) l[n]≠0->pq f l i=some (f (i+n) l[n],i+n)
 | x :: l,i,0,_,_,bq=>by rw[pq,if_neg (show ¬ f i x=0 from bq)];rfl
 | x :: l,i,n+1,hn,hb,bq=>by
  have h0:f i x=0:=hb 0 ak aa
  have e:∀ k,i+1+k=i+(k+1):=fun k=>aa
  rw[pq,if_pos h0,Dy (l:=l) (i:=i+1) (n:=n) (by simpa using hn) (fun k hk ld=>by rw[e];exact hb (k+1) (by simpa using hk) aa) (by rw[e];exact bq),e];rfl
theorem DA {α:Type} {f:Nat->α->Int}:∀ {l:List α} {i:Nat},(∀ k (hk:k < l.length),f (i+k) l[k]=0)->pq f l i=none
 | [],_,_=>rfl
 | x :: l,i,hb=>by
  have e:∀ k,i+1+k=i+(k+1):=fun k=>aa
  rw[pq,if_pos (show f i x=0 from hb 0 ak),DA fun k hk=>by rw[e];exact hb (k+1) (by simpa using hk)]
structure F4 (p:aM):Prop where
 nl:p.names.length < 2^62
 rl:p.aC.length < 2^62
 nn:∀ n∈p.names,n.name.length < 2^60
 cb:∀ r∈p.aC,∀ e,r.cond=some e->bE e<=2^28/\(ey true e).length < 2^62
theorem Uw (G:aB) (p:aM) (hp:F4 p):aD prog G 49 [fH p] (bG (cO p)):=by
 obtain⟨fz,eC,sD,BG⟩:=hp
 have zL:cO p=if p.names.length > 12\/p.aC.length > 40 then some (4,none) else match pq (ph p) p.names 0 with
  | some (e,i)=>some (e,some i)
  | none=>match pq (fun _ r=>nh p r) p.aC 0 with
   | some (e,i)=>some (e,some (p.names.length+i))
   | none=>none:=rfl
 generalize kS:cO p=res;rw[zL]at kS;have cy:=fun s=>wH G p fz s;have kL:=fun r h=>aek G p fz r h;simp only[fH,fe,ck,eZ,dS]at cy kL ⊢;refine aD.aO (ay _) func49 rfl rfl (rs:=[.tmp 2]) results49 (by simp[ntmps49]) fun X=>?_;simp only[ntmps49,List.map];refine ar [1] [1] ?_;refine gu 1 ?_;refine ag fun K1 aF=>?_;by_cases g0:(p.names.length:Int) > 12
 .rw[if_pos (.inl aa)]at kS;have qf:=@g0;refine ax [1,19] [] ?_;refine aJ (ar [2] [] ?_);refine bW ?_;simp[D.le,D.le.go,aP];simp[<- kS,bG,D.le]
 by_cases g1:(p.aC.length:Int) > 40
 .rw[if_pos (.inr aa)]at kS;have qf:=(Aq @g0 @g1);refine ax [1,19] [] ?_;refine aJ (ar [2] [] ?_);refine bW ?_;simp[D.le,D.le.go,aP];simp[<- kS,bG,D.le]
 rw[if_neg aa]at kS;have qf:=(Aq @g0 @g1);refine ax [1,19] [] ?_;refine al (aq (aF _ ?_));refine ag fun K2 au=>ar [1,22,23,24] [] ?_;refine ch (S:=Nat) (fun n=>n<=p.names.length/\∀ k (hk:k < p.names.length),k < n->ph p k p.names[k]=0) (fun n=>⟨bg [(1,.d (.ip [.sl none (p.names.map bw),.sl none (p.aC.map de)])),(22,.d (.sl none (p.names.map bw))),(23,int p.names.length),(24,int n)],aw []⟩) (fun n=>p.names.length - n) 0 ?_ ak ?_
 .refine cg
 .rintro n ⟨hn,hb⟩;refine ar [1,22,23,24,25] [] ?_;refine ag fun K3 aX=>eY (b:=n < p.names.length) (by simp[D.le,D.le.go,aP]) (fun hc=>?_) (fun hc=>?_)
  .have aG:=hc
   have gw:ph p n p.names[n]≠0->res=some (ph p n p.names[n],some n):=fun bq=>by
    rw[<- kS,Dy (i:=0) aG (fun k hk ld=>by rw[amR];exact hb k hk ld) (by rw[amR];exact bq)];simp
   have fL:=sD _ (By aG);have jf:bw p.names[n]=[dS p.names[n].name,.v (.int .i64 p.names[n].kind),.v (.int .i64 p.names[n].count)]:=rfl
   have cD:ph p n p.names[n]=if !jQ p.names[n].name then 5 else if decide (p.names[n].kind < 1) || decide (p.names[n].kind > 4) then 1 else if ((decide (p.names[n].kind=3) || decide (p.names[n].kind=4)) && (decide (p.names[n].count < 1) || decide (p.names[n].count > 7))) || (!(decide (p.names[n].kind=3) || decide (p.names[n].kind=4)) && decide (p.names[n].count≠0)) then 2 else if b7 p p.names[n].name < n then 9 else 0:=rfl
   generalize hv:ph p n p.names[n]=v at cD gw;generalize p.names[n].name=nm at fL jf cD;generalize p.names[n].kind=kd at jf cD;generalize p.names[n].count=ct at jf cD;have mN:=Vb G nm fL;have mf:=cy nm;simp only[dS]at jf mN;generalize jQ nm=nf at mN cD;refine aq (aX _ (ag fun K4 b6=>bf ?_));have qf:=(Aq @aG @jf);refine ax [1,3,4,22,23,24] [4] ?_;refine gu 4 ?_
   refine' Iz (fun dW=>?_) ?_
   rotate_left
   .by_cases k3:kd=3
    .have qf:=@k3;refine ax [1,3,4,5,22,23,24] [] ?_;refine AW.st (show _=(⟨bg [(1,.d (.ip [.sl none (p.names.map bw),.sl none (p.aC.map de)])),(3,int n),(4,.d (.ip [.v (.string (bs nm)),.v (.int .i64 kd),.v (.int .i64 ct)])),(5,.d (.v (.bool (decide (kd=3) || decide (kd=4))))),(22,.d (.sl none (p.names.map bw))),(23,int p.names.length),(24,int n)],aw []⟩:St) by rw[k3]<;>rfl) ?_;exact dW.out
    .by_cases k4:kd=4
     .have qf:=(Aq @k3 @k4);refine ax [1,3,4,5,22,23,24] [] ?_;refine AW.st (show _=(⟨bg [(1,.d (.ip [.sl none (p.names.map bw),.sl none (p.aC.map de)])),(3,int n),(4,.d (.ip [.v (.string (bs nm)),.v (.int .i64 kd),.v (.int .i64 ct)])),(5,.d (.v (.bool (decide (kd=3) || decide (kd=4))))),(22,.d (.sl none (p.names.map bw))),(23,int p.names.length),(24,int n)],aw []⟩:St) by rw[k4]<;>rfl) ?_;exact dW.out
     .have e:(decide (kd=3) || decide (kd=4))=false:=by simp[k3,k4]
      have qf:=(Aq @k3 @k4);refine ax [1,3,4,5,22,23,24] [] ?_;refine AW.st (show _=(⟨bg [(1,.d (.ip [.sl none (p.names.map bw),.sl none (p.aC.map de)])),(3,int n),(4,.d (.ip [.v (.string (bs nm)),.v (.int .i64 kd),.v (.int .i64 ct)])),(5,.d (.v (.bool (decide (kd=3) || decide (kd=4))))),(22,.d (.sl none (p.names.map bw))),(23,int p.names.length),(24,int n)],aw []⟩:St) by rw[e]<;>rfl) ?_;exact dW.out
   .generalize (decide (kd=3) || decide (kd=4))=cB at cD;refine ar [1,3,4,5,6,22,23,24] [] ?_;refine ag fun K5 b5=>?_
    refine' Iz (fun df=>?_) ?_
    rotate_left
    .refine bf (bh trivial mN [1,3,4,5,6,22,23,24,37] [] ?_);by_cases BX:nf=true
     rotate_left
     .have Tm:nf=false:=by simpa using BX
      rw[if_pos (by simp[Tm])]at cD;rw[Tm];refine aJ (gq trivial b5 [1,3,6,22,23,24] [] ?_);refine AW.st (show _=(⟨bg [(1,.d (.ip [.sl none (p.names.map bw),.sl none (p.aC.map de)])),(3,int n),(6,int v),(22,.d (.sl none (p.names.map bw))),(23,int p.names.length),(24,int n)],aw []⟩:St) by rw[cD]<;>rfl) ?_;exact df.out
     .rw[if_neg (by simp[BX])]at cD;rw[BX];refine al ?_;by_cases k1:kd < 1
      .rw[if_pos (by simp[k1])]at cD;have qf:=@k1;refine ax [1,3,4,5,6,22,23,24,42] [] ?_;refine aJ (gq trivial b5 [1,3,6,22,23,24] [] ?_);refine AW.st (show _=(⟨bg [(1,.d (.ip [.sl none (p.names.map bw),.sl none (p.aC.map de)])),(3,int n),(6,int v),(22,.d (.sl none (p.names.map bw))),(23,int p.names.length),(24,int n)],aw []⟩:St) by rw[cD]<;>rfl) ?_;exact df.out
      by_cases k2:kd > 4
      .rw[if_pos (by simp[k2])]at cD;have qf:=(Aq @k1 @k2);refine ax [1,3,4,5,6,22,23,24,42] [] ?_;refine aJ (gq trivial b5 [1,3,6,22,23,24] [] ?_);refine AW.st (show _=(⟨bg [(1,.d (.ip [.sl none (p.names.map bw),.sl none (p.aC.map de)])),(3,int n),(6,int v),(22,.d (.sl none (p.names.map bw))),(23,int p.names.length),(24,int n)],aw []⟩:St) by rw[cD]<;>rfl) ?_;exact df.out
      rw[if_neg (by simp[k1,k2])]at cD;have qf:=(Aq @k1 @k2);refine ax [1,3,4,5,6,22,23,24,42] [] ?_;refine al ?_;by_cases SP:cB=true
      .rw[SP]at cD ⊢;by_cases c1:ct < 1
       .rw[if_pos (by simp[c1])]at cD;have qf:=@c1;refine ax [1,3,4,6,22,23,24,51] [] ?_;refine aJ (gq trivial b5 [1,3,6,22,23,24] [] ?_);refine AW.st (show _=(⟨bg [(1,.d (.ip [.sl none (p.names.map bw),.sl none (p.aC.map de)])),(3,int n),(6,int v),(22,.d (.sl none (p.names.map bw))),(23,int p.names.length),(24,int n)],aw []⟩:St) by rw[cD]<;>rfl) ?_;exact df.out
       by_cases c2:ct > 7
       .rw[if_pos (by simp[c2])]at cD;have qf:=(Aq @c1 @c2);refine ax [1,3,4,6,22,23,24,51] [] ?_;refine aJ (gq trivial b5 [1,3,6,22,23,24] [] ?_);refine AW.st (show _=(⟨bg [(1,.d (.ip [.sl none (p.names.map bw),.sl none (p.aC.map de)])),(3,int n),(6,int v),(22,.d (.sl none (p.names.map bw))),(23,int p.names.length),(24,int n)],aw []⟩:St) by rw[cD]<;>rfl) ?_;exact df.out
       rw[if_neg (by simp[c1,c2])]at cD;have qf:=(Aq @c1 @c2);refine ax [1,3,4,6,22,23,24,51] [] ?_;refine al (bh trivial mf [1,3,6,22,23,24,72] [] ?_);by_cases c9:b7 p nm < n
       .rw[if_pos c9]at cD;refine bR (by simp[c9]) (gq trivial b5 [1,3,6,22,23,24] [] ?_);refine AW.st (show _=(⟨bg [(1,.d (.ip [.sl none (p.names.map bw),.sl none (p.aC.map de)])),(3,int n),(6,int v),(22,.d (.sl none (p.names.map bw))),(23,int p.names.length),(24,int n)],aw []⟩:St) by rw[cD]<;>rfl) ?_;exact df.out
       .rw[if_neg c9]at cD;refine bU (by simp[c9]) (aq ?_);refine b5 _ (AW.norm [1,3,6,22,23,24] [] aQ (AW.st bt ?_));refine AW.st (show _=(⟨bg [(1,.d (.ip [.sl none (p.names.map bw),.sl none (p.aC.map de)])),(3,int n),(6,int v),(22,.d (.sl none (p.names.map bw))),(23,int p.names.length),(24,int n)],aw []⟩:St) by rw[cD]<;>rfl) ?_;exact df.out
      .have abV:cB=false:=by simpa using SP
       rw[abV]at cD ⊢;by_cases c0:ct=0
       .rw[if_neg (by simp[c0])]at cD;have qf:=@c0;refine ax [1,3,4,6,22,23,24,51] [] ?_;refine al (bh trivial mf [1,3,6,22,23,24,72] [] ?_);by_cases c9:b7 p nm < n
        .rw[if_pos c9]at cD;refine bR (by simp[c9]) (gq trivial b5 [1,3,6,22,23,24] [] ?_);refine AW.st (show _=(⟨bg [(1,.d (.ip [.sl none (p.names.map bw),.sl none (p.aC.map de)])),(3,int n),(6,int v),(22,.d (.sl none (p.names.map bw))),(23,int p.names.length),(24,int n)],aw []⟩:St) by rw[cD]<;>rfl) ?_;exact df.out
        .rw[if_neg c9]at cD;refine bU (by simp[c9]) (aq ?_);refine b5 _ (AW.norm [1,3,6,22,23,24] [] aQ (AW.st bt ?_));refine AW.st (show _=(⟨bg [(1,.d (.ip [.sl none (p.names.map bw),.sl none (p.aC.map de)])),(3,int n),(6,int v),(22,.d (.sl none (p.names.map bw))),(23,int p.names.length),(24,int n)],aw []⟩:St) by rw[cD]<;>rfl) ?_;exact df.out
       .rw[if_pos (by simp[c0])]at cD;have qf:=@c0;refine ax [1,3,4,6,22,23,24,51] [] ?_;refine aJ (gq trivial b5 [1,3,6,22,23,24] [] ?_);refine AW.st (show _=(⟨bg [(1,.d (.ip [.sl none (p.names.map bw),.sl none (p.aC.map de)])),(3,int n),(6,int v),(22,.d (.sl none (p.names.map bw))),(23,int p.names.length),(24,int n)],aw []⟩:St) by rw[cD]<;>rfl) ?_;exact df.out
    .by_cases iZ:v=0
     .have qf:=@iZ;refine ax [1,3,6,22,23,24,80] [] ?_;refine al (aq ?_);refine b6 _ ?_;refine cK ?_;(try simp only[aT,aW]);refine aZ.mk (n+1) ⟨aa,fun k hk ld=>?_⟩ aa ?_
      .by_cases h:k=n
       .subst h;rw[hv,iZ]
       .exact hb k hk aa
      refine cg
     .have qf:=@iZ;refine ax [1,3,6,22,23,24,80] [] ?_;refine aJ (ar [2] [84] ?_);refine bW ?_;simp[D.le,D.le.go,aP];simp[gw iZ,bG,D.le,D.le.go]
  .rw[DA fun k hk=>by rw[amR];exact hb k hk aa]at kS;dsimp only at kS;refine bL (au _ (ag fun K6 dy=>ar [1,88,89,90] [] ?_));refine ch (S:=Nat) (fun n=>n<=p.aC.length/\∀ k (hk:k < p.aC.length),k < n->nh p p.aC[k]=0) (fun n=>⟨bg [(1,.d (.ip [.sl none (p.names.map bw),.sl none (p.aC.map de)])),(88,.d (.sl none (p.aC.map de))),(89,int p.aC.length),(90,int n)],aw []⟩) (fun n=>p.aC.length - n) 0 ?_ ak ?_
   .refine cg
   .rintro n ⟨hn,hb⟩;refine ar [1,88,89,90,91] [] ?_;refine ag fun K7 eH=>eY (b:=n < p.aC.length) (by simp[D.le,D.le.go,aP]) (fun hc=>?_) (fun hc=>?_)
    .have aG:=hc
     have gw:nh p p.aC[n]≠0->res=some (nh p p.aC[n],some (p.names.length+n)):=fun bq=>by
      rw[<- kS,Dy (i:=0) aG (fun k hk ld=>hb k hk ld) bq];simp
     have jf:de p.aC[n]=[.v (.int .i64 p.aC[n].kind),dS p.aC[n].name,dC p.aC[n].cond]:=rfl;have aV:=kL p.aC[n] (BG _ (By aG));simp only[KL,jf]at aV;generalize hv:nh p p.aC[n]=v at aV gw
     obtain⟨tc,LX,hsc⟩:∃ tc,dC p.aC[n].cond=tc/\((∃ a b,tc = .cC a b)\/tc = .v .nilIface):=by
      cases p.aC[n].cond with
      | none=>exact⟨_,rfl,.inr rfl⟩
      | some e=>obtain⟨a,b,h⟩:=js e;exact⟨_,rfl,.inl ⟨a,b,h⟩⟩
     rw[LX]at jf aV;generalize p.aC[n].kind=kd at jf aV;generalize p.aC[n].name=nm at jf aV;simp only[dS]at jf aV
     have HK:(p.names.length:Int)+(n:Int)<=2^62:=aa
     refine aq (eH _ (ag fun K8 eo=>bf ?_))
     rcases hsc with⟨ta,tb2,rfl⟩ | rfl
     all_goals
      .have qf:=(Aq @aG @jf);refine ax [1,7,8,88,89,90] [8] ?_;refine gu 8 ?_;refine bh trivial aV [1,7,9,88,89,90] [] ?_;by_cases iZ:v=0
       .have qf:=@iZ;refine ax [1,7,9,88,89,90,99] [] ?_;refine al (aq (eo _ ?_));refine cK ?_;(try simp only[aT,aW]);refine aZ.mk (n+1) ⟨aa,fun k hk ld=>?_⟩ aa ?_
        .by_cases h:k=n
         .subst h;rw[hv,iZ]
         .exact hb k hk aa
        refine cg
       .have qf:=@iZ;refine ax [1,7,9,88,89,90,99] [] ?_;refine aJ (ar [2] [107] ?_);refine bW ?_;simp[D.le,D.le.go,aP];simp[gw iZ,bG,D.le,D.le.go]
    .rw[DA fun k hk=>hb k hk aa]at kS;refine bL (dy _ (ar [2] [] ?_));refine bW ?_;simp[D.le,D.le.go,aP];simp[<- kS,bG]
def ez (r:jy):List D:=[.v (.int .i64 r.kind),dS r.name,lQ r.cond]
def fF (p:aM):List D:=[ck p.names,.sl none (p.aC.map ez)]
def eB (p:aM):D:=.agg (fF p)
theorem PR (G:aB) (p:aM) (hl:p.names.length < 2^62) (s:List UInt8):aD prog G 36 [eB p,dS s] (.v (.int .i64 (b7 p s))):=by
 unfold b7;simp only[eB,fF,ck,dS];generalize p.aC.map ez=R;refine aD.aO (ay _) func36 rfl rfl (rs:=[.tmp 4]) results36 (by simp[ntmps36]) fun X=>?_;simp only[ntmps36,List.map];refine ar [1,2] [2] ?_;refine gu 2 ?_;refine ag fun K1 aF=>ar [1,8,9,10] [] ?_;refine ch (S:=Nat) (fun n=>n<=p.names.length/\∀ i (hi:i < p.names.length),i < n->(p.names[i].name == s)=false) (fun n=>⟨bg [(1,.d (.v (.string (bs s)))),(8,.d (.sl none (p.names.map bw))),(9,int p.names.length),(10,int n)],aw []⟩) (fun n=>p.names.length - n) 0 ?_ ak ?_
 .refine cg
 .rintro n ⟨hn,hp⟩;refine ar [1,8,9,10,11] [] ?_;refine ag fun K2 au=>eY (b:=n < p.names.length) (by simp[D.le,D.le.go,aP]) (fun hc=>?_) (fun hc=>?_)
  .have aG:=hc;have jC:bw p.names[n]=[.v (.string (bs p.names[n].name)),.v (.int .i64 p.names[n].kind),.v (.int .i64 p.names[n].count)]:=rfl;refine aq (au _ (ag fun K3 aX=>bf ?_));have qf:=(Aq @aG @jC);refine ax [1,5,6,8,9,10] [6] ?_;refine gu 6 ?_;by_cases heq:p.names[n].name=s
   .refine rg [1,5,8,9,10,18] [] aQ fun K' ao=>?_;(repeat refine aK fun Kq af=>?_;simp[bu,bA,heq];(repeat refine⟨aa,?_⟩);refine af _ ?_);refine bH (ao _ (AW.st (by simp[bu,bA,heq];rfl) ?_));refine aJ (ar [4] [] ?_);refine bW ?_;simp[D.le,D.le.go,aP];exact (uN (p:=fun m:iD=>m.name == s) aG (by simp[heq]) fun i hi=>hp i aa hi).symm
   .refine rg [1,5,8,9,10,18] [] aQ fun K' ao=>?_;(repeat refine aK fun Kq af=>?_;simp[bu,bA,heq];(repeat refine⟨aa,?_⟩);refine af _ ?_);refine bH (ao _ (AW.st (by simp[bu,bA,heq];rfl) ?_));refine bU (by simp[heq]) (aq (aX _ ?_));refine cK ?_;(try simp only[aT,aW]);refine aZ.mk (n+1) ⟨aa,fun i hi aR=>?_⟩ aa ?_
    .by_cases h:i=n
     .subst h;simpa using heq
     .exact hp i hi aa
    refine cg
  .refine bL (aF _ (ar [4] [] ?_));refine bW ?_;simp[D.le,D.le.go,aP];exact (uO (p:=fun m:iD=>m.name == s) fun i hi=>hp i hi aa).symm
def jI (l:List iD) (k:Int):Nat->List Int
 | 0=>[]
 | i+1=>jI l k i ++ if (l.getD i ⟨[],0,0⟩).kind=k then [(i:Int)] else []
theorem xY (l:List iD) (k:Int):∀ n,(jI l k n).length<=n
 | 0=>amh _
 | n+1=>by rw[jI,amp];have:=xY l k n;split<;>simp<;>omega
theorem It (l:List iD) (k:Int):jI l k 0=[]:=rfl
theorem Ir {l:List iD} {k:Int} {i:Nat} (h:i < l.length):jI l k (i+1)=jI l k i ++ if l[i].kind=k then [(i:Int)] else []:=by
 rw[jI,ame,AT h];rfl
theorem UN (G:aB) (p:aM) (hl:p.names.length < 2^40) (k:Int):aD prog G 50 [fH p,.v (.int .i64 k)] (.sl none ((jI p.names k p.names.length).map fun x=>[.v (.int .i64 x)])):=by
 simp only[fH,fe,ck,eZ];generalize p.aC.map de=R;refine aD.aO (ay _) func50 rfl rfl (rs:=[.tmp 4]) results50 (by simp[ntmps50]) fun X=>?_;simp only[ntmps50,List.map];refine ar [1,2] [2] ?_;refine gu 2 ?_;refine ar [1,2,5] [] ?_;refine ag fun K1 aF=>ar [1,5,9,10,11] [] ?_;refine ch (S:=Nat) (fun i=>i<=p.names.length) (fun i=>⟨bg [(1,.d (.v (.int .i64 k))),(5,.own 300 0 (jI p.names k i).length),(9,.d (.sl none (p.names.map bw))),(10,int p.names.length),(11,int i)],aw [(300,.sl 3 1 ((jI p.names k i).map fun x=>[.v (.int .i64 x)]))]⟩) (fun i=>p.names.length - i) 0 ?_ ak ?_
 .refine (aL.lO 5 300 3 1 rfl rfl).trans ?_;refine aL.ek aQ (by simp[It]) (by simp[It])
 .intro i hi;have dO:=xY p.names k i;have tN:=fun h=>Ir (l:=p.names) (k:=k) (i:=i) h;generalize My:jI p.names k i=L at dO tN ⊢;refine ar [1,5,9,10,11,12] [300] ?_;refine ag fun K2 au=>eY (b:=i < p.names.length) (by simp[D.le,D.le.go,aP]) (fun hc=>?_) (fun hc=>?_)
  .have aG:=hc;have fA:=tN aG;have jC:bw p.names[i]=[.v (.string (bs p.names[i].name)),.v (.int .i64 p.names[i].kind),.v (.int .i64 p.names[i].count)]:=rfl;generalize p.names[i].name=nm at jC;generalize p.names[i].kind=kd at jC fA;generalize p.names[i].count=ct at jC;refine aq (au _ (ag fun K3 aX=>bf ?_));have qf:=(Aq @aG @jC);refine ax [1,5,6,7,9,10,11] [300,7] ?_;refine gu 7 ?_;by_cases heq:kd=k
   .rw[if_pos heq]at fA;have qf:=@heq;refine ax [1,5,6,9,10,11,19] [300] ?_;refine aJ (fD (ay _) fun K' ao=>?_);(repeat refine aK fun Kq af=>?_;simp[sh];(repeat refine⟨aa,?_⟩);refine af _ ?_);refine bH (ao _ ?_);refine aX _ (AW.norm [1,5,9,10,11] [300] aQ (AW.st (by simp[sh];rfl) ?_));refine cK ?_;(try simp only[aT,aW]);refine aZ.mk (i+1) aa aa ?_;refine bo @fA
   .rw[if_neg heq,am0]at fA;have qf:=@heq;refine ax [1,5,6,9,10,11,19] [300] ?_;refine al (aq (aX _ ?_));refine cK ?_;(try simp only[aT,aW]);refine aZ.mk (i+1) aa aa ?_;refine bo @fA
  .obtain rfl:i=p.names.length:=aa
   refine bL (aF _ (AW.imp (aL.freeze 300 trivial) ?_));refine AW.st (by simp[sh];rfl) ?_;refine ar [4] [] ?_;exact aY @My
theorem FV (G:aB) (p:aM) (hl:p.names.length < 2^40) (k:Int):aD prog G 48 [eB p,.v (.int .i64 k)] (.sl none ((jI p.names k p.names.length).map fun x=>[.v (.int .i64 x)])):=by
 simp only[eB,fF,ck,eZ];generalize p.aC.map ez=R;refine aD.aO (ay _) func48 rfl rfl (rs:=[.tmp 4]) results48 (by simp[ntmps48]) fun X=>?_;simp only[ntmps48,List.map];refine ar [1,2] [2] ?_;refine gu 2 ?_;refine ar [1,2,5] [] ?_;refine ag fun K1 aF=>ar [1,5,9,10,11] [] ?_;refine ch (S:=Nat) (fun i=>i<=p.names.length) (fun i=>⟨bg [(1,.d (.v (.int .i64 k))),(5,.own 300 0 (jI p.names k i).length),(9,.d (.sl none (p.names.map bw))),(10,int p.names.length),(11,int i)],aw [(300,.sl 3 1 ((jI p.names k i).map fun x=>[.v (.int .i64 x)]))]⟩) (fun i=>p.names.length - i) 0 ?_ ak ?_
 .refine (aL.lO 5 300 3 1 rfl rfl).trans ?_;refine aL.ek aQ (by simp[It]) (by simp[It])
 .intro i hi;have dO:=xY p.names k i;have tN:=fun h=>Ir (l:=p.names) (k:=k) (i:=i) h;generalize My:jI p.names k i=L at dO tN ⊢;refine ar [1,5,9,10,11,12] [300] ?_;refine ag fun K2 au=>eY (b:=i < p.names.length) (by simp[D.le,D.le.go,aP]) (fun hc=>?_) (fun hc=>?_)
  .have aG:=hc;have fA:=tN aG;have jC:bw p.names[i]=[.v (.string (bs p.names[i].name)),.v (.int .i64 p.names[i].kind),.v (.int .i64 p.names[i].count)]:=rfl;generalize p.names[i].name=nm at jC;generalize p.names[i].kind=kd at jC fA;generalize p.names[i].count=ct at jC;refine aq (au _ (ag fun K3 aX=>bf ?_));have qf:=(Aq @aG @jC);refine ax [1,5,6,7,9,10,11] [300,7] ?_;refine gu 7 ?_;by_cases heq:kd=k
   .rw[if_pos heq]at fA;have qf:=@heq;refine ax [1,5,6,9,10,11,19] [300] ?_;refine aJ (fD (ay _) fun K' ao=>?_);(repeat refine aK fun Kq af=>?_;simp[sh];(repeat refine⟨aa,?_⟩);refine af _ ?_);refine bH (ao _ ?_);refine aX _ (AW.norm [1,5,9,10,11] [300] aQ (AW.st (by simp[sh];rfl) ?_));refine cK ?_;(try simp only[aT,aW]);refine aZ.mk (i+1) aa aa ?_;refine bo @fA
   .rw[if_neg heq,am0]at fA;have qf:=@heq;refine ax [1,5,6,9,10,11,19] [300] ?_;refine al (aq (aX _ ?_));refine cK ?_;(try simp only[aT,aW]);refine aZ.mk (i+1) aa aa ?_;refine bo @fA
  .obtain rfl:i=p.names.length:=aa
   refine bL (aF _ (AW.imp (aL.freeze 300 trivial) ?_));refine AW.st (by simp[sh];rfl) ?_;refine ar [4] [] ?_;exact aY @My
def kI (is cI:List UInt8->Bool):List Ex->Nat
 | []=>0
 | e :: l=>(if fg is cI e then 1 else 0)+kI is cI l
theorem QO (is cI:List UInt8->Bool):∀ a b:List Ex,kI is cI (a ++ b)=kI is cI a+kI is cI b
 | [],b=>by simp[kI]
 | e :: a,b=>by simp only[am7,kI,QO is cI a b];omega
theorem Gk (is cI:List UInt8->Bool):∀ l:List Ex,kI is cI l<=l.length
 | []=>by simp[kI]
 | e :: l=>by have:=Gk is cI l;simp only[kI,amo];split<;>omega
theorem QQ (is cI:List UInt8->Bool) {l:List Ex} {i:Nat} (hi:i < l.length):kI is cI (l.take (i+1))=kI is cI (l.take i)+(if fg is cI l[i] then 1 else 0):=by
 rw[aml hi,QO];simp[kI]
theorem QN (is cI:List UInt8->Bool):∀ l:List Ex,decide (kI is cI l=l.length)=Bi is cI l
 | []=>rfl
 | e :: l=>by
  have h1:=QN is cI l;have h2:=Gk is cI l;rw[Bi,<- h1];simp only[kI,amo]
  rcases Bool.eq_false_or_eq_true (fg is cI e)with hE | hE
  .simp[hE,anN 1]
  .have:¬ kI is cI l=l.length+1:=aa
   simp[hE,this]
theorem QP (is cI:List UInt8->Bool):∀ l:List Ex,decide (0 < kI is cI l)=Bj is cI l
 | []=>rfl
 | e :: l=>by
  have h1:=QP is cI l;rw[Bj,<- h1];simp only[kI]
  rcases Bool.eq_false_or_eq_true (fg is cI e)with hE | hE
  .simp[hE];omega
  .simp[hE]
theorem aip (G:aB) (g1 g2:FuncId) (c1 c2:List D) (is cI:List UInt8->Bool) (S1 S2:List UInt8->Prop) (h1:pP S1 G g1 c1 is) (h2:pP S2 G g2 c2 cI):∀ (n:Nat) (e:Ex),SizeOf.sizeOf e<=n->jr S1 S2 e->gF e->bE e<=2^28->aD prog G 40 [dR e,.fn (.func g1) c1,.fn (.func g2) c2] (.v (.bool (fg is cI e))):=by
 intro n
 induction n with
 | zero=>intro e bp;cases e<;>simp at bp
 | succ n ih=>
  intro e bp iQ sK hb;have fw:=(Aq @an8 (Aq @an9 (Aq @l3 @e8.eq_1)))
  cases e with
  | iW b=>
   cases b with
   | true=>
    rw[dR];refine aD.aO (ay _) func40 rfl rfl (rs:=[.tmp 6]) results40 (by simp[ntmps40]) fun X=>?_;simp only[ntmps40,List.map];refine ae fw [0,1,2] [] ?_;refine ag fun K1 aF=>ae fw [0,1,2,13] [] ?_;refine bf (ae fw [0,1,2,13,14] [] ?_);refine aJ (ae fw [6] [] ?_);refine bW ?_;simp[D.le,D.le.go,aP,ab,dS,l3,e8,fg]
   | false=>
    rw[dR];refine aD.aO (ay _) func40 rfl rfl (rs:=[.tmp 6]) results40 (by simp[ntmps40]) fun X=>?_;simp only[ntmps40,List.map];refine ae fw [0,1,2] [] ?_;refine ag fun K1 aF=>ae fw [0,1,2,13] [] ?_;refine bf (ae fw [0,1,2,13,14] [] ?_);refine al (ae fw [0,1,2,13,16] [] ?_);refine al (ae fw [0,1,2,13,24] [] ?_);refine al (ae fw [0,1,2,13,41] [] ?_);refine al (ae fw [0,1,2,13,58] [] ?_);refine al (ag fun K2 au=>?_);refine ae fw [0,1,2,13,70] [] ?_;refine al (gq fw au [0,1,2,70] [] ?_);refine al (aq (aF _ ?_));refine ae fw [6] [] ?_;refine bW ?_;simp[D.le,D.le.go,aP,ab,dS,l3,e8,fg]
  | bit s=>
   rw[jr]at iQ;have hi:=h1 s iQ;rw[dR,fg];refine aD.aO (ay _) func40 rfl rfl (rs:=[.tmp 6]) results40 (by simp[ntmps40]) fun X=>?_;simp only[ntmps40,List.map];refine ae fw [0,1,2] [] ?_;refine ag fun K1 aF=>ae fw [0,1,2,13] [] ?_;refine bf (ae fw [0,1,2,13,14] [] ?_);refine al (ae fw [0,1,2,13,16] [] ?_);refine aJ (bh fw hi [6] [] ?_);exact aY fw
  | jV s=>
   rw[jr]at iQ;have hi:=h1 s iQ.1;have hw:=h2 s iQ.2;rw[dR,fg]
   cases hx:is s with
   | false=>
    rw[hx]at hi;refine aD.aO (ay _) func40 rfl rfl (rs:=[.tmp 6]) results40 (by simp[ntmps40]) fun X=>?_;simp only[ntmps40,List.map];refine ae fw [0,1,2] [] ?_;refine ag fun K1 aF=>ae fw [0,1,2,13] [] ?_;refine bf (ae fw [0,1,2,13,14] [] ?_);refine al (ae fw [0,1,2,13,16] [] ?_);refine al (ae fw [0,1,2,13,24] [] ?_);refine aJ (bh fw hi [6] [] ?_);exact aY fw
   | true=>
    rw[hx]at hi;refine aD.aO (ay _) func40 rfl rfl (rs:=[.tmp 6]) results40 (by simp[ntmps40]) fun X=>?_;simp only[ntmps40,List.map];refine ae fw [0,1,2] [] ?_;refine ag fun K1 aF=>ae fw [0,1,2,13] [] ?_;refine bf (ae fw [0,1,2,13,14] [] ?_);refine al (ae fw [0,1,2,13,16] [] ?_);refine al (ae fw [0,1,2,13,24] [] ?_);refine aJ (rg [6] [] aQ fun K' ao=>?_);(repeat refine aK fun Kq af=>?_;simp[ab,dS,l3,e8];(repeat refine⟨aa,?_⟩);refine af _ ?_);refine aK fun Kq af=>?_;simp[ab,dS,l3,e8];refine cZ.data (hi) bt (by first | exact D.bC _ | simp[aP,amk,amc,D.le,D.le.go,D.le_refl,D.bC,ab,dS,l3,e8]) ?_;refine af _ ?_;simp only[aN,du];(repeat refine aK fun Kq af=>?_;simp[ab,dS,l3,e8];(repeat refine⟨aa,?_⟩);refine af _ ?_);refine aK fun Kq af=>?_;simp[ab,dS,l3,e8];refine cZ.data (hw) bt (by first | exact D.bC _ | simp[aP,amk,amc,D.le,D.le.go,D.le_refl,D.bC,ab,dS,l3,e8]) ?_;refine af _ ?_;simp only[aN,du];(repeat refine aK fun Kq af=>?_;simp[ab,dS,l3,e8];(repeat refine⟨aa,?_⟩);refine af _ ?_);refine bH (ao _ (AW.st (by simp[ab,dS,l3,e8];rfl) ?_));exact aY fw
  | jL s=>
   rw[jr]at iQ;have hi:=h2 s iQ.2;have hw:=h1 s iQ.1;rw[dR,fg];rw[Bool.and_comm]
   cases hx:cI s with
   | false=>
    rw[hx]at hi;refine aD.aO (ay _) func40 rfl rfl (rs:=[.tmp 6]) results40 (by simp[ntmps40]) fun X=>?_;simp only[ntmps40,List.map];refine ae fw [0,1,2] [] ?_;refine ag fun K1 aF=>ae fw [0,1,2,13] [] ?_;refine bf (ae fw [0,1,2,13,14] [] ?_);refine al (ae fw [0,1,2,13,16] [] ?_);refine al (ae fw [0,1,2,13,24] [] ?_);refine al (ae fw [0,1,2,13,41] [] ?_);refine aJ (bh fw hi [6] [] ?_);exact aY fw
   | true=>
    rw[hx]at hi;refine aD.aO (ay _) func40 rfl rfl (rs:=[.tmp 6]) results40 (by simp[ntmps40]) fun X=>?_;simp only[ntmps40,List.map];refine ae fw [0,1,2] [] ?_;refine ag fun K1 aF=>ae fw [0,1,2,13] [] ?_;refine bf (ae fw [0,1,2,13,14] [] ?_);refine al (ae fw [0,1,2,13,16] [] ?_);refine al (ae fw [0,1,2,13,24] [] ?_);refine al (ae fw [0,1,2,13,41] [] ?_);refine aJ (rg [6] [] aQ fun K' ao=>?_);(repeat refine aK fun Kq af=>?_;simp[ab,dS,l3,e8];(repeat refine⟨aa,?_⟩);refine af _ ?_);refine aK fun Kq af=>?_;simp[ab,dS,l3,e8];refine cZ.data (hi) bt (by first | exact D.bC _ | simp[aP,amk,amc,D.le,D.le.go,D.le_refl,D.bC,ab,dS,l3,e8]) ?_;refine af _ ?_;simp only[aN,du];(repeat refine aK fun Kq af=>?_;simp[ab,dS,l3,e8];(repeat refine⟨aa,?_⟩);refine af _ ?_);refine aK fun Kq af=>?_;simp[ab,dS,l3,e8];refine cZ.data (hw) bt (by first | exact D.bC _ | simp[aP,amk,amc,D.le,D.le.go,D.le_refl,D.bC,ab,dS,l3,e8]) ?_;refine af _ ?_;simp only[aN,du];(repeat refine aK fun Kq af=>?_;simp[ab,dS,l3,e8];(repeat refine⟨aa,?_⟩);refine af _ ?_);refine bH (ao _ (AW.st (by simp[ab,dS,l3,e8];rfl) ?_));exact aY fw
  | not x=>
   have hc:=ih x (by simp at bp;omega) (by rwa [jr]at iQ) (by simpa[gF]using sK) (by simp only[bE]at hb;omega);rw[dR,fg];rw[ui x]at hc ⊢;refine aD.aO (ay _) func40 rfl rfl (rs:=[.tmp 6]) results40 (by simp[ntmps40]) fun X=>?_;simp only[ntmps40,List.map];refine ae fw [0,1,2] [] ?_;refine ag fun K1 aF=>ae fw [0,1,2,13] [] ?_;refine bf (ae fw [0,1,2,13,14] [] ?_);refine al (ae fw [0,1,2,13,16] [] ?_);refine al (ae fw [0,1,2,13,24] [] ?_);refine al (ae fw [0,1,2,13,41] [] ?_);refine al (ae fw [0,1,2,13,58] [] ?_);refine aJ (bh fw hc [6] [] ?_);exact aY fw
  | and l=>
   have od:=w7 l;simp only[bE]at hb
   have jH:2<=l.length/\∀ x∈l,gF x:=by rw[gF]at sK;exact⟨sK.1,(yW l).1 sK.2⟩
   have lB:∀ x∈l,aD prog G 40 [dR x,.fn (.func g1) c1,.fn (.func g2) c2] (.v (.bool (fg is cI x))):=fun x hx=>by
    have h5:=amL hx;exact ih x (by simp only[Ex.and.sizeOf_spec]at bp;omega) (by rw[jr,CV]at iQ;exact iQ x hx) (jH.2 x hx) (by have:=Db hx;omega)
   have mL:=QN is cI l;rw[fg,<- mL];rw[dR,Bf];clear mL;refine aD.aO (ay _) func40 rfl rfl (rs:=[.tmp 6]) results40 (by simp[ntmps40]) fun X=>?_;simp only[ntmps40,List.map];refine ae fw [0,1,2] [] ?_;refine ag fun K1 aF=>ae fw [0,1,2,13] [] ?_;refine bf (ae fw [0,1,2,13,14] [] ?_);refine al (ae fw [0,1,2,13,16] [] ?_);refine al (ae fw [0,1,2,13,24] [] ?_);refine al (ae fw [0,1,2,13,41] [] ?_);refine al (ae fw [0,1,2,13,58] [] ?_);refine al (ag fun K2 au=>?_);refine ae fw [0,1,2,13,70] [] ?_;refine aJ (aq (au _ ?_));refine aJ (ae fw [0,1,2,7] [] ?_);refine ag fun K3 aX=>ae fw [0,1,2,7,76,77,78] [] ?_;refine ch (S:=Nat) (fun i=>i<=l.length) (fun i=>⟨bg [(0,.d (.ip [dS [38],dS [],.sl none (l.map fun e=>[dR e])])),(1,.d (.fn (.func g1) c1)),(2,.d (.fn (.func g2) c2)),(7,int (kI is cI (l.take i):Nat)),(76,.d (.sl none (l.map fun e=>[dR e]))),(77,int l.length),(78,int i)],aw []⟩) (fun i=>l.length - i) 0 ?_ aa ?_
   .refine bo (Aq fw (Aq @kI.eq_1 @kI.eq_2))
   .intro i hi;have cH:=Gk is cI (l.take i);rw[amw]at cH;refine ae fw [0,1,2,7,76,77,78,79] [] ?_;refine ag fun K4 b6=>eY (b:=i < l.length) (by simp[D.le,D.le.go,aP,ab,dS,l3,e8]) (fun hc=>?_) (fun hc=>?_)
    .have dr:i < l.length:=hc;have cU:=lB _ (By dr);have dA:=QQ is cI dr;have hf:=ui l[i];rw[hf]at cU;refine aq (b6 _ (ag fun K5 b5=>bf ?_));have qf:=(Aq fw (Aq @dr @hf));refine ax [0,1,2,7,9,76,77,78] [] ?_;refine bh fw cU [0,1,2,7,76,77,78,85] [] ?_
     cases hv:fg is cI l[i] with
     | true=>
      rw[hv]at dA;refine bR (by simp[hv]) (gq fw b5 [0,1,2,7,76,77,78] [] ?_);refine cA fw ?_;(try simp only[aT,aW]);refine aZ.mk (i+1) aa aa ?_;refine bo (Aq fw @dA)
     | false=>
      rw[hv]at dA;refine bU (by simp[hv]) (aq (b5 _ ?_));refine cA fw ?_;(try simp only[aT,aW]);refine aZ.mk (i+1) aa aa ?_;refine bo (Aq fw @dA)
    .obtain rfl:i=l.length:=aa
     refine bL (aX _ ?_);rw[am8]at cH ⊢;refine ae fw [6] [] ?_;exact aY fw
  | or l=>
   have od:=w7 l;simp only[bE]at hb
   have jH:2<=l.length/\∀ x∈l,gF x:=by rw[gF]at sK;exact⟨sK.1,(yW l).1 sK.2⟩
   have lB:∀ x∈l,aD prog G 40 [dR x,.fn (.func g1) c1,.fn (.func g2) c2] (.v (.bool (fg is cI x))):=fun x hx=>by
    have h5:=amL hx;exact ih x (by simp only[Ex.or.sizeOf_spec]at bp;omega) (by rw[jr,CV]at iQ;exact iQ x hx) (jH.2 x hx) (by have:=Db hx;omega)
   have mL:=QP is cI l;rw[fg,<- mL];rw[dR,Bf];clear mL;refine aD.aO (ay _) func40 rfl rfl (rs:=[.tmp 6]) results40 (by simp[ntmps40]) fun X=>?_;simp only[ntmps40,List.map];refine ae fw [0,1,2] [] ?_;refine ag fun K1 aF=>ae fw [0,1,2,13] [] ?_;refine bf (ae fw [0,1,2,13,14] [] ?_);refine al (ae fw [0,1,2,13,16] [] ?_);refine al (ae fw [0,1,2,13,24] [] ?_);refine al (ae fw [0,1,2,13,41] [] ?_);refine al (ae fw [0,1,2,13,58] [] ?_);refine al (ag fun K2 au=>?_);refine ae fw [0,1,2,13,70] [] ?_;refine al (gq fw au [0,1,2,70] [] ?_);refine aJ (ae fw [0,1,2,7] [] ?_);refine ag fun K3 aX=>ae fw [0,1,2,7,76,77,78] [] ?_;refine ch (S:=Nat) (fun i=>i<=l.length) (fun i=>⟨bg [(0,.d (.ip [dS [124],dS [],.sl none (l.map fun e=>[dR e])])),(1,.d (.fn (.func g1) c1)),(2,.d (.fn (.func g2) c2)),(7,int (kI is cI (l.take i):Nat)),(76,.d (.sl none (l.map fun e=>[dR e]))),(77,int l.length),(78,int i)],aw []⟩) (fun i=>l.length - i) 0 ?_ aa ?_
   .refine bo (Aq fw (Aq @kI.eq_1 @kI.eq_2))
   .intro i hi;have cH:=Gk is cI (l.take i);rw[amw]at cH;refine ae fw [0,1,2,7,76,77,78,79] [] ?_;refine ag fun K4 b6=>eY (b:=i < l.length) (by simp[D.le,D.le.go,aP,ab,dS,l3,e8]) (fun hc=>?_) (fun hc=>?_)
    .have dr:i < l.length:=hc;have cU:=lB _ (By dr);have dA:=QQ is cI dr;have hf:=ui l[i];rw[hf]at cU;refine aq (b6 _ (ag fun K5 b5=>bf ?_));have qf:=(Aq fw (Aq @dr @hf));refine ax [0,1,2,7,9,76,77,78] [] ?_;refine bh fw cU [0,1,2,7,76,77,78,85] [] ?_
     cases hv:fg is cI l[i] with
     | true=>
      rw[hv]at dA;refine bR (by simp[hv]) (gq fw b5 [0,1,2,7,76,77,78] [] ?_);refine cA fw ?_;(try simp only[aT,aW]);refine aZ.mk (i+1) aa aa ?_;refine bo (Aq fw @dA)
     | false=>
      rw[hv]at dA;refine bU (by simp[hv]) (aq (b5 _ ?_));refine cA fw ?_;(try simp only[aT,aW]);refine aZ.mk (i+1) aa aa ?_;refine bo (Aq fw @dA)
    .obtain rfl:i=l.length:=aa
     refine bL (aX _ ?_);rw[am8]at cH ⊢;by_cases h0:0 < kI is cI l
     .have qf:=(Aq fw @h0);refine ax [6] [] ?_;exact aY (Aq fw @h0)
     .have hz:kI is cI l=0:=aa
      have bq:¬ l.length=0:=aa
      have Tl:¬ 0=(l.length:Int):=aa
      have qf:=(Aq fw (Aq @h0 (Aq @hz (Aq @bq @Tl))));refine ax [6] [] ?_;exact aY (Aq fw (Aq @h0 (Aq @hz (Aq @bq @Tl))))
theorem Wc (G:aB) (g1 g2:FuncId) (c1 c2:List D) (is cI:List UInt8->Bool) (S1 S2:List UInt8->Prop) (h1:pP S1 G g1 c1 is) (h2:pP S2 G g2 c2 cI) (e:Ex) (ha:jr S1 S2 e) (hw:gF e) (hb:bE e<=2^28):aD prog G 40 [dR e,.fn (.func g1) c1,.fn (.func g2) c2] (.v (.bool (fg is cI e))):=
 aip G g1 g2 c1 c2 is cI S1 S2 h1 h2 _ e (amh _) ha hw hb
def o3:Ex->List Ex
 | .not e=>[e]
 | .and l=>l
 | .or l=>l
 | _=>[]
def kR:Ex->Option Bool
 | .not _=>none
 | .and _=>none
 | .or _=>none
 | _=>some false
theorem afq (e:Ex):Fg e = .sl (kR e) ((o3 e).map fun x=>[dR x]):=by
 cases e<;>simp[Fg,o3,kR,e8,Bf]
theorem Ze (e:Ex):iP (o3 e)<=bE e:=by cases e<;>simp[bE,o3,iP]<;>omega
theorem ajH {e x:Ex} (h:x∈o3 e):SizeOf.sizeOf x < SizeOf.sizeOf e:=by
 cases e with
 | not y=>simp only[o3,amD]at h;subst h;simp
 | and l=>simp only[o3]at h;have:=amL h;simp only[Ex.and.sizeOf_spec];omega
 | or l=>simp only[o3]at h;have:=amL h;simp only[Ex.or.sizeOf_spec];omega
 | _=>simp[o3]at h
theorem aoo:type_of% @ck.eq_1:=@ck.eq_1
theorem aop:type_of% @eB.eq_1:=@eB.eq_1
theorem aoq:type_of% @fF.eq_1:=@fF.eq_1
