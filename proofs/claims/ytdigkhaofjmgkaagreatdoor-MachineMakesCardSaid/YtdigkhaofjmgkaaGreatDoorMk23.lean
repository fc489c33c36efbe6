/-
  Texts that belong together,in one file: Sh2,A1,A2,A3,A4,W2,U2,A6,A7,V6,V8,LP1,LC1,LC2,LK,U1.
-/
import Derived.Test.YtdigkhaofjmgkaaGreatDoorMk22
import Derived.Shelf.Strings.Runes
set_option linter.unusedSimpArgs false
set_option linter.unusedVariables false
namespace Go.Proofs
open Go.Shelf
def Tryz.It:Go.Shelf.Ren:=⟨fun | 151=>213 | 152=>245 | 137=>116 | 119=>272 | 224=>262 | 225=>261 | 217=>160 | 266=>206 | n=>n,fun | 9=>9 | 21=>21 | 4=>4 | 3=>3 | 5=>5 | 0=>0 | 46=>156 | n=>n,fun | n=>n⟩
theorem Tryz.R4:Go.Proofs.Lays.n151 Tryz.prog Tryz.It:={
 mixed:=by kernel_rfl
 f119:=Tryz.func272.trans (congrArg some (by kernel_rfl))
 f137:=Tryz.func116.trans (congrArg some (by kernel_rfl))
 f151:=Tryz.func213.trans (congrArg some (by kernel_rfl))
 f152:=Tryz.func245.trans (congrArg some (by kernel_rfl))
 f217:=Tryz.func160.trans (congrArg some (by kernel_rfl))
 f224:=Tryz.func262.trans (congrArg some (by kernel_rfl))
 f225:=Tryz.func261.trans (congrArg some (by kernel_rfl))
 f266:=Tryz.func206.trans (congrArg some (by kernel_rfl))
 t0:=Tryz.underlying0
 a0:=Tryz.isAgg0
 z0:=Tryz.sizeOf0
 v0:=Tryz.zeroValue0
 t3:=Tryz.underlying3
 a3:=Tryz.isAgg3
 z3:=Tryz.sizeOf3
 v3:=Tryz.zeroValue3
 t4:=Tryz.underlying4
 a4:=Tryz.isAgg4
 z4:=Tryz.sizeOf4
 v4:=Tryz.zeroValue4
 t5:=Tryz.underlying5
 a5:=Tryz.isAgg5
 z5:=Tryz.sizeOf5
 v5:=Tryz.zeroValue5
 t9:=Tryz.underlying9
 a9:=Tryz.isAgg9
 z9:=Tryz.sizeOf9
 v9:=Tryz.zeroValue9
 t21:=Tryz.underlying21
 a21:=Tryz.isAgg21
 z21:=Tryz.sizeOf21
 v21:=Tryz.zeroValue21
 t46:=Tryz.underlying156
 a46:=Tryz.isAgg156
 z46:=Tryz.sizeOf156
 v46:=Tryz.zeroValue156 }
end Go.Proofs
namespace Go.Proofs.YtdigkhaofjmgkaaGreatDoor
open Go.Av
open Go.Shelf
def bf (t:List UInt8) (i:Int) (e p:Int):List (Nat×Row):=[(500,.box 247 [.d (dS t),int i,int e,int p])]
set_option maxHeartbeats 4000000 in
theorem Eg (G:ao) (t:List UInt8) (i:Nat) (ht:t.length < 2^60) (hi:i<=t.length) (e p:Int) :
  MC Tryz.prog G [500] 193 [.ref 500 0 0] (ZX (bf t i e p)) (.d (.Z4 [])) (ZX (bf t (aW t i) e p)):=by
 refine MC.aD (ZZ _) Tryz.func193 rfl rfl (rs:=[]) Tryz.results193 (by simp [Tryz.ntmps193]) rfl fun X=>?_;simp only [Tryz.ntmps193];have fw:=(Aq @ab.eq_1 (Aq @bf.eq_1 @dS.eq_1));refine aam (S:=Nat) (fun k=>k<=t.length/\aW t k=aW t i) (fun k=>⟨aX [(0,.ref 500 0 0)],ZX [(500,.box 247 [.d (dS t),int k,int e,int p])]⟩) (fun k=>t.length - k) i ?_ ⟨hi,rfl⟩ ?_
 .refine aU fw
 .rintro k ⟨hk,hs⟩;refine ae fun K1 ay=>?_;by_cases cj:k < t.length
  .have Ql:(k:Int) < (t.length:Int):=by omega
   by_cases hb:((t[k]).toNat:Int)=32
   .have qf:=(Aq fw (Aq @bh (Aq @aao (Aq @cj @hb))));refine fP [0,23] [500] ?_;refine ak rfl ?_;refine ah (ay _ ?_);refine aR ?_;refine reQ fw ?_;try simp only [aM,aP]
    have fX:t[k]? = some 32:=by
     rw [List.getElem?_eq_getElem cj,(uh _ 32 (by decide)).1 hb];rfl
    refine aV.mk (k+1) ⟨by omega,?_⟩ (by omega) ?_
    .rw [<- EF fX];exact hs
    refine aU fw
   .have qf:=(Aq fw (Aq @bh (Aq @aao (Aq @cj @hb))));refine fP [0,23] [500] ?_;refine ag rfl ?_;refine bH ?_
    have fX:t[k]?≠some 32:=by
     rw [List.getElem?_eq_getElem cj];intro h;apply hb;rw [Option.some.inj h];rfl
    rw [r0 fX] at hs;rw [<- hs];simp [bf,dS,D.le_refl]
  .obtain rfl:k=t.length:=by omega
   have qf:=(Aq fw (Aq @bh @aao));refine fP [0,23] [500] ?_;refine ag rfl ?_;refine bH ?_
   have fX:t[t.length]?≠some 32:=by simp
   rw [r0 fX] at hs;rw [<- hs];simp [bf,dS,D.le_refl]
def kU (t:List UInt8) (i:Nat):UInt8:=t.getD (aW t i) 0
set_option maxHeartbeats 4000000 in
theorem wS (G:ao) (t:List UInt8) (i:Nat) (ht:t.length < 2^60) (hi:i<=t.length) (e p:Int) :
  MC Tryz.prog G [500] 145 [.ref 500 0 0] (ZX (bf t i e p)) (.d (.v (.int .u8 (kU t i).toNat))) (ZX (bf t (aW t i) e p)):=by
 have gw:=Eg G t i ht hi e p;have aa9:=abX hi;unfold kU;generalize aW t i=j at gw aa9 ⊢;by_cases ju:j < t.length
 .have Qf:(j:Int) < (t.length:Int):=by omega
  have ja:t.getD j 0=t[j]:=by simp [List.getD_eq_getElem?_getD,ju]
  rw [ja];refine MC.aD (ZZ _) Tryz.func145 rfl rfl (rs:=[.tmp 2]) Tryz.results145 (by simp [Tryz.ntmps145]) rfl fun X=>?_;simp only [Tryz.ntmps145];have fw:=(Aq @ab.eq_1 (Aq @bf.eq_1 @dS.eq_1));refine ZW fw [0] [500] ?_;refine Z8 fw gw [0] [500] ?_;refine ae fun K1 ay=>?_;have qf:=(Aq fw (Aq @bh (Aq @ju @Qf)));refine fP [0,14] [500] ?_;refine ak rfl ?_;have qf:=(Aq fw (Aq @bh (Aq @aao @ju)));refine fP [2] [500] ?_;exact aK (Aq fw (Aq @bf.eq_1 @ju))
 .obtain rfl:j=t.length:=by omega
  refine MC.aD (ZZ _) Tryz.func145 rfl rfl (rs:=[.tmp 2]) Tryz.results145 (by simp [Tryz.ntmps145]) rfl fun X=>?_;simp only [Tryz.ntmps145];have fw:=(Aq @ab.eq_1 (Aq @bf.eq_1 @dS.eq_1));refine ZW fw [0] [500] ?_;refine Z8 fw gw [0] [500] ?_;refine ae fun K1 ay=>?_;have qf:=(Aq fw @bh);refine fP [0,14] [500] ?_;refine ag rfl ?_;refine ah (ay _ ?_);refine ZW fw [2] [500] ?_;exact aK (Aq fw @bf.eq_1)
set_option maxHeartbeats 4000000 in
theorem wQ (G:ao) (t:List UInt8) (i:Nat) (ht:t.length < 2^60) (hi:i<=t.length) (e:Int) :
  MC Tryz.prog G [500] 146 [.ref 500 0 0,.d (ab e)] (ZX (bf t i 0 (-1))) (.d (.v (.pointer none))) (ZX (bf t (aW t i) e (aW t i))):=by
 have gw:=Eg G t i ht hi 0 (-1);generalize aW t i=j at gw ⊢;refine MC.aD (ZZ _) Tryz.func146 rfl rfl (rs:=[.tmp 4]) Tryz.results146 (by simp [Tryz.ntmps146]) rfl fun X=>?_;simp only [Tryz.ntmps146];have fw:=(Aq @ab.eq_1 (Aq @bf.eq_1 @dS.eq_1));refine ZW fw [0,1] [500] ?_;refine Z8 fw gw [0,1] [500] ?_;refine ae fun K1 ay=>?_;refine ZW fw [0,1,12] [500] ?_;refine ak rfl ?_;refine reK fw ay [] [500] ?_;refine ZW fw [4] [500] ?_;exact aK (Aq fw @bf.eq_1)
def kY:List UInt8:=[32,38,124,33,94,126,40,41,61]
theorem Rv (c:UInt8):iI c=kY.contains c:=rfl
theorem NK {c:UInt8} (h:128<=c.toNat):∃ b0 b1:UInt8,Utf8.encode (c.toNat:Int)=bs [b0,b1]/\128<=b1.toNat:=by
 have hv:Utf8.valid (c.toNat:Int)=true:=by
  have hc:=c.toNat_lt;simp [Utf8.valid];omega
 refine ⟨UInt8.ofNat (0xC0+c.toNat / 64),UInt8.ofNat (0x80+c.toNat % 64),?_,?_⟩
 .have hc:=c.toNat_lt;unfold Utf8.encode;rw [hv];simp only [if_true,Int.toNat_natCast];rw [if_neg (by omega),if_pos (by omega)];rfl
 .simp;omega
theorem XQ (G:ao) (n:Nat) (h:n < 256):aw Tryz.prog G 272 [.v (.int .i32 n)] (.v (.bool true)):=by
 have h1:(n:Int) < 55296:=by omega
 refine aw.aD (ZZ _) Tryz.func272 rfl rfl (rs:=[.tmp 2]) Tryz.results272 (by simp [Tryz.ntmps272]) fun X=>?_;simp only [Tryz.ntmps272,List.map];have fw:=(Aq @ab.eq_1 @dS.eq_1);refine ZW fw [0] [] ?_;refine ae fun K1 ay=>?_;refine aR ?_;have qf:=(Aq fw @h1);refine al [0,3] [] ?_;refine ak rfl ?_;refine ZW fw [2] [] ?_;exact aK fw
set_option maxHeartbeats 4000000 in
theorem Ru (G:ao) (c:UInt8) (h:128<=c.toNat):aw Tryz.prog G 245 [dS kY,.v (.int .i32 c.toNat)] (ab (-1)):=by
 have hc:=c.toNat_lt;obtain ⟨b0,b1,he,hb⟩:=NK h
 have h1:¬ (c.toNat:Int) < 128:=by omega
 have h2:¬ (c.toNat:Int)=65533:=by omega
 have hv:=XQ G c.toNat hc
 have ey:¬ (38:Int)=(b1.toNat:Int):=by omega
 have eL:=Ij G [124,33,94,126,40,41,61] b1
 have adB:Lib.indexByte [124,33,94,126,40,41,61] b1 < 0:=(Dk _ _).2 (by
  intro hm
  have:∀ x∈([124,33,94,126,40,41,61]:List UInt8),x.toNat < 128:=by decide
  have:=this _ hm
  omega)
 have rf:(bs kY).extract 2 9=bs [124,33,94,126,40,41,61]:=rfl;refine aw.aD (ZZ _) Tryz.func245 rfl rfl (rs:=[.tmp 4]) Tryz.results245 (by simp [Tryz.ntmps245]) fun X=>?_;simp only [Tryz.ntmps245,List.map];have fw:=(Aq @ab.eq_1 @dS.eq_1);refine ZW fw [0,1] [] ?_;refine aR ?_;have qf:=(Aq fw @h1);refine al [0,1,160] [] ?_;refine ag rfl ?_;have qf:=(Aq fw @h2);refine al [0,1,171] [] ?_;refine ag rfl ?_;refine Z6 fw hv [0,1,183] [] ?_;refine ag rfl ?_;refine Fi ?_;have qf:=(Aq fw @he);refine al [0,7] [] ?_;have qf:=(Aq fw @bh);refine al [0,7,8] [] ?_;refine ZW fw [0,7,8,9] [] ?_;refine ZW fw [0,7,8,9] [] ?_;refine ae fun K3 aQ=>?_;refine aam (S:=Nat) (fun n=>True) (fun n=>⟨aX [(0,.d (dS kY)),(7,.d (dS [b0,b1])),(8,int 1),(9,int 1)],ZX []⟩) (fun n=>0) 0 ?_ trivial ?_
 .refine aU fw
 .intro n hn;refine ae fun K4 bN=>?_;have qf:=(Aq fw (Aq @bh @kY.eq_1));refine al [0,7,8,9,26] [] ?_;refine ak rfl ?_;refine ah (bN _ ?_);refine aR ?_;refine Fi ?_;refine ae fun K5 hK5=>?_;have qf:=(Aq fw (Aq @bh (Aq @aao (Aq @kY.eq_1 @ey))));refine fP [0,7,8,9,33] [] ?_;refine ak rfl ?_;have qf:=(Aq fw (Aq @bh (Aq @aao (Aq @kY.eq_1 @rf))));refine rU eL [0,7,8,9,11] [] ?_;refine ae fun K6 de=>?_;have qf:=(Aq fw @adB);refine al [0,7,8,9,11,43] [] ?_;refine ak rfl ?_;refine ZW fw [4] [] ?_;exact aK fw
theorem Nh (G:ao) (c:UInt8):aw Tryz.prog G 213 [dS kY,.v (.int .i32 c.toNat)] (.v (.bool (iI c))):=by
 by_cases h:c.toNat < 128
 .refine aw.mM (eU.of Tryz.func213 rfl rfl) fun X w vs aI bz b8=>?_
  obtain ⟨a,b,rfl⟩:∃ a b,vs = #[a,b]:=by
   match vs,aI with
   | ⟨[a,b]⟩,_=>exact ⟨a,b,rfl⟩
  have ha:=(bz 0 a _ rfl rfl).scalar;have hb:=(bz 1 b _ rfl rfl).scalar;subst ha hb;have fj:=Any.strings_ContainsRune_ascii (P:=Tryz.prog) (ρ:=Tryz.It) { Tryz.R4 with } (bs kY) c.toNat w (by omega) (by omega);rw [show (c.toNat:Int).toNat.toUInt8=c by simp] at fj;refine fj.mono fun e w' ⟨he,hw⟩=>⟨_,he,by rw [hw];exact bU.refl _,?_⟩
  have Pp:decide (0<=Lib.indexByte (bs kY).data.toList c)=iI c:=by
   rw [Rv,Bool.eq_iff_iff,decide_eq_true_eq,List.contains_iff_mem];have:=Dk kY c;have e:(bs kY).data.toList=kY:=rfl;rw [e];constructor
   .intro h0;apply Classical.byContradiction;intro hn;have:=this.2 hn;omega
   .intro hm;apply Classical.byContradiction;intro hn;exact this.1 (by omega) hm
  rw [Pp];exact .v _
 .have yq:=Ru G c (by omega)
  have eA:iI c=false:=by
   have h:∀ n:Fin 256,128<=n.val->iI (UInt8.ofNat n)=false:=by decide +kernel
   have:=h ⟨c.toNat,c.toNat_lt⟩ (by simp;omega);simpa using this
  rw [eA];refine aw.aD (ZZ _) Tryz.func213 rfl rfl (rs:=[.tmp 4]) Tryz.results213 (by simp [Tryz.ntmps213]) fun X=>?_;simp only [Tryz.ntmps213,List.map];have fw:=(Aq @ab.eq_1 @dS.eq_1);refine ZW fw [0,1] [] ?_;refine Z6 fw yq [4] [] ?_;exact aK fw
end Go.Proofs.YtdigkhaofjmgkaaGreatDoor
namespace Go.Proofs.YtdigkhaofjmgkaaGreatDoor
open Go.Av
def eR {α:Type}:Rs α->Int
 | .ok _ _=>0
 | .err c _ _=>c
def pR {α:Type}:Rs α->Int
 | .ok _ _=>-1
 | .err _ p _=>p
theorem EW (c:UInt8):IntKind.i32.wrap (c.toNat:Int)=(c.toNat:Int):=by
 have h:∀ n:Fin 256,IntKind.i32.wrap ((UInt8.ofNat n.val).toNat:Int)=((UInt8.ofNat n.val).toNat:Int):=by decide +kernel
 have:=h ⟨c.toNat,c.toNat_lt⟩;simpa using this
theorem X3:IntKind.i32.wrap 48=48:=by decide +kernel
theorem X4:IntKind.i32.wrap 49=49:=by decide +kernel
theorem aeq:(⟨#[32,38,124,33,94,126,40,41,61]⟩:ByteArray)=bs kY:=rfl
set_option maxHeartbeats 8000000 in
theorem Ej (G:ao) (t:List UInt8) (q i:Nat) (ht:t.length < 2^60) (hi:i<=t.length) :
  MC Tryz.prog G [500] 229 [.ref 500 0 0] (ZX (bf t i 0 (-1))) (.d (dS (fB t (aW t i)))) (ZX (bf t (bY (aaO t q i)) (eR (aaO t q i)) (pR (aaO t q i)))):=by
 have gw:=Eg G t i ht hi 0 (-1);have aa9:=abX hi;have pA:=rZ hi;unfold aaO;generalize aW t i=j at gw aa9 pA ⊢;have vu:=wQ G t j ht aa9 3;have vv:=wQ G t j ht aa9 5;rw [pA] at vu vv;have ba:=Ah t j;have het:=EZ aa9;have pN:(t.drop j).take (acy t j - j)=fB t j:=rfl
 have CW:(fB t j).length < 2^60:=by
  rw [<- pN,List.length_take,List.length_drop];omega
 have ig:=ae8 G (fB t j) CW;rw [<- IW] at ig;refine MC.aD (ZZ _) Tryz.func229 rfl rfl (rs:=[.tmp 2]) Tryz.results229 (by simp [Tryz.ntmps229]) rfl fun X=>?_;simp only [Tryz.ntmps229];have fw:=(Aq @ab.eq_1 (Aq @bf.eq_1 @dS.eq_1));refine ZW fw [0] [500] ?_;refine Z8 fw gw [0] [500] ?_;refine ZW fw [0,3] [500] ?_;refine ae fun K1 ay=>?_;refine aam (S:=Nat) (fun k=>j<=k/\k<=t.length/\qh t j k) (fun k=>⟨aX [(0,.ref 500 0 0),(3,int k)],ZX [(500,.box 247 [.d (dS t),int j,int 0,int (-1)])]⟩) (fun k=>t.length - k) j ?_ ⟨Nat.le_refl _,aa9,.inl rfl⟩ ?_
 .refine aU fw
 .rintro k ⟨hjk,hk,hat⟩;refine ae fun K2 aa=>?_
  refine (fun dZ hstop=>?_) (fun (σ:St) (hn:qh t j (k+1)) (cj:k < t.length) himp=>aa σ (AW.imp (τ:=⟨aX [(0,.ref 500 0 0),(3,int k)],ZX [(500,.box 247 [.d (dS t),int j,int 0,int (-1)])]⟩) himp ?_))
   (fun (σ:St) (he:k=acy t j) himp=>ay σ (AW.imp (τ:=⟨aX [(0,.ref 500 0 0),(3,int k)],ZX [(500,.box 247 [.d (dS t),int j,int 0,int (-1)])]⟩) himp ?_))
  .by_cases cj:k < t.length
   .have fF:=Nh G t[k];have adz:=ad4 t[k]
    cases td:iI t[k] with
    | true=>
     rw [td] at fF adz;have qf:=(Aq fw (Aq @bh (Aq @aao (Aq @aeq (Aq @EW @cj)))));refine aaF fF [0,3,54] [500] ?_;refine ag rfl ?_;refine bH (hstop _ (nX hat hk fun _=>⟨adz.2 (.inl rfl),fun _=>⟨fun e=>?_,fun e=>?_⟩⟩) ?_)
     .rw [e] at td;exact absurd td (by decide)
     .rw [e] at td;exact absurd td (by decide)
     .refine aU fw
    | false=>
     rw [td] at fF adz;by_cases abD:j < k
     .have iB:(j:Int) < (k:Int):=by omega
      have yt:t[k] ∉ lF\/(j < k/\(t[k]=48\/t[k]=49)):=by
       by_cases hm:t[k]∈lF
       .rcases adz.1 hm with h | h | h
        .cases h
        .exact .inr ⟨abD,.inl h⟩
        .exact .inr ⟨abD,.inr h⟩
       .exact .inl hm
      have qf:=(Aq fw (Aq @bh (Aq @aao (Aq @aeq (Aq @EW (Aq @cj (Aq @iB @abD)))))));refine aaF fF [0,3,54] [500] ?_;refine ak rfl ?_;refine ah (dZ _ (uC hat cj yt) cj ?_);refine aU fw
     .have iB:¬ (j:Int) < (k:Int):=by omega
      by_cases lR:((t[k]).toNat:Int)=48
      .have hc:t[k]=48:=(uh _ 48 (by decide)).1 lR;rw [lR] at fF;have qf:=(Aq fw (Aq @bh (Aq @aao (Aq @aeq (Aq @X3 (Aq @cj (Aq @iB (Aq @abD @lR))))))));refine aaF fF [0,3,54] [500] ?_;refine ag rfl ?_;refine bH (hstop _ (nX hat hk fun _=>⟨adz.2 (.inr (.inl hc)),fun h=>absurd h abD⟩) ?_);refine aU fw
      .by_cases h49:((t[k]).toNat:Int)=49
       .have hc:t[k]=49:=(uh _ 49 (by decide)).1 h49;rw [h49] at fF;have qf:=(Aq fw (Aq @bh (Aq @aao (Aq @aeq (Aq @X4 (Aq @cj (Aq @iB (Aq @abD (Aq @lR @h49)))))))));refine aaF fF [0,3,54] [500] ?_;refine ag rfl ?_;refine bH (hstop _ (nX hat hk fun _=>⟨adz.2 (.inr (.inr hc)),fun h=>absurd h abD⟩) ?_);refine aU fw
       .have hm:t[k] ∉ lF:=fun hm=>by
         rcases adz.1 hm with h | h | h
         .cases h
         .exact lR (by rw [h];rfl)
         .exact h49 (by rw [h];rfl)
        have qf:=(Aq fw (Aq @bh (Aq @aao (Aq @aeq (Aq @EW (Aq @cj (Aq @iB (Aq @abD (Aq @lR @h49)))))))));refine aaF fF [0,3,54] [500] ?_;refine ak rfl ?_;refine ah (dZ _ (uC hat cj (.inl hm)) cj ?_);refine aU fw
   .obtain rfl:k=t.length:=by omega
    by_cases abD:j < t.length
    .have iB:(j:Int) < (t.length:Int):=by omega
     have qf:=(Aq fw (Aq @bh (Aq @aao (Aq @iB @abD))));refine al [0,3,54] [500] ?_;refine ag rfl ?_;refine bH (hstop _ (nX hat hk fun h=>absurd h cj) ?_);refine aU fw
    .have iB:¬ (j:Int) < (t.length:Int):=by omega
     have qf:=(Aq fw (Aq @bh (Aq @aao (Aq @iB @abD))));refine al [0,3,54] [500] ?_;refine ag rfl ?_;refine bH (hstop _ (nX hat hk fun h=>absurd h cj) ?_);refine aU fw
  .refine aR ?_;refine reQ fw ?_;(try simp only [aM,aP]);refine aV.mk (k+1) ⟨by omega,by omega,hn⟩ (by omega) ?_;refine aU fw
  .subst he;clear ay aa;have Da:List.take (acy t j - j) (List.drop j t)=fB t j:=pN;have qf:=(Aq fw (Aq @bh (Aq @FG (Aq @ba (Aq @het @Da)))));refine fP [0,3,4] [500] ?_;refine ae fun K3 aQ=>?_;refine aR ?_;by_cases hs:fB t j=[]
   .refine rg [0,3,4,71] [500] (cC rfl) fun K' af=>?_;(repeat (refine Z0 fun K2 aa=>?_;simp [ab,bf,dS,hs,bo,aT,aN];(repeat (refine ⟨by omega,?_⟩));refine aa _ ?_;clear aa K2));refine Z9 (af _ (AW.st (by simp [ab,bf,dS,hs,bo,aT,aN];rfl) ?_));clear af K';refine ak rfl ?_;refine aaG (ZZ _) fun K' af=>?_;(repeat (refine Z0 fun K2 aa=>?_;simp [ab,bf,dS];(repeat (refine ⟨by omega,?_⟩));refine aa _ ?_;clear aa K2));refine Z0 fun K2 aa=>?_;simp [ab,bf,dS];refine aap.mc (vu) ?_ ?_ ?_ ?_ ?_<;>simp [ab,bf,dS];refine aa _ ?_;clear aa K2;(repeat (refine Z0 fun K2 aa=>?_;simp [ab,bf,dS];(repeat (refine ⟨by omega,?_⟩));refine aa _ ?_;clear aa K2));refine Z9 (af _ ?_);clear af K';refine aQ _ (AW.norm [4] [500] (cC rfl) (AW.st (by simp [ab,bf,dS];rfl) ?_));refine ZW fw [2] [500] ?_;refine bk ?_;simp [D.le,D.le.go,aB,ab,bf,dS,bf,bY,eR,pR,hs,bo]
   .have pJ:(fB t j == [])=false:=by simpa using hs
    have vT:(fB t j).isEmpty=false:=by rw [List.isEmpty_eq_false_iff];exact hs
    refine rg [0,3,4,71] [500] (cC rfl) fun K' af=>?_;(repeat (refine Z0 fun K2 aa=>?_;simp [ab,bf,dS,bo,aT,aN,hs,pJ,vT];(repeat (refine ⟨by omega,?_⟩));refine aa _ ?_;clear aa K2));refine Z9 (af _ (AW.st (by simp [ab,bf,dS,bo,aT,aN,hs,pJ,vT];rfl) ?_));clear af K';refine ag rfl ?_
    cases hn:fL (fB t j) with
    | false=>
     rw [hn] at ig;refine Z6 fw ig [0,3,4,76] [500] ?_;refine ak rfl ?_;refine aaG (ZZ _) fun K' af=>?_;(repeat (refine Z0 fun K2 aa=>?_;simp [ab,bf,dS];(repeat (refine ⟨by omega,?_⟩));refine aa _ ?_;clear aa K2));refine Z0 fun K2 aa=>?_;simp [ab,bf,dS];refine aap.mc (vv) ?_ ?_ ?_ ?_ ?_<;>simp [ab,bf,dS];refine aa _ ?_;clear aa K2;(repeat (refine Z0 fun K2 aa=>?_;simp [ab,bf,dS];(repeat (refine ⟨by omega,?_⟩));refine aa _ ?_;clear aa K2));refine Z9 (af _ ?_);clear af K';refine aQ _ (AW.norm [4] [500] (cC rfl) (AW.st (by simp [ab,bf,dS];rfl) ?_));refine ZW fw [2] [500] ?_;exact aK (Aq fw (Aq @bf.eq_1 (Aq @bY.eq_1 (Aq @bY.eq_2 (Aq @eR.eq_1 (Aq @eR.eq_2 (Aq @pR.eq_1 (Aq @pR.eq_2 (Aq @hs @hn)))))))))
    | true=>
     rw [hn] at ig;refine Z6 fw ig [0,3,4,76] [500] ?_;refine ag rfl ?_;refine reK fw aQ [4] [500] ?_;refine ZW fw [2] [500] ?_;exact aK (Aq fw (Aq @bf.eq_1 (Aq @bY.eq_1 (Aq @bY.eq_2 (Aq @eR.eq_1 (Aq @eR.eq_2 (Aq @pR.eq_1 (Aq @pR.eq_2 (Aq @hs @hn)))))))))
def cM:D:=.sl (some false) []
mutual
def dR:Ex->D
 | .eV b=>.ip [dS [if b then 49 else 48],dS [],cM]
 | .bit s=>.ip [dS [98,105,116],dS s,cM]
 | .fQ s=>.ip [dS [94],dS s,cM]
 | .fC s=>.ip [dS [126],dS s,cM]
 | .not e=>.ip [dS [33],dS [],.sl none [[dR e]]]
 | .and l=>.ip [dS [38],dS [],.sl none (qz l)]
 | .or l=>.ip [dS [124],dS [],.sl none (qz l)]
def qz:List Ex->List (List D)
 | []=>[]
 | e :: l=>[dR e] :: qz l
end
theorem sx:∀ l:List Ex,qz l=l.map fun e=>[dR e]
 | []=>rfl
 | e :: l=>by rw [qz,sx l];rfl
theorem adP (e:Ex):∃ c,dR e = .ip c:=by
 cases e<;>simp only [dR]<;>exact ⟨_,rfl⟩
theorem qy (e:Ex):(dR e).one=true:=by
 obtain ⟨c,h⟩:=adP e;rw [h];rfl
theorem cells_one {y:D} (h:y.one=true):fS (.d y)=some [.d y]:=by
 cases y<;>first | (simp [fS,AV.one,D.one] at h ⊢;done) | (simp [D.one] at h;simp [fS,AV.one,D.one,h])
def abf (r:Rs Ex) (y:D):D:=match r with
 | .ok x _=>dR x
 | .err _ _ _=>y
def fN {α:Type} (r:Rs α) (k:Nat):Nat:=match r with
 | .ok _ j=>j
 | .err _ _ _=>k
def xo (G:ao) (t:List UInt8) (fx:List Nat) (xr:List (Nat×Row)) (g:FuncId) (xs:List AV) (d:Nat) (r:Rs Ex) (i:Nat) (y:D) (k:Nat):Prop:=
 MC Tryz.prog G fx g xs (ZX (bf t i 0 (-1) ++ xr)) (.d (abf r y)) (ZX (bf t (fN r k) (eR r) (pR r) ++ xr))/\(∀ c p q,r = .err c p q->0 < c/\y.one=true/\k<=t.length+d)
def Reads (G:ao) (t:List UInt8) (fx:List Nat) (xr:List (Nat×Row)) (g:FuncId) (xs:List AV) (d:Nat) (f:Nat->Rs Ex):Prop:=∃ (yF:Nat->D) (kF:Nat->Nat),∀ i,i<=t.length->xo G t fx xr g xs d (f i) i (yF i) (kF i)
theorem zK {G:ao} {t:List UInt8} {fx:List Nat} {xr:List (Nat×Row)} {g:FuncId} {xs:List AV} {d:Nat} {f:Nat->Rs Ex} (h:∀ i,i<=t.length->∃ y k,xo G t fx xr g xs d (f i) i y k):Reads G t fx xr g xs d f:=by
 have h2:∀ i,∃ z:D×Nat,i<=t.length->xo G t fx xr g xs d (f i) i z.1 z.2:=fun i=>by
  by_cases hi:i<=t.length
  .obtain ⟨y,k,h⟩:=h i hi;exact ⟨(y,k),fun _=>h⟩
  .exact ⟨(default,0),fun h=>absurd h hi⟩
 exact ⟨fun i=>(Classical.choose (h2 i)).1,fun i=>(Classical.choose (h2 i)).2,fun i hi=>Classical.choose_spec (h2 i) hi⟩
def ky (t:List UInt8) (s:UInt8) (f:Nat->Rs Ex):Nat->Nat->List Ex->List Ex×Nat
 | 0,i,acc=>(acc,i)
 | n+1,i,acc=>match f i with
  | .err _ _ _=>(acc,i)
  | .ok x j=>if (cJ t s j).1 then ky t s f n (cJ t s j).2 (acc ++ [x]) else (acc,i)
theorem Kw {t:List UInt8} {s:UInt8} {f:Nat->Rs Ex} (hf:abZ t f):∀ (n m i:Nat) (acc:List Ex),i<=t.length->t.length+1 - i<=n->t.length+1 - i<=m->ky t s f n i acc=ky t s f m i acc
 | 0,_,i,_,hi,h,_=>by omega
 | _+1,0,i,_,hi,_,h=>by omega
 | n+1,m+1,i,acc,hi,h1,h2=>by
  rw [ky,ky]
  cases bu:f i with
  | err c p q=>rfl
  | ok x j=>
   obtain ⟨g1,g2⟩:=hf i x j hi bu;obtain ⟨t1,t2,t3⟩:=j7 (c:=s) g2;dsimp only;split
   .exact Kw hf n m _ _ t2 (by omega) (by omega)
   .rfl
def rY (t:List UInt8) (s:UInt8) (f:Nat->Rs Ex) (i:Nat) (acc:List Ex):List Ex×Nat:=ky t s f (t.length+1 - i) i acc
theorem qb {t:List UInt8} {s:UInt8} {f:Nat->Rs Ex} (hf:abZ t f) {i:Nat} (hi:i<=t.length) (acc:List Ex):rY t s f i acc=match f i with
  | .err _ _ _=>(acc,i)
  | .ok x j=>if (cJ t s j).1 then rY t s f (cJ t s j).2 (acc ++ [x]) else (acc,i):=by
 unfold rY;obtain ⟨n,hn⟩:∃ n,t.length+1 - i=n+1:=⟨t.length - i,by omega⟩;rw [hn,ky]
 cases bu:f i with
 | err c p q=>rfl
 | ok x j=>
  obtain ⟨g1,g2⟩:=hf i x j hi bu;obtain ⟨t1,t2,t3⟩:=j7 (c:=s) g2;dsimp only;split
  .exact Kw hf _ _ _ _ t2 (by omega) (by omega)
  .rfl
theorem zu {t:List UInt8} {i:Nat} {c:UInt8} (hc:c≠0):(cJ t c i).1=decide (((kU t i).toNat:Int)=(c.toNat:Int)):=by
 unfold cJ kU;rw [List.getD_eq_getElem?_getD]
 cases h:t[aW t i]? with
 | none=>
  rw [if_neg (by simp)];simp only [Option.getD_none]
  symm
  rw [decide_eq_false_iff_not];intro e;apply hc
  have:c.toNat=0:=by simp at e;omega
  exact UInt8.toNat_inj.1 (by simpa using this)
 | some b=>
  simp only [Option.getD_some];by_cases hb:b=c
  .subst hb;simp
  .have:¬ ((b.toNat:Int)=(c.toNat:Int)):=fun e=>hb (UInt8.toNat_inj.1 (by omega));simp [hb,this]
theorem ES {t:List UInt8} {c:UInt8} {i:Nat}:(cJ t c i).2=if (cJ t c i).1 then aW t i+1 else aW t i:=by
 unfold cJ;split<;>rfl
def jl (s:UInt8) (ys:List D):D:=match ys with
 | [y]=>y
 | ys=>.ip [dS [s],dS [],.sl none (ys.map fun y=>[y])]
theorem zR {s:UInt8} {ys:List D} (h:ys.length≠1):jl s ys = .ip [dS [s],dS [],.sl none (ys.map fun y=>[y])]:=by
 match ys,h with
 | [],_=>rfl
 | [_],h=>exact absurd rfl h
 | _ :: _ :: _,_=>rfl
theorem J9 {s:UInt8} {ys:List D} (h:∀ y∈ys,y.one=true):(jl s ys).one=true:=by
 match ys,h with
 | [],_=>rfl
 | [y],h=>exact h y (by simp)
 | _ :: _ :: _,_=>rfl
set_option maxHeartbeats 16000000 in
theorem Vm (G:ao) (t:List UInt8) (ht:t.length<=2000) (g:FuncId) (s:UInt8) (sn:Int) (hsn:(s.toNat:Int)=sn) (hs0:s≠0) (Cf:Utf8.encode sn=bs [s]) (a:Int) (d:Nat) (f:Nat->Rs Ex) (hf:abZ t f) (col:List Ex->Ex) (qP:∀ l,dR (col l)=jl s (l.map dR))
  (dA:Reads G t [500] [] g [.ref 500 0 0,.d (ab a)] d f):Reads G t [500] [] 190 [.ref 500 0 0,.d (.v (.int .u8 sn)),.d (ab a),.bm g (.ref 500 0 0)] d (fun i=>(abW t s f i []).map col):=by
 obtain ⟨yF,kF,dA⟩:=dA;refine zK fun i hi=>?_;generalize hR:abW t s f i []=R;generalize hZ:rY t s f i []=Z;refine ⟨jl s (Z.1.map dR ++ [yF Z.2]),kF Z.2,?_⟩
 have qV:∀ (k:Nat) (ys:List D) (e p:Int),((e=0/\p = -1/\∃ acc,ys=acc.map dR/\R = .ok acc k)\/(∃ c p' q,R = .err c p' q/\e=c/\p=p'/\ys=Z.1.map dR ++ [yF Z.2]/\k=kF Z.2))->
   abf (R.map col) (jl s (Z.1.map dR ++ [yF Z.2]))=jl s ys/\fN (R.map col) (kF Z.2)=k/\eR (R.map col)=e/\pR (R.map col)=p:=by
  rintro k ys e p (⟨rfl,rfl,acc,rfl,rfl⟩ | ⟨c,p',q,rfl,rfl,rfl,rfl,rfl⟩)
  .exact ⟨by simp [Rs.map,abf,qP],rfl,rfl,rfl⟩
  .exact ⟨rfl,rfl,rfl,rfl⟩
 have abC:∀ (n i:Nat) (acc:List Ex),i<=t.length->t.length+1 - i<=n->∀ c p q,fc t s f n i acc = .err c p q->0 < c/\(yF (ky t s f n i acc).2).one=true/\kF (ky t s f n i acc).2<=t.length+d:=by
  intro n
  induction n with
  | zero=>intro i acc hi hn;omega
  | succ n ih=>
   intro i acc hi hn c p q h;rw [fc] at h;rw [ky]
   cases bu:f i with
   | err c' p' q'=>
    rw [bu] at h;simp only [Rs.err.injEq] at h;obtain ⟨rfl,-,-⟩:=h;exact (dA i hi).2 _ _ _ bu
   | ok x j=>
    rw [bu] at h;obtain ⟨g1,g2⟩:=hf i x j hi bu;obtain ⟨t1,t2,t3⟩:=j7 (c:=s) g2;dsimp only at h ⊢;split at h
    .rename_i cq;rw [if_pos cq];exact ih _ _ t2 (by omega) c p q h
    .cases h
 refine ⟨?_,fun c p q h=>?_⟩
 rotate_left
 .cases R with
  | ok l j=>cases h
  | err c' p' q'=>
   simp only [Rs.map,Rs.err.injEq] at h;obtain ⟨rfl,rfl,rfl⟩:=h;obtain ⟨h1,h2,h3⟩:=abC _ i [] hi (Nat.le_refl _) _ _ _ hR
   have BS:(ky t s f (t.length+1 - i) i []).2=Z.2:=by rw [<- hZ];rfl
   rw [BS] at h2 h3;refine ⟨h1,J9 fun y hy=>?_,h3⟩
   rcases List.mem_append.1 hy with hy | hy
   .obtain ⟨x,_,rfl⟩:=List.mem_map.1 hy;exact qy x
   .simp at hy;subst hy;exact h2
 generalize Rf:jl s (Z.1.map dR ++ [yF Z.2])=yE at qV ⊢;generalize R.map col=RR at qV ⊢;refine MC.aD (ZZ _) Tryz.func190 rfl rfl (rs:=[.tmp 8]) Tryz.results190 (by simp [Tryz.ntmps190]) rfl fun X=>?_;simp only [Tryz.ntmps190];have fw:=(Aq @ab.eq_1 (Aq @bf.eq_1 @dS.eq_1));refine ZW fw [0,1,2,3] [500] ?_;have Co:=(dA i hi).1
 have abx:(abf (f i) (yF i)).one=true:=by
  cases bu:f i with
  | ok x j=>exact qy x
  | err c p q=>exact ((dA i hi).2 _ _ _ bu).2.1
 have sU:=cells_one abx;have qf:=(Aq fw @sU);refine abi Co [0,1,2,3,9] [500,13] ?_;refine ae fun K1 ay=>?_
 refine aam (S:=Nat×List D×Int×Int) (fun z=>(z.2.2.1=0/\z.2.2.2 = -1/\z.1<=t.length/\∃ acc,z.2.1=acc.map dR/\0 < acc.length/\acc.length<=z.1/\(if (cJ t s z.1).1 then abW t s f (cJ t s z.1).2 acc else .ok acc (cJ t s z.1).2)=R/\((cJ t s z.1).1=true->rY t s f (cJ t s z.1).2 acc=Z))\/(0 < z.2.2.1/\z.2.1.length<=2001/\∃ c p q,R = .err c p q/\z.2.2.1=c/\z.2.2.2=p/\z.2.1=Z.1.map dR ++ [yF Z.2]/\z.1=kF Z.2))
  (fun z=>⟨aX [(0,.ref 500 0 0),(1,.d (.v (.int .u8 sn))),(2,.d (ab a)),(3,.bm g (.ref 500 0 0)),(9,.own 13 0 z.2.1.length)],ZX [(500,.box 247 [.d (dS t),int z.1,int z.2.2.1,int z.2.2.2]),(13,.sl 91 1 (z.2.1.map fun y=>[y]))]⟩) (fun z=>if z.2.2.1=0 then t.length+1 - z.1 else 0) (fN (f i) (kF i),[abf (f i) (yF i)],eR (f i),pR (f i)) ?_ ?_ ?_
 .refine aU fw
 .cases bu:f i with
  | ok x j=>
   obtain ⟨g1,g2⟩:=hf i x j hi bu;rw [oX hf hi,bu] at hR;rw [qb hf hi,bu] at hZ;exact .inl ⟨rfl,rfl,g2,[x],rfl,by simp,by simp [fN];omega,hR,fun h=>by dsimp only [fN] at h ⊢;simpa only [h,if_true,List.nil_append] using hZ⟩
  | err c p q=>
   rw [oX hf hi,bu] at hR;rw [qb hf hi,bu] at hZ;obtain ⟨h1,h2,h3⟩:=(dA i hi).2 _ _ _ bu;exact .inr ⟨h1,by simp,c,p,0,hR.symm,rfl,rfl,by rw [<- hZ];rfl,by rw [<- hZ];rfl⟩
 .rintro ⟨k,ys,e,p⟩ hI;dsimp only at hI ⊢;refine ae fun K2 aa=>?_
  refine (fun qQ=>?_) (fun (σ:St) (k:Nat) (ys:List D) (e p:Int) (hl:ys.length<=2001) (B7:(e=0/\p = -1/\∃ acc,ys=acc.map dR/\R = .ok acc k)\/(∃ c p' q,R = .err c p' q/\e=c/\p=p'/\ys=Z.1.map dR ++ [yF Z.2]/\k=kF Z.2)) himp=>
   ay σ (AW.imp (τ:=⟨aX [(0,.ref 500 0 0),(1,.d (.v (.int .u8 sn))),(9,.own 13 0 ys.length)],ZX [(500,.box 247 [.d (dS t),int k,int e,int p]),(13,.sl 91 1 (ys.map fun y=>[y]))]⟩) himp ?_))
  .rcases hI with ⟨rfl,rfl,hk,acc,rfl,BU,Ph,ft,iw⟩ | ⟨he,hlen,c,p',q,qM,rfl,rfl,rfl,rfl⟩
   .have eo:=wS G t k (by omega) hk 0 (-1);have cq:=zu (t:=t) (i:=k) hs0;rw [hsn] at cq;have ij:=ES (t:=t) (c:=s) (i:=k);obtain ⟨t1,t2,t3⟩:=j7 (t:=t) (c:=s) hk;have aa9:=abX hk;by_cases hb:((kU t k).toNat:Int)=sn
    .rw [decide_eq_true hb] at cq;rw [cq] at ft iw ij t3;simp only [if_true] at ft ij;have iw:=iw rfl;have t3:=t3 rfl;rw [ij] at ft iw t2 t3;have qf:=(Aq fw @hb);refine abi eo [0,1,2,3,9,25] [500,13] ?_;refine ak rfl ?_;refine ah (aa _ ?_);refine aR ?_;refine ZW fw [0,1,2,3,9] [500,13] ?_;have nj:=(dA _ t2).1;rw [Int.natCast_add] at nj
     have mC:(abf (f (aW t k+1)) (yF (aW t k+1))).one=true:=by
      cases bu:f (aW t k+1) with
      | ok x j=>exact qy x
      | err c p q=>exact ((dA _ t2).2 _ _ _ bu).2.1
     have ov:=cells_one mC;refine aaG (ZZ _) fun K' af=>?_;(repeat (refine Z0 fun K2 aa=>?_;simp [ab,bf,dS,ov,mC,List.take_of_length_le];(repeat (refine ⟨by omega,?_⟩));refine aa _ ?_;clear aa K2));refine Z0 fun K2 aa=>?_;simp [ab,bf,dS,ov,mC,List.take_of_length_le];refine aap.mc (nj) ?_ ?_ ?_ ?_ ?_<;>simp [ab,bf,dS,ov,mC,List.take_of_length_le];refine aa _ ?_;clear aa K2;(repeat (refine Z0 fun K2 aa=>?_;simp [ab,bf,dS,ov,mC,List.take_of_length_le];(repeat (refine ⟨by omega,?_⟩));refine aa _ ?_;clear aa K2));refine Z9 (af _ ?_);clear af K';(try simp only [aM,aP]);refine aV.mk (fN (f (aW t k+1)) (kF (aW t k+1)),acc.map dR ++ [abf (f (aW t k+1)) (yF (aW t k+1))],eR (f (aW t k+1)),pR (f (aW t k+1))) ?_ ?_ ?_
     .cases bu:f (aW t k+1) with
      | ok x j=>
       obtain ⟨g1,g2⟩:=hf _ x j t2 bu;rw [oX hf t2,bu] at ft;rw [qb hf t2,bu] at iw;exact .inl ⟨rfl,rfl,g2,acc ++ [x],by simp [abf],by simp,by simp [fN];omega,ft,fun h=>by dsimp only [fN] at h ⊢;simpa only [h,if_true] using iw⟩
      | err c p q=>
       rw [oX hf t2,bu] at ft;rw [qb hf t2,bu] at iw;obtain ⟨h1,h2,h3⟩:=(dA _ t2).2 _ _ _ bu;exact .inr ⟨h1,by simp;omega,c,p,0,ft.symm,rfl,rfl,by rw [<- iw];rfl,by rw [<- iw];rfl⟩
     .cases bu:f (aW t k+1) with
      | ok x j=>
       obtain ⟨g1,g2⟩:=hf _ x j t2 bu;simp only [eR,fN,if_true];omega
      | err c p q=>
       obtain ⟨h1,h2,h3⟩:=(dA _ t2).2 _ _ _ bu
       have hc0:¬ c=0:=by omega
       simp [eR,hc0];omega
     .refine aU fw
    .rw [decide_eq_false hb] at cq;rw [cq] at ft ij;simp only [Bool.false_eq_true,if_false] at ft ij;have qf:=(Aq fw @hb);refine abi eo [0,1,2,3,9,25] [500,13] ?_;refine ag rfl ?_;refine bH (qQ _ (aW t k) (acc.map dR) 0 (-1) (by simp;omega) (.inl ⟨rfl,rfl,acc,rfl,by rw [<- ft,ij]⟩) ?_);refine aU fw
   .have ia:¬ e=0:=by omega
    have qf:=(Aq fw @ia);refine al [0,1,2,3,9,25] [500,13] ?_;refine ag rfl ?_;refine bH (qQ _ (kF Z.2) _ e p' hlen (.inr ⟨e,p',q,qM,rfl,rfl,rfl,rfl⟩) ?_);refine aU fw
  .obtain ⟨h1,h2,h3,h4⟩:=qV k ys e p B7;rw [h1,h2,h3,h4];refine ae fun K3 aQ=>?_;by_cases gU:ys.length=1
   .obtain ⟨y,rfl⟩:=List.length_eq_one_iff.1 gU;refine ZW fw [1,9,41] [500,13] ?_;refine ak rfl ?_;refine ZW fw [8] [500] ?_;exact aK (Aq fw (Aq @jl.eq_1 @jl.eq_2))
   .have gV:¬ (ys.length:Int)=1:=by omega
    have qf:=(Aq fw (Aq @gU @gV));refine al [1,9,41] [500,13] ?_;refine ag rfl ?_;refine ah (aQ _ ?_);refine AW.imp (Z1.freeze 13 (by decide)) ?_;refine AW.st (by simp [ab,bf,dS,List.take_of_length_le];rfl) ?_;have qf:=(Aq fw @Cf);refine al [8] [500,49] ?_;refine ck fw 49 ?_;refine bk ?_;simp [D.le,D.le.go,aB,ab,bf,dS,zR gU,dS,bo,D.le_refl,D.bn]
set_option maxHeartbeats 16000000 in
theorem Vn (G:ao) (t:List UInt8) (ht:t.length<=2000) (g:FuncId) (s:UInt8) (sn:Int) (hsn:(s.toNat:Int)=sn) (hs0:s≠0) (Cf:Utf8.encode sn=bs [s]) (a:Int) (d:Nat) (f:Nat->Rs Ex) (hf:abZ t f) (col:List Ex->Ex) (qP:∀ l,dR (col l)=jl s (l.map dR))
  (dA:Reads G t [500,501] [(501,.box 245 [.ref 500 0 0])] g [.d (ab a),.ref 501 0 0] d f):Reads G t [500,501] [(501,.box 245 [.ref 500 0 0])] 190 [.ref 500 0 0,.d (.v (.int .u8 sn)),.d (ab a),.fn (.func g) [.ref 501 0 0]] d (fun i=>(abW t s f i []).map col):=by
 obtain ⟨yF,kF,dA⟩:=dA;refine zK fun i hi=>?_;generalize hR:abW t s f i []=R;generalize hZ:rY t s f i []=Z;refine ⟨jl s (Z.1.map dR ++ [yF Z.2]),kF Z.2,?_⟩
 have qV:∀ (k:Nat) (ys:List D) (e p:Int),((e=0/\p = -1/\∃ acc,ys=acc.map dR/\R = .ok acc k)\/(∃ c p' q,R = .err c p' q/\e=c/\p=p'/\ys=Z.1.map dR ++ [yF Z.2]/\k=kF Z.2))->
   abf (R.map col) (jl s (Z.1.map dR ++ [yF Z.2]))=jl s ys/\fN (R.map col) (kF Z.2)=k/\eR (R.map col)=e/\pR (R.map col)=p:=by
  rintro k ys e p (⟨rfl,rfl,acc,rfl,rfl⟩ | ⟨c,p',q,rfl,rfl,rfl,rfl,rfl⟩)
  .exact ⟨by simp [Rs.map,abf,qP],rfl,rfl,rfl⟩
  .exact ⟨rfl,rfl,rfl,rfl⟩
 have abC:∀ (n i:Nat) (acc:List Ex),i<=t.length->t.length+1 - i<=n->∀ c p q,fc t s f n i acc = .err c p q->0 < c/\(yF (ky t s f n i acc).2).one=true/\kF (ky t s f n i acc).2<=t.length+d:=by
  intro n
  induction n with
  | zero=>intro i acc hi hn;omega
  | succ n ih=>
   intro i acc hi hn c p q h;rw [fc] at h;rw [ky]
   cases bu:f i with
   | err c' p' q'=>
    rw [bu] at h;simp only [Rs.err.injEq] at h;obtain ⟨rfl,-,-⟩:=h;exact (dA i hi).2 _ _ _ bu
   | ok x j=>
    rw [bu] at h;obtain ⟨g1,g2⟩:=hf i x j hi bu;obtain ⟨t1,t2,t3⟩:=j7 (c:=s) g2;dsimp only at h ⊢;split at h
    .rename_i cq;rw [if_pos cq];exact ih _ _ t2 (by omega) c p q h
    .cases h
 refine ⟨?_,fun c p q h=>?_⟩
 rotate_left
 .cases R with
  | ok l j=>cases h
  | err c' p' q'=>
   simp only [Rs.map,Rs.err.injEq] at h;obtain ⟨rfl,rfl,rfl⟩:=h;obtain ⟨h1,h2,h3⟩:=abC _ i [] hi (Nat.le_refl _) _ _ _ hR
   have BS:(ky t s f (t.length+1 - i) i []).2=Z.2:=by rw [<- hZ];rfl
   rw [BS] at h2 h3;refine ⟨h1,J9 fun y hy=>?_,h3⟩
   rcases List.mem_append.1 hy with hy | hy
   .obtain ⟨x,_,rfl⟩:=List.mem_map.1 hy;exact qy x
   .simp at hy;subst hy;exact h2
 generalize Rf:jl s (Z.1.map dR ++ [yF Z.2])=yE at qV ⊢;generalize R.map col=RR at qV ⊢;refine MC.aD (ZZ _) Tryz.func190 rfl rfl (rs:=[.tmp 8]) Tryz.results190 (by simp [Tryz.ntmps190]) rfl fun X=>?_;simp only [Tryz.ntmps190];have fw:=(Aq @ab.eq_1 (Aq @bf.eq_1 @dS.eq_1));refine ZW fw [0,1,2,3] [500,501] ?_;have Co:=(dA i hi).1
 have abx:(abf (f i) (yF i)).one=true:=by
  cases bu:f i with
  | ok x j=>exact qy x
  | err c p q=>exact ((dA i hi).2 _ _ _ bu).2.1
 have sU:=cells_one abx;have qf:=(Aq fw @sU);refine abi Co [0,1,2,3,9] [500,501,13] ?_;refine ae fun K1 ay=>?_
 refine aam (S:=Nat×List D×Int×Int) (fun z=>(z.2.2.1=0/\z.2.2.2 = -1/\z.1<=t.length/\∃ acc,z.2.1=acc.map dR/\0 < acc.length/\acc.length<=z.1/\(if (cJ t s z.1).1 then abW t s f (cJ t s z.1).2 acc else .ok acc (cJ t s z.1).2)=R/\((cJ t s z.1).1=true->rY t s f (cJ t s z.1).2 acc=Z))\/(0 < z.2.2.1/\z.2.1.length<=2001/\∃ c p q,R = .err c p q/\z.2.2.1=c/\z.2.2.2=p/\z.2.1=Z.1.map dR ++ [yF Z.2]/\z.1=kF Z.2))
  (fun z=>⟨aX [(0,.ref 500 0 0),(1,.d (.v (.int .u8 sn))),(2,.d (ab a)),(3,.fn (.func g) [.ref 501 0 0]),(9,.own 13 0 z.2.1.length)],ZX [(500,.box 247 [.d (dS t),int z.1,int z.2.2.1,int z.2.2.2]),(501,.box 245 [.ref 500 0 0]),(13,.sl 91 1 (z.2.1.map fun y=>[y]))]⟩) (fun z=>if z.2.2.1=0 then t.length+1 - z.1 else 0) (fN (f i) (kF i),[abf (f i) (yF i)],eR (f i),pR (f i)) ?_ ?_ ?_
 .refine aU fw
 .cases bu:f i with
  | ok x j=>
   obtain ⟨g1,g2⟩:=hf i x j hi bu;rw [oX hf hi,bu] at hR;rw [qb hf hi,bu] at hZ;exact .inl ⟨rfl,rfl,g2,[x],rfl,by simp,by simp [fN];omega,hR,fun h=>by dsimp only [fN] at h ⊢;simpa only [h,if_true,List.nil_append] using hZ⟩
  | err c p q=>
   rw [oX hf hi,bu] at hR;rw [qb hf hi,bu] at hZ;obtain ⟨h1,h2,h3⟩:=(dA i hi).2 _ _ _ bu;exact .inr ⟨h1,by simp,c,p,0,hR.symm,rfl,rfl,by rw [<- hZ];rfl,by rw [<- hZ];rfl⟩
 .rintro ⟨k,ys,e,p⟩ hI;dsimp only at hI ⊢;refine ae fun K2 aa=>?_
  refine (fun qQ=>?_) (fun (σ:St) (k:Nat) (ys:List D) (e p:Int) (hl:ys.length<=2001) (B7:(e=0/\p = -1/\∃ acc,ys=acc.map dR/\R = .ok acc k)\/(∃ c p' q,R = .err c p' q/\e=c/\p=p'/\ys=Z.1.map dR ++ [yF Z.2]/\k=kF Z.2)) himp=>
   ay σ (AW.imp (τ:=⟨aX [(0,.ref 500 0 0),(1,.d (.v (.int .u8 sn))),(9,.own 13 0 ys.length)],ZX [(500,.box 247 [.d (dS t),int k,int e,int p]),(501,.box 245 [.ref 500 0 0]),(13,.sl 91 1 (ys.map fun y=>[y]))]⟩) himp ?_))
  .rcases hI with ⟨rfl,rfl,hk,acc,rfl,BU,Ph,ft,iw⟩ | ⟨he,hlen,c,p',q,qM,rfl,rfl,rfl,rfl⟩
   .have eo:=wS G t k (by omega) hk 0 (-1);have cq:=zu (t:=t) (i:=k) hs0;rw [hsn] at cq;have ij:=ES (t:=t) (c:=s) (i:=k);obtain ⟨t1,t2,t3⟩:=j7 (t:=t) (c:=s) hk;have aa9:=abX hk;by_cases hb:((kU t k).toNat:Int)=sn
    .rw [decide_eq_true hb] at cq;rw [cq] at ft iw ij t3;simp only [if_true] at ft ij;have iw:=iw rfl;have t3:=t3 rfl;rw [ij] at ft iw t2 t3;have qf:=(Aq fw @hb);refine abi eo [0,1,2,3,9,25] [500,501,13] ?_;refine ak rfl ?_;refine ah (aa _ ?_);refine aR ?_;refine ZW fw [0,1,2,3,9] [500,501,13] ?_;have nj:=(dA _ t2).1;rw [Int.natCast_add] at nj
     have mC:(abf (f (aW t k+1)) (yF (aW t k+1))).one=true:=by
      cases bu:f (aW t k+1) with
      | ok x j=>exact qy x
      | err c p q=>exact ((dA _ t2).2 _ _ _ bu).2.1
     have ov:=cells_one mC;refine aaG (ZZ _) fun K' af=>?_;(repeat (refine Z0 fun K2 aa=>?_;simp [ab,bf,dS,ov,mC,List.take_of_length_le];(repeat (refine ⟨by omega,?_⟩));refine aa _ ?_;clear aa K2));refine Z0 fun K2 aa=>?_;simp [ab,bf,dS,ov,mC,List.take_of_length_le];refine aap.mc (nj) ?_ ?_ ?_ ?_ ?_<;>simp [ab,bf,dS,ov,mC,List.take_of_length_le];refine aa _ ?_;clear aa K2;(repeat (refine Z0 fun K2 aa=>?_;simp [ab,bf,dS,ov,mC,List.take_of_length_le];(repeat (refine ⟨by omega,?_⟩));refine aa _ ?_;clear aa K2));refine Z9 (af _ ?_);clear af K';(try simp only [aM,aP]);refine aV.mk (fN (f (aW t k+1)) (kF (aW t k+1)),acc.map dR ++ [abf (f (aW t k+1)) (yF (aW t k+1))],eR (f (aW t k+1)),pR (f (aW t k+1))) ?_ ?_ ?_
     .cases bu:f (aW t k+1) with
      | ok x j=>
       obtain ⟨g1,g2⟩:=hf _ x j t2 bu;rw [oX hf t2,bu] at ft;rw [qb hf t2,bu] at iw;exact .inl ⟨rfl,rfl,g2,acc ++ [x],by simp [abf],by simp,by simp [fN];omega,ft,fun h=>by dsimp only [fN] at h ⊢;simpa only [h,if_true] using iw⟩
      | err c p q=>
       rw [oX hf t2,bu] at ft;rw [qb hf t2,bu] at iw;obtain ⟨h1,h2,h3⟩:=(dA _ t2).2 _ _ _ bu;exact .inr ⟨h1,by simp;omega,c,p,0,ft.symm,rfl,rfl,by rw [<- iw];rfl,by rw [<- iw];rfl⟩
     .cases bu:f (aW t k+1) with
      | ok x j=>
       obtain ⟨g1,g2⟩:=hf _ x j t2 bu;simp only [eR,fN,if_true];omega
      | err c p q=>
       obtain ⟨h1,h2,h3⟩:=(dA _ t2).2 _ _ _ bu
       have hc0:¬ c=0:=by omega
       simp [eR,hc0];omega
     .refine aU fw
    .rw [decide_eq_false hb] at cq;rw [cq] at ft ij;simp only [Bool.false_eq_true,if_false] at ft ij;have qf:=(Aq fw @hb);refine abi eo [0,1,2,3,9,25] [500,501,13] ?_;refine ag rfl ?_;refine bH (qQ _ (aW t k) (acc.map dR) 0 (-1) (by simp;omega) (.inl ⟨rfl,rfl,acc,rfl,by rw [<- ft,ij]⟩) ?_);refine aU fw
   .have ia:¬ e=0:=by omega
    have qf:=(Aq fw @ia);refine al [0,1,2,3,9,25] [500,501,13] ?_;refine ag rfl ?_;refine bH (qQ _ (kF Z.2) _ e p' hlen (.inr ⟨e,p',q,qM,rfl,rfl,rfl,rfl⟩) ?_);refine aU fw
  .obtain ⟨h1,h2,h3,h4⟩:=qV k ys e p B7;rw [h1,h2,h3,h4];refine ae fun K3 aQ=>?_;by_cases gU:ys.length=1
   .obtain ⟨y,rfl⟩:=List.length_eq_one_iff.1 gU;refine ZW fw [1,9,41] [500,501,13] ?_;refine ak rfl ?_;refine ZW fw [8] [500,501] ?_;exact aK (Aq fw (Aq @jl.eq_1 @jl.eq_2))
   .have gV:¬ (ys.length:Int)=1:=by omega
    have qf:=(Aq fw (Aq @gU @gV));refine al [1,9,41] [500,501,13] ?_;refine ag rfl ?_;refine ah (aQ _ ?_);refine AW.imp (Z1.freeze 13 (by decide)) ?_;refine AW.st (by simp [ab,bf,dS,List.take_of_length_le];rfl) ?_;have qf:=(Aq fw @Cf);refine al [8] [500,501,49] ?_;refine ck fw 49 ?_;refine bk ?_;simp [D.le,D.le.go,aB,ab,bf,dS,zR gU,dS,bo,D.le_refl,D.bn]
theorem VN {r r' s:Nat} (h:r≠r') (hs:s≠r') (hr:s≠r) (row adJ:Row):l6 r r' (ZX [(r,row),(s,adJ)])=ZX [(r',row.tr (eS r r') (aa2 r r')),(s,adJ.tr (eS r r') (aa2 r r'))]:=by
 funext q;unfold l6;by_cases h1:q=r'
 .subst h1;simp [ZX,List.lookup]
 .rw [if_neg h1];by_cases h2:q=r
  .subst h2;simp [ZX,List.lookup,beq_eq_false_iff_ne.2 h1,beq_eq_false_iff_ne.2 (Ne.symm hr)]
  .by_cases h3:q=s
   .subst h3;simp [ZX,List.lookup,h2,beq_eq_false_iff_ne.2 h1,beq_eq_false_iff_ne.2 h2]
   .simp [ZX,List.lookup,h2,beq_eq_false_iff_ne.2 h1,beq_eq_false_iff_ne.2 h2,beq_eq_false_iff_ne.2 h3]
theorem MY (l:List Ex):dR (ac4 l)=jl 38 (l.map dR):=by
 match l with
 | []=>rfl
 | [x]=>rfl
 | x :: y :: l=>rw [zR (by simp)];simp [ac4,dR,sx]
theorem M0 (l:List Ex):dR (ac5 l)=jl 124 (l.map dR):=by
 match l with
 | []=>rfl
 | [x]=>rfl
 | x :: y :: l=>rw [zR (by simp)];simp [ac5,dR,sx]
theorem RL:(⟨#[33]⟩:ByteArray)=bs [33]:=rfl
theorem Sg:(⟨#[98,105,116]⟩:ByteArray)=bs [98,105,116]:=rfl
theorem NG:Utf8.encode 38=bs [38]:=by decide +kernel
theorem ND:Utf8.encode 124=bs [124]:=by decide +kernel
theorem NH:Utf8.encode 48=bs [48]:=by decide +kernel
theorem afw:Utf8.encode 49=bs [49]:=by decide +kernel
theorem NJ:Utf8.encode 94=bs [94]:=by decide +kernel
theorem NF:Utf8.encode 126=bs [126]:=by decide +kernel
set_option maxHeartbeats 4000000 in
theorem Vq (G:ao) (t:List UInt8) (ht:t.length<=2000) (a:Int) (d:Nat) (h:Reads G t [500] [] 192 [.ref 500 0 0,.d (ab a)] d (aae t d)) :
  Reads G t [500,501] [(501,.box 245 [.ref 500 0 0])] 191 [.d (ab a),.ref 501 0 0] d (jo t (aae t d)):=by
 obtain ⟨yF,kF,hr⟩:=Vm G t ht 192 38 38 rfl (by decide) NG a d (aae t d) (j5 t d) ac4 MY h;refine ⟨yF,kF,fun i hi=>⟨?_,(hr i hi).2⟩⟩;have hc:=(hr i hi).1;have hR:jo t (aae t d) i=(abW t 38 (aae t d) i []).map ac4:=rfl;dsimp only at hc;rw [<- hR] at hc;generalize jo t (aae t d) i=R at hc ⊢;refine MC.aD (ZZ _) Tryz.func191 rfl rfl (rs:=[.tmp 3]) Tryz.results191 (by simp [Tryz.ntmps191]) rfl fun X=>?_;simp only [Tryz.ntmps191];have fw:=(Aq @ab.eq_1 (Aq @bf.eq_1 @dS.eq_1));refine ZW fw [0,1] [500,501] ?_;refine Z8 fw hc [3] [500,501] ?_;exact aK (Aq fw (Aq @bf.eq_1 @dS.eq_1))
set_option maxHeartbeats 4000000 in
theorem JL (G:ao) (t:List UInt8) (ht:t.length<=2000) (a:Int) (d:Nat) (h:Reads G t [500] [] 192 [.ref 500 0 0,.d (ab a)] d (aae t d)) :
  Reads G t [500] [] 144 [.ref 500 0 0,.d (ab a)] d (orR t (aae t d)):=by
 obtain ⟨yF,kF,hr⟩:=Vn G t ht 191 124 124 rfl (by decide) ND a d (jo t (aae t d)) (aec (j5 t d)) ac5 M0 (Vq G t ht a d h);refine ⟨yF,kF,fun i hi=>⟨?_,(hr i hi).2⟩⟩;have hc:=(hr i hi).1;have hR:orR t (aae t d) i=(abW t 124 (jo t (aae t d)) i []).map ac5:=rfl;dsimp only at hc;rw [<- hR] at hc;generalize orR t (aae t d) i=R at hc ⊢;refine MC.aD (ZZ _) Tryz.func144 rfl rfl (rs:=[.tmp 4]) Tryz.results144 (by simp [Tryz.ntmps144]) rfl fun X=>?_;simp only [Tryz.ntmps144];have fw:=(Aq @ab.eq_1 (Aq @bf.eq_1 @dS.eq_1));refine ZW fw [1,2] [2,500] ?_;refine AW.imp (Z1.ren (r:=2) (r':=501) (by decide) (by simp)) ?_;refine AW.st (by simp [eS,aa2,Go.Av.ren,VN];rfl) ?_;refine Z8 fw hc [4] [500,501] ?_;exact aK (Aq fw (Aq @bf.eq_1 @dS.eq_1))
theorem UK {t:List UInt8} {i:Nat} {c:UInt8} (h:t[aW t i]? = some c):kU t i=c:=by
 unfold kU;rw [List.getD_eq_getElem?_getD,h];rfl
theorem UJ {t:List UInt8} {i:Nat} {c:UInt8} (hc:c≠0) (h:t[aW t i]?≠some c):¬ ((kU t i).toNat:Int)=(c.toNat:Int):=by
 have h1:=zu (t:=t) (i:=i) hc
 have h2:(cJ t c i).1=false:=by
  unfold cJ;rw [if_neg h]
 rw [h2] at h1;exact of_decide_eq_false h1.symm
def tG:Rs Ex->Rs Ex
 | .ok x k=>.ok (.not x) k
 | .err c p _=>.err c p 0
theorem E3 {t:List UInt8} {q i j:Nat} {s:List UInt8} (h:aaO t q i = .ok s j):fB t (aW t i)=s:=by
 unfold aaO at h;split at h
 .cases h
 .split at h
  .cases h
  .simp only [Rs.ok.injEq] at h;exact h.1
theorem E4 {t:List UInt8} {q i p q':Nat} {c:Int} (hi:i<=t.length) (h:aaO t q i = .err c p q'):0 < c/\p<=t.length:=by
 have aa9:=abX hi;unfold aaO at h;split at h
 .simp only [Rs.err.injEq] at h;omega
 .split at h
  .simp only [Rs.err.injEq] at h;omega
  .cases h
set_option maxHeartbeats 32000000 in
theorem U9 (G:ao) (t:List UInt8) (ht:t.length<=2000):∀ (d:Nat) (a:Int),d<=20->a+d=20->Reads G t [500] [] 192 [.ref 500 0 0,.d (ab a)] d (aae t d):=by
 intro d
 induction d with
 | zero=>
  intro a _ ha;refine zK fun i hi=>⟨.v (.pointer none),aW t i,?_,fun c p q h=>?_⟩
  .have dH:=wQ G t i (by omega) hi 4
   have ha2:20<=a:=by omega
   rw [aae];show MC _ _ _ _ _ _ (.d (.v (.pointer none))) (ZX (bf t (aW t i) 4 (aW t i) ++ []));refine MC.aD (ZZ _) Tryz.func192 rfl rfl (rs:=[.tmp 4]) Tryz.results192 (by simp [Tryz.ntmps192]) rfl fun X=>?_;simp only [Tryz.ntmps192];have fw:=(Aq @ab.eq_1 (Aq @bf.eq_1 @dS.eq_1));refine ZW fw [0,1] [500] ?_;refine ae fun K1 ay=>?_;refine ZW fw [0,1,12] [500] ?_;refine ag rfl ?_;refine ah (ay _ ?_);refine ae fun K2 aa=>?_;have qf:=(Aq fw @ha2);refine al [0,1,14] [500] ?_;refine ak rfl ?_;refine Z8 fw dH [4] [500] ?_;exact aK (Aq fw (Aq @bf.eq_1 @dS.eq_1))
  .rw [aae] at h;simp only [Rs.err.injEq] at h;have:=abX hi;exact ⟨by omega,rfl,by omega⟩
 | succ d ih=>
  intro a hd ha;have wh:=ih (a+1) (by omega) (by omega);have rA:=JL G t ht (a+1) d wh;obtain ⟨yF,kF,wh⟩:=wh;obtain ⟨yO,kO,rA⟩:=rA;refine zK fun i hi=>?_;have eo:=wS G t i (by omega) hi 0 (-1);have aa9:=abX hi
  have ha2:¬ 20<=a:=by omega
  have Yp:0<=a:=by omega
  have p0:=fun (c:UInt8) (h:t[aW t i]? = some c)=>UK h;have pY:=fun (c:UInt8) (hc:c≠0) (h:t[aW t i]?≠some c)=>UJ hc h;have ax:∀ {c:UInt8},t[aW t i]? = some c->aW t i+1<=t.length:=fun h=>(List.getElem?_eq_some_iff.1 h).1;rw [aae];generalize kU t i=b at eo p0 pY;generalize aW t i=j at eo aa9 p0 pY ax ⊢;by_cases c33:t[j]? = some 33
  .rw [if_pos c33];obtain rfl:=p0 33 c33;have hc:=(wh (j+1) (ax c33)).1;rw [Int.natCast_add] at hc;have he:=(wh (j+1) (ax c33)).2
   have abx:(abf (aae t d (j+1)) (yF (j+1))).one=true:=by
    cases bu:aae t d (j+1) with
    | ok x k=>exact qy x
    | err c p q=>exact (he _ _ _ bu).2.1
   have sU:=cells_one abx
   change ∃ y k,xo G t [500] [] 192 [.ref 500 0 0,.d (ab a)] (d+1) (tG (aae t d (j+1))) i y k
   generalize oh:aae t d (j+1)=R at hc he abx sU ⊢;refine ⟨.ip [dS [33],dS [],.sl none [[yF (j+1)]]],kF (j+1),?_,fun c p q h=>?_⟩
   .have h1:abf (tG R) (.ip [dS [33],dS [],.sl none [[yF (j+1)]]]) = .ip [dS [33],dS [],.sl none [[abf R (yF (j+1))]]]:=by cases R<;>rfl
    have h2:fN (tG R) (kF (j+1))=fN R (kF (j+1)):=by cases R<;>rfl
    have h3:eR (tG R)=eR R:=by cases R<;>rfl
    have h4:pR (tG R)=pR R:=by cases R<;>rfl
    rw [h1,h2,h3,h4];refine MC.aD (ZZ _) Tryz.func192 rfl rfl (rs:=[.tmp 4]) Tryz.results192 (by simp [Tryz.ntmps192]) rfl fun X=>?_;simp only [Tryz.ntmps192];have fw:=(Aq @ab.eq_1 (Aq @bf.eq_1 @dS.eq_1));refine ZW fw [0,1] [500] ?_;refine ae fun K1 ay=>?_;refine ZW fw [0,1,12] [500] ?_;refine ag rfl ?_;refine ah (ay _ ?_);refine ae fun K2 aa=>?_;have qf:=(Aq fw @ha2);refine al [0,1,14] [500] ?_;refine ag rfl ?_;refine ah (aa _ ?_);refine ae fun K3 aQ=>?_;refine Z8 fw eo [0,1,5] [500] ?_;refine ZW fw [0,1,5,19] [500] ?_;refine aR ?_;refine ZW fw [0,1,5,19,20] [500] ?_;refine ak rfl ?_;refine ZW fw [0,1] [500] ?_;have qf:=(Aq fw (Aq @sU (Aq @abx @RL)));refine abi hc [4] [33,35,500] ?_;refine AW.imp (Z1.freeze 33 (by decide)) ?_;refine AW.st (by simp [ab,bf,dS];rfl) ?_;refine ck fw 35 ?_;refine bk ?_;simp [D.le,D.le.go,aB,ab,bf,dS,bf,dS,bo,D.le_refl,D.bn]
   .cases R with
    | ok x k=>cases h
    | err c' p' q'=>
     simp only [tG,Rs.err.injEq] at h;obtain ⟨rfl,rfl,rfl⟩:=h;obtain ⟨g1,g2,g3⟩:=he _ _ _ rfl;exact ⟨g1,rfl,by omega⟩
  rw [if_neg c33];have n33:¬ (b.toNat:Int)=33:=pY 33 (by decide) c33;by_cases c40:t[j]? = some 40
  .rw [if_pos c40];obtain rfl:=p0 40 c40;have hc:=(rA (j+1) (ax c40)).1;rw [Int.natCast_add] at hc;have he:=(rA (j+1) (ax c40)).2
   cases hr:orR t (aae t d) (j+1) with
   | err c p q=>
    rw [hr] at hc;obtain ⟨g1,g2,g3⟩:=he _ _ _ hr
    have g4:¬ c=0:=by omega
    refine ⟨yO (j+1),kO (j+1)+1,?_,fun c' p' q' h=>?_⟩
    .show MC _ _ _ _ _ _ (.d (yO (j+1))) (ZX (bf t ((kO (j+1)+1:Nat):Int) c p ++ []));rw [Int.natCast_add];refine MC.aD (ZZ _) Tryz.func192 rfl rfl (rs:=[.tmp 4]) Tryz.results192 (by simp [Tryz.ntmps192]) rfl fun X=>?_;simp only [Tryz.ntmps192];have fw:=(Aq @ab.eq_1 (Aq @bf.eq_1 @dS.eq_1));refine ZW fw [0,1] [500] ?_;refine ae fun K1 ay=>?_;refine ZW fw [0,1,12] [500] ?_;refine ag rfl ?_;refine ah (ay _ ?_);refine ae fun K2 aa=>?_;have qf:=(Aq fw @ha2);refine al [0,1,14] [500] ?_;refine ag rfl ?_;refine ah (aa _ ?_);refine ae fun K3 aQ=>?_;refine Z8 fw eo [0,1,5] [500] ?_;refine ZW fw [0,1,5,19] [500] ?_;refine aR ?_;refine ZW fw [0,1,5,19,20] [500] ?_;refine ag rfl ?_;refine ZW fw [0,1,5,19,36] [500] ?_;refine ak rfl ?_;refine ZW fw [0,1] [500] ?_;refine Z8 (Aq fw (Aq @abf.eq_1 (Aq @abf.eq_2 (Aq @fN.eq_1 (Aq @fN.eq_2 (Aq @eR.eq_1 (Aq @eR.eq_2 (Aq @pR.eq_1 @pR.eq_2)))))))) hc [0,6] [500] ?_;refine ae fun K4 bN=>?_;have qf:=(Aq fw @g4);refine al [0,6,59] [500] ?_;refine ag rfl ?_;refine ah (bN _ ?_);refine ZW fw [6] [500] ?_;refine ZW fw [4] [500] ?_;exact aK (Aq fw (Aq @bf.eq_1 @dS.eq_1))
    .simp only [Rs.err.injEq] at h;obtain ⟨rfl,rfl,rfl⟩:=h;exact ⟨g1,g2,by omega⟩
   | ok x k=>
    rw [hr] at hc;dsimp only [abf,fN,eR,pR] at hc;have hk:=(oV (j5 t d) (j+1) x k (ax c40) hr).2;have jX:=wS G t k (by omega) hk 0 (-1);have eM:=abX hk;have dH:=wQ G t (aW t k) (by omega) eM 3;rw [rZ hk] at dH;have cq:=zu (t:=t) (i:=k) (c:=41) (by decide);have ij:=ES (t:=t) (c:=41) (i:=k);have PJ:((41:UInt8).toNat:Int)=41:=rfl;rw [PJ] at cq;dsimp only;by_cases hb:((kU t k).toNat:Int)=41
    .rw [decide_eq_true hb] at cq;rw [cq] at ij ⊢;simp only [if_true] at ij ⊢;rw [ij];refine ⟨default,0,?_,fun c p q h=>by cases h⟩;show MC _ _ _ _ _ _ (.d (dR x)) (ZX (bf t ((aW t k+1:Nat):Int) 0 (-1) ++ []));rw [Int.natCast_add];obtain ⟨cx,hx⟩:=adP x;rw [hx] at hc ⊢;refine MC.aD (ZZ _) Tryz.func192 rfl rfl (rs:=[.tmp 4]) Tryz.results192 (by simp [Tryz.ntmps192]) rfl fun X=>?_;simp only [Tryz.ntmps192];have fw:=(Aq @ab.eq_1 (Aq @bf.eq_1 @dS.eq_1));refine ZW fw [0,1] [500] ?_;refine ae fun K1 ay=>?_;refine ZW fw [0,1,12] [500] ?_;refine ag rfl ?_;refine ah (ay _ ?_);refine ae fun K2 aa=>?_;have qf:=(Aq fw @ha2);refine al [0,1,14] [500] ?_;refine ag rfl ?_;refine ah (aa _ ?_);refine ae fun K3 aQ=>?_;refine Z8 fw eo [0,1,5] [500] ?_;refine ZW fw [0,1,5,19] [500] ?_;refine aR ?_;refine ZW fw [0,1,5,19,20] [500] ?_;refine ag rfl ?_;refine ZW fw [0,1,5,19,36] [500] ?_;refine ak rfl ?_;refine ZW fw [0,1] [500] ?_;refine Z8 fw hc [0,6] [500] ?_;refine ae fun K4 bN=>?_;have qf:=(Aq fw @hb);refine abi jX [0,6,59] [500] ?_;refine ag rfl ?_;refine ah (bN _ ?_);refine ZW fw [6] [500] ?_;refine ZW fw [4] [500] ?_;exact aK (Aq fw (Aq @bf.eq_1 @dS.eq_1))
    .rw [decide_eq_false hb] at cq;rw [cq] at ij ⊢;simp only [Bool.false_eq_true,if_false] at ij ⊢;rw [ij];refine ⟨.v (.pointer none),aW t k,?_,fun c p q h=>?_⟩
     .show MC _ _ _ _ _ _ (.d (.v (.pointer none))) (ZX (bf t (aW t k) 3 (aW t k) ++ []));obtain ⟨cx,hx⟩:=adP x;rw [hx] at hc;refine MC.aD (ZZ _) Tryz.func192 rfl rfl (rs:=[.tmp 4]) Tryz.results192 (by simp [Tryz.ntmps192]) rfl fun X=>?_;simp only [Tryz.ntmps192];have fw:=(Aq @ab.eq_1 (Aq @bf.eq_1 @dS.eq_1));refine ZW fw [0,1] [500] ?_;refine ae fun K1 ay=>?_;refine ZW fw [0,1,12] [500] ?_;refine ag rfl ?_;refine ah (ay _ ?_);refine ae fun K2 aa=>?_;have qf:=(Aq fw @ha2);refine al [0,1,14] [500] ?_;refine ag rfl ?_;refine ah (aa _ ?_);refine ae fun K3 aQ=>?_;refine Z8 fw eo [0,1,5] [500] ?_;refine ZW fw [0,1,5,19] [500] ?_;refine aR ?_;refine ZW fw [0,1,5,19,20] [500] ?_;refine ag rfl ?_;refine ZW fw [0,1,5,19,36] [500] ?_;refine ak rfl ?_;refine ZW fw [0,1] [500] ?_;refine Z8 fw hc [0,6] [500] ?_;refine ae fun K4 bN=>?_;have qf:=(Aq fw @hb);refine abi jX [0,6,59] [500] ?_;refine ak rfl ?_;refine Z8 fw dH [4] [500] ?_;exact aK (Aq fw (Aq @bf.eq_1 @dS.eq_1))
     .simp only [Rs.err.injEq] at h;exact ⟨by omega,rfl,by omega⟩
  rw [if_neg c40];have tC:¬ (b.toNat:Int)=40:=pY 40 (by decide) c40;by_cases o8:t[j]? = some 48
  .rw [if_pos o8];obtain rfl:=p0 48 o8;have:=ax o8;refine ⟨default,0,?_,fun c p q h=>by cases h⟩;show MC _ _ _ _ _ _ (.d (.ip [dS [48],dS [],cM])) (ZX (bf t ((j+1:Nat):Int) 0 (-1) ++ []));rw [Int.natCast_add];refine MC.aD (ZZ _) Tryz.func192 rfl rfl (rs:=[.tmp 4]) Tryz.results192 (by simp [Tryz.ntmps192]) rfl fun X=>?_;simp only [Tryz.ntmps192];have fw:=(Aq @ab.eq_1 (Aq @bf.eq_1 @dS.eq_1));refine ZW fw [0,1] [500] ?_;refine ae fun K1 ay=>?_;refine ZW fw [0,1,12] [500] ?_;refine ag rfl ?_;refine ah (ay _ ?_);refine ae fun K2 aa=>?_;have qf:=(Aq fw @ha2);refine al [0,1,14] [500] ?_;refine ag rfl ?_;refine ah (aa _ ?_);refine ae fun K3 aQ=>?_;refine Z8 fw eo [0,1,5] [500] ?_;refine ZW fw [0,1,5,19] [500] ?_;refine aR ?_;refine ZW fw [0,1,5,19,20] [500] ?_;refine ag rfl ?_;refine ZW fw [0,1,5,19,36] [500] ?_;refine ag rfl ?_;refine ae fun K5 hK5=>?_;refine ZW fw [0,5,19,70] [500] ?_;refine ak rfl ?_;refine ah (hK5 _ ?_);refine ak rfl ?_;refine ZW fw [5] [500] ?_;have qf:=(Aq fw (Aq @NH @cM.eq_1));refine al [4] [83,500] ?_;refine ck fw 83 ?_;refine bk ?_;simp [D.le,D.le.go,aB,ab,bf,dS,bf,dS,cM,bo,D.le_refl,D.bn]
  rw [if_neg o8];have tD:¬ (b.toNat:Int)=48:=pY 48 (by decide) o8;by_cases c49:t[j]? = some 49
  .rw [if_pos c49];obtain rfl:=p0 49 c49;have:=ax c49;refine ⟨default,0,?_,fun c p q h=>by cases h⟩;show MC _ _ _ _ _ _ (.d (.ip [dS [49],dS [],cM])) (ZX (bf t ((j+1:Nat):Int) 0 (-1) ++ []));rw [Int.natCast_add];refine MC.aD (ZZ _) Tryz.func192 rfl rfl (rs:=[.tmp 4]) Tryz.results192 (by simp [Tryz.ntmps192]) rfl fun X=>?_;simp only [Tryz.ntmps192];have fw:=(Aq @ab.eq_1 (Aq @bf.eq_1 @dS.eq_1));refine ZW fw [0,1] [500] ?_;refine ae fun K1 ay=>?_;refine ZW fw [0,1,12] [500] ?_;refine ag rfl ?_;refine ah (ay _ ?_);refine ae fun K2 aa=>?_;have qf:=(Aq fw @ha2);refine al [0,1,14] [500] ?_;refine ag rfl ?_;refine ah (aa _ ?_);refine ae fun K3 aQ=>?_;refine Z8 fw eo [0,1,5] [500] ?_;refine ZW fw [0,1,5,19] [500] ?_;refine aR ?_;refine ZW fw [0,1,5,19,20] [500] ?_;refine ag rfl ?_;refine ZW fw [0,1,5,19,36] [500] ?_;refine ag rfl ?_;refine ae fun K5 hK5=>?_;refine ZW fw [0,5,19,70] [500] ?_;refine ag rfl ?_;refine reK fw hK5 [0,5,19,70] [500] ?_;refine ak rfl ?_;refine ZW fw [5] [500] ?_;have qf:=(Aq fw (Aq @afw @cM.eq_1));refine al [4] [83,500] ?_;refine ck fw 83 ?_;refine bk ?_;simp [D.le,D.le.go,aB,ab,bf,dS,bf,dS,cM,bo,D.le_refl,D.bn]
  rw [if_neg c49];have n49:¬ (b.toNat:Int)=49:=pY 49 (by decide) c49;by_cases c94:t[j]? = some 94
  .rw [if_pos c94];obtain rfl:=p0 94 c94;have hj:=ax c94;have hw:=Ej G t 1 (j+1) (by omega) hj;rw [Int.natCast_add] at hw;have hwo:∀ s k,aaO t 1 (j+1) = .ok s k->fB t (aW t (j+1))=s:=fun s k h=>E3 h;have pM:∀ c p q',aaO t 1 (j+1) = .err c p q'->0 < c/\p<=t.length:=fun c p q' h=>E4 hj h;generalize hW:aaO t 1 (j+1)=W at hw hwo pM ⊢;generalize fB t (aW t (j+1))=sw at hw hwo;refine ⟨.ip [dS [94],dS sw,cM],bY W,?_,fun c p q h=>?_⟩
   .have h1:abf (W.map .fQ) (.ip [dS [94],dS sw,cM]) = .ip [dS [94],dS sw,cM]:=by
     cases W with
     | ok s k=>obtain rfl:=hwo _ _ rfl;rfl
     | err c p q=>rfl
    have h2:fN (W.map Ex.fQ) (bY W)=bY W:=by cases W<;>rfl
    have h3:eR (W.map Ex.fQ)=eR W:=by cases W<;>rfl
    have h4:pR (W.map Ex.fQ)=pR W:=by cases W<;>rfl
    rw [h1,h2,h3,h4];refine MC.aD (ZZ _) Tryz.func192 rfl rfl (rs:=[.tmp 4]) Tryz.results192 (by simp [Tryz.ntmps192]) rfl fun X=>?_;simp only [Tryz.ntmps192];have fw:=(Aq @ab.eq_1 (Aq @bf.eq_1 @dS.eq_1));refine ZW fw [0,1] [500] ?_;refine ae fun K1 ay=>?_;refine ZW fw [0,1,12] [500] ?_;refine ag rfl ?_;refine ah (ay _ ?_);refine ae fun K2 aa=>?_;have qf:=(Aq fw @ha2);refine al [0,1,14] [500] ?_;refine ag rfl ?_;refine ah (aa _ ?_);refine ae fun K3 aQ=>?_;refine Z8 fw eo [0,1,5] [500] ?_;refine ZW fw [0,1,5,19] [500] ?_;refine aR ?_;refine ZW fw [0,1,5,19,20] [500] ?_;refine ag rfl ?_;refine ZW fw [0,1,5,19,36] [500] ?_;refine ag rfl ?_;refine ae fun K5 hK5=>?_;refine ZW fw [0,5,19,70] [500] ?_;refine ag rfl ?_;refine reK fw hK5 [0,5,19,70] [500] ?_;refine ag rfl ?_;refine ae fun K6 de=>?_;refine ZW fw [0,5,19,84] [500] ?_;refine ak rfl ?_;refine ah (de _ ?_);refine ak rfl ?_;refine ZW fw [0,5] [500] ?_;have qf:=(Aq fw (Aq @NJ @cM.eq_1));refine abi hw [4] [99,500] ?_;refine ck fw 99 ?_;refine bk ?_;simp [D.le,D.le.go,aB,ab,bf,dS,bf,dS,cM,bo,D.le_refl,D.bn]
   .cases W with
    | ok s k=>cases h
    | err c' p' q'=>
     simp only [Rs.map,Rs.err.injEq] at h;obtain ⟨rfl,rfl,rfl⟩:=h;obtain ⟨g1,g2⟩:=pM _ _ _ rfl;exact ⟨g1,rfl,by simp only [bY];omega⟩
  rw [if_neg c94];have tF:¬ (b.toNat:Int)=94:=pY 94 (by decide) c94;by_cases nZ:t[j]? = some 126
  .rw [if_pos nZ];obtain rfl:=p0 126 nZ;have hj:=ax nZ;have hw:=Ej G t 2 (j+1) (by omega) hj;rw [Int.natCast_add] at hw;have hwo:∀ s k,aaO t 2 (j+1) = .ok s k->fB t (aW t (j+1))=s:=fun s k h=>E3 h;have pM:∀ c p q',aaO t 2 (j+1) = .err c p q'->0 < c/\p<=t.length:=fun c p q' h=>E4 hj h;generalize hW:aaO t 2 (j+1)=W at hw hwo pM ⊢;generalize fB t (aW t (j+1))=sw at hw hwo;refine ⟨.ip [dS [126],dS sw,cM],bY W,?_,fun c p q h=>?_⟩
   .have h1:abf (W.map .fC) (.ip [dS [126],dS sw,cM]) = .ip [dS [126],dS sw,cM]:=by
     cases W with
     | ok s k=>obtain rfl:=hwo _ _ rfl;rfl
     | err c p q=>rfl
    have h2:fN (W.map Ex.fC) (bY W)=bY W:=by cases W<;>rfl
    have h3:eR (W.map Ex.fC)=eR W:=by cases W<;>rfl
    have h4:pR (W.map Ex.fC)=pR W:=by cases W<;>rfl
    rw [h1,h2,h3,h4];refine MC.aD (ZZ _) Tryz.func192 rfl rfl (rs:=[.tmp 4]) Tryz.results192 (by simp [Tryz.ntmps192]) rfl fun X=>?_;simp only [Tryz.ntmps192];have fw:=(Aq @ab.eq_1 (Aq @bf.eq_1 @dS.eq_1));refine ZW fw [0,1] [500] ?_;refine ae fun K1 ay=>?_;refine ZW fw [0,1,12] [500] ?_;refine ag rfl ?_;refine ah (ay _ ?_);refine ae fun K2 aa=>?_;have qf:=(Aq fw @ha2);refine al [0,1,14] [500] ?_;refine ag rfl ?_;refine ah (aa _ ?_);refine ae fun K3 aQ=>?_;refine Z8 fw eo [0,1,5] [500] ?_;refine ZW fw [0,1,5,19] [500] ?_;refine aR ?_;refine ZW fw [0,1,5,19,20] [500] ?_;refine ag rfl ?_;refine ZW fw [0,1,5,19,36] [500] ?_;refine ag rfl ?_;refine ae fun K5 hK5=>?_;refine ZW fw [0,5,19,70] [500] ?_;refine ag rfl ?_;refine reK fw hK5 [0,5,19,70] [500] ?_;refine ag rfl ?_;refine ae fun K6 de=>?_;refine ZW fw [0,5,19,84] [500] ?_;refine ag rfl ?_;refine reK fw de [0,5,84] [500] ?_;refine ak rfl ?_;refine ZW fw [0,5] [500] ?_;have qf:=(Aq fw (Aq @NF @cM.eq_1));refine abi hw [4] [99,500] ?_;refine ck fw 99 ?_;refine bk ?_;simp [D.le,D.le.go,aB,ab,bf,dS,bf,dS,cM,bo,D.le_refl,D.bn]
   .cases W with
    | ok s k=>cases h
    | err c' p' q'=>
     simp only [Rs.map,Rs.err.injEq] at h;obtain ⟨rfl,rfl,rfl⟩:=h;obtain ⟨g1,g2⟩:=pM _ _ _ rfl;exact ⟨g1,rfl,by simp only [bY];omega⟩
  rw [if_neg nZ];have n126:¬ (b.toNat:Int)=126:=pY 126 (by decide) nZ;have hw:=Ej G t 3 j (by omega) aa9;have hwo:∀ s k,aaO t 3 j = .ok s k->fB t (aW t j)=s:=fun s k h=>E3 h;have pM:∀ c p q',aaO t 3 j = .err c p q'->0 < c/\p<=t.length:=fun c p q' h=>E4 aa9 h;generalize hW:aaO t 3 j=W at hw hwo pM ⊢;generalize fB t (aW t j)=sw at hw hwo;refine ⟨.ip [dS [98,105,116],dS sw,cM],bY W,?_,fun c p q h=>?_⟩
  .have h1:abf (W.map .bit) (.ip [dS [98,105,116],dS sw,cM]) = .ip [dS [98,105,116],dS sw,cM]:=by
    cases W with
    | ok s k=>obtain rfl:=hwo _ _ rfl;rfl
    | err c p q=>rfl
   have h2:fN (W.map Ex.bit) (bY W)=bY W:=by cases W<;>rfl
   have h3:eR (W.map Ex.bit)=eR W:=by cases W<;>rfl
   have h4:pR (W.map Ex.bit)=pR W:=by cases W<;>rfl
   rw [h1,h2,h3,h4];refine MC.aD (ZZ _) Tryz.func192 rfl rfl (rs:=[.tmp 4]) Tryz.results192 (by simp [Tryz.ntmps192]) rfl fun X=>?_;simp only [Tryz.ntmps192];have fw:=(Aq @ab.eq_1 (Aq @bf.eq_1 @dS.eq_1));refine ZW fw [0,1] [500] ?_;refine ae fun K1 ay=>?_;refine ZW fw [0,1,12] [500] ?_;refine ag rfl ?_;refine ah (ay _ ?_);refine ae fun K2 aa=>?_;have qf:=(Aq fw @ha2);refine al [0,1,14] [500] ?_;refine ag rfl ?_;refine ah (aa _ ?_);refine ae fun K3 aQ=>?_;refine Z8 fw eo [0,1,5] [500] ?_;refine ZW fw [0,1,5,19] [500] ?_;refine aR ?_;have qf:=(Aq fw (Aq @n33 (Aq @tC (Aq @tD (Aq @n49 (Aq @tF @n126))))));refine al [0,1,5,19,20] [500] ?_;refine ag rfl ?_;have qf:=(Aq fw (Aq @n33 (Aq @tC (Aq @tD (Aq @n49 (Aq @tF @n126))))));refine al [0,1,5,19,36] [500] ?_;refine ag rfl ?_;refine ae fun K5 hK5=>?_;have qf:=(Aq fw (Aq @n33 (Aq @tC (Aq @tD (Aq @n49 (Aq @tF @n126))))));refine al [0,5,19,70] [500] ?_;refine ag rfl ?_;have qf:=(Aq fw (Aq @n33 (Aq @tC (Aq @tD (Aq @n49 (Aq @tF @n126))))));refine dv hK5 [0,5,19,70] [500] ?_;refine ag rfl ?_;refine ae fun K6 de=>?_;have qf:=(Aq fw (Aq @n33 (Aq @tC (Aq @tD (Aq @n49 (Aq @tF @n126))))));refine al [0,5,19,84] [500] ?_;refine ag rfl ?_;have qf:=(Aq fw (Aq @n33 (Aq @tC (Aq @tD (Aq @n49 (Aq @tF @n126))))));refine dv de [0,5,84] [500] ?_;refine ag rfl ?_;refine ah (aQ _ ?_);have qf:=(Aq fw (Aq @cM.eq_1 @Sg));refine abi hw [4] [103,500] ?_;refine ck fw 103 ?_;refine bk ?_;simp [D.le,D.le.go,aB,ab,bf,dS,bf,dS,cM,bo,D.le_refl,D.bn]
  .cases W with
   | ok s k=>cases h
   | err c' p' q'=>
    simp only [Rs.map,Rs.err.injEq] at h;obtain ⟨rfl,rfl,rfl⟩:=h;obtain ⟨g1,g2⟩:=pM _ _ _ rfl;exact ⟨g1,rfl,by simp only [bY];omega⟩
def cm (all:Bool):Ex->List UInt8
 | .bit s=>if all then s else []
 | .fQ s=>s
 | .fC s=>s
 | _=>[]
def eE (s:List UInt8):List (List UInt8):=if s=[] then [] else [s]
mutual
def cf (all:Bool):Ex->List (List UInt8)
 | .not e=>cf all e
 | .and l=>aaQ all l
 | .or l=>aaQ all l
 | e=>eE (cm all e)
def aaQ (all:Bool):List Ex->List (List UInt8)
 | []=>[]
 | e :: l=>cf all e ++ aaQ all l
end
theorem I8 (all:Bool):∀ a b:List Ex,aaQ all (a ++ b)=aaQ all a ++ aaQ all b
 | [],b=>rfl
 | e :: a,b=>by simp [aaQ,I8 all a b]
theorem DV (all:Bool) {l:List Ex} {i:Nat} (hi:i < l.length):aaQ all (l.take (i+1))=aaQ all (l.take i) ++ cf all l[i]:=by
 rw [List.take_succ_eq_append_getElem hi,I8];simp [aaQ]
theorem DW (all:Bool):∀ (n:Nat) (e:Ex),SizeOf.sizeOf e<=n->(cf all e).length<=bE e
 | 0,e,hn=>by cases e<;>simp at hn
 | n+1,e,hn=>by
  have many:∀ l:List Ex,(∀ x∈l,SizeOf.sizeOf x<=n)->(aaQ all l).length<=eH l:=by
   intro l
   induction l with
   | nil=>intro _;simp [aaQ]
   | cons x l ih=>
    intro h;have a:=ih fun y hy=>h y (by simp [hy]);have b:=DW all n x (h x (by simp));simp only [aaQ,eH,List.length_append];omega
  have abx:∀ s,(eE s).length<=1:=fun s=>by unfold eE;split<;>simp
  have hp:=xw e
  cases e with
  | not x=>have:=DW all n x (by simp at hn;omega);simp only [cf,bE];omega
  | and l=>
   have:=many l fun x hx=>by have:=List.sizeOf_lt_of_mem hx;simp only [Ex.and.sizeOf_spec] at hn;omega
   simp only [cf,bE];omega
  | or l=>
   have:=many l fun x hx=>by have:=List.sizeOf_lt_of_mem hx;simp only [Ex.or.sizeOf_spec] at hn;omega
   simp only [cf,bE];omega
  | eV b=>have:=abx (cm all (.eV b));simp only [cf];omega
  | bit s=>have:=abx (cm all (.bit s));simp only [cf];omega
  | fQ s=>have:=abx (cm all (.fQ s));simp only [cf];omega
  | fC s=>have:=abx (cm all (.fC s));simp only [cf];omega
theorem rN (all:Bool) (e:Ex):(cf all e).length<=bE e:=DW all _ e (Nat.le_refl _)
theorem wG (all:Bool):∀ l:List Ex,(aaQ all l).length<=eH l
 | []=>by simp [aaQ]
 | e :: l=>by have:=rN all e;have:=wG all l;simp only [aaQ,eH,List.length_append];omega
def cT (l:List (List UInt8)):List (Nat×Row):=[(502,.box 174 [.own 503 0 l.length]),(503,.sl 9 1 (l.map fun s=>[dS s]))]
def lP (all:Bool):FuncId:=if all then 157 else 182
set_option maxHeartbeats 8000000 in
theorem Ux (G:ao) (e:Ex):aw Tryz.prog G 157 [dE e] (dS (cm true e)):=by
 by_cases h1:∃ s,e = .bit s
 .obtain ⟨s,rfl⟩:=h1;rw [dE];refine aw.aD (ZZ _) Tryz.func157 rfl rfl (rs:=[.tmp 2]) Tryz.results157 (by simp [Tryz.ntmps157]) fun X=>?_;simp only [Tryz.ntmps157,List.map];have fw:=(Aq @ab.eq_1 (Aq @dS.eq_1 (Aq @bl.eq_1 (Aq @bl.eq_2 @aai.eq_1))));refine ZW fw [0] [] ?_;refine ae fun K1 ay=>?_;refine ZW fw [6] [] ?_;refine aR ?_;refine ZW fw [6,8,9] [] ?_;refine ak rfl ?_;refine ZW fw [3] [] ?_;refine ZW fw [2] [] ?_;exact aK (Aq fw (Aq @cm.eq_1 (Aq @cm.eq_2 (Aq @cm.eq_3 (Aq @cm.eq_4 @dS.eq_1)))))
 by_cases h2:∃ s,e = .fQ s
 .obtain ⟨s,rfl⟩:=h2;rw [dE];refine aw.aD (ZZ _) Tryz.func157 rfl rfl (rs:=[.tmp 2]) Tryz.results157 (by simp [Tryz.ntmps157]) fun X=>?_;simp only [Tryz.ntmps157,List.map];have fw:=(Aq @ab.eq_1 (Aq @dS.eq_1 (Aq @bl.eq_1 (Aq @bl.eq_2 @aai.eq_1))));refine ZW fw [0] [] ?_;refine ae fun K1 ay=>?_;refine ZW fw [6] [] ?_;refine aR ?_;refine ZW fw [6,8,9] [] ?_;refine ag rfl ?_;refine ZW fw [6,12,13] [] ?_;refine ak rfl ?_;refine ZW fw [4] [] ?_;refine ZW fw [2] [] ?_;exact aK (Aq fw (Aq @cm.eq_1 (Aq @cm.eq_2 (Aq @cm.eq_3 (Aq @cm.eq_4 @dS.eq_1)))))
 by_cases h3:∃ s,e = .fC s
 .obtain ⟨s,rfl⟩:=h3;rw [dE];refine aw.aD (ZZ _) Tryz.func157 rfl rfl (rs:=[.tmp 2]) Tryz.results157 (by simp [Tryz.ntmps157]) fun X=>?_;simp only [Tryz.ntmps157,List.map];have fw:=(Aq @ab.eq_1 (Aq @dS.eq_1 (Aq @bl.eq_1 (Aq @bl.eq_2 @aai.eq_1))));refine ZW fw [0] [] ?_;refine ae fun K1 ay=>?_;refine ZW fw [6] [] ?_;refine aR ?_;refine ZW fw [6,8,9] [] ?_;refine ag rfl ?_;refine ZW fw [6,12,13] [] ?_;refine ag rfl ?_;refine ZW fw [16,17] [] ?_;refine ak rfl ?_;refine ZW fw [5] [] ?_;refine ZW fw [2] [] ?_;exact aK (Aq fw (Aq @cm.eq_1 (Aq @cm.eq_2 (Aq @cm.eq_3 (Aq @cm.eq_4 @dS.eq_1)))))
 have hk:∃ t c,dE e = .br t c/\¬ t=189/\¬ t=190/\¬ t=191/\cm true e=[]:=by
  cases e with
  | bit s=>exact absurd ⟨s,rfl⟩ h1
  | fQ s=>exact absurd ⟨s,rfl⟩ h2
  | fC s=>exact absurd ⟨s,rfl⟩ h3
  | eV b=>exact ⟨_,_,by rw [dE],by decide,by decide,by decide,rfl⟩
  | not b=>exact ⟨_,_,by rw [dE],by decide,by decide,by decide,rfl⟩
  | and b=>exact ⟨_,_,by rw [dE],by decide,by decide,by decide,rfl⟩
  | or b=>exact ⟨_,_,by rw [dE],by decide,by decide,by decide,rfl⟩
 obtain ⟨t,c,hy,a1,a2,a3,a4⟩:=hk;rw [a4,hy];refine aw.aD (ZZ _) Tryz.func157 rfl rfl (rs:=[.tmp 2]) Tryz.results157 (by simp [Tryz.ntmps157]) fun X=>?_;simp only [Tryz.ntmps157,List.map];have fw:=(Aq @ab.eq_1 (Aq @dS.eq_1 (Aq @bl.eq_1 (Aq @bl.eq_2 @aai.eq_1))));refine ZW fw [0] [] ?_;refine ae fun K1 ay=>?_;refine ZW fw [6] [] ?_;refine aR ?_;have qf:=(Aq fw @a1);refine al [6,8,9] [] ?_;refine ag rfl ?_;have qf:=(Aq fw @a2);refine al [6,12,13] [] ?_;refine ag rfl ?_;have qf:=(Aq fw @a3);refine al [16,17] [] ?_;refine ag rfl ?_;refine ah (ay _ ?_);refine ZW fw [2] [] ?_;refine bk ?_;simp [D.le,D.le.go,aB,ab,dS,bl,aai,dS,bo,D.le_refl]
set_option maxHeartbeats 8000000 in
theorem Nz (G:ao) (e:Ex):aw Tryz.prog G 182 [dE e] (dS (cm false e)):=by
 by_cases h2:∃ s,e = .fQ s
 .obtain ⟨s,rfl⟩:=h2;rw [dE];refine aw.aD (ZZ _) Tryz.func182 rfl rfl (rs:=[.tmp 2]) Tryz.results182 (by simp [Tryz.ntmps182]) fun X=>?_;simp only [Tryz.ntmps182,List.map];have fw:=(Aq @ab.eq_1 (Aq @dS.eq_1 (Aq @bl.eq_1 (Aq @bl.eq_2 @aai.eq_1))));refine ZW fw [0] [] ?_;refine ae fun K1 ay=>?_;refine ZW fw [5] [] ?_;refine aR ?_;refine ZW fw [5,7,8] [] ?_;refine ak rfl ?_;refine ZW fw [3] [] ?_;refine ZW fw [2] [] ?_;exact aK (Aq fw (Aq @cm.eq_1 (Aq @cm.eq_2 (Aq @cm.eq_3 (Aq @cm.eq_4 @dS.eq_1)))))
 by_cases h3:∃ s,e = .fC s
 .obtain ⟨s,rfl⟩:=h3;rw [dE];refine aw.aD (ZZ _) Tryz.func182 rfl rfl (rs:=[.tmp 2]) Tryz.results182 (by simp [Tryz.ntmps182]) fun X=>?_;simp only [Tryz.ntmps182,List.map];have fw:=(Aq @ab.eq_1 (Aq @dS.eq_1 (Aq @bl.eq_1 (Aq @bl.eq_2 @aai.eq_1))));refine ZW fw [0] [] ?_;refine ae fun K1 ay=>?_;refine ZW fw [5] [] ?_;refine aR ?_;refine ZW fw [5,7,8] [] ?_;refine ag rfl ?_;refine ZW fw [11,12] [] ?_;refine ak rfl ?_;refine ZW fw [4] [] ?_;refine ZW fw [2] [] ?_;exact aK (Aq fw (Aq @cm.eq_1 (Aq @cm.eq_2 (Aq @cm.eq_3 (Aq @cm.eq_4 @dS.eq_1)))))
 have hk:∃ t c,dE e = .br t c/\¬ t=190/\¬ t=191/\cm false e=[]:=by
  cases e with
  | fQ s=>exact absurd ⟨s,rfl⟩ h2
  | fC s=>exact absurd ⟨s,rfl⟩ h3
  | eV b=>exact ⟨_,_,by rw [dE],by decide,by decide,rfl⟩
  | bit b=>exact ⟨_,_,by rw [dE],by decide,by decide,rfl⟩
  | not b=>exact ⟨_,_,by rw [dE],by decide,by decide,rfl⟩
  | and b=>exact ⟨_,_,by rw [dE],by decide,by decide,rfl⟩
  | or b=>exact ⟨_,_,by rw [dE],by decide,by decide,rfl⟩
 obtain ⟨t,c,hy,a2,a3,a4⟩:=hk;rw [a4,hy];refine aw.aD (ZZ _) Tryz.func182 rfl rfl (rs:=[.tmp 2]) Tryz.results182 (by simp [Tryz.ntmps182]) fun X=>?_;simp only [Tryz.ntmps182,List.map];have fw:=(Aq @ab.eq_1 (Aq @dS.eq_1 (Aq @bl.eq_1 (Aq @bl.eq_2 @aai.eq_1))));refine ZW fw [0] [] ?_;refine ae fun K1 ay=>?_;refine ZW fw [5] [] ?_;refine aR ?_;have qf:=(Aq fw @a2);refine al [5,7,8] [] ?_;refine ag rfl ?_;have qf:=(Aq fw @a3);refine al [11,12] [] ?_;refine ag rfl ?_;refine ah (ay _ ?_);refine ZW fw [2] [] ?_;refine bk ?_;simp [D.le,D.le.go,aB,ab,dS,bl,aai,dS,bo,D.le_refl]
theorem Us (G:ao) (all:Bool) (e:Ex):aw Tryz.prog G (lP all) [dE e] (dS (cm all e)):=by
 cases all with
 | true=>exact Ux G e
 | false=>exact Nz G e
set_option maxHeartbeats 8000000 in
theorem aex (G:ao) (all:Bool) (l:List (List UInt8)) (e:Ex) (hl:l.length < 2^40):MC Tryz.prog G [502] 200 ([.d (dE e)] ++ [.d (.ip [.fn (.func (lP all)) []]),.ref 502 0 0]) (ZX (cT l)) (.d (.Z4 [])) (ZX (cT (l ++ eE (cm all e)))):=by
 have hn:=Us G all e;obtain ⟨t,c,hx⟩:=abq e;rw [hx] at hn ⊢;generalize lP all=g at hn ⊢;generalize cm all e=s at hn ⊢;by_cases hs:s=[]
 .subst hs
  have he:l ++ eE []=l:=by simp [eE]
  rw [he];refine MC.aD (ZZ _) Tryz.func200 rfl rfl (rs:=[]) Tryz.results200 (by simp [Tryz.ntmps200]) rfl fun X=>?_;simp only [Tryz.ntmps200];have fw:=(Aq @ab.eq_1 (Aq @dS.eq_1 @cT.eq_1));refine Z6 fw hn [2,4] [502,503] ?_;refine rg [2,4,9] [502,503] (cC rfl) fun K' af=>?_;(repeat (refine Z0 fun K2 aa=>?_;simp [ab,dS,cT,aN,aT,bo];(repeat (refine ⟨by omega,?_⟩));refine aa _ ?_;clear aa K2));refine Z9 (af _ (AW.st (by simp [ab,dS,cT,aN,aT,bo];rfl) ?_));clear af K';refine ag rfl ?_;refine ah ?_;simp [D.le_refl,cT,dS]
 .have he:eE s=[s]:=by unfold eE;rw [if_neg hs]
  have pJ:s.isEmpty=false:=by rw [List.isEmpty_eq_false_iff];exact hs
  have HH:(s == [])=false:=by simpa using hs
  rw [he];refine MC.aD (ZZ _) Tryz.func200 rfl rfl (rs:=[]) Tryz.results200 (by simp [Tryz.ntmps200]) rfl fun X=>?_;simp only [Tryz.ntmps200];have fw:=(Aq @ab.eq_1 (Aq @dS.eq_1 @cT.eq_1));refine Z6 fw hn [2,4] [502,503] ?_;refine rg [2,4,9] [502,503] (cC rfl) fun K' af=>?_;(repeat (refine Z0 fun K2 aa=>?_;simp [ab,dS,cT,aN,aT,bo,hs,pJ,HH];(repeat (refine ⟨by omega,?_⟩));refine aa _ ?_;clear aa K2));refine Z9 (af _ (AW.st (by simp [ab,dS,cT,aN,aT,bo,hs,pJ,HH];rfl) ?_));clear af K';refine ak rfl ?_;refine aaG (ZZ _) fun K' af=>?_;(repeat (refine Z0 fun K2 aa=>?_;simp [ab,dS,cT,List.take_of_length_le];(repeat (refine ⟨by omega,?_⟩));refine aa _ ?_;clear aa K2));refine Z9 (af _ ?_);clear af K';(try simp only [aM,aP]);simp [D.le_refl,cT,dS]
set_option maxHeartbeats 16000000 in
theorem XR (G:ao) (all:Bool):∀ (m:Nat) (e:Ex),SizeOf.sizeOf e<=m->∀ l0:List (List UInt8),l0.length+bE e<=2^39->MC Tryz.prog G [502] 199 [.d (dE e),.fn (.func 200) [.d (.ip [.fn (.func (lP all)) []]),.ref 502 0 0]] (ZX (cT l0)) (.d (.Z4 [])) (ZX (cT (l0 ++ cf all e))):=by
 intro m
 induction m with
 | zero=>intro e aI;cases e<;>simp at aI
 | succ m ih=>
  intro e aI l0 hb;have Yt:=xw e;by_cases hN:∃ x,e = .not x
  .obtain ⟨x,rfl⟩:=hN;simp only [bE] at hb;obtain ⟨tx,cx,hx⟩:=abq x;have cW:=aex G all l0 (.not x) (by omega);have vL:eE (cm all (.not x))=[]:=rfl;rw [vL,List.append_nil,List.singleton_append] at cW;have hc:=ih x (by simp at aI;omega) l0 (by omega);rw [cf];rw [dE,hx];rw [dE,hx] at cW;rw [hx] at hc;generalize l0 ++ cf all x=l1 at hc ⊢;generalize lP all=g at hc cW ⊢;refine MC.aD (ZZ _) Tryz.func199 rfl rfl (rs:=[]) Tryz.results199 (by simp [Tryz.ntmps199]) rfl fun X=>?_;simp only [Tryz.ntmps199];have fw:=(Aq @ab.eq_1 (Aq @dS.eq_1 (Aq @cT.eq_1 (Aq @bl.eq_1 (Aq @bl.eq_2 @aai.eq_1)))));refine Z8 fw cW [0,1] [502,503] ?_;refine ZW fw [1,14] [502,503] ?_;refine aR ?_;refine ZW fw [1,14,16,17] [502,503] ?_;refine ak rfl ?_;refine ZW fw [1,4] [4,502,503] ?_;refine aaG (ZZ _) fun K' af=>?_;(repeat (refine Z0 fun K2 aa=>?_;simp [ab,dS,cT,bl,aai];(repeat (refine ⟨by omega,?_⟩));refine aa _ ?_;clear aa K2));refine Z0 fun K2 aa=>?_;simp [ab,dS,cT,bl,aai];refine aap.mc (hc) ?_ ?_ ?_ ?_ ?_<;>simp [ab,dS,cT,bl,aai];refine aa _ ?_;clear aa K2;(repeat (refine Z0 fun K2 aa=>?_;simp [ab,dS,cT,bl,aai];(repeat (refine ⟨by omega,?_⟩));refine aa _ ?_;clear aa K2));refine Z9 (af _ ?_);clear af K';(try simp only [aM,aP]);simp [D.le_refl,cT,dS]
  by_cases hand:∃ l,e = .and l
  .obtain ⟨l,rfl⟩:=hand;simp only [bE] at hb;have cW:=aex G all l0 (.and l) (by omega);have vL:eE (cm all (.and l))=[]:=rfl;rw [vL,List.append_nil,List.singleton_append] at cW;have jt:=fun (x:Ex) (hx:x∈l)=>ih x (by have:=List.sizeOf_lt_of_mem hx;simp only [Ex.and.sizeOf_spec] at aI;omega);have kM:=o7 l;rw [cf];rw [dE,n5];rw [dE,n5] at cW;clear ih;generalize hg:lP all=g at jt cW ⊢;refine MC.aD (ZZ _) Tryz.func199 rfl rfl (rs:=[]) Tryz.results199 (by simp [Tryz.ntmps199]) rfl fun X=>?_;simp only [Tryz.ntmps199];have fw:=(Aq @ab.eq_1 (Aq @dS.eq_1 (Aq @cT.eq_1 (Aq @bl.eq_1 (Aq @bl.eq_2 @aai.eq_1)))));refine Z8 fw cW [0,1] [502,503] ?_;refine ZW fw [1,14] [502,503] ?_;refine aR ?_;refine ZW fw [1,14,16,17] [502,503] ?_;refine ag rfl ?_;refine ZW fw [1,14,23,24] [502,503] ?_;refine ak rfl ?_;refine ZW fw [1,5] [502,503] ?_;refine ZW fw [1,25,26,27] [502,503] ?_;refine aam (S:=Nat) (fun i=>i<=l.length) (fun i=>⟨aX [(1,.fn (.func 200) [.d (.ip [.fn (.func g) []]),.ref 502 0 0]),(25,.d (.sl none (l.map fun e=>[dE e]))),(26,int l.length),(27,int i)],ZX (cT (l0 ++ aaQ all (l.take i)))⟩) (fun i=>l.length - i) 0 ?_ (by omega) ?_
   .refine aU (Aq fw (Aq @aaQ.eq_1 @aaQ.eq_2))
   .intro i hi;refine ZW fw [1,25,26,27,28] [502,503] ?_;refine ae fun K1 ay=>?_;refine dG (b:=i < l.length) (by simp [D.le,D.le.go,aB,ab,dS,cT,bl,aai]) (fun hc=>?_) (fun hc=>?_)
    .have cQ:i < l.length:=hc;have h1:=DV all cQ;have h2:=wG all (l.take i);have h3:=AU cQ;have hcc:=jt _ (List.getElem_mem cQ) (l0 ++ aaQ all (l.take i)) (by rw [List.length_append];omega);rw [List.append_assoc,<- h1] at hcc;obtain ⟨tx,cx,hx⟩:=abq l[i];rw [hx] at hcc;refine ah (ay _ ?_);refine ae fun K2 aa=>?_;refine aR ?_;have qf:=(Aq fw (Aq @cQ @hx));refine al [1,7,25,26,27] [502,503] ?_;refine aaG (ZZ _) fun K' af=>?_;(repeat (refine Z0 fun K2 aa=>?_;simp [ab,dS,cT,bl,aai];(repeat (refine ⟨by omega,?_⟩));refine aa _ ?_;clear aa K2));refine Z0 fun K2 aa=>?_;simp [ab,dS,cT,bl,aai];refine aap.mc (hcc) ?_ ?_ ?_ ?_ ?_<;>simp [ab,dS,cT,bl,aai];refine aa _ ?_;clear aa K2;(repeat (refine Z0 fun K2 aa=>?_;simp [ab,dS,cT,bl,aai];(repeat (refine ⟨by omega,?_⟩));refine aa _ ?_;clear aa K2));refine Z9 (af _ ?_);clear af K';refine aa _ (AW.norm [1,25,26,27] [502,503] (cC rfl) (AW.st (by simp [ab,dS,cT,bl,aai];rfl) ?_));refine reQ fw ?_;(try simp only [aM,aP]);refine aV.mk (i+1) (by omega) (by omega) ?_;refine aU fw
    .obtain rfl:i=l.length:=by omega
     refine bH ?_;simp [D.le_refl,List.take_length,cT,dS]
  by_cases hor:∃ l,e = .or l
  .obtain ⟨l,rfl⟩:=hor;simp only [bE] at hb;have cW:=aex G all l0 (.or l) (by omega);have vL:eE (cm all (.or l))=[]:=rfl;rw [vL,List.append_nil,List.singleton_append] at cW;have jt:=fun (x:Ex) (hx:x∈l)=>ih x (by have:=List.sizeOf_lt_of_mem hx;simp only [Ex.or.sizeOf_spec] at aI;omega);have kM:=o7 l;rw [cf];rw [dE,n5];rw [dE,n5] at cW;clear ih;generalize hg:lP all=g at jt cW ⊢;refine MC.aD (ZZ _) Tryz.func199 rfl rfl (rs:=[]) Tryz.results199 (by simp [Tryz.ntmps199]) rfl fun X=>?_;simp only [Tryz.ntmps199];have fw:=(Aq @ab.eq_1 (Aq @dS.eq_1 (Aq @cT.eq_1 (Aq @bl.eq_1 (Aq @bl.eq_2 @aai.eq_1)))));refine Z8 fw cW [0,1] [502,503] ?_;refine ZW fw [1,14] [502,503] ?_;refine aR ?_;refine ZW fw [1,14,16,17] [502,503] ?_;refine ag rfl ?_;refine ZW fw [1,14,23,24] [502,503] ?_;refine ag rfl ?_;refine ZW fw [1,36,37] [502,503] ?_;refine ak rfl ?_;refine ZW fw [1,8] [502,503] ?_;refine ZW fw [1,38,39,40] [502,503] ?_;refine aam (S:=Nat) (fun i=>i<=l.length) (fun i=>⟨aX [(1,.fn (.func 200) [.d (.ip [.fn (.func g) []]),.ref 502 0 0]),(38,.d (.sl none (l.map fun e=>[dE e]))),(39,int l.length),(40,int i)],ZX (cT (l0 ++ aaQ all (l.take i)))⟩) (fun i=>l.length - i) 0 ?_ (by omega) ?_
   .refine aU (Aq fw (Aq @aaQ.eq_1 @aaQ.eq_2))
   .intro i hi;refine ZW fw [1,38,39,40,41] [502,503] ?_;refine ae fun K1 ay=>?_;refine dG (b:=i < l.length) (by simp [D.le,D.le.go,aB,ab,dS,cT,bl,aai]) (fun hc=>?_) (fun hc=>?_)
    .have cQ:i < l.length:=hc;have h1:=DV all cQ;have h2:=wG all (l.take i);have h3:=AU cQ;have hcc:=jt _ (List.getElem_mem cQ) (l0 ++ aaQ all (l.take i)) (by rw [List.length_append];omega);rw [List.append_assoc,<- h1] at hcc;obtain ⟨tx,cx,hx⟩:=abq l[i];rw [hx] at hcc;refine ah (ay _ ?_);refine ae fun K2 aa=>?_;refine aR ?_;have qf:=(Aq fw (Aq @cQ @hx));refine al [1,10,38,39,40] [502,503] ?_;refine aaG (ZZ _) fun K' af=>?_;(repeat (refine Z0 fun K2 aa=>?_;simp [ab,dS,cT,bl,aai];(repeat (refine ⟨by omega,?_⟩));refine aa _ ?_;clear aa K2));refine Z0 fun K2 aa=>?_;simp [ab,dS,cT,bl,aai];refine aap.mc (hcc) ?_ ?_ ?_ ?_ ?_<;>simp [ab,dS,cT,bl,aai];refine aa _ ?_;clear aa K2;(repeat (refine Z0 fun K2 aa=>?_;simp [ab,dS,cT,bl,aai];(repeat (refine ⟨by omega,?_⟩));refine aa _ ?_;clear aa K2));refine Z9 (af _ ?_);clear af K';refine aa _ (AW.norm [1,38,39,40] [502,503] (cC rfl) (AW.st (by simp [ab,dS,cT,bl,aai];rfl) ?_));refine reQ fw ?_;(try simp only [aM,aP]);refine aV.mk (i+1) (by omega) (by omega) ?_;refine aU fw
    .obtain rfl:i=l.length:=by omega
     refine bH ?_;simp [D.le_refl,List.take_length,cT,dS]
  have hk:∃ t c,dE e = .br t c/\¬ t=114/\¬ t=192/\¬ t=116/\cf all e=eE (cm all e):=by
   cases e with
   | not z=>exact absurd ⟨z,rfl⟩ hN
   | and l=>exact absurd ⟨l,rfl⟩ hand
   | or l=>exact absurd ⟨l,rfl⟩ hor
   | eV b=>exact ⟨_,_,by rw [dE],by decide,by decide,by decide,rfl⟩
   | bit s=>exact ⟨_,_,by rw [dE],by decide,by decide,by decide,rfl⟩
   | fQ s=>exact ⟨_,_,by rw [dE],by decide,by decide,by decide,rfl⟩
   | fC s=>exact ⟨_,_,by rw [dE],by decide,by decide,by decide,rfl⟩
  obtain ⟨t,c,hy,h1,h2,h3,h4⟩:=hk;have cW:=aex G all l0 e (by omega);rw [List.singleton_append] at cW;rw [h4,hy];rw [hy] at cW;generalize l0 ++ eE (cm all e)=l1 at cW ⊢;generalize lP all=g at cW ⊢;refine MC.aD (ZZ _) Tryz.func199 rfl rfl (rs:=[]) Tryz.results199 (by simp [Tryz.ntmps199]) rfl fun X=>?_;simp only [Tryz.ntmps199];have fw:=(Aq @ab.eq_1 (Aq @dS.eq_1 (Aq @cT.eq_1 (Aq @bl.eq_1 (Aq @bl.eq_2 @aai.eq_1)))));refine Z8 fw cW [0,1] [502,503] ?_;refine ZW fw [1,14] [502,503] ?_;refine aR ?_;have qf:=(Aq fw @h1);refine al [1,14,16,17] [502,503] ?_;refine ag rfl ?_;have qf:=(Aq fw @h2);refine al [1,14,23,24] [502,503] ?_;refine ag rfl ?_;have qf:=(Aq fw @h3);refine al [1,36,37] [502,503] ?_;refine ag rfl ?_;refine ah ?_;simp [D.le_refl,cT,dS]
def aaE (all:Bool) (e:Ex):List (List UInt8):=Lib.compact (jG (cf all e))
set_option maxHeartbeats 8000000 in
theorem KE (G:ao) (all:Bool) (e:Ex) (hb:bE e<=2^28):aw Tryz.prog G 156 [dE e,.fn (.func (lP all)) []] (.sl none ((aaE all e).map fun s=>[dS s])):=by
 have hlen:=rN all e;have hw:=XR G all _ e (Nat.le_refl _) [] (by simp;omega);rw [List.nil_append] at hw;have rh:=WH G 503 9 (cf all e) (by omega);have hco:=M3 G 503 9 (jG (cf all e)) (by rw [nI];omega);rw [nI] at hco;have hcl:=Lib.compact_length_le (jG (cf all e));rw [nI] at hcl;unfold aaE;obtain ⟨tx,cx,hx⟩:=abq e;rw [hx] at hw ⊢;generalize lP all=g at hw ⊢;generalize cf all e=l at hw rh hco hcl hlen ⊢;generalize jG l=z at rh hco hcl ⊢
 have cq:List.take (Lib.compact z).length ((Lib.compact z ++ List.replicate (l.length - (Lib.compact z).length) []).map fun s=>[dS s])=(Lib.compact z).map fun s=>[dS s]:=by
  rw [List.map_append,List.take_append_of_le_length (by simp),List.take_of_length_le (by simp)]
 have Dc:(Lib.compact z ++ List.replicate (l.length - (Lib.compact z).length) []).length=l.length:=by simp;omega
 generalize Lib.compact z ++ List.replicate (l.length - (Lib.compact z).length) []=y at hco cq Dc;generalize Lib.compact z=c at hco hcl cq ⊢;refine aw.aD (ZZ _) Tryz.func156 rfl rfl (rs:=[.tmp 4]) Tryz.results156 (by simp [Tryz.ntmps156]) fun X=>?_;simp only [Tryz.ntmps156,List.map];have fw:=(Aq @ab.eq_1 (Aq @dS.eq_1 (Aq @cT.eq_1 (Aq @bl.eq_1 (Aq @bl.eq_2 @aai.eq_1)))));refine ZW fw [0,3] [3] ?_;refine ck fw 3 ?_;refine ZW fw [0,3,5] [5] ?_;refine AW.imp (Z1.ren (r:=5) (r':=502) trivial (by simp)) ?_;refine AW.st (by simp [eS,aa2,Go.Av.ren,zN];rfl) ?_;refine AW.imp (Z1.lK 502 0 503 9 1 rfl rfl rfl) ?_;refine AW.imp (τ:=⟨aX [(0,.d (.br tx cx)),(3,.d (.ip [.fn (.func g) []])),(5,.ref 502 0 0)],ZX (cT [])⟩) ?_ ?_
 .refine aU (Aq fw @cT.eq_1)
 refine Z8 fw hw [5] [502,503] ?_;refine Z8 fw rh [5] [502,503] ?_;refine Z8 fw hco [4] [502,503] ?_
 have hle:c.length<=y.length:=by omega
 by_cases ow:c.length=y.length
 .have lq:(y.map fun s=>[dS s])=c.map fun s=>[dS s]:=by rw [<- cq,ow,List.take_of_length_le (by simp)]
  simp only [dS] at lq;refine AW.imp (Z1.freeze 503 trivial) ?_;refine AW.st (by simp [ab,dS,cT,bl,aai,ow,hle,lq];rfl) ?_;exact aK (Aq fw (Aq @ow @lq))
 .simp only [dS] at cq;refine AW.imp (Z1.freeze 503 trivial) ?_;refine AW.st (by simp [ab,dS,cT,bl,aai,ow,hle,cq];rfl) ?_;exact aK (Aq fw @cq)
theorem Uy (G:ao) (e:Ex) (hb:bE e<=2^28):aw Tryz.prog G 109 [dE e] (.sl none ((aaE true e).map fun s=>[dS s])):=by
 have hs:=KE G true e hb;obtain ⟨tx,cx,hx⟩:=abq e;rw [hx] at hs ⊢;generalize aaE true e=l at hs ⊢;simp only [lP,if_true,if_false,Bool.false_eq_true] at hs;refine aw.aD (ZZ _) Tryz.func109 rfl rfl (rs:=[.tmp 2]) Tryz.results109 (by simp [Tryz.ntmps109]) fun X=>?_;simp only [Tryz.ntmps109,List.map];have fw:=(Aq @ab.eq_1 (Aq @dS.eq_1 (Aq @cT.eq_1 (Aq @bl.eq_1 (Aq @bl.eq_2 @aai.eq_1)))));refine ZW fw [0] [] ?_;refine Z6 fw hs [2] [] ?_;exact aK fw
theorem afv (G:ao) (e:Ex) (hb:bE e<=2^28):aw Tryz.prog G 127 [dE e] (.sl none ((aaE false e).map fun s=>[dS s])):=by
 have hs:=KE G false e hb;obtain ⟨tx,cx,hx⟩:=abq e;rw [hx] at hs ⊢;generalize aaE false e=l at hs ⊢;simp only [lP,if_true,if_false,Bool.false_eq_true] at hs;refine aw.aD (ZZ _) Tryz.func127 rfl rfl (rs:=[.tmp 2]) Tryz.results127 (by simp [Tryz.ntmps127]) fun X=>?_;simp only [Tryz.ntmps127,List.map];have fw:=(Aq @ab.eq_1 (Aq @dS.eq_1 (Aq @cT.eq_1 (Aq @bl.eq_1 (Aq @bl.eq_2 @aai.eq_1)))));refine ZW fw [0] [] ?_;refine Z6 fw hs [2] [] ?_;exact aK fw
abbrev Tx:=List UInt8
theorem EU (a:Tx):¬ a < a:=List.lt_irrefl a
theorem afe {a b c:Tx} (h1:a < b) (h2:b < c):a < c:=List.lt_trans h1 h2
theorem xg {a b:Tx}:a<=b↔¬ b < a:=Iff.rfl
theorem aff {a b:Tx} (h1:¬ a < b) (h2:¬ b < a):a=b:=List.le_antisymm (xg.2 h2) (xg.2 h1)
def iH (s:Tx):List Tx->List Tx
 | []=>[s]
 | y :: l=>if y < s then y :: iH s l else if y=s then y :: l else s :: y :: l
theorem H6 (s:Tx):∀ (l:List Tx) (k:Nat),k<=l.length->(∀ i (hi:i < l.length),i < k->l[i] < s)->(∀ hk:k < l.length,¬ l[k] < s)->
  iH s l=if (∃ hk:k < l.length,l[k]=s) then l else l.take k ++ s :: l.drop k
 | [],k,hk,_,_=>by
  obtain rfl:k=0:=by simpa using hk
  simp [iH]
 | y :: l,0,_,_,h2=>by
  have h3:¬ y < s:=h2 (by simp);rw [iH,if_neg h3];by_cases he:y=s
  .rw [if_pos he,if_pos ⟨by simp,he⟩]
  .rw [if_neg he,if_neg (fun ⟨_,h⟩=>he h)];simp
 | y :: l,k+1,hk,h1,h2=>by
  have h3:y < s:=h1 0 (by simp) (by omega);rw [iH,if_pos h3,H6 s l k (by simpa using hk) (fun i hi vx=>h1 (i+1) (by simpa using hi) (by omega)) (fun eM=>h2 (by simpa using eM))];by_cases he:∃ hk:k < l.length,l[k]=s
  .rw [if_pos he,if_pos (by obtain ⟨a,b⟩:=he;exact ⟨by simpa using a,b⟩)]
  .rw [if_neg he,if_neg (fun ⟨a,b⟩=>he ⟨by simpa using a,b⟩)];simp
theorem Dh {s x:Tx}:∀ {l:List Tx},x∈iH s l↔x=s\/x∈l
 | []=>by simp [iH]
 | y :: l=>by
  rw [iH];by_cases h1:y < s
  .rw [if_pos h1,List.mem_cons,Dh,List.mem_cons];constructor
   .rintro (h | h | h)<;>simp [h]
   .rintro (h | h | h)<;>simp [h]
  .rw [if_neg h1];by_cases h2:y=s
   .rw [if_pos h2];subst h2;simp
   .rw [if_neg h2];simp
theorem H8 (s:Tx):∀ {l:List Tx},l.Pairwise (· < ·)->(iH s l).Pairwise (· < ·)
 | [],_=>by simp [iH]
 | y :: l,h=>by
  obtain ⟨ha,hb⟩:=List.pairwise_cons.1 h;rw [iH];by_cases h1:y < s
  .rw [if_pos h1];refine List.pairwise_cons.2 ⟨fun x hx=>?_,H8 s hb⟩
   rcases Dh.1 hx with rfl | hx
   .exact h1
   .exact ha x hx
  .rw [if_neg h1];by_cases h2:y=s
   .rw [if_pos h2];exact h
   .rw [if_neg h2];have h3:s < y:=Classical.byContradiction fun hn=>h2 (aff h1 hn);refine List.pairwise_cons.2 ⟨fun x hx=>?_,h⟩
    rcases List.mem_cons.1 hx with rfl | hx
    .exact h3
    .exact afe h3 (ha x hx)
theorem H7 (s:Tx):∀ l:List Tx,(iH s l).length<=l.length+1
 | []=>by simp [iH]
 | y :: l=>by
  have:=H7 s l;rw [iH];split
  .simp;omega
  .split<;>simp
def iG (l ss:List Tx):List Tx:=ss.foldl (fun l s=>iH s l) l
theorem H4 (l:List Tx):iG l []=l:=rfl
theorem ae6 (l a b:List Tx):iG l (a ++ b)=iG (iG l a) b:=List.foldl_append ..
theorem Dg:∀ (ss l:List Tx),(iG l ss).length<=l.length+ss.length
 | [],l=>by simp [iG]
 | s :: ss,l=>by
  have h1:=Dg ss (iH s l);have h2:=H7 s l;have h3:iG l (s :: ss)=iG (iH s l) ss:=rfl;rw [h3,List.length_cons];omega
theorem ae7 {x:Tx}:∀ (ss l:List Tx),x∈iG l ss↔x∈l\/x∈ss
 | [],l=>by simp [iG]
 | s :: ss,l=>by
  have h3:iG l (s :: ss)=iG (iH s l) ss:=rfl;rw [h3,ae7 ss,Dh,List.mem_cons];constructor
  .rintro ((h | h) | h)<;>simp [h]
  .rintro (h | h | h)<;>simp [h]
theorem H5:∀ (ss l:List Tx),l.Pairwise (· < ·)->(iG l ss).Pairwise (· < ·)
 | [],l,h=>h
 | s :: ss,l,h=>H5 ss _ (H8 s h)
theorem KJ:∀ {a b:List Tx},a.Pairwise (· < ·)->b.Pairwise (· < ·)->(∀ x,x∈a↔x∈b)->a=b
 | [],[],_,_,_=>rfl
 | [],y :: b,_,_,h=>absurd ((h y).2 (by simp)) (by simp)
 | x :: a,[],_,_,h=>absurd ((h x).1 (by simp)) (by simp)
 | x :: a,y :: b,ha,hb,h=>by
  obtain ⟨vk,ha2⟩:=List.pairwise_cons.1 ha;obtain ⟨c6,ey⟩:=List.pairwise_cons.1 hb
  have we:x=y:=by
   rcases List.mem_cons.1 ((h x).1 (by simp)) with e | hx
   .exact e
   .rcases List.mem_cons.1 ((h y).2 (by simp)) with e | hy
    .exact e.symm
    .exact absurd (afe (c6 x hx) (vk y hy)) (EU _)
  subst we;rw [KJ ha2 ey fun z=>?_];constructor
  .intro hz
   rcases List.mem_cons.1 ((h z).1 (by simp [hz])) with e | e
   .subst e;exact absurd (vk z hz) (EU _)
   .exact e
  .intro hz
   rcases List.mem_cons.1 ((h z).2 (by simp [hz])) with e | e
   .subst e;exact absurd (c6 z hz) (EU _)
   .exact e
theorem DJ (d:Array Tx):∀ (m:Nat),m<=d.size->∀ j,j < m->d[j]!∈Lib.compactUpTo d m
 | 0,_,j,h=>by omega
 | m+1,hm,j,hj=>by
  rw [Lib.compactUpTo_succ];by_cases yw:j < m
  .exact List.mem_append_left _ (DJ d m (by omega) j yw)
  .obtain rfl:j=m:=by omega
   by_cases hk:Lib.keeps d j=true
   .exact List.mem_append_right _ (by simp [hk])
   .have jd:j≠0:=by rintro rfl;exact hk (Lib.keeps_lt_one d 0 (by omega))
    have he:d[j]! = d[j - 1]!:=by
     unfold Lib.keeps at hk;simp [jd] at hk
     first | exact hk | exact hk.symm
    rw [he];exact List.mem_append_left _ (DJ d j (by omega) (j - 1) (by omega))
theorem EY (d:Array Tx):∀ (m:Nat),m<=d.size->∀ x∈Lib.compactUpTo d m,∃ j,j < m/\x=d[j]!
 | 0,_,x,h=>by simp [Lib.compactUpTo] at h
 | m+1,hm,x,h=>by
  rw [Lib.compactUpTo_succ] at h
  rcases List.mem_append.1 h with h | h
  .obtain ⟨j,hj,e⟩:=EY d m (by omega) x h;exact ⟨j,by omega,e⟩
  .split at h
   .simp at h;exact ⟨m,by omega,h⟩
   .simp at h
theorem afk (d:Array Tx) (hs:∀ i j,i<=j->j < d.size->d[i]!<=d[j]!):∀ (m:Nat),m<=d.size->(Lib.compactUpTo d m).Pairwise (· < ·)
 | 0,_=>by simp [Lib.compactUpTo]
 | m+1,hm=>by
  have ih:=afk d hs m (by omega);rw [Lib.compactUpTo_succ];by_cases hk:Lib.keeps d m=true
  .rw [if_pos hk,List.pairwise_append];refine ⟨ih,by simp,fun a ha b hb=>?_⟩;rw [List.mem_singleton] at hb;subst hb;obtain ⟨j,hj,rfl⟩:=EY d m (by omega) a ha
   have aL:d[m]!≠d[m - 1]!:=by
    intro he;rw [Lib.keeps_neg (by omega) he] at hk;cases hk
   have h1:=hs j (m - 1) (by omega) (by omega);have h2:=hs (m - 1) m (by omega) (by omega);have h3:d[m - 1]! < d[m]!:=Classical.byContradiction fun hn=>aL (aff (xg.1 h2) hn)
   exact Classical.byContradiction fun hn=>by
    have h4:d[m]!<=d[j]!:=xg.2 hn;exact (xg.1 (List.le_trans h4 h1)) h3
  .rw [if_neg hk,List.append_nil];exact ih
theorem Uz (all:Bool) (e:Ex):(aaE all e).Pairwise (· < ·):=by
 unfold aaE Lib.compact;refine afk _ (fun i j kL hj=>?_) _ (by simp)
 have hp:(jG (cf all e)).Pairwise (·<=·):=by
  unfold jG;have:=List.pairwise_mergeSort (le:=fun x y:Tx=>decide (x<=y)) (by intro a b c h1 h2;simp only [decide_eq_true_eq] at *;exact List.le_trans h1 h2) (by intro a b;simp only [Bool.or_eq_true,decide_eq_true_eq];exact List.le_total a b) (cf all e)
  exact this.imp fun h=>by simpa using h
 generalize jG (cf all e)=l at hp hj ⊢
 have cR:j < l.length:=by simpa using hj
 rw [getElem!_pos l.toArray i (by simpa using (by omega:i < l.length)),getElem!_pos l.toArray j (by simpa using cR)];simp only [List.getElem_toArray];by_cases he:i=j
 .subst he;exact List.le_refl _
 .exact (List.pairwise_iff_getElem.1 hp) i j (by omega) cR (by omega)
theorem wD {all:Bool} {e:Ex} {s:Tx}:s∈aaE all e↔s∈cf all e:=by
 unfold aaE
 have h0:∀ l:List Tx,s∈Lib.compact l↔s∈l:=by
  intro l;unfold Lib.compact;constructor
  .intro h;obtain ⟨j,hj,rfl⟩:=EY l.toArray l.length (by simp) s h;rw [getElem!_pos l.toArray j (by simpa using hj)];simp
  .intro h;obtain ⟨j,hj,rfl⟩:=List.mem_iff_getElem.1 h;have:=DJ l.toArray l.length (by simp) j hj;rw [getElem!_pos l.toArray j (by simpa using hj)] at this;simpa using this
 rw [h0];unfold jG;exact List.mem_mergeSort
theorem afI (all:Bool) (e:Ex):iG [] (cf all e)=aaE all e:=by
 refine KJ (H5 _ _ (by simp)) (Uz all e) fun x=>?_;rw [ae7,wD];simp
def rF:Ex->List UInt8
 | .eV b=>[if b then 49 else 48]
 | .bit _=>[98,105,116]
 | .fQ _=>[94]
 | .fC _=>[126]
 | .not _=>[33]
 | .and _=>[38]
 | .or _=>[124]
def mL:Ex->List UInt8
 | .bit s=>s
 | .fQ s=>s
 | .fC s=>s
 | _=>[]
def wH:Ex->D
 | .not e=>.sl none [[dR e]]
 | .and l=>.sl none (qz l)
 | .or l=>.sl none (qz l)
 | _=>cM
theorem mX (e:Ex):dR e = .ip [dS (rF e),dS (mL e),wH e]:=by cases e<;>simp [dR,rF,mL,wH]
theorem abL (k:List UInt8) (arr:Array UInt8):aN .eql (bs k) ⟨arr⟩=some (True,.bool (decide (k=arr.toList))):=by
 have h:(bs k).toList=k:=aT k
 have h2:(⟨arr⟩:ByteArray).toList=arr.toList:=by rw [ByteArray.toList_eq]
 unfold aN;dsimp only;rw [h,h2];congr 3;by_cases e:k=arr.toList
 .subst e;simp
 .rw [decide_eq_false e,beq_eq_false_iff_ne.2 e]
theorem zO {r r' s:Nat} (h:r≠r') (hs:s≠r') (hr:s≠r) (row adJ:Row):l6 r r' (ZX [(s,adJ),(r,row)])=ZX [(s,adJ.tr (eS r r') (aa2 r r')),(r',row.tr (eS r r') (aa2 r r'))]:=by
 funext q;unfold l6;by_cases h1:q=r'
 .subst h1;simp [ZX,List.lookup,beq_eq_false_iff_ne.2 (Ne.symm hs),beq_eq_false_iff_ne.2 (Ne.symm hr)]
 .rw [if_neg h1];by_cases h2:q=r
  .subst h2;simp [ZX,List.lookup,beq_eq_false_iff_ne.2 h1,beq_eq_false_iff_ne.2 (Ne.symm hr)]
  .by_cases h3:q=s
   .subst h3;simp [ZX,List.lookup,h2,beq_eq_false_iff_ne.2 h1,beq_eq_false_iff_ne.2 h2]
   .simp [ZX,List.lookup,h2,beq_eq_false_iff_ne.2 h1,beq_eq_false_iff_ne.2 h2,beq_eq_false_iff_ne.2 h3]
def iu:Option Ex->D
 | some x=>dR x
 | none=>.v (.pointer none)
theorem afm (G:ao) (t:List UInt8) (ht:t.length<=2000):Reads G t [500] [] 144 [.ref 500 0 0,.d (ab 0)] 20 (orR t (aae t 20)):=
 JL G t ht 0 20 (U9 G t ht 20 0 (Nat.le_refl _) rfl)
theorem D8 {t:List UInt8} {c:Int} {p:Option Nat} (h:(aba t).2=some (c,p)):0 < c:=by
 unfold aba at h;split at h
 .simp at h;omega
 .rename_i hl;obtain ⟨yF,kF,hr⟩:=afm (fun _=>none) t (by omega);split at h
  .rename_i c' p' q' he;simp at h;have:=(hr 0 (Nat.zero_le _)).2 _ _ _ he;omega
  .split at h
   .simp at h;omega
   .cases h
theorem wN {t:List UInt8} (h:(aba t).2=none):∃ x,(aba t).1=some x:=by
 unfold aba at h ⊢;split at h
 .cases h
 .rw [if_neg ‹_›];split at h
  .cases h
  .split at h
   .cases h
   .rw [if_neg ‹_›];exact ⟨_,rfl⟩
set_option maxHeartbeats 8000000 in
theorem Wa (G:ao) (hF:ql G) (t:List UInt8) (ht:t.length < 2^60):aw Tryz.prog G 93 [dS t] (.Z4 [iu (aba t).1,ch (aba t).2]):=by
 unfold aba;unfold ql at hF;by_cases hl:2000 < t.length
 .have ek:(2000:Int) < (t.length:Int):=by omega
  have hb:=xx G 4;rw [if_pos hl];refine aw.aD (ZZ _) Tryz.func93 rfl rfl (rs:=[.tmp 2,.cell 3 124]) Tryz.results93 (by simp [Tryz.ntmps93]) fun X=>?_;simp only [Tryz.ntmps93,List.map];have fw:=(Aq @ab.eq_1 (Aq @bf.eq_1 @dS.eq_1));refine ZW fw [0,3] [3] ?_;refine ae fun K1 ay=>?_;have qf:=(Aq fw (Aq @bh (Aq @hl @ek)));refine al [0,3,8] [3] ?_;refine ak rfl ?_;refine Z6 fw hb [2,3] [3] ?_;exact aK (Aq fw (Aq @iu.eq_1 (Aq @iu.eq_2 (Aq @ch.eq_1 (Aq @codeF.eq_1 (Aq @codeF.eq_2 (Aq @aab.eq_1 @aab.eq_2)))))))
 have ek:¬ (2000:Int) < (t.length:Int):=by omega
 rw [if_neg hl];obtain ⟨yF,kF,hr⟩:=afm G t (by omega);have hc:=(hr 0 (Nat.zero_le _)).1;have he:=(hr 0 (Nat.zero_le _)).2
 cases ho:orR t (aae t 20) 0 with
 | err c p q=>
  rw [ho] at hc;obtain ⟨h1,h2,h3⟩:=he _ _ _ ho
  have h0:¬ c=0:=by omega
  generalize yF 0=y at hc h2;generalize kF 0=k at hc h3;refine aw.aD (ZZ _) Tryz.func93 rfl rfl (rs:=[.tmp 2,.cell 3 124]) Tryz.results93 (by simp [Tryz.ntmps93]) fun X=>?_;simp only [Tryz.ntmps93,List.map];have fw:=(Aq @ab.eq_1 (Aq @bf.eq_1 @dS.eq_1));refine ZW fw [0,3] [3] ?_;refine ae fun K1 ay=>?_;have qf:=(Aq fw (Aq @bh (Aq @hl @ek)));refine al [0,3,8] [3] ?_;refine ag rfl ?_;refine ah (ay _ ?_);have qf:=(Aq fw @hF);refine al [0,3,4] [3,13] ?_;refine AW.imp (Z1.ren (r:=13) (r':=500) trivial (by simp)) ?_;refine AW.st (by simp [eS,aa2,Go.Av.ren,zO];rfl) ?_;refine Z8 (Aq fw (Aq @abf.eq_1 (Aq @abf.eq_2 (Aq @fN.eq_1 (Aq @fN.eq_2 (Aq @eR.eq_1 (Aq @eR.eq_2 (Aq @pR.eq_1 @pR.eq_2)))))))) hc [0,3,4,5] [3,500] ?_;refine ae fun K2 aa=>?_;have qf:=(Aq fw @h0);refine al [3,4,5,43] [3,500] ?_;refine ag rfl ?_;refine ah (aa _ ?_);refine ae fun K3 aQ=>?_;have qf:=(Aq fw @h0);refine al [3,4,5,51] [3,500] ?_;refine ak rfl ?_;refine j8 (ZZ _) (by kernel_rfl) [(3,500),(5,3)] [2,3] [3,500] (fun _ _=>trivial) (by kernel_rfl) fun K' af=>?_;(repeat (refine fz fun K2 aa=>?_;simp [ab,bf,dS];(repeat (refine ⟨by omega,?_⟩));refine aa _ ?_;clear aa K2));refine gO (af _ ?_);refine AW.st (by simp [ab,bf,dS];rfl) ?_;clear af K';exact aK (Aq fw (Aq @iu.eq_1 (Aq @iu.eq_2 (Aq @ch.eq_1 (Aq @codeF.eq_1 (Aq @codeF.eq_2 (Aq @aab.eq_1 @aab.eq_2)))))))
 | ok x k=>
  rw [ho] at hc;dsimp only [abf,fN,eR,pR] at hc;have hk:=(oV (j5 t 20) 0 x k (Nat.zero_le _) ho).2;have eo:=wS G t k (by omega) hk 0 (-1);have eM:=abX hk;have dH:=wQ G t (aW t k) (by omega) eM 3;rw [rZ hk] at dH
  have hnb:aW t k < t.length\/kU t k=0:=by
   by_cases h:aW t k < t.length
   .exact .inl h
   .exact .inr (by unfold kU;rw [List.getD_eq_getElem?_getD,List.getElem?_eq_none (by omega)];rfl)
  obtain ⟨cx,hx⟩:=adP x;dsimp only;generalize aW t k=j at eo eM dH hnb ⊢;generalize kU t k=b at eo hnb;by_cases hj:j < t.length
  .have cR:(j:Int) < (t.length:Int):=by omega
   rw [if_pos hj];rw [hx] at hc;by_cases hb:((b.toNat:Int)=0)
   .have qN:b.toNat=0:=by omega
    refine aw.aD (ZZ _) Tryz.func93 rfl rfl (rs:=[.tmp 2,.cell 3 124]) Tryz.results93 (by simp [Tryz.ntmps93]) fun X=>?_;simp only [Tryz.ntmps93,List.map];have fw:=(Aq @ab.eq_1 (Aq @bf.eq_1 @dS.eq_1));refine ZW fw [0,3] [3] ?_;refine ae fun K1 ay=>?_;have qf:=(Aq fw (Aq @bh (Aq @hl @ek)));refine al [0,3,8] [3] ?_;refine ag rfl ?_;refine ah (ay _ ?_);have qf:=(Aq fw @hF);refine al [0,3,4] [3,13] ?_;refine AW.imp (Z1.ren (r:=13) (r':=500) trivial (by simp)) ?_;refine AW.st (by simp [eS,aa2,Go.Av.ren,zO];rfl) ?_;refine Z8 fw hc [0,3,4,5] [3,500] ?_;refine ae fun K2 aa=>?_;have qf:=(Aq fw (Aq @hb (Aq @qN (Aq @bh (Aq @hj @cR)))));refine abi eo [3,4,5,43] [3,500] ?_;refine ak rfl ?_;refine aaG (ZZ _) fun K' af=>?_;(repeat (refine Z0 fun K2 aa=>?_;simp [ab,bf,dS];(repeat (refine ⟨by omega,?_⟩));refine aa _ ?_;clear aa K2));refine Z0 fun K2 aa=>?_;simp [ab,bf,dS];refine aap.mc (dH) ?_ ?_ ?_ ?_ ?_<;>simp [ab,bf,dS];refine aa _ ?_;clear aa K2;(repeat (refine Z0 fun K2 aa=>?_;simp [ab,bf,dS];(repeat (refine ⟨by omega,?_⟩));refine aa _ ?_;clear aa K2));refine Z9 (af _ ?_);clear af K';refine aa _ (AW.norm [3,4,5] [3,500] (fun _ _=>trivial) (AW.st (by simp [ab,bf,dS];rfl) ?_));refine ae fun K3 aQ=>?_;refine ZW fw [3,4,5,51] [3,500] ?_;refine ak rfl ?_;refine j8 (ZZ _) (by kernel_rfl) [(3,500),(5,3)] [2,3] [3,500] (fun _ _=>trivial) (by kernel_rfl) fun K' af=>?_;(repeat (refine fz fun K2 aa=>?_;simp [ab,bf,dS];(repeat (refine ⟨by omega,?_⟩));refine aa _ ?_;clear aa K2));refine gO (af _ ?_);refine AW.st (by simp [ab,bf,dS];rfl) ?_;clear af K';exact aK (Aq fw (Aq @iu.eq_1 (Aq @iu.eq_2 (Aq @ch.eq_1 (Aq @codeF.eq_1 (Aq @codeF.eq_2 (Aq @aab.eq_1 @aab.eq_2)))))))
   .have qN:¬ b.toNat=0:=by omega
    refine aw.aD (ZZ _) Tryz.func93 rfl rfl (rs:=[.tmp 2,.cell 3 124]) Tryz.results93 (by simp [Tryz.ntmps93]) fun X=>?_;simp only [Tryz.ntmps93,List.map];have fw:=(Aq @ab.eq_1 (Aq @bf.eq_1 @dS.eq_1));refine ZW fw [0,3] [3] ?_;refine ae fun K1 ay=>?_;have qf:=(Aq fw (Aq @bh (Aq @hl @ek)));refine al [0,3,8] [3] ?_;refine ag rfl ?_;refine ah (ay _ ?_);have qf:=(Aq fw @hF);refine al [0,3,4] [3,13] ?_;refine AW.imp (Z1.ren (r:=13) (r':=500) trivial (by simp)) ?_;refine AW.st (by simp [eS,aa2,Go.Av.ren,zO];rfl) ?_;refine Z8 fw hc [0,3,4,5] [3,500] ?_;refine ae fun K2 aa=>?_;have qf:=(Aq fw (Aq @hb (Aq @qN (Aq @bh (Aq @hj @cR)))));refine abi eo [3,4,5,43] [3,500] ?_;refine ak rfl ?_;refine aaG (ZZ _) fun K' af=>?_;(repeat (refine Z0 fun K2 aa=>?_;simp [ab,bf,dS];(repeat (refine ⟨by omega,?_⟩));refine aa _ ?_;clear aa K2));refine Z0 fun K2 aa=>?_;simp [ab,bf,dS];refine aap.mc (dH) ?_ ?_ ?_ ?_ ?_<;>simp [ab,bf,dS];refine aa _ ?_;clear aa K2;(repeat (refine Z0 fun K2 aa=>?_;simp [ab,bf,dS];(repeat (refine ⟨by omega,?_⟩));refine aa _ ?_;clear aa K2));refine Z9 (af _ ?_);clear af K';refine aa _ (AW.norm [3,4,5] [3,500] (fun _ _=>trivial) (AW.st (by simp [ab,bf,dS];rfl) ?_));refine ae fun K3 aQ=>?_;refine ZW fw [3,4,5,51] [3,500] ?_;refine ak rfl ?_;refine j8 (ZZ _) (by kernel_rfl) [(3,500),(5,3)] [2,3] [3,500] (fun _ _=>trivial) (by kernel_rfl) fun K' af=>?_;(repeat (refine fz fun K2 aa=>?_;simp [ab,bf,dS];(repeat (refine ⟨by omega,?_⟩));refine aa _ ?_;clear aa K2));refine gO (af _ ?_);refine AW.st (by simp [ab,bf,dS];rfl) ?_;clear af K';exact aK (Aq fw (Aq @iu.eq_1 (Aq @iu.eq_2 (Aq @ch.eq_1 (Aq @codeF.eq_1 (Aq @codeF.eq_2 (Aq @aab.eq_1 @aab.eq_2)))))))
  .have cR:¬ (j:Int) < (t.length:Int):=by omega
   have hb:((b.toNat:Int)=0):=by
    rcases hnb with h | h
    .exact absurd h hj
    .rw [h];rfl
   have qN:b.toNat=0:=by omega
   rw [if_neg hj];simp only [iu];rw [hx] at hc ⊢;refine aw.aD (ZZ _) Tryz.func93 rfl rfl (rs:=[.tmp 2,.cell 3 124]) Tryz.results93 (by simp [Tryz.ntmps93]) fun X=>?_;simp only [Tryz.ntmps93,List.map];have fw:=(Aq @ab.eq_1 (Aq @bf.eq_1 @dS.eq_1));refine ZW fw [0,3] [3] ?_;refine ae fun K1 ay=>?_;have qf:=(Aq fw (Aq @bh (Aq @hl @ek)));refine al [0,3,8] [3] ?_;refine ag rfl ?_;refine ah (ay _ ?_);have qf:=(Aq fw @hF);refine al [0,3,4] [3,13] ?_;refine AW.imp (Z1.ren (r:=13) (r':=500) trivial (by simp)) ?_;refine AW.st (by simp [eS,aa2,Go.Av.ren,zO];rfl) ?_;refine Z8 fw hc [0,3,4,5] [3,500] ?_;refine ae fun K2 aa=>?_;have qf:=(Aq fw (Aq @hb (Aq @qN (Aq @bh (Aq @hj @cR)))));refine abi eo [3,4,5,43] [3,500] ?_;refine ag rfl ?_;refine ah (aa _ ?_);refine ae fun K3 aQ=>?_;refine ZW fw [3,4,5,51] [3,500] ?_;refine ag rfl ?_;refine ah (aQ _ ?_);refine j8 (ZZ _) (by kernel_rfl) [(3,3)] [2,3] [3,500] (fun _ _=>trivial) (by kernel_rfl) fun K' af=>?_;(repeat (refine fz fun K2 aa=>?_;simp [ab,bf,dS,hF];(repeat (refine ⟨by omega,?_⟩));refine aa _ ?_;clear aa K2));refine gO (af _ ?_);refine AW.st (by simp [ab,bf,dS,hF];rfl) ?_;clear af K';exact aK (Aq fw (Aq @ch.eq_1 (Aq @codeF.eq_1 (Aq @codeF.eq_2 (Aq @aab.eq_1 @aab.eq_2)))))
theorem HW {α:Type} (p:α->Bool) (l:List α):decide (0<=idx p l)=l.any p:=by
 unfold idx
 cases h:l.findIdx? p with
 | none=>
  rw [List.findIdx?_eq_none_iff] at h
  have:l.any p=false:=by rw [List.any_eq_false];intro x hx;simp [h x hx]
  rw [this];simp
 | some i=>
  rw [List.findIdx?_eq_some_iff_getElem] at h;obtain ⟨hi,hp,_⟩:=h;have:l.any p=true:=List.any_eq_true.2 ⟨_,List.getElem_mem hi,hp⟩;rw [this];simp
theorem Gl (is bD:List UInt8->Bool):∀ l:List Ex,sB is bD l = !(l.any fun e=>!evE is bD e)
 | []=>rfl
 | e :: l=>by rw [sB,Gl is bD l];simp
theorem Gm (is bD:List UInt8->Bool):∀ l:List Ex,sC is bD l=l.any fun e=>evE is bD e
 | []=>rfl
 | e :: l=>by rw [sC,Gm is bD l];simp
set_option maxHeartbeats 1000000 in
theorem Rn (G:ao) (k:Option Bool) (xs:List Ex) (g:FuncId) (caps:List D) (p:Ex->Bool) (hl:xs.length < 2^63) (ha:∀ x∈xs,aw Tryz.prog G g (dE x :: caps) (.v (.bool (p x)))) :
  aw Tryz.prog G 151 [.sl k (xs.map fun x=>[dE x]),.fn (.func g) caps] (.v (.int .i64 (idx p xs))):=by
 refine aw.aD (ZZ _) Tryz.func151 rfl rfl (rs:=[.tmp 4]) Tryz.results151 (by simp [Tryz.ntmps151]) fun X=>?_;simp only [Tryz.ntmps151,List.map];refine aq [0,1] [] ?_;refine ae fun K1 ay=>?_;refine aq [0,1,7,8] [] ?_;refine aam (S:=Nat) (fun n=>n<=xs.length/\∀ i (hi:i < xs.length),i < n->p xs[i]=false) (fun n=>⟨aX [(0,.d (.sl k (xs.map fun x=>[dE x]))),(1,.d (.fn (.func g) caps)),(7,int xs.length),(8,int n)],ZX []⟩) (fun n=>xs.length - n) 0 ?_ (by simp) ?_
 .refine cw
 .rintro n ⟨hn,hp⟩;refine aq [0,1,7,8,9] [] ?_;refine ae fun K2 aa=>?_;refine dG (b:=n < xs.length) (by simp [D.le,D.le.go,aB]) (fun hc=>?_) (fun hc=>?_)
  .have oo:=ha xs[n] (by simp);refine ah (aa _ ?_);refine ae fun K3 aQ=>?_;refine aR ?_;refine aq [0,1,5,7,8] [] ?_;have qf:=@hc;refine aaF oo [0,1,5,7,8,16] [] ?_;refine acI _ rfl (fun eZ=>?_) (fun eZ=>?_)
   .refine aq [4] [] ?_;refine bk ?_;simp [D.le,D.le.go,aB];exact (rB hc eZ fun i hi=>hp i (by omega) hi).symm
   .refine ah (aQ _ ?_);refine cI ?_;(try simp only [aM,aP]);refine aV.mk (n+1) ⟨by omega,fun i hi aC=>?_⟩ (by omega) ?_
    .by_cases h:i=n
     .subst h;exact eZ
     .exact hp i hi (by omega)
    refine cw
  .refine bH (ay _ ?_);refine aq [4] [] ?_;refine bk ?_;simp [D.le,D.le.go,aB];exact (rC fun i hi=>hp i hi (by omega)).symm
theorem M6 (G:ao) (k:Option Bool) (xs:List Ex) (g:FuncId) (caps:List D) (p:Ex->Bool) (hl:xs.length < 2^63) (ha:∀ x∈xs,aw Tryz.prog G g (dE x :: caps) (.v (.bool (p x)))) :
  aw Tryz.prog G 102 [.sl k (xs.map fun x=>[dE x]),.fn (.func g) caps] (.v (.bool (xs.any p))):=by
 have hi:=Rn G k xs g caps p hl ha;have hd:=HW p xs;generalize idx p xs=r at hi hd;rw [<- hd];refine aw.aD (ZZ _) Tryz.func102 rfl rfl (rs:=[.tmp 4]) Tryz.results102 (by simp [Tryz.ntmps102]) fun X=>?_;simp only [Tryz.ntmps102,List.map];refine aq [0,1] [] ?_;refine Z6 trivial hi [4] [] ?_;exact gm
set_option maxHeartbeats 1000000 in
theorem Rp (G:ao) (k:Option Bool) (xs:List Ex) (g:FuncId) (caps:List D) (p:Ex->Bool) (hl:xs.length < 2^63) (ha:∀ x∈xs,aw Tryz.prog G g (dE x :: caps) (.v (.bool (p x)))) :
  aw Tryz.prog G 152 [.sl k (xs.map fun x=>[dE x]),.fn (.func g) caps] (.v (.int .i64 (idx p xs))):=by
 refine aw.aD (ZZ _) Tryz.func152 rfl rfl (rs:=[.tmp 4]) Tryz.results152 (by simp [Tryz.ntmps152]) fun X=>?_;simp only [Tryz.ntmps152,List.map];refine aq [0,1] [] ?_;refine ae fun K1 ay=>?_;refine aq [0,1,7,8] [] ?_;refine aam (S:=Nat) (fun n=>n<=xs.length/\∀ i (hi:i < xs.length),i < n->p xs[i]=false) (fun n=>⟨aX [(0,.d (.sl k (xs.map fun x=>[dE x]))),(1,.d (.fn (.func g) caps)),(7,int xs.length),(8,int n)],ZX []⟩) (fun n=>xs.length - n) 0 ?_ (by simp) ?_
 .refine cw
 .rintro n ⟨hn,hp⟩;refine aq [0,1,7,8,9] [] ?_;refine ae fun K2 aa=>?_;refine dG (b:=n < xs.length) (by simp [D.le,D.le.go,aB]) (fun hc=>?_) (fun hc=>?_)
  .have oo:=ha xs[n] (by simp);refine ah (aa _ ?_);refine ae fun K3 aQ=>?_;refine aR ?_;refine aq [0,1,5,7,8] [] ?_;have qf:=@hc;refine aaF oo [0,1,5,7,8,16] [] ?_;refine acI _ rfl (fun eZ=>?_) (fun eZ=>?_)
   .refine aq [4] [] ?_;refine bk ?_;simp [D.le,D.le.go,aB];exact (rB hc eZ fun i hi=>hp i (by omega) hi).symm
   .refine ah (aQ _ ?_);refine cI ?_;(try simp only [aM,aP]);refine aV.mk (n+1) ⟨by omega,fun i hi aC=>?_⟩ (by omega) ?_
    .by_cases h:i=n
     .subst h;exact eZ
     .exact hp i hi (by omega)
    refine cw
  .refine bH (ay _ ?_);refine aq [4] [] ?_;refine bk ?_;simp [D.le,D.le.go,aB];exact (rC fun i hi=>hp i hi (by omega)).symm
theorem M7 (G:ao) (k:Option Bool) (xs:List Ex) (g:FuncId) (caps:List D) (p:Ex->Bool) (hl:xs.length < 2^63) (ha:∀ x∈xs,aw Tryz.prog G g (dE x :: caps) (.v (.bool (p x)))) :
  aw Tryz.prog G 104 [.sl k (xs.map fun x=>[dE x]),.fn (.func g) caps] (.v (.bool (xs.any p))):=by
 have hi:=Rp G k xs g caps p hl ha;have hd:=HW p xs;generalize idx p xs=r at hi hd;rw [<- hd];refine aw.aD (ZZ _) Tryz.func104 rfl rfl (rs:=[.tmp 4]) Tryz.results104 (by simp [Tryz.ntmps104]) fun X=>?_;simp only [Tryz.ntmps104,List.map];refine aq [0,1] [] ?_;refine Z6 trivial hi [4] [] ?_;exact gm
mutual
def fq (S1 S2:List UInt8->Prop):Ex->Prop
 | .eV _=>True
 | .bit s=>S1 s
 | .fQ s=>S1 s/\S2 s
 | .fC s=>S1 s/\S2 s
 | .not e=>fq S1 S2 e
 | .and l=>nQ S1 S2 l
 | .or l=>nQ S1 S2 l
def nQ (S1 S2:List UInt8->Prop):List Ex->Prop
 | []=>True
 | e :: l=>fq S1 S2 e/\nQ S1 S2 l
end
theorem ur {S1 S2:List UInt8->Prop}:∀ {l:List Ex},nQ S1 S2 l↔∀ x∈l,fq S1 S2 x
 | []=>by simp [nQ]
 | e :: l=>by rw [nQ,ur];simp
def lJ (S:List UInt8->Prop) (G:ao) (g:FuncId) (caps:List D) (p:List UInt8->Bool):Prop:=∀ s,S s->aw Tryz.prog G g (dS s :: caps) (.v (.bool (p s)))
set_option maxHeartbeats 32000000 in
theorem eval_at (G:ao) (g1 g2:FuncId) (c1 c2:List D) (is bD:List UInt8->Bool) (S1 S2:List UInt8->Prop) (h1:lJ S1 G g1 c1 is) (h2:lJ S2 G g2 c2 bD):∀ (n:Nat) (e:Ex),SizeOf.sizeOf e<=n->fq S1 S2 e->bE e<=2^28->aw Tryz.prog G 51 [dE e,.fn (.func g1) c1,.fn (.func g2) c2] (.v (.bool (evE is bD e))):=by
 intro n
 induction n with
 | zero=>intro e aI;cases e<;>simp at aI
 | succ n ih=>
  intro e aI eK hb;have fw:=(Aq @ab.eq_1 (Aq @dS.eq_1 (Aq @bl.eq_1 (Aq @bl.eq_2 @aai.eq_1))))
  cases e with
  | eV b=>
   rw [dE];refine aw.aD (ZZ _) Tryz.func51 rfl rfl (rs:=[.tmp 6]) Tryz.results51 (by simp [Tryz.ntmps51]) fun X=>?_;simp only [Tryz.ntmps51,List.map];refine ZW fw [0,4,5] [4,5] ?_;refine ck fw 4 ?_;refine ck fw 5 ?_;refine ae fun K1 ay=>?_;refine ZW fw [4,5,14] [] ?_;refine aR ?_;refine ZW fw [4,5,14,16,17] [] ?_;refine ak rfl ?_;refine ZW fw [7] [] ?_;refine ZW fw [6] [] ?_;refine bk ?_;simp [D.le,D.le.go,aB,ab,dS,bl,aai,evE]
  | bit s=>
   rw [fq] at eK;have hi:=h1 s eK;rw [dE,evE];refine aw.aD (ZZ _) Tryz.func51 rfl rfl (rs:=[.tmp 6]) Tryz.results51 (by simp [Tryz.ntmps51]) fun X=>?_;simp only [Tryz.ntmps51,List.map];refine ZW fw [0,4,5] [4,5] ?_;refine ck fw 4 ?_;refine ck fw 5 ?_;refine ae fun K1 ay=>?_;refine ZW fw [4,5,14] [] ?_;refine aR ?_;refine ZW fw [4,5,14,16,17] [] ?_;refine ag rfl ?_;refine ZW fw [4,5,14,20,21] [] ?_;refine ak rfl ?_;refine ZW fw [4,8] [] ?_;refine Z6 fw hi [6] [] ?_;exact aK fw
  | fQ s=>
   rw [fq] at eK;have hi:=h1 s eK.1;have hw:=h2 s eK.2;rw [dE,evE]
   cases hs:is s with
   | false=>
    rw [hs] at hi;refine aw.aD (ZZ _) Tryz.func51 rfl rfl (rs:=[.tmp 6]) Tryz.results51 (by simp [Tryz.ntmps51]) fun X=>?_;simp only [Tryz.ntmps51,List.map];refine ZW fw [0,4,5] [4,5] ?_;refine ck fw 4 ?_;refine ck fw 5 ?_;refine ae fun K1 ay=>?_;refine ZW fw [4,5,14] [] ?_;refine aR ?_;refine ZW fw [4,5,14,16,17] [] ?_;refine ag rfl ?_;refine ZW fw [4,5,14,20,21] [] ?_;refine ag rfl ?_;refine ZW fw [4,5,14,26,27] [] ?_;refine ak rfl ?_;refine ZW fw [4,5,9] [] ?_;refine Z6 fw hi [6] [] ?_;exact aK fw
   | true=>
    rw [hs] at hi;refine aw.aD (ZZ _) Tryz.func51 rfl rfl (rs:=[.tmp 6]) Tryz.results51 (by simp [Tryz.ntmps51]) fun X=>?_;simp only [Tryz.ntmps51,List.map];refine ZW fw [0,4,5] [4,5] ?_;refine ck fw 4 ?_;refine ck fw 5 ?_;refine ae fun K1 ay=>?_;refine ZW fw [4,5,14] [] ?_;refine aR ?_;refine ZW fw [4,5,14,16,17] [] ?_;refine ag rfl ?_;refine ZW fw [4,5,14,20,21] [] ?_;refine ag rfl ?_;refine ZW fw [4,5,14,26,27] [] ?_;refine ak rfl ?_;refine ZW fw [4,5,9] [] ?_;refine rg [6] [] (fun _ _=>trivial) fun K' af=>?_;(repeat (refine Z0 fun K2 aa=>?_;simp [ab,dS,bl,aai];(repeat (refine ⟨by omega,?_⟩));refine aa _ ?_;clear aa K2));refine Z0 fun K2 aa=>?_;simp [ab,dS,bl,aai];refine aap.data (hi) (by simp;rfl) (by first | exact D.bn _ | simp [aB,List.map_map,Function.comp_def,D.le,D.le.go,D.le_refl,D.bn,ab,dS,bl,aai]) ?_;refine aa _ ?_;clear aa K2;simp only [Z2,dk];(repeat (refine Z0 fun K2 aa=>?_;simp [ab,dS,bl,aai];(repeat (refine ⟨by omega,?_⟩));refine aa _ ?_;clear aa K2));refine Z0 fun K2 aa=>?_;simp [ab,dS,bl,aai];refine aap.data (hw) (by simp;rfl) (by first | exact D.bn _ | simp [aB,List.map_map,Function.comp_def,D.le,D.le.go,D.le_refl,D.bn,ab,dS,bl,aai]) ?_;refine aa _ ?_;clear aa K2;simp only [Z2,dk];(repeat (refine Z0 fun K2 aa=>?_;simp [ab,dS,bl,aai];(repeat (refine ⟨by omega,?_⟩));refine aa _ ?_;clear aa K2));refine Z9 (af _ (AW.st (by simp [ab,dS,bl,aai];rfl) ?_));clear af K';exact aK fw
  | fC s=>
   rw [fq] at eK;have hi:=h1 s eK.1;have hw:=h2 s eK.2;rw [dE,evE]
   cases hs:is s with
   | true=>
    rw [hs] at hi;refine aw.aD (ZZ _) Tryz.func51 rfl rfl (rs:=[.tmp 6]) Tryz.results51 (by simp [Tryz.ntmps51]) fun X=>?_;simp only [Tryz.ntmps51,List.map];refine ZW fw [0,4,5] [4,5] ?_;refine ck fw 4 ?_;refine ck fw 5 ?_;refine ae fun K1 ay=>?_;refine ZW fw [4,5,14] [] ?_;refine aR ?_;refine ZW fw [4,5,14,16,17] [] ?_;refine ag rfl ?_;refine ZW fw [4,5,14,20,21] [] ?_;refine ag rfl ?_;refine ZW fw [4,5,14,26,27] [] ?_;refine ag rfl ?_;refine ZW fw [4,5,14,38,39] [] ?_;refine ak rfl ?_;refine ZW fw [4,5,10] [] ?_;refine Z6 fw hi [6] [] ?_;exact aK fw
   | false=>
    rw [hs] at hi;refine aw.aD (ZZ _) Tryz.func51 rfl rfl (rs:=[.tmp 6]) Tryz.results51 (by simp [Tryz.ntmps51]) fun X=>?_;simp only [Tryz.ntmps51,List.map];refine ZW fw [0,4,5] [4,5] ?_;refine ck fw 4 ?_;refine ck fw 5 ?_;refine ae fun K1 ay=>?_;refine ZW fw [4,5,14] [] ?_;refine aR ?_;refine ZW fw [4,5,14,16,17] [] ?_;refine ag rfl ?_;refine ZW fw [4,5,14,20,21] [] ?_;refine ag rfl ?_;refine ZW fw [4,5,14,26,27] [] ?_;refine ag rfl ?_;refine ZW fw [4,5,14,38,39] [] ?_;refine ak rfl ?_;refine ZW fw [4,5,10] [] ?_;refine rg [6] [] (fun _ _=>trivial) fun K' af=>?_;(repeat (refine Z0 fun K2 aa=>?_;simp [ab,dS,bl,aai];(repeat (refine ⟨by omega,?_⟩));refine aa _ ?_;clear aa K2));refine Z0 fun K2 aa=>?_;simp [ab,dS,bl,aai];refine aap.data (hi) (by simp;rfl) (by first | exact D.bn _ | simp [aB,List.map_map,Function.comp_def,D.le,D.le.go,D.le_refl,D.bn,ab,dS,bl,aai]) ?_;refine aa _ ?_;clear aa K2;simp only [Z2,dk];(repeat (refine Z0 fun K2 aa=>?_;simp [ab,dS,bl,aai];(repeat (refine ⟨by omega,?_⟩));refine aa _ ?_;clear aa K2));refine Z0 fun K2 aa=>?_;simp [ab,dS,bl,aai];refine aap.data (hw) (by simp;rfl) (by first | exact D.bn _ | simp [aB,List.map_map,Function.comp_def,D.le,D.le.go,D.le_refl,D.bn,ab,dS,bl,aai]) ?_;refine aa _ ?_;clear aa K2;simp only [Z2,dk];(repeat (refine Z0 fun K2 aa=>?_;simp [ab,dS,bl,aai];(repeat (refine ⟨by omega,?_⟩));refine aa _ ?_;clear aa K2));refine Z9 (af _ (AW.st (by simp [ab,dS,bl,aai];rfl) ?_));clear af K';exact aK fw
  | not x=>
   have hc:=ih x (by simp at aI;omega) (by rwa [fq] at eK) (by simp only [bE] at hb;omega);obtain ⟨tx,cx,hx⟩:=abq x;rw [dE,evE,hx];rw [hx] at hc;generalize evE is bD x=r at hc ⊢;refine aw.aD (ZZ _) Tryz.func51 rfl rfl (rs:=[.tmp 6]) Tryz.results51 (by simp [Tryz.ntmps51]) fun X=>?_;simp only [Tryz.ntmps51,List.map];refine ZW fw [0,4,5] [4,5] ?_;refine ck fw 4 ?_;refine ck fw 5 ?_;refine ae fun K1 ay=>?_;refine ZW fw [4,5,14] [] ?_;refine aR ?_;refine ZW fw [4,5,14,16,17] [] ?_;refine ag rfl ?_;refine ZW fw [4,5,14,20,21] [] ?_;refine ag rfl ?_;refine ZW fw [4,5,14,26,27] [] ?_;refine ag rfl ?_;refine ZW fw [4,5,14,38,39] [] ?_;refine ag rfl ?_;refine ZW fw [4,5,14,50,51] [] ?_;refine ak rfl ?_;refine ZW fw [4,5,11] [11] ?_;refine Z6 fw hc [6] [11] ?_;exact aK fw
  | and l=>
   have jt:∀ x∈l,aw Tryz.prog G 103 [dE x,.ip [.fn (.func g1) c1],.ip [.fn (.func g2) c2]] (.v (.bool (!evE is bD x))):=fun x hx=>by
    have hc:=ih x (by have:=List.sizeOf_lt_of_mem hx;simp only [Ex.and.sizeOf_spec] at aI;omega) (by rw [fq,ur] at eK;exact eK x hx) (by have:=uE hx;simp only [bE] at hb;omega);obtain ⟨tx,cx,Db⟩:=abq x;rw [Db] at hc ⊢;generalize evE is bD x=r at hc ⊢;refine aw.aD (ZZ _) Tryz.func103 rfl rfl (rs:=[.tmp 4]) Tryz.results103 (by simp [Tryz.ntmps103]) fun X=>?_;simp only [Tryz.ntmps103,List.map];refine ZW fw [0,1,2] [] ?_;refine Z6 fw hc [4] [] ?_;exact aK fw
   have kM:=o7 l;have vq:=M6 G none l 103 [.ip [.fn (.func g1) c1],.ip [.fn (.func g2) c2]] (fun x=>!evE is bD x) (by simp only [bE] at hb;omega) jt;rw [dE,n5,evE,Gl];generalize l.any (fun x=>!evE is bD x)=r at vq ⊢;refine aw.aD (ZZ _) Tryz.func51 rfl rfl (rs:=[.tmp 6]) Tryz.results51 (by simp [Tryz.ntmps51]) fun X=>?_;simp only [Tryz.ntmps51,List.map];refine ZW fw [0,4,5] [4,5] ?_;refine ck fw 4 ?_;refine ck fw 5 ?_;refine ae fun K1 ay=>?_;refine ZW fw [4,5,14] [] ?_;refine aR ?_;refine ZW fw [4,5,14,16,17] [] ?_;refine ag rfl ?_;refine ZW fw [4,5,14,20,21] [] ?_;refine ag rfl ?_;refine ZW fw [4,5,14,26,27] [] ?_;refine ag rfl ?_;refine ZW fw [4,5,14,38,39] [] ?_;refine ag rfl ?_;refine ZW fw [4,5,14,50,51] [] ?_;refine ag rfl ?_;refine ZW fw [4,5,14,59,60] [] ?_;refine ak rfl ?_;refine ZW fw [4,5,12] [] ?_;refine Z6 fw vq [6] [] ?_;exact aK fw
  | or l=>
   have jt:∀ x∈l,aw Tryz.prog G 105 [dE x,.ip [.fn (.func g1) c1],.ip [.fn (.func g2) c2]] (.v (.bool (evE is bD x))):=fun x hx=>by
    have hc:=ih x (by have:=List.sizeOf_lt_of_mem hx;simp only [Ex.or.sizeOf_spec] at aI;omega) (by rw [fq,ur] at eK;exact eK x hx) (by have:=uE hx;simp only [bE] at hb;omega);obtain ⟨tx,cx,Db⟩:=abq x;rw [Db] at hc ⊢;generalize evE is bD x=r at hc ⊢;refine aw.aD (ZZ _) Tryz.func105 rfl rfl (rs:=[.tmp 4]) Tryz.results105 (by simp [Tryz.ntmps105]) fun X=>?_;simp only [Tryz.ntmps105,List.map];refine ZW fw [0,1,2] [] ?_;refine Z6 fw hc [4] [] ?_;exact aK fw
   have kM:=o7 l;have vq:=M7 G none l 105 [.ip [.fn (.func g1) c1],.ip [.fn (.func g2) c2]] (fun x=>evE is bD x) (by simp only [bE] at hb;omega) jt;rw [dE,n5,evE,Gm];generalize l.any (fun x=>evE is bD x)=r at vq ⊢;refine aw.aD (ZZ _) Tryz.func51 rfl rfl (rs:=[.tmp 6]) Tryz.results51 (by simp [Tryz.ntmps51]) fun X=>?_;simp only [Tryz.ntmps51,List.map];refine ZW fw [0,4,5] [4,5] ?_;refine ck fw 4 ?_;refine ck fw 5 ?_;refine ae fun K1 ay=>?_;refine ZW fw [4,5,14] [] ?_;refine aR ?_;refine ZW fw [4,5,14,16,17] [] ?_;refine ag rfl ?_;refine ZW fw [4,5,14,20,21] [] ?_;refine ag rfl ?_;refine ZW fw [4,5,14,26,27] [] ?_;refine ag rfl ?_;refine ZW fw [4,5,14,38,39] [] ?_;refine ag rfl ?_;refine ZW fw [4,5,14,50,51] [] ?_;refine ag rfl ?_;refine ZW fw [4,5,14,59,60] [] ?_;refine ag rfl ?_;refine ZW fw [4,5,66,67] [] ?_;refine ak rfl ?_;refine ZW fw [4,5,13] [] ?_;refine Z6 fw vq [6] [] ?_;exact aK fw
theorem afz (G:ao) (g1 g2:FuncId) (c1 c2:List D) (is bD:List UInt8->Bool) (S1 S2:List UInt8->Prop) (h1:lJ S1 G g1 c1 is) (h2:lJ S2 G g2 c2 bD) (e:Ex) (ha:fq S1 S2 e) (hb:bE e<=2^28):aw Tryz.prog G 51 [dE e,.fn (.func g1) c1,.fn (.func g2) c2] (.v (.bool (evE is bD e))):=
 eval_at G g1 g2 c1 c2 is bD S1 S2 h1 h2 _ e (Nat.le_refl _) ha hb
theorem la:(⟨#[97]⟩:ByteArray)=bs [97]:=rfl
theorem lb:(⟨#[98]⟩:ByteArray)=bs [98]:=rfl
structure NmP where
 name:Tx
 kind:Int
 count:Int
structure RgP where
 kind:Int
 name:Tx
 cond:Option Ex
structure aF where
 names:List NmP
 ZY:List RgP
def bB (p:aF) (s:Tx):Int:=idx (fun n:NmP=>n.name == s) p.names
theorem Ja (p:aF) {i:Nat} (hi:i < p.names.length):0<=bB p p.names[i].name/\bB p p.names[i].name<=i:=by
 have aL:¬ bB p p.names[i].name < 0:=fun h=>by
  have:=Rg h _ (List.getElem_mem hi);simp at this
 obtain ⟨k,hk,he,_⟩:=oS aL;refine ⟨by omega,?_⟩;apply Classical.byContradiction;intro ax
 have vx:i < k:=by unfold bB at ax;omega
 unfold idx at he
 cases hf:p.names.findIdx? (fun n:NmP=>n.name == p.names[i].name) with
 | none=>rw [hf] at he;simp at he
 | some k'=>
  rw [hf] at he;simp only [Int.ofNat.injEq,Int.natCast_inj] at he
  have ie:k'=k:=by simpa using he
  subst ie;have:=(List.findIdx?_eq_some_iff_getElem.1 hf).2.2 i vx;simp at this
def jP {α:Type} (f:Nat->α->Int):List α->Nat->Option (Int×Nat)
 | [],_=>none
 | x :: l,i=>if f i x=0 then jP f l (i+1) else some (f i x,i)
theorem uT {α:Type} {f:Nat->α->Int}:∀ {l:List α} {i:Nat} {e:Int} {k:Nat},jP f l i=some (e,k)->i<=k/\k < i+l.length/\e≠0
 | x :: l,i,e,k,h=>by
  rw [jP] at h;split at h
  .have:=uT h;simp only [List.length_cons];omega
  .rename_i aL;simp only [Option.some.injEq,Prod.mk.injEq] at h;obtain ⟨h1,h2⟩:=h;rw [h1] at aL;simp only [List.length_cons];exact ⟨by omega,by omega,aL⟩
theorem xX {α:Type} {f:Nat->α->Int}:∀ {l:List α} {i:Nat},jP f l i=none->∀ k (hk:k < l.length),f (i+k) l[k]=0
 | x :: l,i,h,k,hk=>by
  rw [jP] at h;split at h
  .rename_i h0
   cases k with
   | zero=>simpa using h0
   | succ k=>
    have:=xX h k (by simpa using hk);simpa [Nat.add_assoc,Nat.add_comm 1 k] using this
  .cases h
def xI (n:NmP):Bool:=decide (n.kind=3) || decide (n.kind=4)
def jN (p:aF) (i:Nat) (n:NmP):Int:=
 if !fL n.name then 5 else if decide (n.kind < 1) || decide (n.kind > 4) then 1 else if (xI n && (decide (n.count < 1) || decide (n.count > 7))) || (!xI n && decide (n.count≠0)) then 2 else if bB p n.name < i then 9 else 0
def gp (k:Int):Int:=if k<=3 then 2 else if k=4 then 3 else 4
def ir (p:aF) (r:RgP):Int:=match r.cond with
 | none=>1
 | some e=>if decide (r.kind < 1) || decide (r.kind > 6) then 1 else if bB p r.name < 0 then 7
  else if gp r.kind≠(p.names.getD (bB p r.name).toNat ⟨[],0,0⟩).kind then 1 else if (aaE true e).any fun s=>decide (bB p s < 0) then 7 else 0
def aar (p:aF):Option (Int×Option Nat):=
 if p.names.length > 12\/p.ZY.length > 40 then some (4,none) else match jP (jN p) p.names 0 with
  | some (e,i)=>some (e,some i)
  | none=>match jP (fun _ r=>ir p r) p.ZY 0 with
   | some (e,i)=>some (e,some (p.names.length+i))
   | none=>none
def aeR (p:aF) (i:Nat) (n:NmP):Int:=
 if !fL n.name then 5 else if !(decide (1<=n.kind) && decide (n.kind<=4)) then 1 else if (decide (n.kind >= 3) && !(decide (1<=n.count) && decide (n.count<=7))) || (decide (n.kind < 3) && decide (n.count≠0)) then 2 else if bB p n.name≠i then 9 else 0
theorem Mt (p:aF) (i:Nat) (hi:i < p.names.length):aeR p i p.names[i]=jN p i p.names[i]:=by
 have hle:=Ja p hi;generalize hn:p.names[i]=n at hle ⊢;unfold jN aeR xI
 cases ig:fL n.name with
 | false=>simp
 | true=>
  by_cases hk:1<=n.kind/\n.kind<=4
  .have e1:(!(decide (1<=n.kind) && decide (n.kind<=4)))=false:=by simp [hk.1,hk.2]
   have e2:(decide (n.kind < 1) || decide (n.kind > 4))=false:=by simp;omega
   have e3:((decide (n.kind >= 3) && !(decide (1<=n.count) && decide (n.count<=7))) || (decide (n.kind < 3) && decide (n.count≠0)))=(((decide (n.kind=3) || decide (n.kind=4)) && (decide (n.count < 1) || decide (n.count > 7))) || (!(decide (n.kind=3) || decide (n.kind=4)) && decide (n.count≠0))):=by
    have:n.kind=1\/n.kind=2\/n.kind=3\/n.kind=4:=by omega
    have ec:(!(decide (1<=n.count) && decide (n.count<=7)))=(decide (n.count < 1) || decide (n.count > 7)):=by
     by_cases h1:1<=n.count<;>by_cases h2:n.count<=7<;>simp [h1,h2]<;>omega
    rw [ec]
    rcases this with h | h | h | h<;>simp [h]
   rw [e1,e2,e3];have e4:(bB p n.name≠(i:Int))=(bB p n.name < (i:Int)):=propext ⟨fun h=>by omega,fun h=>by omega⟩;simp only [e4]
  .have e1:(!(decide (1<=n.kind) && decide (n.kind<=4)))=true:=by
    rw [<- Bool.decide_and];simp;omega
   have e2:(decide (n.kind < 1) || decide (n.kind > 4))=true:=by simp;omega
   rw [e1,e2];simp
structure abl (p:aF):Prop where
 names:p.names.length<=12
 ZY:p.ZY.length<=40
 name:∀ n∈p.names,fL n.name=true/\1<=n.kind/\n.kind<=4
 count:∀ n∈p.names,(n.kind < 3/\n.count=0)\/(3<=n.kind/\1<=n.count/\n.count<=7)
 num:∀ i (hi:i < p.names.length),bB p p.names[i].name=i
theorem gC {p:aF} (h:aar p=none):abl p:=by
 unfold aar at h;split at h
 .cases h
 .rename_i hl;split at h
  .cases h
  .rename_i hN;have bx:=fun i hi=>xX hN i hi
   have one:∀ i (hi:i < p.names.length),fL p.names[i].name=true/\1<=p.names[i].kind/\p.names[i].kind<=4/\((p.names[i].kind < 3/\p.names[i].count=0)\/(3<=p.names[i].kind/\1<=p.names[i].count/\p.names[i].count<=7))/\bB p p.names[i].name=i:=fun i hi=>by
    have hb:=bx i hi;have hle:=Ja p hi;rw [Nat.zero_add] at hb;generalize p.names[i]=n at hb hle ⊢;unfold jN xI at hb;split at hb
    .omega
    .rename_i h1;split at hb
     .omega
     .rename_i h2;split at hb
      .omega
      .rename_i h3;split at hb
       .omega
       .rename_i h4;simp at h1 h2 h3;refine ⟨h1,by omega,by omega,?_,by omega⟩;by_cases hk:n.kind=3\/n.kind=4
        .exact .inr ⟨by omega,by have:=h3.1 hk;omega,by have:=h3.1 hk;omega⟩
        .have:=h3.2 (by omega) (by omega);exact .inl ⟨by omega,by omega⟩
   refine ⟨by omega,by omega,fun n hn=>?_,fun n hn=>?_,fun i hi=>(one i hi).2.2.2.2⟩
   .obtain ⟨i,hi,rfl⟩:=List.mem_iff_getElem.1 hn;exact ⟨(one i hi).1,(one i hi).2.1,(one i hi).2.2.1⟩
   .obtain ⟨i,hi,rfl⟩:=List.mem_iff_getElem.1 hn;exact (one i hi).2.2.2.1
def Z3 (n:NmP):List D:=[dS n.name,.v (.int .i64 n.kind),.v (.int .i64 n.count)]
def xL (n:NmP):D:=.agg (Z3 n)
def bR (l:List NmP):D:=.sl none (l.map Z3)
def dC (c:Option Ex):D:=match c with
 | none=>.v .nilIface
 | some e=>dE e
def cg (r:RgP):List D:=[.v (.int .i64 r.kind),dS r.name,dC r.cond]
def Bh (r:RgP):D:=.agg (cg r)
def dW (l:List RgP):D:=.sl none (l.map cg)
def cPg (p:aF):List D:=[bR p.names,dW p.ZY]
def dw (p:aF):D:=.agg (cPg p)
set_option maxHeartbeats 1000000 in
theorem Ro (G:ao) (k:Option Bool) (xs:List NmP) (g:FuncId) (caps:List D) (p:NmP->Bool) (hl:xs.length < 2^62) (ha:Au G g caps xL p xs) :
  aw Tryz.prog G 153 [.sl k (xs.map Z3),.fn (.func g) caps] (.v (.int .i64 (idx p xs))):=by
 refine aw.aD (ZZ _) Tryz.func153 rfl rfl (rs:=[.tmp 4]) Tryz.results153 (by simp [Tryz.ntmps153]) fun X=>?_;simp only [Tryz.ntmps153,List.map];refine aq [0,1] [] ?_;refine ae fun K1 ay=>?_;refine aq [0,1,7,8] [] ?_;refine aam (S:=Nat) (fun n=>n<=xs.length/\∀ i (hi:i < xs.length),i < n->p xs[i]=false) (fun n=>⟨aX [(0,.d (.sl k (xs.map Z3))),(1,.d (.fn (.func g) caps)),(7,int xs.length),(8,int n)],ZX []⟩) (fun n=>xs.length - n) 0 ?_ (by simp) ?_
 .refine cw
 .rintro n ⟨hn,hp⟩;refine aq [0,1,7,8,9] [] ?_;refine ae fun K2 aa=>?_;refine dG (b:=n < xs.length) (by simp [D.le,D.le.go,aB]) (fun hc=>?_) (fun hc=>?_)
  .refine ah (aa _ ?_);refine ae fun K3 aQ=>?_;refine aR ?_;refine aq [0,1,5,7,8] [] ?_;have oo:=ha xs[n] (by simp);simp only [xL,Z3] at oo;have qf:=(Aq @hc @Z3.eq_1);refine aaF oo [0,1,5,7,8,16] [] ?_;refine acI _ rfl (fun eZ=>?_) (fun eZ=>?_)
   .refine aq [4] [] ?_;refine bk ?_;simp [D.le,D.le.go,aB];exact (rB hc eZ fun i hi=>hp i (by omega) hi).symm
   .refine ah (aQ _ ?_);refine cI ?_;(try simp only [aM,aP]);refine aV.mk (n+1) ⟨by omega,fun i hi aC=>?_⟩ (by omega) ?_
    .by_cases h:i=n
     .subst h;exact eZ
     .exact hp i hi (by omega)
    refine cw
  .refine bH (ay _ ?_);refine aq [4] [] ?_;refine bk ?_;simp [D.le,D.le.go,aB];exact (rC fun i hi=>hp i hi (by omega)).symm
set_option maxHeartbeats 1000000 in
theorem Rr (G:ao) (k:Option Bool) (xs:List (List UInt8)) (g:FuncId) (caps:List D) (p:(List UInt8)->Bool) (hl:xs.length < 2^62) (ha:Au G g caps dS p xs) :
  aw Tryz.prog G 155 [.sl k (xs.map (fun s=>[dS s])),.fn (.func g) caps] (.v (.int .i64 (idx p xs))):=by
 refine aw.aD (ZZ _) Tryz.func155 rfl rfl (rs:=[.tmp 4]) Tryz.results155 (by simp [Tryz.ntmps155]) fun X=>?_;simp only [Tryz.ntmps155,List.map];refine aq [0,1] [] ?_;refine ae fun K1 ay=>?_;refine aq [0,1,7,8] [] ?_;refine aam (S:=Nat) (fun n=>n<=xs.length/\∀ i (hi:i < xs.length),i < n->p xs[i]=false) (fun n=>⟨aX [(0,.d (.sl k (xs.map (fun s=>[dS s])))),(1,.d (.fn (.func g) caps)),(7,int xs.length),(8,int n)],ZX []⟩) (fun n=>xs.length - n) 0 ?_ (by simp) ?_
 .refine aU @dS.eq_1
 .rintro n ⟨hn,hp⟩;refine aq [0,1,7,8,9] [] ?_;refine ae fun K2 aa=>?_;refine dG (b:=n < xs.length) (by simp [D.le,D.le.go,aB]) (fun hc=>?_) (fun hc=>?_)
  .refine ah (aa _ ?_);refine ae fun K3 aQ=>?_;refine aR ?_;refine aq [0,1,5,7,8] [] ?_;have oo:=ha xs[n] (by simp);simp only [dS] at oo;have qf:=(Aq @hc @dS.eq_1);refine aaF oo [0,1,5,7,8,16] [] ?_;refine acI _ rfl (fun eZ=>?_) (fun eZ=>?_)
   .refine aq [4] [] ?_;refine bk ?_;simp [D.le,D.le.go,aB];exact (rB hc eZ fun i hi=>hp i (by omega) hi).symm
   .refine ah (aQ _ ?_);refine cI ?_;(try simp only [aM,aP]);refine aV.mk (n+1) ⟨by omega,fun i hi aC=>?_⟩ (by omega) ?_
    .by_cases h:i=n
     .subst h;exact eZ
     .exact hp i hi (by omega)
    refine aU @dS.eq_1
  .refine bH (ay _ ?_);refine aq [4] [] ?_;refine bk ?_;simp [D.le,D.le.go,aB];exact (rC fun i hi=>hp i hi (by omega)).symm
set_option maxHeartbeats 1000000 in
theorem M8 (G:ao) (k:Option Bool) (xs:List (List UInt8)) (g:FuncId) (caps:List D) (p:List UInt8->Bool) (hl:xs.length < 2^62) (ha:Au G g caps dS p xs) :
  aw Tryz.prog G 108 [.sl k (xs.map fun s=>[dS s]),.fn (.func g) caps] (.v (.bool (xs.any p))):=by
 refine aw.aD (ZZ _) Tryz.func108 rfl rfl (rs:=[.tmp 4]) Tryz.results108 (by simp [Tryz.ntmps108]) fun X=>?_;simp only [Tryz.ntmps108,List.map];refine aq [0,1] [] ?_;refine Z6 trivial (Rr G k xs g caps p hl ha) [4] [] ?_;refine bk ?_;simp [D.le,D.le.go,aB];exact De p xs
set_option maxHeartbeats 1000000 in
theorem Si (G:ao) (n:NmP) (s:List UInt8):aw Tryz.prog G 154 [xL n,.ip [dS s]] (.v (.bool (n.name == s))):=by
 simp only [xL,Z3,dS];refine aw.aD (ZZ _) Tryz.func154 rfl rfl (rs:=[.tmp 3]) Tryz.results154 (by simp [Tryz.ntmps154]) fun X=>?_;simp only [Tryz.ntmps154,List.map];refine aq [1,2] [2] ?_;refine rg [3] [2] (fun _ _=>trivial) fun K' af=>?_;(repeat (refine Z0 fun K2 aa=>?_;simp [aN,aT];(repeat (refine ⟨by omega,?_⟩));refine aa _ ?_;clear aa K2));refine Z9 (af _ (AW.st (by simp [aN,aT];rfl) ?_));clear af K';exact gm
set_option maxHeartbeats 1000000 in
theorem rI (G:ao) (p:aF) (hp:p.names.length < 2^62) (s:List UInt8):aw Tryz.prog G 107 [dw p,dS s] (.v (.int .i64 (bB p s))):=by
 have hi:=Ro G none p.names 154 [.ip [dS s]] (fun n=>n.name == s) hp fun n _=>Si G n s;unfold bB;simp only [dw,cPg,bR,dS] at hi ⊢;generalize dW p.ZY=R at *;generalize idx (fun n:NmP=>n.name == s) p.names=z at hi ⊢;refine aw.aD (ZZ _) Tryz.func107 rfl rfl (rs:=[.tmp 4]) Tryz.results107 (by simp [Tryz.ntmps107]) fun X=>?_;simp only [Tryz.ntmps107,List.map];refine ZW @dW.eq_1 [2,3] [2,3] ?_;refine dX 3 ?_;refine Z6 trivial hi [4] [2] ?_;exact gm
set_option maxHeartbeats 1000000 in
theorem Iz (G:ao) (p:aF) (hp:p.names.length < 2^62) (s:List UInt8):aw Tryz.prog G 181 [dS s,.ip (cPg p)] (.v (.bool (decide (bB p s < 0)))):=by
 have hi:=rI G p hp s;simp only [dw,cPg,bR,dW,dS] at hi ⊢;refine aw.aD (ZZ _) Tryz.func181 rfl rfl (rs:=[.tmp 3]) Tryz.results181 (by simp [Tryz.ntmps181]) fun X=>?_;simp only [Tryz.ntmps181,List.map];refine aq [0,1] [] ?_;refine Z6 trivial hi [3] [] ?_;exact gm
structure LJ (T:Prop):Prop where
 out:T
theorem ze {T U:Prop} (h:LJ T->U) (t:T):U:=h ⟨t⟩
theorem Jb {p:aF} {s:List UInt8} (h:¬ bB p s < 0):∃ k:Nat,∃ hk:k < p.names.length,bB p s=k:=by
 obtain ⟨k,hk,he,_⟩:=oS h;exact ⟨k,hk,he⟩
set_option maxHeartbeats 8000000 in
theorem Sh (G:ao) (p:aF) (hp:p.names.length < 2^62) (r:RgP) (hb:∀ e,r.cond=some e->bE e<=2^28/\(aaE true e).length < 2^62):aw Tryz.prog G 126 [dw p,Bh r] (.v (.int .i64 (ir p r))):=by
 obtain ⟨kind,name,cond⟩:=r;dsimp only at hb;have bA:=rI G p hp name;have aY:=fun s=>Iz G p hp s;simp only [dw,cPg,bR,dW,Bh,cg,dS] at bA aY ⊢
 cases cond with
 | none=>
  have gX:ir p ⟨kind,name,none⟩=1:=rfl;generalize ir p ⟨kind,name,none⟩=res at gX;refine aw.aD (ZZ _) Tryz.func126 rfl rfl (rs:=[.tmp 4]) Tryz.results126 (by simp [Tryz.ntmps126]) fun X=>?_;simp only [Tryz.ntmps126,List.map];have fw:=(Aq @dC.eq_1 @dC.eq_2);refine ZW fw [2,3] [2,3] ?_;refine ae fun K1 ay=>?_;by_cases h1:kind < 1
  .have qf:=(Aq fw @h1);refine al [2,3,19] [2,3] ?_;refine ak rfl ?_;refine ZW fw [4] [] ?_;exact aK (Aq fw @gX)
  .by_cases h2:kind > 6
   .have qf:=(Aq fw (Aq @h1 @h2));refine al [2,3,19] [2,3] ?_;refine ak rfl ?_;refine ZW fw [4] [] ?_;exact aK (Aq fw @gX)
   .have qf:=(Aq fw (Aq @h1 @h2));refine al [2,3,19] [2,3] ?_;refine ak rfl ?_;refine ZW fw [4] [] ?_;exact aK (Aq fw @gX)
 | some e=>
  have gX:ir p ⟨kind,name,some e⟩=if decide (kind < 1) || decide (kind > 6) then 1 else if bB p name < 0 then 7
   else if gp kind≠(p.names.getD (bB p name).toNat ⟨[],0,0⟩).kind then 1 else if (aaE true e).any fun s=>decide (bB p s < 0) then 7 else 0:=rfl
  generalize ir p ⟨kind,name,some e⟩=res at gX;obtain ⟨B3,eg⟩:=hb e rfl;have fG:=Uy G e B3;have py:=M8 G none (aaE true e) 181 [.ip (cPg p)] (fun s=>decide (bB p s < 0)) eg fun s _=>Iz G p hp s;have B9:dC (some e)=dE e:=rfl;rw [B9];obtain ⟨tx,cx,hx⟩:=abq e;rw [hx] at fG ⊢;simp only [cPg,bR,dW,dS] at fG py;generalize ((aaE true e).any fun s=>decide (bB p s < 0))=an at gX py;generalize aaE true e=nm at fG py;refine aw.aD (ZZ _) Tryz.func126 rfl rfl (rs:=[.tmp 4]) Tryz.results126 (by simp [Tryz.ntmps126]) fun X=>?_;simp only [Tryz.ntmps126,List.map];have fw:=(Aq @dC.eq_1 @dC.eq_2);refine ZW fw [2,3] [2,3] ?_;refine ck fw 2 ?_;refine ck fw 3 ?_;refine ae fun K1 ay=>?_;by_cases h1:kind < 1
  .rw [if_pos (by simp [h1])] at gX;have qf:=(Aq fw @h1);refine al [2,3,19] [] ?_;refine ak rfl ?_;refine ZW fw [4] [] ?_;exact aK (Aq fw @gX)
  by_cases h2:kind > 6
  .rw [if_pos (by simp [h2])] at gX;have qf:=(Aq fw (Aq @h1 @h2));refine al [2,3,19] [] ?_;refine ak rfl ?_;refine ZW fw [4] [] ?_;exact aK (Aq fw @gX)
  rw [if_neg (by simp [h1,h2])] at gX;have qf:=(Aq fw (Aq @h1 @h2));refine al [2,3,19] [] ?_;refine ag rfl ?_;refine ah (ay _ ?_);refine Z6 fw bA [2,3,5] [] ?_;refine ae fun K2 aa=>?_;refine ZW fw [2,3,5,25] [] ?_;by_cases h3:bB p name < 0
  .rw [if_pos h3] at gX;refine ak (by simp [h3]) ?_;refine ZW fw [4] [] ?_;exact aK (Aq fw @gX)
  rw [if_neg h3] at gX;obtain ⟨k,hk,hke⟩:=Jb h3
  have ja:p.names.getD (bB p name).toNat ⟨[],0,0⟩=p.names[k]:=by
   rw [hke,Int.toNat_natCast,List.getD_eq_getElem?_getD,List.getElem?_eq_getElem hk];rfl
  rw [ja] at gX;refine ag (by simp [h3]) ?_;refine ah (aa _ ?_);refine ae fun K3 aQ=>?_;have aa7:Z3 p.names[k]=[dS p.names[k].name,.v (.int .i64 p.names[k].kind),.v (.int .i64 p.names[k].count)]:=rfl;generalize ie:p.names[k].kind=kk at gX aa7
  refine' ze (fun b5=>?_) ?_
  rotate_left
  .have hk0:=h1;by_cases hk1:kind=1
   .have qf:=(Aq fw @hk1);refine al [2,3,5,6] [] ?_;refine AW.st (show _=(⟨aX [(2,.d (.ip [.sl none (p.names.map Z3),.sl none (p.ZY.map cg)])),(3,.d (.ip [.v (.int .i64 kind),.v (.string (bs name)),.br tx cx])),(5,int (bB p name)),(6,int (gp kind))],ZX []⟩:St) by rw [hk1]<;>rfl) ?_;exact b5.out
   by_cases hk1:kind=2
   .have qf:=(Aq fw @hk1);refine al [2,3,5,6] [] ?_;refine AW.st (show _=(⟨aX [(2,.d (.ip [.sl none (p.names.map Z3),.sl none (p.ZY.map cg)])),(3,.d (.ip [.v (.int .i64 kind),.v (.string (bs name)),.br tx cx])),(5,int (bB p name)),(6,int (gp kind))],ZX []⟩:St) by rw [hk1]<;>rfl) ?_;exact b5.out
   by_cases hk1:kind=3
   .have qf:=(Aq fw @hk1);refine al [2,3,5,6] [] ?_;refine AW.st (show _=(⟨aX [(2,.d (.ip [.sl none (p.names.map Z3),.sl none (p.ZY.map cg)])),(3,.d (.ip [.v (.int .i64 kind),.v (.string (bs name)),.br tx cx])),(5,int (bB p name)),(6,int (gp kind))],ZX []⟩:St) by rw [hk1]<;>rfl) ?_;exact b5.out
   by_cases hk1:kind=4
   .have qf:=(Aq fw @hk1);refine al [2,3,5,6] [] ?_;refine AW.st (show _=(⟨aX [(2,.d (.ip [.sl none (p.names.map Z3),.sl none (p.ZY.map cg)])),(3,.d (.ip [.v (.int .i64 kind),.v (.string (bs name)),.br tx cx])),(5,int (bB p name)),(6,int (gp kind))],ZX []⟩:St) by rw [hk1]<;>rfl) ?_;exact b5.out
   by_cases hk1:kind=5
   .have qf:=(Aq fw @hk1);refine al [2,3,5,6] [] ?_;refine AW.st (show _=(⟨aX [(2,.d (.ip [.sl none (p.names.map Z3),.sl none (p.ZY.map cg)])),(3,.d (.ip [.v (.int .i64 kind),.v (.string (bs name)),.br tx cx])),(5,int (bB p name)),(6,int (gp kind))],ZX []⟩:St) by rw [hk1]<;>rfl) ?_;exact b5.out
   have hk1:kind=6:=by omega
   have qf:=(Aq fw @hk1);refine al [2,3,5,6] [] ?_;refine AW.st (show _=(⟨aX [(2,.d (.ip [.sl none (p.names.map Z3),.sl none (p.ZY.map cg)])),(3,.d (.ip [.v (.int .i64 kind),.v (.string (bs name)),.br tx cx])),(5,int (bB p name)),(6,int (gp kind))],ZX []⟩:St) by rw [hk1]<;>rfl) ?_;exact b5.out
  .rw [hke];have qf:=(Aq fw (Aq @hk @aa7));refine al [2,3,37] [] ?_;by_cases h4:kk=gp kind
   .rw [if_neg (by simp [h4])] at gX;refine ag (by simp [h4]) ?_;refine ah (aQ _ ?_);refine ae fun K4 bN=>?_;refine rg [42] [] (fun _ _=>trivial) fun K' af=>?_;(repeat (refine Z0 fun K2 aa=>?_;simp [dC];(repeat (refine ⟨by omega,?_⟩));refine aa _ ?_;clear aa K2));refine Z0 fun K2 aa=>?_;simp [dC];refine aap.data (fG) (by simp;rfl) (by first | exact D.bn _ | simp [aB,List.map_map,Function.comp_def,D.le,D.le.go,D.le_refl,D.bn,dC]) ?_;refine aa _ ?_;clear aa K2;simp only [Z2,dk];(repeat (refine Z0 fun K2 aa=>?_;simp [dC];(repeat (refine ⟨by omega,?_⟩));refine aa _ ?_;clear aa K2));refine Z0 fun K2 aa=>?_;simp [dC];refine aap.data (py) (by simp;rfl) (by first | exact D.bn _ | simp [aB,List.map_map,Function.comp_def,D.le,D.le.go,D.le_refl,D.bn,dC]) ?_;refine aa _ ?_;clear aa K2;simp only [Z2,dk];(repeat (refine Z0 fun K2 aa=>?_;simp [dC];(repeat (refine ⟨by omega,?_⟩));refine aa _ ?_;clear aa K2));refine Z9 (af _ (AW.st (by simp [dC];rfl) ?_));clear af K'
    cases an with
    | true=>
     rw [if_pos rfl] at gX;refine ak rfl ?_;refine ZW fw [4] [] ?_;exact aK (Aq fw @gX)
    | false=>
     rw [if_neg (by decide)] at gX;refine ag rfl ?_;refine ah (bN _ ?_);refine ZW fw [4] [] ?_;exact aK (Aq fw @gX)
   .rw [if_pos (fun h=>h4 h.symm)] at gX;refine ak (by simp [h4]) ?_;refine ZW fw [4] [] ?_;exact aK (Aq fw @gX)
theorem uS {α:Type} {f:Nat->α->Int}:∀ {l:List α} {i n:Nat} (hn:n < l.length),(∀ k (hk:k < l.length),k < n->f (i+k) l[k]=0)->f (i+n) l[n]≠0->jP f l i=some (f (i+n) l[n],i+n)
 | x :: l,i,0,_,_,aL=>by rw [jP,if_neg (show ¬ f i x=0 from aL)];rfl
 | x :: l,i,n+1,hn,hb,aL=>by
  have h0:f i x=0:=hb 0 (by simp) (by omega)
  have e:∀ k,i+1+k=i+(k+1):=fun k=>by omega
  rw [jP,if_pos h0,uS (l:=l) (i:=i+1) (n:=n) (by simpa using hn) (fun k hk hkn=>by rw [e];exact hb (k+1) (by simpa using hk) (by omega)) (by rw [e];exact aL),e];rfl
theorem uU {α:Type} {f:Nat->α->Int}:∀ {l:List α} {i:Nat},(∀ k (hk:k < l.length),f (i+k) l[k]=0)->jP f l i=none
 | [],_,_=>rfl
 | x :: l,i,hb=>by
  have e:∀ k,i+1+k=i+(k+1):=fun k=>by omega
  rw [jP,if_pos (show f i x=0 from hb 0 (by simp)),uU fun k hk=>by rw [e];exact hb (k+1) (by simpa using hk)]
structure xp (p:aF):Prop where
 nl:p.names.length < 2^62
 rl:p.ZY.length < 2^62
 nn:∀ n∈p.names,n.name.length < 2^60
 cb:∀ r∈p.ZY,∀ e,r.cond=some e->bE e<=2^28/\(aaE true e).length < 2^62
set_option maxHeartbeats 16000000 in
theorem za (G:ao) (p:aF) (hp:xp p):aw Tryz.prog G 63 [dw p] (Z5 (aar p)):=by
 obtain ⟨eg,dN,lV,sT⟩:=hp
 have hr2:aar p=if p.names.length > 12\/p.ZY.length > 40 then some (4,none) else match jP (jN p) p.names 0 with
  | some (e,i)=>some (e,some i)
  | none=>match jP (fun _ r=>ir p r) p.ZY 0 with
   | some (e,i)=>some (e,some (p.names.length+i))
   | none=>none:=rfl
 generalize gM:aar p=res;rw [hr2] at gM;have bA:=fun s=>rI G p eg s;have gH:=fun r h=>Sh G p eg r h;simp only [dw,cPg,bR,dW,dS] at bA gH ⊢;refine aw.aD (ZZ _) Tryz.func63 rfl rfl (rs:=[.tmp 2]) Tryz.results63 (by simp [Tryz.ntmps63]) fun X=>?_;simp only [Tryz.ntmps63,List.map];refine aq [1] [1] ?_;refine dX 1 ?_;refine ae fun K1 ay=>?_;by_cases g0:(p.names.length:Int) > 12
 .rw [if_pos (.inl (by omega))] at gM;have qf:=@g0;refine al [1,19] [] ?_;refine ak rfl ?_;refine aq [2] [] ?_;refine bk ?_;simp [D.le,D.le.go,aB];simp [<- gM,Z5,D.le]
 by_cases g1:(p.ZY.length:Int) > 40
 .rw [if_pos (.inr (by omega))] at gM;have qf:=(Aq @g0 @g1);refine al [1,19] [] ?_;refine ak rfl ?_;refine aq [2] [] ?_;refine bk ?_;simp [D.le,D.le.go,aB];simp [<- gM,Z5,D.le]
 rw [if_neg (by omega)] at gM;have qf:=(Aq @g0 @g1);refine al [1,19] [] ?_;refine ag rfl ?_;refine ah (ay _ ?_);refine ae fun K2 aa=>?_;refine aq [1,22,23,24] [] ?_;refine aam (S:=Nat) (fun n=>n<=p.names.length/\∀ k (hk:k < p.names.length),k < n->jN p k p.names[k]=0) (fun n=>⟨aX [(1,.d (.ip [.sl none (p.names.map Z3),.sl none (p.ZY.map cg)])),(22,.d (.sl none (p.names.map Z3))),(23,int p.names.length),(24,int n)],ZX []⟩) (fun n=>p.names.length - n) 0 ?_ (by simp) ?_
 .refine cw
 .rintro n ⟨hn,hb⟩;refine aq [1,22,23,24,25] [] ?_;refine ae fun K3 aQ=>?_;refine dG (b:=n < p.names.length) (by simp [D.le,D.le.go,aB]) (fun hc=>?_) (fun hc=>?_)
  .have ax:=hc
   have dZ:jN p n p.names[n]≠0->res=some (jN p n p.names[n],some n):=fun aL=>by
    rw [<- gM,uS (i:=0) ax (fun k hk hkn=>by rw [Nat.zero_add];exact hb k hk hkn) (by rw [Nat.zero_add];exact aL)];simp
   have ez:=lV _ (List.getElem_mem ax);have aa7:Z3 p.names[n]=[dS p.names[n].name,.v (.int .i64 p.names[n].kind),.v (.int .i64 p.names[n].count)]:=rfl
   have bt:jN p n p.names[n]=if !fL p.names[n].name then 5 else if decide (p.names[n].kind < 1) || decide (p.names[n].kind > 4) then 1 else if ((decide (p.names[n].kind=3) || decide (p.names[n].kind=4)) && (decide (p.names[n].count < 1) || decide (p.names[n].count > 7))) || (!(decide (p.names[n].kind=3) || decide (p.names[n].kind=4)) && decide (p.names[n].count≠0)) then 2 else if bB p p.names[n].name < n then 9 else 0:=rfl
   generalize hv:jN p n p.names[n]=v at bt dZ;generalize p.names[n].name=nm at ez aa7 bt;generalize p.names[n].kind=kd at aa7 bt;generalize p.names[n].count=ct at aa7 bt;have ig:=IX G nm ez;have jf:=bA nm;simp only [dS] at aa7 ig;generalize fL nm=nf at ig bt;refine ah (aQ _ ?_);refine ae fun K4 bN=>?_;refine aR ?_;have qf:=(Aq @ax @aa7);refine al [1,3,4,22,23,24] [4] ?_;refine dX 4 ?_
   refine' ze (fun dO=>?_) ?_
   rotate_left
   .by_cases k3:kd=3
    .have qf:=@k3;refine al [1,3,4,5,22,23,24] [] ?_;refine AW.st (show _=(⟨aX [(1,.d (.ip [.sl none (p.names.map Z3),.sl none (p.ZY.map cg)])),(3,int n),(4,.d (.ip [.v (.string (bs nm)),.v (.int .i64 kd),.v (.int .i64 ct)])),(5,.d (.v (.bool (decide (kd=3) || decide (kd=4))))),(22,.d (.sl none (p.names.map Z3))),(23,int p.names.length),(24,int n)],ZX []⟩:St) by rw [k3]<;>rfl) ?_;exact dO.out
    .by_cases k4:kd=4
     .have qf:=(Aq @k3 @k4);refine al [1,3,4,5,22,23,24] [] ?_;refine AW.st (show _=(⟨aX [(1,.d (.ip [.sl none (p.names.map Z3),.sl none (p.ZY.map cg)])),(3,int n),(4,.d (.ip [.v (.string (bs nm)),.v (.int .i64 kd),.v (.int .i64 ct)])),(5,.d (.v (.bool (decide (kd=3) || decide (kd=4))))),(22,.d (.sl none (p.names.map Z3))),(23,int p.names.length),(24,int n)],ZX []⟩:St) by rw [k4]<;>rfl) ?_;exact dO.out
     .have e:(decide (kd=3) || decide (kd=4))=false:=by simp [k3,k4]
      have qf:=(Aq @k3 @k4);refine al [1,3,4,5,22,23,24] [] ?_;refine AW.st (show _=(⟨aX [(1,.d (.ip [.sl none (p.names.map Z3),.sl none (p.ZY.map cg)])),(3,int n),(4,.d (.ip [.v (.string (bs nm)),.v (.int .i64 kd),.v (.int .i64 ct)])),(5,.d (.v (.bool (decide (kd=3) || decide (kd=4))))),(22,.d (.sl none (p.names.map Z3))),(23,int p.names.length),(24,int n)],ZX []⟩:St) by rw [e]<;>rfl) ?_;exact dO.out
   .generalize (decide (kd=3) || decide (kd=4))=cB at bt;refine aq [1,3,4,5,6,22,23,24] [] ?_;refine ae fun K5 hK5=>?_
    refine' ze (fun b5=>?_) ?_
    rotate_left
    .refine aR ?_;refine Z6 trivial ig [1,3,4,5,6,22,23,24,37] [] ?_;by_cases s7:nf=true
     rotate_left
     .have Hu:nf=false:=by simpa using s7
      rw [if_pos (by simp [Hu])] at bt;rw [Hu];refine ak rfl ?_;refine reK trivial hK5 [1,3,6,22,23,24] [] ?_;refine AW.st (show _=(⟨aX [(1,.d (.ip [.sl none (p.names.map Z3),.sl none (p.ZY.map cg)])),(3,int n),(6,int v),(22,.d (.sl none (p.names.map Z3))),(23,int p.names.length),(24,int n)],ZX []⟩:St) by rw [bt]<;>rfl) ?_;exact b5.out
     .rw [if_neg (by simp [s7])] at bt;rw [s7];refine ag rfl ?_;by_cases k1:kd < 1
      .rw [if_pos (by simp [k1])] at bt;have qf:=@k1;refine al [1,3,4,5,6,22,23,24,42] [] ?_;refine ak rfl ?_;refine reK trivial hK5 [1,3,6,22,23,24] [] ?_;refine AW.st (show _=(⟨aX [(1,.d (.ip [.sl none (p.names.map Z3),.sl none (p.ZY.map cg)])),(3,int n),(6,int v),(22,.d (.sl none (p.names.map Z3))),(23,int p.names.length),(24,int n)],ZX []⟩:St) by rw [bt]<;>rfl) ?_;exact b5.out
      by_cases k2:kd > 4
      .rw [if_pos (by simp [k2])] at bt;have qf:=(Aq @k1 @k2);refine al [1,3,4,5,6,22,23,24,42] [] ?_;refine ak rfl ?_;refine reK trivial hK5 [1,3,6,22,23,24] [] ?_;refine AW.st (show _=(⟨aX [(1,.d (.ip [.sl none (p.names.map Z3),.sl none (p.ZY.map cg)])),(3,int n),(6,int v),(22,.d (.sl none (p.names.map Z3))),(23,int p.names.length),(24,int n)],ZX []⟩:St) by rw [bt]<;>rfl) ?_;exact b5.out
      rw [if_neg (by simp [k1,k2])] at bt;have qf:=(Aq @k1 @k2);refine al [1,3,4,5,6,22,23,24,42] [] ?_;refine ag rfl ?_;by_cases G7:cB=true
      .rw [G7] at bt ⊢;by_cases c1:ct < 1
       .rw [if_pos (by simp [c1])] at bt;have qf:=@c1;refine al [1,3,4,6,22,23,24,51] [] ?_;refine ak rfl ?_;refine reK trivial hK5 [1,3,6,22,23,24] [] ?_;refine AW.st (show _=(⟨aX [(1,.d (.ip [.sl none (p.names.map Z3),.sl none (p.ZY.map cg)])),(3,int n),(6,int v),(22,.d (.sl none (p.names.map Z3))),(23,int p.names.length),(24,int n)],ZX []⟩:St) by rw [bt]<;>rfl) ?_;exact b5.out
       by_cases c2:ct > 7
       .rw [if_pos (by simp [c2])] at bt;have qf:=(Aq @c1 @c2);refine al [1,3,4,6,22,23,24,51] [] ?_;refine ak rfl ?_;refine reK trivial hK5 [1,3,6,22,23,24] [] ?_;refine AW.st (show _=(⟨aX [(1,.d (.ip [.sl none (p.names.map Z3),.sl none (p.ZY.map cg)])),(3,int n),(6,int v),(22,.d (.sl none (p.names.map Z3))),(23,int p.names.length),(24,int n)],ZX []⟩:St) by rw [bt]<;>rfl) ?_;exact b5.out
       rw [if_neg (by simp [c1,c2])] at bt;have qf:=(Aq @c1 @c2);refine al [1,3,4,6,22,23,24,51] [] ?_;refine ag rfl ?_;refine Z6 trivial jf [1,3,6,22,23,24,72] [] ?_;by_cases c9:bB p nm < n
       .rw [if_pos c9] at bt;refine ak (by simp [c9]) ?_;refine reK trivial hK5 [1,3,6,22,23,24] [] ?_;refine AW.st (show _=(⟨aX [(1,.d (.ip [.sl none (p.names.map Z3),.sl none (p.ZY.map cg)])),(3,int n),(6,int v),(22,.d (.sl none (p.names.map Z3))),(23,int p.names.length),(24,int n)],ZX []⟩:St) by rw [bt]<;>rfl) ?_;exact b5.out
       .rw [if_neg c9] at bt;refine ag (by simp [c9]) ?_;refine ah ?_;refine hK5 _ (AW.norm [1,3,6,22,23,24] [] (fun _ _=>trivial) (AW.st (by simp;rfl) ?_));refine AW.st (show _=(⟨aX [(1,.d (.ip [.sl none (p.names.map Z3),.sl none (p.ZY.map cg)])),(3,int n),(6,int v),(22,.d (.sl none (p.names.map Z3))),(23,int p.names.length),(24,int n)],ZX []⟩:St) by rw [bt]<;>rfl) ?_;exact b5.out
      .have Pt:cB=false:=by simpa using G7
       rw [Pt] at bt ⊢;by_cases c0:ct=0
       .rw [if_neg (by simp [c0])] at bt;have qf:=@c0;refine al [1,3,4,6,22,23,24,51] [] ?_;refine ag rfl ?_;refine Z6 trivial jf [1,3,6,22,23,24,72] [] ?_;by_cases c9:bB p nm < n
        .rw [if_pos c9] at bt;refine ak (by simp [c9]) ?_;refine reK trivial hK5 [1,3,6,22,23,24] [] ?_;refine AW.st (show _=(⟨aX [(1,.d (.ip [.sl none (p.names.map Z3),.sl none (p.ZY.map cg)])),(3,int n),(6,int v),(22,.d (.sl none (p.names.map Z3))),(23,int p.names.length),(24,int n)],ZX []⟩:St) by rw [bt]<;>rfl) ?_;exact b5.out
        .rw [if_neg c9] at bt;refine ag (by simp [c9]) ?_;refine ah ?_;refine hK5 _ (AW.norm [1,3,6,22,23,24] [] (fun _ _=>trivial) (AW.st (by simp;rfl) ?_));refine AW.st (show _=(⟨aX [(1,.d (.ip [.sl none (p.names.map Z3),.sl none (p.ZY.map cg)])),(3,int n),(6,int v),(22,.d (.sl none (p.names.map Z3))),(23,int p.names.length),(24,int n)],ZX []⟩:St) by rw [bt]<;>rfl) ?_;exact b5.out
       .rw [if_pos (by simp [c0])] at bt;have qf:=@c0;refine al [1,3,4,6,22,23,24,51] [] ?_;refine ak rfl ?_;refine reK trivial hK5 [1,3,6,22,23,24] [] ?_;refine AW.st (show _=(⟨aX [(1,.d (.ip [.sl none (p.names.map Z3),.sl none (p.ZY.map cg)])),(3,int n),(6,int v),(22,.d (.sl none (p.names.map Z3))),(23,int p.names.length),(24,int n)],ZX []⟩:St) by rw [bt]<;>rfl) ?_;exact b5.out
    .by_cases fJ:v=0
     .have qf:=@fJ;refine al [1,3,6,22,23,24,80] [] ?_;refine ag rfl ?_;refine ah ?_;refine bN _ ?_;refine cI ?_;(try simp only [aM,aP]);refine aV.mk (n+1) ⟨by omega,fun k hk hkn=>?_⟩ (by omega) ?_
      .by_cases h:k=n
       .subst h;rw [hv,fJ]
       .exact hb k hk (by omega)
      refine cw
     .have qf:=@fJ;refine al [1,3,6,22,23,24,80] [] ?_;refine ak rfl ?_;refine aq [2] [84] ?_;refine bk ?_;simp [D.le,D.le.go,aB];simp [dZ fJ,Z5,D.le,D.le.go]
  .rw [uU fun k hk=>by rw [Nat.zero_add];exact hb k hk (by omega)] at gM;dsimp only at gM;refine bH (aa _ ?_);refine ae fun K6 de=>?_;refine aq [1,88,89,90] [] ?_;refine aam (S:=Nat) (fun n=>n<=p.ZY.length/\∀ k (hk:k < p.ZY.length),k < n->ir p p.ZY[k]=0) (fun n=>⟨aX [(1,.d (.ip [.sl none (p.names.map Z3),.sl none (p.ZY.map cg)])),(88,.d (.sl none (p.ZY.map cg))),(89,int p.ZY.length),(90,int n)],ZX []⟩) (fun n=>p.ZY.length - n) 0 ?_ (by simp) ?_
   .refine cw
   .rintro n ⟨hn,hb⟩;refine aq [1,88,89,90,91] [] ?_;refine ae fun K7 dy=>?_;refine dG (b:=n < p.ZY.length) (by simp [D.le,D.le.go,aB]) (fun hc=>?_) (fun hc=>?_)
    .have ax:=hc
     have dZ:ir p p.ZY[n]≠0->res=some (ir p p.ZY[n],some (p.names.length+n)):=fun aL=>by
      rw [<- gM,uS (i:=0) ax (fun k hk hkn=>hb k hk hkn) aL];simp
     have aa7:cg p.ZY[n]=[.v (.int .i64 p.ZY[n].kind),dS p.ZY[n].name,dC p.ZY[n].cond]:=rfl;have aY:=gH p.ZY[n] (sT _ (List.getElem_mem ax));simp only [Bh,aa7] at aY;generalize hv:ir p p.ZY[n]=v at aY dZ
     obtain ⟨tc,B9,QY⟩:∃ tc,dC p.ZY[n].cond=tc/\((∃ a b,tc = .br a b)\/tc = .v .nilIface):=by
      cases p.ZY[n].cond with
      | none=>exact ⟨_,rfl,.inr rfl⟩
      | some e=>obtain ⟨a,b,h⟩:=abq e;exact ⟨_,rfl,.inl ⟨a,b,h⟩⟩
     rw [B9] at aa7 aY;generalize p.ZY[n].kind=kd at aa7 aY;generalize p.ZY[n].name=nm at aa7 aY;simp only [dS] at aa7 aY
     have pG:(p.names.length:Int)+(n:Int)<=2^62:=by omega
     refine ah (dy _ ?_);refine ae fun K8 dz=>?_;refine aR ?_
     rcases QY with ⟨ta,YZ,rfl⟩ | rfl
     all_goals
      .have qf:=(Aq @ax @aa7);refine al [1,7,8,88,89,90] [8] ?_;refine dX 8 ?_;refine Z6 trivial aY [1,7,9,88,89,90] [] ?_;by_cases fJ:v=0
       .have qf:=@fJ;refine al [1,7,9,88,89,90,99] [] ?_;refine ag rfl ?_;refine ah (dz _ ?_);refine cI ?_;(try simp only [aM,aP]);refine aV.mk (n+1) ⟨by omega,fun k hk hkn=>?_⟩ (by omega) ?_
        .by_cases h:k=n
         .subst h;rw [hv,fJ]
         .exact hb k hk (by omega)
        refine cw
       .have qf:=@fJ;refine al [1,7,9,88,89,90,99] [] ?_;refine ak rfl ?_;refine aq [2] [107] ?_;refine bk ?_;simp [D.le,D.le.go,aB];simp [dZ fJ,Z5,D.le,D.le.go]
    .rw [uU fun k hk=>hb k hk (by omega)] at gM;refine bH (de _ ?_);refine aq [2] [] ?_;refine bk ?_;simp [D.le,D.le.go,aB];simp [<- gM,Z5]
def cZ (r:RgP):List D:=[.v (.int .i64 r.kind),dS r.name,iu r.cond]
def cPw (p:aF):List D:=[bR p.names,.sl none (p.ZY.map cZ)]
def cN (p:aF):D:=.agg (cPw p)
set_option maxHeartbeats 2000000 in
theorem Lf (G:ao) (p:aF) (hl:p.names.length < 2^62) (s:List UInt8):aw Tryz.prog G 74 [cN p,dS s] (.v (.int .i64 (bB p s))):=by
 unfold bB;simp only [cN,cPw,bR,dS];generalize p.ZY.map cZ=R;refine aw.aD (ZZ _) Tryz.func74 rfl rfl (rs:=[.tmp 4]) Tryz.results74 (by simp [Tryz.ntmps74]) fun X=>?_;simp only [Tryz.ntmps74,List.map];refine aq [1,2] [2] ?_;refine dX 2 ?_;refine ae fun K1 ay=>?_;refine aq [1,8,9,10] [] ?_;refine aam (S:=Nat) (fun n=>n<=p.names.length/\∀ i (hi:i < p.names.length),i < n->(p.names[i].name == s)=false) (fun n=>⟨aX [(1,.d (.v (.string (bs s)))),(8,.d (.sl none (p.names.map Z3))),(9,int p.names.length),(10,int n)],ZX []⟩) (fun n=>p.names.length - n) 0 ?_ (by simp) ?_
 .refine cw
 .rintro n ⟨hn,hp⟩;refine aq [1,8,9,10,11] [] ?_;refine ae fun K2 aa=>?_;refine dG (b:=n < p.names.length) (by simp [D.le,D.le.go,aB]) (fun hc=>?_) (fun hc=>?_)
  .have ax:=hc;have eW:Z3 p.names[n]=[.v (.string (bs p.names[n].name)),.v (.int .i64 p.names[n].kind),.v (.int .i64 p.names[n].count)]:=rfl;refine ah (aa _ ?_);refine ae fun K3 aQ=>?_;refine aR ?_;have qf:=(Aq @ax @eW);refine al [1,5,6,8,9,10] [6] ?_;refine dX 6 ?_;by_cases heq:p.names[n].name=s
   .refine rg [1,5,8,9,10,18] [] (fun _ _=>trivial) fun K' af=>?_;(repeat (refine Z0 fun K2 aa=>?_;simp [aN,aT,heq];(repeat (refine ⟨by omega,?_⟩));refine aa _ ?_;clear aa K2));refine Z9 (af _ (AW.st (by simp [aN,aT,heq];rfl) ?_));clear af K';refine ak rfl ?_;refine aq [4] [] ?_;refine bk ?_;simp [D.le,D.le.go,aB];exact (rB (p:=fun m:NmP=>m.name == s) ax (by simp [heq]) fun i hi=>hp i (by omega) hi).symm
   .refine rg [1,5,8,9,10,18] [] (fun _ _=>trivial) fun K' af=>?_;(repeat (refine Z0 fun K2 aa=>?_;simp [aN,aT,heq];(repeat (refine ⟨by omega,?_⟩));refine aa _ ?_;clear aa K2));refine Z9 (af _ (AW.st (by simp [aN,aT,heq];rfl) ?_));clear af K';refine ag (by simp [heq]) ?_;refine ah (aQ _ ?_);refine cI ?_;(try simp only [aM,aP]);refine aV.mk (n+1) ⟨by omega,fun i hi aC=>?_⟩ (by omega) ?_
    .by_cases h:i=n
     .subst h;simpa using heq
     .exact hp i hi (by omega)
    refine cw
  .refine bH (ay _ ?_);refine aq [4] [] ?_;refine bk ?_;simp [D.le,D.le.go,aB];exact (rC (p:=fun m:NmP=>m.name == s) fun i hi=>hp i hi (by omega)).symm
def abe (l:List NmP) (k:Int):Nat->List Int
 | 0=>[]
 | i+1=>abe l k i ++ if (l.getD i ⟨[],0,0⟩).kind=k then [(i:Int)] else []
theorem rH (l:List NmP) (k:Int):∀ n,(abe l k n).length<=n
 | 0=>Nat.le_refl _
 | n+1=>by rw [abe,List.length_append];have:=rH l k n;split<;>simp<;>omega
theorem y7 (l:List NmP) (k:Int):abe l k 0=[]:=rfl
theorem y6 {l:List NmP} {k:Int} {i:Nat} (h:i < l.length):abe l k (i+1)=abe l k i ++ if l[i].kind=k then [(i:Int)] else []:=by
 rw [abe,List.getD_eq_getElem?_getD,List.getElem?_eq_getElem h];rfl
set_option maxHeartbeats 4000000 in
theorem zh (G:ao) (p:aF) (hl:p.names.length < 2^40) (k:Int):aw Tryz.prog G 64 [dw p,.v (.int .i64 k)] (.sl none ((abe p.names k p.names.length).map fun x=>[.v (.int .i64 x)])):=by
 simp only [dw,cPg,bR,dW];generalize p.ZY.map cg=R;refine aw.aD (ZZ _) Tryz.func64 rfl rfl (rs:=[.tmp 4]) Tryz.results64 (by simp [Tryz.ntmps64]) fun X=>?_;simp only [Tryz.ntmps64,List.map];refine aq [1,2] [2] ?_;refine dX 2 ?_;refine aq [1,2,5] [] ?_;refine ae fun K1 ay=>?_;refine aq [1,5,9,10,11] [] ?_;refine aam (S:=Nat) (fun i=>i<=p.names.length) (fun i=>⟨aX [(1,.d (.v (.int .i64 k))),(5,.own 300 0 (abe p.names k i).length),(9,.d (.sl none (p.names.map Z3))),(10,int p.names.length),(11,int i)],ZX [(300,.sl 3 1 ((abe p.names k i).map fun x=>[.v (.int .i64 x)]))]⟩) (fun i=>p.names.length - i) 0 ?_ (by simp) ?_
 .refine (Z1.kc 5 300 3 1 rfl rfl).trans ?_;refine Z1.dK (fun _ _=>trivial) (by simp [y7]) (by simp [y7])
 .intro i hi;have cj:=rH p.names k i;have mF:=fun h=>y6 (l:=p.names) (k:=k) (i:=i) h;generalize Cw:abe p.names k i=L at cj mF ⊢;refine aq [1,5,9,10,11,12] [300] ?_;refine ae fun K2 aa=>?_;refine dG (b:=i < p.names.length) (by simp [D.le,D.le.go,aB]) (fun hc=>?_) (fun hc=>?_)
  .have ax:=hc;have dh:=mF ax;have eW:Z3 p.names[i]=[.v (.string (bs p.names[i].name)),.v (.int .i64 p.names[i].kind),.v (.int .i64 p.names[i].count)]:=rfl;generalize p.names[i].name=nm at eW;generalize p.names[i].kind=kd at eW dh;generalize p.names[i].count=ct at eW;refine ah (aa _ ?_);refine ae fun K3 aQ=>?_;refine aR ?_;have qf:=(Aq @ax @eW);refine al [1,5,6,7,9,10,11] [300,7] ?_;refine dX 7 ?_;by_cases heq:kd=k
   .rw [if_pos heq] at dh;have qf:=@heq;refine al [1,5,6,9,10,11,19] [300] ?_;refine ak rfl ?_;refine aaG (ZZ _) fun K' af=>?_;(repeat (refine Z0 fun K2 aa=>?_;simp [List.take_of_length_le];(repeat (refine ⟨by omega,?_⟩));refine aa _ ?_;clear aa K2));refine Z9 (af _ ?_);clear af K';refine aQ _ (AW.norm [1,5,9,10,11] [300] (fun _ _=>trivial) (AW.st (by simp [List.take_of_length_le];rfl) ?_));refine cI ?_;(try simp only [aM,aP]);refine aV.mk (i+1) (by omega) (by omega) ?_;refine aU @dh
   .rw [if_neg heq,List.append_nil] at dh;have qf:=@heq;refine al [1,5,6,9,10,11,19] [300] ?_;refine ag rfl ?_;refine ah (aQ _ ?_);refine cI ?_;(try simp only [aM,aP]);refine aV.mk (i+1) (by omega) (by omega) ?_;refine aU @dh
  .obtain rfl:i=p.names.length:=by omega
   refine bH (ay _ ?_);refine AW.imp (Z1.freeze 300 trivial) ?_;refine AW.st (by simp [List.take_of_length_le];rfl) ?_;refine aq [4] [] ?_;exact aK @Cw
set_option maxHeartbeats 4000000 in
theorem Aj (G:ao) (p:aF) (hl:p.names.length < 2^40) (k:Int):aw Tryz.prog G 62 [cN p,.v (.int .i64 k)] (.sl none ((abe p.names k p.names.length).map fun x=>[.v (.int .i64 x)])):=by
 simp only [cN,cPw,bR,dW];generalize p.ZY.map cZ=R;refine aw.aD (ZZ _) Tryz.func62 rfl rfl (rs:=[.tmp 4]) Tryz.results62 (by simp [Tryz.ntmps62]) fun X=>?_;simp only [Tryz.ntmps62,List.map];refine aq [1,2] [2] ?_;refine dX 2 ?_;refine aq [1,2,5] [] ?_;refine ae fun K1 ay=>?_;refine aq [1,5,9,10,11] [] ?_;refine aam (S:=Nat) (fun i=>i<=p.names.length) (fun i=>⟨aX [(1,.d (.v (.int .i64 k))),(5,.own 300 0 (abe p.names k i).length),(9,.d (.sl none (p.names.map Z3))),(10,int p.names.length),(11,int i)],ZX [(300,.sl 3 1 ((abe p.names k i).map fun x=>[.v (.int .i64 x)]))]⟩) (fun i=>p.names.length - i) 0 ?_ (by simp) ?_
 .refine (Z1.kc 5 300 3 1 rfl rfl).trans ?_;refine Z1.dK (fun _ _=>trivial) (by simp [y7]) (by simp [y7])
 .intro i hi;have cj:=rH p.names k i;have mF:=fun h=>y6 (l:=p.names) (k:=k) (i:=i) h;generalize Cw:abe p.names k i=L at cj mF ⊢;refine aq [1,5,9,10,11,12] [300] ?_;refine ae fun K2 aa=>?_;refine dG (b:=i < p.names.length) (by simp [D.le,D.le.go,aB]) (fun hc=>?_) (fun hc=>?_)
  .have ax:=hc;have dh:=mF ax;have eW:Z3 p.names[i]=[.v (.string (bs p.names[i].name)),.v (.int .i64 p.names[i].kind),.v (.int .i64 p.names[i].count)]:=rfl;generalize p.names[i].name=nm at eW;generalize p.names[i].kind=kd at eW dh;generalize p.names[i].count=ct at eW;refine ah (aa _ ?_);refine ae fun K3 aQ=>?_;refine aR ?_;have qf:=(Aq @ax @eW);refine al [1,5,6,7,9,10,11] [300,7] ?_;refine dX 7 ?_;by_cases heq:kd=k
   .rw [if_pos heq] at dh;have qf:=@heq;refine al [1,5,6,9,10,11,19] [300] ?_;refine ak rfl ?_;refine aaG (ZZ _) fun K' af=>?_;(repeat (refine Z0 fun K2 aa=>?_;simp [List.take_of_length_le];(repeat (refine ⟨by omega,?_⟩));refine aa _ ?_;clear aa K2));refine Z9 (af _ ?_);clear af K';refine aQ _ (AW.norm [1,5,9,10,11] [300] (fun _ _=>trivial) (AW.st (by simp [List.take_of_length_le];rfl) ?_));refine cI ?_;(try simp only [aM,aP]);refine aV.mk (i+1) (by omega) (by omega) ?_;refine aU @dh
   .rw [if_neg heq,List.append_nil] at dh;have qf:=@heq;refine al [1,5,6,9,10,11,19] [300] ?_;refine ag rfl ?_;refine ah (aQ _ ?_);refine cI ?_;(try simp only [aM,aP]);refine aV.mk (i+1) (by omega) (by omega) ?_;refine aU @dh
  .obtain rfl:i=p.names.length:=by omega
   refine bH (ay _ ?_);refine AW.imp (Z1.freeze 300 trivial) ?_;refine AW.st (by simp [List.take_of_length_le];rfl) ?_;refine aq [4] [] ?_;exact aK @Cw
def gD (is bD:List UInt8->Bool):List Ex->Nat
 | []=>0
 | e :: l=>(if evE is bD e then 1 else 0)+gD is bD l
theorem FT (is bD:List UInt8->Bool):∀ a b:List Ex,gD is bD (a ++ b)=gD is bD a+gD is bD b
 | [],b=>by simp [gD]
 | e :: a,b=>by simp only [List.cons_append,gD,FT is bD a b];omega
theorem xE (is bD:List UInt8->Bool):∀ l:List Ex,gD is bD l<=l.length
 | []=>by simp [gD]
 | e :: l=>by have:=xE is bD l;simp only [gD,List.length_cons];split<;>omega
theorem FV (is bD:List UInt8->Bool) {l:List Ex} {i:Nat} (hi:i < l.length):gD is bD (l.take (i+1))=gD is bD (l.take i)+(if evE is bD l[i] then 1 else 0):=by
 rw [List.take_succ_eq_append_getElem hi,FT];simp [gD]
theorem FR (is bD:List UInt8->Bool):∀ l:List Ex,decide (gD is bD l=l.length)=sB is bD l
 | []=>rfl
 | e :: l=>by
  have h1:=FR is bD l;have h2:=xE is bD l;rw [sB,<- h1];simp only [gD,List.length_cons]
  rcases Bool.eq_false_or_eq_true (evE is bD e) with hE | hE
  .simp [hE,Nat.add_comm 1]
  .have:¬ gD is bD l=l.length+1:=by omega
   simp [hE,this]
theorem FU (is bD:List UInt8->Bool):∀ l:List Ex,decide (0 < gD is bD l)=sC is bD l
 | []=>rfl
 | e :: l=>by
  have h1:=FU is bD l;rw [sC,<- h1];simp only [gD]
  rcases Bool.eq_false_or_eq_true (evE is bD e) with hE | hE
  .simp [hE];omega
  .simp [hE]
set_option maxHeartbeats 32000000 in
set_option maxRecDepth 100000 in
theorem VR (G:ao) (g1 g2:FuncId) (c1 c2:List D) (is bD:List UInt8->Bool) (S1 S2:List UInt8->Prop) (h1:lJ S1 G g1 c1 is) (h2:lJ S2 G g2 c2 bD):∀ (n:Nat) (e:Ex),SizeOf.sizeOf e<=n->fq S1 S2 e->WfE e->bE e<=2^28->aw Tryz.prog G 71 [dR e,.fn (.func g1) c1,.fn (.func g2) c2] (.v (.bool (evE is bD e))):=by
 intro n
 induction n with
 | zero=>intro e aI;cases e<;>simp at aI
 | succ n ih=>
  intro e aI eK rz hb;have fw:=(Aq @ab.eq_1 (Aq @dS.eq_1 (Aq @abL @cM.eq_1)))
  cases e with
  | eV b=>
   cases b with
   | true=>
    rw [dR];refine aw.aD (ZZ _) Tryz.func71 rfl rfl (rs:=[.tmp 6]) Tryz.results71 (by simp [Tryz.ntmps71]) fun X=>?_;simp only [Tryz.ntmps71,List.map];refine ZW fw [0,1,2] [] ?_;refine ae fun K1 ay=>?_;refine ZW fw [0,1,2,13] [] ?_;refine aR ?_;refine ZW fw [0,1,2,13,14] [] ?_;refine ak rfl ?_;refine ZW fw [6] [] ?_;refine bk ?_;simp [D.le,D.le.go,aB,ab,dS,abL,cM,evE]
   | false=>
    rw [dR];refine aw.aD (ZZ _) Tryz.func71 rfl rfl (rs:=[.tmp 6]) Tryz.results71 (by simp [Tryz.ntmps71]) fun X=>?_;simp only [Tryz.ntmps71,List.map];refine ZW fw [0,1,2] [] ?_;refine ae fun K1 ay=>?_;refine ZW fw [0,1,2,13] [] ?_;refine aR ?_;refine ZW fw [0,1,2,13,14] [] ?_;refine ag rfl ?_;refine ZW fw [0,1,2,13,16] [] ?_;refine ag rfl ?_;refine ZW fw [0,1,2,13,24] [] ?_;refine ag rfl ?_;refine ZW fw [0,1,2,13,41] [] ?_;refine ag rfl ?_;refine ZW fw [0,1,2,13,58] [] ?_;refine ag rfl ?_;refine ae fun K2 aa=>?_;refine ZW fw [0,1,2,13,70] [] ?_;refine ag rfl ?_;refine reK fw aa [0,1,2,70] [] ?_;refine ag rfl ?_;refine ah (ay _ ?_);refine ZW fw [6] [] ?_;refine bk ?_;simp [D.le,D.le.go,aB,ab,dS,abL,cM,evE]
  | bit s=>
   rw [fq] at eK;have hi:=h1 s eK;rw [dR,evE];refine aw.aD (ZZ _) Tryz.func71 rfl rfl (rs:=[.tmp 6]) Tryz.results71 (by simp [Tryz.ntmps71]) fun X=>?_;simp only [Tryz.ntmps71,List.map];refine ZW fw [0,1,2] [] ?_;refine ae fun K1 ay=>?_;refine ZW fw [0,1,2,13] [] ?_;refine aR ?_;refine ZW fw [0,1,2,13,14] [] ?_;refine ag rfl ?_;refine ZW fw [0,1,2,13,16] [] ?_;refine ak rfl ?_;refine Z6 fw hi [6] [] ?_;exact aK fw
  | fQ s=>
   rw [fq] at eK;have hi:=h1 s eK.1;have hw:=h2 s eK.2;rw [dR,evE]
   cases hx:is s with
   | false=>
    rw [hx] at hi;refine aw.aD (ZZ _) Tryz.func71 rfl rfl (rs:=[.tmp 6]) Tryz.results71 (by simp [Tryz.ntmps71]) fun X=>?_;simp only [Tryz.ntmps71,List.map];refine ZW fw [0,1,2] [] ?_;refine ae fun K1 ay=>?_;refine ZW fw [0,1,2,13] [] ?_;refine aR ?_;refine ZW fw [0,1,2,13,14] [] ?_;refine ag rfl ?_;refine ZW fw [0,1,2,13,16] [] ?_;refine ag rfl ?_;refine ZW fw [0,1,2,13,24] [] ?_;refine ak rfl ?_;refine Z6 fw hi [6] [] ?_;exact aK fw
   | true=>
    rw [hx] at hi;refine aw.aD (ZZ _) Tryz.func71 rfl rfl (rs:=[.tmp 6]) Tryz.results71 (by simp [Tryz.ntmps71]) fun X=>?_;simp only [Tryz.ntmps71,List.map];refine ZW fw [0,1,2] [] ?_;refine ae fun K1 ay=>?_;refine ZW fw [0,1,2,13] [] ?_;refine aR ?_;refine ZW fw [0,1,2,13,14] [] ?_;refine ag rfl ?_;refine ZW fw [0,1,2,13,16] [] ?_;refine ag rfl ?_;refine ZW fw [0,1,2,13,24] [] ?_;refine ak rfl ?_;refine rg [6] [] (fun _ _=>trivial) fun K' af=>?_;(repeat (refine Z0 fun K2 aa=>?_;simp [ab,dS,abL,cM];(repeat (refine ⟨by omega,?_⟩));refine aa _ ?_;clear aa K2));refine Z0 fun K2 aa=>?_;simp [ab,dS,abL,cM];refine aap.data (hi) (by simp;rfl) (by first | exact D.bn _ | simp [aB,List.map_map,Function.comp_def,D.le,D.le.go,D.le_refl,D.bn,ab,dS,abL,cM]) ?_;refine aa _ ?_;clear aa K2;simp only [Z2,dk];(repeat (refine Z0 fun K2 aa=>?_;simp [ab,dS,abL,cM];(repeat (refine ⟨by omega,?_⟩));refine aa _ ?_;clear aa K2));refine Z0 fun K2 aa=>?_;simp [ab,dS,abL,cM];refine aap.data (hw) (by simp;rfl) (by first | exact D.bn _ | simp [aB,List.map_map,Function.comp_def,D.le,D.le.go,D.le_refl,D.bn,ab,dS,abL,cM]) ?_;refine aa _ ?_;clear aa K2;simp only [Z2,dk];(repeat (refine Z0 fun K2 aa=>?_;simp [ab,dS,abL,cM];(repeat (refine ⟨by omega,?_⟩));refine aa _ ?_;clear aa K2));refine Z9 (af _ (AW.st (by simp [ab,dS,abL,cM];rfl) ?_));clear af K';exact aK fw
  | fC s=>
   rw [fq] at eK;have hi:=h2 s eK.2;have hw:=h1 s eK.1;rw [dR,evE];rw [Bool.and_comm]
   cases hx:bD s with
   | false=>
    rw [hx] at hi;refine aw.aD (ZZ _) Tryz.func71 rfl rfl (rs:=[.tmp 6]) Tryz.results71 (by simp [Tryz.ntmps71]) fun X=>?_;simp only [Tryz.ntmps71,List.map];refine ZW fw [0,1,2] [] ?_;refine ae fun K1 ay=>?_;refine ZW fw [0,1,2,13] [] ?_;refine aR ?_;refine ZW fw [0,1,2,13,14] [] ?_;refine ag rfl ?_;refine ZW fw [0,1,2,13,16] [] ?_;refine ag rfl ?_;refine ZW fw [0,1,2,13,24] [] ?_;refine ag rfl ?_;refine ZW fw [0,1,2,13,41] [] ?_;refine ak rfl ?_;refine Z6 fw hi [6] [] ?_;exact aK fw
   | true=>
    rw [hx] at hi;refine aw.aD (ZZ _) Tryz.func71 rfl rfl (rs:=[.tmp 6]) Tryz.results71 (by simp [Tryz.ntmps71]) fun X=>?_;simp only [Tryz.ntmps71,List.map];refine ZW fw [0,1,2] [] ?_;refine ae fun K1 ay=>?_;refine ZW fw [0,1,2,13] [] ?_;refine aR ?_;refine ZW fw [0,1,2,13,14] [] ?_;refine ag rfl ?_;refine ZW fw [0,1,2,13,16] [] ?_;refine ag rfl ?_;refine ZW fw [0,1,2,13,24] [] ?_;refine ag rfl ?_;refine ZW fw [0,1,2,13,41] [] ?_;refine ak rfl ?_;refine rg [6] [] (fun _ _=>trivial) fun K' af=>?_;(repeat (refine Z0 fun K2 aa=>?_;simp [ab,dS,abL,cM];(repeat (refine ⟨by omega,?_⟩));refine aa _ ?_;clear aa K2));refine Z0 fun K2 aa=>?_;simp [ab,dS,abL,cM];refine aap.data (hi) (by simp;rfl) (by first | exact D.bn _ | simp [aB,List.map_map,Function.comp_def,D.le,D.le.go,D.le_refl,D.bn,ab,dS,abL,cM]) ?_;refine aa _ ?_;clear aa K2;simp only [Z2,dk];(repeat (refine Z0 fun K2 aa=>?_;simp [ab,dS,abL,cM];(repeat (refine ⟨by omega,?_⟩));refine aa _ ?_;clear aa K2));refine Z0 fun K2 aa=>?_;simp [ab,dS,abL,cM];refine aap.data (hw) (by simp;rfl) (by first | exact D.bn _ | simp [aB,List.map_map,Function.comp_def,D.le,D.le.go,D.le_refl,D.bn,ab,dS,abL,cM]) ?_;refine aa _ ?_;clear aa K2;simp only [Z2,dk];(repeat (refine Z0 fun K2 aa=>?_;simp [ab,dS,abL,cM];(repeat (refine ⟨by omega,?_⟩));refine aa _ ?_;clear aa K2));refine Z9 (af _ (AW.st (by simp [ab,dS,abL,cM];rfl) ?_));clear af K';exact aK fw
  | not x=>
   have hc:=ih x (by simp at aI;omega) (by rwa [fq] at eK) (by simpa [WfE] using rz) (by simp only [bE] at hb;omega);rw [dR,evE];rw [mX x] at hc ⊢;refine aw.aD (ZZ _) Tryz.func71 rfl rfl (rs:=[.tmp 6]) Tryz.results71 (by simp [Tryz.ntmps71]) fun X=>?_;simp only [Tryz.ntmps71,List.map];refine ZW fw [0,1,2] [] ?_;refine ae fun K1 ay=>?_;refine ZW fw [0,1,2,13] [] ?_;refine aR ?_;refine ZW fw [0,1,2,13,14] [] ?_;refine ag rfl ?_;refine ZW fw [0,1,2,13,16] [] ?_;refine ag rfl ?_;refine ZW fw [0,1,2,13,24] [] ?_;refine ag rfl ?_;refine ZW fw [0,1,2,13,41] [] ?_;refine ag rfl ?_;refine ZW fw [0,1,2,13,58] [] ?_;refine ak rfl ?_;refine Z6 fw hc [6] [] ?_;exact aK fw
  | and l=>
   have kM:=o7 l;simp only [bE] at hb
   have jh:2<=l.length/\∀ x∈l,WfE x:=by rw [WfE] at rz;exact ⟨rz.1,(qp l).1 rz.2⟩
   have jt:∀ x∈l,aw Tryz.prog G 71 [dR x,.fn (.func g1) c1,.fn (.func g2) c2] (.v (.bool (evE is bD x))):=fun x hx=>by
    have h5:=List.sizeOf_lt_of_mem hx;exact ih x (by simp only [Ex.and.sizeOf_spec] at aI;omega) (by rw [fq,ur] at eK;exact eK x hx) (jh.2 x hx) (by have:=uE hx;omega)
   have iy:=FR is bD l;rw [evE,<- iy];rw [dR,sx];clear iy;refine aw.aD (ZZ _) Tryz.func71 rfl rfl (rs:=[.tmp 6]) Tryz.results71 (by simp [Tryz.ntmps71]) fun X=>?_;simp only [Tryz.ntmps71,List.map];refine ZW fw [0,1,2] [] ?_;refine ae fun K1 ay=>?_;refine ZW fw [0,1,2,13] [] ?_;refine aR ?_;refine ZW fw [0,1,2,13,14] [] ?_;refine ag rfl ?_;refine ZW fw [0,1,2,13,16] [] ?_;refine ag rfl ?_;refine ZW fw [0,1,2,13,24] [] ?_;refine ag rfl ?_;refine ZW fw [0,1,2,13,41] [] ?_;refine ag rfl ?_;refine ZW fw [0,1,2,13,58] [] ?_;refine ag rfl ?_;refine ae fun K2 aa=>?_;refine ZW fw [0,1,2,13,70] [] ?_;refine ak rfl ?_;refine ah (aa _ ?_);refine ak rfl ?_;refine ZW fw [0,1,2,7] [] ?_;refine ae fun K3 aQ=>?_;refine ZW fw [0,1,2,7,76,77,78] [] ?_;refine aam (S:=Nat) (fun i=>i<=l.length) (fun i=>⟨aX [(0,.d (.ip [dS [38],dS [],.sl none (l.map fun e=>[dR e])])),(1,.d (.fn (.func g1) c1)),(2,.d (.fn (.func g2) c2)),(7,int (gD is bD (l.take i):Nat)),(76,.d (.sl none (l.map fun e=>[dR e]))),(77,int l.length),(78,int i)],ZX []⟩) (fun i=>l.length - i) 0 ?_ (by omega) ?_
   .refine aU (Aq fw (Aq @gD.eq_1 @gD.eq_2))
   .intro i hi;have hcl:=xE is bD (l.take i);rw [List.length_take] at hcl;refine ZW fw [0,1,2,7,76,77,78,79] [] ?_;refine ae fun K4 bN=>?_;refine dG (b:=i < l.length) (by simp [D.le,D.le.go,aB,ab,dS,abL,cM]) (fun hc=>?_) (fun hc=>?_)
    .have cQ:i < l.length:=hc;have hcc:=jt _ (List.getElem_mem cQ);have cq:=FV is bD cQ;have hf:=mX l[i];rw [hf] at hcc;refine ah (bN _ ?_);refine ae fun K5 hK5=>?_;refine aR ?_;have qf:=(Aq fw (Aq @cQ @hf));refine al [0,1,2,7,9,76,77,78] [] ?_;refine Z6 fw hcc [0,1,2,7,76,77,78,85] [] ?_
     cases hv:evE is bD l[i] with
     | true=>
      rw [hv] at cq;refine ak (by simp [hv]) ?_;refine reK fw hK5 [0,1,2,7,76,77,78] [] ?_;refine reQ fw ?_;(try simp only [aM,aP]);refine aV.mk (i+1) (by omega) (by omega) ?_;refine aU (Aq fw @cq)
     | false=>
      rw [hv] at cq;refine ag (by simp [hv]) ?_;refine ah (hK5 _ ?_);refine reQ fw ?_;(try simp only [aM,aP]);refine aV.mk (i+1) (by omega) (by omega) ?_;refine aU (Aq fw @cq)
    .obtain rfl:i=l.length:=by omega
     refine bH (aQ _ ?_);rw [List.take_length] at hcl ⊢;refine ZW fw [6] [] ?_;exact aK fw
  | or l=>
   have kM:=o7 l;simp only [bE] at hb
   have jh:2<=l.length/\∀ x∈l,WfE x:=by rw [WfE] at rz;exact ⟨rz.1,(qp l).1 rz.2⟩
   have jt:∀ x∈l,aw Tryz.prog G 71 [dR x,.fn (.func g1) c1,.fn (.func g2) c2] (.v (.bool (evE is bD x))):=fun x hx=>by
    have h5:=List.sizeOf_lt_of_mem hx;exact ih x (by simp only [Ex.or.sizeOf_spec] at aI;omega) (by rw [fq,ur] at eK;exact eK x hx) (jh.2 x hx) (by have:=uE hx;omega)
   have iy:=FU is bD l;rw [evE,<- iy];rw [dR,sx];clear iy;refine aw.aD (ZZ _) Tryz.func71 rfl rfl (rs:=[.tmp 6]) Tryz.results71 (by simp [Tryz.ntmps71]) fun X=>?_;simp only [Tryz.ntmps71,List.map];refine ZW fw [0,1,2] [] ?_;refine ae fun K1 ay=>?_;refine ZW fw [0,1,2,13] [] ?_;refine aR ?_;refine ZW fw [0,1,2,13,14] [] ?_;refine ag rfl ?_;refine ZW fw [0,1,2,13,16] [] ?_;refine ag rfl ?_;refine ZW fw [0,1,2,13,24] [] ?_;refine ag rfl ?_;refine ZW fw [0,1,2,13,41] [] ?_;refine ag rfl ?_;refine ZW fw [0,1,2,13,58] [] ?_;refine ag rfl ?_;refine ae fun K2 aa=>?_;refine ZW fw [0,1,2,13,70] [] ?_;refine ag rfl ?_;refine reK fw aa [0,1,2,70] [] ?_;refine ak rfl ?_;refine ZW fw [0,1,2,7] [] ?_;refine ae fun K3 aQ=>?_;refine ZW fw [0,1,2,7,76,77,78] [] ?_;refine aam (S:=Nat) (fun i=>i<=l.length) (fun i=>⟨aX [(0,.d (.ip [dS [124],dS [],.sl none (l.map fun e=>[dR e])])),(1,.d (.fn (.func g1) c1)),(2,.d (.fn (.func g2) c2)),(7,int (gD is bD (l.take i):Nat)),(76,.d (.sl none (l.map fun e=>[dR e]))),(77,int l.length),(78,int i)],ZX []⟩) (fun i=>l.length - i) 0 ?_ (by omega) ?_
   .refine aU (Aq fw (Aq @gD.eq_1 @gD.eq_2))
   .intro i hi;have hcl:=xE is bD (l.take i);rw [List.length_take] at hcl;refine ZW fw [0,1,2,7,76,77,78,79] [] ?_;refine ae fun K4 bN=>?_;refine dG (b:=i < l.length) (by simp [D.le,D.le.go,aB,ab,dS,abL,cM]) (fun hc=>?_) (fun hc=>?_)
    .have cQ:i < l.length:=hc;have hcc:=jt _ (List.getElem_mem cQ);have cq:=FV is bD cQ;have hf:=mX l[i];rw [hf] at hcc;refine ah (bN _ ?_);refine ae fun K5 hK5=>?_;refine aR ?_;have qf:=(Aq fw (Aq @cQ @hf));refine al [0,1,2,7,9,76,77,78] [] ?_;refine Z6 fw hcc [0,1,2,7,76,77,78,85] [] ?_
     cases hv:evE is bD l[i] with
     | true=>
      rw [hv] at cq;refine ak (by simp [hv]) ?_;refine reK fw hK5 [0,1,2,7,76,77,78] [] ?_;refine reQ fw ?_;(try simp only [aM,aP]);refine aV.mk (i+1) (by omega) (by omega) ?_;refine aU (Aq fw @cq)
     | false=>
      rw [hv] at cq;refine ag (by simp [hv]) ?_;refine ah (hK5 _ ?_);refine reQ fw ?_;(try simp only [aM,aP]);refine aV.mk (i+1) (by omega) (by omega) ?_;refine aU (Aq fw @cq)
    .obtain rfl:i=l.length:=by omega
     refine bH (aQ _ ?_);rw [List.take_length] at hcl ⊢;by_cases h0:0 < gD is bD l
     .have qf:=(Aq fw @h0);refine al [6] [] ?_;exact aK (Aq fw @h0)
     .have hz:gD is bD l=0:=by omega
      have aL:¬ l.length=0:=by omega
      have Ht:¬ 0=(l.length:Int):=by omega
      have qf:=(Aq fw (Aq @h0 (Aq @hz (Aq @aL @Ht))));refine al [6] [] ?_;exact aK (Aq fw (Aq @h0 (Aq @hz (Aq @aL @Ht))))
theorem VS (G:ao) (g1 g2:FuncId) (c1 c2:List D) (is bD:List UInt8->Bool) (S1 S2:List UInt8->Prop) (h1:lJ S1 G g1 c1 is) (h2:lJ S2 G g2 c2 bD) (e:Ex) (ha:fq S1 S2 e) (hw:WfE e) (hb:bE e<=2^28):aw Tryz.prog G 71 [dR e,.fn (.func g1) c1,.fn (.func g2) c2] (.v (.bool (evE is bD e))):=
 VR G g1 g2 c1 c2 is bD S1 S2 h1 h2 _ e (Nat.le_refl _) ha hw hb
def jD:Ex->List Ex
 | .not e=>[e]
 | .and l=>l
 | .or l=>l
 | _=>[]
def kR:Ex->Option Bool
 | .not _=>none
 | .and _=>none
 | .or _=>none
 | _=>some false
theorem UM (e:Ex):wH e = .sl (kR e) ((jD e).map fun x=>[dR x]):=by
 cases e<;>simp [wH,jD,kR,cM,sx]
theorem Mr (e:Ex):eH (jD e)<=bE e:=by cases e<;>simp [bE,jD,eH]<;>omega
theorem W9 {e x:Ex} (h:x∈jD e):SizeOf.sizeOf x < SizeOf.sizeOf e:=by
 cases e with
 | not y=>simp only [jD,List.mem_singleton] at h;subst h;simp
 | and l=>simp only [jD] at h;have:=List.sizeOf_lt_of_mem h;simp only [Ex.and.sizeOf_spec];omega
 | or l=>simp only [jD] at h;have:=List.sizeOf_lt_of_mem h;simp only [Ex.or.sizeOf_spec];omega
 | _=>simp [jD] at h
end Go.Proofs.YtdigkhaofjmgkaaGreatDoor
