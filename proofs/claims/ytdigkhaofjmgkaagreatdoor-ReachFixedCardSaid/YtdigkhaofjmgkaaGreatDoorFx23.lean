/- Parts. -/
import Derived.Test.YtdigkhaofjmgkaaGreatDoorFx22
import Derived.Shelf.Strings.Runes
set_option linter.unusedSimpArgs false
set_option linter.unusedVariables false
set_option maxHeartbeats 32000000
set_option maxRecDepth 100000
open Go.Proofs.Tryz
namespace Go.Proofs
open Go.Shelf
def Tryz.J5:Go.Shelf.Ren:=⟨fun | 151=>213 | 152=>245 | 137=>116 | 119=>272 | 224=>262 | 225=>261 | 217=>160 | 266=>206 | n=>n,fun | 9=>9 | 21=>21 | 4=>4 | 3=>3 | 5=>5 | 0=>0 | 46=>156 | n=>n,fun | n=>n⟩
theorem Tryz.TZ:Go.Proofs.Lays.n151 prog Tryz.J5:={
 mixed:=by kernel_rfl
 f119:=func272.trans (congrArg some (by kernel_rfl))
 f137:=func116.trans (congrArg some (by kernel_rfl))
 f151:=func213.trans (congrArg some (by kernel_rfl))
 f152:=func245.trans (congrArg some (by kernel_rfl))
 f217:=func160.trans (congrArg some (by kernel_rfl))
 f224:=func262.trans (congrArg some (by kernel_rfl))
 f225:=func261.trans (congrArg some (by kernel_rfl))
 f266:=func206.trans (congrArg some (by kernel_rfl))
 t0:=underlying0
 a0:=isAgg0
 z0:=sizeOf0
 v0:=zeroValue0
 t3:=underlying3
 a3:=isAgg3
 z3:=sizeOf3
 v3:=zeroValue3
 t4:=underlying4
 a4:=isAgg4
 z4:=sizeOf4
 v4:=zeroValue4
 t5:=underlying5
 a5:=isAgg5
 z5:=sizeOf5
 v5:=zeroValue5
 t9:=underlying9
 a9:=isAgg9
 z9:=sizeOf9
 v9:=zeroValue9
 t21:=underlying21
 a21:=isAgg21
 z21:=sizeOf21
 v21:=zeroValue21
 t46:=underlying156
 a46:=isAgg156
 z46:=sizeOf156
 v46:=zeroValue156 }
end Go.Proofs
namespace Go.Proofs.YtdigkhaofjmgkaaGreatDoor
open Go.Av
open Go.Shelf
def ab0 (t:List UInt8) (i:Int) (e p:Int):List (Nat×Row):=[(500,.box 247 [.d (dS t),int i,int e,int p])]
theorem Fs (G:aq) (t:List UInt8) (i:Nat) (ht:t.length < 2^60) (hi:i<=t.length) (e p:Int) :
  MC prog G [500] 193 [.ref 500 0 0] (ak (ab0 t i e p)) (.d (.aW [])) (ak (ab0 t (aZ t i) e p)):=by
 refine MC.abS (al _) func193 rfl rfl (rs:=[]) results193 (by simp[ntmps193]) rfl fun X=>?_;simp only[ntmps193];have fw:=(Aq @afg (Aq @ab0.eq_1 @afi));refine bQ (S:=Nat) (fun k=>k<=t.length/\aZ t k=aZ t i) (fun k=>⟨aV [(0,.ref 500 0 0)],ak [(500,.box 247 [.d (dS t),int k,int e,int p])]⟩) (fun k=>t.length - k) i ?_ ⟨hi,rfl⟩ ?_
 .refine abW fw
 .rintro k ⟨hk,hs⟩;refine af fun K1 ax=>?_;by_cases hkl:k < t.length
  .have Sa:(k:Int) < (t.length:Int):=by omega
   by_cases hb:((t[k]).toNat:Int)=32
   .have qf:=(Aq fw (Aq @bl (Aq @cj (Aq @hkl @hb))));refine fQ [0,23] [500] ?_;refine abP rfl ?_;refine abO (ax _ ?_);refine aR ?_;refine reQ fw ?_;try simp only[aJ,aL]
    have gv:t[k]? = some 32:=by
     rw[By hkl,(vA _ 32 (by decide)).1 hb];rfl
    refine aS.mk (k+1) ⟨by omega,?_⟩ (by omega) ?_
    .rw[<- FU gv];exact hs
    refine abW fw
   .have qf:=(Aq fw (Aq @bl (Aq @cj (Aq @hkl @hb))));refine fQ [0,23] [500] ?_;refine abN rfl ?_;refine bx ?_
    have gv:t[k]?≠some 32:=by
     rw[By hkl];intro h;apply hb;rw[AI h];rfl
    rw[afS gv]at hs;rw[<- hs];simp[ab0,dS,D.le_refl]
  .obtain rfl:k=t.length:=by omega
   have qf:=(Aq fw (Aq @bl @cj));refine fQ [0,23] [500] ?_;refine abN rfl ?_;refine bx ?_
   have gv:t[t.length]?≠some 32:=by simp
   rw[afS gv]at hs;rw[<- hs];simp[ab0,dS,D.le_refl]
def lF (t:List UInt8) (i:Nat):UInt8:=t.getD (aZ t i) 0
theorem agt (G:aq) (t:List UInt8) (i:Nat) (ht:t.length < 2^60) (hi:i<=t.length) (e p:Int) :
  MC prog G [500] 145 [.ref 500 0 0] (ak (ab0 t i e p)) (.d (.v (.int .u8 (lF t i).toNat))) (ak (ab0 t (aZ t i) e p)):=by
 have gP:=Fs G t i ht hi e p;have aib:=im hi;unfold lF;generalize aZ t i=j at gP aib ⊢;by_cases fg:j < t.length
 .have R3:(j:Int) < (t.length:Int):=by omega
  have jq:t.getD j 0=t[j]:=by simp[abJ,fg]
  rw[jq];refine MC.abS (al _) func145 rfl rfl (rs:=[.tmp 2]) results145 (by simp[ntmps145]) rfl fun X=>?_;simp only[ntmps145];have fw:=(Aq @afg (Aq @ab0.eq_1 @afi));refine rgq fw [0] [500] ?_;refine bf fw gP [0] [500] ?_;refine af fun K1 ax=>?_;have qf:=(Aq fw (Aq @bl (Aq @fg @R3)));refine fQ [0,14] [500] ?_;refine abP rfl ?_;have qf:=(Aq fw (Aq @bl (Aq @cj @fg)));refine fQ [2] [500] ?_;exact aN (Aq fw (Aq @ab0.eq_1 @fg))
 .obtain rfl:j=t.length:=by omega
  refine MC.abS (al _) func145 rfl rfl (rs:=[.tmp 2]) results145 (by simp[ntmps145]) rfl fun X=>?_;simp only[ntmps145];have fw:=(Aq @afg (Aq @ab0.eq_1 @afi));refine rgq fw [0] [500] ?_;refine bf fw gP [0] [500] ?_;refine af fun K1 ax=>?_;have qf:=(Aq fw @bl);refine fQ [0,14] [500] ?_;refine abN rfl ?_;refine abO (ax _ ?_);refine rgq fw [2] [500] ?_;exact aN (Aq fw @ab0.eq_1)
theorem xZ (G:aq) (t:List UInt8) (i:Nat) (ht:t.length < 2^60) (hi:i<=t.length) (e:Int) :
  MC prog G [500] 146 [.ref 500 0 0,.d (ab e)] (ak (ab0 t i 0 (-1))) (.d (.v (.pointer none))) (ak (ab0 t (aZ t i) e (aZ t i))):=by
 have gP:=Fs G t i ht hi 0 (-1);generalize aZ t i=j at gP ⊢;refine MC.abS (al _) func146 rfl rfl (rs:=[.tmp 4]) results146 (by simp[ntmps146]) rfl fun X=>?_;simp only[ntmps146];have fw:=(Aq @afg (Aq @ab0.eq_1 @afi));refine rgq fw [0,1] [500] ?_;refine bf fw gP [0,1] [500] ?_;refine af fun K1 ax=>?_;refine rgq fw [0,1,12] [500] ?_;refine abP rfl ?_;refine reK fw ax [] [500] ?_;refine rgq fw [4] [500] ?_;exact aN (Aq fw @ab0.eq_1)
def lL:List UInt8:=[32,38,124,33,94,126,40,41,61]
theorem Tr (c:UInt8):jc c=lL.contains c:=rfl
theorem Ps {c:UInt8} (h:128<=c.toNat):∃ b0 b1:UInt8,Utf8.encode (c.toNat:Int)=bs [b0,b1]/\128<=b1.toNat:=by
 have hv:Utf8.valid (c.toNat:Int)=true:=by
  have hc:=c.toNat_lt;simp[Utf8.valid];omega
 refine⟨UInt8.ofNat (0xC0+c.toNat / 64),UInt8.ofNat (0x80+c.toNat % 64),?_,?_⟩
 .have hc:=c.toNat_lt;unfold Utf8.encode;rw[hv];simp only[if_true,abX];rw[if_neg (by omega),if_pos (by omega)];rfl
 .simp;omega
theorem Z9 (G:aq) (n:Nat) (h:n < 256):ar prog G 272 [.v (.int .i32 n)] (.v (.bool true)):=by
 have h1:(n:Int) < 55296:=by omega
 refine ar.abS (al _) func272 rfl rfl (rs:=[.tmp 2]) results272 (by simp[ntmps272]) fun X=>?_;simp only[ntmps272,List.map];have fw:=(Aq @afg @afi);refine rgq fw [0] [] ?_;refine af fun K1 ax=>?_;refine aR ?_;have qf:=(Aq fw @h1);refine abQ [0,3] [] ?_;refine abP rfl ?_;refine rgq fw [2] [] ?_;exact aN fw
theorem Tq (G:aq) (c:UInt8) (h:128<=c.toNat):ar prog G 245 [dS lL,.v (.int .i32 c.toNat)] (ab (-1)):=by
 have hc:=c.toNat_lt;obtain⟨b0,b1,he,hb⟩:=Ps h
 have h1:¬ (c.toNat:Int) < 128:=by omega
 have h2:¬ (c.toNat:Int)=65533:=by omega
 have hv:=Z9 G c.toNat hc
 have hb2:¬ (38:Int)=(b1.toNat:Int):=by omega
 have hix:=JW G [124,33,94,126,40,41,61] b1
 have sx:Lib.indexByte [124,33,94,126,40,41,61] b1 < 0:=(El _ _).2 (by
  intro hm
  have:∀ x∈([124,33,94,126,40,41,61]:List UInt8),x.toNat < 128:=by decide
  have:=this _ hm
  omega)
 have Jn:(bs lL).extract 2 9=bs [124,33,94,126,40,41,61]:=rfl;refine ar.abS (al _) func245 rfl rfl (rs:=[.tmp 4]) results245 (by simp[ntmps245]) fun X=>?_;simp only[ntmps245,List.map];have fw:=(Aq @afg @afi);refine rgq fw [0,1] [] ?_;refine aR ?_;have qf:=(Aq fw @h1);refine abQ [0,1,160] [] ?_;refine abN rfl ?_;have qf:=(Aq fw @h2);refine abQ [0,1,171] [] ?_;refine abN rfl ?_;refine aT fw hv [0,1,183] [] ?_;refine abN rfl ?_;refine Gy ?_;have qf:=(Aq fw @he);refine abQ [0,7] [] ?_;have qf:=(Aq fw @bl);refine abQ [0,7,8] [] ?_;refine rgq fw [0,7,8,9] [] ?_;refine rgq fw [0,7,8,9] [] ?_;refine af fun K3 aQ=>?_;refine bQ (S:=Nat) (fun n=>True) (fun n=>⟨aV [(0,.d (dS lL)),(7,.d (dS [b0,b1])),(8,int 1),(9,int 1)],ak []⟩) (fun n=>0) 0 ?_ trivial ?_
 .refine abW fw
 .intro n hn;refine af fun K4 bK=>?_;have qf:=(Aq fw (Aq @bl @lL.eq_1));refine abQ [0,7,8,9,26] [] ?_;refine abP rfl ?_;refine abO (bK _ ?_);refine aR ?_;refine Gy ?_;refine af fun K5 bB=>?_;have qf:=(Aq fw (Aq @bl (Aq @cj (Aq @lL.eq_1 @hb2))));refine fQ [0,7,8,9,33] [] ?_;refine abP rfl ?_;have qf:=(Aq fw (Aq @bl (Aq @cj (Aq @lL.eq_1 @Jn))));refine aga hix [0,7,8,9,11] [] ?_;refine af fun K6 cq=>?_;have qf:=(Aq fw @sx);refine abQ [0,7,8,9,11,43] [] ?_;refine abP rfl ?_;refine rgq fw [4] [] ?_;exact aN fw
theorem O1 (G:aq) (c:UInt8):ar prog G 213 [dS lL,.v (.int .i32 c.toNat)] (.v (.bool (jc c))):=by
 by_cases h:c.toNat < 128
 .refine ar.nV (fe.of func213 rfl rfl) fun X w vs aK bD hgl=>?_
  obtain⟨a,b,rfl⟩:∃ a b,vs = #[a,b]:=by
   match vs,aK with
   | ⟨[a,b]⟩,_=>exact⟨a,b,rfl⟩
  have ha:=(bD 0 a _ rfl rfl).scalar;have hb:=(bD 1 b _ rfl rfl).scalar;subst ha hb;have fC:=Any.strings_ContainsRune_ascii (P:=prog) (ρ:=Tryz.J5) { Tryz.TZ with } (bs lL) c.toNat w (by omega) (by omega);rw[show (c.toNat:Int).toNat.toUInt8=c by simp]at fC;refine fC.mono fun e w' ⟨he,hw⟩=>⟨_,he,by rw[hw];exact bZ.refl _,?_⟩
  have Rb:decide (0<=Lib.indexByte (bs lL).data.toList c)=jc c:=by
   rw[Tr,aeB,decide_eq_true_eq,acY];have:=El lL c;have e:(bs lL).data.toList=lL:=rfl;rw[e];constructor
   .intro h0;apply acj;intro hn;have:=this.2 hn;omega
   .intro hm;apply acj;intro hn;exact this.1 (by omega) hm
  rw[Rb];exact .v _
 .have Re:=Tq G c (by omega)
  have fD:jc c=false:=by
   have h:∀ n:Fin 256,128<=n.val->jc (UInt8.ofNat n)=false:=by decide +kernel
   have:=h ⟨c.toNat,c.toNat_lt⟩ (by simp;omega);simpa using this
  rw[fD];refine ar.abS (al _) func213 rfl rfl (rs:=[.tmp 4]) results213 (by simp[ntmps213]) fun X=>?_;simp only[ntmps213,List.map];have fw:=(Aq @afg @afi);refine rgq fw [0,1] [] ?_;refine aT fw Re [4] [] ?_;exact aN fw
end Go.Proofs.YtdigkhaofjmgkaaGreatDoor
namespace Go.Proofs.YtdigkhaofjmgkaaGreatDoor
open Go.Av
def eR {α:Type}:Rs α->Int
 | .ok _ _=>0
 | .err c _ _=>c
def pR {α:Type}:Rs α->Int
 | .ok _ _=>-1
 | .err _ p _=>p
theorem F9 (c:UInt8):IntKind.i32.wrap (c.toNat:Int)=(c.toNat:Int):=by
 have h:∀ n:Fin 256,IntKind.i32.wrap ((UInt8.ofNat n.val).toNat:Int)=((UInt8.ofNat n.val).toNat:Int):=by decide +kernel
 have:=h ⟨c.toNat,c.toNat_lt⟩;simpa using this
theorem aaq:IntKind.i32.wrap 48=48:=by decide +kernel
theorem aar:IntKind.i32.wrap 49=49:=by decide +kernel
theorem x9:(⟨#[32,38,124,33,94,126,40,41,61]⟩:ByteArray)=bs lL:=rfl
theorem Fv (G:aq) (t:List UInt8) (q i:Nat) (ht:t.length < 2^60) (hi:i<=t.length) :
  MC prog G [500] 229 [.ref 500 0 0] (ak (ab0 t i 0 (-1))) (.d (dS (fS t (aZ t i)))) (ak (ab0 t (ace (ea t q i)) (eR (ea t q i)) (pR (ea t q i)))):=by
 have gP:=Fs G t i ht hi 0 (-1);have aib:=im hi;have qJ:=afR hi;unfold ea;generalize aZ t i=j at gP aib qJ ⊢;have wT:=xZ G t j ht aib 3;have wU:=xZ G t j ht aib 5;rw[qJ]at wT wU;have hel:=Bs t j;have het:=Gc aib;have lA:(t.drop j).take (lO t j - j)=fS t j:=rfl
 have D1:(fS t j).length < 2^60:=by
  rw[<- lA,acz,acK];omega
 have ad8:=Ky G (fS t j) D1;rw[<- Kt]at ad8;refine MC.abS (al _) func229 rfl rfl (rs:=[.tmp 2]) results229 (by simp[ntmps229]) rfl fun X=>?_;simp only[ntmps229];have fw:=(Aq @afg (Aq @ab0.eq_1 @afi));refine rgq fw [0] [500] ?_;refine bf fw gP [0] [500] ?_;refine rgq fw [0,3] [500] ?_;refine af fun K1 ax=>?_;refine bQ (S:=Nat) (fun k=>j<=k/\k<=t.length/\rD t j k) (fun k=>⟨aV [(0,.ref 500 0 0),(3,int k)],ak [(500,.box 247 [.d (dS t),int j,int 0,int (-1)])]⟩) (fun k=>t.length - k) j ?_ ⟨abL _,aib,.inl rfl⟩ ?_
 .refine abW fw
 .rintro k ⟨hjk,hk,hat⟩;refine af fun K2 aa=>?_
  refine (fun ek hstop=>?_) (fun (σ:St) (hn:rD t j (k+1)) (hkl:k < t.length) himp=>aa σ (AW.imp (τ:=⟨aV [(0,.ref 500 0 0),(3,int k)],ak [(500,.box 247 [.d (dS t),int j,int 0,int (-1)])]⟩) himp ?_))
   (fun (σ:St) (he:k=lO t j) himp=>ax σ (AW.imp (τ:=⟨aV [(0,.ref 500 0 0),(3,int k)],ak [(500,.box 247 [.d (dS t),int j,int 0,int (-1)])]⟩) himp ?_))
  .by_cases hkl:k < t.length
   .have fW:=O1 G t[k];have sv:=uY t[k]
    cases uH:jc t[k] with
    | true=>
     rw[uH]at fW sv;have qf:=(Aq fw (Aq @bl (Aq @cj (Aq @x9 (Aq @F9 @hkl)))));refine dr fW [0,3,54] [500] ?_;refine abN rfl ?_;refine bx (hstop _ (o4 hat hk fun _=>⟨sv.2 (.inl rfl),fun _=>⟨fun e=>?_,fun e=>?_⟩⟩) ?_)
     .rw[e]at uH;exact absurd uH (by decide)
     .rw[e]at uH;exact absurd uH (by decide)
     .refine abW fw
    | false=>
     rw[uH]at fW sv;by_cases aic:j < k
     .have iW:(j:Int) < (k:Int):=by omega
      have zD:t[k] ∉ mi\/(j < k/\(t[k]=48\/t[k]=49)):=by
       by_cases hm:t[k]∈mi
       .rcases sv.1 hm with h | h | h
        .cases h
        .exact .inr ⟨aic,.inl h⟩
        .exact .inr ⟨aic,.inr h⟩
       .exact .inl hm
      have qf:=(Aq fw (Aq @bl (Aq @cj (Aq @x9 (Aq @F9 (Aq @hkl (Aq @iW @aic)))))));refine dr fW [0,3,54] [500] ?_;refine abP rfl ?_;refine abO (ek _ (vQ hat hkl zD) hkl ?_);refine abW fw
     .have iW:¬ (j:Int) < (k:Int):=by omega
      by_cases mC:((t[k]).toNat:Int)=48
      .have hc:t[k]=48:=(vA _ 48 (by decide)).1 mC;rw[mC]at fW;have qf:=(Aq fw (Aq @bl (Aq @cj (Aq @x9 (Aq @aaq (Aq @hkl (Aq @iW (Aq @aic @mC))))))));refine dr fW [0,3,54] [500] ?_;refine abN rfl ?_;refine bx (hstop _ (o4 hat hk fun _=>⟨sv.2 (.inr (.inl hc)),fun h=>absurd h aic⟩) ?_);refine abW fw
      .by_cases h49:((t[k]).toNat:Int)=49
       .have hc:t[k]=49:=(vA _ 49 (by decide)).1 h49;rw[h49]at fW;have qf:=(Aq fw (Aq @bl (Aq @cj (Aq @x9 (Aq @aar (Aq @hkl (Aq @iW (Aq @aic (Aq @mC @h49)))))))));refine dr fW [0,3,54] [500] ?_;refine abN rfl ?_;refine bx (hstop _ (o4 hat hk fun _=>⟨sv.2 (.inr (.inr hc)),fun h=>absurd h aic⟩) ?_);refine abW fw
       .have hm:t[k] ∉ mi:=fun hm=>by
         rcases sv.1 hm with h | h | h
         .cases h
         .exact mC (by rw[h];rfl)
         .exact h49 (by rw[h];rfl)
        have qf:=(Aq fw (Aq @bl (Aq @cj (Aq @x9 (Aq @F9 (Aq @hkl (Aq @iW (Aq @aic (Aq @mC @h49)))))))));refine dr fW [0,3,54] [500] ?_;refine abP rfl ?_;refine abO (ek _ (vQ hat hkl (.inl hm)) hkl ?_);refine abW fw
   .obtain rfl:k=t.length:=by omega
    by_cases aic:j < t.length
    .have iW:(j:Int) < (t.length:Int):=by omega
     have qf:=(Aq fw (Aq @bl (Aq @cj (Aq @iW @aic))));refine abQ [0,3,54] [500] ?_;refine abN rfl ?_;refine bx (hstop _ (o4 hat hk fun h=>absurd h hkl) ?_);refine abW fw
    .have iW:¬ (j:Int) < (t.length:Int):=by omega
     have qf:=(Aq fw (Aq @bl (Aq @cj (Aq @iW @aic))));refine abQ [0,3,54] [500] ?_;refine abN rfl ?_;refine bx (hstop _ (o4 hat hk fun h=>absurd h hkl) ?_);refine abW fw
  .refine aR ?_;refine reQ fw ?_;(try simp only[aJ,aL]);refine aS.mk (k+1) ⟨by omega,by omega,hn⟩ (by omega) ?_;refine abW fw
  .subst he;clear ax aa;have Ec:List.take (lO t j - j) (List.drop j t)=fS t j:=lA;have qf:=(Aq fw (Aq @bl (Aq @GZ (Aq @hel (Aq @het @Ec)))));refine fQ [0,3,4] [500] ?_;refine af fun K3 aQ=>?_;refine aR ?_;by_cases hs:fS t j=[]
   .refine rg [0,3,4,71] [500] (cJ rfl) fun K' ae=>?_;(repeat (refine sxn fun K2 aa=>?_;simp[ab,ab0,dS,hs,br,aY,aO];(repeat (refine⟨by omega,?_⟩));refine aa _ ?_;clear aa K2));refine sxz (ae _ (AW.st (by simp[ab,ab0,dS,hs,br,aY,aO];rfl) ?_));clear ae K';refine abP rfl ?_;refine cR (al _) fun K' ae=>?_;(repeat (refine sxn fun K2 aa=>?_;simp[ab,ab0,dS];(repeat (refine⟨by omega,?_⟩));refine aa _ ?_;clear aa K2));refine sxn fun K2 aa=>?_;simp[ab,ab0,dS];refine ab8.mc (wT) ?_ ?_ ?_ ?_ ?_<;>simp[ab,ab0,dS];refine aa _ ?_;clear aa K2;(repeat (refine sxn fun K2 aa=>?_;simp[ab,ab0,dS];(repeat (refine⟨by omega,?_⟩));refine aa _ ?_;clear aa K2));refine sxz (ae _ ?_);clear ae K';refine aQ _ (AW.norm [4] [500] (cJ rfl) (AW.st (by simp[ab,ab0,dS];rfl) ?_));refine rgq fw [2] [500] ?_;refine ab1 ?_;simp[D.le,D.le.go,aC,ab,ab0,dS,ab0,ace,eR,pR,hs,br]
   .have jS:(fS t j == [])=false:=by simpa using hs
    have nL:(fS t j).isEmpty=false:=by rw[ad3];exact hs
    refine rg [0,3,4,71] [500] (cJ rfl) fun K' ae=>?_;(repeat (refine sxn fun K2 aa=>?_;simp[ab,ab0,dS,br,aY,aO,hs,jS,nL];(repeat (refine⟨by omega,?_⟩));refine aa _ ?_;clear aa K2));refine sxz (ae _ (AW.st (by simp[ab,ab0,dS,br,aY,aO,hs,jS,nL];rfl) ?_));clear ae K';refine abN rfl ?_
    cases hn:gd (fS t j) with
    | false=>
     rw[hn]at ad8;refine aT fw ad8 [0,3,4,76] [500] ?_;refine abP rfl ?_;refine cR (al _) fun K' ae=>?_;(repeat (refine sxn fun K2 aa=>?_;simp[ab,ab0,dS];(repeat (refine⟨by omega,?_⟩));refine aa _ ?_;clear aa K2));refine sxn fun K2 aa=>?_;simp[ab,ab0,dS];refine ab8.mc (wU) ?_ ?_ ?_ ?_ ?_<;>simp[ab,ab0,dS];refine aa _ ?_;clear aa K2;(repeat (refine sxn fun K2 aa=>?_;simp[ab,ab0,dS];(repeat (refine⟨by omega,?_⟩));refine aa _ ?_;clear aa K2));refine sxz (ae _ ?_);clear ae K';refine aQ _ (AW.norm [4] [500] (cJ rfl) (AW.st (by simp[ab,ab0,dS];rfl) ?_));refine rgq fw [2] [500] ?_;exact aN (Aq fw (Aq @ab0.eq_1 (Aq @ace.eq_1 (Aq @ace.eq_2 (Aq @eR.eq_1 (Aq @eR.eq_2 (Aq @pR.eq_1 (Aq @pR.eq_2 (Aq @hs @hn)))))))))
    | true=>
     rw[hn]at ad8;refine aT fw ad8 [0,3,4,76] [500] ?_;refine abN rfl ?_;refine reK fw aQ [4] [500] ?_;refine rgq fw [2] [500] ?_;exact aN (Aq fw (Aq @ab0.eq_1 (Aq @ace.eq_1 (Aq @ace.eq_2 (Aq @eR.eq_1 (Aq @eR.eq_2 (Aq @pR.eq_1 (Aq @pR.eq_2 (Aq @hs @hn)))))))))
def cW:D:=.sl (some false) []
mutual
def dR:Ex->D
 | .ff b=>.ip [dS [if b then 49 else 48],dS [],cW]
 | .bit s=>.ip [dS [98,105,116],dS s,cW]
 | .adb s=>.ip [dS [94],dS s,cW]
 | .fT s=>.ip [dS [126],dS s,cW]
 | .not e=>.ip [dS [33],dS [],.sl none [[dR e]]]
 | .and l=>.ip [dS [38],dS [],.sl none (rU l)]
 | .or l=>.ip [dS [124],dS [],.sl none (rU l)]
def rU:List Ex->List (List D)
 | []=>[]
 | e :: l=>[dR e] :: rU l
end
theorem tR:∀ l:List Ex,rU l=l.map fun e=>[dR e]
 | []=>rfl
 | e :: l=>by rw[rU,tR l];rfl
theorem tQ (e:Ex):∃ c,dR e = .ip c:=by
 cases e<;>simp only[dR]<;>exact⟨_,rfl⟩
theorem rT (e:Ex):(dR e).one=true:=by
 obtain⟨c,h⟩:=tQ e;rw[h];rfl
theorem cells_one {y:D} (h:y.one=true):gm (.d y)=some [.d y]:=by
 cases y<;>first | (simp[gm,AV.one,D.one]at h ⊢;done) | (simp[D.one]at h;simp[gm,AV.one,D.one,h])
def gF (r:Rs Ex) (y:D):D:=match r with
 | .ok x _=>dR x
 | .err _ _ _=>y
def gh {α:Type} (r:Rs α) (k:Nat):Nat:=match r with
 | .ok _ j=>j
 | .err _ _ _=>k
def yz (G:aq) (t:List UInt8) (fx:List Nat) (xr:List (Nat×Row)) (g:FuncId) (xs:List AV) (d:Nat) (r:Rs Ex) (i:Nat) (y:D) (k:Nat):Prop:=
 MC prog G fx g xs (ak (ab0 t i 0 (-1) ++ xr)) (.d (gF r y)) (ak (ab0 t (gh r k) (eR r) (pR r) ++ xr))/\(∀ c p q,r = .err c p q->0 < c/\y.one=true/\k<=t.length+d)
def Reads (G:aq) (t:List UInt8) (fx:List Nat) (xr:List (Nat×Row)) (g:FuncId) (xs:List AV) (d:Nat) (f:Nat->Rs Ex):Prop:=∃ (yF:Nat->D) (kF:Nat->Nat),∀ i,i<=t.length->yz G t fx xr g xs d (f i) i (yF i) (kF i)
theorem A4 {G:aq} {t:List UInt8} {fx:List Nat} {xr:List (Nat×Row)} {g:FuncId} {xs:List AV} {d:Nat} {f:Nat->Rs Ex} (h:∀ i,i<=t.length->∃ y k,yz G t fx xr g xs d (f i) i y k):Reads G t fx xr g xs d f:=by
 have h2:∀ i,∃ z:D×Nat,i<=t.length->yz G t fx xr g xs d (f i) i z.1 z.2:=fun i=>by
  by_cases hi:i<=t.length
  .obtain⟨y,k,h⟩:=h i hi;exact⟨(y,k),fun _=>h⟩
  .exact⟨(default,0),fun h=>absurd h hi⟩
 exact⟨fun i=>(Classical.choose (h2 i)).1,fun i=>(Classical.choose (h2 i)).2,fun i hi=>Classical.choose_spec (h2 i) hi⟩
def kZ (t:List UInt8) (s:UInt8) (f:Nat->Rs Ex):Nat->Nat->List Ex->List Ex×Nat
 | 0,i,acc=>(acc,i)
 | n+1,i,acc=>match f i with
  | .err _ _ _=>(acc,i)
  | .ok x j=>if (cQ t s j).1 then kZ t s f n (cQ t s j).2 (acc ++ [x]) else (acc,i)
theorem aho {t:List UInt8} {s:UInt8} {f:Nat->Rs Ex} (hf:iu t f):∀ (n m i:Nat) (acc:List Ex),i<=t.length->t.length+1 - i<=n->t.length+1 - i<=m->kZ t s f n i acc=kZ t s f m i acc
 | 0,_,i,_,hi,h,_=>by omega
 | _+1,0,i,_,hi,_,h=>by omega
 | n+1,m+1,i,acc,hi,h1,h2=>by
  rw[kZ,kZ]
  cases bA:f i with
  | err c p q=>rfl
  | ok x j=>
   obtain⟨g1,g2⟩:=hf i x j hi bA;obtain⟨t1,t2,t3⟩:=ku (c:=s) g2;dsimp only;split
   .exact aho hf n m _ _ t2 (by omega) (by omega)
   .rfl
def afQ (t:List UInt8) (s:UInt8) (f:Nat->Rs Ex) (i:Nat) (acc:List Ex):List Ex×Nat:=kZ t s f (t.length+1 - i) i acc
theorem rv {t:List UInt8} {s:UInt8} {f:Nat->Rs Ex} (hf:iu t f) {i:Nat} (hi:i<=t.length) (acc:List Ex):afQ t s f i acc=match f i with
  | .err _ _ _=>(acc,i)
  | .ok x j=>if (cQ t s j).1 then afQ t s f (cQ t s j).2 (acc ++ [x]) else (acc,i):=by
 unfold afQ;obtain⟨n,hn⟩:∃ n,t.length+1 - i=n+1:=⟨t.length - i,by omega⟩;rw[hn,kZ]
 cases bA:f i with
 | err c p q=>rfl
 | ok x j=>
  obtain⟨g1,g2⟩:=hf i x j hi bA;obtain⟨t1,t2,t3⟩:=ku (c:=s) g2;dsimp only;split
  .exact aho hf _ _ _ _ t2 (by omega) (by omega)
  .rfl
theorem AJ {t:List UInt8} {i:Nat} {c:UInt8} (hc:c≠0):(cQ t c i).1=decide (((lF t i).toNat:Int)=(c.toNat:Int)):=by
 unfold cQ lF;rw[abJ]
 cases h:t[aZ t i]? with
 | none=>
  rw[if_neg (by simp)];simp only[Option.getD_none]
  symm
  rw[decide_eq_false_iff_not];intro e;apply hc
  have:c.toNat=0:=by simp at e;omega
  exact UInt8.toNat_inj.1 (by simpa using this)
 | some b=>
  simp only[adW];by_cases hb:b=c
  .subst hb;simp
  .have:¬ ((b.toNat:Int)=(c.toNat:Int)):=fun e=>hb (UInt8.toNat_inj.1 (by omega));simp[hb,this]
theorem F5 {t:List UInt8} {c:UInt8} {i:Nat}:(cQ t c i).2=if (cQ t c i).1 then aZ t i+1 else aZ t i:=by
 unfold cQ;split<;>rfl
def jD (s:UInt8) (ys:List D):D:=match ys with
 | [y]=>y
 | ys=>.ip [dS [s],dS [],.sl none (ys.map fun y=>[y])]
theorem Ba {s:UInt8} {ys:List D} (h:ys.length≠1):jD s ys = .ip [dS [s],dS [],.sl none (ys.map fun y=>[y])]:=by
 match ys,h with
 | [],_=>rfl
 | [_],h=>exact absurd rfl h
 | _ :: _ :: _,_=>rfl
theorem LH {s:UInt8} {ys:List D} (h:∀ y∈ys,y.one=true):(jD s ys).one=true:=by
 match ys,h with
 | [],_=>rfl
 | [y],h=>exact h y (by simp)
 | _ :: _ :: _,_=>rfl
theorem VY (G:aq) (t:List UInt8) (ht:t.length<=2000) (g:FuncId) (s:UInt8) (sn:Int) (fk:(s.toNat:Int)=sn) (hs0:s≠0) (Dm:Utf8.encode sn=bs [s]) (a:Int) (d:Nat) (f:Nat->Rs Ex) (hf:iu t f) (kz:List Ex->Ex) (r9:∀ l,dR (kz l)=jD s (l.map dR))
  (dJ:Reads G t [500] [] g [.ref 500 0 0,.d (ab a)] d f):Reads G t [500] [] 190 [.ref 500 0 0,.d (.v (.int .u8 sn)),.d (ab a),.bm g (.ref 500 0 0)] d (fun i=>(il t s f i []).map kz):=by
 obtain⟨yF,kF,dJ⟩:=dJ;refine A4 fun i hi=>?_;generalize hR:il t s f i []=R;generalize hZ:afQ t s f i []=Z;refine⟨jD s (Z.1.map dR ++ [yF Z.2]),kF Z.2,?_⟩
 have ad9:∀ (k:Nat) (ys:List D) (e p:Int),((e=0/\p = -1/\∃ acc,ys=acc.map dR/\R = .ok acc k)\/(∃ c p' q,R = .err c p' q/\e=c/\p=p'/\ys=Z.1.map dR ++ [yF Z.2]/\k=kF Z.2))->
   gF (R.map kz) (jD s (Z.1.map dR ++ [yF Z.2]))=jD s ys/\gh (R.map kz) (kF Z.2)=k/\eR (R.map kz)=e/\pR (R.map kz)=p:=by
  rintro k ys e p (⟨rfl,rfl,acc,rfl,rfl⟩ | ⟨c,p',q,rfl,rfl,rfl,rfl,rfl⟩)
  .exact⟨by simp[Rs.map,gF,r9],rfl,rfl,rfl⟩
  .exact⟨rfl,rfl,rfl,rfl⟩
 have adT:∀ (n i:Nat) (acc:List Ex),i<=t.length->t.length+1 - i<=n->∀ c p q,fy t s f n i acc = .err c p q->0 < c/\(yF (kZ t s f n i acc).2).one=true/\kF (kZ t s f n i acc).2<=t.length+d:=by
  intro n
  induction n with
  | zero=>intro i acc hi hn;omega
  | succ n ih=>
   intro i acc hi hn c p q h;rw[fy]at h;rw[kZ]
   cases bA:f i with
   | err c' p' q'=>
    rw[bA]at h;simp only[Rs.err.injEq]at h;obtain⟨rfl,-,-⟩:=h;exact (dJ i hi).2 _ _ _ bA
   | ok x j=>
    rw[bA]at h;obtain⟨g1,g2⟩:=hf i x j hi bA;obtain⟨t1,t2,t3⟩:=ku (c:=s) g2;dsimp only at h ⊢;split at h
    .rename_i cw;rw[if_pos cw];exact ih _ _ t2 (by omega) c p q h
    .cases h
 refine⟨?_,fun c p q h=>?_⟩
 rotate_left
 .cases R with
  | ok l j=>cases h
  | err c' p' q'=>
   simp only[Rs.map,Rs.err.injEq]at h;obtain⟨rfl,rfl,rfl⟩:=h;obtain⟨h1,h2,h3⟩:=adT _ i [] hi (abL _) _ _ _ hR
   have C4:(kZ t s f (t.length+1 - i) i []).2=Z.2:=by rw[<- hZ];rfl
   rw[C4]at h2 h3;refine⟨h1,LH fun y hy=>?_,h3⟩
   rcases ab4.1 hy with hy | hy
   .obtain⟨x,_,rfl⟩:=acD.1 hy;exact rT x
   .simp at hy;subst hy;exact h2
 generalize Ta:jD s (Z.1.map dR ++ [yF Z.2])=yE at ad9 ⊢;generalize R.map kz=RR at ad9 ⊢;refine MC.abS (al _) func190 rfl rfl (rs:=[.tmp 8]) results190 (by simp[ntmps190]) rfl fun X=>?_;simp only[ntmps190];have fw:=(Aq @afg (Aq @ab0.eq_1 @afi));refine rgq fw [0,1,2,3] [500] ?_;have Dv:=(dJ i hi).1
 have adK:(gF (f i) (yF i)).one=true:=by
  cases bA:f i with
  | ok x j=>exact rT x
  | err c p q=>exact ((dJ i hi).2 _ _ _ bA).2.1
 have uq:=cells_one adK;have qf:=(Aq fw @uq);refine adu Dv [0,1,2,3,9] [500,13] ?_;refine af fun K1 ax=>?_
 refine bQ (S:=Nat×List D×Int×Int) (fun z=>(z.2.2.1=0/\z.2.2.2 = -1/\z.1<=t.length/\∃ acc,z.2.1=acc.map dR/\0 < acc.length/\acc.length<=z.1/\(if (cQ t s z.1).1 then il t s f (cQ t s z.1).2 acc else .ok acc (cQ t s z.1).2)=R/\((cQ t s z.1).1=true->afQ t s f (cQ t s z.1).2 acc=Z))\/(0 < z.2.2.1/\z.2.1.length<=2001/\∃ c p q,R = .err c p q/\z.2.2.1=c/\z.2.2.2=p/\z.2.1=Z.1.map dR ++ [yF Z.2]/\z.1=kF Z.2))
  (fun z=>⟨aV [(0,.ref 500 0 0),(1,.d (.v (.int .u8 sn))),(2,.d (ab a)),(3,.bm g (.ref 500 0 0)),(9,.own 13 0 z.2.1.length)],ak [(500,.box 247 [.d (dS t),int z.1,int z.2.2.1,int z.2.2.2]),(13,.sl 91 1 (z.2.1.map fun y=>[y]))]⟩) (fun z=>if z.2.2.1=0 then t.length+1 - z.1 else 0) (gh (f i) (kF i),[gF (f i) (yF i)],eR (f i),pR (f i)) ?_ ?_ ?_
 .refine abW fw
 .cases bA:f i with
  | ok x j=>
   obtain⟨g1,g2⟩:=hf i x j hi bA;rw[p5 hf hi,bA]at hR;rw[rv hf hi,bA]at hZ;exact .inl ⟨rfl,rfl,g2,[x],rfl,by simp,by simp[gh];omega,hR,fun h=>by dsimp only[gh]at h ⊢;simpa only[h,if_true,aei]using hZ⟩
  | err c p q=>
   rw[p5 hf hi,bA]at hR;rw[rv hf hi,bA]at hZ;obtain⟨h1,h2,h3⟩:=(dJ i hi).2 _ _ _ bA;exact .inr ⟨h1,by simp,c,p,0,hR.symm,rfl,rfl,by rw[<- hZ];rfl,by rw[<- hZ];rfl⟩
 .rintro⟨k,ys,e,p⟩ hI;dsimp only at hI ⊢;refine af fun K2 aa=>?_
  refine (fun sa=>?_) (fun (σ:St) (k:Nat) (ys:List D) (e p:Int) (hl:ys.length<=2001) (Df:(e=0/\p = -1/\∃ acc,ys=acc.map dR/\R = .ok acc k)\/(∃ c p' q,R = .err c p' q/\e=c/\p=p'/\ys=Z.1.map dR ++ [yF Z.2]/\k=kF Z.2)) himp=>
   ax σ (AW.imp (τ:=⟨aV [(0,.ref 500 0 0),(1,.d (.v (.int .u8 sn))),(9,.own 13 0 ys.length)],ak [(500,.box 247 [.d (dS t),int k,int e,int p]),(13,.sl 91 1 (ys.map fun y=>[y]))]⟩) himp ?_))
  .rcases hI with⟨rfl,rfl,hk,acc,rfl,C6,Q4,fK,iR⟩ | ⟨he,hlen,c,p',q,r7,rfl,rfl,rfl,rfl⟩
   .have eH:=agt G t k (by omega) hk 0 (-1);have cw:=AJ (t:=t) (i:=k) hs0;rw[fk]at cw;have iH:=F5 (t:=t) (c:=s) (i:=k);obtain⟨t1,t2,t3⟩:=ku (t:=t) (c:=s) hk;have aib:=im hk;by_cases hb:((lF t k).toNat:Int)=sn
    .rw[decide_eq_true hb]at cw;rw[cw]at fK iR iH t3;simp only[if_true]at fK iH;have iR:=iR rfl;have t3:=t3 rfl;rw[iH]at fK iR t2 t3;have qf:=(Aq fw @hb);refine adu eH [0,1,2,3,9,25] [500,13] ?_;refine abP rfl ?_;refine abO (aa _ ?_);refine aR ?_;refine rgq fw [0,1,2,3,9] [500,13] ?_;have ou:=(dJ _ t2).1;rw[adV]at ou
     have nG:(gF (f (aZ t k+1)) (yF (aZ t k+1))).one=true:=by
      cases bA:f (aZ t k+1) with
      | ok x j=>exact rT x
      | err c p q=>exact ((dJ _ t2).2 _ _ _ bA).2.1
     have pA:=cells_one nG;refine cR (al _) fun K' ae=>?_;(repeat (refine sxn fun K2 aa=>?_;simp[ab,ab0,dS,pA,nG,sh];(repeat (refine⟨by omega,?_⟩));refine aa _ ?_;clear aa K2));refine sxn fun K2 aa=>?_;simp[ab,ab0,dS,pA,nG,sh];refine ab8.mc (ou) ?_ ?_ ?_ ?_ ?_<;>simp[ab,ab0,dS,pA,nG,sh];refine aa _ ?_;clear aa K2;(repeat (refine sxn fun K2 aa=>?_;simp[ab,ab0,dS,pA,nG,sh];(repeat (refine⟨by omega,?_⟩));refine aa _ ?_;clear aa K2));refine sxz (ae _ ?_);clear ae K';(try simp only[aJ,aL]);refine aS.mk (gh (f (aZ t k+1)) (kF (aZ t k+1)),acc.map dR ++ [gF (f (aZ t k+1)) (yF (aZ t k+1))],eR (f (aZ t k+1)),pR (f (aZ t k+1))) ?_ ?_ ?_
     .cases bA:f (aZ t k+1) with
      | ok x j=>
       obtain⟨g1,g2⟩:=hf _ x j t2 bA;rw[p5 hf t2,bA]at fK;rw[rv hf t2,bA]at iR;exact .inl ⟨rfl,rfl,g2,acc ++ [x],by simp[gF],by simp,by simp[gh];omega,fK,fun h=>by dsimp only[gh]at h ⊢;simpa only[h,if_true]using iR⟩
      | err c p q=>
       rw[p5 hf t2,bA]at fK;rw[rv hf t2,bA]at iR;obtain⟨h1,h2,h3⟩:=(dJ _ t2).2 _ _ _ bA;exact .inr ⟨h1,by simp;omega,c,p,0,fK.symm,rfl,rfl,by rw[<- iR];rfl,by rw[<- iR];rfl⟩
     .cases bA:f (aZ t k+1) with
      | ok x j=>
       obtain⟨g1,g2⟩:=hf _ x j t2 bA;simp only[eR,gh,if_true];omega
      | err c p q=>
       obtain⟨h1,h2,h3⟩:=(dJ _ t2).2 _ _ _ bA
       have ic:¬ c=0:=by omega
       simp[eR,ic];omega
     .refine abW fw
    .rw[decide_eq_false hb]at cw;rw[cw]at fK iH;simp only[abT,if_false]at fK iH;have qf:=(Aq fw @hb);refine adu eH [0,1,2,3,9,25] [500,13] ?_;refine abN rfl ?_;refine bx (sa _ (aZ t k) (acc.map dR) 0 (-1) (by simp;omega) (.inl ⟨rfl,rfl,acc,rfl,by rw[<- fK,iH]⟩) ?_);refine abW fw
   .have he2:¬ e=0:=by omega
    have qf:=(Aq fw @he2);refine abQ [0,1,2,3,9,25] [500,13] ?_;refine abN rfl ?_;refine bx (sa _ (kF Z.2) _ e p' hlen (.inr ⟨e,p',q,r7,rfl,rfl,rfl,rfl⟩) ?_);refine abW fw
  .obtain⟨h1,h2,h3,h4⟩:=ad9 k ys e p Df;rw[h1,h2,h3,h4];refine af fun K3 aQ=>?_;by_cases hl1:ys.length=1
   .obtain⟨y,rfl⟩:=acX.1 hl1;refine rgq fw [1,9,41] [500,13] ?_;refine abP rfl ?_;refine rgq fw [8] [500] ?_;exact aN (Aq fw (Aq @jD.eq_1 @jD.eq_2))
   .have fX:¬ (ys.length:Int)=1:=by omega
    have qf:=(Aq fw (Aq @hl1 @fX));refine abQ [1,9,41] [500,13] ?_;refine abN rfl ?_;refine abO (aQ _ ?_);refine AW.imp (aB.freeze 13 (by decide)) ?_;refine AW.st (by simp[ab,ab0,dS,sh];rfl) ?_;have qf:=(Aq fw @Dm);refine abQ [8] [500,49] ?_;refine acp fw 49 ?_;refine ab1 ?_;simp[D.le,D.le.go,aC,ab,ab0,dS,Ba hl1,dS,br,D.le_refl,D.abY]
theorem VZ (G:aq) (t:List UInt8) (ht:t.length<=2000) (g:FuncId) (s:UInt8) (sn:Int) (fk:(s.toNat:Int)=sn) (hs0:s≠0) (Dm:Utf8.encode sn=bs [s]) (a:Int) (d:Nat) (f:Nat->Rs Ex) (hf:iu t f) (kz:List Ex->Ex) (r9:∀ l,dR (kz l)=jD s (l.map dR))
  (dJ:Reads G t [500,501] [(501,.box 245 [.ref 500 0 0])] g [.d (ab a),.ref 501 0 0] d f):Reads G t [500,501] [(501,.box 245 [.ref 500 0 0])] 190 [.ref 500 0 0,.d (.v (.int .u8 sn)),.d (ab a),.fn (.func g) [.ref 501 0 0]] d (fun i=>(il t s f i []).map kz):=by
 obtain⟨yF,kF,dJ⟩:=dJ;refine A4 fun i hi=>?_;generalize hR:il t s f i []=R;generalize hZ:afQ t s f i []=Z;refine⟨jD s (Z.1.map dR ++ [yF Z.2]),kF Z.2,?_⟩
 have ad9:∀ (k:Nat) (ys:List D) (e p:Int),((e=0/\p = -1/\∃ acc,ys=acc.map dR/\R = .ok acc k)\/(∃ c p' q,R = .err c p' q/\e=c/\p=p'/\ys=Z.1.map dR ++ [yF Z.2]/\k=kF Z.2))->
   gF (R.map kz) (jD s (Z.1.map dR ++ [yF Z.2]))=jD s ys/\gh (R.map kz) (kF Z.2)=k/\eR (R.map kz)=e/\pR (R.map kz)=p:=by
  rintro k ys e p (⟨rfl,rfl,acc,rfl,rfl⟩ | ⟨c,p',q,rfl,rfl,rfl,rfl,rfl⟩)
  .exact⟨by simp[Rs.map,gF,r9],rfl,rfl,rfl⟩
  .exact⟨rfl,rfl,rfl,rfl⟩
 have adT:∀ (n i:Nat) (acc:List Ex),i<=t.length->t.length+1 - i<=n->∀ c p q,fy t s f n i acc = .err c p q->0 < c/\(yF (kZ t s f n i acc).2).one=true/\kF (kZ t s f n i acc).2<=t.length+d:=by
  intro n
  induction n with
  | zero=>intro i acc hi hn;omega
  | succ n ih=>
   intro i acc hi hn c p q h;rw[fy]at h;rw[kZ]
   cases bA:f i with
   | err c' p' q'=>
    rw[bA]at h;simp only[Rs.err.injEq]at h;obtain⟨rfl,-,-⟩:=h;exact (dJ i hi).2 _ _ _ bA
   | ok x j=>
    rw[bA]at h;obtain⟨g1,g2⟩:=hf i x j hi bA;obtain⟨t1,t2,t3⟩:=ku (c:=s) g2;dsimp only at h ⊢;split at h
    .rename_i cw;rw[if_pos cw];exact ih _ _ t2 (by omega) c p q h
    .cases h
 refine⟨?_,fun c p q h=>?_⟩
 rotate_left
 .cases R with
  | ok l j=>cases h
  | err c' p' q'=>
   simp only[Rs.map,Rs.err.injEq]at h;obtain⟨rfl,rfl,rfl⟩:=h;obtain⟨h1,h2,h3⟩:=adT _ i [] hi (abL _) _ _ _ hR
   have C4:(kZ t s f (t.length+1 - i) i []).2=Z.2:=by rw[<- hZ];rfl
   rw[C4]at h2 h3;refine⟨h1,LH fun y hy=>?_,h3⟩
   rcases ab4.1 hy with hy | hy
   .obtain⟨x,_,rfl⟩:=acD.1 hy;exact rT x
   .simp at hy;subst hy;exact h2
 generalize Ta:jD s (Z.1.map dR ++ [yF Z.2])=yE at ad9 ⊢;generalize R.map kz=RR at ad9 ⊢;refine MC.abS (al _) func190 rfl rfl (rs:=[.tmp 8]) results190 (by simp[ntmps190]) rfl fun X=>?_;simp only[ntmps190];have fw:=(Aq @afg (Aq @ab0.eq_1 @afi));refine rgq fw [0,1,2,3] [500,501] ?_;have Dv:=(dJ i hi).1
 have adK:(gF (f i) (yF i)).one=true:=by
  cases bA:f i with
  | ok x j=>exact rT x
  | err c p q=>exact ((dJ i hi).2 _ _ _ bA).2.1
 have uq:=cells_one adK;have qf:=(Aq fw @uq);refine adu Dv [0,1,2,3,9] [500,501,13] ?_;refine af fun K1 ax=>?_
 refine bQ (S:=Nat×List D×Int×Int) (fun z=>(z.2.2.1=0/\z.2.2.2 = -1/\z.1<=t.length/\∃ acc,z.2.1=acc.map dR/\0 < acc.length/\acc.length<=z.1/\(if (cQ t s z.1).1 then il t s f (cQ t s z.1).2 acc else .ok acc (cQ t s z.1).2)=R/\((cQ t s z.1).1=true->afQ t s f (cQ t s z.1).2 acc=Z))\/(0 < z.2.2.1/\z.2.1.length<=2001/\∃ c p q,R = .err c p q/\z.2.2.1=c/\z.2.2.2=p/\z.2.1=Z.1.map dR ++ [yF Z.2]/\z.1=kF Z.2))
  (fun z=>⟨aV [(0,.ref 500 0 0),(1,.d (.v (.int .u8 sn))),(2,.d (ab a)),(3,.fn (.func g) [.ref 501 0 0]),(9,.own 13 0 z.2.1.length)],ak [(500,.box 247 [.d (dS t),int z.1,int z.2.2.1,int z.2.2.2]),(501,.box 245 [.ref 500 0 0]),(13,.sl 91 1 (z.2.1.map fun y=>[y]))]⟩) (fun z=>if z.2.2.1=0 then t.length+1 - z.1 else 0) (gh (f i) (kF i),[gF (f i) (yF i)],eR (f i),pR (f i)) ?_ ?_ ?_
 .refine abW fw
 .cases bA:f i with
  | ok x j=>
   obtain⟨g1,g2⟩:=hf i x j hi bA;rw[p5 hf hi,bA]at hR;rw[rv hf hi,bA]at hZ;exact .inl ⟨rfl,rfl,g2,[x],rfl,by simp,by simp[gh];omega,hR,fun h=>by dsimp only[gh]at h ⊢;simpa only[h,if_true,aei]using hZ⟩
  | err c p q=>
   rw[p5 hf hi,bA]at hR;rw[rv hf hi,bA]at hZ;obtain⟨h1,h2,h3⟩:=(dJ i hi).2 _ _ _ bA;exact .inr ⟨h1,by simp,c,p,0,hR.symm,rfl,rfl,by rw[<- hZ];rfl,by rw[<- hZ];rfl⟩
 .rintro⟨k,ys,e,p⟩ hI;dsimp only at hI ⊢;refine af fun K2 aa=>?_
  refine (fun sa=>?_) (fun (σ:St) (k:Nat) (ys:List D) (e p:Int) (hl:ys.length<=2001) (Df:(e=0/\p = -1/\∃ acc,ys=acc.map dR/\R = .ok acc k)\/(∃ c p' q,R = .err c p' q/\e=c/\p=p'/\ys=Z.1.map dR ++ [yF Z.2]/\k=kF Z.2)) himp=>
   ax σ (AW.imp (τ:=⟨aV [(0,.ref 500 0 0),(1,.d (.v (.int .u8 sn))),(9,.own 13 0 ys.length)],ak [(500,.box 247 [.d (dS t),int k,int e,int p]),(501,.box 245 [.ref 500 0 0]),(13,.sl 91 1 (ys.map fun y=>[y]))]⟩) himp ?_))
  .rcases hI with⟨rfl,rfl,hk,acc,rfl,C6,Q4,fK,iR⟩ | ⟨he,hlen,c,p',q,r7,rfl,rfl,rfl,rfl⟩
   .have eH:=agt G t k (by omega) hk 0 (-1);have cw:=AJ (t:=t) (i:=k) hs0;rw[fk]at cw;have iH:=F5 (t:=t) (c:=s) (i:=k);obtain⟨t1,t2,t3⟩:=ku (t:=t) (c:=s) hk;have aib:=im hk;by_cases hb:((lF t k).toNat:Int)=sn
    .rw[decide_eq_true hb]at cw;rw[cw]at fK iR iH t3;simp only[if_true]at fK iH;have iR:=iR rfl;have t3:=t3 rfl;rw[iH]at fK iR t2 t3;have qf:=(Aq fw @hb);refine adu eH [0,1,2,3,9,25] [500,501,13] ?_;refine abP rfl ?_;refine abO (aa _ ?_);refine aR ?_;refine rgq fw [0,1,2,3,9] [500,501,13] ?_;have ou:=(dJ _ t2).1;rw[adV]at ou
     have nG:(gF (f (aZ t k+1)) (yF (aZ t k+1))).one=true:=by
      cases bA:f (aZ t k+1) with
      | ok x j=>exact rT x
      | err c p q=>exact ((dJ _ t2).2 _ _ _ bA).2.1
     have pA:=cells_one nG;refine cR (al _) fun K' ae=>?_;(repeat (refine sxn fun K2 aa=>?_;simp[ab,ab0,dS,pA,nG,sh];(repeat (refine⟨by omega,?_⟩));refine aa _ ?_;clear aa K2));refine sxn fun K2 aa=>?_;simp[ab,ab0,dS,pA,nG,sh];refine ab8.mc (ou) ?_ ?_ ?_ ?_ ?_<;>simp[ab,ab0,dS,pA,nG,sh];refine aa _ ?_;clear aa K2;(repeat (refine sxn fun K2 aa=>?_;simp[ab,ab0,dS,pA,nG,sh];(repeat (refine⟨by omega,?_⟩));refine aa _ ?_;clear aa K2));refine sxz (ae _ ?_);clear ae K';(try simp only[aJ,aL]);refine aS.mk (gh (f (aZ t k+1)) (kF (aZ t k+1)),acc.map dR ++ [gF (f (aZ t k+1)) (yF (aZ t k+1))],eR (f (aZ t k+1)),pR (f (aZ t k+1))) ?_ ?_ ?_
     .cases bA:f (aZ t k+1) with
      | ok x j=>
       obtain⟨g1,g2⟩:=hf _ x j t2 bA;rw[p5 hf t2,bA]at fK;rw[rv hf t2,bA]at iR;exact .inl ⟨rfl,rfl,g2,acc ++ [x],by simp[gF],by simp,by simp[gh];omega,fK,fun h=>by dsimp only[gh]at h ⊢;simpa only[h,if_true]using iR⟩
      | err c p q=>
       rw[p5 hf t2,bA]at fK;rw[rv hf t2,bA]at iR;obtain⟨h1,h2,h3⟩:=(dJ _ t2).2 _ _ _ bA;exact .inr ⟨h1,by simp;omega,c,p,0,fK.symm,rfl,rfl,by rw[<- iR];rfl,by rw[<- iR];rfl⟩
     .cases bA:f (aZ t k+1) with
      | ok x j=>
       obtain⟨g1,g2⟩:=hf _ x j t2 bA;simp only[eR,gh,if_true];omega
      | err c p q=>
       obtain⟨h1,h2,h3⟩:=(dJ _ t2).2 _ _ _ bA
       have ic:¬ c=0:=by omega
       simp[eR,ic];omega
     .refine abW fw
    .rw[decide_eq_false hb]at cw;rw[cw]at fK iH;simp only[abT,if_false]at fK iH;have qf:=(Aq fw @hb);refine adu eH [0,1,2,3,9,25] [500,501,13] ?_;refine abN rfl ?_;refine bx (sa _ (aZ t k) (acc.map dR) 0 (-1) (by simp;omega) (.inl ⟨rfl,rfl,acc,rfl,by rw[<- fK,iH]⟩) ?_);refine abW fw
   .have he2:¬ e=0:=by omega
    have qf:=(Aq fw @he2);refine abQ [0,1,2,3,9,25] [500,501,13] ?_;refine abN rfl ?_;refine bx (sa _ (kF Z.2) _ e p' hlen (.inr ⟨e,p',q,r7,rfl,rfl,rfl,rfl⟩) ?_);refine abW fw
  .obtain⟨h1,h2,h3,h4⟩:=ad9 k ys e p Df;rw[h1,h2,h3,h4];refine af fun K3 aQ=>?_;by_cases hl1:ys.length=1
   .obtain⟨y,rfl⟩:=acX.1 hl1;refine rgq fw [1,9,41] [500,501,13] ?_;refine abP rfl ?_;refine rgq fw [8] [500,501] ?_;exact aN (Aq fw (Aq @jD.eq_1 @jD.eq_2))
   .have fX:¬ (ys.length:Int)=1:=by omega
    have qf:=(Aq fw (Aq @hl1 @fX));refine abQ [1,9,41] [500,501,13] ?_;refine abN rfl ?_;refine abO (aQ _ ?_);refine AW.imp (aB.freeze 13 (by decide)) ?_;refine AW.st (by simp[ab,ab0,dS,sh];rfl) ?_;have qf:=(Aq fw @Dm);refine abQ [8] [500,501,49] ?_;refine acp fw 49 ?_;refine ab1 ?_;simp[D.le,D.le.go,aC,ab,ab0,dS,Ba hl1,dS,br,D.le_refl,D.abY]
theorem Ws {r r' s:Nat} (h:r≠r') (hs:s≠r') (hr:s≠r) (row afO:Row):mY r r' (ak [(r,row),(s,afO)])=ak [(r',row.tr (fb r r') (ac4 r r')),(s,afO.tr (fb r r') (ac4 r r'))]:=by
 funext q;unfold mY;by_cases h1:q=r'
 .subst h1;simp[ak,List.lookup]
 .rw[if_neg h1];by_cases h2:q=r
  .subst h2;simp[ak,List.lookup,beq_eq_false_iff_ne.2 h1,beq_eq_false_iff_ne.2 (adr hr)]
  .by_cases h3:q=s
   .subst h3;simp[ak,List.lookup,h2,beq_eq_false_iff_ne.2 h1,beq_eq_false_iff_ne.2 h2]
   .simp[ak,List.lookup,h2,beq_eq_false_iff_ne.2 h1,beq_eq_false_iff_ne.2 h2,beq_eq_false_iff_ne.2 h3]
theorem OG (l:List Ex):dR (o8 l)=jD 38 (l.map dR):=by
 match l with
 | []=>rfl
 | [x]=>rfl
 | x :: y :: l=>rw[Ba (by simp)];simp[o8,dR,tR]
theorem OI (l:List Ex):dR (o9 l)=jD 124 (l.map dR):=by
 match l with
 | []=>rfl
 | [x]=>rfl
 | x :: y :: l=>rw[Ba (by simp)];simp[o9,dR,tR]
theorem TG:(⟨#[33]⟩:ByteArray)=bs [33]:=rfl
theorem Ub:(⟨#[98,105,116]⟩:ByteArray)=bs [98,105,116]:=rfl
theorem Po:Utf8.encode 38=bs [38]:=by decide +kernel
theorem Pm:Utf8.encode 124=bs [124]:=by decide +kernel
theorem Pp:Utf8.encode 48=bs [48]:=by decide +kernel
theorem Pq:Utf8.encode 49=bs [49]:=by decide +kernel
theorem Pr:Utf8.encode 94=bs [94]:=by decide +kernel
theorem Pn:Utf8.encode 126=bs [126]:=by decide +kernel
theorem V2 (G:aq) (t:List UInt8) (ht:t.length<=2000) (a:Int) (d:Nat) (h:Reads G t [500] [] 192 [.ref 500 0 0,.d (ab a)] d (ab7 t d)) :
  Reads G t [500,501] [(501,.box 245 [.ref 500 0 0])] 191 [.d (ab a),.ref 501 0 0] d (jG t (ab7 t d)):=by
 obtain⟨yF,kF,hr⟩:=VY G t ht 192 38 38 rfl (by decide) Po a d (ab7 t d) (aeg t d) o8 OG h;refine⟨yF,kF,fun i hi=>⟨?_,(hr i hi).2⟩⟩;have hc:=(hr i hi).1;have hR:jG t (ab7 t d) i=(il t 38 (ab7 t d) i []).map o8:=rfl;dsimp only at hc;rw[<- hR]at hc;generalize jG t (ab7 t d) i=R at hc ⊢;refine MC.abS (al _) func191 rfl rfl (rs:=[.tmp 3]) results191 (by simp[ntmps191]) rfl fun X=>?_;simp only[ntmps191];have fw:=(Aq @afg (Aq @ab0.eq_1 @afi));refine rgq fw [0,1] [500,501] ?_;refine bf fw hc [3] [500,501] ?_;exact aN (Aq fw (Aq @ab0.eq_1 @afi))
theorem Lg (G:aq) (t:List UInt8) (ht:t.length<=2000) (a:Int) (d:Nat) (h:Reads G t [500] [] 192 [.ref 500 0 0,.d (ab a)] d (ab7 t d)) :
  Reads G t [500] [] 144 [.ref 500 0 0,.d (ab a)] d (ij t (ab7 t d)):=by
 obtain⟨yF,kF,hr⟩:=VZ G t ht 191 124 124 rfl (by decide) Pm a d (jG t (ab7 t d)) (vO (aeg t d)) o9 OI (V2 G t ht a d h);refine⟨yF,kF,fun i hi=>⟨?_,(hr i hi).2⟩⟩;have hc:=(hr i hi).1;have hR:ij t (ab7 t d) i=(il t 124 (jG t (ab7 t d)) i []).map o9:=rfl;dsimp only at hc;rw[<- hR]at hc;generalize ij t (ab7 t d) i=R at hc ⊢;refine MC.abS (al _) func144 rfl rfl (rs:=[.tmp 4]) results144 (by simp[ntmps144]) rfl fun X=>?_;simp only[ntmps144];have fw:=(Aq @afg (Aq @ab0.eq_1 @afi));refine rgq fw [1,2] [2,500] ?_;refine AW.imp (aB.ren (r:=2) (r':=501) (by decide) (by simp)) ?_;refine AW.st (by simp[fb,ac4,Go.Av.ren,Ws];rfl) ?_;refine bf fw hc [4] [500,501] ?_;exact aN (Aq fw (Aq @ab0.eq_1 @afi))
theorem Vm {t:List UInt8} {i:Nat} {c:UInt8} (h:t[aZ t i]? = some c):lF t i=c:=by
 unfold lF;rw[abJ,h];rfl
theorem Vl {t:List UInt8} {i:Nat} {c:UInt8} (hc:c≠0) (h:t[aZ t i]?≠some c):¬ ((lF t i).toNat:Int)=(c.toNat:Int):=by
 have h1:=AJ (t:=t) (i:=i) hc
 have h2:(cQ t c i).1=false:=by
  unfold cQ;rw[if_neg h]
 rw[h2]at h1;exact of_decide_eq_false h1.symm
def u6:Rs Ex->Rs Ex
 | .ok x k=>.ok (.not x) k
 | .err c p _=>.err c p 0
theorem Gi {t:List UInt8} {q i j:Nat} {s:List UInt8} (h:ea t q i = .ok s j):fS t (aZ t i)=s:=by
 unfold ea at h;split at h
 .cases h
 .split at h
  .cases h
  .simp only[Rs.ok.injEq]at h;exact h.1
theorem Gj {t:List UInt8} {q i p q':Nat} {c:Int} (hi:i<=t.length) (h:ea t q i = .err c p q'):0 < c/\p<=t.length:=by
 have aib:=im hi;unfold ea at h;split at h
 .simp only[Rs.err.injEq]at h;omega
 .split at h
  .simp only[Rs.err.injEq]at h;omega
  .cases h
theorem VK (G:aq) (t:List UInt8) (ht:t.length<=2000):∀ (d:Nat) (a:Int),d<=20->a+d=20->Reads G t [500] [] 192 [.ref 500 0 0,.d (ab a)] d (ab7 t d):=by
 intro d
 induction d with
 | zero=>
  intro a _ ha;refine A4 fun i hi=>⟨.v (.pointer none),aZ t i,?_,fun c p q h=>?_⟩
  .have hfl:=xZ G t i (by omega) hi 4
   have ha2:20<=a:=by omega
   rw[ab7];show MC _ _ _ _ _ _ (.d (.v (.pointer none))) (ak (ab0 t (aZ t i) 4 (aZ t i) ++ []));refine MC.abS (al _) func192 rfl rfl (rs:=[.tmp 4]) results192 (by simp[ntmps192]) rfl fun X=>?_;simp only[ntmps192];have fw:=(Aq @afg (Aq @ab0.eq_1 @afi));refine rgq fw [0,1] [500] ?_;refine af fun K1 ax=>?_;refine rgq fw [0,1,12] [500] ?_;refine abN rfl ?_;refine abO (ax _ ?_);refine af fun K2 aa=>?_;have qf:=(Aq fw @ha2);refine abQ [0,1,14] [500] ?_;refine abP rfl ?_;refine bf fw hfl [4] [500] ?_;exact aN (Aq fw (Aq @ab0.eq_1 @afi))
  .rw[ab7]at h;simp only[Rs.err.injEq]at h;have:=im hi;exact⟨by omega,rfl,by omega⟩
 | succ d ih=>
  intro a hd ha;have xw:=ih (a+1) (by omega) (by omega);have sS:=Lg G t ht (a+1) d xw;obtain⟨yF,kF,xw⟩:=xw;obtain⟨yO,kO,sS⟩:=sS;refine A4 fun i hi=>?_;have eH:=agt G t i (by omega) hi 0 (-1);have aib:=im hi
  have ha2:¬ 20<=a:=by omega
  have ha0:0<=a:=by omega
  have rh:=fun (c:UInt8) (h:t[aZ t i]? = some c)=>Vm h;have re:=fun (c:UInt8) (hc:c≠0) (h:t[aZ t i]?≠some c)=>Vl hc h;have au:∀ {c:UInt8},t[aZ t i]? = some c->aZ t i+1<=t.length:=fun h=>(OF.1 h).1;rw[ab7];generalize lF t i=b at eH rh re;generalize aZ t i=j at eH aib rh re au ⊢;by_cases c33:t[j]? = some 33
  .rw[if_pos c33];obtain rfl:=rh 33 c33;have hc:=(xw (j+1) (au c33)).1;rw[adV]at hc;have he:=(xw (j+1) (au c33)).2
   have adK:(gF (ab7 t d (j+1)) (yF (j+1))).one=true:=by
    cases bA:ab7 t d (j+1) with
    | ok x k=>exact rT x
    | err c p q=>exact (he _ _ _ bA).2.1
   have uq:=cells_one adK
   change ∃ y k,yz G t [500] [] 192 [.ref 500 0 0,.d (ab a)] (d+1) (u6 (ab7 t d (j+1))) i y k
   generalize pr:ab7 t d (j+1)=R at hc he adK uq ⊢;refine⟨.ip [dS [33],dS [],.sl none [[yF (j+1)]]],kF (j+1),?_,fun c p q h=>?_⟩
   .have h1:gF (u6 R) (.ip [dS [33],dS [],.sl none [[yF (j+1)]]]) = .ip [dS [33],dS [],.sl none [[gF R (yF (j+1))]]]:=by cases R<;>rfl
    have h2:gh (u6 R) (kF (j+1))=gh R (kF (j+1)):=by cases R<;>rfl
    have h3:eR (u6 R)=eR R:=by cases R<;>rfl
    have h4:pR (u6 R)=pR R:=by cases R<;>rfl
    rw[h1,h2,h3,h4];refine MC.abS (al _) func192 rfl rfl (rs:=[.tmp 4]) results192 (by simp[ntmps192]) rfl fun X=>?_;simp only[ntmps192];have fw:=(Aq @afg (Aq @ab0.eq_1 @afi));refine rgq fw [0,1] [500] ?_;refine af fun K1 ax=>?_;refine rgq fw [0,1,12] [500] ?_;refine abN rfl ?_;refine abO (ax _ ?_);refine af fun K2 aa=>?_;have qf:=(Aq fw @ha2);refine abQ [0,1,14] [500] ?_;refine abN rfl ?_;refine abO (aa _ ?_);refine af fun K3 aQ=>?_;refine bf fw eH [0,1,5] [500] ?_;refine rgq fw [0,1,5,19] [500] ?_;refine aR ?_;refine rgq fw [0,1,5,19,20] [500] ?_;refine abP rfl ?_;refine rgq fw [0,1] [500] ?_;have qf:=(Aq fw (Aq @uq (Aq @adK @TG)));refine adu hc [4] [33,35,500] ?_;refine AW.imp (aB.freeze 33 (by decide)) ?_;refine AW.st (by simp[ab,ab0,dS];rfl) ?_;refine acp fw 35 ?_;refine ab1 ?_;simp[D.le,D.le.go,aC,ab,ab0,dS,ab0,dS,br,D.le_refl,D.abY]
   .cases R with
    | ok x k=>cases h
    | err c' p' q'=>
     simp only[u6,Rs.err.injEq]at h;obtain⟨rfl,rfl,rfl⟩:=h;obtain⟨g1,g2,g3⟩:=he _ _ _ rfl;exact⟨g1,rfl,by omega⟩
  rw[if_neg c33];have n33:¬ (b.toNat:Int)=33:=re 33 (by decide) c33;by_cases c40:t[j]? = some 40
  .rw[if_pos c40];obtain rfl:=rh 40 c40;have hc:=(sS (j+1) (au c40)).1;rw[adV]at hc;have he:=(sS (j+1) (au c40)).2
   cases hr:ij t (ab7 t d) (j+1) with
   | err c p q=>
    rw[hr]at hc;obtain⟨g1,g2,g3⟩:=he _ _ _ hr
    have g4:¬ c=0:=by omega
    refine⟨yO (j+1),kO (j+1)+1,?_,fun c' p' q' h=>?_⟩
    .show MC _ _ _ _ _ _ (.d (yO (j+1))) (ak (ab0 t ((kO (j+1)+1:Nat):Int) c p ++ []));rw[adV];refine MC.abS (al _) func192 rfl rfl (rs:=[.tmp 4]) results192 (by simp[ntmps192]) rfl fun X=>?_;simp only[ntmps192];have fw:=(Aq @afg (Aq @ab0.eq_1 @afi));refine rgq fw [0,1] [500] ?_;refine af fun K1 ax=>?_;refine rgq fw [0,1,12] [500] ?_;refine abN rfl ?_;refine abO (ax _ ?_);refine af fun K2 aa=>?_;have qf:=(Aq fw @ha2);refine abQ [0,1,14] [500] ?_;refine abN rfl ?_;refine abO (aa _ ?_);refine af fun K3 aQ=>?_;refine bf fw eH [0,1,5] [500] ?_;refine rgq fw [0,1,5,19] [500] ?_;refine aR ?_;refine rgq fw [0,1,5,19,20] [500] ?_;refine abN rfl ?_;refine rgq fw [0,1,5,19,36] [500] ?_;refine abP rfl ?_;refine rgq fw [0,1] [500] ?_;refine bf (Aq fw (Aq @gF.eq_1 (Aq @gF.eq_2 (Aq @gh.eq_1 (Aq @gh.eq_2 (Aq @eR.eq_1 (Aq @eR.eq_2 (Aq @pR.eq_1 @pR.eq_2)))))))) hc [0,6] [500] ?_;refine af fun K4 bK=>?_;have qf:=(Aq fw @g4);refine abQ [0,6,59] [500] ?_;refine abN rfl ?_;refine abO (bK _ ?_);refine rgq fw [6] [500] ?_;refine rgq fw [4] [500] ?_;exact aN (Aq fw (Aq @ab0.eq_1 @afi))
    .simp only[Rs.err.injEq]at h;obtain⟨rfl,rfl,rfl⟩:=h;exact⟨g1,g2,by omega⟩
   | ok x k=>
    rw[hr]at hc;dsimp only[gF,gh,eR,pR]at hc;have hk:=(afl (aeg t d) (j+1) x k (au c40) hr).2;have kh:=agt G t k (by omega) hk 0 (-1);have hk2:=im hk;have hfl:=xZ G t (aZ t k) (by omega) hk2 3;rw[afR hk]at hfl;have cw:=AJ (t:=t) (i:=k) (c:=41) (by decide);have iH:=F5 (t:=t) (c:=41) (i:=k);have Rx:((41:UInt8).toNat:Int)=41:=rfl;rw[Rx]at cw;dsimp only;by_cases hb:((lF t k).toNat:Int)=41
    .rw[decide_eq_true hb]at cw;rw[cw]at iH ⊢;simp only[if_true]at iH ⊢;rw[iH];refine⟨default,0,?_,fun c p q h=>by cases h⟩;show MC _ _ _ _ _ _ (.d (dR x)) (ak (ab0 t ((aZ t k+1:Nat):Int) 0 (-1) ++ []));rw[adV];obtain⟨cx,hx⟩:=tQ x;rw[hx]at hc ⊢;refine MC.abS (al _) func192 rfl rfl (rs:=[.tmp 4]) results192 (by simp[ntmps192]) rfl fun X=>?_;simp only[ntmps192];have fw:=(Aq @afg (Aq @ab0.eq_1 @afi));refine rgq fw [0,1] [500] ?_;refine af fun K1 ax=>?_;refine rgq fw [0,1,12] [500] ?_;refine abN rfl ?_;refine abO (ax _ ?_);refine af fun K2 aa=>?_;have qf:=(Aq fw @ha2);refine abQ [0,1,14] [500] ?_;refine abN rfl ?_;refine abO (aa _ ?_);refine af fun K3 aQ=>?_;refine bf fw eH [0,1,5] [500] ?_;refine rgq fw [0,1,5,19] [500] ?_;refine aR ?_;refine rgq fw [0,1,5,19,20] [500] ?_;refine abN rfl ?_;refine rgq fw [0,1,5,19,36] [500] ?_;refine abP rfl ?_;refine rgq fw [0,1] [500] ?_;refine bf fw hc [0,6] [500] ?_;refine af fun K4 bK=>?_;have qf:=(Aq fw @hb);refine adu kh [0,6,59] [500] ?_;refine abN rfl ?_;refine abO (bK _ ?_);refine rgq fw [6] [500] ?_;refine rgq fw [4] [500] ?_;exact aN (Aq fw (Aq @ab0.eq_1 @afi))
    .rw[decide_eq_false hb]at cw;rw[cw]at iH ⊢;simp only[abT,if_false]at iH ⊢;rw[iH];refine⟨.v (.pointer none),aZ t k,?_,fun c p q h=>?_⟩
     .show MC _ _ _ _ _ _ (.d (.v (.pointer none))) (ak (ab0 t (aZ t k) 3 (aZ t k) ++ []));obtain⟨cx,hx⟩:=tQ x;rw[hx]at hc;refine MC.abS (al _) func192 rfl rfl (rs:=[.tmp 4]) results192 (by simp[ntmps192]) rfl fun X=>?_;simp only[ntmps192];have fw:=(Aq @afg (Aq @ab0.eq_1 @afi));refine rgq fw [0,1] [500] ?_;refine af fun K1 ax=>?_;refine rgq fw [0,1,12] [500] ?_;refine abN rfl ?_;refine abO (ax _ ?_);refine af fun K2 aa=>?_;have qf:=(Aq fw @ha2);refine abQ [0,1,14] [500] ?_;refine abN rfl ?_;refine abO (aa _ ?_);refine af fun K3 aQ=>?_;refine bf fw eH [0,1,5] [500] ?_;refine rgq fw [0,1,5,19] [500] ?_;refine aR ?_;refine rgq fw [0,1,5,19,20] [500] ?_;refine abN rfl ?_;refine rgq fw [0,1,5,19,36] [500] ?_;refine abP rfl ?_;refine rgq fw [0,1] [500] ?_;refine bf fw hc [0,6] [500] ?_;refine af fun K4 bK=>?_;have qf:=(Aq fw @hb);refine adu kh [0,6,59] [500] ?_;refine abP rfl ?_;refine bf fw hfl [4] [500] ?_;exact aN (Aq fw (Aq @ab0.eq_1 @afi))
     .simp only[Rs.err.injEq]at h;exact⟨by omega,rfl,by omega⟩
  rw[if_neg c40];have n40:¬ (b.toNat:Int)=40:=re 40 (by decide) c40;by_cases qj:t[j]? = some 48
  .rw[if_pos qj];obtain rfl:=rh 48 qj;have:=au qj;refine⟨default,0,?_,fun c p q h=>by cases h⟩;show MC _ _ _ _ _ _ (.d (.ip [dS [48],dS [],cW])) (ak (ab0 t ((j+1:Nat):Int) 0 (-1) ++ []));rw[adV];refine MC.abS (al _) func192 rfl rfl (rs:=[.tmp 4]) results192 (by simp[ntmps192]) rfl fun X=>?_;simp only[ntmps192];have fw:=(Aq @afg (Aq @ab0.eq_1 @afi));refine rgq fw [0,1] [500] ?_;refine af fun K1 ax=>?_;refine rgq fw [0,1,12] [500] ?_;refine abN rfl ?_;refine abO (ax _ ?_);refine af fun K2 aa=>?_;have qf:=(Aq fw @ha2);refine abQ [0,1,14] [500] ?_;refine abN rfl ?_;refine abO (aa _ ?_);refine af fun K3 aQ=>?_;refine bf fw eH [0,1,5] [500] ?_;refine rgq fw [0,1,5,19] [500] ?_;refine aR ?_;refine rgq fw [0,1,5,19,20] [500] ?_;refine abN rfl ?_;refine rgq fw [0,1,5,19,36] [500] ?_;refine abN rfl ?_;refine af fun K5 bB=>?_;refine rgq fw [0,5,19,70] [500] ?_;refine abP rfl ?_;refine abO (bB _ ?_);refine abP rfl ?_;refine rgq fw [5] [500] ?_;have qf:=(Aq fw (Aq @Pp @cW.eq_1));refine abQ [4] [83,500] ?_;refine acp fw 83 ?_;refine ab1 ?_;simp[D.le,D.le.go,aC,ab,ab0,dS,ab0,dS,cW,br,D.le_refl,D.abY]
  rw[if_neg qj];have n48:¬ (b.toNat:Int)=48:=re 48 (by decide) qj;by_cases c49:t[j]? = some 49
  .rw[if_pos c49];obtain rfl:=rh 49 c49;have:=au c49;refine⟨default,0,?_,fun c p q h=>by cases h⟩;show MC _ _ _ _ _ _ (.d (.ip [dS [49],dS [],cW])) (ak (ab0 t ((j+1:Nat):Int) 0 (-1) ++ []));rw[adV];refine MC.abS (al _) func192 rfl rfl (rs:=[.tmp 4]) results192 (by simp[ntmps192]) rfl fun X=>?_;simp only[ntmps192];have fw:=(Aq @afg (Aq @ab0.eq_1 @afi));refine rgq fw [0,1] [500] ?_;refine af fun K1 ax=>?_;refine rgq fw [0,1,12] [500] ?_;refine abN rfl ?_;refine abO (ax _ ?_);refine af fun K2 aa=>?_;have qf:=(Aq fw @ha2);refine abQ [0,1,14] [500] ?_;refine abN rfl ?_;refine abO (aa _ ?_);refine af fun K3 aQ=>?_;refine bf fw eH [0,1,5] [500] ?_;refine rgq fw [0,1,5,19] [500] ?_;refine aR ?_;refine rgq fw [0,1,5,19,20] [500] ?_;refine abN rfl ?_;refine rgq fw [0,1,5,19,36] [500] ?_;refine abN rfl ?_;refine af fun K5 bB=>?_;refine rgq fw [0,5,19,70] [500] ?_;refine abN rfl ?_;refine reK fw bB [0,5,19,70] [500] ?_;refine abP rfl ?_;refine rgq fw [5] [500] ?_;have qf:=(Aq fw (Aq @Pq @cW.eq_1));refine abQ [4] [83,500] ?_;refine acp fw 83 ?_;refine ab1 ?_;simp[D.le,D.le.go,aC,ab,ab0,dS,ab0,dS,cW,br,D.le_refl,D.abY]
  rw[if_neg c49];have n49:¬ (b.toNat:Int)=49:=re 49 (by decide) c49;by_cases o6:t[j]? = some 94
  .rw[if_pos o6];obtain rfl:=rh 94 o6;have hj:=au o6;have hw:=Fv G t 1 (j+1) (by omega) hj;rw[adV]at hw;have nS:∀ s k,ea t 1 (j+1) = .ok s k->fS t (aZ t (j+1))=s:=fun s k h=>Gi h;have qZ:∀ c p q',ea t 1 (j+1) = .err c p q'->0 < c/\p<=t.length:=fun c p q' h=>Gj hj h;generalize hW:ea t 1 (j+1)=W at hw nS qZ ⊢;generalize fS t (aZ t (j+1))=sw at hw nS;refine⟨.ip [dS [94],dS sw,cW],ace W,?_,fun c p q h=>?_⟩
   .have h1:gF (W.map .adb) (.ip [dS [94],dS sw,cW]) = .ip [dS [94],dS sw,cW]:=by
     cases W with
     | ok s k=>obtain rfl:=nS _ _ rfl;rfl
     | err c p q=>rfl
    have h2:gh (W.map Ex.adb) (ace W)=ace W:=by cases W<;>rfl
    have h3:eR (W.map Ex.adb)=eR W:=by cases W<;>rfl
    have h4:pR (W.map Ex.adb)=pR W:=by cases W<;>rfl
    rw[h1,h2,h3,h4];refine MC.abS (al _) func192 rfl rfl (rs:=[.tmp 4]) results192 (by simp[ntmps192]) rfl fun X=>?_;simp only[ntmps192];have fw:=(Aq @afg (Aq @ab0.eq_1 @afi));refine rgq fw [0,1] [500] ?_;refine af fun K1 ax=>?_;refine rgq fw [0,1,12] [500] ?_;refine abN rfl ?_;refine abO (ax _ ?_);refine af fun K2 aa=>?_;have qf:=(Aq fw @ha2);refine abQ [0,1,14] [500] ?_;refine abN rfl ?_;refine abO (aa _ ?_);refine af fun K3 aQ=>?_;refine bf fw eH [0,1,5] [500] ?_;refine rgq fw [0,1,5,19] [500] ?_;refine aR ?_;refine rgq fw [0,1,5,19,20] [500] ?_;refine abN rfl ?_;refine rgq fw [0,1,5,19,36] [500] ?_;refine abN rfl ?_;refine af fun K5 bB=>?_;refine rgq fw [0,5,19,70] [500] ?_;refine abN rfl ?_;refine reK fw bB [0,5,19,70] [500] ?_;refine abN rfl ?_;refine af fun K6 cq=>?_;refine rgq fw [0,5,19,84] [500] ?_;refine abP rfl ?_;refine abO (cq _ ?_);refine abP rfl ?_;refine rgq fw [0,5] [500] ?_;have qf:=(Aq fw (Aq @Pr @cW.eq_1));refine adu hw [4] [99,500] ?_;refine acp fw 99 ?_;refine ab1 ?_;simp[D.le,D.le.go,aC,ab,ab0,dS,ab0,dS,cW,br,D.le_refl,D.abY]
   .cases W with
    | ok s k=>cases h
    | err c' p' q'=>
     simp only[Rs.map,Rs.err.injEq]at h;obtain⟨rfl,rfl,rfl⟩:=h;obtain⟨g1,g2⟩:=qZ _ _ _ rfl;exact⟨g1,rfl,by simp only[ace];omega⟩
  rw[if_neg o6];have u5:¬ (b.toNat:Int)=94:=re 94 (by decide) o6;by_cases o5:t[j]? = some 126
  .rw[if_pos o5];obtain rfl:=rh 126 o5;have hj:=au o5;have hw:=Fv G t 2 (j+1) (by omega) hj;rw[adV]at hw;have nS:∀ s k,ea t 2 (j+1) = .ok s k->fS t (aZ t (j+1))=s:=fun s k h=>Gi h;have qZ:∀ c p q',ea t 2 (j+1) = .err c p q'->0 < c/\p<=t.length:=fun c p q' h=>Gj hj h;generalize hW:ea t 2 (j+1)=W at hw nS qZ ⊢;generalize fS t (aZ t (j+1))=sw at hw nS;refine⟨.ip [dS [126],dS sw,cW],ace W,?_,fun c p q h=>?_⟩
   .have h1:gF (W.map .fT) (.ip [dS [126],dS sw,cW]) = .ip [dS [126],dS sw,cW]:=by
     cases W with
     | ok s k=>obtain rfl:=nS _ _ rfl;rfl
     | err c p q=>rfl
    have h2:gh (W.map Ex.fT) (ace W)=ace W:=by cases W<;>rfl
    have h3:eR (W.map Ex.fT)=eR W:=by cases W<;>rfl
    have h4:pR (W.map Ex.fT)=pR W:=by cases W<;>rfl
    rw[h1,h2,h3,h4];refine MC.abS (al _) func192 rfl rfl (rs:=[.tmp 4]) results192 (by simp[ntmps192]) rfl fun X=>?_;simp only[ntmps192];have fw:=(Aq @afg (Aq @ab0.eq_1 @afi));refine rgq fw [0,1] [500] ?_;refine af fun K1 ax=>?_;refine rgq fw [0,1,12] [500] ?_;refine abN rfl ?_;refine abO (ax _ ?_);refine af fun K2 aa=>?_;have qf:=(Aq fw @ha2);refine abQ [0,1,14] [500] ?_;refine abN rfl ?_;refine abO (aa _ ?_);refine af fun K3 aQ=>?_;refine bf fw eH [0,1,5] [500] ?_;refine rgq fw [0,1,5,19] [500] ?_;refine aR ?_;refine rgq fw [0,1,5,19,20] [500] ?_;refine abN rfl ?_;refine rgq fw [0,1,5,19,36] [500] ?_;refine abN rfl ?_;refine af fun K5 bB=>?_;refine rgq fw [0,5,19,70] [500] ?_;refine abN rfl ?_;refine reK fw bB [0,5,19,70] [500] ?_;refine abN rfl ?_;refine af fun K6 cq=>?_;refine rgq fw [0,5,19,84] [500] ?_;refine abN rfl ?_;refine reK fw cq [0,5,84] [500] ?_;refine abP rfl ?_;refine rgq fw [0,5] [500] ?_;have qf:=(Aq fw (Aq @Pn @cW.eq_1));refine adu hw [4] [99,500] ?_;refine acp fw 99 ?_;refine ab1 ?_;simp[D.le,D.le.go,aC,ab,ab0,dS,ab0,dS,cW,br,D.le_refl,D.abY]
   .cases W with
    | ok s k=>cases h
    | err c' p' q'=>
     simp only[Rs.map,Rs.err.injEq]at h;obtain⟨rfl,rfl,rfl⟩:=h;obtain⟨g1,g2⟩:=qZ _ _ _ rfl;exact⟨g1,rfl,by simp only[ace];omega⟩
  rw[if_neg o5];have n126:¬ (b.toNat:Int)=126:=re 126 (by decide) o5;have hw:=Fv G t 3 j (by omega) aib;have nS:∀ s k,ea t 3 j = .ok s k->fS t (aZ t j)=s:=fun s k h=>Gi h;have qZ:∀ c p q',ea t 3 j = .err c p q'->0 < c/\p<=t.length:=fun c p q' h=>Gj aib h;generalize hW:ea t 3 j=W at hw nS qZ ⊢;generalize fS t (aZ t j)=sw at hw nS;refine⟨.ip [dS [98,105,116],dS sw,cW],ace W,?_,fun c p q h=>?_⟩
  .have h1:gF (W.map .bit) (.ip [dS [98,105,116],dS sw,cW]) = .ip [dS [98,105,116],dS sw,cW]:=by
    cases W with
    | ok s k=>obtain rfl:=nS _ _ rfl;rfl
    | err c p q=>rfl
   have h2:gh (W.map Ex.bit) (ace W)=ace W:=by cases W<;>rfl
   have h3:eR (W.map Ex.bit)=eR W:=by cases W<;>rfl
   have h4:pR (W.map Ex.bit)=pR W:=by cases W<;>rfl
   rw[h1,h2,h3,h4];refine MC.abS (al _) func192 rfl rfl (rs:=[.tmp 4]) results192 (by simp[ntmps192]) rfl fun X=>?_;simp only[ntmps192];have fw:=(Aq @afg (Aq @ab0.eq_1 @afi));refine rgq fw [0,1] [500] ?_;refine af fun K1 ax=>?_;refine rgq fw [0,1,12] [500] ?_;refine abN rfl ?_;refine abO (ax _ ?_);refine af fun K2 aa=>?_;have qf:=(Aq fw @ha2);refine abQ [0,1,14] [500] ?_;refine abN rfl ?_;refine abO (aa _ ?_);refine af fun K3 aQ=>?_;refine bf fw eH [0,1,5] [500] ?_;refine rgq fw [0,1,5,19] [500] ?_;refine aR ?_;have qf:=(Aq fw (Aq @n33 (Aq @n40 (Aq @n48 (Aq @n49 (Aq @u5 @n126))))));refine abQ [0,1,5,19,20] [500] ?_;refine abN rfl ?_;have qf:=(Aq fw (Aq @n33 (Aq @n40 (Aq @n48 (Aq @n49 (Aq @u5 @n126))))));refine abQ [0,1,5,19,36] [500] ?_;refine abN rfl ?_;refine af fun K5 bB=>?_;have qf:=(Aq fw (Aq @n33 (Aq @n40 (Aq @n48 (Aq @n49 (Aq @u5 @n126))))));refine abQ [0,5,19,70] [500] ?_;refine abN rfl ?_;have qf:=(Aq fw (Aq @n33 (Aq @n40 (Aq @n48 (Aq @n49 (Aq @u5 @n126))))));refine dN bB [0,5,19,70] [500] ?_;refine abN rfl ?_;refine af fun K6 cq=>?_;have qf:=(Aq fw (Aq @n33 (Aq @n40 (Aq @n48 (Aq @n49 (Aq @u5 @n126))))));refine abQ [0,5,19,84] [500] ?_;refine abN rfl ?_;have qf:=(Aq fw (Aq @n33 (Aq @n40 (Aq @n48 (Aq @n49 (Aq @u5 @n126))))));refine dN cq [0,5,84] [500] ?_;refine abN rfl ?_;refine abO (aQ _ ?_);have qf:=(Aq fw (Aq @cW.eq_1 @Ub));refine adu hw [4] [103,500] ?_;refine acp fw 103 ?_;refine ab1 ?_;simp[D.le,D.le.go,aC,ab,ab0,dS,ab0,dS,cW,br,D.le_refl,D.abY]
  .cases W with
   | ok s k=>cases h
   | err c' p' q'=>
    simp only[Rs.map,Rs.err.injEq]at h;obtain⟨rfl,rfl,rfl⟩:=h;obtain⟨g1,g2⟩:=qZ _ _ _ rfl;exact⟨g1,rfl,by simp only[ace];omega⟩
def cu (all:Bool):Ex->List UInt8
 | .bit s=>if all then s else []
 | .adb s=>s
 | .fT s=>s
 | _=>[]
def eV (s:List UInt8):List (List UInt8):=if s=[] then [] else [s]
mutual
def ck (all:Bool):Ex->List (List UInt8)
 | .not e=>ck all e
 | .and l=>ef all l
 | .or l=>ef all l
 | e=>eV (cu all e)
def ef (all:Bool):List Ex->List (List UInt8)
 | []=>[]
 | e :: l=>ck all e ++ ef all l
end
theorem KE (all:Bool):∀ a b:List Ex,ef all (a ++ b)=ef all a ++ ef all b
 | [],b=>rfl
 | e :: a,b=>by simp[ef,KE all a b]
theorem E5 (all:Bool) {l:List Ex} {i:Nat} (hi:i < l.length):ef all (l.take (i+1))=ef all (l.take i) ++ ck all l[i]:=by
 rw[abR hi,KE];simp[ef]
theorem E6 (all:Bool):∀ (n:Nat) (e:Ex),SizeOf.sizeOf e<=n->(ck all e).length<=bE e
 | 0,e,hn=>by cases e<;>simp at hn
 | n+1,e,hn=>by
  have many:∀ l:List Ex,(∀ x∈l,SizeOf.sizeOf x<=n)->(ef all l).length<=eY l:=by
   intro l
   induction l with
   | nil=>intro _;simp[ef]
   | cons x l ih=>
    intro h;have a:=ih fun y hy=>h y (by simp[hy]);have b:=E6 all n x (h x (by simp));simp only[ef,eY,acC];omega
  have adK:∀ s,(eV s).length<=1:=fun s=>by unfold eV;split<;>simp
  have hp:=yH e
  cases e with
  | not x=>have:=E6 all n x (by simp at hn;omega);simp only[ck,bE];omega
  | and l=>
   have:=many l fun x hx=>by have:=acL hx;simp only[Ex.and.sizeOf_spec]at hn;omega
   simp only[ck,bE];omega
  | or l=>
   have:=many l fun x hx=>by have:=acL hx;simp only[Ex.or.sizeOf_spec]at hn;omega
   simp only[ck,bE];omega
  | ff b=>have:=adK (cu all (.ff b));simp only[ck];omega
  | bit s=>have:=adK (cu all (.bit s));simp only[ck];omega
  | adb s=>have:=adK (cu all (.adb s));simp only[ck];omega
  | fT s=>have:=adK (cu all (.fT s));simp only[ck];omega
theorem s6 (all:Bool) (e:Ex):(ck all e).length<=bE e:=E6 all _ e (abL _)
theorem xQ (all:Bool):∀ l:List Ex,(ef all l).length<=eY l
 | []=>by simp[ef]
 | e :: l=>by have:=s6 all e;have:=xQ all l;simp only[ef,eY,acC];omega
def acw (l:List (List UInt8)):List (Nat×Row):=[(502,.box 174 [.own 503 0 l.length]),(503,.sl 9 1 (l.map fun s=>[dS s]))]
def aeI (all:Bool):FuncId:=if all then 157 else 182
theorem U8 (G:aq) (e:Ex):ar prog G 157 [dE e] (dS (cu true e)):=by
 by_cases h1:∃ s,e = .bit s
 .obtain⟨s,rfl⟩:=h1;rw[dE];refine ar.abS (al _) func157 rfl rfl (rs:=[.tmp 2]) results157 (by simp[ntmps157]) fun X=>?_;simp only[ntmps157,List.map];have fw:=(Aq @afg (Aq @afi (Aq @afM (Aq @afT @afW))));refine rgq fw [0] [] ?_;refine af fun K1 ax=>?_;refine rgq fw [6] [] ?_;refine aR ?_;refine rgq fw [6,8,9] [] ?_;refine abP rfl ?_;refine rgq fw [3] [] ?_;refine rgq fw [2] [] ?_;exact aN (Aq fw (Aq @cu.eq_1 (Aq @cu.eq_2 (Aq @cu.eq_3 (Aq @cu.eq_4 @afi)))))
 by_cases h2:∃ s,e = .adb s
 .obtain⟨s,rfl⟩:=h2;rw[dE];refine ar.abS (al _) func157 rfl rfl (rs:=[.tmp 2]) results157 (by simp[ntmps157]) fun X=>?_;simp only[ntmps157,List.map];have fw:=(Aq @afg (Aq @afi (Aq @afM (Aq @afT @afW))));refine rgq fw [0] [] ?_;refine af fun K1 ax=>?_;refine rgq fw [6] [] ?_;refine aR ?_;refine rgq fw [6,8,9] [] ?_;refine abN rfl ?_;refine rgq fw [6,12,13] [] ?_;refine abP rfl ?_;refine rgq fw [4] [] ?_;refine rgq fw [2] [] ?_;exact aN (Aq fw (Aq @cu.eq_1 (Aq @cu.eq_2 (Aq @cu.eq_3 (Aq @cu.eq_4 @afi)))))
 by_cases h3:∃ s,e = .fT s
 .obtain⟨s,rfl⟩:=h3;rw[dE];refine ar.abS (al _) func157 rfl rfl (rs:=[.tmp 2]) results157 (by simp[ntmps157]) fun X=>?_;simp only[ntmps157,List.map];have fw:=(Aq @afg (Aq @afi (Aq @afM (Aq @afT @afW))));refine rgq fw [0] [] ?_;refine af fun K1 ax=>?_;refine rgq fw [6] [] ?_;refine aR ?_;refine rgq fw [6,8,9] [] ?_;refine abN rfl ?_;refine rgq fw [6,12,13] [] ?_;refine abN rfl ?_;refine rgq fw [16,17] [] ?_;refine abP rfl ?_;refine rgq fw [5] [] ?_;refine rgq fw [2] [] ?_;exact aN (Aq fw (Aq @cu.eq_1 (Aq @cu.eq_2 (Aq @cu.eq_3 (Aq @cu.eq_4 @afi)))))
 have hk:∃ t c,dE e = .bt t c/\¬ t=189/\¬ t=190/\¬ t=191/\cu true e=[]:=by
  cases e with
  | bit s=>exact absurd ⟨s,rfl⟩ h1
  | adb s=>exact absurd ⟨s,rfl⟩ h2
  | fT s=>exact absurd ⟨s,rfl⟩ h3
  | ff b=>exact⟨_,_,by rw[dE],by decide,by decide,by decide,rfl⟩
  | not b=>exact⟨_,_,by rw[dE],by decide,by decide,by decide,rfl⟩
  | and b=>exact⟨_,_,by rw[dE],by decide,by decide,by decide,rfl⟩
  | or b=>exact⟨_,_,by rw[dE],by decide,by decide,by decide,rfl⟩
 obtain⟨t,c,hy,a1,a2,a3,a4⟩:=hk;rw[a4,hy];refine ar.abS (al _) func157 rfl rfl (rs:=[.tmp 2]) results157 (by simp[ntmps157]) fun X=>?_;simp only[ntmps157,List.map];have fw:=(Aq @afg (Aq @afi (Aq @afM (Aq @afT @afW))));refine rgq fw [0] [] ?_;refine af fun K1 ax=>?_;refine rgq fw [6] [] ?_;refine aR ?_;have qf:=(Aq fw @a1);refine abQ [6,8,9] [] ?_;refine abN rfl ?_;have qf:=(Aq fw @a2);refine abQ [6,12,13] [] ?_;refine abN rfl ?_;have qf:=(Aq fw @a3);refine abQ [16,17] [] ?_;refine abN rfl ?_;refine abO (ax _ ?_);refine rgq fw [2] [] ?_;refine ab1 ?_;simp[D.le,D.le.go,aC,ab,dS,bo,b5,dS,br,D.le_refl]
theorem Pg (G:aq) (e:Ex):ar prog G 182 [dE e] (dS (cu false e)):=by
 by_cases h2:∃ s,e = .adb s
 .obtain⟨s,rfl⟩:=h2;rw[dE];refine ar.abS (al _) func182 rfl rfl (rs:=[.tmp 2]) results182 (by simp[ntmps182]) fun X=>?_;simp only[ntmps182,List.map];have fw:=(Aq @afg (Aq @afi (Aq @afM (Aq @afT @afW))));refine rgq fw [0] [] ?_;refine af fun K1 ax=>?_;refine rgq fw [5] [] ?_;refine aR ?_;refine rgq fw [5,7,8] [] ?_;refine abP rfl ?_;refine rgq fw [3] [] ?_;refine rgq fw [2] [] ?_;exact aN (Aq fw (Aq @cu.eq_1 (Aq @cu.eq_2 (Aq @cu.eq_3 (Aq @cu.eq_4 @afi)))))
 by_cases h3:∃ s,e = .fT s
 .obtain⟨s,rfl⟩:=h3;rw[dE];refine ar.abS (al _) func182 rfl rfl (rs:=[.tmp 2]) results182 (by simp[ntmps182]) fun X=>?_;simp only[ntmps182,List.map];have fw:=(Aq @afg (Aq @afi (Aq @afM (Aq @afT @afW))));refine rgq fw [0] [] ?_;refine af fun K1 ax=>?_;refine rgq fw [5] [] ?_;refine aR ?_;refine rgq fw [5,7,8] [] ?_;refine abN rfl ?_;refine rgq fw [11,12] [] ?_;refine abP rfl ?_;refine rgq fw [4] [] ?_;refine rgq fw [2] [] ?_;exact aN (Aq fw (Aq @cu.eq_1 (Aq @cu.eq_2 (Aq @cu.eq_3 (Aq @cu.eq_4 @afi)))))
 have hk:∃ t c,dE e = .bt t c/\¬ t=190/\¬ t=191/\cu false e=[]:=by
  cases e with
  | adb s=>exact absurd ⟨s,rfl⟩ h2
  | fT s=>exact absurd ⟨s,rfl⟩ h3
  | ff b=>exact⟨_,_,by rw[dE],by decide,by decide,rfl⟩
  | bit b=>exact⟨_,_,by rw[dE],by decide,by decide,rfl⟩
  | not b=>exact⟨_,_,by rw[dE],by decide,by decide,rfl⟩
  | and b=>exact⟨_,_,by rw[dE],by decide,by decide,rfl⟩
  | or b=>exact⟨_,_,by rw[dE],by decide,by decide,rfl⟩
 obtain⟨t,c,hy,a2,a3,a4⟩:=hk;rw[a4,hy];refine ar.abS (al _) func182 rfl rfl (rs:=[.tmp 2]) results182 (by simp[ntmps182]) fun X=>?_;simp only[ntmps182,List.map];have fw:=(Aq @afg (Aq @afi (Aq @afM (Aq @afT @afW))));refine rgq fw [0] [] ?_;refine af fun K1 ax=>?_;refine rgq fw [5] [] ?_;refine aR ?_;have qf:=(Aq fw @a2);refine abQ [5,7,8] [] ?_;refine abN rfl ?_;have qf:=(Aq fw @a3);refine abQ [11,12] [] ?_;refine abN rfl ?_;refine abO (ax _ ?_);refine rgq fw [2] [] ?_;refine ab1 ?_;simp[D.le,D.le.go,aC,ab,dS,bo,b5,dS,br,D.le_refl]
theorem U3 (G:aq) (all:Bool) (e:Ex):ar prog G (aeI all) [dE e] (dS (cu all e)):=by
 cases all with
 | true=>exact U8 G e
 | false=>exact Pg G e
theorem za (G:aq) (all:Bool) (l:List (List UInt8)) (e:Ex) (hl:l.length < 2^40):MC prog G [502] 200 ([.d (dE e)] ++ [.d (.ip [.fn (.func (aeI all)) []]),.ref 502 0 0]) (ak (acw l)) (.d (.aW [])) (ak (acw (l ++ eV (cu all e)))):=by
 have hn:=U3 G all e;obtain⟨t,c,hx⟩:=adE e;rw[hx]at hn ⊢;generalize aeI all=g at hn ⊢;generalize cu all e=s at hn ⊢;by_cases hs:s=[]
 .subst hs
  have he:l ++ eV []=l:=by simp[eV]
  rw[he];refine MC.abS (al _) func200 rfl rfl (rs:=[]) results200 (by simp[ntmps200]) rfl fun X=>?_;simp only[ntmps200];have fw:=(Aq @afg (Aq @afi @acw.eq_1));refine aT fw hn [2,4] [502,503] ?_;refine rg [2,4,9] [502,503] (cJ rfl) fun K' ae=>?_;(repeat (refine sxn fun K2 aa=>?_;simp[ab,dS,acw,aO,aY,br];(repeat (refine⟨by omega,?_⟩));refine aa _ ?_;clear aa K2));refine sxz (ae _ (AW.st (by simp[ab,dS,acw,aO,aY,br];rfl) ?_));clear ae K';refine abN rfl ?_;refine abO ?_;simp[D.le_refl,acw,dS]
 .have he:eV s=[s]:=by unfold eV;rw[if_neg hs]
  have jS:s.isEmpty=false:=by rw[ad3];exact hs
  have Jj:(s == [])=false:=by simpa using hs
  rw[he];refine MC.abS (al _) func200 rfl rfl (rs:=[]) results200 (by simp[ntmps200]) rfl fun X=>?_;simp only[ntmps200];have fw:=(Aq @afg (Aq @afi @acw.eq_1));refine aT fw hn [2,4] [502,503] ?_;refine rg [2,4,9] [502,503] (cJ rfl) fun K' ae=>?_;(repeat (refine sxn fun K2 aa=>?_;simp[ab,dS,acw,aO,aY,br,hs,jS,Jj];(repeat (refine⟨by omega,?_⟩));refine aa _ ?_;clear aa K2));refine sxz (ae _ (AW.st (by simp[ab,dS,acw,aO,aY,br,hs,jS,Jj];rfl) ?_));clear ae K';refine abP rfl ?_;refine cR (al _) fun K' ae=>?_;(repeat (refine sxn fun K2 aa=>?_;simp[ab,dS,acw,sh];(repeat (refine⟨by omega,?_⟩));refine aa _ ?_;clear aa K2));refine sxz (ae _ ?_);clear ae K';(try simp only[aJ,aL]);simp[D.le_refl,acw,dS]
theorem aaa (G:aq) (all:Bool):∀ (m:Nat) (e:Ex),SizeOf.sizeOf e<=m->∀ l0:List (List UInt8),l0.length+bE e<=2^39->MC prog G [502] 199 [.d (dE e),.fn (.func 200) [.d (.ip [.fn (.func (aeI all)) []]),.ref 502 0 0]] (ak (acw l0)) (.d (.aW [])) (ak (acw (l0 ++ ck all e))):=by
 intro m
 induction m with
 | zero=>intro e aK;cases e<;>simp at aK
 | succ m ih=>
  intro e aK l0 hb;have hbp:=yH e;by_cases hN:∃ x,e = .not x
  .obtain⟨x,rfl⟩:=hN;simp only[bE]at hb;obtain⟨tx,cx,hx⟩:=adE x;have hs1:=za G all l0 (.not x) (by omega);have xb:eV (cu all (.not x))=[]:=rfl;rw[xb,adp,adO]at hs1;have hc:=ih x (by simp at aK;omega) l0 (by omega);rw[ck];rw[dE,hx];rw[dE,hx]at hs1;rw[hx]at hc;generalize l0 ++ ck all x=l1 at hc ⊢;generalize aeI all=g at hc hs1 ⊢;refine MC.abS (al _) func199 rfl rfl (rs:=[]) results199 (by simp[ntmps199]) rfl fun X=>?_;simp only[ntmps199];have fw:=(Aq @afg (Aq @afi (Aq @acw.eq_1 (Aq @afM (Aq @afT @afW)))));refine bf fw hs1 [0,1] [502,503] ?_;refine rgq fw [1,14] [502,503] ?_;refine aR ?_;refine rgq fw [1,14,16,17] [502,503] ?_;refine abP rfl ?_;refine rgq fw [1,4] [4,502,503] ?_;refine cR (al _) fun K' ae=>?_;(repeat (refine sxn fun K2 aa=>?_;simp[ab,dS,acw,bo,b5];(repeat (refine⟨by omega,?_⟩));refine aa _ ?_;clear aa K2));refine sxn fun K2 aa=>?_;simp[ab,dS,acw,bo,b5];refine ab8.mc (hc) ?_ ?_ ?_ ?_ ?_<;>simp[ab,dS,acw,bo,b5];refine aa _ ?_;clear aa K2;(repeat (refine sxn fun K2 aa=>?_;simp[ab,dS,acw,bo,b5];(repeat (refine⟨by omega,?_⟩));refine aa _ ?_;clear aa K2));refine sxz (ae _ ?_);clear ae K';(try simp only[aJ,aL]);simp[D.le_refl,acw,dS]
  by_cases hand:∃ l,e = .and l
  .obtain⟨l,rfl⟩:=hand;simp only[bE]at hb;have hs1:=za G all l0 (.and l) (by omega);have xb:eV (cu all (.and l))=[]:=rfl;rw[xb,adp,adO]at hs1;have jL:=fun (x:Ex) (hx:x∈l)=>ih x (by have:=acL hx;simp only[Ex.and.sizeOf_spec]at aK;omega);have lr:=qi l;rw[ck];rw[dE,pb];rw[dE,pb]at hs1;clear ih;generalize hg:aeI all=g at jL hs1 ⊢;refine MC.abS (al _) func199 rfl rfl (rs:=[]) results199 (by simp[ntmps199]) rfl fun X=>?_;simp only[ntmps199];have fw:=(Aq @afg (Aq @afi (Aq @acw.eq_1 (Aq @afM (Aq @afT @afW)))));refine bf fw hs1 [0,1] [502,503] ?_;refine rgq fw [1,14] [502,503] ?_;refine aR ?_;refine rgq fw [1,14,16,17] [502,503] ?_;refine abN rfl ?_;refine rgq fw [1,14,23,24] [502,503] ?_;refine abP rfl ?_;refine rgq fw [1,5] [502,503] ?_;refine rgq fw [1,25,26,27] [502,503] ?_;refine bQ (S:=Nat) (fun i=>i<=l.length) (fun i=>⟨aV [(1,.fn (.func 200) [.d (.ip [.fn (.func g) []]),.ref 502 0 0]),(25,.d (.sl none (l.map fun e=>[dE e]))),(26,int l.length),(27,int i)],ak (acw (l0 ++ ef all (l.take i)))⟩) (fun i=>l.length - i) 0 ?_ (by omega) ?_
   .refine abW (Aq fw (Aq @ef.eq_1 @ef.eq_2))
   .intro i hi;refine rgq fw [1,25,26,27,28] [502,503] ?_;refine af fun K1 ax=>?_;refine eh (b:=i < l.length) (by simp[D.le,D.le.go,aC,ab,dS,acw,bo,b5]) (fun hc=>?_) (fun hc=>?_)
    .have c6:i < l.length:=hc;have h1:=E5 all c6;have h2:=xQ all (l.take i);have h3:=B2 c6;have bT:=jL _ (abH c6) (l0 ++ ef all (l.take i)) (by rw[acC];omega);rw[adU,<- h1]at bT;obtain⟨tx,cx,hx⟩:=adE l[i];rw[hx]at bT;refine abO (ax _ ?_);refine af fun K2 aa=>?_;refine aR ?_;have qf:=(Aq fw (Aq @c6 @hx));refine abQ [1,7,25,26,27] [502,503] ?_;refine cR (al _) fun K' ae=>?_;(repeat (refine sxn fun K2 aa=>?_;simp[ab,dS,acw,bo,b5];(repeat (refine⟨by omega,?_⟩));refine aa _ ?_;clear aa K2));refine sxn fun K2 aa=>?_;simp[ab,dS,acw,bo,b5];refine ab8.mc (bT) ?_ ?_ ?_ ?_ ?_<;>simp[ab,dS,acw,bo,b5];refine aa _ ?_;clear aa K2;(repeat (refine sxn fun K2 aa=>?_;simp[ab,dS,acw,bo,b5];(repeat (refine⟨by omega,?_⟩));refine aa _ ?_;clear aa K2));refine sxz (ae _ ?_);clear ae K';refine aa _ (AW.norm [1,25,26,27] [502,503] (cJ rfl) (AW.st (by simp[ab,dS,acw,bo,b5];rfl) ?_));refine reQ fw ?_;(try simp only[aJ,aL]);refine aS.mk (i+1) (by omega) (by omega) ?_;refine abW fw
    .obtain rfl:i=l.length:=by omega
     refine bx ?_;simp[D.le_refl,ac0,acw,dS]
  by_cases ow:∃ l,e = .or l
  .obtain⟨l,rfl⟩:=ow;simp only[bE]at hb;have hs1:=za G all l0 (.or l) (by omega);have xb:eV (cu all (.or l))=[]:=rfl;rw[xb,adp,adO]at hs1;have jL:=fun (x:Ex) (hx:x∈l)=>ih x (by have:=acL hx;simp only[Ex.or.sizeOf_spec]at aK;omega);have lr:=qi l;rw[ck];rw[dE,pb];rw[dE,pb]at hs1;clear ih;generalize hg:aeI all=g at jL hs1 ⊢;refine MC.abS (al _) func199 rfl rfl (rs:=[]) results199 (by simp[ntmps199]) rfl fun X=>?_;simp only[ntmps199];have fw:=(Aq @afg (Aq @afi (Aq @acw.eq_1 (Aq @afM (Aq @afT @afW)))));refine bf fw hs1 [0,1] [502,503] ?_;refine rgq fw [1,14] [502,503] ?_;refine aR ?_;refine rgq fw [1,14,16,17] [502,503] ?_;refine abN rfl ?_;refine rgq fw [1,14,23,24] [502,503] ?_;refine abN rfl ?_;refine rgq fw [1,36,37] [502,503] ?_;refine abP rfl ?_;refine rgq fw [1,8] [502,503] ?_;refine rgq fw [1,38,39,40] [502,503] ?_;refine bQ (S:=Nat) (fun i=>i<=l.length) (fun i=>⟨aV [(1,.fn (.func 200) [.d (.ip [.fn (.func g) []]),.ref 502 0 0]),(38,.d (.sl none (l.map fun e=>[dE e]))),(39,int l.length),(40,int i)],ak (acw (l0 ++ ef all (l.take i)))⟩) (fun i=>l.length - i) 0 ?_ (by omega) ?_
   .refine abW (Aq fw (Aq @ef.eq_1 @ef.eq_2))
   .intro i hi;refine rgq fw [1,38,39,40,41] [502,503] ?_;refine af fun K1 ax=>?_;refine eh (b:=i < l.length) (by simp[D.le,D.le.go,aC,ab,dS,acw,bo,b5]) (fun hc=>?_) (fun hc=>?_)
    .have c6:i < l.length:=hc;have h1:=E5 all c6;have h2:=xQ all (l.take i);have h3:=B2 c6;have bT:=jL _ (abH c6) (l0 ++ ef all (l.take i)) (by rw[acC];omega);rw[adU,<- h1]at bT;obtain⟨tx,cx,hx⟩:=adE l[i];rw[hx]at bT;refine abO (ax _ ?_);refine af fun K2 aa=>?_;refine aR ?_;have qf:=(Aq fw (Aq @c6 @hx));refine abQ [1,10,38,39,40] [502,503] ?_;refine cR (al _) fun K' ae=>?_;(repeat (refine sxn fun K2 aa=>?_;simp[ab,dS,acw,bo,b5];(repeat (refine⟨by omega,?_⟩));refine aa _ ?_;clear aa K2));refine sxn fun K2 aa=>?_;simp[ab,dS,acw,bo,b5];refine ab8.mc (bT) ?_ ?_ ?_ ?_ ?_<;>simp[ab,dS,acw,bo,b5];refine aa _ ?_;clear aa K2;(repeat (refine sxn fun K2 aa=>?_;simp[ab,dS,acw,bo,b5];(repeat (refine⟨by omega,?_⟩));refine aa _ ?_;clear aa K2));refine sxz (ae _ ?_);clear ae K';refine aa _ (AW.norm [1,38,39,40] [502,503] (cJ rfl) (AW.st (by simp[ab,dS,acw,bo,b5];rfl) ?_));refine reQ fw ?_;(try simp only[aJ,aL]);refine aS.mk (i+1) (by omega) (by omega) ?_;refine abW fw
    .obtain rfl:i=l.length:=by omega
     refine bx ?_;simp[D.le_refl,ac0,acw,dS]
  have hk:∃ t c,dE e = .bt t c/\¬ t=114/\¬ t=192/\¬ t=116/\ck all e=eV (cu all e):=by
   cases e with
   | not z=>exact absurd ⟨z,rfl⟩ hN
   | and l=>exact absurd ⟨l,rfl⟩ hand
   | or l=>exact absurd ⟨l,rfl⟩ ow
   | ff b=>exact⟨_,_,by rw[dE],by decide,by decide,by decide,rfl⟩
   | bit s=>exact⟨_,_,by rw[dE],by decide,by decide,by decide,rfl⟩
   | adb s=>exact⟨_,_,by rw[dE],by decide,by decide,by decide,rfl⟩
   | fT s=>exact⟨_,_,by rw[dE],by decide,by decide,by decide,rfl⟩
  obtain⟨t,c,hy,h1,h2,h3,h4⟩:=hk;have hs1:=za G all l0 e (by omega);rw[adO]at hs1;rw[h4,hy];rw[hy]at hs1;generalize l0 ++ eV (cu all e)=l1 at hs1 ⊢;generalize aeI all=g at hs1 ⊢;refine MC.abS (al _) func199 rfl rfl (rs:=[]) results199 (by simp[ntmps199]) rfl fun X=>?_;simp only[ntmps199];have fw:=(Aq @afg (Aq @afi (Aq @acw.eq_1 (Aq @afM (Aq @afT @afW)))));refine bf fw hs1 [0,1] [502,503] ?_;refine rgq fw [1,14] [502,503] ?_;refine aR ?_;have qf:=(Aq fw @h1);refine abQ [1,14,16,17] [502,503] ?_;refine abN rfl ?_;have qf:=(Aq fw @h2);refine abQ [1,14,23,24] [502,503] ?_;refine abN rfl ?_;have qf:=(Aq fw @h3);refine abQ [1,36,37] [502,503] ?_;refine abN rfl ?_;refine abO ?_;simp[D.le_refl,acw,dS]
def dv (all:Bool) (e:Ex):List (List UInt8):=Lib.compact (jY (ck all e))
theorem Mc (G:aq) (all:Bool) (e:Ex) (hb:bE e<=2^28):ar prog G 156 [dE e,.fn (.func (aeI all)) []] (.sl none ((dv all e).map fun s=>[dS s])):=by
 have hlen:=s6 all e;have hw:=aaa G all _ e (abL _) [] (by simp;omega);rw[aei]at hw;have sD:=YU G 503 9 (ck all e) (by omega);have iT:=OO G 503 9 (jY (ck all e)) (by rw[oQ];omega);rw[oQ]at iT;have hcl:=Lib.compact_length_le (jY (ck all e));rw[oQ]at hcl;unfold dv;obtain⟨tx,cx,hx⟩:=adE e;rw[hx]at hw ⊢;generalize aeI all=g at hw ⊢;generalize ck all e=l at hw sD iT hcl hlen ⊢;generalize jY l=z at sD iT hcl ⊢
 have cw:List.take (Lib.compact z).length ((Lib.compact z ++ List.replicate (l.length - (Lib.compact z).length) []).map fun s=>[dS s])=(Lib.compact z).map fun s=>[dS s]:=by
  rw[ac5,aep (by simp),sh (by simp)]
 have Ee:(Lib.compact z ++ List.replicate (l.length - (Lib.compact z).length) []).length=l.length:=by simp;omega
 generalize Lib.compact z ++ List.replicate (l.length - (Lib.compact z).length) []=y at iT cw Ee;generalize Lib.compact z=c at iT hcl cw ⊢;refine ar.abS (al _) func156 rfl rfl (rs:=[.tmp 4]) results156 (by simp[ntmps156]) fun X=>?_;simp only[ntmps156,List.map];have fw:=(Aq @afg (Aq @afi (Aq @acw.eq_1 (Aq @afM (Aq @afT @afW)))));refine rgq fw [0,3] [3] ?_;refine acp fw 3 ?_;refine rgq fw [0,3,5] [5] ?_;refine AW.imp (aB.ren (r:=5) (r':=502) trivial (by simp)) ?_;refine AW.st (by simp[fb,ac4,Go.Av.ren,A6];rfl) ?_;refine AW.imp (aB.nj 502 0 503 9 1 rfl rfl rfl) ?_;refine AW.imp (τ:=⟨aV [(0,.d (.bt tx cx)),(3,.d (.ip [.fn (.func g) []])),(5,.ref 502 0 0)],ak (acw [])⟩) ?_ ?_
 .refine abW (Aq fw @acw.eq_1)
 refine bf fw hw [5] [502,503] ?_;refine bf fw sD [5] [502,503] ?_;refine bf fw iT [4] [502,503] ?_
 have hle:c.length<=y.length:=by omega
 by_cases pB:c.length=y.length
 .have l5:(y.map fun s=>[dS s])=c.map fun s=>[dS s]:=by rw[<- cw,pB,sh (by simp)]
  simp only[dS]at l5;refine AW.imp (aB.freeze 503 trivial) ?_;refine AW.st (by simp[ab,dS,acw,bo,b5,pB,hle,l5];rfl) ?_;exact aN (Aq fw (Aq @pB @l5))
 .simp only[dS]at cw;refine AW.imp (aB.freeze 503 trivial) ?_;refine AW.st (by simp[ab,dS,acw,bo,b5,pB,hle,cw];rfl) ?_;exact aN (Aq fw @cw)
theorem U9 (G:aq) (e:Ex) (hb:bE e<=2^28):ar prog G 109 [dE e] (.sl none ((dv true e).map fun s=>[dS s])):=by
 have hs:=Mc G true e hb;obtain⟨tx,cx,hx⟩:=adE e;rw[hx]at hs ⊢;generalize dv true e=l at hs ⊢;simp only[aeI,if_true,if_false,abT]at hs;refine ar.abS (al _) func109 rfl rfl (rs:=[.tmp 2]) results109 (by simp[ntmps109]) fun X=>?_;simp only[ntmps109,List.map];have fw:=(Aq @afg (Aq @afi (Aq @acw.eq_1 (Aq @afM (Aq @afT @afW)))));refine rgq fw [0] [] ?_;refine aT fw hs [2] [] ?_;exact aN fw
theorem Ph (G:aq) (e:Ex) (hb:bE e<=2^28):ar prog G 127 [dE e] (.sl none ((dv false e).map fun s=>[dS s])):=by
 have hs:=Mc G false e hb;obtain⟨tx,cx,hx⟩:=adE e;rw[hx]at hs ⊢;generalize dv false e=l at hs ⊢;simp only[aeI,if_true,if_false,abT]at hs;refine ar.abS (al _) func127 rfl rfl (rs:=[.tmp 2]) results127 (by simp[ntmps127]) fun X=>?_;simp only[ntmps127,List.map];have fw:=(Aq @afg (Aq @afi (Aq @acw.eq_1 (Aq @afM (Aq @afT @afW)))));refine rgq fw [0] [] ?_;refine aT fw hs [2] [] ?_;exact aN fw
abbrev Tx:=List UInt8
theorem F7 (a:Tx):¬ a < a:=List.lt_irrefl a
theorem MB {a b c:Tx} (h1:a < b) (h2:b < c):a < c:=List.lt_trans h1 h2
theorem agz {a b:Tx}:a<=b↔¬ b < a:=Iff.rfl
theorem ahr {a b:Tx} (h1:¬ a < b) (h2:¬ b < a):a=b:=List.le_antisymm (agz.2 h2) (agz.2 h1)
def jb (s:Tx):List Tx->List Tx
 | []=>[s]
 | y :: l=>if y < s then y :: jb s l else if y=s then y :: l else s :: y :: l
theorem JK (s:Tx):∀ (l:List Tx) (k:Nat),k<=l.length->(∀ i (hi:i < l.length),i < k->l[i] < s)->(∀ hk:k < l.length,¬ l[k] < s)->
  jb s l=if (∃ hk:k < l.length,l[k]=s) then l else l.take k ++ s :: l.drop k
 | [],k,hk,_,_=>by
  obtain rfl:k=0:=by simpa using hk
  simp[jb]
 | y :: l,0,_,_,h2=>by
  have h3:¬ y < s:=h2 (by simp);rw[jb,if_neg h3];by_cases he:y=s
  .rw[if_pos he,if_pos ⟨by simp,he⟩]
  .rw[if_neg he,if_neg (fun ⟨_,h⟩=>he h)];simp
 | y :: l,k+1,hk,h1,h2=>by
  have h3:y < s:=h1 0 (by simp) (by omega);rw[jb,if_pos h3,JK s l k (by simpa using hk) (fun i hi wW=>h1 (i+1) (by simpa using hi) (by omega)) (fun hk2=>h2 (by simpa using hk2))];by_cases he:∃ hk:k < l.length,l[k]=s
  .rw[if_pos he,if_pos (by obtain⟨a,b⟩:=he;exact⟨by simpa using a,b⟩)]
  .rw[if_neg he,if_neg (fun ⟨a,b⟩=>he ⟨by simpa using a,b⟩)];simp
theorem Ei {s x:Tx}:∀ {l:List Tx},x∈jb s l↔x=s\/x∈l
 | []=>by simp[jb]
 | y :: l=>by
  rw[jb];by_cases h1:y < s
  .rw[if_pos h1,abV,Ei,abV];constructor
   .rintro (h | h | h)<;>simp[h]
   .rintro (h | h | h)<;>simp[h]
  .rw[if_neg h1];by_cases h2:y=s
   .rw[if_pos h2];subst h2;simp
   .rw[if_neg h2];simp
theorem JM (s:Tx):∀ {l:List Tx},l.Pairwise (· < ·)->(jb s l).Pairwise (· < ·)
 | [],_=>by simp[jb]
 | y :: l,h=>by
  obtain⟨ha,hb⟩:=acA.1 h;rw[jb];by_cases h1:y < s
  .rw[if_pos h1];refine acA.2 ⟨fun x hx=>?_,JM s hb⟩
   rcases Ei.1 hx with rfl | hx
   .exact h1
   .exact ha x hx
  .rw[if_neg h1];by_cases h2:y=s
   .rw[if_pos h2];exact h
   .rw[if_neg h2];have h3:s < y:=acj fun hn=>h2 (ahr h1 hn);refine acA.2 ⟨fun x hx=>?_,h⟩
    rcases abV.1 hx with rfl | hx
    .exact h3
    .exact MB h3 (ha x hx)
theorem JL (s:Tx):∀ l:List Tx,(jb s l).length<=l.length+1
 | []=>by simp[jb]
 | y :: l=>by
  have:=JL s l;rw[jb];split
  .simp;omega
  .split<;>simp
def ja (l ss:List Tx):List Tx:=ss.foldl (fun l s=>jb s l) l
theorem JI (l:List Tx):ja l []=l:=rfl
theorem JG (l a b:List Tx):ja l (a ++ b)=ja (ja l a) b:=List.foldl_append ..
theorem Eh:∀ (ss l:List Tx),(ja l ss).length<=l.length+ss.length
 | [],l=>by simp[ja]
 | s :: ss,l=>by
  have h1:=Eh ss (jb s l);have h2:=JL s l;have h3:ja l (s :: ss)=ja (jb s l) ss:=rfl;rw[h3,acv];omega
theorem JH {x:Tx}:∀ (ss l:List Tx),x∈ja l ss↔x∈l\/x∈ss
 | [],l=>by simp[ja]
 | s :: ss,l=>by
  have h3:ja l (s :: ss)=ja (jb s l) ss:=rfl;rw[h3,JH ss,Ei,abV];constructor
  .rintro ((h | h) | h)<;>simp[h]
  .rintro (h | h | h)<;>simp[h]
theorem JJ:∀ (ss l:List Tx),l.Pairwise (· < ·)->(ja l ss).Pairwise (· < ·)
 | [],l,h=>h
 | s :: ss,l,h=>JJ ss _ (JM s h)
theorem Mh:∀ {a b:List Tx},a.Pairwise (· < ·)->b.Pairwise (· < ·)->(∀ x,x∈a↔x∈b)->a=b
 | [],[],_,_,_=>rfl
 | [],y :: b,_,_,h=>absurd ((h y).2 (by simp)) (by simp)
 | x :: a,[],_,_,h=>absurd ((h x).1 (by simp)) (by simp)
 | x :: a,y :: b,ha,hb,h=>by
  obtain⟨wK,ha2⟩:=acA.1 ha;obtain⟨hb1,hb2⟩:=acA.1 hb
  have xu:x=y:=by
   rcases abV.1 ((h x).1 (by simp))with e | hx
   .exact e
   .rcases abV.1 ((h y).2 (by simp))with e | hy
    .exact e.symm
    .exact absurd (MB (hb1 x hx) (wK y hy)) (F7 _)
  subst xu;rw[Mh ha2 hb2 fun z=>?_];constructor
  .intro hz
   rcases abV.1 ((h z).1 (by simp[hz]))with e | e
   .subst e;exact absurd (wK z hz) (F7 _)
   .exact e
  .intro hz
   rcases abV.1 ((h z).2 (by simp[hz]))with e | e
   .subst e;exact absurd (hb1 z hz) (F7 _)
   .exact e
theorem EM (d:Array Tx):∀ (m:Nat),m<=d.size->∀ j,j < m->d[j]!∈Lib.compactUpTo d m
 | 0,_,j,h=>by omega
 | m+1,hm,j,hj=>by
  rw[Lib.compactUpTo_succ];by_cases zG:j < m
  .exact aeQ _ (EM d m (by omega) j zG)
  .obtain rfl:j=m:=by omega
   by_cases hk:Lib.keeps d j=true
   .exact List.mem_append_right _ (by simp[hk])
   .have jt:j≠0:=by rintro rfl;exact hk (Lib.keeps_lt_one d 0 (by omega))
    have he:d[j]! = d[j - 1]!:=by
     unfold Lib.keeps at hk;simp[jt]at hk
     first | exact hk | exact hk.symm
    rw[he];exact aeQ _ (EM d j (by omega) (j - 1) (by omega))
theorem Gb (d:Array Tx):∀ (m:Nat),m<=d.size->∀ x∈Lib.compactUpTo d m,∃ j,j < m/\x=d[j]!
 | 0,_,x,h=>by simp[Lib.compactUpTo]at h
 | m+1,hm,x,h=>by
  rw[Lib.compactUpTo_succ]at h
  rcases ab4.1 h with h | h
  .obtain⟨j,hj,e⟩:=Gb d m (by omega) x h;exact⟨j,by omega,e⟩
  .split at h
   .simp at h;exact⟨m,by omega,h⟩
   .simp at h
theorem MJ (d:Array Tx) (hs:∀ i j,i<=j->j < d.size->d[i]!<=d[j]!):∀ (m:Nat),m<=d.size->(Lib.compactUpTo d m).Pairwise (· < ·)
 | 0,_=>by simp[Lib.compactUpTo]
 | m+1,hm=>by
  have ih:=MJ d hs m (by omega);rw[Lib.compactUpTo_succ];by_cases hk:Lib.keeps d m=true
  .rw[if_pos hk,acE];refine⟨ih,by simp,fun a ha b hb=>?_⟩;rw[acV]at hb;subst hb;obtain⟨j,hj,rfl⟩:=Gb d m (by omega) a ha
   have aI:d[m]!≠d[m - 1]!:=by
    intro he;rw[Lib.keeps_neg (by omega) he]at hk;cases hk
   have h1:=hs j (m - 1) (by omega) (by omega);have h2:=hs (m - 1) m (by omega) (by omega);have h3:d[m - 1]! < d[m]!:=acj fun hn=>aI (ahr (agz.1 h2) hn)
   exact acj fun hn=>by
    have h4:d[m]!<=d[j]!:=agz.2 hn;exact (agz.1 (List.le_trans h4 h1)) h3
  .rw[if_neg hk,adp];exact ih
theorem Va (all:Bool) (e:Ex):(dv all e).Pairwise (· < ·):=by
 unfold dv Lib.compact;refine MJ _ (fun i j lp hj=>?_) _ (by simp)
 have hp:(jY (ck all e)).Pairwise (·<=·):=by
  unfold jY;have:=List.pairwise_mergeSort (le:=fun x y:Tx=>decide (x<=y)) (by intro a b c h1 h2;simp only[decide_eq_true_eq]at *;exact List.le_trans h1 h2) (by intro a b;simp only[acI,decide_eq_true_eq];exact List.le_total a b) (ck all e)
  exact this.imp fun h=>by simpa using h
 generalize jY (ck all e)=l at hp hj ⊢
 have hj':j < l.length:=by simpa using hj
 rw[getElem!_pos l.toArray i (by simpa using (by omega:i < l.length)),getElem!_pos l.toArray j (by simpa using hj')];simp only[List.getElem_toArray];by_cases he:i=j
 .subst he;exact List.le_refl _
 .exact (List.pairwise_iff_getElem.1 hp) i j (by omega) hj' (by omega)
theorem xN {all:Bool} {e:Ex} {s:Tx}:s∈dv all e↔s∈ck all e:=by
 unfold dv
 have h0:∀ l:List Tx,s∈Lib.compact l↔s∈l:=by
  intro l;unfold Lib.compact;constructor
  .intro h;obtain⟨j,hj,rfl⟩:=Gb l.toArray l.length (by simp) s h;rw[getElem!_pos l.toArray j (by simpa using hj)];simp
  .intro h;obtain⟨j,hj,rfl⟩:=aco.1 h;have:=EM l.toArray l.length (by simp) j hj;rw[getElem!_pos l.toArray j (by simpa using hj)]at this;simpa using this
 rw[h0];unfold jY;exact List.mem_mergeSort
theorem To (all:Bool) (e:Ex):ja [] (ck all e)=dv all e:=by
 refine Mh (JJ _ _ (by simp)) (Va all e) fun x=>?_;rw[JH,xN];simp
def sV:Ex->List UInt8
 | .ff b=>[if b then 49 else 48]
 | .bit _=>[98,105,116]
 | .adb _=>[94]
 | .fT _=>[126]
 | .not _=>[33]
 | .and _=>[38]
 | .or _=>[124]
def nU:Ex->List UInt8
 | .bit s=>s
 | .adb s=>s
 | .fT s=>s
 | _=>[]
def xR:Ex->D
 | .not e=>.sl none [[dR e]]
 | .and l=>.sl none (rU l)
 | .or l=>.sl none (rU l)
 | _=>cW
theorem od (e:Ex):dR e = .ip [dS (sV e),dS (nU e),xR e]:=by cases e<;>simp[dR,sV,nU,xR]
theorem ad0 (k:List UInt8) (arr:Array UInt8):aO .eql (bs k) ⟨arr⟩=some (True,.bool (decide (k=arr.toList))):=by
 have h:(bs k).toList=k:=aY k
 have h2:(⟨arr⟩:ByteArray).toList=arr.toList:=by rw[ByteArray.toList_eq]
 unfold aO;dsimp only;rw[h,h2];congr 3;by_cases e:k=arr.toList
 .subst e;simp
 .rw[decide_eq_false e,beq_eq_false_iff_ne.2 e]
theorem A7 {r r' s:Nat} (h:r≠r') (hs:s≠r') (hr:s≠r) (row afO:Row):mY r r' (ak [(s,afO),(r,row)])=ak [(s,afO.tr (fb r r') (ac4 r r')),(r',row.tr (fb r r') (ac4 r r'))]:=by
 funext q;unfold mY;by_cases h1:q=r'
 .subst h1;simp[ak,List.lookup,beq_eq_false_iff_ne.2 (adr hs),beq_eq_false_iff_ne.2 (adr hr)]
 .rw[if_neg h1];by_cases h2:q=r
  .subst h2;simp[ak,List.lookup,beq_eq_false_iff_ne.2 h1,beq_eq_false_iff_ne.2 (adr hr)]
  .by_cases h3:q=s
   .subst h3;simp[ak,List.lookup,h2,beq_eq_false_iff_ne.2 h1,beq_eq_false_iff_ne.2 h2]
   .simp[ak,List.lookup,h2,beq_eq_false_iff_ne.2 h1,beq_eq_false_iff_ne.2 h2,beq_eq_false_iff_ne.2 h3]
def iP:Option Ex->D
 | some x=>dR x
 | none=>.v (.pointer none)
theorem MO (G:aq) (t:List UInt8) (ht:t.length<=2000):Reads G t [500] [] 144 [.ref 500 0 0,.d (ab 0)] 20 (ij t (ab7 t 20)):=
 Lg G t ht 0 20 (VK G t ht 20 0 (abL _) rfl)
theorem Fi {t:List UInt8} {c:Int} {p:Option Nat} (h:(fF t).2=some (c,p)):0 < c:=by
 unfold fF at h;split at h
 .simp at h;omega
 .rename_i hl;obtain⟨yF,kF,hr⟩:=MO (fun _=>none) t (by omega);split at h
  .rename_i c' p' q' he;simp at h;have:=(hr 0 (ae2 _)).2 _ _ _ he;omega
  .split at h
   .simp at h;omega
   .cases h
theorem xY {t:List UInt8} (h:(fF t).2=none):∃ x,(fF t).1=some x:=by
 unfold fF at h ⊢;split at h
 .cases h
 .rw[if_neg ‹_›];split at h
  .cases h
  .split at h
   .cases h
   .rw[if_neg ‹_›];exact⟨_,rfl⟩
theorem Yj (G:aq) (hF:qe G) (t:List UInt8) (ht:t.length < 2^60):ar prog G 93 [dS t] (.aW [iP (fF t).1,aci (fF t).2]):=by
 unfold fF;unfold qe at hF;by_cases hl:2000 < t.length
 .have eF:(2000:Int) < (t.length:Int):=by omega
  have hb:=yI G 4;rw[if_pos hl];refine ar.abS (al _) func93 rfl rfl (rs:=[.tmp 2,.cell 3 124]) results93 (by simp[ntmps93]) fun X=>?_;simp only[ntmps93,List.map];have fw:=(Aq @afg (Aq @ab0.eq_1 @afi));refine rgq fw [0,3] [3] ?_;refine af fun K1 ax=>?_;have qf:=(Aq fw (Aq @bl (Aq @hl @eF)));refine abQ [0,3,8] [3] ?_;refine abP rfl ?_;refine aT fw hb [2,3] [3] ?_;exact aN (Aq fw (Aq @iP.eq_1 (Aq @iP.eq_2 (Aq @afj (Aq @afm (Aq @afn (Aq @afo @afs)))))))
 have eF:¬ (2000:Int) < (t.length:Int):=by omega
 rw[if_neg hl];obtain⟨yF,kF,hr⟩:=MO G t (by omega);have hc:=(hr 0 (ae2 _)).1;have he:=(hr 0 (ae2 _)).2
 cases ho:ij t (ab7 t 20) 0 with
 | err c p q=>
  rw[ho]at hc;obtain⟨h1,h2,h3⟩:=he _ _ _ ho
  have h0:¬ c=0:=by omega
  generalize yF 0=y at hc h2;generalize kF 0=k at hc h3;refine ar.abS (al _) func93 rfl rfl (rs:=[.tmp 2,.cell 3 124]) results93 (by simp[ntmps93]) fun X=>?_;simp only[ntmps93,List.map];have fw:=(Aq @afg (Aq @ab0.eq_1 @afi));refine rgq fw [0,3] [3] ?_;refine af fun K1 ax=>?_;have qf:=(Aq fw (Aq @bl (Aq @hl @eF)));refine abQ [0,3,8] [3] ?_;refine abN rfl ?_;refine abO (ax _ ?_);have qf:=(Aq fw @hF);refine abQ [0,3,4] [3,13] ?_;refine AW.imp (aB.ren (r:=13) (r':=500) trivial (by simp)) ?_;refine AW.st (by simp[fb,ac4,Go.Av.ren,A7];rfl) ?_;refine bf (Aq fw (Aq @gF.eq_1 (Aq @gF.eq_2 (Aq @gh.eq_1 (Aq @gh.eq_2 (Aq @eR.eq_1 (Aq @eR.eq_2 (Aq @pR.eq_1 @pR.eq_2)))))))) hc [0,3,4,5] [3,500] ?_;refine af fun K2 aa=>?_;have qf:=(Aq fw @h0);refine abQ [3,4,5,43] [3,500] ?_;refine abN rfl ?_;refine abO (aa _ ?_);refine af fun K3 aQ=>?_;have qf:=(Aq fw @h0);refine abQ [3,4,5,51] [3,500] ?_;refine abP rfl ?_;refine aet (al _) (by kernel_rfl) [(3,500),(5,3)] [2,3] [3,500] (fun _ _=>trivial) (by kernel_rfl) fun K' ae=>?_;(repeat (refine gl fun K2 aa=>?_;simp[ab,ab0,dS];(repeat (refine⟨by omega,?_⟩));refine aa _ ?_;clear aa K2));refine adw (ae _ ?_);refine AW.st (by simp[ab,ab0,dS];rfl) ?_;clear ae K';exact aN (Aq fw (Aq @iP.eq_1 (Aq @iP.eq_2 (Aq @afj (Aq @afm (Aq @afn (Aq @afo @afs)))))))
 | ok x k=>
  rw[ho]at hc;dsimp only[gF,gh,eR,pR]at hc;have hk:=(afl (aeg t 20) 0 x k (ae2 _) ho).2;have eH:=agt G t k (by omega) hk 0 (-1);have hk2:=im hk;have hfl:=xZ G t (aZ t k) (by omega) hk2 3;rw[afR hk]at hfl
  have kL:aZ t k < t.length\/lF t k=0:=by
   by_cases h:aZ t k < t.length
   .exact .inl h
   .exact .inr (by unfold lF;rw[abJ,adh (by omega)];rfl)
  obtain⟨cx,hx⟩:=tQ x;dsimp only;generalize aZ t k=j at eH hk2 hfl kL ⊢;generalize lF t k=b at eH kL;by_cases hj:j < t.length
  .have hj':(j:Int) < (t.length:Int):=by omega
   rw[if_pos hj];rw[hx]at hc;by_cases hb:((b.toNat:Int)=0)
   .have r8:b.toNat=0:=by omega
    refine ar.abS (al _) func93 rfl rfl (rs:=[.tmp 2,.cell 3 124]) results93 (by simp[ntmps93]) fun X=>?_;simp only[ntmps93,List.map];have fw:=(Aq @afg (Aq @ab0.eq_1 @afi));refine rgq fw [0,3] [3] ?_;refine af fun K1 ax=>?_;have qf:=(Aq fw (Aq @bl (Aq @hl @eF)));refine abQ [0,3,8] [3] ?_;refine abN rfl ?_;refine abO (ax _ ?_);have qf:=(Aq fw @hF);refine abQ [0,3,4] [3,13] ?_;refine AW.imp (aB.ren (r:=13) (r':=500) trivial (by simp)) ?_;refine AW.st (by simp[fb,ac4,Go.Av.ren,A7];rfl) ?_;refine bf fw hc [0,3,4,5] [3,500] ?_;refine af fun K2 aa=>?_;have qf:=(Aq fw (Aq @hb (Aq @r8 (Aq @bl (Aq @hj @hj')))));refine adu eH [3,4,5,43] [3,500] ?_;refine abP rfl ?_;refine cR (al _) fun K' ae=>?_;(repeat (refine sxn fun K2 aa=>?_;simp[ab,ab0,dS];(repeat (refine⟨by omega,?_⟩));refine aa _ ?_;clear aa K2));refine sxn fun K2 aa=>?_;simp[ab,ab0,dS];refine ab8.mc (hfl) ?_ ?_ ?_ ?_ ?_<;>simp[ab,ab0,dS];refine aa _ ?_;clear aa K2;(repeat (refine sxn fun K2 aa=>?_;simp[ab,ab0,dS];(repeat (refine⟨by omega,?_⟩));refine aa _ ?_;clear aa K2));refine sxz (ae _ ?_);clear ae K';refine aa _ (AW.norm [3,4,5] [3,500] (fun _ _=>trivial) (AW.st (by simp[ab,ab0,dS];rfl) ?_));refine af fun K3 aQ=>?_;refine rgq fw [3,4,5,51] [3,500] ?_;refine abP rfl ?_;refine aet (al _) (by kernel_rfl) [(3,500),(5,3)] [2,3] [3,500] (fun _ _=>trivial) (by kernel_rfl) fun K' ae=>?_;(repeat (refine gl fun K2 aa=>?_;simp[ab,ab0,dS];(repeat (refine⟨by omega,?_⟩));refine aa _ ?_;clear aa K2));refine adw (ae _ ?_);refine AW.st (by simp[ab,ab0,dS];rfl) ?_;clear ae K';exact aN (Aq fw (Aq @iP.eq_1 (Aq @iP.eq_2 (Aq @afj (Aq @afm (Aq @afn (Aq @afo @afs)))))))
   .have r8:¬ b.toNat=0:=by omega
    refine ar.abS (al _) func93 rfl rfl (rs:=[.tmp 2,.cell 3 124]) results93 (by simp[ntmps93]) fun X=>?_;simp only[ntmps93,List.map];have fw:=(Aq @afg (Aq @ab0.eq_1 @afi));refine rgq fw [0,3] [3] ?_;refine af fun K1 ax=>?_;have qf:=(Aq fw (Aq @bl (Aq @hl @eF)));refine abQ [0,3,8] [3] ?_;refine abN rfl ?_;refine abO (ax _ ?_);have qf:=(Aq fw @hF);refine abQ [0,3,4] [3,13] ?_;refine AW.imp (aB.ren (r:=13) (r':=500) trivial (by simp)) ?_;refine AW.st (by simp[fb,ac4,Go.Av.ren,A7];rfl) ?_;refine bf fw hc [0,3,4,5] [3,500] ?_;refine af fun K2 aa=>?_;have qf:=(Aq fw (Aq @hb (Aq @r8 (Aq @bl (Aq @hj @hj')))));refine adu eH [3,4,5,43] [3,500] ?_;refine abP rfl ?_;refine cR (al _) fun K' ae=>?_;(repeat (refine sxn fun K2 aa=>?_;simp[ab,ab0,dS];(repeat (refine⟨by omega,?_⟩));refine aa _ ?_;clear aa K2));refine sxn fun K2 aa=>?_;simp[ab,ab0,dS];refine ab8.mc (hfl) ?_ ?_ ?_ ?_ ?_<;>simp[ab,ab0,dS];refine aa _ ?_;clear aa K2;(repeat (refine sxn fun K2 aa=>?_;simp[ab,ab0,dS];(repeat (refine⟨by omega,?_⟩));refine aa _ ?_;clear aa K2));refine sxz (ae _ ?_);clear ae K';refine aa _ (AW.norm [3,4,5] [3,500] (fun _ _=>trivial) (AW.st (by simp[ab,ab0,dS];rfl) ?_));refine af fun K3 aQ=>?_;refine rgq fw [3,4,5,51] [3,500] ?_;refine abP rfl ?_;refine aet (al _) (by kernel_rfl) [(3,500),(5,3)] [2,3] [3,500] (fun _ _=>trivial) (by kernel_rfl) fun K' ae=>?_;(repeat (refine gl fun K2 aa=>?_;simp[ab,ab0,dS];(repeat (refine⟨by omega,?_⟩));refine aa _ ?_;clear aa K2));refine adw (ae _ ?_);refine AW.st (by simp[ab,ab0,dS];rfl) ?_;clear ae K';exact aN (Aq fw (Aq @iP.eq_1 (Aq @iP.eq_2 (Aq @afj (Aq @afm (Aq @afn (Aq @afo @afs)))))))
  .have hj':¬ (j:Int) < (t.length:Int):=by omega
   have hb:((b.toNat:Int)=0):=by
    rcases kL with h | h
    .exact absurd h hj
    .rw[h];rfl
   have r8:b.toNat=0:=by omega
   rw[if_neg hj];simp only[iP];rw[hx]at hc ⊢;refine ar.abS (al _) func93 rfl rfl (rs:=[.tmp 2,.cell 3 124]) results93 (by simp[ntmps93]) fun X=>?_;simp only[ntmps93,List.map];have fw:=(Aq @afg (Aq @ab0.eq_1 @afi));refine rgq fw [0,3] [3] ?_;refine af fun K1 ax=>?_;have qf:=(Aq fw (Aq @bl (Aq @hl @eF)));refine abQ [0,3,8] [3] ?_;refine abN rfl ?_;refine abO (ax _ ?_);have qf:=(Aq fw @hF);refine abQ [0,3,4] [3,13] ?_;refine AW.imp (aB.ren (r:=13) (r':=500) trivial (by simp)) ?_;refine AW.st (by simp[fb,ac4,Go.Av.ren,A7];rfl) ?_;refine bf fw hc [0,3,4,5] [3,500] ?_;refine af fun K2 aa=>?_;have qf:=(Aq fw (Aq @hb (Aq @r8 (Aq @bl (Aq @hj @hj')))));refine adu eH [3,4,5,43] [3,500] ?_;refine abN rfl ?_;refine abO (aa _ ?_);refine af fun K3 aQ=>?_;refine rgq fw [3,4,5,51] [3,500] ?_;refine abN rfl ?_;refine abO (aQ _ ?_);refine aet (al _) (by kernel_rfl) [(3,3)] [2,3] [3,500] (fun _ _=>trivial) (by kernel_rfl) fun K' ae=>?_;(repeat (refine gl fun K2 aa=>?_;simp[ab,ab0,dS,hF];(repeat (refine⟨by omega,?_⟩));refine aa _ ?_;clear aa K2));refine adw (ae _ ?_);refine AW.st (by simp[ab,ab0,dS,hF];rfl) ?_;clear ae K';exact aN (Aq fw (Aq @afj (Aq @afm (Aq @afn (Aq @afo @afs)))))
theorem JC {α:Type} (p:α->Bool) (l:List α):decide (0<=idx p l)=l.any p:=by
 unfold idx
 cases h:l.findIdx? p with
 | none=>
  rw[List.findIdx?_eq_none_iff]at h
  have:l.any p=false:=by rw[List.any_eq_false];intro x hx;simp[h x hx]
  rw[this];simp
 | some i=>
  rw[acT]at h;obtain⟨hi,hp,_⟩:=h;have:l.any p=true:=ad1.2 ⟨_,abH hi,hp⟩;rw[this];simp
theorem ag2 (is bH:List UInt8->Bool):∀ l:List Ex,tU is bH l = !(l.any fun e=>!c8 is bH e)
 | []=>rfl
 | e :: l=>by rw[tU,ag2 is bH l];simp
theorem HD (is bH:List UInt8->Bool):∀ l:List Ex,tV is bH l=l.any fun e=>c8 is bH e
 | []=>rfl
 | e :: l=>by rw[tV,HD is bH l];simp
theorem Ti (G:aq) (k:Option Bool) (xs:List Ex) (g:FuncId) (caps:List D) (p:Ex->Bool) (hl:xs.length < 2^63) (ha:∀ x∈xs,ar prog G g (dE x :: caps) (.v (.bool (p x)))) :
  ar prog G 151 [.sl k (xs.map fun x=>[dE x]),.fn (.func g) caps] (.v (.int .i64 (idx p xs))):=by
 refine ar.abS (al _) func151 rfl rfl (rs:=[.tmp 4]) results151 (by simp[ntmps151]) fun X=>?_;simp only[ntmps151,List.map];refine ah [0,1] [] ?_;refine af fun K1 ax=>?_;refine ah [0,1,7,8] [] ?_;refine bQ (S:=Nat) (fun n=>n<=xs.length/\∀ i (hi:i < xs.length),i < n->p xs[i]=false) (fun n=>⟨aV [(0,.d (.sl k (xs.map fun x=>[dE x]))),(1,.d (.fn (.func g) caps)),(7,int xs.length),(8,int n)],ak []⟩) (fun n=>xs.length - n) 0 ?_ (by simp) ?_
 .refine bJ
 .rintro n ⟨hn,hp⟩;refine ah [0,1,7,8,9] [] ?_;refine af fun K2 aa=>?_;refine eh (b:=n < xs.length) (by simp[D.le,D.le.go,aC]) (fun hc=>?_) (fun hc=>?_)
  .have pw:=ha xs[n] (by simp);refine abO (aa _ ?_);refine af fun K3 aQ=>?_;refine aR ?_;refine ah [0,1,5,7,8] [] ?_;have qf:=@hc;refine dr pw [0,1,5,7,8,16] [] ?_;refine aeD _ rfl (fun ey=>?_) (fun ey=>?_)
   .refine ah [4] [] ?_;refine ab1 ?_;simp[D.le,D.le.go,aC];exact (afp hc ey fun i hi=>hp i (by omega) hi).symm
   .refine abO (aQ _ ?_);refine re0 ?_;(try simp only[aJ,aL]);refine aS.mk (n+1) ⟨by omega,fun i hi aF=>?_⟩ (by omega) ?_
    .by_cases h:i=n
     .subst h;exact ey
     .exact hp i hi (by omega)
    refine bJ
  .refine bx (ax _ ?_);refine ah [4] [] ?_;refine ab1 ?_;simp[D.le,D.le.go,aC];exact (afq fun i hi=>hp i hi (by omega)).symm
theorem OR (G:aq) (k:Option Bool) (xs:List Ex) (g:FuncId) (caps:List D) (p:Ex->Bool) (hl:xs.length < 2^63) (ha:∀ x∈xs,ar prog G g (dE x :: caps) (.v (.bool (p x)))) :
  ar prog G 102 [.sl k (xs.map fun x=>[dE x]),.fn (.func g) caps] (.v (.bool (xs.any p))):=by
 have hi:=Ti G k xs g caps p hl ha;have hd:=JC p xs;generalize idx p xs=r at hi hd;rw[<- hd];refine ar.abS (al _) func102 rfl rfl (rs:=[.tmp 4]) results102 (by simp[ntmps102]) fun X=>?_;simp only[ntmps102,List.map];refine ah [0,1] [] ?_;refine aT trivial hi [4] [] ?_;exact cZ
theorem Tl (G:aq) (k:Option Bool) (xs:List Ex) (g:FuncId) (caps:List D) (p:Ex->Bool) (hl:xs.length < 2^63) (ha:∀ x∈xs,ar prog G g (dE x :: caps) (.v (.bool (p x)))) :
  ar prog G 152 [.sl k (xs.map fun x=>[dE x]),.fn (.func g) caps] (.v (.int .i64 (idx p xs))):=by
 refine ar.abS (al _) func152 rfl rfl (rs:=[.tmp 4]) results152 (by simp[ntmps152]) fun X=>?_;simp only[ntmps152,List.map];refine ah [0,1] [] ?_;refine af fun K1 ax=>?_;refine ah [0,1,7,8] [] ?_;refine bQ (S:=Nat) (fun n=>n<=xs.length/\∀ i (hi:i < xs.length),i < n->p xs[i]=false) (fun n=>⟨aV [(0,.d (.sl k (xs.map fun x=>[dE x]))),(1,.d (.fn (.func g) caps)),(7,int xs.length),(8,int n)],ak []⟩) (fun n=>xs.length - n) 0 ?_ (by simp) ?_
 .refine bJ
 .rintro n ⟨hn,hp⟩;refine ah [0,1,7,8,9] [] ?_;refine af fun K2 aa=>?_;refine eh (b:=n < xs.length) (by simp[D.le,D.le.go,aC]) (fun hc=>?_) (fun hc=>?_)
  .have pw:=ha xs[n] (by simp);refine abO (aa _ ?_);refine af fun K3 aQ=>?_;refine aR ?_;refine ah [0,1,5,7,8] [] ?_;have qf:=@hc;refine dr pw [0,1,5,7,8,16] [] ?_;refine aeD _ rfl (fun ey=>?_) (fun ey=>?_)
   .refine ah [4] [] ?_;refine ab1 ?_;simp[D.le,D.le.go,aC];exact (afp hc ey fun i hi=>hp i (by omega) hi).symm
   .refine abO (aQ _ ?_);refine re0 ?_;(try simp only[aJ,aL]);refine aS.mk (n+1) ⟨by omega,fun i hi aF=>?_⟩ (by omega) ?_
    .by_cases h:i=n
     .subst h;exact ey
     .exact hp i hi (by omega)
    refine bJ
  .refine bx (ax _ ?_);refine ah [4] [] ?_;refine ab1 ?_;simp[D.le,D.le.go,aC];exact (afq fun i hi=>hp i hi (by omega)).symm
theorem OS (G:aq) (k:Option Bool) (xs:List Ex) (g:FuncId) (caps:List D) (p:Ex->Bool) (hl:xs.length < 2^63) (ha:∀ x∈xs,ar prog G g (dE x :: caps) (.v (.bool (p x)))) :
  ar prog G 104 [.sl k (xs.map fun x=>[dE x]),.fn (.func g) caps] (.v (.bool (xs.any p))):=by
 have hi:=Tl G k xs g caps p hl ha;have hd:=JC p xs;generalize idx p xs=r at hi hd;rw[<- hd];refine ar.abS (al _) func104 rfl rfl (rs:=[.tmp 4]) results104 (by simp[ntmps104]) fun X=>?_;simp only[ntmps104,List.map];refine ah [0,1] [] ?_;refine aT trivial hi [4] [] ?_;exact cZ
mutual
def fH (S1 S2:List UInt8->Prop):Ex->Prop
 | .ff _=>True
 | .bit s=>S1 s
 | .adb s=>S1 s/\S2 s
 | .fT s=>S1 s/\S2 s
 | .not e=>fH S1 S2 e
 | .and l=>oY S1 S2 l
 | .or l=>oY S1 S2 l
def oY (S1 S2:List UInt8->Prop):List Ex->Prop
 | []=>True
 | e :: l=>fH S1 S2 e/\oY S1 S2 l
end
theorem vG {S1 S2:List UInt8->Prop}:∀ {l:List Ex},oY S1 S2 l↔∀ x∈l,fH S1 S2 x
 | []=>by simp[oY]
 | e :: l=>by rw[oY,vG];simp
def aeG (S:List UInt8->Prop) (G:aq) (g:FuncId) (caps:List D) (p:List UInt8->Bool):Prop:=∀ s,S s->ar prog G g (dS s :: caps) (.v (.bool (p s)))
theorem eval_at (G:aq) (g1 g2:FuncId) (c1 c2:List D) (is bH:List UInt8->Bool) (S1 S2:List UInt8->Prop) (h1:aeG S1 G g1 c1 is) (h2:aeG S2 G g2 c2 bH):∀ (n:Nat) (e:Ex),SizeOf.sizeOf e<=n->fH S1 S2 e->bE e<=2^28->ar prog G 51 [dE e,.fn (.func g1) c1,.fn (.func g2) c2] (.v (.bool (c8 is bH e))):=by
 intro n
 induction n with
 | zero=>intro e aK;cases e<;>simp at aK
 | succ n ih=>
  intro e aK acZ hb;have fw:=(Aq @afg (Aq @afi (Aq @afM (Aq @afT @afW))))
  cases e with
  | ff b=>
   rw[dE];refine ar.abS (al _) func51 rfl rfl (rs:=[.tmp 6]) results51 (by simp[ntmps51]) fun X=>?_;simp only[ntmps51,List.map];refine rgq fw [0,4,5] [4,5] ?_;refine acp fw 4 ?_;refine acp fw 5 ?_;refine af fun K1 ax=>?_;refine rgq fw [4,5,14] [] ?_;refine aR ?_;refine rgq fw [4,5,14,16,17] [] ?_;refine abP rfl ?_;refine rgq fw [7] [] ?_;refine rgq fw [6] [] ?_;refine ab1 ?_;simp[D.le,D.le.go,aC,ab,dS,bo,b5,c8]
  | bit s=>
   rw[fH]at acZ;have hi:=h1 s acZ;rw[dE,c8];refine ar.abS (al _) func51 rfl rfl (rs:=[.tmp 6]) results51 (by simp[ntmps51]) fun X=>?_;simp only[ntmps51,List.map];refine rgq fw [0,4,5] [4,5] ?_;refine acp fw 4 ?_;refine acp fw 5 ?_;refine af fun K1 ax=>?_;refine rgq fw [4,5,14] [] ?_;refine aR ?_;refine rgq fw [4,5,14,16,17] [] ?_;refine abN rfl ?_;refine rgq fw [4,5,14,20,21] [] ?_;refine abP rfl ?_;refine rgq fw [4,8] [] ?_;refine aT fw hi [6] [] ?_;exact aN fw
  | adb s=>
   rw[fH]at acZ;have hi:=h1 s acZ.1;have hw:=h2 s acZ.2;rw[dE,c8]
   cases hs:is s with
   | false=>
    rw[hs]at hi;refine ar.abS (al _) func51 rfl rfl (rs:=[.tmp 6]) results51 (by simp[ntmps51]) fun X=>?_;simp only[ntmps51,List.map];refine rgq fw [0,4,5] [4,5] ?_;refine acp fw 4 ?_;refine acp fw 5 ?_;refine af fun K1 ax=>?_;refine rgq fw [4,5,14] [] ?_;refine aR ?_;refine rgq fw [4,5,14,16,17] [] ?_;refine abN rfl ?_;refine rgq fw [4,5,14,20,21] [] ?_;refine abN rfl ?_;refine rgq fw [4,5,14,26,27] [] ?_;refine abP rfl ?_;refine rgq fw [4,5,9] [] ?_;refine aT fw hi [6] [] ?_;exact aN fw
   | true=>
    rw[hs]at hi;refine ar.abS (al _) func51 rfl rfl (rs:=[.tmp 6]) results51 (by simp[ntmps51]) fun X=>?_;simp only[ntmps51,List.map];refine rgq fw [0,4,5] [4,5] ?_;refine acp fw 4 ?_;refine acp fw 5 ?_;refine af fun K1 ax=>?_;refine rgq fw [4,5,14] [] ?_;refine aR ?_;refine rgq fw [4,5,14,16,17] [] ?_;refine abN rfl ?_;refine rgq fw [4,5,14,20,21] [] ?_;refine abN rfl ?_;refine rgq fw [4,5,14,26,27] [] ?_;refine abP rfl ?_;refine rgq fw [4,5,9] [] ?_;refine rg [6] [] (fun _ _=>trivial) fun K' ae=>?_;(repeat (refine sxn fun K2 aa=>?_;simp[ab,dS,bo,b5];(repeat (refine⟨by omega,?_⟩));refine aa _ ?_;clear aa K2));refine sxn fun K2 aa=>?_;simp[ab,dS,bo,b5];refine ab8.data (hi) (by simp;rfl) (by first | exact D.abY _ | simp[aC,abU,abK,D.le,D.le.go,D.le_refl,D.abY,ab,dS,bo,b5]) ?_;refine aa _ ?_;clear aa K2;simp only[aD,cz];(repeat (refine sxn fun K2 aa=>?_;simp[ab,dS,bo,b5];(repeat (refine⟨by omega,?_⟩));refine aa _ ?_;clear aa K2));refine sxn fun K2 aa=>?_;simp[ab,dS,bo,b5];refine ab8.data (hw) (by simp;rfl) (by first | exact D.abY _ | simp[aC,abU,abK,D.le,D.le.go,D.le_refl,D.abY,ab,dS,bo,b5]) ?_;refine aa _ ?_;clear aa K2;simp only[aD,cz];(repeat (refine sxn fun K2 aa=>?_;simp[ab,dS,bo,b5];(repeat (refine⟨by omega,?_⟩));refine aa _ ?_;clear aa K2));refine sxz (ae _ (AW.st (by simp[ab,dS,bo,b5];rfl) ?_));clear ae K';exact aN fw
  | fT s=>
   rw[fH]at acZ;have hi:=h1 s acZ.1;have hw:=h2 s acZ.2;rw[dE,c8]
   cases hs:is s with
   | true=>
    rw[hs]at hi;refine ar.abS (al _) func51 rfl rfl (rs:=[.tmp 6]) results51 (by simp[ntmps51]) fun X=>?_;simp only[ntmps51,List.map];refine rgq fw [0,4,5] [4,5] ?_;refine acp fw 4 ?_;refine acp fw 5 ?_;refine af fun K1 ax=>?_;refine rgq fw [4,5,14] [] ?_;refine aR ?_;refine rgq fw [4,5,14,16,17] [] ?_;refine abN rfl ?_;refine rgq fw [4,5,14,20,21] [] ?_;refine abN rfl ?_;refine rgq fw [4,5,14,26,27] [] ?_;refine abN rfl ?_;refine rgq fw [4,5,14,38,39] [] ?_;refine abP rfl ?_;refine rgq fw [4,5,10] [] ?_;refine aT fw hi [6] [] ?_;exact aN fw
   | false=>
    rw[hs]at hi;refine ar.abS (al _) func51 rfl rfl (rs:=[.tmp 6]) results51 (by simp[ntmps51]) fun X=>?_;simp only[ntmps51,List.map];refine rgq fw [0,4,5] [4,5] ?_;refine acp fw 4 ?_;refine acp fw 5 ?_;refine af fun K1 ax=>?_;refine rgq fw [4,5,14] [] ?_;refine aR ?_;refine rgq fw [4,5,14,16,17] [] ?_;refine abN rfl ?_;refine rgq fw [4,5,14,20,21] [] ?_;refine abN rfl ?_;refine rgq fw [4,5,14,26,27] [] ?_;refine abN rfl ?_;refine rgq fw [4,5,14,38,39] [] ?_;refine abP rfl ?_;refine rgq fw [4,5,10] [] ?_;refine rg [6] [] (fun _ _=>trivial) fun K' ae=>?_;(repeat (refine sxn fun K2 aa=>?_;simp[ab,dS,bo,b5];(repeat (refine⟨by omega,?_⟩));refine aa _ ?_;clear aa K2));refine sxn fun K2 aa=>?_;simp[ab,dS,bo,b5];refine ab8.data (hi) (by simp;rfl) (by first | exact D.abY _ | simp[aC,abU,abK,D.le,D.le.go,D.le_refl,D.abY,ab,dS,bo,b5]) ?_;refine aa _ ?_;clear aa K2;simp only[aD,cz];(repeat (refine sxn fun K2 aa=>?_;simp[ab,dS,bo,b5];(repeat (refine⟨by omega,?_⟩));refine aa _ ?_;clear aa K2));refine sxn fun K2 aa=>?_;simp[ab,dS,bo,b5];refine ab8.data (hw) (by simp;rfl) (by first | exact D.abY _ | simp[aC,abU,abK,D.le,D.le.go,D.le_refl,D.abY,ab,dS,bo,b5]) ?_;refine aa _ ?_;clear aa K2;simp only[aD,cz];(repeat (refine sxn fun K2 aa=>?_;simp[ab,dS,bo,b5];(repeat (refine⟨by omega,?_⟩));refine aa _ ?_;clear aa K2));refine sxz (ae _ (AW.st (by simp[ab,dS,bo,b5];rfl) ?_));clear ae K';exact aN fw
  | not x=>
   have hc:=ih x (by simp at aK;omega) (by rwa [fH]at acZ) (by simp only[bE]at hb;omega);obtain⟨tx,cx,hx⟩:=adE x;rw[dE,c8,hx];rw[hx]at hc;generalize c8 is bH x=r at hc ⊢;refine ar.abS (al _) func51 rfl rfl (rs:=[.tmp 6]) results51 (by simp[ntmps51]) fun X=>?_;simp only[ntmps51,List.map];refine rgq fw [0,4,5] [4,5] ?_;refine acp fw 4 ?_;refine acp fw 5 ?_;refine af fun K1 ax=>?_;refine rgq fw [4,5,14] [] ?_;refine aR ?_;refine rgq fw [4,5,14,16,17] [] ?_;refine abN rfl ?_;refine rgq fw [4,5,14,20,21] [] ?_;refine abN rfl ?_;refine rgq fw [4,5,14,26,27] [] ?_;refine abN rfl ?_;refine rgq fw [4,5,14,38,39] [] ?_;refine abN rfl ?_;refine rgq fw [4,5,14,50,51] [] ?_;refine abP rfl ?_;refine rgq fw [4,5,11] [11] ?_;refine aT fw hc [6] [11] ?_;exact aN fw
  | and l=>
   have jL:∀ x∈l,ar prog G 103 [dE x,.ip [.fn (.func g1) c1],.ip [.fn (.func g2) c2]] (.v (.bool (!c8 is bH x))):=fun x hx=>by
    have hc:=ih x (by have:=acL hx;simp only[Ex.and.sizeOf_spec]at aK;omega) (by rw[fH,vG]at acZ;exact acZ x hx) (by have:=agd hx;simp only[bE]at hb;omega);obtain⟨tx,cx,Ed⟩:=adE x;rw[Ed]at hc ⊢;generalize c8 is bH x=r at hc ⊢;refine ar.abS (al _) func103 rfl rfl (rs:=[.tmp 4]) results103 (by simp[ntmps103]) fun X=>?_;simp only[ntmps103,List.map];refine rgq fw [0,1,2] [] ?_;refine aT fw hc [4] [] ?_;exact aN fw
   have lr:=qi l;have wQ:=OR G none l 103 [.ip [.fn (.func g1) c1],.ip [.fn (.func g2) c2]] (fun x=>!c8 is bH x) (by simp only[bE]at hb;omega) jL;rw[dE,pb,c8,ag2];generalize l.any (fun x=>!c8 is bH x)=r at wQ ⊢;refine ar.abS (al _) func51 rfl rfl (rs:=[.tmp 6]) results51 (by simp[ntmps51]) fun X=>?_;simp only[ntmps51,List.map];refine rgq fw [0,4,5] [4,5] ?_;refine acp fw 4 ?_;refine acp fw 5 ?_;refine af fun K1 ax=>?_;refine rgq fw [4,5,14] [] ?_;refine aR ?_;refine rgq fw [4,5,14,16,17] [] ?_;refine abN rfl ?_;refine rgq fw [4,5,14,20,21] [] ?_;refine abN rfl ?_;refine rgq fw [4,5,14,26,27] [] ?_;refine abN rfl ?_;refine rgq fw [4,5,14,38,39] [] ?_;refine abN rfl ?_;refine rgq fw [4,5,14,50,51] [] ?_;refine abN rfl ?_;refine rgq fw [4,5,14,59,60] [] ?_;refine abP rfl ?_;refine rgq fw [4,5,12] [] ?_;refine aT fw wQ [6] [] ?_;exact aN fw
  | or l=>
   have jL:∀ x∈l,ar prog G 105 [dE x,.ip [.fn (.func g1) c1],.ip [.fn (.func g2) c2]] (.v (.bool (c8 is bH x))):=fun x hx=>by
    have hc:=ih x (by have:=acL hx;simp only[Ex.or.sizeOf_spec]at aK;omega) (by rw[fH,vG]at acZ;exact acZ x hx) (by have:=agd hx;simp only[bE]at hb;omega);obtain⟨tx,cx,Ed⟩:=adE x;rw[Ed]at hc ⊢;generalize c8 is bH x=r at hc ⊢;refine ar.abS (al _) func105 rfl rfl (rs:=[.tmp 4]) results105 (by simp[ntmps105]) fun X=>?_;simp only[ntmps105,List.map];refine rgq fw [0,1,2] [] ?_;refine aT fw hc [4] [] ?_;exact aN fw
   have lr:=qi l;have wQ:=OS G none l 105 [.ip [.fn (.func g1) c1],.ip [.fn (.func g2) c2]] (fun x=>c8 is bH x) (by simp only[bE]at hb;omega) jL;rw[dE,pb,c8,HD];generalize l.any (fun x=>c8 is bH x)=r at wQ ⊢;refine ar.abS (al _) func51 rfl rfl (rs:=[.tmp 6]) results51 (by simp[ntmps51]) fun X=>?_;simp only[ntmps51,List.map];refine rgq fw [0,4,5] [4,5] ?_;refine acp fw 4 ?_;refine acp fw 5 ?_;refine af fun K1 ax=>?_;refine rgq fw [4,5,14] [] ?_;refine aR ?_;refine rgq fw [4,5,14,16,17] [] ?_;refine abN rfl ?_;refine rgq fw [4,5,14,20,21] [] ?_;refine abN rfl ?_;refine rgq fw [4,5,14,26,27] [] ?_;refine abN rfl ?_;refine rgq fw [4,5,14,38,39] [] ?_;refine abN rfl ?_;refine rgq fw [4,5,14,50,51] [] ?_;refine abN rfl ?_;refine rgq fw [4,5,14,59,60] [] ?_;refine abN rfl ?_;refine rgq fw [4,5,66,67] [] ?_;refine abP rfl ?_;refine rgq fw [4,5,13] [] ?_;refine aT fw wQ [6] [] ?_;exact aN fw
theorem PJ (G:aq) (g1 g2:FuncId) (c1 c2:List D) (is bH:List UInt8->Bool) (S1 S2:List UInt8->Prop) (h1:aeG S1 G g1 c1 is) (h2:aeG S2 G g2 c2 bH) (e:Ex) (ha:fH S1 S2 e) (hb:bE e<=2^28):ar prog G 51 [dE e,.fn (.func g1) c1,.fn (.func g2) c2] (.v (.bool (c8 is bH e))):=
 eval_at G g1 g2 c1 c2 is bH S1 S2 h1 h2 _ e (abL _) ha hb
theorem la:(⟨#[97]⟩:ByteArray)=bs [97]:=rfl
theorem lb:(⟨#[98]⟩:ByteArray)=bs [98]:=rfl
theorem MG (x:Nat) (h:x < 2^64):(BitVec.ofInt 64 (x:Int)).toNat=x:=by
 rw[BitVec.toNat_ofInt]
 have:(2:Nat)^64=18446744073709551616:=by decide
 omega
theorem MH (x:Nat) (h:x < 2^64):IntKind.u64.wrap (x:Int)=(x:Int):=by
 rw[IntKind.wrap_u64]
 have:(2:Nat)^64=18446744073709551616:=by decide
 omega
theorem ZO (x y:Nat) (hx:x < 2^64) (hy:y < 2^64):k9 .and .u64 (x:Int) (y:Int)=((x &&& y:Nat):Int):=by
 unfold k9;dsimp only
 have h3:(BitVec.ofInt IntKind.u64.bits (x:Int) &&& BitVec.ofInt IntKind.u64.bits (y:Int)).toNat=x &&& y:=by
  show (BitVec.ofInt 64 (x:Int) &&& BitVec.ofInt 64 (y:Int)).toNat=x &&& y;rw[BitVec.toNat_and,MG x hx,MG y hy]
 rw[h3,MH _ (Nat.lt_of_le_of_lt Nat.and_le_left hx)]
structure eM where
 name:Tx
 kind:Int
 count:Int
structure fI where
 kind:Int
 name:Tx
 cond:Option Ex
structure PgP where
 names:List eM
 ao:List fI
def bF (p:PgP) (s:Tx):Int:=idx (fun n:eM=>n.name == s) p.names
theorem KG (p:PgP) {i:Nat} (hi:i < p.names.length):0<=bF p p.names[i].name/\bF p p.names[i].name<=i:=by
 have aI:¬ bF p p.names[i].name < 0:=fun h=>by
  have:=Tb h _ (abH hi);simp at this
 obtain⟨k,hk,he,_⟩:=pY aI;refine⟨by omega,?_⟩;apply acj;intro au
 have wW:i < k:=by unfold bF at au;omega
 unfold idx at he
 cases hf:p.names.findIdx? (fun n:eM=>n.name == p.names[i].name) with
 | none=>rw[hf]at he;simp at he
 | some k'=>
  rw[hf]at he;simp only[Int.ofNat.injEq,Int.natCast_inj]at he
  have hkk:k'=k:=by simpa using he
  subst hkk;have:=(acT.1 hf).2.2 i wW;simp at this
def j7 {α:Type} (f:Nat->α->Int):List α->Nat->Option (Int×Nat)
 | [],_=>none
 | x :: l,i=>if f i x=0 then j7 f l (i+1) else some (f i x,i)
theorem wg {α:Type} {f:Nat->α->Int}:∀ {l:List α} {i:Nat} {e:Int} {k:Nat},j7 f l i=some (e,k)->i<=k/\k < i+l.length/\e≠0
 | x :: l,i,e,k,h=>by
  rw[j7]at h;split at h
  .have:=wg h;simp only[acv];omega
  .rename_i aI;simp only[AS,BY]at h;obtain⟨h1,h2⟩:=h;rw[h1]at aI;simp only[acv];exact⟨by omega,by omega,aI⟩
theorem y7 {α:Type} {f:Nat->α->Int}:∀ {l:List α} {i:Nat},j7 f l i=none->∀ k (hk:k < l.length),f (i+k) l[k]=0
 | x :: l,i,h,k,hk=>by
  rw[j7]at h;split at h
  .rename_i h0
   cases k with
   | zero=>simpa using h0
   | succ k=>
    have:=y7 h k (by simpa using hk);simpa[adn,afc 1 k]using this
  .cases h
def yT (n:eM):Bool:=decide (n.kind=3) || decide (n.kind=4)
def j5 (p:PgP) (i:Nat) (n:eM):Int:=
 if !gd n.name then 5 else if decide (n.kind < 1) || decide (n.kind > 4) then 1 else if (yT n && (decide (n.count < 1) || decide (n.count > 7))) || (!yT n && decide (n.count≠0)) then 2 else if bF p n.name < i then 9 else 0
def gK (k:Int):Int:=if k<=3 then 2 else if k=4 then 3 else 4
def iO (p:PgP) (r:fI):Int:=match r.cond with
 | none=>1
 | some e=>if decide (r.kind < 1) || decide (r.kind > 6) then 1 else if bF p r.name < 0 then 7
  else if gK r.kind≠(p.names.getD (bF p r.name).toNat ⟨[],0,0⟩).kind then 1 else if (dv true e).any fun s=>decide (bF p s < 0) then 7 else 0
def acg (p:PgP):Option (Int×Option Nat):=
 if p.names.length > 12\/p.ao.length > 40 then some (4,none) else match j7 (j5 p) p.names 0 with
  | some (e,i)=>some (e,some i)
  | none=>match j7 (fun _ r=>iO p r) p.ao 0 with
   | some (e,i)=>some (e,some (p.names.length+i))
   | none=>none
def B4 (p:PgP) (i:Nat) (n:eM):Int:=
 if !gd n.name then 5 else if !(decide (1<=n.kind) && decide (n.kind<=4)) then 1 else if (decide (n.kind >= 3) && !(decide (1<=n.count) && decide (n.count<=7))) || (decide (n.kind < 3) && decide (n.count≠0)) then 2 else if bF p n.name≠i then 9 else 0
theorem N6 (p:PgP) (i:Nat) (hi:i < p.names.length):B4 p i p.names[i]=j5 p i p.names[i]:=by
 have hle:=KG p hi;generalize hn:p.names[i]=n at hle ⊢;unfold j5 B4 yT
 cases ad8:gd n.name with
 | false=>simp
 | true=>
  by_cases hk:1<=n.kind/\n.kind<=4
  .have e1:(!(decide (1<=n.kind) && decide (n.kind<=4)))=false:=by simp[hk.1,hk.2]
   have e2:(decide (n.kind < 1) || decide (n.kind > 4))=false:=by simp;omega
   have e3:((decide (n.kind >= 3) && !(decide (1<=n.count) && decide (n.count<=7))) || (decide (n.kind < 3) && decide (n.count≠0)))=(((decide (n.kind=3) || decide (n.kind=4)) && (decide (n.count < 1) || decide (n.count > 7))) || (!(decide (n.kind=3) || decide (n.kind=4)) && decide (n.count≠0))):=by
    have:n.kind=1\/n.kind=2\/n.kind=3\/n.kind=4:=by omega
    have ec:(!(decide (1<=n.count) && decide (n.count<=7)))=(decide (n.count < 1) || decide (n.count > 7)):=by
     by_cases h1:1<=n.count<;>by_cases h2:n.count<=7<;>simp[h1,h2]<;>omega
    rw[ec]
    rcases this with h | h | h | h<;>simp[h]
   rw[e1,e2,e3];have e4:(bF p n.name≠(i:Int))=(bF p n.name < (i:Int)):=propext ⟨fun h=>by omega,fun h=>by omega⟩;simp only[e4]
  .have e1:(!(decide (1<=n.kind) && decide (n.kind<=4)))=true:=by
    rw[<- Bool.decide_and];simp;omega
   have e2:(decide (n.kind < 1) || decide (n.kind > 4))=true:=by simp;omega
   rw[e1,e2];simp
structure hC (p:PgP):Prop where
 names:p.names.length<=12
 ao:p.ao.length<=40
 name:∀ n∈p.names,gd n.name=true/\1<=n.kind/\n.kind<=4
 count:∀ n∈p.names,(n.kind < 3/\n.count=0)\/(3<=n.kind/\1<=n.count/\n.count<=7)
 num:∀ i (hi:i < p.names.length),bF p p.names[i].name=i
theorem fq {p:PgP} (h:acg p=none):hC p:=by
 unfold acg at h;split at h
 .cases h
 .rename_i hl;split at h
  .cases h
  .rename_i hN;have bC:=fun i hi=>y7 hN i hi
   have one:∀ i (hi:i < p.names.length),gd p.names[i].name=true/\1<=p.names[i].kind/\p.names[i].kind<=4/\((p.names[i].kind < 3/\p.names[i].count=0)\/(3<=p.names[i].kind/\1<=p.names[i].count/\p.names[i].count<=7))/\bF p p.names[i].name=i:=fun i hi=>by
    have hb:=bC i hi;have hle:=KG p hi;rw[acR]at hb;generalize p.names[i]=n at hb hle ⊢;unfold j5 yT at hb;split at hb
    .omega
    .rename_i h1;split at hb
     .omega
     .rename_i h2;split at hb
      .omega
      .rename_i h3;split at hb
       .omega
       .rename_i h4;simp at h1 h2 h3;refine⟨h1,by omega,by omega,?_,by omega⟩;by_cases hk:n.kind=3\/n.kind=4
        .exact .inr ⟨by omega,by have:=h3.1 hk;omega,by have:=h3.1 hk;omega⟩
        .have:=h3.2 (by omega) (by omega);exact .inl ⟨by omega,by omega⟩
   refine⟨by omega,by omega,fun n hn=>?_,fun n hn=>?_,fun i hi=>(one i hi).2.2.2.2⟩
   .obtain⟨i,hi,rfl⟩:=aco.1 hn;exact⟨(one i hi).1,(one i hi).2.1,(one i hi).2.2.1⟩
   .obtain⟨i,hi,rfl⟩:=aco.1 hn;exact (one i hi).2.2.2.1
def cNm (n:eM):List D:=[dS n.name,.v (.int .i64 n.kind),.v (.int .i64 n.count)]
def yW (n:eM):D:=.agg (cNm n)
def bO (l:List eM):D:=.sl none (l.map cNm)
def dC (c:Option Ex):D:=match c with
 | none=>.v .nilIface
 | some e=>dE e
def cf (r:fI):List D:=[.v (.int .i64 r.kind),dS r.name,dC r.cond]
def Cq (r:fI):D:=.agg (cf r)
def dP (l:List fI):D:=.sl none (l.map cf)
def cPg (p:PgP):List D:=[bO p.names,dP p.ao]
def dPg (p:PgP):D:=.agg (cPg p)
theorem Tk (G:aq) (k:Option Bool) (xs:List eM) (g:FuncId) (caps:List D) (p:eM->Bool) (hl:xs.length < 2^62) (ha:qc G g caps yW p xs) :
  ar prog G 153 [.sl k (xs.map cNm),.fn (.func g) caps] (.v (.int .i64 (idx p xs))):=by
 refine ar.abS (al _) func153 rfl rfl (rs:=[.tmp 4]) results153 (by simp[ntmps153]) fun X=>?_;simp only[ntmps153,List.map];refine ah [0,1] [] ?_;refine af fun K1 ax=>?_;refine ah [0,1,7,8] [] ?_;refine bQ (S:=Nat) (fun n=>n<=xs.length/\∀ i (hi:i < xs.length),i < n->p xs[i]=false) (fun n=>⟨aV [(0,.d (.sl k (xs.map cNm))),(1,.d (.fn (.func g) caps)),(7,int xs.length),(8,int n)],ak []⟩) (fun n=>xs.length - n) 0 ?_ (by simp) ?_
 .refine bJ
 .rintro n ⟨hn,hp⟩;refine ah [0,1,7,8,9] [] ?_;refine af fun K2 aa=>?_;refine eh (b:=n < xs.length) (by simp[D.le,D.le.go,aC]) (fun hc=>?_) (fun hc=>?_)
  .refine abO (aa _ ?_);refine af fun K3 aQ=>?_;refine aR ?_;refine ah [0,1,5,7,8] [] ?_;have pw:=ha xs[n] (by simp);simp only[yW,cNm]at pw;have qf:=(Aq @hc @cNm.eq_1);refine dr pw [0,1,5,7,8,16] [] ?_;refine aeD _ rfl (fun ey=>?_) (fun ey=>?_)
   .refine ah [4] [] ?_;refine ab1 ?_;simp[D.le,D.le.go,aC];exact (afp hc ey fun i hi=>hp i (by omega) hi).symm
   .refine abO (aQ _ ?_);refine re0 ?_;(try simp only[aJ,aL]);refine aS.mk (n+1) ⟨by omega,fun i hi aF=>?_⟩ (by omega) ?_
    .by_cases h:i=n
     .subst h;exact ey
     .exact hp i hi (by omega)
    refine bJ
  .refine bx (ax _ ?_);refine ah [4] [] ?_;refine ab1 ?_;simp[D.le,D.le.go,aC];exact (afq fun i hi=>hp i hi (by omega)).symm
theorem Tn (G:aq) (k:Option Bool) (xs:List (List UInt8)) (g:FuncId) (caps:List D) (p:(List UInt8)->Bool) (hl:xs.length < 2^62) (ha:qc G g caps dS p xs) :
  ar prog G 155 [.sl k (xs.map (fun s=>[dS s])),.fn (.func g) caps] (.v (.int .i64 (idx p xs))):=by
 refine ar.abS (al _) func155 rfl rfl (rs:=[.tmp 4]) results155 (by simp[ntmps155]) fun X=>?_;simp only[ntmps155,List.map];refine ah [0,1] [] ?_;refine af fun K1 ax=>?_;refine ah [0,1,7,8] [] ?_;refine bQ (S:=Nat) (fun n=>n<=xs.length/\∀ i (hi:i < xs.length),i < n->p xs[i]=false) (fun n=>⟨aV [(0,.d (.sl k (xs.map (fun s=>[dS s])))),(1,.d (.fn (.func g) caps)),(7,int xs.length),(8,int n)],ak []⟩) (fun n=>xs.length - n) 0 ?_ (by simp) ?_
 .refine abW @afi
 .rintro n ⟨hn,hp⟩;refine ah [0,1,7,8,9] [] ?_;refine af fun K2 aa=>?_;refine eh (b:=n < xs.length) (by simp[D.le,D.le.go,aC]) (fun hc=>?_) (fun hc=>?_)
  .refine abO (aa _ ?_);refine af fun K3 aQ=>?_;refine aR ?_;refine ah [0,1,5,7,8] [] ?_;have pw:=ha xs[n] (by simp);simp only[dS]at pw;have qf:=(Aq @hc @afi);refine dr pw [0,1,5,7,8,16] [] ?_;refine aeD _ rfl (fun ey=>?_) (fun ey=>?_)
   .refine ah [4] [] ?_;refine ab1 ?_;simp[D.le,D.le.go,aC];exact (afp hc ey fun i hi=>hp i (by omega) hi).symm
   .refine abO (aQ _ ?_);refine re0 ?_;(try simp only[aJ,aL]);refine aS.mk (n+1) ⟨by omega,fun i hi aF=>?_⟩ (by omega) ?_
    .by_cases h:i=n
     .subst h;exact ey
     .exact hp i hi (by omega)
    refine abW @afi
  .refine bx (ax _ ?_);refine ah [4] [] ?_;refine ab1 ?_;simp[D.le,D.le.go,aC];exact (afq fun i hi=>hp i hi (by omega)).symm
theorem OT (G:aq) (k:Option Bool) (xs:List (List UInt8)) (g:FuncId) (caps:List D) (p:List UInt8->Bool) (hl:xs.length < 2^62) (ha:qc G g caps dS p xs) :
  ar prog G 108 [.sl k (xs.map fun s=>[dS s]),.fn (.func g) caps] (.v (.bool (xs.any p))):=by
 refine ar.abS (al _) func108 rfl rfl (rs:=[.tmp 4]) results108 (by simp[ntmps108]) fun X=>?_;simp only[ntmps108,List.map];refine ah [0,1] [] ?_;refine aT trivial (Tn G k xs g caps p hl ha) [4] [] ?_;refine ab1 ?_;simp[D.le,D.le.go,aC];exact agI p xs
theorem Ud (G:aq) (n:eM) (s:List UInt8):ar prog G 154 [yW n,.ip [dS s]] (.v (.bool (n.name == s))):=by
 simp only[yW,cNm,dS];refine ar.abS (al _) func154 rfl rfl (rs:=[.tmp 3]) results154 (by simp[ntmps154]) fun X=>?_;simp only[ntmps154,List.map];refine ah [1,2] [2] ?_;refine rg [3] [2] (fun _ _=>trivial) fun K' ae=>?_;(repeat (refine sxn fun K2 aa=>?_;simp[aO,aY];(repeat (refine⟨by omega,?_⟩));refine aa _ ?_;clear aa K2));refine sxz (ae _ (AW.st (by simp[aO,aY];rfl) ?_));clear ae K';exact cZ
theorem sY (G:aq) (p:PgP) (hp:p.names.length < 2^62) (s:List UInt8):ar prog G 107 [dPg p,dS s] (.v (.int .i64 (bF p s))):=by
 have hi:=Tk G none p.names 154 [.ip [dS s]] (fun n=>n.name == s) hp fun n _=>Ud G n s;unfold bF;simp only[dPg,cPg,bO,dS]at hi ⊢;generalize dP p.ao=R at *;generalize idx (fun n:eM=>n.name == s) p.names=z at hi ⊢;refine ar.abS (al _) func107 rfl rfl (rs:=[.tmp 4]) results107 (by simp[ntmps107]) fun X=>?_;simp only[ntmps107,List.map];refine rgq @dP.eq_1 [2,3] [2,3] ?_;refine dX 3 ?_;refine aT trivial hi [4] [2] ?_;exact cZ
theorem Kb (G:aq) (p:PgP) (hp:p.names.length < 2^62) (s:List UInt8):ar prog G 181 [dS s,.ip (cPg p)] (.v (.bool (decide (bF p s < 0)))):=by
 have hi:=sY G p hp s;simp only[dPg,cPg,bO,dP,dS]at hi ⊢;refine ar.abS (al _) func181 rfl rfl (rs:=[.tmp 3]) results181 (by simp[ntmps181]) fun X=>?_;simp only[ntmps181,List.map];refine ah [0,1] [] ?_;refine aT trivial hi [3] [] ?_;exact cZ
structure Nj (T:Prop):Prop where
 out:T
theorem Ap {T U:Prop} (h:Nj T->U) (t:T):U:=h ⟨t⟩
theorem KH {p:PgP} {s:List UInt8} (h:¬ bF p s < 0):∃ k:Nat,∃ hk:k < p.names.length,bF p s=k:=by
 obtain⟨k,hk,he,_⟩:=pY h;exact⟨k,hk,he⟩
theorem Uc (G:aq) (p:PgP) (hp:p.names.length < 2^62) (r:fI) (hb:∀ e,r.cond=some e->bE e<=2^28/\(dv true e).length < 2^62):ar prog G 126 [dPg p,Cq r] (.v (.int .i64 (iO p r))):=by
 obtain⟨kind,name,cond⟩:=r;dsimp only at hb;have ab3:=sY G p hp name;have aP:=fun s=>Kb G p hp s;simp only[dPg,cPg,bO,dP,Cq,cf,dS]at ab3 aP ⊢
 cases cond with
 | none=>
  have adq:iO p ⟨kind,name,none⟩=1:=rfl;generalize iO p ⟨kind,name,none⟩=res at adq;refine ar.abS (al _) func126 rfl rfl (rs:=[.tmp 4]) results126 (by simp[ntmps126]) fun X=>?_;simp only[ntmps126,List.map];have fw:=(Aq @dC.eq_1 @dC.eq_2);refine rgq fw [2,3] [2,3] ?_;refine af fun K1 ax=>?_;by_cases h1:kind < 1
  .have qf:=(Aq fw @h1);refine abQ [2,3,19] [2,3] ?_;refine abP rfl ?_;refine rgq fw [4] [] ?_;exact aN (Aq fw @adq)
  .by_cases h2:kind > 6
   .have qf:=(Aq fw (Aq @h1 @h2));refine abQ [2,3,19] [2,3] ?_;refine abP rfl ?_;refine rgq fw [4] [] ?_;exact aN (Aq fw @adq)
   .have qf:=(Aq fw (Aq @h1 @h2));refine abQ [2,3,19] [2,3] ?_;refine abP rfl ?_;refine rgq fw [4] [] ?_;exact aN (Aq fw @adq)
 | some e=>
  have adq:iO p ⟨kind,name,some e⟩=if decide (kind < 1) || decide (kind > 6) then 1 else if bF p name < 0 then 7
   else if gK kind≠(p.names.getD (bF p name).toNat ⟨[],0,0⟩).kind then 1 else if (dv true e).any fun s=>decide (bF p s < 0) then 7 else 0:=rfl
  generalize iO p ⟨kind,name,some e⟩=res at adq;obtain⟨hbe,hnl⟩:=hb e rfl;have fZ:=U9 G e hbe;have qF:=OT G none (dv true e) 181 [.ip (cPg p)] (fun s=>decide (bF p s < 0)) hnl fun s _=>Kb G p hp s;have pD:dC (some e)=dE e:=rfl;rw[pD];obtain⟨tx,cx,hx⟩:=adE e;rw[hx]at fZ ⊢;simp only[cPg,bO,dP,dS]at fZ qF;generalize ((dv true e).any fun s=>decide (bF p s < 0))=an at adq qF;generalize dv true e=nm at fZ qF;refine ar.abS (al _) func126 rfl rfl (rs:=[.tmp 4]) results126 (by simp[ntmps126]) fun X=>?_;simp only[ntmps126,List.map];have fw:=(Aq @dC.eq_1 @dC.eq_2);refine rgq fw [2,3] [2,3] ?_;refine acp fw 2 ?_;refine acp fw 3 ?_;refine af fun K1 ax=>?_;by_cases h1:kind < 1
  .rw[if_pos (by simp[h1])]at adq;have qf:=(Aq fw @h1);refine abQ [2,3,19] [] ?_;refine abP rfl ?_;refine rgq fw [4] [] ?_;exact aN (Aq fw @adq)
  by_cases h2:kind > 6
  .rw[if_pos (by simp[h2])]at adq;have qf:=(Aq fw (Aq @h1 @h2));refine abQ [2,3,19] [] ?_;refine abP rfl ?_;refine rgq fw [4] [] ?_;exact aN (Aq fw @adq)
  rw[if_neg (by simp[h1,h2])]at adq;have qf:=(Aq fw (Aq @h1 @h2));refine abQ [2,3,19] [] ?_;refine abN rfl ?_;refine abO (ax _ ?_);refine aT fw ab3 [2,3,5] [] ?_;refine af fun K2 aa=>?_;refine rgq fw [2,3,5,25] [] ?_;by_cases h3:bF p name < 0
  .rw[if_pos h3]at adq;refine abP (by simp[h3]) ?_;refine rgq fw [4] [] ?_;exact aN (Aq fw @adq)
  rw[if_neg h3]at adq;obtain⟨k,hk,hke⟩:=KH h3
  have jq:p.names.getD (bF p name).toNat ⟨[],0,0⟩=p.names[k]:=by
   rw[hke,abX,abJ,By hk];rfl
  rw[jq]at adq;refine abN (by simp[h3]) ?_;refine abO (aa _ ?_);refine af fun K3 aQ=>?_;have ac6:cNm p.names[k]=[dS p.names[k].name,.v (.int .i64 p.names[k].kind),.v (.int .i64 p.names[k].count)]:=rfl;generalize hkk:p.names[k].kind=kk at adq ac6
  refine' Ap (fun b9=>?_) ?_
  rotate_left
  .have hk0:=h1;by_cases bq:kind=1
   .have qf:=(Aq fw @bq);refine abQ [2,3,5,6] [] ?_;refine AW.st (show _=(⟨aV [(2,.d (.ip [.sl none (p.names.map cNm),.sl none (p.ao.map cf)])),(3,.d (.ip [.v (.int .i64 kind),.v (.string (bs name)),.bt tx cx])),(5,int (bF p name)),(6,int (gK kind))],ak []⟩:St) by rw[bq]<;>rfl) ?_;exact b9.out
   by_cases bq:kind=2
   .have qf:=(Aq fw @bq);refine abQ [2,3,5,6] [] ?_;refine AW.st (show _=(⟨aV [(2,.d (.ip [.sl none (p.names.map cNm),.sl none (p.ao.map cf)])),(3,.d (.ip [.v (.int .i64 kind),.v (.string (bs name)),.bt tx cx])),(5,int (bF p name)),(6,int (gK kind))],ak []⟩:St) by rw[bq]<;>rfl) ?_;exact b9.out
   by_cases bq:kind=3
   .have qf:=(Aq fw @bq);refine abQ [2,3,5,6] [] ?_;refine AW.st (show _=(⟨aV [(2,.d (.ip [.sl none (p.names.map cNm),.sl none (p.ao.map cf)])),(3,.d (.ip [.v (.int .i64 kind),.v (.string (bs name)),.bt tx cx])),(5,int (bF p name)),(6,int (gK kind))],ak []⟩:St) by rw[bq]<;>rfl) ?_;exact b9.out
   by_cases bq:kind=4
   .have qf:=(Aq fw @bq);refine abQ [2,3,5,6] [] ?_;refine AW.st (show _=(⟨aV [(2,.d (.ip [.sl none (p.names.map cNm),.sl none (p.ao.map cf)])),(3,.d (.ip [.v (.int .i64 kind),.v (.string (bs name)),.bt tx cx])),(5,int (bF p name)),(6,int (gK kind))],ak []⟩:St) by rw[bq]<;>rfl) ?_;exact b9.out
   by_cases bq:kind=5
   .have qf:=(Aq fw @bq);refine abQ [2,3,5,6] [] ?_;refine AW.st (show _=(⟨aV [(2,.d (.ip [.sl none (p.names.map cNm),.sl none (p.ao.map cf)])),(3,.d (.ip [.v (.int .i64 kind),.v (.string (bs name)),.bt tx cx])),(5,int (bF p name)),(6,int (gK kind))],ak []⟩:St) by rw[bq]<;>rfl) ?_;exact b9.out
   have bq:kind=6:=by omega
   have qf:=(Aq fw @bq);refine abQ [2,3,5,6] [] ?_;refine AW.st (show _=(⟨aV [(2,.d (.ip [.sl none (p.names.map cNm),.sl none (p.ao.map cf)])),(3,.d (.ip [.v (.int .i64 kind),.v (.string (bs name)),.bt tx cx])),(5,int (bF p name)),(6,int (gK kind))],ak []⟩:St) by rw[bq]<;>rfl) ?_;exact b9.out
  .rw[hke];have qf:=(Aq fw (Aq @hk @ac6));refine abQ [2,3,37] [] ?_;by_cases h4:kk=gK kind
   .rw[if_neg (by simp[h4])]at adq;refine abN (by simp[h4]) ?_;refine abO (aQ _ ?_);refine af fun K4 bK=>?_;refine rg [42] [] (fun _ _=>trivial) fun K' ae=>?_;(repeat (refine sxn fun K2 aa=>?_;simp[dC];(repeat (refine⟨by omega,?_⟩));refine aa _ ?_;clear aa K2));refine sxn fun K2 aa=>?_;simp[dC];refine ab8.data (fZ) (by simp;rfl) (by first | exact D.abY _ | simp[aC,abU,abK,D.le,D.le.go,D.le_refl,D.abY,dC]) ?_;refine aa _ ?_;clear aa K2;simp only[aD,cz];(repeat (refine sxn fun K2 aa=>?_;simp[dC];(repeat (refine⟨by omega,?_⟩));refine aa _ ?_;clear aa K2));refine sxn fun K2 aa=>?_;simp[dC];refine ab8.data (qF) (by simp;rfl) (by first | exact D.abY _ | simp[aC,abU,abK,D.le,D.le.go,D.le_refl,D.abY,dC]) ?_;refine aa _ ?_;clear aa K2;simp only[aD,cz];(repeat (refine sxn fun K2 aa=>?_;simp[dC];(repeat (refine⟨by omega,?_⟩));refine aa _ ?_;clear aa K2));refine sxz (ae _ (AW.st (by simp[dC];rfl) ?_));clear ae K'
    cases an with
    | true=>
     rw[if_pos rfl]at adq;refine abP rfl ?_;refine rgq fw [4] [] ?_;exact aN (Aq fw @adq)
    | false=>
     rw[if_neg (by decide)]at adq;refine abN rfl ?_;refine abO (bK _ ?_);refine rgq fw [4] [] ?_;exact aN (Aq fw @adq)
   .rw[if_pos (fun h=>h4 h.symm)]at adq;refine abP (by simp[h4]) ?_;refine rgq fw [4] [] ?_;exact aN (Aq fw @adq)
theorem we {α:Type} {f:Nat->α->Int}:∀ {l:List α} {i n:Nat} (hn:n < l.length),(∀ k (hk:k < l.length),k < n->f (i+k) l[k]=0)->f (i+n) l[n]≠0->j7 f l i=some (f (i+n) l[n],i+n)
 | x :: l,i,0,_,_,aI=>by rw[j7,if_neg (show ¬ f i x=0 from aI)];rfl
 | x :: l,i,n+1,hn,hb,aI=>by
  have h0:f i x=0:=hb 0 (by simp) (by omega)
  have e:∀ k,i+1+k=i+(k+1):=fun k=>by omega
  rw[j7,if_pos h0,we (l:=l) (i:=i+1) (n:=n) (by simpa using hn) (fun k hk kJ=>by rw[e];exact hb (k+1) (by simpa using hk) (by omega)) (by rw[e];exact aI),e];rfl
theorem wh {α:Type} {f:Nat->α->Int}:∀ {l:List α} {i:Nat},(∀ k (hk:k < l.length),f (i+k) l[k]=0)->j7 f l i=none
 | [],_,_=>rfl
 | x :: l,i,hb=>by
  have e:∀ k,i+1+k=i+(k+1):=fun k=>by omega
  rw[j7,if_pos (show f i x=0 from hb 0 (by simp)),wh fun k hk=>by rw[e];exact hb (k+1) (by simpa using hk)]
structure yB (p:PgP):Prop where
 nl:p.names.length < 2^62
 rl:p.ao.length < 2^62
 nn:∀ n∈p.names,n.name.length < 2^60
 cb:∀ r∈p.ao,∀ e,r.cond=some e->bE e<=2^28/\(dv true e).length < 2^62
theorem JZ (G:aq) (p:PgP) (hp:yB p):ar prog G 63 [dPg p] (bd (acg p)):=by
 obtain⟨hnl,hrl,ov,uo⟩:=hp
 have nJ:acg p=if p.names.length > 12\/p.ao.length > 40 then some (4,none) else match j7 (j5 p) p.names 0 with
  | some (e,i)=>some (e,some i)
  | none=>match j7 (fun _ r=>iO p r) p.ao 0 with
   | some (e,i)=>some (e,some (p.names.length+i))
   | none=>none:=rfl
 generalize adf:acg p=res;rw[nJ]at adf;have ab3:=fun s=>sY G p hnl s;have gX:=fun r h=>Uc G p hnl r h;simp only[dPg,cPg,bO,dP,dS]at ab3 gX ⊢;refine ar.abS (al _) func63 rfl rfl (rs:=[.tmp 2]) results63 (by simp[ntmps63]) fun X=>?_;simp only[ntmps63,List.map];refine ah [1] [1] ?_;refine dX 1 ?_;refine af fun K1 ax=>?_;by_cases g0:(p.names.length:Int) > 12
 .rw[if_pos (.inl (by omega))]at adf;have qf:=@g0;refine abQ [1,19] [] ?_;refine abP rfl ?_;refine ah [2] [] ?_;refine ab1 ?_;simp[D.le,D.le.go,aC];simp[<- adf,bd,D.le]
 by_cases g1:(p.ao.length:Int) > 40
 .rw[if_pos (.inr (by omega))]at adf;have qf:=(Aq @g0 @g1);refine abQ [1,19] [] ?_;refine abP rfl ?_;refine ah [2] [] ?_;refine ab1 ?_;simp[D.le,D.le.go,aC];simp[<- adf,bd,D.le]
 rw[if_neg (by omega)]at adf;have qf:=(Aq @g0 @g1);refine abQ [1,19] [] ?_;refine abN rfl ?_;refine abO (ax _ ?_);refine af fun K2 aa=>?_;refine ah [1,22,23,24] [] ?_;refine bQ (S:=Nat) (fun n=>n<=p.names.length/\∀ k (hk:k < p.names.length),k < n->j5 p k p.names[k]=0) (fun n=>⟨aV [(1,.d (.ip [.sl none (p.names.map cNm),.sl none (p.ao.map cf)])),(22,.d (.sl none (p.names.map cNm))),(23,int p.names.length),(24,int n)],ak []⟩) (fun n=>p.names.length - n) 0 ?_ (by simp) ?_
 .refine bJ
 .rintro n ⟨hn,hb⟩;refine ah [1,22,23,24,25] [] ?_;refine af fun K3 aQ=>?_;refine eh (b:=n < p.names.length) (by simp[D.le,D.le.go,aC]) (fun hc=>?_) (fun hc=>?_)
  .have au:=hc
   have ek:j5 p n p.names[n]≠0->res=some (j5 p n p.names[n],some n):=fun aI=>by
    rw[<- adf,we (i:=0) au (fun k hk kJ=>by rw[acR];exact hb k hk kJ) (by rw[acR];exact aI)];simp
   have fj:=ov _ (abH au);have ac6:cNm p.names[n]=[dS p.names[n].name,.v (.int .i64 p.names[n].kind),.v (.int .i64 p.names[n].count)]:=rfl
   have bz:j5 p n p.names[n]=if !gd p.names[n].name then 5 else if decide (p.names[n].kind < 1) || decide (p.names[n].kind > 4) then 1 else if ((decide (p.names[n].kind=3) || decide (p.names[n].kind=4)) && (decide (p.names[n].count < 1) || decide (p.names[n].count > 7))) || (!(decide (p.names[n].kind=3) || decide (p.names[n].kind=4)) && decide (p.names[n].count≠0)) then 2 else if bF p p.names[n].name < n then 9 else 0:=rfl
   generalize hv:j5 p n p.names[n]=v at bz ek;generalize p.names[n].name=nm at fj ac6 bz;generalize p.names[n].kind=kd at ac6 bz;generalize p.names[n].count=ct at ac6 bz;have ad8:=Ku G nm fj;have jx:=ab3 nm;simp only[dS]at ac6 ad8;generalize gd nm=nf at ad8 bz;refine abO (aQ _ ?_);refine af fun K4 bK=>?_;refine aR ?_;have qf:=(Aq @au @ac6);refine abQ [1,3,4,22,23,24] [4] ?_;refine dX 4 ?_
   refine' Ap (fun cU=>?_) ?_
   rotate_left
   .by_cases k3:kd=3
    .have qf:=@k3;refine abQ [1,3,4,5,22,23,24] [] ?_;refine AW.st (show _=(⟨aV [(1,.d (.ip [.sl none (p.names.map cNm),.sl none (p.ao.map cf)])),(3,int n),(4,.d (.ip [.v (.string (bs nm)),.v (.int .i64 kd),.v (.int .i64 ct)])),(5,.d (.v (.bool (decide (kd=3) || decide (kd=4))))),(22,.d (.sl none (p.names.map cNm))),(23,int p.names.length),(24,int n)],ak []⟩:St) by rw[k3]<;>rfl) ?_;exact cU.out
    .by_cases k4:kd=4
     .have qf:=(Aq @k3 @k4);refine abQ [1,3,4,5,22,23,24] [] ?_;refine AW.st (show _=(⟨aV [(1,.d (.ip [.sl none (p.names.map cNm),.sl none (p.ao.map cf)])),(3,int n),(4,.d (.ip [.v (.string (bs nm)),.v (.int .i64 kd),.v (.int .i64 ct)])),(5,.d (.v (.bool (decide (kd=3) || decide (kd=4))))),(22,.d (.sl none (p.names.map cNm))),(23,int p.names.length),(24,int n)],ak []⟩:St) by rw[k4]<;>rfl) ?_;exact cU.out
     .have e:(decide (kd=3) || decide (kd=4))=false:=by simp[k3,k4]
      have qf:=(Aq @k3 @k4);refine abQ [1,3,4,5,22,23,24] [] ?_;refine AW.st (show _=(⟨aV [(1,.d (.ip [.sl none (p.names.map cNm),.sl none (p.ao.map cf)])),(3,int n),(4,.d (.ip [.v (.string (bs nm)),.v (.int .i64 kd),.v (.int .i64 ct)])),(5,.d (.v (.bool (decide (kd=3) || decide (kd=4))))),(22,.d (.sl none (p.names.map cNm))),(23,int p.names.length),(24,int n)],ak []⟩:St) by rw[e]<;>rfl) ?_;exact cU.out
   .generalize (decide (kd=3) || decide (kd=4))=cB at bz;refine ah [1,3,4,5,6,22,23,24] [] ?_;refine af fun K5 bB=>?_
    refine' Ap (fun b9=>?_) ?_
    rotate_left
    .refine aR ?_;refine aT trivial ad8 [1,3,4,5,6,22,23,24,37] [] ?_;by_cases uC:nf=true
     rotate_left
     .have I7:nf=false:=by simpa using uC
      rw[if_pos (by simp[I7])]at bz;rw[I7];refine abP rfl ?_;refine reK trivial bB [1,3,6,22,23,24] [] ?_;refine AW.st (show _=(⟨aV [(1,.d (.ip [.sl none (p.names.map cNm),.sl none (p.ao.map cf)])),(3,int n),(6,int v),(22,.d (.sl none (p.names.map cNm))),(23,int p.names.length),(24,int n)],ak []⟩:St) by rw[bz]<;>rfl) ?_;exact b9.out
     .rw[if_neg (by simp[uC])]at bz;rw[uC];refine abN rfl ?_;by_cases k1:kd < 1
      .rw[if_pos (by simp[k1])]at bz;have qf:=@k1;refine abQ [1,3,4,5,6,22,23,24,42] [] ?_;refine abP rfl ?_;refine reK trivial bB [1,3,6,22,23,24] [] ?_;refine AW.st (show _=(⟨aV [(1,.d (.ip [.sl none (p.names.map cNm),.sl none (p.ao.map cf)])),(3,int n),(6,int v),(22,.d (.sl none (p.names.map cNm))),(23,int p.names.length),(24,int n)],ak []⟩:St) by rw[bz]<;>rfl) ?_;exact b9.out
      by_cases k2:kd > 4
      .rw[if_pos (by simp[k2])]at bz;have qf:=(Aq @k1 @k2);refine abQ [1,3,4,5,6,22,23,24,42] [] ?_;refine abP rfl ?_;refine reK trivial bB [1,3,6,22,23,24] [] ?_;refine AW.st (show _=(⟨aV [(1,.d (.ip [.sl none (p.names.map cNm),.sl none (p.ao.map cf)])),(3,int n),(6,int v),(22,.d (.sl none (p.names.map cNm))),(23,int p.names.length),(24,int n)],ak []⟩:St) by rw[bz]<;>rfl) ?_;exact b9.out
      rw[if_neg (by simp[k1,k2])]at bz;have qf:=(Aq @k1 @k2);refine abQ [1,3,4,5,6,22,23,24,42] [] ?_;refine abN rfl ?_;by_cases IC:cB=true
      .rw[IC]at bz ⊢;by_cases c1:ct < 1
       .rw[if_pos (by simp[c1])]at bz;have qf:=@c1;refine abQ [1,3,4,6,22,23,24,51] [] ?_;refine abP rfl ?_;refine reK trivial bB [1,3,6,22,23,24] [] ?_;refine AW.st (show _=(⟨aV [(1,.d (.ip [.sl none (p.names.map cNm),.sl none (p.ao.map cf)])),(3,int n),(6,int v),(22,.d (.sl none (p.names.map cNm))),(23,int p.names.length),(24,int n)],ak []⟩:St) by rw[bz]<;>rfl) ?_;exact b9.out
       by_cases c2:ct > 7
       .rw[if_pos (by simp[c2])]at bz;have qf:=(Aq @c1 @c2);refine abQ [1,3,4,6,22,23,24,51] [] ?_;refine abP rfl ?_;refine reK trivial bB [1,3,6,22,23,24] [] ?_;refine AW.st (show _=(⟨aV [(1,.d (.ip [.sl none (p.names.map cNm),.sl none (p.ao.map cf)])),(3,int n),(6,int v),(22,.d (.sl none (p.names.map cNm))),(23,int p.names.length),(24,int n)],ak []⟩:St) by rw[bz]<;>rfl) ?_;exact b9.out
       rw[if_neg (by simp[c1,c2])]at bz;have qf:=(Aq @c1 @c2);refine abQ [1,3,4,6,22,23,24,51] [] ?_;refine abN rfl ?_;refine aT trivial jx [1,3,6,22,23,24,72] [] ?_;by_cases c9:bF p nm < n
       .rw[if_pos c9]at bz;refine abP (by simp[c9]) ?_;refine reK trivial bB [1,3,6,22,23,24] [] ?_;refine AW.st (show _=(⟨aV [(1,.d (.ip [.sl none (p.names.map cNm),.sl none (p.ao.map cf)])),(3,int n),(6,int v),(22,.d (.sl none (p.names.map cNm))),(23,int p.names.length),(24,int n)],ak []⟩:St) by rw[bz]<;>rfl) ?_;exact b9.out
       .rw[if_neg c9]at bz;refine abN (by simp[c9]) ?_;refine abO ?_;refine bB _ (AW.norm [1,3,6,22,23,24] [] (fun _ _=>trivial) (AW.st (by simp;rfl) ?_));refine AW.st (show _=(⟨aV [(1,.d (.ip [.sl none (p.names.map cNm),.sl none (p.ao.map cf)])),(3,int n),(6,int v),(22,.d (.sl none (p.names.map cNm))),(23,int p.names.length),(24,int n)],ak []⟩:St) by rw[bz]<;>rfl) ?_;exact b9.out
      .have Rh:cB=false:=by simpa using IC
       rw[Rh]at bz ⊢;by_cases c0:ct=0
       .rw[if_neg (by simp[c0])]at bz;have qf:=@c0;refine abQ [1,3,4,6,22,23,24,51] [] ?_;refine abN rfl ?_;refine aT trivial jx [1,3,6,22,23,24,72] [] ?_;by_cases c9:bF p nm < n
        .rw[if_pos c9]at bz;refine abP (by simp[c9]) ?_;refine reK trivial bB [1,3,6,22,23,24] [] ?_;refine AW.st (show _=(⟨aV [(1,.d (.ip [.sl none (p.names.map cNm),.sl none (p.ao.map cf)])),(3,int n),(6,int v),(22,.d (.sl none (p.names.map cNm))),(23,int p.names.length),(24,int n)],ak []⟩:St) by rw[bz]<;>rfl) ?_;exact b9.out
        .rw[if_neg c9]at bz;refine abN (by simp[c9]) ?_;refine abO ?_;refine bB _ (AW.norm [1,3,6,22,23,24] [] (fun _ _=>trivial) (AW.st (by simp;rfl) ?_));refine AW.st (show _=(⟨aV [(1,.d (.ip [.sl none (p.names.map cNm),.sl none (p.ao.map cf)])),(3,int n),(6,int v),(22,.d (.sl none (p.names.map cNm))),(23,int p.names.length),(24,int n)],ak []⟩:St) by rw[bz]<;>rfl) ?_;exact b9.out
       .rw[if_pos (by simp[c0])]at bz;have qf:=@c0;refine abQ [1,3,4,6,22,23,24,51] [] ?_;refine abP rfl ?_;refine reK trivial bB [1,3,6,22,23,24] [] ?_;refine AW.st (show _=(⟨aV [(1,.d (.ip [.sl none (p.names.map cNm),.sl none (p.ao.map cf)])),(3,int n),(6,int v),(22,.d (.sl none (p.names.map cNm))),(23,int p.names.length),(24,int n)],ak []⟩:St) by rw[bz]<;>rfl) ?_;exact b9.out
    .by_cases ga:v=0
     .have qf:=@ga;refine abQ [1,3,6,22,23,24,80] [] ?_;refine abN rfl ?_;refine abO ?_;refine bK _ ?_;refine re0 ?_;(try simp only[aJ,aL]);refine aS.mk (n+1) ⟨by omega,fun k hk kJ=>?_⟩ (by omega) ?_
      .by_cases h:k=n
       .subst h;rw[hv,ga]
       .exact hb k hk (by omega)
      refine bJ
     .have qf:=@ga;refine abQ [1,3,6,22,23,24,80] [] ?_;refine abP rfl ?_;refine ah [2] [84] ?_;refine ab1 ?_;simp[D.le,D.le.go,aC];simp[ek ga,bd,D.le,D.le.go]
  .rw[wh fun k hk=>by rw[acR];exact hb k hk (by omega)]at adf;dsimp only at adf;refine bx (aa _ ?_);refine af fun K6 cq=>?_;refine ah [1,88,89,90] [] ?_;refine bQ (S:=Nat) (fun n=>n<=p.ao.length/\∀ k (hk:k < p.ao.length),k < n->iO p p.ao[k]=0) (fun n=>⟨aV [(1,.d (.ip [.sl none (p.names.map cNm),.sl none (p.ao.map cf)])),(88,.d (.sl none (p.ao.map cf))),(89,int p.ao.length),(90,int n)],ak []⟩) (fun n=>p.ao.length - n) 0 ?_ (by simp) ?_
   .refine bJ
   .rintro n ⟨hn,hb⟩;refine ah [1,88,89,90,91] [] ?_;refine af fun K7 de=>?_;refine eh (b:=n < p.ao.length) (by simp[D.le,D.le.go,aC]) (fun hc=>?_) (fun hc=>?_)
    .have au:=hc
     have ek:iO p p.ao[n]≠0->res=some (iO p p.ao[n],some (p.names.length+n)):=fun aI=>by
      rw[<- adf,we (i:=0) au (fun k hk kJ=>hb k hk kJ) aI];simp
     have ac6:cf p.ao[n]=[.v (.int .i64 p.ao[n].kind),dS p.ao[n].name,dC p.ao[n].cond]:=rfl;have aP:=gX p.ao[n] (uo _ (abH au));simp only[Cq,ac6]at aP;generalize hv:iO p p.ao[n]=v at aP ek
     obtain⟨tc,pD,SR⟩:∃ tc,dC p.ao[n].cond=tc/\((∃ a b,tc = .bt a b)\/tc = .v .nilIface):=by
      cases p.ao[n].cond with
      | none=>exact⟨_,rfl,.inr rfl⟩
      | some e=>obtain⟨a,b,h⟩:=adE e;exact⟨_,rfl,.inl ⟨a,b,h⟩⟩
     rw[pD]at ac6 aP;generalize p.ao[n].kind=kd at ac6 aP;generalize p.ao[n].name=nm at ac6 aP;simp only[dS]at ac6 aP
     have qS:(p.names.length:Int)+(n:Int)<=2^62:=by omega
     refine abO (de _ ?_);refine af fun K8 dz=>?_;refine aR ?_
     rcases SR with⟨ta,tb2,rfl⟩ | rfl
     all_goals
      .have qf:=(Aq @au @ac6);refine abQ [1,7,8,88,89,90] [8] ?_;refine dX 8 ?_;refine aT trivial aP [1,7,9,88,89,90] [] ?_;by_cases ga:v=0
       .have qf:=@ga;refine abQ [1,7,9,88,89,90,99] [] ?_;refine abN rfl ?_;refine abO (dz _ ?_);refine re0 ?_;(try simp only[aJ,aL]);refine aS.mk (n+1) ⟨by omega,fun k hk kJ=>?_⟩ (by omega) ?_
        .by_cases h:k=n
         .subst h;rw[hv,ga]
         .exact hb k hk (by omega)
        refine bJ
       .have qf:=@ga;refine abQ [1,7,9,88,89,90,99] [] ?_;refine abP rfl ?_;refine ah [2] [107] ?_;refine ab1 ?_;simp[D.le,D.le.go,aC];simp[ek ga,bd,D.le,D.le.go]
    .rw[wh fun k hk=>hb k hk (by omega)]at adf;refine bx (cq _ ?_);refine ah [2] [] ?_;refine ab1 ?_;simp[D.le,D.le.go,aC];simp[<- adf,bd]
def cL (r:fI):List D:=[.v (.int .i64 r.kind),dS r.name,iP r.cond]
def eu (p:PgP):List D:=[bO p.names,.sl none (p.ao.map cL)]
def cX (p:PgP):D:=.agg (eu p)
theorem MP (G:aq) (p:PgP) (hl:p.names.length < 2^62) (s:List UInt8):ar prog G 74 [cX p,dS s] (.v (.int .i64 (bF p s))):=by
 unfold bF;simp only[cX,eu,bO,dS];generalize p.ao.map cL=R;refine ar.abS (al _) func74 rfl rfl (rs:=[.tmp 4]) results74 (by simp[ntmps74]) fun X=>?_;simp only[ntmps74,List.map];refine ah [1,2] [2] ?_;refine dX 2 ?_;refine af fun K1 ax=>?_;refine ah [1,8,9,10] [] ?_;refine bQ (S:=Nat) (fun n=>n<=p.names.length/\∀ i (hi:i < p.names.length),i < n->(p.names[i].name == s)=false) (fun n=>⟨aV [(1,.d (.v (.string (bs s)))),(8,.d (.sl none (p.names.map cNm))),(9,int p.names.length),(10,int n)],ak []⟩) (fun n=>p.names.length - n) 0 ?_ (by simp) ?_
 .refine bJ
 .rintro n ⟨hn,hp⟩;refine ah [1,8,9,10,11] [] ?_;refine af fun K2 aa=>?_;refine eh (b:=n < p.names.length) (by simp[D.le,D.le.go,aC]) (fun hc=>?_) (fun hc=>?_)
  .have au:=hc;have cm:cNm p.names[n]=[.v (.string (bs p.names[n].name)),.v (.int .i64 p.names[n].kind),.v (.int .i64 p.names[n].count)]:=rfl;refine abO (aa _ ?_);refine af fun K3 aQ=>?_;refine aR ?_;have qf:=(Aq @au @cm);refine abQ [1,5,6,8,9,10] [6] ?_;refine dX 6 ?_;by_cases heq:p.names[n].name=s
   .refine rg [1,5,8,9,10,18] [] (fun _ _=>trivial) fun K' ae=>?_;(repeat (refine sxn fun K2 aa=>?_;simp[aO,aY,heq];(repeat (refine⟨by omega,?_⟩));refine aa _ ?_;clear aa K2));refine sxz (ae _ (AW.st (by simp[aO,aY,heq];rfl) ?_));clear ae K';refine abP rfl ?_;refine ah [4] [] ?_;refine ab1 ?_;simp[D.le,D.le.go,aC];exact (afp (p:=fun m:eM=>m.name == s) au (by simp[heq]) fun i hi=>hp i (by omega) hi).symm
   .refine rg [1,5,8,9,10,18] [] (fun _ _=>trivial) fun K' ae=>?_;(repeat (refine sxn fun K2 aa=>?_;simp[aO,aY,heq];(repeat (refine⟨by omega,?_⟩));refine aa _ ?_;clear aa K2));refine sxz (ae _ (AW.st (by simp[aO,aY,heq];rfl) ?_));clear ae K';refine abN (by simp[heq]) ?_;refine abO (aQ _ ?_);refine re0 ?_;(try simp only[aJ,aL]);refine aS.mk (n+1) ⟨by omega,fun i hi aF=>?_⟩ (by omega) ?_
    .by_cases h:i=n
     .subst h;simpa using heq
     .exact hp i hi (by omega)
    refine bJ
  .refine bx (ax _ ?_);refine ah [4] [] ?_;refine ab1 ?_;simp[D.le,D.le.go,aC];exact (afq (p:=fun m:eM=>m.name == s) fun i hi=>hp i hi (by omega)).symm
def gD (l:List eM) (k:Int):Nat->List Int
 | 0=>[]
 | i+1=>gD l k i ++ if (l.getD i ⟨[],0,0⟩).kind=k then [(i:Int)] else []
theorem sX (l:List eM) (k:Int):∀ n,(gD l k n).length<=n
 | 0=>abL _
 | n+1=>by rw[gD,acC];have:=sX l k n;split<;>simp<;>omega
theorem Aj (l:List eM) (k:Int):gD l k 0=[]:=rfl
theorem Ai {l:List eM} {k:Int} {i:Nat} (h:i < l.length):gD l k (i+1)=gD l k i ++ if l[i].kind=k then [(i:Int)] else []:=by
 rw[gD,abJ,By h];rfl
theorem Ke (G:aq) (p:PgP) (hl:p.names.length < 2^40) (k:Int):ar prog G 64 [dPg p,.v (.int .i64 k)] (.sl none ((gD p.names k p.names.length).map fun x=>[.v (.int .i64 x)])):=by
 simp only[dPg,cPg,bO,dP];generalize p.ao.map cf=R;refine ar.abS (al _) func64 rfl rfl (rs:=[.tmp 4]) results64 (by simp[ntmps64]) fun X=>?_;simp only[ntmps64,List.map];refine ah [1,2] [2] ?_;refine dX 2 ?_;refine ah [1,2,5] [] ?_;refine af fun K1 ax=>?_;refine ah [1,5,9,10,11] [] ?_;refine bQ (S:=Nat) (fun i=>i<=p.names.length) (fun i=>⟨aV [(1,.d (.v (.int .i64 k))),(5,.own 300 0 (gD p.names k i).length),(9,.d (.sl none (p.names.map cNm))),(10,int p.names.length),(11,int i)],ak [(300,.sl 3 1 ((gD p.names k i).map fun x=>[.v (.int .i64 x)]))]⟩) (fun i=>p.names.length - i) 0 ?_ (by simp) ?_
 .refine (aB.ky 5 300 3 1 rfl rfl).trans ?_;refine aB.to' (fun _ _=>trivial) (by simp[Aj]) (by simp[Aj])
 .intro i hi;have hkl:=sX p.names k i;have nM:=fun h=>Ai (l:=p.names) (k:=k) (i:=i) h;generalize DD:gD p.names k i=L at hkl nM ⊢;refine ah [1,5,9,10,11,12] [300] ?_;refine af fun K2 aa=>?_;refine eh (b:=i < p.names.length) (by simp[D.le,D.le.go,aC]) (fun hc=>?_) (fun hc=>?_)
  .have au:=hc;have du:=nM au;have cm:cNm p.names[i]=[.v (.string (bs p.names[i].name)),.v (.int .i64 p.names[i].kind),.v (.int .i64 p.names[i].count)]:=rfl;generalize p.names[i].name=nm at cm;generalize p.names[i].kind=kd at cm du;generalize p.names[i].count=ct at cm;refine abO (aa _ ?_);refine af fun K3 aQ=>?_;refine aR ?_;have qf:=(Aq @au @cm);refine abQ [1,5,6,7,9,10,11] [300,7] ?_;refine dX 7 ?_;by_cases heq:kd=k
   .rw[if_pos heq]at du;have qf:=@heq;refine abQ [1,5,6,9,10,11,19] [300] ?_;refine abP rfl ?_;refine cR (al _) fun K' ae=>?_;(repeat (refine sxn fun K2 aa=>?_;simp[sh];(repeat (refine⟨by omega,?_⟩));refine aa _ ?_;clear aa K2));refine sxz (ae _ ?_);clear ae K';refine aQ _ (AW.norm [1,5,9,10,11] [300] (fun _ _=>trivial) (AW.st (by simp[sh];rfl) ?_));refine re0 ?_;(try simp only[aJ,aL]);refine aS.mk (i+1) (by omega) (by omega) ?_;refine abW @du
   .rw[if_neg heq,adp]at du;have qf:=@heq;refine abQ [1,5,6,9,10,11,19] [300] ?_;refine abN rfl ?_;refine abO (aQ _ ?_);refine re0 ?_;(try simp only[aJ,aL]);refine aS.mk (i+1) (by omega) (by omega) ?_;refine abW @du
  .obtain rfl:i=p.names.length:=by omega
   refine bx (ax _ ?_);refine AW.imp (aB.freeze 300 trivial) ?_;refine AW.st (by simp[sh];rfl) ?_;refine ah [4] [] ?_;exact aN @DD
theorem Bv (G:aq) (p:PgP) (hl:p.names.length < 2^40) (k:Int):ar prog G 62 [cX p,.v (.int .i64 k)] (.sl none ((gD p.names k p.names.length).map fun x=>[.v (.int .i64 x)])):=by
 simp only[cX,eu,bO,dP];generalize p.ao.map cL=R;refine ar.abS (al _) func62 rfl rfl (rs:=[.tmp 4]) results62 (by simp[ntmps62]) fun X=>?_;simp only[ntmps62,List.map];refine ah [1,2] [2] ?_;refine dX 2 ?_;refine ah [1,2,5] [] ?_;refine af fun K1 ax=>?_;refine ah [1,5,9,10,11] [] ?_;refine bQ (S:=Nat) (fun i=>i<=p.names.length) (fun i=>⟨aV [(1,.d (.v (.int .i64 k))),(5,.own 300 0 (gD p.names k i).length),(9,.d (.sl none (p.names.map cNm))),(10,int p.names.length),(11,int i)],ak [(300,.sl 3 1 ((gD p.names k i).map fun x=>[.v (.int .i64 x)]))]⟩) (fun i=>p.names.length - i) 0 ?_ (by simp) ?_
 .refine (aB.ky 5 300 3 1 rfl rfl).trans ?_;refine aB.to' (fun _ _=>trivial) (by simp[Aj]) (by simp[Aj])
 .intro i hi;have hkl:=sX p.names k i;have nM:=fun h=>Ai (l:=p.names) (k:=k) (i:=i) h;generalize DD:gD p.names k i=L at hkl nM ⊢;refine ah [1,5,9,10,11,12] [300] ?_;refine af fun K2 aa=>?_;refine eh (b:=i < p.names.length) (by simp[D.le,D.le.go,aC]) (fun hc=>?_) (fun hc=>?_)
  .have au:=hc;have du:=nM au;have cm:cNm p.names[i]=[.v (.string (bs p.names[i].name)),.v (.int .i64 p.names[i].kind),.v (.int .i64 p.names[i].count)]:=rfl;generalize p.names[i].name=nm at cm;generalize p.names[i].kind=kd at cm du;generalize p.names[i].count=ct at cm;refine abO (aa _ ?_);refine af fun K3 aQ=>?_;refine aR ?_;have qf:=(Aq @au @cm);refine abQ [1,5,6,7,9,10,11] [300,7] ?_;refine dX 7 ?_;by_cases heq:kd=k
   .rw[if_pos heq]at du;have qf:=@heq;refine abQ [1,5,6,9,10,11,19] [300] ?_;refine abP rfl ?_;refine cR (al _) fun K' ae=>?_;(repeat (refine sxn fun K2 aa=>?_;simp[sh];(repeat (refine⟨by omega,?_⟩));refine aa _ ?_;clear aa K2));refine sxz (ae _ ?_);clear ae K';refine aQ _ (AW.norm [1,5,9,10,11] [300] (fun _ _=>trivial) (AW.st (by simp[sh];rfl) ?_));refine re0 ?_;(try simp only[aJ,aL]);refine aS.mk (i+1) (by omega) (by omega) ?_;refine abW @du
   .rw[if_neg heq,adp]at du;have qf:=@heq;refine abQ [1,5,6,9,10,11,19] [300] ?_;refine abN rfl ?_;refine abO (aQ _ ?_);refine re0 ?_;(try simp only[aJ,aL]);refine aS.mk (i+1) (by omega) (by omega) ?_;refine abW @du
  .obtain rfl:i=p.names.length:=by omega
   refine bx (ax _ ?_);refine AW.imp (aB.freeze 300 trivial) ?_;refine AW.st (by simp[sh];rfl) ?_;refine ah [4] [] ?_;exact aN @DD
def gU (is bH:List UInt8->Bool):List Ex->Nat
 | []=>0
 | e :: l=>(if c8 is bH e then 1 else 0)+gU is bH l
theorem Hb (is bH:List UInt8->Bool):∀ a b:List Ex,gU is bH (a ++ b)=gU is bH a+gU is bH b
 | [],b=>by simp[gU]
 | e :: a,b=>by simp only[aeo,gU,Hb is bH a b];omega
theorem yP (is bH:List UInt8->Bool):∀ l:List Ex,gU is bH l<=l.length
 | []=>by simp[gU]
 | e :: l=>by have:=yP is bH l;simp only[gU,acv];split<;>omega
theorem Hd (is bH:List UInt8->Bool) {l:List Ex} {i:Nat} (hi:i < l.length):gU is bH (l.take (i+1))=gU is bH (l.take i)+(if c8 is bH l[i] then 1 else 0):=by
 rw[abR hi,Hb];simp[gU]
theorem Ha (is bH:List UInt8->Bool):∀ l:List Ex,decide (gU is bH l=l.length)=tU is bH l
 | []=>rfl
 | e :: l=>by
  have h1:=Ha is bH l;have h2:=yP is bH l;rw[tU,<- h1];simp only[gU,acv]
  rcases Bool.eq_false_or_eq_true (c8 is bH e)with hE | hE
  .simp[hE,afc 1]
  .have:¬ gU is bH l=l.length+1:=by omega
   simp[hE,this]
theorem Hc (is bH:List UInt8->Bool):∀ l:List Ex,decide (0 < gU is bH l)=tV is bH l
 | []=>rfl
 | e :: l=>by
  have h1:=Hc is bH l;rw[tV,<- h1];simp only[gU]
  rcases Bool.eq_false_or_eq_true (c8 is bH e)with hE | hE
  .simp[hE];omega
  .simp[hE]
theorem Ww (G:aq) (g1 g2:FuncId) (c1 c2:List D) (is bH:List UInt8->Bool) (S1 S2:List UInt8->Prop) (h1:aeG S1 G g1 c1 is) (h2:aeG S2 G g2 c2 bH):∀ (n:Nat) (e:Ex),SizeOf.sizeOf e<=n->fH S1 S2 e->fo e->bE e<=2^28->ar prog G 71 [dR e,.fn (.func g1) c1,.fn (.func g2) c2] (.v (.bool (c8 is bH e))):=by
 intro n
 induction n with
 | zero=>intro e aK;cases e<;>simp at aK
 | succ n ih=>
  intro e aK acZ l7 hb;have fw:=(Aq @afg (Aq @afi (Aq @ad0 @cW.eq_1)))
  cases e with
  | ff b=>
   cases b with
   | true=>
    rw[dR];refine ar.abS (al _) func71 rfl rfl (rs:=[.tmp 6]) results71 (by simp[ntmps71]) fun X=>?_;simp only[ntmps71,List.map];refine rgq fw [0,1,2] [] ?_;refine af fun K1 ax=>?_;refine rgq fw [0,1,2,13] [] ?_;refine aR ?_;refine rgq fw [0,1,2,13,14] [] ?_;refine abP rfl ?_;refine rgq fw [6] [] ?_;refine ab1 ?_;simp[D.le,D.le.go,aC,ab,dS,ad0,cW,c8]
   | false=>
    rw[dR];refine ar.abS (al _) func71 rfl rfl (rs:=[.tmp 6]) results71 (by simp[ntmps71]) fun X=>?_;simp only[ntmps71,List.map];refine rgq fw [0,1,2] [] ?_;refine af fun K1 ax=>?_;refine rgq fw [0,1,2,13] [] ?_;refine aR ?_;refine rgq fw [0,1,2,13,14] [] ?_;refine abN rfl ?_;refine rgq fw [0,1,2,13,16] [] ?_;refine abN rfl ?_;refine rgq fw [0,1,2,13,24] [] ?_;refine abN rfl ?_;refine rgq fw [0,1,2,13,41] [] ?_;refine abN rfl ?_;refine rgq fw [0,1,2,13,58] [] ?_;refine abN rfl ?_;refine af fun K2 aa=>?_;refine rgq fw [0,1,2,13,70] [] ?_;refine abN rfl ?_;refine reK fw aa [0,1,2,70] [] ?_;refine abN rfl ?_;refine abO (ax _ ?_);refine rgq fw [6] [] ?_;refine ab1 ?_;simp[D.le,D.le.go,aC,ab,dS,ad0,cW,c8]
  | bit s=>
   rw[fH]at acZ;have hi:=h1 s acZ;rw[dR,c8];refine ar.abS (al _) func71 rfl rfl (rs:=[.tmp 6]) results71 (by simp[ntmps71]) fun X=>?_;simp only[ntmps71,List.map];refine rgq fw [0,1,2] [] ?_;refine af fun K1 ax=>?_;refine rgq fw [0,1,2,13] [] ?_;refine aR ?_;refine rgq fw [0,1,2,13,14] [] ?_;refine abN rfl ?_;refine rgq fw [0,1,2,13,16] [] ?_;refine abP rfl ?_;refine aT fw hi [6] [] ?_;exact aN fw
  | adb s=>
   rw[fH]at acZ;have hi:=h1 s acZ.1;have hw:=h2 s acZ.2;rw[dR,c8]
   cases hx:is s with
   | false=>
    rw[hx]at hi;refine ar.abS (al _) func71 rfl rfl (rs:=[.tmp 6]) results71 (by simp[ntmps71]) fun X=>?_;simp only[ntmps71,List.map];refine rgq fw [0,1,2] [] ?_;refine af fun K1 ax=>?_;refine rgq fw [0,1,2,13] [] ?_;refine aR ?_;refine rgq fw [0,1,2,13,14] [] ?_;refine abN rfl ?_;refine rgq fw [0,1,2,13,16] [] ?_;refine abN rfl ?_;refine rgq fw [0,1,2,13,24] [] ?_;refine abP rfl ?_;refine aT fw hi [6] [] ?_;exact aN fw
   | true=>
    rw[hx]at hi;refine ar.abS (al _) func71 rfl rfl (rs:=[.tmp 6]) results71 (by simp[ntmps71]) fun X=>?_;simp only[ntmps71,List.map];refine rgq fw [0,1,2] [] ?_;refine af fun K1 ax=>?_;refine rgq fw [0,1,2,13] [] ?_;refine aR ?_;refine rgq fw [0,1,2,13,14] [] ?_;refine abN rfl ?_;refine rgq fw [0,1,2,13,16] [] ?_;refine abN rfl ?_;refine rgq fw [0,1,2,13,24] [] ?_;refine abP rfl ?_;refine rg [6] [] (fun _ _=>trivial) fun K' ae=>?_;(repeat (refine sxn fun K2 aa=>?_;simp[ab,dS,ad0,cW];(repeat (refine⟨by omega,?_⟩));refine aa _ ?_;clear aa K2));refine sxn fun K2 aa=>?_;simp[ab,dS,ad0,cW];refine ab8.data (hi) (by simp;rfl) (by first | exact D.abY _ | simp[aC,abU,abK,D.le,D.le.go,D.le_refl,D.abY,ab,dS,ad0,cW]) ?_;refine aa _ ?_;clear aa K2;simp only[aD,cz];(repeat (refine sxn fun K2 aa=>?_;simp[ab,dS,ad0,cW];(repeat (refine⟨by omega,?_⟩));refine aa _ ?_;clear aa K2));refine sxn fun K2 aa=>?_;simp[ab,dS,ad0,cW];refine ab8.data (hw) (by simp;rfl) (by first | exact D.abY _ | simp[aC,abU,abK,D.le,D.le.go,D.le_refl,D.abY,ab,dS,ad0,cW]) ?_;refine aa _ ?_;clear aa K2;simp only[aD,cz];(repeat (refine sxn fun K2 aa=>?_;simp[ab,dS,ad0,cW];(repeat (refine⟨by omega,?_⟩));refine aa _ ?_;clear aa K2));refine sxz (ae _ (AW.st (by simp[ab,dS,ad0,cW];rfl) ?_));clear ae K';exact aN fw
  | fT s=>
   rw[fH]at acZ;have hi:=h2 s acZ.2;have hw:=h1 s acZ.1;rw[dR,c8];rw[Bool.and_comm]
   cases hx:bH s with
   | false=>
    rw[hx]at hi;refine ar.abS (al _) func71 rfl rfl (rs:=[.tmp 6]) results71 (by simp[ntmps71]) fun X=>?_;simp only[ntmps71,List.map];refine rgq fw [0,1,2] [] ?_;refine af fun K1 ax=>?_;refine rgq fw [0,1,2,13] [] ?_;refine aR ?_;refine rgq fw [0,1,2,13,14] [] ?_;refine abN rfl ?_;refine rgq fw [0,1,2,13,16] [] ?_;refine abN rfl ?_;refine rgq fw [0,1,2,13,24] [] ?_;refine abN rfl ?_;refine rgq fw [0,1,2,13,41] [] ?_;refine abP rfl ?_;refine aT fw hi [6] [] ?_;exact aN fw
   | true=>
    rw[hx]at hi;refine ar.abS (al _) func71 rfl rfl (rs:=[.tmp 6]) results71 (by simp[ntmps71]) fun X=>?_;simp only[ntmps71,List.map];refine rgq fw [0,1,2] [] ?_;refine af fun K1 ax=>?_;refine rgq fw [0,1,2,13] [] ?_;refine aR ?_;refine rgq fw [0,1,2,13,14] [] ?_;refine abN rfl ?_;refine rgq fw [0,1,2,13,16] [] ?_;refine abN rfl ?_;refine rgq fw [0,1,2,13,24] [] ?_;refine abN rfl ?_;refine rgq fw [0,1,2,13,41] [] ?_;refine abP rfl ?_;refine rg [6] [] (fun _ _=>trivial) fun K' ae=>?_;(repeat (refine sxn fun K2 aa=>?_;simp[ab,dS,ad0,cW];(repeat (refine⟨by omega,?_⟩));refine aa _ ?_;clear aa K2));refine sxn fun K2 aa=>?_;simp[ab,dS,ad0,cW];refine ab8.data (hi) (by simp;rfl) (by first | exact D.abY _ | simp[aC,abU,abK,D.le,D.le.go,D.le_refl,D.abY,ab,dS,ad0,cW]) ?_;refine aa _ ?_;clear aa K2;simp only[aD,cz];(repeat (refine sxn fun K2 aa=>?_;simp[ab,dS,ad0,cW];(repeat (refine⟨by omega,?_⟩));refine aa _ ?_;clear aa K2));refine sxn fun K2 aa=>?_;simp[ab,dS,ad0,cW];refine ab8.data (hw) (by simp;rfl) (by first | exact D.abY _ | simp[aC,abU,abK,D.le,D.le.go,D.le_refl,D.abY,ab,dS,ad0,cW]) ?_;refine aa _ ?_;clear aa K2;simp only[aD,cz];(repeat (refine sxn fun K2 aa=>?_;simp[ab,dS,ad0,cW];(repeat (refine⟨by omega,?_⟩));refine aa _ ?_;clear aa K2));refine sxz (ae _ (AW.st (by simp[ab,dS,ad0,cW];rfl) ?_));clear ae K';exact aN fw
  | not x=>
   have hc:=ih x (by simp at aK;omega) (by rwa [fH]at acZ) (by simpa[fo]using l7) (by simp only[bE]at hb;omega);rw[dR,c8];rw[od x]at hc ⊢;refine ar.abS (al _) func71 rfl rfl (rs:=[.tmp 6]) results71 (by simp[ntmps71]) fun X=>?_;simp only[ntmps71,List.map];refine rgq fw [0,1,2] [] ?_;refine af fun K1 ax=>?_;refine rgq fw [0,1,2,13] [] ?_;refine aR ?_;refine rgq fw [0,1,2,13,14] [] ?_;refine abN rfl ?_;refine rgq fw [0,1,2,13,16] [] ?_;refine abN rfl ?_;refine rgq fw [0,1,2,13,24] [] ?_;refine abN rfl ?_;refine rgq fw [0,1,2,13,41] [] ?_;refine abN rfl ?_;refine rgq fw [0,1,2,13,58] [] ?_;refine abP rfl ?_;refine aT fw hc [6] [] ?_;exact aN fw
  | and l=>
   have lr:=qi l;simp only[bE]at hb
   have jT:2<=l.length/\∀ x∈l,fo x:=by rw[fo]at l7;exact⟨l7.1,(rK l).1 l7.2⟩
   have jL:∀ x∈l,ar prog G 71 [dR x,.fn (.func g1) c1,.fn (.func g2) c2] (.v (.bool (c8 is bH x))):=fun x hx=>by
    have h5:=acL hx;exact ih x (by simp only[Ex.and.sizeOf_spec]at aK;omega) (by rw[fH,vG]at acZ;exact acZ x hx) (jT.2 x hx) (by have:=agd hx;omega)
   have jM:=Ha is bH l;rw[c8,<- jM];rw[dR,tR];clear jM;refine ar.abS (al _) func71 rfl rfl (rs:=[.tmp 6]) results71 (by simp[ntmps71]) fun X=>?_;simp only[ntmps71,List.map];refine rgq fw [0,1,2] [] ?_;refine af fun K1 ax=>?_;refine rgq fw [0,1,2,13] [] ?_;refine aR ?_;refine rgq fw [0,1,2,13,14] [] ?_;refine abN rfl ?_;refine rgq fw [0,1,2,13,16] [] ?_;refine abN rfl ?_;refine rgq fw [0,1,2,13,24] [] ?_;refine abN rfl ?_;refine rgq fw [0,1,2,13,41] [] ?_;refine abN rfl ?_;refine rgq fw [0,1,2,13,58] [] ?_;refine abN rfl ?_;refine af fun K2 aa=>?_;refine rgq fw [0,1,2,13,70] [] ?_;refine abP rfl ?_;refine abO (aa _ ?_);refine abP rfl ?_;refine rgq fw [0,1,2,7] [] ?_;refine af fun K3 aQ=>?_;refine rgq fw [0,1,2,7,76,77,78] [] ?_;refine bQ (S:=Nat) (fun i=>i<=l.length) (fun i=>⟨aV [(0,.d (.ip [dS [38],dS [],.sl none (l.map fun e=>[dR e])])),(1,.d (.fn (.func g1) c1)),(2,.d (.fn (.func g2) c2)),(7,int (gU is bH (l.take i):Nat)),(76,.d (.sl none (l.map fun e=>[dR e]))),(77,int l.length),(78,int i)],ak []⟩) (fun i=>l.length - i) 0 ?_ (by omega) ?_
   .refine abW (Aq fw (Aq @gU.eq_1 @gU.eq_2))
   .intro i hi;have hcl:=yP is bH (l.take i);rw[acz]at hcl;refine rgq fw [0,1,2,7,76,77,78,79] [] ?_;refine af fun K4 bK=>?_;refine eh (b:=i < l.length) (by simp[D.le,D.le.go,aC,ab,dS,ad0,cW]) (fun hc=>?_) (fun hc=>?_)
    .have c6:i < l.length:=hc;have bT:=jL _ (abH c6);have cw:=Hd is bH c6;have hf:=od l[i];rw[hf]at bT;refine abO (bK _ ?_);refine af fun K5 bB=>?_;refine aR ?_;have qf:=(Aq fw (Aq @c6 @hf));refine abQ [0,1,2,7,9,76,77,78] [] ?_;refine aT fw bT [0,1,2,7,76,77,78,85] [] ?_
     cases hv:c8 is bH l[i] with
     | true=>
      rw[hv]at cw;refine abP (by simp[hv]) ?_;refine reK fw bB [0,1,2,7,76,77,78] [] ?_;refine reQ fw ?_;(try simp only[aJ,aL]);refine aS.mk (i+1) (by omega) (by omega) ?_;refine abW (Aq fw @cw)
     | false=>
      rw[hv]at cw;refine abN (by simp[hv]) ?_;refine abO (bB _ ?_);refine reQ fw ?_;(try simp only[aJ,aL]);refine aS.mk (i+1) (by omega) (by omega) ?_;refine abW (Aq fw @cw)
    .obtain rfl:i=l.length:=by omega
     refine bx (aQ _ ?_);rw[ac0]at hcl ⊢;refine rgq fw [6] [] ?_;exact aN fw
  | or l=>
   have lr:=qi l;simp only[bE]at hb
   have jT:2<=l.length/\∀ x∈l,fo x:=by rw[fo]at l7;exact⟨l7.1,(rK l).1 l7.2⟩
   have jL:∀ x∈l,ar prog G 71 [dR x,.fn (.func g1) c1,.fn (.func g2) c2] (.v (.bool (c8 is bH x))):=fun x hx=>by
    have h5:=acL hx;exact ih x (by simp only[Ex.or.sizeOf_spec]at aK;omega) (by rw[fH,vG]at acZ;exact acZ x hx) (jT.2 x hx) (by have:=agd hx;omega)
   have jM:=Hc is bH l;rw[c8,<- jM];rw[dR,tR];clear jM;refine ar.abS (al _) func71 rfl rfl (rs:=[.tmp 6]) results71 (by simp[ntmps71]) fun X=>?_;simp only[ntmps71,List.map];refine rgq fw [0,1,2] [] ?_;refine af fun K1 ax=>?_;refine rgq fw [0,1,2,13] [] ?_;refine aR ?_;refine rgq fw [0,1,2,13,14] [] ?_;refine abN rfl ?_;refine rgq fw [0,1,2,13,16] [] ?_;refine abN rfl ?_;refine rgq fw [0,1,2,13,24] [] ?_;refine abN rfl ?_;refine rgq fw [0,1,2,13,41] [] ?_;refine abN rfl ?_;refine rgq fw [0,1,2,13,58] [] ?_;refine abN rfl ?_;refine af fun K2 aa=>?_;refine rgq fw [0,1,2,13,70] [] ?_;refine abN rfl ?_;refine reK fw aa [0,1,2,70] [] ?_;refine abP rfl ?_;refine rgq fw [0,1,2,7] [] ?_;refine af fun K3 aQ=>?_;refine rgq fw [0,1,2,7,76,77,78] [] ?_;refine bQ (S:=Nat) (fun i=>i<=l.length) (fun i=>⟨aV [(0,.d (.ip [dS [124],dS [],.sl none (l.map fun e=>[dR e])])),(1,.d (.fn (.func g1) c1)),(2,.d (.fn (.func g2) c2)),(7,int (gU is bH (l.take i):Nat)),(76,.d (.sl none (l.map fun e=>[dR e]))),(77,int l.length),(78,int i)],ak []⟩) (fun i=>l.length - i) 0 ?_ (by omega) ?_
   .refine abW (Aq fw (Aq @gU.eq_1 @gU.eq_2))
   .intro i hi;have hcl:=yP is bH (l.take i);rw[acz]at hcl;refine rgq fw [0,1,2,7,76,77,78,79] [] ?_;refine af fun K4 bK=>?_;refine eh (b:=i < l.length) (by simp[D.le,D.le.go,aC,ab,dS,ad0,cW]) (fun hc=>?_) (fun hc=>?_)
    .have c6:i < l.length:=hc;have bT:=jL _ (abH c6);have cw:=Hd is bH c6;have hf:=od l[i];rw[hf]at bT;refine abO (bK _ ?_);refine af fun K5 bB=>?_;refine aR ?_;have qf:=(Aq fw (Aq @c6 @hf));refine abQ [0,1,2,7,9,76,77,78] [] ?_;refine aT fw bT [0,1,2,7,76,77,78,85] [] ?_
     cases hv:c8 is bH l[i] with
     | true=>
      rw[hv]at cw;refine abP (by simp[hv]) ?_;refine reK fw bB [0,1,2,7,76,77,78] [] ?_;refine reQ fw ?_;(try simp only[aJ,aL]);refine aS.mk (i+1) (by omega) (by omega) ?_;refine abW (Aq fw @cw)
     | false=>
      rw[hv]at cw;refine abN (by simp[hv]) ?_;refine abO (bB _ ?_);refine reQ fw ?_;(try simp only[aJ,aL]);refine aS.mk (i+1) (by omega) (by omega) ?_;refine abW (Aq fw @cw)
    .obtain rfl:i=l.length:=by omega
     refine bx (aQ _ ?_);rw[ac0]at hcl ⊢;by_cases h0:0 < gU is bH l
     .have qf:=(Aq fw @h0);refine abQ [6] [] ?_;exact aN (Aq fw @h0)
     .have hz:gU is bH l=0:=by omega
      have aI:¬ l.length=0:=by omega
      have I6:¬ 0=(l.length:Int):=by omega
      have qf:=(Aq fw (Aq @h0 (Aq @hz (Aq @aI @I6))));refine abQ [6] [] ?_;exact aN (Aq fw (Aq @h0 (Aq @hz (Aq @aI @I6))))
theorem Wx (G:aq) (g1 g2:FuncId) (c1 c2:List D) (is bH:List UInt8->Bool) (S1 S2:List UInt8->Prop) (h1:aeG S1 G g1 c1 is) (h2:aeG S2 G g2 c2 bH) (e:Ex) (ha:fH S1 S2 e) (hw:fo e) (hb:bE e<=2^28):ar prog G 71 [dR e,.fn (.func g1) c1,.fn (.func g2) c2] (.v (.bool (c8 is bH e))):=
 Ww G g1 g2 c1 c2 is bH S1 S2 h1 h2 _ e (abL _) ha hw hb
def jV:Ex->List Ex
 | .not e=>[e]
 | .and l=>l
 | .or l=>l
 | _=>[]
def kR:Ex->Option Bool
 | .not _=>none
 | .and _=>none
 | .or _=>none
 | _=>some false
theorem Vo (e:Ex):xR e = .sl (kR e) ((jV e).map fun x=>[dR x]):=by
 cases e<;>simp[xR,jV,kR,cW,tR]
theorem N4 (e:Ex):eY (jV e)<=bE e:=by cases e<;>simp[bE,jV,eY]<;>omega
theorem Zr {e x:Ex} (h:x∈jV e):SizeOf.sizeOf x < SizeOf.sizeOf e:=by
 cases e with
 | not y=>simp only[jV,acV]at h;subst h;simp
 | and l=>simp only[jV]at h;have:=acL h;simp only[Ex.and.sizeOf_spec];omega
 | or l=>simp only[jV]at h;have:=acL h;simp only[Ex.or.sizeOf_spec];omega
 | _=>simp[jV]at h
theorem afZ:type_of% @bO.eq_1:=@bO.eq_1
theorem af1:type_of% @cX.eq_1:=@cX.eq_1
theorem af2:type_of% @eu.eq_1:=@eu.eq_1
