/- Parts. -/
import Derived.Test.YtoohljflflnbeaaGreatDoorBo22
import Derived.Shelf.Strings.Runes
set_option linter.unusedSimpArgs false
set_option linter.unusedVariables false
set_option maxHeartbeats 32000000
set_option maxRecDepth 100000
open Go.Proofs.Tryz
namespace Go.Proofs
open Go.Shelf
def Tryz.O6:Go.Shelf.Ren:=⟨fun | 151=>287 | 152=>314 | 137=>174 | 119=>332 | 224=>277 | 225=>276 | 217=>224 | 266=>281 | n=>n,fun | 9=>9 | 21=>21 | 4=>4 | 3=>3 | 5=>5 | 0=>0 | 46=>205 | n=>n,fun | n=>n⟩
theorem Tryz.aaK:Go.Proofs.Lays.n151 prog Tryz.O6:={
 mixed:=ah
 f119:=func332.trans aO
 f137:=func174.trans aO
 f151:=func287.trans aO
 f152:=func314.trans aO
 f217:=func224.trans aO
 f224:=func277.trans aO
 f225:=func276.trans aO
 f266:=func281.trans aO
 t0:=underlying0
 a0:=isAgg0
 z0:=sizeOf0
 v0:=zeroValue0
 t3:=underlying3
 a3:=isAgg3
 z3:=sizeOf3
 v3:=zeroValue3
 t4:=underlying4
 a4:=isAgg4
 z4:=sizeOf4
 v4:=zeroValue4
 t5:=underlying5
 a5:=isAgg5
 z5:=sizeOf5
 v5:=zeroValue5
 t9:=underlying9
 a9:=isAgg9
 z9:=sizeOf9
 v9:=zeroValue9
 t21:=underlying21
 a21:=isAgg21
 z21:=sizeOf21
 v21:=zeroValue21
 t46:=underlying205
 a46:=isAgg205
 z46:=sizeOf205
 v46:=zeroValue205 }
end Go.Proofs
namespace Go.Proofs.YtoohljflflnbeaaGreatDoor
open Go.Av
open Go.Shelf
def bL (t:List UInt8) (i:Int) (e p:Int):List (Nat×Row):=[(500,.box 323 [.d (dS t),int i,int e,int p])]
theorem aiC:type_of% (Aq @aih (Aq @bL.eq_1 @aii)):=(Aq @aih (Aq @bL.eq_1 @aii))
theorem J9 (G:aC) (t:List UInt8) (i:Nat) (ht:t.length < 2^60) (hi:i<=t.length) (e p:Int) :
  MC prog G [500] 257 [.ref 500 0 0] (aw (bL t i e p)) (.d (.bx [])) (aw (bL t (bw t i) e p)):=by
 refine MC.aQ (aB _) func257 rfl rfl (rs:=[]) results257 (by simp[ntmps257]) rfl fun X=>?_;simp only[ntmps257];have fw:=aiC;refine cy (S:=Nat) (fun k=>k<=t.length/\bw t k=bw t i) (fun k=>⟨bn [(0,.ref 500 0 0)],aw [(500,.box 323 [.d (dS t),int k,int e,int p])]⟩) (fun k=>t.length - k) i ?_ ⟨hi,rfl⟩ ?_
 .refine bq fw
 .rintro k ⟨hk,hs⟩;refine ag fun K1 aF=>?_;by_cases dA:k < t.length
  .have Y4:(k:Int) < (t.length:Int):=aa
   by_cases hb:((t[k]).toNat:Int)=32
   .have qf:=(Aq fw (Aq @bQ (Aq @dk (Aq @dA @hb))));refine iV [0,23] [500] ?_;refine aI (ar (aF _ ?_));refine bd (cE fw ?_);try simp only[aT,aV]
    have js:t[k]? = some 32:=by
     rw[By dA,(Ab _ 32 bO).1 hb];rfl
    refine ba.mk (k+1) ⟨aa,?_⟩ aa ?_
    .rw[<- Ky js];exact hs
    refine bq fw
   .have qf:=(Aq fw (Aq @bQ (Aq @dk (Aq @dA @hb))));refine iV [0,23] [500] ?_;refine al (bW ?_)
    have js:t[k]?≠some 32:=by
     rw[By dA];intro h;apply hb;rw[AI h];rfl
    rw[x4 js]at hs;rw[<- hs];simp[bL,dS,D.le_refl]
  .obtain rfl:k=t.length:=aa
   have qf:=(Aq fw (Aq @bQ @dk));refine iV [0,23] [500] ?_;refine al (bW ?_)
   have js:t[t.length]?≠some 32:=ak
   rw[x4 js]at hs;rw[<- hs];simp[bL,dS,D.le_refl]
def pD (t:List UInt8) (i:Nat):UInt8:=t.getD (bw t i) 0
theorem Cw (G:aC) (t:List UInt8) (i:Nat) (ht:t.length < 2^60) (hi:i<=t.length) (e p:Int) :
  MC prog G [500] 203 [.ref 500 0 0] (aw (bL t i e p)) (.d (.v (.int .u8 (pD t i).toNat))) (aw (bL t (bw t i) e p)):=by
 have fh:=J9 G t i ht hi e p;have iq:=lx hi;unfold pD;generalize bw t i=j at fh iq ⊢;by_cases iQ:j < t.length
 .have YW:(j:Int) < (t.length:Int):=aa
  have ka:t.getD j 0=t[j]:=by simp[agw,iQ]
  rw[ka];refine MC.aQ (aB _) func203 rfl rfl (rs:=[.tmp 2]) results203 (by simp[ntmps203]) rfl fun X=>?_;simp only[ntmps203];have fw:=aiC;refine ae fw [0] [500] ?_;refine bD fw fh [0] [500] ?_;refine ag fun K1 aF=>?_;have qf:=(Aq fw (Aq @bQ (Aq @iQ @YW)));refine iV [0,14] [500] ?_;refine aI ?_;have qf:=(Aq fw (Aq @bQ (Aq @dk @iQ)));refine iV [2] [500] ?_;exact aW (Aq fw (Aq @bL.eq_1 @iQ))
 .obtain rfl:j=t.length:=aa
  refine MC.aQ (aB _) func203 rfl rfl (rs:=[.tmp 2]) results203 (by simp[ntmps203]) rfl fun X=>?_;simp only[ntmps203];have fw:=aiC;refine ae fw [0] [500] ?_;refine bD fw fh [0] [500] ?_;refine ag fun K1 aF=>?_;have qf:=(Aq fw @bQ);refine iV [0,14] [500] ?_;refine al (ar (aF _ ?_));refine ae fw [2] [500] ?_;exact aW (Aq fw @bL.eq_1)
theorem Cu (G:aC) (t:List UInt8) (i:Nat) (ht:t.length < 2^60) (hi:i<=t.length) (e:Int) :
  MC prog G [500] 204 [.ref 500 0 0,.d (ab e)] (aw (bL t i 0 (-1))) (.d (.v (.pointer none))) (aw (bL t (bw t i) e (bw t i))):=by
 have fh:=J9 G t i ht hi 0 (-1);generalize bw t i=j at fh ⊢;refine MC.aQ (aB _) func204 rfl rfl (rs:=[.tmp 4]) results204 (by simp[ntmps204]) rfl fun X=>?_;simp only[ntmps204];have fw:=aiC;refine ae fw [0,1] [500] ?_;refine bD fw fh [0,1] [500] ?_;refine ag fun K1 aF=>ae fw [0,1,12] [500] ?_;refine aI (gH fw aF [] [500] ?_);refine ae fw [4] [500] ?_;exact aW (Aq fw @bL.eq_1)
def pI:List UInt8:=[32,38,124,33,94,126,40,41,61]
theorem aak (c:UInt8):l9 c=pI.contains c:=rfl
theorem Wp {c:UInt8} (h:128<=c.toNat):∃ b0 b1:UInt8,Utf8.encode (c.toNat:Int)=bs [b0,b1]/\128<=b1.toNat:=by
 have hv:Utf8.valid (c.toNat:Int)=true:=by
  have hc:=c.toNat_lt;simp[Utf8.valid];omega
 refine⟨UInt8.ofNat (0xC0+c.toNat / 64),UInt8.ofNat (0x80+c.toNat % 64),?_,?_⟩
 .have hc:=c.toNat_lt;unfold Utf8.encode;rw[hv];simp only[if_true,agO];rw[if_neg aa,if_pos aa];rfl
 .simp;omega
theorem aiR:type_of% (Aq @aih @aii):=(Aq @aih @aii)
theorem aeX (G:aC) (n:Nat) (h:n < 256):aD prog G 332 [.v (.int .i32 n)] (.v (.bool true)):=by
 have h1:(n:Int) < 55296:=aa
 refine aD.aQ (aB _) func332 rfl rfl (rs:=[.tmp 2]) results332 (by simp[ntmps332]) fun X=>?_;simp only[ntmps332,List.map];have fw:=aiR;refine ae fw [0] [] ?_;refine ag fun K1 aF=>bd ?_;have qf:=(Aq fw @h1);refine ay [0,3] [] ?_;refine aI (ae fw [2] [] ?_);exact aW fw
theorem aaj (G:aC) (c:UInt8) (h:128<=c.toNat):aD prog G 314 [dS pI,.v (.int .i32 c.toNat)] (ab (-1)):=by
 have hc:=c.toNat_lt;obtain⟨b0,b1,he,hb⟩:=Wp h
 have h1:¬ (c.toNat:Int) < 128:=aa
 have h2:¬ (c.toNat:Int)=65533:=aa
 have hv:=aeX G c.toNat hc
 have gB:¬ (38:Int)=(b1.toNat:Int):=aa
 have gN:=OX G [124,33,94,126,40,41,61] b1
 have lh:Lib.indexByte [124,33,94,126,40,41,61] b1 < 0:=(I8 _ _).2 (by
  intro hm
  have:∀ x∈([124,33,94,126,40,41,61]:List UInt8),x.toNat < 128:=bO
  have:=this _ hm
  omega)
 have tY:(bs pI).extract 2 9=bs [124,33,94,126,40,41,61]:=rfl;refine aD.aQ (aB _) func314 rfl rfl (rs:=[.tmp 4]) results314 (by simp[ntmps314]) fun X=>?_;simp only[ntmps314,List.map];have fw:=aiR;refine ae fw [0,1] [] ?_;refine bd ?_;have qf:=(Aq fw @h1);refine ay [0,1,160] [] ?_;refine al ?_;have qf:=(Aq fw @h2);refine ay [0,1,171] [] ?_;refine al (br fw hv [0,1,183] [] ?_);refine al (Ln ?_);have qf:=(Aq fw @he);refine ay [0,7] [] ?_;have qf:=(Aq fw @bQ);refine ay [0,7,8] [] ?_;refine ae fw [0,7,8,9] [] ?_;refine ae fw [0,7,8,9] [] ?_;refine ag fun K3 aU=>cy (S:=Nat) (fun n=>True) (fun n=>⟨bn [(0,.d (dS pI)),(7,.d (dS [b0,b1])),(8,int 1),(9,int 1)],aw []⟩) (fun n=>0) 0 ?_ trivial ?_
 .refine bq fw
 .intro n hn;refine ag fun K4 ck=>?_;have qf:=(Aq fw (Aq @bQ @pI.eq_1));refine ay [0,7,8,9,26] [] ?_;refine aI (ar (ck _ ?_));refine bd (Ln ?_);refine ag fun K5 b9=>?_;have qf:=(Aq fw (Aq @bQ (Aq @dk (Aq @pI.eq_1 @gB))));refine iV [0,7,8,9,33] [] ?_;refine aI ?_;have qf:=(Aq fw (Aq @bQ (Aq @dk (Aq @pI.eq_1 @tY))));refine vB gN [0,7,8,9,11] [] ?_;refine ag fun K6 eH=>?_;have qf:=(Aq fw @lh);refine ay [0,7,8,9,11,43] [] ?_;refine aI (ae fw [4] [] ?_);exact aW fw
theorem VZ (G:aC) (c:UInt8):aD prog G 287 [dS pI,.v (.int .i32 c.toNat)] (.v (.bool (l9 c))):=by
 by_cases h:c.toNat < 128
 .refine aD.rJ (gS.of func287 rfl rfl) fun X w vs bg cf dz=>?_
  obtain⟨a,b,rfl⟩:∃ a b,vs = #[a,b]:=by
   match vs,bg with
   | ⟨[a,b]⟩,_=>exact⟨a,b,rfl⟩
  have ha:=(cf 0 a _ rfl rfl).scalar;have hb:=(cf 1 b _ rfl rfl).scalar;subst ha hb;have iF:=Any.strings_ContainsRune_ascii (P:=prog) (ρ:=Tryz.O6) { Tryz.aaK with } (bs pI) c.toNat w aa aa;rw[show (c.toNat:Int).toNat.toUInt8=c by simp]at iF;refine iF.mono fun e w' ⟨he,hw⟩=>⟨_,he,by rw[hw];exact cR.refl _,?_⟩
  have X5:decide (0<=Lib.indexByte (bs pI).data.toList c)=l9 c:=by
   rw[aak,Bool.eq_iff_iff,decide_eq_true_eq,aha];have:=I8 pI c;have e:(bs pI).data.toList=pI:=rfl;rw[e];constructor
   .intro h0;apply ahb;intro hn;have:=this.2 hn;omega
   .intro hm;apply ahb;intro hn;exact this.1 aa hm
  rw[X5];exact .v _
 .have X8:=aaj G c aa
  have jc:l9 c=false:=by
   have h:∀ n:Fin 256,128<=n.val->l9 (UInt8.ofNat n)=false:=by decide +kernel
   have:=h ⟨c.toNat,c.toNat_lt⟩ (by simp;omega);simpa using this
  rw[jc];refine aD.aQ (aB _) func287 rfl rfl (rs:=[.tmp 4]) results287 (by simp[ntmps287]) fun X=>?_;simp only[ntmps287,List.map];have fw:=aiR;refine ae fw [0,1] [] ?_;refine br fw X8 [4] [] ?_;exact aW fw
end Go.Proofs.YtoohljflflnbeaaGreatDoor
namespace Go.Proofs.YtoohljflflnbeaaGreatDoor
open Go.Av
def eR {α:Type}:Rs α->Int
 | .ok _ _=>0
 | .err c _ _=>c
def pR {α:Type}:Rs α->Int
 | .ok _ _=>-1
 | .err _ p _=>p
theorem KQ (c:UInt8):IntKind.i32.wrap (c.toNat:Int)=(c.toNat:Int):=by
 have h:∀ n:Fin 256,IntKind.i32.wrap ((UInt8.ofNat n.val).toNat:Int)=((UInt8.ofNat n.val).toNat:Int):=by decide +kernel
 have:=h ⟨c.toNat,c.toNat_lt⟩;simpa using this
theorem afc:IntKind.i32.wrap 48=48:=by decide +kernel
theorem afd:IntKind.i32.wrap 49=49:=by decide +kernel
theorem CI:(⟨#[32,38,124,33,94,126,40,41,61]⟩:ByteArray)=bs pI:=rfl
theorem Kc (G:aC) (t:List UInt8) (q i:Nat) (ht:t.length < 2^60) (hi:i<=t.length) :
  MC prog G [500] 294 [.ref 500 0 0] (aw (bL t i 0 (-1))) (.d (dS (iY t (bw t i)))) (aw (bL t (cQ (fK t q i)) (eR (fK t q i)) (pR (fK t q i)))):=by
 have fh:=J9 G t i ht hi 0 (-1);have iq:=lx hi;have u2:=x3 hi;unfold fK;generalize bw t i=j at fh iq u2 ⊢;have Bn:=Cu G t j ht iq 3;have Bo:=Cu G t j ht iq 5;rw[u2]at Bn Bo;have bz:=F1 t j;have het:=KT iq;have nV:(t.drop j).take (pL t j - j)=iY t j:=rfl
 have IC:(iY t j).length < 2^60:=by
  rw[<- nV,agM,agX];omega
 have lM:=PE G (iY t j) IC;rw[<- Pz]at lM;refine MC.aQ (aB _) func294 rfl rfl (rs:=[.tmp 2]) results294 (by simp[ntmps294]) rfl fun X=>?_;simp only[ntmps294];have fw:=aiC;refine ae fw [0] [500] ?_;refine bD fw fh [0] [500] ?_;refine ae fw [0,3] [500] ?_;refine ag fun K1 aF=>cy (S:=Nat) (fun k=>j<=k/\k<=t.length/\vQ t j k) (fun k=>⟨bn [(0,.ref 500 0 0),(3,int k)],aw [(500,.box 323 [.d (dS t),int j,int 0,int (-1)])]⟩) (fun k=>t.length - k) j ?_ ⟨agD _,iq,.inl rfl⟩ ?_
 .refine bq fw
 .rintro k ⟨wY,hk,dB⟩;refine ag fun K2 au=>?_
  refine (fun fY hstop=>?_) (fun (σ:St) (hn:vQ t j (k+1)) (dA:k < t.length) himp=>au σ (AW.imp (τ:=⟨bn [(0,.ref 500 0 0),(3,int k)],aw [(500,.box 323 [.d (dS t),int j,int 0,int (-1)])]⟩) himp ?_))
   (fun (σ:St) (he:k=pL t j) himp=>aF σ (AW.imp (τ:=⟨bn [(0,.ref 500 0 0),(3,int k)],aw [(500,.box 323 [.d (dS t),int j,int 0,int (-1)])]⟩) himp ?_))
  .by_cases dA:k < t.length
   .have jb:=VZ G t[k];have xa:=zH t[k]
    cases zn:l9 t[k] with
    | true=>
     rw[zn]at jb xa;have qf:=(Aq fw (Aq @bQ (Aq @dk (Aq @CI (Aq @KQ @dA)))));refine fj jb [0,3,54] [500] ?_;refine al (bW (hstop _ (sW dB hk fun _=>⟨xa.2 (.inl rfl),fun _=>⟨fun e=>?_,fun e=>?_⟩⟩) ?_))
     .rw[e]at zn;exact absurd zn bO
     .rw[e]at zn;exact absurd zn bO
     .refine bq fw
    | false=>
     rw[zn]at jb xa;by_cases kV:j < k
     .have lZ:(j:Int) < (k:Int):=aa
      have Ej:t[k] ∉ qk\/(j < k/\(t[k]=48\/t[k]=49)):=by
       by_cases hm:t[k]∈qk
       .rcases xa.1 hm with h | h | h
        .cases h
        .exact .inr ⟨kV,.inl h⟩
        .exact .inr ⟨kV,.inr h⟩
       .exact .inl hm
      have qf:=(Aq fw (Aq @bQ (Aq @dk (Aq @CI (Aq @KQ (Aq @dA (Aq @lZ @kV)))))));refine fj jb [0,3,54] [500] ?_;refine aI (ar (fY _ (An dB dA Ej) dA ?_));refine bq fw
     .have lZ:¬ (j:Int) < (k:Int):=aa
      by_cases qB:((t[k]).toNat:Int)=48
      .have hc:t[k]=48:=(Ab _ 48 bO).1 qB;rw[qB]at jb;have qf:=(Aq fw (Aq @bQ (Aq @dk (Aq @CI (Aq @afc (Aq @dA (Aq @lZ (Aq @kV @qB))))))));refine fj jb [0,3,54] [500] ?_;refine al (bW (hstop _ (sW dB hk fun _=>⟨xa.2 (.inr (.inl hc)),fun h=>absurd h kV⟩) ?_));refine bq fw
      .by_cases r3:((t[k]).toNat:Int)=49
       .have hc:t[k]=49:=(Ab _ 49 bO).1 r3;rw[r3]at jb;have qf:=(Aq fw (Aq @bQ (Aq @dk (Aq @CI (Aq @afd (Aq @dA (Aq @lZ (Aq @kV (Aq @qB @r3)))))))));refine fj jb [0,3,54] [500] ?_;refine al (bW (hstop _ (sW dB hk fun _=>⟨xa.2 (.inr (.inr hc)),fun h=>absurd h kV⟩) ?_));refine bq fw
       .have hm:t[k] ∉ qk:=fun hm=>by
         rcases xa.1 hm with h | h | h
         .cases h
         .exact qB (by rw[h];rfl)
         .exact r3 (by rw[h];rfl)
        have qf:=(Aq fw (Aq @bQ (Aq @dk (Aq @CI (Aq @KQ (Aq @dA (Aq @lZ (Aq @kV (Aq @qB @r3)))))))));refine fj jb [0,3,54] [500] ?_;refine aI (ar (fY _ (An dB dA (.inl hm)) dA ?_));refine bq fw
   .obtain rfl:k=t.length:=aa
    by_cases kV:j < t.length
    .have lZ:(j:Int) < (t.length:Int):=aa
     have qf:=(Aq fw (Aq @bQ (Aq @dk (Aq @lZ @kV))));refine ay [0,3,54] [500] ?_;refine al (bW (hstop _ (sW dB hk fun h=>absurd h dA) ?_));refine bq fw
    .have lZ:¬ (j:Int) < (t.length:Int):=aa
     have qf:=(Aq fw (Aq @bQ (Aq @dk (Aq @lZ @kV))));refine ay [0,3,54] [500] ?_;refine al (bW (hstop _ (sW dB hk fun h=>absurd h dA) ?_));refine bq fw
  .refine bd (cE fw ?_);(try simp only[aT,aV]);refine ba.mk (k+1) ⟨aa,aa,hn⟩ aa ?_;refine bq fw
  .subst he;clear aF au;have IW:List.take (pL t j - j) (List.drop j t)=iY t j:=nV;have qf:=(Aq fw (Aq @bQ (Aq @LM (Aq @bz (Aq @het @IW)))));refine iV [0,3,4] [500] ?_;refine ag fun K3 aU=>bd ?_;by_cases hs:iY t j=[]
   .refine rg [0,3,4,71] [500] (eh rfl) fun K' ao=>?_;(repeat refine aM fun Kq af=>?_;simp[ab,bL,dS,hs,bX,bt,bf];(repeat refine⟨aa,?_⟩);refine af _ ?_);refine bK (ao _ (AW.st (by simp[ab,bL,dS,hs,bX,bt,bf];rfl) ?_));refine aI (eU (aB _) fun K' ao=>?_);(repeat refine aM fun Kq af=>?_;simp[ab,bL,dS];(repeat refine⟨aa,?_⟩);refine af _ ?_);refine aM fun Kq af=>?_;simp[ab,bL,dS];refine dT.mc (Bn) ?_ ?_ ?_ ?_ ?_<;>simp[ab,bL,dS];refine af _ ?_;(repeat refine aM fun Kq af=>?_;simp[ab,bL,dS];(repeat refine⟨aa,?_⟩);refine af _ ?_);refine bK (ao _ ?_);refine aU _ (AW.norm [4] [500] (eh rfl) (AW.st (by simp[ab,bL,dS];rfl) ?_));refine ae fw [2] [500] ?_;refine bR ?_;simp[D.le,D.le.go,aL,ab,bL,dS,bL,cQ,eR,pR,hs,bX]
   .have nj:(iY t j == [])=false:=by simpa using hs
    have BR:(iY t j).isEmpty=false:=by rw[ahL];exact hs
    refine rg [0,3,4,71] [500] (eh rfl) fun K' ao=>?_;(repeat refine aM fun Kq af=>?_;simp[ab,bL,dS,bX,bt,bf,hs,nj,BR];(repeat refine⟨aa,?_⟩);refine af _ ?_);refine bK (ao _ (AW.st (by simp[ab,bL,dS,bX,bt,bf,hs,nj,BR];rfl) ?_));refine al ?_
    cases hn:jg (iY t j) with
    | false=>
     rw[hn]at lM;refine br fw lM [0,3,4,76] [500] ?_;refine aI (eU (aB _) fun K' ao=>?_);(repeat refine aM fun Kq af=>?_;simp[ab,bL,dS];(repeat refine⟨aa,?_⟩);refine af _ ?_);refine aM fun Kq af=>?_;simp[ab,bL,dS];refine dT.mc (Bo) ?_ ?_ ?_ ?_ ?_<;>simp[ab,bL,dS];refine af _ ?_;(repeat refine aM fun Kq af=>?_;simp[ab,bL,dS];(repeat refine⟨aa,?_⟩);refine af _ ?_);refine bK (ao _ ?_);refine aU _ (AW.norm [4] [500] (eh rfl) (AW.st (by simp[ab,bL,dS];rfl) ?_));refine ae fw [2] [500] ?_;exact aW (Aq fw (Aq @bL.eq_1 (Aq @cQ.eq_1 (Aq @cQ.eq_2 (Aq @eR.eq_1 (Aq @eR.eq_2 (Aq @pR.eq_1 (Aq @pR.eq_2 (Aq @hs @hn)))))))))
    | true=>
     rw[hn]at lM;refine br fw lM [0,3,4,76] [500] ?_;refine al (gH fw aU [4] [500] ?_);refine ae fw [2] [500] ?_;exact aW (Aq fw (Aq @bL.eq_1 (Aq @cQ.eq_1 (Aq @cQ.eq_2 (Aq @eR.eq_1 (Aq @eR.eq_2 (Aq @pR.eq_1 (Aq @pR.eq_2 (Aq @hs @hn)))))))))
def eG:D:=.sl (some false) []
mutual
def dR:Ex->D
 | .gU b=>.ip [dS [if b then 49 else 48],dS [],eG]
 | .bit s=>.ip [dS [98,105,116],dS s,eG]
 | .jk s=>.ip [dS [94],dS s,eG]
 | .ja s=>.ip [dS [126],dS s,eG]
 | .not e=>.ip [dS [33],dS [],.sl none [[dR e]]]
 | .and l=>.ip [dS [38],dS [],.sl none (wx l)]
 | .or l=>.ip [dS [124],dS [],.sl none (wx l)]
def wx:List Ex->List (List D)
 | []=>[]
 | e :: l=>[dR e] :: wx l
end
theorem yC:∀ l:List Ex,wx l=l.map fun e=>[dR e]
 | []=>rfl
 | e :: l=>by rw[wx,yC l];rfl
theorem yB (e:Ex):∃ c,dR e = .ip c:=by
 cases e<;>simp only[dR]<;>exact⟨_,rfl⟩
theorem wv (e:Ex):(dR e).one=true:=by
 obtain⟨c,h⟩:=yB e;rw[h];rfl
theorem cells_one {y:D} (h:y.one=true):jn (.d y)=some [.d y]:=by
 cases y<;>first | (simp[jn,AV.one,D.one]at h ⊢;done) | (simp[D.one]at h;simp[jn,AV.one,D.one,h])
def jA (r:Rs Ex) (y:D):D:=match r with
 | .ok x _=>dR x
 | .err _ _ _=>y
def ji {α:Type} (r:Rs α) (k:Nat):Nat:=match r with
 | .ok _ j=>j
 | .err _ _ _=>k
def C8 (G:aC) (t:List UInt8) (fx:List Nat) (xr:List (Nat×Row)) (g:FuncId) (xs:List AV) (d:Nat) (r:Rs Ex) (i:Nat) (y:D) (k:Nat):Prop:=
 MC prog G fx g xs (aw (bL t i 0 (-1) ++ xr)) (.d (jA r y)) (aw (bL t (ji r k) (eR r) (pR r) ++ xr))/\(∀ c p q,r = .err c p q->0 < c/\y.one=true/\k<=t.length+d)
def Reads (G:aC) (t:List UInt8) (fx:List Nat) (xr:List (Nat×Row)) (g:FuncId) (xs:List AV) (d:Nat) (f:Nat->Rs Ex):Prop:=∃ (yF:Nat->D) (kF:Nat->Nat),∀ i,i<=t.length->C8 G t fx xr g xs d (f i) i (yF i) (kF i)
theorem FA {G:aC} {t:List UInt8} {fx:List Nat} {xr:List (Nat×Row)} {g:FuncId} {xs:List AV} {d:Nat} {f:Nat->Rs Ex} (h:∀ i,i<=t.length->∃ y k,C8 G t fx xr g xs d (f i) i y k):Reads G t fx xr g xs d f:=by
 have h2:∀ i,∃ z:D×Nat,i<=t.length->C8 G t fx xr g xs d (f i) i z.1 z.2:=fun i=>by
  by_cases hi:i<=t.length
  .obtain⟨y,k,h⟩:=h i hi;exact⟨(y,k),fun _=>h⟩
  .exact⟨(default,0),fun h=>absurd h hi⟩
 exact⟨fun i=>(Classical.choose (h2 i)).1,fun i=>(Classical.choose (h2 i)).2,fun i hi=>Classical.choose_spec (h2 i) hi⟩
def oZ (t:List UInt8) (s:UInt8) (f:Nat->Rs Ex):Nat->Nat->List Ex->List Ex×Nat
 | 0,i,acc=>(acc,i)
 | n+1,i,acc=>match f i with
  | .err _ _ _=>(acc,i)
  | .ok x j=>if (eD t s j).1 then oZ t s f n (eD t s j).2 (acc ++ [x]) else (acc,i)
theorem Rm {t:List UInt8} {s:UInt8} {f:Nat->Rs Ex} (hf:lB t f):∀ (n m i:Nat) (acc:List Ex),i<=t.length->t.length+1 - i<=n->t.length+1 - i<=m->oZ t s f n i acc=oZ t s f m i acc
 | 0,_,i,_,hi,h,_=>aa
 | _+1,0,i,_,hi,_,h=>aa
 | n+1,m+1,i,acc,hi,h1,h2=>by
  rw[oZ,oZ]
  cases b8:f i with
  | err c p q=>rfl
  | ok x j=>
   obtain⟨g1,g2⟩:=hf i x j hi b8;obtain⟨t1,t2,t3⟩:=oh (c:=s) g2;dsimp only;split
   .exact Rm hf n m _ _ t2 aa aa
   .rfl
def x2 (t:List UInt8) (s:UInt8) (f:Nat->Rs Ex) (i:Nat) (acc:List Ex):List Ex×Nat:=oZ t s f (t.length+1 - i) i acc
theorem vG {t:List UInt8} {s:UInt8} {f:Nat->Rs Ex} (hf:lB t f) {i:Nat} (hi:i<=t.length) (acc:List Ex):x2 t s f i acc=match f i with
  | .err _ _ _=>(acc,i)
  | .ok x j=>if (eD t s j).1 then x2 t s f (eD t s j).2 (acc ++ [x]) else (acc,i):=by
 unfold x2;obtain⟨n,hn⟩:∃ n,t.length+1 - i=n+1:=⟨t.length - i,aa⟩;rw[hn,oZ]
 cases b8:f i with
 | err c p q=>rfl
 | ok x j=>
  obtain⟨g1,g2⟩:=hf i x j hi b8;obtain⟨t1,t2,t3⟩:=oh (c:=s) g2;dsimp only;split
  .exact Rm hf _ _ _ _ t2 aa aa
  .rfl
theorem Fj {t:List UInt8} {i:Nat} {c:UInt8} (hc:c≠0):(eD t c i).1=decide (((pD t i).toNat:Int)=(c.toNat:Int)):=by
 unfold eD pD;rw[agw]
 cases h:t[bw t i]? with
 | none=>
  rw[if_neg ak];simp only[Option.getD_none]
  symm
  rw[decide_eq_false_iff_not];intro e;apply hc
  have:c.toNat=0:=by simp at e;omega
  exact UInt8.toNat_inj.1 (by simpa using this)
 | some b=>
  simp only[ah1];by_cases hb:b=c
  .subst hb;simp
  .have:¬ ((b.toNat:Int)=(c.toNat:Int)):=fun e=>hb (UInt8.toNat_inj.1 aa);simp[hb,this]
theorem KK {t:List UInt8} {c:UInt8} {i:Nat}:(eD t c i).2=if (eD t c i).1 then bw t i+1 else bw t i:=by
 unfold eD;split<;>rfl
def mM (s:UInt8) (ys:List D):D:=match ys with
 | [y]=>y
 | ys=>.ip [dS [s],dS [],.sl none (ys.map fun y=>[y])]
theorem FG {s:UInt8} {ys:List D} (h:ys.length≠1):mM s ys = .ip [dS [s],dS [],.sl none (ys.map fun y=>[y])]:=by
 match ys,h with
 | [],_=>rfl
 | [_],h=>exact absurd rfl h
 | _ :: _ :: _,_=>rfl
theorem QU {s:UInt8} {ys:List D} (h:∀ y∈ys,y.one=true):(mM s ys).one=true:=by
 match ys,h with
 | [],_=>rfl
 | [y],h=>exact h y ak
 | _ :: _ :: _,_=>rfl
theorem acz (G:aC) (t:List UInt8) (ht:t.length<=2000) (g:FuncId) (s:UInt8) (sn:Int) (tZ:(s.toNat:Int)=sn) (gv:s≠0) (HI:Utf8.encode sn=bs [s]) (a:Int) (d:Nat) (f:Nat->Rs Ex) (hf:lB t f) (ov:List Ex->Ex) (wL:∀ l,dR (ov l)=mM s (l.map dR))
  (fv:Reads G t [500] [] g [.ref 500 0 0,.d (ab a)] d f):Reads G t [500] [] 254 [.ref 500 0 0,.d (.v (.int .u8 sn)),.d (ab a),.bm g (.ref 500 0 0)] d (fun i=>(lv t s f i []).map ov):=by
 obtain⟨yF,kF,fv⟩:=fv;refine FA fun i hi=>?_;generalize hR:lv t s f i []=R;generalize hZ:x2 t s f i []=Z;refine⟨mM s (Z.1.map dR ++ [yF Z.2]),kF Z.2,?_⟩
 have wQ:∀ (k:Nat) (ys:List D) (e p:Int),((e=0/\p = -1/\∃ acc,ys=acc.map dR/\R = .ok acc k)\/(∃ c p' q,R = .err c p' q/\e=c/\p=p'/\ys=Z.1.map dR ++ [yF Z.2]/\k=kF Z.2))->
   jA (R.map ov) (mM s (Z.1.map dR ++ [yF Z.2]))=mM s ys/\ji (R.map ov) (kF Z.2)=k/\eR (R.map ov)=e/\pR (R.map ov)=p:=by
  rintro k ys e p (⟨rfl,rfl,acc,rfl,rfl⟩ | ⟨c,p',q,rfl,rfl,rfl,rfl,rfl⟩)
  .exact⟨by simp[Rs.map,jA,wL],rfl,rfl,rfl⟩
  .exact⟨rfl,rfl,rfl,rfl⟩
 have kU:∀ (n i:Nat) (acc:List Ex),i<=t.length->t.length+1 - i<=n->∀ c p q,iu t s f n i acc = .err c p q->0 < c/\(yF (oZ t s f n i acc).2).one=true/\kF (oZ t s f n i acc).2<=t.length+d:=by
  intro n
  induction n with
  | zero=>intro i acc hi hn;omega
  | succ n ih=>
   intro i acc hi hn c p q h;rw[iu]at h;rw[oZ]
   cases b8:f i with
   | err c' p' q'=>
    rw[b8]at h;simp only[Rs.err.injEq]at h;obtain⟨rfl,-,-⟩:=h;exact (fv i hi).2 _ _ _ b8
   | ok x j=>
    rw[b8]at h;obtain⟨g1,g2⟩:=hf i x j hi b8;obtain⟨t1,t2,t3⟩:=oh (c:=s) g2;dsimp only at h ⊢;split at h
    .rename_i dK;rw[if_pos dK];exact ih _ _ t2 aa c p q h
    .cases h
 refine⟨?_,fun c p q h=>?_⟩
 rotate_left
 .cases R with
  | ok l j=>cases h
  | err c' p' q'=>
   simp only[Rs.map,Rs.err.injEq]at h;obtain⟨rfl,rfl,rfl⟩:=h;obtain⟨h1,h2,h3⟩:=kU _ i [] hi (agD _) _ _ _ hR
   have Hp:(oZ t s f (t.length+1 - i) i []).2=Z.2:=by rw[<- hZ];rfl
   rw[Hp]at h2 h3;refine⟨h1,QU fun y hy=>?_,h3⟩
   rcases agN.1 hy with hy | hy
   .obtain⟨x,_,rfl⟩:=ag3.1 hy;exact wv x
   .simp at hy;subst hy;exact h2
 generalize Z5:mM s (Z.1.map dR ++ [yF Z.2])=yE at wQ ⊢;generalize R.map ov=RR at wQ ⊢;refine MC.aQ (aB _) func254 rfl rfl (rs:=[.tmp 8]) results254 (by simp[ntmps254]) rfl fun X=>?_;simp only[ntmps254];have fw:=aiC;refine ae fw [0,1,2,3] [500] ?_;have HO:=(fv i hi).1
 have kN:(jA (f i) (yF i)).one=true:=by
  cases b8:f i with
  | ok x j=>exact wv x
  | err c p q=>exact ((fv i hi).2 _ _ _ b8).2.1
 have y7:=cells_one kN;have qf:=(Aq fw @y7);refine kr HO [0,1,2,3,9] [500,13] ?_;refine ag fun K1 aF=>?_
 refine cy (S:=Nat×List D×Int×Int) (fun z=>(z.2.2.1=0/\z.2.2.2 = -1/\z.1<=t.length/\∃ acc,z.2.1=acc.map dR/\0 < acc.length/\acc.length<=z.1/\(if (eD t s z.1).1 then lv t s f (eD t s z.1).2 acc else .ok acc (eD t s z.1).2)=R/\((eD t s z.1).1=true->x2 t s f (eD t s z.1).2 acc=Z))\/(0 < z.2.2.1/\z.2.1.length<=2001/\∃ c p q,R = .err c p q/\z.2.2.1=c/\z.2.2.2=p/\z.2.1=Z.1.map dR ++ [yF Z.2]/\z.1=kF Z.2))
  (fun z=>⟨bn [(0,.ref 500 0 0),(1,.d (.v (.int .u8 sn))),(2,.d (ab a)),(3,.bm g (.ref 500 0 0)),(9,.own 13 0 z.2.1.length)],aw [(500,.box 323 [.d (dS t),int z.1,int z.2.2.1,int z.2.2.2]),(13,.sl 119 1 (z.2.1.map fun y=>[y]))]⟩) (fun z=>if z.2.2.1=0 then t.length+1 - z.1 else 0) (ji (f i) (kF i),[jA (f i) (yF i)],eR (f i),pR (f i)) ?_ ?_ ?_
 .refine bq fw
 .cases b8:f i with
  | ok x j=>
   obtain⟨g1,g2⟩:=hf i x j hi b8;rw[uw hf hi,b8]at hR;rw[vG hf hi,b8]at hZ;exact .inl ⟨rfl,rfl,g2,[x],rfl,ak,by simp[ji];omega,hR,fun h=>by dsimp only[ji]at h ⊢;simpa only[h,if_true,ahP]using hZ⟩
  | err c p q=>
   rw[uw hf hi,b8]at hR;rw[vG hf hi,b8]at hZ;obtain⟨h1,h2,h3⟩:=(fv i hi).2 _ _ _ b8;exact .inr ⟨h1,ak,c,p,0,hR.symm,rfl,rfl,by rw[<- hZ];rfl,by rw[<- hZ];rfl⟩
 .rintro⟨k,ys,e,p⟩ hI;dsimp only at hI ⊢;refine ag fun K2 au=>?_
  refine (fun wM=>?_) (fun (σ:St) (k:Nat) (ys:List D) (e p:Int) (hl:ys.length<=2001) (HA:(e=0/\p = -1/\∃ acc,ys=acc.map dR/\R = .ok acc k)\/(∃ c p' q,R = .err c p' q/\e=c/\p=p'/\ys=Z.1.map dR ++ [yF Z.2]/\k=kF Z.2)) himp=>
   aF σ (AW.imp (τ:=⟨bn [(0,.ref 500 0 0),(1,.d (.v (.int .u8 sn))),(9,.own 13 0 ys.length)],aw [(500,.box 323 [.d (dS t),int k,int e,int p]),(13,.sl 119 1 (ys.map fun y=>[y]))]⟩) himp ?_))
  .rcases hI with⟨rfl,rfl,hk,acc,rfl,Hq,XZ,gW,lX⟩ | ⟨he,hlen,c,p',q,wI,rfl,rfl,rfl,rfl⟩
   .have eX:=Cw G t k aa hk 0 (-1);have dK:=Fj (t:=t) (i:=k) gv;rw[tZ]at dK;have lO:=KK (t:=t) (c:=s) (i:=k);obtain⟨t1,t2,t3⟩:=oh (t:=t) (c:=s) hk;have iq:=lx hk;by_cases hb:((pD t k).toNat:Int)=sn
    .rw[decide_eq_true hb]at dK;rw[dK]at gW lX lO t3;simp only[if_true]at gW lO;have lX:=lX rfl;have t3:=t3 rfl;rw[lO]at gW lX t2 t3;have qf:=(Aq fw @hb);refine kr eX [0,1,2,3,9,25] [500,13] ?_;refine aI (ar (au _ ?_));refine bd (ae fw [0,1,2,3,9] [500,13] ?_);have sb:=(fv _ t2).1;rw[ahE]at sb
     have rC:(jA (f (bw t k+1)) (yF (bw t k+1))).one=true:=by
      cases b8:f (bw t k+1) with
      | ok x j=>exact wv x
      | err c p q=>exact ((fv _ t2).2 _ _ _ b8).2.1
     have tJ:=cells_one rC;refine eU (aB _) fun K' ao=>?_;(repeat refine aM fun Kq af=>?_;simp[ab,bL,dS,tJ,rC,sh];(repeat refine⟨aa,?_⟩);refine af _ ?_);refine aM fun Kq af=>?_;simp[ab,bL,dS,tJ,rC,sh];refine dT.mc (sb) ?_ ?_ ?_ ?_ ?_<;>simp[ab,bL,dS,tJ,rC,sh];refine af _ ?_;(repeat refine aM fun Kq af=>?_;simp[ab,bL,dS,tJ,rC,sh];(repeat refine⟨aa,?_⟩);refine af _ ?_);refine bK (ao _ ?_);(try simp only[aT,aV]);refine ba.mk (ji (f (bw t k+1)) (kF (bw t k+1)),acc.map dR ++ [jA (f (bw t k+1)) (yF (bw t k+1))],eR (f (bw t k+1)),pR (f (bw t k+1))) ?_ ?_ ?_
     .cases b8:f (bw t k+1) with
      | ok x j=>
       obtain⟨g1,g2⟩:=hf _ x j t2 b8;rw[uw hf t2,b8]at gW;rw[vG hf t2,b8]at lX;exact .inl ⟨rfl,rfl,g2,acc ++ [x],by simp[jA],ak,by simp[ji];omega,gW,fun h=>by dsimp only[ji]at h ⊢;simpa only[h,if_true]using lX⟩
      | err c p q=>
       rw[uw hf t2,b8]at gW;rw[vG hf t2,b8]at lX;obtain⟨h1,h2,h3⟩:=(fv _ t2).2 _ _ _ b8;exact .inr ⟨h1,by simp;omega,c,p,0,gW.symm,rfl,rfl,by rw[<- lX];rfl,by rw[<- lX];rfl⟩
     .cases b8:f (bw t k+1) with
      | ok x j=>
       obtain⟨g1,g2⟩:=hf _ x j t2 b8;simp only[eR,ji,if_true];omega
      | err c p q=>
       obtain⟨h1,h2,h3⟩:=(fv _ t2).2 _ _ _ b8
       have lf:¬ c=0:=aa
       simp[eR,lf];omega
     .refine bq fw
    .rw[decide_eq_false hb]at dK;rw[dK]at gW lO;simp only[agE,if_false]at gW lO;have qf:=(Aq fw @hb);refine kr eX [0,1,2,3,9,25] [500,13] ?_;refine al (bW (wM _ (bw t k) (acc.map dR) 0 (-1) (by simp;omega) (.inl ⟨rfl,rfl,acc,rfl,by rw[<- gW,lO]⟩) ?_));refine bq fw
   .have lJ:¬ e=0:=aa
    have qf:=(Aq fw @lJ);refine ay [0,1,2,3,9,25] [500,13] ?_;refine al (bW (wM _ (kF Z.2) _ e p' hlen (.inr ⟨e,p',q,wI,rfl,rfl,rfl,rfl⟩) ?_));refine bq fw
  .obtain⟨h1,h2,h3,h4⟩:=wQ k ys e p HA;rw[h1,h2,h3,h4];refine ag fun K3 aU=>?_;by_cases ig:ys.length=1
   .obtain⟨y,rfl⟩:=ag7.1 ig;refine ae fw [1,9,41] [500,13] ?_;refine aI (ae fw [8] [500] ?_);exact aW (Aq fw (Aq @mM.eq_1 @mM.eq_2))
   .have gC:¬ (ys.length:Int)=1:=aa
    have qf:=(Aq fw (Aq @ig @gC));refine ay [1,9,41] [500,13] ?_;refine al (ar (aU _ ?_));refine AW.imp (aK.freeze 13 bO) ?_;refine AW.st (by simp[ab,bL,dS,sh];rfl) ?_;have qf:=(Aq fw @HI);refine ay [8] [500,49] ?_;refine dI fw 49 ?_;refine bR ?_;simp[D.le,D.le.go,aL,ab,bL,dS,FG ig,dS,bX,D.le_refl,D.bJ]
theorem acA (G:aC) (t:List UInt8) (ht:t.length<=2000) (g:FuncId) (s:UInt8) (sn:Int) (tZ:(s.toNat:Int)=sn) (gv:s≠0) (HI:Utf8.encode sn=bs [s]) (a:Int) (d:Nat) (f:Nat->Rs Ex) (hf:lB t f) (ov:List Ex->Ex) (wL:∀ l,dR (ov l)=mM s (l.map dR))
  (fv:Reads G t [500,501] [(501,.box 321 [.ref 500 0 0])] g [.d (ab a),.ref 501 0 0] d f):Reads G t [500,501] [(501,.box 321 [.ref 500 0 0])] 254 [.ref 500 0 0,.d (.v (.int .u8 sn)),.d (ab a),.fn (.func g) [.ref 501 0 0]] d (fun i=>(lv t s f i []).map ov):=by
 obtain⟨yF,kF,fv⟩:=fv;refine FA fun i hi=>?_;generalize hR:lv t s f i []=R;generalize hZ:x2 t s f i []=Z;refine⟨mM s (Z.1.map dR ++ [yF Z.2]),kF Z.2,?_⟩
 have wQ:∀ (k:Nat) (ys:List D) (e p:Int),((e=0/\p = -1/\∃ acc,ys=acc.map dR/\R = .ok acc k)\/(∃ c p' q,R = .err c p' q/\e=c/\p=p'/\ys=Z.1.map dR ++ [yF Z.2]/\k=kF Z.2))->
   jA (R.map ov) (mM s (Z.1.map dR ++ [yF Z.2]))=mM s ys/\ji (R.map ov) (kF Z.2)=k/\eR (R.map ov)=e/\pR (R.map ov)=p:=by
  rintro k ys e p (⟨rfl,rfl,acc,rfl,rfl⟩ | ⟨c,p',q,rfl,rfl,rfl,rfl,rfl⟩)
  .exact⟨by simp[Rs.map,jA,wL],rfl,rfl,rfl⟩
  .exact⟨rfl,rfl,rfl,rfl⟩
 have kU:∀ (n i:Nat) (acc:List Ex),i<=t.length->t.length+1 - i<=n->∀ c p q,iu t s f n i acc = .err c p q->0 < c/\(yF (oZ t s f n i acc).2).one=true/\kF (oZ t s f n i acc).2<=t.length+d:=by
  intro n
  induction n with
  | zero=>intro i acc hi hn;omega
  | succ n ih=>
   intro i acc hi hn c p q h;rw[iu]at h;rw[oZ]
   cases b8:f i with
   | err c' p' q'=>
    rw[b8]at h;simp only[Rs.err.injEq]at h;obtain⟨rfl,-,-⟩:=h;exact (fv i hi).2 _ _ _ b8
   | ok x j=>
    rw[b8]at h;obtain⟨g1,g2⟩:=hf i x j hi b8;obtain⟨t1,t2,t3⟩:=oh (c:=s) g2;dsimp only at h ⊢;split at h
    .rename_i dK;rw[if_pos dK];exact ih _ _ t2 aa c p q h
    .cases h
 refine⟨?_,fun c p q h=>?_⟩
 rotate_left
 .cases R with
  | ok l j=>cases h
  | err c' p' q'=>
   simp only[Rs.map,Rs.err.injEq]at h;obtain⟨rfl,rfl,rfl⟩:=h;obtain⟨h1,h2,h3⟩:=kU _ i [] hi (agD _) _ _ _ hR
   have Hp:(oZ t s f (t.length+1 - i) i []).2=Z.2:=by rw[<- hZ];rfl
   rw[Hp]at h2 h3;refine⟨h1,QU fun y hy=>?_,h3⟩
   rcases agN.1 hy with hy | hy
   .obtain⟨x,_,rfl⟩:=ag3.1 hy;exact wv x
   .simp at hy;subst hy;exact h2
 generalize Z5:mM s (Z.1.map dR ++ [yF Z.2])=yE at wQ ⊢;generalize R.map ov=RR at wQ ⊢;refine MC.aQ (aB _) func254 rfl rfl (rs:=[.tmp 8]) results254 (by simp[ntmps254]) rfl fun X=>?_;simp only[ntmps254];have fw:=aiC;refine ae fw [0,1,2,3] [500,501] ?_;have HO:=(fv i hi).1
 have kN:(jA (f i) (yF i)).one=true:=by
  cases b8:f i with
  | ok x j=>exact wv x
  | err c p q=>exact ((fv i hi).2 _ _ _ b8).2.1
 have y7:=cells_one kN;have qf:=(Aq fw @y7);refine kr HO [0,1,2,3,9] [500,501,13] ?_;refine ag fun K1 aF=>?_
 refine cy (S:=Nat×List D×Int×Int) (fun z=>(z.2.2.1=0/\z.2.2.2 = -1/\z.1<=t.length/\∃ acc,z.2.1=acc.map dR/\0 < acc.length/\acc.length<=z.1/\(if (eD t s z.1).1 then lv t s f (eD t s z.1).2 acc else .ok acc (eD t s z.1).2)=R/\((eD t s z.1).1=true->x2 t s f (eD t s z.1).2 acc=Z))\/(0 < z.2.2.1/\z.2.1.length<=2001/\∃ c p q,R = .err c p q/\z.2.2.1=c/\z.2.2.2=p/\z.2.1=Z.1.map dR ++ [yF Z.2]/\z.1=kF Z.2))
  (fun z=>⟨bn [(0,.ref 500 0 0),(1,.d (.v (.int .u8 sn))),(2,.d (ab a)),(3,.fn (.func g) [.ref 501 0 0]),(9,.own 13 0 z.2.1.length)],aw [(500,.box 323 [.d (dS t),int z.1,int z.2.2.1,int z.2.2.2]),(501,.box 321 [.ref 500 0 0]),(13,.sl 119 1 (z.2.1.map fun y=>[y]))]⟩) (fun z=>if z.2.2.1=0 then t.length+1 - z.1 else 0) (ji (f i) (kF i),[jA (f i) (yF i)],eR (f i),pR (f i)) ?_ ?_ ?_
 .refine bq fw
 .cases b8:f i with
  | ok x j=>
   obtain⟨g1,g2⟩:=hf i x j hi b8;rw[uw hf hi,b8]at hR;rw[vG hf hi,b8]at hZ;exact .inl ⟨rfl,rfl,g2,[x],rfl,ak,by simp[ji];omega,hR,fun h=>by dsimp only[ji]at h ⊢;simpa only[h,if_true,ahP]using hZ⟩
  | err c p q=>
   rw[uw hf hi,b8]at hR;rw[vG hf hi,b8]at hZ;obtain⟨h1,h2,h3⟩:=(fv i hi).2 _ _ _ b8;exact .inr ⟨h1,ak,c,p,0,hR.symm,rfl,rfl,by rw[<- hZ];rfl,by rw[<- hZ];rfl⟩
 .rintro⟨k,ys,e,p⟩ hI;dsimp only at hI ⊢;refine ag fun K2 au=>?_
  refine (fun wM=>?_) (fun (σ:St) (k:Nat) (ys:List D) (e p:Int) (hl:ys.length<=2001) (HA:(e=0/\p = -1/\∃ acc,ys=acc.map dR/\R = .ok acc k)\/(∃ c p' q,R = .err c p' q/\e=c/\p=p'/\ys=Z.1.map dR ++ [yF Z.2]/\k=kF Z.2)) himp=>
   aF σ (AW.imp (τ:=⟨bn [(0,.ref 500 0 0),(1,.d (.v (.int .u8 sn))),(9,.own 13 0 ys.length)],aw [(500,.box 323 [.d (dS t),int k,int e,int p]),(501,.box 321 [.ref 500 0 0]),(13,.sl 119 1 (ys.map fun y=>[y]))]⟩) himp ?_))
  .rcases hI with⟨rfl,rfl,hk,acc,rfl,Hq,XZ,gW,lX⟩ | ⟨he,hlen,c,p',q,wI,rfl,rfl,rfl,rfl⟩
   .have eX:=Cw G t k aa hk 0 (-1);have dK:=Fj (t:=t) (i:=k) gv;rw[tZ]at dK;have lO:=KK (t:=t) (c:=s) (i:=k);obtain⟨t1,t2,t3⟩:=oh (t:=t) (c:=s) hk;have iq:=lx hk;by_cases hb:((pD t k).toNat:Int)=sn
    .rw[decide_eq_true hb]at dK;rw[dK]at gW lX lO t3;simp only[if_true]at gW lO;have lX:=lX rfl;have t3:=t3 rfl;rw[lO]at gW lX t2 t3;have qf:=(Aq fw @hb);refine kr eX [0,1,2,3,9,25] [500,501,13] ?_;refine aI (ar (au _ ?_));refine bd (ae fw [0,1,2,3,9] [500,501,13] ?_);have sb:=(fv _ t2).1;rw[ahE]at sb
     have rC:(jA (f (bw t k+1)) (yF (bw t k+1))).one=true:=by
      cases b8:f (bw t k+1) with
      | ok x j=>exact wv x
      | err c p q=>exact ((fv _ t2).2 _ _ _ b8).2.1
     have tJ:=cells_one rC;refine eU (aB _) fun K' ao=>?_;(repeat refine aM fun Kq af=>?_;simp[ab,bL,dS,tJ,rC,sh];(repeat refine⟨aa,?_⟩);refine af _ ?_);refine aM fun Kq af=>?_;simp[ab,bL,dS,tJ,rC,sh];refine dT.mc (sb) ?_ ?_ ?_ ?_ ?_<;>simp[ab,bL,dS,tJ,rC,sh];refine af _ ?_;(repeat refine aM fun Kq af=>?_;simp[ab,bL,dS,tJ,rC,sh];(repeat refine⟨aa,?_⟩);refine af _ ?_);refine bK (ao _ ?_);(try simp only[aT,aV]);refine ba.mk (ji (f (bw t k+1)) (kF (bw t k+1)),acc.map dR ++ [jA (f (bw t k+1)) (yF (bw t k+1))],eR (f (bw t k+1)),pR (f (bw t k+1))) ?_ ?_ ?_
     .cases b8:f (bw t k+1) with
      | ok x j=>
       obtain⟨g1,g2⟩:=hf _ x j t2 b8;rw[uw hf t2,b8]at gW;rw[vG hf t2,b8]at lX;exact .inl ⟨rfl,rfl,g2,acc ++ [x],by simp[jA],ak,by simp[ji];omega,gW,fun h=>by dsimp only[ji]at h ⊢;simpa only[h,if_true]using lX⟩
      | err c p q=>
       rw[uw hf t2,b8]at gW;rw[vG hf t2,b8]at lX;obtain⟨h1,h2,h3⟩:=(fv _ t2).2 _ _ _ b8;exact .inr ⟨h1,by simp;omega,c,p,0,gW.symm,rfl,rfl,by rw[<- lX];rfl,by rw[<- lX];rfl⟩
     .cases b8:f (bw t k+1) with
      | ok x j=>
       obtain⟨g1,g2⟩:=hf _ x j t2 b8;simp only[eR,ji,if_true];omega
      | err c p q=>
       obtain⟨h1,h2,h3⟩:=(fv _ t2).2 _ _ _ b8
       have lf:¬ c=0:=aa
       simp[eR,lf];omega
     .refine bq fw
    .rw[decide_eq_false hb]at dK;rw[dK]at gW lO;simp only[agE,if_false]at gW lO;have qf:=(Aq fw @hb);refine kr eX [0,1,2,3,9,25] [500,501,13] ?_;refine al (bW (wM _ (bw t k) (acc.map dR) 0 (-1) (by simp;omega) (.inl ⟨rfl,rfl,acc,rfl,by rw[<- gW,lO]⟩) ?_));refine bq fw
   .have lJ:¬ e=0:=aa
    have qf:=(Aq fw @lJ);refine ay [0,1,2,3,9,25] [500,501,13] ?_;refine al (bW (wM _ (kF Z.2) _ e p' hlen (.inr ⟨e,p',q,wI,rfl,rfl,rfl,rfl⟩) ?_));refine bq fw
  .obtain⟨h1,h2,h3,h4⟩:=wQ k ys e p HA;rw[h1,h2,h3,h4];refine ag fun K3 aU=>?_;by_cases ig:ys.length=1
   .obtain⟨y,rfl⟩:=ag7.1 ig;refine ae fw [1,9,41] [500,501,13] ?_;refine aI (ae fw [8] [500,501] ?_);exact aW (Aq fw (Aq @mM.eq_1 @mM.eq_2))
   .have gC:¬ (ys.length:Int)=1:=aa
    have qf:=(Aq fw (Aq @ig @gC));refine ay [1,9,41] [500,501,13] ?_;refine al (ar (aU _ ?_));refine AW.imp (aK.freeze 13 bO) ?_;refine AW.st (by simp[ab,bL,dS,sh];rfl) ?_;have qf:=(Aq fw @HI);refine ay [8] [500,501,49] ?_;refine dI fw 49 ?_;refine bR ?_;simp[D.le,D.le.go,aL,ab,bL,dS,FG ig,dS,bX,D.le_refl,D.bJ]
theorem acZ {r r' s:Nat} (h:r≠r') (hs:s≠r') (hr:s≠r) (row xY:Row):qR r r' (aw [(r,row),(s,xY)])=aw [(r',row.tr (gR r r') (gQ r r')),(s,xY.tr (gR r r') (gQ r r'))]:=by
 funext q;unfold qR;by_cases h1:q=r'
 .subst h1;simp[aw,List.lookup]
 .rw[if_neg h1];by_cases h2:q=r
  .subst h2;simp[aw,List.lookup,beq_eq_false_iff_ne.2 h1,beq_eq_false_iff_ne.2 (ahD hr)]
  .by_cases h3:q=s
   .subst h3;simp[aw,List.lookup,h2,beq_eq_false_iff_ne.2 h1,beq_eq_false_iff_ne.2 h2]
   .simp[aw,List.lookup,h2,beq_eq_false_iff_ne.2 h1,beq_eq_false_iff_ne.2 h2,beq_eq_false_iff_ne.2 h3]
theorem VI (l:List Ex):dR (sZ l)=mM 38 (l.map dR):=by
 match l with
 | []=>rfl
 | [x]=>rfl
 | x :: y :: l=>rw[FG ak];simp[sZ,dR,yC]
theorem VK (l:List Ex):dR (s3 l)=mM 124 (l.map dR):=by
 match l with
 | []=>rfl
 | [x]=>rfl
 | x :: y :: l=>rw[FG ak];simp[s3,dR,yC]
theorem l33:(⟨#[33]⟩:ByteArray)=bs [33]:=rfl
theorem aaW:(⟨#[98,105,116]⟩:ByteArray)=bs [98,105,116]:=rfl
theorem Wl:Utf8.encode 38=bs [38]:=by decide +kernel
theorem Wj:Utf8.encode 124=bs [124]:=by decide +kernel
theorem Wm:Utf8.encode 48=bs [48]:=by decide +kernel
theorem Wn:Utf8.encode 49=bs [49]:=by decide +kernel
theorem Wo:Utf8.encode 94=bs [94]:=by decide +kernel
theorem Wk:Utf8.encode 126=bs [126]:=by decide +kernel
theorem aiT:type_of% (Aq @bL.eq_1 @aii):=(Aq @bL.eq_1 @aii)
theorem acD (G:aC) (t:List UInt8) (ht:t.length<=2000) (a:Int) (d:Nat) (h:Reads G t [500] [] 256 [.ref 500 0 0,.d (ab a)] d (cD t d)) :
  Reads G t [500,501] [(501,.box 321 [.ref 500 0 0])] 255 [.d (ab a),.ref 501 0 0] d (mW t (cD t d)):=by
 obtain⟨yF,kF,hr⟩:=acz G t ht 256 38 38 rfl bO Wl a d (cD t d) (n9 t d) sZ VI h;refine⟨yF,kF,fun i hi=>⟨?_,(hr i hi).2⟩⟩;have hc:=(hr i hi).1;have hR:mW t (cD t d) i=(lv t 38 (cD t d) i []).map sZ:=rfl;dsimp only at hc;rw[<- hR]at hc;generalize mW t (cD t d) i=R at hc ⊢;refine MC.aQ (aB _) func255 rfl rfl (rs:=[.tmp 3]) results255 (by simp[ntmps255]) rfl fun X=>?_;simp only[ntmps255];have fw:=aiC;refine ae fw [0,1] [500,501] ?_;refine bD fw hc [3] [500,501] ?_;exact aW (Aq fw aiT)
theorem Qw (G:aC) (t:List UInt8) (ht:t.length<=2000) (a:Int) (d:Nat) (h:Reads G t [500] [] 256 [.ref 500 0 0,.d (ab a)] d (cD t d)) :
  Reads G t [500] [] 202 [.ref 500 0 0,.d (ab a)] d (lr t (cD t d)):=by
 obtain⟨yF,kF,hr⟩:=acA G t ht 255 124 124 rfl bO Wj a d (mW t (cD t d)) (Al (n9 t d)) s3 VK (acD G t ht a d h);refine⟨yF,kF,fun i hi=>⟨?_,(hr i hi).2⟩⟩;have hc:=(hr i hi).1;have hR:lr t (cD t d) i=(lv t 124 (mW t (cD t d)) i []).map s3:=rfl;dsimp only at hc;rw[<- hR]at hc;generalize lr t (cD t d) i=R at hc ⊢;refine MC.aQ (aB _) func202 rfl rfl (rs:=[.tmp 4]) results202 (by simp[ntmps202]) rfl fun X=>?_;simp only[ntmps202];have fw:=aiC;refine ae fw [1,2] [2,500] ?_;refine AW.imp (aK.dM (r:=2) (r':=501) bO ak) ?_;refine AW.st (by simp[gR,gQ,Go.Av.dM,acZ];rfl) ?_;refine bD fw hc [4] [500,501] ?_;exact aW (Aq fw aiT)
theorem abU {t:List UInt8} {i:Nat} {c:UInt8} (h:t[bw t i]? = some c):pD t i=c:=by
 unfold pD;rw[agw,h];rfl
theorem abT {t:List UInt8} {i:Nat} {c:UInt8} (hc:c≠0) (h:t[bw t i]?≠some c):¬ ((pD t i).toNat:Int)=(c.toNat:Int):=by
 have h1:=Fj (t:=t) (i:=i) hc
 have h2:(eD t c i).1=false:=by
  unfold eD;rw[if_neg h]
 rw[h2]at h1;exact of_decide_eq_false h1.symm
def zN:Rs Ex->Rs Ex
 | .ok x k=>.ok (.not x) k
 | .err c p _=>.err c p 0
theorem KY {t:List UInt8} {q i j:Nat} {s:List UInt8} (h:fK t q i = .ok s j):iY t (bw t i)=s:=by
 unfold fK at h;split at h
 .cases h
 .split at h
  .cases h
  .simp only[Rs.ok.injEq]at h;exact h.1
theorem KZ {t:List UInt8} {q i p q':Nat} {c:Int} (hi:i<=t.length) (h:fK t q i = .err c p q'):0 < c/\p<=t.length:=by
 have iq:=lx hi;unfold fK at h;split at h
 .simp only[Rs.err.injEq]at h;omega
 .split at h
  .simp only[Rs.err.injEq]at h;omega
  .cases h
theorem acj (G:aC) (t:List UInt8) (ht:t.length<=2000):∀ (d:Nat) (a:Int),d<=20->a+d=20->Reads G t [500] [] 256 [.ref 500 0 0,.d (ab a)] d (cD t d):=by
 intro d
 induction d with
 | zero=>
  intro a _ ha;refine FA fun i hi=>⟨.v (.pointer none),bw t i,?_,fun c p q h=>?_⟩
  .have fB:=Cu G t i aa hi 4
   have oF:20<=a:=aa
   rw[cD];show MC _ _ _ _ _ _ (.d (.v (.pointer none))) (aw (bL t (bw t i) 4 (bw t i) ++ []));refine MC.aQ (aB _) func256 rfl rfl (rs:=[.tmp 4]) results256 (by simp[ntmps256]) rfl fun X=>?_;simp only[ntmps256];have fw:=aiC;refine ae fw [0,1] [500] ?_;refine ag fun K1 aF=>ae fw [0,1,12] [500] ?_;refine al (ar (aF _ ?_));refine ag fun K2 au=>?_;have qf:=(Aq fw @oF);refine ay [0,1,14] [500] ?_;refine aI (bD fw fB [4] [500] ?_);exact aW (Aq fw aiT)
  .rw[cD]at h;simp only[Rs.err.injEq]at h;have:=lx hi;exact⟨aa,rfl,aa⟩
 | succ d ih=>
  intro a hd ha;have B4:=ih (a+1) aa aa;have xA:=Qw G t ht (a+1) d B4;obtain⟨yF,kF,B4⟩:=B4;obtain⟨yO,kO,xA⟩:=xA;refine FA fun i hi=>?_;have eX:=Cw G t i aa hi 0 (-1);have iq:=lx hi
  have oF:¬ 20<=a:=aa
  have ha0:0<=a:=aa
  have vv:=fun (c:UInt8) (h:t[bw t i]? = some c)=>abU h;have vt:=fun (c:UInt8) (hc:c≠0) (h:t[bw t i]?≠some c)=>abT hc h;have aG:∀ {c:UInt8},t[bw t i]? = some c->bw t i+1<=t.length:=fun h=>(BY.1 h).1;rw[cD];generalize pD t i=b at eX vv vt;generalize bw t i=j at eX iq vv vt aG ⊢;by_cases rT:t[j]? = some 33
  .rw[if_pos rT];obtain rfl:=vv 33 rT;have hc:=(B4 (j+1) (aG rT)).1;rw[ahE]at hc;have he:=(B4 (j+1) (aG rT)).2
   have kN:(jA (cD t d (j+1)) (yF (j+1))).one=true:=by
    cases b8:cD t d (j+1) with
    | ok x k=>exact wv x
    | err c p q=>exact (he _ _ _ b8).2.1
   have y7:=cells_one kN
   change ∃ y k,C8 G t [500] [] 256 [.ref 500 0 0,.d (ab a)] (d+1) (zN (cD t d (j+1))) i y k
   generalize tD:cD t d (j+1)=R at hc he kN y7 ⊢;refine⟨.ip [dS [33],dS [],.sl none [[yF (j+1)]]],kF (j+1),?_,fun c p q h=>?_⟩
   .have h1:jA (zN R) (.ip [dS [33],dS [],.sl none [[yF (j+1)]]]) = .ip [dS [33],dS [],.sl none [[jA R (yF (j+1))]]]:=by cases R<;>rfl
    have h2:ji (zN R) (kF (j+1))=ji R (kF (j+1)):=by cases R<;>rfl
    have h3:eR (zN R)=eR R:=by cases R<;>rfl
    have h4:pR (zN R)=pR R:=by cases R<;>rfl
    rw[h1,h2,h3,h4];refine MC.aQ (aB _) func256 rfl rfl (rs:=[.tmp 4]) results256 (by simp[ntmps256]) rfl fun X=>?_;simp only[ntmps256];have fw:=aiC;refine ae fw [0,1] [500] ?_;refine ag fun K1 aF=>ae fw [0,1,12] [500] ?_;refine al (ar (aF _ ?_));refine ag fun K2 au=>?_;have qf:=(Aq fw @oF);refine ay [0,1,14] [500] ?_;refine al (ar (au _ ?_));refine ag fun K3 aU=>bD fw eX [0,1,5] [500] ?_;refine ae fw [0,1,5,19] [500] ?_;refine bd (ae fw [0,1,5,19,20] [500] ?_);refine aI (ae fw [0,1] [500] ?_);have qf:=(Aq fw (Aq @y7 (Aq @kN @l33)));refine kr hc [4] [33,35,500] ?_;refine AW.imp (aK.freeze 33 bO) ?_;refine AW.st (by simp[ab,bL,dS];rfl) ?_;refine dI fw 35 ?_;refine bR ?_;simp[D.le,D.le.go,aL,ab,bL,dS,bL,dS,bX,D.le_refl,D.bJ]
   .cases R with
    | ok x k=>cases h
    | err c' p' q'=>
     simp only[zN,Rs.err.injEq]at h;obtain⟨rfl,rfl,rfl⟩:=h;obtain⟨g1,g2,g3⟩:=he _ _ _ rfl;exact⟨g1,rfl,aa⟩
  rw[if_neg rT];have n33:¬ (b.toNat:Int)=33:=vt 33 bO rT;by_cases c40:t[j]? = some 40
  .rw[if_pos c40];obtain rfl:=vv 40 c40;have hc:=(xA (j+1) (aG c40)).1;rw[ahE]at hc;have he:=(xA (j+1) (aG c40)).2
   cases hr:lr t (cD t d) (j+1) with
   | err c p q=>
    rw[hr]at hc;obtain⟨g1,g2,g3⟩:=he _ _ _ hr
    have g4:¬ c=0:=aa
    refine⟨yO (j+1),kO (j+1)+1,?_,fun c' p' q' h=>?_⟩
    .show MC _ _ _ _ _ _ (.d (yO (j+1))) (aw (bL t ((kO (j+1)+1:Nat):Int) c p ++ []));rw[ahE];refine MC.aQ (aB _) func256 rfl rfl (rs:=[.tmp 4]) results256 (by simp[ntmps256]) rfl fun X=>?_;simp only[ntmps256];have fw:=aiC;refine ae fw [0,1] [500] ?_;refine ag fun K1 aF=>ae fw [0,1,12] [500] ?_;refine al (ar (aF _ ?_));refine ag fun K2 au=>?_;have qf:=(Aq fw @oF);refine ay [0,1,14] [500] ?_;refine al (ar (au _ ?_));refine ag fun K3 aU=>bD fw eX [0,1,5] [500] ?_;refine ae fw [0,1,5,19] [500] ?_;refine bd (ae fw [0,1,5,19,20] [500] ?_);refine al (ae fw [0,1,5,19,36] [500] ?_);refine aI (ae fw [0,1] [500] ?_);refine bD (Aq fw (Aq @jA.eq_1 (Aq @jA.eq_2 (Aq @ji.eq_1 (Aq @ji.eq_2 (Aq @eR.eq_1 (Aq @eR.eq_2 (Aq @pR.eq_1 @pR.eq_2)))))))) hc [0,6] [500] ?_;refine ag fun K4 ck=>?_;have qf:=(Aq fw @g4);refine ay [0,6,59] [500] ?_;refine al (ar (ck _ ?_));refine ae fw [6] [500] ?_;refine ae fw [4] [500] ?_;exact aW (Aq fw aiT)
    .simp only[Rs.err.injEq]at h;obtain⟨rfl,rfl,rfl⟩:=h;exact⟨g1,g2,aa⟩
   | ok x k=>
    rw[hr]at hc;dsimp only[jA,ji,eR,pR]at hc;have hk:=(ur (n9 t d) (j+1) x k (aG c40) hr).2;have nT:=Cw G t k aa hk 0 (-1);have ff:=lx hk;have fB:=Cu G t (bw t k) aa ff 3;rw[x3 hk]at fB;have dK:=Fj (t:=t) (i:=k) (c:=41) bO;have lO:=KK (t:=t) (c:=41) (i:=k);have Yr:((41:UInt8).toNat:Int)=41:=rfl;rw[Yr]at dK;dsimp only;by_cases hb:((pD t k).toNat:Int)=41
    .rw[decide_eq_true hb]at dK;rw[dK]at lO ⊢;simp only[if_true]at lO ⊢;rw[lO];refine⟨default,0,?_,fun c p q h=>by cases h⟩;show MC _ _ _ _ _ _ (.d (dR x)) (aw (bL t ((bw t k+1:Nat):Int) 0 (-1) ++ []));rw[ahE];obtain⟨cx,hx⟩:=yB x;rw[hx]at hc ⊢;refine MC.aQ (aB _) func256 rfl rfl (rs:=[.tmp 4]) results256 (by simp[ntmps256]) rfl fun X=>?_;simp only[ntmps256];have fw:=aiC;refine ae fw [0,1] [500] ?_;refine ag fun K1 aF=>ae fw [0,1,12] [500] ?_;refine al (ar (aF _ ?_));refine ag fun K2 au=>?_;have qf:=(Aq fw @oF);refine ay [0,1,14] [500] ?_;refine al (ar (au _ ?_));refine ag fun K3 aU=>bD fw eX [0,1,5] [500] ?_;refine ae fw [0,1,5,19] [500] ?_;refine bd (ae fw [0,1,5,19,20] [500] ?_);refine al (ae fw [0,1,5,19,36] [500] ?_);refine aI (ae fw [0,1] [500] ?_);refine bD fw hc [0,6] [500] ?_;refine ag fun K4 ck=>?_;have qf:=(Aq fw @hb);refine kr nT [0,6,59] [500] ?_;refine al (ar (ck _ ?_));refine ae fw [6] [500] ?_;refine ae fw [4] [500] ?_;exact aW (Aq fw aiT)
    .rw[decide_eq_false hb]at dK;rw[dK]at lO ⊢;simp only[agE,if_false]at lO ⊢;rw[lO];refine⟨.v (.pointer none),bw t k,?_,fun c p q h=>?_⟩
     .show MC _ _ _ _ _ _ (.d (.v (.pointer none))) (aw (bL t (bw t k) 3 (bw t k) ++ []));obtain⟨cx,hx⟩:=yB x;rw[hx]at hc;refine MC.aQ (aB _) func256 rfl rfl (rs:=[.tmp 4]) results256 (by simp[ntmps256]) rfl fun X=>?_;simp only[ntmps256];have fw:=aiC;refine ae fw [0,1] [500] ?_;refine ag fun K1 aF=>ae fw [0,1,12] [500] ?_;refine al (ar (aF _ ?_));refine ag fun K2 au=>?_;have qf:=(Aq fw @oF);refine ay [0,1,14] [500] ?_;refine al (ar (au _ ?_));refine ag fun K3 aU=>bD fw eX [0,1,5] [500] ?_;refine ae fw [0,1,5,19] [500] ?_;refine bd (ae fw [0,1,5,19,20] [500] ?_);refine al (ae fw [0,1,5,19,36] [500] ?_);refine aI (ae fw [0,1] [500] ?_);refine bD fw hc [0,6] [500] ?_;refine ag fun K4 ck=>?_;have qf:=(Aq fw @hb);refine kr nT [0,6,59] [500] ?_;refine aI (bD fw fB [4] [500] ?_);exact aW (Aq fw aiT)
     .simp only[Rs.err.injEq]at h;exact⟨aa,rfl,aa⟩
  rw[if_neg c40];have zJ:¬ (b.toNat:Int)=40:=vt 40 bO c40;by_cases uG:t[j]? = some 48
  .rw[if_pos uG];obtain rfl:=vv 48 uG;have:=aG uG;refine⟨default,0,?_,fun c p q h=>by cases h⟩;show MC _ _ _ _ _ _ (.d (.ip [dS [48],dS [],eG])) (aw (bL t ((j+1:Nat):Int) 0 (-1) ++ []));rw[ahE];refine MC.aQ (aB _) func256 rfl rfl (rs:=[.tmp 4]) results256 (by simp[ntmps256]) rfl fun X=>?_;simp only[ntmps256];have fw:=aiC;refine ae fw [0,1] [500] ?_;refine ag fun K1 aF=>ae fw [0,1,12] [500] ?_;refine al (ar (aF _ ?_));refine ag fun K2 au=>?_;have qf:=(Aq fw @oF);refine ay [0,1,14] [500] ?_;refine al (ar (au _ ?_));refine ag fun K3 aU=>bD fw eX [0,1,5] [500] ?_;refine ae fw [0,1,5,19] [500] ?_;refine bd (ae fw [0,1,5,19,20] [500] ?_);refine al (ae fw [0,1,5,19,36] [500] ?_);refine al (ag fun K5 b9=>?_);refine ae fw [0,5,19,70] [500] ?_;refine aI (ar (b9 _ ?_));refine aI (ae fw [5] [500] ?_);have qf:=(Aq fw (Aq @Wm @eG.eq_1));refine ay [4] [83,500] ?_;refine dI fw 83 ?_;refine bR ?_;simp[D.le,D.le.go,aL,ab,bL,dS,bL,dS,eG,bX,D.le_refl,D.bJ]
  rw[if_neg uG];have zK:¬ (b.toNat:Int)=48:=vt 48 bO uG;by_cases c49:t[j]? = some 49
  .rw[if_pos c49];obtain rfl:=vv 49 c49;have:=aG c49;refine⟨default,0,?_,fun c p q h=>by cases h⟩;show MC _ _ _ _ _ _ (.d (.ip [dS [49],dS [],eG])) (aw (bL t ((j+1:Nat):Int) 0 (-1) ++ []));rw[ahE];refine MC.aQ (aB _) func256 rfl rfl (rs:=[.tmp 4]) results256 (by simp[ntmps256]) rfl fun X=>?_;simp only[ntmps256];have fw:=aiC;refine ae fw [0,1] [500] ?_;refine ag fun K1 aF=>ae fw [0,1,12] [500] ?_;refine al (ar (aF _ ?_));refine ag fun K2 au=>?_;have qf:=(Aq fw @oF);refine ay [0,1,14] [500] ?_;refine al (ar (au _ ?_));refine ag fun K3 aU=>bD fw eX [0,1,5] [500] ?_;refine ae fw [0,1,5,19] [500] ?_;refine bd (ae fw [0,1,5,19,20] [500] ?_);refine al (ae fw [0,1,5,19,36] [500] ?_);refine al (ag fun K5 b9=>?_);refine ae fw [0,5,19,70] [500] ?_;refine al (gH fw b9 [0,5,19,70] [500] ?_);refine aI (ae fw [5] [500] ?_);have qf:=(Aq fw (Aq @Wn @eG.eq_1));refine ay [4] [83,500] ?_;refine dI fw 83 ?_;refine bR ?_;simp[D.le,D.le.go,aL,ab,bL,dS,bL,dS,eG,bX,D.le_refl,D.bJ]
  rw[if_neg c49];have zL:¬ (b.toNat:Int)=49:=vt 49 bO c49;by_cases sY:t[j]? = some 94
  .rw[if_pos sY];obtain rfl:=vv 94 sY;have hj:=aG sY;have hw:=Kc G t 1 (j+1) aa hj;rw[ahE]at hw;have rG:∀ s k,fK t 1 (j+1) = .ok s k->iY t (bw t (j+1))=s:=fun s k h=>KY h;have vf:∀ c p q',fK t 1 (j+1) = .err c p q'->0 < c/\p<=t.length:=fun c p q' h=>KZ hj h;generalize hW:fK t 1 (j+1)=W at hw rG vf ⊢;generalize iY t (bw t (j+1))=sw at hw rG;refine⟨.ip [dS [94],dS sw,eG],cQ W,?_,fun c p q h=>?_⟩
   .have h1:jA (W.map .jk) (.ip [dS [94],dS sw,eG]) = .ip [dS [94],dS sw,eG]:=by
     cases W with
     | ok s k=>obtain rfl:=rG _ _ rfl;rfl
     | err c p q=>rfl
    have h2:ji (W.map Ex.jk) (cQ W)=cQ W:=by cases W<;>rfl
    have h3:eR (W.map Ex.jk)=eR W:=by cases W<;>rfl
    have h4:pR (W.map Ex.jk)=pR W:=by cases W<;>rfl
    rw[h1,h2,h3,h4];refine MC.aQ (aB _) func256 rfl rfl (rs:=[.tmp 4]) results256 (by simp[ntmps256]) rfl fun X=>?_;simp only[ntmps256];have fw:=aiC;refine ae fw [0,1] [500] ?_;refine ag fun K1 aF=>ae fw [0,1,12] [500] ?_;refine al (ar (aF _ ?_));refine ag fun K2 au=>?_;have qf:=(Aq fw @oF);refine ay [0,1,14] [500] ?_;refine al (ar (au _ ?_));refine ag fun K3 aU=>bD fw eX [0,1,5] [500] ?_;refine ae fw [0,1,5,19] [500] ?_;refine bd (ae fw [0,1,5,19,20] [500] ?_);refine al (ae fw [0,1,5,19,36] [500] ?_);refine al (ag fun K5 b9=>?_);refine ae fw [0,5,19,70] [500] ?_;refine al (gH fw b9 [0,5,19,70] [500] ?_);refine al (ag fun K6 eH=>?_);refine ae fw [0,5,19,84] [500] ?_;refine aI (ar (eH _ ?_));refine aI (ae fw [0,5] [500] ?_);have qf:=(Aq fw (Aq @Wo @eG.eq_1));refine kr hw [4] [99,500] ?_;refine dI fw 99 ?_;refine bR ?_;simp[D.le,D.le.go,aL,ab,bL,dS,bL,dS,eG,bX,D.le_refl,D.bJ]
   .cases W with
    | ok s k=>cases h
    | err c' p' q'=>
     simp only[Rs.map,Rs.err.injEq]at h;obtain⟨rfl,rfl,rfl⟩:=h;obtain⟨g1,g2⟩:=vf _ _ _ rfl;exact⟨g1,rfl,by simp only[cQ];omega⟩
  rw[if_neg sY];have zM:¬ (b.toNat:Int)=94:=vt 94 bO sY;by_cases sX:t[j]? = some 126
  .rw[if_pos sX];obtain rfl:=vv 126 sX;have hj:=aG sX;have hw:=Kc G t 2 (j+1) aa hj;rw[ahE]at hw;have rG:∀ s k,fK t 2 (j+1) = .ok s k->iY t (bw t (j+1))=s:=fun s k h=>KY h;have vf:∀ c p q',fK t 2 (j+1) = .err c p q'->0 < c/\p<=t.length:=fun c p q' h=>KZ hj h;generalize hW:fK t 2 (j+1)=W at hw rG vf ⊢;generalize iY t (bw t (j+1))=sw at hw rG;refine⟨.ip [dS [126],dS sw,eG],cQ W,?_,fun c p q h=>?_⟩
   .have h1:jA (W.map .ja) (.ip [dS [126],dS sw,eG]) = .ip [dS [126],dS sw,eG]:=by
     cases W with
     | ok s k=>obtain rfl:=rG _ _ rfl;rfl
     | err c p q=>rfl
    have h2:ji (W.map Ex.ja) (cQ W)=cQ W:=by cases W<;>rfl
    have h3:eR (W.map Ex.ja)=eR W:=by cases W<;>rfl
    have h4:pR (W.map Ex.ja)=pR W:=by cases W<;>rfl
    rw[h1,h2,h3,h4];refine MC.aQ (aB _) func256 rfl rfl (rs:=[.tmp 4]) results256 (by simp[ntmps256]) rfl fun X=>?_;simp only[ntmps256];have fw:=aiC;refine ae fw [0,1] [500] ?_;refine ag fun K1 aF=>ae fw [0,1,12] [500] ?_;refine al (ar (aF _ ?_));refine ag fun K2 au=>?_;have qf:=(Aq fw @oF);refine ay [0,1,14] [500] ?_;refine al (ar (au _ ?_));refine ag fun K3 aU=>bD fw eX [0,1,5] [500] ?_;refine ae fw [0,1,5,19] [500] ?_;refine bd (ae fw [0,1,5,19,20] [500] ?_);refine al (ae fw [0,1,5,19,36] [500] ?_);refine al (ag fun K5 b9=>?_);refine ae fw [0,5,19,70] [500] ?_;refine al (gH fw b9 [0,5,19,70] [500] ?_);refine al (ag fun K6 eH=>?_);refine ae fw [0,5,19,84] [500] ?_;refine al (gH fw eH [0,5,84] [500] ?_);refine aI (ae fw [0,5] [500] ?_);have qf:=(Aq fw (Aq @Wk @eG.eq_1));refine kr hw [4] [99,500] ?_;refine dI fw 99 ?_;refine bR ?_;simp[D.le,D.le.go,aL,ab,bL,dS,bL,dS,eG,bX,D.le_refl,D.bJ]
   .cases W with
    | ok s k=>cases h
    | err c' p' q'=>
     simp only[Rs.map,Rs.err.injEq]at h;obtain⟨rfl,rfl,rfl⟩:=h;obtain⟨g1,g2⟩:=vf _ _ _ rfl;exact⟨g1,rfl,by simp only[cQ];omega⟩
  rw[if_neg sX];have n126:¬ (b.toNat:Int)=126:=vt 126 bO sX;have hw:=Kc G t 3 j aa iq;have rG:∀ s k,fK t 3 j = .ok s k->iY t (bw t j)=s:=fun s k h=>KY h;have vf:∀ c p q',fK t 3 j = .err c p q'->0 < c/\p<=t.length:=fun c p q' h=>KZ iq h;generalize hW:fK t 3 j=W at hw rG vf ⊢;generalize iY t (bw t j)=sw at hw rG;refine⟨.ip [dS [98,105,116],dS sw,eG],cQ W,?_,fun c p q h=>?_⟩
  .have h1:jA (W.map .bit) (.ip [dS [98,105,116],dS sw,eG]) = .ip [dS [98,105,116],dS sw,eG]:=by
    cases W with
    | ok s k=>obtain rfl:=rG _ _ rfl;rfl
    | err c p q=>rfl
   have h2:ji (W.map Ex.bit) (cQ W)=cQ W:=by cases W<;>rfl
   have h3:eR (W.map Ex.bit)=eR W:=by cases W<;>rfl
   have h4:pR (W.map Ex.bit)=pR W:=by cases W<;>rfl
   rw[h1,h2,h3,h4];refine MC.aQ (aB _) func256 rfl rfl (rs:=[.tmp 4]) results256 (by simp[ntmps256]) rfl fun X=>?_;simp only[ntmps256];have fw:=aiC;refine ae fw [0,1] [500] ?_;refine ag fun K1 aF=>ae fw [0,1,12] [500] ?_;refine al (ar (aF _ ?_));refine ag fun K2 au=>?_;have qf:=(Aq fw @oF);refine ay [0,1,14] [500] ?_;refine al (ar (au _ ?_));refine ag fun K3 aU=>bD fw eX [0,1,5] [500] ?_;refine ae fw [0,1,5,19] [500] ?_;refine bd ?_;have qf:=(Aq fw (Aq @n33 (Aq @zJ (Aq @zK (Aq @zL (Aq @zM @n126))))));refine ay [0,1,5,19,20] [500] ?_;refine al ?_;have qf:=(Aq fw (Aq @n33 (Aq @zJ (Aq @zK (Aq @zL (Aq @zM @n126))))));refine ay [0,1,5,19,36] [500] ?_;refine al (ag fun K5 b9=>?_);have qf:=(Aq fw (Aq @n33 (Aq @zJ (Aq @zK (Aq @zL (Aq @zM @n126))))));refine ay [0,5,19,70] [500] ?_;refine al ?_;have qf:=(Aq fw (Aq @n33 (Aq @zJ (Aq @zK (Aq @zL (Aq @zM @n126))))));refine eJ b9 [0,5,19,70] [500] ?_;refine al (ag fun K6 eH=>?_);have qf:=(Aq fw (Aq @n33 (Aq @zJ (Aq @zK (Aq @zL (Aq @zM @n126))))));refine ay [0,5,19,84] [500] ?_;refine al ?_;have qf:=(Aq fw (Aq @n33 (Aq @zJ (Aq @zK (Aq @zL (Aq @zM @n126))))));refine eJ eH [0,5,84] [500] ?_;refine al (ar (aU _ ?_));have qf:=(Aq fw (Aq @eG.eq_1 @aaW));refine kr hw [4] [103,500] ?_;refine dI fw 103 ?_;refine bR ?_;simp[D.le,D.le.go,aL,ab,bL,dS,bL,dS,eG,bX,D.le_refl,D.bJ]
  .cases W with
   | ok s k=>cases h
   | err c' p' q'=>
    simp only[Rs.map,Rs.err.injEq]at h;obtain⟨rfl,rfl,rfl⟩:=h;obtain⟨g1,g2⟩:=vf _ _ _ rfl;exact⟨g1,rfl,by simp only[cQ];omega⟩
def dH (all:Bool):Ex->List UInt8
 | .bit s=>if all then s else []
 | .jk s=>s
 | .ja s=>s
 | _=>[]
def gG (s:List UInt8):List (List UInt8):=if s=[] then [] else [s]
mutual
def du (all:Bool):Ex->List (List UInt8)
 | .not e=>du all e
 | .and l=>fO all l
 | .or l=>fO all l
 | e=>gG (dH all e)
def fO (all:Bool):List Ex->List (List UInt8)
 | []=>[]
 | e :: l=>du all e ++ fO all l
end
theorem PM (all:Bool):∀ a b:List Ex,fO all (a ++ b)=fO all a ++ fO all b
 | [],b=>rfl
 | e :: a,b=>by simp[fO,PM all a b]
theorem JL (all:Bool) {l:List Ex} {i:Nat} (hi:i < l.length):fO all (l.take (i+1))=fO all (l.take i) ++ du all l[i]:=by
 rw[agB hi,PM];simp[fO]
theorem JM (all:Bool):∀ (n:Nat) (e:Ex),SizeOf.sizeOf e<=n->(du all e).length<=bE e
 | 0,e,hn=>by cases e<;>simp at hn
 | n+1,e,hn=>by
  have many:∀ l:List Ex,(∀ x∈l,SizeOf.sizeOf x<=n)->(fO all l).length<=gK l:=by
   intro l
   induction l with
   | nil=>intro _;simp[fO]
   | cons x l ih=>
    intro h;have a:=ih fun y hy=>h y (by simp[hy]);have b:=JM all n x (h x ak);simp only[fO,gK,agU];omega
  have kN:∀ s,(gG s).length<=1:=fun s=>by unfold gG;split<;>simp
  have hp:=Di e
  cases e with
  | not x=>have:=JM all n x (by simp at hn;omega);simp only[du,bE];omega
  | and l=>
   have:=many l fun x hx=>by have:=ag0 hx;simp only[Ex.and.sizeOf_spec]at hn;omega
   simp only[du,bE];omega
  | or l=>
   have:=many l fun x hx=>by have:=ag0 hx;simp only[Ex.or.sizeOf_spec]at hn;omega
   simp only[du,bE];omega
  | gU b=>have:=kN (dH all (.gU b));simp only[du];omega
  | bit s=>have:=kN (dH all (.bit s));simp only[du];omega
  | jk s=>have:=kN (dH all (.jk s));simp only[du];omega
  | ja s=>have:=kN (dH all (.ja s));simp only[du];omega
theorem xO (all:Bool) (e:Ex):(du all e).length<=bE e:=JM all _ e (agD _)
theorem Cl (all:Bool):∀ l:List Ex,(fO all l).length<=gK l
 | []=>by simp[fO]
 | e :: l=>by have:=xO all e;have:=Cl all l;simp only[fO,gK,agU];omega
def eT (l:List (List UInt8)):List (Nat×Row):=[(502,.box 58 [.own 503 0 l.length]),(503,.sl 9 1 (l.map fun s=>[dS s]))]
def qy (all:Bool):FuncId:=if all then 183 else 216
theorem aiI:type_of% (Aq @dH.eq_1 (Aq @dH.eq_2 (Aq @dH.eq_3 (Aq @dH.eq_4 @aii)))):=(Aq @dH.eq_1 (Aq @dH.eq_2 (Aq @dH.eq_3 (Aq @dH.eq_4 @aii))))
theorem aiG:type_of% (Aq @aih (Aq @aii (Aq @aiu (Aq @aiv @aiw)))):=(Aq @aih (Aq @aii (Aq @aiu (Aq @aiv @aiw))))
theorem abG (G:aC) (e:Ex):aD prog G 183 [dE e] (dS (dH true e)):=by
 by_cases h1:∃ s,e = .bit s
 .obtain⟨s,rfl⟩:=h1;rw[dE];refine aD.aQ (aB _) func183 rfl rfl (rs:=[.tmp 2]) results183 (by simp[ntmps183]) fun X=>?_;simp only[ntmps183,List.map];have fw:=aiG;refine ae fw [0] [] ?_;refine ag fun K1 aF=>ae fw [6] [] ?_;refine bd (ae fw [6,8,9] [] ?_);refine aI (ae fw [3] [] ?_);refine ae fw [2] [] ?_;exact aW (Aq fw aiI)
 by_cases h2:∃ s,e = .jk s
 .obtain⟨s,rfl⟩:=h2;rw[dE];refine aD.aQ (aB _) func183 rfl rfl (rs:=[.tmp 2]) results183 (by simp[ntmps183]) fun X=>?_;simp only[ntmps183,List.map];have fw:=aiG;refine ae fw [0] [] ?_;refine ag fun K1 aF=>ae fw [6] [] ?_;refine bd (ae fw [6,8,9] [] ?_);refine al (ae fw [6,12,13] [] ?_);refine aI (ae fw [4] [] ?_);refine ae fw [2] [] ?_;exact aW (Aq fw aiI)
 by_cases h3:∃ s,e = .ja s
 .obtain⟨s,rfl⟩:=h3;rw[dE];refine aD.aQ (aB _) func183 rfl rfl (rs:=[.tmp 2]) results183 (by simp[ntmps183]) fun X=>?_;simp only[ntmps183,List.map];have fw:=aiG;refine ae fw [0] [] ?_;refine ag fun K1 aF=>ae fw [6] [] ?_;refine bd (ae fw [6,8,9] [] ?_);refine al (ae fw [6,12,13] [] ?_);refine al (ae fw [16,17] [] ?_);refine aI (ae fw [5] [] ?_);refine ae fw [2] [] ?_;exact aW (Aq fw aiI)
 have hk:∃ t c,dE e = .bZ t c/\¬ t=149/\¬ t=160/\¬ t=162/\dH true e=[]:=by
  cases e with
  | bit s=>exact absurd ⟨s,rfl⟩ h1
  | jk s=>exact absurd ⟨s,rfl⟩ h2
  | ja s=>exact absurd ⟨s,rfl⟩ h3
  | gU b=>exact⟨_,_,by rw[dE],bO,bO,bO,rfl⟩
  | not b=>exact⟨_,_,by rw[dE],bO,bO,bO,rfl⟩
  | and b=>exact⟨_,_,by rw[dE],bO,bO,bO,rfl⟩
  | or b=>exact⟨_,_,by rw[dE],bO,bO,bO,rfl⟩
 obtain⟨t,c,hy,a1,a2,a3,a4⟩:=hk;rw[a4,hy];refine aD.aQ (aB _) func183 rfl rfl (rs:=[.tmp 2]) results183 (by simp[ntmps183]) fun X=>?_;simp only[ntmps183,List.map];have fw:=aiG;refine ae fw [0] [] ?_;refine ag fun K1 aF=>ae fw [6] [] ?_;refine bd ?_;have qf:=(Aq fw @a1);refine ay [6,8,9] [] ?_;refine al ?_;have qf:=(Aq fw @a2);refine ay [6,12,13] [] ?_;refine al ?_;have qf:=(Aq fw @a3);refine ay [16,17] [] ?_;refine al (ar (aF _ ?_));refine ae fw [2] [] ?_;refine bR ?_;simp[D.le,D.le.go,aL,ab,dS,bT,cT,dS,bX,D.le_refl]
theorem We (G:aC) (e:Ex):aD prog G 216 [dE e] (dS (dH false e)):=by
 by_cases h2:∃ s,e = .jk s
 .obtain⟨s,rfl⟩:=h2;rw[dE];refine aD.aQ (aB _) func216 rfl rfl (rs:=[.tmp 2]) results216 (by simp[ntmps216]) fun X=>?_;simp only[ntmps216,List.map];have fw:=aiG;refine ae fw [0] [] ?_;refine ag fun K1 aF=>ae fw [5] [] ?_;refine bd (ae fw [5,7,8] [] ?_);refine aI (ae fw [3] [] ?_);refine ae fw [2] [] ?_;exact aW (Aq fw aiI)
 by_cases h3:∃ s,e = .ja s
 .obtain⟨s,rfl⟩:=h3;rw[dE];refine aD.aQ (aB _) func216 rfl rfl (rs:=[.tmp 2]) results216 (by simp[ntmps216]) fun X=>?_;simp only[ntmps216,List.map];have fw:=aiG;refine ae fw [0] [] ?_;refine ag fun K1 aF=>ae fw [5] [] ?_;refine bd (ae fw [5,7,8] [] ?_);refine al (ae fw [11,12] [] ?_);refine aI (ae fw [4] [] ?_);refine ae fw [2] [] ?_;exact aW (Aq fw aiI)
 have hk:∃ t c,dE e = .bZ t c/\¬ t=160/\¬ t=162/\dH false e=[]:=by
  cases e with
  | jk s=>exact absurd ⟨s,rfl⟩ h2
  | ja s=>exact absurd ⟨s,rfl⟩ h3
  | gU b=>exact⟨_,_,by rw[dE],bO,bO,rfl⟩
  | bit b=>exact⟨_,_,by rw[dE],bO,bO,rfl⟩
  | not b=>exact⟨_,_,by rw[dE],bO,bO,rfl⟩
  | and b=>exact⟨_,_,by rw[dE],bO,bO,rfl⟩
  | or b=>exact⟨_,_,by rw[dE],bO,bO,rfl⟩
 obtain⟨t,c,hy,a2,a3,a4⟩:=hk;rw[a4,hy];refine aD.aQ (aB _) func216 rfl rfl (rs:=[.tmp 2]) results216 (by simp[ntmps216]) fun X=>?_;simp only[ntmps216,List.map];have fw:=aiG;refine ae fw [0] [] ?_;refine ag fun K1 aF=>ae fw [5] [] ?_;refine bd ?_;have qf:=(Aq fw @a2);refine ay [5,7,8] [] ?_;refine al ?_;have qf:=(Aq fw @a3);refine ay [11,12] [] ?_;refine al (ar (aF _ ?_));refine ae fw [2] [] ?_;refine bR ?_;simp[D.le,D.le.go,aL,ab,dS,bT,cT,dS,bX,D.le_refl]
theorem abB (G:aC) (all:Bool) (e:Ex):aD prog G (qy all) [dE e] (dS (dH all e)):=by
 cases all with
 | true=>exact abG G e
 | false=>exact We G e
theorem DP (G:aC) (all:Bool) (l:List (List UInt8)) (e:Ex) (hl:l.length < 2^40):MC prog G [502] 242 ([.d (dE e)] ++ [.d (.ip [.fn (.func (qy all)) []]),.ref 502 0 0]) (aw (eT l)) (.d (.bx [])) (aw (eT (l ++ gG (dH all e)))):=by
 have hn:=abB G all e;obtain⟨t,c,hx⟩:=kJ e;rw[hx]at hn ⊢;generalize qy all=g at hn ⊢;generalize dH all e=s at hn ⊢;by_cases hs:s=[]
 .subst hs
  have he:l ++ gG []=l:=by simp[gG]
  rw[he];refine MC.aQ (aB _) func242 rfl rfl (rs:=[]) results242 (by simp[ntmps242]) rfl fun X=>?_;simp only[ntmps242];have fw:=(Aq @aih (Aq @aii @eT.eq_1));refine br fw hn [2,4] [502,503] ?_;refine rg [2,4,9] [502,503] (eh rfl) fun K' ao=>?_;(repeat refine aM fun Kq af=>?_;simp[ab,dS,eT,bf,bt,bX];(repeat refine⟨aa,?_⟩);refine af _ ?_);refine bK (ao _ (AW.st (by simp[ab,dS,eT,bf,bt,bX];rfl) ?_));refine al (ar ?_);simp[D.le_refl,eT,dS]
 .have he:gG s=[s]:=by unfold gG;rw[if_neg hs]
  have nj:s.isEmpty=false:=by rw[ahL];exact hs
  have Og:(s == [])=false:=by simpa using hs
  rw[he];refine MC.aQ (aB _) func242 rfl rfl (rs:=[]) results242 (by simp[ntmps242]) rfl fun X=>?_;simp only[ntmps242];have fw:=(Aq @aih (Aq @aii @eT.eq_1));refine br fw hn [2,4] [502,503] ?_;refine rg [2,4,9] [502,503] (eh rfl) fun K' ao=>?_;(repeat refine aM fun Kq af=>?_;simp[ab,dS,eT,bf,bt,bX,hs,nj,Og];(repeat refine⟨aa,?_⟩);refine af _ ?_);refine bK (ao _ (AW.st (by simp[ab,dS,eT,bf,bt,bX,hs,nj,Og];rfl) ?_));refine aI (eU (aB _) fun K' ao=>?_);(repeat refine aM fun Kq af=>?_;simp[ab,dS,eT,sh];(repeat refine⟨aa,?_⟩);refine af _ ?_);refine bK (ao _ ?_);(try simp only[aT,aV]);simp[D.le_refl,eT,dS]
theorem aiF:type_of% (Aq @aih (Aq @aii (Aq @eT.eq_1 (Aq @aiu (Aq @aiv @aiw))))):=(Aq @aih (Aq @aii (Aq @eT.eq_1 (Aq @aiu (Aq @aiv @aiw)))))
theorem aeY (G:aC) (all:Bool):∀ (m:Nat) (e:Ex),SizeOf.sizeOf e<=m->∀ l0:List (List UInt8),l0.length+bE e<=2^39->MC prog G [502] 241 [.d (dE e),.fn (.func 242) [.d (.ip [.fn (.func (qy all)) []]),.ref 502 0 0]] (aw (eT l0)) (.d (.bx [])) (aw (eT (l0 ++ du all e))):=by
 intro m
 induction m with
 | zero=>intro e bg;cases e<;>simp at bg
 | succ m ih=>
  intro e bg l0 hb;have hbp:=Di e;by_cases hN:∃ x,e = .not x
  .obtain⟨x,rfl⟩:=hN;simp only[bE]at hb;obtain⟨tx,cx,hx⟩:=kJ x;have dG:=DP G all l0 (.not x) aa;have BG:gG (dH all (.not x))=[]:=rfl;rw[BG,ahm,ahv]at dG;have hc:=ih x (by simp at bg;omega) l0 aa;rw[du];rw[dE,hx];rw[dE,hx]at dG;rw[hx]at hc;generalize l0 ++ du all x=l1 at hc ⊢;generalize qy all=g at hc dG ⊢;refine MC.aQ (aB _) func241 rfl rfl (rs:=[]) results241 (by simp[ntmps241]) rfl fun X=>?_;simp only[ntmps241];have fw:=aiF;refine bD fw dG [0,1] [502,503] ?_;refine ae fw [1,14] [502,503] ?_;refine bd (ae fw [1,14,16,17] [502,503] ?_);refine aI (ae fw [1,4] [4,502,503] ?_);refine eU (aB _) fun K' ao=>?_;(repeat refine aM fun Kq af=>?_;simp[ab,dS,eT,bT,cT];(repeat refine⟨aa,?_⟩);refine af _ ?_);refine aM fun Kq af=>?_;simp[ab,dS,eT,bT,cT];refine dT.mc (hc) ?_ ?_ ?_ ?_ ?_<;>simp[ab,dS,eT,bT,cT];refine af _ ?_;(repeat refine aM fun Kq af=>?_;simp[ab,dS,eT,bT,cT];(repeat refine⟨aa,?_⟩);refine af _ ?_);refine bK (ao _ ?_);(try simp only[aT,aV]);simp[D.le_refl,eT,dS]
  by_cases hand:∃ l,e = .and l
  .obtain⟨l,rfl⟩:=hand;simp only[bE]at hb;have dG:=DP G all l0 (.and l) aa;have BG:gG (dH all (.and l))=[]:=rfl;rw[BG,ahm,ahv]at dG;have nc:=fun (x:Ex) (hx:x∈l)=>ih x (by have:=ag0 hx;simp only[Ex.and.sizeOf_spec]at bg;omega);have pn:=uF l;rw[du];rw[dE,s5];rw[dE,s5]at dG;clear ih;generalize hg:qy all=g at nc dG ⊢;refine MC.aQ (aB _) func241 rfl rfl (rs:=[]) results241 (by simp[ntmps241]) rfl fun X=>?_;simp only[ntmps241];have fw:=aiF;refine bD fw dG [0,1] [502,503] ?_;refine ae fw [1,14] [502,503] ?_;refine bd (ae fw [1,14,16,17] [502,503] ?_);refine al (ae fw [1,14,23,24] [502,503] ?_);refine aI (ae fw [1,5] [502,503] ?_);refine ae fw [1,25,26,27] [502,503] ?_;refine cy (S:=Nat) (fun i=>i<=l.length) (fun i=>⟨bn [(1,.fn (.func 242) [.d (.ip [.fn (.func g) []]),.ref 502 0 0]),(25,.d (.sl none (l.map fun e=>[dE e]))),(26,int l.length),(27,int i)],aw (eT (l0 ++ fO all (l.take i)))⟩) (fun i=>l.length - i) 0 ?_ aa ?_
   .refine bq (Aq fw (Aq @fO.eq_1 @fO.eq_2))
   .intro i hi;refine ae fw [1,25,26,27,28] [502,503] ?_;refine ag fun K1 aF=>eE (b:=i < l.length) (by simp[D.le,D.le.go,aL,ab,dS,eT,bT,cT]) (fun hc=>?_) (fun hc=>?_)
    .have dD:i < l.length:=hc;have h1:=JL all dD;have h2:=Cl all (l.take i);have h3:=Gv dD;have cG:=nc _ (OF dD) (l0 ++ fO all (l.take i)) (by rw[agU];omega);rw[ahI,<- h1]at cG;obtain⟨tx,cx,hx⟩:=kJ l[i];rw[hx]at cG;refine ar (aF _ (ag fun K2 au=>bd ?_));have qf:=(Aq fw (Aq @dD @hx));refine ay [1,7,25,26,27] [502,503] ?_;refine eU (aB _) fun K' ao=>?_;(repeat refine aM fun Kq af=>?_;simp[ab,dS,eT,bT,cT];(repeat refine⟨aa,?_⟩);refine af _ ?_);refine aM fun Kq af=>?_;simp[ab,dS,eT,bT,cT];refine dT.mc (cG) ?_ ?_ ?_ ?_ ?_<;>simp[ab,dS,eT,bT,cT];refine af _ ?_;(repeat refine aM fun Kq af=>?_;simp[ab,dS,eT,bT,cT];(repeat refine⟨aa,?_⟩);refine af _ ?_);refine bK (ao _ ?_);refine au _ (AW.norm [1,25,26,27] [502,503] (eh rfl) (AW.st (by simp[ab,dS,eT,bT,cT];rfl) ?_));refine cE fw ?_;(try simp only[aT,aV]);refine ba.mk (i+1) aa aa ?_;refine bq fw
    .obtain rfl:i=l.length:=aa
     refine bW ?_;simp[D.le_refl,aho,eT,dS]
  by_cases ni:∃ l,e = .or l
  .obtain⟨l,rfl⟩:=ni;simp only[bE]at hb;have dG:=DP G all l0 (.or l) aa;have BG:gG (dH all (.or l))=[]:=rfl;rw[BG,ahm,ahv]at dG;have nc:=fun (x:Ex) (hx:x∈l)=>ih x (by have:=ag0 hx;simp only[Ex.or.sizeOf_spec]at bg;omega);have pn:=uF l;rw[du];rw[dE,s5];rw[dE,s5]at dG;clear ih;generalize hg:qy all=g at nc dG ⊢;refine MC.aQ (aB _) func241 rfl rfl (rs:=[]) results241 (by simp[ntmps241]) rfl fun X=>?_;simp only[ntmps241];have fw:=aiF;refine bD fw dG [0,1] [502,503] ?_;refine ae fw [1,14] [502,503] ?_;refine bd (ae fw [1,14,16,17] [502,503] ?_);refine al (ae fw [1,14,23,24] [502,503] ?_);refine al (ae fw [1,36,37] [502,503] ?_);refine aI (ae fw [1,8] [502,503] ?_);refine ae fw [1,38,39,40] [502,503] ?_;refine cy (S:=Nat) (fun i=>i<=l.length) (fun i=>⟨bn [(1,.fn (.func 242) [.d (.ip [.fn (.func g) []]),.ref 502 0 0]),(38,.d (.sl none (l.map fun e=>[dE e]))),(39,int l.length),(40,int i)],aw (eT (l0 ++ fO all (l.take i)))⟩) (fun i=>l.length - i) 0 ?_ aa ?_
   .refine bq (Aq fw (Aq @fO.eq_1 @fO.eq_2))
   .intro i hi;refine ae fw [1,38,39,40,41] [502,503] ?_;refine ag fun K1 aF=>eE (b:=i < l.length) (by simp[D.le,D.le.go,aL,ab,dS,eT,bT,cT]) (fun hc=>?_) (fun hc=>?_)
    .have dD:i < l.length:=hc;have h1:=JL all dD;have h2:=Cl all (l.take i);have h3:=Gv dD;have cG:=nc _ (OF dD) (l0 ++ fO all (l.take i)) (by rw[agU];omega);rw[ahI,<- h1]at cG;obtain⟨tx,cx,hx⟩:=kJ l[i];rw[hx]at cG;refine ar (aF _ (ag fun K2 au=>bd ?_));have qf:=(Aq fw (Aq @dD @hx));refine ay [1,10,38,39,40] [502,503] ?_;refine eU (aB _) fun K' ao=>?_;(repeat refine aM fun Kq af=>?_;simp[ab,dS,eT,bT,cT];(repeat refine⟨aa,?_⟩);refine af _ ?_);refine aM fun Kq af=>?_;simp[ab,dS,eT,bT,cT];refine dT.mc (cG) ?_ ?_ ?_ ?_ ?_<;>simp[ab,dS,eT,bT,cT];refine af _ ?_;(repeat refine aM fun Kq af=>?_;simp[ab,dS,eT,bT,cT];(repeat refine⟨aa,?_⟩);refine af _ ?_);refine bK (ao _ ?_);refine au _ (AW.norm [1,38,39,40] [502,503] (eh rfl) (AW.st (by simp[ab,dS,eT,bT,cT];rfl) ?_));refine cE fw ?_;(try simp only[aT,aV]);refine ba.mk (i+1) aa aa ?_;refine bq fw
    .obtain rfl:i=l.length:=aa
     refine bW ?_;simp[D.le_refl,aho,eT,dS]
  have hk:∃ t c,dE e = .bZ t c/\¬ t=130/\¬ t=159/\¬ t=132/\du all e=gG (dH all e):=by
   cases e with
   | not z=>exact absurd ⟨z,rfl⟩ hN
   | and l=>exact absurd ⟨l,rfl⟩ hand
   | or l=>exact absurd ⟨l,rfl⟩ ni
   | gU b=>exact⟨_,_,by rw[dE],bO,bO,bO,rfl⟩
   | bit s=>exact⟨_,_,by rw[dE],bO,bO,bO,rfl⟩
   | jk s=>exact⟨_,_,by rw[dE],bO,bO,bO,rfl⟩
   | ja s=>exact⟨_,_,by rw[dE],bO,bO,bO,rfl⟩
  obtain⟨t,c,hy,h1,h2,h3,h4⟩:=hk;have dG:=DP G all l0 e aa;rw[ahv]at dG;rw[h4,hy];rw[hy]at dG;generalize l0 ++ gG (dH all e)=l1 at dG ⊢;generalize qy all=g at dG ⊢;refine MC.aQ (aB _) func241 rfl rfl (rs:=[]) results241 (by simp[ntmps241]) rfl fun X=>?_;simp only[ntmps241];have fw:=aiF;refine bD fw dG [0,1] [502,503] ?_;refine ae fw [1,14] [502,503] ?_;refine bd ?_;have qf:=(Aq fw @h1);refine ay [1,14,16,17] [502,503] ?_;refine al ?_;have qf:=(Aq fw @h2);refine ay [1,14,23,24] [502,503] ?_;refine al ?_;have qf:=(Aq fw @h3);refine ay [1,36,37] [502,503] ?_;refine al (ar ?_);simp[D.le_refl,eT,dS]
def fi (all:Bool) (e:Ex):List (List UInt8):=Lib.compact (nv (du all e))
theorem Rx (G:aC) (all:Bool) (e:Ex) (hb:bE e<=2^28):aD prog G 182 [dE e,.fn (.func (qy all)) []] (.sl none ((fi all e).map fun s=>[dS s])):=by
 have hlen:=xO all e;have hw:=aeY G all _ e (agD _) [] (by simp;omega);rw[ahP]at hw;have xl:=adS G 503 9 (du all e) aa;have pZ:=VM G 503 9 (nv (du all e)) (by rw[sE];omega);rw[sE]at pZ;have cN:=Lib.compact_length_le (nv (du all e));rw[sE]at cN;unfold fi;obtain⟨tx,cx,hx⟩:=kJ e;rw[hx]at hw ⊢;generalize qy all=g at hw ⊢;generalize du all e=l at hw xl pZ cN hlen ⊢;generalize nv l=z at xl pZ cN ⊢
 have dK:List.take (Lib.compact z).length ((Lib.compact z ++ List.replicate (l.length - (Lib.compact z).length) []).map fun s=>[dS s])=(Lib.compact z).map fun s=>[dS s]:=by
  rw[agV,ahS ak,sh ak]
 have IY:(Lib.compact z ++ List.replicate (l.length - (Lib.compact z).length) []).length=l.length:=by simp;omega
 generalize Lib.compact z ++ List.replicate (l.length - (Lib.compact z).length) []=y at pZ dK IY;generalize Lib.compact z=c at pZ cN dK ⊢;refine aD.aQ (aB _) func182 rfl rfl (rs:=[.tmp 4]) results182 (by simp[ntmps182]) fun X=>?_;simp only[ntmps182,List.map];have fw:=aiF;refine ae fw [0,3] [3] ?_;refine dI fw 3 ?_;refine ae fw [0,3,5] [5] ?_;refine AW.imp (aK.dM (r:=5) (r':=502) trivial ak) ?_;refine AW.st (by simp[gR,gQ,Go.Av.dM,FC];rfl) ?_;refine AW.imp (aK.o7 502 0 503 9 1 rfl rfl rfl) ?_;refine AW.imp (τ:=⟨bn [(0,.d (.bZ tx cx)),(3,.d (.ip [.fn (.func g) []])),(5,.ref 502 0 0)],aw (eT [])⟩) ?_ ?_
 .refine bq (Aq fw @eT.eq_1)
 refine bD fw hw [5] [502,503] ?_;refine bD fw xl [5] [502,503] ?_;refine bD fw pZ [4] [502,503] ?_
 have hle:c.length<=y.length:=aa
 by_cases tK:c.length=y.length
 .have p7:(y.map fun s=>[dS s])=c.map fun s=>[dS s]:=by rw[<- dK,tK,sh ak]
  simp only[dS]at p7;refine AW.imp (aK.freeze 503 trivial) ?_;refine AW.st (by simp[ab,dS,eT,bT,cT,tK,hle,p7];rfl) ?_;exact aW (Aq fw (Aq @tK @p7))
 .simp only[dS]at dK;refine AW.imp (aK.freeze 503 trivial) ?_;refine AW.st (by simp[ab,dS,eT,bT,cT,tK,hle,dK];rfl) ?_;exact aW (Aq fw @dK)
theorem abH (G:aC) (e:Ex) (hb:bE e<=2^28):aD prog G 107 [dE e] (.sl none ((fi true e).map fun s=>[dS s])):=by
 have hs:=Rx G true e hb;obtain⟨tx,cx,hx⟩:=kJ e;rw[hx]at hs ⊢;generalize fi true e=l at hs ⊢;simp only[qy,if_true,if_false,agE]at hs;refine aD.aQ (aB _) func107 rfl rfl (rs:=[.tmp 2]) results107 (by simp[ntmps107]) fun X=>?_;simp only[ntmps107,List.map];have fw:=aiF;refine ae fw [0] [] ?_;refine br fw hs [2] [] ?_;exact aW fw
theorem Wf (G:aC) (e:Ex) (hb:bE e<=2^28):aD prog G 160 [dE e] (.sl none ((fi false e).map fun s=>[dS s])):=by
 have hs:=Rx G false e hb;obtain⟨tx,cx,hx⟩:=kJ e;rw[hx]at hs ⊢;generalize fi false e=l at hs ⊢;simp only[qy,if_true,if_false,agE]at hs;refine aD.aQ (aB _) func160 rfl rfl (rs:=[.tmp 2]) results160 (by simp[ntmps160]) fun X=>?_;simp only[ntmps160,List.map];have fw:=aiF;refine ae fw [0] [] ?_;refine br fw hs [2] [] ?_;exact aW fw
abbrev Tx:=List UInt8
theorem KO (a:Tx):¬ a < a:=List.lt_irrefl a
theorem Sa {a b c:Tx} (h1:a < b) (h2:b < c):a < c:=List.lt_trans h1 h2
theorem CY {a b:Tx}:a<=b↔¬ b < a:=Iff.rfl
theorem Sb {a b:Tx} (h1:¬ a < b) (h2:¬ b < a):a=b:=List.le_antisymm (CY.2 h2) (CY.2 h1)
def l8 (s:Tx):List Tx->List Tx
 | []=>[s]
 | y :: l=>if y < s then y :: l8 s l else if y=s then y :: l else s :: y :: l
theorem OM (s:Tx):∀ (l:List Tx) (k:Nat),k<=l.length->(∀ i (hi:i < l.length),i < k->l[i] < s)->(∀ hk:k < l.length,¬ l[k] < s)->
  l8 s l=if (∃ hk:k < l.length,l[k]=s) then l else l.take k ++ s :: l.drop k
 | [],k,hk,_,_=>by
  obtain rfl:k=0:=by simpa using hk
  simp[l8]
 | y :: l,0,_,_,h2=>by
  have h3:¬ y < s:=h2 ak;rw[l8,if_neg h3];by_cases he:y=s
  .rw[if_pos he,if_pos ⟨ak,he⟩]
  .rw[if_neg he,if_neg (fun ⟨_,h⟩=>he h)];simp
 | y :: l,k+1,hk,h1,h2=>by
  have h3:y < s:=h1 0 ak aa;rw[l8,if_pos h3,OM s l k (by simpa using hk) (fun i hi Bq=>h1 (i+1) (by simpa using hi) aa) (fun ff=>h2 (by simpa using ff))];by_cases he:∃ hk:k < l.length,l[k]=s
  .rw[if_pos he,if_pos (by obtain⟨a,b⟩:=he;exact⟨by simpa using a,b⟩)]
  .rw[if_neg he,if_neg (fun ⟨a,b⟩=>he ⟨by simpa using a,b⟩)];simp
theorem I6 {s x:Tx}:∀ {l:List Tx},x∈l8 s l↔x=s\/x∈l
 | []=>by simp[l8]
 | y :: l=>by
  rw[l8];by_cases h1:y < s
  .rw[if_pos h1,agK,I6,agK];constructor
   .rintro (h | h | h)<;>simp[h]
   .rintro (h | h | h)<;>simp[h]
  .rw[if_neg h1];by_cases h2:y=s
   .rw[if_pos h2];subst h2;simp
   .rw[if_neg h2];simp
theorem OO (s:Tx):∀ {l:List Tx},l.Pairwise (· < ·)->(l8 s l).Pairwise (· < ·)
 | [],_=>by simp[l8]
 | y :: l,h=>by
  obtain⟨ha,hb⟩:=ahi.1 h;rw[l8];by_cases h1:y < s
  .rw[if_pos h1];refine ahi.2 ⟨fun x hx=>?_,OO s hb⟩
   rcases I6.1 hx with rfl | hx
   .exact h1
   .exact ha x hx
  .rw[if_neg h1];by_cases h2:y=s
   .rw[if_pos h2];exact h
   .rw[if_neg h2];have h3:s < y:=ahb fun hn=>h2 (Sb h1 hn);refine ahi.2 ⟨fun x hx=>?_,h⟩
    rcases agK.1 hx with rfl | hx
    .exact h3
    .exact Sa h3 (ha x hx)
theorem ON (s:Tx):∀ l:List Tx,(l8 s l).length<=l.length+1
 | []=>by simp[l8]
 | y :: l=>by
  have:=ON s l;rw[l8];split
  .simp;omega
  .split<;>simp
def l7 (l ss:List Tx):List Tx:=ss.foldl (fun l s=>l8 s l) l
theorem OK (l:List Tx):l7 l []=l:=rfl
theorem OI (l a b:List Tx):l7 l (a ++ b)=l7 (l7 l a) b:=List.foldl_append ..
theorem I5:∀ (ss l:List Tx),(l7 l ss).length<=l.length+ss.length
 | [],l=>by simp[l7]
 | s :: ss,l=>by
  have h1:=I5 ss (l8 s l);have h2:=ON s l;have h3:l7 l (s :: ss)=l7 (l8 s l) ss:=rfl;rw[h3,agS];omega
theorem OJ {x:Tx}:∀ (ss l:List Tx),x∈l7 l ss↔x∈l\/x∈ss
 | [],l=>by simp[l7]
 | s :: ss,l=>by
  have h3:l7 l (s :: ss)=l7 (l8 s l) ss:=rfl;rw[h3,OJ ss,I6,agK];constructor
  .rintro ((h | h) | h)<;>simp[h]
  .rintro (h | h | h)<;>simp[h]
theorem OL:∀ (ss l:List Tx),l.Pairwise (· < ·)->(l7 l ss).Pairwise (· < ·)
 | [],l,h=>h
 | s :: ss,l,h=>OL ss _ (OO s h)
theorem RE:∀ {a b:List Tx},a.Pairwise (· < ·)->b.Pairwise (· < ·)->(∀ x,x∈a↔x∈b)->a=b
 | [],[],_,_,_=>rfl
 | [],y :: b,_,_,h=>absurd ((h y).2 ak) ak
 | x :: a,[],_,_,h=>absurd ((h x).1 ak) ak
 | x :: a,y :: b,ha,hb,h=>by
  obtain⟨Be,oF⟩:=ahi.1 ha;obtain⟨eM,gB⟩:=ahi.1 hb
  have B2:x=y:=by
   rcases agK.1 ((h x).1 ak)with e | hx
   .exact e
   .rcases agK.1 ((h y).2 ak)with e | hy
    .exact e.symm
    .exact absurd (Sa (eM x hx) (Be y hy)) (KO _)
  subst B2;rw[RE oF gB fun z=>?_];constructor
  .intro hz
   rcases agK.1 ((h z).1 (by simp[hz]))with e | e
   .subst e;exact absurd (Be z hz) (KO _)
   .exact e
  .intro hz
   rcases agK.1 ((h z).2 (by simp[hz]))with e | e
   .subst e;exact absurd (eM z hz) (KO _)
   .exact e
theorem Jy (d:Array Tx):∀ (m:Nat),m<=d.size->∀ j,j < m->d[j]!∈Lib.compactUpTo d m
 | 0,_,j,h=>aa
 | m+1,hm,j,hj=>by
  rw[Lib.compactUpTo_succ];by_cases En:j < m
  .exact ah7 _ (Jy d m aa j En)
  .obtain rfl:j=m:=aa
   by_cases hk:Lib.keeps d j=true
   .exact List.mem_append_right _ (by simp[hk])
   .have mz:j≠0:=by rintro rfl;exact hk (Lib.keeps_lt_one d 0 aa)
    have he:d[j]! = d[j - 1]!:=by
     unfold Lib.keeps at hk;simp[mz]at hk
     first | exact hk | exact hk.symm
    rw[he];exact ah7 _ (Jy d j aa (j - 1) aa)
theorem KS (d:Array Tx):∀ (m:Nat),m<=d.size->∀ x∈Lib.compactUpTo d m,∃ j,j < m/\x=d[j]!
 | 0,_,x,h=>by simp[Lib.compactUpTo]at h
 | m+1,hm,x,h=>by
  rw[Lib.compactUpTo_succ]at h
  rcases agN.1 h with h | h
  .obtain⟨j,hj,e⟩:=KS d m aa x h;exact⟨j,aa,e⟩
  .split at h
   .simp at h;exact⟨m,aa,h⟩
   .simp at h
theorem Sg (d:Array Tx) (hs:∀ i j,i<=j->j < d.size->d[i]!<=d[j]!):∀ (m:Nat),m<=d.size->(Lib.compactUpTo d m).Pairwise (· < ·)
 | 0,_=>by simp[Lib.compactUpTo]
 | m+1,hm=>by
  have ih:=Sg d hs m aa;rw[Lib.compactUpTo_succ];by_cases hk:Lib.keeps d m=true
  .rw[if_pos hk,ahF];refine⟨ih,ak,fun a ha b hb=>?_⟩;rw[ahc]at hb;subst hb;obtain⟨j,hj,rfl⟩:=KS d m aa a ha
   have bl:d[m]!≠d[m - 1]!:=by
    intro he;rw[Lib.keeps_neg aa he]at hk;cases hk
   have h1:=hs j (m - 1) aa aa;have h2:=hs (m - 1) m aa aa;have h3:d[m - 1]! < d[m]!:=ahb fun hn=>bl (Sb (CY.1 h2) hn)
   exact ahb fun hn=>by
    have h4:d[m]!<=d[j]!:=CY.2 hn;exact (CY.1 (List.le_trans h4 h1)) h3
  .rw[if_neg hk,ahm];exact ih
theorem abI (all:Bool) (e:Ex):(fi all e).Pairwise (· < ·):=by
 unfold fi Lib.compact;refine Sg _ (fun i j ph hj=>?_) _ ak
 have hp:(nv (du all e)).Pairwise (·<=·):=by
  unfold nv;have:=List.pairwise_mergeSort (le:=fun x y:Tx=>decide (x<=y)) (by intro a b c h1 h2;simp only[decide_eq_true_eq]at *;exact List.le_trans h1 h2) (by intro a b;simp only[ag9,decide_eq_true_eq];exact List.le_total a b) (du all e)
  exact this.imp fun h=>by simpa using h
 generalize nv (du all e)=l at hp hj ⊢
 have eN:j < l.length:=by simpa using hj
 rw[getElem!_pos l.toArray i (by simpa using (by omega:i < l.length)),getElem!_pos l.toArray j (by simpa using eN)];simp only[List.getElem_toArray];by_cases he:i=j
 .subst he;exact List.le_refl _
 .exact (List.pairwise_iff_getElem.1 hp) i j aa eN aa
theorem Ck {all:Bool} {e:Ex} {s:Tx}:s∈fi all e↔s∈du all e:=by
 unfold fi
 have h0:∀ l:List Tx,s∈Lib.compact l↔s∈l:=by
  intro l;unfold Lib.compact;constructor
  .intro h;obtain⟨j,hj,rfl⟩:=KS l.toArray l.length ak s h;rw[getElem!_pos l.toArray j (by simpa using hj)];simp
  .intro h;obtain⟨j,hj,rfl⟩:=agG.1 h;have:=Jy l.toArray l.length ak j hj;rw[getElem!_pos l.toArray j (by simpa using hj)]at this;simpa using this
 rw[h0];unfold nv;exact List.mem_mergeSort
theorem aah (all:Bool) (e:Ex):l7 [] (du all e)=fi all e:=by
 refine RE (OL _ _ ak) (abI all e) fun x=>?_;rw[OJ,Ck];simp
def xH:Ex->List UInt8
 | .gU b=>[if b then 49 else 48]
 | .bit _=>[98,105,116]
 | .jk _=>[94]
 | .ja _=>[126]
 | .not _=>[33]
 | .and _=>[38]
 | .or _=>[124]
def rI:Ex->List UInt8
 | .bit s=>s
 | .jk s=>s
 | .ja s=>s
 | _=>[]
def Cm:Ex->D
 | .not e=>.sl none [[dR e]]
 | .and l=>.sl none (wx l)
 | .or l=>.sl none (wx l)
 | _=>eG
theorem rX (e:Ex):dR e = .ip [dS (xH e),dS (rI e),Cm e]:=by cases e<;>simp[dR,xH,rI,Cm]
theorem kZ (k:List UInt8) (arr:Array UInt8):bf .eql (bs k) ⟨arr⟩=some (True,.bool (decide (k=arr.toList))):=by
 have h:(bs k).toList=k:=bt k
 have h2:(⟨arr⟩:ByteArray).toList=arr.toList:=by rw[ByteArray.toList_eq]
 unfold bf;dsimp only;rw[h,h2];congr 3;by_cases e:k=arr.toList
 .subst e;simp
 .rw[decide_eq_false e,beq_eq_false_iff_ne.2 e]
theorem FD {r r' s:Nat} (h:r≠r') (hs:s≠r') (hr:s≠r) (row xY:Row):qR r r' (aw [(s,xY),(r,row)])=aw [(s,xY.tr (gR r r') (gQ r r')),(r',row.tr (gR r r') (gQ r r'))]:=by
 funext q;unfold qR;by_cases h1:q=r'
 .subst h1;simp[aw,List.lookup,beq_eq_false_iff_ne.2 (ahD hs),beq_eq_false_iff_ne.2 (ahD hr)]
 .rw[if_neg h1];by_cases h2:q=r
  .subst h2;simp[aw,List.lookup,beq_eq_false_iff_ne.2 h1,beq_eq_false_iff_ne.2 (ahD hr)]
  .by_cases h3:q=s
   .subst h3;simp[aw,List.lookup,h2,beq_eq_false_iff_ne.2 h1,beq_eq_false_iff_ne.2 h2]
   .simp[aw,List.lookup,h2,beq_eq_false_iff_ne.2 h1,beq_eq_false_iff_ne.2 h2,beq_eq_false_iff_ne.2 h3]
def lV:Option Ex->D
 | some x=>dR x
 | none=>.v (.pointer none)
theorem Sk (G:aC) (t:List UInt8) (ht:t.length<=2000):Reads G t [500] [] 202 [.ref 500 0 0,.d (ab 0)] 20 (lr t (cD t 20)):=
 Qw G t ht 0 20 (acj G t ht 20 0 (agD _) rfl)
theorem J1 {t:List UInt8} {c:Int} {p:Option Nat} (h:(iH t).2=some (c,p)):0 < c:=by
 unfold iH at h;split at h
 .simp at h;omega
 .rename_i hl;obtain⟨yF,kF,hr⟩:=Sk (fun _=>none) t aa;split at h
  .rename_i c' p' q' he;simp at h;have:=(hr 0 (aib _)).2 _ _ _ he;omega
  .split at h
   .simp at h;omega
   .cases h
theorem Cs {t:List UInt8} (h:(iH t).2=none):∃ x,(iH t).1=some x:=by
 unfold iH at h ⊢;split at h
 .cases h
 .rw[if_neg ‹_›];split at h
  .cases h
  .split at h
   .cases h
   .rw[if_neg ‹_›];exact⟨_,rfl⟩
theorem aiL:type_of% (Aq @lV.eq_1 (Aq @lV.eq_2 (Aq @aij (Aq @aik (Aq @ail (Aq @aim @ain)))))):=(Aq @lV.eq_1 (Aq @lV.eq_2 (Aq @aij (Aq @aik (Aq @ail (Aq @aim @ain))))))
theorem adp (G:aC) (hF:uD G) (t:List UInt8) (ht:t.length < 2^60):aD prog G 134 [dS t] (.bx [lV (iH t).1,dw (iH t).2]):=by
 unfold iH;unfold uD at hF;by_cases hl:2000 < t.length
 .have gr:(2000:Int) < (t.length:Int):=aa
  have hb:=Dj G 4;rw[if_pos hl];refine aD.aQ (aB _) func134 rfl rfl (rs:=[.tmp 2,.cell 3 52]) results134 (by simp[ntmps134]) fun X=>?_;simp only[ntmps134,List.map];have fw:=aiC;refine ae fw [0,3] [3] ?_;refine ag fun K1 aF=>?_;have qf:=(Aq fw (Aq @bQ (Aq @hl @gr)));refine ay [0,3,8] [3] ?_;refine aI (br fw hb [2,3] [3] ?_);exact aW (Aq fw aiL)
 have gr:¬ (2000:Int) < (t.length:Int):=aa
 rw[if_neg hl];obtain⟨yF,kF,hr⟩:=Sk G t aa;have hc:=(hr 0 (aib _)).1;have he:=(hr 0 (aib _)).2
 cases ho:lr t (cD t 20) 0 with
 | err c p q=>
  rw[ho]at hc;obtain⟨h1,h2,h3⟩:=he _ _ _ ho
  have h0:¬ c=0:=aa
  generalize yF 0=y at hc h2;generalize kF 0=k at hc h3;refine aD.aQ (aB _) func134 rfl rfl (rs:=[.tmp 2,.cell 3 52]) results134 (by simp[ntmps134]) fun X=>?_;simp only[ntmps134,List.map];have fw:=aiC;refine ae fw [0,3] [3] ?_;refine ag fun K1 aF=>?_;have qf:=(Aq fw (Aq @bQ (Aq @hl @gr)));refine ay [0,3,8] [3] ?_;refine al (ar (aF _ ?_));have qf:=(Aq fw @hF);refine ay [0,3,4] [3,13] ?_;refine AW.imp (aK.dM (r:=13) (r':=500) trivial ak) ?_;refine AW.st (by simp[gR,gQ,Go.Av.dM,FD];rfl) ?_;refine bD (Aq fw (Aq @jA.eq_1 (Aq @jA.eq_2 (Aq @ji.eq_1 (Aq @ji.eq_2 (Aq @eR.eq_1 (Aq @eR.eq_2 (Aq @pR.eq_1 @pR.eq_2)))))))) hc [0,3,4,5] [3,500] ?_;refine ag fun K2 au=>?_;have qf:=(Aq fw @h0);refine ay [3,4,5,43] [3,500] ?_;refine al (ar (au _ ?_));refine ag fun K3 aU=>?_;have qf:=(Aq fw @h0);refine ay [3,4,5,51] [3,500] ?_;refine aI (o4 (aB _) ah [(3,500),(5,3)] [2,3] [3,500] aN ah fun K' ao=>?_);(repeat refine jm fun Kq af=>?_;simp[ab,bL,dS];(repeat refine⟨aa,?_⟩);refine af _ ?_);refine ky (ao _ ?_);refine AW.st (by simp[ab,bL,dS];rfl) ?_;exact aW (Aq fw aiL)
 | ok x k=>
  rw[ho]at hc;dsimp only[jA,ji,eR,pR]at hc;have hk:=(ur (n9 t 20) 0 x k (aib _) ho).2;have eX:=Cw G t k aa hk 0 (-1);have ff:=lx hk;have fB:=Cu G t (bw t k) aa ff 3;rw[x3 hk]at fB
  have oK:bw t k < t.length\/pD t k=0:=by
   by_cases h:bw t k < t.length
   .exact .inl h
   .exact .inr (by unfold pD;rw[agw,ahN aa];rfl)
  obtain⟨cx,hx⟩:=yB x;dsimp only;generalize bw t k=j at eX ff fB oK ⊢;generalize pD t k=b at eX oK;by_cases hj:j < t.length
  .have eN:(j:Int) < (t.length:Int):=aa
   rw[if_pos hj];rw[hx]at hc;by_cases hb:((b.toNat:Int)=0)
   .have ry:b.toNat=0:=aa
    refine aD.aQ (aB _) func134 rfl rfl (rs:=[.tmp 2,.cell 3 52]) results134 (by simp[ntmps134]) fun X=>?_;simp only[ntmps134,List.map];have fw:=aiC;refine ae fw [0,3] [3] ?_;refine ag fun K1 aF=>?_;have qf:=(Aq fw (Aq @bQ (Aq @hl @gr)));refine ay [0,3,8] [3] ?_;refine al (ar (aF _ ?_));have qf:=(Aq fw @hF);refine ay [0,3,4] [3,13] ?_;refine AW.imp (aK.dM (r:=13) (r':=500) trivial ak) ?_;refine AW.st (by simp[gR,gQ,Go.Av.dM,FD];rfl) ?_;refine bD fw hc [0,3,4,5] [3,500] ?_;refine ag fun K2 au=>?_;have qf:=(Aq fw (Aq @hb (Aq @ry (Aq @bQ (Aq @hj @eN)))));refine kr eX [3,4,5,43] [3,500] ?_;refine aI (eU (aB _) fun K' ao=>?_);(repeat refine aM fun Kq af=>?_;simp[ab,bL,dS];(repeat refine⟨aa,?_⟩);refine af _ ?_);refine aM fun Kq af=>?_;simp[ab,bL,dS];refine dT.mc (fB) ?_ ?_ ?_ ?_ ?_<;>simp[ab,bL,dS];refine af _ ?_;(repeat refine aM fun Kq af=>?_;simp[ab,bL,dS];(repeat refine⟨aa,?_⟩);refine af _ ?_);refine bK (ao _ ?_);refine au _ (AW.norm [3,4,5] [3,500] aN (AW.st (by simp[ab,bL,dS];rfl) ?_));refine ag fun K3 aU=>ae fw [3,4,5,51] [3,500] ?_;refine aI (o4 (aB _) ah [(3,500),(5,3)] [2,3] [3,500] aN ah fun K' ao=>?_);(repeat refine jm fun Kq af=>?_;simp[ab,bL,dS];(repeat refine⟨aa,?_⟩);refine af _ ?_);refine ky (ao _ ?_);refine AW.st (by simp[ab,bL,dS];rfl) ?_;exact aW (Aq fw aiL)
   .have ry:¬ b.toNat=0:=aa
    refine aD.aQ (aB _) func134 rfl rfl (rs:=[.tmp 2,.cell 3 52]) results134 (by simp[ntmps134]) fun X=>?_;simp only[ntmps134,List.map];have fw:=aiC;refine ae fw [0,3] [3] ?_;refine ag fun K1 aF=>?_;have qf:=(Aq fw (Aq @bQ (Aq @hl @gr)));refine ay [0,3,8] [3] ?_;refine al (ar (aF _ ?_));have qf:=(Aq fw @hF);refine ay [0,3,4] [3,13] ?_;refine AW.imp (aK.dM (r:=13) (r':=500) trivial ak) ?_;refine AW.st (by simp[gR,gQ,Go.Av.dM,FD];rfl) ?_;refine bD fw hc [0,3,4,5] [3,500] ?_;refine ag fun K2 au=>?_;have qf:=(Aq fw (Aq @hb (Aq @ry (Aq @bQ (Aq @hj @eN)))));refine kr eX [3,4,5,43] [3,500] ?_;refine aI (eU (aB _) fun K' ao=>?_);(repeat refine aM fun Kq af=>?_;simp[ab,bL,dS];(repeat refine⟨aa,?_⟩);refine af _ ?_);refine aM fun Kq af=>?_;simp[ab,bL,dS];refine dT.mc (fB) ?_ ?_ ?_ ?_ ?_<;>simp[ab,bL,dS];refine af _ ?_;(repeat refine aM fun Kq af=>?_;simp[ab,bL,dS];(repeat refine⟨aa,?_⟩);refine af _ ?_);refine bK (ao _ ?_);refine au _ (AW.norm [3,4,5] [3,500] aN (AW.st (by simp[ab,bL,dS];rfl) ?_));refine ag fun K3 aU=>ae fw [3,4,5,51] [3,500] ?_;refine aI (o4 (aB _) ah [(3,500),(5,3)] [2,3] [3,500] aN ah fun K' ao=>?_);(repeat refine jm fun Kq af=>?_;simp[ab,bL,dS];(repeat refine⟨aa,?_⟩);refine af _ ?_);refine ky (ao _ ?_);refine AW.st (by simp[ab,bL,dS];rfl) ?_;exact aW (Aq fw aiL)
  .have eN:¬ (j:Int) < (t.length:Int):=aa
   have hb:((b.toNat:Int)=0):=by
    rcases oK with h | h
    .exact absurd h hj
    .rw[h];rfl
   have ry:b.toNat=0:=aa
   rw[if_neg hj];simp only[lV];rw[hx]at hc ⊢;refine aD.aQ (aB _) func134 rfl rfl (rs:=[.tmp 2,.cell 3 52]) results134 (by simp[ntmps134]) fun X=>?_;simp only[ntmps134,List.map];have fw:=aiC;refine ae fw [0,3] [3] ?_;refine ag fun K1 aF=>?_;have qf:=(Aq fw (Aq @bQ (Aq @hl @gr)));refine ay [0,3,8] [3] ?_;refine al (ar (aF _ ?_));have qf:=(Aq fw @hF);refine ay [0,3,4] [3,13] ?_;refine AW.imp (aK.dM (r:=13) (r':=500) trivial ak) ?_;refine AW.st (by simp[gR,gQ,Go.Av.dM,FD];rfl) ?_;refine bD fw hc [0,3,4,5] [3,500] ?_;refine ag fun K2 au=>?_;have qf:=(Aq fw (Aq @hb (Aq @ry (Aq @bQ (Aq @hj @eN)))));refine kr eX [3,4,5,43] [3,500] ?_;refine al (ar (au _ ?_));refine ag fun K3 aU=>ae fw [3,4,5,51] [3,500] ?_;refine al (ar (aU _ ?_));refine o4 (aB _) ah [(3,3)] [2,3] [3,500] aN ah fun K' ao=>?_;(repeat refine jm fun Kq af=>?_;simp[ab,bL,dS,hF];(repeat refine⟨aa,?_⟩);refine af _ ?_);refine ky (ao _ ?_);refine AW.st (by simp[ab,bL,dS,hF];rfl) ?_;exact aW (Aq fw (Aq @aij (Aq @aik (Aq @ail (Aq @aim @ain)))))
theorem OC {α:Type} (p:α->Bool) (l:List α):decide (0<=idx p l)=l.any p:=by
 unfold idx
 cases h:l.findIdx? p with
 | none=>
  rw[List.findIdx?_eq_none_iff]at h
  have:l.any p=false:=by rw[List.any_eq_false];intro x hx;simp[h x hx]
  rw[this];simp
 | some i=>
  rw[ag6]at h;obtain⟨hi,hp,_⟩:=h;have:l.any p=true:=ahp.2 ⟨_,OF hi,hp⟩;rw[this];simp
theorem Mt (is ch:List UInt8->Bool):∀ l:List Ex,yH is ch l = !(l.any fun e=>!eQ is ch e)
 | []=>rfl
 | e :: l=>by rw[yH,Mt is ch l];simp
theorem Mw (is ch:List UInt8->Bool):∀ l:List Ex,yI is ch l=l.any fun e=>eQ is ch e
 | []=>rfl
 | e :: l=>by rw[yI,Mw is ch l];simp
theorem aac (G:aC) (k:Option Bool) (xs:List Ex) (g:FuncId) (caps:List D) (p:Ex->Bool) (hl:xs.length < 2^63) (ha:∀ x∈xs,aD prog G g (dE x :: caps) (.v (.bool (p x)))) :
  aD prog G 207 [.sl k (xs.map fun x=>[dE x]),.fn (.func g) caps] (.v (.int .i64 (idx p xs))):=by
 refine aD.aQ (aB _) func207 rfl rfl (rs:=[.tmp 4]) results207 (by simp[ntmps207]) fun X=>?_;simp only[ntmps207,List.map];refine aq [0,1] [] ?_;refine ag fun K1 aF=>aq [0,1,7,8] [] ?_;refine cy (S:=Nat) (fun n=>n<=xs.length/\∀ i (hi:i < xs.length),i < n->p xs[i]=false) (fun n=>⟨bn [(0,.d (.sl k (xs.map fun x=>[dE x]))),(1,.d (.fn (.func g) caps)),(7,int xs.length),(8,int n)],aw []⟩) (fun n=>xs.length - n) 0 ?_ ak ?_
 .refine cI
 .rintro n ⟨hn,hp⟩;refine aq [0,1,7,8,9] [] ?_;refine ag fun K2 au=>eE (b:=n < xs.length) (by simp[D.le,D.le.go,aL]) (fun hc=>?_) (fun hc=>?_)
  .have tF:=ha xs[n] ak;refine ar (au _ (ag fun K3 aU=>bd (aq [0,1,5,7,8] [] ?_)));have qf:=@hc;refine fj tF [0,1,5,7,8,16] [] ?_;refine pO _ rfl (fun fb=>?_) (fun fb=>?_)
   .refine aq [4] [] ?_;refine bR ?_;simp[D.le,D.le.go,aL];exact (xC hc fb fun i hi=>hp i aa hi).symm
   .refine ar (aU _ (c6 ?_));(try simp only[aT,aV]);refine ba.mk (n+1) ⟨aa,fun i hi aS=>?_⟩ aa ?_
    .by_cases h:i=n
     .subst h;exact fb
     .exact hp i hi aa
    refine cI
  .refine bW (aF _ (aq [4] [] ?_));refine bR ?_;simp[D.le,D.le.go,aL];exact (xD fun i hi=>hp i hi aa).symm
theorem VP (G:aC) (k:Option Bool) (xs:List Ex) (g:FuncId) (caps:List D) (p:Ex->Bool) (hl:xs.length < 2^63) (ha:∀ x∈xs,aD prog G g (dE x :: caps) (.v (.bool (p x)))) :
  aD prog G 139 [.sl k (xs.map fun x=>[dE x]),.fn (.func g) caps] (.v (.bool (xs.any p))):=by
 have hi:=aac G k xs g caps p hl ha;have hd:=OC p xs;generalize idx p xs=r at hi hd;rw[<- hd];refine aD.aQ (aB _) func139 rfl rfl (rs:=[.tmp 4]) results139 (by simp[ntmps139]) fun X=>?_;simp only[ntmps139,List.map];refine aq [0,1] [] ?_;refine br trivial hi [4] [] ?_;exact gw
theorem aae (G:aC) (k:Option Bool) (xs:List Ex) (g:FuncId) (caps:List D) (p:Ex->Bool) (hl:xs.length < 2^63) (ha:∀ x∈xs,aD prog G g (dE x :: caps) (.v (.bool (p x)))) :
  aD prog G 208 [.sl k (xs.map fun x=>[dE x]),.fn (.func g) caps] (.v (.int .i64 (idx p xs))):=by
 refine aD.aQ (aB _) func208 rfl rfl (rs:=[.tmp 4]) results208 (by simp[ntmps208]) fun X=>?_;simp only[ntmps208,List.map];refine aq [0,1] [] ?_;refine ag fun K1 aF=>aq [0,1,7,8] [] ?_;refine cy (S:=Nat) (fun n=>n<=xs.length/\∀ i (hi:i < xs.length),i < n->p xs[i]=false) (fun n=>⟨bn [(0,.d (.sl k (xs.map fun x=>[dE x]))),(1,.d (.fn (.func g) caps)),(7,int xs.length),(8,int n)],aw []⟩) (fun n=>xs.length - n) 0 ?_ ak ?_
 .refine cI
 .rintro n ⟨hn,hp⟩;refine aq [0,1,7,8,9] [] ?_;refine ag fun K2 au=>eE (b:=n < xs.length) (by simp[D.le,D.le.go,aL]) (fun hc=>?_) (fun hc=>?_)
  .have tF:=ha xs[n] ak;refine ar (au _ (ag fun K3 aU=>bd (aq [0,1,5,7,8] [] ?_)));have qf:=@hc;refine fj tF [0,1,5,7,8,16] [] ?_;refine pO _ rfl (fun fb=>?_) (fun fb=>?_)
   .refine aq [4] [] ?_;refine bR ?_;simp[D.le,D.le.go,aL];exact (xC hc fb fun i hi=>hp i aa hi).symm
   .refine ar (aU _ (c6 ?_));(try simp only[aT,aV]);refine ba.mk (n+1) ⟨aa,fun i hi aS=>?_⟩ aa ?_
    .by_cases h:i=n
     .subst h;exact fb
     .exact hp i hi aa
    refine cI
  .refine bW (aF _ (aq [4] [] ?_));refine bR ?_;simp[D.le,D.le.go,aL];exact (xD fun i hi=>hp i hi aa).symm
theorem VQ (G:aC) (k:Option Bool) (xs:List Ex) (g:FuncId) (caps:List D) (p:Ex->Bool) (hl:xs.length < 2^63) (ha:∀ x∈xs,aD prog G g (dE x :: caps) (.v (.bool (p x)))) :
  aD prog G 141 [.sl k (xs.map fun x=>[dE x]),.fn (.func g) caps] (.v (.bool (xs.any p))):=by
 have hi:=aae G k xs g caps p hl ha;have hd:=OC p xs;generalize idx p xs=r at hi hd;rw[<- hd];refine aD.aQ (aB _) func141 rfl rfl (rs:=[.tmp 4]) results141 (by simp[ntmps141]) fun X=>?_;simp only[ntmps141,List.map];refine aq [0,1] [] ?_;refine br trivial hi [4] [] ?_;exact gw
def Tells (G:aC) (g:FuncId) (caps:List D) (p:List UInt8->Bool):Prop:=∀ s,aD prog G g (dS s :: caps) (.v (.bool (p s)))
mutual
def iK (S1 S2:List UInt8->Prop):Ex->Prop
 | .gU _=>True
 | .bit s=>S1 s
 | .jk s=>S1 s/\S2 s
 | .ja s=>S1 s/\S2 s
 | .not e=>iK S1 S2 e
 | .and l=>sO S1 S2 l
 | .or l=>sO S1 S2 l
def sO (S1 S2:List UInt8->Prop):List Ex->Prop
 | []=>True
 | e :: l=>iK S1 S2 e/\sO S1 S2 l
end
theorem Ag {S1 S2:List UInt8->Prop}:∀ {l:List Ex},sO S1 S2 l↔∀ x∈l,iK S1 S2 x
 | []=>by simp[sO]
 | e :: l=>by rw[sO,Ag];simp
def qn (S:List UInt8->Prop) (G:aC) (g:FuncId) (caps:List D) (p:List UInt8->Bool):Prop:=∀ s,S s->aD prog G g (dS s :: caps) (.v (.bool (p s)))
theorem eval_at (G:aC) (g1 g2:FuncId) (c1 c2:List D) (is ch:List UInt8->Bool) (S1 S2:List UInt8->Prop) (h1:qn S1 G g1 c1 is) (h2:qn S2 G g2 c2 ch):∀ (n:Nat) (e:Ex),SizeOf.sizeOf e<=n->iK S1 S2 e->bE e<=2^28->aD prog G 67 [dE e,.fn (.func g1) c1,.fn (.func g2) c2] (.v (.bool (eQ is ch e))):=by
 intro n
 induction n with
 | zero=>intro e bg;cases e<;>simp at bg
 | succ n ih=>
  intro e bg gM hb;have fw:=aiG
  cases e with
  | gU b=>
   rw[dE];refine aD.aQ (aB _) func67 rfl rfl (rs:=[.tmp 6]) results67 (by simp[ntmps67]) fun X=>?_;simp only[ntmps67,List.map];refine ae fw [0,4,5] [4,5] ?_;refine dI fw 4 ?_;refine dI fw 5 ?_;refine ag fun K1 aF=>ae fw [4,5,14] [] ?_;refine bd (ae fw [4,5,14,16,17] [] ?_);refine aI (ae fw [7] [] ?_);refine ae fw [6] [] ?_;refine bR ?_;simp[D.le,D.le.go,aL,ab,dS,bT,cT,eQ]
  | bit s=>
   rw[iK]at gM;have hi:=h1 s gM;rw[dE,eQ];refine aD.aQ (aB _) func67 rfl rfl (rs:=[.tmp 6]) results67 (by simp[ntmps67]) fun X=>?_;simp only[ntmps67,List.map];refine ae fw [0,4,5] [4,5] ?_;refine dI fw 4 ?_;refine dI fw 5 ?_;refine ag fun K1 aF=>ae fw [4,5,14] [] ?_;refine bd (ae fw [4,5,14,16,17] [] ?_);refine al (ae fw [4,5,14,20,21] [] ?_);refine aI (ae fw [4,8] [] ?_);refine br fw hi [6] [] ?_;exact aW fw
  | jk s=>
   rw[iK]at gM;have hi:=h1 s gM.1;have hw:=h2 s gM.2;rw[dE,eQ]
   cases hs:is s with
   | false=>
    rw[hs]at hi;refine aD.aQ (aB _) func67 rfl rfl (rs:=[.tmp 6]) results67 (by simp[ntmps67]) fun X=>?_;simp only[ntmps67,List.map];refine ae fw [0,4,5] [4,5] ?_;refine dI fw 4 ?_;refine dI fw 5 ?_;refine ag fun K1 aF=>ae fw [4,5,14] [] ?_;refine bd (ae fw [4,5,14,16,17] [] ?_);refine al (ae fw [4,5,14,20,21] [] ?_);refine al (ae fw [4,5,14,26,27] [] ?_);refine aI (ae fw [4,5,9] [] ?_);refine br fw hi [6] [] ?_;exact aW fw
   | true=>
    rw[hs]at hi;refine aD.aQ (aB _) func67 rfl rfl (rs:=[.tmp 6]) results67 (by simp[ntmps67]) fun X=>?_;simp only[ntmps67,List.map];refine ae fw [0,4,5] [4,5] ?_;refine dI fw 4 ?_;refine dI fw 5 ?_;refine ag fun K1 aF=>ae fw [4,5,14] [] ?_;refine bd (ae fw [4,5,14,16,17] [] ?_);refine al (ae fw [4,5,14,20,21] [] ?_);refine al (ae fw [4,5,14,26,27] [] ?_);refine aI (ae fw [4,5,9] [] ?_);refine rg [6] [] aN fun K' ao=>?_;(repeat refine aM fun Kq af=>?_;simp[ab,dS,bT,cT];(repeat refine⟨aa,?_⟩);refine af _ ?_);refine aM fun Kq af=>?_;simp[ab,dS,bT,cT];refine dT.data (hi) bA (by first | exact D.bJ _ | simp[aL,agF,agy,D.le,D.le.go,D.le_refl,D.bJ,ab,dS,bT,cT]) ?_;refine af _ ?_;simp only[aR,dY];(repeat refine aM fun Kq af=>?_;simp[ab,dS,bT,cT];(repeat refine⟨aa,?_⟩);refine af _ ?_);refine aM fun Kq af=>?_;simp[ab,dS,bT,cT];refine dT.data (hw) bA (by first | exact D.bJ _ | simp[aL,agF,agy,D.le,D.le.go,D.le_refl,D.bJ,ab,dS,bT,cT]) ?_;refine af _ ?_;simp only[aR,dY];(repeat refine aM fun Kq af=>?_;simp[ab,dS,bT,cT];(repeat refine⟨aa,?_⟩);refine af _ ?_);refine bK (ao _ (AW.st (by simp[ab,dS,bT,cT];rfl) ?_));exact aW fw
  | ja s=>
   rw[iK]at gM;have hi:=h1 s gM.1;have hw:=h2 s gM.2;rw[dE,eQ]
   cases hs:is s with
   | true=>
    rw[hs]at hi;refine aD.aQ (aB _) func67 rfl rfl (rs:=[.tmp 6]) results67 (by simp[ntmps67]) fun X=>?_;simp only[ntmps67,List.map];refine ae fw [0,4,5] [4,5] ?_;refine dI fw 4 ?_;refine dI fw 5 ?_;refine ag fun K1 aF=>ae fw [4,5,14] [] ?_;refine bd (ae fw [4,5,14,16,17] [] ?_);refine al (ae fw [4,5,14,20,21] [] ?_);refine al (ae fw [4,5,14,26,27] [] ?_);refine al (ae fw [4,5,14,38,39] [] ?_);refine aI (ae fw [4,5,10] [] ?_);refine br fw hi [6] [] ?_;exact aW fw
   | false=>
    rw[hs]at hi;refine aD.aQ (aB _) func67 rfl rfl (rs:=[.tmp 6]) results67 (by simp[ntmps67]) fun X=>?_;simp only[ntmps67,List.map];refine ae fw [0,4,5] [4,5] ?_;refine dI fw 4 ?_;refine dI fw 5 ?_;refine ag fun K1 aF=>ae fw [4,5,14] [] ?_;refine bd (ae fw [4,5,14,16,17] [] ?_);refine al (ae fw [4,5,14,20,21] [] ?_);refine al (ae fw [4,5,14,26,27] [] ?_);refine al (ae fw [4,5,14,38,39] [] ?_);refine aI (ae fw [4,5,10] [] ?_);refine rg [6] [] aN fun K' ao=>?_;(repeat refine aM fun Kq af=>?_;simp[ab,dS,bT,cT];(repeat refine⟨aa,?_⟩);refine af _ ?_);refine aM fun Kq af=>?_;simp[ab,dS,bT,cT];refine dT.data (hi) bA (by first | exact D.bJ _ | simp[aL,agF,agy,D.le,D.le.go,D.le_refl,D.bJ,ab,dS,bT,cT]) ?_;refine af _ ?_;simp only[aR,dY];(repeat refine aM fun Kq af=>?_;simp[ab,dS,bT,cT];(repeat refine⟨aa,?_⟩);refine af _ ?_);refine aM fun Kq af=>?_;simp[ab,dS,bT,cT];refine dT.data (hw) bA (by first | exact D.bJ _ | simp[aL,agF,agy,D.le,D.le.go,D.le_refl,D.bJ,ab,dS,bT,cT]) ?_;refine af _ ?_;simp only[aR,dY];(repeat refine aM fun Kq af=>?_;simp[ab,dS,bT,cT];(repeat refine⟨aa,?_⟩);refine af _ ?_);refine bK (ao _ (AW.st (by simp[ab,dS,bT,cT];rfl) ?_));exact aW fw
  | not x=>
   have hc:=ih x (by simp at bg;omega) (by rwa [iK]at gM) (by simp only[bE]at hb;omega);obtain⟨tx,cx,hx⟩:=kJ x;rw[dE,eQ,hx];rw[hx]at hc;generalize eQ is ch x=r at hc ⊢;refine aD.aQ (aB _) func67 rfl rfl (rs:=[.tmp 6]) results67 (by simp[ntmps67]) fun X=>?_;simp only[ntmps67,List.map];refine ae fw [0,4,5] [4,5] ?_;refine dI fw 4 ?_;refine dI fw 5 ?_;refine ag fun K1 aF=>ae fw [4,5,14] [] ?_;refine bd (ae fw [4,5,14,16,17] [] ?_);refine al (ae fw [4,5,14,20,21] [] ?_);refine al (ae fw [4,5,14,26,27] [] ?_);refine al (ae fw [4,5,14,38,39] [] ?_);refine al (ae fw [4,5,14,50,51] [] ?_);refine aI (ae fw [4,5,11] [11] ?_);refine br fw hc [6] [11] ?_;exact aW fw
  | and l=>
   have nc:∀ x∈l,aD prog G 140 [dE x,.ip [.fn (.func g1) c1],.ip [.fn (.func g2) c2]] (.v (.bool (!eQ is ch x))):=fun x hx=>by
    have hc:=ih x (by have:=ag0 hx;simp only[Ex.and.sizeOf_spec]at bg;omega) (by rw[iK,Ag]at gM;exact gM x hx) (by have:=Ap hx;simp only[bE]at hb;omega);obtain⟨tx,cx,IX⟩:=kJ x;rw[IX]at hc ⊢;generalize eQ is ch x=r at hc ⊢;refine aD.aQ (aB _) func140 rfl rfl (rs:=[.tmp 4]) results140 (by simp[ntmps140]) fun X=>?_;simp only[ntmps140,List.map];refine ae fw [0,1,2] [] ?_;refine br fw hc [4] [] ?_;exact aW fw
   have pn:=uF l;have Bj:=VP G none l 140 [.ip [.fn (.func g1) c1],.ip [.fn (.func g2) c2]] (fun x=>!eQ is ch x) (by simp only[bE]at hb;omega) nc;rw[dE,s5,eQ,Mt];generalize l.any (fun x=>!eQ is ch x)=r at Bj ⊢;refine aD.aQ (aB _) func67 rfl rfl (rs:=[.tmp 6]) results67 (by simp[ntmps67]) fun X=>?_;simp only[ntmps67,List.map];refine ae fw [0,4,5] [4,5] ?_;refine dI fw 4 ?_;refine dI fw 5 ?_;refine ag fun K1 aF=>ae fw [4,5,14] [] ?_;refine bd (ae fw [4,5,14,16,17] [] ?_);refine al (ae fw [4,5,14,20,21] [] ?_);refine al (ae fw [4,5,14,26,27] [] ?_);refine al (ae fw [4,5,14,38,39] [] ?_);refine al (ae fw [4,5,14,50,51] [] ?_);refine al (ae fw [4,5,14,59,60] [] ?_);refine aI (ae fw [4,5,12] [] ?_);refine br fw Bj [6] [] ?_;exact aW fw
  | or l=>
   have nc:∀ x∈l,aD prog G 142 [dE x,.ip [.fn (.func g1) c1],.ip [.fn (.func g2) c2]] (.v (.bool (eQ is ch x))):=fun x hx=>by
    have hc:=ih x (by have:=ag0 hx;simp only[Ex.or.sizeOf_spec]at bg;omega) (by rw[iK,Ag]at gM;exact gM x hx) (by have:=Ap hx;simp only[bE]at hb;omega);obtain⟨tx,cx,IX⟩:=kJ x;rw[IX]at hc ⊢;generalize eQ is ch x=r at hc ⊢;refine aD.aQ (aB _) func142 rfl rfl (rs:=[.tmp 4]) results142 (by simp[ntmps142]) fun X=>?_;simp only[ntmps142,List.map];refine ae fw [0,1,2] [] ?_;refine br fw hc [4] [] ?_;exact aW fw
   have pn:=uF l;have Bj:=VQ G none l 142 [.ip [.fn (.func g1) c1],.ip [.fn (.func g2) c2]] (fun x=>eQ is ch x) (by simp only[bE]at hb;omega) nc;rw[dE,s5,eQ,Mw];generalize l.any (fun x=>eQ is ch x)=r at Bj ⊢;refine aD.aQ (aB _) func67 rfl rfl (rs:=[.tmp 6]) results67 (by simp[ntmps67]) fun X=>?_;simp only[ntmps67,List.map];refine ae fw [0,4,5] [4,5] ?_;refine dI fw 4 ?_;refine dI fw 5 ?_;refine ag fun K1 aF=>ae fw [4,5,14] [] ?_;refine bd (ae fw [4,5,14,16,17] [] ?_);refine al (ae fw [4,5,14,20,21] [] ?_);refine al (ae fw [4,5,14,26,27] [] ?_);refine al (ae fw [4,5,14,38,39] [] ?_);refine al (ae fw [4,5,14,50,51] [] ?_);refine al (ae fw [4,5,14,59,60] [] ?_);refine al (ae fw [4,5,66,67] [] ?_);refine aI (ae fw [4,5,13] [] ?_);refine br fw Bj [6] [] ?_;exact aW fw
theorem WH (G:aC) (g1 g2:FuncId) (c1 c2:List D) (is ch:List UInt8->Bool) (S1 S2:List UInt8->Prop) (h1:qn S1 G g1 c1 is) (h2:qn S2 G g2 c2 ch) (e:Ex) (ha:iK S1 S2 e) (hb:bE e<=2^28):aD prog G 67 [dE e,.fn (.func g1) c1,.fn (.func g2) c2] (.v (.bool (eQ is ch e))):=
 eval_at G g1 g2 c1 c2 is ch S1 S2 h1 h2 _ e (agD _) ha hb
theorem la:(⟨#[97]⟩:ByteArray)=bs [97]:=rfl
theorem lb:(⟨#[98]⟩:ByteArray)=bs [98]:=rfl
structure gz where
 name:Tx
 kind:Int
 count:Int
structure iL where
 kind:Int
 name:Tx
 cond:Option Ex
structure aP where
 names:List gz
 ax:List iL
def bH (p:aP) (s:Tx):Int:=idx (fun n:gz=>n.name == s) p.names
theorem PQ (p:aP) {i:Nat} (hi:i < p.names.length):0<=bH p p.names[i].name/\bH p p.names[i].name<=i:=by
 have bl:¬ bH p p.names[i].name < 0:=fun h=>by
  have:=Z6 h _ (OF hi);simp at this
 obtain⟨k,hk,he,_⟩:=uh bl;refine⟨aa,?_⟩;apply ahb;intro aG
 have Bq:i < k:=by unfold bH at aG;omega
 unfold idx at he
 cases hf:p.names.findIdx? (fun n:gz=>n.name == p.names[i].name) with
 | none=>rw[hf]at he;simp at he
 | some k'=>
  rw[hf]at he;simp only[Int.ofNat.injEq,Int.natCast_inj]at he
  have lL:k'=k:=by simpa using he
  subst lL;have:=(ag6.1 hf).2.2 i Bq;simp at this
def nI {α:Type} (f:Nat->α->Int):List α->Nat->Option (Int×Nat)
 | [],_=>none
 | x :: l,i=>if f i x=0 then nI f l (i+1) else some (f i x,i)
theorem AK {α:Type} {f:Nat->α->Int}:∀ {l:List α} {i:Nat} {e:Int} {k:Nat},nI f l i=some (e,k)->i<=k/\k < i+l.length/\e≠0
 | x :: l,i,e,k,h=>by
  rw[nI]at h;split at h
  .have:=AK h;simp only[agS];omega
  .rename_i bl;obtain⟨h1,h2⟩:=eo h;rw[h1]at bl;simp only[agS];exact⟨aa,aa,bl⟩
theorem DK {α:Type} {f:Nat->α->Int}:∀ {l:List α} {i:Nat},nI f l i=none->∀ k (hk:k < l.length),f (i+k) l[k]=0
 | x :: l,i,h,k,hk=>by
  rw[nI]at h;split at h
  .rename_i h0
   cases k with
   | zero=>simpa using h0
   | succ k=>
    have:=DK h k (by simpa using hk);simpa[ahs,ah9 1 k]using this
  .cases h
def Dv (n:gz):Bool:=decide (n.kind=3) || decide (n.kind=4)
def nG (p:aP) (i:Nat) (n:gz):Int:=
 if !jg n.name then 5 else if decide (n.kind < 1) || decide (n.kind > 4) then 1 else if (Dv n && (decide (n.count < 1) || decide (n.count > 7))) || (!Dv n && decide (n.count≠0)) then 2 else if bH p n.name < i then 9 else 0
def jF (k:Int):Int:=if k<=3 then 2 else if k=4 then 3 else 4
def lT (p:aP) (r:iL):Int:=match r.cond with
 | none=>1
 | some e=>if decide (r.kind < 1) || decide (r.kind > 6) then 1 else if bH p r.name < 0 then 7
  else if jF r.kind≠(p.names.getD (bH p r.name).toNat ⟨[],0,0⟩).kind then 1 else if (fi true e).any fun s=>decide (bH p s < 0) then 7 else 0
def dr (p:aP):Option (Int×Option Nat):=
 if p.names.length > 12\/p.ax.length > 40 then some (4,none) else match nI (nG p) p.names 0 with
  | some (e,i)=>some (e,some i)
  | none=>match nI (fun _ r=>lT p r) p.ax 0 with
   | some (e,i)=>some (e,some (p.names.length+i))
   | none=>none
def Gx (p:aP) (i:Nat) (n:gz):Int:=
 if !jg n.name then 5 else if !(decide (1<=n.kind) && decide (n.kind<=4)) then 1 else if (decide (n.kind >= 3) && !(decide (1<=n.count) && decide (n.count<=7))) || (decide (n.kind < 3) && decide (n.count≠0)) then 2 else if bH p n.name≠i then 9 else 0
theorem TB (p:aP) (i:Nat) (hi:i < p.names.length):Gx p i p.names[i]=nG p i p.names[i]:=by
 have hle:=PQ p hi;generalize hn:p.names[i]=n at hle ⊢;unfold nG Gx Dv
 cases lM:jg n.name with
 | false=>simp
 | true=>
  by_cases hk:1<=n.kind/\n.kind<=4
  .have e1:(!(decide (1<=n.kind) && decide (n.kind<=4)))=false:=by simp[hk.1,hk.2]
   have e2:(decide (n.kind < 1) || decide (n.kind > 4))=false:=by simp;omega
   have e3:((decide (n.kind >= 3) && !(decide (1<=n.count) && decide (n.count<=7))) || (decide (n.kind < 3) && decide (n.count≠0)))=(((decide (n.kind=3) || decide (n.kind=4)) && (decide (n.count < 1) || decide (n.count > 7))) || (!(decide (n.kind=3) || decide (n.kind=4)) && decide (n.count≠0))):=by
    have:n.kind=1\/n.kind=2\/n.kind=3\/n.kind=4:=aa
    have ec:(!(decide (1<=n.count) && decide (n.count<=7)))=(decide (n.count < 1) || decide (n.count > 7)):=by
     by_cases h1:1<=n.count<;>by_cases h2:n.count<=7<;>simp[h1,h2]<;>omega
    rw[ec]
    rcases this with h | h | h | h<;>simp[h]
   rw[e1,e2,e3];have e4:(bH p n.name≠(i:Int))=(bH p n.name < (i:Int)):=propext ⟨fun h=>aa,fun h=>aa⟩;simp only[e4]
  .have e1:(!(decide (1<=n.kind) && decide (n.kind<=4)))=true:=by
    rw[<- Bool.decide_and];simp;omega
   have e2:(decide (n.kind < 1) || decide (n.kind > 4))=true:=by simp;omega
   rw[e1,e2];simp
structure j2 (p:aP):Prop where
 names:p.names.length<=12
 ax:p.ax.length<=40
 name:∀ n∈p.names,jg n.name=true/\1<=n.kind/\n.kind<=4
 count:∀ n∈p.names,(n.kind < 3/\n.count=0)\/(3<=n.kind/\1<=n.count/\n.count<=7)
 num:∀ i (hi:i < p.names.length),bH p p.names[i].name=i
theorem iB {p:aP} (h:dr p=none):j2 p:=by
 unfold dr at h;split at h
 .cases h
 .rename_i hl;split at h
  .cases h
  .rename_i hN;have dy:=fun i hi=>DK hN i hi
   have one:∀ i (hi:i < p.names.length),jg p.names[i].name=true/\1<=p.names[i].kind/\p.names[i].kind<=4/\((p.names[i].kind < 3/\p.names[i].count=0)\/(3<=p.names[i].kind/\1<=p.names[i].count/\p.names[i].count<=7))/\bH p p.names[i].name=i:=fun i hi=>by
    have hb:=dy i hi;have hle:=PQ p hi;rw[ag4]at hb;generalize p.names[i]=n at hb hle ⊢;unfold nG Dv at hb;split at hb
    .omega
    .rename_i h1;split at hb
     .omega
     .rename_i h2;split at hb
      .omega
      .rename_i h3;split at hb
       .omega
       .rename_i h4;simp at h1 h2 h3;refine⟨h1,aa,aa,?_,aa⟩;by_cases hk:n.kind=3\/n.kind=4
        .exact .inr ⟨aa,by have:=h3.1 hk;omega,by have:=h3.1 hk;omega⟩
        .have:=h3.2 aa aa;exact .inl ⟨aa,aa⟩
   refine⟨aa,aa,fun n hn=>?_,fun n hn=>?_,fun i hi=>(one i hi).2.2.2.2⟩
   .obtain⟨i,hi,rfl⟩:=agG.1 hn;exact⟨(one i hi).1,(one i hi).2.1,(one i hi).2.2.1⟩
   .obtain⟨i,hi,rfl⟩:=agG.1 hn;exact (one i hi).2.2.2.1
def bo (n:gz):List D:=[dS n.name,.v (.int .i64 n.kind),.v (.int .i64 n.count)]
def Dy (n:gz):D:=.agg (bo n)
def cj (l:List gz):D:=.sl none (l.map bo)
def dC (c:Option Ex):D:=match c with
 | none=>.v .nilIface
 | some e=>dE e
def c8 (r:iL):List D:=[.v (.int .i64 r.kind),dS r.name,dC r.cond]
def GP (r:iL):D:=.agg (c8 r)
def fq (l:List iL):D:=.sl none (l.map c8)
def fW (p:aP):List D:=[cj p.names,fq p.ax]
def fH (p:aP):D:=.agg (fW p)
theorem aad (G:aC) (k:Option Bool) (xs:List gz) (g:FuncId) (caps:List D) (p:gz->Bool) (hl:xs.length < 2^62) (ha:Gc G g caps Dy p xs) :
  aD prog G 113 [.sl k (xs.map bo),.fn (.func g) caps] (.v (.int .i64 (idx p xs))):=by
 refine aD.aQ (aB _) func113 rfl rfl (rs:=[.tmp 4]) results113 (by simp[ntmps113]) fun X=>?_;simp only[ntmps113,List.map];refine aq [0,1] [] ?_;refine ag fun K1 aF=>aq [0,1,7,8] [] ?_;refine cy (S:=Nat) (fun n=>n<=xs.length/\∀ i (hi:i < xs.length),i < n->p xs[i]=false) (fun n=>⟨bn [(0,.d (.sl k (xs.map bo))),(1,.d (.fn (.func g) caps)),(7,int xs.length),(8,int n)],aw []⟩) (fun n=>xs.length - n) 0 ?_ ak ?_
 .refine cI
 .rintro n ⟨hn,hp⟩;refine aq [0,1,7,8,9] [] ?_;refine ag fun K2 au=>eE (b:=n < xs.length) (by simp[D.le,D.le.go,aL]) (fun hc=>?_) (fun hc=>?_)
  .refine ar (au _ (ag fun K3 aU=>bd (aq [0,1,5,7,8] [] ?_)));have tF:=ha xs[n] ak;simp only[Dy,bo]at tF;have qf:=(Aq @hc @bo.eq_1);refine fj tF [0,1,5,7,8,16] [] ?_;refine pO _ rfl (fun fb=>?_) (fun fb=>?_)
   .refine aq [4] [] ?_;refine bR ?_;simp[D.le,D.le.go,aL];exact (xC hc fb fun i hi=>hp i aa hi).symm
   .refine ar (aU _ (c6 ?_));(try simp only[aT,aV]);refine ba.mk (n+1) ⟨aa,fun i hi aS=>?_⟩ aa ?_
    .by_cases h:i=n
     .subst h;exact fb
     .exact hp i hi aa
    refine cI
  .refine bW (aF _ (aq [4] [] ?_));refine bR ?_;simp[D.le,D.le.go,aL];exact (xD fun i hi=>hp i hi aa).symm
theorem aag (G:aC) (k:Option Bool) (xs:List (List UInt8)) (g:FuncId) (caps:List D) (p:(List UInt8)->Bool) (hl:xs.length < 2^62) (ha:Gc G g caps dS p xs) :
  aD prog G 209 [.sl k (xs.map (fun s=>[dS s])),.fn (.func g) caps] (.v (.int .i64 (idx p xs))):=by
 refine aD.aQ (aB _) func209 rfl rfl (rs:=[.tmp 4]) results209 (by simp[ntmps209]) fun X=>?_;simp only[ntmps209,List.map];refine aq [0,1] [] ?_;refine ag fun K1 aF=>aq [0,1,7,8] [] ?_;refine cy (S:=Nat) (fun n=>n<=xs.length/\∀ i (hi:i < xs.length),i < n->p xs[i]=false) (fun n=>⟨bn [(0,.d (.sl k (xs.map (fun s=>[dS s])))),(1,.d (.fn (.func g) caps)),(7,int xs.length),(8,int n)],aw []⟩) (fun n=>xs.length - n) 0 ?_ ak ?_
 .refine bq @aii
 .rintro n ⟨hn,hp⟩;refine aq [0,1,7,8,9] [] ?_;refine ag fun K2 au=>eE (b:=n < xs.length) (by simp[D.le,D.le.go,aL]) (fun hc=>?_) (fun hc=>?_)
  .refine ar (au _ (ag fun K3 aU=>bd (aq [0,1,5,7,8] [] ?_)));have tF:=ha xs[n] ak;simp only[dS]at tF;have qf:=(Aq @hc @aii);refine fj tF [0,1,5,7,8,16] [] ?_;refine pO _ rfl (fun fb=>?_) (fun fb=>?_)
   .refine aq [4] [] ?_;refine bR ?_;simp[D.le,D.le.go,aL];exact (xC hc fb fun i hi=>hp i aa hi).symm
   .refine ar (aU _ (c6 ?_));(try simp only[aT,aV]);refine ba.mk (n+1) ⟨aa,fun i hi aS=>?_⟩ aa ?_
    .by_cases h:i=n
     .subst h;exact fb
     .exact hp i hi aa
    refine bq @aii
  .refine bW (aF _ (aq [4] [] ?_));refine bR ?_;simp[D.le,D.le.go,aL];exact (xD fun i hi=>hp i hi aa).symm
theorem VR (G:aC) (k:Option Bool) (xs:List (List UInt8)) (g:FuncId) (caps:List D) (p:List UInt8->Bool) (hl:xs.length < 2^62) (ha:Gc G g caps dS p xs) :
  aD prog G 144 [.sl k (xs.map fun s=>[dS s]),.fn (.func g) caps] (.v (.bool (xs.any p))):=by
 refine aD.aQ (aB _) func144 rfl rfl (rs:=[.tmp 4]) results144 (by simp[ntmps144]) fun X=>?_;simp only[ntmps144,List.map];refine aq [0,1] [] ?_;refine br trivial (aag G k xs g caps p hl ha) [4] [] ?_;refine bR ?_;simp[D.le,D.le.go,aL];exact I0 p xs
theorem aaY (G:aC) (n:gz) (s:List UInt8):aD prog G 114 [Dy n,.ip [dS s]] (.v (.bool (n.name == s))):=by
 simp only[Dy,bo,dS];refine aD.aQ (aB _) func114 rfl rfl (rs:=[.tmp 3]) results114 (by simp[ntmps114]) fun X=>?_;simp only[ntmps114,List.map];refine aq [1,2] [2] ?_;refine rg [3] [2] aN fun K' ao=>?_;(repeat refine aM fun Kq af=>?_;simp[bf,bt];(repeat refine⟨aa,?_⟩);refine af _ ?_);refine bK (ao _ (AW.st (by simp[bf,bt];rfl) ?_));exact gw
theorem vn (G:aC) (p:aP) (hp:p.names.length < 2^62) (s:List UInt8):aD prog G 42 [fH p,dS s] (.v (.int .i64 (bH p s))):=by
 have hi:=aad G none p.names 114 [.ip [dS s]] (fun n=>n.name == s) hp fun n _=>aaY G n s;unfold bH;simp only[fH,fW,cj,dS]at hi ⊢;generalize fq p.ax=R at *;generalize idx (fun n:gz=>n.name == s) p.names=z at hi ⊢;refine aD.aQ (aB _) func42 rfl rfl (rs:=[.tmp 4]) results42 (by simp[ntmps42]) fun X=>?_;simp only[ntmps42,List.map];refine ae @fq.eq_1 [2,3] [2,3] ?_;refine fI 3 ?_;refine br trivial hi [4] [2] ?_;exact gw
theorem Pc (G:aC) (p:aP) (hp:p.names.length < 2^62) (s:List UInt8):aD prog G 214 [dS s,.ip (fW p)] (.v (.bool (decide (bH p s < 0)))):=by
 have hi:=vn G p hp s;simp only[fH,fW,cj,fq,dS]at hi ⊢;refine aD.aQ (aB _) func214 rfl rfl (rs:=[.tmp 3]) results214 (by simp[ntmps214]) fun X=>?_;simp only[ntmps214,List.map];refine aq [0,1] [] ?_;refine br trivial hi [3] [] ?_;exact gw
structure SQ (T:Prop):Prop where
 out:T
theorem B7 {T U:Prop} (h:SQ T->U) (t:T):U:=h ⟨t⟩
theorem PR {p:aP} {s:List UInt8} (h:¬ bH p s < 0):∃ k:Nat,∃ hk:k < p.names.length,bH p s=k:=by
 obtain⟨k,hk,he,_⟩:=uh h;exact⟨k,hk,he⟩
theorem aaX (G:aC) (p:aP) (hp:p.names.length < 2^62) (r:iL) (hb:∀ e,r.cond=some e->bE e<=2^28/\(fi true e).length < 2^62):aD prog G 158 [fH p,GP r] (.v (.int .i64 (lT p r))):=by
 obtain⟨kind,name,cond⟩:=r;dsimp only at hb;have b5:=vn G p hp name;have aZ:=fun s=>Pc G p hp s;simp only[fH,fW,cj,fq,GP,c8,dS]at b5 aZ ⊢
 cases cond with
 | none=>
  have kc:lT p ⟨kind,name,none⟩=1:=rfl;generalize lT p ⟨kind,name,none⟩=res at kc;refine aD.aQ (aB _) func158 rfl rfl (rs:=[.tmp 4]) results158 (by simp[ntmps158]) fun X=>?_;simp only[ntmps158,List.map];have fw:=(Aq @dC.eq_1 @dC.eq_2);refine ae fw [2,3] [2,3] ?_;refine ag fun K1 aF=>?_;by_cases h1:kind < 1
  .have qf:=(Aq fw @h1);refine ay [2,3,19] [2,3] ?_;refine aI (ae fw [4] [] ?_);exact aW (Aq fw @kc)
  .by_cases h2:kind > 6
   .have qf:=(Aq fw (Aq @h1 @h2));refine ay [2,3,19] [2,3] ?_;refine aI (ae fw [4] [] ?_);exact aW (Aq fw @kc)
   .have qf:=(Aq fw (Aq @h1 @h2));refine ay [2,3,19] [2,3] ?_;refine aI (ae fw [4] [] ?_);exact aW (Aq fw @kc)
 | some e=>
  have kc:lT p ⟨kind,name,some e⟩=if decide (kind < 1) || decide (kind > 6) then 1 else if bH p name < 0 then 7
   else if jF kind≠(p.names.getD (bH p name).toNat ⟨[],0,0⟩).kind then 1 else if (fi true e).any fun s=>decide (bH p s < 0) then 7 else 0:=rfl
  generalize lT p ⟨kind,name,some e⟩=res at kc;obtain⟨Hw,fN⟩:=hb e rfl;have jd:=abH G e Hw;have r7:=VR G none (fi true e) 214 [.ip (fW p)] (fun s=>decide (bH p s < 0)) fN fun s _=>Pc G p hp s;have HD:dC (some e)=dE e:=rfl;rw[HD];obtain⟨tx,cx,hx⟩:=kJ e;rw[hx]at jd ⊢;simp only[fW,cj,fq,dS]at jd r7;generalize ((fi true e).any fun s=>decide (bH p s < 0))=an at kc r7;generalize fi true e=nm at jd r7;refine aD.aQ (aB _) func158 rfl rfl (rs:=[.tmp 4]) results158 (by simp[ntmps158]) fun X=>?_;simp only[ntmps158,List.map];have fw:=(Aq @dC.eq_1 @dC.eq_2);refine ae fw [2,3] [2,3] ?_;refine dI fw 2 ?_;refine dI fw 3 ?_;refine ag fun K1 aF=>?_;by_cases h1:kind < 1
  .rw[if_pos (by simp[h1])]at kc;have qf:=(Aq fw @h1);refine ay [2,3,19] [] ?_;refine aI (ae fw [4] [] ?_);exact aW (Aq fw @kc)
  by_cases h2:kind > 6
  .rw[if_pos (by simp[h2])]at kc;have qf:=(Aq fw (Aq @h1 @h2));refine ay [2,3,19] [] ?_;refine aI (ae fw [4] [] ?_);exact aW (Aq fw @kc)
  rw[if_neg (by simp[h1,h2])]at kc;have qf:=(Aq fw (Aq @h1 @h2));refine ay [2,3,19] [] ?_;refine al (ar (aF _ ?_));refine br fw b5 [2,3,5] [] ?_;refine ag fun K2 au=>ae fw [2,3,5,25] [] ?_;by_cases h3:bH p name < 0
  .rw[if_pos h3]at kc;refine cm (by simp[h3]) (ae fw [4] [] ?_);exact aW (Aq fw @kc)
  rw[if_neg h3]at kc;obtain⟨k,hk,kM⟩:=PR h3
  have ka:p.names.getD (bH p name).toNat ⟨[],0,0⟩=p.names[k]:=by
   rw[kM,agO,agw,By hk];rfl
  rw[ka]at kc;refine cw (by simp[h3]) (ar (au _ ?_));refine ag fun K3 aU=>?_;have ic:bo p.names[k]=[dS p.names[k].name,.v (.int .i64 p.names[k].kind),.v (.int .i64 p.names[k].count)]:=rfl;generalize lL:p.names[k].kind=kk at kc ic
  refine' B7 (fun cO=>?_) ?_
  rotate_left
  .have fM:=h1;by_cases bC:kind=1
   .have qf:=(Aq fw @bC);refine ay [2,3,5,6] [] ?_;refine AW.st (show _=(⟨bn [(2,.d (.ip [.sl none (p.names.map bo),.sl none (p.ax.map c8)])),(3,.d (.ip [.v (.int .i64 kind),.v (.string (bs name)),.bZ tx cx])),(5,int (bH p name)),(6,int (jF kind))],aw []⟩:St) by rw[bC]<;>rfl) ?_;exact cO.out
   by_cases bC:kind=2
   .have qf:=(Aq fw @bC);refine ay [2,3,5,6] [] ?_;refine AW.st (show _=(⟨bn [(2,.d (.ip [.sl none (p.names.map bo),.sl none (p.ax.map c8)])),(3,.d (.ip [.v (.int .i64 kind),.v (.string (bs name)),.bZ tx cx])),(5,int (bH p name)),(6,int (jF kind))],aw []⟩:St) by rw[bC]<;>rfl) ?_;exact cO.out
   by_cases bC:kind=3
   .have qf:=(Aq fw @bC);refine ay [2,3,5,6] [] ?_;refine AW.st (show _=(⟨bn [(2,.d (.ip [.sl none (p.names.map bo),.sl none (p.ax.map c8)])),(3,.d (.ip [.v (.int .i64 kind),.v (.string (bs name)),.bZ tx cx])),(5,int (bH p name)),(6,int (jF kind))],aw []⟩:St) by rw[bC]<;>rfl) ?_;exact cO.out
   by_cases bC:kind=4
   .have qf:=(Aq fw @bC);refine ay [2,3,5,6] [] ?_;refine AW.st (show _=(⟨bn [(2,.d (.ip [.sl none (p.names.map bo),.sl none (p.ax.map c8)])),(3,.d (.ip [.v (.int .i64 kind),.v (.string (bs name)),.bZ tx cx])),(5,int (bH p name)),(6,int (jF kind))],aw []⟩:St) by rw[bC]<;>rfl) ?_;exact cO.out
   by_cases bC:kind=5
   .have qf:=(Aq fw @bC);refine ay [2,3,5,6] [] ?_;refine AW.st (show _=(⟨bn [(2,.d (.ip [.sl none (p.names.map bo),.sl none (p.ax.map c8)])),(3,.d (.ip [.v (.int .i64 kind),.v (.string (bs name)),.bZ tx cx])),(5,int (bH p name)),(6,int (jF kind))],aw []⟩:St) by rw[bC]<;>rfl) ?_;exact cO.out
   have bC:kind=6:=aa
   have qf:=(Aq fw @bC);refine ay [2,3,5,6] [] ?_;refine AW.st (show _=(⟨bn [(2,.d (.ip [.sl none (p.names.map bo),.sl none (p.ax.map c8)])),(3,.d (.ip [.v (.int .i64 kind),.v (.string (bs name)),.bZ tx cx])),(5,int (bH p name)),(6,int (jF kind))],aw []⟩:St) by rw[bC]<;>rfl) ?_;exact cO.out
  .rw[kM];have qf:=(Aq fw (Aq @hk @ic));refine ay [2,3,37] [] ?_;by_cases h4:kk=jF kind
   .rw[if_neg (by simp[h4])]at kc;refine cw (by simp[h4]) (ar (aU _ ?_));refine ag fun K4 ck=>rg [42] [] aN fun K' ao=>?_;(repeat refine aM fun Kq af=>?_;simp[dC];(repeat refine⟨aa,?_⟩);refine af _ ?_);refine aM fun Kq af=>?_;simp[dC];refine dT.data (jd) bA (by first | exact D.bJ _ | simp[aL,agF,agy,D.le,D.le.go,D.le_refl,D.bJ,dC]) ?_;refine af _ ?_;simp only[aR,dY];(repeat refine aM fun Kq af=>?_;simp[dC];(repeat refine⟨aa,?_⟩);refine af _ ?_);refine aM fun Kq af=>?_;simp[dC];refine dT.data (r7) bA (by first | exact D.bJ _ | simp[aL,agF,agy,D.le,D.le.go,D.le_refl,D.bJ,dC]) ?_;refine af _ ?_;simp only[aR,dY];(repeat refine aM fun Kq af=>?_;simp[dC];(repeat refine⟨aa,?_⟩);refine af _ ?_);refine bK (ao _ (AW.st (by simp[dC];rfl) ?_))
    cases an with
    | true=>
     rw[if_pos rfl]at kc;refine aI (ae fw [4] [] ?_);exact aW (Aq fw @kc)
    | false=>
     rw[if_neg bO]at kc;refine al (ar (ck _ ?_));refine ae fw [4] [] ?_;exact aW (Aq fw @kc)
   .rw[if_pos (fun h=>h4 h.symm)]at kc;refine cm (by simp[h4]) (ae fw [4] [] ?_);exact aW (Aq fw @kc)
theorem AJ {α:Type} {f:Nat->α->Int}:∀ {l:List α} {i n:Nat} (hn:n < l.length),(∀ k (hk:k < l.length),k < n->f (i+k) l[k]=0)->f (i+n) l[n]≠0->nI f l i=some (f (i+n) l[n],i+n)
 | x :: l,i,0,_,_,bl=>by rw[nI,if_neg (show ¬ f i x=0 from bl)];rfl
 | x :: l,i,n+1,hn,hb,bl=>by
  have h0:f i x=0:=hb 0 ak aa
  have e:∀ k,i+1+k=i+(k+1):=fun k=>aa
  rw[nI,if_pos h0,AJ (l:=l) (i:=i+1) (n:=n) (by simpa using hn) (fun k hk oH=>by rw[e];exact hb (k+1) (by simpa using hk) aa) (by rw[e];exact bl),e];rfl
theorem AL {α:Type} {f:Nat->α->Int}:∀ {l:List α} {i:Nat},(∀ k (hk:k < l.length),f (i+k) l[k]=0)->nI f l i=none
 | [],_,_=>rfl
 | x :: l,i,hb=>by
  have e:∀ k,i+1+k=i+(k+1):=fun k=>aa
  rw[nI,if_pos (show f i x=0 from hb 0 ak),AL fun k hk=>by rw[e];exact hb (k+1) (by simpa using hk)]
structure Da (p:aP):Prop where
 nl:p.names.length < 2^62
 rl:p.ax.length < 2^62
 nn:∀ n∈p.names,n.name.length < 2^60
 cb:∀ r∈p.ax,∀ e,r.cond=some e->bE e<=2^28/\(fi true e).length < 2^62
theorem O0 (G:aC) (p:aP) (hp:Da p):aD prog G 81 [fH p] (bB (dr p)):=by
 obtain⟨fN,eY,qF,y6⟩:=hp
 have xe:dr p=if p.names.length > 12\/p.ax.length > 40 then some (4,none) else match nI (nG p) p.names 0 with
  | some (e,i)=>some (e,some i)
  | none=>match nI (fun _ r=>lT p r) p.ax 0 with
   | some (e,i)=>some (e,some (p.names.length+i))
   | none=>none:=rfl
 generalize il:dr p=res;rw[xe]at il;have b5:=fun s=>vn G p fN s;have jS:=fun r h=>aaX G p fN r h;simp only[fH,fW,cj,fq,dS]at b5 jS ⊢;refine aD.aQ (aB _) func81 rfl rfl (rs:=[.tmp 2]) results81 (by simp[ntmps81]) fun X=>?_;simp only[ntmps81,List.map];refine aq [1] [1] ?_;refine fI 1 ?_;refine ag fun K1 aF=>?_;by_cases g0:(p.names.length:Int) > 12
 .rw[if_pos (.inl aa)]at il;have qf:=@g0;refine ay [1,19] [] ?_;refine aI (aq [2] [] ?_);refine bR ?_;simp[D.le,D.le.go,aL];simp[<- il,bB,D.le]
 by_cases g1:(p.ax.length:Int) > 40
 .rw[if_pos (.inr aa)]at il;have qf:=(Aq @g0 @g1);refine ay [1,19] [] ?_;refine aI (aq [2] [] ?_);refine bR ?_;simp[D.le,D.le.go,aL];simp[<- il,bB,D.le]
 rw[if_neg aa]at il;have qf:=(Aq @g0 @g1);refine ay [1,19] [] ?_;refine al (ar (aF _ ?_));refine ag fun K2 au=>aq [1,22,23,24] [] ?_;refine cy (S:=Nat) (fun n=>n<=p.names.length/\∀ k (hk:k < p.names.length),k < n->nG p k p.names[k]=0) (fun n=>⟨bn [(1,.d (.ip [.sl none (p.names.map bo),.sl none (p.ax.map c8)])),(22,.d (.sl none (p.names.map bo))),(23,int p.names.length),(24,int n)],aw []⟩) (fun n=>p.names.length - n) 0 ?_ ak ?_
 .refine cI
 .rintro n ⟨hn,hb⟩;refine aq [1,22,23,24,25] [] ?_;refine ag fun K3 aU=>eE (b:=n < p.names.length) (by simp[D.le,D.le.go,aL]) (fun hc=>?_) (fun hc=>?_)
  .have aG:=hc
   have fY:nG p n p.names[n]≠0->res=some (nG p n p.names[n],some n):=fun bl=>by
    rw[<- il,AJ (i:=0) aG (fun k hk oH=>by rw[ag4];exact hb k hk oH) (by rw[ag4];exact bl)];simp
   have fy:=qF _ (OF aG);have ic:bo p.names[n]=[dS p.names[n].name,.v (.int .i64 p.names[n].kind),.v (.int .i64 p.names[n].count)]:=rfl
   have bY:nG p n p.names[n]=if !jg p.names[n].name then 5 else if decide (p.names[n].kind < 1) || decide (p.names[n].kind > 4) then 1 else if ((decide (p.names[n].kind=3) || decide (p.names[n].kind=4)) && (decide (p.names[n].count < 1) || decide (p.names[n].count > 7))) || (!(decide (p.names[n].kind=3) || decide (p.names[n].kind=4)) && decide (p.names[n].count≠0)) then 2 else if bH p p.names[n].name < n then 9 else 0:=rfl
   generalize hv:nG p n p.names[n]=v at bY fY;generalize p.names[n].name=nm at fy ic bY;generalize p.names[n].kind=kd at ic bY;generalize p.names[n].count=ct at ic bY;have lM:=PA G nm fy;have jJ:=b5 nm;simp only[dS]at ic lM;generalize jg nm=nf at lM bY;refine ar (aU _ (ag fun K4 ck=>bd ?_));have qf:=(Aq @aG @ic);refine ay [1,3,4,22,23,24] [4] ?_;refine fI 4 ?_
   refine' B7 (fun dP=>?_) ?_
   rotate_left
   .by_cases k3:kd=3
    .have qf:=@k3;refine ay [1,3,4,5,22,23,24] [] ?_;refine AW.st (show _=(⟨bn [(1,.d (.ip [.sl none (p.names.map bo),.sl none (p.ax.map c8)])),(3,int n),(4,.d (.ip [.v (.string (bs nm)),.v (.int .i64 kd),.v (.int .i64 ct)])),(5,.d (.v (.bool (decide (kd=3) || decide (kd=4))))),(22,.d (.sl none (p.names.map bo))),(23,int p.names.length),(24,int n)],aw []⟩:St) by rw[k3]<;>rfl) ?_;exact dP.out
    .by_cases k4:kd=4
     .have qf:=(Aq @k3 @k4);refine ay [1,3,4,5,22,23,24] [] ?_;refine AW.st (show _=(⟨bn [(1,.d (.ip [.sl none (p.names.map bo),.sl none (p.ax.map c8)])),(3,int n),(4,.d (.ip [.v (.string (bs nm)),.v (.int .i64 kd),.v (.int .i64 ct)])),(5,.d (.v (.bool (decide (kd=3) || decide (kd=4))))),(22,.d (.sl none (p.names.map bo))),(23,int p.names.length),(24,int n)],aw []⟩:St) by rw[k4]<;>rfl) ?_;exact dP.out
     .have e:(decide (kd=3) || decide (kd=4))=false:=by simp[k3,k4]
      have qf:=(Aq @k3 @k4);refine ay [1,3,4,5,22,23,24] [] ?_;refine AW.st (show _=(⟨bn [(1,.d (.ip [.sl none (p.names.map bo),.sl none (p.ax.map c8)])),(3,int n),(4,.d (.ip [.v (.string (bs nm)),.v (.int .i64 kd),.v (.int .i64 ct)])),(5,.d (.v (.bool (decide (kd=3) || decide (kd=4))))),(22,.d (.sl none (p.names.map bo))),(23,int p.names.length),(24,int n)],aw []⟩:St) by rw[e]<;>rfl) ?_;exact dP.out
   .generalize (decide (kd=3) || decide (kd=4))=cB at bY;refine aq [1,3,4,5,6,22,23,24] [] ?_;refine ag fun K5 b9=>?_
    refine' B7 (fun cO=>?_) ?_
    rotate_left
    .refine bd (br trivial lM [1,3,4,5,6,22,23,24,37] [] ?_);by_cases zh:nf=true
     rotate_left
     .have NW:nf=false:=by simpa using zh
      rw[if_pos (by simp[NW])]at bY;rw[NW];refine aI (gH trivial b9 [1,3,6,22,23,24] [] ?_);refine AW.st (show _=(⟨bn [(1,.d (.ip [.sl none (p.names.map bo),.sl none (p.ax.map c8)])),(3,int n),(6,int v),(22,.d (.sl none (p.names.map bo))),(23,int p.names.length),(24,int n)],aw []⟩:St) by rw[bY]<;>rfl) ?_;exact cO.out
     .rw[if_neg (by simp[zh])]at bY;rw[zh];refine al ?_;by_cases k1:kd < 1
      .rw[if_pos (by simp[k1])]at bY;have qf:=@k1;refine ay [1,3,4,5,6,22,23,24,42] [] ?_;refine aI (gH trivial b9 [1,3,6,22,23,24] [] ?_);refine AW.st (show _=(⟨bn [(1,.d (.ip [.sl none (p.names.map bo),.sl none (p.ax.map c8)])),(3,int n),(6,int v),(22,.d (.sl none (p.names.map bo))),(23,int p.names.length),(24,int n)],aw []⟩:St) by rw[bY]<;>rfl) ?_;exact cO.out
      by_cases k2:kd > 4
      .rw[if_pos (by simp[k2])]at bY;have qf:=(Aq @k1 @k2);refine ay [1,3,4,5,6,22,23,24,42] [] ?_;refine aI (gH trivial b9 [1,3,6,22,23,24] [] ?_);refine AW.st (show _=(⟨bn [(1,.d (.ip [.sl none (p.names.map bo),.sl none (p.ax.map c8)])),(3,int n),(6,int v),(22,.d (.sl none (p.names.map bo))),(23,int p.names.length),(24,int n)],aw []⟩:St) by rw[bY]<;>rfl) ?_;exact cO.out
      rw[if_neg (by simp[k1,k2])]at bY;have qf:=(Aq @k1 @k2);refine ay [1,3,4,5,6,22,23,24,42] [] ?_;refine al ?_;by_cases Nu:cB=true
      .rw[Nu]at bY ⊢;by_cases c1:ct < 1
       .rw[if_pos (by simp[c1])]at bY;have qf:=@c1;refine ay [1,3,4,6,22,23,24,51] [] ?_;refine aI (gH trivial b9 [1,3,6,22,23,24] [] ?_);refine AW.st (show _=(⟨bn [(1,.d (.ip [.sl none (p.names.map bo),.sl none (p.ax.map c8)])),(3,int n),(6,int v),(22,.d (.sl none (p.names.map bo))),(23,int p.names.length),(24,int n)],aw []⟩:St) by rw[bY]<;>rfl) ?_;exact cO.out
       by_cases c2:ct > 7
       .rw[if_pos (by simp[c2])]at bY;have qf:=(Aq @c1 @c2);refine ay [1,3,4,6,22,23,24,51] [] ?_;refine aI (gH trivial b9 [1,3,6,22,23,24] [] ?_);refine AW.st (show _=(⟨bn [(1,.d (.ip [.sl none (p.names.map bo),.sl none (p.ax.map c8)])),(3,int n),(6,int v),(22,.d (.sl none (p.names.map bo))),(23,int p.names.length),(24,int n)],aw []⟩:St) by rw[bY]<;>rfl) ?_;exact cO.out
       rw[if_neg (by simp[c1,c2])]at bY;have qf:=(Aq @c1 @c2);refine ay [1,3,4,6,22,23,24,51] [] ?_;refine al (br trivial jJ [1,3,6,22,23,24,72] [] ?_);by_cases c9:bH p nm < n
       .rw[if_pos c9]at bY;refine cm (by simp[c9]) (gH trivial b9 [1,3,6,22,23,24] [] ?_);refine AW.st (show _=(⟨bn [(1,.d (.ip [.sl none (p.names.map bo),.sl none (p.ax.map c8)])),(3,int n),(6,int v),(22,.d (.sl none (p.names.map bo))),(23,int p.names.length),(24,int n)],aw []⟩:St) by rw[bY]<;>rfl) ?_;exact cO.out
       .rw[if_neg c9]at bY;refine cw (by simp[c9]) (ar ?_);refine b9 _ (AW.norm [1,3,6,22,23,24] [] aN (AW.st bA ?_));refine AW.st (show _=(⟨bn [(1,.d (.ip [.sl none (p.names.map bo),.sl none (p.ax.map c8)])),(3,int n),(6,int v),(22,.d (.sl none (p.names.map bo))),(23,int p.names.length),(24,int n)],aw []⟩:St) by rw[bY]<;>rfl) ?_;exact cO.out
      .have Yb:cB=false:=by simpa using Nu
       rw[Yb]at bY ⊢;by_cases c0:ct=0
       .rw[if_neg (by simp[c0])]at bY;have qf:=@c0;refine ay [1,3,4,6,22,23,24,51] [] ?_;refine al (br trivial jJ [1,3,6,22,23,24,72] [] ?_);by_cases c9:bH p nm < n
        .rw[if_pos c9]at bY;refine cm (by simp[c9]) (gH trivial b9 [1,3,6,22,23,24] [] ?_);refine AW.st (show _=(⟨bn [(1,.d (.ip [.sl none (p.names.map bo),.sl none (p.ax.map c8)])),(3,int n),(6,int v),(22,.d (.sl none (p.names.map bo))),(23,int p.names.length),(24,int n)],aw []⟩:St) by rw[bY]<;>rfl) ?_;exact cO.out
        .rw[if_neg c9]at bY;refine cw (by simp[c9]) (ar ?_);refine b9 _ (AW.norm [1,3,6,22,23,24] [] aN (AW.st bA ?_));refine AW.st (show _=(⟨bn [(1,.d (.ip [.sl none (p.names.map bo),.sl none (p.ax.map c8)])),(3,int n),(6,int v),(22,.d (.sl none (p.names.map bo))),(23,int p.names.length),(24,int n)],aw []⟩:St) by rw[bY]<;>rfl) ?_;exact cO.out
       .rw[if_pos (by simp[c0])]at bY;have qf:=@c0;refine ay [1,3,4,6,22,23,24,51] [] ?_;refine aI (gH trivial b9 [1,3,6,22,23,24] [] ?_);refine AW.st (show _=(⟨bn [(1,.d (.ip [.sl none (p.names.map bo),.sl none (p.ax.map c8)])),(3,int n),(6,int v),(22,.d (.sl none (p.names.map bo))),(23,int p.names.length),(24,int n)],aw []⟩:St) by rw[bY]<;>rfl) ?_;exact cO.out
    .by_cases hC:v=0
     .have qf:=@hC;refine ay [1,3,6,22,23,24,80] [] ?_;refine al (ar ?_);refine ck _ ?_;refine c6 ?_;(try simp only[aT,aV]);refine ba.mk (n+1) ⟨aa,fun k hk oH=>?_⟩ aa ?_
      .by_cases h:k=n
       .subst h;rw[hv,hC]
       .exact hb k hk aa
      refine cI
     .have qf:=@hC;refine ay [1,3,6,22,23,24,80] [] ?_;refine aI (aq [2] [84] ?_);refine bR ?_;simp[D.le,D.le.go,aL];simp[fY hC,bB,D.le,D.le.go]
  .rw[AL fun k hk=>by rw[ag4];exact hb k hk aa]at il;dsimp only at il;refine bW (au _ (ag fun K6 eH=>aq [1,88,89,90] [] ?_));refine cy (S:=Nat) (fun n=>n<=p.ax.length/\∀ k (hk:k < p.ax.length),k < n->lT p p.ax[k]=0) (fun n=>⟨bn [(1,.d (.ip [.sl none (p.names.map bo),.sl none (p.ax.map c8)])),(88,.d (.sl none (p.ax.map c8))),(89,int p.ax.length),(90,int n)],aw []⟩) (fun n=>p.ax.length - n) 0 ?_ ak ?_
   .refine cI
   .rintro n ⟨hn,hb⟩;refine aq [1,88,89,90,91] [] ?_;refine ag fun K7 eL=>eE (b:=n < p.ax.length) (by simp[D.le,D.le.go,aL]) (fun hc=>?_) (fun hc=>?_)
    .have aG:=hc
     have fY:lT p p.ax[n]≠0->res=some (lT p p.ax[n],some (p.names.length+n)):=fun bl=>by
      rw[<- il,AJ (i:=0) aG (fun k hk oH=>hb k hk oH) bl];simp
     have ic:c8 p.ax[n]=[.v (.int .i64 p.ax[n].kind),dS p.ax[n].name,dC p.ax[n].cond]:=rfl;have aZ:=jS p.ax[n] (y6 _ (OF aG));simp only[GP,ic]at aZ;generalize hv:lT p p.ax[n]=v at aZ fY
     obtain⟨tc,HD,ZO⟩:∃ tc,dC p.ax[n].cond=tc/\((∃ a b,tc = .bZ a b)\/tc = .v .nilIface):=by
      cases p.ax[n].cond with
      | none=>exact⟨_,rfl,.inr rfl⟩
      | some e=>obtain⟨a,b,h⟩:=kJ e;exact⟨_,rfl,.inl ⟨a,b,h⟩⟩
     rw[HD]at ic aZ;generalize p.ax[n].kind=kd at ic aZ;generalize p.ax[n].name=nm at ic aZ;simp only[dS]at ic aZ
     have tT:(p.names.length:Int)+(n:Int)<=2^62:=aa
     refine ar (eL _ (ag fun K8 fA=>bd ?_))
     rcases ZO with⟨ta,tb2,rfl⟩ | rfl
     all_goals
      .have qf:=(Aq @aG @ic);refine ay [1,7,8,88,89,90] [8] ?_;refine fI 8 ?_;refine br trivial aZ [1,7,9,88,89,90] [] ?_;by_cases hC:v=0
       .have qf:=@hC;refine ay [1,7,9,88,89,90,99] [] ?_;refine al (ar (fA _ ?_));refine c6 ?_;(try simp only[aT,aV]);refine ba.mk (n+1) ⟨aa,fun k hk oH=>?_⟩ aa ?_
        .by_cases h:k=n
         .subst h;rw[hv,hC]
         .exact hb k hk aa
        refine cI
       .have qf:=@hC;refine ay [1,7,9,88,89,90,99] [] ?_;refine aI (aq [2] [107] ?_);refine bR ?_;simp[D.le,D.le.go,aL];simp[fY hC,bB,D.le,D.le.go]
    .rw[AL fun k hk=>hb k hk aa]at il;refine bW (eH _ (aq [2] [] ?_));refine bR ?_;simp[D.le,D.le.go,aL];simp[<- il,bB]
def eg (r:iL):List D:=[.v (.int .i64 r.kind),dS r.name,lV r.cond]
def ft (p:aP):List D:=[cj p.names,.sl none (p.ax.map eg)]
def dU (p:aP):D:=.agg (ft p)
theorem KV (G:aC) (p:aP) (hl:p.names.length < 2^62) (s:List UInt8):aD prog G 28 [dU p,dS s] (.v (.int .i64 (bH p s))):=by
 unfold bH;simp only[dU,ft,cj,dS];generalize p.ax.map eg=R;refine aD.aQ (aB _) func28 rfl rfl (rs:=[.tmp 4]) results28 (by simp[ntmps28]) fun X=>?_;simp only[ntmps28,List.map];refine aq [1,2] [2] ?_;refine fI 2 ?_;refine ag fun K1 aF=>aq [1,8,9,10] [] ?_;refine cy (S:=Nat) (fun n=>n<=p.names.length/\∀ i (hi:i < p.names.length),i < n->(p.names[i].name == s)=false) (fun n=>⟨bn [(1,.d (.v (.string (bs s)))),(8,.d (.sl none (p.names.map bo))),(9,int p.names.length),(10,int n)],aw []⟩) (fun n=>p.names.length - n) 0 ?_ ak ?_
 .refine cI
 .rintro n ⟨hn,hp⟩;refine aq [1,8,9,10,11] [] ?_;refine ag fun K2 au=>eE (b:=n < p.names.length) (by simp[D.le,D.le.go,aL]) (fun hc=>?_) (fun hc=>?_)
  .have aG:=hc;have iO:bo p.names[n]=[.v (.string (bs p.names[n].name)),.v (.int .i64 p.names[n].kind),.v (.int .i64 p.names[n].count)]:=rfl;refine ar (au _ (ag fun K3 aU=>bd ?_));have qf:=(Aq @aG @iO);refine ay [1,5,6,8,9,10] [6] ?_;refine fI 6 ?_;by_cases heq:p.names[n].name=s
   .refine rg [1,5,8,9,10,18] [] aN fun K' ao=>?_;(repeat refine aM fun Kq af=>?_;simp[bf,bt,heq];(repeat refine⟨aa,?_⟩);refine af _ ?_);refine bK (ao _ (AW.st (by simp[bf,bt,heq];rfl) ?_));refine aI (aq [4] [] ?_);refine bR ?_;simp[D.le,D.le.go,aL];exact (xC (p:=fun m:gz=>m.name == s) aG (by simp[heq]) fun i hi=>hp i aa hi).symm
   .refine rg [1,5,8,9,10,18] [] aN fun K' ao=>?_;(repeat refine aM fun Kq af=>?_;simp[bf,bt,heq];(repeat refine⟨aa,?_⟩);refine af _ ?_);refine bK (ao _ (AW.st (by simp[bf,bt,heq];rfl) ?_));refine cw (by simp[heq]) (ar (aU _ ?_));refine c6 ?_;(try simp only[aT,aV]);refine ba.mk (n+1) ⟨aa,fun i hi aS=>?_⟩ aa ?_
    .by_cases h:i=n
     .subst h;simpa using heq
     .exact hp i hi aa
    refine cI
  .refine bW (aF _ (aq [4] [] ?_));refine bR ?_;simp[D.le,D.le.go,aL];exact (xD (p:=fun m:gz=>m.name == s) fun i hi=>hp i hi aa).symm
def iT (l:List gz) (k:Int):Nat->List Int
 | 0=>[]
 | i+1=>iT l k i ++ if (l.getD i ⟨[],0,0⟩).kind=k then [(i:Int)] else []
theorem vl (l:List gz) (k:Int):∀ n,(iT l k n).length<=n
 | 0=>agD _
 | n+1=>by rw[iT,agU];have:=vl l k n;split<;>simp<;>omega
theorem EX (l:List gz) (k:Int):iT l k 0=[]:=rfl
theorem EW {l:List gz} {k:Int} {i:Nat} (h:i < l.length):iT l k (i+1)=iT l k i ++ if l[i].kind=k then [(i:Int)] else []:=by
 rw[iT,agw,By h];rfl
theorem Pf (G:aC) (p:aP) (hl:p.names.length < 2^40) (k:Int):aD prog G 40 [fH p,.v (.int .i64 k)] (.sl none ((iT p.names k p.names.length).map fun x=>[.v (.int .i64 x)])):=by
 simp only[fH,fW,cj,fq];generalize p.ax.map c8=R;refine aD.aQ (aB _) func40 rfl rfl (rs:=[.tmp 4]) results40 (by simp[ntmps40]) fun X=>?_;simp only[ntmps40,List.map];refine aq [1,2] [2] ?_;refine fI 2 ?_;refine aq [1,2,5] [] ?_;refine ag fun K1 aF=>aq [1,5,9,10,11] [] ?_;refine cy (S:=Nat) (fun i=>i<=p.names.length) (fun i=>⟨bn [(1,.d (.v (.int .i64 k))),(5,.own 300 0 (iT p.names k i).length),(9,.d (.sl none (p.names.map bo))),(10,int p.names.length),(11,int i)],aw [(300,.sl 3 1 ((iT p.names k i).map fun x=>[.v (.int .i64 x)]))]⟩) (fun i=>p.names.length - i) 0 ?_ ak ?_
 .refine (aK.kC 5 300 3 1 rfl rfl).trans ?_;refine aK.fk aN (by simp[EX]) (by simp[EX])
 .intro i hi;have dA:=vl p.names k i;have rD:=fun h=>EW (l:=p.names) (k:=k) (i:=i) h;generalize H4:iT p.names k i=L at dA rD ⊢;refine aq [1,5,9,10,11,12] [300] ?_;refine ag fun K2 au=>eE (b:=i < p.names.length) (by simp[D.le,D.le.go,aL]) (fun hc=>?_) (fun hc=>?_)
  .have aG:=hc;have dW:=rD aG;have iO:bo p.names[i]=[.v (.string (bs p.names[i].name)),.v (.int .i64 p.names[i].kind),.v (.int .i64 p.names[i].count)]:=rfl;generalize p.names[i].name=nm at iO;generalize p.names[i].kind=kd at iO dW;generalize p.names[i].count=ct at iO;refine ar (au _ (ag fun K3 aU=>bd ?_));have qf:=(Aq @aG @iO);refine ay [1,5,6,7,9,10,11] [300,7] ?_;refine fI 7 ?_;by_cases heq:kd=k
   .rw[if_pos heq]at dW;have qf:=@heq;refine ay [1,5,6,9,10,11,19] [300] ?_;refine aI (eU (aB _) fun K' ao=>?_);(repeat refine aM fun Kq af=>?_;simp[sh];(repeat refine⟨aa,?_⟩);refine af _ ?_);refine bK (ao _ ?_);refine aU _ (AW.norm [1,5,9,10,11] [300] aN (AW.st (by simp[sh];rfl) ?_));refine c6 ?_;(try simp only[aT,aV]);refine ba.mk (i+1) aa aa ?_;refine bq @dW
   .rw[if_neg heq,ahm]at dW;have qf:=@heq;refine ay [1,5,6,9,10,11,19] [300] ?_;refine al (ar (aU _ ?_));refine c6 ?_;(try simp only[aT,aV]);refine ba.mk (i+1) aa aa ?_;refine bq @dW
  .obtain rfl:i=p.names.length:=aa
   refine bW (aF _ (AW.imp (aK.freeze 300 trivial) ?_));refine AW.st (by simp[sh];rfl) ?_;refine aq [4] [] ?_;exact aW @H4
theorem C4 (G:aC) (p:aP) (hl:p.names.length < 2^40) (k:Int):aD prog G 187 [dU p,.v (.int .i64 k)] (.sl none ((iT p.names k p.names.length).map fun x=>[.v (.int .i64 x)])):=by
 simp only[dU,ft,cj,fq];generalize p.ax.map eg=R;refine aD.aQ (aB _) func187 rfl rfl (rs:=[.tmp 4]) results187 (by simp[ntmps187]) fun X=>?_;simp only[ntmps187,List.map];refine aq [1,2] [2] ?_;refine fI 2 ?_;refine aq [1,2,5] [] ?_;refine ag fun K1 aF=>aq [1,5,9,10,11] [] ?_;refine cy (S:=Nat) (fun i=>i<=p.names.length) (fun i=>⟨bn [(1,.d (.v (.int .i64 k))),(5,.own 300 0 (iT p.names k i).length),(9,.d (.sl none (p.names.map bo))),(10,int p.names.length),(11,int i)],aw [(300,.sl 3 1 ((iT p.names k i).map fun x=>[.v (.int .i64 x)]))]⟩) (fun i=>p.names.length - i) 0 ?_ ak ?_
 .refine (aK.kC 5 300 3 1 rfl rfl).trans ?_;refine aK.fk aN (by simp[EX]) (by simp[EX])
 .intro i hi;have dA:=vl p.names k i;have rD:=fun h=>EW (l:=p.names) (k:=k) (i:=i) h;generalize H4:iT p.names k i=L at dA rD ⊢;refine aq [1,5,9,10,11,12] [300] ?_;refine ag fun K2 au=>eE (b:=i < p.names.length) (by simp[D.le,D.le.go,aL]) (fun hc=>?_) (fun hc=>?_)
  .have aG:=hc;have dW:=rD aG;have iO:bo p.names[i]=[.v (.string (bs p.names[i].name)),.v (.int .i64 p.names[i].kind),.v (.int .i64 p.names[i].count)]:=rfl;generalize p.names[i].name=nm at iO;generalize p.names[i].kind=kd at iO dW;generalize p.names[i].count=ct at iO;refine ar (au _ (ag fun K3 aU=>bd ?_));have qf:=(Aq @aG @iO);refine ay [1,5,6,7,9,10,11] [300,7] ?_;refine fI 7 ?_;by_cases heq:kd=k
   .rw[if_pos heq]at dW;have qf:=@heq;refine ay [1,5,6,9,10,11,19] [300] ?_;refine aI (eU (aB _) fun K' ao=>?_);(repeat refine aM fun Kq af=>?_;simp[sh];(repeat refine⟨aa,?_⟩);refine af _ ?_);refine bK (ao _ ?_);refine aU _ (AW.norm [1,5,9,10,11] [300] aN (AW.st (by simp[sh];rfl) ?_));refine c6 ?_;(try simp only[aT,aV]);refine ba.mk (i+1) aa aa ?_;refine bq @dW
   .rw[if_neg heq,ahm]at dW;have qf:=@heq;refine ay [1,5,6,9,10,11,19] [300] ?_;refine al (ar (aU _ ?_));refine c6 ?_;(try simp only[aT,aV]);refine ba.mk (i+1) aa aa ?_;refine bq @dW
  .obtain rfl:i=p.names.length:=aa
   refine bW (aF _ (AW.imp (aK.freeze 300 trivial) ?_));refine AW.st (by simp[sh];rfl) ?_;refine aq [4] [] ?_;exact aW @H4
def jO (is ch:List UInt8->Bool):List Ex->Nat
 | []=>0
 | e :: l=>(if eQ is ch e then 1 else 0)+jO is ch l
theorem LX (is ch:List UInt8->Bool):∀ a b:List Ex,jO is ch (a ++ b)=jO is ch a+jO is ch b
 | [],b=>by simp[jO]
 | e :: a,b=>by simp only[ahR,jO,LX is ch a b];omega
theorem Dr (is ch:List UInt8->Bool):∀ l:List Ex,jO is ch l<=l.length
 | []=>by simp[jO]
 | e :: l=>by have:=Dr is ch l;simp only[jO,agS];split<;>omega
theorem LZ (is ch:List UInt8->Bool) {l:List Ex} {i:Nat} (hi:i < l.length):jO is ch (l.take (i+1))=jO is ch (l.take i)+(if eQ is ch l[i] then 1 else 0):=by
 rw[agB hi,LX];simp[jO]
theorem LW (is ch:List UInt8->Bool):∀ l:List Ex,decide (jO is ch l=l.length)=yH is ch l
 | []=>rfl
 | e :: l=>by
  have h1:=LW is ch l;have h2:=Dr is ch l;rw[yH,<- h1];simp only[jO,agS]
  rcases Bool.eq_false_or_eq_true (eQ is ch e)with hE | hE
  .simp[hE,ah9 1]
  .have:¬ jO is ch l=l.length+1:=aa
   simp[hE,this]
theorem LY (is ch:List UInt8->Bool):∀ l:List Ex,decide (0 < jO is ch l)=yI is ch l
 | []=>rfl
 | e :: l=>by
  have h1:=LY is ch l;rw[yI,<- h1];simp only[jO]
  rcases Bool.eq_false_or_eq_true (eQ is ch e)with hE | hE
  .simp[hE];omega
  .simp[hE]
theorem ac5 (G:aC) (g1 g2:FuncId) (c1 c2:List D) (is ch:List UInt8->Bool) (S1 S2:List UInt8->Prop) (h1:qn S1 G g1 c1 is) (h2:qn S2 G g2 c2 ch):∀ (n:Nat) (e:Ex),SizeOf.sizeOf e<=n->iK S1 S2 e->hU e->bE e<=2^28->aD prog G 147 [dR e,.fn (.func g1) c1,.fn (.func g2) c2] (.v (.bool (eQ is ch e))):=by
 intro n
 induction n with
 | zero=>intro e bg;cases e<;>simp at bg
 | succ n ih=>
  intro e bg gM xz hb;have fw:=(Aq @aih (Aq @aii (Aq @kZ @eG.eq_1)))
  cases e with
  | gU b=>
   cases b with
   | true=>
    rw[dR];refine aD.aQ (aB _) func147 rfl rfl (rs:=[.tmp 6]) results147 (by simp[ntmps147]) fun X=>?_;simp only[ntmps147,List.map];refine ae fw [0,1,2] [] ?_;refine ag fun K1 aF=>ae fw [0,1,2,13] [] ?_;refine bd (ae fw [0,1,2,13,14] [] ?_);refine aI (ae fw [6] [] ?_);refine bR ?_;simp[D.le,D.le.go,aL,ab,dS,kZ,eG,eQ]
   | false=>
    rw[dR];refine aD.aQ (aB _) func147 rfl rfl (rs:=[.tmp 6]) results147 (by simp[ntmps147]) fun X=>?_;simp only[ntmps147,List.map];refine ae fw [0,1,2] [] ?_;refine ag fun K1 aF=>ae fw [0,1,2,13] [] ?_;refine bd (ae fw [0,1,2,13,14] [] ?_);refine al (ae fw [0,1,2,13,16] [] ?_);refine al (ae fw [0,1,2,13,24] [] ?_);refine al (ae fw [0,1,2,13,41] [] ?_);refine al (ae fw [0,1,2,13,58] [] ?_);refine al (ag fun K2 au=>?_);refine ae fw [0,1,2,13,70] [] ?_;refine al (gH fw au [0,1,2,70] [] ?_);refine al (ar (aF _ ?_));refine ae fw [6] [] ?_;refine bR ?_;simp[D.le,D.le.go,aL,ab,dS,kZ,eG,eQ]
  | bit s=>
   rw[iK]at gM;have hi:=h1 s gM;rw[dR,eQ];refine aD.aQ (aB _) func147 rfl rfl (rs:=[.tmp 6]) results147 (by simp[ntmps147]) fun X=>?_;simp only[ntmps147,List.map];refine ae fw [0,1,2] [] ?_;refine ag fun K1 aF=>ae fw [0,1,2,13] [] ?_;refine bd (ae fw [0,1,2,13,14] [] ?_);refine al (ae fw [0,1,2,13,16] [] ?_);refine aI (br fw hi [6] [] ?_);exact aW fw
  | jk s=>
   rw[iK]at gM;have hi:=h1 s gM.1;have hw:=h2 s gM.2;rw[dR,eQ]
   cases hx:is s with
   | false=>
    rw[hx]at hi;refine aD.aQ (aB _) func147 rfl rfl (rs:=[.tmp 6]) results147 (by simp[ntmps147]) fun X=>?_;simp only[ntmps147,List.map];refine ae fw [0,1,2] [] ?_;refine ag fun K1 aF=>ae fw [0,1,2,13] [] ?_;refine bd (ae fw [0,1,2,13,14] [] ?_);refine al (ae fw [0,1,2,13,16] [] ?_);refine al (ae fw [0,1,2,13,24] [] ?_);refine aI (br fw hi [6] [] ?_);exact aW fw
   | true=>
    rw[hx]at hi;refine aD.aQ (aB _) func147 rfl rfl (rs:=[.tmp 6]) results147 (by simp[ntmps147]) fun X=>?_;simp only[ntmps147,List.map];refine ae fw [0,1,2] [] ?_;refine ag fun K1 aF=>ae fw [0,1,2,13] [] ?_;refine bd (ae fw [0,1,2,13,14] [] ?_);refine al (ae fw [0,1,2,13,16] [] ?_);refine al (ae fw [0,1,2,13,24] [] ?_);refine aI (rg [6] [] aN fun K' ao=>?_);(repeat refine aM fun Kq af=>?_;simp[ab,dS,kZ,eG];(repeat refine⟨aa,?_⟩);refine af _ ?_);refine aM fun Kq af=>?_;simp[ab,dS,kZ,eG];refine dT.data (hi) bA (by first | exact D.bJ _ | simp[aL,agF,agy,D.le,D.le.go,D.le_refl,D.bJ,ab,dS,kZ,eG]) ?_;refine af _ ?_;simp only[aR,dY];(repeat refine aM fun Kq af=>?_;simp[ab,dS,kZ,eG];(repeat refine⟨aa,?_⟩);refine af _ ?_);refine aM fun Kq af=>?_;simp[ab,dS,kZ,eG];refine dT.data (hw) bA (by first | exact D.bJ _ | simp[aL,agF,agy,D.le,D.le.go,D.le_refl,D.bJ,ab,dS,kZ,eG]) ?_;refine af _ ?_;simp only[aR,dY];(repeat refine aM fun Kq af=>?_;simp[ab,dS,kZ,eG];(repeat refine⟨aa,?_⟩);refine af _ ?_);refine bK (ao _ (AW.st (by simp[ab,dS,kZ,eG];rfl) ?_));exact aW fw
  | ja s=>
   rw[iK]at gM;have hi:=h2 s gM.2;have hw:=h1 s gM.1;rw[dR,eQ];rw[Bool.and_comm]
   cases hx:ch s with
   | false=>
    rw[hx]at hi;refine aD.aQ (aB _) func147 rfl rfl (rs:=[.tmp 6]) results147 (by simp[ntmps147]) fun X=>?_;simp only[ntmps147,List.map];refine ae fw [0,1,2] [] ?_;refine ag fun K1 aF=>ae fw [0,1,2,13] [] ?_;refine bd (ae fw [0,1,2,13,14] [] ?_);refine al (ae fw [0,1,2,13,16] [] ?_);refine al (ae fw [0,1,2,13,24] [] ?_);refine al (ae fw [0,1,2,13,41] [] ?_);refine aI (br fw hi [6] [] ?_);exact aW fw
   | true=>
    rw[hx]at hi;refine aD.aQ (aB _) func147 rfl rfl (rs:=[.tmp 6]) results147 (by simp[ntmps147]) fun X=>?_;simp only[ntmps147,List.map];refine ae fw [0,1,2] [] ?_;refine ag fun K1 aF=>ae fw [0,1,2,13] [] ?_;refine bd (ae fw [0,1,2,13,14] [] ?_);refine al (ae fw [0,1,2,13,16] [] ?_);refine al (ae fw [0,1,2,13,24] [] ?_);refine al (ae fw [0,1,2,13,41] [] ?_);refine aI (rg [6] [] aN fun K' ao=>?_);(repeat refine aM fun Kq af=>?_;simp[ab,dS,kZ,eG];(repeat refine⟨aa,?_⟩);refine af _ ?_);refine aM fun Kq af=>?_;simp[ab,dS,kZ,eG];refine dT.data (hi) bA (by first | exact D.bJ _ | simp[aL,agF,agy,D.le,D.le.go,D.le_refl,D.bJ,ab,dS,kZ,eG]) ?_;refine af _ ?_;simp only[aR,dY];(repeat refine aM fun Kq af=>?_;simp[ab,dS,kZ,eG];(repeat refine⟨aa,?_⟩);refine af _ ?_);refine aM fun Kq af=>?_;simp[ab,dS,kZ,eG];refine dT.data (hw) bA (by first | exact D.bJ _ | simp[aL,agF,agy,D.le,D.le.go,D.le_refl,D.bJ,ab,dS,kZ,eG]) ?_;refine af _ ?_;simp only[aR,dY];(repeat refine aM fun Kq af=>?_;simp[ab,dS,kZ,eG];(repeat refine⟨aa,?_⟩);refine af _ ?_);refine bK (ao _ (AW.st (by simp[ab,dS,kZ,eG];rfl) ?_));exact aW fw
  | not x=>
   have hc:=ih x (by simp at bg;omega) (by rwa [iK]at gM) (by simpa[hU]using xz) (by simp only[bE]at hb;omega);rw[dR,eQ];rw[rX x]at hc ⊢;refine aD.aQ (aB _) func147 rfl rfl (rs:=[.tmp 6]) results147 (by simp[ntmps147]) fun X=>?_;simp only[ntmps147,List.map];refine ae fw [0,1,2] [] ?_;refine ag fun K1 aF=>ae fw [0,1,2,13] [] ?_;refine bd (ae fw [0,1,2,13,14] [] ?_);refine al (ae fw [0,1,2,13,16] [] ?_);refine al (ae fw [0,1,2,13,24] [] ?_);refine al (ae fw [0,1,2,13,41] [] ?_);refine al (ae fw [0,1,2,13,58] [] ?_);refine aI (br fw hc [6] [] ?_);exact aW fw
  | and l=>
   have pn:=uF l;simp only[bE]at hb
   have np:2<=l.length/\∀ x∈l,hU x:=by rw[hU]at xz;exact⟨xz.1,(wa l).1 xz.2⟩
   have nc:∀ x∈l,aD prog G 147 [dR x,.fn (.func g1) c1,.fn (.func g2) c2] (.v (.bool (eQ is ch x))):=fun x hx=>by
    have h5:=ag0 hx;exact ih x (by simp only[Ex.and.sizeOf_spec]at bg;omega) (by rw[iK,Ag]at gM;exact gM x hx) (np.2 x hx) (by have:=Ap hx;omega)
   have nd:=LW is ch l;rw[eQ,<- nd];rw[dR,yC];clear nd;refine aD.aQ (aB _) func147 rfl rfl (rs:=[.tmp 6]) results147 (by simp[ntmps147]) fun X=>?_;simp only[ntmps147,List.map];refine ae fw [0,1,2] [] ?_;refine ag fun K1 aF=>ae fw [0,1,2,13] [] ?_;refine bd (ae fw [0,1,2,13,14] [] ?_);refine al (ae fw [0,1,2,13,16] [] ?_);refine al (ae fw [0,1,2,13,24] [] ?_);refine al (ae fw [0,1,2,13,41] [] ?_);refine al (ae fw [0,1,2,13,58] [] ?_);refine al (ag fun K2 au=>?_);refine ae fw [0,1,2,13,70] [] ?_;refine aI (ar (au _ ?_));refine aI (ae fw [0,1,2,7] [] ?_);refine ag fun K3 aU=>ae fw [0,1,2,7,76,77,78] [] ?_;refine cy (S:=Nat) (fun i=>i<=l.length) (fun i=>⟨bn [(0,.d (.ip [dS [38],dS [],.sl none (l.map fun e=>[dR e])])),(1,.d (.fn (.func g1) c1)),(2,.d (.fn (.func g2) c2)),(7,int (jO is ch (l.take i):Nat)),(76,.d (.sl none (l.map fun e=>[dR e]))),(77,int l.length),(78,int i)],aw []⟩) (fun i=>l.length - i) 0 ?_ aa ?_
   .refine bq (Aq fw (Aq @jO.eq_1 @jO.eq_2))
   .intro i hi;have cN:=Dr is ch (l.take i);rw[agM]at cN;refine ae fw [0,1,2,7,76,77,78,79] [] ?_;refine ag fun K4 ck=>eE (b:=i < l.length) (by simp[D.le,D.le.go,aL,ab,dS,kZ,eG]) (fun hc=>?_) (fun hc=>?_)
    .have dD:i < l.length:=hc;have cG:=nc _ (OF dD);have dK:=LZ is ch dD;have hf:=rX l[i];rw[hf]at cG;refine ar (ck _ (ag fun K5 b9=>bd ?_));have qf:=(Aq fw (Aq @dD @hf));refine ay [0,1,2,7,9,76,77,78] [] ?_;refine br fw cG [0,1,2,7,76,77,78,85] [] ?_
     cases hv:eQ is ch l[i] with
     | true=>
      rw[hv]at dK;refine cm (by simp[hv]) (gH fw b9 [0,1,2,7,76,77,78] [] ?_);refine cE fw ?_;(try simp only[aT,aV]);refine ba.mk (i+1) aa aa ?_;refine bq (Aq fw @dK)
     | false=>
      rw[hv]at dK;refine cw (by simp[hv]) (ar (b9 _ ?_));refine cE fw ?_;(try simp only[aT,aV]);refine ba.mk (i+1) aa aa ?_;refine bq (Aq fw @dK)
    .obtain rfl:i=l.length:=aa
     refine bW (aU _ ?_);rw[aho]at cN ⊢;refine ae fw [6] [] ?_;exact aW fw
  | or l=>
   have pn:=uF l;simp only[bE]at hb
   have np:2<=l.length/\∀ x∈l,hU x:=by rw[hU]at xz;exact⟨xz.1,(wa l).1 xz.2⟩
   have nc:∀ x∈l,aD prog G 147 [dR x,.fn (.func g1) c1,.fn (.func g2) c2] (.v (.bool (eQ is ch x))):=fun x hx=>by
    have h5:=ag0 hx;exact ih x (by simp only[Ex.or.sizeOf_spec]at bg;omega) (by rw[iK,Ag]at gM;exact gM x hx) (np.2 x hx) (by have:=Ap hx;omega)
   have nd:=LY is ch l;rw[eQ,<- nd];rw[dR,yC];clear nd;refine aD.aQ (aB _) func147 rfl rfl (rs:=[.tmp 6]) results147 (by simp[ntmps147]) fun X=>?_;simp only[ntmps147,List.map];refine ae fw [0,1,2] [] ?_;refine ag fun K1 aF=>ae fw [0,1,2,13] [] ?_;refine bd (ae fw [0,1,2,13,14] [] ?_);refine al (ae fw [0,1,2,13,16] [] ?_);refine al (ae fw [0,1,2,13,24] [] ?_);refine al (ae fw [0,1,2,13,41] [] ?_);refine al (ae fw [0,1,2,13,58] [] ?_);refine al (ag fun K2 au=>?_);refine ae fw [0,1,2,13,70] [] ?_;refine al (gH fw au [0,1,2,70] [] ?_);refine aI (ae fw [0,1,2,7] [] ?_);refine ag fun K3 aU=>ae fw [0,1,2,7,76,77,78] [] ?_;refine cy (S:=Nat) (fun i=>i<=l.length) (fun i=>⟨bn [(0,.d (.ip [dS [124],dS [],.sl none (l.map fun e=>[dR e])])),(1,.d (.fn (.func g1) c1)),(2,.d (.fn (.func g2) c2)),(7,int (jO is ch (l.take i):Nat)),(76,.d (.sl none (l.map fun e=>[dR e]))),(77,int l.length),(78,int i)],aw []⟩) (fun i=>l.length - i) 0 ?_ aa ?_
   .refine bq (Aq fw (Aq @jO.eq_1 @jO.eq_2))
   .intro i hi;have cN:=Dr is ch (l.take i);rw[agM]at cN;refine ae fw [0,1,2,7,76,77,78,79] [] ?_;refine ag fun K4 ck=>eE (b:=i < l.length) (by simp[D.le,D.le.go,aL,ab,dS,kZ,eG]) (fun hc=>?_) (fun hc=>?_)
    .have dD:i < l.length:=hc;have cG:=nc _ (OF dD);have dK:=LZ is ch dD;have hf:=rX l[i];rw[hf]at cG;refine ar (ck _ (ag fun K5 b9=>bd ?_));have qf:=(Aq fw (Aq @dD @hf));refine ay [0,1,2,7,9,76,77,78] [] ?_;refine br fw cG [0,1,2,7,76,77,78,85] [] ?_
     cases hv:eQ is ch l[i] with
     | true=>
      rw[hv]at dK;refine cm (by simp[hv]) (gH fw b9 [0,1,2,7,76,77,78] [] ?_);refine cE fw ?_;(try simp only[aT,aV]);refine ba.mk (i+1) aa aa ?_;refine bq (Aq fw @dK)
     | false=>
      rw[hv]at dK;refine cw (by simp[hv]) (ar (b9 _ ?_));refine cE fw ?_;(try simp only[aT,aV]);refine ba.mk (i+1) aa aa ?_;refine bq (Aq fw @dK)
    .obtain rfl:i=l.length:=aa
     refine bW (aU _ ?_);rw[aho]at cN ⊢;by_cases h0:0 < jO is ch l
     .have qf:=(Aq fw @h0);refine ay [6] [] ?_;exact aW (Aq fw @h0)
     .have hz:jO is ch l=0:=aa
      have bl:¬ l.length=0:=aa
      have NV:¬ 0=(l.length:Int):=aa
      have qf:=(Aq fw (Aq @h0 (Aq @hz (Aq @bl @NV))));refine ay [6] [] ?_;exact aW (Aq fw (Aq @h0 (Aq @hz (Aq @bl @NV))))
theorem ac6 (G:aC) (g1 g2:FuncId) (c1 c2:List D) (is ch:List UInt8->Bool) (S1 S2:List UInt8->Prop) (h1:qn S1 G g1 c1 is) (h2:qn S2 G g2 c2 ch) (e:Ex) (ha:iK S1 S2 e) (hw:hU e) (hb:bE e<=2^28):aD prog G 147 [dR e,.fn (.func g1) c1,.fn (.func g2) c2] (.v (.bool (eQ is ch e))):=
 ac5 G g1 g2 c1 c2 is ch S1 S2 h1 h2 _ e (agD _) ha hw hb
def nq:Ex->List Ex
 | .not e=>[e]
 | .and l=>l
 | .or l=>l
 | _=>[]
def kR:Ex->Option Bool
 | .not _=>none
 | .and _=>none
 | .or _=>none
 | _=>some false
theorem abV (e:Ex):Cm e = .sl (kR e) ((nq e).map fun x=>[dR x]):=by
 cases e<;>simp[Cm,nq,kR,eG,yC]
theorem Tz (e:Ex):gK (nq e)<=bE e:=by cases e<;>simp[bE,nq,gK]<;>omega
theorem aeh {e x:Ex} (h:x∈nq e):SizeOf.sizeOf x < SizeOf.sizeOf e:=by
 cases e with
 | not y=>simp only[nq,ahc]at h;subst h;simp
 | and l=>simp only[nq]at h;have:=ag0 h;simp only[Ex.and.sizeOf_spec];omega
 | or l=>simp only[nq]at h;have:=ag0 h;simp only[Ex.or.sizeOf_spec];omega
 | _=>simp[nq]at h
theorem aix:type_of% @cj.eq_1:=@cj.eq_1
theorem aiy:type_of% @dU.eq_1:=@dU.eq_1
theorem aiz:type_of% @ft.eq_1:=@ft.eq_1
