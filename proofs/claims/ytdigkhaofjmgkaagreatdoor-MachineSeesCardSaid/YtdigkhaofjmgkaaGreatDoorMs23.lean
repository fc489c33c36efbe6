/- Parts. -/
import Derived.Test.YtdigkhaofjmgkaaGreatDoorMs22
import Derived.Shelf.Strings.Runes
set_option linter.unusedSimpArgs false
set_option linter.unusedVariables false
set_option maxHeartbeats 32000000
set_option maxRecDepth 100000
open Go.Proofs.Tryz
namespace Go.Proofs
open Go.Shelf
def Tryz.IJ:Go.Shelf.Ren:=⟨fun | 151=>213 | 152=>245 | 137=>116 | 119=>272 | 224=>262 | 225=>261 | 217=>160 | 266=>206 | n=>n,fun | 9=>9 | 21=>21 | 4=>4 | 3=>3 | 5=>5 | 0=>0 | 46=>156 | n=>n,fun | n=>n⟩
theorem Tryz.SC:Go.Proofs.Lays.n151 prog Tryz.IJ:={
 mixed:=by kernel_rfl
 f119:=func272.trans (congrArg some (by kernel_rfl))
 f137:=func116.trans (congrArg some (by kernel_rfl))
 f151:=func213.trans (congrArg some (by kernel_rfl))
 f152:=func245.trans (congrArg some (by kernel_rfl))
 f217:=func160.trans (congrArg some (by kernel_rfl))
 f224:=func262.trans (congrArg some (by kernel_rfl))
 f225:=func261.trans (congrArg some (by kernel_rfl))
 f266:=func206.trans (congrArg some (by kernel_rfl))
 t0:=underlying0
 a0:=isAgg0
 z0:=sizeOf0
 v0:=zeroValue0
 t3:=underlying3
 a3:=isAgg3
 z3:=sizeOf3
 v3:=zeroValue3
 t4:=underlying4
 a4:=isAgg4
 z4:=sizeOf4
 v4:=zeroValue4
 t5:=underlying5
 a5:=isAgg5
 z5:=sizeOf5
 v5:=zeroValue5
 t9:=underlying9
 a9:=isAgg9
 z9:=sizeOf9
 v9:=zeroValue9
 t21:=underlying21
 a21:=isAgg21
 z21:=sizeOf21
 v21:=zeroValue21
 t46:=underlying156
 a46:=isAgg156
 z46:=sizeOf156
 v46:=zeroValue156 }
end Go.Proofs
namespace Go.Proofs.YtdigkhaofjmgkaaGreatDoor
open Go.Av
open Go.Shelf
def aaI (t:List UInt8) (i:Int) (e p:Int):List (Nat×Row):=[(500,.box 247 [.d (dS t),int i,int e,int p])]
theorem Ej (G:ao) (t:List UInt8) (i:Nat) (ht:t.length < 2^60) (hi:i<=t.length) (e p:Int) :
  MC prog G [500] 193 [.ref 500 0 0] (ak (aaI t i e p)) (.d (.tup [])) (ak (aaI t (aaD t i) e p)):=by
 refine MC.aC (aay _) func193 rfl rfl (rs:=[]) results193 (by simp[ntmps193]) rfl fun X=>?_;simp only[ntmps193];have fw:=(Aq @ab.eq_1 (Aq @aaI.eq_1 @dS.eq_1));refine bZ (S:=Nat) (fun k=>k<=t.length/\aaD t k=aaD t i) (fun k=>⟨lst [(0,.ref 500 0 0)],ak [(500,.box 247 [.d (dS t),int k,int e,int p])]⟩) (fun k=>t.length - k) i ?_ ⟨hi,rfl⟩ ?_
 .refine aX fw
 .rintro k ⟨hk,hs⟩;refine ae fun K1 au=>?_;by_cases cr:k < t.length
  .have QK:(k:Int) < (t.length:Int):=by omega
   by_cases hb:((t[k]).toNat:Int)=32
   .have qf:=(Aq fw (Aq @bl (Aq @ch (Aq @cr @hb))));refine fv [0,23] [500] ?_;refine aax rfl ?_;refine ah (au _ ?_);refine aU ?_;refine bO fw ?_;try simp only[aM,aP]
    have gu:t[k]? = some 32:=by
     rw[List.getElem?_eq_getElem cr,(u1 _ 32 (by decide)).1 hb];rfl
    refine aV.mk (k+1) ⟨by omega,?_⟩ (by omega) ?_
    .rw[<- EK gu];exact hs
    refine aX fw
   .have qf:=(Aq fw (Aq @bl (Aq @ch (Aq @cr @hb))));refine fv [0,23] [500] ?_;refine ag rfl ?_;refine bG ?_
    have gu:t[k]?≠some 32:=by
     rw[List.getElem?_eq_getElem cr];intro h;apply hb;rw[Option.some.inj h];rfl
    rw[sO gu]at hs;rw[<- hs];simp[aaI,dS,D.le_refl]
  .obtain rfl:k=t.length:=by omega
   have qf:=(Aq fw (Aq @bl @ch));refine fv [0,23] [500] ?_;refine ag rfl ?_;refine bG ?_
   have gu:t[t.length]?≠some 32:=by simp
   rw[sO gu]at hs;rw[<- hs];simp[aaI,dS,D.le_refl]
def lq (t:List UInt8) (i:Nat):UInt8:=t.getD (aaD t i) 0
theorem xh (G:ao) (t:List UInt8) (i:Nat) (ht:t.length < 2^60) (hi:i<=t.length) (e p:Int) :
  MC prog G [500] 145 [.ref 500 0 0] (ak (aaI t i e p)) (.d (.v (.int .u8 (lq t i).toNat))) (ak (aaI t (aaD t i) e p)):=by
 have dt:=Ej G t i ht hi e p;have abN:=acL hi;unfold lq;generalize aaD t i=j at dt abN ⊢;by_cases jL:j < t.length
 .have QD:(j:Int) < (t.length:Int):=by omega
  have jq:t.getD j 0=t[j]:=by simp[List.getD_eq_getElem?_getD,jL]
  rw[jq];refine MC.aC (aay _) func145 rfl rfl (rs:=[.tmp 2]) results145 (by simp[ntmps145]) rfl fun X=>?_;simp only[ntmps145];have fw:=(Aq @ab.eq_1 (Aq @aaI.eq_1 @dS.eq_1));refine rgq fw [0] [500] ?_;refine rgm fw dt [0] [500] ?_;refine ae fun K1 au=>?_;have qf:=(Aq fw (Aq @bl (Aq @jL @QD)));refine fv [0,14] [500] ?_;refine aax rfl ?_;have qf:=(Aq fw (Aq @bl (Aq @ch @jL)));refine fv [2] [500] ?_;exact aG (Aq fw (Aq @aaI.eq_1 @jL))
 .obtain rfl:j=t.length:=by omega
  refine MC.aC (aay _) func145 rfl rfl (rs:=[.tmp 2]) results145 (by simp[ntmps145]) rfl fun X=>?_;simp only[ntmps145];have fw:=(Aq @ab.eq_1 (Aq @aaI.eq_1 @dS.eq_1));refine rgq fw [0] [500] ?_;refine rgm fw dt [0] [500] ?_;refine ae fun K1 au=>?_;have qf:=(Aq fw @bl);refine fv [0,14] [500] ?_;refine ag rfl ?_;refine ah (au _ ?_);refine rgq fw [2] [500] ?_;exact aG (Aq fw @aaI.eq_1)
theorem xf (G:ao) (t:List UInt8) (i:Nat) (ht:t.length < 2^60) (hi:i<=t.length) (e:Int) :
  MC prog G [500] 146 [.ref 500 0 0,.d (ab e)] (ak (aaI t i 0 (-1))) (.d (.v (.pointer none))) (ak (aaI t (aaD t i) e (aaD t i))):=by
 have dt:=Ej G t i ht hi 0 (-1);generalize aaD t i=j at dt ⊢;refine MC.aC (aay _) func146 rfl rfl (rs:=[.tmp 4]) results146 (by simp[ntmps146]) rfl fun X=>?_;simp only[ntmps146];have fw:=(Aq @ab.eq_1 (Aq @aaI.eq_1 @dS.eq_1));refine rgq fw [0,1] [500] ?_;refine rgm fw dt [0,1] [500] ?_;refine ae fun K1 au=>?_;refine rgq fw [0,1,12] [500] ?_;refine aax rfl ?_;refine reK fw au [] [500] ?_;refine rgq fw [4] [500] ?_;exact aG (Aq fw @aaI.eq_1)
def lx:List UInt8:=[32,38,124,33,94,126,40,41,61]
theorem R3 (c:UInt8):jb c=lx.contains c:=rfl
theorem N6 {c:UInt8} (h:128<=c.toNat):∃ b0 b1:UInt8,Utf8.encode (c.toNat:Int)=bs [b0,b1]/\128<=b1.toNat:=by
 have hv:Utf8.valid (c.toNat:Int)=true:=by
  have hc:=c.toNat_lt;simp[Utf8.valid];omega
 refine⟨UInt8.ofNat (0xC0+c.toNat / 64),UInt8.ofNat (0x80+c.toNat % 64),?_,?_⟩
 .have hc:=c.toNat_lt;unfold Utf8.encode;rw[hv];simp only[if_true,Int.toNat_natCast];rw[if_neg (by omega),if_pos (by omega)];rfl
 .simp;omega
theorem Yu (G:ao) (n:Nat) (h:n < 256):ar prog G 272 [.v (.int .i32 n)] (.v (.bool true)):=by
 have h1:(n:Int) < 55296:=by omega
 refine ar.aC (aay _) func272 rfl rfl (rs:=[.tmp 2]) results272 (by simp[ntmps272]) fun X=>?_;simp only[ntmps272,List.map];have fw:=(Aq @ab.eq_1 @dS.eq_1);refine rgq fw [0] [] ?_;refine ae fun K1 au=>?_;refine aU ?_;have qf:=(Aq fw @h1);refine al [0,3] [] ?_;refine aax rfl ?_;refine rgq fw [2] [] ?_;exact aG fw
theorem agz (G:ao) (c:UInt8) (h:128<=c.toNat):ar prog G 245 [dS lx,.v (.int .i32 c.toNat)] (ab (-1)):=by
 have hc:=c.toNat_lt;obtain⟨b0,b1,he,hb⟩:=N6 h
 have h1:¬ (c.toNat:Int) < 128:=by omega
 have h2:¬ (c.toNat:Int)=65533:=by omega
 have hv:=Yu G c.toNat hc
 have dA:¬ (38:Int)=(b1.toNat:Int):=by omega
 have eZ:=IA G [124,33,94,126,40,41,61] b1
 have rW:Lib.indexByte [124,33,94,126,40,41,61] b1 < 0:=(Dn _ _).2 (by
  intro hm
  have:∀ x∈([124,33,94,126,40,41,61]:List UInt8),x.toNat < 128:=by decide
  have:=this _ hm
  omega)
 have HU:(bs lx).extract 2 9=bs [124,33,94,126,40,41,61]:=rfl;refine ar.aC (aay _) func245 rfl rfl (rs:=[.tmp 4]) results245 (by simp[ntmps245]) fun X=>?_;simp only[ntmps245,List.map];have fw:=(Aq @ab.eq_1 @dS.eq_1);refine rgq fw [0,1] [] ?_;refine aU ?_;have qf:=(Aq fw @h1);refine al [0,1,160] [] ?_;refine ag rfl ?_;have qf:=(Aq fw @h2);refine al [0,1,171] [] ?_;refine ag rfl ?_;refine aR fw hv [0,1,183] [] ?_;refine ag rfl ?_;refine Fo ?_;have qf:=(Aq fw @he);refine al [0,7] [] ?_;have qf:=(Aq fw @bl);refine al [0,7,8] [] ?_;refine rgq fw [0,7,8,9] [] ?_;refine rgq fw [0,7,8,9] [] ?_;refine ae fun K3 aH=>?_;refine bZ (S:=Nat) (fun n=>True) (fun n=>⟨lst [(0,.d (dS lx)),(7,.d (dS [b0,b1])),(8,int 1),(9,int 1)],ak []⟩) (fun n=>0) 0 ?_ trivial ?_
 .refine aX fw
 .intro n hn;refine ae fun K4 hK4=>?_;have qf:=(Aq fw (Aq @bl @lx.eq_1));refine al [0,7,8,9,26] [] ?_;refine aax rfl ?_;refine ah (hK4 _ ?_);refine aU ?_;refine Fo ?_;refine ae fun K5 bN=>?_;have qf:=(Aq fw (Aq @bl (Aq @ch (Aq @lx.eq_1 @dA))));refine fv [0,7,8,9,33] [] ?_;refine aax rfl ?_;have qf:=(Aq fw (Aq @bl (Aq @ch (Aq @lx.eq_1 @HU))));refine uN eZ [0,7,8,9,11] [] ?_;refine ae fun K6 hK6=>?_;have qf:=(Aq fw @rW);refine al [0,7,8,9,11,43] [] ?_;refine aax rfl ?_;refine rgq fw [4] [] ?_;exact aG fw
theorem NG (G:ao) (c:UInt8):ar prog G 213 [dS lx,.v (.int .i32 c.toNat)] (.v (.bool (jb c))):=by
 by_cases h:c.toNat < 128
 .refine ar.nr (e7.of func213 rfl rfl) fun X w vs aK bC cq=>?_
  obtain⟨a,b,rfl⟩:∃ a b,vs = #[a,b]:=by
   match vs,aK with
   | ⟨[a,b]⟩,_=>exact⟨a,b,rfl⟩
  have ha:=(bC 0 a _ rfl rfl).scalar;have hb:=(bC 1 b _ rfl rfl).scalar;subst ha hb;have fC:=Any.strings_ContainsRune_ascii (P:=prog) (ρ:=Tryz.IJ) { Tryz.SC with } (bs lx) c.toNat w (by omega) (by omega);rw[show (c.toNat:Int).toNat.toUInt8=c by simp]at fC;refine fC.mono fun e w' ⟨he,hw⟩=>⟨_,he,by rw[hw];exact bY.refl _,?_⟩
  have hbb:decide (0<=Lib.indexByte (bs lx).data.toList c)=jb c:=by
   rw[R3,Bool.eq_iff_iff,decide_eq_true_eq,List.contains_iff_mem];have:=Dn lx c;have e:(bs lx).data.toList=lx:=rfl;rw[e];constructor
   .intro h0;apply Classical.byContradiction;intro hn;have:=this.2 hn;omega
   .intro hm;apply Classical.byContradiction;intro hn;exact this.1 (by omega) hm
  rw[hbb];exact .v _
 .have PO:=agz G c (by omega)
  have fD:jb c=false:=by
   have h:∀ n:Fin 256,128<=n.val->jb (UInt8.ofNat n)=false:=by decide +kernel
   have:=h ⟨c.toNat,c.toNat_lt⟩ (by simp;omega);simpa using this
  rw[fD];refine ar.aC (aay _) func213 rfl rfl (rs:=[.tmp 4]) results213 (by simp[ntmps213]) fun X=>?_;simp only[ntmps213,List.map];have fw:=(Aq @ab.eq_1 @dS.eq_1);refine rgq fw [0,1] [] ?_;refine aR fw PO [4] [] ?_;exact aG fw
end Go.Proofs.YtdigkhaofjmgkaaGreatDoor
namespace Go.Proofs.YtdigkhaofjmgkaaGreatDoor
open Go.Av
def eR {α:Type}:Rs α->Int
 | .ok _ _=>0
 | .err c _ _=>c
def pR {α:Type}:Rs α->Int
 | .ok _ _=>-1
 | .err _ p _=>p
theorem E0 (c:UInt8):IntKind.i32.wrap (c.toNat:Int)=(c.toNat:Int):=by
 have h:∀ n:Fin 256,IntKind.i32.wrap ((UInt8.ofNat n.val).toNat:Int)=((UInt8.ofNat n.val).toNat:Int):=by decide +kernel
 have:=h ⟨c.toNat,c.toNat_lt⟩;simpa using this
theorem YJ:IntKind.i32.wrap 48=48:=by decide +kernel
theorem YK:IntKind.i32.wrap 49=49:=by decide +kernel
theorem xq:(⟨#[32,38,124,33,94,126,40,41,61]⟩:ByteArray)=bs lx:=rfl
theorem Em (G:ao) (t:List UInt8) (q i:Nat) (ht:t.length < 2^60) (hi:i<=t.length) :
  MC prog G [500] 229 [.ref 500 0 0] (ak (aaI t i 0 (-1))) (.d (dS (fR t (aaD t i)))) (ak (aaI t (aaR (abq t q i)) (eR (abq t q i)) (pR (abq t q i)))):=by
 have dt:=Ej G t i ht hi 0 (-1);have abN:=acL hi;have qc:=sN hi;unfold abq;generalize aaD t i=j at dt abN qc ⊢;have v8:=xf G t j ht abN 3;have wa:=xf G t j ht abN 5;rw[qc]at v8 wa;have hel:=As t j;have het:=E3 abN;have jT:(t.drop j).take (lB t j - j)=fR t j:=rfl
 have afz:(fR t j).length < 2^60:=by
  rw[<- jT,List.length_take,List.length_drop];omega
 have acO:=Jl G (fR t j) afz;rw[<- Jg]at acO;refine MC.aC (aay _) func229 rfl rfl (rs:=[.tmp 2]) results229 (by simp[ntmps229]) rfl fun X=>?_;simp only[ntmps229];have fw:=(Aq @ab.eq_1 (Aq @aaI.eq_1 @dS.eq_1));refine rgq fw [0] [500] ?_;refine rgm fw dt [0] [500] ?_;refine rgq fw [0,3] [500] ?_;refine ae fun K1 au=>?_;refine bZ (S:=Nat) (fun k=>j<=k/\k<=t.length/\qU t j k) (fun k=>⟨lst [(0,.ref 500 0 0),(3,int k)],ak [(500,.box 247 [.d (dS t),int j,int 0,int (-1)])]⟩) (fun k=>t.length - k) j ?_ ⟨Nat.le_refl _,abN,.inl rfl⟩ ?_
 .refine aX fw
 .rintro k ⟨rQ,hk,cw⟩;refine ae fun K2 aa=>?_
  refine (fun hgo hstop=>?_) (fun (σ:St) (hn:qU t j (k+1)) (cr:k < t.length) himp=>aa σ (AW.imp (τ:=⟨lst [(0,.ref 500 0 0),(3,int k)],ak [(500,.box 247 [.d (dS t),int j,int 0,int (-1)])]⟩) himp ?_))
   (fun (σ:St) (he:k=lB t j) himp=>au σ (AW.imp (τ:=⟨lst [(0,.ref 500 0 0),(3,int k)],ak [(500,.box 247 [.d (dS t),int j,int 0,int (-1)])]⟩) himp ?_))
  .by_cases cr:k < t.length
   .have fV:=NG G t[k];have aej:=uu t[k]
    cases tY:jb t[k] with
    | true=>
     rw[tY]at fV aej;have qf:=(Aq fw (Aq @bl (Aq @ch (Aq @xq (Aq @E0 @cr)))));refine dv fV [0,3,54] [500] ?_;refine ag rfl ?_;refine bG (hstop _ (ow cw hk fun _=>⟨aej.2 (.inl rfl),fun _=>⟨fun e=>?_,fun e=>?_⟩⟩) ?_)
     .rw[e]at tY;exact absurd tY (by decide)
     .rw[e]at tY;exact absurd tY (by decide)
     .refine aX fw
    | false=>
     rw[tY]at fV aej;by_cases acy:j < k
     .have iR:(j:Int) < (k:Int):=by omega
      have yP:t[k] ∉ l4\/(j < k/\(t[k]=48\/t[k]=49)):=by
       by_cases hm:t[k]∈l4
       .rcases aej.1 hm with h | h | h
        .cases h
        .exact .inr ⟨acy,.inl h⟩
        .exact .inr ⟨acy,.inr h⟩
       .exact .inl hm
      have qf:=(Aq fw (Aq @bl (Aq @ch (Aq @xq (Aq @E0 (Aq @cr (Aq @iR @acy)))))));refine dv fV [0,3,54] [500] ?_;refine aax rfl ?_;refine ah (hgo _ (aeQ cw cr yP) cr ?_);refine aX fw
     .have iR:¬ (j:Int) < (k:Int):=by omega
      by_cases mg:((t[k]).toNat:Int)=48
      .have hc:t[k]=48:=(u1 _ 48 (by decide)).1 mg;rw[mg]at fV;have qf:=(Aq fw (Aq @bl (Aq @ch (Aq @xq (Aq @YJ (Aq @cr (Aq @iR (Aq @acy @mg))))))));refine dv fV [0,3,54] [500] ?_;refine ag rfl ?_;refine bG (hstop _ (ow cw hk fun _=>⟨aej.2 (.inr (.inl hc)),fun h=>absurd h acy⟩) ?_);refine aX fw
      .by_cases nI:((t[k]).toNat:Int)=49
       .have hc:t[k]=49:=(u1 _ 49 (by decide)).1 nI;rw[nI]at fV;have qf:=(Aq fw (Aq @bl (Aq @ch (Aq @xq (Aq @YK (Aq @cr (Aq @iR (Aq @acy (Aq @mg @nI)))))))));refine dv fV [0,3,54] [500] ?_;refine ag rfl ?_;refine bG (hstop _ (ow cw hk fun _=>⟨aej.2 (.inr (.inr hc)),fun h=>absurd h acy⟩) ?_);refine aX fw
       .have hm:t[k] ∉ l4:=fun hm=>by
         rcases aej.1 hm with h | h | h
         .cases h
         .exact mg (by rw[h];rfl)
         .exact nI (by rw[h];rfl)
        have qf:=(Aq fw (Aq @bl (Aq @ch (Aq @xq (Aq @E0 (Aq @cr (Aq @iR (Aq @acy (Aq @mg @nI)))))))));refine dv fV [0,3,54] [500] ?_;refine aax rfl ?_;refine ah (hgo _ (aeQ cw cr (.inl hm)) cr ?_);refine aX fw
   .obtain rfl:k=t.length:=by omega
    by_cases acy:j < t.length
    .have iR:(j:Int) < (t.length:Int):=by omega
     have qf:=(Aq fw (Aq @bl (Aq @ch (Aq @iR @acy))));refine al [0,3,54] [500] ?_;refine ag rfl ?_;refine bG (hstop _ (ow cw hk fun h=>absurd h cr) ?_);refine aX fw
    .have iR:¬ (j:Int) < (t.length:Int):=by omega
     have qf:=(Aq fw (Aq @bl (Aq @ch (Aq @iR @acy))));refine al [0,3,54] [500] ?_;refine ag rfl ?_;refine bG (hstop _ (ow cw hk fun h=>absurd h cr) ?_);refine aX fw
  .refine aU ?_;refine bO fw ?_;(try simp only[aM,aP]);refine aV.mk (k+1) ⟨by omega,by omega,hn⟩ (by omega) ?_;refine aX fw
  .subst he;clear au aa;have afB:List.take (lB t j - j) (List.drop j t)=fR t j:=jT;have qf:=(Aq fw (Aq @bl (Aq @FM (Aq @hel (Aq @het @afB)))));refine fv [0,3,4] [500] ?_;refine ae fun K3 aH=>?_;refine aU ?_;by_cases hs:fR t j=[]
   .refine rg [0,3,4,71] [500] (cK rfl) fun K' af=>?_;(repeat (refine sxn fun K2 aa=>?_;simp[ab,aaI,dS,hs,br,aZ,aS];(repeat (refine⟨by omega,?_⟩));refine aa _ ?_;clear aa K2));refine sxz (af _ (AW.st (by simp[ab,aaI,dS,hs,br,aZ,aS];rfl) ?_));clear af K';refine aax rfl ?_;refine abl (aay _) fun K' af=>?_;(repeat (refine sxn fun K2 aa=>?_;simp[ab,aaI,dS];(repeat (refine⟨by omega,?_⟩));refine aa _ ?_;clear aa K2));refine sxn fun K2 aa=>?_;simp[ab,aaI,dS];refine aaT.mc (v8) ?_ ?_ ?_ ?_ ?_<;>simp[ab,aaI,dS];refine aa _ ?_;clear aa K2;(repeat (refine sxn fun K2 aa=>?_;simp[ab,aaI,dS];(repeat (refine⟨by omega,?_⟩));refine aa _ ?_;clear aa K2));refine sxz (af _ ?_);clear af K';refine aH _ (AW.norm [4] [500] (cK rfl) (AW.st (by simp[ab,aaI,dS];rfl) ?_));refine rgq fw [2] [500] ?_;refine bn ?_;simp[D.le,D.le.go,aaA,ab,aaI,dS,aaI,aaR,eR,pR,hs,br]
   .have qm:(fR t j == [])=false:=by simpa using hs
    have wF:(fR t j).isEmpty=false:=by rw[List.isEmpty_eq_false_iff];exact hs
    refine rg [0,3,4,71] [500] (cK rfl) fun K' af=>?_;(repeat (refine sxn fun K2 aa=>?_;simp[ab,aaI,dS,br,aZ,aS,hs,qm,wF];(repeat (refine⟨by omega,?_⟩));refine aa _ ?_;clear aa K2));refine sxz (af _ (AW.st (by simp[ab,aaI,dS,br,aZ,aS,hs,qm,wF];rfl) ?_));clear af K';refine ag rfl ?_
    cases hn:gb (fR t j) with
    | false=>
     rw[hn]at acO;refine aR fw acO [0,3,4,76] [500] ?_;refine aax rfl ?_;refine abl (aay _) fun K' af=>?_;(repeat (refine sxn fun K2 aa=>?_;simp[ab,aaI,dS];(repeat (refine⟨by omega,?_⟩));refine aa _ ?_;clear aa K2));refine sxn fun K2 aa=>?_;simp[ab,aaI,dS];refine aaT.mc (wa) ?_ ?_ ?_ ?_ ?_<;>simp[ab,aaI,dS];refine aa _ ?_;clear aa K2;(repeat (refine sxn fun K2 aa=>?_;simp[ab,aaI,dS];(repeat (refine⟨by omega,?_⟩));refine aa _ ?_;clear aa K2));refine sxz (af _ ?_);clear af K';refine aH _ (AW.norm [4] [500] (cK rfl) (AW.st (by simp[ab,aaI,dS];rfl) ?_));refine rgq fw [2] [500] ?_;exact aG (Aq fw (Aq @aaI.eq_1 (Aq @aaR.eq_1 (Aq @aaR.eq_2 (Aq @eR.eq_1 (Aq @eR.eq_2 (Aq @pR.eq_1 (Aq @pR.eq_2 (Aq @hs @hn)))))))))
    | true=>
     rw[hn]at acO;refine aR fw acO [0,3,4,76] [500] ?_;refine ag rfl ?_;refine reK fw aH [4] [500] ?_;refine rgq fw [2] [500] ?_;exact aG (Aq fw (Aq @aaI.eq_1 (Aq @aaR.eq_1 (Aq @aaR.eq_2 (Aq @eR.eq_1 (Aq @eR.eq_2 (Aq @pR.eq_1 (Aq @pR.eq_2 (Aq @hs @hn)))))))))
def cX:D:=.sl (some false) []
mutual
def dR:Ex->D
 | .cst b=>.ip [dS [if b then 49 else 48],dS [],cX]
 | .bit s=>.ip [dS [98,105,116],dS s,cX]
 | .abP s=>.ip [dS [94],dS s,cX]
 | .fS s=>.ip [dS [126],dS s,cX]
 | .not e=>.ip [dS [33],dS [],.sl none [[dR e]]]
 | .and l=>.ip [dS [38],dS [],.sl none (rb l)]
 | .or l=>.ip [dS [124],dS [],.sl none (rb l)]
def rb:List Ex->List (List D)
 | []=>[]
 | e :: l=>[dR e] :: rb l
end
theorem aez:∀ l:List Ex,rb l=l.map fun e=>[dR e]
 | []=>rfl
 | e :: l=>by rw[rb,aez l];rfl
theorem aey (e:Ex):∃ c,dR e = .ip c:=by
 cases e<;>simp only[dR]<;>exact⟨_,rfl⟩
theorem ra (e:Ex):(dR e).one=true:=by
 obtain⟨c,h⟩:=aey e;rw[h];rfl
theorem cells_one {y:D} (h:y.one=true):gl (.d y)=some [.d y]:=by
 cases y<;>first | (simp[gl,AV.one,D.one]at h ⊢;done) | (simp[D.one]at h;simp[gl,AV.one,D.one,h])
def gC (r:Rs Ex) (y:D):D:=match r with
 | .ok x _=>dR x
 | .err _ _ _=>y
def gg {α:Type} (r:Rs α) (k:Nat):Nat:=match r with
 | .ok _ j=>j
 | .err _ _ _=>k
def xN (G:ao) (t:List UInt8) (fx:List Nat) (xr:List (Nat×Row)) (g:FuncId) (xs:List AV) (d:Nat) (r:Rs Ex) (i:Nat) (y:D) (k:Nat):Prop:=
 MC prog G fx g xs (ak (aaI t i 0 (-1) ++ xr)) (.d (gC r y)) (ak (aaI t (gg r k) (eR r) (pR r) ++ xr))/\(∀ c p q,r = .err c p q->0 < c/\y.one=true/\k<=t.length+d)
def Reads (G:ao) (t:List UInt8) (fx:List Nat) (xr:List (Nat×Row)) (g:FuncId) (xs:List AV) (d:Nat) (f:Nat->Rs Ex):Prop:=∃ (yF:Nat->D) (kF:Nat->Nat),∀ i,i<=t.length->xN G t fx xr g xs d (f i) i (yF i) (kF i)
theorem zY {G:ao} {t:List UInt8} {fx:List Nat} {xr:List (Nat×Row)} {g:FuncId} {xs:List AV} {d:Nat} {f:Nat->Rs Ex} (h:∀ i,i<=t.length->∃ y k,xN G t fx xr g xs d (f i) i y k):Reads G t fx xr g xs d f:=by
 have h2:∀ i,∃ z:D×Nat,i<=t.length->xN G t fx xr g xs d (f i) i z.1 z.2:=fun i=>by
  by_cases hi:i<=t.length
  .obtain⟨y,k,h⟩:=h i hi;exact⟨(y,k),fun _=>h⟩
  .exact⟨(default,0),fun h=>absurd h hi⟩
 exact⟨fun i=>(Classical.choose (h2 i)).1,fun i=>(Classical.choose (h2 i)).2,fun i hi=>Classical.choose_spec (h2 i) hi⟩
def kV (t:List UInt8) (s:UInt8) (f:Nat->Rs Ex):Nat->Nat->List Ex->List Ex×Nat
 | 0,i,acc=>(acc,i)
 | n+1,i,acc=>match f i with
  | .err _ _ _=>(acc,i)
  | .ok x j=>if (cU t s j).1 then kV t s f n (cU t s j).2 (acc ++ [x]) else (acc,i)
theorem KQ {t:List UInt8} {s:UInt8} {f:Nat->Rs Ex} (hf:il t f):∀ (n m i:Nat) (acc:List Ex),i<=t.length->t.length+1 - i<=n->t.length+1 - i<=m->kV t s f n i acc=kV t s f m i acc
 | 0,_,i,_,hi,h,_=>by omega
 | _+1,0,i,_,hi,_,h=>by omega
 | n+1,m+1,i,acc,hi,h1,h2=>by
  rw[kV,kV]
  cases bz:f i with
  | err c p q=>rfl
  | ok x j=>
   obtain⟨g1,g2⟩:=hf i x j hi bz;obtain⟨t1,t2,t3⟩:=acY (c:=s) g2;dsimp only;split
   .exact KQ hf n m _ _ t2 (by omega) (by omega)
   .rfl
def sM (t:List UInt8) (s:UInt8) (f:Nat->Rs Ex) (i:Nat) (acc:List Ex):List Ex×Nat:=kV t s f (t.length+1 - i) i acc
theorem qN {t:List UInt8} {s:UInt8} {f:Nat->Rs Ex} (hf:il t f) {i:Nat} (hi:i<=t.length) (acc:List Ex):sM t s f i acc=match f i with
  | .err _ _ _=>(acc,i)
  | .ok x j=>if (cU t s j).1 then sM t s f (cU t s j).2 (acc ++ [x]) else (acc,i):=by
 unfold sM;obtain⟨n,hn⟩:∃ n,t.length+1 - i=n+1:=⟨t.length - i,by omega⟩;rw[hn,kV]
 cases bz:f i with
 | err c p q=>rfl
 | ok x j=>
  obtain⟨g1,g2⟩:=hf i x j hi bz;obtain⟨t1,t2,t3⟩:=acY (c:=s) g2;dsimp only;split
  .exact KQ hf _ _ _ _ t2 (by omega) (by omega)
  .rfl
theorem zJ {t:List UInt8} {i:Nat} {c:UInt8} (hc:c≠0):(cU t c i).1=decide (((lq t i).toNat:Int)=(c.toNat:Int)):=by
 unfold cU lq;rw[List.getD_eq_getElem?_getD]
 cases h:t[aaD t i]? with
 | none=>
  rw[if_neg (by simp)];simp only[Option.getD_none]
  symm
  rw[decide_eq_false_iff_not];intro e;apply hc
  have:c.toNat=0:=by simp at e;omega
  exact UInt8.toNat_inj.1 (by simpa using this)
 | some b=>
  simp only[Option.getD_some];by_cases hb:b=c
  .subst hb;simp
  .have:¬ ((b.toNat:Int)=(c.toNat:Int)):=fun e=>hb (UInt8.toNat_inj.1 (by omega));simp[hb,this]
theorem EW {t:List UInt8} {c:UInt8} {i:Nat}:(cU t c i).2=if (cU t c i).1 then aaD t i+1 else aaD t i:=by
 unfold cU;split<;>rfl
def jB (s:UInt8) (ys:List D):D:=match ys with
 | [y]=>y
 | ys=>.ip [dS [s],dS [],.sl none (ys.map fun y=>[y])]
theorem Aa {s:UInt8} {ys:List D} (h:ys.length≠1):jB s ys = .ip [dS [s],dS [],.sl none (ys.map fun y=>[y])]:=by
 match ys,h with
 | [],_=>rfl
 | [_],h=>exact absurd rfl h
 | _ :: _ :: _,_=>rfl
theorem Ku {s:UInt8} {ys:List D} (h:∀ y∈ys,y.one=true):(jB s ys).one=true:=by
 match ys,h with
 | [],_=>rfl
 | [y],h=>exact h y (by simp)
 | _ :: _ :: _,_=>rfl
theorem VS (G:ao) (t:List UInt8) (ht:t.length<=2000) (g:FuncId) (s:UInt8) (sn:Int) (hsn:(s.toNat:Int)=sn) (eJ:s≠0) (Cn:Utf8.encode sn=bs [s]) (a:Int) (d:Nat) (f:Nat->Rs Ex) (hf:il t f) (col:List Ex->Ex) (rB:∀ l,dR (col l)=jB s (l.map dR))
  (dG:Reads G t [500] [] g [.ref 500 0 0,.d (ab a)] d f):Reads G t [500] [] 190 [.ref 500 0 0,.d (.v (.int .u8 sn)),.d (ab a),.bm g (.ref 500 0 0)] d (fun i=>(ig t s f i []).map col):=by
 obtain⟨yF,kF,dG⟩:=dG;refine zY fun i hi=>?_;generalize hR:ig t s f i []=R;generalize hZ:sM t s f i []=Z;refine⟨jB s (Z.1.map dR ++ [yF Z.2]),kF Z.2,?_⟩
 have rH:∀ (k:Nat) (ys:List D) (e p:Int),((e=0/\p = -1/\∃ acc,ys=acc.map dR/\R = .ok acc k)\/(∃ c p' q,R = .err c p' q/\e=c/\p=p'/\ys=Z.1.map dR ++ [yF Z.2]/\k=kF Z.2))->
   gC (R.map col) (jB s (Z.1.map dR ++ [yF Z.2]))=jB s ys/\gg (R.map col) (kF Z.2)=k/\eR (R.map col)=e/\pR (R.map col)=p:=by
  rintro k ys e p (⟨rfl,rfl,acc,rfl,rfl⟩ | ⟨c,p',q,rfl,rfl,rfl,rfl,rfl⟩)
  .exact⟨by simp[Rs.map,gC,rB],rfl,rfl,rfl⟩
  .exact⟨rfl,rfl,rfl,rfl⟩
 have acw:∀ (n i:Nat) (acc:List Ex),i<=t.length->t.length+1 - i<=n->∀ c p q,abO t s f n i acc = .err c p q->0 < c/\(yF (kV t s f n i acc).2).one=true/\kF (kV t s f n i acc).2<=t.length+d:=by
  intro n
  induction n with
  | zero=>intro i acc hi hn;omega
  | succ n ih=>
   intro i acc hi hn c p q h;rw[abO]at h;rw[kV]
   cases bz:f i with
   | err c' p' q'=>
    rw[bz]at h;simp only[Rs.err.injEq]at h;obtain⟨rfl,-,-⟩:=h;exact (dG i hi).2 _ _ _ bz
   | ok x j=>
    rw[bz]at h;obtain⟨g1,g2⟩:=hf i x j hi bz;obtain⟨t1,t2,t3⟩:=acY (c:=s) g2;dsimp only at h ⊢;split at h
    .rename_i cy;rw[if_pos cy];exact ih _ _ t2 (by omega) c p q h
    .cases h
 refine⟨?_,fun c p q h=>?_⟩
 rotate_left
 .cases R with
  | ok l j=>cases h
  | err c' p' q'=>
   simp only[Rs.map,Rs.err.injEq]at h;obtain⟨rfl,rfl,rfl⟩:=h;obtain⟨h1,h2,h3⟩:=acw _ i [] hi (Nat.le_refl _) _ _ _ hR
   have hZ2:(kV t s f (t.length+1 - i) i []).2=Z.2:=by rw[<- hZ];rfl
   rw[hZ2]at h2 h3;refine⟨h1,Ku fun y hy=>?_,h3⟩
   rcases List.mem_append.1 hy with hy | hy
   .obtain⟨x,_,rfl⟩:=List.mem_map.1 hy;exact ra x
   .simp at hy;subst hy;exact h2
 generalize RO:jB s (Z.1.map dR ++ [yF Z.2])=yE at rH ⊢;generalize R.map col=RR at rH ⊢;refine MC.aC (aay _) func190 rfl rfl (rs:=[.tmp 8]) results190 (by simp[ntmps190]) rfl fun X=>?_;simp only[ntmps190];have fw:=(Aq @ab.eq_1 (Aq @aaI.eq_1 @dS.eq_1));refine rgq fw [0,1,2,3] [500] ?_;have Cw:=(dG i hi).1
 have acn:(gC (f i) (yF i)).one=true:=by
  cases bz:f i with
  | ok x j=>exact ra x
  | err c p q=>exact ((dG i hi).2 _ _ _ bz).2.1
 have tH:=cells_one acn;have qf:=(Aq fw @tH);refine ab6 Cw [0,1,2,3,9] [500,13] ?_;refine ae fun K1 au=>?_
 refine bZ (S:=Nat×List D×Int×Int) (fun z=>(z.2.2.1=0/\z.2.2.2 = -1/\z.1<=t.length/\∃ acc,z.2.1=acc.map dR/\0 < acc.length/\acc.length<=z.1/\(if (cU t s z.1).1 then ig t s f (cU t s z.1).2 acc else .ok acc (cU t s z.1).2)=R/\((cU t s z.1).1=true->sM t s f (cU t s z.1).2 acc=Z))\/(0 < z.2.2.1/\z.2.1.length<=2001/\∃ c p q,R = .err c p q/\z.2.2.1=c/\z.2.2.2=p/\z.2.1=Z.1.map dR ++ [yF Z.2]/\z.1=kF Z.2))
  (fun z=>⟨lst [(0,.ref 500 0 0),(1,.d (.v (.int .u8 sn))),(2,.d (ab a)),(3,.bm g (.ref 500 0 0)),(9,.own 13 0 z.2.1.length)],ak [(500,.box 247 [.d (dS t),int z.1,int z.2.2.1,int z.2.2.2]),(13,.sl 91 1 (z.2.1.map fun y=>[y]))]⟩) (fun z=>if z.2.2.1=0 then t.length+1 - z.1 else 0) (gg (f i) (kF i),[gC (f i) (yF i)],eR (f i),pR (f i)) ?_ ?_ ?_
 .refine aX fw
 .cases bz:f i with
  | ok x j=>
   obtain⟨g1,g2⟩:=hf i x j hi bz;rw[pz hf hi,bz]at hR;rw[qN hf hi,bz]at hZ;exact .inl ⟨rfl,rfl,g2,[x],rfl,by simp,by simp[gg];omega,hR,fun h=>by dsimp only[gg]at h ⊢;simpa only[h,if_true,List.nil_append]using hZ⟩
  | err c p q=>
   rw[pz hf hi,bz]at hR;rw[qN hf hi,bz]at hZ;obtain⟨h1,h2,h3⟩:=(dG i hi).2 _ _ _ bz;exact .inr ⟨h1,by simp,c,p,0,hR.symm,rfl,rfl,by rw[<- hZ];rfl,by rw[<- hZ];rfl⟩
 .rintro⟨k,ys,e,p⟩ hI;dsimp only at hI ⊢;refine ae fun K2 aa=>?_
  refine (fun rC=>?_) (fun (σ:St) (k:Nat) (ys:List D) (e p:Int) (hl:ys.length<=2001) (Cf:(e=0/\p = -1/\∃ acc,ys=acc.map dR/\R = .ok acc k)\/(∃ c p' q,R = .err c p' q/\e=c/\p=p'/\ys=Z.1.map dR ++ [yF Z.2]/\k=kF Z.2)) himp=>
   au σ (AW.imp (τ:=⟨lst [(0,.ref 500 0 0),(1,.d (.v (.int .u8 sn))),(9,.own 13 0 ys.length)],ak [(500,.box 247 [.d (dS t),int k,int e,int p]),(13,.sl 91 1 (ys.map fun y=>[y]))]⟩) himp ?_))
  .rcases hI with⟨rfl,rfl,hk,acc,rfl,B4,PF,fb,iN⟩ | ⟨he,hlen,c,p',q,rv,rfl,rfl,rfl,rfl⟩
   .have eI:=xh G t k (by omega) hk 0 (-1);have cy:=zJ (t:=t) (i:=k) eJ;rw[hsn]at cy;have fY:=EW (t:=t) (c:=s) (i:=k);obtain⟨t1,t2,t3⟩:=acY (t:=t) (c:=s) hk;have abN:=acL hk;by_cases hb:((lq t k).toNat:Int)=sn
    .rw[decide_eq_true hb]at cy;rw[cy]at fb iN fY t3;simp only[if_true]at fb fY;have iN:=iN rfl;have t3:=t3 rfl;rw[fY]at fb iN t2 t3;have qf:=(Aq fw @hb);refine ab6 eI [0,1,2,3,9,25] [500,13] ?_;refine aax rfl ?_;refine ah (aa _ ?_);refine aU ?_;refine rgq fw [0,1,2,3,9] [500,13] ?_;have nN:=(dG _ t2).1;rw[Int.natCast_add]at nN
     have ng:(gC (f (aaD t k+1)) (yF (aaD t k+1))).one=true:=by
      cases bz:f (aaD t k+1) with
      | ok x j=>exact ra x
      | err c p q=>exact ((dG _ t2).2 _ _ _ bz).2.1
     have oX:=cells_one ng;refine abl (aay _) fun K' af=>?_;(repeat (refine sxn fun K2 aa=>?_;simp[ab,aaI,dS,oX,ng,List.take_of_length_le];(repeat (refine⟨by omega,?_⟩));refine aa _ ?_;clear aa K2));refine sxn fun K2 aa=>?_;simp[ab,aaI,dS,oX,ng,List.take_of_length_le];refine aaT.mc (nN) ?_ ?_ ?_ ?_ ?_<;>simp[ab,aaI,dS,oX,ng,List.take_of_length_le];refine aa _ ?_;clear aa K2;(repeat (refine sxn fun K2 aa=>?_;simp[ab,aaI,dS,oX,ng,List.take_of_length_le];(repeat (refine⟨by omega,?_⟩));refine aa _ ?_;clear aa K2));refine sxz (af _ ?_);clear af K';(try simp only[aM,aP]);refine aV.mk (gg (f (aaD t k+1)) (kF (aaD t k+1)),acc.map dR ++ [gC (f (aaD t k+1)) (yF (aaD t k+1))],eR (f (aaD t k+1)),pR (f (aaD t k+1))) ?_ ?_ ?_
     .cases bz:f (aaD t k+1) with
      | ok x j=>
       obtain⟨g1,g2⟩:=hf _ x j t2 bz;rw[pz hf t2,bz]at fb;rw[qN hf t2,bz]at iN;exact .inl ⟨rfl,rfl,g2,acc ++ [x],by simp[gC],by simp,by simp[gg];omega,fb,fun h=>by dsimp only[gg]at h ⊢;simpa only[h,if_true]using iN⟩
      | err c p q=>
       rw[pz hf t2,bz]at fb;rw[qN hf t2,bz]at iN;obtain⟨h1,h2,h3⟩:=(dG _ t2).2 _ _ _ bz;exact .inr ⟨h1,by simp;omega,c,p,0,fb.symm,rfl,rfl,by rw[<- iN];rfl,by rw[<- iN];rfl⟩
     .cases bz:f (aaD t k+1) with
      | ok x j=>
       obtain⟨g1,g2⟩:=hf _ x j t2 bz;simp only[eR,gg,if_true];omega
      | err c p q=>
       obtain⟨h1,h2,h3⟩:=(dG _ t2).2 _ _ _ bz
       have hU:¬ c=0:=by omega
       simp[eR,hU];omega
     .refine aX fw
    .rw[decide_eq_false hb]at cy;rw[cy]at fb fY;simp only[Bool.false_eq_true,if_false]at fb fY;have qf:=(Aq fw @hb);refine ab6 eI [0,1,2,3,9,25] [500,13] ?_;refine ag rfl ?_;refine bG (rC _ (aaD t k) (acc.map dR) 0 (-1) (by simp;omega) (.inl ⟨rfl,rfl,acc,rfl,by rw[<- fb,fY]⟩) ?_);refine aX fw
   .have he2:¬ e=0:=by omega
    have qf:=(Aq fw @he2);refine al [0,1,2,3,9,25] [500,13] ?_;refine ag rfl ?_;refine bG (rC _ (kF Z.2) _ e p' hlen (.inr ⟨e,p',q,rv,rfl,rfl,rfl,rfl⟩) ?_);refine aX fw
  .obtain⟨h1,h2,h3,h4⟩:=rH k ys e p Cf;rw[h1,h2,h3,h4];refine ae fun K3 aH=>?_;by_cases fo:ys.length=1
   .obtain⟨y,rfl⟩:=List.length_eq_one_iff.1 fo;refine rgq fw [1,9,41] [500,13] ?_;refine aax rfl ?_;refine rgq fw [8] [500] ?_;exact aG (Aq fw (Aq @jB.eq_1 @jB.eq_2))
   .have fq:¬ (ys.length:Int)=1:=by omega
    have qf:=(Aq fw (Aq @fo @fq));refine al [1,9,41] [500,13] ?_;refine ag rfl ?_;refine ah (aH _ ?_);refine AW.imp (aB.freeze 13 (by decide)) ?_;refine AW.st (by simp[ab,aaI,dS,List.take_of_length_le];rfl) ?_;have qf:=(Aq fw @Cn);refine al [8] [500,49] ?_;refine aa1 fw 49 ?_;refine bn ?_;simp[D.le,D.le.go,aaA,ab,aaI,dS,Aa fo,dS,br,D.le_refl,D.aaE]
theorem VT (G:ao) (t:List UInt8) (ht:t.length<=2000) (g:FuncId) (s:UInt8) (sn:Int) (hsn:(s.toNat:Int)=sn) (eJ:s≠0) (Cn:Utf8.encode sn=bs [s]) (a:Int) (d:Nat) (f:Nat->Rs Ex) (hf:il t f) (col:List Ex->Ex) (rB:∀ l,dR (col l)=jB s (l.map dR))
  (dG:Reads G t [500,501] [(501,.box 245 [.ref 500 0 0])] g [.d (ab a),.ref 501 0 0] d f):Reads G t [500,501] [(501,.box 245 [.ref 500 0 0])] 190 [.ref 500 0 0,.d (.v (.int .u8 sn)),.d (ab a),.fn (.func g) [.ref 501 0 0]] d (fun i=>(ig t s f i []).map col):=by
 obtain⟨yF,kF,dG⟩:=dG;refine zY fun i hi=>?_;generalize hR:ig t s f i []=R;generalize hZ:sM t s f i []=Z;refine⟨jB s (Z.1.map dR ++ [yF Z.2]),kF Z.2,?_⟩
 have rH:∀ (k:Nat) (ys:List D) (e p:Int),((e=0/\p = -1/\∃ acc,ys=acc.map dR/\R = .ok acc k)\/(∃ c p' q,R = .err c p' q/\e=c/\p=p'/\ys=Z.1.map dR ++ [yF Z.2]/\k=kF Z.2))->
   gC (R.map col) (jB s (Z.1.map dR ++ [yF Z.2]))=jB s ys/\gg (R.map col) (kF Z.2)=k/\eR (R.map col)=e/\pR (R.map col)=p:=by
  rintro k ys e p (⟨rfl,rfl,acc,rfl,rfl⟩ | ⟨c,p',q,rfl,rfl,rfl,rfl,rfl⟩)
  .exact⟨by simp[Rs.map,gC,rB],rfl,rfl,rfl⟩
  .exact⟨rfl,rfl,rfl,rfl⟩
 have acw:∀ (n i:Nat) (acc:List Ex),i<=t.length->t.length+1 - i<=n->∀ c p q,abO t s f n i acc = .err c p q->0 < c/\(yF (kV t s f n i acc).2).one=true/\kF (kV t s f n i acc).2<=t.length+d:=by
  intro n
  induction n with
  | zero=>intro i acc hi hn;omega
  | succ n ih=>
   intro i acc hi hn c p q h;rw[abO]at h;rw[kV]
   cases bz:f i with
   | err c' p' q'=>
    rw[bz]at h;simp only[Rs.err.injEq]at h;obtain⟨rfl,-,-⟩:=h;exact (dG i hi).2 _ _ _ bz
   | ok x j=>
    rw[bz]at h;obtain⟨g1,g2⟩:=hf i x j hi bz;obtain⟨t1,t2,t3⟩:=acY (c:=s) g2;dsimp only at h ⊢;split at h
    .rename_i cy;rw[if_pos cy];exact ih _ _ t2 (by omega) c p q h
    .cases h
 refine⟨?_,fun c p q h=>?_⟩
 rotate_left
 .cases R with
  | ok l j=>cases h
  | err c' p' q'=>
   simp only[Rs.map,Rs.err.injEq]at h;obtain⟨rfl,rfl,rfl⟩:=h;obtain⟨h1,h2,h3⟩:=acw _ i [] hi (Nat.le_refl _) _ _ _ hR
   have hZ2:(kV t s f (t.length+1 - i) i []).2=Z.2:=by rw[<- hZ];rfl
   rw[hZ2]at h2 h3;refine⟨h1,Ku fun y hy=>?_,h3⟩
   rcases List.mem_append.1 hy with hy | hy
   .obtain⟨x,_,rfl⟩:=List.mem_map.1 hy;exact ra x
   .simp at hy;subst hy;exact h2
 generalize RO:jB s (Z.1.map dR ++ [yF Z.2])=yE at rH ⊢;generalize R.map col=RR at rH ⊢;refine MC.aC (aay _) func190 rfl rfl (rs:=[.tmp 8]) results190 (by simp[ntmps190]) rfl fun X=>?_;simp only[ntmps190];have fw:=(Aq @ab.eq_1 (Aq @aaI.eq_1 @dS.eq_1));refine rgq fw [0,1,2,3] [500,501] ?_;have Cw:=(dG i hi).1
 have acn:(gC (f i) (yF i)).one=true:=by
  cases bz:f i with
  | ok x j=>exact ra x
  | err c p q=>exact ((dG i hi).2 _ _ _ bz).2.1
 have tH:=cells_one acn;have qf:=(Aq fw @tH);refine ab6 Cw [0,1,2,3,9] [500,501,13] ?_;refine ae fun K1 au=>?_
 refine bZ (S:=Nat×List D×Int×Int) (fun z=>(z.2.2.1=0/\z.2.2.2 = -1/\z.1<=t.length/\∃ acc,z.2.1=acc.map dR/\0 < acc.length/\acc.length<=z.1/\(if (cU t s z.1).1 then ig t s f (cU t s z.1).2 acc else .ok acc (cU t s z.1).2)=R/\((cU t s z.1).1=true->sM t s f (cU t s z.1).2 acc=Z))\/(0 < z.2.2.1/\z.2.1.length<=2001/\∃ c p q,R = .err c p q/\z.2.2.1=c/\z.2.2.2=p/\z.2.1=Z.1.map dR ++ [yF Z.2]/\z.1=kF Z.2))
  (fun z=>⟨lst [(0,.ref 500 0 0),(1,.d (.v (.int .u8 sn))),(2,.d (ab a)),(3,.fn (.func g) [.ref 501 0 0]),(9,.own 13 0 z.2.1.length)],ak [(500,.box 247 [.d (dS t),int z.1,int z.2.2.1,int z.2.2.2]),(501,.box 245 [.ref 500 0 0]),(13,.sl 91 1 (z.2.1.map fun y=>[y]))]⟩) (fun z=>if z.2.2.1=0 then t.length+1 - z.1 else 0) (gg (f i) (kF i),[gC (f i) (yF i)],eR (f i),pR (f i)) ?_ ?_ ?_
 .refine aX fw
 .cases bz:f i with
  | ok x j=>
   obtain⟨g1,g2⟩:=hf i x j hi bz;rw[pz hf hi,bz]at hR;rw[qN hf hi,bz]at hZ;exact .inl ⟨rfl,rfl,g2,[x],rfl,by simp,by simp[gg];omega,hR,fun h=>by dsimp only[gg]at h ⊢;simpa only[h,if_true,List.nil_append]using hZ⟩
  | err c p q=>
   rw[pz hf hi,bz]at hR;rw[qN hf hi,bz]at hZ;obtain⟨h1,h2,h3⟩:=(dG i hi).2 _ _ _ bz;exact .inr ⟨h1,by simp,c,p,0,hR.symm,rfl,rfl,by rw[<- hZ];rfl,by rw[<- hZ];rfl⟩
 .rintro⟨k,ys,e,p⟩ hI;dsimp only at hI ⊢;refine ae fun K2 aa=>?_
  refine (fun rC=>?_) (fun (σ:St) (k:Nat) (ys:List D) (e p:Int) (hl:ys.length<=2001) (Cf:(e=0/\p = -1/\∃ acc,ys=acc.map dR/\R = .ok acc k)\/(∃ c p' q,R = .err c p' q/\e=c/\p=p'/\ys=Z.1.map dR ++ [yF Z.2]/\k=kF Z.2)) himp=>
   au σ (AW.imp (τ:=⟨lst [(0,.ref 500 0 0),(1,.d (.v (.int .u8 sn))),(9,.own 13 0 ys.length)],ak [(500,.box 247 [.d (dS t),int k,int e,int p]),(501,.box 245 [.ref 500 0 0]),(13,.sl 91 1 (ys.map fun y=>[y]))]⟩) himp ?_))
  .rcases hI with⟨rfl,rfl,hk,acc,rfl,B4,PF,fb,iN⟩ | ⟨he,hlen,c,p',q,rv,rfl,rfl,rfl,rfl⟩
   .have eI:=xh G t k (by omega) hk 0 (-1);have cy:=zJ (t:=t) (i:=k) eJ;rw[hsn]at cy;have fY:=EW (t:=t) (c:=s) (i:=k);obtain⟨t1,t2,t3⟩:=acY (t:=t) (c:=s) hk;have abN:=acL hk;by_cases hb:((lq t k).toNat:Int)=sn
    .rw[decide_eq_true hb]at cy;rw[cy]at fb iN fY t3;simp only[if_true]at fb fY;have iN:=iN rfl;have t3:=t3 rfl;rw[fY]at fb iN t2 t3;have qf:=(Aq fw @hb);refine ab6 eI [0,1,2,3,9,25] [500,501,13] ?_;refine aax rfl ?_;refine ah (aa _ ?_);refine aU ?_;refine rgq fw [0,1,2,3,9] [500,501,13] ?_;have nN:=(dG _ t2).1;rw[Int.natCast_add]at nN
     have ng:(gC (f (aaD t k+1)) (yF (aaD t k+1))).one=true:=by
      cases bz:f (aaD t k+1) with
      | ok x j=>exact ra x
      | err c p q=>exact ((dG _ t2).2 _ _ _ bz).2.1
     have oX:=cells_one ng;refine abl (aay _) fun K' af=>?_;(repeat (refine sxn fun K2 aa=>?_;simp[ab,aaI,dS,oX,ng,List.take_of_length_le];(repeat (refine⟨by omega,?_⟩));refine aa _ ?_;clear aa K2));refine sxn fun K2 aa=>?_;simp[ab,aaI,dS,oX,ng,List.take_of_length_le];refine aaT.mc (nN) ?_ ?_ ?_ ?_ ?_<;>simp[ab,aaI,dS,oX,ng,List.take_of_length_le];refine aa _ ?_;clear aa K2;(repeat (refine sxn fun K2 aa=>?_;simp[ab,aaI,dS,oX,ng,List.take_of_length_le];(repeat (refine⟨by omega,?_⟩));refine aa _ ?_;clear aa K2));refine sxz (af _ ?_);clear af K';(try simp only[aM,aP]);refine aV.mk (gg (f (aaD t k+1)) (kF (aaD t k+1)),acc.map dR ++ [gC (f (aaD t k+1)) (yF (aaD t k+1))],eR (f (aaD t k+1)),pR (f (aaD t k+1))) ?_ ?_ ?_
     .cases bz:f (aaD t k+1) with
      | ok x j=>
       obtain⟨g1,g2⟩:=hf _ x j t2 bz;rw[pz hf t2,bz]at fb;rw[qN hf t2,bz]at iN;exact .inl ⟨rfl,rfl,g2,acc ++ [x],by simp[gC],by simp,by simp[gg];omega,fb,fun h=>by dsimp only[gg]at h ⊢;simpa only[h,if_true]using iN⟩
      | err c p q=>
       rw[pz hf t2,bz]at fb;rw[qN hf t2,bz]at iN;obtain⟨h1,h2,h3⟩:=(dG _ t2).2 _ _ _ bz;exact .inr ⟨h1,by simp;omega,c,p,0,fb.symm,rfl,rfl,by rw[<- iN];rfl,by rw[<- iN];rfl⟩
     .cases bz:f (aaD t k+1) with
      | ok x j=>
       obtain⟨g1,g2⟩:=hf _ x j t2 bz;simp only[eR,gg,if_true];omega
      | err c p q=>
       obtain⟨h1,h2,h3⟩:=(dG _ t2).2 _ _ _ bz
       have hU:¬ c=0:=by omega
       simp[eR,hU];omega
     .refine aX fw
    .rw[decide_eq_false hb]at cy;rw[cy]at fb fY;simp only[Bool.false_eq_true,if_false]at fb fY;have qf:=(Aq fw @hb);refine ab6 eI [0,1,2,3,9,25] [500,501,13] ?_;refine ag rfl ?_;refine bG (rC _ (aaD t k) (acc.map dR) 0 (-1) (by simp;omega) (.inl ⟨rfl,rfl,acc,rfl,by rw[<- fb,fY]⟩) ?_);refine aX fw
   .have he2:¬ e=0:=by omega
    have qf:=(Aq fw @he2);refine al [0,1,2,3,9,25] [500,501,13] ?_;refine ag rfl ?_;refine bG (rC _ (kF Z.2) _ e p' hlen (.inr ⟨e,p',q,rv,rfl,rfl,rfl,rfl⟩) ?_);refine aX fw
  .obtain⟨h1,h2,h3,h4⟩:=rH k ys e p Cf;rw[h1,h2,h3,h4];refine ae fun K3 aH=>?_;by_cases fo:ys.length=1
   .obtain⟨y,rfl⟩:=List.length_eq_one_iff.1 fo;refine rgq fw [1,9,41] [500,501,13] ?_;refine aax rfl ?_;refine rgq fw [8] [500,501] ?_;exact aG (Aq fw (Aq @jB.eq_1 @jB.eq_2))
   .have fq:¬ (ys.length:Int)=1:=by omega
    have qf:=(Aq fw (Aq @fo @fq));refine al [1,9,41] [500,501,13] ?_;refine ag rfl ?_;refine ah (aH _ ?_);refine AW.imp (aB.freeze 13 (by decide)) ?_;refine AW.st (by simp[ab,aaI,dS,List.take_of_length_le];rfl) ?_;have qf:=(Aq fw @Cn);refine al [8] [500,501,49] ?_;refine aa1 fw 49 ?_;refine bn ?_;simp[D.le,D.le.go,aaA,ab,aaI,dS,Aa fo,dS,br,D.le_refl,D.aaE]
theorem Wm {r r' s:Nat} (h:r≠r') (hs:s≠r') (hr:s≠r) (row sJ:Row):mB r r' (ak [(r,row),(s,sJ)])=ak [(r',row.tr (abI r r') (abH r r')),(s,sJ.tr (abI r r') (abH r r'))]:=by
 funext q;unfold mB;by_cases h1:q=r'
 .subst h1;simp[ak,List.lookup]
 .rw[if_neg h1];by_cases h2:q=r
  .subst h2;simp[ak,List.lookup,beq_eq_false_iff_ne.2 h1,beq_eq_false_iff_ne.2 (Ne.symm hr)]
  .by_cases h3:q=s
   .subst h3;simp[ak,List.lookup,h2,beq_eq_false_iff_ne.2 h1,beq_eq_false_iff_ne.2 h2]
   .simp[ak,List.lookup,h2,beq_eq_false_iff_ne.2 h1,beq_eq_false_iff_ne.2 h2,beq_eq_false_iff_ne.2 h3]
theorem Nn (l:List Ex):dR (adT l)=jB 38 (l.map dR):=by
 match l with
 | []=>rfl
 | [x]=>rfl
 | x :: y :: l=>rw[Aa (by simp)];simp[adT,dR,aez]
theorem Nq (l:List Ex):dR (oA l)=jB 124 (l.map dR):=by
 match l with
 | []=>rfl
 | [x]=>rfl
 | x :: y :: l=>rw[Aa (by simp)];simp[oA,dR,aez]
theorem Si:(⟨#[33]⟩:ByteArray)=bs [33]:=rfl
theorem SO:(⟨#[98,105,116]⟩:ByteArray)=bs [98,105,116]:=rfl
theorem agd:Utf8.encode 38=bs [38]:=by decide +kernel
theorem N0:Utf8.encode 124=bs [124]:=by decide +kernel
theorem N3:Utf8.encode 48=bs [48]:=by decide +kernel
theorem N4:Utf8.encode 49=bs [49]:=by decide +kernel
theorem N5:Utf8.encode 94=bs [94]:=by decide +kernel
theorem agc:Utf8.encode 126=bs [126]:=by decide +kernel
theorem VZ (G:ao) (t:List UInt8) (ht:t.length<=2000) (a:Int) (d:Nat) (h:Reads G t [500] [] 192 [.ref 500 0 0,.d (ab a)] d (bT t d)) :
  Reads G t [500,501] [(501,.box 245 [.ref 500 0 0])] 191 [.d (ab a),.ref 501 0 0] d (jE t (bT t d)):=by
 obtain⟨yF,kF,hr⟩:=VS G t ht 192 38 38 rfl (by decide) agd a d (bT t d) (acX t d) adT Nn h;refine⟨yF,kF,fun i hi=>⟨?_,(hr i hi).2⟩⟩;have hc:=(hr i hi).1;have hR:jE t (bT t d) i=(ig t 38 (bT t d) i []).map adT:=rfl;dsimp only at hc;rw[<- hR]at hc;generalize jE t (bT t d) i=R at hc ⊢;refine MC.aC (aay _) func191 rfl rfl (rs:=[.tmp 3]) results191 (by simp[ntmps191]) rfl fun X=>?_;simp only[ntmps191];have fw:=(Aq @ab.eq_1 (Aq @aaI.eq_1 @dS.eq_1));refine rgq fw [0,1] [500,501] ?_;refine rgm fw hc [3] [500,501] ?_;exact aG (Aq fw (Aq @aaI.eq_1 @dS.eq_1))
theorem J5 (G:ao) (t:List UInt8) (ht:t.length<=2000) (a:Int) (d:Nat) (h:Reads G t [500] [] 192 [.ref 500 0 0,.d (ab a)] d (bT t d)) :
  Reads G t [500] [] 144 [.ref 500 0 0,.d (ab a)] d (ic t (bT t d)):=by
 obtain⟨yF,kF,hr⟩:=VT G t ht 191 124 124 rfl (by decide) N0 a d (jE t (bT t d)) (vg (acX t d)) oA Nq (VZ G t ht a d h);refine⟨yF,kF,fun i hi=>⟨?_,(hr i hi).2⟩⟩;have hc:=(hr i hi).1;have hR:ic t (bT t d) i=(ig t 124 (jE t (bT t d)) i []).map oA:=rfl;dsimp only at hc;rw[<- hR]at hc;generalize ic t (bT t d) i=R at hc ⊢;refine MC.aC (aay _) func144 rfl rfl (rs:=[.tmp 4]) results144 (by simp[ntmps144]) rfl fun X=>?_;simp only[ntmps144];have fw:=(Aq @ab.eq_1 (Aq @aaI.eq_1 @dS.eq_1));refine rgq fw [1,2] [2,500] ?_;refine AW.imp (aB.ren (r:=2) (r':=501) (by decide) (by simp)) ?_;refine AW.st (by simp[abI,abH,Go.Av.ren,Wm];rfl) ?_;refine rgm fw hc [4] [500,501] ?_;exact aG (Aq fw (Aq @aaI.eq_1 @dS.eq_1))
theorem Vh {t:List UInt8} {i:Nat} {c:UInt8} (h:t[aaD t i]? = some c):lq t i=c:=by
 unfold lq;rw[List.getD_eq_getElem?_getD,h];rfl
theorem Vg {t:List UInt8} {i:Nat} {c:UInt8} (hc:c≠0) (h:t[aaD t i]?≠some c):¬ ((lq t i).toNat:Int)=(c.toNat:Int):=by
 have h1:=zJ (t:=t) (i:=i) hc
 have h2:(cU t c i).1=false:=by
  unfold cU;rw[if_neg h]
 rw[h2]at h1;exact of_decide_eq_false h1.symm
def uB:Rs Ex->Rs Ex
 | .ok x k=>.ok (.not x) k
 | .err c p _=>.err c p 0
theorem E7 {t:List UInt8} {q i j:Nat} {s:List UInt8} (h:abq t q i = .ok s j):fR t (aaD t i)=s:=by
 unfold abq at h;split at h
 .cases h
 .split at h
  .cases h
  .simp only[Rs.ok.injEq]at h;exact h.1
theorem E8 {t:List UInt8} {q i p q':Nat} {c:Int} (hi:i<=t.length) (h:abq t q i = .err c p q'):0 < c/\p<=t.length:=by
 have abN:=acL hi;unfold abq at h;split at h
 .simp only[Rs.err.injEq]at h;omega
 .split at h
  .simp only[Rs.err.injEq]at h;omega
  .cases h
theorem VE (G:ao) (t:List UInt8) (ht:t.length<=2000):∀ (d:Nat) (a:Int),d<=20->a+d=20->Reads G t [500] [] 192 [.ref 500 0 0,.d (ab a)] d (bT t d):=by
 intro d
 induction d with
 | zero=>
  intro a _ ha;refine zY fun i hi=>⟨.v (.pointer none),aaD t i,?_,fun c p q h=>?_⟩
  .have dO:=xf G t i (by omega) hi 4
   have ha2:20<=a:=by omega
   rw[bT];show MC _ _ _ _ _ _ (.d (.v (.pointer none))) (ak (aaI t (aaD t i) 4 (aaD t i) ++ []));refine MC.aC (aay _) func192 rfl rfl (rs:=[.tmp 4]) results192 (by simp[ntmps192]) rfl fun X=>?_;simp only[ntmps192];have fw:=(Aq @ab.eq_1 (Aq @aaI.eq_1 @dS.eq_1));refine rgq fw [0,1] [500] ?_;refine ae fun K1 au=>?_;refine rgq fw [0,1,12] [500] ?_;refine ag rfl ?_;refine ah (au _ ?_);refine ae fun K2 aa=>?_;have qf:=(Aq fw @ha2);refine al [0,1,14] [500] ?_;refine aax rfl ?_;refine rgm fw dO [4] [500] ?_;exact aG (Aq fw (Aq @aaI.eq_1 @dS.eq_1))
  .rw[bT]at h;simp only[Rs.err.injEq]at h;have:=acL hi;exact⟨by omega,rfl,by omega⟩
 | succ d ih=>
  intro a hd ha;have wP:=ih (a+1) (by omega) (by omega);have si:=J5 G t ht (a+1) d wP;obtain⟨yF,kF,wP⟩:=wP;obtain⟨yO,kO,si⟩:=si;refine zY fun i hi=>?_;have eI:=xh G t i (by omega) hi 0 (-1);have abN:=acL hi
  have ha2:¬ 20<=a:=by omega
  have Y7:0<=a:=by omega
  have qD:=fun (c:UInt8) (h:t[aaD t i]? = some c)=>Vh h;have qB:=fun (c:UInt8) (hc:c≠0) (h:t[aaD t i]?≠some c)=>Vg hc h;have ay:∀ {c:UInt8},t[aaD t i]? = some c->aaD t i+1<=t.length:=fun h=>(List.getElem?_eq_some_iff.1 h).1;rw[bT];generalize lq t i=b at eI qD qB;generalize aaD t i=j at eI abN qD qB ay ⊢;by_cases nB:t[j]? = some 33
  .rw[if_pos nB];obtain rfl:=qD 33 nB;have hc:=(wP (j+1) (ay nB)).1;rw[Int.natCast_add]at hc;have he:=(wP (j+1) (ay nB)).2
   have acn:(gC (bT t d (j+1)) (yF (j+1))).one=true:=by
    cases bz:bT t d (j+1) with
    | ok x k=>exact ra x
    | err c p q=>exact (he _ _ _ bz).2.1
   have tH:=cells_one acn
   change ∃ y k,xN G t [500] [] 192 [.ref 500 0 0,.d (ab a)] (d+1) (uB (bT t d (j+1))) i y k
   generalize oO:bT t d (j+1)=R at hc he acn tH ⊢;refine⟨.ip [dS [33],dS [],.sl none [[yF (j+1)]]],kF (j+1),?_,fun c p q h=>?_⟩
   .have h1:gC (uB R) (.ip [dS [33],dS [],.sl none [[yF (j+1)]]]) = .ip [dS [33],dS [],.sl none [[gC R (yF (j+1))]]]:=by cases R<;>rfl
    have h2:gg (uB R) (kF (j+1))=gg R (kF (j+1)):=by cases R<;>rfl
    have h3:eR (uB R)=eR R:=by cases R<;>rfl
    have h4:pR (uB R)=pR R:=by cases R<;>rfl
    rw[h1,h2,h3,h4];refine MC.aC (aay _) func192 rfl rfl (rs:=[.tmp 4]) results192 (by simp[ntmps192]) rfl fun X=>?_;simp only[ntmps192];have fw:=(Aq @ab.eq_1 (Aq @aaI.eq_1 @dS.eq_1));refine rgq fw [0,1] [500] ?_;refine ae fun K1 au=>?_;refine rgq fw [0,1,12] [500] ?_;refine ag rfl ?_;refine ah (au _ ?_);refine ae fun K2 aa=>?_;have qf:=(Aq fw @ha2);refine al [0,1,14] [500] ?_;refine ag rfl ?_;refine ah (aa _ ?_);refine ae fun K3 aH=>?_;refine rgm fw eI [0,1,5] [500] ?_;refine rgq fw [0,1,5,19] [500] ?_;refine aU ?_;refine rgq fw [0,1,5,19,20] [500] ?_;refine aax rfl ?_;refine rgq fw [0,1] [500] ?_;have qf:=(Aq fw (Aq @tH (Aq @acn @Si)));refine ab6 hc [4] [33,35,500] ?_;refine AW.imp (aB.freeze 33 (by decide)) ?_;refine AW.st (by simp[ab,aaI,dS];rfl) ?_;refine aa1 fw 35 ?_;refine bn ?_;simp[D.le,D.le.go,aaA,ab,aaI,dS,aaI,dS,br,D.le_refl,D.aaE]
   .cases R with
    | ok x k=>cases h
    | err c' p' q'=>
     simp only[uB,Rs.err.injEq]at h;obtain⟨rfl,rfl,rfl⟩:=h;obtain⟨g1,g2,g3⟩:=he _ _ _ rfl;exact⟨g1,rfl,by omega⟩
  rw[if_neg nB];have n33:¬ (b.toNat:Int)=33:=qB 33 (by decide) nB;by_cases c40:t[j]? = some 40
  .rw[if_pos c40];obtain rfl:=qD 40 c40;have hc:=(si (j+1) (ay c40)).1;rw[Int.natCast_add]at hc;have he:=(si (j+1) (ay c40)).2
   cases hr:ic t (bT t d) (j+1) with
   | err c p q=>
    rw[hr]at hc;obtain⟨g1,g2,g3⟩:=he _ _ _ hr
    have g4:¬ c=0:=by omega
    refine⟨yO (j+1),kO (j+1)+1,?_,fun c' p' q' h=>?_⟩
    .show MC _ _ _ _ _ _ (.d (yO (j+1))) (ak (aaI t ((kO (j+1)+1:Nat):Int) c p ++ []));rw[Int.natCast_add];refine MC.aC (aay _) func192 rfl rfl (rs:=[.tmp 4]) results192 (by simp[ntmps192]) rfl fun X=>?_;simp only[ntmps192];have fw:=(Aq @ab.eq_1 (Aq @aaI.eq_1 @dS.eq_1));refine rgq fw [0,1] [500] ?_;refine ae fun K1 au=>?_;refine rgq fw [0,1,12] [500] ?_;refine ag rfl ?_;refine ah (au _ ?_);refine ae fun K2 aa=>?_;have qf:=(Aq fw @ha2);refine al [0,1,14] [500] ?_;refine ag rfl ?_;refine ah (aa _ ?_);refine ae fun K3 aH=>?_;refine rgm fw eI [0,1,5] [500] ?_;refine rgq fw [0,1,5,19] [500] ?_;refine aU ?_;refine rgq fw [0,1,5,19,20] [500] ?_;refine ag rfl ?_;refine rgq fw [0,1,5,19,36] [500] ?_;refine aax rfl ?_;refine rgq fw [0,1] [500] ?_;refine rgm (Aq fw (Aq @gC.eq_1 (Aq @gC.eq_2 (Aq @gg.eq_1 (Aq @gg.eq_2 (Aq @eR.eq_1 (Aq @eR.eq_2 (Aq @pR.eq_1 @pR.eq_2)))))))) hc [0,6] [500] ?_;refine ae fun K4 hK4=>?_;have qf:=(Aq fw @g4);refine al [0,6,59] [500] ?_;refine ag rfl ?_;refine ah (hK4 _ ?_);refine rgq fw [6] [500] ?_;refine rgq fw [4] [500] ?_;exact aG (Aq fw (Aq @aaI.eq_1 @dS.eq_1))
    .simp only[Rs.err.injEq]at h;obtain⟨rfl,rfl,rfl⟩:=h;exact⟨g1,g2,by omega⟩
   | ok x k=>
    rw[hr]at hc;dsimp only[gC,gg,eR,pR]at hc;have hk:=(adZ (acX t d) (j+1) x k (ay c40) hr).2;have kh:=xh G t k (by omega) hk 0 (-1);have hk2:=acL hk;have dO:=xf G t (aaD t k) (by omega) hk2 3;rw[sN hk]at dO;have cy:=zJ (t:=t) (i:=k) (c:=41) (by decide);have fY:=EW (t:=t) (c:=41) (i:=k);have P8:((41:UInt8).toNat:Int)=41:=rfl;rw[P8]at cy;dsimp only;by_cases hb:((lq t k).toNat:Int)=41
    .rw[decide_eq_true hb]at cy;rw[cy]at fY ⊢;simp only[if_true]at fY ⊢;rw[fY];refine⟨default,0,?_,fun c p q h=>by cases h⟩;show MC _ _ _ _ _ _ (.d (dR x)) (ak (aaI t ((aaD t k+1:Nat):Int) 0 (-1) ++ []));rw[Int.natCast_add];obtain⟨cx,hx⟩:=aey x;rw[hx]at hc ⊢;refine MC.aC (aay _) func192 rfl rfl (rs:=[.tmp 4]) results192 (by simp[ntmps192]) rfl fun X=>?_;simp only[ntmps192];have fw:=(Aq @ab.eq_1 (Aq @aaI.eq_1 @dS.eq_1));refine rgq fw [0,1] [500] ?_;refine ae fun K1 au=>?_;refine rgq fw [0,1,12] [500] ?_;refine ag rfl ?_;refine ah (au _ ?_);refine ae fun K2 aa=>?_;have qf:=(Aq fw @ha2);refine al [0,1,14] [500] ?_;refine ag rfl ?_;refine ah (aa _ ?_);refine ae fun K3 aH=>?_;refine rgm fw eI [0,1,5] [500] ?_;refine rgq fw [0,1,5,19] [500] ?_;refine aU ?_;refine rgq fw [0,1,5,19,20] [500] ?_;refine ag rfl ?_;refine rgq fw [0,1,5,19,36] [500] ?_;refine aax rfl ?_;refine rgq fw [0,1] [500] ?_;refine rgm fw hc [0,6] [500] ?_;refine ae fun K4 hK4=>?_;have qf:=(Aq fw @hb);refine ab6 kh [0,6,59] [500] ?_;refine ag rfl ?_;refine ah (hK4 _ ?_);refine rgq fw [6] [500] ?_;refine rgq fw [4] [500] ?_;exact aG (Aq fw (Aq @aaI.eq_1 @dS.eq_1))
    .rw[decide_eq_false hb]at cy;rw[cy]at fY ⊢;simp only[Bool.false_eq_true,if_false]at fY ⊢;rw[fY];refine⟨.v (.pointer none),aaD t k,?_,fun c p q h=>?_⟩
     .show MC _ _ _ _ _ _ (.d (.v (.pointer none))) (ak (aaI t (aaD t k) 3 (aaD t k) ++ []));obtain⟨cx,hx⟩:=aey x;rw[hx]at hc;refine MC.aC (aay _) func192 rfl rfl (rs:=[.tmp 4]) results192 (by simp[ntmps192]) rfl fun X=>?_;simp only[ntmps192];have fw:=(Aq @ab.eq_1 (Aq @aaI.eq_1 @dS.eq_1));refine rgq fw [0,1] [500] ?_;refine ae fun K1 au=>?_;refine rgq fw [0,1,12] [500] ?_;refine ag rfl ?_;refine ah (au _ ?_);refine ae fun K2 aa=>?_;have qf:=(Aq fw @ha2);refine al [0,1,14] [500] ?_;refine ag rfl ?_;refine ah (aa _ ?_);refine ae fun K3 aH=>?_;refine rgm fw eI [0,1,5] [500] ?_;refine rgq fw [0,1,5,19] [500] ?_;refine aU ?_;refine rgq fw [0,1,5,19,20] [500] ?_;refine ag rfl ?_;refine rgq fw [0,1,5,19,36] [500] ?_;refine aax rfl ?_;refine rgq fw [0,1] [500] ?_;refine rgm fw hc [0,6] [500] ?_;refine ae fun K4 hK4=>?_;have qf:=(Aq fw @hb);refine ab6 kh [0,6,59] [500] ?_;refine aax rfl ?_;refine rgm fw dO [4] [500] ?_;exact aG (Aq fw (Aq @aaI.eq_1 @dS.eq_1))
     .simp only[Rs.err.injEq]at h;exact⟨by omega,rfl,by omega⟩
  rw[if_neg c40];have ux:¬ (b.toNat:Int)=40:=qB 40 (by decide) c40;by_cases pP:t[j]? = some 48
  .rw[if_pos pP];obtain rfl:=qD 48 pP;have:=ay pP;refine⟨default,0,?_,fun c p q h=>by cases h⟩;show MC _ _ _ _ _ _ (.d (.ip [dS [48],dS [],cX])) (ak (aaI t ((j+1:Nat):Int) 0 (-1) ++ []));rw[Int.natCast_add];refine MC.aC (aay _) func192 rfl rfl (rs:=[.tmp 4]) results192 (by simp[ntmps192]) rfl fun X=>?_;simp only[ntmps192];have fw:=(Aq @ab.eq_1 (Aq @aaI.eq_1 @dS.eq_1));refine rgq fw [0,1] [500] ?_;refine ae fun K1 au=>?_;refine rgq fw [0,1,12] [500] ?_;refine ag rfl ?_;refine ah (au _ ?_);refine ae fun K2 aa=>?_;have qf:=(Aq fw @ha2);refine al [0,1,14] [500] ?_;refine ag rfl ?_;refine ah (aa _ ?_);refine ae fun K3 aH=>?_;refine rgm fw eI [0,1,5] [500] ?_;refine rgq fw [0,1,5,19] [500] ?_;refine aU ?_;refine rgq fw [0,1,5,19,20] [500] ?_;refine ag rfl ?_;refine rgq fw [0,1,5,19,36] [500] ?_;refine ag rfl ?_;refine ae fun K5 bN=>?_;refine rgq fw [0,5,19,70] [500] ?_;refine aax rfl ?_;refine ah (bN _ ?_);refine aax rfl ?_;refine rgq fw [5] [500] ?_;have qf:=(Aq fw (Aq @N3 @cX.eq_1));refine al [4] [83,500] ?_;refine aa1 fw 83 ?_;refine bn ?_;simp[D.le,D.le.go,aaA,ab,aaI,dS,aaI,dS,cX,br,D.le_refl,D.aaE]
  rw[if_neg pP];have uy:¬ (b.toNat:Int)=48:=qB 48 (by decide) pP;by_cases c49:t[j]? = some 49
  .rw[if_pos c49];obtain rfl:=qD 49 c49;have:=ay c49;refine⟨default,0,?_,fun c p q h=>by cases h⟩;show MC _ _ _ _ _ _ (.d (.ip [dS [49],dS [],cX])) (ak (aaI t ((j+1:Nat):Int) 0 (-1) ++ []));rw[Int.natCast_add];refine MC.aC (aay _) func192 rfl rfl (rs:=[.tmp 4]) results192 (by simp[ntmps192]) rfl fun X=>?_;simp only[ntmps192];have fw:=(Aq @ab.eq_1 (Aq @aaI.eq_1 @dS.eq_1));refine rgq fw [0,1] [500] ?_;refine ae fun K1 au=>?_;refine rgq fw [0,1,12] [500] ?_;refine ag rfl ?_;refine ah (au _ ?_);refine ae fun K2 aa=>?_;have qf:=(Aq fw @ha2);refine al [0,1,14] [500] ?_;refine ag rfl ?_;refine ah (aa _ ?_);refine ae fun K3 aH=>?_;refine rgm fw eI [0,1,5] [500] ?_;refine rgq fw [0,1,5,19] [500] ?_;refine aU ?_;refine rgq fw [0,1,5,19,20] [500] ?_;refine ag rfl ?_;refine rgq fw [0,1,5,19,36] [500] ?_;refine ag rfl ?_;refine ae fun K5 bN=>?_;refine rgq fw [0,5,19,70] [500] ?_;refine ag rfl ?_;refine reK fw bN [0,5,19,70] [500] ?_;refine aax rfl ?_;refine rgq fw [5] [500] ?_;have qf:=(Aq fw (Aq @N4 @cX.eq_1));refine al [4] [83,500] ?_;refine aa1 fw 83 ?_;refine bn ?_;simp[D.le,D.le.go,aaA,ab,aaI,dS,aaI,dS,cX,br,D.le_refl,D.aaE]
  rw[if_neg c49];have uz:¬ (b.toNat:Int)=49:=qB 49 (by decide) c49;by_cases c94:t[j]? = some 94
  .rw[if_pos c94];obtain rfl:=qD 94 c94;have hj:=ay c94;have hw:=Em G t 1 (j+1) (by omega) hj;rw[Int.natCast_add]at hw;have np:∀ s k,abq t 1 (j+1) = .ok s k->fR t (aaD t (j+1))=s:=fun s k h=>E7 h;have qp:∀ c p q',abq t 1 (j+1) = .err c p q'->0 < c/\p<=t.length:=fun c p q' h=>E8 hj h;generalize hW:abq t 1 (j+1)=W at hw np qp ⊢;generalize fR t (aaD t (j+1))=sw at hw np;refine⟨.ip [dS [94],dS sw,cX],aaR W,?_,fun c p q h=>?_⟩
   .have h1:gC (W.map .abP) (.ip [dS [94],dS sw,cX]) = .ip [dS [94],dS sw,cX]:=by
     cases W with
     | ok s k=>obtain rfl:=np _ _ rfl;rfl
     | err c p q=>rfl
    have h2:gg (W.map Ex.abP) (aaR W)=aaR W:=by cases W<;>rfl
    have h3:eR (W.map Ex.abP)=eR W:=by cases W<;>rfl
    have h4:pR (W.map Ex.abP)=pR W:=by cases W<;>rfl
    rw[h1,h2,h3,h4];refine MC.aC (aay _) func192 rfl rfl (rs:=[.tmp 4]) results192 (by simp[ntmps192]) rfl fun X=>?_;simp only[ntmps192];have fw:=(Aq @ab.eq_1 (Aq @aaI.eq_1 @dS.eq_1));refine rgq fw [0,1] [500] ?_;refine ae fun K1 au=>?_;refine rgq fw [0,1,12] [500] ?_;refine ag rfl ?_;refine ah (au _ ?_);refine ae fun K2 aa=>?_;have qf:=(Aq fw @ha2);refine al [0,1,14] [500] ?_;refine ag rfl ?_;refine ah (aa _ ?_);refine ae fun K3 aH=>?_;refine rgm fw eI [0,1,5] [500] ?_;refine rgq fw [0,1,5,19] [500] ?_;refine aU ?_;refine rgq fw [0,1,5,19,20] [500] ?_;refine ag rfl ?_;refine rgq fw [0,1,5,19,36] [500] ?_;refine ag rfl ?_;refine ae fun K5 bN=>?_;refine rgq fw [0,5,19,70] [500] ?_;refine ag rfl ?_;refine reK fw bN [0,5,19,70] [500] ?_;refine ag rfl ?_;refine ae fun K6 hK6=>?_;refine rgq fw [0,5,19,84] [500] ?_;refine aax rfl ?_;refine ah (hK6 _ ?_);refine aax rfl ?_;refine rgq fw [0,5] [500] ?_;have qf:=(Aq fw (Aq @N5 @cX.eq_1));refine ab6 hw [4] [99,500] ?_;refine aa1 fw 99 ?_;refine bn ?_;simp[D.le,D.le.go,aaA,ab,aaI,dS,aaI,dS,cX,br,D.le_refl,D.aaE]
   .cases W with
    | ok s k=>cases h
    | err c' p' q'=>
     simp only[Rs.map,Rs.err.injEq]at h;obtain⟨rfl,rfl,rfl⟩:=h;obtain⟨g1,g2⟩:=qp _ _ _ rfl;exact⟨g1,rfl,by simp only[aaR];omega⟩
  rw[if_neg c94];have n94:¬ (b.toNat:Int)=94:=qB 94 (by decide) c94;by_cases adR:t[j]? = some 126
  .rw[if_pos adR];obtain rfl:=qD 126 adR;have hj:=ay adR;have hw:=Em G t 2 (j+1) (by omega) hj;rw[Int.natCast_add]at hw;have np:∀ s k,abq t 2 (j+1) = .ok s k->fR t (aaD t (j+1))=s:=fun s k h=>E7 h;have qp:∀ c p q',abq t 2 (j+1) = .err c p q'->0 < c/\p<=t.length:=fun c p q' h=>E8 hj h;generalize hW:abq t 2 (j+1)=W at hw np qp ⊢;generalize fR t (aaD t (j+1))=sw at hw np;refine⟨.ip [dS [126],dS sw,cX],aaR W,?_,fun c p q h=>?_⟩
   .have h1:gC (W.map .fS) (.ip [dS [126],dS sw,cX]) = .ip [dS [126],dS sw,cX]:=by
     cases W with
     | ok s k=>obtain rfl:=np _ _ rfl;rfl
     | err c p q=>rfl
    have h2:gg (W.map Ex.fS) (aaR W)=aaR W:=by cases W<;>rfl
    have h3:eR (W.map Ex.fS)=eR W:=by cases W<;>rfl
    have h4:pR (W.map Ex.fS)=pR W:=by cases W<;>rfl
    rw[h1,h2,h3,h4];refine MC.aC (aay _) func192 rfl rfl (rs:=[.tmp 4]) results192 (by simp[ntmps192]) rfl fun X=>?_;simp only[ntmps192];have fw:=(Aq @ab.eq_1 (Aq @aaI.eq_1 @dS.eq_1));refine rgq fw [0,1] [500] ?_;refine ae fun K1 au=>?_;refine rgq fw [0,1,12] [500] ?_;refine ag rfl ?_;refine ah (au _ ?_);refine ae fun K2 aa=>?_;have qf:=(Aq fw @ha2);refine al [0,1,14] [500] ?_;refine ag rfl ?_;refine ah (aa _ ?_);refine ae fun K3 aH=>?_;refine rgm fw eI [0,1,5] [500] ?_;refine rgq fw [0,1,5,19] [500] ?_;refine aU ?_;refine rgq fw [0,1,5,19,20] [500] ?_;refine ag rfl ?_;refine rgq fw [0,1,5,19,36] [500] ?_;refine ag rfl ?_;refine ae fun K5 bN=>?_;refine rgq fw [0,5,19,70] [500] ?_;refine ag rfl ?_;refine reK fw bN [0,5,19,70] [500] ?_;refine ag rfl ?_;refine ae fun K6 hK6=>?_;refine rgq fw [0,5,19,84] [500] ?_;refine ag rfl ?_;refine reK fw hK6 [0,5,84] [500] ?_;refine aax rfl ?_;refine rgq fw [0,5] [500] ?_;have qf:=(Aq fw (Aq @agc @cX.eq_1));refine ab6 hw [4] [99,500] ?_;refine aa1 fw 99 ?_;refine bn ?_;simp[D.le,D.le.go,aaA,ab,aaI,dS,aaI,dS,cX,br,D.le_refl,D.aaE]
   .cases W with
    | ok s k=>cases h
    | err c' p' q'=>
     simp only[Rs.map,Rs.err.injEq]at h;obtain⟨rfl,rfl,rfl⟩:=h;obtain⟨g1,g2⟩:=qp _ _ _ rfl;exact⟨g1,rfl,by simp only[aaR];omega⟩
  rw[if_neg adR];have n126:¬ (b.toNat:Int)=126:=qB 126 (by decide) adR;have hw:=Em G t 3 j (by omega) abN;have np:∀ s k,abq t 3 j = .ok s k->fR t (aaD t j)=s:=fun s k h=>E7 h;have qp:∀ c p q',abq t 3 j = .err c p q'->0 < c/\p<=t.length:=fun c p q' h=>E8 abN h;generalize hW:abq t 3 j=W at hw np qp ⊢;generalize fR t (aaD t j)=sw at hw np;refine⟨.ip [dS [98,105,116],dS sw,cX],aaR W,?_,fun c p q h=>?_⟩
  .have h1:gC (W.map .bit) (.ip [dS [98,105,116],dS sw,cX]) = .ip [dS [98,105,116],dS sw,cX]:=by
    cases W with
    | ok s k=>obtain rfl:=np _ _ rfl;rfl
    | err c p q=>rfl
   have h2:gg (W.map Ex.bit) (aaR W)=aaR W:=by cases W<;>rfl
   have h3:eR (W.map Ex.bit)=eR W:=by cases W<;>rfl
   have h4:pR (W.map Ex.bit)=pR W:=by cases W<;>rfl
   rw[h1,h2,h3,h4];refine MC.aC (aay _) func192 rfl rfl (rs:=[.tmp 4]) results192 (by simp[ntmps192]) rfl fun X=>?_;simp only[ntmps192];have fw:=(Aq @ab.eq_1 (Aq @aaI.eq_1 @dS.eq_1));refine rgq fw [0,1] [500] ?_;refine ae fun K1 au=>?_;refine rgq fw [0,1,12] [500] ?_;refine ag rfl ?_;refine ah (au _ ?_);refine ae fun K2 aa=>?_;have qf:=(Aq fw @ha2);refine al [0,1,14] [500] ?_;refine ag rfl ?_;refine ah (aa _ ?_);refine ae fun K3 aH=>?_;refine rgm fw eI [0,1,5] [500] ?_;refine rgq fw [0,1,5,19] [500] ?_;refine aU ?_;have qf:=(Aq fw (Aq @n33 (Aq @ux (Aq @uy (Aq @uz (Aq @n94 @n126))))));refine al [0,1,5,19,20] [500] ?_;refine ag rfl ?_;have qf:=(Aq fw (Aq @n33 (Aq @ux (Aq @uy (Aq @uz (Aq @n94 @n126))))));refine al [0,1,5,19,36] [500] ?_;refine ag rfl ?_;refine ae fun K5 bN=>?_;have qf:=(Aq fw (Aq @n33 (Aq @ux (Aq @uy (Aq @uz (Aq @n94 @n126))))));refine al [0,5,19,70] [500] ?_;refine ag rfl ?_;have qf:=(Aq fw (Aq @n33 (Aq @ux (Aq @uy (Aq @uz (Aq @n94 @n126))))));refine cT bN [0,5,19,70] [500] ?_;refine ag rfl ?_;refine ae fun K6 hK6=>?_;have qf:=(Aq fw (Aq @n33 (Aq @ux (Aq @uy (Aq @uz (Aq @n94 @n126))))));refine al [0,5,19,84] [500] ?_;refine ag rfl ?_;have qf:=(Aq fw (Aq @n33 (Aq @ux (Aq @uy (Aq @uz (Aq @n94 @n126))))));refine cT hK6 [0,5,84] [500] ?_;refine ag rfl ?_;refine ah (aH _ ?_);have qf:=(Aq fw (Aq @cX.eq_1 @SO));refine ab6 hw [4] [103,500] ?_;refine aa1 fw 103 ?_;refine bn ?_;simp[D.le,D.le.go,aaA,ab,aaI,dS,aaI,dS,cX,br,D.le_refl,D.aaE]
  .cases W with
   | ok s k=>cases h
   | err c' p' q'=>
    simp only[Rs.map,Rs.err.injEq]at h;obtain⟨rfl,rfl,rfl⟩:=h;obtain⟨g1,g2⟩:=qp _ _ _ rfl;exact⟨g1,rfl,by simp only[aaR];omega⟩
def nmE (all:Bool):Ex->List UInt8
 | .bit s=>if all then s else []
 | .abP s=>s
 | .fS s=>s
 | _=>[]
def eQ (s:List UInt8):List (List UInt8):=if s=[] then [] else [s]
mutual
def ck (all:Bool):Ex->List (List UInt8)
 | .not e=>ck all e
 | .and l=>abu all l
 | .or l=>abu all l
 | e=>eQ (nmE all e)
def abu (all:Bool):List Ex->List (List UInt8)
 | []=>[]
 | e :: l=>ck all e ++ abu all l
end
theorem Js (all:Bool):∀ a b:List Ex,abu all (a ++ b)=abu all a ++ abu all b
 | [],b=>rfl
 | e :: a,b=>by simp[abu,Js all a b]
theorem DX (all:Bool) {l:List Ex} {i:Nat} (hi:i < l.length):abu all (l.take (i+1))=abu all (l.take i) ++ ck all l[i]:=by
 rw[List.take_succ_eq_append_getElem hi,Js];simp[abu]
theorem DY (all:Bool):∀ (n:Nat) (e:Ex),SizeOf.sizeOf e<=n->(ck all e).length<=bE e
 | 0,e,hn=>by cases e<;>simp at hn
 | n+1,e,hn=>by
  have many:∀ l:List Ex,(∀ x∈l,SizeOf.sizeOf x<=n)->(abu all l).length<=eU l:=by
   intro l
   induction l with
   | nil=>intro _;simp[abu]
   | cons x l ih=>
    intro h;have a:=ih fun y hy=>h y (by simp[hy]);have b:=DY all n x (h x (by simp));simp only[abu,eU,List.length_append];omega
  have acn:∀ s,(eQ s).length<=1:=fun s=>by unfold eQ;split<;>simp
  have hp:=xU e
  cases e with
  | not x=>have:=DY all n x (by simp at hn;omega);simp only[ck,bE];omega
  | and l=>
   have:=many l fun x hx=>by have:=List.sizeOf_lt_of_mem hx;simp only[Ex.and.sizeOf_spec]at hn;omega
   simp only[ck,bE];omega
  | or l=>
   have:=many l fun x hx=>by have:=List.sizeOf_lt_of_mem hx;simp only[Ex.or.sizeOf_spec]at hn;omega
   simp only[ck,bE];omega
  | cst b=>have:=acn (nmE all (.cst b));simp only[ck];omega
  | bit s=>have:=acn (nmE all (.bit s));simp only[ck];omega
  | abP s=>have:=acn (nmE all (.abP s));simp only[ck];omega
  | fS s=>have:=acn (nmE all (.fS s));simp only[ck];omega
theorem sB (all:Bool) (e:Ex):(ck all e).length<=bE e:=DY all _ e (Nat.le_refl _)
theorem w5 (all:Bool):∀ l:List Ex,(abu all l).length<=eU l
 | []=>by simp[abu]
 | e :: l=>by have:=sB all e;have:=w5 all l;simp only[abu,eU,List.length_append];omega
def dh (l:List (List UInt8)):List (Nat×Row):=[(502,.box 174 [.own 503 0 l.length]),(503,.sl 9 1 (l.map fun s=>[dS s]))]
def me (all:Bool):FuncId:=if all then 157 else 182
theorem U2 (G:ao) (e:Ex):ar prog G 157 [dE e] (dS (nmE true e)):=by
 by_cases h1:∃ s,e = .bit s
 .obtain⟨s,rfl⟩:=h1;rw[dE];refine ar.aC (aay _) func157 rfl rfl (rs:=[.tmp 2]) results157 (by simp[ntmps157]) fun X=>?_;simp only[ntmps157,List.map];have fw:=(Aq @ab.eq_1 (Aq @dS.eq_1 (Aq @bp.eq_1 (Aq @bp.eq_2 @aaS.eq_1))));refine rgq fw [0] [] ?_;refine ae fun K1 au=>?_;refine rgq fw [6] [] ?_;refine aU ?_;refine rgq fw [6,8,9] [] ?_;refine aax rfl ?_;refine rgq fw [3] [] ?_;refine rgq fw [2] [] ?_;exact aG (Aq fw (Aq @nmE.eq_1 (Aq @nmE.eq_2 (Aq @nmE.eq_3 (Aq @nmE.eq_4 @dS.eq_1)))))
 by_cases h2:∃ s,e = .abP s
 .obtain⟨s,rfl⟩:=h2;rw[dE];refine ar.aC (aay _) func157 rfl rfl (rs:=[.tmp 2]) results157 (by simp[ntmps157]) fun X=>?_;simp only[ntmps157,List.map];have fw:=(Aq @ab.eq_1 (Aq @dS.eq_1 (Aq @bp.eq_1 (Aq @bp.eq_2 @aaS.eq_1))));refine rgq fw [0] [] ?_;refine ae fun K1 au=>?_;refine rgq fw [6] [] ?_;refine aU ?_;refine rgq fw [6,8,9] [] ?_;refine ag rfl ?_;refine rgq fw [6,12,13] [] ?_;refine aax rfl ?_;refine rgq fw [4] [] ?_;refine rgq fw [2] [] ?_;exact aG (Aq fw (Aq @nmE.eq_1 (Aq @nmE.eq_2 (Aq @nmE.eq_3 (Aq @nmE.eq_4 @dS.eq_1)))))
 by_cases h3:∃ s,e = .fS s
 .obtain⟨s,rfl⟩:=h3;rw[dE];refine ar.aC (aay _) func157 rfl rfl (rs:=[.tmp 2]) results157 (by simp[ntmps157]) fun X=>?_;simp only[ntmps157,List.map];have fw:=(Aq @ab.eq_1 (Aq @dS.eq_1 (Aq @bp.eq_1 (Aq @bp.eq_2 @aaS.eq_1))));refine rgq fw [0] [] ?_;refine ae fun K1 au=>?_;refine rgq fw [6] [] ?_;refine aU ?_;refine rgq fw [6,8,9] [] ?_;refine ag rfl ?_;refine rgq fw [6,12,13] [] ?_;refine ag rfl ?_;refine rgq fw [16,17] [] ?_;refine aax rfl ?_;refine rgq fw [5] [] ?_;refine rgq fw [2] [] ?_;exact aG (Aq fw (Aq @nmE.eq_1 (Aq @nmE.eq_2 (Aq @nmE.eq_3 (Aq @nmE.eq_4 @dS.eq_1)))))
 have hk:∃ t c,dE e = .bA t c/\¬ t=189/\¬ t=190/\¬ t=191/\nmE true e=[]:=by
  cases e with
  | bit s=>exact absurd ⟨s,rfl⟩ h1
  | abP s=>exact absurd ⟨s,rfl⟩ h2
  | fS s=>exact absurd ⟨s,rfl⟩ h3
  | cst b=>exact⟨_,_,by rw[dE],by decide,by decide,by decide,rfl⟩
  | not b=>exact⟨_,_,by rw[dE],by decide,by decide,by decide,rfl⟩
  | and b=>exact⟨_,_,by rw[dE],by decide,by decide,by decide,rfl⟩
  | or b=>exact⟨_,_,by rw[dE],by decide,by decide,by decide,rfl⟩
 obtain⟨t,c,hy,a1,a2,a3,a4⟩:=hk;rw[a4,hy];refine ar.aC (aay _) func157 rfl rfl (rs:=[.tmp 2]) results157 (by simp[ntmps157]) fun X=>?_;simp only[ntmps157,List.map];have fw:=(Aq @ab.eq_1 (Aq @dS.eq_1 (Aq @bp.eq_1 (Aq @bp.eq_2 @aaS.eq_1))));refine rgq fw [0] [] ?_;refine ae fun K1 au=>?_;refine rgq fw [6] [] ?_;refine aU ?_;have qf:=(Aq fw @a1);refine al [6,8,9] [] ?_;refine ag rfl ?_;have qf:=(Aq fw @a2);refine al [6,12,13] [] ?_;refine ag rfl ?_;have qf:=(Aq fw @a3);refine al [16,17] [] ?_;refine ag rfl ?_;refine ah (au _ ?_);refine rgq fw [2] [] ?_;refine bn ?_;simp[D.le,D.le.go,aaA,ab,dS,bp,aaS,dS,br,D.le_refl]
theorem NV (G:ao) (e:Ex):ar prog G 182 [dE e] (dS (nmE false e)):=by
 by_cases h2:∃ s,e = .abP s
 .obtain⟨s,rfl⟩:=h2;rw[dE];refine ar.aC (aay _) func182 rfl rfl (rs:=[.tmp 2]) results182 (by simp[ntmps182]) fun X=>?_;simp only[ntmps182,List.map];have fw:=(Aq @ab.eq_1 (Aq @dS.eq_1 (Aq @bp.eq_1 (Aq @bp.eq_2 @aaS.eq_1))));refine rgq fw [0] [] ?_;refine ae fun K1 au=>?_;refine rgq fw [5] [] ?_;refine aU ?_;refine rgq fw [5,7,8] [] ?_;refine aax rfl ?_;refine rgq fw [3] [] ?_;refine rgq fw [2] [] ?_;exact aG (Aq fw (Aq @nmE.eq_1 (Aq @nmE.eq_2 (Aq @nmE.eq_3 (Aq @nmE.eq_4 @dS.eq_1)))))
 by_cases h3:∃ s,e = .fS s
 .obtain⟨s,rfl⟩:=h3;rw[dE];refine ar.aC (aay _) func182 rfl rfl (rs:=[.tmp 2]) results182 (by simp[ntmps182]) fun X=>?_;simp only[ntmps182,List.map];have fw:=(Aq @ab.eq_1 (Aq @dS.eq_1 (Aq @bp.eq_1 (Aq @bp.eq_2 @aaS.eq_1))));refine rgq fw [0] [] ?_;refine ae fun K1 au=>?_;refine rgq fw [5] [] ?_;refine aU ?_;refine rgq fw [5,7,8] [] ?_;refine ag rfl ?_;refine rgq fw [11,12] [] ?_;refine aax rfl ?_;refine rgq fw [4] [] ?_;refine rgq fw [2] [] ?_;exact aG (Aq fw (Aq @nmE.eq_1 (Aq @nmE.eq_2 (Aq @nmE.eq_3 (Aq @nmE.eq_4 @dS.eq_1)))))
 have hk:∃ t c,dE e = .bA t c/\¬ t=190/\¬ t=191/\nmE false e=[]:=by
  cases e with
  | abP s=>exact absurd ⟨s,rfl⟩ h2
  | fS s=>exact absurd ⟨s,rfl⟩ h3
  | cst b=>exact⟨_,_,by rw[dE],by decide,by decide,rfl⟩
  | bit b=>exact⟨_,_,by rw[dE],by decide,by decide,rfl⟩
  | not b=>exact⟨_,_,by rw[dE],by decide,by decide,rfl⟩
  | and b=>exact⟨_,_,by rw[dE],by decide,by decide,rfl⟩
  | or b=>exact⟨_,_,by rw[dE],by decide,by decide,rfl⟩
 obtain⟨t,c,hy,a2,a3,a4⟩:=hk;rw[a4,hy];refine ar.aC (aay _) func182 rfl rfl (rs:=[.tmp 2]) results182 (by simp[ntmps182]) fun X=>?_;simp only[ntmps182,List.map];have fw:=(Aq @ab.eq_1 (Aq @dS.eq_1 (Aq @bp.eq_1 (Aq @bp.eq_2 @aaS.eq_1))));refine rgq fw [0] [] ?_;refine ae fun K1 au=>?_;refine rgq fw [5] [] ?_;refine aU ?_;have qf:=(Aq fw @a2);refine al [5,7,8] [] ?_;refine ag rfl ?_;have qf:=(Aq fw @a3);refine al [11,12] [] ?_;refine ag rfl ?_;refine ah (au _ ?_);refine rgq fw [2] [] ?_;refine bn ?_;simp[D.le,D.le.go,aaA,ab,dS,bp,aaS,dS,br,D.le_refl]
theorem UX (G:ao) (all:Bool) (e:Ex):ar prog G (me all) [dE e] (dS (nmE all e)):=by
 cases all with
 | true=>exact U2 G e
 | false=>exact NV G e
theorem yn (G:ao) (all:Bool) (l:List (List UInt8)) (e:Ex) (hl:l.length < 2^40):MC prog G [502] 200 ([.d (dE e)] ++ [.d (.ip [.fn (.func (me all)) []]),.ref 502 0 0]) (ak (dh l)) (.d (.tup [])) (ak (dh (l ++ eQ (nmE all e)))):=by
 have hn:=UX G all e;obtain⟨t,c,hx⟩:=ach e;rw[hx]at hn ⊢;generalize me all=g at hn ⊢;generalize nmE all e=s at hn ⊢;by_cases hs:s=[]
 .subst hs
  have he:l ++ eQ []=l:=by simp[eQ]
  rw[he];refine MC.aC (aay _) func200 rfl rfl (rs:=[]) results200 (by simp[ntmps200]) rfl fun X=>?_;simp only[ntmps200];have fw:=(Aq @ab.eq_1 (Aq @dS.eq_1 @dh.eq_1));refine aR fw hn [2,4] [502,503] ?_;refine rg [2,4,9] [502,503] (cK rfl) fun K' af=>?_;(repeat (refine sxn fun K2 aa=>?_;simp[ab,dS,dh,aS,aZ,br];(repeat (refine⟨by omega,?_⟩));refine aa _ ?_;clear aa K2));refine sxz (af _ (AW.st (by simp[ab,dS,dh,aS,aZ,br];rfl) ?_));clear af K';refine ag rfl ?_;refine ah ?_;simp[D.le_refl,dh,dS]
 .have he:eQ s=[s]:=by unfold eQ;rw[if_neg hs]
  have qm:s.isEmpty=false:=by rw[List.isEmpty_eq_false_iff];exact hs
  have HQ:(s == [])=false:=by simpa using hs
  rw[he];refine MC.aC (aay _) func200 rfl rfl (rs:=[]) results200 (by simp[ntmps200]) rfl fun X=>?_;simp only[ntmps200];have fw:=(Aq @ab.eq_1 (Aq @dS.eq_1 @dh.eq_1));refine aR fw hn [2,4] [502,503] ?_;refine rg [2,4,9] [502,503] (cK rfl) fun K' af=>?_;(repeat (refine sxn fun K2 aa=>?_;simp[ab,dS,dh,aS,aZ,br,hs,qm,HQ];(repeat (refine⟨by omega,?_⟩));refine aa _ ?_;clear aa K2));refine sxz (af _ (AW.st (by simp[ab,dS,dh,aS,aZ,br,hs,qm,HQ];rfl) ?_));clear af K';refine aax rfl ?_;refine abl (aay _) fun K' af=>?_;(repeat (refine sxn fun K2 aa=>?_;simp[ab,dS,dh,List.take_of_length_le];(repeat (refine⟨by omega,?_⟩));refine aa _ ?_;clear aa K2));refine sxz (af _ ?_);clear af K';(try simp only[aM,aP]);simp[D.le_refl,dh,dS]
theorem Yv (G:ao) (all:Bool):∀ (m:Nat) (e:Ex),SizeOf.sizeOf e<=m->∀ l0:List (List UInt8),l0.length+bE e<=2^39->MC prog G [502] 199 [.d (dE e),.fn (.func 200) [.d (.ip [.fn (.func (me all)) []]),.ref 502 0 0]] (ak (dh l0)) (.d (.tup [])) (ak (dh (l0 ++ ck all e))):=by
 intro m
 induction m with
 | zero=>intro e aK;cases e<;>simp at aK
 | succ m ih=>
  intro e aK l0 hb;have Y9:=xU e;by_cases hN:∃ x,e = .not x
  .obtain⟨x,rfl⟩:=hN;simp only[bE]at hb;obtain⟨tx,cx,hx⟩:=ach x;have cm:=yn G all l0 (.not x) (by omega);have wx:eQ (nmE all (.not x))=[]:=rfl;rw[wx,List.append_nil,List.singleton_append]at cm;have hc:=ih x (by simp at aK;omega) l0 (by omega);rw[ck];rw[dE,hx];rw[dE,hx]at cm;rw[hx]at hc;generalize l0 ++ ck all x=l1 at hc ⊢;generalize me all=g at hc cm ⊢;refine MC.aC (aay _) func199 rfl rfl (rs:=[]) results199 (by simp[ntmps199]) rfl fun X=>?_;simp only[ntmps199];have fw:=(Aq @ab.eq_1 (Aq @dS.eq_1 (Aq @dh.eq_1 (Aq @bp.eq_1 (Aq @bp.eq_2 @aaS.eq_1)))));refine rgm fw cm [0,1] [502,503] ?_;refine rgq fw [1,14] [502,503] ?_;refine aU ?_;refine rgq fw [1,14,16,17] [502,503] ?_;refine aax rfl ?_;refine rgq fw [1,4] [4,502,503] ?_;refine abl (aay _) fun K' af=>?_;(repeat (refine sxn fun K2 aa=>?_;simp[ab,dS,dh,bp,aaS];(repeat (refine⟨by omega,?_⟩));refine aa _ ?_;clear aa K2));refine sxn fun K2 aa=>?_;simp[ab,dS,dh,bp,aaS];refine aaT.mc (hc) ?_ ?_ ?_ ?_ ?_<;>simp[ab,dS,dh,bp,aaS];refine aa _ ?_;clear aa K2;(repeat (refine sxn fun K2 aa=>?_;simp[ab,dS,dh,bp,aaS];(repeat (refine⟨by omega,?_⟩));refine aa _ ?_;clear aa K2));refine sxz (af _ ?_);clear af K';(try simp only[aM,aP]);simp[D.le_refl,dh,dS]
  by_cases hand:∃ l,e = .and l
  .obtain⟨l,rfl⟩:=hand;simp only[bE]at hb;have cm:=yn G all l0 (.and l) (by omega);have wx:eQ (nmE all (.and l))=[]:=rfl;rw[wx,List.append_nil,List.singleton_append]at cm;have jJ:=fun (x:Ex) (hx:x∈l)=>ih x (by have:=List.sizeOf_lt_of_mem hx;simp only[Ex.and.sizeOf_spec]at aK;omega);have ld:=pO l;rw[ck];rw[dE,oC];rw[dE,oC]at cm;clear ih;generalize hg:me all=g at jJ cm ⊢;refine MC.aC (aay _) func199 rfl rfl (rs:=[]) results199 (by simp[ntmps199]) rfl fun X=>?_;simp only[ntmps199];have fw:=(Aq @ab.eq_1 (Aq @dS.eq_1 (Aq @dh.eq_1 (Aq @bp.eq_1 (Aq @bp.eq_2 @aaS.eq_1)))));refine rgm fw cm [0,1] [502,503] ?_;refine rgq fw [1,14] [502,503] ?_;refine aU ?_;refine rgq fw [1,14,16,17] [502,503] ?_;refine ag rfl ?_;refine rgq fw [1,14,23,24] [502,503] ?_;refine aax rfl ?_;refine rgq fw [1,5] [502,503] ?_;refine rgq fw [1,25,26,27] [502,503] ?_;refine bZ (S:=Nat) (fun i=>i<=l.length) (fun i=>⟨lst [(1,.fn (.func 200) [.d (.ip [.fn (.func g) []]),.ref 502 0 0]),(25,.d (.sl none (l.map fun e=>[dE e]))),(26,int l.length),(27,int i)],ak (dh (l0 ++ abu all (l.take i)))⟩) (fun i=>l.length - i) 0 ?_ (by omega) ?_
   .refine aX (Aq fw (Aq @abu.eq_1 @abu.eq_2))
   .intro i hi;refine rgq fw [1,25,26,27,28] [502,503] ?_;refine ae fun K1 au=>?_;refine dw (b:=i < l.length) (by simp[D.le,D.le.go,aaA,ab,dS,dh,bp,aaS]) (fun hc=>?_) (fun hc=>?_)
    .have c6:i < l.length:=hc;have h1:=DX all c6;have h2:=w5 all (l.take i);have h3:=A7 c6;have bW:=jJ _ (List.getElem_mem c6) (l0 ++ abu all (l.take i)) (by rw[List.length_append];omega);rw[List.append_assoc,<- h1]at bW;obtain⟨tx,cx,hx⟩:=ach l[i];rw[hx]at bW;refine ah (au _ ?_);refine ae fun K2 aa=>?_;refine aU ?_;have qf:=(Aq fw (Aq @c6 @hx));refine al [1,7,25,26,27] [502,503] ?_;refine abl (aay _) fun K' af=>?_;(repeat (refine sxn fun K2 aa=>?_;simp[ab,dS,dh,bp,aaS];(repeat (refine⟨by omega,?_⟩));refine aa _ ?_;clear aa K2));refine sxn fun K2 aa=>?_;simp[ab,dS,dh,bp,aaS];refine aaT.mc (bW) ?_ ?_ ?_ ?_ ?_<;>simp[ab,dS,dh,bp,aaS];refine aa _ ?_;clear aa K2;(repeat (refine sxn fun K2 aa=>?_;simp[ab,dS,dh,bp,aaS];(repeat (refine⟨by omega,?_⟩));refine aa _ ?_;clear aa K2));refine sxz (af _ ?_);clear af K';refine aa _ (AW.norm [1,25,26,27] [502,503] (cK rfl) (AW.st (by simp[ab,dS,dh,bp,aaS];rfl) ?_));refine bO fw ?_;(try simp only[aM,aP]);refine aV.mk (i+1) (by omega) (by omega) ?_;refine aX fw
    .obtain rfl:i=l.length:=by omega
     refine bG ?_;simp[D.le_refl,List.take_length,dh,dS]
  by_cases nO:∃ l,e = .or l
  .obtain⟨l,rfl⟩:=nO;simp only[bE]at hb;have cm:=yn G all l0 (.or l) (by omega);have wx:eQ (nmE all (.or l))=[]:=rfl;rw[wx,List.append_nil,List.singleton_append]at cm;have jJ:=fun (x:Ex) (hx:x∈l)=>ih x (by have:=List.sizeOf_lt_of_mem hx;simp only[Ex.or.sizeOf_spec]at aK;omega);have ld:=pO l;rw[ck];rw[dE,oC];rw[dE,oC]at cm;clear ih;generalize hg:me all=g at jJ cm ⊢;refine MC.aC (aay _) func199 rfl rfl (rs:=[]) results199 (by simp[ntmps199]) rfl fun X=>?_;simp only[ntmps199];have fw:=(Aq @ab.eq_1 (Aq @dS.eq_1 (Aq @dh.eq_1 (Aq @bp.eq_1 (Aq @bp.eq_2 @aaS.eq_1)))));refine rgm fw cm [0,1] [502,503] ?_;refine rgq fw [1,14] [502,503] ?_;refine aU ?_;refine rgq fw [1,14,16,17] [502,503] ?_;refine ag rfl ?_;refine rgq fw [1,14,23,24] [502,503] ?_;refine ag rfl ?_;refine rgq fw [1,36,37] [502,503] ?_;refine aax rfl ?_;refine rgq fw [1,8] [502,503] ?_;refine rgq fw [1,38,39,40] [502,503] ?_;refine bZ (S:=Nat) (fun i=>i<=l.length) (fun i=>⟨lst [(1,.fn (.func 200) [.d (.ip [.fn (.func g) []]),.ref 502 0 0]),(38,.d (.sl none (l.map fun e=>[dE e]))),(39,int l.length),(40,int i)],ak (dh (l0 ++ abu all (l.take i)))⟩) (fun i=>l.length - i) 0 ?_ (by omega) ?_
   .refine aX (Aq fw (Aq @abu.eq_1 @abu.eq_2))
   .intro i hi;refine rgq fw [1,38,39,40,41] [502,503] ?_;refine ae fun K1 au=>?_;refine dw (b:=i < l.length) (by simp[D.le,D.le.go,aaA,ab,dS,dh,bp,aaS]) (fun hc=>?_) (fun hc=>?_)
    .have c6:i < l.length:=hc;have h1:=DX all c6;have h2:=w5 all (l.take i);have h3:=A7 c6;have bW:=jJ _ (List.getElem_mem c6) (l0 ++ abu all (l.take i)) (by rw[List.length_append];omega);rw[List.append_assoc,<- h1]at bW;obtain⟨tx,cx,hx⟩:=ach l[i];rw[hx]at bW;refine ah (au _ ?_);refine ae fun K2 aa=>?_;refine aU ?_;have qf:=(Aq fw (Aq @c6 @hx));refine al [1,10,38,39,40] [502,503] ?_;refine abl (aay _) fun K' af=>?_;(repeat (refine sxn fun K2 aa=>?_;simp[ab,dS,dh,bp,aaS];(repeat (refine⟨by omega,?_⟩));refine aa _ ?_;clear aa K2));refine sxn fun K2 aa=>?_;simp[ab,dS,dh,bp,aaS];refine aaT.mc (bW) ?_ ?_ ?_ ?_ ?_<;>simp[ab,dS,dh,bp,aaS];refine aa _ ?_;clear aa K2;(repeat (refine sxn fun K2 aa=>?_;simp[ab,dS,dh,bp,aaS];(repeat (refine⟨by omega,?_⟩));refine aa _ ?_;clear aa K2));refine sxz (af _ ?_);clear af K';refine aa _ (AW.norm [1,38,39,40] [502,503] (cK rfl) (AW.st (by simp[ab,dS,dh,bp,aaS];rfl) ?_));refine bO fw ?_;(try simp only[aM,aP]);refine aV.mk (i+1) (by omega) (by omega) ?_;refine aX fw
    .obtain rfl:i=l.length:=by omega
     refine bG ?_;simp[D.le_refl,List.take_length,dh,dS]
  have hk:∃ t c,dE e = .bA t c/\¬ t=114/\¬ t=192/\¬ t=116/\ck all e=eQ (nmE all e):=by
   cases e with
   | not z=>exact absurd ⟨z,rfl⟩ hN
   | and l=>exact absurd ⟨l,rfl⟩ hand
   | or l=>exact absurd ⟨l,rfl⟩ nO
   | cst b=>exact⟨_,_,by rw[dE],by decide,by decide,by decide,rfl⟩
   | bit s=>exact⟨_,_,by rw[dE],by decide,by decide,by decide,rfl⟩
   | abP s=>exact⟨_,_,by rw[dE],by decide,by decide,by decide,rfl⟩
   | fS s=>exact⟨_,_,by rw[dE],by decide,by decide,by decide,rfl⟩
  obtain⟨t,c,hy,h1,h2,h3,h4⟩:=hk;have cm:=yn G all l0 e (by omega);rw[List.singleton_append]at cm;rw[h4,hy];rw[hy]at cm;generalize l0 ++ eQ (nmE all e)=l1 at cm ⊢;generalize me all=g at cm ⊢;refine MC.aC (aay _) func199 rfl rfl (rs:=[]) results199 (by simp[ntmps199]) rfl fun X=>?_;simp only[ntmps199];have fw:=(Aq @ab.eq_1 (Aq @dS.eq_1 (Aq @dh.eq_1 (Aq @bp.eq_1 (Aq @bp.eq_2 @aaS.eq_1)))));refine rgm fw cm [0,1] [502,503] ?_;refine rgq fw [1,14] [502,503] ?_;refine aU ?_;have qf:=(Aq fw @h1);refine al [1,14,16,17] [502,503] ?_;refine ag rfl ?_;have qf:=(Aq fw @h2);refine al [1,14,23,24] [502,503] ?_;refine ag rfl ?_;have qf:=(Aq fw @h3);refine al [1,36,37] [502,503] ?_;refine ag rfl ?_;refine ah ?_;simp[D.le_refl,dh,dS]
def du (all:Bool) (e:Ex):List (List UInt8):=Lib.compact (jW (ck all e))
theorem KY (G:ao) (all:Bool) (e:Ex) (hb:bE e<=2^28):ar prog G 156 [dE e,.fn (.func (me all)) []] (.sl none ((du all e).map fun s=>[dS s])):=by
 have hlen:=sB all e;have hw:=Yv G all _ e (Nat.le_refl _) [] (by simp;omega);rw[List.nil_append]at hw;have r3:=Xl G 503 9 (ck all e) (by omega);have lM:=Ns G 503 9 (jW (ck all e)) (by rw[adM];omega);rw[adM]at lM;have hcl:=Lib.compact_length_le (jW (ck all e));rw[adM]at hcl;unfold du;obtain⟨tx,cx,hx⟩:=ach e;rw[hx]at hw ⊢;generalize me all=g at hw ⊢;generalize ck all e=l at hw r3 lM hcl hlen ⊢;generalize jW l=z at r3 lM hcl ⊢
 have cy:List.take (Lib.compact z).length ((Lib.compact z ++ List.replicate (l.length - (Lib.compact z).length) []).map fun s=>[dS s])=(Lib.compact z).map fun s=>[dS s]:=by
  rw[List.map_append,List.take_append_of_le_length (by simp),List.take_of_length_le (by simp)]
 have Df:(Lib.compact z ++ List.replicate (l.length - (Lib.compact z).length) []).length=l.length:=by simp;omega
 generalize Lib.compact z ++ List.replicate (l.length - (Lib.compact z).length) []=y at lM cy Df;generalize Lib.compact z=c at lM hcl cy ⊢;refine ar.aC (aay _) func156 rfl rfl (rs:=[.tmp 4]) results156 (by simp[ntmps156]) fun X=>?_;simp only[ntmps156,List.map];have fw:=(Aq @ab.eq_1 (Aq @dS.eq_1 (Aq @dh.eq_1 (Aq @bp.eq_1 (Aq @bp.eq_2 @aaS.eq_1)))));refine rgq fw [0,3] [3] ?_;refine aa1 fw 3 ?_;refine rgq fw [0,3,5] [5] ?_;refine AW.imp (aB.ren (r:=5) (r':=502) trivial (by simp)) ?_;refine AW.st (by simp[abI,abH,Go.Av.ren,afn];rfl) ?_;refine AW.imp (aB.mL 502 0 503 9 1 rfl rfl rfl) ?_;refine AW.imp (τ:=⟨lst [(0,.d (.bA tx cx)),(3,.d (.ip [.fn (.func g) []])),(5,.ref 502 0 0)],ak (dh [])⟩) ?_ ?_
 .refine aX (Aq fw @dh.eq_1)
 refine rgm fw hw [5] [502,503] ?_;refine rgm fw r3 [5] [502,503] ?_;refine rgm fw lM [4] [502,503] ?_
 have hle:c.length<=y.length:=by omega
 by_cases oY:c.length=y.length
 .have lS:(y.map fun s=>[dS s])=c.map fun s=>[dS s]:=by rw[<- cy,oY,List.take_of_length_le (by simp)]
  simp only[dS]at lS;refine AW.imp (aB.freeze 503 trivial) ?_;refine AW.st (by simp[ab,dS,dh,bp,aaS,oY,hle,lS];rfl) ?_;exact aG (Aq fw (Aq @oY @lS))
 .simp only[dS]at cy;refine AW.imp (aB.freeze 503 trivial) ?_;refine AW.st (by simp[ab,dS,dh,bp,aaS,oY,hle,cy];rfl) ?_;exact aG (Aq fw @cy)
theorem U3 (G:ao) (e:Ex) (hb:bE e<=2^28):ar prog G 109 [dE e] (.sl none ((du true e).map fun s=>[dS s])):=by
 have hs:=KY G true e hb;obtain⟨tx,cx,hx⟩:=ach e;rw[hx]at hs ⊢;generalize du true e=l at hs ⊢;simp only[me,if_true,if_false,Bool.false_eq_true]at hs;refine ar.aC (aay _) func109 rfl rfl (rs:=[.tmp 2]) results109 (by simp[ntmps109]) fun X=>?_;simp only[ntmps109,List.map];have fw:=(Aq @ab.eq_1 (Aq @dS.eq_1 (Aq @dh.eq_1 (Aq @bp.eq_1 (Aq @bp.eq_2 @aaS.eq_1)))));refine rgq fw [0] [] ?_;refine aR fw hs [2] [] ?_;exact aG fw
theorem NW (G:ao) (e:Ex) (hb:bE e<=2^28):ar prog G 127 [dE e] (.sl none ((du false e).map fun s=>[dS s])):=by
 have hs:=KY G false e hb;obtain⟨tx,cx,hx⟩:=ach e;rw[hx]at hs ⊢;generalize du false e=l at hs ⊢;simp only[me,if_true,if_false,Bool.false_eq_true]at hs;refine ar.aC (aay _) func127 rfl rfl (rs:=[.tmp 2]) results127 (by simp[ntmps127]) fun X=>?_;simp only[ntmps127,List.map];have fw:=(Aq @ab.eq_1 (Aq @dS.eq_1 (Aq @dh.eq_1 (Aq @bp.eq_1 (Aq @bp.eq_2 @aaS.eq_1)))));refine rgq fw [0] [] ?_;refine aR fw hs [2] [] ?_;exact aG fw
abbrev Tx:=List UInt8
theorem EY (a:Tx):¬ a < a:=List.lt_irrefl a
theorem Lr {a b c:Tx} (h1:a < b) (h2:b < c):a < c:=List.lt_trans h1 h2
theorem xH {a b:Tx}:a<=b↔¬ b < a:=Iff.rfl
theorem Ls {a b:Tx} (h1:¬ a < b) (h2:¬ b < a):a=b:=List.le_antisymm (xH.2 h2) (xH.2 h1)
def ja (s:Tx):List Tx->List Tx
 | []=>[s]
 | y :: l=>if y < s then y :: ja s l else if y=s then y :: l else s :: y :: l
theorem Io (s:Tx):∀ (l:List Tx) (k:Nat),k<=l.length->(∀ i (hi:i < l.length),i < k->l[i] < s)->(∀ hk:k < l.length,¬ l[k] < s)->
  ja s l=if (∃ hk:k < l.length,l[k]=s) then l else l.take k ++ s :: l.drop k
 | [],k,hk,_,_=>by
  obtain rfl:k=0:=by simpa using hk
  simp[ja]
 | y :: l,0,_,_,h2=>by
  have h3:¬ y < s:=h2 (by simp);rw[ja,if_neg h3];by_cases he:y=s
  .rw[if_pos he,if_pos ⟨by simp,he⟩]
  .rw[if_neg he,if_neg (fun ⟨_,h⟩=>he h)];simp
 | y :: l,k+1,hk,h1,h2=>by
  have h3:y < s:=h1 0 (by simp) (by omega);rw[ja,if_pos h3,Io s l k (by simpa using hk) (fun i hi wb=>h1 (i+1) (by simpa using hi) (by omega)) (fun hk2=>h2 (by simpa using hk2))];by_cases he:∃ hk:k < l.length,l[k]=s
  .rw[if_pos he,if_pos (by obtain⟨a,b⟩:=he;exact⟨by simpa using a,b⟩)]
  .rw[if_neg he,if_neg (fun ⟨a,b⟩=>he ⟨by simpa using a,b⟩)];simp
theorem Dk {s x:Tx}:∀ {l:List Tx},x∈ja s l↔x=s\/x∈l
 | []=>by simp[ja]
 | y :: l=>by
  rw[ja];by_cases h1:y < s
  .rw[if_pos h1,List.mem_cons,Dk,List.mem_cons];constructor
   .rintro (h | h | h)<;>simp[h]
   .rintro (h | h | h)<;>simp[h]
  .rw[if_neg h1];by_cases h2:y=s
   .rw[if_pos h2];subst h2;simp
   .rw[if_neg h2];simp
theorem Iq (s:Tx):∀ {l:List Tx},l.Pairwise (· < ·)->(ja s l).Pairwise (· < ·)
 | [],_=>by simp[ja]
 | y :: l,h=>by
  obtain⟨ha,hb⟩:=List.pairwise_cons.1 h;rw[ja];by_cases h1:y < s
  .rw[if_pos h1];refine List.pairwise_cons.2 ⟨fun x hx=>?_,Iq s hb⟩
   rcases Dk.1 hx with rfl | hx
   .exact h1
   .exact ha x hx
  .rw[if_neg h1];by_cases h2:y=s
   .rw[if_pos h2];exact h
   .rw[if_neg h2];have h3:s < y:=Classical.byContradiction fun hn=>h2 (Ls h1 hn);refine List.pairwise_cons.2 ⟨fun x hx=>?_,h⟩
    rcases List.mem_cons.1 hx with rfl | hx
    .exact h3
    .exact Lr h3 (ha x hx)
theorem Ip (s:Tx):∀ l:List Tx,(ja s l).length<=l.length+1
 | []=>by simp[ja]
 | y :: l=>by
  have:=Ip s l;rw[ja];split
  .simp;omega
  .split<;>simp
def iZ (l ss:List Tx):List Tx:=ss.foldl (fun l s=>ja s l) l
theorem Il (l:List Tx):iZ l []=l:=rfl
theorem Ij (l a b:List Tx):iZ l (a ++ b)=iZ (iZ l a) b:=List.foldl_append ..
theorem Dj:∀ (ss l:List Tx),(iZ l ss).length<=l.length+ss.length
 | [],l=>by simp[iZ]
 | s :: ss,l=>by
  have h1:=Dj ss (ja s l);have h2:=Ip s l;have h3:iZ l (s :: ss)=iZ (ja s l) ss:=rfl;rw[h3,List.length_cons];omega
theorem Ik {x:Tx}:∀ (ss l:List Tx),x∈iZ l ss↔x∈l\/x∈ss
 | [],l=>by simp[iZ]
 | s :: ss,l=>by
  have h3:iZ l (s :: ss)=iZ (ja s l) ss:=rfl;rw[h3,Ik ss,Dk,List.mem_cons];constructor
  .rintro ((h | h) | h)<;>simp[h]
  .rintro (h | h | h)<;>simp[h]
theorem Im:∀ (ss l:List Tx),l.Pairwise (· < ·)->(iZ l ss).Pairwise (· < ·)
 | [],l,h=>h
 | s :: ss,l,h=>Im ss _ (Iq s h)
theorem afS:∀ {a b:List Tx},a.Pairwise (· < ·)->b.Pairwise (· < ·)->(∀ x,x∈a↔x∈b)->a=b
 | [],[],_,_,_=>rfl
 | [],y :: b,_,_,h=>absurd ((h y).2 (by simp)) (by simp)
 | x :: a,[],_,_,h=>absurd ((h x).1 (by simp)) (by simp)
 | x :: a,y :: b,ha,hb,h=>by
  obtain⟨ha1,ha2⟩:=List.pairwise_cons.1 ha;obtain⟨cY,dA⟩:=List.pairwise_cons.1 hb
  have wN:x=y:=by
   rcases List.mem_cons.1 ((h x).1 (by simp))with e | hx
   .exact e
   .rcases List.mem_cons.1 ((h y).2 (by simp))with e | hy
    .exact e.symm
    .exact absurd (Lr (cY x hx) (ha1 y hy)) (EY _)
  subst wN;rw[afS ha2 dA fun z=>?_];constructor
  .intro hz
   rcases List.mem_cons.1 ((h z).1 (by simp[hz]))with e | e
   .subst e;exact absurd (ha1 z hz) (EY _)
   .exact e
  .intro hz
   rcases List.mem_cons.1 ((h z).2 (by simp[hz]))with e | e
   .subst e;exact absurd (cY z hz) (EY _)
   .exact e
theorem DM (d:Array Tx):∀ (m:Nat),m<=d.size->∀ j,j < m->d[j]!∈Lib.compactUpTo d m
 | 0,_,j,h=>by omega
 | m+1,hm,j,hj=>by
  rw[Lib.compactUpTo_succ];by_cases yS:j < m
  .exact List.mem_append_left _ (DM d m (by omega) j yS)
  .obtain rfl:j=m:=by omega
   by_cases hk:Lib.keeps d j=true
   .exact List.mem_append_right _ (by simp[hk])
   .have jt:j≠0:=by rintro rfl;exact hk (Lib.keeps_lt_one d 0 (by omega))
    have he:d[j]! = d[j - 1]!:=by
     unfold Lib.keeps at hk;simp[jt]at hk
     first | exact hk | exact hk.symm
    rw[he];exact List.mem_append_left _ (DM d j (by omega) (j - 1) (by omega))
theorem afF (d:Array Tx):∀ (m:Nat),m<=d.size->∀ x∈Lib.compactUpTo d m,∃ j,j < m/\x=d[j]!
 | 0,_,x,h=>by simp[Lib.compactUpTo]at h
 | m+1,hm,x,h=>by
  rw[Lib.compactUpTo_succ]at h
  rcases List.mem_append.1 h with h | h
  .obtain⟨j,hj,e⟩:=afF d m (by omega) x h;exact⟨j,by omega,e⟩
  .split at h
   .simp at h;exact⟨m,by omega,h⟩
   .simp at h
theorem Lx (d:Array Tx) (hs:∀ i j,i<=j->j < d.size->d[i]!<=d[j]!):∀ (m:Nat),m<=d.size->(Lib.compactUpTo d m).Pairwise (· < ·)
 | 0,_=>by simp[Lib.compactUpTo]
 | m+1,hm=>by
  have ih:=Lx d hs m (by omega);rw[Lib.compactUpTo_succ];by_cases hk:Lib.keeps d m=true
  .rw[if_pos hk,List.pairwise_append];refine⟨ih,by simp,fun a ha b hb=>?_⟩;rw[List.mem_singleton]at hb;subst hb;obtain⟨j,hj,rfl⟩:=afF d m (by omega) a ha
   have aO:d[m]!≠d[m - 1]!:=by
    intro he;rw[Lib.keeps_neg (by omega) he]at hk;cases hk
   have h1:=hs j (m - 1) (by omega) (by omega);have h2:=hs (m - 1) m (by omega) (by omega);have h3:d[m - 1]! < d[m]!:=Classical.byContradiction fun hn=>aO (Ls (xH.1 h2) hn)
   exact Classical.byContradiction fun hn=>by
    have h4:d[m]!<=d[j]!:=xH.2 hn;exact (xH.1 (List.le_trans h4 h1)) h3
  .rw[if_neg hk,List.append_nil];exact ih
theorem U4 (all:Bool) (e:Ex):(du all e).Pairwise (· < ·):=by
 unfold du Lib.compact;refine Lx _ (fun i j hij hj=>?_) _ (by simp)
 have hp:(jW (ck all e)).Pairwise (·<=·):=by
  unfold jW;have:=List.pairwise_mergeSort (le:=fun x y:Tx=>decide (x<=y)) (by intro a b c h1 h2;simp only[decide_eq_true_eq]at *;exact List.le_trans h1 h2) (by intro a b;simp only[Bool.or_eq_true,decide_eq_true_eq];exact List.le_total a b) (ck all e)
  exact this.imp fun h=>by simpa using h
 generalize jW (ck all e)=l at hp hj ⊢
 have hj':j < l.length:=by simpa using hj
 rw[getElem!_pos l.toArray i (by simpa using (by omega:i < l.length)),getElem!_pos l.toArray j (by simpa using hj')];simp only[List.getElem_toArray];by_cases he:i=j
 .subst he;exact List.le_refl _
 .exact (List.pairwise_iff_getElem.1 hp) i j (by omega) hj' (by omega)
theorem ae4 {all:Bool} {e:Ex} {s:Tx}:s∈du all e↔s∈ck all e:=by
 unfold du
 have h0:∀ l:List Tx,s∈Lib.compact l↔s∈l:=by
  intro l;unfold Lib.compact;constructor
  .intro h;obtain⟨j,hj,rfl⟩:=afF l.toArray l.length (by simp) s h;rw[getElem!_pos l.toArray j (by simpa using hj)];simp
  .intro h;obtain⟨j,hj,rfl⟩:=List.mem_iff_getElem.1 h;have:=DM l.toArray l.length (by simp) j hj;rw[getElem!_pos l.toArray j (by simpa using hj)]at this;simpa using this
 rw[h0];unfold jW;exact List.mem_mergeSort
theorem R0 (all:Bool) (e:Ex):iZ [] (ck all e)=du all e:=by
 refine afS (Im _ _ (by simp)) (U4 all e) fun x=>?_;rw[Ik,ae4];simp
def sr:Ex->List UInt8
 | .cst b=>[if b then 49 else 48]
 | .bit _=>[98,105,116]
 | .abP _=>[94]
 | .fS _=>[126]
 | .not _=>[33]
 | .and _=>[38]
 | .or _=>[124]
def nq:Ex->List UInt8
 | .bit s=>s
 | .abP s=>s
 | .fS s=>s
 | _=>[]
def w7:Ex->D
 | .not e=>.sl none [[dR e]]
 | .and l=>.sl none (rb l)
 | .or l=>.sl none (rb l)
 | _=>cX
theorem nF (e:Ex):dR e = .ip [dS (sr e),dS (nq e),w7 e]:=by cases e<;>simp[dR,sr,nq,w7]
theorem acE (k:List UInt8) (arr:Array UInt8):aS .eql (bs k) ⟨arr⟩=some (True,.bool (decide (k=arr.toList))):=by
 have h:(bs k).toList=k:=aZ k
 have h2:(⟨arr⟩:ByteArray).toList=arr.toList:=by rw[ByteArray.toList_eq]
 unfold aS;dsimp only;rw[h,h2];congr 3;by_cases e:k=arr.toList
 .subst e;simp
 .rw[decide_eq_false e,beq_eq_false_iff_ne.2 e]
theorem z6 {r r' s:Nat} (h:r≠r') (hs:s≠r') (hr:s≠r) (row sJ:Row):mB r r' (ak [(s,sJ),(r,row)])=ak [(s,sJ.tr (abI r r') (abH r r')),(r',row.tr (abI r r') (abH r r'))]:=by
 funext q;unfold mB;by_cases h1:q=r'
 .subst h1;simp[ak,List.lookup,beq_eq_false_iff_ne.2 (Ne.symm hs),beq_eq_false_iff_ne.2 (Ne.symm hr)]
 .rw[if_neg h1];by_cases h2:q=r
  .subst h2;simp[ak,List.lookup,beq_eq_false_iff_ne.2 h1,beq_eq_false_iff_ne.2 (Ne.symm hr)]
  .by_cases h3:q=s
   .subst h3;simp[ak,List.lookup,h2,beq_eq_false_iff_ne.2 h1,beq_eq_false_iff_ne.2 h2]
   .simp[ak,List.lookup,h2,beq_eq_false_iff_ne.2 h1,beq_eq_false_iff_ne.2 h2,beq_eq_false_iff_ne.2 h3]
def iK:Option Ex->D
 | some x=>dR x
 | none=>.v (.pointer none)
theorem LC (G:ao) (t:List UInt8) (ht:t.length<=2000):Reads G t [500] [] 144 [.ref 500 0 0,.d (ab 0)] 20 (ic t (bT t 20)):=
 J5 G t ht 0 20 (VE G t ht 20 0 (Nat.le_refl _) rfl)
theorem D9 {t:List UInt8} {c:Int} {p:Option Nat} (h:(fF t).2=some (c,p)):0 < c:=by
 unfold fF at h;split at h
 .simp at h;omega
 .rename_i hl;obtain⟨yF,kF,hr⟩:=LC (fun _=>none) t (by omega);split at h
  .rename_i c' p' q' he;simp at h;have:=(hr 0 (Nat.zero_le _)).2 _ _ _ he;omega
  .split at h
   .simp at h;omega
   .cases h
theorem xd {t:List UInt8} (h:(fF t).2=none):∃ x,(fF t).1=some x:=by
 unfold fF at h ⊢;split at h
 .cases h
 .rw[if_neg ‹_›];split at h
  .cases h
  .split at h
   .cases h
   .rw[if_neg ‹_›];exact⟨_,rfl⟩
theorem WK (G:ao) (hF:pK G) (t:List UInt8) (ht:t.length < 2^60):ar prog G 93 [dS t] (.tup [iK (fF t).1,aa0 (fF t).2]):=by
 unfold fF;unfold pK at hF;by_cases hl:2000 < t.length
 .have eG:(2000:Int) < (t.length:Int):=by omega
  have hb:=xV G 4;rw[if_pos hl];refine ar.aC (aay _) func93 rfl rfl (rs:=[.tmp 2,.cell 3 124]) results93 (by simp[ntmps93]) fun X=>?_;simp only[ntmps93,List.map];have fw:=(Aq @ab.eq_1 (Aq @aaI.eq_1 @dS.eq_1));refine rgq fw [0,3] [3] ?_;refine ae fun K1 au=>?_;have qf:=(Aq fw (Aq @bl (Aq @hl @eG)));refine al [0,3,8] [3] ?_;refine aax rfl ?_;refine aR fw hb [2,3] [3] ?_;exact aG (Aq fw (Aq @iK.eq_1 (Aq @iK.eq_2 (Aq @aa0.eq_1 (Aq @codeF.eq_1 (Aq @codeF.eq_2 (Aq @bx.eq_1 @bx.eq_2)))))))
 have eG:¬ (2000:Int) < (t.length:Int):=by omega
 rw[if_neg hl];obtain⟨yF,kF,hr⟩:=LC G t (by omega);have hc:=(hr 0 (Nat.zero_le _)).1;have he:=(hr 0 (Nat.zero_le _)).2
 cases ho:ic t (bT t 20) 0 with
 | err c p q=>
  rw[ho]at hc;obtain⟨h1,h2,h3⟩:=he _ _ _ ho
  have h0:¬ c=0:=by omega
  generalize yF 0=y at hc h2;generalize kF 0=k at hc h3;refine ar.aC (aay _) func93 rfl rfl (rs:=[.tmp 2,.cell 3 124]) results93 (by simp[ntmps93]) fun X=>?_;simp only[ntmps93,List.map];have fw:=(Aq @ab.eq_1 (Aq @aaI.eq_1 @dS.eq_1));refine rgq fw [0,3] [3] ?_;refine ae fun K1 au=>?_;have qf:=(Aq fw (Aq @bl (Aq @hl @eG)));refine al [0,3,8] [3] ?_;refine ag rfl ?_;refine ah (au _ ?_);have qf:=(Aq fw @hF);refine al [0,3,4] [3,13] ?_;refine AW.imp (aB.ren (r:=13) (r':=500) trivial (by simp)) ?_;refine AW.st (by simp[abI,abH,Go.Av.ren,z6];rfl) ?_;refine rgm (Aq fw (Aq @gC.eq_1 (Aq @gC.eq_2 (Aq @gg.eq_1 (Aq @gg.eq_2 (Aq @eR.eq_1 (Aq @eR.eq_2 (Aq @pR.eq_1 @pR.eq_2)))))))) hc [0,3,4,5] [3,500] ?_;refine ae fun K2 aa=>?_;have qf:=(Aq fw @h0);refine al [3,4,5,43] [3,500] ?_;refine ag rfl ?_;refine ah (aa _ ?_);refine ae fun K3 aH=>?_;have qf:=(Aq fw @h0);refine al [3,4,5,51] [3,500] ?_;refine aax rfl ?_;refine kY (aay _) (by kernel_rfl) [(3,500),(5,3)] [2,3] [3,500] (fun _ _=>trivial) (by kernel_rfl) fun K' af=>?_;(repeat (refine gk fun K2 aa=>?_;simp[ab,aaI,dS];(repeat (refine⟨by omega,?_⟩));refine aa _ ?_;clear aa K2));refine ab8 (af _ ?_);refine AW.st (by simp[ab,aaI,dS];rfl) ?_;clear af K';exact aG (Aq fw (Aq @iK.eq_1 (Aq @iK.eq_2 (Aq @aa0.eq_1 (Aq @codeF.eq_1 (Aq @codeF.eq_2 (Aq @bx.eq_1 @bx.eq_2)))))))
 | ok x k=>
  rw[ho]at hc;dsimp only[gC,gg,eR,pR]at hc;have hk:=(adZ (acX t 20) 0 x k (Nat.zero_le _) ho).2;have eI:=xh G t k (by omega) hk 0 (-1);have hk2:=acL hk;have dO:=xf G t (aaD t k) (by omega) hk2 3;rw[sN hk]at dO
  have kJ:aaD t k < t.length\/lq t k=0:=by
   by_cases h:aaD t k < t.length
   .exact .inl h
   .exact .inr (by unfold lq;rw[List.getD_eq_getElem?_getD,List.getElem?_eq_none (by omega)];rfl)
  obtain⟨cx,hx⟩:=aey x;dsimp only;generalize aaD t k=j at eI hk2 dO kJ ⊢;generalize lq t k=b at eI kJ;by_cases hj:j < t.length
  .have hj':(j:Int) < (t.length:Int):=by omega
   rw[if_pos hj];rw[hx]at hc;by_cases hb:((b.toNat:Int)=0)
   .have oT:b.toNat=0:=by omega
    refine ar.aC (aay _) func93 rfl rfl (rs:=[.tmp 2,.cell 3 124]) results93 (by simp[ntmps93]) fun X=>?_;simp only[ntmps93,List.map];have fw:=(Aq @ab.eq_1 (Aq @aaI.eq_1 @dS.eq_1));refine rgq fw [0,3] [3] ?_;refine ae fun K1 au=>?_;have qf:=(Aq fw (Aq @bl (Aq @hl @eG)));refine al [0,3,8] [3] ?_;refine ag rfl ?_;refine ah (au _ ?_);have qf:=(Aq fw @hF);refine al [0,3,4] [3,13] ?_;refine AW.imp (aB.ren (r:=13) (r':=500) trivial (by simp)) ?_;refine AW.st (by simp[abI,abH,Go.Av.ren,z6];rfl) ?_;refine rgm fw hc [0,3,4,5] [3,500] ?_;refine ae fun K2 aa=>?_;have qf:=(Aq fw (Aq @hb (Aq @oT (Aq @bl (Aq @hj @hj')))));refine ab6 eI [3,4,5,43] [3,500] ?_;refine aax rfl ?_;refine abl (aay _) fun K' af=>?_;(repeat (refine sxn fun K2 aa=>?_;simp[ab,aaI,dS];(repeat (refine⟨by omega,?_⟩));refine aa _ ?_;clear aa K2));refine sxn fun K2 aa=>?_;simp[ab,aaI,dS];refine aaT.mc (dO) ?_ ?_ ?_ ?_ ?_<;>simp[ab,aaI,dS];refine aa _ ?_;clear aa K2;(repeat (refine sxn fun K2 aa=>?_;simp[ab,aaI,dS];(repeat (refine⟨by omega,?_⟩));refine aa _ ?_;clear aa K2));refine sxz (af _ ?_);clear af K';refine aa _ (AW.norm [3,4,5] [3,500] (fun _ _=>trivial) (AW.st (by simp[ab,aaI,dS];rfl) ?_));refine ae fun K3 aH=>?_;refine rgq fw [3,4,5,51] [3,500] ?_;refine aax rfl ?_;refine kY (aay _) (by kernel_rfl) [(3,500),(5,3)] [2,3] [3,500] (fun _ _=>trivial) (by kernel_rfl) fun K' af=>?_;(repeat (refine gk fun K2 aa=>?_;simp[ab,aaI,dS];(repeat (refine⟨by omega,?_⟩));refine aa _ ?_;clear aa K2));refine ab8 (af _ ?_);refine AW.st (by simp[ab,aaI,dS];rfl) ?_;clear af K';exact aG (Aq fw (Aq @iK.eq_1 (Aq @iK.eq_2 (Aq @aa0.eq_1 (Aq @codeF.eq_1 (Aq @codeF.eq_2 (Aq @bx.eq_1 @bx.eq_2)))))))
   .have oT:¬ b.toNat=0:=by omega
    refine ar.aC (aay _) func93 rfl rfl (rs:=[.tmp 2,.cell 3 124]) results93 (by simp[ntmps93]) fun X=>?_;simp only[ntmps93,List.map];have fw:=(Aq @ab.eq_1 (Aq @aaI.eq_1 @dS.eq_1));refine rgq fw [0,3] [3] ?_;refine ae fun K1 au=>?_;have qf:=(Aq fw (Aq @bl (Aq @hl @eG)));refine al [0,3,8] [3] ?_;refine ag rfl ?_;refine ah (au _ ?_);have qf:=(Aq fw @hF);refine al [0,3,4] [3,13] ?_;refine AW.imp (aB.ren (r:=13) (r':=500) trivial (by simp)) ?_;refine AW.st (by simp[abI,abH,Go.Av.ren,z6];rfl) ?_;refine rgm fw hc [0,3,4,5] [3,500] ?_;refine ae fun K2 aa=>?_;have qf:=(Aq fw (Aq @hb (Aq @oT (Aq @bl (Aq @hj @hj')))));refine ab6 eI [3,4,5,43] [3,500] ?_;refine aax rfl ?_;refine abl (aay _) fun K' af=>?_;(repeat (refine sxn fun K2 aa=>?_;simp[ab,aaI,dS];(repeat (refine⟨by omega,?_⟩));refine aa _ ?_;clear aa K2));refine sxn fun K2 aa=>?_;simp[ab,aaI,dS];refine aaT.mc (dO) ?_ ?_ ?_ ?_ ?_<;>simp[ab,aaI,dS];refine aa _ ?_;clear aa K2;(repeat (refine sxn fun K2 aa=>?_;simp[ab,aaI,dS];(repeat (refine⟨by omega,?_⟩));refine aa _ ?_;clear aa K2));refine sxz (af _ ?_);clear af K';refine aa _ (AW.norm [3,4,5] [3,500] (fun _ _=>trivial) (AW.st (by simp[ab,aaI,dS];rfl) ?_));refine ae fun K3 aH=>?_;refine rgq fw [3,4,5,51] [3,500] ?_;refine aax rfl ?_;refine kY (aay _) (by kernel_rfl) [(3,500),(5,3)] [2,3] [3,500] (fun _ _=>trivial) (by kernel_rfl) fun K' af=>?_;(repeat (refine gk fun K2 aa=>?_;simp[ab,aaI,dS];(repeat (refine⟨by omega,?_⟩));refine aa _ ?_;clear aa K2));refine ab8 (af _ ?_);refine AW.st (by simp[ab,aaI,dS];rfl) ?_;clear af K';exact aG (Aq fw (Aq @iK.eq_1 (Aq @iK.eq_2 (Aq @aa0.eq_1 (Aq @codeF.eq_1 (Aq @codeF.eq_2 (Aq @bx.eq_1 @bx.eq_2)))))))
  .have hj':¬ (j:Int) < (t.length:Int):=by omega
   have hb:((b.toNat:Int)=0):=by
    rcases kJ with h | h
    .exact absurd h hj
    .rw[h];rfl
   have oT:b.toNat=0:=by omega
   rw[if_neg hj];simp only[iK];rw[hx]at hc ⊢;refine ar.aC (aay _) func93 rfl rfl (rs:=[.tmp 2,.cell 3 124]) results93 (by simp[ntmps93]) fun X=>?_;simp only[ntmps93,List.map];have fw:=(Aq @ab.eq_1 (Aq @aaI.eq_1 @dS.eq_1));refine rgq fw [0,3] [3] ?_;refine ae fun K1 au=>?_;have qf:=(Aq fw (Aq @bl (Aq @hl @eG)));refine al [0,3,8] [3] ?_;refine ag rfl ?_;refine ah (au _ ?_);have qf:=(Aq fw @hF);refine al [0,3,4] [3,13] ?_;refine AW.imp (aB.ren (r:=13) (r':=500) trivial (by simp)) ?_;refine AW.st (by simp[abI,abH,Go.Av.ren,z6];rfl) ?_;refine rgm fw hc [0,3,4,5] [3,500] ?_;refine ae fun K2 aa=>?_;have qf:=(Aq fw (Aq @hb (Aq @oT (Aq @bl (Aq @hj @hj')))));refine ab6 eI [3,4,5,43] [3,500] ?_;refine ag rfl ?_;refine ah (aa _ ?_);refine ae fun K3 aH=>?_;refine rgq fw [3,4,5,51] [3,500] ?_;refine ag rfl ?_;refine ah (aH _ ?_);refine kY (aay _) (by kernel_rfl) [(3,3)] [2,3] [3,500] (fun _ _=>trivial) (by kernel_rfl) fun K' af=>?_;(repeat (refine gk fun K2 aa=>?_;simp[ab,aaI,dS,hF];(repeat (refine⟨by omega,?_⟩));refine aa _ ?_;clear aa K2));refine ab8 (af _ ?_);refine AW.st (by simp[ab,aaI,dS,hF];rfl) ?_;clear af K';exact aG (Aq fw (Aq @aa0.eq_1 (Aq @codeF.eq_1 (Aq @codeF.eq_2 (Aq @bx.eq_1 @bx.eq_2)))))
theorem Ic {α:Type} (p:α->Bool) (l:List α):decide (0<=idx p l)=l.any p:=by
 unfold idx
 cases h:l.findIdx? p with
 | none=>
  rw[List.findIdx?_eq_none_iff]at h
  have:l.any p=false:=by rw[List.any_eq_false];intro x hx;simp[h x hx]
  rw[this];simp
 | some i=>
  rw[List.findIdx?_eq_some_iff_getElem]at h;obtain⟨hi,hp,_⟩:=h;have:l.any p=true:=List.any_eq_true.2 ⟨_,List.getElem_mem hi,hp⟩;rw[this];simp
theorem Gq (is bH:List UInt8->Bool):∀ l:List Ex,tp is bH l = !(l.any fun e=>!da is bH e)
 | []=>rfl
 | e :: l=>by rw[tp,Gq is bH l];simp
theorem Gr (is bH:List UInt8->Bool):∀ l:List Ex,tq is bH l=l.any fun e=>da is bH e
 | []=>rfl
 | e :: l=>by rw[tq,Gr is bH l];simp
theorem agw (G:ao) (k:Option Bool) (xs:List Ex) (g:FuncId) (caps:List D) (p:Ex->Bool) (hl:xs.length < 2^63) (ha:∀ x∈xs,ar prog G g (dE x :: caps) (.v (.bool (p x)))) :
  ar prog G 151 [.sl k (xs.map fun x=>[dE x]),.fn (.func g) caps] (.v (.int .i64 (idx p xs))):=by
 refine ar.aC (aay _) func151 rfl rfl (rs:=[.tmp 4]) results151 (by simp[ntmps151]) fun X=>?_;simp only[ntmps151,List.map];refine aq [0,1] [] ?_;refine ae fun K1 au=>?_;refine aq [0,1,7,8] [] ?_;refine bZ (S:=Nat) (fun n=>n<=xs.length/\∀ i (hi:i < xs.length),i < n->p xs[i]=false) (fun n=>⟨lst [(0,.d (.sl k (xs.map fun x=>[dE x]))),(1,.d (.fn (.func g) caps)),(7,int xs.length),(8,int n)],ak []⟩) (fun n=>xs.length - n) 0 ?_ (by simp) ?_
 .refine aa2
 .rintro n ⟨hn,hp⟩;refine aq [0,1,7,8,9] [] ?_;refine ae fun K2 aa=>?_;refine dw (b:=n < xs.length) (by simp[D.le,D.le.go,aaA]) (fun hc=>?_) (fun hc=>?_)
  .have oQ:=ha xs[n] (by simp);refine ah (aa _ ?_);refine ae fun K3 aH=>?_;refine aU ?_;refine aq [0,1,5,7,8] [] ?_;have qf:=@hc;refine dv oQ [0,1,5,7,8,16] [] ?_;refine mH _ rfl (fun hp2=>?_) (fun hp2=>?_)
   .refine aq [4] [] ?_;refine bn ?_;simp[D.le,D.le.go,aaA];exact (sk hc hp2 fun i hi=>hp i (by omega) hi).symm
   .refine ah (aH _ ?_);refine cG ?_;(try simp only[aM,aP]);refine aV.mk (n+1) ⟨by omega,fun i hi aF=>?_⟩ (by omega) ?_
    .by_cases h:i=n
     .subst h;exact hp2
     .exact hp i hi (by omega)
    refine aa2
  .refine bG (au _ ?_);refine aq [4] [] ?_;refine bn ?_;simp[D.le,D.le.go,aaA];exact (aem fun i hi=>hp i hi (by omega)).symm
theorem Nv (G:ao) (k:Option Bool) (xs:List Ex) (g:FuncId) (caps:List D) (p:Ex->Bool) (hl:xs.length < 2^63) (ha:∀ x∈xs,ar prog G g (dE x :: caps) (.v (.bool (p x)))) :
  ar prog G 102 [.sl k (xs.map fun x=>[dE x]),.fn (.func g) caps] (.v (.bool (xs.any p))):=by
 have hi:=agw G k xs g caps p hl ha;have hd:=Ic p xs;generalize idx p xs=r at hi hd;rw[<- hd];refine ar.aC (aay _) func102 rfl rfl (rs:=[.tmp 4]) results102 (by simp[ntmps102]) fun X=>?_;simp only[ntmps102,List.map];refine aq [0,1] [] ?_;refine aR trivial hi [4] [] ?_;exact gG
theorem RX (G:ao) (k:Option Bool) (xs:List Ex) (g:FuncId) (caps:List D) (p:Ex->Bool) (hl:xs.length < 2^63) (ha:∀ x∈xs,ar prog G g (dE x :: caps) (.v (.bool (p x)))) :
  ar prog G 152 [.sl k (xs.map fun x=>[dE x]),.fn (.func g) caps] (.v (.int .i64 (idx p xs))):=by
 refine ar.aC (aay _) func152 rfl rfl (rs:=[.tmp 4]) results152 (by simp[ntmps152]) fun X=>?_;simp only[ntmps152,List.map];refine aq [0,1] [] ?_;refine ae fun K1 au=>?_;refine aq [0,1,7,8] [] ?_;refine bZ (S:=Nat) (fun n=>n<=xs.length/\∀ i (hi:i < xs.length),i < n->p xs[i]=false) (fun n=>⟨lst [(0,.d (.sl k (xs.map fun x=>[dE x]))),(1,.d (.fn (.func g) caps)),(7,int xs.length),(8,int n)],ak []⟩) (fun n=>xs.length - n) 0 ?_ (by simp) ?_
 .refine aa2
 .rintro n ⟨hn,hp⟩;refine aq [0,1,7,8,9] [] ?_;refine ae fun K2 aa=>?_;refine dw (b:=n < xs.length) (by simp[D.le,D.le.go,aaA]) (fun hc=>?_) (fun hc=>?_)
  .have oQ:=ha xs[n] (by simp);refine ah (aa _ ?_);refine ae fun K3 aH=>?_;refine aU ?_;refine aq [0,1,5,7,8] [] ?_;have qf:=@hc;refine dv oQ [0,1,5,7,8,16] [] ?_;refine mH _ rfl (fun hp2=>?_) (fun hp2=>?_)
   .refine aq [4] [] ?_;refine bn ?_;simp[D.le,D.le.go,aaA];exact (sk hc hp2 fun i hi=>hp i (by omega) hi).symm
   .refine ah (aH _ ?_);refine cG ?_;(try simp only[aM,aP]);refine aV.mk (n+1) ⟨by omega,fun i hi aF=>?_⟩ (by omega) ?_
    .by_cases h:i=n
     .subst h;exact hp2
     .exact hp i hi (by omega)
    refine aa2
  .refine bG (au _ ?_);refine aq [4] [] ?_;refine bn ?_;simp[D.le,D.le.go,aaA];exact (aem fun i hi=>hp i hi (by omega)).symm
theorem Nw (G:ao) (k:Option Bool) (xs:List Ex) (g:FuncId) (caps:List D) (p:Ex->Bool) (hl:xs.length < 2^63) (ha:∀ x∈xs,ar prog G g (dE x :: caps) (.v (.bool (p x)))) :
  ar prog G 104 [.sl k (xs.map fun x=>[dE x]),.fn (.func g) caps] (.v (.bool (xs.any p))):=by
 have hi:=RX G k xs g caps p hl ha;have hd:=Ic p xs;generalize idx p xs=r at hi hd;rw[<- hd];refine ar.aC (aay _) func104 rfl rfl (rs:=[.tmp 4]) results104 (by simp[ntmps104]) fun X=>?_;simp only[ntmps104,List.map];refine aq [0,1] [] ?_;refine aR trivial hi [4] [] ?_;exact gG
mutual
def fH (S1 S2:List UInt8->Prop):Ex->Prop
 | .cst _=>True
 | .bit s=>S1 s
 | .abP s=>S1 s/\S2 s
 | .fS s=>S1 s/\S2 s
 | .not e=>fH S1 S2 e
 | .and l=>om S1 S2 l
 | .or l=>om S1 S2 l
def om (S1 S2:List UInt8->Prop):List Ex->Prop
 | []=>True
 | e :: l=>fH S1 S2 e/\om S1 S2 l
end
theorem u6 {S1 S2:List UInt8->Prop}:∀ {l:List Ex},om S1 S2 l↔∀ x∈l,fH S1 S2 x
 | []=>by simp[om]
 | e :: l=>by rw[om,u6];simp
def l9 (S:List UInt8->Prop) (G:ao) (g:FuncId) (caps:List D) (p:List UInt8->Bool):Prop:=∀ s,S s->ar prog G g (dS s :: caps) (.v (.bool (p s)))
theorem eval_at (G:ao) (g1 g2:FuncId) (c1 c2:List D) (is bH:List UInt8->Bool) (S1 S2:List UInt8->Prop) (h1:l9 S1 G g1 c1 is) (h2:l9 S2 G g2 c2 bH):∀ (n:Nat) (e:Ex),SizeOf.sizeOf e<=n->fH S1 S2 e->bE e<=2^28->ar prog G 51 [dE e,.fn (.func g1) c1,.fn (.func g2) c2] (.v (.bool (da is bH e))):=by
 intro n
 induction n with
 | zero=>intro e aK;cases e<;>simp at aK
 | succ n ih=>
  intro e aK eY hb;have fw:=(Aq @ab.eq_1 (Aq @dS.eq_1 (Aq @bp.eq_1 (Aq @bp.eq_2 @aaS.eq_1))))
  cases e with
  | cst b=>
   rw[dE];refine ar.aC (aay _) func51 rfl rfl (rs:=[.tmp 6]) results51 (by simp[ntmps51]) fun X=>?_;simp only[ntmps51,List.map];refine rgq fw [0,4,5] [4,5] ?_;refine aa1 fw 4 ?_;refine aa1 fw 5 ?_;refine ae fun K1 au=>?_;refine rgq fw [4,5,14] [] ?_;refine aU ?_;refine rgq fw [4,5,14,16,17] [] ?_;refine aax rfl ?_;refine rgq fw [7] [] ?_;refine rgq fw [6] [] ?_;refine bn ?_;simp[D.le,D.le.go,aaA,ab,dS,bp,aaS,da]
  | bit s=>
   rw[fH]at eY;have hi:=h1 s eY;rw[dE,da];refine ar.aC (aay _) func51 rfl rfl (rs:=[.tmp 6]) results51 (by simp[ntmps51]) fun X=>?_;simp only[ntmps51,List.map];refine rgq fw [0,4,5] [4,5] ?_;refine aa1 fw 4 ?_;refine aa1 fw 5 ?_;refine ae fun K1 au=>?_;refine rgq fw [4,5,14] [] ?_;refine aU ?_;refine rgq fw [4,5,14,16,17] [] ?_;refine ag rfl ?_;refine rgq fw [4,5,14,20,21] [] ?_;refine aax rfl ?_;refine rgq fw [4,8] [] ?_;refine aR fw hi [6] [] ?_;exact aG fw
  | abP s=>
   rw[fH]at eY;have hi:=h1 s eY.1;have hw:=h2 s eY.2;rw[dE,da]
   cases hs:is s with
   | false=>
    rw[hs]at hi;refine ar.aC (aay _) func51 rfl rfl (rs:=[.tmp 6]) results51 (by simp[ntmps51]) fun X=>?_;simp only[ntmps51,List.map];refine rgq fw [0,4,5] [4,5] ?_;refine aa1 fw 4 ?_;refine aa1 fw 5 ?_;refine ae fun K1 au=>?_;refine rgq fw [4,5,14] [] ?_;refine aU ?_;refine rgq fw [4,5,14,16,17] [] ?_;refine ag rfl ?_;refine rgq fw [4,5,14,20,21] [] ?_;refine ag rfl ?_;refine rgq fw [4,5,14,26,27] [] ?_;refine aax rfl ?_;refine rgq fw [4,5,9] [] ?_;refine aR fw hi [6] [] ?_;exact aG fw
   | true=>
    rw[hs]at hi;refine ar.aC (aay _) func51 rfl rfl (rs:=[.tmp 6]) results51 (by simp[ntmps51]) fun X=>?_;simp only[ntmps51,List.map];refine rgq fw [0,4,5] [4,5] ?_;refine aa1 fw 4 ?_;refine aa1 fw 5 ?_;refine ae fun K1 au=>?_;refine rgq fw [4,5,14] [] ?_;refine aU ?_;refine rgq fw [4,5,14,16,17] [] ?_;refine ag rfl ?_;refine rgq fw [4,5,14,20,21] [] ?_;refine ag rfl ?_;refine rgq fw [4,5,14,26,27] [] ?_;refine aax rfl ?_;refine rgq fw [4,5,9] [] ?_;refine rg [6] [] (fun _ _=>trivial) fun K' af=>?_;(repeat (refine sxn fun K2 aa=>?_;simp[ab,dS,bp,aaS];(repeat (refine⟨by omega,?_⟩));refine aa _ ?_;clear aa K2));refine sxn fun K2 aa=>?_;simp[ab,dS,bp,aaS];refine aaT.data (hi) (by simp;rfl) (by first | exact D.aaE _ | simp[aaA,List.map_map,Function.comp_def,D.le,D.le.go,D.le_refl,D.aaE,ab,dS,bp,aaS]) ?_;refine aa _ ?_;clear aa K2;simp only[aD,cu];(repeat (refine sxn fun K2 aa=>?_;simp[ab,dS,bp,aaS];(repeat (refine⟨by omega,?_⟩));refine aa _ ?_;clear aa K2));refine sxn fun K2 aa=>?_;simp[ab,dS,bp,aaS];refine aaT.data (hw) (by simp;rfl) (by first | exact D.aaE _ | simp[aaA,List.map_map,Function.comp_def,D.le,D.le.go,D.le_refl,D.aaE,ab,dS,bp,aaS]) ?_;refine aa _ ?_;clear aa K2;simp only[aD,cu];(repeat (refine sxn fun K2 aa=>?_;simp[ab,dS,bp,aaS];(repeat (refine⟨by omega,?_⟩));refine aa _ ?_;clear aa K2));refine sxz (af _ (AW.st (by simp[ab,dS,bp,aaS];rfl) ?_));clear af K';exact aG fw
  | fS s=>
   rw[fH]at eY;have hi:=h1 s eY.1;have hw:=h2 s eY.2;rw[dE,da]
   cases hs:is s with
   | true=>
    rw[hs]at hi;refine ar.aC (aay _) func51 rfl rfl (rs:=[.tmp 6]) results51 (by simp[ntmps51]) fun X=>?_;simp only[ntmps51,List.map];refine rgq fw [0,4,5] [4,5] ?_;refine aa1 fw 4 ?_;refine aa1 fw 5 ?_;refine ae fun K1 au=>?_;refine rgq fw [4,5,14] [] ?_;refine aU ?_;refine rgq fw [4,5,14,16,17] [] ?_;refine ag rfl ?_;refine rgq fw [4,5,14,20,21] [] ?_;refine ag rfl ?_;refine rgq fw [4,5,14,26,27] [] ?_;refine ag rfl ?_;refine rgq fw [4,5,14,38,39] [] ?_;refine aax rfl ?_;refine rgq fw [4,5,10] [] ?_;refine aR fw hi [6] [] ?_;exact aG fw
   | false=>
    rw[hs]at hi;refine ar.aC (aay _) func51 rfl rfl (rs:=[.tmp 6]) results51 (by simp[ntmps51]) fun X=>?_;simp only[ntmps51,List.map];refine rgq fw [0,4,5] [4,5] ?_;refine aa1 fw 4 ?_;refine aa1 fw 5 ?_;refine ae fun K1 au=>?_;refine rgq fw [4,5,14] [] ?_;refine aU ?_;refine rgq fw [4,5,14,16,17] [] ?_;refine ag rfl ?_;refine rgq fw [4,5,14,20,21] [] ?_;refine ag rfl ?_;refine rgq fw [4,5,14,26,27] [] ?_;refine ag rfl ?_;refine rgq fw [4,5,14,38,39] [] ?_;refine aax rfl ?_;refine rgq fw [4,5,10] [] ?_;refine rg [6] [] (fun _ _=>trivial) fun K' af=>?_;(repeat (refine sxn fun K2 aa=>?_;simp[ab,dS,bp,aaS];(repeat (refine⟨by omega,?_⟩));refine aa _ ?_;clear aa K2));refine sxn fun K2 aa=>?_;simp[ab,dS,bp,aaS];refine aaT.data (hi) (by simp;rfl) (by first | exact D.aaE _ | simp[aaA,List.map_map,Function.comp_def,D.le,D.le.go,D.le_refl,D.aaE,ab,dS,bp,aaS]) ?_;refine aa _ ?_;clear aa K2;simp only[aD,cu];(repeat (refine sxn fun K2 aa=>?_;simp[ab,dS,bp,aaS];(repeat (refine⟨by omega,?_⟩));refine aa _ ?_;clear aa K2));refine sxn fun K2 aa=>?_;simp[ab,dS,bp,aaS];refine aaT.data (hw) (by simp;rfl) (by first | exact D.aaE _ | simp[aaA,List.map_map,Function.comp_def,D.le,D.le.go,D.le_refl,D.aaE,ab,dS,bp,aaS]) ?_;refine aa _ ?_;clear aa K2;simp only[aD,cu];(repeat (refine sxn fun K2 aa=>?_;simp[ab,dS,bp,aaS];(repeat (refine⟨by omega,?_⟩));refine aa _ ?_;clear aa K2));refine sxz (af _ (AW.st (by simp[ab,dS,bp,aaS];rfl) ?_));clear af K';exact aG fw
  | not x=>
   have hc:=ih x (by simp at aK;omega) (by rwa [fH]at eY) (by simp only[bE]at hb;omega);obtain⟨tx,cx,hx⟩:=ach x;rw[dE,da,hx];rw[hx]at hc;generalize da is bH x=r at hc ⊢;refine ar.aC (aay _) func51 rfl rfl (rs:=[.tmp 6]) results51 (by simp[ntmps51]) fun X=>?_;simp only[ntmps51,List.map];refine rgq fw [0,4,5] [4,5] ?_;refine aa1 fw 4 ?_;refine aa1 fw 5 ?_;refine ae fun K1 au=>?_;refine rgq fw [4,5,14] [] ?_;refine aU ?_;refine rgq fw [4,5,14,16,17] [] ?_;refine ag rfl ?_;refine rgq fw [4,5,14,20,21] [] ?_;refine ag rfl ?_;refine rgq fw [4,5,14,26,27] [] ?_;refine ag rfl ?_;refine rgq fw [4,5,14,38,39] [] ?_;refine ag rfl ?_;refine rgq fw [4,5,14,50,51] [] ?_;refine aax rfl ?_;refine rgq fw [4,5,11] [11] ?_;refine aR fw hc [6] [11] ?_;exact aG fw
  | and l=>
   have jJ:∀ x∈l,ar prog G 103 [dE x,.ip [.fn (.func g1) c1],.ip [.fn (.func g2) c2]] (.v (.bool (!da is bH x))):=fun x hx=>by
    have hc:=ih x (by have:=List.sizeOf_lt_of_mem hx;simp only[Ex.and.sizeOf_spec]at aK;omega) (by rw[fH,u6]at eY;exact eY x hx) (by have:=vk hx;simp only[bE]at hb;omega);obtain⟨tx,cx,De⟩:=ach x;rw[De]at hc ⊢;generalize da is bH x=r at hc ⊢;refine ar.aC (aay _) func103 rfl rfl (rs:=[.tmp 4]) results103 (by simp[ntmps103]) fun X=>?_;simp only[ntmps103,List.map];refine rgq fw [0,1,2] [] ?_;refine aR fw hc [4] [] ?_;exact aG fw
   have ld:=pO l;have vY:=Nv G none l 103 [.ip [.fn (.func g1) c1],.ip [.fn (.func g2) c2]] (fun x=>!da is bH x) (by simp only[bE]at hb;omega) jJ;rw[dE,oC,da,Gq];generalize l.any (fun x=>!da is bH x)=r at vY ⊢;refine ar.aC (aay _) func51 rfl rfl (rs:=[.tmp 6]) results51 (by simp[ntmps51]) fun X=>?_;simp only[ntmps51,List.map];refine rgq fw [0,4,5] [4,5] ?_;refine aa1 fw 4 ?_;refine aa1 fw 5 ?_;refine ae fun K1 au=>?_;refine rgq fw [4,5,14] [] ?_;refine aU ?_;refine rgq fw [4,5,14,16,17] [] ?_;refine ag rfl ?_;refine rgq fw [4,5,14,20,21] [] ?_;refine ag rfl ?_;refine rgq fw [4,5,14,26,27] [] ?_;refine ag rfl ?_;refine rgq fw [4,5,14,38,39] [] ?_;refine ag rfl ?_;refine rgq fw [4,5,14,50,51] [] ?_;refine ag rfl ?_;refine rgq fw [4,5,14,59,60] [] ?_;refine aax rfl ?_;refine rgq fw [4,5,12] [] ?_;refine aR fw vY [6] [] ?_;exact aG fw
  | or l=>
   have jJ:∀ x∈l,ar prog G 105 [dE x,.ip [.fn (.func g1) c1],.ip [.fn (.func g2) c2]] (.v (.bool (da is bH x))):=fun x hx=>by
    have hc:=ih x (by have:=List.sizeOf_lt_of_mem hx;simp only[Ex.or.sizeOf_spec]at aK;omega) (by rw[fH,u6]at eY;exact eY x hx) (by have:=vk hx;simp only[bE]at hb;omega);obtain⟨tx,cx,De⟩:=ach x;rw[De]at hc ⊢;generalize da is bH x=r at hc ⊢;refine ar.aC (aay _) func105 rfl rfl (rs:=[.tmp 4]) results105 (by simp[ntmps105]) fun X=>?_;simp only[ntmps105,List.map];refine rgq fw [0,1,2] [] ?_;refine aR fw hc [4] [] ?_;exact aG fw
   have ld:=pO l;have vY:=Nw G none l 105 [.ip [.fn (.func g1) c1],.ip [.fn (.func g2) c2]] (fun x=>da is bH x) (by simp only[bE]at hb;omega) jJ;rw[dE,oC,da,Gr];generalize l.any (fun x=>da is bH x)=r at vY ⊢;refine ar.aC (aay _) func51 rfl rfl (rs:=[.tmp 6]) results51 (by simp[ntmps51]) fun X=>?_;simp only[ntmps51,List.map];refine rgq fw [0,4,5] [4,5] ?_;refine aa1 fw 4 ?_;refine aa1 fw 5 ?_;refine ae fun K1 au=>?_;refine rgq fw [4,5,14] [] ?_;refine aU ?_;refine rgq fw [4,5,14,16,17] [] ?_;refine ag rfl ?_;refine rgq fw [4,5,14,20,21] [] ?_;refine ag rfl ?_;refine rgq fw [4,5,14,26,27] [] ?_;refine ag rfl ?_;refine rgq fw [4,5,14,38,39] [] ?_;refine ag rfl ?_;refine rgq fw [4,5,14,50,51] [] ?_;refine ag rfl ?_;refine rgq fw [4,5,14,59,60] [] ?_;refine ag rfl ?_;refine rgq fw [4,5,66,67] [] ?_;refine aax rfl ?_;refine rgq fw [4,5,13] [] ?_;refine aR fw vY [6] [] ?_;exact aG fw
theorem Oq (G:ao) (g1 g2:FuncId) (c1 c2:List D) (is bH:List UInt8->Bool) (S1 S2:List UInt8->Prop) (h1:l9 S1 G g1 c1 is) (h2:l9 S2 G g2 c2 bH) (e:Ex) (ha:fH S1 S2 e) (hb:bE e<=2^28):ar prog G 51 [dE e,.fn (.func g1) c1,.fn (.func g2) c2] (.v (.bool (da is bH e))):=
 eval_at G g1 g2 c1 c2 is bH S1 S2 h1 h2 _ e (Nat.le_refl _) ha hb
theorem la:(⟨#[97]⟩:ByteArray)=bs [97]:=rfl
theorem lb:(⟨#[98]⟩:ByteArray)=bs [98]:=rfl
structure eM where
 name:Tx
 kind:Int
 count:Int
structure fI where
 kind:Int
 name:Tx
 cond:Option Ex
structure PgP where
 names:List eM
 aaw:List fI
def aaL (p:PgP) (s:Tx):Int:=idx (fun n:eM=>n.name == s) p.names
theorem Ju (p:PgP) {i:Nat} (hi:i < p.names.length):0<=aaL p p.names[i].name/\aaL p p.names[i].name<=i:=by
 have aO:¬ aaL p p.names[i].name < 0:=fun h=>by
  have:=agt h _ (List.getElem_mem hi);simp at this
 obtain⟨k,hk,he,_⟩:=po aO;refine⟨by omega,?_⟩;apply Classical.byContradiction;intro ay
 have wb:i < k:=by unfold aaL at ay;omega
 unfold idx at he
 cases hf:p.names.findIdx? (fun n:eM=>n.name == p.names[i].name) with
 | none=>rw[hf]at he;simp at he
 | some k'=>
  rw[hf]at he;simp only[Int.ofNat.injEq,Int.natCast_inj]at he
  have iA:k'=k:=by simpa using he
  subst iA;have:=(List.findIdx?_eq_some_iff_getElem.1 hf).2.2 i wb;simp at this
def j6 {α:Type} (f:Nat->α->Int):List α->Nat->Option (Int×Nat)
 | [],_=>none
 | x :: l,i=>if f i x=0 then j6 f l (i+1) else some (f i x,i)
theorem vz {α:Type} {f:Nat->α->Int}:∀ {l:List α} {i:Nat} {e:Int} {k:Nat},j6 f l i=some (e,k)->i<=k/\k < i+l.length/\e≠0
 | x :: l,i,e,k,h=>by
  rw[j6]at h;split at h
  .have:=vz h;simp only[List.length_cons];omega
  .rename_i aO;simp only[Option.some.injEq,Prod.mk.injEq]at h;obtain⟨h1,h2⟩:=h;rw[h1]at aO;simp only[List.length_cons];exact⟨by omega,by omega,aO⟩
theorem afc {α:Type} {f:Nat->α->Int}:∀ {l:List α} {i:Nat},j6 f l i=none->∀ k (hk:k < l.length),f (i+k) l[k]=0
 | x :: l,i,h,k,hk=>by
  rw[j6]at h;split at h
  .rename_i h0
   cases k with
   | zero=>simpa using h0
   | succ k=>
    have:=afc h k (by simpa using hk);simpa[Nat.add_assoc,Nat.add_comm 1 k]using this
  .cases h
def x6 (n:eM):Bool:=decide (n.kind=3) || decide (n.kind=4)
def j3 (p:PgP) (i:Nat) (n:eM):Int:=
 if !gb n.name then 5 else if decide (n.kind < 1) || decide (n.kind > 4) then 1 else if (x6 n && (decide (n.count < 1) || decide (n.count > 7))) || (!x6 n && decide (n.count≠0)) then 2 else if aaL p n.name < i then 9 else 0
def gI (k:Int):Int:=if k<=3 then 2 else if k=4 then 3 else 4
def iJ (p:PgP) (r:fI):Int:=match r.cond with
 | none=>1
 | some e=>if decide (r.kind < 1) || decide (r.kind > 6) then 1 else if aaL p r.name < 0 then 7
  else if gI r.kind≠(p.names.getD (aaL p r.name).toNat ⟨[],0,0⟩).kind then 1 else if (du true e).any fun s=>decide (aaL p s < 0) then 7 else 0
def cf (p:PgP):Option (Int×Option Nat):=
 if p.names.length > 12\/p.aaw.length > 40 then some (4,none) else match j6 (j3 p) p.names 0 with
  | some (e,i)=>some (e,some i)
  | none=>match j6 (fun _ r=>iJ p r) p.aaw 0 with
   | some (e,i)=>some (e,some (p.names.length+i))
   | none=>none
def A9 (p:PgP) (i:Nat) (n:eM):Int:=
 if !gb n.name then 5 else if !(decide (1<=n.kind) && decide (n.kind<=4)) then 1 else if (decide (n.kind >= 3) && !(decide (1<=n.count) && decide (n.count<=7))) || (decide (n.kind < 3) && decide (n.count≠0)) then 2 else if aaL p n.name≠i then 9 else 0
theorem MR (p:PgP) (i:Nat) (hi:i < p.names.length):A9 p i p.names[i]=j3 p i p.names[i]:=by
 have hle:=Ju p hi;generalize hn:p.names[i]=n at hle ⊢;unfold j3 A9 x6
 cases acO:gb n.name with
 | false=>simp
 | true=>
  by_cases hk:1<=n.kind/\n.kind<=4
  .have e1:(!(decide (1<=n.kind) && decide (n.kind<=4)))=false:=by simp[hk.1,hk.2]
   have e2:(decide (n.kind < 1) || decide (n.kind > 4))=false:=by simp;omega
   have e3:((decide (n.kind >= 3) && !(decide (1<=n.count) && decide (n.count<=7))) || (decide (n.kind < 3) && decide (n.count≠0)))=(((decide (n.kind=3) || decide (n.kind=4)) && (decide (n.count < 1) || decide (n.count > 7))) || (!(decide (n.kind=3) || decide (n.kind=4)) && decide (n.count≠0))):=by
    have:n.kind=1\/n.kind=2\/n.kind=3\/n.kind=4:=by omega
    have ec:(!(decide (1<=n.count) && decide (n.count<=7)))=(decide (n.count < 1) || decide (n.count > 7)):=by
     by_cases h1:1<=n.count<;>by_cases h2:n.count<=7<;>simp[h1,h2]<;>omega
    rw[ec]
    rcases this with h | h | h | h<;>simp[h]
   rw[e1,e2,e3];have e4:(aaL p n.name≠(i:Int))=(aaL p n.name < (i:Int)):=propext ⟨fun h=>by omega,fun h=>by omega⟩;simp only[e4]
  .have e1:(!(decide (1<=n.kind) && decide (n.kind<=4)))=true:=by
    rw[<- Bool.decide_and];simp;omega
   have e2:(decide (n.kind < 1) || decide (n.kind > 4))=true:=by simp;omega
   rw[e1,e2];simp
structure abT (p:PgP):Prop where
 names:p.names.length<=12
 aaw:p.aaw.length<=40
 name:∀ n∈p.names,gb n.name=true/\1<=n.kind/\n.kind<=4
 count:∀ n∈p.names,(n.kind < 3/\n.count=0)\/(3<=n.kind/\1<=n.count/\n.count<=7)
 num:∀ i (hi:i < p.names.length),aaL p p.names[i].name=i
theorem fB {p:PgP} (h:cf p=none):abT p:=by
 unfold cf at h;split at h
 .cases h
 .rename_i hl;split at h
  .cases h
  .rename_i hN;have bB:=fun i hi=>afc hN i hi
   have one:∀ i (hi:i < p.names.length),gb p.names[i].name=true/\1<=p.names[i].kind/\p.names[i].kind<=4/\((p.names[i].kind < 3/\p.names[i].count=0)\/(3<=p.names[i].kind/\1<=p.names[i].count/\p.names[i].count<=7))/\aaL p p.names[i].name=i:=fun i hi=>by
    have hb:=bB i hi;have hle:=Ju p hi;rw[Nat.zero_add]at hb;generalize p.names[i]=n at hb hle ⊢;unfold j3 x6 at hb;split at hb
    .omega
    .rename_i h1;split at hb
     .omega
     .rename_i h2;split at hb
      .omega
      .rename_i h3;split at hb
       .omega
       .rename_i h4;simp at h1 h2 h3;refine⟨h1,by omega,by omega,?_,by omega⟩;by_cases hk:n.kind=3\/n.kind=4
        .exact .inr ⟨by omega,by have:=h3.1 hk;omega,by have:=h3.1 hk;omega⟩
        .have:=h3.2 (by omega) (by omega);exact .inl ⟨by omega,by omega⟩
   refine⟨by omega,by omega,fun n hn=>?_,fun n hn=>?_,fun i hi=>(one i hi).2.2.2.2⟩
   .obtain⟨i,hi,rfl⟩:=List.mem_iff_getElem.1 hn;exact⟨(one i hi).1,(one i hi).2.1,(one i hi).2.2.1⟩
   .obtain⟨i,hi,rfl⟩:=List.mem_iff_getElem.1 hn;exact (one i hi).2.2.2.1
def aW (n:eM):List D:=[dS n.name,.v (.int .i64 n.kind),.v (.int .i64 n.count)]
def x9 (n:eM):D:=.agg (aW n)
def bK (l:List eM):D:=.sl none (l.map aW)
def dC (c:Option Ex):D:=match c with
 | none=>.v .nilIface
 | some e=>dE e
def b7 (r:fI):List D:=[.v (.int .i64 r.kind),dS r.name,dC r.cond]
def Br (r:fI):D:=.agg (b7 r)
def dr (l:List fI):D:=.sl none (l.map b7)
def ey (p:PgP):List D:=[bK p.names,dr p.aaw]
def dPg (p:PgP):D:=.agg (ey p)
theorem agx (G:ao) (k:Option Bool) (xs:List eM) (g:FuncId) (caps:List D) (p:eM->Bool) (hl:xs.length < 2^62) (ha:AF G g caps x9 p xs) :
  ar prog G 153 [.sl k (xs.map aW),.fn (.func g) caps] (.v (.int .i64 (idx p xs))):=by
 refine ar.aC (aay _) func153 rfl rfl (rs:=[.tmp 4]) results153 (by simp[ntmps153]) fun X=>?_;simp only[ntmps153,List.map];refine aq [0,1] [] ?_;refine ae fun K1 au=>?_;refine aq [0,1,7,8] [] ?_;refine bZ (S:=Nat) (fun n=>n<=xs.length/\∀ i (hi:i < xs.length),i < n->p xs[i]=false) (fun n=>⟨lst [(0,.d (.sl k (xs.map aW))),(1,.d (.fn (.func g) caps)),(7,int xs.length),(8,int n)],ak []⟩) (fun n=>xs.length - n) 0 ?_ (by simp) ?_
 .refine aa2
 .rintro n ⟨hn,hp⟩;refine aq [0,1,7,8,9] [] ?_;refine ae fun K2 aa=>?_;refine dw (b:=n < xs.length) (by simp[D.le,D.le.go,aaA]) (fun hc=>?_) (fun hc=>?_)
  .refine ah (aa _ ?_);refine ae fun K3 aH=>?_;refine aU ?_;refine aq [0,1,5,7,8] [] ?_;have oQ:=ha xs[n] (by simp);simp only[x9,aW]at oQ;have qf:=(Aq @hc @aW.eq_1);refine dv oQ [0,1,5,7,8,16] [] ?_;refine mH _ rfl (fun hp2=>?_) (fun hp2=>?_)
   .refine aq [4] [] ?_;refine bn ?_;simp[D.le,D.le.go,aaA];exact (sk hc hp2 fun i hi=>hp i (by omega) hi).symm
   .refine ah (aH _ ?_);refine cG ?_;(try simp only[aM,aP]);refine aV.mk (n+1) ⟨by omega,fun i hi aF=>?_⟩ (by omega) ?_
    .by_cases h:i=n
     .subst h;exact hp2
     .exact hp i hi (by omega)
    refine aa2
  .refine bG (au _ ?_);refine aq [4] [] ?_;refine bn ?_;simp[D.le,D.le.go,aaA];exact (aem fun i hi=>hp i hi (by omega)).symm
theorem RZ (G:ao) (k:Option Bool) (xs:List (List UInt8)) (g:FuncId) (caps:List D) (p:(List UInt8)->Bool) (hl:xs.length < 2^62) (ha:AF G g caps dS p xs) :
  ar prog G 155 [.sl k (xs.map (fun s=>[dS s])),.fn (.func g) caps] (.v (.int .i64 (idx p xs))):=by
 refine ar.aC (aay _) func155 rfl rfl (rs:=[.tmp 4]) results155 (by simp[ntmps155]) fun X=>?_;simp only[ntmps155,List.map];refine aq [0,1] [] ?_;refine ae fun K1 au=>?_;refine aq [0,1,7,8] [] ?_;refine bZ (S:=Nat) (fun n=>n<=xs.length/\∀ i (hi:i < xs.length),i < n->p xs[i]=false) (fun n=>⟨lst [(0,.d (.sl k (xs.map (fun s=>[dS s])))),(1,.d (.fn (.func g) caps)),(7,int xs.length),(8,int n)],ak []⟩) (fun n=>xs.length - n) 0 ?_ (by simp) ?_
 .refine aX @dS.eq_1
 .rintro n ⟨hn,hp⟩;refine aq [0,1,7,8,9] [] ?_;refine ae fun K2 aa=>?_;refine dw (b:=n < xs.length) (by simp[D.le,D.le.go,aaA]) (fun hc=>?_) (fun hc=>?_)
  .refine ah (aa _ ?_);refine ae fun K3 aH=>?_;refine aU ?_;refine aq [0,1,5,7,8] [] ?_;have oQ:=ha xs[n] (by simp);simp only[dS]at oQ;have qf:=(Aq @hc @dS.eq_1);refine dv oQ [0,1,5,7,8,16] [] ?_;refine mH _ rfl (fun hp2=>?_) (fun hp2=>?_)
   .refine aq [4] [] ?_;refine bn ?_;simp[D.le,D.le.go,aaA];exact (sk hc hp2 fun i hi=>hp i (by omega) hi).symm
   .refine ah (aH _ ?_);refine cG ?_;(try simp only[aM,aP]);refine aV.mk (n+1) ⟨by omega,fun i hi aF=>?_⟩ (by omega) ?_
    .by_cases h:i=n
     .subst h;exact hp2
     .exact hp i hi (by omega)
    refine aX @dS.eq_1
  .refine bG (au _ ?_);refine aq [4] [] ?_;refine bn ?_;simp[D.le,D.le.go,aaA];exact (aem fun i hi=>hp i hi (by omega)).symm
theorem Nx (G:ao) (k:Option Bool) (xs:List (List UInt8)) (g:FuncId) (caps:List D) (p:List UInt8->Bool) (hl:xs.length < 2^62) (ha:AF G g caps dS p xs) :
  ar prog G 108 [.sl k (xs.map fun s=>[dS s]),.fn (.func g) caps] (.v (.bool (xs.any p))):=by
 refine ar.aC (aay _) func108 rfl rfl (rs:=[.tmp 4]) results108 (by simp[ntmps108]) fun X=>?_;simp only[ntmps108,List.map];refine aq [0,1] [] ?_;refine aR trivial (RZ G k xs g caps p hl ha) [4] [] ?_;refine bn ?_;simp[D.le,D.le.go,aaA];exact Dh p xs
theorem SQ (G:ao) (n:eM) (s:List UInt8):ar prog G 154 [x9 n,.ip [dS s]] (.v (.bool (n.name == s))):=by
 simp only[x9,aW,dS];refine ar.aC (aay _) func154 rfl rfl (rs:=[.tmp 3]) results154 (by simp[ntmps154]) fun X=>?_;simp only[ntmps154,List.map];refine aq [1,2] [2] ?_;refine rg [3] [2] (fun _ _=>trivial) fun K' af=>?_;(repeat (refine sxn fun K2 aa=>?_;simp[aS,aZ];(repeat (refine⟨by omega,?_⟩));refine aa _ ?_;clear aa K2));refine sxz (af _ (AW.st (by simp[aS,aZ];rfl) ?_));clear af K';exact gG
theorem su (G:ao) (p:PgP) (hp:p.names.length < 2^62) (s:List UInt8):ar prog G 107 [dPg p,dS s] (.v (.int .i64 (aaL p s))):=by
 have hi:=agx G none p.names 154 [.ip [dS s]] (fun n=>n.name == s) hp fun n _=>SQ G n s;unfold aaL;simp only[dPg,ey,bK,dS]at hi ⊢;generalize dr p.aaw=R at *;generalize idx (fun n:eM=>n.name == s) p.names=z at hi ⊢;refine ar.aC (aay _) func107 rfl rfl (rs:=[.tmp 4]) results107 (by simp[ntmps107]) fun X=>?_;simp only[ntmps107,List.map];refine rgq @dr.eq_1 [2,3] [2,3] ?_;refine dV 3 ?_;refine aR trivial hi [4] [2] ?_;exact gG
theorem IU (G:ao) (p:PgP) (hp:p.names.length < 2^62) (s:List UInt8):ar prog G 181 [dS s,.ip (ey p)] (.v (.bool (decide (aaL p s < 0)))):=by
 have hi:=su G p hp s;simp only[dPg,ey,bK,dr,dS]at hi ⊢;refine ar.aC (aay _) func181 rfl rfl (rs:=[.tmp 3]) results181 (by simp[ntmps181]) fun X=>?_;simp only[ntmps181,List.map];refine aq [0,1] [] ?_;refine aR trivial hi [3] [] ?_;exact gG
structure L6 (T:Prop):Prop where
 out:T
theorem zu {T U:Prop} (h:L6 T->U) (t:T):U:=h ⟨t⟩
theorem Jv {p:PgP} {s:List UInt8} (h:¬ aaL p s < 0):∃ k:Nat,∃ hk:k < p.names.length,aaL p s=k:=by
 obtain⟨k,hk,he,_⟩:=po h;exact⟨k,hk,he⟩
theorem SP (G:ao) (p:PgP) (hp:p.names.length < 2^62) (r:fI) (hb:∀ e,r.cond=some e->bE e<=2^28/\(du true e).length < 2^62):ar prog G 126 [dPg p,Br r] (.v (.int .i64 (iJ p r))):=by
 obtain⟨kind,name,cond⟩:=r;dsimp only at hb;have bD:=su G p hp name;have aN:=fun s=>IU G p hp s;simp only[dPg,ey,bK,dr,Br,b7,dS]at bD aN ⊢
 cases cond with
 | none=>
  have ab0:iJ p ⟨kind,name,none⟩=1:=rfl;generalize iJ p ⟨kind,name,none⟩=res at ab0;refine ar.aC (aay _) func126 rfl rfl (rs:=[.tmp 4]) results126 (by simp[ntmps126]) fun X=>?_;simp only[ntmps126,List.map];have fw:=(Aq @dC.eq_1 @dC.eq_2);refine rgq fw [2,3] [2,3] ?_;refine ae fun K1 au=>?_;by_cases h1:kind < 1
  .have qf:=(Aq fw @h1);refine al [2,3,19] [2,3] ?_;refine aax rfl ?_;refine rgq fw [4] [] ?_;exact aG (Aq fw @ab0)
  .by_cases h2:kind > 6
   .have qf:=(Aq fw (Aq @h1 @h2));refine al [2,3,19] [2,3] ?_;refine aax rfl ?_;refine rgq fw [4] [] ?_;exact aG (Aq fw @ab0)
   .have qf:=(Aq fw (Aq @h1 @h2));refine al [2,3,19] [2,3] ?_;refine aax rfl ?_;refine rgq fw [4] [] ?_;exact aG (Aq fw @ab0)
 | some e=>
  have ab0:iJ p ⟨kind,name,some e⟩=if decide (kind < 1) || decide (kind > 6) then 1 else if aaL p name < 0 then 7
   else if gI kind≠(p.names.getD (aaL p name).toNat ⟨[],0,0⟩).kind then 1 else if (du true e).any fun s=>decide (aaL p s < 0) then 7 else 0:=rfl
  generalize iJ p ⟨kind,name,some e⟩=res at ab0;obtain⟨Cb,hnl⟩:=hb e rfl;have fW:=U3 G e Cb;have p8:=Nx G none (du true e) 181 [.ip (ey p)] (fun s=>decide (aaL p s < 0)) hnl fun s _=>IU G p hp s;have Ch:dC (some e)=dE e:=rfl;rw[Ch];obtain⟨tx,cx,hx⟩:=ach e;rw[hx]at fW ⊢;simp only[ey,bK,dr,dS]at fW p8;generalize ((du true e).any fun s=>decide (aaL p s < 0))=an at ab0 p8;generalize du true e=nm at fW p8;refine ar.aC (aay _) func126 rfl rfl (rs:=[.tmp 4]) results126 (by simp[ntmps126]) fun X=>?_;simp only[ntmps126,List.map];have fw:=(Aq @dC.eq_1 @dC.eq_2);refine rgq fw [2,3] [2,3] ?_;refine aa1 fw 2 ?_;refine aa1 fw 3 ?_;refine ae fun K1 au=>?_;by_cases h1:kind < 1
  .rw[if_pos (by simp[h1])]at ab0;have qf:=(Aq fw @h1);refine al [2,3,19] [] ?_;refine aax rfl ?_;refine rgq fw [4] [] ?_;exact aG (Aq fw @ab0)
  by_cases h2:kind > 6
  .rw[if_pos (by simp[h2])]at ab0;have qf:=(Aq fw (Aq @h1 @h2));refine al [2,3,19] [] ?_;refine aax rfl ?_;refine rgq fw [4] [] ?_;exact aG (Aq fw @ab0)
  rw[if_neg (by simp[h1,h2])]at ab0;have qf:=(Aq fw (Aq @h1 @h2));refine al [2,3,19] [] ?_;refine ag rfl ?_;refine ah (au _ ?_);refine aR fw bD [2,3,5] [] ?_;refine ae fun K2 aa=>?_;refine rgq fw [2,3,5,25] [] ?_;by_cases h3:aaL p name < 0
  .rw[if_pos h3]at ab0;refine aax (by simp[h3]) ?_;refine rgq fw [4] [] ?_;exact aG (Aq fw @ab0)
  rw[if_neg h3]at ab0;obtain⟨k,hk,hke⟩:=Jv h3
  have jq:p.names.getD (aaL p name).toNat ⟨[],0,0⟩=p.names[k]:=by
   rw[hke,Int.toNat_natCast,List.getD_eq_getElem?_getD,List.getElem?_eq_getElem hk];rfl
  rw[jq]at ab0;refine ag (by simp[h3]) ?_;refine ah (aa _ ?_);refine ae fun K3 aH=>?_;have abK:aW p.names[k]=[dS p.names[k].name,.v (.int .i64 p.names[k].kind),.v (.int .i64 p.names[k].count)]:=rfl;generalize iA:p.names[k].kind=kk at ab0 abK
  refine' zu (fun bt=>?_) ?_
  rotate_left
  .have eg:=h1;by_cases bg:kind=1
   .have qf:=(Aq fw @bg);refine al [2,3,5,6] [] ?_;refine AW.st (show _=(⟨lst [(2,.d (.ip [.sl none (p.names.map aW),.sl none (p.aaw.map b7)])),(3,.d (.ip [.v (.int .i64 kind),.v (.string (bs name)),.bA tx cx])),(5,int (aaL p name)),(6,int (gI kind))],ak []⟩:St) by rw[bg]<;>rfl) ?_;exact bt.out
   by_cases bg:kind=2
   .have qf:=(Aq fw @bg);refine al [2,3,5,6] [] ?_;refine AW.st (show _=(⟨lst [(2,.d (.ip [.sl none (p.names.map aW),.sl none (p.aaw.map b7)])),(3,.d (.ip [.v (.int .i64 kind),.v (.string (bs name)),.bA tx cx])),(5,int (aaL p name)),(6,int (gI kind))],ak []⟩:St) by rw[bg]<;>rfl) ?_;exact bt.out
   by_cases bg:kind=3
   .have qf:=(Aq fw @bg);refine al [2,3,5,6] [] ?_;refine AW.st (show _=(⟨lst [(2,.d (.ip [.sl none (p.names.map aW),.sl none (p.aaw.map b7)])),(3,.d (.ip [.v (.int .i64 kind),.v (.string (bs name)),.bA tx cx])),(5,int (aaL p name)),(6,int (gI kind))],ak []⟩:St) by rw[bg]<;>rfl) ?_;exact bt.out
   by_cases bg:kind=4
   .have qf:=(Aq fw @bg);refine al [2,3,5,6] [] ?_;refine AW.st (show _=(⟨lst [(2,.d (.ip [.sl none (p.names.map aW),.sl none (p.aaw.map b7)])),(3,.d (.ip [.v (.int .i64 kind),.v (.string (bs name)),.bA tx cx])),(5,int (aaL p name)),(6,int (gI kind))],ak []⟩:St) by rw[bg]<;>rfl) ?_;exact bt.out
   by_cases bg:kind=5
   .have qf:=(Aq fw @bg);refine al [2,3,5,6] [] ?_;refine AW.st (show _=(⟨lst [(2,.d (.ip [.sl none (p.names.map aW),.sl none (p.aaw.map b7)])),(3,.d (.ip [.v (.int .i64 kind),.v (.string (bs name)),.bA tx cx])),(5,int (aaL p name)),(6,int (gI kind))],ak []⟩:St) by rw[bg]<;>rfl) ?_;exact bt.out
   have bg:kind=6:=by omega
   have qf:=(Aq fw @bg);refine al [2,3,5,6] [] ?_;refine AW.st (show _=(⟨lst [(2,.d (.ip [.sl none (p.names.map aW),.sl none (p.aaw.map b7)])),(3,.d (.ip [.v (.int .i64 kind),.v (.string (bs name)),.bA tx cx])),(5,int (aaL p name)),(6,int (gI kind))],ak []⟩:St) by rw[bg]<;>rfl) ?_;exact bt.out
  .rw[hke];have qf:=(Aq fw (Aq @hk @abK));refine al [2,3,37] [] ?_;by_cases h4:kk=gI kind
   .rw[if_neg (by simp[h4])]at ab0;refine ag (by simp[h4]) ?_;refine ah (aH _ ?_);refine ae fun K4 hK4=>?_;refine rg [42] [] (fun _ _=>trivial) fun K' af=>?_;(repeat (refine sxn fun K2 aa=>?_;simp[dC];(repeat (refine⟨by omega,?_⟩));refine aa _ ?_;clear aa K2));refine sxn fun K2 aa=>?_;simp[dC];refine aaT.data (fW) (by simp;rfl) (by first | exact D.aaE _ | simp[aaA,List.map_map,Function.comp_def,D.le,D.le.go,D.le_refl,D.aaE,dC]) ?_;refine aa _ ?_;clear aa K2;simp only[aD,cu];(repeat (refine sxn fun K2 aa=>?_;simp[dC];(repeat (refine⟨by omega,?_⟩));refine aa _ ?_;clear aa K2));refine sxn fun K2 aa=>?_;simp[dC];refine aaT.data (p8) (by simp;rfl) (by first | exact D.aaE _ | simp[aaA,List.map_map,Function.comp_def,D.le,D.le.go,D.le_refl,D.aaE,dC]) ?_;refine aa _ ?_;clear aa K2;simp only[aD,cu];(repeat (refine sxn fun K2 aa=>?_;simp[dC];(repeat (refine⟨by omega,?_⟩));refine aa _ ?_;clear aa K2));refine sxz (af _ (AW.st (by simp[dC];rfl) ?_));clear af K'
    cases an with
    | true=>
     rw[if_pos rfl]at ab0;refine aax rfl ?_;refine rgq fw [4] [] ?_;exact aG (Aq fw @ab0)
    | false=>
     rw[if_neg (by decide)]at ab0;refine ag rfl ?_;refine ah (hK4 _ ?_);refine rgq fw [4] [] ?_;exact aG (Aq fw @ab0)
   .rw[if_pos (fun h=>h4 h.symm)]at ab0;refine aax (by simp[h4]) ?_;refine rgq fw [4] [] ?_;exact aG (Aq fw @ab0)
theorem vy {α:Type} {f:Nat->α->Int}:∀ {l:List α} {i n:Nat} (hn:n < l.length),(∀ k (hk:k < l.length),k < n->f (i+k) l[k]=0)->f (i+n) l[n]≠0->j6 f l i=some (f (i+n) l[n],i+n)
 | x :: l,i,0,_,_,aO=>by rw[j6,if_neg (show ¬ f i x=0 from aO)];rfl
 | x :: l,i,n+1,hn,hb,aO=>by
  have h0:f i x=0:=hb 0 (by simp) (by omega)
  have e:∀ k,i+1+k=i+(k+1):=fun k=>by omega
  rw[j6,if_pos h0,vy (l:=l) (i:=i+1) (n:=n) (by simpa using hn) (fun k hk kG=>by rw[e];exact hb (k+1) (by simpa using hk) (by omega)) (by rw[e];exact aO),e];rfl
theorem vA {α:Type} {f:Nat->α->Int}:∀ {l:List α} {i:Nat},(∀ k (hk:k < l.length),f (i+k) l[k]=0)->j6 f l i=none
 | [],_,_=>rfl
 | x :: l,i,hb=>by
  have e:∀ k,i+1+k=i+(k+1):=fun k=>by omega
  rw[j6,if_pos (show f i x=0 from hb 0 (by simp)),vA fun k hk=>by rw[e];exact hb (k+1) (by simpa using hk)]
structure xO (p:PgP):Prop where
 nl:p.names.length < 2^62
 rl:p.aaw.length < 2^62
 nn:∀ n∈p.names,n.name.length < 2^60
 cb:∀ r∈p.aaw,∀ e,r.cond=some e->bE e<=2^28/\(du true e).length < 2^62
theorem ID (G:ao) (p:PgP) (hp:xO p):ar prog G 63 [dPg p] (ba (cf p)):=by
 obtain⟨hnl,dZ,kL,tG⟩:=hp
 have ni:cf p=if p.names.length > 12\/p.aaw.length > 40 then some (4,none) else match j6 (j3 p) p.names 0 with
  | some (e,i)=>some (e,some i)
  | none=>match j6 (fun _ r=>iJ p r) p.aaw 0 with
   | some (e,i)=>some (e,some (p.names.length+i))
   | none=>none:=rfl
 generalize gZ:cf p=res;rw[ni]at gZ;have bD:=fun s=>su G p hnl s;have gU:=fun r h=>SP G p hnl r h;simp only[dPg,ey,bK,dr,dS]at bD gU ⊢;refine ar.aC (aay _) func63 rfl rfl (rs:=[.tmp 2]) results63 (by simp[ntmps63]) fun X=>?_;simp only[ntmps63,List.map];refine aq [1] [1] ?_;refine dV 1 ?_;refine ae fun K1 au=>?_;by_cases g0:(p.names.length:Int) > 12
 .rw[if_pos (.inl (by omega))]at gZ;have qf:=@g0;refine al [1,19] [] ?_;refine aax rfl ?_;refine aq [2] [] ?_;refine bn ?_;simp[D.le,D.le.go,aaA];simp[<- gZ,ba,D.le]
 by_cases g1:(p.aaw.length:Int) > 40
 .rw[if_pos (.inr (by omega))]at gZ;have qf:=(Aq @g0 @g1);refine al [1,19] [] ?_;refine aax rfl ?_;refine aq [2] [] ?_;refine bn ?_;simp[D.le,D.le.go,aaA];simp[<- gZ,ba,D.le]
 rw[if_neg (by omega)]at gZ;have qf:=(Aq @g0 @g1);refine al [1,19] [] ?_;refine ag rfl ?_;refine ah (au _ ?_);refine ae fun K2 aa=>?_;refine aq [1,22,23,24] [] ?_;refine bZ (S:=Nat) (fun n=>n<=p.names.length/\∀ k (hk:k < p.names.length),k < n->j3 p k p.names[k]=0) (fun n=>⟨lst [(1,.d (.ip [.sl none (p.names.map aW),.sl none (p.aaw.map b7)])),(22,.d (.sl none (p.names.map aW))),(23,int p.names.length),(24,int n)],ak []⟩) (fun n=>p.names.length - n) 0 ?_ (by simp) ?_
 .refine aa2
 .rintro n ⟨hn,hb⟩;refine aq [1,22,23,24,25] [] ?_;refine ae fun K3 aH=>?_;refine dw (b:=n < p.names.length) (by simp[D.le,D.le.go,aaA]) (fun hc=>?_) (fun hc=>?_)
  .have ay:=hc
   have hgo:j3 p n p.names[n]≠0->res=some (j3 p n p.names[n],some n):=fun aO=>by
    rw[<- gZ,vy (i:=0) ay (fun k hk kG=>by rw[Nat.zero_add];exact hb k hk kG) (by rw[Nat.zero_add];exact aO)];simp
   have dX:=kL _ (List.getElem_mem ay);have abK:aW p.names[n]=[dS p.names[n].name,.v (.int .i64 p.names[n].kind),.v (.int .i64 p.names[n].count)]:=rfl
   have bo:j3 p n p.names[n]=if !gb p.names[n].name then 5 else if decide (p.names[n].kind < 1) || decide (p.names[n].kind > 4) then 1 else if ((decide (p.names[n].kind=3) || decide (p.names[n].kind=4)) && (decide (p.names[n].count < 1) || decide (p.names[n].count > 7))) || (!(decide (p.names[n].kind=3) || decide (p.names[n].kind=4)) && decide (p.names[n].count≠0)) then 2 else if aaL p p.names[n].name < n then 9 else 0:=rfl
   generalize hv:j3 p n p.names[n]=v at bo hgo;generalize p.names[n].name=nm at dX abK bo;generalize p.names[n].kind=kd at abK bo;generalize p.names[n].count=ct at abK bo;have acO:=Jh G nm dX;have jw:=bD nm;simp only[dS]at abK acO;generalize gb nm=nf at acO bo;refine ah (aH _ ?_);refine ae fun K4 hK4=>?_;refine aU ?_;have qf:=(Aq @ay @abK);refine al [1,3,4,22,23,24] [4] ?_;refine dV 4 ?_
   refine' zu (fun cZ=>?_) ?_
   rotate_left
   .by_cases k3:kd=3
    .have qf:=@k3;refine al [1,3,4,5,22,23,24] [] ?_;refine AW.st (show _=(⟨lst [(1,.d (.ip [.sl none (p.names.map aW),.sl none (p.aaw.map b7)])),(3,int n),(4,.d (.ip [.v (.string (bs nm)),.v (.int .i64 kd),.v (.int .i64 ct)])),(5,.d (.v (.bool (decide (kd=3) || decide (kd=4))))),(22,.d (.sl none (p.names.map aW))),(23,int p.names.length),(24,int n)],ak []⟩:St) by rw[k3]<;>rfl) ?_;exact cZ.out
    .by_cases k4:kd=4
     .have qf:=(Aq @k3 @k4);refine al [1,3,4,5,22,23,24] [] ?_;refine AW.st (show _=(⟨lst [(1,.d (.ip [.sl none (p.names.map aW),.sl none (p.aaw.map b7)])),(3,int n),(4,.d (.ip [.v (.string (bs nm)),.v (.int .i64 kd),.v (.int .i64 ct)])),(5,.d (.v (.bool (decide (kd=3) || decide (kd=4))))),(22,.d (.sl none (p.names.map aW))),(23,int p.names.length),(24,int n)],ak []⟩:St) by rw[k4]<;>rfl) ?_;exact cZ.out
     .have e:(decide (kd=3) || decide (kd=4))=false:=by simp[k3,k4]
      have qf:=(Aq @k3 @k4);refine al [1,3,4,5,22,23,24] [] ?_;refine AW.st (show _=(⟨lst [(1,.d (.ip [.sl none (p.names.map aW),.sl none (p.aaw.map b7)])),(3,int n),(4,.d (.ip [.v (.string (bs nm)),.v (.int .i64 kd),.v (.int .i64 ct)])),(5,.d (.v (.bool (decide (kd=3) || decide (kd=4))))),(22,.d (.sl none (p.names.map aW))),(23,int p.names.length),(24,int n)],ak []⟩:St) by rw[e]<;>rfl) ?_;exact cZ.out
   .generalize (decide (kd=3) || decide (kd=4))=cB at bo;refine aq [1,3,4,5,6,22,23,24] [] ?_;refine ae fun K5 bN=>?_
    refine' zu (fun bt=>?_) ?_
    rotate_left
    .refine aU ?_;refine aR trivial acO [1,3,4,5,6,22,23,24,37] [] ?_;by_cases tS:nf=true
     rotate_left
     .have HE:nf=false:=by simpa using tS
      rw[if_pos (by simp[HE])]at bo;rw[HE];refine aax rfl ?_;refine reK trivial bN [1,3,6,22,23,24] [] ?_;refine AW.st (show _=(⟨lst [(1,.d (.ip [.sl none (p.names.map aW),.sl none (p.aaw.map b7)])),(3,int n),(6,int v),(22,.d (.sl none (p.names.map aW))),(23,int p.names.length),(24,int n)],ak []⟩:St) by rw[bo]<;>rfl) ?_;exact bt.out
     .rw[if_neg (by simp[tS])]at bo;rw[tS];refine ag rfl ?_;by_cases k1:kd < 1
      .rw[if_pos (by simp[k1])]at bo;have qf:=@k1;refine al [1,3,4,5,6,22,23,24,42] [] ?_;refine aax rfl ?_;refine reK trivial bN [1,3,6,22,23,24] [] ?_;refine AW.st (show _=(⟨lst [(1,.d (.ip [.sl none (p.names.map aW),.sl none (p.aaw.map b7)])),(3,int n),(6,int v),(22,.d (.sl none (p.names.map aW))),(23,int p.names.length),(24,int n)],ak []⟩:St) by rw[bo]<;>rfl) ?_;exact bt.out
      by_cases k2:kd > 4
      .rw[if_pos (by simp[k2])]at bo;have qf:=(Aq @k1 @k2);refine al [1,3,4,5,6,22,23,24,42] [] ?_;refine aax rfl ?_;refine reK trivial bN [1,3,6,22,23,24] [] ?_;refine AW.st (show _=(⟨lst [(1,.d (.ip [.sl none (p.names.map aW),.sl none (p.aaw.map b7)])),(3,int n),(6,int v),(22,.d (.sl none (p.names.map aW))),(23,int p.names.length),(24,int n)],ak []⟩:St) by rw[bo]<;>rfl) ?_;exact bt.out
      rw[if_neg (by simp[k1,k2])]at bo;have qf:=(Aq @k1 @k2);refine al [1,3,4,5,6,22,23,24,42] [] ?_;refine ag rfl ?_;by_cases Hi:cB=true
      .rw[Hi]at bo ⊢;by_cases c1:ct < 1
       .rw[if_pos (by simp[c1])]at bo;have qf:=@c1;refine al [1,3,4,6,22,23,24,51] [] ?_;refine aax rfl ?_;refine reK trivial bN [1,3,6,22,23,24] [] ?_;refine AW.st (show _=(⟨lst [(1,.d (.ip [.sl none (p.names.map aW),.sl none (p.aaw.map b7)])),(3,int n),(6,int v),(22,.d (.sl none (p.names.map aW))),(23,int p.names.length),(24,int n)],ak []⟩:St) by rw[bo]<;>rfl) ?_;exact bt.out
       by_cases c2:ct > 7
       .rw[if_pos (by simp[c2])]at bo;have qf:=(Aq @c1 @c2);refine al [1,3,4,6,22,23,24,51] [] ?_;refine aax rfl ?_;refine reK trivial bN [1,3,6,22,23,24] [] ?_;refine AW.st (show _=(⟨lst [(1,.d (.ip [.sl none (p.names.map aW),.sl none (p.aaw.map b7)])),(3,int n),(6,int v),(22,.d (.sl none (p.names.map aW))),(23,int p.names.length),(24,int n)],ak []⟩:St) by rw[bo]<;>rfl) ?_;exact bt.out
       rw[if_neg (by simp[c1,c2])]at bo;have qf:=(Aq @c1 @c2);refine al [1,3,4,6,22,23,24,51] [] ?_;refine ag rfl ?_;refine aR trivial jw [1,3,6,22,23,24,72] [] ?_;by_cases c9:aaL p nm < n
       .rw[if_pos c9]at bo;refine aax (by simp[c9]) ?_;refine reK trivial bN [1,3,6,22,23,24] [] ?_;refine AW.st (show _=(⟨lst [(1,.d (.ip [.sl none (p.names.map aW),.sl none (p.aaw.map b7)])),(3,int n),(6,int v),(22,.d (.sl none (p.names.map aW))),(23,int p.names.length),(24,int n)],ak []⟩:St) by rw[bo]<;>rfl) ?_;exact bt.out
       .rw[if_neg c9]at bo;refine ag (by simp[c9]) ?_;refine ah ?_;refine bN _ (AW.norm [1,3,6,22,23,24] [] (fun _ _=>trivial) (AW.st (by simp;rfl) ?_));refine AW.st (show _=(⟨lst [(1,.d (.ip [.sl none (p.names.map aW),.sl none (p.aaw.map b7)])),(3,int n),(6,int v),(22,.d (.sl none (p.names.map aW))),(23,int p.names.length),(24,int n)],ak []⟩:St) by rw[bo]<;>rfl) ?_;exact bt.out
      .have PS:cB=false:=by simpa using Hi
       rw[PS]at bo ⊢;by_cases c0:ct=0
       .rw[if_neg (by simp[c0])]at bo;have qf:=@c0;refine al [1,3,4,6,22,23,24,51] [] ?_;refine ag rfl ?_;refine aR trivial jw [1,3,6,22,23,24,72] [] ?_;by_cases c9:aaL p nm < n
        .rw[if_pos c9]at bo;refine aax (by simp[c9]) ?_;refine reK trivial bN [1,3,6,22,23,24] [] ?_;refine AW.st (show _=(⟨lst [(1,.d (.ip [.sl none (p.names.map aW),.sl none (p.aaw.map b7)])),(3,int n),(6,int v),(22,.d (.sl none (p.names.map aW))),(23,int p.names.length),(24,int n)],ak []⟩:St) by rw[bo]<;>rfl) ?_;exact bt.out
        .rw[if_neg c9]at bo;refine ag (by simp[c9]) ?_;refine ah ?_;refine bN _ (AW.norm [1,3,6,22,23,24] [] (fun _ _=>trivial) (AW.st (by simp;rfl) ?_));refine AW.st (show _=(⟨lst [(1,.d (.ip [.sl none (p.names.map aW),.sl none (p.aaw.map b7)])),(3,int n),(6,int v),(22,.d (.sl none (p.names.map aW))),(23,int p.names.length),(24,int n)],ak []⟩:St) by rw[bo]<;>rfl) ?_;exact bt.out
       .rw[if_pos (by simp[c0])]at bo;have qf:=@c0;refine al [1,3,4,6,22,23,24,51] [] ?_;refine aax rfl ?_;refine reK trivial bN [1,3,6,22,23,24] [] ?_;refine AW.st (show _=(⟨lst [(1,.d (.ip [.sl none (p.names.map aW),.sl none (p.aaw.map b7)])),(3,int n),(6,int v),(22,.d (.sl none (p.names.map aW))),(23,int p.names.length),(24,int n)],ak []⟩:St) by rw[bo]<;>rfl) ?_;exact bt.out
    .by_cases ff:v=0
     .have qf:=@ff;refine al [1,3,6,22,23,24,80] [] ?_;refine ag rfl ?_;refine ah ?_;refine hK4 _ ?_;refine cG ?_;(try simp only[aM,aP]);refine aV.mk (n+1) ⟨by omega,fun k hk kG=>?_⟩ (by omega) ?_
      .by_cases h:k=n
       .subst h;rw[hv,ff]
       .exact hb k hk (by omega)
      refine aa2
     .have qf:=@ff;refine al [1,3,6,22,23,24,80] [] ?_;refine aax rfl ?_;refine aq [2] [84] ?_;refine bn ?_;simp[D.le,D.le.go,aaA];simp[hgo ff,ba,D.le,D.le.go]
  .rw[vA fun k hk=>by rw[Nat.zero_add];exact hb k hk (by omega)]at gZ;dsimp only at gZ;refine bG (aa _ ?_);refine ae fun K6 hK6=>?_;refine aq [1,88,89,90] [] ?_;refine bZ (S:=Nat) (fun n=>n<=p.aaw.length/\∀ k (hk:k < p.aaw.length),k < n->iJ p p.aaw[k]=0) (fun n=>⟨lst [(1,.d (.ip [.sl none (p.names.map aW),.sl none (p.aaw.map b7)])),(88,.d (.sl none (p.aaw.map b7))),(89,int p.aaw.length),(90,int n)],ak []⟩) (fun n=>p.aaw.length - n) 0 ?_ (by simp) ?_
   .refine aa2
   .rintro n ⟨hn,hb⟩;refine aq [1,88,89,90,91] [] ?_;refine ae fun K7 dW=>?_;refine dw (b:=n < p.aaw.length) (by simp[D.le,D.le.go,aaA]) (fun hc=>?_) (fun hc=>?_)
    .have ay:=hc
     have hgo:iJ p p.aaw[n]≠0->res=some (iJ p p.aaw[n],some (p.names.length+n)):=fun aO=>by
      rw[<- gZ,vy (i:=0) ay (fun k hk kG=>hb k hk kG) aO];simp
     have abK:b7 p.aaw[n]=[.v (.int .i64 p.aaw[n].kind),dS p.aaw[n].name,dC p.aaw[n].cond]:=rfl;have aN:=gU p.aaw[n] (tG _ (List.getElem_mem ay));simp only[Br,abK]at aN;generalize hv:iJ p p.aaw[n]=v at aN hgo
     obtain⟨tc,Ch,Ru⟩:∃ tc,dC p.aaw[n].cond=tc/\((∃ a b,tc = .bA a b)\/tc = .v .nilIface):=by
      cases p.aaw[n].cond with
      | none=>exact⟨_,rfl,.inr rfl⟩
      | some e=>obtain⟨a,b,h⟩:=ach e;exact⟨_,rfl,.inl ⟨a,b,h⟩⟩
     rw[Ch]at abK aN;generalize p.aaw[n].kind=kd at abK aN;generalize p.aaw[n].name=nm at abK aN;simp only[dS]at abK aN
     have qj:(p.names.length:Int)+(n:Int)<=2^62:=by omega
     refine ah (dW _ ?_);refine ae fun K8 ez=>?_;refine aU ?_
     rcases Ru with⟨ta,ZB,rfl⟩ | rfl
     all_goals
      .have qf:=(Aq @ay @abK);refine al [1,7,8,88,89,90] [8] ?_;refine dV 8 ?_;refine aR trivial aN [1,7,9,88,89,90] [] ?_;by_cases ff:v=0
       .have qf:=@ff;refine al [1,7,9,88,89,90,99] [] ?_;refine ag rfl ?_;refine ah (ez _ ?_);refine cG ?_;(try simp only[aM,aP]);refine aV.mk (n+1) ⟨by omega,fun k hk kG=>?_⟩ (by omega) ?_
        .by_cases h:k=n
         .subst h;rw[hv,ff]
         .exact hb k hk (by omega)
        refine aa2
       .have qf:=@ff;refine al [1,7,9,88,89,90,99] [] ?_;refine aax rfl ?_;refine aq [2] [107] ?_;refine bn ?_;simp[D.le,D.le.go,aaA];simp[hgo ff,ba,D.le,D.le.go]
    .rw[vA fun k hk=>hb k hk (by omega)]at gZ;refine bG (hK6 _ ?_);refine aq [2] [] ?_;refine bn ?_;simp[D.le,D.le.go,aaA];simp[<- gZ,ba]
def cM (r:fI):List D:=[.v (.int .i64 r.kind),dS r.name,iK r.cond]
def dM (p:PgP):List D:=[bK p.names,.sl none (p.aaw.map cM)]
def cE (p:PgP):D:=.agg (dM p)
theorem LD (G:ao) (p:PgP) (hl:p.names.length < 2^62) (s:List UInt8):ar prog G 74 [cE p,dS s] (.v (.int .i64 (aaL p s))):=by
 unfold aaL;simp only[cE,dM,bK,dS];generalize p.aaw.map cM=R;refine ar.aC (aay _) func74 rfl rfl (rs:=[.tmp 4]) results74 (by simp[ntmps74]) fun X=>?_;simp only[ntmps74,List.map];refine aq [1,2] [2] ?_;refine dV 2 ?_;refine ae fun K1 au=>?_;refine aq [1,8,9,10] [] ?_;refine bZ (S:=Nat) (fun n=>n<=p.names.length/\∀ i (hi:i < p.names.length),i < n->(p.names[i].name == s)=false) (fun n=>⟨lst [(1,.d (.v (.string (bs s)))),(8,.d (.sl none (p.names.map aW))),(9,int p.names.length),(10,int n)],ak []⟩) (fun n=>p.names.length - n) 0 ?_ (by simp) ?_
 .refine aa2
 .rintro n ⟨hn,hp⟩;refine aq [1,8,9,10,11] [] ?_;refine ae fun K2 aa=>?_;refine dw (b:=n < p.names.length) (by simp[D.le,D.le.go,aaA]) (fun hc=>?_) (fun hc=>?_)
  .have ay:=hc;have fK:aW p.names[n]=[.v (.string (bs p.names[n].name)),.v (.int .i64 p.names[n].kind),.v (.int .i64 p.names[n].count)]:=rfl;refine ah (aa _ ?_);refine ae fun K3 aH=>?_;refine aU ?_;have qf:=(Aq @ay @fK);refine al [1,5,6,8,9,10] [6] ?_;refine dV 6 ?_;by_cases heq:p.names[n].name=s
   .refine rg [1,5,8,9,10,18] [] (fun _ _=>trivial) fun K' af=>?_;(repeat (refine sxn fun K2 aa=>?_;simp[aS,aZ,heq];(repeat (refine⟨by omega,?_⟩));refine aa _ ?_;clear aa K2));refine sxz (af _ (AW.st (by simp[aS,aZ,heq];rfl) ?_));clear af K';refine aax rfl ?_;refine aq [4] [] ?_;refine bn ?_;simp[D.le,D.le.go,aaA];exact (sk (p:=fun m:eM=>m.name == s) ay (by simp[heq]) fun i hi=>hp i (by omega) hi).symm
   .refine rg [1,5,8,9,10,18] [] (fun _ _=>trivial) fun K' af=>?_;(repeat (refine sxn fun K2 aa=>?_;simp[aS,aZ,heq];(repeat (refine⟨by omega,?_⟩));refine aa _ ?_;clear aa K2));refine sxz (af _ (AW.st (by simp[aS,aZ,heq];rfl) ?_));clear af K';refine ag (by simp[heq]) ?_;refine ah (aH _ ?_);refine cG ?_;(try simp only[aM,aP]);refine aV.mk (n+1) ⟨by omega,fun i hi aF=>?_⟩ (by omega) ?_
    .by_cases h:i=n
     .subst h;simpa using heq
     .exact hp i hi (by omega)
    refine aa2
  .refine bG (au _ ?_);refine aq [4] [] ?_;refine bn ?_;simp[D.le,D.le.go,aaA];exact (aem (p:=fun m:eM=>m.name == s) fun i hi=>hp i hi (by omega)).symm
def fN (l:List eM) (k:Int):Nat->List Int
 | 0=>[]
 | i+1=>fN l k i ++ if (l.getD i ⟨[],0,0⟩).kind=k then [(i:Int)] else []
theorem qv (l:List eM) (k:Int):∀ n,(fN l k n).length<=n
 | 0=>Nat.le_refl _
 | n+1=>by rw[fN,List.length_append];have:=qv l k n;split<;>simp<;>omega
theorem zo (l:List eM) (k:Int):fN l k 0=[]:=rfl
theorem zn {l:List eM} {k:Int} {i:Nat} (h:i < l.length):fN l k (i+1)=fN l k i ++ if l[i].kind=k then [(i:Int)] else []:=by
 rw[fN,List.getD_eq_getElem?_getD,List.getElem?_eq_getElem h];rfl
theorem IW (G:ao) (p:PgP) (hl:p.names.length < 2^40) (k:Int):ar prog G 64 [dPg p,.v (.int .i64 k)] (.sl none ((fN p.names k p.names.length).map fun x=>[.v (.int .i64 x)])):=by
 simp only[dPg,ey,bK,dr];generalize p.aaw.map b7=R;refine ar.aC (aay _) func64 rfl rfl (rs:=[.tmp 4]) results64 (by simp[ntmps64]) fun X=>?_;simp only[ntmps64,List.map];refine aq [1,2] [2] ?_;refine dV 2 ?_;refine aq [1,2,5] [] ?_;refine ae fun K1 au=>?_;refine aq [1,5,9,10,11] [] ?_;refine bZ (S:=Nat) (fun i=>i<=p.names.length) (fun i=>⟨lst [(1,.d (.v (.int .i64 k))),(5,.own 300 0 (fN p.names k i).length),(9,.d (.sl none (p.names.map aW))),(10,int p.names.length),(11,int i)],ak [(300,.sl 3 1 ((fN p.names k i).map fun x=>[.v (.int .i64 x)]))]⟩) (fun i=>p.names.length - i) 0 ?_ (by simp) ?_
 .refine (aB.iH 5 300 3 1 rfl rfl).trans ?_;refine aB.dK (fun _ _=>trivial) (by simp[zo]) (by simp[zo])
 .intro i hi;have cr:=qv p.names k i;have nj:=fun h=>zn (l:=p.names) (k:=k) (i:=i) h;generalize CE:fN p.names k i=L at cr nj ⊢;refine aq [1,5,9,10,11,12] [300] ?_;refine ae fun K2 aa=>?_;refine dw (b:=i < p.names.length) (by simp[D.le,D.le.go,aaA]) (fun hc=>?_) (fun hc=>?_)
  .have ay:=hc;have hs2:=nj ay;have fK:aW p.names[i]=[.v (.string (bs p.names[i].name)),.v (.int .i64 p.names[i].kind),.v (.int .i64 p.names[i].count)]:=rfl;generalize p.names[i].name=nm at fK;generalize p.names[i].kind=kd at fK hs2;generalize p.names[i].count=ct at fK;refine ah (aa _ ?_);refine ae fun K3 aH=>?_;refine aU ?_;have qf:=(Aq @ay @fK);refine al [1,5,6,7,9,10,11] [300,7] ?_;refine dV 7 ?_;by_cases heq:kd=k
   .rw[if_pos heq]at hs2;have qf:=@heq;refine al [1,5,6,9,10,11,19] [300] ?_;refine aax rfl ?_;refine abl (aay _) fun K' af=>?_;(repeat (refine sxn fun K2 aa=>?_;simp[List.take_of_length_le];(repeat (refine⟨by omega,?_⟩));refine aa _ ?_;clear aa K2));refine sxz (af _ ?_);clear af K';refine aH _ (AW.norm [1,5,9,10,11] [300] (fun _ _=>trivial) (AW.st (by simp[List.take_of_length_le];rfl) ?_));refine cG ?_;(try simp only[aM,aP]);refine aV.mk (i+1) (by omega) (by omega) ?_;refine aX @hs2
   .rw[if_neg heq,List.append_nil]at hs2;have qf:=@heq;refine al [1,5,6,9,10,11,19] [300] ?_;refine ag rfl ?_;refine ah (aH _ ?_);refine cG ?_;(try simp only[aM,aP]);refine aV.mk (i+1) (by omega) (by omega) ?_;refine aX @hs2
  .obtain rfl:i=p.names.length:=by omega
   refine bG (au _ ?_);refine AW.imp (aB.freeze 300 trivial) ?_;refine AW.st (by simp[List.take_of_length_le];rfl) ?_;refine aq [4] [] ?_;exact aG @CE
theorem xK (G:ao) (p:PgP) (hl:p.names.length < 2^40) (k:Int):ar prog G 62 [cE p,.v (.int .i64 k)] (.sl none ((fN p.names k p.names.length).map fun x=>[.v (.int .i64 x)])):=by
 simp only[cE,dM,bK,dr];generalize p.aaw.map cM=R;refine ar.aC (aay _) func62 rfl rfl (rs:=[.tmp 4]) results62 (by simp[ntmps62]) fun X=>?_;simp only[ntmps62,List.map];refine aq [1,2] [2] ?_;refine dV 2 ?_;refine aq [1,2,5] [] ?_;refine ae fun K1 au=>?_;refine aq [1,5,9,10,11] [] ?_;refine bZ (S:=Nat) (fun i=>i<=p.names.length) (fun i=>⟨lst [(1,.d (.v (.int .i64 k))),(5,.own 300 0 (fN p.names k i).length),(9,.d (.sl none (p.names.map aW))),(10,int p.names.length),(11,int i)],ak [(300,.sl 3 1 ((fN p.names k i).map fun x=>[.v (.int .i64 x)]))]⟩) (fun i=>p.names.length - i) 0 ?_ (by simp) ?_
 .refine (aB.iH 5 300 3 1 rfl rfl).trans ?_;refine aB.dK (fun _ _=>trivial) (by simp[zo]) (by simp[zo])
 .intro i hi;have cr:=qv p.names k i;have nj:=fun h=>zn (l:=p.names) (k:=k) (i:=i) h;generalize CE:fN p.names k i=L at cr nj ⊢;refine aq [1,5,9,10,11,12] [300] ?_;refine ae fun K2 aa=>?_;refine dw (b:=i < p.names.length) (by simp[D.le,D.le.go,aaA]) (fun hc=>?_) (fun hc=>?_)
  .have ay:=hc;have hs2:=nj ay;have fK:aW p.names[i]=[.v (.string (bs p.names[i].name)),.v (.int .i64 p.names[i].kind),.v (.int .i64 p.names[i].count)]:=rfl;generalize p.names[i].name=nm at fK;generalize p.names[i].kind=kd at fK hs2;generalize p.names[i].count=ct at fK;refine ah (aa _ ?_);refine ae fun K3 aH=>?_;refine aU ?_;have qf:=(Aq @ay @fK);refine al [1,5,6,7,9,10,11] [300,7] ?_;refine dV 7 ?_;by_cases heq:kd=k
   .rw[if_pos heq]at hs2;have qf:=@heq;refine al [1,5,6,9,10,11,19] [300] ?_;refine aax rfl ?_;refine abl (aay _) fun K' af=>?_;(repeat (refine sxn fun K2 aa=>?_;simp[List.take_of_length_le];(repeat (refine⟨by omega,?_⟩));refine aa _ ?_;clear aa K2));refine sxz (af _ ?_);clear af K';refine aH _ (AW.norm [1,5,9,10,11] [300] (fun _ _=>trivial) (AW.st (by simp[List.take_of_length_le];rfl) ?_));refine cG ?_;(try simp only[aM,aP]);refine aV.mk (i+1) (by omega) (by omega) ?_;refine aX @hs2
   .rw[if_neg heq,List.append_nil]at hs2;have qf:=@heq;refine al [1,5,6,9,10,11,19] [300] ?_;refine ag rfl ?_;refine ah (aH _ ?_);refine cG ?_;(try simp only[aM,aP]);refine aV.mk (i+1) (by omega) (by omega) ?_;refine aX @hs2
  .obtain rfl:i=p.names.length:=by omega
   refine bG (au _ ?_);refine AW.imp (aB.freeze 300 trivial) ?_;refine AW.st (by simp[List.take_of_length_le];rfl) ?_;refine aq [4] [] ?_;exact aG @CE
def gR (is bH:List UInt8->Bool):List Ex->Nat
 | []=>0
 | e :: l=>(if da is bH e then 1 else 0)+gR is bH l
theorem FZ (is bH:List UInt8->Bool):∀ a b:List Ex,gR is bH (a ++ b)=gR is bH a+gR is bH b
 | [],b=>by simp[gR]
 | e :: a,b=>by simp only[List.cons_append,gR,FZ is bH a b];omega
theorem ae9 (is bH:List UInt8->Bool):∀ l:List Ex,gR is bH l<=l.length
 | []=>by simp[gR]
 | e :: l=>by have:=ae9 is bH l;simp only[gR,List.length_cons];split<;>omega
theorem F1 (is bH:List UInt8->Bool) {l:List Ex} {i:Nat} (hi:i < l.length):gR is bH (l.take (i+1))=gR is bH (l.take i)+(if da is bH l[i] then 1 else 0):=by
 rw[List.take_succ_eq_append_getElem hi,FZ];simp[gR]
theorem FY (is bH:List UInt8->Bool):∀ l:List Ex,decide (gR is bH l=l.length)=tp is bH l
 | []=>rfl
 | e :: l=>by
  have h1:=FY is bH l;have h2:=ae9 is bH l;rw[tp,<- h1];simp only[gR,List.length_cons]
  rcases Bool.eq_false_or_eq_true (da is bH e)with hE | hE
  .simp[hE,Nat.add_comm 1]
  .have:¬ gR is bH l=l.length+1:=by omega
   simp[hE,this]
theorem F0 (is bH:List UInt8->Bool):∀ l:List Ex,decide (0 < gR is bH l)=tq is bH l
 | []=>rfl
 | e :: l=>by
  have h1:=F0 is bH l;rw[tq,<- h1];simp only[gR]
  rcases Bool.eq_false_or_eq_true (da is bH e)with hE | hE
  .simp[hE];omega
  .simp[hE]
theorem Wq (G:ao) (g1 g2:FuncId) (c1 c2:List D) (is bH:List UInt8->Bool) (S1 S2:List UInt8->Prop) (h1:l9 S1 G g1 c1 is) (h2:l9 S2 G g2 c2 bH):∀ (n:Nat) (e:Ex),SizeOf.sizeOf e<=n->fH S1 S2 e->fi e->bE e<=2^28->ar prog G 71 [dR e,.fn (.func g1) c1,.fn (.func g2) c2] (.v (.bool (da is bH e))):=by
 intro n
 induction n with
 | zero=>intro e aK;cases e<;>simp at aK
 | succ n ih=>
  intro e aK eY sg hb;have fw:=(Aq @ab.eq_1 (Aq @dS.eq_1 (Aq @acE @cX.eq_1)))
  cases e with
  | cst b=>
   cases b with
   | true=>
    rw[dR];refine ar.aC (aay _) func71 rfl rfl (rs:=[.tmp 6]) results71 (by simp[ntmps71]) fun X=>?_;simp only[ntmps71,List.map];refine rgq fw [0,1,2] [] ?_;refine ae fun K1 au=>?_;refine rgq fw [0,1,2,13] [] ?_;refine aU ?_;refine rgq fw [0,1,2,13,14] [] ?_;refine aax rfl ?_;refine rgq fw [6] [] ?_;refine bn ?_;simp[D.le,D.le.go,aaA,ab,dS,acE,cX,da]
   | false=>
    rw[dR];refine ar.aC (aay _) func71 rfl rfl (rs:=[.tmp 6]) results71 (by simp[ntmps71]) fun X=>?_;simp only[ntmps71,List.map];refine rgq fw [0,1,2] [] ?_;refine ae fun K1 au=>?_;refine rgq fw [0,1,2,13] [] ?_;refine aU ?_;refine rgq fw [0,1,2,13,14] [] ?_;refine ag rfl ?_;refine rgq fw [0,1,2,13,16] [] ?_;refine ag rfl ?_;refine rgq fw [0,1,2,13,24] [] ?_;refine ag rfl ?_;refine rgq fw [0,1,2,13,41] [] ?_;refine ag rfl ?_;refine rgq fw [0,1,2,13,58] [] ?_;refine ag rfl ?_;refine ae fun K2 aa=>?_;refine rgq fw [0,1,2,13,70] [] ?_;refine ag rfl ?_;refine reK fw aa [0,1,2,70] [] ?_;refine ag rfl ?_;refine ah (au _ ?_);refine rgq fw [6] [] ?_;refine bn ?_;simp[D.le,D.le.go,aaA,ab,dS,acE,cX,da]
  | bit s=>
   rw[fH]at eY;have hi:=h1 s eY;rw[dR,da];refine ar.aC (aay _) func71 rfl rfl (rs:=[.tmp 6]) results71 (by simp[ntmps71]) fun X=>?_;simp only[ntmps71,List.map];refine rgq fw [0,1,2] [] ?_;refine ae fun K1 au=>?_;refine rgq fw [0,1,2,13] [] ?_;refine aU ?_;refine rgq fw [0,1,2,13,14] [] ?_;refine ag rfl ?_;refine rgq fw [0,1,2,13,16] [] ?_;refine aax rfl ?_;refine aR fw hi [6] [] ?_;exact aG fw
  | abP s=>
   rw[fH]at eY;have hi:=h1 s eY.1;have hw:=h2 s eY.2;rw[dR,da]
   cases hx:is s with
   | false=>
    rw[hx]at hi;refine ar.aC (aay _) func71 rfl rfl (rs:=[.tmp 6]) results71 (by simp[ntmps71]) fun X=>?_;simp only[ntmps71,List.map];refine rgq fw [0,1,2] [] ?_;refine ae fun K1 au=>?_;refine rgq fw [0,1,2,13] [] ?_;refine aU ?_;refine rgq fw [0,1,2,13,14] [] ?_;refine ag rfl ?_;refine rgq fw [0,1,2,13,16] [] ?_;refine ag rfl ?_;refine rgq fw [0,1,2,13,24] [] ?_;refine aax rfl ?_;refine aR fw hi [6] [] ?_;exact aG fw
   | true=>
    rw[hx]at hi;refine ar.aC (aay _) func71 rfl rfl (rs:=[.tmp 6]) results71 (by simp[ntmps71]) fun X=>?_;simp only[ntmps71,List.map];refine rgq fw [0,1,2] [] ?_;refine ae fun K1 au=>?_;refine rgq fw [0,1,2,13] [] ?_;refine aU ?_;refine rgq fw [0,1,2,13,14] [] ?_;refine ag rfl ?_;refine rgq fw [0,1,2,13,16] [] ?_;refine ag rfl ?_;refine rgq fw [0,1,2,13,24] [] ?_;refine aax rfl ?_;refine rg [6] [] (fun _ _=>trivial) fun K' af=>?_;(repeat (refine sxn fun K2 aa=>?_;simp[ab,dS,acE,cX];(repeat (refine⟨by omega,?_⟩));refine aa _ ?_;clear aa K2));refine sxn fun K2 aa=>?_;simp[ab,dS,acE,cX];refine aaT.data (hi) (by simp;rfl) (by first | exact D.aaE _ | simp[aaA,List.map_map,Function.comp_def,D.le,D.le.go,D.le_refl,D.aaE,ab,dS,acE,cX]) ?_;refine aa _ ?_;clear aa K2;simp only[aD,cu];(repeat (refine sxn fun K2 aa=>?_;simp[ab,dS,acE,cX];(repeat (refine⟨by omega,?_⟩));refine aa _ ?_;clear aa K2));refine sxn fun K2 aa=>?_;simp[ab,dS,acE,cX];refine aaT.data (hw) (by simp;rfl) (by first | exact D.aaE _ | simp[aaA,List.map_map,Function.comp_def,D.le,D.le.go,D.le_refl,D.aaE,ab,dS,acE,cX]) ?_;refine aa _ ?_;clear aa K2;simp only[aD,cu];(repeat (refine sxn fun K2 aa=>?_;simp[ab,dS,acE,cX];(repeat (refine⟨by omega,?_⟩));refine aa _ ?_;clear aa K2));refine sxz (af _ (AW.st (by simp[ab,dS,acE,cX];rfl) ?_));clear af K';exact aG fw
  | fS s=>
   rw[fH]at eY;have hi:=h2 s eY.2;have hw:=h1 s eY.1;rw[dR,da];rw[Bool.and_comm]
   cases hx:bH s with
   | false=>
    rw[hx]at hi;refine ar.aC (aay _) func71 rfl rfl (rs:=[.tmp 6]) results71 (by simp[ntmps71]) fun X=>?_;simp only[ntmps71,List.map];refine rgq fw [0,1,2] [] ?_;refine ae fun K1 au=>?_;refine rgq fw [0,1,2,13] [] ?_;refine aU ?_;refine rgq fw [0,1,2,13,14] [] ?_;refine ag rfl ?_;refine rgq fw [0,1,2,13,16] [] ?_;refine ag rfl ?_;refine rgq fw [0,1,2,13,24] [] ?_;refine ag rfl ?_;refine rgq fw [0,1,2,13,41] [] ?_;refine aax rfl ?_;refine aR fw hi [6] [] ?_;exact aG fw
   | true=>
    rw[hx]at hi;refine ar.aC (aay _) func71 rfl rfl (rs:=[.tmp 6]) results71 (by simp[ntmps71]) fun X=>?_;simp only[ntmps71,List.map];refine rgq fw [0,1,2] [] ?_;refine ae fun K1 au=>?_;refine rgq fw [0,1,2,13] [] ?_;refine aU ?_;refine rgq fw [0,1,2,13,14] [] ?_;refine ag rfl ?_;refine rgq fw [0,1,2,13,16] [] ?_;refine ag rfl ?_;refine rgq fw [0,1,2,13,24] [] ?_;refine ag rfl ?_;refine rgq fw [0,1,2,13,41] [] ?_;refine aax rfl ?_;refine rg [6] [] (fun _ _=>trivial) fun K' af=>?_;(repeat (refine sxn fun K2 aa=>?_;simp[ab,dS,acE,cX];(repeat (refine⟨by omega,?_⟩));refine aa _ ?_;clear aa K2));refine sxn fun K2 aa=>?_;simp[ab,dS,acE,cX];refine aaT.data (hi) (by simp;rfl) (by first | exact D.aaE _ | simp[aaA,List.map_map,Function.comp_def,D.le,D.le.go,D.le_refl,D.aaE,ab,dS,acE,cX]) ?_;refine aa _ ?_;clear aa K2;simp only[aD,cu];(repeat (refine sxn fun K2 aa=>?_;simp[ab,dS,acE,cX];(repeat (refine⟨by omega,?_⟩));refine aa _ ?_;clear aa K2));refine sxn fun K2 aa=>?_;simp[ab,dS,acE,cX];refine aaT.data (hw) (by simp;rfl) (by first | exact D.aaE _ | simp[aaA,List.map_map,Function.comp_def,D.le,D.le.go,D.le_refl,D.aaE,ab,dS,acE,cX]) ?_;refine aa _ ?_;clear aa K2;simp only[aD,cu];(repeat (refine sxn fun K2 aa=>?_;simp[ab,dS,acE,cX];(repeat (refine⟨by omega,?_⟩));refine aa _ ?_;clear aa K2));refine sxz (af _ (AW.st (by simp[ab,dS,acE,cX];rfl) ?_));clear af K';exact aG fw
  | not x=>
   have hc:=ih x (by simp at aK;omega) (by rwa [fH]at eY) (by simpa[fi]using sg) (by simp only[bE]at hb;omega);rw[dR,da];rw[nF x]at hc ⊢;refine ar.aC (aay _) func71 rfl rfl (rs:=[.tmp 6]) results71 (by simp[ntmps71]) fun X=>?_;simp only[ntmps71,List.map];refine rgq fw [0,1,2] [] ?_;refine ae fun K1 au=>?_;refine rgq fw [0,1,2,13] [] ?_;refine aU ?_;refine rgq fw [0,1,2,13,14] [] ?_;refine ag rfl ?_;refine rgq fw [0,1,2,13,16] [] ?_;refine ag rfl ?_;refine rgq fw [0,1,2,13,24] [] ?_;refine ag rfl ?_;refine rgq fw [0,1,2,13,41] [] ?_;refine ag rfl ?_;refine rgq fw [0,1,2,13,58] [] ?_;refine aax rfl ?_;refine aR fw hc [6] [] ?_;exact aG fw
  | and l=>
   have ld:=pO l;simp only[bE]at hb
   have jS:2<=l.length/\∀ x∈l,fi x:=by rw[fi]at sg;exact⟨sg.1,(ad5 l).1 sg.2⟩
   have jJ:∀ x∈l,ar prog G 71 [dR x,.fn (.func g1) c1,.fn (.func g2) c2] (.v (.bool (da is bH x))):=fun x hx=>by
    have h5:=List.sizeOf_lt_of_mem hx;exact ih x (by simp only[Ex.and.sizeOf_spec]at aK;omega) (by rw[fH,u6]at eY;exact eY x hx) (jS.2 x hx) (by have:=vk hx;omega)
   have jK:=FY is bH l;rw[da,<- jK];rw[dR,aez];clear jK;refine ar.aC (aay _) func71 rfl rfl (rs:=[.tmp 6]) results71 (by simp[ntmps71]) fun X=>?_;simp only[ntmps71,List.map];refine rgq fw [0,1,2] [] ?_;refine ae fun K1 au=>?_;refine rgq fw [0,1,2,13] [] ?_;refine aU ?_;refine rgq fw [0,1,2,13,14] [] ?_;refine ag rfl ?_;refine rgq fw [0,1,2,13,16] [] ?_;refine ag rfl ?_;refine rgq fw [0,1,2,13,24] [] ?_;refine ag rfl ?_;refine rgq fw [0,1,2,13,41] [] ?_;refine ag rfl ?_;refine rgq fw [0,1,2,13,58] [] ?_;refine ag rfl ?_;refine ae fun K2 aa=>?_;refine rgq fw [0,1,2,13,70] [] ?_;refine aax rfl ?_;refine ah (aa _ ?_);refine aax rfl ?_;refine rgq fw [0,1,2,7] [] ?_;refine ae fun K3 aH=>?_;refine rgq fw [0,1,2,7,76,77,78] [] ?_;refine bZ (S:=Nat) (fun i=>i<=l.length) (fun i=>⟨lst [(0,.d (.ip [dS [38],dS [],.sl none (l.map fun e=>[dR e])])),(1,.d (.fn (.func g1) c1)),(2,.d (.fn (.func g2) c2)),(7,int (gR is bH (l.take i):Nat)),(76,.d (.sl none (l.map fun e=>[dR e]))),(77,int l.length),(78,int i)],ak []⟩) (fun i=>l.length - i) 0 ?_ (by omega) ?_
   .refine aX (Aq fw (Aq @gR.eq_1 @gR.eq_2))
   .intro i hi;have hcl:=ae9 is bH (l.take i);rw[List.length_take]at hcl;refine rgq fw [0,1,2,7,76,77,78,79] [] ?_;refine ae fun K4 hK4=>?_;refine dw (b:=i < l.length) (by simp[D.le,D.le.go,aaA,ab,dS,acE,cX]) (fun hc=>?_) (fun hc=>?_)
    .have c6:i < l.length:=hc;have bW:=jJ _ (List.getElem_mem c6);have cy:=F1 is bH c6;have hf:=nF l[i];rw[hf]at bW;refine ah (hK4 _ ?_);refine ae fun K5 bN=>?_;refine aU ?_;have qf:=(Aq fw (Aq @c6 @hf));refine al [0,1,2,7,9,76,77,78] [] ?_;refine aR fw bW [0,1,2,7,76,77,78,85] [] ?_
     cases hv:da is bH l[i] with
     | true=>
      rw[hv]at cy;refine aax (by simp[hv]) ?_;refine reK fw bN [0,1,2,7,76,77,78] [] ?_;refine bO fw ?_;(try simp only[aM,aP]);refine aV.mk (i+1) (by omega) (by omega) ?_;refine aX (Aq fw @cy)
     | false=>
      rw[hv]at cy;refine ag (by simp[hv]) ?_;refine ah (bN _ ?_);refine bO fw ?_;(try simp only[aM,aP]);refine aV.mk (i+1) (by omega) (by omega) ?_;refine aX (Aq fw @cy)
    .obtain rfl:i=l.length:=by omega
     refine bG (aH _ ?_);rw[List.take_length]at hcl ⊢;refine rgq fw [6] [] ?_;exact aG fw
  | or l=>
   have ld:=pO l;simp only[bE]at hb
   have jS:2<=l.length/\∀ x∈l,fi x:=by rw[fi]at sg;exact⟨sg.1,(ad5 l).1 sg.2⟩
   have jJ:∀ x∈l,ar prog G 71 [dR x,.fn (.func g1) c1,.fn (.func g2) c2] (.v (.bool (da is bH x))):=fun x hx=>by
    have h5:=List.sizeOf_lt_of_mem hx;exact ih x (by simp only[Ex.or.sizeOf_spec]at aK;omega) (by rw[fH,u6]at eY;exact eY x hx) (jS.2 x hx) (by have:=vk hx;omega)
   have jK:=F0 is bH l;rw[da,<- jK];rw[dR,aez];clear jK;refine ar.aC (aay _) func71 rfl rfl (rs:=[.tmp 6]) results71 (by simp[ntmps71]) fun X=>?_;simp only[ntmps71,List.map];refine rgq fw [0,1,2] [] ?_;refine ae fun K1 au=>?_;refine rgq fw [0,1,2,13] [] ?_;refine aU ?_;refine rgq fw [0,1,2,13,14] [] ?_;refine ag rfl ?_;refine rgq fw [0,1,2,13,16] [] ?_;refine ag rfl ?_;refine rgq fw [0,1,2,13,24] [] ?_;refine ag rfl ?_;refine rgq fw [0,1,2,13,41] [] ?_;refine ag rfl ?_;refine rgq fw [0,1,2,13,58] [] ?_;refine ag rfl ?_;refine ae fun K2 aa=>?_;refine rgq fw [0,1,2,13,70] [] ?_;refine ag rfl ?_;refine reK fw aa [0,1,2,70] [] ?_;refine aax rfl ?_;refine rgq fw [0,1,2,7] [] ?_;refine ae fun K3 aH=>?_;refine rgq fw [0,1,2,7,76,77,78] [] ?_;refine bZ (S:=Nat) (fun i=>i<=l.length) (fun i=>⟨lst [(0,.d (.ip [dS [124],dS [],.sl none (l.map fun e=>[dR e])])),(1,.d (.fn (.func g1) c1)),(2,.d (.fn (.func g2) c2)),(7,int (gR is bH (l.take i):Nat)),(76,.d (.sl none (l.map fun e=>[dR e]))),(77,int l.length),(78,int i)],ak []⟩) (fun i=>l.length - i) 0 ?_ (by omega) ?_
   .refine aX (Aq fw (Aq @gR.eq_1 @gR.eq_2))
   .intro i hi;have hcl:=ae9 is bH (l.take i);rw[List.length_take]at hcl;refine rgq fw [0,1,2,7,76,77,78,79] [] ?_;refine ae fun K4 hK4=>?_;refine dw (b:=i < l.length) (by simp[D.le,D.le.go,aaA,ab,dS,acE,cX]) (fun hc=>?_) (fun hc=>?_)
    .have c6:i < l.length:=hc;have bW:=jJ _ (List.getElem_mem c6);have cy:=F1 is bH c6;have hf:=nF l[i];rw[hf]at bW;refine ah (hK4 _ ?_);refine ae fun K5 bN=>?_;refine aU ?_;have qf:=(Aq fw (Aq @c6 @hf));refine al [0,1,2,7,9,76,77,78] [] ?_;refine aR fw bW [0,1,2,7,76,77,78,85] [] ?_
     cases hv:da is bH l[i] with
     | true=>
      rw[hv]at cy;refine aax (by simp[hv]) ?_;refine reK fw bN [0,1,2,7,76,77,78] [] ?_;refine bO fw ?_;(try simp only[aM,aP]);refine aV.mk (i+1) (by omega) (by omega) ?_;refine aX (Aq fw @cy)
     | false=>
      rw[hv]at cy;refine ag (by simp[hv]) ?_;refine ah (bN _ ?_);refine bO fw ?_;(try simp only[aM,aP]);refine aV.mk (i+1) (by omega) (by omega) ?_;refine aX (Aq fw @cy)
    .obtain rfl:i=l.length:=by omega
     refine bG (aH _ ?_);rw[List.take_length]at hcl ⊢;by_cases h0:0 < gR is bH l
     .have qf:=(Aq fw @h0);refine al [6] [] ?_;exact aG (Aq fw @h0)
     .have hz:gR is bH l=0:=by omega
      have aO:¬ l.length=0:=by omega
      have HD:¬ 0=(l.length:Int):=by omega
      have qf:=(Aq fw (Aq @h0 (Aq @hz (Aq @aO @HD))));refine al [6] [] ?_;exact aG (Aq fw (Aq @h0 (Aq @hz (Aq @aO @HD))))
theorem Wr (G:ao) (g1 g2:FuncId) (c1 c2:List D) (is bH:List UInt8->Bool) (S1 S2:List UInt8->Prop) (h1:l9 S1 G g1 c1 is) (h2:l9 S2 G g2 c2 bH) (e:Ex) (ha:fH S1 S2 e) (hw:fi e) (hb:bE e<=2^28):ar prog G 71 [dR e,.fn (.func g1) c1,.fn (.func g2) c2] (.v (.bool (da is bH e))):=
 Wq G g1 g2 c1 c2 is bH S1 S2 h1 h2 _ e (Nat.le_refl _) ha hw hb
def jU:Ex->List Ex
 | .not e=>[e]
 | .and l=>l
 | .or l=>l
 | _=>[]
def kR:Ex->Option Bool
 | .not _=>none
 | .and _=>none
 | .or _=>none
 | _=>some false
theorem Vj (e:Ex):w7 e = .sl (kR e) ((jU e).map fun x=>[dR x]):=by
 cases e<;>simp[w7,jU,kR,cX,aez]
theorem MP (e:Ex):eU (jU e)<=bE e:=by cases e<;>simp[bE,jU,eU]<;>omega
theorem XL {e x:Ex} (h:x∈jU e):SizeOf.sizeOf x < SizeOf.sizeOf e:=by
 cases e with
 | not y=>simp only[jU,List.mem_singleton]at h;subst h;simp
 | and l=>simp only[jU]at h;have:=List.sizeOf_lt_of_mem h;simp only[Ex.and.sizeOf_spec];omega
 | or l=>simp only[jU]at h;have:=List.sizeOf_lt_of_mem h;simp only[Ex.or.sizeOf_spec];omega
 | _=>simp[jU]at h
