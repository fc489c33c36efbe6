/- Parts. -/
import Derived.Test.YtdigkhaofjmgkaaGreatDoorMs20
import Derived.Test.YtdigkhaofjmgkaaGreatDoorMs21
import Derived.Shelf.Small.Strs
import Derived.Lib.IndexLaws
import Derived.Shelf.Strings.OnBuilder
set_option linter.unusedSimpArgs false
set_option linter.unusedVariables false
set_option maxHeartbeats 16000000
open Go.Proofs.Tryz
namespace Go.Proofs.YtdigkhaofjmgkaaGreatDoor
open Go.Av
open Go.Shelf
def bF (t:List UInt8) (i:Int):Row:=.box 182 [.d (dS t),int i]
def bk (t:List UInt8) (i:Int):List (Nat×Row):=[(500,bF t i)]
theorem u1 (a:UInt8) (n:Nat) (hn:n < 256):((a.toNat:Int)=(n:Int))↔a=UInt8.ofNat n:=by
 constructor
 .intro h
  have:a.toNat=n:=by omega
  rw[<- this,UInt8.ofNat_toNat]
 .rintro rfl;simp;omega
theorem xY (G:ao) (t:List UInt8) (i:Nat) (ht:t.length < 2^60) (hi:i<=t.length) :
  MC prog G [500] 97 [.ref 500 0 0] (ak (bk t i)) (.d (.tup [])) (ak (bk t (aaD t i))):=by
 refine MC.aC (aay _) func97 rfl rfl (rs:=[]) results97 (by simp[ntmps97]) rfl fun X=>?_;simp only[ntmps97];have fw:=(Aq @ab.eq_1 (Aq @bk.eq_1 (Aq @bF.eq_1 @dS.eq_1)));refine bZ (S:=Nat) (fun k=>k<=t.length/\aaD t k=aaD t i) (fun k=>⟨lst [(0,.ref 500 0 0)],ak [(500,.box 182 [.d (dS t),int k])]⟩) (fun k=>t.length - k) i ?_ ⟨hi,rfl⟩ ?_
 .refine aX fw
 .rintro k ⟨hk,hs⟩;refine ae fun K1 au=>?_;by_cases cr:k < t.length
  .have QK:(k:Int) < (t.length:Int):=by omega
   have jq:t.getD k 0=t[k]:=by simp[List.getD_eq_getElem?_getD,cr]
   by_cases hb:((t[k]).toNat:Int)=32
   .have qf:=(Aq fw (Aq @bl (Aq @ch (Aq @cr @hb))));refine fv [0,23] [500] ?_;refine aax rfl ?_;refine ah (au _ ?_);refine aU ?_;refine bO fw ?_;try simp only[aM,aP]
    have gu:t[k]? = some 32:=by
     rw[List.getElem?_eq_getElem cr,(u1 _ 32 (by decide)).1 hb];rfl
    refine aV.mk (k+1) ⟨by omega,?_⟩ (by omega) ?_
    .rw[<- EK gu];exact hs
    refine aX fw
   .have qf:=(Aq fw (Aq @bl (Aq @ch (Aq @cr @hb))));refine fv [0,23] [500] ?_;refine ag rfl ?_;refine bG ?_
    have gu:t[k]?≠some 32:=by
     rw[List.getElem?_eq_getElem cr];intro h;apply hb;rw[Option.some.inj h];rfl
    rw[sO gu]at hs;rw[<- hs];simp[bk,bF,dS,D.le_refl]
  .obtain rfl:k=t.length:=by omega
   have qf:=(Aq fw (Aq @bl @ch));refine fv [0,23] [500] ?_;refine ag rfl ?_;refine bG ?_
   have gu:t[t.length]?≠some 32:=by simp
   rw[sO gu]at hs;rw[<- hs];simp[bk,bF,dS,D.le_refl]
theorem Ao (G:ao) (t:List UInt8) (i:Nat) (ht:t.length < 2^60) (hi:i<=t.length) (c:UInt8) :
  MC prog G [500] 196 [.ref 500 0 0,.d (.v (.int .u8 c.toNat))] (ak (bk t i)) (.d (.v (.bool (cU t c i).1))) (ak (bk t (cU t c i).2)):=by
 have gK:=xY G t i ht hi;have abN:=acL hi;unfold cU;generalize aaD t i=j at gK abN ⊢;by_cases jL:j < t.length
 .rw[List.getElem?_eq_getElem jL];by_cases hb:t[j]=c
  .have aT:((t[j]).toNat:Int)=(c.toNat:Int):=by rw[hb]
   rw[if_pos (by rw[hb])];refine MC.aC (aay _) func196 rfl rfl (rs:=[.tmp 4]) results196 (by simp[ntmps196]) rfl fun X=>?_;simp only[ntmps196];have fw:=(Aq @ab.eq_1 (Aq @bk.eq_1 (Aq @bF.eq_1 @dS.eq_1)));refine rgq fw [0,1] [500] ?_;refine rgm fw gK [0,1] [500] ?_;refine ae fun K1 au=>?_;have qf:=(Aq fw (Aq @bl (Aq @ch (Aq @jL @aT))));refine fv [0,29] [500] ?_;refine aax rfl ?_;refine rgq fw [] [500] ?_;refine rgq fw [4] [500] ?_;exact aG (Aq fw (Aq @bk.eq_1 @bF.eq_1))
  .have aT:¬ ((t[j]).toNat:Int)=(c.toNat:Int):=fun h=>hb (UInt8.toNat_inj.1 (by omega));rw[if_neg (fun h=>hb (Option.some.inj h))];refine MC.aC (aay _) func196 rfl rfl (rs:=[.tmp 4]) results196 (by simp[ntmps196]) rfl fun X=>?_;simp only[ntmps196];have fw:=(Aq @ab.eq_1 (Aq @bk.eq_1 (Aq @bF.eq_1 @dS.eq_1)));refine rgq fw [0,1] [500] ?_;refine rgm fw gK [0,1] [500] ?_;refine ae fun K1 au=>?_;have qf:=(Aq fw (Aq @bl (Aq @ch (Aq @jL @aT))));refine fv [0,29] [500] ?_;refine ag rfl ?_;refine ah (au _ ?_);refine rgq fw [4] [500] ?_;exact aG (Aq fw (Aq @bk.eq_1 @bF.eq_1))
 .obtain rfl:j=t.length:=by omega
  rw[if_neg (by simp)];refine MC.aC (aay _) func196 rfl rfl (rs:=[.tmp 4]) results196 (by simp[ntmps196]) rfl fun X=>?_;simp only[ntmps196];have fw:=(Aq @ab.eq_1 (Aq @bk.eq_1 (Aq @bF.eq_1 @dS.eq_1)));refine rgq fw [0,1] [500] ?_;refine rgm fw gK [0,1] [500] ?_;refine ae fun K1 au=>?_;have qf:=(Aq fw (Aq @bl @ch));refine fv [0,29] [500] ?_;refine ag rfl ?_;refine ah (au _ ?_);refine rgq fw [4] [500] ?_;exact aG (Aq fw (Aq @bk.eq_1 @bF.eq_1))
theorem vw (G:ao) (t:List UInt8) (i:Nat) (ht:t.length < 2^60) (hi:i<=t.length) (e:Int) :
  MC prog G [500] 98 [.ref 500 0 0,.d (ab e)] (ak (bk t i)) (.d (ba (some (e,some (aaD t i))))) (ak (bk t (aaD t i))):=by
 have gK:=xY G t i ht hi;generalize aaD t i=j at gK ⊢;refine MC.aC (aay _) func98 rfl rfl (rs:=[.tmp 4]) results98 (by simp[ntmps98]) rfl fun X=>?_;simp only[ntmps98];have fw:=(Aq @ab.eq_1 (Aq @bk.eq_1 (Aq @bF.eq_1 @dS.eq_1)));refine rgq fw [0,1] [500] ?_;refine rgm fw gK [0,1] [500] ?_;refine rgq fw [4] [500,13] ?_;refine aa1 fw 13 ?_;exact aG (Aq fw (Aq @bk.eq_1 (Aq @bF.eq_1 (Aq @ba.eq_1 (Aq @ba.eq_2 @ba.eq_3)))))
def l4:List UInt8:=[32,38,124,33,94,126,40,41,48,49,61]
theorem Dn (l:List UInt8) (c:UInt8):Lib.indexByte l c < 0↔c ∉ l:=by
 have qb:=Lib.indexByte_ge l c;constructor
 .intro h hm;obtain⟨k,hk,rfl⟩:=List.mem_iff_getElem.1 hm;exact Lib.indexByte_none (show Lib.indexByte l l[k] = -1 by omega) k (List.getElem?_eq_getElem hk)
 .intro hm;apply Classical.byContradiction;intro h;obtain⟨n,hn⟩:=Int.eq_ofNat_of_zero_le (show 0<=Lib.indexByte l c by omega);exact hm (List.mem_of_getElem? (Lib.indexByte_some hn).1)
theorem IA (G:ao) (l:List UInt8) (c:UInt8):ar prog G 116 [dS l,.v (.int .u8 c.toNat)] (ab (Lib.indexByte l c)):=by
 refine ar.nr (e7.of func116 rfl rfl) fun X w vs aK bC cq=>?_
 obtain⟨a,b,rfl⟩:∃ a b,vs = #[a,b]:=by
  match vs,aK with
  | ⟨[a,b]⟩,_=>exact⟨a,b,rfl⟩
 have ha:=(bC 0 a _ rfl rfl).scalar;have hb:=(bC 1 b _ rfl rfl).scalar;subst ha hb;have fC:=Any.strings_IndexByte (P:=prog) (ρ:=Tryz.Dz) { Tryz.Dy with } (bs l) c.toNat w;rw[show (c.toNat:Int).toNat.toUInt8=c by simp]at fC;exact fC.mono fun e w' ⟨he,hw⟩=>⟨_,he,by rw[hw];exact bY.refl _,.v _⟩
end Go.Proofs.YtdigkhaofjmgkaaGreatDoor
namespace Go.Proofs.YtdigkhaofjmgkaaGreatDoor
open Go.Av
theorem FM (t:List UInt8) (i j:Nat):(bs t).extract i j=bs ((t.drop i).take (j - i)):=ByteArray.ext (by
 rw[ByteArray.data_extract];unfold bs;apply Array.toList_inj.1
 simp[List.take_drop,List.extract])
theorem sL:(⟨#[32,38,124,33,94,126,40,41,48,49,61]⟩:ByteArray)=bs l4:=rfl
def jY:Rs (List UInt8)->D
 | .ok s _=>.tup [dS s,.v .nilIface]
 | .err c p _=>.tup [dS [],ba (some (c,some p))]
def aaR {α:Type}:Rs α->Nat
 | .ok _ i=>i
 | .err _ p _=>p
theorem uu (c:UInt8):c∈l4↔(jb c=true\/c=48\/c=49):=by
 simp only[l4,jb,List.mem_cons,List.not_mem_nil,or_false,List.contains_iff_mem];constructor
 .rintro (h | h | h | h | h | h | h | h | h | h | h)<;>simp[h]
 .rintro ((h | h | h | h | h | h | h | h | h) | h | h)<;>simp[h]
def qU (t:List UInt8) (j k:Nat):Prop:=k=j\/(j < k/\o0 t j=true/\mF t (j+1)=mF t k)
theorem ow {t:List UInt8} {j k:Nat} (h:qU t j k) (hk:k<=t.length) (hstop:∀ hk:k < t.length,t[k]∈l4/\(j < k->t[k]≠48/\t[k]≠49)):k=lB t j:=by
 unfold lB
 rcases h with rfl | ⟨rQ,hh,he⟩
 .by_cases eA:k < t.length
  .have:=(uu _).1 (hstop eA).1
   have fD:o0 t k=false:=by
    unfold o0;rw[List.getElem?_eq_getElem eA]
    rcases this with h | h | h<;>simp[h]
   rw[fD];rfl
  .have fD:o0 t k=false:=by
    unfold o0;rw[List.getElem?_eq_none (by omega)]
   rw[fD];rfl
 .rw[hh,if_pos rfl,he,XR];intro eA;obtain⟨h1,h2⟩:=hstop eA
  rcases (uu _).1 h1 with h | h | h
  .exact h
  .exact absurd h (h2 rQ).1
  .exact absurd h (h2 rQ).2
theorem aeQ {t:List UInt8} {j k:Nat} (h:qU t j k) (hk:k < t.length) (hgo:t[k] ∉ l4\/(j < k/\(t[k]=48\/t[k]=49))):qU t j (k+1):=by
 have hs:jb t[k]=false:=by
  rcases hgo with h | ⟨_,h⟩
  .cases hc:jb t[k] with
   | false=>rfl
   | true=>exact absurd ((uu _).2 (.inl hc)) h
  .rcases h with h | h<;>rw[h]<;>rfl
 right
 rcases h with rfl | ⟨rQ,hh,he⟩
 .refine⟨by omega,?_,rfl⟩
  rcases hgo with h | ⟨h,_⟩
  .have h1:t[k]≠48:=fun e=>h ((uu _).2 (.inr (.inl e)));have h2:t[k]≠49:=fun e=>h ((uu _).2 (.inr (.inr e)));unfold o0;rw[List.getElem?_eq_getElem hk];simp[hs,h1,h2]
  .omega
 .refine⟨by omega,hh,?_⟩;rw[he,XQ hk hs]
theorem Fa (G:ao) (t:List UInt8) (q i:Nat) (ht:t.length < 2^60) (hi:i<=t.length) :
  MC prog G [500] 230 [.ref 500 0 0] (ak (bk t i)) (.d (jY (abq t q i))) (ak (bk t (aaR (abq t q i)))):=by
 have gK:=xY G t i ht hi;have abN:=acL hi;have qc:=sN hi;unfold abq;generalize aaD t i=j at gK abN qc ⊢;have v8:=vw G t j ht abN 3;have wa:=vw G t j ht abN 5;rw[qc]at v8 wa;have hel:=As t j;have het:=E3 abN;have jT:(t.drop j).take (lB t j - j)=fR t j:=rfl
 have afz:(fR t j).length < 2^60:=by
  rw[<- jT,List.length_take,List.length_drop];omega
 have acO:=Jh G (fR t j) afz;refine MC.aC (aay _) func230 rfl rfl (rs:=[.tmp 2,.tmp 3]) results230 (by simp[ntmps230]) rfl fun X=>?_;simp only[ntmps230];have fw:=(Aq @ab.eq_1 (Aq @bk.eq_1 (Aq @bF.eq_1 @dS.eq_1)));refine rgq fw [0] [500] ?_;refine rgm fw gK [0] [500] ?_;refine rgq fw [0,4] [500] ?_;refine ae fun K1 au=>?_;refine bZ (S:=Nat) (fun k=>j<=k/\k<=t.length/\qU t j k) (fun k=>⟨lst [(0,.ref 500 0 0),(4,int k)],ak [(500,.box 182 [.d (dS t),int j])]⟩) (fun k=>t.length - k) j ?_ ⟨Nat.le_refl _,abN,.inl rfl⟩ ?_
 .refine aX fw
 .rintro k ⟨rQ,hk,cw⟩;refine ae fun K2 aa=>?_
  refine (fun hgo hstop=>?_) (fun (σ:St) (hn:qU t j (k+1)) (cr:k < t.length) himp=>aa σ (AW.imp (τ:=⟨lst [(0,.ref 500 0 0),(4,int k)],ak [(500,.box 182 [.d (dS t),int j])]⟩) himp ?_))
   (fun (σ:St) (he:k=lB t j) himp=>au σ (AW.imp (τ:=⟨lst [(0,.ref 500 0 0),(4,int k)],ak [(500,.box 182 [.d (dS t),int j])]⟩) himp ?_))
  .by_cases cr:k < t.length
   .have eZ:=IA G l4 t[k];have Hu:=Dn l4 t[k];by_cases hm:t[k]∈l4
    .have tN:¬ Lib.indexByte l4 t[k] < 0:=fun h=>Hu.1 h hm;by_cases acy:j < k
     .have iR:(j:Int) < (k:Int):=by omega
      by_cases mg:((t[k]).toNat:Int)=48
      .have hc:t[k]=48:=(u1 _ 48 (by decide)).1 mg;have qf:=(Aq fw (Aq @bl (Aq @ch (Aq @sL (Aq @cr (Aq @tN (Aq @iR (Aq @acy @mg))))))));refine dv eZ [0,4,63] [500] ?_;refine aax rfl ?_;refine ah (hgo _ (aeQ cw cr (.inr ⟨acy,.inl hc⟩)) cr ?_);refine aX fw
      .by_cases nI:((t[k]).toNat:Int)=49
       .have hc:t[k]=49:=(u1 _ 49 (by decide)).1 nI;have qf:=(Aq fw (Aq @bl (Aq @ch (Aq @sL (Aq @cr (Aq @tN (Aq @iR (Aq @acy (Aq @mg @nI)))))))));refine dv eZ [0,4,63] [500] ?_;refine aax rfl ?_;refine ah (hgo _ (aeQ cw cr (.inr ⟨acy,.inr hc⟩)) cr ?_);refine aX fw
       .have qf:=(Aq fw (Aq @bl (Aq @ch (Aq @sL (Aq @cr (Aq @tN (Aq @iR (Aq @acy (Aq @mg @nI)))))))));refine dv eZ [0,4,63] [500] ?_;refine ag rfl ?_;refine bG (hstop _ (ow cw hk fun _=>⟨hm,fun _=>⟨fun e=>mg (by rw[e];rfl),fun e=>nI (by rw[e];rfl)⟩⟩) ?_);refine aX fw
     .have iR:¬ (j:Int) < (k:Int):=by omega
      have qf:=(Aq fw (Aq @bl (Aq @ch (Aq @sL (Aq @cr (Aq @tN (Aq @iR @acy)))))));refine dv eZ [0,4,63] [500] ?_;refine ag rfl ?_;refine bG (hstop _ (ow cw hk fun _=>⟨hm,fun h=>absurd h acy⟩) ?_);refine aX fw
    .have tN:Lib.indexByte l4 t[k] < 0:=Hu.2 hm;have qf:=(Aq fw (Aq @bl (Aq @ch (Aq @sL (Aq @cr @tN)))));refine dv eZ [0,4,63] [500] ?_;refine aax rfl ?_;refine ah (hgo _ (aeQ cw cr (.inl hm)) cr ?_);refine aX fw
   .obtain rfl:k=t.length:=by omega
    by_cases acy:j < t.length
    .have iR:(j:Int) < (t.length:Int):=by omega
     have qf:=(Aq fw (Aq @bl (Aq @ch (Aq @sL (Aq @iR @acy)))));refine al [0,4,63] [500] ?_;refine ag rfl ?_;refine bG (hstop _ (ow cw hk fun h=>absurd h cr) ?_);refine aX fw
    .have iR:¬ (j:Int) < (t.length:Int):=by omega
     have qf:=(Aq fw (Aq @bl (Aq @ch (Aq @sL (Aq @iR @acy)))));refine al [0,4,63] [500] ?_;refine ag rfl ?_;refine bG (hstop _ (ow cw hk fun h=>absurd h cr) ?_);refine aX fw
  .refine aU ?_;refine bO fw ?_;(try simp only[aM,aP]);refine aV.mk (k+1) ⟨by omega,by omega,hn⟩ (by omega) ?_;refine aX fw
  .subst he;clear au aa;have afB:List.take (lB t j - j) (List.drop j t)=fR t j:=jT;have qf:=(Aq fw (Aq @bl (Aq @FM (Aq @hel (Aq @het @afB)))));refine fv [0,4,5] [500] ?_;refine ae fun K3 aH=>?_;by_cases hs:fR t j=[]
   .refine rg [0,4,5,77] [500] (cK rfl) fun K' af=>?_;(repeat (refine sxn fun K2 aa=>?_;simp[ab,bk,bF,dS,hs,br,aZ,aS];(repeat (refine⟨by omega,?_⟩));refine aa _ ?_;clear aa K2));refine sxz (af _ (AW.st (by simp[ab,bk,bF,dS,hs,br,aZ,aS];rfl) ?_));clear af K';refine aax rfl ?_;refine rgm (Aq fw (Aq @ba.eq_1 (Aq @ba.eq_2 @ba.eq_3))) v8 [2,3] [500] ?_;refine bn ?_;simp[D.le,D.le.go,aaA,ab,bk,bF,dS,bk,bF,jY,aaR,ba,br,hs]
   .have qm:(fR t j == [])=false:=by simpa using hs
    have wF:(fR t j).isEmpty=false:=by rw[List.isEmpty_eq_false_iff];exact hs
    refine rg [0,4,5,77] [500] (cK rfl) fun K' af=>?_;(repeat (refine sxn fun K2 aa=>?_;simp[ab,bk,bF,dS,br,aZ,aS,hs,qm,wF];(repeat (refine⟨by omega,?_⟩));refine aa _ ?_;clear aa K2));refine sxz (af _ (AW.st (by simp[ab,bk,bF,dS,br,aZ,aS,hs,qm,wF];rfl) ?_));clear af K';refine ag rfl ?_;refine ah (aH _ ?_);refine ae fun K4 hK4=>?_
    cases hn:gb (fR t j) with
    | false=>
     rw[hn]at acO;refine aR fw acO [0,4,5,82] [500] ?_;refine aax rfl ?_;refine rgm (Aq fw (Aq @ba.eq_1 (Aq @ba.eq_2 @ba.eq_3))) wa [2,3] [500] ?_;refine bn ?_;simp[D.le,D.le.go,aaA,ab,bk,bF,dS,bk,bF,jY,aaR,ba,br,hs,hn]
    | true=>
     rw[hn]at acO;refine aR fw acO [0,4,5,82] [500] ?_;refine ag rfl ?_;refine ah (hK4 _ ?_);refine rgq fw [5] [500] ?_;refine rgq fw [2,3] [500] ?_;exact aG (Aq fw (Aq @bk.eq_1 (Aq @bF.eq_1 (Aq @jY.eq_1 (Aq @jY.eq_2 (Aq @aaR.eq_1 (Aq @aaR.eq_2 (Aq @hs @hn))))))))
end Go.Proofs.YtdigkhaofjmgkaaGreatDoor
namespace Go.Proofs.YtdigkhaofjmgkaaGreatDoor
theorem KR {α:Type} {t:List UInt8} {s:UInt8} {f:Nat->Rs α} (hf:il t f):∀ (n m i:Nat) (acc:List α),i<=t.length->t.length+1 - i<=n->t.length+1 - i<=m->abO t s f n i acc=abO t s f m i acc
 | 0,_,i,_,hi,h,_=>by omega
 | _+1,0,i,_,hi,_,h=>by omega
 | n+1,m+1,i,acc,hi,h1,h2=>by
  rw[abO,abO]
  cases bz:f i with
  | err c p q=>rfl
  | ok x j=>
   obtain⟨g1,g2⟩:=hf i x j hi bz;obtain⟨t1,t2,t3⟩:=acY (c:=s) g2;dsimp only;split
   .exact KR hf n m _ _ t2 (by omega) (by omega)
   .rfl
def ig {α:Type} (t:List UInt8) (s:UInt8) (f:Nat->Rs α) (i:Nat) (acc:List α):Rs (List α):=abO t s f (t.length+1 - i) i acc
theorem pz {α:Type} {t:List UInt8} {s:UInt8} {f:Nat->Rs α} (hf:il t f) {i:Nat} (hi:i<=t.length) (acc:List α):ig t s f i acc=match f i with
  | .err c p _=>.err c p 0
  | .ok x j=>if (cU t s j).1 then ig t s f (cU t s j).2 (acc ++ [x]) else .ok (acc ++ [x]) (cU t s j).2:=by
 unfold ig;obtain⟨n,hn⟩:∃ n,t.length+1 - i=n+1:=⟨t.length - i,by omega⟩;rw[hn,abO]
 cases bz:f i with
 | err c p q=>rfl
 | ok x j=>
  obtain⟨g1,g2⟩:=hf i x j hi bz;obtain⟨t1,t2,t3⟩:=acY (c:=s) g2;dsimp only;split
  .exact KR hf _ _ _ _ t2 (by omega) (by omega)
  .rfl
theorem EI {α:Type} {t:List UInt8} {s:UInt8} {f:Nat->Rs α}:∀ (n i:Nat) (acc:List α) {c:Int} {p q:Nat},abO t s f n i acc = .err c p q->q=0
 | 0,_,_,_,_,_,h=>by simp only[abO,Rs.err.injEq]at h;omega
 | n+1,i,acc,c,p,q,h=>by
  rw[abO]at h;split at h
  .simp only[Rs.err.injEq]at h;omega
  .split at h
   .exact EI n _ _ h
   .cases h
theorem Bg {l:List Ex} (h:l.length≠1):adT l = .and l:=by
 match l,h with
 | [],_=>rfl
 | [_],h=>exact absurd rfl h
 | _ :: _ :: _,_=>rfl
theorem Bh {l:List Ex} (h:l.length≠1):oA l = .or l:=by
 match l,h with
 | [],_=>rfl
 | [_],h=>exact absurd rfl h
 | _ :: _ :: _,_=>rfl
open Go.Av
mutual
def dE:Ex->D
 | .cst b=>.bA 188 (.v (.bool b))
 | .bit s=>.bA 189 (dS s)
 | .abP s=>.bA 190 (dS s)
 | .fS s=>.bA 191 (dS s)
 | .not e=>.bA 114 (.agg [dE e])
 | .and l=>.bA 192 (.sl none (vq l))
 | .or l=>.bA 116 (.sl none (vq l))
def vq:List Ex->List (List D)
 | []=>[]
 | e :: l=>[dE e] :: vq l
end
theorem oC:∀ l:List Ex,vq l=l.map fun e=>[dE e]
 | []=>rfl
 | e :: l=>by rw[vq,oC l];rfl
theorem ach (e:Ex):∃ t y,dE e = .bA t y:=by
 cases e<;>simp only[dE]<;>exact⟨_,_,rfl⟩
def dEl (l:List Ex):D:=.sl none (l.map fun e=>[dE e])
def dQ (q:Nat):D:=if q=1 then .bA 190 (dS []) else if q=2 then .bA 191 (dS []) else if q=3 then .bA 189 (dS []) else .v .nilIface
def cL:Rs Ex->D
 | .ok x _=>.tup [dE x,.v .nilIface]
 | .err c p q=>.tup [dQ q,ba (some (c,some p))]
def jX:Rs (List Ex)->D
 | .ok l _=>.tup [dEl l,.v .nilIface]
 | .err c p _=>.tup [.sl (some false) [],ba (some (c,some p))]
theorem KS (G:ao) (t:List UInt8) (ht:t.length<=2000) (g:FuncId) (s:UInt8) (sn:Int) (hsn:(s.toNat:Int)=sn) (d:Int) (f:Nat->Rs Ex) (hf:il t f)
  (dG:∀ i,i<=t.length->MC prog G [500] g [.ref 500 0 0,.d (ab d)] (ak (bk t i)) (.d (cL (f i))) (ak (bk t (aaR (f i))))) (i:Nat) (hi:i<=t.length) :
  MC prog G [500] 148 [.ref 500 0 0,.d (.v (.int .u8 sn)),.d (ab d),.bm g (.ref 500 0 0)] (ak (bk t i)) (.d (jX (ig t s f i []))) (ak (bk t (aaR (ig t s f i [])))):=by
 generalize hR:ig t s f i []=R;refine MC.aC (aay _) func148 rfl rfl (rs:=[.tmp 8,.tmp 9]) results148 (by simp[ntmps148]) rfl fun X=>?_;simp only[ntmps148];have fw:=(Aq @ab.eq_1 (Aq @bk.eq_1 (Aq @bF.eq_1 @dS.eq_1)));refine rgq fw [0,1,2,3] [500] ?_;refine rgq fw [0,1,2,3,10] [500] ?_;refine bZ (S:=Nat×List Ex) (fun z=>z.1<=t.length/\z.2.length<=z.1/\ig t s f z.1 z.2=R) (fun z=>⟨lst [(0,.ref 500 0 0),(1,.d (.v (.int .u8 sn))),(2,.d (ab d)),(3,.bm g (.ref 500 0 0)),(10,.own 300 0 z.2.length)],ak [(500,.box 182 [.d (dS t),int z.1]),(300,.sl 90 1 (z.2.map fun e=>[dE e]))]⟩) (fun z=>t.length - z.1) (i,[]) ?_ ⟨hi,by simp,hR⟩ ?_
 .refine (aB.iH 10 300 90 1 rfl rfl).trans ?_;refine aX fw
 .rintro⟨k,acc⟩ ⟨hk,B4,hs⟩;dsimp only at hk B4 hs ⊢;have hc:=dG k hk;rw[pz hf hk]at hs;refine aU ?_
  cases Cx:f k with
  | err c p q=>
   rw[Cx]at hc hs;dsimp only at hs;subst hs;refine rgm (Aq fw (Aq @cL.eq_1 (Aq @cL.eq_2 (Aq @ba.eq_1 (Aq @ba.eq_2 @ba.eq_3))))) hc [0,1,2,3,10,11,12] [500,300] ?_;refine ae fun K1 au=>?_;refine rgq fw [0,1,2,3,10,11,12,20] [500,300] ?_;refine aax rfl ?_;refine rgq fw [8,9] [500] ?_;exact aG (Aq fw (Aq @bk.eq_1 (Aq @bF.eq_1 (Aq @jX.eq_1 (Aq @jX.eq_2 (Aq @aaR.eq_1 (Aq @aaR.eq_2 (Aq @ba.eq_1 (Aq @ba.eq_2 @ba.eq_3)))))))))
  | ok x j=>
   rw[Cx]at hc hs;dsimp only at hs;obtain⟨g1,g2⟩:=hf k x j hk Cx;have cy:=Ao G t j (by omega) g2 s;rw[hsn]at cy;obtain⟨t1,t2,t3⟩:=acY (c:=s) g2;obtain⟨tx,cx,hx⟩:=ach x;have qf:=(Aq fw (Aq @cL.eq_1 (Aq @cL.eq_2 (Aq @aaR.eq_1 (Aq @aaR.eq_2 @hx)))));refine ab6 hc [0,1,2,3,10,11,12] [500,300] ?_;refine ae fun K1 au=>?_;refine rgq fw [0,1,2,3,10,11,12,20] [500,300] ?_;refine ag rfl ?_;refine ah (au _ ?_);refine rg [0,1,2,3,10] [500,300] (cK rfl) fun K' af=>?_;(repeat (refine sxn fun K2 aa=>?_;simp[ab,bk,bF,dS,List.take_of_length_le];(repeat (refine⟨by omega,?_⟩));refine aa _ ?_;clear aa K2));refine sxz (af _ (AW.st (by simp[ab,bk,bF,dS,List.take_of_length_le];rfl) ?_));clear af K'
   cases wG:cU t s j with
   | mk b k2=>
   rw[wG]at hs cy t1 t2 t3;dsimp only at hs cy t1 t2 t3
   cases b with
   | true=>
    rw[if_pos rfl]at hs;have ay:=t3 rfl;refine rgm fw cy [0,1,2,3,10,29] [500,300] ?_;refine ag rfl ?_;refine ah ?_;refine aV.mk (k2,acc ++ [x]) ⟨t2,by simp;omega,hs⟩ (by dsimp only;omega) ?_;refine aX (Aq fw @hx)
   | false=>
    rw[if_neg (by simp)]at hs;subst hs;refine rgm fw cy [0,1,2,3,10,29] [500,300] ?_;refine aax rfl ?_;refine AW.imp (aB.freeze 300 (by decide)) ?_;refine AW.st (by simp[ab,bk,bF,dS];rfl) ?_;refine rgq fw [8,9] [500] ?_;exact aG (Aq fw (Aq @bk.eq_1 (Aq @bF.eq_1 (Aq @jX.eq_1 (Aq @jX.eq_2 (Aq @dEl.eq_1 (Aq @aaR.eq_1 (Aq @aaR.eq_2 @hx))))))))
theorem Mf (G:ao) (t:List UInt8) (ht:t.length<=2000) (d:Nat) (acn:∀ i,i<=t.length->MC prog G [500] 197 [.ref 500 0 0,.d (ab d)] (ak (bk t i)) (.d (cL (bT t d i))) (ak (bk t (aaR (bT t d i))))) (i:Nat) (hi:i<=t.length) :
  MC prog G [500] 149 [.ref 500 0 0,.d (ab d)] (ak (bk t i)) (.d (cL (jE t (bT t d) i))) (ak (bk t (aaR (jE t (bT t d) i)))):=by
 have hsv:=KS G t ht 197 38 38 rfl d (bT t d) (acX t d) acn i hi;have hR:jE t (bT t d) i=(ig t 38 (bT t d) i []).map adT:=rfl;rw[hR];have hq:∀ {c:Int} {p q:Nat},ig t 38 (bT t d) i [] = .err c p q->q=0:=fun h=>EI _ _ _ h
 cases hs:ig t 38 (bT t d) i [] with
 | err c p q=>
  obtain rfl:=hq hs;rw[hs]at hsv;refine MC.aC (aay _) func149 rfl rfl (rs:=[.tmp 4,.tmp 5]) results149 (by simp[ntmps149]) rfl fun X=>?_;simp only[ntmps149];have fw:=(Aq @ab.eq_1 (Aq @bk.eq_1 (Aq @bF.eq_1 @dS.eq_1)));refine rgq fw [0,1] [500] ?_;refine rgm (Aq fw (Aq @jX.eq_1 (Aq @jX.eq_2 (Aq @ba.eq_1 (Aq @ba.eq_2 @ba.eq_3))))) hsv [6,7] [500] ?_;refine ae fun K1 au=>?_;refine rgq fw [6,7,17] [500] ?_;refine aax rfl ?_;refine rgq fw [4,5] [500] ?_;refine bn ?_;simp[D.le,D.le.go,aaA,ab,bk,bF,dS,bk,bF,cL,aaR,ba,Rs.map,dQ]
 | ok l p=>
  rw[hs]at hsv;by_cases hl:l.length=1
  .obtain⟨x,rfl⟩:=List.length_eq_one_iff.1 hl;obtain⟨tx,cx,hx⟩:=ach x;refine MC.aC (aay _) func149 rfl rfl (rs:=[.tmp 4,.tmp 5]) results149 (by simp[ntmps149]) rfl fun X=>?_;simp only[ntmps149];have fw:=(Aq @ab.eq_1 (Aq @bk.eq_1 (Aq @bF.eq_1 @dS.eq_1)));refine rgq fw [0,1] [500] ?_;have qf:=(Aq fw (Aq @jX.eq_1 (Aq @jX.eq_2 (Aq @dEl.eq_1 @hx))));refine ab6 hsv [6,7] [500] ?_;refine ae fun K1 au=>?_;refine rgq fw [6,7,17] [500] ?_;refine ag rfl ?_;refine ah (au _ ?_);refine ae fun K2 aa=>?_;refine rgq fw [6,21] [500] ?_;refine aax rfl ?_;refine rgq fw [4,5] [500] ?_;refine bn ?_;simp[D.le,D.le.go,aaA,ab,bk,bF,dS,bk,bF,cL,aaR,Rs.map,adT,hx,D.le_refl]
  .have eG:¬ (l.length:Int)=1:=by omega
   have rB:=Bg hl;refine MC.aC (aay _) func149 rfl rfl (rs:=[.tmp 4,.tmp 5]) results149 (by simp[ntmps149]) rfl fun X=>?_;simp only[ntmps149];have fw:=(Aq @ab.eq_1 (Aq @bk.eq_1 (Aq @bF.eq_1 @dS.eq_1)));refine rgq fw [0,1] [500] ?_;refine rgm (Aq fw (Aq @jX.eq_1 (Aq @jX.eq_2 @dEl.eq_1))) hsv [6,7] [500] ?_;refine ae fun K1 au=>?_;refine rgq fw [6,7,17] [500] ?_;refine ag rfl ?_;refine ah (au _ ?_);refine ae fun K2 aa=>?_;have qf:=(Aq fw (Aq @hl @eG));refine al [6,21] [500] ?_;refine ag rfl ?_;refine ah (aa _ ?_);refine rgq fw [4,5] [500] ?_;refine bn ?_;simp[D.le,D.le.go,aaA,ab,bk,bF,dS,bk,bF,cL,aaR,Rs.map,rB,dE,oC,D.le_refl,D.aaE]
theorem JD (G:ao) (t:List UInt8) (ht:t.length<=2000) (d:Nat) (acn:∀ i,i<=t.length->MC prog G [500] 197 [.ref 500 0 0,.d (ab d)] (ak (bk t i)) (.d (cL (bT t d i))) (ak (bk t (aaR (bT t d i))))) (i:Nat) (hi:i<=t.length) :
  MC prog G [500] 96 [.ref 500 0 0,.d (ab d)] (ak (bk t i)) (.d (cL (ic t (bT t d) i))) (ak (bk t (aaR (ic t (bT t d) i)))):=by
 have hsv:=KS G t ht 149 124 124 rfl d (jE t (bT t d)) (vg (acX t d)) (Mf G t ht d acn) i hi;have hR:ic t (bT t d) i=(ig t 124 (jE t (bT t d)) i []).map oA:=rfl;rw[hR];have hq:∀ {c:Int} {p q:Nat},ig t 124 (jE t (bT t d)) i [] = .err c p q->q=0:=fun h=>EI _ _ _ h
 cases hs:ig t 124 (jE t (bT t d)) i [] with
 | err c p q=>
  obtain rfl:=hq hs;rw[hs]at hsv;refine MC.aC (aay _) func96 rfl rfl (rs:=[.tmp 4,.tmp 5]) results96 (by simp[ntmps96]) rfl fun X=>?_;simp only[ntmps96];have fw:=(Aq @ab.eq_1 (Aq @bk.eq_1 (Aq @bF.eq_1 @dS.eq_1)));refine rgq fw [0,1] [500] ?_;refine rgm (Aq fw (Aq @jX.eq_1 (Aq @jX.eq_2 (Aq @ba.eq_1 (Aq @ba.eq_2 @ba.eq_3))))) hsv [6,7] [500] ?_;refine ae fun K1 au=>?_;refine rgq fw [6,7,17] [500] ?_;refine aax rfl ?_;refine rgq fw [4,5] [500] ?_;refine bn ?_;simp[D.le,D.le.go,aaA,ab,bk,bF,dS,bk,bF,cL,aaR,ba,Rs.map,dQ]
 | ok l p=>
  rw[hs]at hsv;by_cases hl:l.length=1
  .obtain⟨x,rfl⟩:=List.length_eq_one_iff.1 hl;obtain⟨tx,cx,hx⟩:=ach x;refine MC.aC (aay _) func96 rfl rfl (rs:=[.tmp 4,.tmp 5]) results96 (by simp[ntmps96]) rfl fun X=>?_;simp only[ntmps96];have fw:=(Aq @ab.eq_1 (Aq @bk.eq_1 (Aq @bF.eq_1 @dS.eq_1)));refine rgq fw [0,1] [500] ?_;have qf:=(Aq fw (Aq @jX.eq_1 (Aq @jX.eq_2 (Aq @dEl.eq_1 @hx))));refine ab6 hsv [6,7] [500] ?_;refine ae fun K1 au=>?_;refine rgq fw [6,7,17] [500] ?_;refine ag rfl ?_;refine ah (au _ ?_);refine ae fun K2 aa=>?_;refine rgq fw [6,21] [500] ?_;refine aax rfl ?_;refine rgq fw [4,5] [500] ?_;refine bn ?_;simp[D.le,D.le.go,aaA,ab,bk,bF,dS,bk,bF,cL,aaR,Rs.map,oA,hx,D.le_refl]
  .have eG:¬ (l.length:Int)=1:=by omega
   have rB:=Bh hl;refine MC.aC (aay _) func96 rfl rfl (rs:=[.tmp 4,.tmp 5]) results96 (by simp[ntmps96]) rfl fun X=>?_;simp only[ntmps96];have fw:=(Aq @ab.eq_1 (Aq @bk.eq_1 (Aq @bF.eq_1 @dS.eq_1)));refine rgq fw [0,1] [500] ?_;refine rgm (Aq fw (Aq @jX.eq_1 (Aq @jX.eq_2 @dEl.eq_1))) hsv [6,7] [500] ?_;refine ae fun K1 au=>?_;refine rgq fw [6,7,17] [500] ?_;refine ag rfl ?_;refine ah (au _ ?_);refine ae fun K2 aa=>?_;have qf:=(Aq fw (Aq @hl @eG));refine al [6,21] [500] ?_;refine ag rfl ?_;refine ah (aa _ ?_);refine rgq fw [4,5] [500] ?_;refine bn ?_;simp[D.le,D.le.go,aaA,ab,bk,bF,dS,bk,bF,cL,aaR,Rs.map,rB,dE,oC,D.le_refl,D.aaE]
end Go.Proofs.YtdigkhaofjmgkaaGreatDoor
namespace Go.Proofs.YtdigkhaofjmgkaaGreatDoor
def aeq {α:Type} (sz:α->Nat) (t:List UInt8) (f:Nat->Rs α):Prop:=∀ i x j,i<=t.length->f i = .ok x j->sz x<=5 * (j - i)
def Has (t:List UInt8) (p:Nat) (w:List UInt8):Prop:=∀ k,k < w.length->t[p+k]? = w[k]?
theorem Has.cons {t:List UInt8} {p:Nat} {c:UInt8} {w:List UInt8} (h:Has t p (c :: w)):t[p]? = some c/\Has t (p+1) w:=by
 refine⟨by simpa using h 0 (by simp),fun k hk=>?_⟩;have:=h (k+1) (by simp;omega);rw[show p+1+k=p+(k+1) by omega,this];rfl
theorem Has.app {t:List UInt8} {p:Nat} {u v:List UInt8} (h:Has t p (u ++ v)):Has t p u/\Has t (p+u.length) v:=by
 constructor
 .intro k hk;rw[h k (by simp;omega),List.getElem?_append_left hk]
 .intro k hk;rw[show p+u.length+k=p+(u.length+k) by omega,h (u.length+k) (by simp;omega),List.getElem?_append_right (by omega)];congr 1;omega
theorem Has.top {t:List UInt8} {p:Nat} {w:List UInt8} (h:Has t p w) (hp:p<=t.length):p+w.length<=t.length:=by
 cases w with
 | nil=>simpa using hp
 | cons c w=>
  have h1:=h w.length (by simp)
  have h2:(c :: w)[w.length]?≠none:=by simp
  rw[<- h1]at h2
  have h3:p+w.length < t.length:=by
   apply Classical.byContradiction;intro hn;exact h2 (List.getElem?_eq_none (by omega))
  simp only[List.length_cons];omega
theorem U1 {s:List UInt8} (h:gb s=true):s≠[]/\s.length<=8/\(∀ c∈s,jb c=false)/\∀ c,s[0]? = some c->jb c=false/\c≠48/\c≠49/\97<=c.toNat:=by
 unfold gb at h;simp only[Bool.and_eq_true,decide_eq_true_eq,Lp]at h;obtain⟨h1,h2,h3,h4,h5,-⟩:=h
 have hs:∀ c:UInt8,lI.contains c=true->jb c=false:=by
  have h:∀ n:Fin 256,lI.contains (UInt8.ofNat n)=true->jb (UInt8.ofNat n)=false:=by decide +kernel
  intro c;have:=h ⟨c.toNat,c.toNat_lt⟩;simpa using this
 refine⟨h1,h2,fun c hc=>hs c (h5 c hc),fun c hc=>?_⟩;have hm:c∈s:=List.mem_of_getElem? hc
 have hg:s.getD 0 0=c:=by rw[List.getD_eq_getElem?_getD,hc];rfl
 rw[hg]at h3;refine⟨hs c (h5 c hm),?_,?_,h3⟩<;>rintro rfl<;>revert h3<;>decide
mutual
def fi:Ex->Prop
 | .cst _=>True
 | .bit s=>gb s=true
 | .abP s=>gb s=true
 | .fS s=>gb s=true
 | .not e=>fi e
 | .and l=>2<=l.length/\s6 l
 | .or l=>2<=l.length/\s6 l
def s6:List Ex->Prop
 | []=>True
 | e :: l=>fi e/\s6 l
end
theorem ad5:∀ l:List Ex,s6 l↔∀ e∈l,fi e
 | []=>by simp[s6]
 | e :: l=>by simp[s6,ad5 l]
mutual
def dpE:Ex->Nat
 | .cst _=>1
 | .bit _=>1
 | .abP _=>1
 | .fS _=>1
 | .not e=>dpE e+1
 | .and l=>pW l+1
 | .or l=>pY l+1
def pW:List Ex->Nat
 | []=>0
 | e :: l=>max (dpE e) (pW l)
def pY:List Ex->Nat
 | []=>0
 | e :: l=>max (match e with | .and m=>pW m | e=>dpE e) (pY l)
end
def pX:Ex->Nat
 | .and l=>pW l
 | .or l=>pY l
 | e=>dpE e
def dpJ:Ex->Nat
 | .and l=>pW l
 | e=>dpE e
theorem NS (e:Ex) (l:List Ex):pY (e :: l)=max (dpJ e) (pY l):=by
 cases e<;>simp[pY,dpJ]
theorem NR (e:Ex):dpJ e<=dpE e:=by cases e<;>simp[dpJ,dpE]
theorem NQ (e:Ex):pX e<=dpJ e:=by
 cases e<;>simp[pX,dpJ,dpE]
theorem NP (e:Ex):dpE e<=pX e+1:=by
 cases e<;>simp[pX,dpE]
theorem EE {t:List UInt8} {s:UInt8} {f:Nat->Rs Ex} (P:Ex->Prop) (hf:∀ i x j,f i = .ok x j->P x):∀ (n i:Nat) (acc l:List Ex) (j:Nat),abO t s f n i acc = .ok l j->(∀ x∈acc,P x)->∀ x∈l,P x
 | 0,i,acc,l,j,h,_=>by simp[abO]at h
 | n+1,i,acc,l,j,h,ha=>by
  rw[abO]at h
  cases bz:f i with
  | err c p q=>rw[bz]at h;cases h
  | ok x k=>
   rw[bz]at h;dsimp only at h
   have eX:∀ y∈acc ++ [x],P y:=fun y hy=>by
    rcases List.mem_append.1 hy with hy | hy
    .exact ha y hy
    .simp at hy;subst hy;exact hf _ _ _ bz
   split at h
   .exact EE P hf n _ _ l j h eX
   .simp only[Rs.ok.injEq]at h;obtain⟨rfl,-⟩:=h;exact eX
theorem EH {t:List UInt8} {s:UInt8} {f:Nat->Rs Ex}:∀ (n i:Nat) (acc l:List Ex) (j:Nat),abO t s f n i acc = .ok l j->acc.length < l.length
 | 0,i,acc,l,j,h=>by simp[abO]at h
 | n+1,i,acc,l,j,h=>by
  rw[abO]at h;split at h
  .cases h
  .split at h
   .have:=EH n _ _ l j h;simp only[List.length_append,List.length_singleton]at this;omega
   .simp only[Rs.ok.injEq]at h;obtain⟨rfl,-⟩:=h;simp
theorem Gc {d:Nat}:∀ {l:List Ex},(∀ x∈l,dpE x<=d)->pW l<=d
 | [],_=>by simp[pW]
 | e :: l,h=>by
  have h1:=h e (by simp);have h2:=Gc (l:=l) fun x hx=>h x (by simp[hx]);rw[pW];omega
theorem Gd {d:Nat}:∀ {l:List Ex},(∀ x∈l,dpJ x<=d)->pY l<=d
 | [],_=>by simp[pY]
 | e :: l,h=>by
  have h1:=h e (by simp);have h2:=Gd (l:=l) fun x hx=>h x (by simp[hx]);rw[NS];omega
theorem Mg {t:List UInt8} {d:Nat} (h:∀ i x j,bT t d i = .ok x j->fi x/\dpE x<=d) {i j:Nat} {x:Ex} (he:jE t (bT t d) i = .ok x j):fi x/\dpJ x<=d:=by
 obtain⟨l,h1,rfl⟩:=kS he;have ha:=EE (fun x=>fi x/\dpE x<=d) h _ _ _ _ _ h1 (by simp);have hp:=EH _ _ _ _ _ h1;by_cases hl:l.length=1
 .obtain⟨x,rfl⟩:=List.length_eq_one_iff.1 hl;have:=ha x (by simp);exact⟨this.1,Nat.le_trans (NR x) this.2⟩
 .rw[Bg hl];exact⟨⟨by simp at hp;omega,(ad5 _).2 fun x hx=>(ha x hx).1⟩,Gc fun x hx=>(ha x hx).2⟩
theorem JE {t:List UInt8} {d:Nat} (h:∀ i x j,bT t d i = .ok x j->fi x/\dpE x<=d) {i j:Nat} {x:Ex} (he:ic t (bT t d) i = .ok x j):fi x/\pX x<=d:=by
 obtain⟨l,h1,rfl⟩:=kS he;have ha:=EE (fun x=>fi x/\dpJ x<=d) (fun i x j h'=>Mg h h') _ _ _ _ _ h1 (by simp);have hp:=EH _ _ _ _ _ h1;by_cases hl:l.length=1
 .obtain⟨x,rfl⟩:=List.length_eq_one_iff.1 hl;have:=ha x (by simp);exact⟨this.1,Nat.le_trans (NQ x) this.2⟩
 .rw[Bh hl];exact⟨⟨by simp at hp;omega,(ad5 _).2 fun x hx=>(ha x hx).1⟩,Gd fun x hx=>(ha x hx).2⟩
theorem Fb {t:List UInt8} {q i j:Nat} {s:List UInt8} (h:abq t q i = .ok s j):gb s=true:=by
 unfold abq at h;split at h
 .cases h
 .split at h
  .cases h
  .rename_i hn;simp only[Rs.ok.injEq]at h;obtain⟨rfl,-⟩:=h;simpa using hn
theorem JA (t:List UInt8):∀ d i x j,bT t d i = .ok x j->fi x/\dpE x<=d
 | 0,i,x,j,h=>by simp[bT]at h
 | d+1,i,x,j,h=>by
  have ih:=JA t d;rw[bT]at h;split at h
  .cases he:bT t d (aaD t i+1) with
   | err c p q=>rw[he]at h;cases h
   | ok y k=>
    rw[he]at h;simp only[Rs.ok.injEq]at h;obtain⟨rfl,rfl⟩:=h;have:=ih _ _ _ he;exact⟨this.1,by simp only[dpE];omega⟩
  split at h
  .cases he:ic t (bT t d) (aaD t i+1) with
   | err c p q=>rw[he]at h;cases h
   | ok y k=>
    rw[he]at h;dsimp only at h;split at h
    .simp only[Rs.ok.injEq]at h;obtain⟨rfl,rfl⟩:=h;have:=JE ih he;have h3:=NP y;exact⟨this.1,by omega⟩
    .cases h
  split at h
  .simp only[Rs.ok.injEq]at h;obtain⟨rfl,rfl⟩:=h;exact⟨trivial,by simp only[dpE];omega⟩
  split at h
  .simp only[Rs.ok.injEq]at h;obtain⟨rfl,rfl⟩:=h;exact⟨trivial,by simp only[dpE];omega⟩
  split at h
  .obtain⟨s,h3,rfl⟩:=kS h;exact⟨Fb h3,by simp only[dpE];omega⟩
  split at h
  .obtain⟨s,h3,rfl⟩:=kS h;exact⟨Fb h3,by simp only[dpE];omega⟩
  .obtain⟨s,h3,rfl⟩:=kS h;exact⟨Fb h3,by simp only[dpE];omega⟩
theorem Ea {t:List UInt8} {x:Ex} (h:(fF t).1=some x):fi x/\pX x<=20:=by
 unfold fF at h;split at h
 .cases h
 .split at h
  .cases h
  .rename_i y i he;split at h
   .cases h
   .obtain rfl:=Option.some.inj h;exact JE (JA t 20) he
mutual
def da (is bH:List UInt8->Bool):Ex->Bool
 | .cst b=>b
 | .bit s=>is s
 | .abP s=>is s && !bH s
 | .fS s=>!is s && bH s
 | .not e=>!da is bH e
 | .and l=>tp is bH l
 | .or l=>tq is bH l
def tp (is bH:List UInt8->Bool):List Ex->Bool
 | []=>true
 | e :: l=>da is bH e && tp is bH l
def tq (is bH:List UInt8->Bool):List Ex->Bool
 | []=>false
 | e :: l=>da is bH e || tq is bH l
end
mutual
def bE:Ex->Nat
 | .cst _=>4
 | .bit s=>s.length+3
 | .abP s=>s.length+4
 | .fS s=>s.length+4
 | .not e=>bE e+1
 | .and l=>eU l+5
 | .or l=>eU l+5
def eU:List Ex->Nat
 | []=>0
 | e :: l=>bE e+eU l
end
theorem aeR:∀ (a b:List Ex),eU (a ++ b)=eU a+eU b
 | [],b=>by simp[eU]
 | e :: a,b=>by simp only[List.cons_append,eU,aeR a b];omega
theorem xU:∀ e:Ex,3<=bE e
 | .not e=>by have:=xU e;simp only[bE];omega
 | .cst _=>by simp[bE]
 | .bit _=>by simp[bE]
 | .abP _=>by simp only[bE];omega
 | .fS _=>by simp only[bE];omega
 | .and _=>by simp only[bE];omega
 | .or _=>by simp only[bE];omega
theorem vk {x:Ex}:∀ {l:List Ex},x∈l->bE x<=eU l
 | y :: l,h=>by
  rw[eU]
  rcases List.mem_cons.1 h with rfl | h
  .omega
  .have:=vk h;omega
theorem pO:∀ l:List Ex,3 * l.length<=eU l
 | []=>by simp
 | e :: l=>by have:=pO l;have:=xU e;simp only[List.length_cons,eU];omega
theorem EG {t:List UInt8} {s:UInt8} {f:Nat->Rs Ex} (hg:il t f) (hf:aeq bE t f):∀ (n i:Nat) (acc l:List Ex) (j:Nat),i<=t.length->abO t s f n i acc = .ok l j->eU l+5 * (l.length - 1)<=eU acc+5 * acc.length+5 * (j - i)/\acc.length < l.length
 | 0,i,acc,l,j,_,h=>by simp[abO]at h
 | n+1,i,acc,l,j,hi,h=>by
  rw[abO]at h
  cases bz:f i with
  | err c p q=>rw[bz]at h;cases h
  | ok x k=>
   rw[bz]at h;obtain⟨h1,h2⟩:=hg i x k hi bz;have h5:=hf i x k hi bz;obtain⟨t1,t2,t3⟩:=acY (c:=s) h2;dsimp only at h;split at h
   .rename_i ht;have h4:=t3 ht;have ih:=EG hg hf n _ _ l j t2 h;have h6:=Ag hg n _ _ l j t2 h;simp only[aeR,eU,List.length_append,List.length_singleton]at ih;omega
   .simp only[Rs.ok.injEq]at h;obtain⟨rfl,rfl⟩:=h;simp only[aeR,eU,List.length_append,List.length_singleton];omega
theorem Nl {l:List Ex} {m:Nat} (h:eU l+5 * (l.length - 1)<=m) (h0:0 < l.length):bE (adT l)<=m:=by
 by_cases h1:l.length=1
 .obtain⟨x,rfl⟩:=List.length_eq_one_iff.1 h1;simp only[eU,List.length_singleton]at h;show bE x<=m;omega
 .rw[Bg h1,bE];omega
theorem Np {l:List Ex} {m:Nat} (h:eU l+5 * (l.length - 1)<=m) (h0:0 < l.length):bE (oA l)<=m:=by
 by_cases h1:l.length=1
 .obtain⟨x,rfl⟩:=List.length_eq_one_iff.1 h1;simp only[eU,List.length_singleton]at h;show bE x<=m;omega
 .rw[Bh h1,bE];omega
theorem Me {t:List UInt8} {one:Nat->Rs Ex} (hg:il t one) (h:aeq bE t one):aeq bE t (jE t one):=fun i x j hi he=>by
 obtain⟨l,h1,rfl⟩:=kS he;have:=EG hg h _ _ _ _ _ hi h1;simp only[eU,List.length_nil]at this;exact Nl (by omega) (by omega)
theorem JC {t:List UInt8} {one:Nat->Rs Ex} (hg:il t one) (h:aeq bE t one):aeq bE t (ic t one):=fun i x j hi he=>by
 obtain⟨l,h1,rfl⟩:=kS he;have:=EG (vg hg) (Me hg h) _ _ _ _ _ hi h1;simp only[eU,List.length_nil]at this;exact Np (by omega) (by omega)
theorem E6 (t:List UInt8) (q i j:Nat) (s:List UInt8) (hi:i<=t.length) (h:abq t q i = .ok s j):s.length<=j - i/\1<=j - i:=by
 have hg:=Ax t q i s j hi h;have h1:=xu t i;unfold abq at h;split at h
 .cases h
 .split at h
  .cases h
  .simp only[Rs.ok.injEq]at h;obtain⟨rfl,rfl⟩:=h;have h4:=As t (aaD t i);unfold fR;rw[List.length_take];omega
theorem Jz (t:List UInt8):∀ d,aeq bE t (bT t d)
 | 0=>fun i x j _ h=>by simp[bT]at h
 | d+1=>fun i x j hi h=>by
  have ih:=Jz t d;have hg:=acX t d;have h1:=xu t i;have h2:=acL hi;have hb:∀ {c:UInt8},t[aaD t i]? = some c->aaD t i < t.length:=fun hc=>(List.getElem?_eq_some_iff.1 hc).1;rw[bT]at h;split at h
  .rename_i hc;have:=hb hc
   cases he:bT t d (aaD t i+1) with
   | err c p q=>rw[he]at h;cases h
   | ok y k=>
    rw[he]at h;simp only[Rs.ok.injEq]at h;obtain⟨rfl,rfl⟩:=h;have h3:=ih _ y k (by omega) he;have h4:=hg _ y k (by omega) he;simp only[bE];omega
  split at h
  .rename_i _ hc;have:=hb hc
   cases he:ic t (bT t d) (aaD t i+1) with
   | err c p q=>rw[he]at h;cases h
   | ok y k=>
    rw[he]at h;dsimp only at h;have h3:=JC hg ih _ y k (by omega) he;have h4:=adZ hg _ y k (by omega) he;obtain⟨t1,t2,t3⟩:=acY (c:=41) h4.2;split at h
    .simp only[Rs.ok.injEq]at h;obtain⟨rfl,rfl⟩:=h;omega
    .cases h
  split at h
  .rename_i _ _ hc;have:=hb hc;simp only[Rs.ok.injEq]at h;obtain⟨rfl,rfl⟩:=h;simp only[bE];omega
  split at h
  .rename_i _ _ _ hc;have:=hb hc;simp only[Rs.ok.injEq]at h;obtain⟨rfl,rfl⟩:=h;simp only[bE];omega
  split at h
  .rename_i _ _ _ _ hc;have:=hb hc;obtain⟨s,h3,rfl⟩:=kS h;have h4:=E6 t 1 _ j s (by omega) h3;simp only[bE];omega
  split at h
  .rename_i _ _ _ _ _ hc;have:=hb hc;obtain⟨s,h3,rfl⟩:=kS h;have h4:=E6 t 2 _ j s (by omega) h3;simp only[bE];omega
  .obtain⟨s,h3,rfl⟩:=kS h;have h4:=E6 t 3 _ j s (by omega) h3;simp only[bE];omega
theorem JL {t:List UInt8} {x:Ex} (h:(fF t).1=some x):bE x<=10000:=by
 unfold fF at h;split at h
 .cases h
 .rename_i hl;split at h
  .cases h
  .rename_i y i he;split at h
   .cases h
   .obtain rfl:=Option.some.inj h;have h1:=JC (acX t 20) (Jz t 20) 0 y i (Nat.zero_le _) he;have h2:=adZ (acX t 20) 0 y i (Nat.zero_le _) he;omega
open Go.Av
theorem Lj {t:List UInt8} {c:UInt8} {i j:Nat} (hj:aaD t i=j):cU t c i=if t[j]? = some c then (true,j+1) else (false,j):=by
 unfold cU;rw[hj]
theorem E9 {t:List UInt8} {q i:Nat} {c:Int} {p q':Nat} (h:abq t q i = .err c p q'):q'=q:=by
 unfold abq at h;split at h
 .simp only[Rs.err.injEq]at h;omega
 .split at h
  .simp only[Rs.err.injEq]at h;omega
  .cases h
theorem Vu (G:ao) (t:List UInt8) (ht:t.length<=2000):∀ (d:Nat),d<=20->∀ i,i<=t.length->MC prog G [500] 197 [.ref 500 0 0,.d (ab d)] (ak (bk t i)) (.d (cL (bT t d i))) (ak (bk t (aaR (bT t d i)))):=by
 intro d
 induction d with
 | zero=>
  intro _ i hi;have dO:=vw G t i (by omega) hi 4;refine MC.aC (aay _) func197 rfl rfl (rs:=[.tmp 4,.tmp 5]) results197 (by simp[ntmps197]) rfl fun X=>?_;simp only[ntmps197];have fw:=(Aq @ab.eq_1 (Aq @bk.eq_1 (Aq @bF.eq_1 @dS.eq_1)));refine rgq fw [0,1] [500] ?_;refine ae fun K1 au=>?_;refine rgq fw [0,1,17] [500] ?_;refine aax rfl ?_;refine rgm (Aq fw (Aq @ba.eq_1 (Aq @ba.eq_2 @ba.eq_3))) dO [4,5] [500] ?_;exact aG (Aq fw (Aq @bk.eq_1 (Aq @bF.eq_1 (Aq @cL.eq_1 (Aq @cL.eq_2 (Aq @bT.eq_1 (Aq @bT.eq_2 (Aq @aaR.eq_1 (Aq @aaR.eq_2 (Aq @ba.eq_1 (Aq @ba.eq_2 (Aq @ba.eq_3 @dQ.eq_1))))))))))))
 | succ d ih=>
  intro hd i hi;have ih:=ih (by omega);have nO:=JD G t ht d ih;have abN:=acL hi;have qc:=sN hi
  have hd0:¬ (d:Int)+1=0:=by omega
  have r4:t.length < 2^60:=by omega
  have C9:∀ c,MC prog G [500] 196 [.ref 500 0 0,.d (.v (.int .u8 c.toNat))] (ak (bk t i)) (.d (.v (.bool (cU t c i).1))) (ak (bk t (cU t c i).2)):=fun c=>Ao G t i r4 hi c;rw[bT];generalize hj:aaD t i=j at abN qc ⊢;have lS:∀ c,MC prog G [500] 196 [.ref 500 0 0,.d (.v (.int .u8 c.toNat))] (ak (bk t j)) (.d (.v (.bool (cU t c j).1))) (ak (bk t (cU t c j).2)):=fun c=>Ao G t j r4 abN c;have at1:=fun c=>Lj (t:=t) (c:=c) hj;have A3:=fun c=>Lj (t:=t) (c:=c) qc;simp only[at1]at C9;simp only[A3]at lS;have ay:∀ {c:UInt8},t[j]? = some c->j+1<=t.length:=fun h=>(List.getElem?_eq_some_iff.1 h).1;have k33:=C9 33;have lW:=lS 40;have nX:=lS 48;have pq:=lS 49;have qu:=lS 94;have uj:=lS 126;clear C9 at1 A3 hj;by_cases nB:t[j]? = some 33
  .rw[if_pos nB]at k33 ⊢;have hc:=ih (j+1) (ay nB)
   cases hr:bT t d (j+1) with
   | err c p q=>
    rw[hr]at hc;refine MC.aC (aay _) func197 rfl rfl (rs:=[.tmp 4,.tmp 5]) results197 (by simp[ntmps197]) rfl fun X=>?_;simp only[ntmps197];have fw:=(Aq @ab.eq_1 (Aq @bk.eq_1 (Aq @bF.eq_1 @dS.eq_1)));refine rgq fw [0,1] [500] ?_;refine ae fun K1 au=>?_;have qf:=(Aq fw @hd0);refine al [0,1,17] [500] ?_;refine ag rfl ?_;refine ah (au _ ?_);refine ae fun K2 aa=>?_;refine aU ?_;refine rgm fw k33 [0,1,20] [500] ?_;refine aax rfl ?_;refine rgm (Aq fw (Aq @cL.eq_1 (Aq @cL.eq_2 (Aq @ba.eq_1 (Aq @ba.eq_2 @ba.eq_3))))) hc [6,7] [500] ?_;refine ae fun K3 aH=>?_;refine rgq fw [6,7,31] [500] ?_;refine aax rfl ?_;refine rgq fw [4,5] [500] ?_;exact aG (Aq fw (Aq @bk.eq_1 (Aq @bF.eq_1 (Aq @cL.eq_1 (Aq @cL.eq_2 (Aq @aaR.eq_1 (Aq @aaR.eq_2 (Aq @ba.eq_1 (Aq @ba.eq_2 (Aq @ba.eq_3 @dQ.eq_1))))))))))
   | ok x k=>
    rw[hr]at hc;obtain⟨tx,cx,hx⟩:=ach x;refine MC.aC (aay _) func197 rfl rfl (rs:=[.tmp 4,.tmp 5]) results197 (by simp[ntmps197]) rfl fun X=>?_;simp only[ntmps197];have fw:=(Aq @ab.eq_1 (Aq @bk.eq_1 (Aq @bF.eq_1 @dS.eq_1)));refine rgq fw [0,1] [500] ?_;refine ae fun K1 au=>?_;have qf:=(Aq fw @hd0);refine al [0,1,17] [500] ?_;refine ag rfl ?_;refine ah (au _ ?_);refine ae fun K2 aa=>?_;refine aU ?_;refine rgm fw k33 [0,1,20] [500] ?_;refine aax rfl ?_;have qf:=(Aq fw (Aq @cL.eq_1 (Aq @cL.eq_2 @hx)));refine ab6 hc [6,7] [500] ?_;refine ae fun K3 aH=>?_;refine rgq fw [6,7,31] [500] ?_;refine ag rfl ?_;refine ah (aH _ ?_);refine rgq fw [4,5] [500] ?_;refine bn ?_;simp[D.le,D.le.go,aaA,ab,bk,bF,dS,bk,bF,cL,aaR,dE,hx,D.le_refl]
  rw[if_neg nB]at k33 ⊢;by_cases c40:t[j]? = some 40
  .rw[if_pos c40]at lW ⊢;have hc:=nO (j+1) (ay c40)
   cases hr:ic t (bT t d) (j+1) with
   | err c p q=>
    rw[hr]at hc;refine MC.aC (aay _) func197 rfl rfl (rs:=[.tmp 4,.tmp 5]) results197 (by simp[ntmps197]) rfl fun X=>?_;simp only[ntmps197];have fw:=(Aq @ab.eq_1 (Aq @bk.eq_1 (Aq @bF.eq_1 @dS.eq_1)));refine rgq fw [0,1] [500] ?_;refine ae fun K1 au=>?_;have qf:=(Aq fw @hd0);refine al [0,1,17] [500] ?_;refine ag rfl ?_;refine ah (au _ ?_);refine ae fun K2 aa=>?_;refine aU ?_;refine rgm fw k33 [0,1,20] [500] ?_;refine ag rfl ?_;refine rgm fw lW [0,1,36] [500] ?_;refine aax rfl ?_;refine rgm (Aq fw (Aq @cL.eq_1 (Aq @cL.eq_2 (Aq @ba.eq_1 (Aq @ba.eq_2 @ba.eq_3))))) hc [0,8,9] [500] ?_;refine ae fun K4 hK4=>?_;refine rgq fw [0,8,9,47] [500] ?_;refine aax rfl ?_;refine rgq fw [4,5] [500] ?_;exact aG (Aq fw (Aq @bk.eq_1 (Aq @bF.eq_1 (Aq @cL.eq_1 (Aq @cL.eq_2 (Aq @aaR.eq_1 (Aq @aaR.eq_2 (Aq @ba.eq_1 (Aq @ba.eq_2 (Aq @ba.eq_3 @dQ.eq_1))))))))))
   | ok x k=>
    rw[hr]at hc;obtain⟨tx,cx,hx⟩:=ach x;have hkt:=(adZ (acX t d) (j+1) x k (ay c40) hr).2;have zj:=Ao G t k r4 hkt 41;have C7:=acY (c:=41) hkt
    have BN:(cU t 41 k).1=false->aaD t (cU t 41 k).2=(cU t 41 k).2:=fun h=>by
     unfold cU at h ⊢;split at h
     .cases h
     .rw[if_neg ‹_›];exact sN hkt
    cases wG:cU t 41 k with
    | mk b k2=>
    rw[wG]at zj C7 BN;dsimp only at zj C7 BN ⊢
    cases b with
    | true=>
     refine MC.aC (aay _) func197 rfl rfl (rs:=[.tmp 4,.tmp 5]) results197 (by simp[ntmps197]) rfl fun X=>?_;simp only[ntmps197];have fw:=(Aq @ab.eq_1 (Aq @bk.eq_1 (Aq @bF.eq_1 @dS.eq_1)));refine rgq fw [0,1] [500] ?_;refine ae fun K1 au=>?_;have qf:=(Aq fw @hd0);refine al [0,1,17] [500] ?_;refine ag rfl ?_;refine ah (au _ ?_);refine ae fun K2 aa=>?_;refine aU ?_;refine rgm fw k33 [0,1,20] [500] ?_;refine ag rfl ?_;refine rgm fw lW [0,1,36] [500] ?_;refine aax rfl ?_;have qf:=(Aq fw (Aq @cL.eq_1 (Aq @cL.eq_2 (Aq @aaR.eq_1 (Aq @aaR.eq_2 @hx)))));refine ab6 hc [0,8,9] [500] ?_;refine ae fun K4 hK4=>?_;refine rgq fw [0,8,9,47] [500] ?_;refine ag rfl ?_;refine ah (hK4 _ ?_);refine ae fun K5 bN=>?_;refine rgm fw zj [0,8,51] [500] ?_;refine ag rfl ?_;refine ah (bN _ ?_);refine rgq fw [4,5] [500] ?_;exact aG (Aq fw (Aq @bk.eq_1 (Aq @bF.eq_1 (Aq @cL.eq_1 (Aq @cL.eq_2 (Aq @aaR.eq_1 (Aq @aaR.eq_2 (Aq @hx @wG))))))))
    | false=>
     have dO:=vw G t k2 r4 C7.2.1 3;rw[BN rfl]at dO;refine MC.aC (aay _) func197 rfl rfl (rs:=[.tmp 4,.tmp 5]) results197 (by simp[ntmps197]) rfl fun X=>?_;simp only[ntmps197];have fw:=(Aq @ab.eq_1 (Aq @bk.eq_1 (Aq @bF.eq_1 @dS.eq_1)));refine rgq fw [0,1] [500] ?_;refine ae fun K1 au=>?_;have qf:=(Aq fw @hd0);refine al [0,1,17] [500] ?_;refine ag rfl ?_;refine ah (au _ ?_);refine ae fun K2 aa=>?_;refine aU ?_;refine rgm fw k33 [0,1,20] [500] ?_;refine ag rfl ?_;refine rgm fw lW [0,1,36] [500] ?_;refine aax rfl ?_;have qf:=(Aq fw (Aq @cL.eq_1 (Aq @cL.eq_2 (Aq @aaR.eq_1 (Aq @aaR.eq_2 @hx)))));refine ab6 hc [0,8,9] [500] ?_;refine ae fun K4 hK4=>?_;refine rgq fw [0,8,9,47] [500] ?_;refine ag rfl ?_;refine ah (hK4 _ ?_);refine ae fun K5 bN=>?_;refine rgm fw zj [0,8,51] [500] ?_;refine aax rfl ?_;refine rgm (Aq fw (Aq @ba.eq_1 (Aq @ba.eq_2 @ba.eq_3))) dO [4,5] [500] ?_;exact aG (Aq fw (Aq @bk.eq_1 (Aq @bF.eq_1 (Aq @cL.eq_1 (Aq @cL.eq_2 (Aq @aaR.eq_1 (Aq @aaR.eq_2 (Aq @ba.eq_1 (Aq @ba.eq_2 (Aq @ba.eq_3 (Aq @dQ.eq_1 @wG)))))))))))
  rw[if_neg c40]at lW ⊢;by_cases pP:t[j]? = some 48
  .rw[if_pos pP]at nX ⊢;refine MC.aC (aay _) func197 rfl rfl (rs:=[.tmp 4,.tmp 5]) results197 (by simp[ntmps197]) rfl fun X=>?_;simp only[ntmps197];have fw:=(Aq @ab.eq_1 (Aq @bk.eq_1 (Aq @bF.eq_1 @dS.eq_1)));refine rgq fw [0,1] [500] ?_;refine ae fun K1 au=>?_;have qf:=(Aq fw @hd0);refine al [0,1,17] [500] ?_;refine ag rfl ?_;refine ah (au _ ?_);refine ae fun K2 aa=>?_;refine aU ?_;refine rgm fw k33 [0,1,20] [500] ?_;refine ag rfl ?_;refine rgm fw lW [0,1,36] [500] ?_;refine ag rfl ?_;refine rgm fw nX [0,55] [500] ?_;refine aax rfl ?_;refine rgq fw [4,5] [500] ?_;refine bn ?_;simp[D.le,D.le.go,aaA,ab,bk,bF,dS,bk,bF,cL,aaR,dE]
  rw[if_neg pP]at nX ⊢;by_cases c49:t[j]? = some 49
  .rw[if_pos c49]at pq ⊢;refine MC.aC (aay _) func197 rfl rfl (rs:=[.tmp 4,.tmp 5]) results197 (by simp[ntmps197]) rfl fun X=>?_;simp only[ntmps197];have fw:=(Aq @ab.eq_1 (Aq @bk.eq_1 (Aq @bF.eq_1 @dS.eq_1)));refine rgq fw [0,1] [500] ?_;refine ae fun K1 au=>?_;have qf:=(Aq fw @hd0);refine al [0,1,17] [500] ?_;refine ag rfl ?_;refine ah (au _ ?_);refine ae fun K2 aa=>?_;refine aU ?_;refine rgm fw k33 [0,1,20] [500] ?_;refine ag rfl ?_;refine rgm fw lW [0,1,36] [500] ?_;refine ag rfl ?_;refine rgm fw nX [0,55] [500] ?_;refine ag rfl ?_;refine rgm fw pq [0,59] [500] ?_;refine aax rfl ?_;refine rgq fw [4,5] [500] ?_;refine bn ?_;simp[D.le,D.le.go,aaA,ab,bk,bF,dS,bk,bF,cL,aaR,dE]
  rw[if_neg c49]at pq ⊢;by_cases c94:t[j]? = some 94
  .rw[if_pos c94]at qu ⊢;have hc:=Fa G t 1 (j+1) r4 (ay c94);have hq:∀ {c:Int} {p q':Nat},abq t 1 (j+1) = .err c p q'->q'=1:=fun h=>E9 h
   cases hr:abq t 1 (j+1) with
   | err c p q'=>
    obtain rfl:=hq hr;rw[hr]at hc;refine MC.aC (aay _) func197 rfl rfl (rs:=[.tmp 4,.tmp 5]) results197 (by simp[ntmps197]) rfl fun X=>?_;simp only[ntmps197];have fw:=(Aq @ab.eq_1 (Aq @bk.eq_1 (Aq @bF.eq_1 @dS.eq_1)));refine rgq fw [0,1] [500] ?_;refine ae fun K1 au=>?_;have qf:=(Aq fw @hd0);refine al [0,1,17] [500] ?_;refine ag rfl ?_;refine ah (au _ ?_);refine ae fun K2 aa=>?_;refine aU ?_;refine rgm fw k33 [0,1,20] [500] ?_;refine ag rfl ?_;refine rgm fw lW [0,1,36] [500] ?_;refine ag rfl ?_;refine rgm fw nX [0,55] [500] ?_;refine ag rfl ?_;refine rgm fw pq [0,59] [500] ?_;refine ag rfl ?_;refine rgm fw qu [0,63] [500] ?_;refine aax rfl ?_;refine rgm (Aq fw (Aq @jY.eq_1 (Aq @jY.eq_2 (Aq @ba.eq_1 (Aq @ba.eq_2 @ba.eq_3))))) hc [10,11] [500] ?_;refine rgq fw [4,5] [500] ?_;refine bn ?_;simp[D.le,D.le.go,aaA,ab,bk,bF,dS,bk,bF,cL,aaR,ba,dQ,Rs.map,br]
   | ok s p=>
    rw[hr]at hc;refine MC.aC (aay _) func197 rfl rfl (rs:=[.tmp 4,.tmp 5]) results197 (by simp[ntmps197]) rfl fun X=>?_;simp only[ntmps197];have fw:=(Aq @ab.eq_1 (Aq @bk.eq_1 (Aq @bF.eq_1 @dS.eq_1)));refine rgq fw [0,1] [500] ?_;refine ae fun K1 au=>?_;have qf:=(Aq fw @hd0);refine al [0,1,17] [500] ?_;refine ag rfl ?_;refine ah (au _ ?_);refine ae fun K2 aa=>?_;refine aU ?_;refine rgm fw k33 [0,1,20] [500] ?_;refine ag rfl ?_;refine rgm fw lW [0,1,36] [500] ?_;refine ag rfl ?_;refine rgm fw nX [0,55] [500] ?_;refine ag rfl ?_;refine rgm fw pq [0,59] [500] ?_;refine ag rfl ?_;refine rgm fw qu [0,63] [500] ?_;refine aax rfl ?_;refine rgm (Aq fw (Aq @jY.eq_1 @jY.eq_2)) hc [10,11] [500] ?_;refine rgq fw [4,5] [500] ?_;refine bn ?_;simp[D.le,D.le.go,aaA,ab,bk,bF,dS,bk,bF,cL,aaR,Rs.map,dE]
  rw[if_neg c94]at qu ⊢;by_cases adR:t[j]? = some 126
  .rw[if_pos adR]at uj ⊢;have hc:=Fa G t 2 (j+1) r4 (ay adR);have hq:∀ {c:Int} {p q':Nat},abq t 2 (j+1) = .err c p q'->q'=2:=fun h=>E9 h
   cases hr:abq t 2 (j+1) with
   | err c p q'=>
    obtain rfl:=hq hr;rw[hr]at hc;refine MC.aC (aay _) func197 rfl rfl (rs:=[.tmp 4,.tmp 5]) results197 (by simp[ntmps197]) rfl fun X=>?_;simp only[ntmps197];have fw:=(Aq @ab.eq_1 (Aq @bk.eq_1 (Aq @bF.eq_1 @dS.eq_1)));refine rgq fw [0,1] [500] ?_;refine ae fun K1 au=>?_;have qf:=(Aq fw @hd0);refine al [0,1,17] [500] ?_;refine ag rfl ?_;refine ah (au _ ?_);refine ae fun K2 aa=>?_;refine aU ?_;refine rgm fw k33 [0,1,20] [500] ?_;refine ag rfl ?_;refine rgm fw lW [0,1,36] [500] ?_;refine ag rfl ?_;refine rgm fw nX [0,55] [500] ?_;refine ag rfl ?_;refine rgm fw pq [0,59] [500] ?_;refine ag rfl ?_;refine rgm fw qu [0,63] [500] ?_;refine ag rfl ?_;refine rgm fw uj [0,74] [500] ?_;refine aax rfl ?_;refine rgm (Aq fw (Aq @jY.eq_1 (Aq @jY.eq_2 (Aq @ba.eq_1 (Aq @ba.eq_2 @ba.eq_3))))) hc [12,13] [500] ?_;refine rgq fw [4,5] [500] ?_;refine bn ?_;simp[D.le,D.le.go,aaA,ab,bk,bF,dS,bk,bF,cL,aaR,ba,dQ,Rs.map,br]
   | ok s p=>
    rw[hr]at hc;refine MC.aC (aay _) func197 rfl rfl (rs:=[.tmp 4,.tmp 5]) results197 (by simp[ntmps197]) rfl fun X=>?_;simp only[ntmps197];have fw:=(Aq @ab.eq_1 (Aq @bk.eq_1 (Aq @bF.eq_1 @dS.eq_1)));refine rgq fw [0,1] [500] ?_;refine ae fun K1 au=>?_;have qf:=(Aq fw @hd0);refine al [0,1,17] [500] ?_;refine ag rfl ?_;refine ah (au _ ?_);refine ae fun K2 aa=>?_;refine aU ?_;refine rgm fw k33 [0,1,20] [500] ?_;refine ag rfl ?_;refine rgm fw lW [0,1,36] [500] ?_;refine ag rfl ?_;refine rgm fw nX [0,55] [500] ?_;refine ag rfl ?_;refine rgm fw pq [0,59] [500] ?_;refine ag rfl ?_;refine rgm fw qu [0,63] [500] ?_;refine ag rfl ?_;refine rgm fw uj [0,74] [500] ?_;refine aax rfl ?_;refine rgm (Aq fw (Aq @jY.eq_1 @jY.eq_2)) hc [12,13] [500] ?_;refine rgq fw [4,5] [500] ?_;refine bn ?_;simp[D.le,D.le.go,aaA,ab,bk,bF,dS,bk,bF,cL,aaR,Rs.map,dE]
  rw[if_neg adR]at uj ⊢;have hc:=Fa G t 3 j r4 abN;have hq:∀ {c:Int} {p q':Nat},abq t 3 j = .err c p q'->q'=3:=fun h=>E9 h
  cases hr:abq t 3 j with
  | err c p q'=>
   obtain rfl:=hq hr;rw[hr]at hc;refine MC.aC (aay _) func197 rfl rfl (rs:=[.tmp 4,.tmp 5]) results197 (by simp[ntmps197]) rfl fun X=>?_;simp only[ntmps197];have fw:=(Aq @ab.eq_1 (Aq @bk.eq_1 (Aq @bF.eq_1 @dS.eq_1)));refine rgq fw [0,1] [500] ?_;refine ae fun K1 au=>?_;have qf:=(Aq fw @hd0);refine al [0,1,17] [500] ?_;refine ag rfl ?_;refine ah (au _ ?_);refine ae fun K2 aa=>?_;refine aU ?_;refine rgm fw k33 [0,1,20] [500] ?_;refine ag rfl ?_;refine rgm fw lW [0,1,36] [500] ?_;refine ag rfl ?_;refine rgm fw nX [0,55] [500] ?_;refine ag rfl ?_;refine rgm fw pq [0,59] [500] ?_;refine ag rfl ?_;refine rgm fw qu [0,63] [500] ?_;refine ag rfl ?_;refine rgm fw uj [0,74] [500] ?_;refine ag rfl ?_;refine ah (aa _ ?_);refine rgm (Aq fw (Aq @jY.eq_1 (Aq @jY.eq_2 (Aq @ba.eq_1 (Aq @ba.eq_2 @ba.eq_3))))) hc [14,15] [500] ?_;refine rgq fw [4,5] [500] ?_;refine bn ?_;simp[D.le,D.le.go,aaA,ab,bk,bF,dS,bk,bF,cL,aaR,ba,dQ,Rs.map,br]
  | ok s p=>
   rw[hr]at hc;refine MC.aC (aay _) func197 rfl rfl (rs:=[.tmp 4,.tmp 5]) results197 (by simp[ntmps197]) rfl fun X=>?_;simp only[ntmps197];have fw:=(Aq @ab.eq_1 (Aq @bk.eq_1 (Aq @bF.eq_1 @dS.eq_1)));refine rgq fw [0,1] [500] ?_;refine ae fun K1 au=>?_;have qf:=(Aq fw @hd0);refine al [0,1,17] [500] ?_;refine ag rfl ?_;refine ah (au _ ?_);refine ae fun K2 aa=>?_;refine aU ?_;refine rgm fw k33 [0,1,20] [500] ?_;refine ag rfl ?_;refine rgm fw lW [0,1,36] [500] ?_;refine ag rfl ?_;refine rgm fw nX [0,55] [500] ?_;refine ag rfl ?_;refine rgm fw pq [0,59] [500] ?_;refine ag rfl ?_;refine rgm fw qu [0,63] [500] ?_;refine ag rfl ?_;refine rgm fw uj [0,74] [500] ?_;refine ag rfl ?_;refine ah (aa _ ?_);refine rgm (Aq fw (Aq @jY.eq_1 @jY.eq_2)) hc [14,15] [500] ?_;refine rgq fw [4,5] [500] ?_;refine bn ?_;simp[D.le,D.le.go,aaA,ab,bk,bF,dS,bk,bF,cL,aaR,Rs.map,dE]
theorem afn {r r':Nat} (h:r≠r') (row:Row):mB r r' (ak [(r,row)])=ak [(r',row.tr (abI r r') (abH r r'))]:=by
 funext q;unfold mB;by_cases h1:q=r'
 .subst h1;simp[ak,List.lookup]
 .rw[if_neg h1];by_cases h2:q=r
  .subst h2;simp[ak,List.lookup,h1,beq_eq_false_iff_ne.2 h1]
  .simp[ak,List.lookup,h2,beq_eq_false_iff_ne.2 h1,beq_eq_false_iff_ne.2 h2]
def nE:Option Ex->D
 | some x=>dE x
 | none=>.v .nilIface
theorem VB (G:ao) (t:List UInt8) (ht:t.length < 2^60):ar prog G 47 [dS t] (.tup [nE (fF t).1,ba (fF t).2]):=by
 unfold fF;by_cases hl:2000 < t.length
 .have eG:(2000:Int) < (t.length:Int):=by omega
  rw[if_pos hl];refine ar.aC (aay _) func47 rfl rfl (rs:=[.tmp 2,.tmp 3]) results47 (by simp[ntmps47]) fun X=>?_;simp only[ntmps47,List.map];have fw:=(Aq @ab.eq_1 (Aq @bk.eq_1 (Aq @bF.eq_1 @dS.eq_1)));refine rgq fw [0] [] ?_;refine ae fun K1 au=>?_;have qf:=(Aq fw (Aq @bl (Aq @hl @eG)));refine al [0,9] [] ?_;refine aax rfl ?_;refine rgq fw [2,3] [] ?_;exact aG (Aq fw (Aq @nE.eq_1 (Aq @nE.eq_2 (Aq @ba.eq_1 (Aq @ba.eq_2 @ba.eq_3)))))
 have eG:¬ (2000:Int) < (t.length:Int):=by omega
 rw[if_neg hl];have nO:=JD G t (by omega) 20 (Vu G t (by omega) 20 (by decide)) 0 (Nat.zero_le _)
 cases hr:ic t (bT t 20) 0 with
 | err c p q=>
  rw[hr]at nO;refine ar.aC (aay _) func47 rfl rfl (rs:=[.tmp 2,.tmp 3]) results47 (by simp[ntmps47]) fun X=>?_;simp only[ntmps47,List.map];have fw:=(Aq @ab.eq_1 (Aq @bk.eq_1 (Aq @bF.eq_1 @dS.eq_1)));refine rgq fw [0] [] ?_;refine ae fun K1 au=>?_;have qf:=(Aq fw (Aq @bl (Aq @hl @eG)));refine al [0,9] [] ?_;refine ag rfl ?_;refine ah (au _ ?_);refine rgq fw [0,4] [13] ?_;refine AW.imp (aB.ren (r:=13) (r':=500) trivial (by simp)) ?_;refine AW.st (by simp[abI,abH,Go.Av.ren,afn];rfl) ?_;refine rgm (Aq fw (Aq @cL.eq_1 (Aq @cL.eq_2 (Aq @ba.eq_1 (Aq @ba.eq_2 @ba.eq_3))))) nO [0,4,5,6] [500] ?_;refine ae fun K2 aa=>?_;refine rgq fw [0,4,5,6,20] [500] ?_;refine aax rfl ?_;refine rgq fw [2,3] [] ?_;exact aG (Aq fw (Aq @nE.eq_1 (Aq @nE.eq_2 (Aq @ba.eq_1 (Aq @ba.eq_2 @ba.eq_3)))))
 | ok x k=>
  rw[hr]at nO;have hk:=(adZ (acX t 20) 0 x k (Nat.zero_le _) hr).2;have gK:=xY G t k (by omega) hk;have abN:=acL hk;have dO:=vw G t (aaD t k) (by omega) abN 3;rw[sN hk]at dO;obtain⟨tx,cx,hx⟩:=ach x;dsimp only;generalize aaD t k=j at gK abN dO ⊢;by_cases hj:j < t.length
  .have hj':(j:Int) < (t.length:Int):=by omega
   rw[if_pos hj];refine ar.aC (aay _) func47 rfl rfl (rs:=[.tmp 2,.tmp 3]) results47 (by simp[ntmps47]) fun X=>?_;simp only[ntmps47,List.map];have fw:=(Aq @ab.eq_1 (Aq @bk.eq_1 (Aq @bF.eq_1 @dS.eq_1)));refine rgq fw [0] [] ?_;refine ae fun K1 au=>?_;have qf:=(Aq fw (Aq @bl (Aq @hl @eG)));refine al [0,9] [] ?_;refine ag rfl ?_;refine ah (au _ ?_);refine rgq fw [0,4] [13] ?_;refine AW.imp (aB.ren (r:=13) (r':=500) trivial (by simp)) ?_;refine AW.st (by simp[abI,abH,Go.Av.ren,afn];rfl) ?_;have qf:=(Aq fw (Aq @cL.eq_1 (Aq @cL.eq_2 (Aq @aaR.eq_1 (Aq @aaR.eq_2 @hx)))));refine ab6 nO [0,4,5,6] [500] ?_;refine ae fun K2 aa=>?_;refine rgq fw [0,4,5,6,20] [500] ?_;refine ag rfl ?_;refine ah (aa _ ?_);refine ae fun K3 aH=>?_;refine rgm fw gK [0,4,5] [500] ?_;have qf:=(Aq fw (Aq @bl (Aq @hj @hj')));refine al [4,5,30] [500] ?_;refine aax rfl ?_;refine rgm (Aq fw (Aq @ba.eq_1 (Aq @ba.eq_2 @ba.eq_3))) dO [2,3] [] ?_;exact aG (Aq fw (Aq @nE.eq_1 (Aq @nE.eq_2 (Aq @ba.eq_1 (Aq @ba.eq_2 @ba.eq_3)))))
  .have hj':¬ (j:Int) < (t.length:Int):=by omega
   rw[if_neg hj];refine ar.aC (aay _) func47 rfl rfl (rs:=[.tmp 2,.tmp 3]) results47 (by simp[ntmps47]) fun X=>?_;simp only[ntmps47,List.map];have fw:=(Aq @ab.eq_1 (Aq @bk.eq_1 (Aq @bF.eq_1 @dS.eq_1)));refine rgq fw [0] [] ?_;refine ae fun K1 au=>?_;have qf:=(Aq fw (Aq @bl (Aq @hl @eG)));refine al [0,9] [] ?_;refine ag rfl ?_;refine ah (au _ ?_);refine rgq fw [0,4] [13] ?_;refine AW.imp (aB.ren (r:=13) (r':=500) trivial (by simp)) ?_;refine AW.st (by simp[abI,abH,Go.Av.ren,afn];rfl) ?_;have qf:=(Aq fw (Aq @cL.eq_1 (Aq @cL.eq_2 (Aq @aaR.eq_1 (Aq @aaR.eq_2 @hx)))));refine ab6 nO [0,4,5,6] [500] ?_;refine ae fun K2 aa=>?_;refine rgq fw [0,4,5,6,20] [500] ?_;refine ag rfl ?_;refine ah (aa _ ?_);refine ae fun K3 aH=>?_;refine rgm fw gK [0,4,5] [500] ?_;have qf:=(Aq fw (Aq @bl (Aq @hj @hj')));refine al [4,5,30] [500] ?_;refine ag rfl ?_;refine ah (aH _ ?_);refine rgq fw [2,3] [] ?_;exact aG (Aq fw (Aq @nE.eq_1 (Aq @nE.eq_2 (Aq @ba.eq_1 (Aq @ba.eq_2 (Aq @ba.eq_3 @hx))))))
theorem A7 {l:List Ex} {i:Nat} (hi:i < l.length):eU (l.take i)+bE l[i]<=eU l:=by
 have h1:=aeR (l.take i) [l[i]];rw[<- List.take_succ_eq_append_getElem hi]at h1;have h2:=aeR (l.take (i+1)) (l.drop (i+1));rw[List.take_append_drop]at h2;simp only[eU]at h1;omega
