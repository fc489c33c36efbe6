/- Parts. -/
import Derived.Test.YtdigkhaofjmgkaaGreatDoorPs19
import Derived.Test.YtdigkhaofjmgkaaGreatDoorPs20
import Derived.Shelf.Small.Strs
import Derived.Lib.IndexLaws
import Derived.Shelf.Strings.OnBuilder
import Derived.Shelf.Strings.Runes
set_option linter.unusedSimpArgs false
set_option linter.unusedVariables false
set_option maxHeartbeats 32000000
open Go.Proofs.Tryz
namespace Go.Proofs.YtdigkhaofjmgkaaGreatDoor
open Go.Av
open Go.Shelf
def bn (t:List UInt8) (i:Int):Row:=.box 182 [.d (dS t),int i]
def aV (t:List UInt8) (i:Int):List (Nat×Row):=[(500,bn t i)]
theorem CY (a:UInt8) (n:Nat) (hn:n < 256):((a.toNat:Int)=(n:Int))↔a=UInt8.ofNat n:=by
 constructor
 .intro h
  have:a.toNat=n:=by omega
  rw[<- this,UInt8.ofNat_toNat]
 .rintro rfl;simp;omega
theorem vd (G:Yt) (t:List UInt8) (i:Nat) (ht:t.length < 2^60) (hi:i<=t.length) :
  MC prog G [500] 97 [.ref 500 0 0] (ah (aV t i)) (.d (.aR [])) (ah (aV t (aM t i))):=by
 refine MC.aI (au _) func97 rfl rfl (rs:=[]) results97 (by simp[ntmps97]) rfl fun X=>?_;simp only[ntmps97];have fw:=(Aq @ab.eq_1 (Aq @aV.eq_1 (Aq @bn.eq_1 @dS.eq_1)));refine cr (S:=Nat) (fun k=>k<=t.length/\aM t k=aM t i) (fun k=>⟨YB [(0,.ref 500 0 0)],ah [(500,.box 182 [.d (dS t),int k])]⟩) (fun k=>t.length - k) i ?_ ⟨hi,rfl⟩ ?_
 .refine bz fw
 .rintro k ⟨hk,hs⟩;refine ae fun K1 Yw=>?_;by_cases ZA:k < t.length
  .have Xt:(k:Int) < (t.length:Int):=by omega
   have lA:t.getD k 0=t[k]:=by simp[List.getD_eq_getElem?_getD,ZA]
   by_cases hb:((t[k]).toNat:Int)=32
   .have qf:=(Aq fw (Aq @bF (Aq @de (Aq @ZA @hb))));refine aaR [0,23] [500] ?_;refine Yx rfl ?_;refine ar (Yw _ ?_);refine YF ?_;refine b8 fw ?_;try simp only[YC,bd]
    have gn:t[k]? = some 32:=by
     rw[List.getElem?_eq_getElem ZA,(CY _ 32 (by decide)).1 hb];rfl
    refine bo.mk (k+1) ⟨by omega,?_⟩ (by omega) ?_
    .rw[<- uy gn];exact hs
    refine bz fw
   .have qf:=(Aq fw (Aq @bF (Aq @de (Aq @ZA @hb))));refine aaR [0,23] [500] ?_;refine ag rfl ?_;refine bY ?_
    have gn:t[k]?≠some 32:=by
     rw[List.getElem?_eq_getElem ZA];intro h;apply hb;rw[Option.some.inj h];rfl
    rw[aaN gn]at hs;rw[<- hs];simp[aV,bn,dS,D.le_refl]
  .obtain rfl:k=t.length:=by omega
   have qf:=(Aq fw (Aq @bF @de));refine aaR [0,23] [500] ?_;refine ag rfl ?_;refine bY ?_
   have gn:t[t.length]?≠some 32:=by simp
   rw[aaN gn]at hs;rw[<- hs];simp[aV,bn,dS,D.le_refl]
theorem xW (G:Yt) (t:List UInt8) (i:Nat) (ht:t.length < 2^60) (hi:i<=t.length) (c:UInt8) :
  MC prog G [500] 196 [.ref 500 0 0,.d (.v (.int .u8 c.toNat))] (ah (aV t i)) (.d (.v (.bool (dV t c i).1))) (ah (aV t (dV t c i).2)):=by
 have Zy:=vd G t i ht hi;have aac:=il hi;unfold dV;generalize aM t i=j at Zy aac ⊢;by_cases rb:j < t.length
 .rw[List.getElem?_eq_getElem rb];by_cases hb:t[j]=c
  .have aH:((t[j]).toNat:Int)=(c.toNat:Int):=by rw[hb]
   rw[if_pos (by rw[hb])];refine MC.aI (au _) func196 rfl rfl (rs:=[.tmp 4]) results196 (by simp[ntmps196]) rfl fun X=>?_;simp only[ntmps196];have fw:=(Aq @ab.eq_1 (Aq @aV.eq_1 (Aq @bn.eq_1 @dS.eq_1)));refine Ys fw [0,1] [500] ?_;refine bh fw Zy [0,1] [500] ?_;refine ae fun K1 Yw=>?_;have qf:=(Aq fw (Aq @bF (Aq @de (Aq @rb @aH))));refine aaR [0,29] [500] ?_;refine Yx rfl ?_;refine Ys fw [] [500] ?_;refine Ys fw [4] [500] ?_;exact aY (Aq fw (Aq @aV.eq_1 @bn.eq_1))
  .have aH:¬ ((t[j]).toNat:Int)=(c.toNat:Int):=fun h=>hb (UInt8.toNat_inj.1 (by omega));rw[if_neg (fun h=>hb (Option.some.inj h))];refine MC.aI (au _) func196 rfl rfl (rs:=[.tmp 4]) results196 (by simp[ntmps196]) rfl fun X=>?_;simp only[ntmps196];have fw:=(Aq @ab.eq_1 (Aq @aV.eq_1 (Aq @bn.eq_1 @dS.eq_1)));refine Ys fw [0,1] [500] ?_;refine bh fw Zy [0,1] [500] ?_;refine ae fun K1 Yw=>?_;have qf:=(Aq fw (Aq @bF (Aq @de (Aq @rb @aH))));refine aaR [0,29] [500] ?_;refine ag rfl ?_;refine ar (Yw _ ?_);refine Ys fw [4] [500] ?_;exact aY (Aq fw (Aq @aV.eq_1 @bn.eq_1))
 .obtain rfl:j=t.length:=by omega
  rw[if_neg (by simp)];refine MC.aI (au _) func196 rfl rfl (rs:=[.tmp 4]) results196 (by simp[ntmps196]) rfl fun X=>?_;simp only[ntmps196];have fw:=(Aq @ab.eq_1 (Aq @aV.eq_1 (Aq @bn.eq_1 @dS.eq_1)));refine Ys fw [0,1] [500] ?_;refine bh fw Zy [0,1] [500] ?_;refine ae fun K1 Yw=>?_;have qf:=(Aq fw (Aq @bF @de));refine aaR [0,29] [500] ?_;refine ag rfl ?_;refine ar (Yw _ ?_);refine Ys fw [4] [500] ?_;exact aY (Aq fw (Aq @aV.eq_1 @bn.eq_1))
theorem sD (G:Yt) (t:List UInt8) (i:Nat) (ht:t.length < 2^60) (hi:i<=t.length) (e:Int) :
  MC prog G [500] 98 [.ref 500 0 0,.d (ab e)] (ah (aV t i)) (.d (aO (some (e,some (aM t i))))) (ah (aV t (aM t i))):=by
 have Zy:=vd G t i ht hi;generalize aM t i=j at Zy ⊢;refine MC.aI (au _) func98 rfl rfl (rs:=[.tmp 4]) results98 (by simp[ntmps98]) rfl fun X=>?_;simp only[ntmps98];have fw:=(Aq @ab.eq_1 (Aq @aV.eq_1 (Aq @bn.eq_1 @dS.eq_1)));refine Ys fw [0,1] [500] ?_;refine bh fw Zy [0,1] [500] ?_;refine Ys fw [4] [500,13] ?_;refine Y5 fw 13 ?_;exact aY (Aq fw (Aq @aV.eq_1 (Aq @bn.eq_1 (Aq @aO.eq_1 (Aq @aO.eq_2 @aO.eq_3)))))
def mu:List UInt8:=[32,38,124,33,94,126,40,41,48,49,61]
theorem QC (l:List UInt8) (c:UInt8):Lib.indexByte l c < 0↔c ∉ l:=by
 have hge:=Lib.indexByte_ge l c;constructor
 .intro h hm;obtain⟨k,hk,rfl⟩:=List.mem_iff_getElem.1 hm;exact Lib.indexByte_none (show Lib.indexByte l l[k] = -1 by omega) k (List.getElem?_eq_getElem hk)
 .intro hm;apply Classical.byContradiction;intro h;obtain⟨n,hn⟩:=Int.eq_ofNat_of_zero_le (show 0<=Lib.indexByte l c by omega);exact hm (List.mem_of_getElem? (Lib.indexByte_some hn).1)
theorem QD (G:Yt) (l:List UInt8) (c:UInt8):ao prog G 116 [dS l,.v (.int .u8 c.toNat)] (ab (Lib.indexByte l c)):=by
 refine ao.rD (fm.of func116 rfl rfl) fun X w vs aK bq ck=>?_
 obtain⟨a,b,rfl⟩:∃ a b,vs = #[a,b]:=by
  match vs,aK with
  | ⟨[a,b]⟩,_=>exact⟨a,b,rfl⟩
 have ha:=(bq 0 a _ rfl rfl).scalar;have hb:=(bq 1 b _ rfl rfl).scalar;subst ha hb;have kb:=Any.strings_IndexByte (P:=prog) (ρ:=Tryz.BH) { Tryz.BG with } (bs l) c.toNat w;rw[show (c.toNat:Int).toNat.toUInt8=c by simp]at kb;exact kb.mono fun e w' ⟨he,hw⟩=>⟨_,he,by rw[hw];exact bQ.refl _,.v _⟩
end Go.Proofs.YtdigkhaofjmgkaaGreatDoor
namespace Go.Proofs.YtdigkhaofjmgkaaGreatDoor
open Go.Av
theorem Lb (t:List UInt8) (i j:Nat):(bs t).extract i j=bs ((t.drop i).take (j - i)):=ByteArray.ext (by
 rw[ByteArray.data_extract];unfold bs;apply Array.toList_inj.1
 simp[List.take_drop,List.extract])
theorem qm:(⟨#[32,38,124,33,94,126,40,41,48,49,61]⟩:ByteArray)=bs mu:=rfl
def ir:Rs (List UInt8)->D
 | .ok s _=>.aR [dS s,.v .nilIface]
 | .err c p _=>.aR [dS [],aO (some (c,some p))]
def YV {α:Type}:Rs α->Nat
 | .ok _ i=>i
 | .err _ p _=>p
theorem tV (c:UInt8):c∈mu↔(iK c=true\/c=48\/c=49):=by
 simp only[mu,iK,List.mem_cons,List.not_mem_nil,or_false,List.contains_iff_mem];constructor
 .rintro (h | h | h | h | h | h | h | h | h | h | h)<;>simp[h]
 .rintro ((h | h | h | h | h | h | h | h | h) | h | h)<;>simp[h]
def r3 (t:List UInt8) (j k:Nat):Prop:=k=j\/(j < k/\ly t j=true/\ky t (j+1)=ky t k)
theorem u5 {t:List UInt8} {j k:Nat} (h:r3 t j k) (hk:k<=t.length) (hstop:∀ hk:k < t.length,t[k]∈mu/\(j < k->t[k]≠48/\t[k]≠49)):k=kz t j:=by
 unfold kz
 rcases h with rfl | ⟨ra,hh,he⟩
 .by_cases fq:k < t.length
  .have:=(tV _).1 (hstop fq).1
   have ft:ly t k=false:=by
    unfold ly;rw[List.getElem?_eq_getElem fq]
    rcases this with h | h | h<;>simp[h]
   rw[ft];rfl
  .have ft:ly t k=false:=by
    unfold ly;rw[List.getElem?_eq_none (by omega)]
   rw[ft];rfl
 .rw[hh,if_pos rfl,he,Jr];intro fq;obtain⟨h1,h2⟩:=hstop fq
  rcases (tV _).1 h1 with h | h | h
  .exact h
  .exact absurd h (h2 ra).1
  .exact absurd h (h2 ra).2
theorem yD {t:List UInt8} {j k:Nat} (h:r3 t j k) (hk:k < t.length) (Z8:t[k] ∉ mu\/(j < k/\(t[k]=48\/t[k]=49))):r3 t j (k+1):=by
 have hs:iK t[k]=false:=by
  rcases Z8 with h | ⟨_,h⟩
  .cases hc:iK t[k] with
   | false=>rfl
   | true=>exact absurd ((tV _).2 (.inl hc)) h
  .rcases h with h | h<;>rw[h]<;>rfl
 right
 rcases h with rfl | ⟨ra,hh,he⟩
 .refine⟨by omega,?_,rfl⟩
  rcases Z8 with h | ⟨h,_⟩
  .have h1:t[k]≠48:=fun e=>h ((tV _).2 (.inr (.inl e)));have h2:t[k]≠49:=fun e=>h ((tV _).2 (.inr (.inr e)));unfold ly;rw[List.getElem?_eq_getElem hk];simp[hs,h1,h2]
  .omega
 .refine⟨by omega,hh,?_⟩;rw[he,Jq hk hs]
theorem C6 (G:Yt) (t:List UInt8) (q i:Nat) (ht:t.length < 2^60) (hi:i<=t.length) :
  MC prog G [500] 230 [.ref 500 0 0] (ah (aV t i)) (.d (ir (fE t q i))) (ah (aV t (YV (fE t q i)))):=by
 have Zy:=vd G t i ht hi;have aac:=il hi;have s7:=qn hi;unfold fE;generalize aM t i=j at Zy aac s7 ⊢;have FL:=sD G t j ht aac 3;have FM:=sD G t j ht aac 5;rw[s7]at FL FM;have aJ:=C0 t j;have het:=JD aac;have ma:(t.drop j).take (kz t j - j)=jm t j:=rfl
 have PW:(jm t j).length < 2^60:=by
  rw[<- ma,List.length_take,List.length_drop];omega
 have oA:=Hr G (jm t j) PW;refine MC.aI (au _) func230 rfl rfl (rs:=[.tmp 2,.tmp 3]) results230 (by simp[ntmps230]) rfl fun X=>?_;simp only[ntmps230];have fw:=(Aq @ab.eq_1 (Aq @aV.eq_1 (Aq @bn.eq_1 @dS.eq_1)));refine Ys fw [0] [500] ?_;refine bh fw Zy [0] [500] ?_;refine Ys fw [0,4] [500] ?_;refine ae fun K1 Yw=>?_;refine cr (S:=Nat) (fun k=>j<=k/\k<=t.length/\r3 t j k) (fun k=>⟨YB [(0,.ref 500 0 0),(4,int k)],ah [(500,.box 182 [.d (dS t),int j])]⟩) (fun k=>t.length - k) j ?_ ⟨Nat.le_refl _,aac,.inl rfl⟩ ?_
 .refine bz fw
 .rintro k ⟨ra,hk,bT⟩;refine ae fun K2 aa=>?_
  refine (fun Z8 hstop=>?_) (fun (σ:St) (hn:r3 t j (k+1)) (ZA:k < t.length) himp=>aa σ (AW.imp (τ:=⟨YB [(0,.ref 500 0 0),(4,int k)],ah [(500,.box 182 [.d (dS t),int j])]⟩) himp ?_))
   (fun (σ:St) (he:k=kz t j) himp=>Yw σ (AW.imp (τ:=⟨YB [(0,.ref 500 0 0),(4,int k)],ah [(500,.box 182 [.d (dS t),int j])]⟩) himp ?_))
  .by_cases ZA:k < t.length
   .have eQ:=QD G mu t[k];have acC:=QC mu t[k];by_cases hm:t[k]∈mu
    .have q9:¬ Lib.indexByte mu t[k] < 0:=fun h=>acC.1 h hm;by_cases l3:j < k
     .have abd:(j:Int) < (k:Int):=by omega
      by_cases sG:((t[k]).toNat:Int)=48
      .have hc:t[k]=48:=(CY _ 48 (by decide)).1 sG;have qf:=(Aq fw (Aq @bF (Aq @de (Aq @qm (Aq @ZA (Aq @q9 (Aq @abd (Aq @l3 @sG))))))));refine Zq eQ [0,4,63] [500] ?_;refine Yx rfl ?_;refine ar (Z8 _ (yD bT ZA (.inr ⟨l3,.inl hc⟩)) ZA ?_);refine bz fw
      .by_cases vL:((t[k]).toNat:Int)=49
       .have hc:t[k]=49:=(CY _ 49 (by decide)).1 vL;have qf:=(Aq fw (Aq @bF (Aq @de (Aq @qm (Aq @ZA (Aq @q9 (Aq @abd (Aq @l3 (Aq @sG @vL)))))))));refine Zq eQ [0,4,63] [500] ?_;refine Yx rfl ?_;refine ar (Z8 _ (yD bT ZA (.inr ⟨l3,.inr hc⟩)) ZA ?_);refine bz fw
       .have qf:=(Aq fw (Aq @bF (Aq @de (Aq @qm (Aq @ZA (Aq @q9 (Aq @abd (Aq @l3 (Aq @sG @vL)))))))));refine Zq eQ [0,4,63] [500] ?_;refine ag rfl ?_;refine bY (hstop _ (u5 bT hk fun _=>⟨hm,fun _=>⟨fun e=>sG (by rw[e];rfl),fun e=>vL (by rw[e];rfl)⟩⟩) ?_);refine bz fw
     .have abd:¬ (j:Int) < (k:Int):=by omega
      have qf:=(Aq fw (Aq @bF (Aq @de (Aq @qm (Aq @ZA (Aq @q9 (Aq @abd @l3)))))));refine Zq eQ [0,4,63] [500] ?_;refine ag rfl ?_;refine bY (hstop _ (u5 bT hk fun _=>⟨hm,fun h=>absurd h l3⟩) ?_);refine bz fw
    .have q9:Lib.indexByte mu t[k] < 0:=acC.2 hm;have qf:=(Aq fw (Aq @bF (Aq @de (Aq @qm (Aq @ZA @q9)))));refine Zq eQ [0,4,63] [500] ?_;refine Yx rfl ?_;refine ar (Z8 _ (yD bT ZA (.inl hm)) ZA ?_);refine bz fw
   .obtain rfl:k=t.length:=by omega
    by_cases l3:j < t.length
    .have abd:(j:Int) < (t.length:Int):=by omega
     have qf:=(Aq fw (Aq @bF (Aq @de (Aq @qm (Aq @abd @l3)))));refine aC [0,4,63] [500] ?_;refine ag rfl ?_;refine bY (hstop _ (u5 bT hk fun h=>absurd h ZA) ?_);refine bz fw
    .have abd:¬ (j:Int) < (t.length:Int):=by omega
     have qf:=(Aq fw (Aq @bF (Aq @de (Aq @qm (Aq @abd @l3)))));refine aC [0,4,63] [500] ?_;refine ag rfl ?_;refine bY (hstop _ (u5 bT hk fun h=>absurd h ZA) ?_);refine bz fw
  .refine YF ?_;refine b8 fw ?_;(try simp only[YC,bd]);refine bo.mk (k+1) ⟨by omega,by omega,hn⟩ (by omega) ?_;refine bz fw
  .subst he;clear Yw aa;have Qg:List.take (kz t j - j) (List.drop j t)=jm t j:=ma;have qf:=(Aq fw (Aq @bF (Aq @Lb (Aq @aJ (Aq @het @Qg)))));refine aaR [0,4,5] [500] ?_;refine ae fun K3 bf=>?_;by_cases hs:jm t j=[]
   .refine rg [0,4,5,77] [500] (cF rfl) fun K' Yu=>?_;(repeat (refine aP fun K2 aa=>?_;simp[ab,aV,bn,dS,hs,dA,YJ,bI];(repeat (refine⟨by omega,?_⟩));refine aa _ ?_;clear aa K2));refine YM (Yu _ (AW.st (by simp[ab,aV,bn,dS,hs,dA,YJ,bI];rfl) ?_));clear Yu K';refine Yx rfl ?_;refine bh (Aq fw (Aq @aO.eq_1 (Aq @aO.eq_2 @aO.eq_3))) FL [2,3] [500] ?_;refine b6 ?_;simp[D.le,D.le.go,aQ,ab,aV,bn,dS,aV,bn,ir,YV,aO,dA,hs]
   .have tB:(jm t j == [])=false:=by simpa using hs
    have Gn:(jm t j).isEmpty=false:=by rw[List.isEmpty_eq_false_iff];exact hs
    refine rg [0,4,5,77] [500] (cF rfl) fun K' Yu=>?_;(repeat (refine aP fun K2 aa=>?_;simp[ab,aV,bn,dS,dA,YJ,bI,hs,tB,Gn];(repeat (refine⟨by omega,?_⟩));refine aa _ ?_;clear aa K2));refine YM (Yu _ (AW.st (by simp[ab,aV,bn,dS,dA,YJ,bI,hs,tB,Gn];rfl) ?_));clear Yu K';refine ag rfl ?_;refine ar (bf _ ?_);refine ae fun K4 bZ=>?_
    cases hn:eS (jm t j) with
    | false=>
     rw[hn]at oA;refine aW fw oA [0,4,5,82] [500] ?_;refine Yx rfl ?_;refine bh (Aq fw (Aq @aO.eq_1 (Aq @aO.eq_2 @aO.eq_3))) FM [2,3] [500] ?_;refine b6 ?_;simp[D.le,D.le.go,aQ,ab,aV,bn,dS,aV,bn,ir,YV,aO,dA,hs,hn]
    | true=>
     rw[hn]at oA;refine aW fw oA [0,4,5,82] [500] ?_;refine ag rfl ?_;refine ar (bZ _ ?_);refine Ys fw [5] [500] ?_;refine Ys fw [2,3] [500] ?_;exact aY (Aq fw (Aq @aV.eq_1 (Aq @bn.eq_1 (Aq @ir.eq_1 (Aq @ir.eq_2 (Aq @YV.eq_1 (Aq @YV.eq_2 (Aq @hs @hn))))))))
end Go.Proofs.YtdigkhaofjmgkaaGreatDoor
namespace Go.Proofs.YtdigkhaofjmgkaaGreatDoor
theorem I9 {α:Type} {t:List UInt8} {s:UInt8} {f:Nat->Rs α} (hf:aai t f):∀ (n m i:Nat) (acc:List α),i<=t.length->t.length+1 - i<=n->t.length+1 - i<=m->e8 t s f n i acc=e8 t s f m i acc
 | 0,_,i,_,hi,h,_=>by omega
 | _+1,0,i,_,hi,_,h=>by omega
 | n+1,m+1,i,acc,hi,h1,h2=>by
  rw[e8,e8]
  cases Zs:f i with
  | err c p q=>rfl
  | ok x j=>
   obtain⟨g1,g2⟩:=hf i x j hi Zs;obtain⟨t1,t2,t3⟩:=my (c:=s) g2;dsimp only;split
   .exact I9 hf n m _ _ t2 (by omega) (by omega)
   .rfl
def aah {α:Type} (t:List UInt8) (s:UInt8) (f:Nat->Rs α) (i:Nat) (acc:List α):Rs (List α):=e8 t s f (t.length+1 - i) i acc
theorem CI {α:Type} {t:List UInt8} {s:UInt8} {f:Nat->Rs α} (hf:aai t f) {i:Nat} (hi:i<=t.length) (acc:List α):aah t s f i acc=match f i with
  | .err c p _=>.err c p 0
  | .ok x j=>if (dV t s j).1 then aah t s f (dV t s j).2 (acc ++ [x]) else .ok (acc ++ [x]) (dV t s j).2:=by
 unfold aah;obtain⟨n,hn⟩:∃ n,t.length+1 - i=n+1:=⟨t.length - i,by omega⟩;rw[hn,e8]
 cases Zs:f i with
 | err c p q=>rfl
 | ok x j=>
  obtain⟨g1,g2⟩:=hf i x j hi Zs;obtain⟨t1,t2,t3⟩:=my (c:=s) g2;dsimp only;split
  .exact I9 hf _ _ _ _ t2 (by omega) (by omega)
  .rfl
theorem CH {α:Type} {t:List UInt8} {s:UInt8} {f:Nat->Rs α}:∀ (n i:Nat) (acc:List α) {c:Int} {p q:Nat},e8 t s f n i acc = .err c p q->q=0
 | 0,_,_,_,_,_,h=>by simp only[e8,Rs.err.injEq]at h;omega
 | n+1,i,acc,c,p,q,h=>by
  rw[e8]at h;split at h
  .simp only[Rs.err.injEq]at h;omega
  .split at h
   .exact CH n _ _ h
   .cases h
theorem vh {l:List Ex} (h:l.length≠1):mH l = .and l:=by
 match l,h with
 | [],_=>rfl
 | [_],h=>exact absurd rfl h
 | _ :: _ :: _,_=>rfl
theorem acu {l:List Ex} (h:l.length≠1):aa5 l = .or l:=by
 match l,h with
 | [],_=>rfl
 | [_],h=>exact absurd rfl h
 | _ :: _ :: _,_=>rfl
open Go.Av
mutual
def dE:Ex->D
 | .dX b=>.bg 188 (.v (.bool b))
 | .bit s=>.bg 189 (dS s)
 | .fS s=>.bg 190 (dS s)
 | .fJ s=>.bg 191 (dS s)
 | .not e=>.bg 114 (.agg [dE e])
 | .and l=>.bg 192 (.sl none (so l))
 | .or l=>.bg 116 (.sl none (so l))
def so:List Ex->List (List D)
 | []=>[]
 | e :: l=>[dE e] :: so l
end
theorem aa6:∀ l:List Ex,so l=l.map fun e=>[dE e]
 | []=>rfl
 | e :: l=>by rw[so,aa6 l];rfl
theorem dY (e:Ex):∃ t y,dE e = .bg t y:=by
 cases e<;>simp only[dE]<;>exact⟨_,_,rfl⟩
def qP (l:List Ex):D:=.sl none (l.map fun e=>[dE e])
def dQ (q:Nat):D:=if q=1 then .bg 190 (dS []) else if q=2 then .bg 191 (dS []) else if q=3 then .bg 189 (dS []) else .v .nilIface
def cm:Rs Ex->D
 | .ok x _=>.aR [dE x,.v .nilIface]
 | .err c p q=>.aR [dQ q,aO (some (c,some p))]
def iq:Rs (List Ex)->D
 | .ok l _=>.aR [qP l,.v .nilIface]
 | .err c p _=>.aR [.sl (some false) [],aO (some (c,some p))]
theorem Ja (G:Yt) (t:List UInt8) (ht:t.length<=2000) (g:FuncId) (s:UInt8) (sn:Int) (hsn:(s.toNat:Int)=sn) (d:Int) (f:Nat->Rs Ex) (hf:aai t f)
  (gq:∀ i,i<=t.length->MC prog G [500] g [.ref 500 0 0,.d (ab d)] (ah (aV t i)) (.d (cm (f i))) (ah (aV t (YV (f i))))) (i:Nat) (hi:i<=t.length) :
  MC prog G [500] 148 [.ref 500 0 0,.d (.v (.int .u8 sn)),.d (ab d),.bm g (.ref 500 0 0)] (ah (aV t i)) (.d (iq (aah t s f i []))) (ah (aV t (YV (aah t s f i [])))):=by
 generalize hR:aah t s f i []=R;refine MC.aI (au _) func148 rfl rfl (rs:=[.tmp 8,.tmp 9]) results148 (by simp[ntmps148]) rfl fun X=>?_;simp only[ntmps148];have fw:=(Aq @ab.eq_1 (Aq @aV.eq_1 (Aq @bn.eq_1 @dS.eq_1)));refine Ys fw [0,1,2,3] [500] ?_;refine Ys fw [0,1,2,3,10] [500] ?_;refine cr (S:=Nat×List Ex) (fun z=>z.1<=t.length/\z.2.length<=z.1/\aah t s f z.1 z.2=R) (fun z=>⟨YB [(0,.ref 500 0 0),(1,.d (.v (.int .u8 sn))),(2,.d (ab d)),(3,.bm g (.ref 500 0 0)),(10,.own 300 0 z.2.length)],ah [(500,.box 182 [.d (dS t),int z.1]),(300,.sl 90 1 (z.2.map fun e=>[dE e]))]⟩) (fun z=>t.length - z.1) (i,[]) ?_ ⟨hi,by simp,hR⟩ ?_
 .refine (aD.kD 10 300 90 1 rfl rfl).trans ?_;refine bz fw
 .rintro⟨k,acc⟩ ⟨hk,NW,hs⟩;dsimp only at hk NW hs ⊢;have hc:=gq k hk;rw[CI hf hk]at hs;refine YF ?_
  cases jD:f k with
  | err c p q=>
   rw[jD]at hc hs;dsimp only at hs;subst hs;refine bh (Aq fw (Aq @cm.eq_1 (Aq @cm.eq_2 (Aq @aO.eq_1 (Aq @aO.eq_2 @aO.eq_3))))) hc [0,1,2,3,10,11,12] [500,300] ?_;refine ae fun K1 Yw=>?_;refine Ys fw [0,1,2,3,10,11,12,20] [500,300] ?_;refine Yx rfl ?_;refine Ys fw [8,9] [500] ?_;exact aY (Aq fw (Aq @aV.eq_1 (Aq @bn.eq_1 (Aq @iq.eq_1 (Aq @iq.eq_2 (Aq @YV.eq_1 (Aq @YV.eq_2 (Aq @aO.eq_1 (Aq @aO.eq_2 @aO.eq_3)))))))))
  | ok x j=>
   rw[jD]at hc hs;dsimp only at hs;obtain⟨g1,g2⟩:=hf k x j hk jD;have fQ:=xW G t j (by omega) g2 s;rw[hsn]at fQ;obtain⟨t1,t2,t3⟩:=my (c:=s) g2;obtain⟨tx,cx,hx⟩:=dY x;have qf:=(Aq fw (Aq @cm.eq_1 (Aq @cm.eq_2 (Aq @YV.eq_1 (Aq @YV.eq_2 @hx)))));refine aaS hc [0,1,2,3,10,11,12] [500,300] ?_;refine ae fun K1 Yw=>?_;refine Ys fw [0,1,2,3,10,11,12,20] [500,300] ?_;refine ag rfl ?_;refine ar (Yw _ ?_);refine rg [0,1,2,3,10] [500,300] (cF rfl) fun K' Yu=>?_;(repeat (refine aP fun K2 aa=>?_;simp[ab,aV,bn,dS,List.take_of_length_le];(repeat (refine⟨by omega,?_⟩));refine aa _ ?_;clear aa K2));refine YM (Yu _ (AW.st (by simp[ab,aV,bn,dS,List.take_of_length_le];rfl) ?_));clear Yu K'
   cases Zj:dV t s j with
   | mk b k2=>
   rw[Zj]at hs fQ t1 t2 t3;dsimp only at hs fQ t1 t2 t3
   cases b with
   | true=>
    rw[if_pos rfl]at hs;have Yv:=t3 rfl;refine bh fw fQ [0,1,2,3,10,29] [500,300] ?_;refine ag rfl ?_;refine ar ?_;refine bo.mk (k2,acc ++ [x]) ⟨t2,by simp;omega,hs⟩ (by dsimp only;omega) ?_;refine bz (Aq fw @hx)
   | false=>
    rw[if_neg (by simp)]at hs;subst hs;refine bh fw fQ [0,1,2,3,10,29] [500,300] ?_;refine Yx rfl ?_;refine AW.imp (aD.freeze 300 (by decide)) ?_;refine AW.st (by simp[ab,aV,bn,dS];rfl) ?_;refine Ys fw [8,9] [500] ?_;exact aY (Aq fw (Aq @aV.eq_1 (Aq @bn.eq_1 (Aq @iq.eq_1 (Aq @iq.eq_2 (Aq @qP.eq_1 (Aq @YV.eq_1 (Aq @YV.eq_2 @hx))))))))
theorem Kq (G:Yt) (t:List UInt8) (ht:t.length<=2000) (d:Nat) (kQ:∀ i,i<=t.length->MC prog G [500] 197 [.ref 500 0 0,.d (ab d)] (ah (aV t i)) (.d (cm (bK t d i))) (ah (aV t (YV (bK t d i))))) (i:Nat) (hi:i<=t.length) :
  MC prog G [500] 149 [.ref 500 0 0,.d (ab d)] (ah (aV t i)) (.d (cm (iP t (bK t d) i))) (ah (aV t (YV (iP t (bK t d) i)))):=by
 have iJ:=Ja G t ht 197 38 38 rfl d (bK t d) (iM t d) kQ i hi;have hR:iP t (bK t d) i=(aah t 38 (bK t d) i []).map mH:=rfl;rw[hR];have hq:∀ {c:Int} {p q:Nat},aah t 38 (bK t d) i [] = .err c p q->q=0:=fun h=>CH _ _ _ h
 cases hs:aah t 38 (bK t d) i [] with
 | err c p q=>
  obtain rfl:=hq hs;rw[hs]at iJ;refine MC.aI (au _) func149 rfl rfl (rs:=[.tmp 4,.tmp 5]) results149 (by simp[ntmps149]) rfl fun X=>?_;simp only[ntmps149];have fw:=(Aq @ab.eq_1 (Aq @aV.eq_1 (Aq @bn.eq_1 @dS.eq_1)));refine Ys fw [0,1] [500] ?_;refine bh (Aq fw (Aq @iq.eq_1 (Aq @iq.eq_2 (Aq @aO.eq_1 (Aq @aO.eq_2 @aO.eq_3))))) iJ [6,7] [500] ?_;refine ae fun K1 Yw=>?_;refine Ys fw [6,7,17] [500] ?_;refine Yx rfl ?_;refine Ys fw [4,5] [500] ?_;refine b6 ?_;simp[D.le,D.le.go,aQ,ab,aV,bn,dS,aV,bn,cm,YV,aO,Rs.map,dQ]
 | ok l p=>
  rw[hs]at iJ;by_cases hl:l.length=1
  .obtain⟨x,rfl⟩:=List.length_eq_one_iff.1 hl;obtain⟨tx,cx,hx⟩:=dY x;refine MC.aI (au _) func149 rfl rfl (rs:=[.tmp 4,.tmp 5]) results149 (by simp[ntmps149]) rfl fun X=>?_;simp only[ntmps149];have fw:=(Aq @ab.eq_1 (Aq @aV.eq_1 (Aq @bn.eq_1 @dS.eq_1)));refine Ys fw [0,1] [500] ?_;have qf:=(Aq fw (Aq @iq.eq_1 (Aq @iq.eq_2 (Aq @qP.eq_1 @hx))));refine aaS iJ [6,7] [500] ?_;refine ae fun K1 Yw=>?_;refine Ys fw [6,7,17] [500] ?_;refine ag rfl ?_;refine ar (Yw _ ?_);refine ae fun K2 aa=>?_;refine Ys fw [6,21] [500] ?_;refine Yx rfl ?_;refine Ys fw [4,5] [500] ?_;refine b6 ?_;simp[D.le,D.le.go,aQ,ab,aV,bn,dS,aV,bn,cm,YV,Rs.map,mH,hx,D.le_refl]
  .have fi:¬ (l.length:Int)=1:=by omega
   have Ab:=vh hl;refine MC.aI (au _) func149 rfl rfl (rs:=[.tmp 4,.tmp 5]) results149 (by simp[ntmps149]) rfl fun X=>?_;simp only[ntmps149];have fw:=(Aq @ab.eq_1 (Aq @aV.eq_1 (Aq @bn.eq_1 @dS.eq_1)));refine Ys fw [0,1] [500] ?_;refine bh (Aq fw (Aq @iq.eq_1 (Aq @iq.eq_2 @qP.eq_1))) iJ [6,7] [500] ?_;refine ae fun K1 Yw=>?_;refine Ys fw [6,7,17] [500] ?_;refine ag rfl ?_;refine ar (Yw _ ?_);refine ae fun K2 aa=>?_;have qf:=(Aq fw (Aq @hl @fi));refine aC [6,21] [500] ?_;refine ag rfl ?_;refine ar (aa _ ?_);refine Ys fw [4,5] [500] ?_;refine b6 ?_;simp[D.le,D.le.go,aQ,ab,aV,bn,dS,aV,bn,cm,YV,Rs.map,Ab,dE,aa6,D.le_refl,D.YG]
theorem HL (G:Yt) (t:List UInt8) (ht:t.length<=2000) (d:Nat) (kQ:∀ i,i<=t.length->MC prog G [500] 197 [.ref 500 0 0,.d (ab d)] (ah (aV t i)) (.d (cm (bK t d i))) (ah (aV t (YV (bK t d i))))) (i:Nat) (hi:i<=t.length) :
  MC prog G [500] 96 [.ref 500 0 0,.d (ab d)] (ah (aV t i)) (.d (cm (ij t (bK t d) i))) (ah (aV t (YV (ij t (bK t d) i)))):=by
 have iJ:=Ja G t ht 149 124 124 rfl d (iP t (bK t d)) (qG (iM t d)) (Kq G t ht d kQ) i hi;have hR:ij t (bK t d) i=(aah t 124 (iP t (bK t d)) i []).map aa5:=rfl;rw[hR];have hq:∀ {c:Int} {p q:Nat},aah t 124 (iP t (bK t d)) i [] = .err c p q->q=0:=fun h=>CH _ _ _ h
 cases hs:aah t 124 (iP t (bK t d)) i [] with
 | err c p q=>
  obtain rfl:=hq hs;rw[hs]at iJ;refine MC.aI (au _) func96 rfl rfl (rs:=[.tmp 4,.tmp 5]) results96 (by simp[ntmps96]) rfl fun X=>?_;simp only[ntmps96];have fw:=(Aq @ab.eq_1 (Aq @aV.eq_1 (Aq @bn.eq_1 @dS.eq_1)));refine Ys fw [0,1] [500] ?_;refine bh (Aq fw (Aq @iq.eq_1 (Aq @iq.eq_2 (Aq @aO.eq_1 (Aq @aO.eq_2 @aO.eq_3))))) iJ [6,7] [500] ?_;refine ae fun K1 Yw=>?_;refine Ys fw [6,7,17] [500] ?_;refine Yx rfl ?_;refine Ys fw [4,5] [500] ?_;refine b6 ?_;simp[D.le,D.le.go,aQ,ab,aV,bn,dS,aV,bn,cm,YV,aO,Rs.map,dQ]
 | ok l p=>
  rw[hs]at iJ;by_cases hl:l.length=1
  .obtain⟨x,rfl⟩:=List.length_eq_one_iff.1 hl;obtain⟨tx,cx,hx⟩:=dY x;refine MC.aI (au _) func96 rfl rfl (rs:=[.tmp 4,.tmp 5]) results96 (by simp[ntmps96]) rfl fun X=>?_;simp only[ntmps96];have fw:=(Aq @ab.eq_1 (Aq @aV.eq_1 (Aq @bn.eq_1 @dS.eq_1)));refine Ys fw [0,1] [500] ?_;have qf:=(Aq fw (Aq @iq.eq_1 (Aq @iq.eq_2 (Aq @qP.eq_1 @hx))));refine aaS iJ [6,7] [500] ?_;refine ae fun K1 Yw=>?_;refine Ys fw [6,7,17] [500] ?_;refine ag rfl ?_;refine ar (Yw _ ?_);refine ae fun K2 aa=>?_;refine Ys fw [6,21] [500] ?_;refine Yx rfl ?_;refine Ys fw [4,5] [500] ?_;refine b6 ?_;simp[D.le,D.le.go,aQ,ab,aV,bn,dS,aV,bn,cm,YV,Rs.map,aa5,hx,D.le_refl]
  .have fi:¬ (l.length:Int)=1:=by omega
   have Ab:=acu hl;refine MC.aI (au _) func96 rfl rfl (rs:=[.tmp 4,.tmp 5]) results96 (by simp[ntmps96]) rfl fun X=>?_;simp only[ntmps96];have fw:=(Aq @ab.eq_1 (Aq @aV.eq_1 (Aq @bn.eq_1 @dS.eq_1)));refine Ys fw [0,1] [500] ?_;refine bh (Aq fw (Aq @iq.eq_1 (Aq @iq.eq_2 @qP.eq_1))) iJ [6,7] [500] ?_;refine ae fun K1 Yw=>?_;refine Ys fw [6,7,17] [500] ?_;refine ag rfl ?_;refine ar (Yw _ ?_);refine ae fun K2 aa=>?_;have qf:=(Aq fw (Aq @hl @fi));refine aC [6,21] [500] ?_;refine ag rfl ?_;refine ar (aa _ ?_);refine Ys fw [4,5] [500] ?_;refine b6 ?_;simp[D.le,D.le.go,aQ,ab,aV,bn,dS,aV,bn,cm,YV,Rs.map,Ab,dE,aa6,D.le_refl,D.YG]
end Go.Proofs.YtdigkhaofjmgkaaGreatDoor
namespace Go.Proofs.YtdigkhaofjmgkaaGreatDoor
def qC {α:Type} (sz:α->Nat) (t:List UInt8) (f:Nat->Rs α):Prop:=∀ i x j,i<=t.length->f i = .ok x j->sz x<=5 * (j - i)
def Has (t:List UInt8) (p:Nat) (w:List UInt8):Prop:=∀ k,k < w.length->t[p+k]? = w[k]?
theorem Has.cons {t:List UInt8} {p:Nat} {c:UInt8} {w:List UInt8} (h:Has t p (c :: w)):t[p]? = some c/\Has t (p+1) w:=by
 refine⟨by simpa using h 0 (by simp),fun k hk=>?_⟩;have:=h (k+1) (by simp;omega);rw[show p+1+k=p+(k+1) by omega,this];rfl
theorem Has.app {t:List UInt8} {p:Nat} {u v:List UInt8} (h:Has t p (u ++ v)):Has t p u/\Has t (p+u.length) v:=by
 constructor
 .intro k hk;rw[h k (by simp;omega),List.getElem?_append_left hk]
 .intro k hk;rw[show p+u.length+k=p+(u.length+k) by omega,h (u.length+k) (by simp;omega),List.getElem?_append_right (by omega)];congr 1;omega
theorem Has.top {t:List UInt8} {p:Nat} {w:List UInt8} (h:Has t p w) (hp:p<=t.length):p+w.length<=t.length:=by
 cases w with
 | nil=>simpa using hp
 | cons c w=>
  have h1:=h w.length (by simp)
  have h2:(c :: w)[w.length]?≠none:=by simp
  rw[<- h1]at h2
  have h3:p+w.length < t.length:=by
   apply Classical.byContradiction;intro hn;exact h2 (List.getElem?_eq_none (by omega))
  simp only[List.length_cons];omega
theorem Fz (t:List UInt8):Has t 0 t:=fun k hk=>by simp
theorem rA {s:List UInt8} (h:eS s=true):s≠[]/\s.length<=8/\(∀ c∈s,iK c=false)/\∀ c,s[0]? = some c->iK c=false/\c≠48/\c≠49/\97<=c.toNat:=by
 unfold eS at h;simp only[Bool.and_eq_true,decide_eq_true_eq,Jt]at h;obtain⟨h1,h2,h3,h4,h5,-⟩:=h
 have hs:∀ c:UInt8,ll.contains c=true->iK c=false:=by
  have h:∀ n:Fin 256,ll.contains (UInt8.ofNat n)=true->iK (UInt8.ofNat n)=false:=by decide +kernel
  intro c;have:=h ⟨c.toNat,c.toNat_lt⟩;simpa using this
 refine⟨h1,h2,fun c hc=>hs c (h5 c hc),fun c hc=>?_⟩;have hm:c∈s:=List.mem_of_getElem? hc
 have hg:s.getD 0 0=c:=by rw[List.getD_eq_getElem?_getD,hc];rfl
 rw[hg]at h3;refine⟨hs c (h5 c hm),?_,?_,h3⟩<;>rintro rfl<;>revert h3<;>decide
def aa4 (t:List UInt8) (e:Nat):Prop:=∀ c,t[e]? = some c->iK c=true
theorem Jp {t:List UInt8}:∀ (w:List UInt8) (k:Nat),Has t k w->(∀ c∈w,iK c=false)->aa4 t (k+w.length)->ky t k=k+w.length
 | [],k,_,_,hs=>by
  rw[Jr fun hk=>hs _ (by simp[List.getElem?_eq_getElem hk])];rfl
 | c :: w,k,h,hw,hs=>by
  obtain⟨h1,h2⟩:=h.cons;obtain⟨hk,he⟩:=List.getElem?_eq_some_iff.1 h1;rw[Jq hk (by rw[he];exact hw c (by simp)),Jp w (k+1) h2 (fun c hc=>hw c (by simp[hc])) (by rw[show k+1+w.length=k+(c :: w).length by simp;omega];exact hs)];simp;omega
theorem ada {t s:List UInt8} {q i:Nat} (hn:eS s=true) (h:Has t (aM t i) s) (hs:aa4 t (aM t i+s.length)):fE t q i = .ok s (aM t i+s.length):=by
 obtain⟨h1,h2,h3,h4⟩:=rA hn;unfold fE;generalize aM t i=p at *
 have hw:kz t p=p+s.length:=by
  cases s with
  | nil=>exact absurd rfl h1
  | cons c w=>
   obtain⟨g1,g2⟩:=h.cons;obtain⟨f1,f2,f3,f4⟩:=h4 c rfl
   have ho:ly t p=true:=by
    unfold ly;rw[g1];simp[f1,f2,f3]
   unfold kz;rw[ho,if_pos rfl,Jp w (p+1) g2 (fun c hc=>h3 c (by simp[hc])) (by rw[show p+1+w.length=p+(c :: w).length by simp;omega];exact hs)];simp;omega
 have ma:jm t p=s:=by
  unfold jm;rw[hw];apply List.ext_getElem?;intro k;rw[show p+s.length - p=s.length by omega,List.getElem?_take];split
  .rename_i hk;rw[List.getElem?_drop,h k hk]
  .rw[List.getElem?_eq_none (by omega)]
 rw[ma,if_neg h1,if_neg (by rw[hn];simp),hw]
mutual
def cu:Ex->Prop
 | .dX _=>True
 | .bit s=>eS s=true
 | .fS s=>eS s=true
 | .fJ s=>eS s=true
 | .not e=>cu e
 | .and l=>2<=l.length/\pn l
 | .or l=>2<=l.length/\pn l
def pn:List Ex->Prop
 | []=>True
 | e :: l=>cu e/\pn l
end
theorem iO:∀ l:List Ex,pn l↔∀ e∈l,cu e
 | []=>by simp[pn]
 | e :: l=>by simp[pn,iO l]
mutual
def df:Ex->Nat
 | .dX _=>1
 | .bit _=>1
 | .fS _=>1
 | .fJ _=>1
 | .not e=>df e+1
 | .and l=>kJ l+1
 | .or l=>dpO l+1
def kJ:List Ex->Nat
 | []=>0
 | e :: l=>max (df e) (kJ l)
def dpO:List Ex->Nat
 | []=>0
 | e :: l=>max (match e with | .and m=>kJ m | e=>df e) (dpO l)
end
def Z1:Ex->Nat
 | .and l=>kJ l
 | .or l=>dpO l
 | e=>df e
def ju:Ex->Nat
 | .and l=>kJ l
 | e=>df e
theorem D7 (e:Ex) (l:List Ex):dpO (e :: l)=max (ju e) (dpO l):=by
 cases e<;>simp[dpO,ju]
theorem su {x:Ex}:∀ {l:List Ex},x∈l->df x<=kJ l
 | e :: l,h=>by
  rw[kJ]
  rcases List.mem_cons.1 h with rfl | h
  .omega
  .have:=su h;omega
theorem y4 {x:Ex}:∀ {l:List Ex},x∈l->ju x<=dpO l
 | e :: l,h=>by
  rw[D7]
  rcases List.mem_cons.1 h with rfl | h
  .omega
  .have:=y4 h;omega
theorem LZ (e:Ex):ju e<=df e:=by cases e<;>simp[ju,df]
theorem LY (e:Ex):Z1 e<=ju e:=by
 cases e<;>simp[Z1,ju,df]
theorem LX (e:Ex):df e<=Z1 e+1:=by
 cases e<;>simp[Z1,df]
theorem nQ:∀ (e:Ex) (k:Nat),cu e->∃ c r,aU e k=c :: r/\c≠32
 | .dX b,k,_=>by cases b<;>exact⟨_,_,rfl,by decide⟩
 | .bit s,k,h=>by
  obtain⟨h1,h2,h3,h4⟩:=rA h
  cases s with
  | nil=>exact absurd rfl h1
  | cons c r=>exact⟨c,r,rfl,by rintro rfl;have:=(h4 32 rfl).1;revert this;decide⟩
 | .fS s,k,_=>⟨_,_,rfl,by decide⟩
 | .fJ s,k,_=>⟨_,_,rfl,by decide⟩
 | .not e,k,_=>⟨_,_,rfl,by decide⟩
 | .and l,k,h=>by
  rw[aU];split
  .exact⟨40,_,rfl,by decide⟩
  .obtain⟨h1,h2⟩:=h
   match l,h1,h2 with
   | x :: l,_,h2=>
    obtain⟨c,r,he,hc⟩:=nQ x 2 h2.1;rw[kA,Lib.join_cons,he];exact⟨c,_,rfl,hc⟩
 | .or l,k,h=>by
  rw[aU];split
  .exact⟨40,_,rfl,by decide⟩
  .obtain⟨h1,h2⟩:=h
   match l,h1,h2 with
   | x :: l,_,h2=>
    obtain⟨c,r,he,hc⟩:=nQ x 1 h2.1;rw[kA,Lib.join_cons,he];exact⟨c,_,rfl,hc⟩
theorem qo {t:List UInt8} {p:Nat} {w:List UInt8} (h:Has t p w) (hw:∃ c r,w=c :: r/\c≠32):aM t p=p:=by
 obtain⟨c,r,rfl,hc⟩:=hw;exact aaN (by rw[h.cons.1];intro e;exact hc (Option.some.inj e))
theorem xN {t:List UInt8} {s:UInt8} (hs:s≠32) {f:Nat->Rs Ex} (hg:aai t f) (k:Nat) (Q:Nat->Prop) (L:List Ex) (hL:∀ y∈L,cu y)
  (hQ:∀ e,t[e]? = some 32->t[e+1]? = some s->aM t e=e+1->Q e)
  (hf:∀ y∈L,∀ i,i<=t.length->Has t (aM t i) (aU y k)->Q (aM t i+(aU y k).length)->∃ j,f i = .ok y j/\aM t j=aM t (aM t i+(aU y k).length)) :
  ∀ (l:List Ex) (x:Ex),(∀ y∈x :: l,y∈L)->∀ (i:Nat) (acc:List Ex),i<=t.length->Has t (aM t i) (aU x k ++ Lib.joinTail [32,s,32] (l.map fun e=>aU e k))->
   Q (aM t i+(aU x k ++ Lib.joinTail [32,s,32] (l.map fun e=>aU e k)).length)->t[aM t (aM t i+(aU x k ++ Lib.joinTail [32,s,32] (l.map fun e=>aU e k)).length)]?≠some s->
   aah t s f i acc = .ok (acc ++ x :: l) (aM t (aM t i+(aU x k ++ Lib.joinTail [32,s,32] (l.map fun e=>aU e k)).length)):=by
 intro l
 induction l with
 | nil=>
  intro x hx i acc hi hh hq hn;simp only[List.map_nil,Lib.joinTail,List.flatten_nil,List.append_nil]at hh hq hn ⊢;obtain⟨j,hj,wP⟩:=hf x (hx x (by simp)) i hi hh hq;rw[CI hg hi,hj];dsimp only;unfold dV;rw[wP,if_neg hn];simp
 | cons y l ih=>
  intro x hx i acc hi hh hq hn
  have ej:Lib.joinTail [32,s,32] ((y :: l).map fun e=>aU e k)=32 :: s :: 32 :: (aU y k ++ Lib.joinTail [32,s,32] (l.map fun e=>aU e k)):=by
   simp[Lib.joinTail]
  rw[ej]at hh hq hn ⊢;have aac:=il hi;obtain⟨h1,h2⟩:=hh.app;have Qh:=h1.top aac;generalize hE:aM t i+(aU x k).length=e1 at h2 Qh;obtain⟨g1,h2⟩:=h2.cons;obtain⟨g2,h2⟩:=h2.cons;obtain⟨g3,h2⟩:=h2.cons
  have k1:aM t e1=e1+1:=by
   rw[uy g1,aaN];rw[g2];intro h;exact hs (Option.some.inj h)
  obtain⟨j,hj,wP⟩:=hf x (hx x (by simp)) i hi h1 (by rw[hE];exact hQ e1 g1 g2 k1);rw[hE,k1]at wP
  have ht:dV t s j=(true,e1+2):=by
   unfold dV;rw[wP,if_pos g2]
  have k2:aM t (e1+2)=e1+3:=by
   rw[uy g3]
   exact qo h2 (by
    obtain⟨c,r,he,hc⟩:=nQ y k (hL y (hx y (by simp)))
    exact⟨c,_,by rw[he];rfl,hc⟩)
  have hlen:e1+2<=t.length:=by
   obtain⟨h,_⟩:=List.getElem?_eq_some_iff.1 g3;omega
  have s3:aM t i+(aU x k ++ 32 :: s :: 32 :: (aU y k ++ Lib.joinTail [32,s,32] (l.map fun e=>aU e k))).length=aM t (e1+2)+(aU y k ++ Lib.joinTail [32,s,32] (l.map fun e=>aU e k)).length:=by
   rw[k2,List.length_append];simp only[List.length_cons];omega
  rw[s3]at hq hn ⊢;have:=ih y (fun z hz=>hx z (List.mem_cons_of_mem x hz)) (e1+2) (acc ++ [x]) hlen (by rw[k2];exact h2) hq hn;rw[CI hg hi,hj];dsimp only;rw[ht];simp only[if_true];rw[this];simp
def uY (t:List UInt8) (d:Nat) (e:Ex):Prop:=∀ i,i<=t.length->Has t (aM t i) (aU e 2)->aa4 t (aM t i+(aU e 2).length)->bK t d i = .ok e (aM t i+(aU e 2).length)
def uW (t:List UInt8) (d:Nat) (e:Ex):Prop:=∀ i,i<=t.length->Has t (aM t i) (aU e 1)->aa4 t (aM t i+(aU e 1).length)->t[aM t (aM t i+(aU e 1).length)]?≠some 38->iP t (bK t d) i = .ok e (aM t (aM t i+(aU e 1).length))
def uZ (t:List UInt8) (d:Nat) (e:Ex):Prop:=∀ i,i<=t.length->Has t (aM t i) (aU e 0)->aa4 t (aM t i+(aU e 0).length)->t[aM t (aM t i+(aU e 0).length)]?≠some 38->t[aM t (aM t i+(aU e 0).length)]?≠some 124->ij t (bK t d) i = .ok e (aM t (aM t i+(aU e 0).length))
theorem u1 {t:List UInt8} {d:Nat} {l:List Ex} (hw:cu (.and l)) (h:∀ y∈l,uY t d y):uW t d (.and l):=by
 intro i hi hh bw hn;obtain⟨h2,ma⟩:=hw
 match l,h2 with
 | x :: l,h2=>
  have e1:aU (.and (x :: l)) 1=aU x 2 ++ Lib.joinTail [32,38,32] (l.map fun e=>aU e 2):=by
   rw[aU,if_neg (by omega),uP,List.map_cons,Lib.join_cons]
  rw[e1]at hh bw hn ⊢
  have:=xN (s:=38) (by decide) (iM t d) 2 (aa4 t) (x :: l) ((iO _).1 ma) (fun e h1 _ _ c hc=>by rw[h1]at hc;obtain rfl:=Option.some.inj hc;rfl)
   (fun y hy i hi hh hs=>⟨_,h y hy i hi hh hs,rfl⟩) l x (fun y hy=>hy) i [] hi hh bw hn
  show (aah t 38 (bK t d) i []).map mH=_;rw[this];show Rs.ok (mH ([] ++ x :: l)) _=_;rw[List.nil_append,vh (by simp only[List.length_cons]at h2 ⊢;omega)]
theorem acT {t:List UInt8} {d:Nat} {e:Ex} (hw:cu e) (zy:aU e 1=aU e 2) (h:uY t d e):uW t d e:=by
 intro i hi hh bw hn;rw[zy]at hh bw hn ⊢
 have:=xN (s:=38) (by decide) (iM t d) 2 (aa4 t) [e] (fun y hy=>by simp at hy;subst hy;exact hw) (fun e h1 _ _ c hc=>by rw[h1]at hc;obtain rfl:=Option.some.inj hc;rfl)
  (fun y hy i2 dD hh2 dM=>⟨_,by have Bp:=List.mem_singleton.1 hy;subst Bp;exact h i2 dD hh2 dM,rfl⟩) [] e (fun y hy=>hy) i [] hi (by simpa[Lib.joinTail]using hh) (by simpa[Lib.joinTail]using bw) (by simpa[Lib.joinTail]using hn)
 show (aah t 38 (bK t d) i []).map mH=_;rw[this];simp[Rs.map,mH,Lib.joinTail]
theorem HH {t:List UInt8} {d:Nat} {l:List Ex} (hw:cu (.or l)) (h:∀ y∈l,uW t d y):uZ t d (.or l):=by
 intro i hi hh bw kh gQ;obtain⟨h2,ma⟩:=hw
 match l,h2 with
 | x :: l,h2=>
  have e1:aU (.or (x :: l)) 0=aU x 1 ++ Lib.joinTail [32,124,32] (l.map fun e=>aU e 1):=by
   rw[aU,if_neg (by omega),uP,List.map_cons,Lib.join_cons]
  rw[e1]at hh bw kh gQ ⊢
  have:=xN (s:=124) (by decide) (qG (iM t d)) 1 (fun e=>aa4 t e/\t[aM t e]?≠some 38) (x :: l) ((iO _).1 ma)
   (fun e h1 h2 h3=>⟨fun c hc=>by rw[h1]at hc;obtain rfl:=Option.some.inj hc;rfl,by rw[h3,h2];decide⟩)
   (fun y hy i hi hh hs=>⟨_,h y hy i hi hh hs.1 hs.2,qn (hh.top (il hi))⟩) l x (fun y hy=>hy) i [] hi hh ⟨bw,kh⟩ gQ
  show (aah t 124 (iP t (bK t d)) i []).map aa5=_;rw[this];show Rs.ok (aa5 ([] ++ x :: l)) _=_;rw[List.nil_append,acu (by simp only[List.length_cons]at h2 ⊢;omega)]
theorem HG {t:List UInt8} {d:Nat} {e:Ex} (hw:cu e) (MY:aU e 0=aU e 1) (h:uW t d e):uZ t d e:=by
 intro i hi hh bw kh gQ;rw[MY]at hh bw kh gQ ⊢
 have:=xN (s:=124) (by decide) (qG (iM t d)) 1 (fun e=>aa4 t e/\t[aM t e]?≠some 38) [e] (fun y hy=>by simp at hy;subst hy;exact hw)
  (fun e h1 h2 h3=>⟨fun c hc=>by rw[h1]at hc;obtain rfl:=Option.some.inj hc;rfl,by rw[h3,h2];decide⟩)
  (fun y hy i2 dD hh2 dM=>⟨_,by have Bp:=List.mem_singleton.1 hy;subst Bp;exact h i2 dD hh2 dM.1 dM.2,qn (hh2.top (il dD))⟩) [] e (fun y hy=>hy) i [] hi (by simpa[Lib.joinTail]using hh) ⟨by simpa[Lib.joinTail]using bw,by simpa[Lib.joinTail]using kh⟩ (by simpa[Lib.joinTail]using gQ)
 show (aah t 124 (iP t (bK t d)) i []).map aa5=_;rw[this];simp[Rs.map,aa5,Lib.joinTail]
theorem adn {t:List UInt8} {d:Nat} {e:Ex} (hw:cu e) (h2:aU e 2=40 :: (aU e 0 ++ [41])) (h:uZ t d e):uY t (d+1) e:=by
 intro i hi hh bw;rw[h2]at hh bw ⊢;have aac:=il hi;generalize hp:aM t i=p at *;obtain⟨g1,hh⟩:=hh.cons;obtain⟨g2,g3⟩:=hh.app;have cX:p+1<=t.length:=(List.getElem?_eq_some_iff.1 g1).1;have k1:aM t (p+1)=p+1:=qo g2 (nQ e 0 hw);have g4:=g3.cons.1;have k2:aM t (p+1+(aU e 0).length)=p+1+(aU e 0).length:=aaN (by rw[g4];decide);have:=h (p+1) cX (by rw[k1];exact g2) (by rw[k1];intro c hc;rw[g4]at hc;obtain rfl:=Option.some.inj hc;rfl) (by rw[k1,k2,g4];decide) (by rw[k1,k2,g4];decide);rw[k1,k2]at this
 have ht:dV t 41 (p+1+(aU e 0).length)=(true,p+1+(aU e 0).length+1):=by
  unfold dV;rw[k2,if_pos g4]
 rw[bK,hp,if_neg (by rw[g1];decide),if_pos g1,this];dsimp only;rw[ht];simp;omega
theorem oW {t:List UInt8}:∀ (n:Nat) (e:Ex),SizeOf.sizeOf e<=n->cu e->∀ d,df e<=d->uY t d e
 | 0,e,hn,_,_,_=>by cases e<;>simp at hn
 | n+1,e,hn,hw,d,hd=>by
  have key:∀ b:Bool,∀ (p:Nat),t[p]? = some (if b then 49 else 48)->aM t p=p:=fun b p h=>aaN (by rw[h];cases b<;>decide)
  cases e with
  | dX b=>
   obtain⟨d,rfl⟩:∃ d',d=d'+1:=⟨d - 1,by simp only[df]at hd;omega⟩;intro i hi hh bw
   cases b with
   | true=>
    have g:t[aM t i]? = some 49:=(show Has t (aM t i) (_ :: _) from hh).cons.1;rw[bK,if_neg (by rw[g];decide),if_neg (by rw[g];decide),if_neg (by rw[g];decide),if_pos g];simp[aU]
   | false=>
    have g:t[aM t i]? = some 48:=(show Has t (aM t i) (_ :: _) from hh).cons.1;rw[bK,if_neg (by rw[g];decide),if_neg (by rw[g];decide),if_pos g];simp[aU]
  | bit s=>
   obtain⟨d,rfl⟩:∃ d',d=d'+1:=⟨d - 1,by simp only[df]at hd;omega⟩;intro i hi hh bw;rw[aU]at hh bw ⊢;obtain⟨n1,n2,n3,n4⟩:=rA hw;have aac:=il hi;have hid:=qn hi
   have hlen:0 < s.length:=by cases s with | nil=>exact absurd rfl n1 | cons c s=>simp
   have hc:t[aM t i]? = s[0]?:=by simpa using hh 0 hlen
   have aG:∀ c:UInt8,iK c=true\/c=48\/c=49->t[aM t i]?≠some c:=by
    intro c Zf h;rw[hc]at h;obtain⟨f1,f2,f3,_⟩:=n4 c h
    rcases Zf with h | h | h
    .rw[f1]at h;cases h
    .exact f2 h
    .exact f3 h
   rw[bK,if_neg (aG 33 (by decide)),if_neg (aG 40 (by decide)),if_neg (aG 48 (by decide)),if_neg (aG 49 (by decide)),if_neg (aG 94 (by decide)),if_neg (aG 126 (by decide)),ada hw (by rw[hid];exact hh) (by rw[hid];exact bw),hid];rfl
  | fS s=>
   obtain⟨d,rfl⟩:∃ d',d=d'+1:=⟨d - 1,by simp only[df]at hd;omega⟩;intro i hi hh bw;rw[aU]at hh bw ⊢;obtain⟨g,hh⟩:=hh.cons;have k1:aM t (aM t i+1)=aM t i+1:=qo hh (nQ (.bit s) 0 hw);rw[bK,if_neg (by rw[g];decide),if_neg (by rw[g];decide),if_neg (by rw[g];decide),if_neg (by rw[g];decide),if_pos g,ada hw (by rw[k1];exact hh) (by rw[k1];rw[List.length_cons]at bw;rw[show aM t i+1+s.length=aM t i+(s.length+1) by omega];exact bw),k1];simp[Rs.map];omega
  | fJ s=>
   obtain⟨d,rfl⟩:∃ d',d=d'+1:=⟨d - 1,by simp only[df]at hd;omega⟩;intro i hi hh bw;rw[aU]at hh bw ⊢;obtain⟨g,hh⟩:=hh.cons;have k1:aM t (aM t i+1)=aM t i+1:=qo hh (nQ (.bit s) 0 hw);rw[bK,if_neg (by rw[g];decide),if_neg (by rw[g];decide),if_neg (by rw[g];decide),if_neg (by rw[g];decide),if_neg (by rw[g];decide),if_pos g,ada hw (by rw[k1];exact hh) (by rw[k1];rw[List.length_cons]at bw;rw[show aM t i+1+s.length=aM t i+(s.length+1) by omega];exact bw),k1];simp[Rs.map];omega
  | not x=>
   obtain⟨d,rfl⟩:∃ d',d=d'+1:=⟨d - 1,by simp only[df]at hd;omega⟩;have ih:=oW (t:=t) n x (by simp at hn;omega) hw d (by simp only[df]at hd;omega);intro i hi hh bw;rw[aU]at hh bw ⊢;obtain⟨g,hh⟩:=hh.cons;have cX:=(List.getElem?_eq_some_iff.1 g).1;have k1:aM t (aM t i+1)=aM t i+1:=qo hh (nQ x 2 hw);rw[bK,if_pos g,ih (aM t i+1) cX (by rw[k1];exact hh) (by rw[k1];rw[List.length_cons]at bw;rw[show aM t i+1+(aU x 2).length=aM t i+((aU x 2).length+1) by omega];exact bw),k1];simp;omega
  | and l=>
   obtain⟨d,rfl⟩:∃ d',d=d'+1:=⟨d - 1,by simp only[df]at hd;omega⟩;simp only[df]at hd;refine adn hw (by simp[aU]) (HG hw (by simp[aU]) (u1 hw fun y hy=>?_));have:=List.sizeOf_lt_of_mem hy;have h2:=su hy;exact oW n y (by simp only[Ex.and.sizeOf_spec]at hn;omega) ((iO _).1 hw.2 y hy) d (by omega)
  | or l=>
   obtain⟨d,rfl⟩:∃ d',d=d'+1:=⟨d - 1,by simp only[df]at hd;omega⟩;simp only[df]at hd;refine adn hw (by simp[aU]) (HH hw fun y hy=>?_);have hs:=List.sizeOf_lt_of_mem hy;have h2:=y4 hy;have nw:=(iO _).1 hw.2 y hy
   have iG:SizeOf.sizeOf y+1<=n:=by simp only[Ex.or.sizeOf_spec]at hn;omega
   by_cases hm:∃ m,y = .and m
   .obtain⟨m,rfl⟩:=hm;refine u1 nw fun z hz=>?_;have:=List.sizeOf_lt_of_mem hz;have h3:=su hz;simp only[ju]at h2;exact oW n z (by simp only[Ex.and.sizeOf_spec]at iG;omega) ((iO _).1 nw.2 z hz) d (by omega)
   .have h3:ju y=df y:=by
     cases y<;>first | rfl | exact absurd ⟨_,rfl⟩ hm
    have h4:aU y 1=aU y 2:=by
     cases y<;>first | rfl | exact absurd ⟨_,rfl⟩ hm | simp[aU]
    exact acT nw h4 (oW n y (by omega) nw d (by omega))
theorem HI {t:List UInt8} {e:Ex} (hw:cu e) {d:Nat} (hd:Z1 e<=d):uZ t d e:=by
 by_cases ho:∃ l,e = .or l
 .obtain⟨l,rfl⟩:=ho;refine HH hw fun y hy=>?_;have h2:=y4 hy;have nw:=(iO _).1 hw.2 y hy;simp only[Z1]at hd;by_cases hm:∃ m,y = .and m
  .obtain⟨m,rfl⟩:=hm;refine u1 nw fun z hz=>?_;have h3:=su hz;simp only[ju]at h2;exact oW _ z (Nat.le_refl _) ((iO _).1 nw.2 z hz) d (by omega)
  .have h3:ju y=df y:=by
    cases y<;>first | rfl | exact absurd ⟨_,rfl⟩ hm
   have h4:aU y 1=aU y 2:=by
    cases y<;>first | rfl | exact absurd ⟨_,rfl⟩ hm | simp[aU]
   exact acT nw h4 (oW _ y (Nat.le_refl _) nw d (by omega))
 .have h0:aU e 0=aU e 1:=by
   cases e<;>first | rfl | exact absurd ⟨_,rfl⟩ ho | simp[aU]
  refine HG hw h0 ?_;by_cases hm:∃ m,e = .and m
  .obtain⟨m,rfl⟩:=hm;refine u1 hw fun z hz=>?_;have h3:=su hz;simp only[Z1]at hd;exact oW _ z (Nat.le_refl _) ((iO _).1 hw.2 z hz) d (by omega)
  .have h3:Z1 e=df e:=by
    cases e<;>first | rfl | exact absurd ⟨_,rfl⟩ hm | exact absurd ⟨_,rfl⟩ ho
   have h4:aU e 1=aU e 2:=by
    cases e<;>first | rfl | exact absurd ⟨_,rfl⟩ hm | exact absurd ⟨_,rfl⟩ ho | simp[aU]
   exact acT hw h4 (oW _ e (Nat.le_refl _) hw d (by omega))
theorem or_self {e:Ex} (hw:cu e) {d:Nat} (hd:Z1 e<=d):ij (aU e 0) (bK (aU e 0) d) 0 = .ok e (aU e 0).length:=by
 have k0:aM (aU e 0) 0=0:=qo (Fz _) (nQ e 0 hw);have k1:aM (aU e 0) (aU e 0).length=(aU e 0).length:=aaN (by simp);have:=HI (t:=aU e 0) hw hd 0 (Nat.zero_le _) (by rw[k0];exact Fz _) (by rw[k0];intro c hc;simp at hc) (by rw[k0,Nat.zero_add,k1];simp) (by rw[k0,Nat.zero_add,k1];simp);rw[k0,Nat.zero_add,k1]at this;exact this
theorem HT {e:Ex} (hw:cu e) (hd:Z1 e<=20) (hl:(aU e 0).length<=2000):dO (aU e 0)=(some e,none):=by
 have k1:aM (aU e 0) (aU e 0).length=(aU e 0).length:=aaN (by simp);unfold dO;rw[if_neg (by omega),or_self hw hd];dsimp only;rw[k1,if_neg (by omega)]
theorem CD {t:List UInt8} {s:UInt8} {f:Nat->Rs Ex} (P:Ex->Prop) (hf:∀ i x j,f i = .ok x j->P x):∀ (n i:Nat) (acc l:List Ex) (j:Nat),e8 t s f n i acc = .ok l j->(∀ x∈acc,P x)->∀ x∈l,P x
 | 0,i,acc,l,j,h,_=>by simp[e8]at h
 | n+1,i,acc,l,j,h,ha=>by
  rw[e8]at h
  cases Zs:f i with
  | err c p q=>rw[Zs]at h;cases h
  | ok x k=>
   rw[Zs]at h;dsimp only at h
   have YU:∀ y∈acc ++ [x],P y:=fun y hy=>by
    rcases List.mem_append.1 hy with hy | hy
    .exact ha y hy
    .simp at hy;subst hy;exact hf _ _ _ Zs
   split at h
   .exact CD P hf n _ _ l j h YU
   .simp only[Rs.ok.injEq]at h;obtain⟨rfl,-⟩:=h;exact YU
theorem CG {t:List UInt8} {s:UInt8} {f:Nat->Rs Ex}:∀ (n i:Nat) (acc l:List Ex) (j:Nat),e8 t s f n i acc = .ok l j->acc.length < l.length
 | 0,i,acc,l,j,h=>by simp[e8]at h
 | n+1,i,acc,l,j,h=>by
  rw[e8]at h;split at h
  .cases h
  .split at h
   .have:=CG n _ _ l j h;simp only[List.length_append,List.length_singleton]at this;omega
   .simp only[Rs.ok.injEq]at h;obtain⟨rfl,-⟩:=h;simp
theorem D6 {d:Nat}:∀ {l:List Ex},(∀ x∈l,df x<=d)->kJ l<=d
 | [],_=>by simp[kJ]
 | e :: l,h=>by
  have h1:=h e (by simp);have h2:=D6 (l:=l) fun x hx=>h x (by simp[hx]);rw[kJ];omega
theorem D8 {d:Nat}:∀ {l:List Ex},(∀ x∈l,ju x<=d)->dpO l<=d
 | [],_=>by simp[dpO]
 | e :: l,h=>by
  have h1:=h e (by simp);have h2:=D8 (l:=l) fun x hx=>h x (by simp[hx]);rw[D7];omega
theorem Kr {t:List UInt8} {d:Nat} (h:∀ i x j,bK t d i = .ok x j->cu x/\df x<=d) {i j:Nat} {x:Ex} (he:iP t (bK t d) i = .ok x j):cu x/\ju x<=d:=by
 obtain⟨l,h1,rfl⟩:=ji he;have ha:=CD (fun x=>cu x/\df x<=d) h _ _ _ _ _ h1 (by simp);have hp:=CG _ _ _ _ _ h1;by_cases hl:l.length=1
 .obtain⟨x,rfl⟩:=List.length_eq_one_iff.1 hl;have:=ha x (by simp);exact⟨this.1,Nat.le_trans (LZ x) this.2⟩
 .rw[vh hl];exact⟨⟨by simp at hp;omega,(iO _).2 fun x hx=>(ha x hx).1⟩,D6 fun x hx=>(ha x hx).2⟩
theorem HM {t:List UInt8} {d:Nat} (h:∀ i x j,bK t d i = .ok x j->cu x/\df x<=d) {i j:Nat} {x:Ex} (he:ij t (bK t d) i = .ok x j):cu x/\Z1 x<=d:=by
 obtain⟨l,h1,rfl⟩:=ji he;have ha:=CD (fun x=>cu x/\ju x<=d) (fun i x j h'=>Kr h h') _ _ _ _ _ h1 (by simp);have hp:=CG _ _ _ _ _ h1;by_cases hl:l.length=1
 .obtain⟨x,rfl⟩:=List.length_eq_one_iff.1 hl;have:=ha x (by simp);exact⟨this.1,Nat.le_trans (LY x) this.2⟩
 .rw[acu hl];exact⟨⟨by simp at hp;omega,(iO _).2 fun x hx=>(ha x hx).1⟩,D8 fun x hx=>(ha x hx).2⟩
theorem C7 {t:List UInt8} {q i j:Nat} {s:List UInt8} (h:fE t q i = .ok s j):eS s=true:=by
 unfold fE at h;split at h
 .cases h
 .split at h
  .cases h
  .rename_i hn;simp only[Rs.ok.injEq]at h;obtain⟨rfl,-⟩:=h;simpa using hn
theorem HF (t:List UInt8):∀ d i x j,bK t d i = .ok x j->cu x/\df x<=d
 | 0,i,x,j,h=>by simp[bK]at h
 | d+1,i,x,j,h=>by
  have ih:=HF t d;rw[bK]at h;split at h
  .cases he:bK t d (aM t i+1) with
   | err c p q=>rw[he]at h;cases h
   | ok y k=>
    rw[he]at h;simp only[Rs.ok.injEq]at h;obtain⟨rfl,rfl⟩:=h;have:=ih _ _ _ he;exact⟨this.1,by simp only[df];omega⟩
  split at h
  .cases he:ij t (bK t d) (aM t i+1) with
   | err c p q=>rw[he]at h;cases h
   | ok y k=>
    rw[he]at h;dsimp only at h;split at h
    .simp only[Rs.ok.injEq]at h;obtain⟨rfl,rfl⟩:=h;have:=HM ih he;have h3:=LX y;exact⟨this.1,by omega⟩
    .cases h
  split at h
  .simp only[Rs.ok.injEq]at h;obtain⟨rfl,rfl⟩:=h;exact⟨trivial,by simp only[df];omega⟩
  split at h
  .simp only[Rs.ok.injEq]at h;obtain⟨rfl,rfl⟩:=h;exact⟨trivial,by simp only[df];omega⟩
  split at h
  .obtain⟨s,h3,rfl⟩:=ji h;exact⟨C7 h3,by simp only[df];omega⟩
  split at h
  .obtain⟨s,h3,rfl⟩:=ji h;exact⟨C7 h3,by simp only[df];omega⟩
  .obtain⟨s,h3,rfl⟩:=ji h;exact⟨C7 h3,by simp only[df];omega⟩
theorem rL {t:List UInt8} {x:Ex} (h:(dO t).1=some x):cu x/\Z1 x<=20:=by
 unfold dO at h;split at h
 .cases h
 .split at h
  .cases h
  .rename_i y i he;split at h
   .cases h
   .obtain rfl:=Option.some.inj h;exact HM (HF t 20) he
mutual
def eY (is Ze:List UInt8->Bool):Ex->Bool
 | .dX b=>b
 | .bit s=>is s
 | .fS s=>is s && !Ze s
 | .fJ s=>!is s && Ze s
 | .not e=>!eY is Ze e
 | .and l=>vw is Ze l
 | .or l=>vx is Ze l
def vw (is Ze:List UInt8->Bool):List Ex->Bool
 | []=>true
 | e :: l=>eY is Ze e && vw is Ze l
def vx (is Ze:List UInt8->Bool):List Ex->Bool
 | []=>false
 | e :: l=>eY is Ze e || vx is Ze l
end
mutual
def bE:Ex->Nat
 | .dX _=>4
 | .bit s=>s.length+3
 | .fS s=>s.length+4
 | .fJ s=>s.length+4
 | .not e=>bE e+1
 | .and l=>eH l+5
 | .or l=>eH l+5
def eH:List Ex->Nat
 | []=>0
 | e :: l=>bE e+eH l
end
theorem sa:∀ (a b:List Ex),eH (a ++ b)=eH a+eH b
 | [],b=>by simp[eH]
 | e :: a,b=>by simp only[List.cons_append,eH,sa a b];omega
theorem u7:∀ e:Ex,3<=bE e
 | .not e=>by have:=u7 e;simp only[bE];omega
 | .dX _=>by simp[bE]
 | .bit _=>by simp[bE]
 | .fS _=>by simp only[bE];omega
 | .fJ _=>by simp only[bE];omega
 | .and _=>by simp only[bE];omega
 | .or _=>by simp only[bE];omega
theorem yE {x:Ex}:∀ {l:List Ex},x∈l->bE x<=eH l
 | y :: l,h=>by
  rw[eH]
  rcases List.mem_cons.1 h with rfl | h
  .omega
  .have:=yE h;omega
theorem sb:∀ l:List Ex,3 * l.length<=eH l
 | []=>by simp
 | e :: l=>by have:=sb l;have:=u7 e;simp only[List.length_cons,eH];omega
theorem CF {t:List UInt8} {s:UInt8} {f:Nat->Rs Ex} (hg:aai t f) (hf:qC bE t f):∀ (n i:Nat) (acc l:List Ex) (j:Nat),i<=t.length->e8 t s f n i acc = .ok l j->eH l+5 * (l.length - 1)<=eH acc+5 * acc.length+5 * (j - i)/\acc.length < l.length
 | 0,i,acc,l,j,_,h=>by simp[e8]at h
 | n+1,i,acc,l,j,hi,h=>by
  rw[e8]at h
  cases Zs:f i with
  | err c p q=>rw[Zs]at h;cases h
  | ok x k=>
   rw[Zs]at h;obtain⟨h1,h2⟩:=hg i x k hi Zs;have h5:=hf i x k hi Zs;obtain⟨t1,t2,t3⟩:=my (c:=s) h2;dsimp only at h;split at h
   .rename_i ht;have h4:=t3 ht;have ih:=CF hg hf n _ _ l j t2 h;have h6:=xO hg n _ _ l j t2 h;simp only[sa,eH,List.length_append,List.length_singleton]at ih;omega
   .simp only[Rs.ok.injEq]at h;obtain⟨rfl,rfl⟩:=h;simp only[sa,eH,List.length_append,List.length_singleton];omega
theorem Lu {l:List Ex} {m:Nat} (h:eH l+5 * (l.length - 1)<=m) (h0:0 < l.length):bE (mH l)<=m:=by
 by_cases h1:l.length=1
 .obtain⟨x,rfl⟩:=List.length_eq_one_iff.1 h1;simp only[eH,List.length_singleton]at h;show bE x<=m;omega
 .rw[vh h1,bE];omega
theorem Lv {l:List Ex} {m:Nat} (h:eH l+5 * (l.length - 1)<=m) (h0:0 < l.length):bE (aa5 l)<=m:=by
 by_cases h1:l.length=1
 .obtain⟨x,rfl⟩:=List.length_eq_one_iff.1 h1;simp only[eH,List.length_singleton]at h;show bE x<=m;omega
 .rw[acu h1,bE];omega
theorem Kp {t:List UInt8} {one:Nat->Rs Ex} (hg:aai t one) (h:qC bE t one):qC bE t (iP t one):=fun i x j hi he=>by
 obtain⟨l,h1,rfl⟩:=ji he;have:=CF hg h _ _ _ _ _ hi h1;simp only[eH,List.length_nil]at this;exact Lu (by omega) (by omega)
theorem HK {t:List UInt8} {one:Nat->Rs Ex} (hg:aai t one) (h:qC bE t one):qC bE t (ij t one):=fun i x j hi he=>by
 obtain⟨l,h1,rfl⟩:=ji he;have:=CF (qG hg) (Kp hg h) _ _ _ _ _ hi h1;simp only[eH,List.length_nil]at this;exact Lv (by omega) (by omega)
theorem C4 (t:List UInt8) (q i j:Nat) (s:List UInt8) (hi:i<=t.length) (h:fE t q i = .ok s j):s.length<=j - i/\1<=j - i:=by
 have hg:=acN t q i s j hi h;have h1:=uz t i;unfold fE at h;split at h
 .cases h
 .split at h
  .cases h
  .simp only[Rs.ok.injEq]at h;obtain⟨rfl,rfl⟩:=h;have h4:=C0 t (aM t i);unfold jm;rw[List.length_take];omega
theorem HE (t:List UInt8):∀ d,qC bE t (bK t d)
 | 0=>fun i x j _ h=>by simp[bK]at h
 | d+1=>fun i x j hi h=>by
  have ih:=HE t d;have hg:=iM t d;have h1:=uz t i;have h2:=il hi;have hb:∀ {c:UInt8},t[aM t i]? = some c->aM t i < t.length:=fun hc=>(List.getElem?_eq_some_iff.1 hc).1;rw[bK]at h;split at h
  .rename_i hc;have:=hb hc
   cases he:bK t d (aM t i+1) with
   | err c p q=>rw[he]at h;cases h
   | ok y k=>
    rw[he]at h;simp only[Rs.ok.injEq]at h;obtain⟨rfl,rfl⟩:=h;have h3:=ih _ y k (by omega) he;have h4:=hg _ y k (by omega) he;simp only[bE];omega
  split at h
  .rename_i _ hc;have:=hb hc
   cases he:ij t (bK t d) (aM t i+1) with
   | err c p q=>rw[he]at h;cases h
   | ok y k=>
    rw[he]at h;dsimp only at h;have h3:=HK hg ih _ y k (by omega) he;have h4:=qi hg _ y k (by omega) he;obtain⟨t1,t2,t3⟩:=my (c:=41) h4.2;split at h
    .simp only[Rs.ok.injEq]at h;obtain⟨rfl,rfl⟩:=h;omega
    .cases h
  split at h
  .rename_i _ _ hc;have:=hb hc;simp only[Rs.ok.injEq]at h;obtain⟨rfl,rfl⟩:=h;simp only[bE];omega
  split at h
  .rename_i _ _ _ hc;have:=hb hc;simp only[Rs.ok.injEq]at h;obtain⟨rfl,rfl⟩:=h;simp only[bE];omega
  split at h
  .rename_i _ _ _ _ hc;have:=hb hc;obtain⟨s,h3,rfl⟩:=ji h;have h4:=C4 t 1 _ j s (by omega) h3;simp only[bE];omega
  split at h
  .rename_i _ _ _ _ _ hc;have:=hb hc;obtain⟨s,h3,rfl⟩:=ji h;have h4:=C4 t 2 _ j s (by omega) h3;simp only[bE];omega
  .obtain⟨s,h3,rfl⟩:=ji h;have h4:=C4 t 3 _ j s (by omega) h3;simp only[bE];omega
theorem rK {t:List UInt8} {x:Ex} (h:(dO t).1=some x):bE x<=10000:=by
 unfold dO at h;split at h
 .cases h
 .rename_i hl;split at h
  .cases h
  .rename_i y i he;split at h
   .cases h
   .obtain rfl:=Option.some.inj h;have h1:=HK (iM t 20) (HE t 20) 0 y i (Nat.zero_le _) he;have h2:=qi (iM t 20) 0 y i (Nat.zero_le _) he;omega
open Go.Av
theorem Js {t:List UInt8} {c:UInt8} {i j:Nat} (hj:aM t i=j):dV t c i=if t[j]? = some c then (true,j+1) else (false,j):=by
 unfold dV;rw[hj]
theorem C5 {t:List UInt8} {q i:Nat} {c:Int} {p q':Nat} (h:fE t q i = .err c p q'):q'=q:=by
 unfold fE at h;split at h
 .simp only[Rs.err.injEq]at h;omega
 .split at h
  .simp only[Rs.err.injEq]at h;omega
  .cases h
theorem Sn (G:Yt) (t:List UInt8) (ht:t.length<=2000):∀ (d:Nat),d<=20->∀ i,i<=t.length->MC prog G [500] 197 [.ref 500 0 0,.d (ab d)] (ah (aV t i)) (.d (cm (bK t d i))) (ah (aV t (YV (bK t d i)))):=by
 intro d
 induction d with
 | zero=>
  intro _ i hi;have Zn:=sD G t i (by omega) hi 4;refine MC.aI (au _) func197 rfl rfl (rs:=[.tmp 4,.tmp 5]) results197 (by simp[ntmps197]) rfl fun X=>?_;simp only[ntmps197];have fw:=(Aq @ab.eq_1 (Aq @aV.eq_1 (Aq @bn.eq_1 @dS.eq_1)));refine Ys fw [0,1] [500] ?_;refine ae fun K1 Yw=>?_;refine Ys fw [0,1,17] [500] ?_;refine Yx rfl ?_;refine bh (Aq fw (Aq @aO.eq_1 (Aq @aO.eq_2 @aO.eq_3))) Zn [4,5] [500] ?_;exact aY (Aq fw (Aq @aV.eq_1 (Aq @bn.eq_1 (Aq @cm.eq_1 (Aq @cm.eq_2 (Aq @bK.eq_1 (Aq @bK.eq_2 (Aq @YV.eq_1 (Aq @YV.eq_2 (Aq @aO.eq_1 (Aq @aO.eq_2 (Aq @aO.eq_3 @dQ.eq_1))))))))))))
 | succ d ih=>
  intro hd i hi;have ih:=ih (by omega);have hor:=HL G t ht d ih;have aac:=il hi;have s7:=qn hi
  have eJ:¬ (d:Int)+1=0:=by omega
  have p4:t.length < 2^60:=by omega
  have Bh:∀ c,MC prog G [500] 196 [.ref 500 0 0,.d (.v (.int .u8 c.toNat))] (ah (aV t i)) (.d (.v (.bool (dV t c i).1))) (ah (aV t (dV t c i).2)):=fun c=>xW G t i p4 hi c;rw[bK];generalize hj:aM t i=j at aac s7 ⊢;have aaG:∀ c,MC prog G [500] 196 [.ref 500 0 0,.d (.v (.int .u8 c.toNat))] (ah (aV t j)) (.d (.v (.bool (dV t c j).1))) (ah (aV t (dV t c j).2)):=fun c=>xW G t j p4 aac c;have yz:=fun c=>Js (t:=t) (c:=c) hj;have yA:=fun c=>Js (t:=t) (c:=c) s7;simp only[yz]at Bh;simp only[yA]at aaG;have Yv:∀ {c:UInt8},t[j]? = some c->j+1<=t.length:=fun h=>(List.getElem?_eq_some_iff.1 h).1;have je:=Bh 33;have ko:=aaG 40;have k48:=aaG 48;have ny:=aaG 49;have oM:=aaG 94;have rv:=aaG 126;clear Bh yz yA hj;by_cases yK:t[j]? = some 33
  .rw[if_pos yK]at je ⊢;have hc:=ih (j+1) (Yv yK)
   cases hr:bK t d (j+1) with
   | err c p q=>
    rw[hr]at hc;refine MC.aI (au _) func197 rfl rfl (rs:=[.tmp 4,.tmp 5]) results197 (by simp[ntmps197]) rfl fun X=>?_;simp only[ntmps197];have fw:=(Aq @ab.eq_1 (Aq @aV.eq_1 (Aq @bn.eq_1 @dS.eq_1)));refine Ys fw [0,1] [500] ?_;refine ae fun K1 Yw=>?_;have qf:=(Aq fw @eJ);refine aC [0,1,17] [500] ?_;refine ag rfl ?_;refine ar (Yw _ ?_);refine ae fun K2 aa=>?_;refine YF ?_;refine bh fw je [0,1,20] [500] ?_;refine Yx rfl ?_;refine bh (Aq fw (Aq @cm.eq_1 (Aq @cm.eq_2 (Aq @aO.eq_1 (Aq @aO.eq_2 @aO.eq_3))))) hc [6,7] [500] ?_;refine ae fun K3 bf=>?_;refine Ys fw [6,7,31] [500] ?_;refine Yx rfl ?_;refine Ys fw [4,5] [500] ?_;exact aY (Aq fw (Aq @aV.eq_1 (Aq @bn.eq_1 (Aq @cm.eq_1 (Aq @cm.eq_2 (Aq @YV.eq_1 (Aq @YV.eq_2 (Aq @aO.eq_1 (Aq @aO.eq_2 (Aq @aO.eq_3 @dQ.eq_1))))))))))
   | ok x k=>
    rw[hr]at hc;obtain⟨tx,cx,hx⟩:=dY x;refine MC.aI (au _) func197 rfl rfl (rs:=[.tmp 4,.tmp 5]) results197 (by simp[ntmps197]) rfl fun X=>?_;simp only[ntmps197];have fw:=(Aq @ab.eq_1 (Aq @aV.eq_1 (Aq @bn.eq_1 @dS.eq_1)));refine Ys fw [0,1] [500] ?_;refine ae fun K1 Yw=>?_;have qf:=(Aq fw @eJ);refine aC [0,1,17] [500] ?_;refine ag rfl ?_;refine ar (Yw _ ?_);refine ae fun K2 aa=>?_;refine YF ?_;refine bh fw je [0,1,20] [500] ?_;refine Yx rfl ?_;have qf:=(Aq fw (Aq @cm.eq_1 (Aq @cm.eq_2 @hx)));refine aaS hc [6,7] [500] ?_;refine ae fun K3 bf=>?_;refine Ys fw [6,7,31] [500] ?_;refine ag rfl ?_;refine ar (bf _ ?_);refine Ys fw [4,5] [500] ?_;refine b6 ?_;simp[D.le,D.le.go,aQ,ab,aV,bn,dS,aV,bn,cm,YV,dE,hx,D.le_refl]
  rw[if_neg yK]at je ⊢;by_cases c40:t[j]? = some 40
  .rw[if_pos c40]at ko ⊢;have hc:=hor (j+1) (Yv c40)
   cases hr:ij t (bK t d) (j+1) with
   | err c p q=>
    rw[hr]at hc;refine MC.aI (au _) func197 rfl rfl (rs:=[.tmp 4,.tmp 5]) results197 (by simp[ntmps197]) rfl fun X=>?_;simp only[ntmps197];have fw:=(Aq @ab.eq_1 (Aq @aV.eq_1 (Aq @bn.eq_1 @dS.eq_1)));refine Ys fw [0,1] [500] ?_;refine ae fun K1 Yw=>?_;have qf:=(Aq fw @eJ);refine aC [0,1,17] [500] ?_;refine ag rfl ?_;refine ar (Yw _ ?_);refine ae fun K2 aa=>?_;refine YF ?_;refine bh fw je [0,1,20] [500] ?_;refine ag rfl ?_;refine bh fw ko [0,1,36] [500] ?_;refine Yx rfl ?_;refine bh (Aq fw (Aq @cm.eq_1 (Aq @cm.eq_2 (Aq @aO.eq_1 (Aq @aO.eq_2 @aO.eq_3))))) hc [0,8,9] [500] ?_;refine ae fun K4 bZ=>?_;refine Ys fw [0,8,9,47] [500] ?_;refine Yx rfl ?_;refine Ys fw [4,5] [500] ?_;exact aY (Aq fw (Aq @aV.eq_1 (Aq @bn.eq_1 (Aq @cm.eq_1 (Aq @cm.eq_2 (Aq @YV.eq_1 (Aq @YV.eq_2 (Aq @aO.eq_1 (Aq @aO.eq_2 (Aq @aO.eq_3 @dQ.eq_1))))))))))
   | ok x k=>
    rw[hr]at hc;obtain⟨tx,cx,hx⟩:=dY x;have hkt:=(qi (iM t d) (j+1) x k (Yv c40) hr).2;have w7:=xW G t k p4 hkt 41;have Bf:=my (c:=41) hkt
    have zB:(dV t 41 k).1=false->aM t (dV t 41 k).2=(dV t 41 k).2:=fun h=>by
     unfold dV at h ⊢;split at h
     .cases h
     .rw[if_neg ‹_›];exact qn hkt
    cases Zj:dV t 41 k with
    | mk b k2=>
    rw[Zj]at w7 Bf zB;dsimp only at w7 Bf zB ⊢
    cases b with
    | true=>
     refine MC.aI (au _) func197 rfl rfl (rs:=[.tmp 4,.tmp 5]) results197 (by simp[ntmps197]) rfl fun X=>?_;simp only[ntmps197];have fw:=(Aq @ab.eq_1 (Aq @aV.eq_1 (Aq @bn.eq_1 @dS.eq_1)));refine Ys fw [0,1] [500] ?_;refine ae fun K1 Yw=>?_;have qf:=(Aq fw @eJ);refine aC [0,1,17] [500] ?_;refine ag rfl ?_;refine ar (Yw _ ?_);refine ae fun K2 aa=>?_;refine YF ?_;refine bh fw je [0,1,20] [500] ?_;refine ag rfl ?_;refine bh fw ko [0,1,36] [500] ?_;refine Yx rfl ?_;have qf:=(Aq fw (Aq @cm.eq_1 (Aq @cm.eq_2 (Aq @YV.eq_1 (Aq @YV.eq_2 @hx)))));refine aaS hc [0,8,9] [500] ?_;refine ae fun K4 bZ=>?_;refine Ys fw [0,8,9,47] [500] ?_;refine ag rfl ?_;refine ar (bZ _ ?_);refine ae fun K5 b4=>?_;refine bh fw w7 [0,8,51] [500] ?_;refine ag rfl ?_;refine ar (b4 _ ?_);refine Ys fw [4,5] [500] ?_;exact aY (Aq fw (Aq @aV.eq_1 (Aq @bn.eq_1 (Aq @cm.eq_1 (Aq @cm.eq_2 (Aq @YV.eq_1 (Aq @YV.eq_2 (Aq @hx @Zj))))))))
    | false=>
     have Zn:=sD G t k2 p4 Bf.2.1 3;rw[zB rfl]at Zn;refine MC.aI (au _) func197 rfl rfl (rs:=[.tmp 4,.tmp 5]) results197 (by simp[ntmps197]) rfl fun X=>?_;simp only[ntmps197];have fw:=(Aq @ab.eq_1 (Aq @aV.eq_1 (Aq @bn.eq_1 @dS.eq_1)));refine Ys fw [0,1] [500] ?_;refine ae fun K1 Yw=>?_;have qf:=(Aq fw @eJ);refine aC [0,1,17] [500] ?_;refine ag rfl ?_;refine ar (Yw _ ?_);refine ae fun K2 aa=>?_;refine YF ?_;refine bh fw je [0,1,20] [500] ?_;refine ag rfl ?_;refine bh fw ko [0,1,36] [500] ?_;refine Yx rfl ?_;have qf:=(Aq fw (Aq @cm.eq_1 (Aq @cm.eq_2 (Aq @YV.eq_1 (Aq @YV.eq_2 @hx)))));refine aaS hc [0,8,9] [500] ?_;refine ae fun K4 bZ=>?_;refine Ys fw [0,8,9,47] [500] ?_;refine ag rfl ?_;refine ar (bZ _ ?_);refine ae fun K5 b4=>?_;refine bh fw w7 [0,8,51] [500] ?_;refine Yx rfl ?_;refine bh (Aq fw (Aq @aO.eq_1 (Aq @aO.eq_2 @aO.eq_3))) Zn [4,5] [500] ?_;exact aY (Aq fw (Aq @aV.eq_1 (Aq @bn.eq_1 (Aq @cm.eq_1 (Aq @cm.eq_2 (Aq @YV.eq_1 (Aq @YV.eq_2 (Aq @aO.eq_1 (Aq @aO.eq_2 (Aq @aO.eq_3 (Aq @dQ.eq_1 @Zj)))))))))))
  rw[if_neg c40]at ko ⊢;by_cases DP:t[j]? = some 48
  .rw[if_pos DP]at k48 ⊢;refine MC.aI (au _) func197 rfl rfl (rs:=[.tmp 4,.tmp 5]) results197 (by simp[ntmps197]) rfl fun X=>?_;simp only[ntmps197];have fw:=(Aq @ab.eq_1 (Aq @aV.eq_1 (Aq @bn.eq_1 @dS.eq_1)));refine Ys fw [0,1] [500] ?_;refine ae fun K1 Yw=>?_;have qf:=(Aq fw @eJ);refine aC [0,1,17] [500] ?_;refine ag rfl ?_;refine ar (Yw _ ?_);refine ae fun K2 aa=>?_;refine YF ?_;refine bh fw je [0,1,20] [500] ?_;refine ag rfl ?_;refine bh fw ko [0,1,36] [500] ?_;refine ag rfl ?_;refine bh fw k48 [0,55] [500] ?_;refine Yx rfl ?_;refine Ys fw [4,5] [500] ?_;refine b6 ?_;simp[D.le,D.le.go,aQ,ab,aV,bn,dS,aV,bn,cm,YV,dE]
  rw[if_neg DP]at k48 ⊢;by_cases c49:t[j]? = some 49
  .rw[if_pos c49]at ny ⊢;refine MC.aI (au _) func197 rfl rfl (rs:=[.tmp 4,.tmp 5]) results197 (by simp[ntmps197]) rfl fun X=>?_;simp only[ntmps197];have fw:=(Aq @ab.eq_1 (Aq @aV.eq_1 (Aq @bn.eq_1 @dS.eq_1)));refine Ys fw [0,1] [500] ?_;refine ae fun K1 Yw=>?_;have qf:=(Aq fw @eJ);refine aC [0,1,17] [500] ?_;refine ag rfl ?_;refine ar (Yw _ ?_);refine ae fun K2 aa=>?_;refine YF ?_;refine bh fw je [0,1,20] [500] ?_;refine ag rfl ?_;refine bh fw ko [0,1,36] [500] ?_;refine ag rfl ?_;refine bh fw k48 [0,55] [500] ?_;refine ag rfl ?_;refine bh fw ny [0,59] [500] ?_;refine Yx rfl ?_;refine Ys fw [4,5] [500] ?_;refine b6 ?_;simp[D.le,D.le.go,aQ,ab,aV,bn,dS,aV,bn,cm,YV,dE]
  rw[if_neg c49]at ny ⊢;by_cases yM:t[j]? = some 94
  .rw[if_pos yM]at oM ⊢;have hc:=C6 G t 1 (j+1) p4 (Yv yM);have hq:∀ {c:Int} {p q':Nat},fE t 1 (j+1) = .err c p q'->q'=1:=fun h=>C5 h
   cases hr:fE t 1 (j+1) with
   | err c p q'=>
    obtain rfl:=hq hr;rw[hr]at hc;refine MC.aI (au _) func197 rfl rfl (rs:=[.tmp 4,.tmp 5]) results197 (by simp[ntmps197]) rfl fun X=>?_;simp only[ntmps197];have fw:=(Aq @ab.eq_1 (Aq @aV.eq_1 (Aq @bn.eq_1 @dS.eq_1)));refine Ys fw [0,1] [500] ?_;refine ae fun K1 Yw=>?_;have qf:=(Aq fw @eJ);refine aC [0,1,17] [500] ?_;refine ag rfl ?_;refine ar (Yw _ ?_);refine ae fun K2 aa=>?_;refine YF ?_;refine bh fw je [0,1,20] [500] ?_;refine ag rfl ?_;refine bh fw ko [0,1,36] [500] ?_;refine ag rfl ?_;refine bh fw k48 [0,55] [500] ?_;refine ag rfl ?_;refine bh fw ny [0,59] [500] ?_;refine ag rfl ?_;refine bh fw oM [0,63] [500] ?_;refine Yx rfl ?_;refine bh (Aq fw (Aq @ir.eq_1 (Aq @ir.eq_2 (Aq @aO.eq_1 (Aq @aO.eq_2 @aO.eq_3))))) hc [10,11] [500] ?_;refine Ys fw [4,5] [500] ?_;refine b6 ?_;simp[D.le,D.le.go,aQ,ab,aV,bn,dS,aV,bn,cm,YV,aO,dQ,Rs.map,dA]
   | ok s p=>
    rw[hr]at hc;refine MC.aI (au _) func197 rfl rfl (rs:=[.tmp 4,.tmp 5]) results197 (by simp[ntmps197]) rfl fun X=>?_;simp only[ntmps197];have fw:=(Aq @ab.eq_1 (Aq @aV.eq_1 (Aq @bn.eq_1 @dS.eq_1)));refine Ys fw [0,1] [500] ?_;refine ae fun K1 Yw=>?_;have qf:=(Aq fw @eJ);refine aC [0,1,17] [500] ?_;refine ag rfl ?_;refine ar (Yw _ ?_);refine ae fun K2 aa=>?_;refine YF ?_;refine bh fw je [0,1,20] [500] ?_;refine ag rfl ?_;refine bh fw ko [0,1,36] [500] ?_;refine ag rfl ?_;refine bh fw k48 [0,55] [500] ?_;refine ag rfl ?_;refine bh fw ny [0,59] [500] ?_;refine ag rfl ?_;refine bh fw oM [0,63] [500] ?_;refine Yx rfl ?_;refine bh (Aq fw (Aq @ir.eq_1 @ir.eq_2)) hc [10,11] [500] ?_;refine Ys fw [4,5] [500] ?_;refine b6 ?_;simp[D.le,D.le.go,aQ,ab,aV,bn,dS,aV,bn,cm,YV,Rs.map,dE]
  rw[if_neg yM]at oM ⊢;by_cases yJ:t[j]? = some 126
  .rw[if_pos yJ]at rv ⊢;have hc:=C6 G t 2 (j+1) p4 (Yv yJ);have hq:∀ {c:Int} {p q':Nat},fE t 2 (j+1) = .err c p q'->q'=2:=fun h=>C5 h
   cases hr:fE t 2 (j+1) with
   | err c p q'=>
    obtain rfl:=hq hr;rw[hr]at hc;refine MC.aI (au _) func197 rfl rfl (rs:=[.tmp 4,.tmp 5]) results197 (by simp[ntmps197]) rfl fun X=>?_;simp only[ntmps197];have fw:=(Aq @ab.eq_1 (Aq @aV.eq_1 (Aq @bn.eq_1 @dS.eq_1)));refine Ys fw [0,1] [500] ?_;refine ae fun K1 Yw=>?_;have qf:=(Aq fw @eJ);refine aC [0,1,17] [500] ?_;refine ag rfl ?_;refine ar (Yw _ ?_);refine ae fun K2 aa=>?_;refine YF ?_;refine bh fw je [0,1,20] [500] ?_;refine ag rfl ?_;refine bh fw ko [0,1,36] [500] ?_;refine ag rfl ?_;refine bh fw k48 [0,55] [500] ?_;refine ag rfl ?_;refine bh fw ny [0,59] [500] ?_;refine ag rfl ?_;refine bh fw oM [0,63] [500] ?_;refine ag rfl ?_;refine bh fw rv [0,74] [500] ?_;refine Yx rfl ?_;refine bh (Aq fw (Aq @ir.eq_1 (Aq @ir.eq_2 (Aq @aO.eq_1 (Aq @aO.eq_2 @aO.eq_3))))) hc [12,13] [500] ?_;refine Ys fw [4,5] [500] ?_;refine b6 ?_;simp[D.le,D.le.go,aQ,ab,aV,bn,dS,aV,bn,cm,YV,aO,dQ,Rs.map,dA]
   | ok s p=>
    rw[hr]at hc;refine MC.aI (au _) func197 rfl rfl (rs:=[.tmp 4,.tmp 5]) results197 (by simp[ntmps197]) rfl fun X=>?_;simp only[ntmps197];have fw:=(Aq @ab.eq_1 (Aq @aV.eq_1 (Aq @bn.eq_1 @dS.eq_1)));refine Ys fw [0,1] [500] ?_;refine ae fun K1 Yw=>?_;have qf:=(Aq fw @eJ);refine aC [0,1,17] [500] ?_;refine ag rfl ?_;refine ar (Yw _ ?_);refine ae fun K2 aa=>?_;refine YF ?_;refine bh fw je [0,1,20] [500] ?_;refine ag rfl ?_;refine bh fw ko [0,1,36] [500] ?_;refine ag rfl ?_;refine bh fw k48 [0,55] [500] ?_;refine ag rfl ?_;refine bh fw ny [0,59] [500] ?_;refine ag rfl ?_;refine bh fw oM [0,63] [500] ?_;refine ag rfl ?_;refine bh fw rv [0,74] [500] ?_;refine Yx rfl ?_;refine bh (Aq fw (Aq @ir.eq_1 @ir.eq_2)) hc [12,13] [500] ?_;refine Ys fw [4,5] [500] ?_;refine b6 ?_;simp[D.le,D.le.go,aQ,ab,aV,bn,dS,aV,bn,cm,YV,Rs.map,dE]
  rw[if_neg yJ]at rv ⊢;have hc:=C6 G t 3 j p4 aac;have hq:∀ {c:Int} {p q':Nat},fE t 3 j = .err c p q'->q'=3:=fun h=>C5 h
  cases hr:fE t 3 j with
  | err c p q'=>
   obtain rfl:=hq hr;rw[hr]at hc;refine MC.aI (au _) func197 rfl rfl (rs:=[.tmp 4,.tmp 5]) results197 (by simp[ntmps197]) rfl fun X=>?_;simp only[ntmps197];have fw:=(Aq @ab.eq_1 (Aq @aV.eq_1 (Aq @bn.eq_1 @dS.eq_1)));refine Ys fw [0,1] [500] ?_;refine ae fun K1 Yw=>?_;have qf:=(Aq fw @eJ);refine aC [0,1,17] [500] ?_;refine ag rfl ?_;refine ar (Yw _ ?_);refine ae fun K2 aa=>?_;refine YF ?_;refine bh fw je [0,1,20] [500] ?_;refine ag rfl ?_;refine bh fw ko [0,1,36] [500] ?_;refine ag rfl ?_;refine bh fw k48 [0,55] [500] ?_;refine ag rfl ?_;refine bh fw ny [0,59] [500] ?_;refine ag rfl ?_;refine bh fw oM [0,63] [500] ?_;refine ag rfl ?_;refine bh fw rv [0,74] [500] ?_;refine ag rfl ?_;refine ar (aa _ ?_);refine bh (Aq fw (Aq @ir.eq_1 (Aq @ir.eq_2 (Aq @aO.eq_1 (Aq @aO.eq_2 @aO.eq_3))))) hc [14,15] [500] ?_;refine Ys fw [4,5] [500] ?_;refine b6 ?_;simp[D.le,D.le.go,aQ,ab,aV,bn,dS,aV,bn,cm,YV,aO,dQ,Rs.map,dA]
  | ok s p=>
   rw[hr]at hc;refine MC.aI (au _) func197 rfl rfl (rs:=[.tmp 4,.tmp 5]) results197 (by simp[ntmps197]) rfl fun X=>?_;simp only[ntmps197];have fw:=(Aq @ab.eq_1 (Aq @aV.eq_1 (Aq @bn.eq_1 @dS.eq_1)));refine Ys fw [0,1] [500] ?_;refine ae fun K1 Yw=>?_;have qf:=(Aq fw @eJ);refine aC [0,1,17] [500] ?_;refine ag rfl ?_;refine ar (Yw _ ?_);refine ae fun K2 aa=>?_;refine YF ?_;refine bh fw je [0,1,20] [500] ?_;refine ag rfl ?_;refine bh fw ko [0,1,36] [500] ?_;refine ag rfl ?_;refine bh fw k48 [0,55] [500] ?_;refine ag rfl ?_;refine bh fw ny [0,59] [500] ?_;refine ag rfl ?_;refine bh fw oM [0,63] [500] ?_;refine ag rfl ?_;refine bh fw rv [0,74] [500] ?_;refine ag rfl ?_;refine ar (aa _ ?_);refine bh (Aq fw (Aq @ir.eq_1 @ir.eq_2)) hc [14,15] [500] ?_;refine Ys fw [4,5] [500] ?_;refine b6 ?_;simp[D.le,D.le.go,aQ,ab,aV,bn,dS,aV,bn,cm,YV,Rs.map,dE]
theorem xI {r r':Nat} (h:r≠r') (row:Row):abB r r' (ah [(r,row)])=ah [(r',row.tr (gY r r') (gX r r'))]:=by
 funext q;unfold abB;by_cases h1:q=r'
 .subst h1;simp[ah,List.lookup]
 .rw[if_neg h1];by_cases h2:q=r
  .subst h2;simp[ah,List.lookup,h1,beq_eq_false_iff_ne.2 h1]
  .simp[ah,List.lookup,h2,beq_eq_false_iff_ne.2 h1,beq_eq_false_iff_ne.2 h2]
def iR:Option Ex->D
 | some x=>dE x
 | none=>.v .nilIface
theorem xA (G:Yt) (t:List UInt8) (ht:t.length < 2^60):ao prog G 47 [dS t] (.aR [iR (dO t).1,aO (dO t).2]):=by
 unfold dO;by_cases hl:2000 < t.length
 .have fi:(2000:Int) < (t.length:Int):=by omega
  rw[if_pos hl];refine ao.aI (au _) func47 rfl rfl (rs:=[.tmp 2,.tmp 3]) results47 (by simp[ntmps47]) fun X=>?_;simp only[ntmps47,List.map];have fw:=(Aq @ab.eq_1 (Aq @aV.eq_1 (Aq @bn.eq_1 @dS.eq_1)));refine Ys fw [0] [] ?_;refine ae fun K1 Yw=>?_;have qf:=(Aq fw (Aq @bF (Aq @hl @fi)));refine aC [0,9] [] ?_;refine Yx rfl ?_;refine Ys fw [2,3] [] ?_;exact aY (Aq fw (Aq @iR.eq_1 (Aq @iR.eq_2 (Aq @aO.eq_1 (Aq @aO.eq_2 @aO.eq_3)))))
 have fi:¬ (2000:Int) < (t.length:Int):=by omega
 rw[if_neg hl];have hor:=HL G t (by omega) 20 (Sn G t (by omega) 20 (by decide)) 0 (Nat.zero_le _)
 cases hr:ij t (bK t 20) 0 with
 | err c p q=>
  rw[hr]at hor;refine ao.aI (au _) func47 rfl rfl (rs:=[.tmp 2,.tmp 3]) results47 (by simp[ntmps47]) fun X=>?_;simp only[ntmps47,List.map];have fw:=(Aq @ab.eq_1 (Aq @aV.eq_1 (Aq @bn.eq_1 @dS.eq_1)));refine Ys fw [0] [] ?_;refine ae fun K1 Yw=>?_;have qf:=(Aq fw (Aq @bF (Aq @hl @fi)));refine aC [0,9] [] ?_;refine ag rfl ?_;refine ar (Yw _ ?_);refine Ys fw [0,4] [13] ?_;refine AW.imp (aD.Za (r:=13) (r':=500) trivial (by simp)) ?_;refine AW.st (by simp[gY,gX,Go.Av.Za,xI];rfl) ?_;refine bh (Aq fw (Aq @cm.eq_1 (Aq @cm.eq_2 (Aq @aO.eq_1 (Aq @aO.eq_2 @aO.eq_3))))) hor [0,4,5,6] [500] ?_;refine ae fun K2 aa=>?_;refine Ys fw [0,4,5,6,20] [500] ?_;refine Yx rfl ?_;refine Ys fw [2,3] [] ?_;exact aY (Aq fw (Aq @iR.eq_1 (Aq @iR.eq_2 (Aq @aO.eq_1 (Aq @aO.eq_2 @aO.eq_3)))))
 | ok x k=>
  rw[hr]at hor;have hk:=(qi (iM t 20) 0 x k (Nat.zero_le _) hr).2;have Zy:=vd G t k (by omega) hk;have aac:=il hk;have Zn:=sD G t (aM t k) (by omega) aac 3;rw[qn hk]at Zn;obtain⟨tx,cx,hx⟩:=dY x;dsimp only;generalize aM t k=j at Zy aac Zn ⊢;by_cases hj:j < t.length
  .have ef:(j:Int) < (t.length:Int):=by omega
   rw[if_pos hj];refine ao.aI (au _) func47 rfl rfl (rs:=[.tmp 2,.tmp 3]) results47 (by simp[ntmps47]) fun X=>?_;simp only[ntmps47,List.map];have fw:=(Aq @ab.eq_1 (Aq @aV.eq_1 (Aq @bn.eq_1 @dS.eq_1)));refine Ys fw [0] [] ?_;refine ae fun K1 Yw=>?_;have qf:=(Aq fw (Aq @bF (Aq @hl @fi)));refine aC [0,9] [] ?_;refine ag rfl ?_;refine ar (Yw _ ?_);refine Ys fw [0,4] [13] ?_;refine AW.imp (aD.Za (r:=13) (r':=500) trivial (by simp)) ?_;refine AW.st (by simp[gY,gX,Go.Av.Za,xI];rfl) ?_;have qf:=(Aq fw (Aq @cm.eq_1 (Aq @cm.eq_2 (Aq @YV.eq_1 (Aq @YV.eq_2 @hx)))));refine aaS hor [0,4,5,6] [500] ?_;refine ae fun K2 aa=>?_;refine Ys fw [0,4,5,6,20] [500] ?_;refine ag rfl ?_;refine ar (aa _ ?_);refine ae fun K3 bf=>?_;refine bh fw Zy [0,4,5] [500] ?_;have qf:=(Aq fw (Aq @bF (Aq @hj @ef)));refine aC [4,5,30] [500] ?_;refine Yx rfl ?_;refine bh (Aq fw (Aq @aO.eq_1 (Aq @aO.eq_2 @aO.eq_3))) Zn [2,3] [] ?_;exact aY (Aq fw (Aq @iR.eq_1 (Aq @iR.eq_2 (Aq @aO.eq_1 (Aq @aO.eq_2 @aO.eq_3)))))
  .have ef:¬ (j:Int) < (t.length:Int):=by omega
   rw[if_neg hj];refine ao.aI (au _) func47 rfl rfl (rs:=[.tmp 2,.tmp 3]) results47 (by simp[ntmps47]) fun X=>?_;simp only[ntmps47,List.map];have fw:=(Aq @ab.eq_1 (Aq @aV.eq_1 (Aq @bn.eq_1 @dS.eq_1)));refine Ys fw [0] [] ?_;refine ae fun K1 Yw=>?_;have qf:=(Aq fw (Aq @bF (Aq @hl @fi)));refine aC [0,9] [] ?_;refine ag rfl ?_;refine ar (Yw _ ?_);refine Ys fw [0,4] [13] ?_;refine AW.imp (aD.Za (r:=13) (r':=500) trivial (by simp)) ?_;refine AW.st (by simp[gY,gX,Go.Av.Za,xI];rfl) ?_;have qf:=(Aq fw (Aq @cm.eq_1 (Aq @cm.eq_2 (Aq @YV.eq_1 (Aq @YV.eq_2 @hx)))));refine aaS hor [0,4,5,6] [500] ?_;refine ae fun K2 aa=>?_;refine Ys fw [0,4,5,6,20] [500] ?_;refine ag rfl ?_;refine ar (aa _ ?_);refine ae fun K3 bf=>?_;refine bh fw Zy [0,4,5] [500] ?_;have qf:=(Aq fw (Aq @bF (Aq @hj @ef)));refine aC [4,5,30] [500] ?_;refine ag rfl ?_;refine ar (bf _ ?_);refine Ys fw [2,3] [] ?_;exact aY (Aq fw (Aq @iR.eq_1 (Aq @iR.eq_2 (Aq @aO.eq_1 (Aq @aO.eq_2 (Aq @aO.eq_3 @hx))))))
theorem DG {l:List Ex} {i:Nat} (hi:i < l.length):eH (l.take i)+bE l[i]<=eH l:=by
 have h1:=sa (l.take i) [l[i]];rw[<- List.take_succ_eq_append_getElem hi]at h1;have h2:=sa (l.take (i+1)) (l.drop (i+1));rw[List.take_append_drop]at h2;simp only[eH]at h1;omega
theorem cells_one {y:D} (h:y.one=true):eW (.d y)=some [.d y]:=by
 cases y<;>first | (simp[eW,AV.one,D.one]at h ⊢;done) | (simp[D.one]at h;simp[eW,AV.one,D.one,h])
def Y1 (all:Bool):Ex->List UInt8
 | .bit s=>if all then s else []
 | .fS s=>s
 | .fJ s=>s
 | _=>[]
def gb (s:List UInt8):List (List UInt8):=if s=[] then [] else [s]
mutual
def b5 (all:Bool):Ex->List (List UInt8)
 | .not e=>b5 all e
 | .and l=>dZ all l
 | .or l=>dZ all l
 | e=>gb (Y1 all e)
def dZ (all:Bool):List Ex->List (List UInt8)
 | []=>[]
 | e :: l=>b5 all e ++ dZ all l
end
theorem Hy (all:Bool):∀ a b:List Ex,dZ all (a ++ b)=dZ all a ++ dZ all b
 | [],b=>rfl
 | e :: a,b=>by simp[dZ,Hy all a b]
theorem Hz (all:Bool) {l:List Ex} {i:Nat} (hi:i < l.length):dZ all (l.take (i+1))=dZ all (l.take i) ++ b5 all l[i]:=by
 rw[List.take_succ_eq_append_getElem hi,Hy];simp[dZ]
theorem B8 (all:Bool):∀ (n:Nat) (e:Ex),SizeOf.sizeOf e<=n->(b5 all e).length<=bE e
 | 0,e,hn=>by cases e<;>simp at hn
 | n+1,e,hn=>by
  have many:∀ l:List Ex,(∀ x∈l,SizeOf.sizeOf x<=n)->(dZ all l).length<=eH l:=by
   intro l
   induction l with
   | nil=>intro _;simp[dZ]
   | cons x l ih=>
    intro h;have a:=ih fun y hy=>h y (by simp[hy]);have b:=B8 all n x (h x (by simp));simp only[dZ,eH,List.length_append];omega
  have kQ:∀ s,(gb s).length<=1:=fun s=>by unfold gb;split<;>simp
  have hp:=u7 e
  cases e with
  | not x=>have:=B8 all n x (by simp at hn;omega);simp only[b5,bE];omega
  | and l=>
   have:=many l fun x hx=>by have:=List.sizeOf_lt_of_mem hx;simp only[Ex.and.sizeOf_spec]at hn;omega
   simp only[b5,bE];omega
  | or l=>
   have:=many l fun x hx=>by have:=List.sizeOf_lt_of_mem hx;simp only[Ex.or.sizeOf_spec]at hn;omega
   simp only[b5,bE];omega
  | dX b=>have:=kQ (Y1 all (.dX b));simp only[b5];omega
  | bit s=>have:=kQ (Y1 all (.bit s));simp only[b5];omega
  | fS s=>have:=kQ (Y1 all (.fS s));simp only[b5];omega
  | fJ s=>have:=kQ (Y1 all (.fJ s));simp only[b5];omega
theorem qd (all:Bool) (e:Ex):(b5 all e).length<=bE e:=B8 all _ e (Nat.le_refl _)
theorem B7 (all:Bool):∀ l:List Ex,(dZ all l).length<=eH l
 | []=>by simp[dZ]
 | e :: l=>by have:=qd all e;have:=B7 all l;simp only[dZ,eH,List.length_append];omega
def cA (l:List (List UInt8)):List (Nat×Row):=[(502,.box 174 [.own 503 0 l.length]),(503,.sl 9 1 (l.map fun s=>[dS s]))]
def kK (all:Bool):FuncId:=if all then 157 else 182
theorem RT (G:Yt) (e:Ex):ao prog G 157 [dE e] (dS (Y1 true e)):=by
 by_cases h1:∃ s,e = .bit s
 .obtain⟨s,rfl⟩:=h1;rw[dE];refine ao.aI (au _) func157 rfl rfl (rs:=[.tmp 2]) results157 (by simp[ntmps157]) fun X=>?_;simp only[ntmps157,List.map];have fw:=(Aq @ab.eq_1 (Aq @dS.eq_1 (Aq @Yz.eq_1 (Aq @Yz.eq_2 @bH.eq_1))));refine Ys fw [0] [] ?_;refine ae fun K1 Yw=>?_;refine Ys fw [6] [] ?_;refine YF ?_;refine Ys fw [6,8,9] [] ?_;refine Yx rfl ?_;refine Ys fw [3] [] ?_;refine Ys fw [2] [] ?_;exact aY (Aq fw (Aq @Y1.eq_1 (Aq @Y1.eq_2 (Aq @Y1.eq_3 (Aq @Y1.eq_4 @dS.eq_1)))))
 by_cases h2:∃ s,e = .fS s
 .obtain⟨s,rfl⟩:=h2;rw[dE];refine ao.aI (au _) func157 rfl rfl (rs:=[.tmp 2]) results157 (by simp[ntmps157]) fun X=>?_;simp only[ntmps157,List.map];have fw:=(Aq @ab.eq_1 (Aq @dS.eq_1 (Aq @Yz.eq_1 (Aq @Yz.eq_2 @bH.eq_1))));refine Ys fw [0] [] ?_;refine ae fun K1 Yw=>?_;refine Ys fw [6] [] ?_;refine YF ?_;refine Ys fw [6,8,9] [] ?_;refine ag rfl ?_;refine Ys fw [6,12,13] [] ?_;refine Yx rfl ?_;refine Ys fw [4] [] ?_;refine Ys fw [2] [] ?_;exact aY (Aq fw (Aq @Y1.eq_1 (Aq @Y1.eq_2 (Aq @Y1.eq_3 (Aq @Y1.eq_4 @dS.eq_1)))))
 by_cases h3:∃ s,e = .fJ s
 .obtain⟨s,rfl⟩:=h3;rw[dE];refine ao.aI (au _) func157 rfl rfl (rs:=[.tmp 2]) results157 (by simp[ntmps157]) fun X=>?_;simp only[ntmps157,List.map];have fw:=(Aq @ab.eq_1 (Aq @dS.eq_1 (Aq @Yz.eq_1 (Aq @Yz.eq_2 @bH.eq_1))));refine Ys fw [0] [] ?_;refine ae fun K1 Yw=>?_;refine Ys fw [6] [] ?_;refine YF ?_;refine Ys fw [6,8,9] [] ?_;refine ag rfl ?_;refine Ys fw [6,12,13] [] ?_;refine ag rfl ?_;refine Ys fw [16,17] [] ?_;refine Yx rfl ?_;refine Ys fw [5] [] ?_;refine Ys fw [2] [] ?_;exact aY (Aq fw (Aq @Y1.eq_1 (Aq @Y1.eq_2 (Aq @Y1.eq_3 (Aq @Y1.eq_4 @dS.eq_1)))))
 have hk:∃ t c,dE e = .bg t c/\¬ t=189/\¬ t=190/\¬ t=191/\Y1 true e=[]:=by
  cases e with
  | bit s=>exact absurd ⟨s,rfl⟩ h1
  | fS s=>exact absurd ⟨s,rfl⟩ h2
  | fJ s=>exact absurd ⟨s,rfl⟩ h3
  | dX b=>exact⟨_,_,by rw[dE],by decide,by decide,by decide,rfl⟩
  | not b=>exact⟨_,_,by rw[dE],by decide,by decide,by decide,rfl⟩
  | and b=>exact⟨_,_,by rw[dE],by decide,by decide,by decide,rfl⟩
  | or b=>exact⟨_,_,by rw[dE],by decide,by decide,by decide,rfl⟩
 obtain⟨t,c,hy,a1,a2,a3,a4⟩:=hk;rw[a4,hy];refine ao.aI (au _) func157 rfl rfl (rs:=[.tmp 2]) results157 (by simp[ntmps157]) fun X=>?_;simp only[ntmps157,List.map];have fw:=(Aq @ab.eq_1 (Aq @dS.eq_1 (Aq @Yz.eq_1 (Aq @Yz.eq_2 @bH.eq_1))));refine Ys fw [0] [] ?_;refine ae fun K1 Yw=>?_;refine Ys fw [6] [] ?_;refine YF ?_;have qf:=(Aq fw @a1);refine aC [6,8,9] [] ?_;refine ag rfl ?_;have qf:=(Aq fw @a2);refine aC [6,12,13] [] ?_;refine ag rfl ?_;have qf:=(Aq fw @a3);refine aC [16,17] [] ?_;refine ag rfl ?_;refine ar (Yw _ ?_);refine Ys fw [2] [] ?_;refine b6 ?_;simp[D.le,D.le.go,aQ,ab,dS,Yz,bH,dS,dA,D.le_refl]
theorem L2 (G:Yt) (e:Ex):ao prog G 182 [dE e] (dS (Y1 false e)):=by
 by_cases h2:∃ s,e = .fS s
 .obtain⟨s,rfl⟩:=h2;rw[dE];refine ao.aI (au _) func182 rfl rfl (rs:=[.tmp 2]) results182 (by simp[ntmps182]) fun X=>?_;simp only[ntmps182,List.map];have fw:=(Aq @ab.eq_1 (Aq @dS.eq_1 (Aq @Yz.eq_1 (Aq @Yz.eq_2 @bH.eq_1))));refine Ys fw [0] [] ?_;refine ae fun K1 Yw=>?_;refine Ys fw [5] [] ?_;refine YF ?_;refine Ys fw [5,7,8] [] ?_;refine Yx rfl ?_;refine Ys fw [3] [] ?_;refine Ys fw [2] [] ?_;exact aY (Aq fw (Aq @Y1.eq_1 (Aq @Y1.eq_2 (Aq @Y1.eq_3 (Aq @Y1.eq_4 @dS.eq_1)))))
 by_cases h3:∃ s,e = .fJ s
 .obtain⟨s,rfl⟩:=h3;rw[dE];refine ao.aI (au _) func182 rfl rfl (rs:=[.tmp 2]) results182 (by simp[ntmps182]) fun X=>?_;simp only[ntmps182,List.map];have fw:=(Aq @ab.eq_1 (Aq @dS.eq_1 (Aq @Yz.eq_1 (Aq @Yz.eq_2 @bH.eq_1))));refine Ys fw [0] [] ?_;refine ae fun K1 Yw=>?_;refine Ys fw [5] [] ?_;refine YF ?_;refine Ys fw [5,7,8] [] ?_;refine ag rfl ?_;refine Ys fw [11,12] [] ?_;refine Yx rfl ?_;refine Ys fw [4] [] ?_;refine Ys fw [2] [] ?_;exact aY (Aq fw (Aq @Y1.eq_1 (Aq @Y1.eq_2 (Aq @Y1.eq_3 (Aq @Y1.eq_4 @dS.eq_1)))))
 have hk:∃ t c,dE e = .bg t c/\¬ t=190/\¬ t=191/\Y1 false e=[]:=by
  cases e with
  | fS s=>exact absurd ⟨s,rfl⟩ h2
  | fJ s=>exact absurd ⟨s,rfl⟩ h3
  | dX b=>exact⟨_,_,by rw[dE],by decide,by decide,rfl⟩
  | bit b=>exact⟨_,_,by rw[dE],by decide,by decide,rfl⟩
  | not b=>exact⟨_,_,by rw[dE],by decide,by decide,rfl⟩
  | and b=>exact⟨_,_,by rw[dE],by decide,by decide,rfl⟩
  | or b=>exact⟨_,_,by rw[dE],by decide,by decide,rfl⟩
 obtain⟨t,c,hy,a2,a3,a4⟩:=hk;rw[a4,hy];refine ao.aI (au _) func182 rfl rfl (rs:=[.tmp 2]) results182 (by simp[ntmps182]) fun X=>?_;simp only[ntmps182,List.map];have fw:=(Aq @ab.eq_1 (Aq @dS.eq_1 (Aq @Yz.eq_1 (Aq @Yz.eq_2 @bH.eq_1))));refine Ys fw [0] [] ?_;refine ae fun K1 Yw=>?_;refine Ys fw [5] [] ?_;refine YF ?_;have qf:=(Aq fw @a2);refine aC [5,7,8] [] ?_;refine ag rfl ?_;have qf:=(Aq fw @a3);refine aC [11,12] [] ?_;refine ag rfl ?_;refine ar (Yw _ ?_);refine Ys fw [2] [] ?_;refine b6 ?_;simp[D.le,D.le.go,aQ,ab,dS,Yz,bH,dS,dA,D.le_refl]
theorem RP (G:Yt) (all:Bool) (e:Ex):ao prog G (kK all) [dE e] (dS (Y1 all e)):=by
 cases all with
 | true=>exact RT G e
 | false=>exact L2 G e
theorem vH (G:Yt) (all:Bool) (l:List (List UInt8)) (e:Ex) (hl:l.length < 2^40):MC prog G [502] 200 ([.d (dE e)] ++ [.d (.ip [.fn (.func (kK all)) []]),.ref 502 0 0]) (ah (cA l)) (.d (.aR [])) (ah (cA (l ++ gb (Y1 all e)))):=by
 have hn:=RP G all e;obtain⟨t,c,hx⟩:=dY e;rw[hx]at hn ⊢;generalize kK all=g at hn ⊢;generalize Y1 all e=s at hn ⊢;by_cases hs:s=[]
 .subst hs
  have he:l ++ gb []=l:=by simp[gb]
  rw[he];refine MC.aI (au _) func200 rfl rfl (rs:=[]) results200 (by simp[ntmps200]) rfl fun X=>?_;simp only[ntmps200];have fw:=(Aq @ab.eq_1 (Aq @dS.eq_1 @cA.eq_1));refine aW fw hn [2,4] [502,503] ?_;refine rg [2,4,9] [502,503] (cF rfl) fun K' Yu=>?_;(repeat (refine aP fun K2 aa=>?_;simp[ab,dS,cA,bI,YJ,dA];(repeat (refine⟨by omega,?_⟩));refine aa _ ?_;clear aa K2));refine YM (Yu _ (AW.st (by simp[ab,dS,cA,bI,YJ,dA];rfl) ?_));clear Yu K';refine ag rfl ?_;refine ar ?_;simp[D.le_refl,cA,dS]
 .have he:gb s=[s]:=by unfold gb;rw[if_neg hs]
  have tB:s.isEmpty=false:=by rw[List.isEmpty_eq_false_iff];exact hs
  have Gm:(s == [])=false:=by simpa using hs
  rw[he];refine MC.aI (au _) func200 rfl rfl (rs:=[]) results200 (by simp[ntmps200]) rfl fun X=>?_;simp only[ntmps200];have fw:=(Aq @ab.eq_1 (Aq @dS.eq_1 @cA.eq_1));refine aW fw hn [2,4] [502,503] ?_;refine rg [2,4,9] [502,503] (cF rfl) fun K' Yu=>?_;(repeat (refine aP fun K2 aa=>?_;simp[ab,dS,cA,bI,YJ,dA,hs,tB,Gm];(repeat (refine⟨by omega,?_⟩));refine aa _ ?_;clear aa K2));refine YM (Yu _ (AW.st (by simp[ab,dS,cA,bI,YJ,dA,hs,tB,Gm];rfl) ?_));clear Yu K';refine Yx rfl ?_;refine ZD (au _) fun K' Yu=>?_;(repeat (refine aP fun K2 aa=>?_;simp[ab,dS,cA,List.take_of_length_le];(repeat (refine⟨by omega,?_⟩));refine aa _ ?_;clear aa K2));refine YM (Yu _ ?_);clear Yu K';(try simp only[YC,bd]);simp[D.le_refl,cA,dS]
theorem WJ (G:Yt) (all:Bool):∀ (m:Nat) (e:Ex),SizeOf.sizeOf e<=m->∀ l0:List (List UInt8),l0.length+bE e<=2^39->MC prog G [502] 199 [.d (dE e),.fn (.func 200) [.d (.ip [.fn (.func (kK all)) []]),.ref 502 0 0]] (ah (cA l0)) (.d (.aR [])) (ah (cA (l0 ++ b5 all e))):=by
 intro m
 induction m with
 | zero=>intro e aK;cases e<;>simp at aK
 | succ m ih=>
  intro e aK l0 hb;have Xn:=u7 e;by_cases hN:∃ x,e = .not x
  .obtain⟨x,rfl⟩:=hN;simp only[bE]at hb;obtain⟨tx,cx,hx⟩:=dY x;have dL:=vH G all l0 (.not x) (by omega);have tp:gb (Y1 all (.not x))=[]:=rfl;rw[tp,List.append_nil,List.singleton_append]at dL;have hc:=ih x (by simp at aK;omega) l0 (by omega);rw[b5];rw[dE,hx];rw[dE,hx]at dL;rw[hx]at hc;generalize l0 ++ b5 all x=l1 at hc ⊢;generalize kK all=g at hc dL ⊢;refine MC.aI (au _) func199 rfl rfl (rs:=[]) results199 (by simp[ntmps199]) rfl fun X=>?_;simp only[ntmps199];have fw:=(Aq @ab.eq_1 (Aq @dS.eq_1 (Aq @cA.eq_1 (Aq @Yz.eq_1 (Aq @Yz.eq_2 @bH.eq_1)))));refine bh fw dL [0,1] [502,503] ?_;refine Ys fw [1,14] [502,503] ?_;refine YF ?_;refine Ys fw [1,14,16,17] [502,503] ?_;refine Yx rfl ?_;refine Ys fw [1,4] [4,502,503] ?_;refine ZD (au _) fun K' Yu=>?_;(repeat (refine aP fun K2 aa=>?_;simp[ab,dS,cA,Yz,bH];(repeat (refine⟨by omega,?_⟩));refine aa _ ?_;clear aa K2));refine aP fun K2 aa=>?_;simp[ab,dS,cA,Yz,bH];refine YR.mc (hc) ?_ ?_ ?_ ?_ ?_<;>simp[ab,dS,cA,Yz,bH];refine aa _ ?_;clear aa K2;(repeat (refine aP fun K2 aa=>?_;simp[ab,dS,cA,Yz,bH];(repeat (refine⟨by omega,?_⟩));refine aa _ ?_;clear aa K2));refine YM (Yu _ ?_);clear Yu K';(try simp only[YC,bd]);simp[D.le_refl,cA,dS]
  by_cases hand:∃ l,e = .and l
  .obtain⟨l,rfl⟩:=hand;simp only[bE]at hb;have dL:=vH G all l0 (.and l) (by omega);have tp:gb (Y1 all (.and l))=[]:=rfl;rw[tp,List.append_nil,List.singleton_append]at dL;have ZH:=fun (x:Ex) (hx:x∈l)=>ih x (by have:=List.sizeOf_lt_of_mem hx;simp only[Ex.and.sizeOf_spec]at aK;omega);have kg:=sb l;rw[b5];rw[dE,aa6];rw[dE,aa6]at dL;clear ih;generalize hg:kK all=g at ZH dL ⊢;refine MC.aI (au _) func199 rfl rfl (rs:=[]) results199 (by simp[ntmps199]) rfl fun X=>?_;simp only[ntmps199];have fw:=(Aq @ab.eq_1 (Aq @dS.eq_1 (Aq @cA.eq_1 (Aq @Yz.eq_1 (Aq @Yz.eq_2 @bH.eq_1)))));refine bh fw dL [0,1] [502,503] ?_;refine Ys fw [1,14] [502,503] ?_;refine YF ?_;refine Ys fw [1,14,16,17] [502,503] ?_;refine ag rfl ?_;refine Ys fw [1,14,23,24] [502,503] ?_;refine Yx rfl ?_;refine Ys fw [1,5] [502,503] ?_;refine Ys fw [1,25,26,27] [502,503] ?_;refine cr (S:=Nat) (fun i=>i<=l.length) (fun i=>⟨YB [(1,.fn (.func 200) [.d (.ip [.fn (.func g) []]),.ref 502 0 0]),(25,.d (.sl none (l.map fun e=>[dE e]))),(26,int l.length),(27,int i)],ah (cA (l0 ++ dZ all (l.take i)))⟩) (fun i=>l.length - i) 0 ?_ (by omega) ?_
   .refine bz (Aq fw (Aq @dZ.eq_1 @dZ.eq_2))
   .intro i hi;refine Ys fw [1,25,26,27,28] [502,503] ?_;refine ae fun K1 Yw=>?_;refine eM (b:=i < l.length) (by simp[D.le,D.le.go,aQ,ab,dS,cA,Yz,bH]) (fun hc=>?_) (fun hc=>?_)
    .have Zz:i < l.length:=hc;have h1:=Hz all Zz;have h2:=B7 all (l.take i);have h3:=DG Zz;have bL:=ZH _ (List.getElem_mem Zz) (l0 ++ dZ all (l.take i)) (by rw[List.length_append];omega);rw[List.append_assoc,<- h1]at bL;obtain⟨tx,cx,hx⟩:=dY l[i];rw[hx]at bL;refine ar (Yw _ ?_);refine ae fun K2 aa=>?_;refine YF ?_;have qf:=(Aq fw (Aq @Zz @hx));refine aC [1,7,25,26,27] [502,503] ?_;refine ZD (au _) fun K' Yu=>?_;(repeat (refine aP fun K2 aa=>?_;simp[ab,dS,cA,Yz,bH];(repeat (refine⟨by omega,?_⟩));refine aa _ ?_;clear aa K2));refine aP fun K2 aa=>?_;simp[ab,dS,cA,Yz,bH];refine YR.mc (bL) ?_ ?_ ?_ ?_ ?_<;>simp[ab,dS,cA,Yz,bH];refine aa _ ?_;clear aa K2;(repeat (refine aP fun K2 aa=>?_;simp[ab,dS,cA,Yz,bH];(repeat (refine⟨by omega,?_⟩));refine aa _ ?_;clear aa K2));refine YM (Yu _ ?_);clear Yu K';refine aa _ (AW.norm [1,25,26,27] [502,503] (cF rfl) (AW.st (by simp[ab,dS,cA,Yz,bH];rfl) ?_));refine b8 fw ?_;(try simp only[YC,bd]);refine bo.mk (i+1) (by omega) (by omega) ?_;refine bz fw
    .obtain rfl:i=l.length:=by omega
     refine bY ?_;simp[D.le_refl,List.take_length,cA,dS]
  by_cases hor:∃ l,e = .or l
  .obtain⟨l,rfl⟩:=hor;simp only[bE]at hb;have dL:=vH G all l0 (.or l) (by omega);have tp:gb (Y1 all (.or l))=[]:=rfl;rw[tp,List.append_nil,List.singleton_append]at dL;have ZH:=fun (x:Ex) (hx:x∈l)=>ih x (by have:=List.sizeOf_lt_of_mem hx;simp only[Ex.or.sizeOf_spec]at aK;omega);have kg:=sb l;rw[b5];rw[dE,aa6];rw[dE,aa6]at dL;clear ih;generalize hg:kK all=g at ZH dL ⊢;refine MC.aI (au _) func199 rfl rfl (rs:=[]) results199 (by simp[ntmps199]) rfl fun X=>?_;simp only[ntmps199];have fw:=(Aq @ab.eq_1 (Aq @dS.eq_1 (Aq @cA.eq_1 (Aq @Yz.eq_1 (Aq @Yz.eq_2 @bH.eq_1)))));refine bh fw dL [0,1] [502,503] ?_;refine Ys fw [1,14] [502,503] ?_;refine YF ?_;refine Ys fw [1,14,16,17] [502,503] ?_;refine ag rfl ?_;refine Ys fw [1,14,23,24] [502,503] ?_;refine ag rfl ?_;refine Ys fw [1,36,37] [502,503] ?_;refine Yx rfl ?_;refine Ys fw [1,8] [502,503] ?_;refine Ys fw [1,38,39,40] [502,503] ?_;refine cr (S:=Nat) (fun i=>i<=l.length) (fun i=>⟨YB [(1,.fn (.func 200) [.d (.ip [.fn (.func g) []]),.ref 502 0 0]),(38,.d (.sl none (l.map fun e=>[dE e]))),(39,int l.length),(40,int i)],ah (cA (l0 ++ dZ all (l.take i)))⟩) (fun i=>l.length - i) 0 ?_ (by omega) ?_
   .refine bz (Aq fw (Aq @dZ.eq_1 @dZ.eq_2))
   .intro i hi;refine Ys fw [1,38,39,40,41] [502,503] ?_;refine ae fun K1 Yw=>?_;refine eM (b:=i < l.length) (by simp[D.le,D.le.go,aQ,ab,dS,cA,Yz,bH]) (fun hc=>?_) (fun hc=>?_)
    .have Zz:i < l.length:=hc;have h1:=Hz all Zz;have h2:=B7 all (l.take i);have h3:=DG Zz;have bL:=ZH _ (List.getElem_mem Zz) (l0 ++ dZ all (l.take i)) (by rw[List.length_append];omega);rw[List.append_assoc,<- h1]at bL;obtain⟨tx,cx,hx⟩:=dY l[i];rw[hx]at bL;refine ar (Yw _ ?_);refine ae fun K2 aa=>?_;refine YF ?_;have qf:=(Aq fw (Aq @Zz @hx));refine aC [1,10,38,39,40] [502,503] ?_;refine ZD (au _) fun K' Yu=>?_;(repeat (refine aP fun K2 aa=>?_;simp[ab,dS,cA,Yz,bH];(repeat (refine⟨by omega,?_⟩));refine aa _ ?_;clear aa K2));refine aP fun K2 aa=>?_;simp[ab,dS,cA,Yz,bH];refine YR.mc (bL) ?_ ?_ ?_ ?_ ?_<;>simp[ab,dS,cA,Yz,bH];refine aa _ ?_;clear aa K2;(repeat (refine aP fun K2 aa=>?_;simp[ab,dS,cA,Yz,bH];(repeat (refine⟨by omega,?_⟩));refine aa _ ?_;clear aa K2));refine YM (Yu _ ?_);clear Yu K';refine aa _ (AW.norm [1,38,39,40] [502,503] (cF rfl) (AW.st (by simp[ab,dS,cA,Yz,bH];rfl) ?_));refine b8 fw ?_;(try simp only[YC,bd]);refine bo.mk (i+1) (by omega) (by omega) ?_;refine bz fw
    .obtain rfl:i=l.length:=by omega
     refine bY ?_;simp[D.le_refl,List.take_length,cA,dS]
  have hk:∃ t c,dE e = .bg t c/\¬ t=114/\¬ t=192/\¬ t=116/\b5 all e=gb (Y1 all e):=by
   cases e with
   | not z=>exact absurd ⟨z,rfl⟩ hN
   | and l=>exact absurd ⟨l,rfl⟩ hand
   | or l=>exact absurd ⟨l,rfl⟩ hor
   | dX b=>exact⟨_,_,by rw[dE],by decide,by decide,by decide,rfl⟩
   | bit s=>exact⟨_,_,by rw[dE],by decide,by decide,by decide,rfl⟩
   | fS s=>exact⟨_,_,by rw[dE],by decide,by decide,by decide,rfl⟩
   | fJ s=>exact⟨_,_,by rw[dE],by decide,by decide,by decide,rfl⟩
  obtain⟨t,c,hy,h1,h2,h3,h4⟩:=hk;have dL:=vH G all l0 e (by omega);rw[List.singleton_append]at dL;rw[h4,hy];rw[hy]at dL;generalize l0 ++ gb (Y1 all e)=l1 at dL ⊢;generalize kK all=g at dL ⊢;refine MC.aI (au _) func199 rfl rfl (rs:=[]) results199 (by simp[ntmps199]) rfl fun X=>?_;simp only[ntmps199];have fw:=(Aq @ab.eq_1 (Aq @dS.eq_1 (Aq @cA.eq_1 (Aq @Yz.eq_1 (Aq @Yz.eq_2 @bH.eq_1)))));refine bh fw dL [0,1] [502,503] ?_;refine Ys fw [1,14] [502,503] ?_;refine YF ?_;have qf:=(Aq fw @h1);refine aC [1,14,16,17] [502,503] ?_;refine ag rfl ?_;have qf:=(Aq fw @h2);refine aC [1,14,23,24] [502,503] ?_;refine ag rfl ?_;have qf:=(Aq fw @h3);refine aC [1,36,37] [502,503] ?_;refine ag rfl ?_;refine ar ?_;simp[D.le_refl,cA,dS]
def Zh (all:Bool) (e:Ex):List (List UInt8):=Lib.compact (jO (b5 all e))
theorem Jb (G:Yt) (all:Bool) (e:Ex) (hb:bE e<=2^28):ao prog G 156 [dE e,.fn (.func (kK all)) []] (.sl none ((Zh all e).map fun s=>[dS s])):=by
 have hlen:=qd all e;have hw:=WJ G all _ e (Nat.le_refl _) [] (by simp;omega);rw[List.nil_append]at hw;have hso:=Vz G 503 9 (b5 all e) (by omega);have fN:=Lx G 503 9 (jO (b5 all e)) (by rw[mv];omega);rw[mv]at fN;have bO:=Lib.compact_length_le (jO (b5 all e));rw[mv]at bO;unfold Zh;obtain⟨tx,cx,hx⟩:=dY e;rw[hx]at hw ⊢;generalize kK all=g at hw ⊢;generalize b5 all e=l at hw hso fN bO hlen ⊢;generalize jO l=z at hso fN bO ⊢
 have fQ:List.take (Lib.compact z).length ((Lib.compact z ++ List.replicate (l.length - (Lib.compact z).length) []).map fun s=>[dS s])=(Lib.compact z).map fun s=>[dS s]:=by
  rw[List.map_append,List.take_append_of_le_length (by simp),List.take_of_length_le (by simp)]
 have Bq:(Lib.compact z ++ List.replicate (l.length - (Lib.compact z).length) []).length=l.length:=by simp;omega
 generalize Lib.compact z ++ List.replicate (l.length - (Lib.compact z).length) []=y at fN fQ Bq;generalize Lib.compact z=c at fN bO fQ ⊢;refine ao.aI (au _) func156 rfl rfl (rs:=[.tmp 4]) results156 (by simp[ntmps156]) fun X=>?_;simp only[ntmps156,List.map];have fw:=(Aq @ab.eq_1 (Aq @dS.eq_1 (Aq @cA.eq_1 (Aq @Yz.eq_1 (Aq @Yz.eq_2 @bH.eq_1)))));refine Ys fw [0,3] [3] ?_;refine Y5 fw 3 ?_;refine Ys fw [0,3,5] [5] ?_;refine AW.imp (aD.Za (r:=5) (r':=502) trivial (by simp)) ?_;refine AW.st (by simp[gY,gX,Go.Av.Za,xI];rfl) ?_;refine AW.imp (aD.po 502 0 503 9 1 rfl rfl rfl) ?_;refine AW.imp (τ:=⟨YB [(0,.d (.bg tx cx)),(3,.d (.ip [.fn (.func g) []])),(5,.ref 502 0 0)],ah (cA [])⟩) ?_ ?_
 .refine bz (Aq fw @cA.eq_1)
 refine bh fw hw [5] [502,503] ?_;refine bh fw hso [5] [502,503] ?_;refine bh fw fN [4] [502,503] ?_
 have hle:c.length<=y.length:=by omega
 by_cases hcy:c.length=y.length
 .have aaG:(y.map fun s=>[dS s])=c.map fun s=>[dS s]:=by rw[<- fQ,hcy,List.take_of_length_le (by simp)]
  simp only[dS]at aaG;refine AW.imp (aD.freeze 503 trivial) ?_;refine AW.st (by simp[ab,dS,cA,Yz,bH,hcy,hle,aaG];rfl) ?_;exact aY (Aq fw (Aq @hcy @aaG))
 .simp only[dS]at fQ;refine AW.imp (aD.freeze 503 trivial) ?_;refine AW.st (by simp[ab,dS,cA,Yz,bH,hcy,hle,fQ];rfl) ?_;exact aY (Aq fw @fQ)
theorem B0 (G:Yt) (e:Ex) (hb:bE e<=2^28):ao prog G 109 [dE e] (.sl none ((Zh true e).map fun s=>[dS s])):=by
 have hs:=Jb G true e hb;obtain⟨tx,cx,hx⟩:=dY e;rw[hx]at hs ⊢;generalize Zh true e=l at hs ⊢;simp only[kK,if_true,if_false,Bool.false_eq_true]at hs;refine ao.aI (au _) func109 rfl rfl (rs:=[.tmp 2]) results109 (by simp[ntmps109]) fun X=>?_;simp only[ntmps109,List.map];have fw:=(Aq @ab.eq_1 (Aq @dS.eq_1 (Aq @cA.eq_1 (Aq @Yz.eq_1 (Aq @Yz.eq_2 @bH.eq_1)))));refine Ys fw [0] [] ?_;refine aW fw hs [2] [] ?_;exact aY fw
theorem L3 (G:Yt) (e:Ex) (hb:bE e<=2^28):ao prog G 127 [dE e] (.sl none ((Zh false e).map fun s=>[dS s])):=by
 have hs:=Jb G false e hb;obtain⟨tx,cx,hx⟩:=dY e;rw[hx]at hs ⊢;generalize Zh false e=l at hs ⊢;simp only[kK,if_true,if_false,Bool.false_eq_true]at hs;refine ao.aI (au _) func127 rfl rfl (rs:=[.tmp 2]) results127 (by simp[ntmps127]) fun X=>?_;simp only[ntmps127,List.map];have fw:=(Aq @ab.eq_1 (Aq @dS.eq_1 (Aq @cA.eq_1 (Aq @Yz.eq_1 (Aq @Yz.eq_2 @bH.eq_1)))));refine Ys fw [0] [] ?_;refine aW fw hs [2] [] ?_;exact aY fw
abbrev Tx:=List UInt8
theorem BR (d:Array Tx):∀ (m:Nat),m<=d.size->∀ j,j < m->d[j]!∈Lib.compactUpTo d m
 | 0,_,j,h=>by omega
 | m+1,hm,j,hj=>by
  rw[Lib.compactUpTo_succ];by_cases Ay:j < m
  .exact List.mem_append_left _ (BR d m (by omega) j Ay)
  .obtain rfl:j=m:=by omega
   by_cases hk:Lib.keeps d j=true
   .exact List.mem_append_right _ (by simp[hk])
   .have iF:j≠0:=by rintro rfl;exact hk (Lib.keeps_lt_one d 0 (by omega))
    have he:d[j]! = d[j - 1]!:=by
     unfold Lib.keeps at hk;simp[iF]at hk
     first | exact hk | exact hk.symm
    rw[he];exact List.mem_append_left _ (BR d j (by omega) (j - 1) (by omega))
theorem JB (d:Array Tx):∀ (m:Nat),m<=d.size->∀ x∈Lib.compactUpTo d m,∃ j,j < m/\x=d[j]!
 | 0,_,x,h=>by simp[Lib.compactUpTo]at h
 | m+1,hm,x,h=>by
  rw[Lib.compactUpTo_succ]at h
  rcases List.mem_append.1 h with h | h
  .obtain⟨j,hj,e⟩:=JB d m (by omega) x h;exact⟨j,by omega,e⟩
  .split at h
   .simp at h;exact⟨m,by omega,h⟩
   .simp at h
theorem oS {all:Bool} {e:Ex} {s:Tx}:s∈Zh all e↔s∈b5 all e:=by
 unfold Zh
 have h0:∀ l:List Tx,s∈Lib.compact l↔s∈l:=by
  intro l;unfold Lib.compact;constructor
  .intro h;obtain⟨j,hj,rfl⟩:=JB l.toArray l.length (by simp) s h;rw[getElem!_pos l.toArray j (by simpa using hj)];simp
  .intro h;obtain⟨j,hj,rfl⟩:=List.mem_iff_getElem.1 h;have:=BR l.toArray l.length (by simp) j hj;rw[getElem!_pos l.toArray j (by simpa using hj)]at this;simpa using this
 rw[h0];unfold jO;exact List.mem_mergeSort
theorem Su {t:List UInt8} {e:Int×Option Nat} (h:(dO t).2=some e):(dO t).1=none:=by
 unfold dO at h ⊢;split at h
 .rw[if_pos ‹_›]
 .rw[if_neg ‹_›];split at h
  .rfl
  .split at h
   .rw[if_pos ‹_›]
   .cases h
theorem xz {t:List UInt8} (h:(dO t).2=none):∃ x,(dO t).1=some x:=by
 unfold dO at h ⊢;split at h
 .cases h
 .rw[if_neg ‹_›];split at h
  .cases h
  .split at h
   .cases h
   .rw[if_neg ‹_›];exact⟨_,rfl⟩
theorem GG {α:Type} (p:α->Bool) (l:List α):decide (0<=idx p l)=l.any p:=by
 unfold idx
 cases h:l.findIdx? p with
 | none=>
  rw[List.findIdx?_eq_none_iff]at h
  have:l.any p=false:=by rw[List.any_eq_false];intro x hx;simp[h x hx]
  rw[this];simp
 | some i=>
  rw[List.findIdx?_eq_some_iff_getElem]at h;obtain⟨hi,hp,_⟩:=h;have:l.any p=true:=List.any_eq_true.2 ⟨_,List.getElem_mem hi,hp⟩;rw[this];simp
theorem Ep (is Ze:List UInt8->Bool):∀ l:List Ex,vw is Ze l = !(l.any fun e=>!eY is Ze e)
 | []=>rfl
 | e :: l=>by rw[vw,Ep is Ze l];simp
theorem Es (is Ze:List UInt8->Bool):∀ l:List Ex,vx is Ze l=l.any fun e=>eY is Ze e
 | []=>rfl
 | e :: l=>by rw[vx,Es is Ze l];simp
theorem Qp (G:Yt) (k:Option Bool) (xs:List Ex) (g:FuncId) (caps:List D) (p:Ex->Bool) (hl:xs.length < 2^63) (ha:∀ x∈xs,ao prog G g (dE x :: caps) (.v (.bool (p x)))) :
  ao prog G 151 [.sl k (xs.map fun x=>[dE x]),.fn (.func g) caps] (.v (.int .i64 (idx p xs))):=by
 refine ao.aI (au _) func151 rfl rfl (rs:=[.tmp 4]) results151 (by simp[ntmps151]) fun X=>?_;simp only[ntmps151,List.map];refine al [0,1] [] ?_;refine ae fun K1 Yw=>?_;refine al [0,1,7,8] [] ?_;refine cr (S:=Nat) (fun n=>n<=xs.length/\∀ i (hi:i < xs.length),i < n->p xs[i]=false) (fun n=>⟨YB [(0,.d (.sl k (xs.map fun x=>[dE x]))),(1,.d (.fn (.func g) caps)),(7,int xs.length),(8,int n)],ah []⟩) (fun n=>xs.length - n) 0 ?_ (by simp) ?_
 .refine eg
 .rintro n ⟨hn,hp⟩;refine al [0,1,7,8,9] [] ?_;refine ae fun K2 aa=>?_;refine eM (b:=n < xs.length) (by simp[D.le,D.le.go,aQ]) (fun hc=>?_) (fun hc=>?_)
  .have hax:=ha xs[n] (by simp);refine ar (aa _ ?_);refine ae fun K3 bf=>?_;refine YF ?_;refine al [0,1,5,7,8] [] ?_;have qf:=@hc;refine Zq hax [0,1,5,7,8,16] [] ?_;refine kB _ rfl (fun Zg=>?_) (fun Zg=>?_)
   .refine al [4] [] ?_;refine b6 ?_;simp[D.le,D.le.go,aQ];exact (oI hc Zg fun i hi=>hp i (by omega) hi).symm
   .refine ar (bf _ ?_);refine fk ?_;(try simp only[YC,bd]);refine bo.mk (n+1) ⟨by omega,fun i hi ax=>?_⟩ (by omega) ?_
    .by_cases h:i=n
     .subst h;exact Zg
     .exact hp i hi (by omega)
    refine eg
  .refine bY (Yw _ ?_);refine al [4] [] ?_;refine b6 ?_;simp[D.le,D.le.go,aQ];exact (oJ fun i hi=>hp i hi (by omega)).symm
theorem LA (G:Yt) (k:Option Bool) (xs:List Ex) (g:FuncId) (caps:List D) (p:Ex->Bool) (hl:xs.length < 2^63) (ha:∀ x∈xs,ao prog G g (dE x :: caps) (.v (.bool (p x)))) :
  ao prog G 102 [.sl k (xs.map fun x=>[dE x]),.fn (.func g) caps] (.v (.bool (xs.any p))):=by
 have hi:=Qp G k xs g caps p hl ha;have hd:=GG p xs;generalize idx p xs=r at hi hd;rw[<- hd];refine ao.aI (au _) func102 rfl rfl (rs:=[.tmp 4]) results102 (by simp[ntmps102]) fun X=>?_;simp only[ntmps102,List.map];refine al [0,1] [] ?_;refine aW trivial hi [4] [] ?_;exact da
theorem Qr (G:Yt) (k:Option Bool) (xs:List Ex) (g:FuncId) (caps:List D) (p:Ex->Bool) (hl:xs.length < 2^63) (ha:∀ x∈xs,ao prog G g (dE x :: caps) (.v (.bool (p x)))) :
  ao prog G 152 [.sl k (xs.map fun x=>[dE x]),.fn (.func g) caps] (.v (.int .i64 (idx p xs))):=by
 refine ao.aI (au _) func152 rfl rfl (rs:=[.tmp 4]) results152 (by simp[ntmps152]) fun X=>?_;simp only[ntmps152,List.map];refine al [0,1] [] ?_;refine ae fun K1 Yw=>?_;refine al [0,1,7,8] [] ?_;refine cr (S:=Nat) (fun n=>n<=xs.length/\∀ i (hi:i < xs.length),i < n->p xs[i]=false) (fun n=>⟨YB [(0,.d (.sl k (xs.map fun x=>[dE x]))),(1,.d (.fn (.func g) caps)),(7,int xs.length),(8,int n)],ah []⟩) (fun n=>xs.length - n) 0 ?_ (by simp) ?_
 .refine eg
 .rintro n ⟨hn,hp⟩;refine al [0,1,7,8,9] [] ?_;refine ae fun K2 aa=>?_;refine eM (b:=n < xs.length) (by simp[D.le,D.le.go,aQ]) (fun hc=>?_) (fun hc=>?_)
  .have hax:=ha xs[n] (by simp);refine ar (aa _ ?_);refine ae fun K3 bf=>?_;refine YF ?_;refine al [0,1,5,7,8] [] ?_;have qf:=@hc;refine Zq hax [0,1,5,7,8,16] [] ?_;refine kB _ rfl (fun Zg=>?_) (fun Zg=>?_)
   .refine al [4] [] ?_;refine b6 ?_;simp[D.le,D.le.go,aQ];exact (oI hc Zg fun i hi=>hp i (by omega) hi).symm
   .refine ar (bf _ ?_);refine fk ?_;(try simp only[YC,bd]);refine bo.mk (n+1) ⟨by omega,fun i hi ax=>?_⟩ (by omega) ?_
    .by_cases h:i=n
     .subst h;exact Zg
     .exact hp i hi (by omega)
    refine eg
  .refine bY (Yw _ ?_);refine al [4] [] ?_;refine b6 ?_;simp[D.le,D.le.go,aQ];exact (oJ fun i hi=>hp i hi (by omega)).symm
theorem LB (G:Yt) (k:Option Bool) (xs:List Ex) (g:FuncId) (caps:List D) (p:Ex->Bool) (hl:xs.length < 2^63) (ha:∀ x∈xs,ao prog G g (dE x :: caps) (.v (.bool (p x)))) :
  ao prog G 104 [.sl k (xs.map fun x=>[dE x]),.fn (.func g) caps] (.v (.bool (xs.any p))):=by
 have hi:=Qr G k xs g caps p hl ha;have hd:=GG p xs;generalize idx p xs=r at hi hd;rw[<- hd];refine ao.aI (au _) func104 rfl rfl (rs:=[.tmp 4]) results104 (by simp[ntmps104]) fun X=>?_;simp only[ntmps104,List.map];refine al [0,1] [] ?_;refine aW trivial hi [4] [] ?_;exact da
mutual
def fW (S1 S2:List UInt8->Prop):Ex->Prop
 | .dX _=>True
 | .bit s=>S1 s
 | .fS s=>S1 s/\S2 s
 | .fJ s=>S1 s/\S2 s
 | .not e=>fW S1 S2 e
 | .and l=>mB S1 S2 l
 | .or l=>mB S1 S2 l
def mB (S1 S2:List UInt8->Prop):List Ex->Prop
 | []=>True
 | e :: l=>fW S1 S2 e/\mB S1 S2 l
end
theorem ya {S1 S2:List UInt8->Prop}:∀ {l:List Ex},mB S1 S2 l↔∀ x∈l,fW S1 S2 x
 | []=>by simp[mB]
 | e :: l=>by rw[mB,ya];simp
def nY (S:List UInt8->Prop) (G:Yt) (g:FuncId) (caps:List D) (p:List UInt8->Bool):Prop:=∀ s,S s->ao prog G g (dS s :: caps) (.v (.bool (p s)))
theorem eval_at (G:Yt) (g1 g2:FuncId) (c1 c2:List D) (is Ze:List UInt8->Bool) (S1 S2:List UInt8->Prop) (h1:nY S1 G g1 c1 is) (h2:nY S2 G g2 c2 Ze):∀ (n:Nat) (e:Ex),SizeOf.sizeOf e<=n->fW S1 S2 e->bE e<=2^28->ao prog G 51 [dE e,.fn (.func g1) c1,.fn (.func g2) c2] (.v (.bool (eY is Ze e))):=by
 intro n
 induction n with
 | zero=>intro e aK;cases e<;>simp at aK
 | succ n ih=>
  intro e aK aaC hb;have fw:=(Aq @ab.eq_1 (Aq @dS.eq_1 (Aq @Yz.eq_1 (Aq @Yz.eq_2 @bH.eq_1))))
  cases e with
  | dX b=>
   rw[dE];refine ao.aI (au _) func51 rfl rfl (rs:=[.tmp 6]) results51 (by simp[ntmps51]) fun X=>?_;simp only[ntmps51,List.map];refine Ys fw [0,4,5] [4,5] ?_;refine Y5 fw 4 ?_;refine Y5 fw 5 ?_;refine ae fun K1 Yw=>?_;refine Ys fw [4,5,14] [] ?_;refine YF ?_;refine Ys fw [4,5,14,16,17] [] ?_;refine Yx rfl ?_;refine Ys fw [7] [] ?_;refine Ys fw [6] [] ?_;refine b6 ?_;simp[D.le,D.le.go,aQ,ab,dS,Yz,bH,eY]
  | bit s=>
   rw[fW]at aaC;have hi:=h1 s aaC;rw[dE,eY];refine ao.aI (au _) func51 rfl rfl (rs:=[.tmp 6]) results51 (by simp[ntmps51]) fun X=>?_;simp only[ntmps51,List.map];refine Ys fw [0,4,5] [4,5] ?_;refine Y5 fw 4 ?_;refine Y5 fw 5 ?_;refine ae fun K1 Yw=>?_;refine Ys fw [4,5,14] [] ?_;refine YF ?_;refine Ys fw [4,5,14,16,17] [] ?_;refine ag rfl ?_;refine Ys fw [4,5,14,20,21] [] ?_;refine Yx rfl ?_;refine Ys fw [4,8] [] ?_;refine aW fw hi [6] [] ?_;exact aY fw
  | fS s=>
   rw[fW]at aaC;have hi:=h1 s aaC.1;have hw:=h2 s aaC.2;rw[dE,eY]
   cases hs:is s with
   | false=>
    rw[hs]at hi;refine ao.aI (au _) func51 rfl rfl (rs:=[.tmp 6]) results51 (by simp[ntmps51]) fun X=>?_;simp only[ntmps51,List.map];refine Ys fw [0,4,5] [4,5] ?_;refine Y5 fw 4 ?_;refine Y5 fw 5 ?_;refine ae fun K1 Yw=>?_;refine Ys fw [4,5,14] [] ?_;refine YF ?_;refine Ys fw [4,5,14,16,17] [] ?_;refine ag rfl ?_;refine Ys fw [4,5,14,20,21] [] ?_;refine ag rfl ?_;refine Ys fw [4,5,14,26,27] [] ?_;refine Yx rfl ?_;refine Ys fw [4,5,9] [] ?_;refine aW fw hi [6] [] ?_;exact aY fw
   | true=>
    rw[hs]at hi;refine ao.aI (au _) func51 rfl rfl (rs:=[.tmp 6]) results51 (by simp[ntmps51]) fun X=>?_;simp only[ntmps51,List.map];refine Ys fw [0,4,5] [4,5] ?_;refine Y5 fw 4 ?_;refine Y5 fw 5 ?_;refine ae fun K1 Yw=>?_;refine Ys fw [4,5,14] [] ?_;refine YF ?_;refine Ys fw [4,5,14,16,17] [] ?_;refine ag rfl ?_;refine Ys fw [4,5,14,20,21] [] ?_;refine ag rfl ?_;refine Ys fw [4,5,14,26,27] [] ?_;refine Yx rfl ?_;refine Ys fw [4,5,9] [] ?_;refine rg [6] [] (fun _ _=>trivial) fun K' Yu=>?_;(repeat (refine aP fun K2 aa=>?_;simp[ab,dS,Yz,bH];(repeat (refine⟨by omega,?_⟩));refine aa _ ?_;clear aa K2));refine aP fun K2 aa=>?_;simp[ab,dS,Yz,bH];refine YR.data (hi) (by simp;rfl) (by first | exact D.YG _ | simp[aQ,List.map_map,Function.comp_def,D.le,D.le.go,D.le_refl,D.YG,ab,dS,Yz,bH]) ?_;refine aa _ ?_;clear aa K2;simp only[aw,cJ];(repeat (refine aP fun K2 aa=>?_;simp[ab,dS,Yz,bH];(repeat (refine⟨by omega,?_⟩));refine aa _ ?_;clear aa K2));refine aP fun K2 aa=>?_;simp[ab,dS,Yz,bH];refine YR.data (hw) (by simp;rfl) (by first | exact D.YG _ | simp[aQ,List.map_map,Function.comp_def,D.le,D.le.go,D.le_refl,D.YG,ab,dS,Yz,bH]) ?_;refine aa _ ?_;clear aa K2;simp only[aw,cJ];(repeat (refine aP fun K2 aa=>?_;simp[ab,dS,Yz,bH];(repeat (refine⟨by omega,?_⟩));refine aa _ ?_;clear aa K2));refine YM (Yu _ (AW.st (by simp[ab,dS,Yz,bH];rfl) ?_));clear Yu K';exact aY fw
  | fJ s=>
   rw[fW]at aaC;have hi:=h1 s aaC.1;have hw:=h2 s aaC.2;rw[dE,eY]
   cases hs:is s with
   | true=>
    rw[hs]at hi;refine ao.aI (au _) func51 rfl rfl (rs:=[.tmp 6]) results51 (by simp[ntmps51]) fun X=>?_;simp only[ntmps51,List.map];refine Ys fw [0,4,5] [4,5] ?_;refine Y5 fw 4 ?_;refine Y5 fw 5 ?_;refine ae fun K1 Yw=>?_;refine Ys fw [4,5,14] [] ?_;refine YF ?_;refine Ys fw [4,5,14,16,17] [] ?_;refine ag rfl ?_;refine Ys fw [4,5,14,20,21] [] ?_;refine ag rfl ?_;refine Ys fw [4,5,14,26,27] [] ?_;refine ag rfl ?_;refine Ys fw [4,5,14,38,39] [] ?_;refine Yx rfl ?_;refine Ys fw [4,5,10] [] ?_;refine aW fw hi [6] [] ?_;exact aY fw
   | false=>
    rw[hs]at hi;refine ao.aI (au _) func51 rfl rfl (rs:=[.tmp 6]) results51 (by simp[ntmps51]) fun X=>?_;simp only[ntmps51,List.map];refine Ys fw [0,4,5] [4,5] ?_;refine Y5 fw 4 ?_;refine Y5 fw 5 ?_;refine ae fun K1 Yw=>?_;refine Ys fw [4,5,14] [] ?_;refine YF ?_;refine Ys fw [4,5,14,16,17] [] ?_;refine ag rfl ?_;refine Ys fw [4,5,14,20,21] [] ?_;refine ag rfl ?_;refine Ys fw [4,5,14,26,27] [] ?_;refine ag rfl ?_;refine Ys fw [4,5,14,38,39] [] ?_;refine Yx rfl ?_;refine Ys fw [4,5,10] [] ?_;refine rg [6] [] (fun _ _=>trivial) fun K' Yu=>?_;(repeat (refine aP fun K2 aa=>?_;simp[ab,dS,Yz,bH];(repeat (refine⟨by omega,?_⟩));refine aa _ ?_;clear aa K2));refine aP fun K2 aa=>?_;simp[ab,dS,Yz,bH];refine YR.data (hi) (by simp;rfl) (by first | exact D.YG _ | simp[aQ,List.map_map,Function.comp_def,D.le,D.le.go,D.le_refl,D.YG,ab,dS,Yz,bH]) ?_;refine aa _ ?_;clear aa K2;simp only[aw,cJ];(repeat (refine aP fun K2 aa=>?_;simp[ab,dS,Yz,bH];(repeat (refine⟨by omega,?_⟩));refine aa _ ?_;clear aa K2));refine aP fun K2 aa=>?_;simp[ab,dS,Yz,bH];refine YR.data (hw) (by simp;rfl) (by first | exact D.YG _ | simp[aQ,List.map_map,Function.comp_def,D.le,D.le.go,D.le_refl,D.YG,ab,dS,Yz,bH]) ?_;refine aa _ ?_;clear aa K2;simp only[aw,cJ];(repeat (refine aP fun K2 aa=>?_;simp[ab,dS,Yz,bH];(repeat (refine⟨by omega,?_⟩));refine aa _ ?_;clear aa K2));refine YM (Yu _ (AW.st (by simp[ab,dS,Yz,bH];rfl) ?_));clear Yu K';exact aY fw
  | not x=>
   have hc:=ih x (by simp at aK;omega) (by rwa [fW]at aaC) (by simp only[bE]at hb;omega);obtain⟨tx,cx,hx⟩:=dY x;rw[dE,eY,hx];rw[hx]at hc;generalize eY is Ze x=r at hc ⊢;refine ao.aI (au _) func51 rfl rfl (rs:=[.tmp 6]) results51 (by simp[ntmps51]) fun X=>?_;simp only[ntmps51,List.map];refine Ys fw [0,4,5] [4,5] ?_;refine Y5 fw 4 ?_;refine Y5 fw 5 ?_;refine ae fun K1 Yw=>?_;refine Ys fw [4,5,14] [] ?_;refine YF ?_;refine Ys fw [4,5,14,16,17] [] ?_;refine ag rfl ?_;refine Ys fw [4,5,14,20,21] [] ?_;refine ag rfl ?_;refine Ys fw [4,5,14,26,27] [] ?_;refine ag rfl ?_;refine Ys fw [4,5,14,38,39] [] ?_;refine ag rfl ?_;refine Ys fw [4,5,14,50,51] [] ?_;refine Yx rfl ?_;refine Ys fw [4,5,11] [11] ?_;refine aW fw hc [6] [11] ?_;exact aY fw
  | and l=>
   have ZH:∀ x∈l,ao prog G 103 [dE x,.ip [.fn (.func g1) c1],.ip [.fn (.func g2) c2]] (.v (.bool (!eY is Ze x))):=fun x hx=>by
    have hc:=ih x (by have:=List.sizeOf_lt_of_mem hx;simp only[Ex.and.sizeOf_spec]at aK;omega) (by rw[fW,ya]at aaC;exact aaC x hx) (by have:=yE hx;simp only[bE]at hb;omega);obtain⟨tx,cx,Bn⟩:=dY x;rw[Bn]at hc ⊢;generalize eY is Ze x=r at hc ⊢;refine ao.aI (au _) func103 rfl rfl (rs:=[.tmp 4]) results103 (by simp[ntmps103]) fun X=>?_;simp only[ntmps103,List.map];refine Ys fw [0,1,2] [] ?_;refine aW fw hc [4] [] ?_;exact aY fw
   have kg:=sb l;have sZ:=LA G none l 103 [.ip [.fn (.func g1) c1],.ip [.fn (.func g2) c2]] (fun x=>!eY is Ze x) (by simp only[bE]at hb;omega) ZH;rw[dE,aa6,eY,Ep];generalize l.any (fun x=>!eY is Ze x)=r at sZ ⊢;refine ao.aI (au _) func51 rfl rfl (rs:=[.tmp 6]) results51 (by simp[ntmps51]) fun X=>?_;simp only[ntmps51,List.map];refine Ys fw [0,4,5] [4,5] ?_;refine Y5 fw 4 ?_;refine Y5 fw 5 ?_;refine ae fun K1 Yw=>?_;refine Ys fw [4,5,14] [] ?_;refine YF ?_;refine Ys fw [4,5,14,16,17] [] ?_;refine ag rfl ?_;refine Ys fw [4,5,14,20,21] [] ?_;refine ag rfl ?_;refine Ys fw [4,5,14,26,27] [] ?_;refine ag rfl ?_;refine Ys fw [4,5,14,38,39] [] ?_;refine ag rfl ?_;refine Ys fw [4,5,14,50,51] [] ?_;refine ag rfl ?_;refine Ys fw [4,5,14,59,60] [] ?_;refine Yx rfl ?_;refine Ys fw [4,5,12] [] ?_;refine aW fw sZ [6] [] ?_;exact aY fw
  | or l=>
   have ZH:∀ x∈l,ao prog G 105 [dE x,.ip [.fn (.func g1) c1],.ip [.fn (.func g2) c2]] (.v (.bool (eY is Ze x))):=fun x hx=>by
    have hc:=ih x (by have:=List.sizeOf_lt_of_mem hx;simp only[Ex.or.sizeOf_spec]at aK;omega) (by rw[fW,ya]at aaC;exact aaC x hx) (by have:=yE hx;simp only[bE]at hb;omega);obtain⟨tx,cx,Bn⟩:=dY x;rw[Bn]at hc ⊢;generalize eY is Ze x=r at hc ⊢;refine ao.aI (au _) func105 rfl rfl (rs:=[.tmp 4]) results105 (by simp[ntmps105]) fun X=>?_;simp only[ntmps105,List.map];refine Ys fw [0,1,2] [] ?_;refine aW fw hc [4] [] ?_;exact aY fw
   have kg:=sb l;have sZ:=LB G none l 105 [.ip [.fn (.func g1) c1],.ip [.fn (.func g2) c2]] (fun x=>eY is Ze x) (by simp only[bE]at hb;omega) ZH;rw[dE,aa6,eY,Es];generalize l.any (fun x=>eY is Ze x)=r at sZ ⊢;refine ao.aI (au _) func51 rfl rfl (rs:=[.tmp 6]) results51 (by simp[ntmps51]) fun X=>?_;simp only[ntmps51,List.map];refine Ys fw [0,4,5] [4,5] ?_;refine Y5 fw 4 ?_;refine Y5 fw 5 ?_;refine ae fun K1 Yw=>?_;refine Ys fw [4,5,14] [] ?_;refine YF ?_;refine Ys fw [4,5,14,16,17] [] ?_;refine ag rfl ?_;refine Ys fw [4,5,14,20,21] [] ?_;refine ag rfl ?_;refine Ys fw [4,5,14,26,27] [] ?_;refine ag rfl ?_;refine Ys fw [4,5,14,38,39] [] ?_;refine ag rfl ?_;refine Ys fw [4,5,14,50,51] [] ?_;refine ag rfl ?_;refine Ys fw [4,5,14,59,60] [] ?_;refine ag rfl ?_;refine Ys fw [4,5,66,67] [] ?_;refine Yx rfl ?_;refine Ys fw [4,5,13] [] ?_;refine aW fw sZ [6] [] ?_;exact aY fw
theorem zg (G:Yt) (g1 g2:FuncId) (c1 c2:List D) (is Ze:List UInt8->Bool) (S1 S2:List UInt8->Prop) (h1:nY S1 G g1 c1 is) (h2:nY S2 G g2 c2 Ze) (e:Ex) (ha:fW S1 S2 e) (hb:bE e<=2^28):ao prog G 51 [dE e,.fn (.func g1) c1,.fn (.func g2) c2] (.v (.bool (eY is Ze e))):=
 eval_at G g1 g2 c1 c2 is Ze S1 S2 h1 h2 _ e (Nat.le_refl _) ha hb
theorem la:(⟨#[97]⟩:ByteArray)=bs [97]:=rfl
theorem lb:(⟨#[98]⟩:ByteArray)=bs [98]:=rfl
theorem Jy (x:Nat) (h:x < 2^64):(BitVec.ofInt 64 (x:Int)).toNat=x:=by
 rw[BitVec.toNat_ofInt]
 have:(2:Nat)^64=18446744073709551616:=by decide
 omega
theorem Jz (x:Nat) (h:x < 2^64):IntKind.u64.wrap (x:Int)=(x:Int):=by
 rw[IntKind.wrap_u64]
 have:(2:Nat)^64=18446744073709551616:=by decide
 omega
theorem Wn (x y:Nat) (hx:x < 2^64) (hy:y < 2^64):j1 .and .u64 (x:Int) (y:Int)=((x &&& y:Nat):Int):=by
 unfold j1;dsimp only
 have h3:(BitVec.ofInt IntKind.u64.bits (x:Int) &&& BitVec.ofInt IntKind.u64.bits (y:Int)).toNat=x &&& y:=by
  show (BitVec.ofInt 64 (x:Int) &&& BitVec.ofInt 64 (y:Int)).toNat=x &&& y;rw[BitVec.toNat_and,Jy x hx,Jy y hy]
 rw[h3,Jz _ (Nat.lt_of_le_of_lt Nat.and_le_left hx)]
structure Zi where
 name:Tx
 kind:Int
 count:Int
structure fg where
 kind:Int
 name:Tx
 cond:Option Ex
structure Yy where
 names:List Zi
 aq:List fg
def YH (p:Yy) (s:Tx):Int:=idx (fun n:Zi=>n.name == s) p.names
theorem R7 (p:Yy) {i:Nat} (hi:i < p.names.length):0<=YH p p.names[i].name/\YH p p.names[i].name<=i:=by
 have aG:¬ YH p p.names[i].name < 0:=fun h=>by
  have:=Bt h _ (List.getElem_mem hi);simp at this
 obtain⟨k,hk,he,_⟩:=oK aG;refine⟨by omega,?_⟩;apply Classical.byContradiction;intro Yv
 have Aw:i < k:=by unfold YH at Yv;omega
 unfold idx at he
 cases hf:p.names.findIdx? (fun n:Zi=>n.name == p.names[i].name) with
 | none=>rw[hf]at he;simp at he
 | some k'=>
  rw[hf]at he;simp only[Int.ofNat.injEq,Int.natCast_inj]at he
  have hkk:k'=k:=by simpa using he
  subst hkk;have:=(List.findIdx?_eq_some_iff_getElem.1 hf).2.2 i Aw;simp at this
def jy {α:Type} (f:Nat->α->Int):List α->Nat->Option (Int×Nat)
 | [],_=>none
 | x :: l,i=>if f i x=0 then jy f l (i+1) else some (f i x,i)
theorem zo {α:Type} {f:Nat->α->Int}:∀ {l:List α} {i:Nat} {e:Int} {k:Nat},jy f l i=some (e,k)->i<=k/\k < i+l.length/\e≠0
 | x :: l,i,e,k,h=>by
  rw[jy]at h;split at h
  .have:=zo h;simp only[List.length_cons];omega
  .rename_i aG;simp only[Option.some.injEq,Prod.mk.injEq]at h;obtain⟨h1,h2⟩:=h;rw[h1]at aG;simp only[List.length_cons];exact⟨by omega,by omega,aG⟩
theorem vD {α:Type} {f:Nat->α->Int}:∀ {l:List α} {i:Nat},jy f l i=none->∀ k (hk:k < l.length),f (i+k) l[k]=0
 | x :: l,i,h,k,hk=>by
  rw[jy]at h;split at h
  .rename_i h0
   cases k with
   | zero=>simpa using h0
   | succ k=>
    have:=vD h k (by simpa using hk);simpa[Nat.add_assoc,Nat.add_comm 1 k]using this
  .cases h
def yW (n:Zi):Bool:=decide (n.kind=3) || decide (n.kind=4)
def n0 (p:Yy) (i:Nat) (n:Zi):Int:=
 if !eS n.name then 5 else if decide (n.kind < 1) || decide (n.kind > 4) then 1 else if (yW n && (decide (n.count < 1) || decide (n.count > 7))) || (!yW n && decide (n.count≠0)) then 2 else if YH p n.name < i then 9 else 0
def jR (k:Int):Int:=if k<=3 then 2 else if k=4 then 3 else 4
def aaO (p:Yy) (r:fg):Int:=match r.cond with
 | none=>1
 | some e=>if decide (r.kind < 1) || decide (r.kind > 6) then 1 else if YH p r.name < 0 then 7
  else if jR r.kind≠(p.names.getD (YH p r.name).toNat ⟨[],0,0⟩).kind then 1 else if (Zh true e).any fun s=>decide (YH p s < 0) then 7 else 0
def YP (p:Yy):Option (Int×Option Nat):=
 if p.names.length > 12\/p.aq.length > 40 then some (4,none) else match jy (n0 p) p.names 0 with
  | some (e,i)=>some (e,some i)
  | none=>match jy (fun _ r=>aaO p r) p.aq 0 with
   | some (e,i)=>some (e,some (p.names.length+i))
   | none=>none
structure qD (p:Yy):Prop where
 names:p.names.length<=12
 aq:p.aq.length<=40
 name:∀ n∈p.names,eS n.name=true/\1<=n.kind/\n.kind<=4
 count:∀ n∈p.names,(n.kind < 3/\n.count=0)\/(3<=n.kind/\1<=n.count/\n.count<=7)
 num:∀ i (hi:i < p.names.length),YH p p.names[i].name=i
theorem fh {p:Yy} (h:YP p=none):qD p:=by
 unfold YP at h;split at h
 .cases h
 .rename_i hl;split at h
  .cases h
  .rename_i hN;have bu:=fun i hi=>vD hN i hi
   have one:∀ i (hi:i < p.names.length),eS p.names[i].name=true/\1<=p.names[i].kind/\p.names[i].kind<=4/\((p.names[i].kind < 3/\p.names[i].count=0)\/(3<=p.names[i].kind/\1<=p.names[i].count/\p.names[i].count<=7))/\YH p p.names[i].name=i:=fun i hi=>by
    have hb:=bu i hi;have hle:=R7 p hi;rw[Nat.zero_add]at hb;generalize p.names[i]=n at hb hle ⊢;unfold n0 yW at hb;split at hb
    .omega
    .rename_i h1;split at hb
     .omega
     .rename_i h2;split at hb
      .omega
      .rename_i h3;split at hb
       .omega
       .rename_i h4;simp at h1 h2 h3;refine⟨h1,by omega,by omega,?_,by omega⟩;by_cases hk:n.kind=3\/n.kind=4
        .exact .inr ⟨by omega,by have:=h3.1 hk;omega,by have:=h3.1 hk;omega⟩
        .have:=h3.2 (by omega) (by omega);exact .inl ⟨by omega,by omega⟩
   refine⟨by omega,by omega,fun n hn=>?_,fun n hn=>?_,fun i hi=>(one i hi).2.2.2.2⟩
   .obtain⟨i,hi,rfl⟩:=List.mem_iff_getElem.1 hn;exact⟨(one i hi).1,(one i hi).2.1,(one i hi).2.2.1⟩
   .obtain⟨i,hi,rfl⟩:=List.mem_iff_getElem.1 hn;exact (one i hi).2.2.2.1
def YE (n:Zi):List D:=[dS n.name,.v (.int .i64 n.kind),.v (.int .i64 n.count)]
def vo (n:Zi):D:=.agg (YE n)
def YW (l:List Zi):D:=.sl none (l.map YE)
def dC (c:Option Ex):D:=match c with
 | none=>.v .nilIface
 | some e=>dE e
def bD (r:fg):List D:=[.v (.int .i64 r.kind),dS r.name,dC r.cond]
def y3 (r:fg):D:=.agg (bD r)
def ch (l:List fg):D:=.sl none (l.map bD)
def b9 (p:Yy):List D:=[YW p.names,ch p.aq]
def cg (p:Yy):D:=.agg (b9 p)
theorem Qq (G:Yt) (k:Option Bool) (xs:List Zi) (g:FuncId) (caps:List D) (p:Zi->Bool) (hl:xs.length < 2^62) (ha:x9 G g caps vo p xs) :
  ao prog G 153 [.sl k (xs.map YE),.fn (.func g) caps] (.v (.int .i64 (idx p xs))):=by
 refine ao.aI (au _) func153 rfl rfl (rs:=[.tmp 4]) results153 (by simp[ntmps153]) fun X=>?_;simp only[ntmps153,List.map];refine al [0,1] [] ?_;refine ae fun K1 Yw=>?_;refine al [0,1,7,8] [] ?_;refine cr (S:=Nat) (fun n=>n<=xs.length/\∀ i (hi:i < xs.length),i < n->p xs[i]=false) (fun n=>⟨YB [(0,.d (.sl k (xs.map YE))),(1,.d (.fn (.func g) caps)),(7,int xs.length),(8,int n)],ah []⟩) (fun n=>xs.length - n) 0 ?_ (by simp) ?_
 .refine eg
 .rintro n ⟨hn,hp⟩;refine al [0,1,7,8,9] [] ?_;refine ae fun K2 aa=>?_;refine eM (b:=n < xs.length) (by simp[D.le,D.le.go,aQ]) (fun hc=>?_) (fun hc=>?_)
  .refine ar (aa _ ?_);refine ae fun K3 bf=>?_;refine YF ?_;refine al [0,1,5,7,8] [] ?_;have hax:=ha xs[n] (by simp);simp only[vo,YE]at hax;have qf:=(Aq @hc @YE.eq_1);refine Zq hax [0,1,5,7,8,16] [] ?_;refine kB _ rfl (fun Zg=>?_) (fun Zg=>?_)
   .refine al [4] [] ?_;refine b6 ?_;simp[D.le,D.le.go,aQ];exact (oI hc Zg fun i hi=>hp i (by omega) hi).symm
   .refine ar (bf _ ?_);refine fk ?_;(try simp only[YC,bd]);refine bo.mk (n+1) ⟨by omega,fun i hi ax=>?_⟩ (by omega) ?_
    .by_cases h:i=n
     .subst h;exact Zg
     .exact hp i hi (by omega)
    refine eg
  .refine bY (Yw _ ?_);refine al [4] [] ?_;refine b6 ?_;simp[D.le,D.le.go,aQ];exact (oJ fun i hi=>hp i hi (by omega)).symm
theorem Qt (G:Yt) (k:Option Bool) (xs:List (List UInt8)) (g:FuncId) (caps:List D) (p:(List UInt8)->Bool) (hl:xs.length < 2^62) (ha:x9 G g caps dS p xs) :
  ao prog G 155 [.sl k (xs.map (fun s=>[dS s])),.fn (.func g) caps] (.v (.int .i64 (idx p xs))):=by
 refine ao.aI (au _) func155 rfl rfl (rs:=[.tmp 4]) results155 (by simp[ntmps155]) fun X=>?_;simp only[ntmps155,List.map];refine al [0,1] [] ?_;refine ae fun K1 Yw=>?_;refine al [0,1,7,8] [] ?_;refine cr (S:=Nat) (fun n=>n<=xs.length/\∀ i (hi:i < xs.length),i < n->p xs[i]=false) (fun n=>⟨YB [(0,.d (.sl k (xs.map (fun s=>[dS s])))),(1,.d (.fn (.func g) caps)),(7,int xs.length),(8,int n)],ah []⟩) (fun n=>xs.length - n) 0 ?_ (by simp) ?_
 .refine bz @dS.eq_1
 .rintro n ⟨hn,hp⟩;refine al [0,1,7,8,9] [] ?_;refine ae fun K2 aa=>?_;refine eM (b:=n < xs.length) (by simp[D.le,D.le.go,aQ]) (fun hc=>?_) (fun hc=>?_)
  .refine ar (aa _ ?_);refine ae fun K3 bf=>?_;refine YF ?_;refine al [0,1,5,7,8] [] ?_;have hax:=ha xs[n] (by simp);simp only[dS]at hax;have qf:=(Aq @hc @dS.eq_1);refine Zq hax [0,1,5,7,8,16] [] ?_;refine kB _ rfl (fun Zg=>?_) (fun Zg=>?_)
   .refine al [4] [] ?_;refine b6 ?_;simp[D.le,D.le.go,aQ];exact (oI hc Zg fun i hi=>hp i (by omega) hi).symm
   .refine ar (bf _ ?_);refine fk ?_;(try simp only[YC,bd]);refine bo.mk (n+1) ⟨by omega,fun i hi ax=>?_⟩ (by omega) ?_
    .by_cases h:i=n
     .subst h;exact Zg
     .exact hp i hi (by omega)
    refine bz @dS.eq_1
  .refine bY (Yw _ ?_);refine al [4] [] ?_;refine b6 ?_;simp[D.le,D.le.go,aQ];exact (oJ fun i hi=>hp i hi (by omega)).symm
theorem yU (G:Yt) (k:Option Bool) (xs:List (List UInt8)) (g:FuncId) (caps:List D) (p:List UInt8->Bool) (hl:xs.length < 2^62) (ha:x9 G g caps dS p xs) :
  ao prog G 108 [.sl k (xs.map fun s=>[dS s]),.fn (.func g) caps] (.v (.bool (xs.any p))):=by
 refine ao.aI (au _) func108 rfl rfl (rs:=[.tmp 4]) results108 (by simp[ntmps108]) fun X=>?_;simp only[ntmps108,List.map];refine al [0,1] [] ?_;refine aW trivial (Qt G k xs g caps p hl ha) [4] [] ?_;refine b6 ?_;simp[D.le,D.le.go,aQ];exact acE p xs
theorem Q9 (G:Yt) (n:Zi) (s:List UInt8):ao prog G 154 [vo n,.ip [dS s]] (.v (.bool (n.name == s))):=by
 simp only[vo,YE,dS];refine ao.aI (au _) func154 rfl rfl (rs:=[.tmp 3]) results154 (by simp[ntmps154]) fun X=>?_;simp only[ntmps154,List.map];refine al [1,2] [2] ?_;refine rg [3] [2] (fun _ _=>trivial) fun K' Yu=>?_;(repeat (refine aP fun K2 aa=>?_;simp[bI,YJ];(repeat (refine⟨by omega,?_⟩));refine aa _ ?_;clear aa K2));refine YM (Yu _ (AW.st (by simp[bI,YJ];rfl) ?_));clear Yu K';exact da
theorem mf (G:Yt) (p:Yy) (hp:p.names.length < 2^62) (s:List UInt8):ao prog G 107 [cg p,dS s] (.v (.int .i64 (YH p s))):=by
 have hi:=Qq G none p.names 154 [.ip [dS s]] (fun n=>n.name == s) hp fun n _=>Q9 G n s;unfold YH;simp only[cg,b9,YW,dS]at hi ⊢;generalize ch p.aq=R at *;generalize idx (fun n:Zi=>n.name == s) p.names=z at hi ⊢;refine ao.aI (au _) func107 rfl rfl (rs:=[.tmp 4]) results107 (by simp[ntmps107]) fun X=>?_;simp only[ntmps107,List.map];refine Ys @ch.eq_1 [2,3] [2,3] ?_;refine eB 3 ?_;refine aW trivial hi [4] [2] ?_;exact da
theorem Ha (G:Yt) (p:Yy) (hp:p.names.length < 2^62) (s:List UInt8):ao prog G 181 [dS s,.ip (b9 p)] (.v (.bool (decide (YH p s < 0)))):=by
 have hi:=mf G p hp s;simp only[cg,b9,YW,ch,dS]at hi ⊢;refine ao.aI (au _) func181 rfl rfl (rs:=[.tmp 3]) results181 (by simp[ntmps181]) fun X=>?_;simp only[ntmps181,List.map];refine al [0,1] [] ?_;refine aW trivial hi [3] [] ?_;exact da
structure Ki (T:Prop):Prop where
 out:T
theorem BF {T U:Prop} (h:Ki T->U) (t:T):U:=h ⟨t⟩
theorem R8 {p:Yy} {s:List UInt8} (h:¬ YH p s < 0):∃ k:Nat,∃ hk:k < p.names.length,YH p s=k:=by
 obtain⟨k,hk,he,_⟩:=oK h;exact⟨k,hk,he⟩
theorem Q8 (G:Yt) (p:Yy) (hp:p.names.length < 2^62) (r:fg) (hb:∀ e,r.cond=some e->bE e<=2^28/\(Zh true e).length < 2^62):ao prog G 126 [cg p,y3 r] (.v (.int .i64 (aaO p r))):=by
 obtain⟨kind,name,cond⟩:=r;dsimp only at hb;have bB:=mf G p hp name;have aS:=fun s=>Ha G p hp s;simp only[cg,b9,YW,ch,y3,bD,dS]at bB aS ⊢
 cases cond with
 | none=>
  have fA:aaO p ⟨kind,name,none⟩=1:=rfl;generalize aaO p ⟨kind,name,none⟩=res at fA;refine ao.aI (au _) func126 rfl rfl (rs:=[.tmp 4]) results126 (by simp[ntmps126]) fun X=>?_;simp only[ntmps126,List.map];have fw:=(Aq @dC.eq_1 @dC.eq_2);refine Ys fw [2,3] [2,3] ?_;refine ae fun K1 Yw=>?_;by_cases h1:kind < 1
  .have qf:=(Aq fw @h1);refine aC [2,3,19] [2,3] ?_;refine Yx rfl ?_;refine Ys fw [4] [] ?_;exact aY (Aq fw @fA)
  .by_cases h2:kind > 6
   .have qf:=(Aq fw (Aq @h1 @h2));refine aC [2,3,19] [2,3] ?_;refine Yx rfl ?_;refine Ys fw [4] [] ?_;exact aY (Aq fw @fA)
   .have qf:=(Aq fw (Aq @h1 @h2));refine aC [2,3,19] [2,3] ?_;refine Yx rfl ?_;refine Ys fw [4] [] ?_;exact aY (Aq fw @fA)
 | some e=>
  have fA:aaO p ⟨kind,name,some e⟩=if decide (kind < 1) || decide (kind > 6) then 1 else if YH p name < 0 then 7
   else if jR kind≠(p.names.getD (YH p name).toNat ⟨[],0,0⟩).kind then 1 else if (Zh true e).any fun s=>decide (YH p s < 0) then 7 else 0:=rfl
  generalize aaO p ⟨kind,name,some e⟩=res at fA;obtain⟨FC,eK⟩:=hb e rfl;have pX:=B0 G e FC;have vT:=yU G none (Zh true e) 181 [.ip (b9 p)] (fun s=>decide (YH p s < 0)) eK fun s _=>Ha G p hp s;have Af:dC (some e)=dE e:=rfl;rw[Af];obtain⟨tx,cx,hx⟩:=dY e;rw[hx]at pX ⊢;simp only[b9,YW,ch,dS]at pX vT;generalize ((Zh true e).any fun s=>decide (YH p s < 0))=an at fA vT;generalize Zh true e=nm at pX vT;refine ao.aI (au _) func126 rfl rfl (rs:=[.tmp 4]) results126 (by simp[ntmps126]) fun X=>?_;simp only[ntmps126,List.map];have fw:=(Aq @dC.eq_1 @dC.eq_2);refine Ys fw [2,3] [2,3] ?_;refine Y5 fw 2 ?_;refine Y5 fw 3 ?_;refine ae fun K1 Yw=>?_;by_cases h1:kind < 1
  .rw[if_pos (by simp[h1])]at fA;have qf:=(Aq fw @h1);refine aC [2,3,19] [] ?_;refine Yx rfl ?_;refine Ys fw [4] [] ?_;exact aY (Aq fw @fA)
  by_cases h2:kind > 6
  .rw[if_pos (by simp[h2])]at fA;have qf:=(Aq fw (Aq @h1 @h2));refine aC [2,3,19] [] ?_;refine Yx rfl ?_;refine Ys fw [4] [] ?_;exact aY (Aq fw @fA)
  rw[if_neg (by simp[h1,h2])]at fA;have qf:=(Aq fw (Aq @h1 @h2));refine aC [2,3,19] [] ?_;refine ag rfl ?_;refine ar (Yw _ ?_);refine aW fw bB [2,3,5] [] ?_;refine ae fun K2 aa=>?_;refine Ys fw [2,3,5,25] [] ?_;by_cases h3:YH p name < 0
  .rw[if_pos h3]at fA;refine Yx (by simp[h3]) ?_;refine Ys fw [4] [] ?_;exact aY (Aq fw @fA)
  rw[if_neg h3]at fA;obtain⟨k,hk,lE⟩:=R8 h3
  have lA:p.names.getD (YH p name).toNat ⟨[],0,0⟩=p.names[k]:=by
   rw[lE,Int.toNat_natCast,List.getD_eq_getElem?_getD,List.getElem?_eq_getElem hk];rfl
  rw[lA]at fA;refine ag (by simp[h3]) ?_;refine ar (aa _ ?_);refine ae fun K3 bf=>?_;have Z4:YE p.names[k]=[dS p.names[k].name,.v (.int .i64 p.names[k].kind),.v (.int .i64 p.names[k].count)]:=rfl;generalize hkk:p.names[k].kind=kk at fA Z4
  refine' BF (fun bx=>?_) ?_
  rotate_left
  .have re:=h1;by_cases Y2:kind=1
   .have qf:=(Aq fw @Y2);refine aC [2,3,5,6] [] ?_;refine AW.st (show _=(⟨YB [(2,.d (.ip [.sl none (p.names.map YE),.sl none (p.aq.map bD)])),(3,.d (.ip [.v (.int .i64 kind),.v (.string (bs name)),.bg tx cx])),(5,int (YH p name)),(6,int (jR kind))],ah []⟩:St) by rw[Y2]<;>rfl) ?_;exact bx.out
   by_cases Y2:kind=2
   .have qf:=(Aq fw @Y2);refine aC [2,3,5,6] [] ?_;refine AW.st (show _=(⟨YB [(2,.d (.ip [.sl none (p.names.map YE),.sl none (p.aq.map bD)])),(3,.d (.ip [.v (.int .i64 kind),.v (.string (bs name)),.bg tx cx])),(5,int (YH p name)),(6,int (jR kind))],ah []⟩:St) by rw[Y2]<;>rfl) ?_;exact bx.out
   by_cases Y2:kind=3
   .have qf:=(Aq fw @Y2);refine aC [2,3,5,6] [] ?_;refine AW.st (show _=(⟨YB [(2,.d (.ip [.sl none (p.names.map YE),.sl none (p.aq.map bD)])),(3,.d (.ip [.v (.int .i64 kind),.v (.string (bs name)),.bg tx cx])),(5,int (YH p name)),(6,int (jR kind))],ah []⟩:St) by rw[Y2]<;>rfl) ?_;exact bx.out
   by_cases Y2:kind=4
   .have qf:=(Aq fw @Y2);refine aC [2,3,5,6] [] ?_;refine AW.st (show _=(⟨YB [(2,.d (.ip [.sl none (p.names.map YE),.sl none (p.aq.map bD)])),(3,.d (.ip [.v (.int .i64 kind),.v (.string (bs name)),.bg tx cx])),(5,int (YH p name)),(6,int (jR kind))],ah []⟩:St) by rw[Y2]<;>rfl) ?_;exact bx.out
   by_cases Y2:kind=5
   .have qf:=(Aq fw @Y2);refine aC [2,3,5,6] [] ?_;refine AW.st (show _=(⟨YB [(2,.d (.ip [.sl none (p.names.map YE),.sl none (p.aq.map bD)])),(3,.d (.ip [.v (.int .i64 kind),.v (.string (bs name)),.bg tx cx])),(5,int (YH p name)),(6,int (jR kind))],ah []⟩:St) by rw[Y2]<;>rfl) ?_;exact bx.out
   have Y2:kind=6:=by omega
   have qf:=(Aq fw @Y2);refine aC [2,3,5,6] [] ?_;refine AW.st (show _=(⟨YB [(2,.d (.ip [.sl none (p.names.map YE),.sl none (p.aq.map bD)])),(3,.d (.ip [.v (.int .i64 kind),.v (.string (bs name)),.bg tx cx])),(5,int (YH p name)),(6,int (jR kind))],ah []⟩:St) by rw[Y2]<;>rfl) ?_;exact bx.out
  .rw[lE];have qf:=(Aq fw (Aq @hk @Z4));refine aC [2,3,37] [] ?_;by_cases h4:kk=jR kind
   .rw[if_neg (by simp[h4])]at fA;refine ag (by simp[h4]) ?_;refine ar (bf _ ?_);refine ae fun K4 bZ=>?_;refine rg [42] [] (fun _ _=>trivial) fun K' Yu=>?_;(repeat (refine aP fun K2 aa=>?_;simp[dC];(repeat (refine⟨by omega,?_⟩));refine aa _ ?_;clear aa K2));refine aP fun K2 aa=>?_;simp[dC];refine YR.data (pX) (by simp;rfl) (by first | exact D.YG _ | simp[aQ,List.map_map,Function.comp_def,D.le,D.le.go,D.le_refl,D.YG,dC]) ?_;refine aa _ ?_;clear aa K2;simp only[aw,cJ];(repeat (refine aP fun K2 aa=>?_;simp[dC];(repeat (refine⟨by omega,?_⟩));refine aa _ ?_;clear aa K2));refine aP fun K2 aa=>?_;simp[dC];refine YR.data (vT) (by simp;rfl) (by first | exact D.YG _ | simp[aQ,List.map_map,Function.comp_def,D.le,D.le.go,D.le_refl,D.YG,dC]) ?_;refine aa _ ?_;clear aa K2;simp only[aw,cJ];(repeat (refine aP fun K2 aa=>?_;simp[dC];(repeat (refine⟨by omega,?_⟩));refine aa _ ?_;clear aa K2));refine YM (Yu _ (AW.st (by simp[dC];rfl) ?_));clear Yu K'
    cases an with
    | true=>
     rw[if_pos rfl]at fA;refine Yx rfl ?_;refine Ys fw [4] [] ?_;exact aY (Aq fw @fA)
    | false=>
     rw[if_neg (by decide)]at fA;refine ag rfl ?_;refine ar (bZ _ ?_);refine Ys fw [4] [] ?_;exact aY (Aq fw @fA)
   .rw[if_pos (fun h=>h4 h.symm)]at fA;refine Yx (by simp[h4]) ?_;refine Ys fw [4] [] ?_;exact aY (Aq fw @fA)
theorem zn {α:Type} {f:Nat->α->Int}:∀ {l:List α} {i n:Nat} (hn:n < l.length),(∀ k (hk:k < l.length),k < n->f (i+k) l[k]=0)->f (i+n) l[n]≠0->jy f l i=some (f (i+n) l[n],i+n)
 | x :: l,i,0,_,_,aG=>by rw[jy,if_neg (show ¬ f i x=0 from aG)];rfl
 | x :: l,i,n+1,hn,hb,aG=>by
  have h0:f i x=0:=hb 0 (by simp) (by omega)
  have e:∀ k,i+1+k=i+(k+1):=fun k=>by omega
  rw[jy,if_pos h0,zn (l:=l) (i:=i+1) (n:=n) (by simpa using hn) (fun k hk l4=>by rw[e];exact hb (k+1) (by simpa using hk) (by omega)) (by rw[e];exact aG),e];rfl
theorem zp {α:Type} {f:Nat->α->Int}:∀ {l:List α} {i:Nat},(∀ k (hk:k < l.length),f (i+k) l[k]=0)->jy f l i=none
 | [],_,_=>rfl
 | x :: l,i,hb=>by
  have e:∀ k,i+1+k=i+(k+1):=fun k=>by omega
  rw[jy,if_pos (show f i x=0 from hb 0 (by simp)),zp fun k hk=>by rw[e];exact hb (k+1) (by simpa using hk)]
structure yn (p:Yy):Prop where
 nl:p.names.length < 2^62
 rl:p.aq.length < 2^62
 nn:∀ n∈p.names,n.name.length < 2^60
 cb:∀ r∈p.aq,∀ e,r.cond=some e->bE e<=2^28/\(Zh true e).length < 2^62
theorem G2 (G:Yt) (p:Yy) (hp:yn p):ao prog G 63 [cg p] (aO (YP p)):=by
 obtain⟨eK,hrl,hnn,vW⟩:=hp
 have lJ:YP p=if p.names.length > 12\/p.aq.length > 40 then some (4,none) else match jy (n0 p) p.names 0 with
  | some (e,i)=>some (e,some i)
  | none=>match jy (fun _ r=>aaO p r) p.aq 0 with
   | some (e,i)=>some (e,some (p.names.length+i))
   | none=>none:=rfl
 generalize jc:YP p=res;rw[lJ]at jc;have bB:=fun s=>mf G p eK s;have jB:=fun r h=>Q8 G p eK r h;simp only[cg,b9,YW,ch,dS]at bB jB ⊢;refine ao.aI (au _) func63 rfl rfl (rs:=[.tmp 2]) results63 (by simp[ntmps63]) fun X=>?_;simp only[ntmps63,List.map];refine al [1] [1] ?_;refine eB 1 ?_;refine ae fun K1 Yw=>?_;by_cases g0:(p.names.length:Int) > 12
 .rw[if_pos (.inl (by omega))]at jc;have qf:=@g0;refine aC [1,19] [] ?_;refine Yx rfl ?_;refine al [2] [] ?_;refine b6 ?_;simp[D.le,D.le.go,aQ];simp[<- jc,aO,D.le]
 by_cases g1:(p.aq.length:Int) > 40
 .rw[if_pos (.inr (by omega))]at jc;have qf:=(Aq @g0 @g1);refine aC [1,19] [] ?_;refine Yx rfl ?_;refine al [2] [] ?_;refine b6 ?_;simp[D.le,D.le.go,aQ];simp[<- jc,aO,D.le]
 rw[if_neg (by omega)]at jc;have qf:=(Aq @g0 @g1);refine aC [1,19] [] ?_;refine ag rfl ?_;refine ar (Yw _ ?_);refine ae fun K2 aa=>?_;refine al [1,22,23,24] [] ?_;refine cr (S:=Nat) (fun n=>n<=p.names.length/\∀ k (hk:k < p.names.length),k < n->n0 p k p.names[k]=0) (fun n=>⟨YB [(1,.d (.ip [.sl none (p.names.map YE),.sl none (p.aq.map bD)])),(22,.d (.sl none (p.names.map YE))),(23,int p.names.length),(24,int n)],ah []⟩) (fun n=>p.names.length - n) 0 ?_ (by simp) ?_
 .refine eg
 .rintro n ⟨hn,hb⟩;refine al [1,22,23,24,25] [] ?_;refine ae fun K3 bf=>?_;refine eM (b:=n < p.names.length) (by simp[D.le,D.le.go,aQ]) (fun hc=>?_) (fun hc=>?_)
  .have Yv:=hc
   have Z8:n0 p n p.names[n]≠0->res=some (n0 p n p.names[n],some n):=fun aG=>by
    rw[<- jc,zn (i:=0) Yv (fun k hk l4=>by rw[Nat.zero_add];exact hb k hk l4) (by rw[Nat.zero_add];exact aG)];simp
   have gw:=hnn _ (List.getElem_mem Yv);have Z4:YE p.names[n]=[dS p.names[n].name,.v (.int .i64 p.names[n].kind),.v (.int .i64 p.names[n].count)]:=rfl
   have Zm:n0 p n p.names[n]=if !eS p.names[n].name then 5 else if decide (p.names[n].kind < 1) || decide (p.names[n].kind > 4) then 1 else if ((decide (p.names[n].kind=3) || decide (p.names[n].kind=4)) && (decide (p.names[n].count < 1) || decide (p.names[n].count > 7))) || (!(decide (p.names[n].kind=3) || decide (p.names[n].kind=4)) && decide (p.names[n].count≠0)) then 2 else if YH p p.names[n].name < n then 9 else 0:=rfl
   generalize hv:n0 p n p.names[n]=v at Zm Z8;generalize p.names[n].name=nm at gw Z4 Zm;generalize p.names[n].kind=kd at Z4 Zm;generalize p.names[n].count=ct at Z4 Zm;have oA:=Hr G nm gw;have oC:=bB nm;simp only[dS]at Z4 oA;generalize eS nm=nf at oA Zm;refine ar (bf _ ?_);refine ae fun K4 bZ=>?_;refine YF ?_;have qf:=(Aq @Yv @Z4);refine aC [1,3,4,22,23,24] [4] ?_;refine eB 4 ?_
   refine' BF (fun bw=>?_) ?_
   rotate_left
   .by_cases k3:kd=3
    .have qf:=@k3;refine aC [1,3,4,5,22,23,24] [] ?_;refine AW.st (show _=(⟨YB [(1,.d (.ip [.sl none (p.names.map YE),.sl none (p.aq.map bD)])),(3,int n),(4,.d (.ip [.v (.string (bs nm)),.v (.int .i64 kd),.v (.int .i64 ct)])),(5,.d (.v (.bool (decide (kd=3) || decide (kd=4))))),(22,.d (.sl none (p.names.map YE))),(23,int p.names.length),(24,int n)],ah []⟩:St) by rw[k3]<;>rfl) ?_;exact bw.out
    .by_cases k4:kd=4
     .have qf:=(Aq @k3 @k4);refine aC [1,3,4,5,22,23,24] [] ?_;refine AW.st (show _=(⟨YB [(1,.d (.ip [.sl none (p.names.map YE),.sl none (p.aq.map bD)])),(3,int n),(4,.d (.ip [.v (.string (bs nm)),.v (.int .i64 kd),.v (.int .i64 ct)])),(5,.d (.v (.bool (decide (kd=3) || decide (kd=4))))),(22,.d (.sl none (p.names.map YE))),(23,int p.names.length),(24,int n)],ah []⟩:St) by rw[k4]<;>rfl) ?_;exact bw.out
     .have e:(decide (kd=3) || decide (kd=4))=false:=by simp[k3,k4]
      have qf:=(Aq @k3 @k4);refine aC [1,3,4,5,22,23,24] [] ?_;refine AW.st (show _=(⟨YB [(1,.d (.ip [.sl none (p.names.map YE),.sl none (p.aq.map bD)])),(3,int n),(4,.d (.ip [.v (.string (bs nm)),.v (.int .i64 kd),.v (.int .i64 ct)])),(5,.d (.v (.bool (decide (kd=3) || decide (kd=4))))),(22,.d (.sl none (p.names.map YE))),(23,int p.names.length),(24,int n)],ah []⟩:St) by rw[e]<;>rfl) ?_;exact bw.out
   .generalize (decide (kd=3) || decide (kd=4))=cB at Zm;refine al [1,3,4,5,6,22,23,24] [] ?_;refine ae fun K5 b4=>?_
    refine' BF (fun bx=>?_) ?_
    rotate_left
    .refine YF ?_;refine aW trivial oA [1,3,4,5,6,22,23,24,37] [] ?_;by_cases AU:nf=true
     rotate_left
     .have F6:nf=false:=by simpa using AU
      rw[if_pos (by simp[F6])]at Zm;rw[F6];refine Yx rfl ?_;refine gB trivial b4 [1,3,6,22,23,24] [] ?_;refine AW.st (show _=(⟨YB [(1,.d (.ip [.sl none (p.names.map YE),.sl none (p.aq.map bD)])),(3,int n),(6,int v),(22,.d (.sl none (p.names.map YE))),(23,int p.names.length),(24,int n)],ah []⟩:St) by rw[Zm]<;>rfl) ?_;exact bx.out
     .rw[if_neg (by simp[AU])]at Zm;rw[AU];refine ag rfl ?_;by_cases k1:kd < 1
      .rw[if_pos (by simp[k1])]at Zm;have qf:=@k1;refine aC [1,3,4,5,6,22,23,24,42] [] ?_;refine Yx rfl ?_;refine gB trivial b4 [1,3,6,22,23,24] [] ?_;refine AW.st (show _=(⟨YB [(1,.d (.ip [.sl none (p.names.map YE),.sl none (p.aq.map bD)])),(3,int n),(6,int v),(22,.d (.sl none (p.names.map YE))),(23,int p.names.length),(24,int n)],ah []⟩:St) by rw[Zm]<;>rfl) ?_;exact bx.out
      by_cases k2:kd > 4
      .rw[if_pos (by simp[k2])]at Zm;have qf:=(Aq @k1 @k2);refine aC [1,3,4,5,6,22,23,24,42] [] ?_;refine Yx rfl ?_;refine gB trivial b4 [1,3,6,22,23,24] [] ?_;refine AW.st (show _=(⟨YB [(1,.d (.ip [.sl none (p.names.map YE),.sl none (p.aq.map bD)])),(3,int n),(6,int v),(22,.d (.sl none (p.names.map YE))),(23,int p.names.length),(24,int n)],ah []⟩:St) by rw[Zm]<;>rfl) ?_;exact bx.out
      rw[if_neg (by simp[k1,k2])]at Zm;have qf:=(Aq @k1 @k2);refine aC [1,3,4,5,6,22,23,24,42] [] ?_;refine ag rfl ?_;by_cases FD:cB=true
      .rw[FD]at Zm ⊢;by_cases c1:ct < 1
       .rw[if_pos (by simp[c1])]at Zm;have qf:=@c1;refine aC [1,3,4,6,22,23,24,51] [] ?_;refine Yx rfl ?_;refine gB trivial b4 [1,3,6,22,23,24] [] ?_;refine AW.st (show _=(⟨YB [(1,.d (.ip [.sl none (p.names.map YE),.sl none (p.aq.map bD)])),(3,int n),(6,int v),(22,.d (.sl none (p.names.map YE))),(23,int p.names.length),(24,int n)],ah []⟩:St) by rw[Zm]<;>rfl) ?_;exact bx.out
       by_cases c2:ct > 7
       .rw[if_pos (by simp[c2])]at Zm;have qf:=(Aq @c1 @c2);refine aC [1,3,4,6,22,23,24,51] [] ?_;refine Yx rfl ?_;refine gB trivial b4 [1,3,6,22,23,24] [] ?_;refine AW.st (show _=(⟨YB [(1,.d (.ip [.sl none (p.names.map YE),.sl none (p.aq.map bD)])),(3,int n),(6,int v),(22,.d (.sl none (p.names.map YE))),(23,int p.names.length),(24,int n)],ah []⟩:St) by rw[Zm]<;>rfl) ?_;exact bx.out
       rw[if_neg (by simp[c1,c2])]at Zm;have qf:=(Aq @c1 @c2);refine aC [1,3,4,6,22,23,24,51] [] ?_;refine ag rfl ?_;refine aW trivial oC [1,3,6,22,23,24,72] [] ?_;by_cases c9:YH p nm < n
       .rw[if_pos c9]at Zm;refine Yx (by simp[c9]) ?_;refine gB trivial b4 [1,3,6,22,23,24] [] ?_;refine AW.st (show _=(⟨YB [(1,.d (.ip [.sl none (p.names.map YE),.sl none (p.aq.map bD)])),(3,int n),(6,int v),(22,.d (.sl none (p.names.map YE))),(23,int p.names.length),(24,int n)],ah []⟩:St) by rw[Zm]<;>rfl) ?_;exact bx.out
       .rw[if_neg c9]at Zm;refine ag (by simp[c9]) ?_;refine ar ?_;refine b4 _ (AW.norm [1,3,6,22,23,24] [] (fun _ _=>trivial) (AW.st (by simp;rfl) ?_));refine AW.st (show _=(⟨YB [(1,.d (.ip [.sl none (p.names.map YE),.sl none (p.aq.map bD)])),(3,int n),(6,int v),(22,.d (.sl none (p.names.map YE))),(23,int p.names.length),(24,int n)],ah []⟩:St) by rw[Zm]<;>rfl) ?_;exact bx.out
      .have N7:cB=false:=by simpa using FD
       rw[N7]at Zm ⊢;by_cases c0:ct=0
       .rw[if_neg (by simp[c0])]at Zm;have qf:=@c0;refine aC [1,3,4,6,22,23,24,51] [] ?_;refine ag rfl ?_;refine aW trivial oC [1,3,6,22,23,24,72] [] ?_;by_cases c9:YH p nm < n
        .rw[if_pos c9]at Zm;refine Yx (by simp[c9]) ?_;refine gB trivial b4 [1,3,6,22,23,24] [] ?_;refine AW.st (show _=(⟨YB [(1,.d (.ip [.sl none (p.names.map YE),.sl none (p.aq.map bD)])),(3,int n),(6,int v),(22,.d (.sl none (p.names.map YE))),(23,int p.names.length),(24,int n)],ah []⟩:St) by rw[Zm]<;>rfl) ?_;exact bx.out
        .rw[if_neg c9]at Zm;refine ag (by simp[c9]) ?_;refine ar ?_;refine b4 _ (AW.norm [1,3,6,22,23,24] [] (fun _ _=>trivial) (AW.st (by simp;rfl) ?_));refine AW.st (show _=(⟨YB [(1,.d (.ip [.sl none (p.names.map YE),.sl none (p.aq.map bD)])),(3,int n),(6,int v),(22,.d (.sl none (p.names.map YE))),(23,int p.names.length),(24,int n)],ah []⟩:St) by rw[Zm]<;>rfl) ?_;exact bx.out
       .rw[if_pos (by simp[c0])]at Zm;have qf:=@c0;refine aC [1,3,4,6,22,23,24,51] [] ?_;refine Yx rfl ?_;refine gB trivial b4 [1,3,6,22,23,24] [] ?_;refine AW.st (show _=(⟨YB [(1,.d (.ip [.sl none (p.names.map YE),.sl none (p.aq.map bD)])),(3,int n),(6,int v),(22,.d (.sl none (p.names.map YE))),(23,int p.names.length),(24,int n)],ah []⟩:St) by rw[Zm]<;>rfl) ?_;exact bx.out
    .by_cases jd:v=0
     .have qf:=@jd;refine aC [1,3,6,22,23,24,80] [] ?_;refine ag rfl ?_;refine ar ?_;refine bZ _ ?_;refine fk ?_;(try simp only[YC,bd]);refine bo.mk (n+1) ⟨by omega,fun k hk l4=>?_⟩ (by omega) ?_
      .by_cases h:k=n
       .subst h;rw[hv,jd]
       .exact hb k hk (by omega)
      refine eg
     .have qf:=@jd;refine aC [1,3,6,22,23,24,80] [] ?_;refine Yx rfl ?_;refine al [2] [84] ?_;refine b6 ?_;simp[D.le,D.le.go,aQ];simp[Z8 jd,aO,D.le,D.le.go]
  .rw[zp fun k hk=>by rw[Nat.zero_add];exact hb k hk (by omega)]at jc;dsimp only at jc;refine bY (aa _ ?_);refine ae fun K6 dB=>?_;refine al [1,88,89,90] [] ?_;refine cr (S:=Nat) (fun n=>n<=p.aq.length/\∀ k (hk:k < p.aq.length),k < n->aaO p p.aq[k]=0) (fun n=>⟨YB [(1,.d (.ip [.sl none (p.names.map YE),.sl none (p.aq.map bD)])),(88,.d (.sl none (p.aq.map bD))),(89,int p.aq.length),(90,int n)],ah []⟩) (fun n=>p.aq.length - n) 0 ?_ (by simp) ?_
   .refine eg
   .rintro n ⟨hn,hb⟩;refine al [1,88,89,90,91] [] ?_;refine ae fun K7 Zl=>?_;refine eM (b:=n < p.aq.length) (by simp[D.le,D.le.go,aQ]) (fun hc=>?_) (fun hc=>?_)
    .have Yv:=hc
     have Z8:aaO p p.aq[n]≠0->res=some (aaO p p.aq[n],some (p.names.length+n)):=fun aG=>by
      rw[<- jc,zn (i:=0) Yv (fun k hk l4=>hb k hk l4) aG];simp
     have Z4:bD p.aq[n]=[.v (.int .i64 p.aq[n].kind),dS p.aq[n].name,dC p.aq[n].cond]:=rfl;have aS:=jB p.aq[n] (vW _ (List.getElem_mem Yv));simp only[y3,Z4]at aS;generalize hv:aaO p p.aq[n]=v at aS Z8
     obtain⟨tc,Af,hsc⟩:∃ tc,dC p.aq[n].cond=tc/\((∃ a b,tc = .bg a b)\/tc = .v .nilIface):=by
      cases p.aq[n].cond with
      | none=>exact⟨_,rfl,.inr rfl⟩
      | some e=>obtain⟨a,b,h⟩:=dY e;exact⟨_,rfl,.inl ⟨a,b,h⟩⟩
     rw[Af]at Z4 aS;generalize p.aq[n].kind=kd at Z4 aS;generalize p.aq[n].name=nm at Z4 aS;simp only[dS]at Z4 aS
     have abx:(p.names.length:Int)+(n:Int)<=2^62:=by omega
     refine ar (Zl _ ?_);refine ae fun K8 cU=>?_;refine YF ?_
     rcases hsc with⟨ta,XK,rfl⟩ | rfl
     all_goals
      .have qf:=(Aq @Yv @Z4);refine aC [1,7,8,88,89,90] [8] ?_;refine eB 8 ?_;refine aW trivial aS [1,7,9,88,89,90] [] ?_;by_cases jd:v=0
       .have qf:=@jd;refine aC [1,7,9,88,89,90,99] [] ?_;refine ag rfl ?_;refine ar (cU _ ?_);refine fk ?_;(try simp only[YC,bd]);refine bo.mk (n+1) ⟨by omega,fun k hk l4=>?_⟩ (by omega) ?_
        .by_cases h:k=n
         .subst h;rw[hv,jd]
         .exact hb k hk (by omega)
        refine eg
       .have qf:=@jd;refine aC [1,7,9,88,89,90,99] [] ?_;refine Yx rfl ?_;refine al [2] [107] ?_;refine b6 ?_;simp[D.le,D.le.go,aQ];simp[Z8 jd,aO,D.le,D.le.go]
    .rw[zp fun k hk=>hb k hk (by omega)]at jc;refine bY (dB _ ?_);refine al [2] [] ?_;refine b6 ?_;simp[D.le,D.le.go,aQ];simp[<- jc,aO]
def gy (l:List Zi) (k:Int):Nat->List Int
 | 0=>[]
 | i+1=>gy l k i ++ if (l.getD i ⟨[],0,0⟩).kind=k then [(i:Int)] else []
theorem tS (l:List Zi) (k:Int):∀ n,(gy l k n).length<=n
 | 0=>Nat.le_refl _
 | n+1=>by rw[gy,List.length_append];have:=tS l k n;split<;>simp<;>omega
theorem G0 (l:List Zi) (k:Int):gy l k 0=[]:=rfl
theorem BC {l:List Zi} {k:Int} {i:Nat} (h:i < l.length):gy l k (i+1)=gy l k i ++ if l[i].kind=k then [(i:Int)] else []:=by
 rw[gy,List.getD_eq_getElem?_getD,List.getElem?_eq_getElem h];rfl
theorem BJ (G:Yt) (p:Yy) (hl:p.names.length < 2^40) (k:Int):ao prog G 64 [cg p,.v (.int .i64 k)] (.sl none ((gy p.names k p.names.length).map fun x=>[.v (.int .i64 x)])):=by
 simp only[cg,b9,YW,ch];generalize p.aq.map bD=R;refine ao.aI (au _) func64 rfl rfl (rs:=[.tmp 4]) results64 (by simp[ntmps64]) fun X=>?_;simp only[ntmps64,List.map];refine al [1,2] [2] ?_;refine eB 2 ?_;refine al [1,2,5] [] ?_;refine ae fun K1 Yw=>?_;refine al [1,5,9,10,11] [] ?_;refine cr (S:=Nat) (fun i=>i<=p.names.length) (fun i=>⟨YB [(1,.d (.v (.int .i64 k))),(5,.own 300 0 (gy p.names k i).length),(9,.d (.sl none (p.names.map YE))),(10,int p.names.length),(11,int i)],ah [(300,.sl 3 1 ((gy p.names k i).map fun x=>[.v (.int .i64 x)]))]⟩) (fun i=>p.names.length - i) 0 ?_ (by simp) ?_
 .refine (aD.kD 5 300 3 1 rfl rfl).trans ?_;refine aD.dw (fun _ _=>trivial) (by simp[G0]) (by simp[G0])
 .intro i hi;have ZA:=tS p.names k i;have tC:=fun h=>BC (l:=p.names) (k:=k) (i:=i) h;generalize O3:gy p.names k i=L at ZA tC ⊢;refine al [1,5,9,10,11,12] [300] ?_;refine ae fun K2 aa=>?_;refine eM (b:=i < p.names.length) (by simp[D.le,D.le.go,aQ]) (fun hc=>?_) (fun hc=>?_)
  .have Yv:=hc;have dM:=tC Yv;have iZ:YE p.names[i]=[.v (.string (bs p.names[i].name)),.v (.int .i64 p.names[i].kind),.v (.int .i64 p.names[i].count)]:=rfl;generalize p.names[i].name=nm at iZ;generalize p.names[i].kind=kd at iZ dM;generalize p.names[i].count=ct at iZ;refine ar (aa _ ?_);refine ae fun K3 bf=>?_;refine YF ?_;have qf:=(Aq @Yv @iZ);refine aC [1,5,6,7,9,10,11] [300,7] ?_;refine eB 7 ?_;by_cases heq:kd=k
   .rw[if_pos heq]at dM;have qf:=@heq;refine aC [1,5,6,9,10,11,19] [300] ?_;refine Yx rfl ?_;refine ZD (au _) fun K' Yu=>?_;(repeat (refine aP fun K2 aa=>?_;simp[List.take_of_length_le];(repeat (refine⟨by omega,?_⟩));refine aa _ ?_;clear aa K2));refine YM (Yu _ ?_);clear Yu K';refine bf _ (AW.norm [1,5,9,10,11] [300] (fun _ _=>trivial) (AW.st (by simp[List.take_of_length_le];rfl) ?_));refine fk ?_;(try simp only[YC,bd]);refine bo.mk (i+1) (by omega) (by omega) ?_;refine bz @dM
   .rw[if_neg heq,List.append_nil]at dM;have qf:=@heq;refine aC [1,5,6,9,10,11,19] [300] ?_;refine ag rfl ?_;refine ar (bf _ ?_);refine fk ?_;(try simp only[YC,bd]);refine bo.mk (i+1) (by omega) (by omega) ?_;refine bz @dM
  .obtain rfl:i=p.names.length:=by omega
   refine bY (Yw _ ?_);refine AW.imp (aD.freeze 300 trivial) ?_;refine AW.st (by simp[List.take_of_length_le];rfl) ?_;refine al [4] [] ?_;exact aY @O3
