/-
  Texts that belong together,in one file: X2,X3,X8p,X4,X9,Y1,Y2,Y3,X5,X6,V7.
-/
import Derived.Test.YtdigkhaofjmgkaaGreatDoorMk20
import Derived.Test.YtdigkhaofjmgkaaGreatDoorMk21
import Derived.Shelf.Small.Strs
import Derived.Lib.IndexLaws
import Derived.Shelf.Strings.OnBuilder
set_option linter.unusedSimpArgs false
set_option linter.unusedVariables false
namespace Go.Proofs.YtdigkhaofjmgkaaGreatDoor
open Go.Av
open Go.Shelf
def bC (t:List UInt8) (i:Int):Row:=.box 182 [.d (dS t),int i]
def bg (t:List UInt8) (i:Int):List (Nat×Row):=[(500,bC t i)]
theorem uh (a:UInt8) (n:Nat) (hn:n < 256):((a.toNat:Int)=(n:Int))↔a=UInt8.ofNat n:=by
 constructor
 .intro h
  have:a.toNat=n:=by omega
  rw [<- this,UInt8.ofNat_toNat]
 .rintro rfl;simp;omega
set_option maxHeartbeats 4000000 in
theorem xA (G:ao) (t:List UInt8) (i:Nat) (ht:t.length < 2^60) (hi:i<=t.length) :
  MC Tryz.prog G [500] 97 [.ref 500 0 0] (ZX (bg t i)) (.d (.Z4 [])) (ZX (bg t (aW t i))):=by
 refine MC.aD (ZZ _) Tryz.func97 rfl rfl (rs:=[]) Tryz.results97 (by simp [Tryz.ntmps97]) rfl fun X=>?_;simp only [Tryz.ntmps97];have fw:=(Aq @ab.eq_1 (Aq @bg.eq_1 (Aq @bC.eq_1 @dS.eq_1)));refine aam (S:=Nat) (fun k=>k<=t.length/\aW t k=aW t i) (fun k=>⟨aX [(0,.ref 500 0 0)],ZX [(500,.box 182 [.d (dS t),int k])]⟩) (fun k=>t.length - k) i ?_ ⟨hi,rfl⟩ ?_
 .refine aU fw
 .rintro k ⟨hk,hs⟩;refine ae fun K1 ay=>?_;by_cases cj:k < t.length
  .have Ql:(k:Int) < (t.length:Int):=by omega
   have ja:t.getD k 0=t[k]:=by simp [List.getD_eq_getElem?_getD,cj]
   by_cases hb:((t[k]).toNat:Int)=32
   .have qf:=(Aq fw (Aq @bh (Aq @aao (Aq @cj @hb))));refine fP [0,23] [500] ?_;refine ak rfl ?_;refine ah (ay _ ?_);refine aR ?_;refine reQ fw ?_;try simp only [aM,aP]
    have fX:t[k]? = some 32:=by
     rw [List.getElem?_eq_getElem cj,(uh _ 32 (by decide)).1 hb];rfl
    refine aV.mk (k+1) ⟨by omega,?_⟩ (by omega) ?_
    .rw [<- EF fX];exact hs
    refine aU fw
   .have qf:=(Aq fw (Aq @bh (Aq @aao (Aq @cj @hb))));refine fP [0,23] [500] ?_;refine ag rfl ?_;refine bH ?_
    have fX:t[k]?≠some 32:=by
     rw [List.getElem?_eq_getElem cj];intro h;apply hb;rw [Option.some.inj h];rfl
    rw [r0 fX] at hs;rw [<- hs];simp [bg,bC,dS,D.le_refl]
  .obtain rfl:k=t.length:=by omega
   have qf:=(Aq fw (Aq @bh @aao));refine fP [0,23] [500] ?_;refine ag rfl ?_;refine bH ?_
   have fX:t[t.length]?≠some 32:=by simp
   rw [r0 fX] at hs;rw [<- hs];simp [bg,bC,dS,D.le_refl]
set_option maxHeartbeats 4000000 in
theorem Ad (G:ao) (t:List UInt8) (i:Nat) (ht:t.length < 2^60) (hi:i<=t.length) (c:UInt8) :
  MC Tryz.prog G [500] 196 [.ref 500 0 0,.d (.v (.int .u8 c.toNat))] (ZX (bg t i)) (.d (.v (.bool (cJ t c i).1))) (ZX (bg t (cJ t c i).2)):=by
 have gr:=xA G t i ht hi;have aa9:=abX hi;unfold cJ;generalize aW t i=j at gr aa9 ⊢;by_cases ju:j < t.length
 .rw [List.getElem?_eq_getElem ju];by_cases hb:t[j]=c
  .have aO:((t[j]).toNat:Int)=(c.toNat:Int):=by rw [hb]
   rw [if_pos (by rw [hb])];refine MC.aD (ZZ _) Tryz.func196 rfl rfl (rs:=[.tmp 4]) Tryz.results196 (by simp [Tryz.ntmps196]) rfl fun X=>?_;simp only [Tryz.ntmps196];have fw:=(Aq @ab.eq_1 (Aq @bg.eq_1 (Aq @bC.eq_1 @dS.eq_1)));refine ZW fw [0,1] [500] ?_;refine Z8 fw gr [0,1] [500] ?_;refine ae fun K1 ay=>?_;have qf:=(Aq fw (Aq @bh (Aq @aao (Aq @ju @aO))));refine fP [0,29] [500] ?_;refine ak rfl ?_;refine ZW fw [] [500] ?_;refine ZW fw [4] [500] ?_;exact aK (Aq fw (Aq @bg.eq_1 @bC.eq_1))
  .have aO:¬ ((t[j]).toNat:Int)=(c.toNat:Int):=fun h=>hb (UInt8.toNat_inj.1 (by omega));rw [if_neg (fun h=>hb (Option.some.inj h))];refine MC.aD (ZZ _) Tryz.func196 rfl rfl (rs:=[.tmp 4]) Tryz.results196 (by simp [Tryz.ntmps196]) rfl fun X=>?_;simp only [Tryz.ntmps196];have fw:=(Aq @ab.eq_1 (Aq @bg.eq_1 (Aq @bC.eq_1 @dS.eq_1)));refine ZW fw [0,1] [500] ?_;refine Z8 fw gr [0,1] [500] ?_;refine ae fun K1 ay=>?_;have qf:=(Aq fw (Aq @bh (Aq @aao (Aq @ju @aO))));refine fP [0,29] [500] ?_;refine ag rfl ?_;refine ah (ay _ ?_);refine ZW fw [4] [500] ?_;exact aK (Aq fw (Aq @bg.eq_1 @bC.eq_1))
 .obtain rfl:j=t.length:=by omega
  rw [if_neg (by simp)];refine MC.aD (ZZ _) Tryz.func196 rfl rfl (rs:=[.tmp 4]) Tryz.results196 (by simp [Tryz.ntmps196]) rfl fun X=>?_;simp only [Tryz.ntmps196];have fw:=(Aq @ab.eq_1 (Aq @bg.eq_1 (Aq @bC.eq_1 @dS.eq_1)));refine ZW fw [0,1] [500] ?_;refine Z8 fw gr [0,1] [500] ?_;refine ae fun K1 ay=>?_;have qf:=(Aq fw (Aq @bh @aao));refine fP [0,29] [500] ?_;refine ag rfl ?_;refine ah (ay _ ?_);refine ZW fw [4] [500] ?_;exact aK (Aq fw (Aq @bg.eq_1 @bC.eq_1))
set_option maxHeartbeats 4000000 in
theorem uQ (G:ao) (t:List UInt8) (i:Nat) (ht:t.length < 2^60) (hi:i<=t.length) (e:Int) :
  MC Tryz.prog G [500] 98 [.ref 500 0 0,.d (ab e)] (ZX (bg t i)) (.d (Z5 (some (e,some (aW t i))))) (ZX (bg t (aW t i))):=by
 have gr:=xA G t i ht hi;generalize aW t i=j at gr ⊢;refine MC.aD (ZZ _) Tryz.func98 rfl rfl (rs:=[.tmp 4]) Tryz.results98 (by simp [Tryz.ntmps98]) rfl fun X=>?_;simp only [Tryz.ntmps98];have fw:=(Aq @ab.eq_1 (Aq @bg.eq_1 (Aq @bC.eq_1 @dS.eq_1)));refine ZW fw [0,1] [500] ?_;refine Z8 fw gr [0,1] [500] ?_;refine ZW fw [4] [500,13] ?_;refine ck fw 13 ?_;exact aK (Aq fw (Aq @bg.eq_1 (Aq @bC.eq_1 (Aq @Z5.eq_1 (Aq @Z5.eq_2 @Z5.eq_3)))))
def lF:List UInt8:=[32,38,124,33,94,126,40,41,48,49,61]
theorem Dk (l:List UInt8) (c:UInt8):Lib.indexByte l c < 0↔c ∉ l:=by
 have pz:=Lib.indexByte_ge l c;constructor
 .intro h hm;obtain ⟨k,hk,rfl⟩:=List.mem_iff_getElem.1 hm;exact Lib.indexByte_none (show Lib.indexByte l l[k] = -1 by omega) k (List.getElem?_eq_getElem hk)
 .intro hm;apply Classical.byContradiction;intro h;obtain ⟨n,hn⟩:=Int.eq_ofNat_of_zero_le (show 0<=Lib.indexByte l c by omega);exact hm (List.mem_of_getElem? (Lib.indexByte_some hn).1)
theorem Ij (G:ao) (l:List UInt8) (c:UInt8):aw Tryz.prog G 116 [dS l,.v (.int .u8 c.toNat)] (ab (Lib.indexByte l c)):=by
 refine aw.mM (eU.of Tryz.func116 rfl rfl) fun X w vs aI bz b8=>?_
 obtain ⟨a,b,rfl⟩:∃ a b,vs = #[a,b]:=by
  match vs,aI with
  | ⟨[a,b]⟩,_=>exact ⟨a,b,rfl⟩
 have ha:=(bz 0 a _ rfl rfl).scalar;have hb:=(bz 1 b _ rfl rfl).scalar;subst ha hb;have fj:=Any.strings_IndexByte (P:=Tryz.prog) (ρ:=Tryz.Dw) { Tryz.Dv with } (bs l) c.toNat w;rw [show (c.toNat:Int).toNat.toUInt8=c by simp] at fj;exact fj.mono fun e w' ⟨he,hw⟩=>⟨_,he,by rw [hw];exact bU.refl _,.v _⟩
end Go.Proofs.YtdigkhaofjmgkaaGreatDoor
namespace Go.Proofs.YtdigkhaofjmgkaaGreatDoor
open Go.Av
theorem FG (t:List UInt8) (i j:Nat):(bs t).extract i j=bs ((t.drop i).take (j - i)):=ByteArray.ext (by
 rw [ByteArray.data_extract];unfold bs;apply Array.toList_inj.1
 simp [List.take_drop,List.extract])
theorem rX:(⟨#[32,38,124,33,94,126,40,41,48,49,61]⟩:ByteArray)=bs lF:=rfl
def jI:Rs (List UInt8)->D
 | .ok s _=>.Z4 [dS s,.v .nilIface]
 | .err c p _=>.Z4 [dS [],Z5 (some (c,some p))]
def bY {α:Type}:Rs α->Nat
 | .ok _ i=>i
 | .err _ p _=>p
theorem ad4 (c:UInt8):c∈lF↔(iI c=true\/c=48\/c=49):=by
 simp only [lF,iI,List.mem_cons,List.not_mem_nil,or_false,List.contains_iff_mem];constructor
 .rintro (h | h | h | h | h | h | h | h | h | h | h)<;>simp [h]
 .rintro ((h | h | h | h | h | h | h | h | h) | h | h)<;>simp [h]
def qh (t:List UInt8) (j k:Nat):Prop:=k=j\/(j < k/\adi t j=true/\ma t (j+1)=ma t k)
theorem nX {t:List UInt8} {j k:Nat} (h:qh t j k) (hk:k<=t.length) (hstop:∀ hk:k < t.length,t[k]∈lF/\(j < k->t[k]≠48/\t[k]≠49)):k=acy t j:=by
 unfold acy
 rcases h with rfl | ⟨hjk,hh,he⟩
 .by_cases hk':k < t.length
  .have:=(ad4 _).1 (hstop hk').1
   have eA:adi t k=false:=by
    unfold adi;rw [List.getElem?_eq_getElem hk']
    rcases this with h | h | h<;>simp [h]
   rw [eA];rfl
  .have eA:adi t k=false:=by
    unfold adi;rw [List.getElem?_eq_none (by omega)]
   rw [eA];rfl
 .rw [hh,if_pos rfl,he,Xf];intro hk';obtain ⟨h1,h2⟩:=hstop hk'
  rcases (ad4 _).1 h1 with h | h | h
  .exact h
  .exact absurd h (h2 hjk).1
  .exact absurd h (h2 hjk).2
theorem uC {t:List UInt8} {j k:Nat} (h:qh t j k) (hk:k < t.length) (dZ:t[k] ∉ lF\/(j < k/\(t[k]=48\/t[k]=49))):qh t j (k+1):=by
 have hs:iI t[k]=false:=by
  rcases dZ with h | ⟨_,h⟩
  .cases hc:iI t[k] with
   | false=>rfl
   | true=>exact absurd ((ad4 _).2 (.inl hc)) h
  .rcases h with h | h<;>rw [h]<;>rfl
 right
 rcases h with rfl | ⟨hjk,hh,he⟩
 .refine ⟨by omega,?_,rfl⟩
  rcases dZ with h | ⟨h,_⟩
  .have h1:t[k]≠48:=fun e=>h ((ad4 _).2 (.inr (.inl e)));have h2:t[k]≠49:=fun e=>h ((ad4 _).2 (.inr (.inr e)));unfold adi;rw [List.getElem?_eq_getElem hk];simp [hs,h1,h2]
  .omega
 .refine ⟨by omega,hh,?_⟩;rw [he,Xe hk hs]
set_option maxHeartbeats 8000000 in
theorem E6 (G:ao) (t:List UInt8) (q i:Nat) (ht:t.length < 2^60) (hi:i<=t.length) :
  MC Tryz.prog G [500] 230 [.ref 500 0 0] (ZX (bg t i)) (.d (jI (aaO t q i))) (ZX (bg t (bY (aaO t q i)))):=by
 have gr:=xA G t i ht hi;have aa9:=abX hi;have pA:=rZ hi;unfold aaO;generalize aW t i=j at gr aa9 pA ⊢;have vu:=uQ G t j ht aa9 3;have vv:=uQ G t j ht aa9 5;rw [pA] at vu vv;have ba:=Ah t j;have het:=EZ aa9;have pN:(t.drop j).take (acy t j - j)=fB t j:=rfl
 have CW:(fB t j).length < 2^60:=by
  rw [<- pN,List.length_take,List.length_drop];omega
 have ig:=IX G (fB t j) CW;refine MC.aD (ZZ _) Tryz.func230 rfl rfl (rs:=[.tmp 2,.tmp 3]) Tryz.results230 (by simp [Tryz.ntmps230]) rfl fun X=>?_;simp only [Tryz.ntmps230];have fw:=(Aq @ab.eq_1 (Aq @bg.eq_1 (Aq @bC.eq_1 @dS.eq_1)));refine ZW fw [0] [500] ?_;refine Z8 fw gr [0] [500] ?_;refine ZW fw [0,4] [500] ?_;refine ae fun K1 ay=>?_;refine aam (S:=Nat) (fun k=>j<=k/\k<=t.length/\qh t j k) (fun k=>⟨aX [(0,.ref 500 0 0),(4,int k)],ZX [(500,.box 182 [.d (dS t),int j])]⟩) (fun k=>t.length - k) j ?_ ⟨Nat.le_refl _,aa9,.inl rfl⟩ ?_
 .refine aU fw
 .rintro k ⟨hjk,hk,hat⟩;refine ae fun K2 aa=>?_
  refine (fun dZ hstop=>?_) (fun (σ:St) (hn:qh t j (k+1)) (cj:k < t.length) himp=>aa σ (AW.imp (τ:=⟨aX [(0,.ref 500 0 0),(4,int k)],ZX [(500,.box 182 [.d (dS t),int j])]⟩) himp ?_))
   (fun (σ:St) (he:k=acy t j) himp=>ay σ (AW.imp (τ:=⟨aX [(0,.ref 500 0 0),(4,int k)],ZX [(500,.box 182 [.d (dS t),int j])]⟩) himp ?_))
  .by_cases cj:k < t.length
   .have eL:=Ij G lF t[k];have Hk:=Dk lF t[k];by_cases hm:t[k]∈lF
    .have s3:¬ Lib.indexByte lF t[k] < 0:=fun h=>Hk.1 h hm;by_cases abD:j < k
     .have iB:(j:Int) < (k:Int):=by omega
      by_cases lR:((t[k]).toNat:Int)=48
      .have hc:t[k]=48:=(uh _ 48 (by decide)).1 lR;have qf:=(Aq fw (Aq @bh (Aq @aao (Aq @rX (Aq @cj (Aq @s3 (Aq @iB (Aq @abD @lR))))))));refine aaF eL [0,4,63] [500] ?_;refine ak rfl ?_;refine ah (dZ _ (uC hat cj (.inr ⟨abD,.inl hc⟩)) cj ?_);refine aU fw
      .by_cases h49:((t[k]).toNat:Int)=49
       .have hc:t[k]=49:=(uh _ 49 (by decide)).1 h49;have qf:=(Aq fw (Aq @bh (Aq @aao (Aq @rX (Aq @cj (Aq @s3 (Aq @iB (Aq @abD (Aq @lR @h49)))))))));refine aaF eL [0,4,63] [500] ?_;refine ak rfl ?_;refine ah (dZ _ (uC hat cj (.inr ⟨abD,.inr hc⟩)) cj ?_);refine aU fw
       .have qf:=(Aq fw (Aq @bh (Aq @aao (Aq @rX (Aq @cj (Aq @s3 (Aq @iB (Aq @abD (Aq @lR @h49)))))))));refine aaF eL [0,4,63] [500] ?_;refine ag rfl ?_;refine bH (hstop _ (nX hat hk fun _=>⟨hm,fun _=>⟨fun e=>lR (by rw [e];rfl),fun e=>h49 (by rw [e];rfl)⟩⟩) ?_);refine aU fw
     .have iB:¬ (j:Int) < (k:Int):=by omega
      have qf:=(Aq fw (Aq @bh (Aq @aao (Aq @rX (Aq @cj (Aq @s3 (Aq @iB @abD)))))));refine aaF eL [0,4,63] [500] ?_;refine ag rfl ?_;refine bH (hstop _ (nX hat hk fun _=>⟨hm,fun h=>absurd h abD⟩) ?_);refine aU fw
    .have s3:Lib.indexByte lF t[k] < 0:=Hk.2 hm;have qf:=(Aq fw (Aq @bh (Aq @aao (Aq @rX (Aq @cj @s3)))));refine aaF eL [0,4,63] [500] ?_;refine ak rfl ?_;refine ah (dZ _ (uC hat cj (.inl hm)) cj ?_);refine aU fw
   .obtain rfl:k=t.length:=by omega
    by_cases abD:j < t.length
    .have iB:(j:Int) < (t.length:Int):=by omega
     have qf:=(Aq fw (Aq @bh (Aq @aao (Aq @rX (Aq @iB @abD)))));refine al [0,4,63] [500] ?_;refine ag rfl ?_;refine bH (hstop _ (nX hat hk fun h=>absurd h cj) ?_);refine aU fw
    .have iB:¬ (j:Int) < (t.length:Int):=by omega
     have qf:=(Aq fw (Aq @bh (Aq @aao (Aq @rX (Aq @iB @abD)))));refine al [0,4,63] [500] ?_;refine ag rfl ?_;refine bH (hstop _ (nX hat hk fun h=>absurd h cj) ?_);refine aU fw
  .refine aR ?_;refine reQ fw ?_;(try simp only [aM,aP]);refine aV.mk (k+1) ⟨by omega,by omega,hn⟩ (by omega) ?_;refine aU fw
  .subst he;clear ay aa;have Da:List.take (acy t j - j) (List.drop j t)=fB t j:=pN;have qf:=(Aq fw (Aq @bh (Aq @FG (Aq @ba (Aq @het @Da)))));refine fP [0,4,5] [500] ?_;refine ae fun K3 aQ=>?_;by_cases hs:fB t j=[]
   .refine rg [0,4,5,77] [500] (cC rfl) fun K' af=>?_;(repeat (refine Z0 fun K2 aa=>?_;simp [ab,bg,bC,dS,hs,bo,aT,aN];(repeat (refine ⟨by omega,?_⟩));refine aa _ ?_;clear aa K2));refine Z9 (af _ (AW.st (by simp [ab,bg,bC,dS,hs,bo,aT,aN];rfl) ?_));clear af K';refine ak rfl ?_;refine Z8 (Aq fw (Aq @Z5.eq_1 (Aq @Z5.eq_2 @Z5.eq_3))) vu [2,3] [500] ?_;refine bk ?_;simp [D.le,D.le.go,aB,ab,bg,bC,dS,bg,bC,jI,bY,Z5,bo,hs]
   .have pJ:(fB t j == [])=false:=by simpa using hs
    have vT:(fB t j).isEmpty=false:=by rw [List.isEmpty_eq_false_iff];exact hs
    refine rg [0,4,5,77] [500] (cC rfl) fun K' af=>?_;(repeat (refine Z0 fun K2 aa=>?_;simp [ab,bg,bC,dS,bo,aT,aN,hs,pJ,vT];(repeat (refine ⟨by omega,?_⟩));refine aa _ ?_;clear aa K2));refine Z9 (af _ (AW.st (by simp [ab,bg,bC,dS,bo,aT,aN,hs,pJ,vT];rfl) ?_));clear af K';refine ag rfl ?_;refine ah (aQ _ ?_);refine ae fun K4 bN=>?_
    cases hn:fL (fB t j) with
    | false=>
     rw [hn] at ig;refine Z6 fw ig [0,4,5,82] [500] ?_;refine ak rfl ?_;refine Z8 (Aq fw (Aq @Z5.eq_1 (Aq @Z5.eq_2 @Z5.eq_3))) vv [2,3] [500] ?_;refine bk ?_;simp [D.le,D.le.go,aB,ab,bg,bC,dS,bg,bC,jI,bY,Z5,bo,hs,hn]
    | true=>
     rw [hn] at ig;refine Z6 fw ig [0,4,5,82] [500] ?_;refine ag rfl ?_;refine ah (bN _ ?_);refine ZW fw [5] [500] ?_;refine ZW fw [2,3] [500] ?_;exact aK (Aq fw (Aq @bg.eq_1 (Aq @bC.eq_1 (Aq @jI.eq_1 (Aq @jI.eq_2 (Aq @bY.eq_1 (Aq @bY.eq_2 (Aq @hs @hn))))))))
end Go.Proofs.YtdigkhaofjmgkaaGreatDoor
namespace Go.Proofs.YtdigkhaofjmgkaaGreatDoor
theorem Kx {α:Type} {t:List UInt8} {s:UInt8} {f:Nat->Rs α} (hf:abZ t f):∀ (n m i:Nat) (acc:List α),i<=t.length->t.length+1 - i<=n->t.length+1 - i<=m->fc t s f n i acc=fc t s f m i acc
 | 0,_,i,_,hi,h,_=>by omega
 | _+1,0,i,_,hi,_,h=>by omega
 | n+1,m+1,i,acc,hi,h1,h2=>by
  rw [fc,fc]
  cases bu:f i with
  | err c p q=>rfl
  | ok x j=>
   obtain ⟨g1,g2⟩:=hf i x j hi bu;obtain ⟨t1,t2,t3⟩:=j7 (c:=s) g2;dsimp only;split
   .exact Kx hf n m _ _ t2 (by omega) (by omega)
   .rfl
def abW {α:Type} (t:List UInt8) (s:UInt8) (f:Nat->Rs α) (i:Nat) (acc:List α):Rs (List α):=fc t s f (t.length+1 - i) i acc
theorem oX {α:Type} {t:List UInt8} {s:UInt8} {f:Nat->Rs α} (hf:abZ t f) {i:Nat} (hi:i<=t.length) (acc:List α):abW t s f i acc=match f i with
  | .err c p _=>.err c p 0
  | .ok x j=>if (cJ t s j).1 then abW t s f (cJ t s j).2 (acc ++ [x]) else .ok (acc ++ [x]) (cJ t s j).2:=by
 unfold abW;obtain ⟨n,hn⟩:∃ n,t.length+1 - i=n+1:=⟨t.length - i,by omega⟩;rw [hn,fc]
 cases bu:f i with
 | err c p q=>rfl
 | ok x j=>
  obtain ⟨g1,g2⟩:=hf i x j hi bu;obtain ⟨t1,t2,t3⟩:=j7 (c:=s) g2;dsimp only;split
  .exact Kx hf _ _ _ _ t2 (by omega) (by omega)
  .rfl
theorem ED {α:Type} {t:List UInt8} {s:UInt8} {f:Nat->Rs α}:∀ (n i:Nat) (acc:List α) {c:Int} {p q:Nat},fc t s f n i acc = .err c p q->q=0
 | 0,_,_,_,_,_,h=>by simp only [fc,Rs.err.injEq] at h;omega
 | n+1,i,acc,c,p,q,h=>by
  rw [fc] at h;split at h
  .simp only [Rs.err.injEq] at h;omega
  .split at h
   .exact ED n _ _ h
   .cases h
theorem A5 {l:List Ex} (h:l.length≠1):ac4 l = .and l:=by
 match l,h with
 | [],_=>rfl
 | [_],h=>exact absurd rfl h
 | _ :: _ :: _,_=>rfl
theorem A6 {l:List Ex} (h:l.length≠1):ac5 l = .or l:=by
 match l,h with
 | [],_=>rfl
 | [_],h=>exact absurd rfl h
 | _ :: _ :: _,_=>rfl
open Go.Av
mutual
def dE:Ex->D
 | .eV b=>.br 188 (.v (.bool b))
 | .bit s=>.br 189 (dS s)
 | .fQ s=>.br 190 (dS s)
 | .fC s=>.br 191 (dS s)
 | .not e=>.br 114 (.agg [dE e])
 | .and l=>.br 192 (.sl none (uK l))
 | .or l=>.br 116 (.sl none (uK l))
def uK:List Ex->List (List D)
 | []=>[]
 | e :: l=>[dE e] :: uK l
end
theorem n5:∀ l:List Ex,uK l=l.map fun e=>[dE e]
 | []=>rfl
 | e :: l=>by rw [uK,n5 l];rfl
theorem abq (e:Ex):∃ t y,dE e = .br t y:=by
 cases e<;>simp only [dE]<;>exact ⟨_,_,rfl⟩
def su (l:List Ex):D:=.sl none (l.map fun e=>[dE e])
def dQ (q:Nat):D:=if q=1 then .br 190 (dS []) else if q=2 then .br 191 (dS []) else if q=3 then .br 189 (dS []) else .v .nilIface
def cD:Rs Ex->D
 | .ok x _=>.Z4 [dE x,.v .nilIface]
 | .err c p q=>.Z4 [dQ q,Z5 (some (c,some p))]
def jH:Rs (List Ex)->D
 | .ok l _=>.Z4 [su l,.v .nilIface]
 | .err c p _=>.Z4 [.sl (some false) [],Z5 (some (c,some p))]
set_option maxHeartbeats 8000000 in
theorem Ky (G:ao) (t:List UInt8) (ht:t.length<=2000) (g:FuncId) (s:UInt8) (sn:Int) (hsn:(s.toNat:Int)=sn) (d:Int) (f:Nat->Rs Ex) (hf:abZ t f)
  (dA:∀ i,i<=t.length->MC Tryz.prog G [500] g [.ref 500 0 0,.d (ab d)] (ZX (bg t i)) (.d (cD (f i))) (ZX (bg t (bY (f i))))) (i:Nat) (hi:i<=t.length) :
  MC Tryz.prog G [500] 148 [.ref 500 0 0,.d (.v (.int .u8 sn)),.d (ab d),.bm g (.ref 500 0 0)] (ZX (bg t i)) (.d (jH (abW t s f i []))) (ZX (bg t (bY (abW t s f i [])))):=by
 generalize hR:abW t s f i []=R;refine MC.aD (ZZ _) Tryz.func148 rfl rfl (rs:=[.tmp 8,.tmp 9]) Tryz.results148 (by simp [Tryz.ntmps148]) rfl fun X=>?_;simp only [Tryz.ntmps148];have fw:=(Aq @ab.eq_1 (Aq @bg.eq_1 (Aq @bC.eq_1 @dS.eq_1)));refine ZW fw [0,1,2,3] [500] ?_;refine ZW fw [0,1,2,3,10] [500] ?_;refine aam (S:=Nat×List Ex) (fun z=>z.1<=t.length/\z.2.length<=z.1/\abW t s f z.1 z.2=R) (fun z=>⟨aX [(0,.ref 500 0 0),(1,.d (.v (.int .u8 sn))),(2,.d (ab d)),(3,.bm g (.ref 500 0 0)),(10,.own 300 0 z.2.length)],ZX [(500,.box 182 [.d (dS t),int z.1]),(300,.sl 90 1 (z.2.map fun e=>[dE e]))]⟩) (fun z=>t.length - z.1) (i,[]) ?_ ⟨hi,by simp,hR⟩ ?_
 .refine (Z1.kc 10 300 90 1 rfl rfl).trans ?_;refine aU fw
 .rintro ⟨k,acc⟩ ⟨hk,BU,hs⟩;dsimp only at hk BU hs ⊢;have hc:=dA k hk;rw [oX hf hk] at hs;refine aR ?_
  cases Cp:f k with
  | err c p q=>
   rw [Cp] at hc hs;dsimp only at hs;subst hs;refine Z8 (Aq fw (Aq @cD.eq_1 (Aq @cD.eq_2 (Aq @Z5.eq_1 (Aq @Z5.eq_2 @Z5.eq_3))))) hc [0,1,2,3,10,11,12] [500,300] ?_;refine ae fun K1 ay=>?_;refine ZW fw [0,1,2,3,10,11,12,20] [500,300] ?_;refine ak rfl ?_;refine ZW fw [8,9] [500] ?_;exact aK (Aq fw (Aq @bg.eq_1 (Aq @bC.eq_1 (Aq @jH.eq_1 (Aq @jH.eq_2 (Aq @bY.eq_1 (Aq @bY.eq_2 (Aq @Z5.eq_1 (Aq @Z5.eq_2 @Z5.eq_3)))))))))
  | ok x j=>
   rw [Cp] at hc hs;dsimp only at hs;obtain ⟨g1,g2⟩:=hf k x j hk Cp;have cq:=Ad G t j (by omega) g2 s;rw [hsn] at cq;obtain ⟨t1,t2,t3⟩:=j7 (c:=s) g2;obtain ⟨tx,cx,hx⟩:=abq x;have qf:=(Aq fw (Aq @cD.eq_1 (Aq @cD.eq_2 (Aq @bY.eq_1 (Aq @bY.eq_2 @hx)))));refine abi hc [0,1,2,3,10,11,12] [500,300] ?_;refine ae fun K1 ay=>?_;refine ZW fw [0,1,2,3,10,11,12,20] [500,300] ?_;refine ag rfl ?_;refine ah (ay _ ?_);refine rg [0,1,2,3,10] [500,300] (cC rfl) fun K' af=>?_;(repeat (refine Z0 fun K2 aa=>?_;simp [ab,bg,bC,dS,List.take_of_length_le];(repeat (refine ⟨by omega,?_⟩));refine aa _ ?_;clear aa K2));refine Z9 (af _ (AW.st (by simp [ab,bg,bC,dS,List.take_of_length_le];rfl) ?_));clear af K'
   cases vW:cJ t s j with
   | mk b k2=>
   rw [vW] at hs cq t1 t2 t3;dsimp only at hs cq t1 t2 t3
   cases b with
   | true=>
    rw [if_pos rfl] at hs;have ax:=t3 rfl;refine Z8 fw cq [0,1,2,3,10,29] [500,300] ?_;refine ag rfl ?_;refine ah ?_;refine aV.mk (k2,acc ++ [x]) ⟨t2,by simp;omega,hs⟩ (by dsimp only;omega) ?_;refine aU (Aq fw @hx)
   | false=>
    rw [if_neg (by simp)] at hs;subst hs;refine Z8 fw cq [0,1,2,3,10,29] [500,300] ?_;refine ak rfl ?_;refine AW.imp (Z1.freeze 300 (by decide)) ?_;refine AW.st (by simp [ab,bg,bC,dS];rfl) ?_;refine ZW fw [8,9] [500] ?_;exact aK (Aq fw (Aq @bg.eq_1 (Aq @bC.eq_1 (Aq @jH.eq_1 (Aq @jH.eq_2 (Aq @su.eq_1 (Aq @bY.eq_1 (Aq @bY.eq_2 @hx))))))))
set_option maxHeartbeats 8000000 in
theorem LS (G:ao) (t:List UInt8) (ht:t.length<=2000) (d:Nat) (abx:∀ i,i<=t.length->MC Tryz.prog G [500] 197 [.ref 500 0 0,.d (ab d)] (ZX (bg t i)) (.d (cD (aae t d i))) (ZX (bg t (bY (aae t d i))))) (i:Nat) (hi:i<=t.length) :
  MC Tryz.prog G [500] 149 [.ref 500 0 0,.d (ab d)] (ZX (bg t i)) (.d (cD (jo t (aae t d) i))) (ZX (bg t (bY (jo t (aae t d) i)))):=by
 have mG:=Ky G t ht 197 38 38 rfl d (aae t d) (j5 t d) abx i hi;have hR:jo t (aae t d) i=(abW t 38 (aae t d) i []).map ac4:=rfl;rw [hR];have hq:∀ {c:Int} {p q:Nat},abW t 38 (aae t d) i [] = .err c p q->q=0:=fun h=>ED _ _ _ h
 cases hs:abW t 38 (aae t d) i [] with
 | err c p q=>
  obtain rfl:=hq hs;rw [hs] at mG;refine MC.aD (ZZ _) Tryz.func149 rfl rfl (rs:=[.tmp 4,.tmp 5]) Tryz.results149 (by simp [Tryz.ntmps149]) rfl fun X=>?_;simp only [Tryz.ntmps149];have fw:=(Aq @ab.eq_1 (Aq @bg.eq_1 (Aq @bC.eq_1 @dS.eq_1)));refine ZW fw [0,1] [500] ?_;refine Z8 (Aq fw (Aq @jH.eq_1 (Aq @jH.eq_2 (Aq @Z5.eq_1 (Aq @Z5.eq_2 @Z5.eq_3))))) mG [6,7] [500] ?_;refine ae fun K1 ay=>?_;refine ZW fw [6,7,17] [500] ?_;refine ak rfl ?_;refine ZW fw [4,5] [500] ?_;refine bk ?_;simp [D.le,D.le.go,aB,ab,bg,bC,dS,bg,bC,cD,bY,Z5,Rs.map,dQ]
 | ok l p=>
  rw [hs] at mG;by_cases hl:l.length=1
  .obtain ⟨x,rfl⟩:=List.length_eq_one_iff.1 hl;obtain ⟨tx,cx,hx⟩:=abq x;refine MC.aD (ZZ _) Tryz.func149 rfl rfl (rs:=[.tmp 4,.tmp 5]) Tryz.results149 (by simp [Tryz.ntmps149]) rfl fun X=>?_;simp only [Tryz.ntmps149];have fw:=(Aq @ab.eq_1 (Aq @bg.eq_1 (Aq @bC.eq_1 @dS.eq_1)));refine ZW fw [0,1] [500] ?_;have qf:=(Aq fw (Aq @jH.eq_1 (Aq @jH.eq_2 (Aq @su.eq_1 @hx))));refine abi mG [6,7] [500] ?_;refine ae fun K1 ay=>?_;refine ZW fw [6,7,17] [500] ?_;refine ag rfl ?_;refine ah (ay _ ?_);refine ae fun K2 aa=>?_;refine ZW fw [6,21] [500] ?_;refine ak rfl ?_;refine ZW fw [4,5] [500] ?_;refine bk ?_;simp [D.le,D.le.go,aB,ab,bg,bC,dS,bg,bC,cD,bY,Rs.map,ac4,hx,D.le_refl]
  .have ek:¬ (l.length:Int)=1:=by omega
   have qP:=A5 hl;refine MC.aD (ZZ _) Tryz.func149 rfl rfl (rs:=[.tmp 4,.tmp 5]) Tryz.results149 (by simp [Tryz.ntmps149]) rfl fun X=>?_;simp only [Tryz.ntmps149];have fw:=(Aq @ab.eq_1 (Aq @bg.eq_1 (Aq @bC.eq_1 @dS.eq_1)));refine ZW fw [0,1] [500] ?_;refine Z8 (Aq fw (Aq @jH.eq_1 (Aq @jH.eq_2 @su.eq_1))) mG [6,7] [500] ?_;refine ae fun K1 ay=>?_;refine ZW fw [6,7,17] [500] ?_;refine ag rfl ?_;refine ah (ay _ ?_);refine ae fun K2 aa=>?_;have qf:=(Aq fw (Aq @hl @ek));refine al [6,21] [500] ?_;refine ag rfl ?_;refine ah (aa _ ?_);refine ZW fw [4,5] [500] ?_;refine bk ?_;simp [D.le,D.le.go,aB,ab,bg,bC,dS,bg,bC,cD,bY,Rs.map,qP,dE,n5,D.le_refl,D.bn]
set_option maxHeartbeats 8000000 in
theorem Jj (G:ao) (t:List UInt8) (ht:t.length<=2000) (d:Nat) (abx:∀ i,i<=t.length->MC Tryz.prog G [500] 197 [.ref 500 0 0,.d (ab d)] (ZX (bg t i)) (.d (cD (aae t d i))) (ZX (bg t (bY (aae t d i))))) (i:Nat) (hi:i<=t.length) :
  MC Tryz.prog G [500] 96 [.ref 500 0 0,.d (ab d)] (ZX (bg t i)) (.d (cD (orR t (aae t d) i))) (ZX (bg t (bY (orR t (aae t d) i)))):=by
 have mG:=Ky G t ht 149 124 124 rfl d (jo t (aae t d)) (aec (j5 t d)) (LS G t ht d abx) i hi;have hR:orR t (aae t d) i=(abW t 124 (jo t (aae t d)) i []).map ac5:=rfl;rw [hR];have hq:∀ {c:Int} {p q:Nat},abW t 124 (jo t (aae t d)) i [] = .err c p q->q=0:=fun h=>ED _ _ _ h
 cases hs:abW t 124 (jo t (aae t d)) i [] with
 | err c p q=>
  obtain rfl:=hq hs;rw [hs] at mG;refine MC.aD (ZZ _) Tryz.func96 rfl rfl (rs:=[.tmp 4,.tmp 5]) Tryz.results96 (by simp [Tryz.ntmps96]) rfl fun X=>?_;simp only [Tryz.ntmps96];have fw:=(Aq @ab.eq_1 (Aq @bg.eq_1 (Aq @bC.eq_1 @dS.eq_1)));refine ZW fw [0,1] [500] ?_;refine Z8 (Aq fw (Aq @jH.eq_1 (Aq @jH.eq_2 (Aq @Z5.eq_1 (Aq @Z5.eq_2 @Z5.eq_3))))) mG [6,7] [500] ?_;refine ae fun K1 ay=>?_;refine ZW fw [6,7,17] [500] ?_;refine ak rfl ?_;refine ZW fw [4,5] [500] ?_;refine bk ?_;simp [D.le,D.le.go,aB,ab,bg,bC,dS,bg,bC,cD,bY,Z5,Rs.map,dQ]
 | ok l p=>
  rw [hs] at mG;by_cases hl:l.length=1
  .obtain ⟨x,rfl⟩:=List.length_eq_one_iff.1 hl;obtain ⟨tx,cx,hx⟩:=abq x;refine MC.aD (ZZ _) Tryz.func96 rfl rfl (rs:=[.tmp 4,.tmp 5]) Tryz.results96 (by simp [Tryz.ntmps96]) rfl fun X=>?_;simp only [Tryz.ntmps96];have fw:=(Aq @ab.eq_1 (Aq @bg.eq_1 (Aq @bC.eq_1 @dS.eq_1)));refine ZW fw [0,1] [500] ?_;have qf:=(Aq fw (Aq @jH.eq_1 (Aq @jH.eq_2 (Aq @su.eq_1 @hx))));refine abi mG [6,7] [500] ?_;refine ae fun K1 ay=>?_;refine ZW fw [6,7,17] [500] ?_;refine ag rfl ?_;refine ah (ay _ ?_);refine ae fun K2 aa=>?_;refine ZW fw [6,21] [500] ?_;refine ak rfl ?_;refine ZW fw [4,5] [500] ?_;refine bk ?_;simp [D.le,D.le.go,aB,ab,bg,bC,dS,bg,bC,cD,bY,Rs.map,ac5,hx,D.le_refl]
  .have ek:¬ (l.length:Int)=1:=by omega
   have qP:=A6 hl;refine MC.aD (ZZ _) Tryz.func96 rfl rfl (rs:=[.tmp 4,.tmp 5]) Tryz.results96 (by simp [Tryz.ntmps96]) rfl fun X=>?_;simp only [Tryz.ntmps96];have fw:=(Aq @ab.eq_1 (Aq @bg.eq_1 (Aq @bC.eq_1 @dS.eq_1)));refine ZW fw [0,1] [500] ?_;refine Z8 (Aq fw (Aq @jH.eq_1 (Aq @jH.eq_2 @su.eq_1))) mG [6,7] [500] ?_;refine ae fun K1 ay=>?_;refine ZW fw [6,7,17] [500] ?_;refine ag rfl ?_;refine ah (ay _ ?_);refine ae fun K2 aa=>?_;have qf:=(Aq fw (Aq @hl @ek));refine al [6,21] [500] ?_;refine ag rfl ?_;refine ah (aa _ ?_);refine ZW fw [4,5] [500] ?_;refine bk ?_;simp [D.le,D.le.go,aB,ab,bg,bC,dS,bg,bC,cD,bY,Rs.map,qP,dE,n5,D.le_refl,D.bn]
end Go.Proofs.YtdigkhaofjmgkaaGreatDoor
namespace Go.Proofs.YtdigkhaofjmgkaaGreatDoor
def sb {α:Type} (sz:α->Nat) (t:List UInt8) (f:Nat->Rs α):Prop:=∀ i x j,i<=t.length->f i = .ok x j->sz x<=5 * (j - i)
def Has (t:List UInt8) (p:Nat) (w:List UInt8):Prop:=∀ k,k < w.length->t[p+k]? = w[k]?
theorem Has.cons {t:List UInt8} {p:Nat} {c:UInt8} {w:List UInt8} (h:Has t p (c :: w)):t[p]? = some c/\Has t (p+1) w:=by
 refine ⟨by simpa using h 0 (by simp),fun k hk=>?_⟩;have:=h (k+1) (by simp;omega);rw [show p+1+k=p+(k+1) by omega,this];rfl
theorem Has.app {t:List UInt8} {p:Nat} {u v:List UInt8} (h:Has t p (u ++ v)):Has t p u/\Has t (p+u.length) v:=by
 constructor
 .intro k hk;rw [h k (by simp;omega),List.getElem?_append_left hk]
 .intro k hk;rw [show p+u.length+k=p+(u.length+k) by omega,h (u.length+k) (by simp;omega),List.getElem?_append_right (by omega)];congr 1;omega
theorem Has.top {t:List UInt8} {p:Nat} {w:List UInt8} (h:Has t p w) (hp:p<=t.length):p+w.length<=t.length:=by
 cases w with
 | nil=>simpa using hp
 | cons c w=>
  have h1:=h w.length (by simp)
  have h2:(c :: w)[w.length]?≠none:=by simp
  rw [<- h1] at h2
  have h3:p+w.length < t.length:=by
   apply Classical.byContradiction;intro hn;exact h2 (List.getElem?_eq_none (by omega))
  simp only [List.length_cons];omega
theorem Uw {s:List UInt8} (h:fL s=true):s≠[]/\s.length<=8/\(∀ c∈s,iI c=false)/\∀ c,s[0]? = some c->iI c=false/\c≠48/\c≠49/\97<=c.toNat:=by
 unfold fL at h;simp only [Bool.and_eq_true,decide_eq_true_eq,afc] at h;obtain ⟨h1,h2,h3,h4,h5,-⟩:=h
 have hs:∀ c:UInt8,acC.contains c=true->iI c=false:=by
  have h:∀ n:Fin 256,acC.contains (UInt8.ofNat n)=true->iI (UInt8.ofNat n)=false:=by decide +kernel
  intro c;have:=h ⟨c.toNat,c.toNat_lt⟩;simpa using this
 refine ⟨h1,h2,fun c hc=>hs c (h5 c hc),fun c hc=>?_⟩;have hm:c∈s:=List.mem_of_getElem? hc
 have hg:s.getD 0 0=c:=by rw [List.getD_eq_getElem?_getD,hc];rfl
 rw [hg] at h3;refine ⟨hs c (h5 c hm),?_,?_,h3⟩<;>rintro rfl<;>revert h3<;>decide
mutual
def WfE:Ex->Prop
 | .eV _=>True
 | .bit s=>fL s=true
 | .fQ s=>fL s=true
 | .fC s=>fL s=true
 | .not e=>WfE e
 | .and l=>2<=l.length/\sg l
 | .or l=>2<=l.length/\sg l
def sg:List Ex->Prop
 | []=>True
 | e :: l=>WfE e/\sg l
end
theorem qp:∀ l:List Ex,sg l↔∀ e∈l,WfE e
 | []=>by simp [sg]
 | e :: l=>by simp [sg,qp l]
mutual
def dpE:Ex->Nat
 | .eV _=>1
 | .bit _=>1
 | .fQ _=>1
 | .fC _=>1
 | .not e=>dpE e+1
 | .and l=>pf l+1
 | .or l=>ph l+1
def pf:List Ex->Nat
 | []=>0
 | e :: l=>max (dpE e) (pf l)
def ph:List Ex->Nat
 | []=>0
 | e :: l=>max (match e with | .and m=>pf m | e=>dpE e) (ph l)
end
def pg:Ex->Nat
 | .and l=>pf l
 | .or l=>ph l
 | e=>dpE e
def dpJ:Ex->Nat
 | .and l=>pf l
 | e=>dpE e
theorem Nw (e:Ex) (l:List Ex):ph (e :: l)=max (dpJ e) (ph l):=by
 cases e<;>simp [ph,dpJ]
theorem Nv (e:Ex):dpJ e<=dpE e:=by cases e<;>simp [dpJ,dpE]
theorem Nu (e:Ex):pg e<=dpJ e:=by
 cases e<;>simp [pg,dpJ,dpE]
theorem Nt (e:Ex):dpE e<=pg e+1:=by
 cases e<;>simp [pg,dpE]
theorem Ez {t:List UInt8} {s:UInt8} {f:Nat->Rs Ex} (P:Ex->Prop) (hf:∀ i x j,f i = .ok x j->P x):∀ (n i:Nat) (acc l:List Ex) (j:Nat),fc t s f n i acc = .ok l j->(∀ x∈acc,P x)->∀ x∈l,P x
 | 0,i,acc,l,j,h,_=>by simp [fc] at h
 | n+1,i,acc,l,j,h,ha=>by
  rw [fc] at h
  cases bu:f i with
  | err c p q=>rw [bu] at h;cases h
  | ok x k=>
   rw [bu] at h;dsimp only at h
   have eJ:∀ y∈acc ++ [x],P y:=fun y hy=>by
    rcases List.mem_append.1 hy with hy | hy
    .exact ha y hy
    .simp at hy;subst hy;exact hf _ _ _ bu
   split at h
   .exact Ez P hf n _ _ l j h eJ
   .simp only [Rs.ok.injEq] at h;obtain ⟨rfl,-⟩:=h;exact eJ
theorem EC {t:List UInt8} {s:UInt8} {f:Nat->Rs Ex}:∀ (n i:Nat) (acc l:List Ex) (j:Nat),fc t s f n i acc = .ok l j->acc.length < l.length
 | 0,i,acc,l,j,h=>by simp [fc] at h
 | n+1,i,acc,l,j,h=>by
  rw [fc] at h;split at h
  .cases h
  .split at h
   .have:=EC n _ _ l j h;simp only [List.length_append,List.length_singleton] at this;omega
   .simp only [Rs.ok.injEq] at h;obtain ⟨rfl,-⟩:=h;simp
theorem F7 {d:Nat}:∀ {l:List Ex},(∀ x∈l,dpE x<=d)->pf l<=d
 | [],_=>by simp [pf]
 | e :: l,h=>by
  have h1:=h e (by simp);have h2:=F7 (l:=l) fun x hx=>h x (by simp [hx]);rw [pf];omega
theorem F8 {d:Nat}:∀ {l:List Ex},(∀ x∈l,dpJ x<=d)->ph l<=d
 | [],_=>by simp [ph]
 | e :: l,h=>by
  have h1:=h e (by simp);have h2:=F8 (l:=l) fun x hx=>h x (by simp [hx]);rw [Nw];omega
theorem LU {t:List UInt8} {d:Nat} (h:∀ i x j,aae t d i = .ok x j->WfE x/\dpE x<=d) {i j:Nat} {x:Ex} (he:jo t (aae t d) i = .ok x j):WfE x/\dpJ x<=d:=by
 obtain ⟨l,h1,rfl⟩:=acp he;have ha:=Ez (fun x=>WfE x/\dpE x<=d) h _ _ _ _ _ h1 (by simp);have hp:=EC _ _ _ _ _ h1;by_cases hl:l.length=1
 .obtain ⟨x,rfl⟩:=List.length_eq_one_iff.1 hl;have:=ha x (by simp);exact ⟨this.1,Nat.le_trans (Nv x) this.2⟩
 .rw [A5 hl];exact ⟨⟨by simp at hp;omega,(qp _).2 fun x hx=>(ha x hx).1⟩,F7 fun x hx=>(ha x hx).2⟩
theorem Jk {t:List UInt8} {d:Nat} (h:∀ i x j,aae t d i = .ok x j->WfE x/\dpE x<=d) {i j:Nat} {x:Ex} (he:orR t (aae t d) i = .ok x j):WfE x/\pg x<=d:=by
 obtain ⟨l,h1,rfl⟩:=acp he;have ha:=Ez (fun x=>WfE x/\dpJ x<=d) (fun i x j h'=>LU h h') _ _ _ _ _ h1 (by simp);have hp:=EC _ _ _ _ _ h1;by_cases hl:l.length=1
 .obtain ⟨x,rfl⟩:=List.length_eq_one_iff.1 hl;have:=ha x (by simp);exact ⟨this.1,Nat.le_trans (Nu x) this.2⟩
 .rw [A6 hl];exact ⟨⟨by simp at hp;omega,(qp _).2 fun x hx=>(ha x hx).1⟩,F8 fun x hx=>(ha x hx).2⟩
theorem E7 {t:List UInt8} {q i j:Nat} {s:List UInt8} (h:aaO t q i = .ok s j):fL s=true:=by
 unfold aaO at h;split at h
 .cases h
 .split at h
  .cases h
  .rename_i hn;simp only [Rs.ok.injEq] at h;obtain ⟨rfl,-⟩:=h;simpa using hn
theorem Jg (t:List UInt8):∀ d i x j,aae t d i = .ok x j->WfE x/\dpE x<=d
 | 0,i,x,j,h=>by simp [aae] at h
 | d+1,i,x,j,h=>by
  have ih:=Jg t d;rw [aae] at h;split at h
  .cases he:aae t d (aW t i+1) with
   | err c p q=>rw [he] at h;cases h
   | ok y k=>
    rw [he] at h;simp only [Rs.ok.injEq] at h;obtain ⟨rfl,rfl⟩:=h;have:=ih _ _ _ he;exact ⟨this.1,by simp only [dpE];omega⟩
  split at h
  .cases he:orR t (aae t d) (aW t i+1) with
   | err c p q=>rw [he] at h;cases h
   | ok y k=>
    rw [he] at h;dsimp only at h;split at h
    .simp only [Rs.ok.injEq] at h;obtain ⟨rfl,rfl⟩:=h;have:=Jk ih he;have h3:=Nt y;exact ⟨this.1,by omega⟩
    .cases h
  split at h
  .simp only [Rs.ok.injEq] at h;obtain ⟨rfl,rfl⟩:=h;exact ⟨trivial,by simp only [dpE];omega⟩
  split at h
  .simp only [Rs.ok.injEq] at h;obtain ⟨rfl,rfl⟩:=h;exact ⟨trivial,by simp only [dpE];omega⟩
  split at h
  .obtain ⟨s,h3,rfl⟩:=acp h;exact ⟨E7 h3,by simp only [dpE];omega⟩
  split at h
  .obtain ⟨s,h3,rfl⟩:=acp h;exact ⟨E7 h3,by simp only [dpE];omega⟩
  .obtain ⟨s,h3,rfl⟩:=acp h;exact ⟨E7 h3,by simp only [dpE];omega⟩
theorem D9 {t:List UInt8} {x:Ex} (h:(aba t).1=some x):WfE x/\pg x<=20:=by
 unfold aba at h;split at h
 .cases h
 .split at h
  .cases h
  .rename_i y i he;split at h
   .cases h
   .obtain rfl:=Option.some.inj h;exact Jk (Jg t 20) he
mutual
def evE (is bD:List UInt8->Bool):Ex->Bool
 | .eV b=>b
 | .bit s=>is s
 | .fQ s=>is s && !bD s
 | .fC s=>!is s && bD s
 | .not e=>!evE is bD e
 | .and l=>sB is bD l
 | .or l=>sC is bD l
def sB (is bD:List UInt8->Bool):List Ex->Bool
 | []=>true
 | e :: l=>evE is bD e && sB is bD l
def sC (is bD:List UInt8->Bool):List Ex->Bool
 | []=>false
 | e :: l=>evE is bD e || sC is bD l
end
mutual
def bE:Ex->Nat
 | .eV _=>4
 | .bit s=>s.length+3
 | .fQ s=>s.length+4
 | .fC s=>s.length+4
 | .not e=>bE e+1
 | .and l=>eH l+5
 | .or l=>eH l+5
def eH:List Ex->Nat
 | []=>0
 | e :: l=>bE e+eH l
end
theorem uD:∀ (a b:List Ex),eH (a ++ b)=eH a+eH b
 | [],b=>by simp [eH]
 | e :: a,b=>by simp only [List.cons_append,eH,uD a b];omega
theorem xw:∀ e:Ex,3<=bE e
 | .not e=>by have:=xw e;simp only [bE];omega
 | .eV _=>by simp [bE]
 | .bit _=>by simp [bE]
 | .fQ _=>by simp only [bE];omega
 | .fC _=>by simp only [bE];omega
 | .and _=>by simp only [bE];omega
 | .or _=>by simp only [bE];omega
theorem uE {x:Ex}:∀ {l:List Ex},x∈l->bE x<=eH l
 | y :: l,h=>by
  rw [eH]
  rcases List.mem_cons.1 h with rfl | h
  .omega
  .have:=uE h;omega
theorem o7:∀ l:List Ex,3 * l.length<=eH l
 | []=>by simp
 | e :: l=>by have:=o7 l;have:=xw e;simp only [List.length_cons,eH];omega
theorem EB {t:List UInt8} {s:UInt8} {f:Nat->Rs Ex} (hg:abZ t f) (hf:sb bE t f):∀ (n i:Nat) (acc l:List Ex) (j:Nat),i<=t.length->fc t s f n i acc = .ok l j->eH l+5 * (l.length - 1)<=eH acc+5 * acc.length+5 * (j - i)/\acc.length < l.length
 | 0,i,acc,l,j,_,h=>by simp [fc] at h
 | n+1,i,acc,l,j,hi,h=>by
  rw [fc] at h
  cases bu:f i with
  | err c p q=>rw [bu] at h;cases h
  | ok x k=>
   rw [bu] at h;obtain ⟨h1,h2⟩:=hg i x k hi bu;have h5:=hf i x k hi bu;obtain ⟨t1,t2,t3⟩:=j7 (c:=s) h2;dsimp only at h;split at h
   .rename_i ht;have h4:=t3 ht;have ih:=EB hg hf n _ _ l j t2 h;have h6:=zZ hg n _ _ l j t2 h;simp only [uD,eH,List.length_append,List.length_singleton] at ih;omega
   .simp only [Rs.ok.injEq] at h;obtain ⟨rfl,rfl⟩:=h;simp only [uD,eH,List.length_append,List.length_singleton];omega
theorem MX {l:List Ex} {m:Nat} (h:eH l+5 * (l.length - 1)<=m) (h0:0 < l.length):bE (ac4 l)<=m:=by
 by_cases h1:l.length=1
 .obtain ⟨x,rfl⟩:=List.length_eq_one_iff.1 h1;simp only [eH,List.length_singleton] at h;show bE x<=m;omega
 .rw [A5 h1,bE];omega
theorem MZ {l:List Ex} {m:Nat} (h:eH l+5 * (l.length - 1)<=m) (h0:0 < l.length):bE (ac5 l)<=m:=by
 by_cases h1:l.length=1
 .obtain ⟨x,rfl⟩:=List.length_eq_one_iff.1 h1;simp only [eH,List.length_singleton] at h;show bE x<=m;omega
 .rw [A6 h1,bE];omega
theorem LR {t:List UInt8} {one:Nat->Rs Ex} (hg:abZ t one) (h:sb bE t one):sb bE t (jo t one):=fun i x j hi he=>by
 obtain ⟨l,h1,rfl⟩:=acp he;have:=EB hg h _ _ _ _ _ hi h1;simp only [eH,List.length_nil] at this;exact MX (by omega) (by omega)
theorem Ji {t:List UInt8} {one:Nat->Rs Ex} (hg:abZ t one) (h:sb bE t one):sb bE t (orR t one):=fun i x j hi he=>by
 obtain ⟨l,h1,rfl⟩:=acp he;have:=EB (aec hg) (LR hg h) _ _ _ _ _ hi h1;simp only [eH,List.length_nil] at this;exact MZ (by omega) (by omega)
theorem ae2 (t:List UInt8) (q i j:Nat) (s:List UInt8) (hi:i<=t.length) (h:aaO t q i = .ok s j):s.length<=j - i/\1<=j - i:=by
 have hg:=Al t q i s j hi h;have h1:=aes t i;unfold aaO at h;split at h
 .cases h
 .split at h
  .cases h
  .simp only [Rs.ok.injEq] at h;obtain ⟨rfl,rfl⟩:=h;have h4:=Ah t (aW t i);unfold fB;rw [List.length_take];omega
theorem Jf (t:List UInt8):∀ d,sb bE t (aae t d)
 | 0=>fun i x j _ h=>by simp [aae] at h
 | d+1=>fun i x j hi h=>by
  have ih:=Jf t d;have hg:=j5 t d;have h1:=aes t i;have h2:=abX hi;have hb:∀ {c:UInt8},t[aW t i]? = some c->aW t i < t.length:=fun hc=>(List.getElem?_eq_some_iff.1 hc).1;rw [aae] at h;split at h
  .rename_i hc;have:=hb hc
   cases he:aae t d (aW t i+1) with
   | err c p q=>rw [he] at h;cases h
   | ok y k=>
    rw [he] at h;simp only [Rs.ok.injEq] at h;obtain ⟨rfl,rfl⟩:=h;have h3:=ih _ y k (by omega) he;have h4:=hg _ y k (by omega) he;simp only [bE];omega
  split at h
  .rename_i _ hc;have:=hb hc
   cases he:orR t (aae t d) (aW t i+1) with
   | err c p q=>rw [he] at h;cases h
   | ok y k=>
    rw [he] at h;dsimp only at h;have h3:=Ji hg ih _ y k (by omega) he;have h4:=oV hg _ y k (by omega) he;obtain ⟨t1,t2,t3⟩:=j7 (c:=41) h4.2;split at h
    .simp only [Rs.ok.injEq] at h;obtain ⟨rfl,rfl⟩:=h;omega
    .cases h
  split at h
  .rename_i _ _ hc;have:=hb hc;simp only [Rs.ok.injEq] at h;obtain ⟨rfl,rfl⟩:=h;simp only [bE];omega
  split at h
  .rename_i _ _ _ hc;have:=hb hc;simp only [Rs.ok.injEq] at h;obtain ⟨rfl,rfl⟩:=h;simp only [bE];omega
  split at h
  .rename_i _ _ _ _ hc;have:=hb hc;obtain ⟨s,h3,rfl⟩:=acp h;have h4:=ae2 t 1 _ j s (by omega) h3;simp only [bE];omega
  split at h
  .rename_i _ _ _ _ _ hc;have:=hb hc;obtain ⟨s,h3,rfl⟩:=acp h;have h4:=ae2 t 2 _ j s (by omega) h3;simp only [bE];omega
  .obtain ⟨s,h3,rfl⟩:=acp h;have h4:=ae2 t 3 _ j s (by omega) h3;simp only [bE];omega
theorem Jr {t:List UInt8} {x:Ex} (h:(aba t).1=some x):bE x<=10000:=by
 unfold aba at h;split at h
 .cases h
 .rename_i hl;split at h
  .cases h
  .rename_i y i he;split at h
   .cases h
   .obtain rfl:=Option.some.inj h;have h1:=Ji (j5 t 20) (Jf t 20) 0 y i (Nat.zero_le _) he;have h2:=oV (j5 t 20) 0 y i (Nat.zero_le _) he;omega
open Go.Av
theorem KW {t:List UInt8} {c:UInt8} {i j:Nat} (hj:aW t i=j):cJ t c i=if t[j]? = some c then (true,j+1) else (false,j):=by
 unfold cJ;rw [hj]
theorem E5 {t:List UInt8} {q i:Nat} {c:Int} {p q':Nat} (h:aaO t q i = .err c p q'):q'=q:=by
 unfold aaO at h;split at h
 .simp only [Rs.err.injEq] at h;omega
 .split at h
  .simp only [Rs.err.injEq] at h;omega
  .cases h
set_option maxHeartbeats 16000000 in
theorem UY (G:ao) (t:List UInt8) (ht:t.length<=2000):∀ (d:Nat),d<=20->∀ i,i<=t.length->MC Tryz.prog G [500] 197 [.ref 500 0 0,.d (ab d)] (ZX (bg t i)) (.d (cD (aae t d i))) (ZX (bg t (bY (aae t d i)))):=by
 intro d
 induction d with
 | zero=>
  intro _ i hi;have dH:=uQ G t i (by omega) hi 4;refine MC.aD (ZZ _) Tryz.func197 rfl rfl (rs:=[.tmp 4,.tmp 5]) Tryz.results197 (by simp [Tryz.ntmps197]) rfl fun X=>?_;simp only [Tryz.ntmps197];have fw:=(Aq @ab.eq_1 (Aq @bg.eq_1 (Aq @bC.eq_1 @dS.eq_1)));refine ZW fw [0,1] [500] ?_;refine ae fun K1 ay=>?_;refine ZW fw [0,1,17] [500] ?_;refine ak rfl ?_;refine Z8 (Aq fw (Aq @Z5.eq_1 (Aq @Z5.eq_2 @Z5.eq_3))) dH [4,5] [500] ?_;exact aK (Aq fw (Aq @bg.eq_1 (Aq @bC.eq_1 (Aq @cD.eq_1 (Aq @cD.eq_2 (Aq @aae.eq_1 (Aq @aae.eq_2 (Aq @bY.eq_1 (Aq @bY.eq_2 (Aq @Z5.eq_1 (Aq @Z5.eq_2 (Aq @Z5.eq_3 @dQ.eq_1))))))))))))
 | succ d ih=>
  intro hd i hi;have ih:=ih (by omega);have hor:=Jj G t ht d ih;have aa9:=abX hi;have pA:=rZ hi
  have gI:¬ (d:Int)+1=0:=by omega
  have ri:t.length < 2^60:=by omega
  have C4:∀ c,MC Tryz.prog G [500] 196 [.ref 500 0 0,.d (.v (.int .u8 c.toNat))] (ZX (bg t i)) (.d (.v (.bool (cJ t c i).1))) (ZX (bg t (cJ t c i).2)):=fun c=>Ad G t i ri hi c;rw [aae];generalize hj:aW t i=j at aa9 pA ⊢;have lq:∀ c,MC Tryz.prog G [500] 196 [.ref 500 0 0,.d (.v (.int .u8 c.toNat))] (ZX (bg t j)) (.d (.v (.bool (cJ t c j).1))) (ZX (bg t (cJ t c j).2)):=fun c=>Ad G t j ri aa9 c;have xv:=fun c=>KW (t:=t) (c:=c) hj;have AP:=fun c=>KW (t:=t) (c:=c) pA;simp only [xv] at C4;simp only [AP] at lq;have ax:∀ {c:UInt8},t[j]? = some c->j+1<=t.length:=fun h=>(List.getElem?_eq_some_iff.1 h).1;have kr:=C4 33;have lv:=lq 40;have nu:=lq 48;have oT:=lq 49;have k94:=lq 94;have ad1:=lq 126;clear C4 xv AP hj;by_cases c33:t[j]? = some 33
  .rw [if_pos c33] at kr ⊢;have hc:=ih (j+1) (ax c33)
   cases hr:aae t d (j+1) with
   | err c p q=>
    rw [hr] at hc;refine MC.aD (ZZ _) Tryz.func197 rfl rfl (rs:=[.tmp 4,.tmp 5]) Tryz.results197 (by simp [Tryz.ntmps197]) rfl fun X=>?_;simp only [Tryz.ntmps197];have fw:=(Aq @ab.eq_1 (Aq @bg.eq_1 (Aq @bC.eq_1 @dS.eq_1)));refine ZW fw [0,1] [500] ?_;refine ae fun K1 ay=>?_;have qf:=(Aq fw @gI);refine al [0,1,17] [500] ?_;refine ag rfl ?_;refine ah (ay _ ?_);refine ae fun K2 aa=>?_;refine aR ?_;refine Z8 fw kr [0,1,20] [500] ?_;refine ak rfl ?_;refine Z8 (Aq fw (Aq @cD.eq_1 (Aq @cD.eq_2 (Aq @Z5.eq_1 (Aq @Z5.eq_2 @Z5.eq_3))))) hc [6,7] [500] ?_;refine ae fun K3 aQ=>?_;refine ZW fw [6,7,31] [500] ?_;refine ak rfl ?_;refine ZW fw [4,5] [500] ?_;exact aK (Aq fw (Aq @bg.eq_1 (Aq @bC.eq_1 (Aq @cD.eq_1 (Aq @cD.eq_2 (Aq @bY.eq_1 (Aq @bY.eq_2 (Aq @Z5.eq_1 (Aq @Z5.eq_2 (Aq @Z5.eq_3 @dQ.eq_1))))))))))
   | ok x k=>
    rw [hr] at hc;obtain ⟨tx,cx,hx⟩:=abq x;refine MC.aD (ZZ _) Tryz.func197 rfl rfl (rs:=[.tmp 4,.tmp 5]) Tryz.results197 (by simp [Tryz.ntmps197]) rfl fun X=>?_;simp only [Tryz.ntmps197];have fw:=(Aq @ab.eq_1 (Aq @bg.eq_1 (Aq @bC.eq_1 @dS.eq_1)));refine ZW fw [0,1] [500] ?_;refine ae fun K1 ay=>?_;have qf:=(Aq fw @gI);refine al [0,1,17] [500] ?_;refine ag rfl ?_;refine ah (ay _ ?_);refine ae fun K2 aa=>?_;refine aR ?_;refine Z8 fw kr [0,1,20] [500] ?_;refine ak rfl ?_;have qf:=(Aq fw (Aq @cD.eq_1 (Aq @cD.eq_2 @hx)));refine abi hc [6,7] [500] ?_;refine ae fun K3 aQ=>?_;refine ZW fw [6,7,31] [500] ?_;refine ag rfl ?_;refine ah (aQ _ ?_);refine ZW fw [4,5] [500] ?_;refine bk ?_;simp [D.le,D.le.go,aB,ab,bg,bC,dS,bg,bC,cD,bY,dE,hx,D.le_refl]
  rw [if_neg c33] at kr ⊢;by_cases c40:t[j]? = some 40
  .rw [if_pos c40] at lv ⊢;have hc:=hor (j+1) (ax c40)
   cases hr:orR t (aae t d) (j+1) with
   | err c p q=>
    rw [hr] at hc;refine MC.aD (ZZ _) Tryz.func197 rfl rfl (rs:=[.tmp 4,.tmp 5]) Tryz.results197 (by simp [Tryz.ntmps197]) rfl fun X=>?_;simp only [Tryz.ntmps197];have fw:=(Aq @ab.eq_1 (Aq @bg.eq_1 (Aq @bC.eq_1 @dS.eq_1)));refine ZW fw [0,1] [500] ?_;refine ae fun K1 ay=>?_;have qf:=(Aq fw @gI);refine al [0,1,17] [500] ?_;refine ag rfl ?_;refine ah (ay _ ?_);refine ae fun K2 aa=>?_;refine aR ?_;refine Z8 fw kr [0,1,20] [500] ?_;refine ag rfl ?_;refine Z8 fw lv [0,1,36] [500] ?_;refine ak rfl ?_;refine Z8 (Aq fw (Aq @cD.eq_1 (Aq @cD.eq_2 (Aq @Z5.eq_1 (Aq @Z5.eq_2 @Z5.eq_3))))) hc [0,8,9] [500] ?_;refine ae fun K4 bN=>?_;refine ZW fw [0,8,9,47] [500] ?_;refine ak rfl ?_;refine ZW fw [4,5] [500] ?_;exact aK (Aq fw (Aq @bg.eq_1 (Aq @bC.eq_1 (Aq @cD.eq_1 (Aq @cD.eq_2 (Aq @bY.eq_1 (Aq @bY.eq_2 (Aq @Z5.eq_1 (Aq @Z5.eq_2 (Aq @Z5.eq_3 @dQ.eq_1))))))))))
   | ok x k=>
    rw [hr] at hc;obtain ⟨tx,cx,hx⟩:=abq x;have vC:=(oV (j5 t d) (j+1) x k (ax c40) hr).2;have k41:=Ad G t k ri vC 41;have htg:=j7 (c:=41) vC
    have BA:(cJ t 41 k).1=false->aW t (cJ t 41 k).2=(cJ t 41 k).2:=fun h=>by
     unfold cJ at h ⊢;split at h
     .cases h
     .rw [if_neg ‹_›];exact rZ vC
    cases vW:cJ t 41 k with
    | mk b k2=>
    rw [vW] at k41 htg BA;dsimp only at k41 htg BA ⊢
    cases b with
    | true=>
     refine MC.aD (ZZ _) Tryz.func197 rfl rfl (rs:=[.tmp 4,.tmp 5]) Tryz.results197 (by simp [Tryz.ntmps197]) rfl fun X=>?_;simp only [Tryz.ntmps197];have fw:=(Aq @ab.eq_1 (Aq @bg.eq_1 (Aq @bC.eq_1 @dS.eq_1)));refine ZW fw [0,1] [500] ?_;refine ae fun K1 ay=>?_;have qf:=(Aq fw @gI);refine al [0,1,17] [500] ?_;refine ag rfl ?_;refine ah (ay _ ?_);refine ae fun K2 aa=>?_;refine aR ?_;refine Z8 fw kr [0,1,20] [500] ?_;refine ag rfl ?_;refine Z8 fw lv [0,1,36] [500] ?_;refine ak rfl ?_;have qf:=(Aq fw (Aq @cD.eq_1 (Aq @cD.eq_2 (Aq @bY.eq_1 (Aq @bY.eq_2 @hx)))));refine abi hc [0,8,9] [500] ?_;refine ae fun K4 bN=>?_;refine ZW fw [0,8,9,47] [500] ?_;refine ag rfl ?_;refine ah (bN _ ?_);refine ae fun K5 hK5=>?_;refine Z8 fw k41 [0,8,51] [500] ?_;refine ag rfl ?_;refine ah (hK5 _ ?_);refine ZW fw [4,5] [500] ?_;exact aK (Aq fw (Aq @bg.eq_1 (Aq @bC.eq_1 (Aq @cD.eq_1 (Aq @cD.eq_2 (Aq @bY.eq_1 (Aq @bY.eq_2 (Aq @hx @vW))))))))
    | false=>
     have dH:=uQ G t k2 ri htg.2.1 3;rw [BA rfl] at dH;refine MC.aD (ZZ _) Tryz.func197 rfl rfl (rs:=[.tmp 4,.tmp 5]) Tryz.results197 (by simp [Tryz.ntmps197]) rfl fun X=>?_;simp only [Tryz.ntmps197];have fw:=(Aq @ab.eq_1 (Aq @bg.eq_1 (Aq @bC.eq_1 @dS.eq_1)));refine ZW fw [0,1] [500] ?_;refine ae fun K1 ay=>?_;have qf:=(Aq fw @gI);refine al [0,1,17] [500] ?_;refine ag rfl ?_;refine ah (ay _ ?_);refine ae fun K2 aa=>?_;refine aR ?_;refine Z8 fw kr [0,1,20] [500] ?_;refine ag rfl ?_;refine Z8 fw lv [0,1,36] [500] ?_;refine ak rfl ?_;have qf:=(Aq fw (Aq @cD.eq_1 (Aq @cD.eq_2 (Aq @bY.eq_1 (Aq @bY.eq_2 @hx)))));refine abi hc [0,8,9] [500] ?_;refine ae fun K4 bN=>?_;refine ZW fw [0,8,9,47] [500] ?_;refine ag rfl ?_;refine ah (bN _ ?_);refine ae fun K5 hK5=>?_;refine Z8 fw k41 [0,8,51] [500] ?_;refine ak rfl ?_;refine Z8 (Aq fw (Aq @Z5.eq_1 (Aq @Z5.eq_2 @Z5.eq_3))) dH [4,5] [500] ?_;exact aK (Aq fw (Aq @bg.eq_1 (Aq @bC.eq_1 (Aq @cD.eq_1 (Aq @cD.eq_2 (Aq @bY.eq_1 (Aq @bY.eq_2 (Aq @Z5.eq_1 (Aq @Z5.eq_2 (Aq @Z5.eq_3 (Aq @dQ.eq_1 @vW)))))))))))
  rw [if_neg c40] at lv ⊢;by_cases o8:t[j]? = some 48
  .rw [if_pos o8] at nu ⊢;refine MC.aD (ZZ _) Tryz.func197 rfl rfl (rs:=[.tmp 4,.tmp 5]) Tryz.results197 (by simp [Tryz.ntmps197]) rfl fun X=>?_;simp only [Tryz.ntmps197];have fw:=(Aq @ab.eq_1 (Aq @bg.eq_1 (Aq @bC.eq_1 @dS.eq_1)));refine ZW fw [0,1] [500] ?_;refine ae fun K1 ay=>?_;have qf:=(Aq fw @gI);refine al [0,1,17] [500] ?_;refine ag rfl ?_;refine ah (ay _ ?_);refine ae fun K2 aa=>?_;refine aR ?_;refine Z8 fw kr [0,1,20] [500] ?_;refine ag rfl ?_;refine Z8 fw lv [0,1,36] [500] ?_;refine ag rfl ?_;refine Z8 fw nu [0,55] [500] ?_;refine ak rfl ?_;refine ZW fw [4,5] [500] ?_;refine bk ?_;simp [D.le,D.le.go,aB,ab,bg,bC,dS,bg,bC,cD,bY,dE]
  rw [if_neg o8] at nu ⊢;by_cases c49:t[j]? = some 49
  .rw [if_pos c49] at oT ⊢;refine MC.aD (ZZ _) Tryz.func197 rfl rfl (rs:=[.tmp 4,.tmp 5]) Tryz.results197 (by simp [Tryz.ntmps197]) rfl fun X=>?_;simp only [Tryz.ntmps197];have fw:=(Aq @ab.eq_1 (Aq @bg.eq_1 (Aq @bC.eq_1 @dS.eq_1)));refine ZW fw [0,1] [500] ?_;refine ae fun K1 ay=>?_;have qf:=(Aq fw @gI);refine al [0,1,17] [500] ?_;refine ag rfl ?_;refine ah (ay _ ?_);refine ae fun K2 aa=>?_;refine aR ?_;refine Z8 fw kr [0,1,20] [500] ?_;refine ag rfl ?_;refine Z8 fw lv [0,1,36] [500] ?_;refine ag rfl ?_;refine Z8 fw nu [0,55] [500] ?_;refine ag rfl ?_;refine Z8 fw oT [0,59] [500] ?_;refine ak rfl ?_;refine ZW fw [4,5] [500] ?_;refine bk ?_;simp [D.le,D.le.go,aB,ab,bg,bC,dS,bg,bC,cD,bY,dE]
  rw [if_neg c49] at oT ⊢;by_cases c94:t[j]? = some 94
  .rw [if_pos c94] at k94 ⊢;have hc:=E6 G t 1 (j+1) ri (ax c94);have hq:∀ {c:Int} {p q':Nat},aaO t 1 (j+1) = .err c p q'->q'=1:=fun h=>E5 h
   cases hr:aaO t 1 (j+1) with
   | err c p q'=>
    obtain rfl:=hq hr;rw [hr] at hc;refine MC.aD (ZZ _) Tryz.func197 rfl rfl (rs:=[.tmp 4,.tmp 5]) Tryz.results197 (by simp [Tryz.ntmps197]) rfl fun X=>?_;simp only [Tryz.ntmps197];have fw:=(Aq @ab.eq_1 (Aq @bg.eq_1 (Aq @bC.eq_1 @dS.eq_1)));refine ZW fw [0,1] [500] ?_;refine ae fun K1 ay=>?_;have qf:=(Aq fw @gI);refine al [0,1,17] [500] ?_;refine ag rfl ?_;refine ah (ay _ ?_);refine ae fun K2 aa=>?_;refine aR ?_;refine Z8 fw kr [0,1,20] [500] ?_;refine ag rfl ?_;refine Z8 fw lv [0,1,36] [500] ?_;refine ag rfl ?_;refine Z8 fw nu [0,55] [500] ?_;refine ag rfl ?_;refine Z8 fw oT [0,59] [500] ?_;refine ag rfl ?_;refine Z8 fw k94 [0,63] [500] ?_;refine ak rfl ?_;refine Z8 (Aq fw (Aq @jI.eq_1 (Aq @jI.eq_2 (Aq @Z5.eq_1 (Aq @Z5.eq_2 @Z5.eq_3))))) hc [10,11] [500] ?_;refine ZW fw [4,5] [500] ?_;refine bk ?_;simp [D.le,D.le.go,aB,ab,bg,bC,dS,bg,bC,cD,bY,Z5,dQ,Rs.map,bo]
   | ok s p=>
    rw [hr] at hc;refine MC.aD (ZZ _) Tryz.func197 rfl rfl (rs:=[.tmp 4,.tmp 5]) Tryz.results197 (by simp [Tryz.ntmps197]) rfl fun X=>?_;simp only [Tryz.ntmps197];have fw:=(Aq @ab.eq_1 (Aq @bg.eq_1 (Aq @bC.eq_1 @dS.eq_1)));refine ZW fw [0,1] [500] ?_;refine ae fun K1 ay=>?_;have qf:=(Aq fw @gI);refine al [0,1,17] [500] ?_;refine ag rfl ?_;refine ah (ay _ ?_);refine ae fun K2 aa=>?_;refine aR ?_;refine Z8 fw kr [0,1,20] [500] ?_;refine ag rfl ?_;refine Z8 fw lv [0,1,36] [500] ?_;refine ag rfl ?_;refine Z8 fw nu [0,55] [500] ?_;refine ag rfl ?_;refine Z8 fw oT [0,59] [500] ?_;refine ag rfl ?_;refine Z8 fw k94 [0,63] [500] ?_;refine ak rfl ?_;refine Z8 (Aq fw (Aq @jI.eq_1 @jI.eq_2)) hc [10,11] [500] ?_;refine ZW fw [4,5] [500] ?_;refine bk ?_;simp [D.le,D.le.go,aB,ab,bg,bC,dS,bg,bC,cD,bY,Rs.map,dE]
  rw [if_neg c94] at k94 ⊢;by_cases nZ:t[j]? = some 126
  .rw [if_pos nZ] at ad1 ⊢;have hc:=E6 G t 2 (j+1) ri (ax nZ);have hq:∀ {c:Int} {p q':Nat},aaO t 2 (j+1) = .err c p q'->q'=2:=fun h=>E5 h
   cases hr:aaO t 2 (j+1) with
   | err c p q'=>
    obtain rfl:=hq hr;rw [hr] at hc;refine MC.aD (ZZ _) Tryz.func197 rfl rfl (rs:=[.tmp 4,.tmp 5]) Tryz.results197 (by simp [Tryz.ntmps197]) rfl fun X=>?_;simp only [Tryz.ntmps197];have fw:=(Aq @ab.eq_1 (Aq @bg.eq_1 (Aq @bC.eq_1 @dS.eq_1)));refine ZW fw [0,1] [500] ?_;refine ae fun K1 ay=>?_;have qf:=(Aq fw @gI);refine al [0,1,17] [500] ?_;refine ag rfl ?_;refine ah (ay _ ?_);refine ae fun K2 aa=>?_;refine aR ?_;refine Z8 fw kr [0,1,20] [500] ?_;refine ag rfl ?_;refine Z8 fw lv [0,1,36] [500] ?_;refine ag rfl ?_;refine Z8 fw nu [0,55] [500] ?_;refine ag rfl ?_;refine Z8 fw oT [0,59] [500] ?_;refine ag rfl ?_;refine Z8 fw k94 [0,63] [500] ?_;refine ag rfl ?_;refine Z8 fw ad1 [0,74] [500] ?_;refine ak rfl ?_;refine Z8 (Aq fw (Aq @jI.eq_1 (Aq @jI.eq_2 (Aq @Z5.eq_1 (Aq @Z5.eq_2 @Z5.eq_3))))) hc [12,13] [500] ?_;refine ZW fw [4,5] [500] ?_;refine bk ?_;simp [D.le,D.le.go,aB,ab,bg,bC,dS,bg,bC,cD,bY,Z5,dQ,Rs.map,bo]
   | ok s p=>
    rw [hr] at hc;refine MC.aD (ZZ _) Tryz.func197 rfl rfl (rs:=[.tmp 4,.tmp 5]) Tryz.results197 (by simp [Tryz.ntmps197]) rfl fun X=>?_;simp only [Tryz.ntmps197];have fw:=(Aq @ab.eq_1 (Aq @bg.eq_1 (Aq @bC.eq_1 @dS.eq_1)));refine ZW fw [0,1] [500] ?_;refine ae fun K1 ay=>?_;have qf:=(Aq fw @gI);refine al [0,1,17] [500] ?_;refine ag rfl ?_;refine ah (ay _ ?_);refine ae fun K2 aa=>?_;refine aR ?_;refine Z8 fw kr [0,1,20] [500] ?_;refine ag rfl ?_;refine Z8 fw lv [0,1,36] [500] ?_;refine ag rfl ?_;refine Z8 fw nu [0,55] [500] ?_;refine ag rfl ?_;refine Z8 fw oT [0,59] [500] ?_;refine ag rfl ?_;refine Z8 fw k94 [0,63] [500] ?_;refine ag rfl ?_;refine Z8 fw ad1 [0,74] [500] ?_;refine ak rfl ?_;refine Z8 (Aq fw (Aq @jI.eq_1 @jI.eq_2)) hc [12,13] [500] ?_;refine ZW fw [4,5] [500] ?_;refine bk ?_;simp [D.le,D.le.go,aB,ab,bg,bC,dS,bg,bC,cD,bY,Rs.map,dE]
  rw [if_neg nZ] at ad1 ⊢;have hc:=E6 G t 3 j ri aa9;have hq:∀ {c:Int} {p q':Nat},aaO t 3 j = .err c p q'->q'=3:=fun h=>E5 h
  cases hr:aaO t 3 j with
  | err c p q'=>
   obtain rfl:=hq hr;rw [hr] at hc;refine MC.aD (ZZ _) Tryz.func197 rfl rfl (rs:=[.tmp 4,.tmp 5]) Tryz.results197 (by simp [Tryz.ntmps197]) rfl fun X=>?_;simp only [Tryz.ntmps197];have fw:=(Aq @ab.eq_1 (Aq @bg.eq_1 (Aq @bC.eq_1 @dS.eq_1)));refine ZW fw [0,1] [500] ?_;refine ae fun K1 ay=>?_;have qf:=(Aq fw @gI);refine al [0,1,17] [500] ?_;refine ag rfl ?_;refine ah (ay _ ?_);refine ae fun K2 aa=>?_;refine aR ?_;refine Z8 fw kr [0,1,20] [500] ?_;refine ag rfl ?_;refine Z8 fw lv [0,1,36] [500] ?_;refine ag rfl ?_;refine Z8 fw nu [0,55] [500] ?_;refine ag rfl ?_;refine Z8 fw oT [0,59] [500] ?_;refine ag rfl ?_;refine Z8 fw k94 [0,63] [500] ?_;refine ag rfl ?_;refine Z8 fw ad1 [0,74] [500] ?_;refine ag rfl ?_;refine ah (aa _ ?_);refine Z8 (Aq fw (Aq @jI.eq_1 (Aq @jI.eq_2 (Aq @Z5.eq_1 (Aq @Z5.eq_2 @Z5.eq_3))))) hc [14,15] [500] ?_;refine ZW fw [4,5] [500] ?_;refine bk ?_;simp [D.le,D.le.go,aB,ab,bg,bC,dS,bg,bC,cD,bY,Z5,dQ,Rs.map,bo]
  | ok s p=>
   rw [hr] at hc;refine MC.aD (ZZ _) Tryz.func197 rfl rfl (rs:=[.tmp 4,.tmp 5]) Tryz.results197 (by simp [Tryz.ntmps197]) rfl fun X=>?_;simp only [Tryz.ntmps197];have fw:=(Aq @ab.eq_1 (Aq @bg.eq_1 (Aq @bC.eq_1 @dS.eq_1)));refine ZW fw [0,1] [500] ?_;refine ae fun K1 ay=>?_;have qf:=(Aq fw @gI);refine al [0,1,17] [500] ?_;refine ag rfl ?_;refine ah (ay _ ?_);refine ae fun K2 aa=>?_;refine aR ?_;refine Z8 fw kr [0,1,20] [500] ?_;refine ag rfl ?_;refine Z8 fw lv [0,1,36] [500] ?_;refine ag rfl ?_;refine Z8 fw nu [0,55] [500] ?_;refine ag rfl ?_;refine Z8 fw oT [0,59] [500] ?_;refine ag rfl ?_;refine Z8 fw k94 [0,63] [500] ?_;refine ag rfl ?_;refine Z8 fw ad1 [0,74] [500] ?_;refine ag rfl ?_;refine ah (aa _ ?_);refine Z8 (Aq fw (Aq @jI.eq_1 @jI.eq_2)) hc [14,15] [500] ?_;refine ZW fw [4,5] [500] ?_;refine bk ?_;simp [D.le,D.le.go,aB,ab,bg,bC,dS,bg,bC,cD,bY,Rs.map,dE]
theorem zN {r r':Nat} (h:r≠r') (row:Row):l6 r r' (ZX [(r,row)])=ZX [(r',row.tr (eS r r') (aa2 r r'))]:=by
 funext q;unfold l6;by_cases h1:q=r'
 .subst h1;simp [ZX,List.lookup]
 .rw [if_neg h1];by_cases h2:q=r
  .subst h2;simp [ZX,List.lookup,h1,beq_eq_false_iff_ne.2 h1]
  .simp [ZX,List.lookup,h2,beq_eq_false_iff_ne.2 h1,beq_eq_false_iff_ne.2 h2]
def mW:Option Ex->D
 | some x=>dE x
 | none=>.v .nilIface
set_option maxHeartbeats 4000000 in
theorem U6 (G:ao) (t:List UInt8) (ht:t.length < 2^60):aw Tryz.prog G 47 [dS t] (.Z4 [mW (aba t).1,Z5 (aba t).2]):=by
 unfold aba;by_cases hl:2000 < t.length
 .have ek:(2000:Int) < (t.length:Int):=by omega
  rw [if_pos hl];refine aw.aD (ZZ _) Tryz.func47 rfl rfl (rs:=[.tmp 2,.tmp 3]) Tryz.results47 (by simp [Tryz.ntmps47]) fun X=>?_;simp only [Tryz.ntmps47,List.map];have fw:=(Aq @ab.eq_1 (Aq @bg.eq_1 (Aq @bC.eq_1 @dS.eq_1)));refine ZW fw [0] [] ?_;refine ae fun K1 ay=>?_;have qf:=(Aq fw (Aq @bh (Aq @hl @ek)));refine al [0,9] [] ?_;refine ak rfl ?_;refine ZW fw [2,3] [] ?_;exact aK (Aq fw (Aq @mW.eq_1 (Aq @mW.eq_2 (Aq @Z5.eq_1 (Aq @Z5.eq_2 @Z5.eq_3)))))
 have ek:¬ (2000:Int) < (t.length:Int):=by omega
 rw [if_neg hl];have hor:=Jj G t (by omega) 20 (UY G t (by omega) 20 (by decide)) 0 (Nat.zero_le _)
 cases hr:orR t (aae t 20) 0 with
 | err c p q=>
  rw [hr] at hor;refine aw.aD (ZZ _) Tryz.func47 rfl rfl (rs:=[.tmp 2,.tmp 3]) Tryz.results47 (by simp [Tryz.ntmps47]) fun X=>?_;simp only [Tryz.ntmps47,List.map];have fw:=(Aq @ab.eq_1 (Aq @bg.eq_1 (Aq @bC.eq_1 @dS.eq_1)));refine ZW fw [0] [] ?_;refine ae fun K1 ay=>?_;have qf:=(Aq fw (Aq @bh (Aq @hl @ek)));refine al [0,9] [] ?_;refine ag rfl ?_;refine ah (ay _ ?_);refine ZW fw [0,4] [13] ?_;refine AW.imp (Z1.ren (r:=13) (r':=500) trivial (by simp)) ?_;refine AW.st (by simp [eS,aa2,Go.Av.ren,zN];rfl) ?_;refine Z8 (Aq fw (Aq @cD.eq_1 (Aq @cD.eq_2 (Aq @Z5.eq_1 (Aq @Z5.eq_2 @Z5.eq_3))))) hor [0,4,5,6] [500] ?_;refine ae fun K2 aa=>?_;refine ZW fw [0,4,5,6,20] [500] ?_;refine ak rfl ?_;refine ZW fw [2,3] [] ?_;exact aK (Aq fw (Aq @mW.eq_1 (Aq @mW.eq_2 (Aq @Z5.eq_1 (Aq @Z5.eq_2 @Z5.eq_3)))))
 | ok x k=>
  rw [hr] at hor;have hk:=(oV (j5 t 20) 0 x k (Nat.zero_le _) hr).2;have gr:=xA G t k (by omega) hk;have aa9:=abX hk;have dH:=uQ G t (aW t k) (by omega) aa9 3;rw [rZ hk] at dH;obtain ⟨tx,cx,hx⟩:=abq x;dsimp only;generalize aW t k=j at gr aa9 dH ⊢;by_cases hj:j < t.length
  .have cR:(j:Int) < (t.length:Int):=by omega
   rw [if_pos hj];refine aw.aD (ZZ _) Tryz.func47 rfl rfl (rs:=[.tmp 2,.tmp 3]) Tryz.results47 (by simp [Tryz.ntmps47]) fun X=>?_;simp only [Tryz.ntmps47,List.map];have fw:=(Aq @ab.eq_1 (Aq @bg.eq_1 (Aq @bC.eq_1 @dS.eq_1)));refine ZW fw [0] [] ?_;refine ae fun K1 ay=>?_;have qf:=(Aq fw (Aq @bh (Aq @hl @ek)));refine al [0,9] [] ?_;refine ag rfl ?_;refine ah (ay _ ?_);refine ZW fw [0,4] [13] ?_;refine AW.imp (Z1.ren (r:=13) (r':=500) trivial (by simp)) ?_;refine AW.st (by simp [eS,aa2,Go.Av.ren,zN];rfl) ?_;have qf:=(Aq fw (Aq @cD.eq_1 (Aq @cD.eq_2 (Aq @bY.eq_1 (Aq @bY.eq_2 @hx)))));refine abi hor [0,4,5,6] [500] ?_;refine ae fun K2 aa=>?_;refine ZW fw [0,4,5,6,20] [500] ?_;refine ag rfl ?_;refine ah (aa _ ?_);refine ae fun K3 aQ=>?_;refine Z8 fw gr [0,4,5] [500] ?_;have qf:=(Aq fw (Aq @bh (Aq @hj @cR)));refine al [4,5,30] [500] ?_;refine ak rfl ?_;refine Z8 (Aq fw (Aq @Z5.eq_1 (Aq @Z5.eq_2 @Z5.eq_3))) dH [2,3] [] ?_;exact aK (Aq fw (Aq @mW.eq_1 (Aq @mW.eq_2 (Aq @Z5.eq_1 (Aq @Z5.eq_2 @Z5.eq_3)))))
  .have cR:¬ (j:Int) < (t.length:Int):=by omega
   rw [if_neg hj];refine aw.aD (ZZ _) Tryz.func47 rfl rfl (rs:=[.tmp 2,.tmp 3]) Tryz.results47 (by simp [Tryz.ntmps47]) fun X=>?_;simp only [Tryz.ntmps47,List.map];have fw:=(Aq @ab.eq_1 (Aq @bg.eq_1 (Aq @bC.eq_1 @dS.eq_1)));refine ZW fw [0] [] ?_;refine ae fun K1 ay=>?_;have qf:=(Aq fw (Aq @bh (Aq @hl @ek)));refine al [0,9] [] ?_;refine ag rfl ?_;refine ah (ay _ ?_);refine ZW fw [0,4] [13] ?_;refine AW.imp (Z1.ren (r:=13) (r':=500) trivial (by simp)) ?_;refine AW.st (by simp [eS,aa2,Go.Av.ren,zN];rfl) ?_;have qf:=(Aq fw (Aq @cD.eq_1 (Aq @cD.eq_2 (Aq @bY.eq_1 (Aq @bY.eq_2 @hx)))));refine abi hor [0,4,5,6] [500] ?_;refine ae fun K2 aa=>?_;refine ZW fw [0,4,5,6,20] [500] ?_;refine ag rfl ?_;refine ah (aa _ ?_);refine ae fun K3 aQ=>?_;refine Z8 fw gr [0,4,5] [500] ?_;have qf:=(Aq fw (Aq @bh (Aq @hj @cR)));refine al [4,5,30] [500] ?_;refine ag rfl ?_;refine ah (aQ _ ?_);refine ZW fw [2,3] [] ?_;exact aK (Aq fw (Aq @mW.eq_1 (Aq @mW.eq_2 (Aq @Z5.eq_1 (Aq @Z5.eq_2 (Aq @Z5.eq_3 @hx))))))
theorem AU {l:List Ex} {i:Nat} (hi:i < l.length):eH (l.take i)+bE l[i]<=eH l:=by
 have h1:=uD (l.take i) [l[i]];rw [<- List.take_succ_eq_append_getElem hi] at h1;have h2:=uD (l.take (i+1)) (l.drop (i+1));rw [List.take_append_drop] at h2;simp only [eH] at h1;omega
end Go.Proofs.YtdigkhaofjmgkaaGreatDoor
