/- Parts. -/
import Derived.Test.YtdigkhaofjmgkaaGreatDoorIs19
import Derived.Test.YtdigkhaofjmgkaaGreatDoorIs20
import Derived.Shelf.Small.Strs
import Derived.Lib.IndexLaws
import Derived.Shelf.Strings.OnBuilder
import Derived.Shelf.Strings.Runes
set_option linter.unusedSimpArgs false
set_option linter.unusedVariables false
set_option maxHeartbeats 32000000
open Go.Proofs.Tryz
namespace Go.Proofs.YtdigkhaofjmgkaaGreatDoor
open Go.Av
open Go.Shelf
def bo (t:List UInt8) (i:Int):Row:=.box 182 [.d (dS t),int i]
def aW (t:List UInt8) (i:Int):List (Nat×Row):=[(500,bo t i)]
theorem De (a:UInt8) (n:Nat) (hn:n < 256):((a.toNat:Int)=(n:Int))↔a=UInt8.ofNat n:=by
 constructor
 .intro h
  have:a.toNat=n:=by omega
  rw[<- this,UInt8.ofNat_toNat]
 .rintro rfl;simp;omega
theorem vC (G:YI) (t:List UInt8) (i:Nat) (ht:t.length < 2^60) (hi:i<=t.length) :
  MC prog G [500] 97 [.ref 500 0 0] (YH (aW t i)) (.d (.aT [])) (YH (aW t (aM t i))):=by
 refine MC.aI (aw _) func97 rfl rfl (rs:=[]) results97 (by simp[ntmps97]) rfl fun X=>?_;simp only[ntmps97];have fw:=(Aq @YG.eq_1 (Aq @aW.eq_1 (Aq @bo.eq_1 @dS.eq_1)));refine Zb (S:=Nat) (fun k=>k<=t.length/\aM t k=aM t i) (fun k=>⟨aZ [(0,.ref 500 0 0)],YH [(500,.box 182 [.d (dS t),int k])]⟩) (fun k=>t.length - k) i ?_ ⟨hi,rfl⟩ ?_
 .refine bz fw
 .rintro k ⟨hk,hs⟩;refine ae fun K1 ay=>?_;by_cases ZP:k < t.length
  .have XH:(k:Int) < (t.length:Int):=by omega
   have hgd:t.getD k 0=t[k]:=by simp[List.getD_eq_getElem?_getD,ZP]
   by_cases hb:((t[k]).toNat:Int)=32
   .have qf:=(Aq fw (Aq @bC (Aq @Zo (Aq @ZP @hb))));refine aa9 [0,23] [500] ?_;refine YL rfl ?_;refine ao (ay _ ?_);refine YR ?_;refine cf fw ?_;try simp only[YO,bd]
    have gy:t[k]? = some 32:=by
     rw[List.getElem?_eq_getElem ZP,(De _ 32 (by decide)).1 hb];rfl
    refine bn.mk (k+1) ⟨by omega,?_⟩ (by omega) ?_
    .rw[<- uW gy];exact hs
    refine bz fw
   .have qf:=(Aq fw (Aq @bC (Aq @Zo (Aq @ZP @hb))));refine aa9 [0,23] [500] ?_;refine af rfl ?_;refine bY ?_
    have gy:t[k]?≠some 32:=by
     rw[List.getElem?_eq_getElem ZP];intro h;apply hb;rw[Option.some.inj h];rfl
    rw[aa4 gy]at hs;rw[<- hs];simp[aW,bo,dS,D.le_refl]
  .obtain rfl:k=t.length:=by omega
   have qf:=(Aq fw (Aq @bC @Zo));refine aa9 [0,23] [500] ?_;refine af rfl ?_;refine bY ?_
   have gy:t[t.length]?≠some 32:=by simp
   rw[aa4 gy]at hs;rw[<- hs];simp[aW,bo,dS,D.le_refl]
theorem ac6 (G:YI) (t:List UInt8) (i:Nat) (ht:t.length < 2^60) (hi:i<=t.length) (c:UInt8) :
  MC prog G [500] 196 [.ref 500 0 0,.d (.v (.int .u8 c.toNat))] (YH (aW t i)) (.d (.v (.bool (Zy t c i).1))) (YH (aW t (Zy t c i).2)):=by
 have ZO:=vC G t i ht hi;have aaA:=iu hi;unfold Zy;generalize aM t i=j at ZO aaA ⊢;by_cases rv:j < t.length
 .rw[List.getElem?_eq_getElem rv];by_cases hb:t[j]=c
  .have aH:((t[j]).toNat:Int)=(c.toNat:Int):=by rw[hb]
   rw[if_pos (by rw[hb])];refine MC.aI (aw _) func196 rfl rfl (rs:=[.tmp 4]) results196 (by simp[ntmps196]) rfl fun X=>?_;simp only[ntmps196];have fw:=(Aq @YG.eq_1 (Aq @aW.eq_1 (Aq @bo.eq_1 @dS.eq_1)));refine ab fw [0,1] [500] ?_;refine YT fw ZO [0,1] [500] ?_;refine ae fun K1 ay=>?_;have qf:=(Aq fw (Aq @bC (Aq @Zo (Aq @rv @aH))));refine aa9 [0,29] [500] ?_;refine YL rfl ?_;refine ab fw [] [500] ?_;refine ab fw [4] [500] ?_;exact aV (Aq fw (Aq @aW.eq_1 @bo.eq_1))
  .have aH:¬ ((t[j]).toNat:Int)=(c.toNat:Int):=fun h=>hb (UInt8.toNat_inj.1 (by omega));rw[if_neg (fun h=>hb (Option.some.inj h))];refine MC.aI (aw _) func196 rfl rfl (rs:=[.tmp 4]) results196 (by simp[ntmps196]) rfl fun X=>?_;simp only[ntmps196];have fw:=(Aq @YG.eq_1 (Aq @aW.eq_1 (Aq @bo.eq_1 @dS.eq_1)));refine ab fw [0,1] [500] ?_;refine YT fw ZO [0,1] [500] ?_;refine ae fun K1 ay=>?_;have qf:=(Aq fw (Aq @bC (Aq @Zo (Aq @rv @aH))));refine aa9 [0,29] [500] ?_;refine af rfl ?_;refine ao (ay _ ?_);refine ab fw [4] [500] ?_;exact aV (Aq fw (Aq @aW.eq_1 @bo.eq_1))
 .obtain rfl:j=t.length:=by omega
  rw[if_neg (by simp)];refine MC.aI (aw _) func196 rfl rfl (rs:=[.tmp 4]) results196 (by simp[ntmps196]) rfl fun X=>?_;simp only[ntmps196];have fw:=(Aq @YG.eq_1 (Aq @aW.eq_1 (Aq @bo.eq_1 @dS.eq_1)));refine ab fw [0,1] [500] ?_;refine YT fw ZO [0,1] [500] ?_;refine ae fun K1 ay=>?_;have qf:=(Aq fw (Aq @bC @Zo));refine aa9 [0,29] [500] ?_;refine af rfl ?_;refine ao (ay _ ?_);refine ab fw [4] [500] ?_;exact aV (Aq fw (Aq @aW.eq_1 @bo.eq_1))
theorem sR (G:YI) (t:List UInt8) (i:Nat) (ht:t.length < 2^60) (hi:i<=t.length) (e:Int) :
  MC prog G [500] 98 [.ref 500 0 0,.d (YG e)] (YH (aW t i)) (.d (aR (some (e,some (aM t i))))) (YH (aW t (aM t i))):=by
 have ZO:=vC G t i ht hi;generalize aM t i=j at ZO ⊢;refine MC.aI (aw _) func98 rfl rfl (rs:=[.tmp 4]) results98 (by simp[ntmps98]) rfl fun X=>?_;simp only[ntmps98];have fw:=(Aq @YG.eq_1 (Aq @aW.eq_1 (Aq @bo.eq_1 @dS.eq_1)));refine ab fw [0,1] [500] ?_;refine YT fw ZO [0,1] [500] ?_;refine ab fw [4] [500,13] ?_;refine cq fw 13 ?_;exact aV (Aq fw (Aq @aW.eq_1 (Aq @bo.eq_1 (Aq @aR.eq_1 (Aq @aR.eq_2 @aR.eq_3)))))
def mG:List UInt8:=[32,38,124,33,94,126,40,41,48,49,61]
theorem aeq (l:List UInt8) (c:UInt8):Lib.indexByte l c < 0↔c ∉ l:=by
 have mi:=Lib.indexByte_ge l c;constructor
 .intro h hm;obtain⟨k,hk,rfl⟩:=List.mem_iff_getElem.1 hm;exact Lib.indexByte_none (show Lib.indexByte l l[k] = -1 by omega) k (List.getElem?_eq_getElem hk)
 .intro hm;apply Classical.byContradiction;intro h;obtain⟨n,hn⟩:=Int.eq_ofNat_of_zero_le (show 0<=Lib.indexByte l c by omega);exact hm (List.mem_of_getElem? (Lib.indexByte_some hn).1)
theorem Su (G:YI) (l:List UInt8) (c:UInt8):aq prog G 116 [dS l,.v (.int .u8 c.toNat)] (YG (Lib.indexByte l c)):=by
 refine aq.rT (fo.of func116 rfl rfl) fun X w vs aK bq Y7=>?_
 obtain⟨a,b,rfl⟩:∃ a b,vs = #[a,b]:=by
  match vs,aK with
  | ⟨[a,b]⟩,_=>exact⟨a,b,rfl⟩
 have ha:=(bq 0 a _ rfl rfl).scalar;have hb:=(bq 1 b _ rfl rfl).scalar;subst ha hb;have aaU:=Any.strings_IndexByte (P:=prog) (ρ:=Tryz.BX) { Tryz.BW with } (bs l) c.toNat w;rw[show (c.toNat:Int).toNat.toUInt8=c by simp]at aaU;exact aaU.mono fun e w' ⟨he,hw⟩=>⟨_,he,by rw[hw];exact bT.refl _,.v _⟩
end Go.Proofs.YtdigkhaofjmgkaaGreatDoor
namespace Go.Proofs.YtdigkhaofjmgkaaGreatDoor
open Go.Av
theorem LD (t:List UInt8) (i j:Nat):(bs t).extract i j=bs ((t.drop i).take (j - i)):=ByteArray.ext (by
 rw[ByteArray.data_extract];unfold bs;apply Array.toList_inj.1
 simp[List.take_drop,List.extract])
theorem qB:(⟨#[32,38,124,33,94,126,40,41,48,49,61]⟩:ByteArray)=bs mG:=rfl
def aaR:Rs (List UInt8)->D
 | .ok s _=>.aT [dS s,.v .nilIface]
 | .err c p _=>.aT [dS [],aR (some (c,some p))]
def Za {α:Type}:Rs α->Nat
 | .ok _ i=>i
 | .err _ p _=>p
theorem uy (c:UInt8):c∈mG↔(iK c=true\/c=48\/c=49):=by
 simp only[mG,iK,List.mem_cons,List.not_mem_nil,or_false,List.contains_iff_mem];constructor
 .rintro (h | h | h | h | h | h | h | h | h | h | h)<;>simp[h]
 .rintro ((h | h | h | h | h | h | h | h | h) | h | h)<;>simp[h]
def sj (t:List UInt8) (j k:Nat):Prop:=k=j\/(j < k/\lI t j=true/\kG t (j+1)=kG t k)
theorem vu {t:List UInt8} {j k:Nat} (h:sj t j k) (hk:k<=t.length) (hstop:∀ hk:k < t.length,t[k]∈mG/\(j < k->t[k]≠48/\t[k]≠49)):k=kH t j:=by
 unfold kH
 rcases h with rfl | ⟨ru,hh,he⟩
 .by_cases ft:k < t.length
  .have:=(uy _).1 (hstop ft).1
   have hno:lI t k=false:=by
    unfold lI;rw[List.getElem?_eq_getElem ft]
    rcases this with h | h | h<;>simp[h]
   rw[hno];rfl
  .have hno:lI t k=false:=by
    unfold lI;rw[List.getElem?_eq_none (by omega)]
   rw[hno];rfl
 .rw[hh,if_pos rfl,he,JK];intro ft;obtain⟨h1,h2⟩:=hstop ft
  rcases (uy _).1 h1 with h | h | h
  .exact h
  .exact absurd h (h2 ru).1
  .exact absurd h (h2 ru).2
theorem ade {t:List UInt8} {j k:Nat} (h:sj t j k) (hk:k < t.length) (hgo:t[k] ∉ mG\/(j < k/\(t[k]=48\/t[k]=49))):sj t j (k+1):=by
 have hs:iK t[k]=false:=by
  rcases hgo with h | ⟨_,h⟩
  .cases hc:iK t[k] with
   | false=>rfl
   | true=>exact absurd ((uy _).2 (.inl hc)) h
  .rcases h with h | h<;>rw[h]<;>rfl
 right
 rcases h with rfl | ⟨ru,hh,he⟩
 .refine⟨by omega,?_,rfl⟩
  rcases hgo with h | ⟨h,_⟩
  .have h1:t[k]≠48:=fun e=>h ((uy _).2 (.inr (.inl e)));have h2:t[k]≠49:=fun e=>h ((uy _).2 (.inr (.inr e)));unfold lI;rw[List.getElem?_eq_getElem hk];simp[hs,h1,h2]
  .omega
 .refine⟨by omega,hh,?_⟩;rw[he,JJ hk hs]
theorem Dm (G:YI) (t:List UInt8) (q i:Nat) (ht:t.length < 2^60) (hi:i<=t.length) :
  MC prog G [500] 230 [.ref 500 0 0] (YH (aW t i)) (.d (aaR (fI t q i))) (YH (aW t (Za (fI t q i)))):=by
 have ZO:=vC G t i ht hi;have aaA:=iu hi;have acx:=qC hi;unfold fI;generalize aM t i=j at ZO aaA acx ⊢;have Ga:=sR G t j ht aaA 3;have Gb:=sR G t j ht aaA 5;rw[acx]at Ga Gb;have aN:=Dg t j;have het:=JX aaA;have hws:(t.drop j).take (kH t j - j)=js t j:=rfl
 have Qk:(js t j).length < 2^60:=by
  rw[<- hws,List.length_take,List.length_drop];omega
 have oN:=HP G (js t j) Qk;refine MC.aI (aw _) func230 rfl rfl (rs:=[.tmp 2,.tmp 3]) results230 (by simp[ntmps230]) rfl fun X=>?_;simp only[ntmps230];have fw:=(Aq @YG.eq_1 (Aq @aW.eq_1 (Aq @bo.eq_1 @dS.eq_1)));refine ab fw [0] [500] ?_;refine YT fw ZO [0] [500] ?_;refine ab fw [0,4] [500] ?_;refine ae fun K1 ay=>?_;refine Zb (S:=Nat) (fun k=>j<=k/\k<=t.length/\sj t j k) (fun k=>⟨aZ [(0,.ref 500 0 0),(4,int k)],YH [(500,.box 182 [.d (dS t),int j])]⟩) (fun k=>t.length - k) j ?_ ⟨Nat.le_refl _,aaA,.inl rfl⟩ ?_
 .refine bz fw
 .rintro k ⟨ru,hk,b6⟩;refine ae fun K2 aa=>?_
  refine (fun hgo hstop=>?_) (fun (σ:St) (hn:sj t j (k+1)) (ZP:k < t.length) himp=>aa σ (AW.imp (τ:=⟨aZ [(0,.ref 500 0 0),(4,int k)],YH [(500,.box 182 [.d (dS t),int j])]⟩) himp ?_))
   (fun (σ:St) (he:k=kH t j) himp=>ay σ (AW.imp (τ:=⟨aZ [(0,.ref 500 0 0),(4,int k)],YH [(500,.box 182 [.d (dS t),int j])]⟩) himp ?_))
  .by_cases ZP:k < t.length
   .have fj:=Su G mG t[k];have wS:=aeq mG t[k];by_cases hm:t[k]∈mG
    .have rr:¬ Lib.indexByte mG t[k] < 0:=fun h=>wS.1 h hm;by_cases mj:j < k
     .have abB:(j:Int) < (k:Int):=by omega
      by_cases sU:((t[k]).toNat:Int)=48
      .have hc:t[k]=48:=(De _ 48 (by decide)).1 sU;have qf:=(Aq fw (Aq @bC (Aq @Zo (Aq @qB (Aq @ZP (Aq @rr (Aq @abB (Aq @mj @sU))))))));refine eu fj [0,4,63] [500] ?_;refine YL rfl ?_;refine ao (hgo _ (ade b6 ZP (.inr ⟨mj,.inl hc⟩)) ZP ?_);refine bz fw
      .by_cases h49:((t[k]).toNat:Int)=49
       .have hc:t[k]=49:=(De _ 49 (by decide)).1 h49;have qf:=(Aq fw (Aq @bC (Aq @Zo (Aq @qB (Aq @ZP (Aq @rr (Aq @abB (Aq @mj (Aq @sU @h49)))))))));refine eu fj [0,4,63] [500] ?_;refine YL rfl ?_;refine ao (hgo _ (ade b6 ZP (.inr ⟨mj,.inr hc⟩)) ZP ?_);refine bz fw
       .have qf:=(Aq fw (Aq @bC (Aq @Zo (Aq @qB (Aq @ZP (Aq @rr (Aq @abB (Aq @mj (Aq @sU @h49)))))))));refine eu fj [0,4,63] [500] ?_;refine af rfl ?_;refine bY (hstop _ (vu b6 hk fun _=>⟨hm,fun _=>⟨fun e=>sU (by rw[e];rfl),fun e=>h49 (by rw[e];rfl)⟩⟩) ?_);refine bz fw
     .have abB:¬ (j:Int) < (k:Int):=by omega
      have qf:=(Aq fw (Aq @bC (Aq @Zo (Aq @qB (Aq @ZP (Aq @rr (Aq @abB @mj)))))));refine eu fj [0,4,63] [500] ?_;refine af rfl ?_;refine bY (hstop _ (vu b6 hk fun _=>⟨hm,fun h=>absurd h mj⟩) ?_);refine bz fw
    .have rr:Lib.indexByte mG t[k] < 0:=wS.2 hm;have qf:=(Aq fw (Aq @bC (Aq @Zo (Aq @qB (Aq @ZP @rr)))));refine eu fj [0,4,63] [500] ?_;refine YL rfl ?_;refine ao (hgo _ (ade b6 ZP (.inl hm)) ZP ?_);refine bz fw
   .obtain rfl:k=t.length:=by omega
    by_cases mj:j < t.length
    .have abB:(j:Int) < (t.length:Int):=by omega
     have qf:=(Aq fw (Aq @bC (Aq @Zo (Aq @qB (Aq @abB @mj)))));refine aB [0,4,63] [500] ?_;refine af rfl ?_;refine bY (hstop _ (vu b6 hk fun h=>absurd h ZP) ?_);refine bz fw
    .have abB:¬ (j:Int) < (t.length:Int):=by omega
     have qf:=(Aq fw (Aq @bC (Aq @Zo (Aq @qB (Aq @abB @mj)))));refine aB [0,4,63] [500] ?_;refine af rfl ?_;refine bY (hstop _ (vu b6 hk fun h=>absurd h ZP) ?_);refine bz fw
  .refine YR ?_;refine cf fw ?_;(try simp only[YO,bd]);refine bn.mk (k+1) ⟨by omega,by omega,hn⟩ (by omega) ?_;refine bz fw
  .subst he;clear ay aa;have QG:List.take (kH t j - j) (List.drop j t)=js t j:=hws;have qf:=(Aq fw (Aq @bC (Aq @LD (Aq @aN (Aq @het @QG)))));refine aa9 [0,4,5] [500] ?_;refine ae fun K3 YS=>?_;by_cases hs:js t j=[]
   .refine rg [0,4,5,77] [500] (cH rfl) fun K' ah=>?_;(repeat (refine aJ fun K2 aa=>?_;simp[YG,aW,bo,dS,hs,Zu,bL,bH];(repeat (refine⟨by omega,?_⟩));refine aa _ ?_;clear aa K2));refine YZ (ah _ (AW.st (by simp[YG,aW,bo,dS,hs,Zu,bL,bH];rfl) ?_));clear ah K';refine YL rfl ?_;refine YT (Aq fw (Aq @aR.eq_1 (Aq @aR.eq_2 @aR.eq_3))) Ga [2,3] [500] ?_;refine b7 ?_;simp[D.le,D.le.go,aQ,YG,aW,bo,dS,aW,bo,aaR,Za,aR,Zu,hs]
   .have tV:(js t j == [])=false:=by simpa using hs
    have GM:(js t j).isEmpty=false:=by rw[List.isEmpty_eq_false_iff];exact hs
    refine rg [0,4,5,77] [500] (cH rfl) fun K' ah=>?_;(repeat (refine aJ fun K2 aa=>?_;simp[YG,aW,bo,dS,Zu,bL,bH,hs,tV,GM];(repeat (refine⟨by omega,?_⟩));refine aa _ ?_;clear aa K2));refine YZ (ah _ (AW.st (by simp[YG,aW,bo,dS,Zu,bL,bH,hs,tV,GM];rfl) ?_));clear ah K';refine af rfl ?_;refine ao (YS _ ?_);refine ae fun K4 Y4=>?_
    cases hn:eR (js t j) with
    | false=>
     rw[hn]at oN;refine aP fw oN [0,4,5,82] [500] ?_;refine YL rfl ?_;refine YT (Aq fw (Aq @aR.eq_1 (Aq @aR.eq_2 @aR.eq_3))) Gb [2,3] [500] ?_;refine b7 ?_;simp[D.le,D.le.go,aQ,YG,aW,bo,dS,aW,bo,aaR,Za,aR,Zu,hs,hn]
    | true=>
     rw[hn]at oN;refine aP fw oN [0,4,5,82] [500] ?_;refine af rfl ?_;refine ao (Y4 _ ?_);refine ab fw [5] [500] ?_;refine ab fw [2,3] [500] ?_;exact aV (Aq fw (Aq @aW.eq_1 (Aq @bo.eq_1 (Aq @aaR.eq_1 (Aq @aaR.eq_2 (Aq @Za.eq_1 (Aq @Za.eq_2 (Aq @hs @hn))))))))
end Go.Proofs.YtdigkhaofjmgkaaGreatDoor
namespace Go.Proofs.YtdigkhaofjmgkaaGreatDoor
theorem Js {α:Type} {t:List UInt8} {s:UInt8} {f:Nat->Rs α} (hf:aaD t f):∀ (n m i:Nat) (acc:List α),i<=t.length->t.length+1 - i<=n->t.length+1 - i<=m->e8 t s f n i acc=e8 t s f m i acc
 | 0,_,i,_,hi,h,_=>by omega
 | _+1,0,i,_,hi,_,h=>by omega
 | n+1,m+1,i,acc,hi,h1,h2=>by
  rw[e8,e8]
  cases ZF:f i with
  | err c p q=>rfl
  | ok x j=>
   obtain⟨g1,g2⟩:=hf i x j hi ZF;obtain⟨t1,t2,t3⟩:=mJ (c:=s) g2;dsimp only;split
   .exact Js hf n m _ _ t2 (by omega) (by omega)
   .rfl
def aaC {α:Type} (t:List UInt8) (s:UInt8) (f:Nat->Rs α) (i:Nat) (acc:List α):Rs (List α):=e8 t s f (t.length+1 - i) i acc
theorem CY {α:Type} {t:List UInt8} {s:UInt8} {f:Nat->Rs α} (hf:aaD t f) {i:Nat} (hi:i<=t.length) (acc:List α):aaC t s f i acc=match f i with
  | .err c p _=>.err c p 0
  | .ok x j=>if (Zy t s j).1 then aaC t s f (Zy t s j).2 (acc ++ [x]) else .ok (acc ++ [x]) (Zy t s j).2:=by
 unfold aaC;obtain⟨n,hn⟩:∃ n,t.length+1 - i=n+1:=⟨t.length - i,by omega⟩;rw[hn,e8]
 cases ZF:f i with
 | err c p q=>rfl
 | ok x j=>
  obtain⟨g1,g2⟩:=hf i x j hi ZF;obtain⟨t1,t2,t3⟩:=mJ (c:=s) g2;dsimp only;split
  .exact Js hf _ _ _ _ t2 (by omega) (by omega)
  .rfl
theorem CX {α:Type} {t:List UInt8} {s:UInt8} {f:Nat->Rs α}:∀ (n i:Nat) (acc:List α) {c:Int} {p q:Nat},e8 t s f n i acc = .err c p q->q=0
 | 0,_,_,_,_,_,h=>by simp only[e8,Rs.err.injEq]at h;omega
 | n+1,i,acc,c,p,q,h=>by
  rw[e8]at h;split at h
  .simp only[Rs.err.injEq]at h;omega
  .split at h
   .exact CX n _ _ h
   .cases h
theorem vG {l:List Ex} (h:l.length≠1):abp l = .and l:=by
 match l,h with
 | [],_=>rfl
 | [_],h=>exact absurd rfl h
 | _ :: _ :: _,_=>rfl
theorem vH {l:List Ex} (h:l.length≠1):mT l = .or l:=by
 match l,h with
 | [],_=>rfl
 | [_],h=>exact absurd rfl h
 | _ :: _ :: _,_=>rfl
open Go.Av
mutual
def dE:Ex->D
 | .dT b=>.bh 188 (.v (.bool b))
 | .bit s=>.bh 189 (dS s)
 | .fW s=>.bh 190 (dS s)
 | .fO s=>.bh 191 (dS s)
 | .not e=>.bh 114 (.agg [dE e])
 | .and l=>.bh 192 (.sl none (sH l))
 | .or l=>.bh 116 (.sl none (sH l))
def sH:List Ex->List (List D)
 | []=>[]
 | e :: l=>[dE e] :: sH l
end
theorem abr:∀ l:List Ex,sH l=l.map fun e=>[dE e]
 | []=>rfl
 | e :: l=>by rw[sH,abr l];rfl
theorem dX (e:Ex):∃ t y,dE e = .bh t y:=by
 cases e<;>simp only[dE]<;>exact⟨_,_,rfl⟩
def q4 (l:List Ex):D:=.sl none (l.map fun e=>[dE e])
def dQ (q:Nat):D:=if q=1 then .bh 190 (dS []) else if q=2 then .bh 191 (dS []) else if q=3 then .bh 189 (dS []) else .v .nilIface
def cm:Rs Ex->D
 | .ok x _=>.aT [dE x,.v .nilIface]
 | .err c p q=>.aT [dQ q,aR (some (c,some p))]
def iw:Rs (List Ex)->D
 | .ok l _=>.aT [q4 l,.v .nilIface]
 | .err c p _=>.aT [.sl (some false) [],aR (some (c,some p))]
theorem Jt (G:YI) (t:List UInt8) (ht:t.length<=2000) (g:FuncId) (s:UInt8) (sn:Int) (rH:(s.toNat:Int)=sn) (d:Int) (f:Nat->Rs Ex) (hf:aaD t f)
  (gA:∀ i,i<=t.length->MC prog G [500] g [.ref 500 0 0,.d (YG d)] (YH (aW t i)) (.d (cm (f i))) (YH (aW t (Za (f i))))) (i:Nat) (hi:i<=t.length) :
  MC prog G [500] 148 [.ref 500 0 0,.d (.v (.int .u8 sn)),.d (YG d),.bm g (.ref 500 0 0)] (YH (aW t i)) (.d (iw (aaC t s f i []))) (YH (aW t (Za (aaC t s f i [])))):=by
 generalize hR:aaC t s f i []=R;refine MC.aI (aw _) func148 rfl rfl (rs:=[.tmp 8,.tmp 9]) results148 (by simp[ntmps148]) rfl fun X=>?_;simp only[ntmps148];have fw:=(Aq @YG.eq_1 (Aq @aW.eq_1 (Aq @bo.eq_1 @dS.eq_1)));refine ab fw [0,1,2,3] [500] ?_;refine ab fw [0,1,2,3,10] [500] ?_;refine Zb (S:=Nat×List Ex) (fun z=>z.1<=t.length/\z.2.length<=z.1/\aaC t s f z.1 z.2=R) (fun z=>⟨aZ [(0,.ref 500 0 0),(1,.d (.v (.int .u8 sn))),(2,.d (YG d)),(3,.bm g (.ref 500 0 0)),(10,.own 300 0 z.2.length)],YH [(500,.box 182 [.d (dS t),int z.1]),(300,.sl 90 1 (z.2.map fun e=>[dE e]))]⟩) (fun z=>t.length - z.1) (i,[]) ?_ ⟨hi,by simp,hR⟩ ?_
 .refine (aC.lu 10 300 90 1 rfl rfl).trans ?_;refine bz fw
 .rintro⟨k,acc⟩ ⟨hk,Om,hs⟩;dsimp only at hk Om hs ⊢;have hc:=gA k hk;rw[CY hf hk]at hs;refine YR ?_
  cases jN:f k with
  | err c p q=>
   rw[jN]at hc hs;dsimp only at hs;subst hs;refine YT (Aq fw (Aq @cm.eq_1 (Aq @cm.eq_2 (Aq @aR.eq_1 (Aq @aR.eq_2 @aR.eq_3))))) hc [0,1,2,3,10,11,12] [500,300] ?_;refine ae fun K1 ay=>?_;refine ab fw [0,1,2,3,10,11,12,20] [500,300] ?_;refine YL rfl ?_;refine ab fw [8,9] [500] ?_;exact aV (Aq fw (Aq @aW.eq_1 (Aq @bo.eq_1 (Aq @iw.eq_1 (Aq @iw.eq_2 (Aq @Za.eq_1 (Aq @Za.eq_2 (Aq @aR.eq_1 (Aq @aR.eq_2 @aR.eq_3)))))))))
  | ok x j=>
   rw[jN]at hc hs;dsimp only at hs;obtain⟨g1,g2⟩:=hf k x j hk jN;have fU:=ac6 G t j (by omega) g2 s;rw[rH]at fU;obtain⟨t1,t2,t3⟩:=mJ (c:=s) g2;obtain⟨tx,cx,hx⟩:=dX x;have qf:=(Aq fw (Aq @cm.eq_1 (Aq @cm.eq_2 (Aq @Za.eq_1 (Aq @Za.eq_2 @hx)))));refine ld hc [0,1,2,3,10,11,12] [500,300] ?_;refine ae fun K1 ay=>?_;refine ab fw [0,1,2,3,10,11,12,20] [500,300] ?_;refine af rfl ?_;refine ao (ay _ ?_);refine rg [0,1,2,3,10] [500,300] (cH rfl) fun K' ah=>?_;(repeat (refine aJ fun K2 aa=>?_;simp[YG,aW,bo,dS,List.take_of_length_le];(repeat (refine⟨by omega,?_⟩));refine aa _ ?_;clear aa K2));refine YZ (ah _ (AW.st (by simp[YG,aW,bo,dS,List.take_of_length_le];rfl) ?_));clear ah K'
   cases dw:Zy t s j with
   | mk b k2=>
   rw[dw]at hs fU t1 t2 t3;dsimp only at hs fU t1 t2 t3
   cases b with
   | true=>
    rw[if_pos rfl]at hs;have YJ:=t3 rfl;refine YT fw fU [0,1,2,3,10,29] [500,300] ?_;refine af rfl ?_;refine ao ?_;refine bn.mk (k2,acc ++ [x]) ⟨t2,by simp;omega,hs⟩ (by dsimp only;omega) ?_;refine bz (Aq fw @hx)
   | false=>
    rw[if_neg (by simp)]at hs;subst hs;refine YT fw fU [0,1,2,3,10,29] [500,300] ?_;refine YL rfl ?_;refine AW.imp (aC.freeze 300 (by decide)) ?_;refine AW.st (by simp[YG,aW,bo,dS];rfl) ?_;refine ab fw [8,9] [500] ?_;exact aV (Aq fw (Aq @aW.eq_1 (Aq @bo.eq_1 (Aq @iw.eq_1 (Aq @iw.eq_2 (Aq @q4.eq_1 (Aq @Za.eq_1 (Aq @Za.eq_2 @hx))))))))
theorem KK (G:YI) (t:List UInt8) (ht:t.length<=2000) (d:Nat) (kX:∀ i,i<=t.length->MC prog G [500] 197 [.ref 500 0 0,.d (YG d)] (YH (aW t i)) (.d (cm (bJ t d i))) (YH (aW t (Za (bJ t d i))))) (i:Nat) (hi:i<=t.length) :
  MC prog G [500] 149 [.ref 500 0 0,.d (YG d)] (YH (aW t i)) (.d (cm (iP t (bJ t d) i))) (YH (aW t (Za (iP t (bJ t d) i)))):=by
 have gl:=Jt G t ht 197 38 38 rfl d (bJ t d) (iM t d) kX i hi;have hR:iP t (bJ t d) i=(aaC t 38 (bJ t d) i []).map abp:=rfl;rw[hR];have hq:∀ {c:Int} {p q:Nat},aaC t 38 (bJ t d) i [] = .err c p q->q=0:=fun h=>CX _ _ _ h
 cases hs:aaC t 38 (bJ t d) i [] with
 | err c p q=>
  obtain rfl:=hq hs;rw[hs]at gl;refine MC.aI (aw _) func149 rfl rfl (rs:=[.tmp 4,.tmp 5]) results149 (by simp[ntmps149]) rfl fun X=>?_;simp only[ntmps149];have fw:=(Aq @YG.eq_1 (Aq @aW.eq_1 (Aq @bo.eq_1 @dS.eq_1)));refine ab fw [0,1] [500] ?_;refine YT (Aq fw (Aq @iw.eq_1 (Aq @iw.eq_2 (Aq @aR.eq_1 (Aq @aR.eq_2 @aR.eq_3))))) gl [6,7] [500] ?_;refine ae fun K1 ay=>?_;refine ab fw [6,7,17] [500] ?_;refine YL rfl ?_;refine ab fw [4,5] [500] ?_;refine b7 ?_;simp[D.le,D.le.go,aQ,YG,aW,bo,dS,aW,bo,cm,Za,aR,Rs.map,dQ]
 | ok l p=>
  rw[hs]at gl;by_cases hl:l.length=1
  .obtain⟨x,rfl⟩:=List.length_eq_one_iff.1 hl;obtain⟨tx,cx,hx⟩:=dX x;refine MC.aI (aw _) func149 rfl rfl (rs:=[.tmp 4,.tmp 5]) results149 (by simp[ntmps149]) rfl fun X=>?_;simp only[ntmps149];have fw:=(Aq @YG.eq_1 (Aq @aW.eq_1 (Aq @bo.eq_1 @dS.eq_1)));refine ab fw [0,1] [500] ?_;have qf:=(Aq fw (Aq @iw.eq_1 (Aq @iw.eq_2 (Aq @q4.eq_1 @hx))));refine ld gl [6,7] [500] ?_;refine ae fun K1 ay=>?_;refine ab fw [6,7,17] [500] ?_;refine af rfl ?_;refine ao (ay _ ?_);refine ae fun K2 aa=>?_;refine ab fw [6,21] [500] ?_;refine YL rfl ?_;refine ab fw [4,5] [500] ?_;refine b7 ?_;simp[D.le,D.le.go,aQ,YG,aW,bo,dS,aW,bo,cm,Za,Rs.map,abp,hx,D.le_refl]
  .have fk:¬ (l.length:Int)=1:=by omega
   have adj:=vG hl;refine MC.aI (aw _) func149 rfl rfl (rs:=[.tmp 4,.tmp 5]) results149 (by simp[ntmps149]) rfl fun X=>?_;simp only[ntmps149];have fw:=(Aq @YG.eq_1 (Aq @aW.eq_1 (Aq @bo.eq_1 @dS.eq_1)));refine ab fw [0,1] [500] ?_;refine YT (Aq fw (Aq @iw.eq_1 (Aq @iw.eq_2 @q4.eq_1))) gl [6,7] [500] ?_;refine ae fun K1 ay=>?_;refine ab fw [6,7,17] [500] ?_;refine af rfl ?_;refine ao (ay _ ?_);refine ae fun K2 aa=>?_;have qf:=(Aq fw (Aq @hl @fk));refine aB [6,21] [500] ?_;refine af rfl ?_;refine ao (aa _ ?_);refine ab fw [4,5] [500] ?_;refine b7 ?_;simp[D.le,D.le.go,aQ,YG,aW,bo,dS,aW,bo,cm,Za,Rs.map,adj,dE,abr,D.le_refl,D.ba]
theorem Ib (G:YI) (t:List UInt8) (ht:t.length<=2000) (d:Nat) (kX:∀ i,i<=t.length->MC prog G [500] 197 [.ref 500 0 0,.d (YG d)] (YH (aW t i)) (.d (cm (bJ t d i))) (YH (aW t (Za (bJ t d i))))) (i:Nat) (hi:i<=t.length) :
  MC prog G [500] 96 [.ref 500 0 0,.d (YG d)] (YH (aW t i)) (.d (cm (iq t (bJ t d) i))) (YH (aW t (Za (iq t (bJ t d) i)))):=by
 have gl:=Jt G t ht 149 124 124 rfl d (iP t (bJ t d)) (qV (iM t d)) (KK G t ht d kX) i hi;have hR:iq t (bJ t d) i=(aaC t 124 (iP t (bJ t d)) i []).map mT:=rfl;rw[hR];have hq:∀ {c:Int} {p q:Nat},aaC t 124 (iP t (bJ t d)) i [] = .err c p q->q=0:=fun h=>CX _ _ _ h
 cases hs:aaC t 124 (iP t (bJ t d)) i [] with
 | err c p q=>
  obtain rfl:=hq hs;rw[hs]at gl;refine MC.aI (aw _) func96 rfl rfl (rs:=[.tmp 4,.tmp 5]) results96 (by simp[ntmps96]) rfl fun X=>?_;simp only[ntmps96];have fw:=(Aq @YG.eq_1 (Aq @aW.eq_1 (Aq @bo.eq_1 @dS.eq_1)));refine ab fw [0,1] [500] ?_;refine YT (Aq fw (Aq @iw.eq_1 (Aq @iw.eq_2 (Aq @aR.eq_1 (Aq @aR.eq_2 @aR.eq_3))))) gl [6,7] [500] ?_;refine ae fun K1 ay=>?_;refine ab fw [6,7,17] [500] ?_;refine YL rfl ?_;refine ab fw [4,5] [500] ?_;refine b7 ?_;simp[D.le,D.le.go,aQ,YG,aW,bo,dS,aW,bo,cm,Za,aR,Rs.map,dQ]
 | ok l p=>
  rw[hs]at gl;by_cases hl:l.length=1
  .obtain⟨x,rfl⟩:=List.length_eq_one_iff.1 hl;obtain⟨tx,cx,hx⟩:=dX x;refine MC.aI (aw _) func96 rfl rfl (rs:=[.tmp 4,.tmp 5]) results96 (by simp[ntmps96]) rfl fun X=>?_;simp only[ntmps96];have fw:=(Aq @YG.eq_1 (Aq @aW.eq_1 (Aq @bo.eq_1 @dS.eq_1)));refine ab fw [0,1] [500] ?_;have qf:=(Aq fw (Aq @iw.eq_1 (Aq @iw.eq_2 (Aq @q4.eq_1 @hx))));refine ld gl [6,7] [500] ?_;refine ae fun K1 ay=>?_;refine ab fw [6,7,17] [500] ?_;refine af rfl ?_;refine ao (ay _ ?_);refine ae fun K2 aa=>?_;refine ab fw [6,21] [500] ?_;refine YL rfl ?_;refine ab fw [4,5] [500] ?_;refine b7 ?_;simp[D.le,D.le.go,aQ,YG,aW,bo,dS,aW,bo,cm,Za,Rs.map,mT,hx,D.le_refl]
  .have fk:¬ (l.length:Int)=1:=by omega
   have adj:=vH hl;refine MC.aI (aw _) func96 rfl rfl (rs:=[.tmp 4,.tmp 5]) results96 (by simp[ntmps96]) rfl fun X=>?_;simp only[ntmps96];have fw:=(Aq @YG.eq_1 (Aq @aW.eq_1 (Aq @bo.eq_1 @dS.eq_1)));refine ab fw [0,1] [500] ?_;refine YT (Aq fw (Aq @iw.eq_1 (Aq @iw.eq_2 @q4.eq_1))) gl [6,7] [500] ?_;refine ae fun K1 ay=>?_;refine ab fw [6,7,17] [500] ?_;refine af rfl ?_;refine ao (ay _ ?_);refine ae fun K2 aa=>?_;have qf:=(Aq fw (Aq @hl @fk));refine aB [6,21] [500] ?_;refine af rfl ?_;refine ao (aa _ ?_);refine ab fw [4,5] [500] ?_;refine b7 ?_;simp[D.le,D.le.go,aQ,YG,aW,bo,dS,aW,bo,cm,Za,Rs.map,adj,dE,abr,D.le_refl,D.ba]
end Go.Proofs.YtdigkhaofjmgkaaGreatDoor
namespace Go.Proofs.YtdigkhaofjmgkaaGreatDoor
def qR {α:Type} (sz:α->Nat) (t:List UInt8) (f:Nat->Rs α):Prop:=∀ i x j,i<=t.length->f i = .ok x j->sz x<=5 * (j - i)
def Has (t:List UInt8) (p:Nat) (w:List UInt8):Prop:=∀ k,k < w.length->t[p+k]? = w[k]?
theorem Has.cons {t:List UInt8} {p:Nat} {c:UInt8} {w:List UInt8} (h:Has t p (c :: w)):t[p]? = some c/\Has t (p+1) w:=by
 refine⟨by simpa using h 0 (by simp),fun k hk=>?_⟩;have:=h (k+1) (by simp;omega);rw[show p+1+k=p+(k+1) by omega,this];rfl
theorem Has.app {t:List UInt8} {p:Nat} {u v:List UInt8} (h:Has t p (u ++ v)):Has t p u/\Has t (p+u.length) v:=by
 constructor
 .intro k hk;rw[h k (by simp;omega),List.getElem?_append_left hk]
 .intro k hk;rw[show p+u.length+k=p+(u.length+k) by omega,h (u.length+k) (by simp;omega),List.getElem?_append_right (by omega)];congr 1;omega
theorem Has.top {t:List UInt8} {p:Nat} {w:List UInt8} (h:Has t p w) (hp:p<=t.length):p+w.length<=t.length:=by
 cases w with
 | nil=>simpa using hp
 | cons c w=>
  have h1:=h w.length (by simp)
  have h2:(c :: w)[w.length]?≠none:=by simp
  rw[<- h1]at h2
  have h3:p+w.length < t.length:=by
   apply Classical.byContradiction;intro hn;exact h2 (List.getElem?_eq_none (by omega))
  simp only[List.length_cons];omega
theorem FW (t:List UInt8):Has t 0 t:=fun k hk=>by simp
theorem rQ {s:List UInt8} (h:eR s=true):s≠[]/\s.length<=8/\(∀ c∈s,iK c=false)/\∀ c,s[0]? = some c->iK c=false/\c≠48/\c≠49/\97<=c.toNat:=by
 unfold eR at h;simp only[Bool.and_eq_true,decide_eq_true_eq,JN]at h;obtain⟨h1,h2,h3,h4,h5,-⟩:=h
 have hs:∀ c:UInt8,ly.contains c=true->iK c=false:=by
  have h:∀ n:Fin 256,ly.contains (UInt8.ofNat n)=true->iK (UInt8.ofNat n)=false:=by decide +kernel
  intro c;have:=h ⟨c.toNat,c.toNat_lt⟩;simpa using this
 refine⟨h1,h2,fun c hc=>hs c (h5 c hc),fun c hc=>?_⟩;have hm:c∈s:=List.mem_of_getElem? hc
 have hg:s.getD 0 0=c:=by rw[List.getD_eq_getElem?_getD,hc];rfl
 rw[hg]at h3;refine⟨hs c (h5 c hm),?_,?_,h3⟩<;>rintro rfl<;>revert h3<;>decide
def abo (t:List UInt8) (e:Nat):Prop:=∀ c,t[e]? = some c->iK c=true
theorem JI {t:List UInt8}:∀ (w:List UInt8) (k:Nat),Has t k w->(∀ c∈w,iK c=false)->abo t (k+w.length)->kG t k=k+w.length
 | [],k,_,_,hs=>by
  rw[JK fun hk=>hs _ (by simp[List.getElem?_eq_getElem hk])];rfl
 | c :: w,k,h,hw,hs=>by
  obtain⟨h1,h2⟩:=h.cons;obtain⟨hk,he⟩:=List.getElem?_eq_some_iff.1 h1;rw[JJ hk (by rw[he];exact hw c (by simp)),JI w (k+1) h2 (fun c hc=>hw c (by simp[hc])) (by rw[show k+1+w.length=k+(c :: w).length by simp;omega];exact hs)];simp;omega
theorem Di {t s:List UInt8} {q i:Nat} (hn:eR s=true) (h:Has t (aM t i) s) (hs:abo t (aM t i+s.length)):fI t q i = .ok s (aM t i+s.length):=by
 obtain⟨h1,h2,h3,h4⟩:=rQ hn;unfold fI;generalize aM t i=p at *
 have hw:kH t p=p+s.length:=by
  cases s with
  | nil=>exact absurd rfl h1
  | cons c w=>
   obtain⟨g1,g2⟩:=h.cons;obtain⟨f1,f2,f3,f4⟩:=h4 c rfl
   have ho:lI t p=true:=by
    unfold lI;rw[g1];simp[f1,f2,f3]
   unfold kH;rw[ho,if_pos rfl,JI w (p+1) g2 (fun c hc=>h3 c (by simp[hc])) (by rw[show p+1+w.length=p+(c :: w).length by simp;omega];exact hs)];simp;omega
 have hws:js t p=s:=by
  unfold js;rw[hw];apply List.ext_getElem?;intro k;rw[show p+s.length - p=s.length by omega,List.getElem?_take];split
  .rename_i hk;rw[List.getElem?_drop,h k hk]
  .rw[List.getElem?_eq_none (by omega)]
 rw[hws,if_neg h1,if_neg (by rw[hn];simp),hw]
mutual
def cD:Ex->Prop
 | .dT _=>True
 | .bit s=>eR s=true
 | .fW s=>eR s=true
 | .fO s=>eR s=true
 | .not e=>cD e
 | .and l=>2<=l.length/\pB l
 | .or l=>2<=l.length/\pB l
def pB:List Ex->Prop
 | []=>True
 | e :: l=>cD e/\pB l
end
theorem iO:∀ l:List Ex,pB l↔∀ e∈l,cD e
 | []=>by simp[pB]
 | e :: l=>by simp[pB,iO l]
mutual
def du:Ex->Nat
 | .dT _=>1
 | .bit _=>1
 | .fW _=>1
 | .fO _=>1
 | .not e=>du e+1
 | .and l=>lA l+1
 | .or l=>l8 l+1
def lA:List Ex->Nat
 | []=>0
 | e :: l=>max (du e) (lA l)
def l8:List Ex->Nat
 | []=>0
 | e :: l=>max (match e with | .and m=>lA m | e=>du e) (l8 l)
end
def dpI:Ex->Nat
 | .and l=>lA l
 | .or l=>l8 l
 | e=>du e
def jC:Ex->Nat
 | .and l=>lA l
 | e=>du e
theorem Eo (e:Ex) (l:List Ex):l8 (e :: l)=max (jC e) (l8 l):=by
 cases e<;>simp[l8,jC]
theorem sJ {x:Ex}:∀ {l:List Ex},x∈l->du x<=lA l
 | e :: l,h=>by
  rw[lA]
  rcases List.mem_cons.1 h with rfl | h
  .omega
  .have:=sJ h;omega
theorem zq {x:Ex}:∀ {l:List Ex},x∈l->jC x<=l8 l
 | e :: l,h=>by
  rw[Eo]
  rcases List.mem_cons.1 h with rfl | h
  .omega
  .have:=zq h;omega
theorem Mp (e:Ex):jC e<=du e:=by cases e<;>simp[jC,du]
theorem Mo (e:Ex):dpI e<=jC e:=by
 cases e<;>simp[dpI,jC,du]
theorem Mn (e:Ex):du e<=dpI e+1:=by
 cases e<;>simp[dpI,du]
theorem n5:∀ (e:Ex) (k:Nat),cD e->∃ c r,aX e k=c :: r/\c≠32
 | .dT b,k,_=>by cases b<;>exact⟨_,_,rfl,by decide⟩
 | .bit s,k,h=>by
  obtain⟨h1,h2,h3,h4⟩:=rQ h
  cases s with
  | nil=>exact absurd rfl h1
  | cons c r=>exact⟨c,r,rfl,by rintro rfl;have:=(h4 32 rfl).1;revert this;decide⟩
 | .fW s,k,_=>⟨_,_,rfl,by decide⟩
 | .fO s,k,_=>⟨_,_,rfl,by decide⟩
 | .not e,k,_=>⟨_,_,rfl,by decide⟩
 | .and l,k,h=>by
  rw[aX];split
  .exact⟨40,_,rfl,by decide⟩
  .obtain⟨h1,h2⟩:=h
   match l,h1,h2 with
   | x :: l,_,h2=>
    obtain⟨c,r,he,hc⟩:=n5 x 2 h2.1;rw[wrL,Lib.join_cons,he];exact⟨c,_,rfl,hc⟩
 | .or l,k,h=>by
  rw[aX];split
  .exact⟨40,_,rfl,by decide⟩
  .obtain⟨h1,h2⟩:=h
   match l,h1,h2 with
   | x :: l,_,h2=>
    obtain⟨c,r,he,hc⟩:=n5 x 1 h2.1;rw[wrL,Lib.join_cons,he];exact⟨c,_,rfl,hc⟩
theorem qD {t:List UInt8} {p:Nat} {w:List UInt8} (h:Has t p w) (hw:∃ c r,w=c :: r/\c≠32):aM t p=p:=by
 obtain⟨c,r,rfl,hc⟩:=hw;exact aa4 (by rw[h.cons.1];intro e;exact hc (Option.some.inj e))
theorem ya {t:List UInt8} {s:UInt8} (hs:s≠32) {f:Nat->Rs Ex} (hg:aaD t f) (k:Nat) (Q:Nat->Prop) (L:List Ex) (hL:∀ y∈L,cD y)
  (hQ:∀ e,t[e]? = some 32->t[e+1]? = some s->aM t e=e+1->Q e)
  (hf:∀ y∈L,∀ i,i<=t.length->Has t (aM t i) (aX y k)->Q (aM t i+(aX y k).length)->∃ j,f i = .ok y j/\aM t j=aM t (aM t i+(aX y k).length)) :
  ∀ (l:List Ex) (x:Ex),(∀ y∈x :: l,y∈L)->∀ (i:Nat) (acc:List Ex),i<=t.length->Has t (aM t i) (aX x k ++ Lib.joinTail [32,s,32] (l.map fun e=>aX e k))->
   Q (aM t i+(aX x k ++ Lib.joinTail [32,s,32] (l.map fun e=>aX e k)).length)->t[aM t (aM t i+(aX x k ++ Lib.joinTail [32,s,32] (l.map fun e=>aX e k)).length)]?≠some s->
   aaC t s f i acc = .ok (acc ++ x :: l) (aM t (aM t i+(aX x k ++ Lib.joinTail [32,s,32] (l.map fun e=>aX e k)).length)):=by
 intro l
 induction l with
 | nil=>
  intro x hx i acc hi hh hq hn;simp only[List.map_nil,Lib.joinTail,List.flatten_nil,List.append_nil]at hh hq hn ⊢;obtain⟨j,hj,xe⟩:=hf x (hx x (by simp)) i hi hh hq;rw[CY hg hi,hj];dsimp only;unfold Zy;rw[xe,if_neg hn];simp
 | cons y l ih=>
  intro x hx i acc hi hh hq hn
  have ej:Lib.joinTail [32,s,32] ((y :: l).map fun e=>aX e k)=32 :: s :: 32 :: (aX y k ++ Lib.joinTail [32,s,32] (l.map fun e=>aX e k)):=by
   simp[Lib.joinTail]
  rw[ej]at hh hq hn ⊢;have aaA:=iu hi;obtain⟨h1,h2⟩:=hh.app;have QH:=h1.top aaA;generalize hE:aM t i+(aX x k).length=e1 at h2 QH;obtain⟨g1,h2⟩:=h2.cons;obtain⟨g2,h2⟩:=h2.cons;obtain⟨g3,h2⟩:=h2.cons
  have k1:aM t e1=e1+1:=by
   rw[uW g1,aa4];rw[g2];intro h;exact hs (Option.some.inj h)
  obtain⟨j,hj,xe⟩:=hf x (hx x (by simp)) i hi h1 (by rw[hE];exact hQ e1 g1 g2 k1);rw[hE,k1]at xe
  have ht:Zy t s j=(true,e1+2):=by
   unfold Zy;rw[xe,if_pos g2]
  have k2:aM t (e1+2)=e1+3:=by
   rw[uW g3]
   exact qD h2 (by
    obtain⟨c,r,he,hc⟩:=n5 y k (hL y (hx y (by simp)))
    exact⟨c,_,by rw[he];rfl,hc⟩)
  have hlen:e1+2<=t.length:=by
   obtain⟨h,_⟩:=List.getElem?_eq_some_iff.1 g3;omega
  have tl:aM t i+(aX x k ++ 32 :: s :: 32 :: (aX y k ++ Lib.joinTail [32,s,32] (l.map fun e=>aX e k))).length=aM t (e1+2)+(aX y k ++ Lib.joinTail [32,s,32] (l.map fun e=>aX e k)).length:=by
   rw[k2,List.length_append];simp only[List.length_cons];omega
  rw[tl]at hq hn ⊢;have:=ih y (fun z hz=>hx z (List.mem_cons_of_mem x hz)) (e1+2) (acc ++ [x]) hlen (by rw[k2];exact h2) hq hn;rw[CY hg hi,hj];dsimp only;rw[ht];simp only[if_true];rw[this];simp
def vn (t:List UInt8) (d:Nat) (e:Ex):Prop:=∀ i,i<=t.length->Has t (aM t i) (aX e 2)->abo t (aM t i+(aX e 2).length)->bJ t d i = .ok e (aM t i+(aX e 2).length)
def vl (t:List UInt8) (d:Nat) (e:Ex):Prop:=∀ i,i<=t.length->Has t (aM t i) (aX e 1)->abo t (aM t i+(aX e 1).length)->t[aM t (aM t i+(aX e 1).length)]?≠some 38->iP t (bJ t d) i = .ok e (aM t (aM t i+(aX e 1).length))
def vo (t:List UInt8) (d:Nat) (e:Ex):Prop:=∀ i,i<=t.length->Has t (aM t i) (aX e 0)->abo t (aM t i+(aX e 0).length)->t[aM t (aM t i+(aX e 0).length)]?≠some 38->t[aM t (aM t i+(aX e 0).length)]?≠some 124->iq t (bJ t d) i = .ok e (aM t (aM t i+(aX e 0).length))
theorem vp {t:List UInt8} {d:Nat} {l:List Ex} (hw:cD (.and l)) (h:∀ y∈l,vn t d y):vl t d (.and l):=by
 intro i hi hh bA hn;obtain⟨h2,hws⟩:=hw
 match l,h2 with
 | x :: l,h2=>
  have e1:aX (.and (x :: l)) 1=aX x 2 ++ Lib.joinTail [32,38,32] (l.map fun e=>aX e 2):=by
   rw[aX,if_neg (by omega),vf,List.map_cons,Lib.join_cons]
  rw[e1]at hh bA hn ⊢
  have:=ya (s:=38) (by decide) (iM t d) 2 (abo t) (x :: l) ((iO _).1 hws) (fun e h1 _ _ c hc=>by rw[h1]at hc;obtain rfl:=Option.some.inj hc;rfl)
   (fun y hy i hi hh hs=>⟨_,h y hy i hi hh hs,rfl⟩) l x (fun y hy=>hy) i [] hi hh bA hn
  show (aaC t 38 (bJ t d) i []).map abp=_;rw[this];show Rs.ok (abp ([] ++ x :: l)) _=_;rw[List.nil_append,vG (by simp only[List.length_cons]at h2 ⊢;omega)]
theorem yP {t:List UInt8} {d:Nat} {e:Ex} (hw:cD e) (zR:aX e 1=aX e 2) (h:vn t d e):vl t d e:=by
 intro i hi hh bA hn;rw[zR]at hh bA hn ⊢
 have:=ya (s:=38) (by decide) (iM t d) 2 (abo t) [e] (fun y hy=>by simp at hy;subst hy;exact hw) (fun e h1 _ _ c hc=>by rw[h1]at hc;obtain rfl:=Option.some.inj hc;rfl)
  (fun y hy i2 Y8 wO Zv=>⟨_,by have BE:=List.mem_singleton.1 hy;subst BE;exact h i2 Y8 wO Zv,rfl⟩) [] e (fun y hy=>hy) i [] hi (by simpa[Lib.joinTail]using hh) (by simpa[Lib.joinTail]using bA) (by simpa[Lib.joinTail]using hn)
 show (aaC t 38 (bJ t d) i []).map abp=_;rw[this];simp[Rs.map,abp,Lib.joinTail]
theorem H7 {t:List UInt8} {d:Nat} {l:List Ex} (hw:cD (.or l)) (h:∀ y∈l,vl t d y):vo t d (.or l):=by
 intro i hi hh bA jf ZZ;obtain⟨h2,hws⟩:=hw
 match l,h2 with
 | x :: l,h2=>
  have e1:aX (.or (x :: l)) 0=aX x 1 ++ Lib.joinTail [32,124,32] (l.map fun e=>aX e 1):=by
   rw[aX,if_neg (by omega),vf,List.map_cons,Lib.join_cons]
  rw[e1]at hh bA jf ZZ ⊢
  have:=ya (s:=124) (by decide) (qV (iM t d)) 1 (fun e=>abo t e/\t[aM t e]?≠some 38) (x :: l) ((iO _).1 hws)
   (fun e h1 h2 h3=>⟨fun c hc=>by rw[h1]at hc;obtain rfl:=Option.some.inj hc;rfl,by rw[h3,h2];decide⟩)
   (fun y hy i hi hh hs=>⟨_,h y hy i hi hh hs.1 hs.2,qC (hh.top (iu hi))⟩) l x (fun y hy=>hy) i [] hi hh ⟨bA,jf⟩ ZZ
  show (aaC t 124 (iP t (bJ t d)) i []).map mT=_;rw[this];show Rs.ok (mT ([] ++ x :: l)) _=_;rw[List.nil_append,vH (by simp only[List.length_cons]at h2 ⊢;omega)]
theorem H6 {t:List UInt8} {d:Nat} {e:Ex} (hw:cD e) (Nk:aX e 0=aX e 1) (h:vl t d e):vo t d e:=by
 intro i hi hh bA jf ZZ;rw[Nk]at hh bA jf ZZ ⊢
 have:=ya (s:=124) (by decide) (qV (iM t d)) 1 (fun e=>abo t e/\t[aM t e]?≠some 38) [e] (fun y hy=>by simp at hy;subst hy;exact hw)
  (fun e h1 h2 h3=>⟨fun c hc=>by rw[h1]at hc;obtain rfl:=Option.some.inj hc;rfl,by rw[h3,h2];decide⟩)
  (fun y hy i2 Y8 wO Zv=>⟨_,by have BE:=List.mem_singleton.1 hy;subst BE;exact h i2 Y8 wO Zv.1 Zv.2,qC (wO.top (iu Y8))⟩) [] e (fun y hy=>hy) i [] hi (by simpa[Lib.joinTail]using hh) ⟨by simpa[Lib.joinTail]using bA,by simpa[Lib.joinTail]using jf⟩ (by simpa[Lib.joinTail]using ZZ)
 show (aaC t 124 (iP t (bJ t d)) i []).map mT=_;rw[this];simp[Rs.map,mT,Lib.joinTail]
theorem adJ {t:List UInt8} {d:Nat} {e:Ex} (hw:cD e) (h2:aX e 2=40 :: (aX e 0 ++ [41])) (h:vo t d e):vn t (d+1) e:=by
 intro i hi hh bA;rw[h2]at hh bA ⊢;have aaA:=iu hi;generalize hp:aM t i=p at *;obtain⟨g1,hh⟩:=hh.cons;obtain⟨g2,g3⟩:=hh.app;have ZB:p+1<=t.length:=(List.getElem?_eq_some_iff.1 g1).1;have k1:aM t (p+1)=p+1:=qD g2 (n5 e 0 hw);have g4:=g3.cons.1;have k2:aM t (p+1+(aX e 0).length)=p+1+(aX e 0).length:=aa4 (by rw[g4];decide);have:=h (p+1) ZB (by rw[k1];exact g2) (by rw[k1];intro c hc;rw[g4]at hc;obtain rfl:=Option.some.inj hc;rfl) (by rw[k1,k2,g4];decide) (by rw[k1,k2,g4];decide);rw[k1,k2]at this
 have ht:Zy t 41 (p+1+(aX e 0).length)=(true,p+1+(aX e 0).length+1):=by
  unfold Zy;rw[k2,if_pos g4]
 rw[bJ,hp,if_neg (by rw[g1];decide),if_pos g1,this];dsimp only;rw[ht];simp;omega
theorem o8 {t:List UInt8}:∀ (n:Nat) (e:Ex),SizeOf.sizeOf e<=n->cD e->∀ d,du e<=d->vn t d e
 | 0,e,hn,_,_,_=>by cases e<;>simp at hn
 | n+1,e,hn,hw,d,hd=>by
  have key:∀ b:Bool,∀ (p:Nat),t[p]? = some (if b then 49 else 48)->aM t p=p:=fun b p h=>aa4 (by rw[h];cases b<;>decide)
  cases e with
  | dT b=>
   obtain⟨d,rfl⟩:∃ d',d=d'+1:=⟨d - 1,by simp only[du]at hd;omega⟩;intro i hi hh bA
   cases b with
   | true=>
    have g:t[aM t i]? = some 49:=(show Has t (aM t i) (_ :: _) from hh).cons.1;rw[bJ,if_neg (by rw[g];decide),if_neg (by rw[g];decide),if_neg (by rw[g];decide),if_pos g];simp[aX]
   | false=>
    have g:t[aM t i]? = some 48:=(show Has t (aM t i) (_ :: _) from hh).cons.1;rw[bJ,if_neg (by rw[g];decide),if_neg (by rw[g];decide),if_pos g];simp[aX]
  | bit s=>
   obtain⟨d,rfl⟩:∃ d',d=d'+1:=⟨d - 1,by simp only[du]at hd;omega⟩;intro i hi hh bA;rw[aX]at hh bA ⊢;obtain⟨n1,n2,n3,n4⟩:=rQ hw;have aaA:=iu hi;have hid:=qC hi
   have hlen:0 < s.length:=by cases s with | nil=>exact absurd rfl n1 | cons c s=>simp
   have hc:t[aM t i]? = s[0]?:=by simpa using hh 0 hlen
   have aG:∀ c:UInt8,iK c=true\/c=48\/c=49->t[aM t i]?≠some c:=by
    intro c ea h;rw[hc]at h;obtain⟨f1,f2,f3,_⟩:=n4 c h
    rcases ea with h | h | h
    .rw[f1]at h;cases h
    .exact f2 h
    .exact f3 h
   rw[bJ,if_neg (aG 33 (by decide)),if_neg (aG 40 (by decide)),if_neg (aG 48 (by decide)),if_neg (aG 49 (by decide)),if_neg (aG 94 (by decide)),if_neg (aG 126 (by decide)),Di hw (by rw[hid];exact hh) (by rw[hid];exact bA),hid];rfl
  | fW s=>
   obtain⟨d,rfl⟩:∃ d',d=d'+1:=⟨d - 1,by simp only[du]at hd;omega⟩;intro i hi hh bA;rw[aX]at hh bA ⊢;obtain⟨g,hh⟩:=hh.cons;have k1:aM t (aM t i+1)=aM t i+1:=qD hh (n5 (.bit s) 0 hw);rw[bJ,if_neg (by rw[g];decide),if_neg (by rw[g];decide),if_neg (by rw[g];decide),if_neg (by rw[g];decide),if_pos g,Di hw (by rw[k1];exact hh) (by rw[k1];rw[List.length_cons]at bA;rw[show aM t i+1+s.length=aM t i+(s.length+1) by omega];exact bA),k1];simp[Rs.map];omega
  | fO s=>
   obtain⟨d,rfl⟩:∃ d',d=d'+1:=⟨d - 1,by simp only[du]at hd;omega⟩;intro i hi hh bA;rw[aX]at hh bA ⊢;obtain⟨g,hh⟩:=hh.cons;have k1:aM t (aM t i+1)=aM t i+1:=qD hh (n5 (.bit s) 0 hw);rw[bJ,if_neg (by rw[g];decide),if_neg (by rw[g];decide),if_neg (by rw[g];decide),if_neg (by rw[g];decide),if_neg (by rw[g];decide),if_pos g,Di hw (by rw[k1];exact hh) (by rw[k1];rw[List.length_cons]at bA;rw[show aM t i+1+s.length=aM t i+(s.length+1) by omega];exact bA),k1];simp[Rs.map];omega
  | not x=>
   obtain⟨d,rfl⟩:∃ d',d=d'+1:=⟨d - 1,by simp only[du]at hd;omega⟩;have ih:=o8 (t:=t) n x (by simp at hn;omega) hw d (by simp only[du]at hd;omega);intro i hi hh bA;rw[aX]at hh bA ⊢;obtain⟨g,hh⟩:=hh.cons;have ZB:=(List.getElem?_eq_some_iff.1 g).1;have k1:aM t (aM t i+1)=aM t i+1:=qD hh (n5 x 2 hw);rw[bJ,if_pos g,ih (aM t i+1) ZB (by rw[k1];exact hh) (by rw[k1];rw[List.length_cons]at bA;rw[show aM t i+1+(aX x 2).length=aM t i+((aX x 2).length+1) by omega];exact bA),k1];simp;omega
  | and l=>
   obtain⟨d,rfl⟩:∃ d',d=d'+1:=⟨d - 1,by simp only[du]at hd;omega⟩;simp only[du]at hd;refine adJ hw (by simp[aX]) (H6 hw (by simp[aX]) (vp hw fun y hy=>?_));have:=List.sizeOf_lt_of_mem hy;have h2:=sJ hy;exact o8 n y (by simp only[Ex.and.sizeOf_spec]at hn;omega) ((iO _).1 hw.2 y hy) d (by omega)
  | or l=>
   obtain⟨d,rfl⟩:∃ d',d=d'+1:=⟨d - 1,by simp only[du]at hd;omega⟩;simp only[du]at hd;refine adJ hw (by simp[aX]) (H7 hw fun y hy=>?_);have hs:=List.sizeOf_lt_of_mem hy;have h2:=zq hy;have nJ:=(iO _).1 hw.2 y hy
   have iI:SizeOf.sizeOf y+1<=n:=by simp only[Ex.or.sizeOf_spec]at hn;omega
   by_cases hm:∃ m,y = .and m
   .obtain⟨m,rfl⟩:=hm;refine vp nJ fun z hz=>?_;have:=List.sizeOf_lt_of_mem hz;have h3:=sJ hz;simp only[jC]at h2;exact o8 n z (by simp only[Ex.and.sizeOf_spec]at iI;omega) ((iO _).1 nJ.2 z hz) d (by omega)
   .have h3:jC y=du y:=by
     cases y<;>first | rfl | exact absurd ⟨_,rfl⟩ hm
    have h4:aX y 1=aX y 2:=by
     cases y<;>first | rfl | exact absurd ⟨_,rfl⟩ hm | simp[aX]
    exact yP nJ h4 (o8 n y (by omega) nJ d (by omega))
theorem H8 {t:List UInt8} {e:Ex} (hw:cD e) {d:Nat} (hd:dpI e<=d):vo t d e:=by
 by_cases ho:∃ l,e = .or l
 .obtain⟨l,rfl⟩:=ho;refine H7 hw fun y hy=>?_;have h2:=zq hy;have nJ:=(iO _).1 hw.2 y hy;simp only[dpI]at hd;by_cases hm:∃ m,y = .and m
  .obtain⟨m,rfl⟩:=hm;refine vp nJ fun z hz=>?_;have h3:=sJ hz;simp only[jC]at h2;exact o8 _ z (Nat.le_refl _) ((iO _).1 nJ.2 z hz) d (by omega)
  .have h3:jC y=du y:=by
    cases y<;>first | rfl | exact absurd ⟨_,rfl⟩ hm
   have h4:aX y 1=aX y 2:=by
    cases y<;>first | rfl | exact absurd ⟨_,rfl⟩ hm | simp[aX]
   exact yP nJ h4 (o8 _ y (Nat.le_refl _) nJ d (by omega))
 .have h0:aX e 0=aX e 1:=by
   cases e<;>first | rfl | exact absurd ⟨_,rfl⟩ ho | simp[aX]
  refine H6 hw h0 ?_;by_cases hm:∃ m,e = .and m
  .obtain⟨m,rfl⟩:=hm;refine vp hw fun z hz=>?_;have h3:=sJ hz;simp only[dpI]at hd;exact o8 _ z (Nat.le_refl _) ((iO _).1 hw.2 z hz) d (by omega)
  .have h3:dpI e=du e:=by
    cases e<;>first | rfl | exact absurd ⟨_,rfl⟩ hm | exact absurd ⟨_,rfl⟩ ho
   have h4:aX e 1=aX e 2:=by
    cases e<;>first | rfl | exact absurd ⟨_,rfl⟩ hm | exact absurd ⟨_,rfl⟩ ho | simp[aX]
   exact yP hw h4 (o8 _ e (Nat.le_refl _) hw d (by omega))
theorem or_self {e:Ex} (hw:cD e) {d:Nat} (hd:dpI e<=d):iq (aX e 0) (bJ (aX e 0) d) 0 = .ok e (aX e 0).length:=by
 have k0:aM (aX e 0) 0=0:=qD (FW _) (n5 e 0 hw);have k1:aM (aX e 0) (aX e 0).length=(aX e 0).length:=aa4 (by simp);have:=H8 (t:=aX e 0) hw hd 0 (Nat.zero_le _) (by rw[k0];exact FW _) (by rw[k0];intro c hc;simp at hc) (by rw[k0,Nat.zero_add,k1];simp) (by rw[k0,Nat.zero_add,k1];simp);rw[k0,Nat.zero_add,k1]at this;exact this
theorem Ud {e:Ex} (hw:cD e) (hd:dpI e<=20) (hl:(aX e 0).length<=2000):Zx (aX e 0)=(some e,none):=by
 have k1:aM (aX e 0) (aX e 0).length=(aX e 0).length:=aa4 (by simp);unfold Zx;rw[if_neg (by omega),or_self hw hd];dsimp only;rw[k1,if_neg (by omega)]
theorem CT {t:List UInt8} {s:UInt8} {f:Nat->Rs Ex} (P:Ex->Prop) (hf:∀ i x j,f i = .ok x j->P x):∀ (n i:Nat) (acc l:List Ex) (j:Nat),e8 t s f n i acc = .ok l j->(∀ x∈acc,P x)->∀ x∈l,P x
 | 0,i,acc,l,j,h,_=>by simp[e8]at h
 | n+1,i,acc,l,j,h,ha=>by
  rw[e8]at h
  cases ZF:f i with
  | err c p q=>rw[ZF]at h;cases h
  | ok x k=>
   rw[ZF]at h;dsimp only at h
   have ck:∀ y∈acc ++ [x],P y:=fun y hy=>by
    rcases List.mem_append.1 hy with hy | hy
    .exact ha y hy
    .simp at hy;subst hy;exact hf _ _ _ ZF
   split at h
   .exact CT P hf n _ _ l j h ck
   .simp only[Rs.ok.injEq]at h;obtain⟨rfl,-⟩:=h;exact ck
theorem CW {t:List UInt8} {s:UInt8} {f:Nat->Rs Ex}:∀ (n i:Nat) (acc l:List Ex) (j:Nat),e8 t s f n i acc = .ok l j->acc.length < l.length
 | 0,i,acc,l,j,h=>by simp[e8]at h
 | n+1,i,acc,l,j,h=>by
  rw[e8]at h;split at h
  .cases h
  .split at h
   .have:=CW n _ _ l j h;simp only[List.length_append,List.length_singleton]at this;omega
   .simp only[Rs.ok.injEq]at h;obtain⟨rfl,-⟩:=h;simp
theorem En {d:Nat}:∀ {l:List Ex},(∀ x∈l,du x<=d)->lA l<=d
 | [],_=>by simp[lA]
 | e :: l,h=>by
  have h1:=h e (by simp);have h2:=En (l:=l) fun x hx=>h x (by simp[hx]);rw[lA];omega
theorem Ep {d:Nat}:∀ {l:List Ex},(∀ x∈l,jC x<=d)->l8 l<=d
 | [],_=>by simp[l8]
 | e :: l,h=>by
  have h1:=h e (by simp);have h2:=Ep (l:=l) fun x hx=>h x (by simp[hx]);rw[Eo];omega
theorem KL {t:List UInt8} {d:Nat} (h:∀ i x j,bJ t d i = .ok x j->cD x/\du x<=d) {i j:Nat} {x:Ex} (he:iP t (bJ t d) i = .ok x j):cD x/\jC x<=d:=by
 obtain⟨l,h1,rfl⟩:=jn he;have ha:=CT (fun x=>cD x/\du x<=d) h _ _ _ _ _ h1 (by simp);have hp:=CW _ _ _ _ _ h1;by_cases hl:l.length=1
 .obtain⟨x,rfl⟩:=List.length_eq_one_iff.1 hl;have:=ha x (by simp);exact⟨this.1,Nat.le_trans (Mp x) this.2⟩
 .rw[vG hl];exact⟨⟨by simp at hp;omega,(iO _).2 fun x hx=>(ha x hx).1⟩,En fun x hx=>(ha x hx).2⟩
theorem Ic {t:List UInt8} {d:Nat} (h:∀ i x j,bJ t d i = .ok x j->cD x/\du x<=d) {i j:Nat} {x:Ex} (he:iq t (bJ t d) i = .ok x j):cD x/\dpI x<=d:=by
 obtain⟨l,h1,rfl⟩:=jn he;have ha:=CT (fun x=>cD x/\jC x<=d) (fun i x j h'=>KL h h') _ _ _ _ _ h1 (by simp);have hp:=CW _ _ _ _ _ h1;by_cases hl:l.length=1
 .obtain⟨x,rfl⟩:=List.length_eq_one_iff.1 hl;have:=ha x (by simp);exact⟨this.1,Nat.le_trans (Mo x) this.2⟩
 .rw[vH hl];exact⟨⟨by simp at hp;omega,(iO _).2 fun x hx=>(ha x hx).1⟩,Ep fun x hx=>(ha x hx).2⟩
theorem Dn {t:List UInt8} {q i j:Nat} {s:List UInt8} (h:fI t q i = .ok s j):eR s=true:=by
 unfold fI at h;split at h
 .cases h
 .split at h
  .cases h
  .rename_i hn;simp only[Rs.ok.injEq]at h;obtain⟨rfl,-⟩:=h;simpa using hn
theorem H5 (t:List UInt8):∀ d i x j,bJ t d i = .ok x j->cD x/\du x<=d
 | 0,i,x,j,h=>by simp[bJ]at h
 | d+1,i,x,j,h=>by
  have ih:=H5 t d;rw[bJ]at h;split at h
  .cases he:bJ t d (aM t i+1) with
   | err c p q=>rw[he]at h;cases h
   | ok y k=>
    rw[he]at h;simp only[Rs.ok.injEq]at h;obtain⟨rfl,rfl⟩:=h;have:=ih _ _ _ he;exact⟨this.1,by simp only[du];omega⟩
  split at h
  .cases he:iq t (bJ t d) (aM t i+1) with
   | err c p q=>rw[he]at h;cases h
   | ok y k=>
    rw[he]at h;dsimp only at h;split at h
    .simp only[Rs.ok.injEq]at h;obtain⟨rfl,rfl⟩:=h;have:=Ic ih he;have h3:=Mn y;exact⟨this.1,by omega⟩
    .cases h
  split at h
  .simp only[Rs.ok.injEq]at h;obtain⟨rfl,rfl⟩:=h;exact⟨trivial,by simp only[du];omega⟩
  split at h
  .simp only[Rs.ok.injEq]at h;obtain⟨rfl,rfl⟩:=h;exact⟨trivial,by simp only[du];omega⟩
  split at h
  .obtain⟨s,h3,rfl⟩:=jn h;exact⟨Dn h3,by simp only[du];omega⟩
  split at h
  .obtain⟨s,h3,rfl⟩:=jn h;exact⟨Dn h3,by simp only[du];omega⟩
  .obtain⟨s,h3,rfl⟩:=jn h;exact⟨Dn h3,by simp only[du];omega⟩
theorem r0 {t:List UInt8} {x:Ex} (h:(Zx t).1=some x):cD x/\dpI x<=20:=by
 unfold Zx at h;split at h
 .cases h
 .split at h
  .cases h
  .rename_i y i he;split at h
   .cases h
   .obtain rfl:=Option.some.inj h;exact Ic (H5 t 20) he
mutual
def eX (is dz:List UInt8->Bool):Ex->Bool
 | .dT b=>b
 | .bit s=>is s
 | .fW s=>is s && !dz s
 | .fO s=>!is s && dz s
 | .not e=>!eX is dz e
 | .and l=>vU is dz l
 | .or l=>evO is dz l
def vU (is dz:List UInt8->Bool):List Ex->Bool
 | []=>true
 | e :: l=>eX is dz e && vU is dz l
def evO (is dz:List UInt8->Bool):List Ex->Bool
 | []=>false
 | e :: l=>eX is dz e || evO is dz l
end
mutual
def bE:Ex->Nat
 | .dT _=>4
 | .bit s=>s.length+3
 | .fW s=>s.length+4
 | .fO s=>s.length+4
 | .not e=>bE e+1
 | .and l=>eF l+5
 | .or l=>eF l+5
def eF:List Ex->Nat
 | []=>0
 | e :: l=>bE e+eF l
end
theorem su:∀ (a b:List Ex),eF (a ++ b)=eF a+eF b
 | [],b=>by simp[eF]
 | e :: a,b=>by simp only[List.cons_append,eF,su a b];omega
theorem vw:∀ e:Ex,3<=bE e
 | .not e=>by have:=vw e;simp only[bE];omega
 | .dT _=>by simp[bE]
 | .bit _=>by simp[bE]
 | .fW _=>by simp only[bE];omega
 | .fO _=>by simp only[bE];omega
 | .and _=>by simp only[bE];omega
 | .or _=>by simp only[bE];omega
theorem adf {x:Ex}:∀ {l:List Ex},x∈l->bE x<=eF l
 | y :: l,h=>by
  rw[eF]
  rcases List.mem_cons.1 h with rfl | h
  .omega
  .have:=adf h;omega
theorem acj:∀ l:List Ex,3 * l.length<=eF l
 | []=>by simp
 | e :: l=>by have:=acj l;have:=vw e;simp only[List.length_cons,eF];omega
theorem CV {t:List UInt8} {s:UInt8} {f:Nat->Rs Ex} (hg:aaD t f) (hf:qR bE t f):∀ (n i:Nat) (acc l:List Ex) (j:Nat),i<=t.length->e8 t s f n i acc = .ok l j->eF l+5 * (l.length - 1)<=eF acc+5 * acc.length+5 * (j - i)/\acc.length < l.length
 | 0,i,acc,l,j,_,h=>by simp[e8]at h
 | n+1,i,acc,l,j,hi,h=>by
  rw[e8]at h
  cases ZF:f i with
  | err c p q=>rw[ZF]at h;cases h
  | ok x k=>
   rw[ZF]at h;obtain⟨h1,h2⟩:=hg i x k hi ZF;have h5:=hf i x k hi ZF;obtain⟨t1,t2,t3⟩:=mJ (c:=s) h2;dsimp only at h;split at h
   .rename_i ht;have h4:=t3 ht;have ih:=CV hg hf n _ _ l j t2 h;have h6:=yb hg n _ _ l j t2 h;simp only[su,eF,List.length_append,List.length_singleton]at ih;omega
   .simp only[Rs.ok.injEq]at h;obtain⟨rfl,rfl⟩:=h;simp only[su,eF,List.length_append,List.length_singleton];omega
theorem LX {l:List Ex} {m:Nat} (h:eF l+5 * (l.length - 1)<=m) (h0:0 < l.length):bE (abp l)<=m:=by
 by_cases h1:l.length=1
 .obtain⟨x,rfl⟩:=List.length_eq_one_iff.1 h1;simp only[eF,List.length_singleton]at h;show bE x<=m;omega
 .rw[vG h1,bE];omega
theorem LY {l:List Ex} {m:Nat} (h:eF l+5 * (l.length - 1)<=m) (h0:0 < l.length):bE (mT l)<=m:=by
 by_cases h1:l.length=1
 .obtain⟨x,rfl⟩:=List.length_eq_one_iff.1 h1;simp only[eF,List.length_singleton]at h;show bE x<=m;omega
 .rw[vH h1,bE];omega
theorem KJ {t:List UInt8} {one:Nat->Rs Ex} (hg:aaD t one) (h:qR bE t one):qR bE t (iP t one):=fun i x j hi he=>by
 obtain⟨l,h1,rfl⟩:=jn he;have:=CV hg h _ _ _ _ _ hi h1;simp only[eF,List.length_nil]at this;exact LX (by omega) (by omega)
theorem Ia {t:List UInt8} {one:Nat->Rs Ex} (hg:aaD t one) (h:qR bE t one):qR bE t (iq t one):=fun i x j hi he=>by
 obtain⟨l,h1,rfl⟩:=jn he;have:=CV (qV hg) (KJ hg h) _ _ _ _ _ hi h1;simp only[eF,List.length_nil]at this;exact LY (by omega) (by omega)
theorem Dk (t:List UInt8) (q i j:Nat) (s:List UInt8) (hi:i<=t.length) (h:fI t q i = .ok s j):s.length<=j - i/\1<=j - i:=by
 have hg:=yp t q i s j hi h;have h1:=uX t i;unfold fI at h;split at h
 .cases h
 .split at h
  .cases h
  .simp only[Rs.ok.injEq]at h;obtain⟨rfl,rfl⟩:=h;have h4:=Dg t (aM t i);unfold js;rw[List.length_take];omega
theorem H4 (t:List UInt8):∀ d,qR bE t (bJ t d)
 | 0=>fun i x j _ h=>by simp[bJ]at h
 | d+1=>fun i x j hi h=>by
  have ih:=H4 t d;have hg:=iM t d;have h1:=uX t i;have h2:=iu hi;have hb:∀ {c:UInt8},t[aM t i]? = some c->aM t i < t.length:=fun hc=>(List.getElem?_eq_some_iff.1 hc).1;rw[bJ]at h;split at h
  .rename_i hc;have:=hb hc
   cases he:bJ t d (aM t i+1) with
   | err c p q=>rw[he]at h;cases h
   | ok y k=>
    rw[he]at h;simp only[Rs.ok.injEq]at h;obtain⟨rfl,rfl⟩:=h;have h3:=ih _ y k (by omega) he;have h4:=hg _ y k (by omega) he;simp only[bE];omega
  split at h
  .rename_i _ hc;have:=hb hc
   cases he:iq t (bJ t d) (aM t i+1) with
   | err c p q=>rw[he]at h;cases h
   | ok y k=>
    rw[he]at h;dsimp only at h;have h3:=Ia hg ih _ y k (by omega) he;have h4:=qx hg _ y k (by omega) he;obtain⟨t1,t2,t3⟩:=mJ (c:=41) h4.2;split at h
    .simp only[Rs.ok.injEq]at h;obtain⟨rfl,rfl⟩:=h;omega
    .cases h
  split at h
  .rename_i _ _ hc;have:=hb hc;simp only[Rs.ok.injEq]at h;obtain⟨rfl,rfl⟩:=h;simp only[bE];omega
  split at h
  .rename_i _ _ _ hc;have:=hb hc;simp only[Rs.ok.injEq]at h;obtain⟨rfl,rfl⟩:=h;simp only[bE];omega
  split at h
  .rename_i _ _ _ _ hc;have:=hb hc;obtain⟨s,h3,rfl⟩:=jn h;have h4:=Dk t 1 _ j s (by omega) h3;simp only[bE];omega
  split at h
  .rename_i _ _ _ _ _ hc;have:=hb hc;obtain⟨s,h3,rfl⟩:=jn h;have h4:=Dk t 2 _ j s (by omega) h3;simp only[bE];omega
  .obtain⟨s,h3,rfl⟩:=jn h;have h4:=Dk t 3 _ j s (by omega) h3;simp only[bE];omega
theorem uM {t:List UInt8} {x:Ex} (h:(Zx t).1=some x):bE x<=10000:=by
 unfold Zx at h;split at h
 .cases h
 .rename_i hl;split at h
  .cases h
  .rename_i y i he;split at h
   .cases h
   .obtain rfl:=Option.some.inj h;have h1:=Ia (iM t 20) (H4 t 20) 0 y i (Nat.zero_le _) he;have h2:=qx (iM t 20) 0 y i (Nat.zero_le _) he;omega
open Go.Av
theorem JL {t:List UInt8} {c:UInt8} {i j:Nat} (hj:aM t i=j):Zy t c i=if t[j]? = some c then (true,j+1) else (false,j):=by
 unfold Zy;rw[hj]
theorem Dl {t:List UInt8} {q i:Nat} {c:Int} {p q':Nat} (h:fI t q i = .err c p q'):q'=q:=by
 unfold fI at h;split at h
 .simp only[Rs.err.injEq]at h;omega
 .split at h
  .simp only[Rs.err.injEq]at h;omega
  .cases h
theorem T9 (G:YI) (t:List UInt8) (ht:t.length<=2000):∀ (d:Nat),d<=20->∀ i,i<=t.length->MC prog G [500] 197 [.ref 500 0 0,.d (YG d)] (YH (aW t i)) (.d (cm (bJ t d i))) (YH (aW t (Za (bJ t d i)))):=by
 intro d
 induction d with
 | zero=>
  intro _ i hi;have dM:=sR G t i (by omega) hi 4;refine MC.aI (aw _) func197 rfl rfl (rs:=[.tmp 4,.tmp 5]) results197 (by simp[ntmps197]) rfl fun X=>?_;simp only[ntmps197];have fw:=(Aq @YG.eq_1 (Aq @aW.eq_1 (Aq @bo.eq_1 @dS.eq_1)));refine ab fw [0,1] [500] ?_;refine ae fun K1 ay=>?_;refine ab fw [0,1,17] [500] ?_;refine YL rfl ?_;refine YT (Aq fw (Aq @aR.eq_1 (Aq @aR.eq_2 @aR.eq_3))) dM [4,5] [500] ?_;exact aV (Aq fw (Aq @aW.eq_1 (Aq @bo.eq_1 (Aq @cm.eq_1 (Aq @cm.eq_2 (Aq @bJ.eq_1 (Aq @bJ.eq_2 (Aq @Za.eq_1 (Aq @Za.eq_2 (Aq @aR.eq_1 (Aq @aR.eq_2 (Aq @aR.eq_3 @dQ.eq_1))))))))))))
 | succ d ih=>
  intro hd i hi;have ih:=ih (by omega);have ko:=Ib G t ht d ih;have aaA:=iu hi;have acx:=qC hi
  have eH:¬ (d:Int)+1=0:=by omega
  have qh:t.length < 2^60:=by omega
  have Bw:∀ c,MC prog G [500] 196 [.ref 500 0 0,.d (.v (.int .u8 c.toNat))] (YH (aW t i)) (.d (.v (.bool (Zy t c i).1))) (YH (aW t (Zy t c i).2)):=fun c=>ac6 G t i qh hi c;rw[bJ];generalize hj:aM t i=j at aaA acx ⊢;have aaZ:∀ c,MC prog G [500] 196 [.ref 500 0 0,.d (.v (.int .u8 c.toNat))] (YH (aW t j)) (.d (.v (.bool (Zy t c j).1))) (YH (aW t (Zy t c j).2)):=fun c=>ac6 G t j qh aaA c;have yW:=fun c=>JL (t:=t) (c:=c) hj;have yX:=fun c=>JL (t:=t) (c:=c) acx;simp only[yW]at Bw;simp only[yX]at aaZ;have YJ:∀ {c:UInt8},t[j]? = some c->j+1<=t.length:=fun h=>(List.getElem?_eq_some_iff.1 h).1;have jj:=Bw 33;have k40:=aaZ 40;have mu:=aaZ 48;have nL:=aaZ 49;have oZ:=aaZ 94;have rN:=aaZ 126;clear Bw yW yX hj;by_cases y7:t[j]? = some 33
  .rw[if_pos y7]at jj ⊢;have hc:=ih (j+1) (YJ y7)
   cases hr:bJ t d (j+1) with
   | err c p q=>
    rw[hr]at hc;refine MC.aI (aw _) func197 rfl rfl (rs:=[.tmp 4,.tmp 5]) results197 (by simp[ntmps197]) rfl fun X=>?_;simp only[ntmps197];have fw:=(Aq @YG.eq_1 (Aq @aW.eq_1 (Aq @bo.eq_1 @dS.eq_1)));refine ab fw [0,1] [500] ?_;refine ae fun K1 ay=>?_;have qf:=(Aq fw @eH);refine aB [0,1,17] [500] ?_;refine af rfl ?_;refine ao (ay _ ?_);refine ae fun K2 aa=>?_;refine YR ?_;refine YT fw jj [0,1,20] [500] ?_;refine YL rfl ?_;refine YT (Aq fw (Aq @cm.eq_1 (Aq @cm.eq_2 (Aq @aR.eq_1 (Aq @aR.eq_2 @aR.eq_3))))) hc [6,7] [500] ?_;refine ae fun K3 YS=>?_;refine ab fw [6,7,31] [500] ?_;refine YL rfl ?_;refine ab fw [4,5] [500] ?_;exact aV (Aq fw (Aq @aW.eq_1 (Aq @bo.eq_1 (Aq @cm.eq_1 (Aq @cm.eq_2 (Aq @Za.eq_1 (Aq @Za.eq_2 (Aq @aR.eq_1 (Aq @aR.eq_2 (Aq @aR.eq_3 @dQ.eq_1))))))))))
   | ok x k=>
    rw[hr]at hc;obtain⟨tx,cx,hx⟩:=dX x;refine MC.aI (aw _) func197 rfl rfl (rs:=[.tmp 4,.tmp 5]) results197 (by simp[ntmps197]) rfl fun X=>?_;simp only[ntmps197];have fw:=(Aq @YG.eq_1 (Aq @aW.eq_1 (Aq @bo.eq_1 @dS.eq_1)));refine ab fw [0,1] [500] ?_;refine ae fun K1 ay=>?_;have qf:=(Aq fw @eH);refine aB [0,1,17] [500] ?_;refine af rfl ?_;refine ao (ay _ ?_);refine ae fun K2 aa=>?_;refine YR ?_;refine YT fw jj [0,1,20] [500] ?_;refine YL rfl ?_;have qf:=(Aq fw (Aq @cm.eq_1 (Aq @cm.eq_2 @hx)));refine ld hc [6,7] [500] ?_;refine ae fun K3 YS=>?_;refine ab fw [6,7,31] [500] ?_;refine af rfl ?_;refine ao (YS _ ?_);refine ab fw [4,5] [500] ?_;refine b7 ?_;simp[D.le,D.le.go,aQ,YG,aW,bo,dS,aW,bo,cm,Za,dE,hx,D.le_refl]
  rw[if_neg y7]at jj ⊢;by_cases c40:t[j]? = some 40
  .rw[if_pos c40]at k40 ⊢;have hc:=ko (j+1) (YJ c40)
   cases hr:iq t (bJ t d) (j+1) with
   | err c p q=>
    rw[hr]at hc;refine MC.aI (aw _) func197 rfl rfl (rs:=[.tmp 4,.tmp 5]) results197 (by simp[ntmps197]) rfl fun X=>?_;simp only[ntmps197];have fw:=(Aq @YG.eq_1 (Aq @aW.eq_1 (Aq @bo.eq_1 @dS.eq_1)));refine ab fw [0,1] [500] ?_;refine ae fun K1 ay=>?_;have qf:=(Aq fw @eH);refine aB [0,1,17] [500] ?_;refine af rfl ?_;refine ao (ay _ ?_);refine ae fun K2 aa=>?_;refine YR ?_;refine YT fw jj [0,1,20] [500] ?_;refine af rfl ?_;refine YT fw k40 [0,1,36] [500] ?_;refine YL rfl ?_;refine YT (Aq fw (Aq @cm.eq_1 (Aq @cm.eq_2 (Aq @aR.eq_1 (Aq @aR.eq_2 @aR.eq_3))))) hc [0,8,9] [500] ?_;refine ae fun K4 Y4=>?_;refine ab fw [0,8,9,47] [500] ?_;refine YL rfl ?_;refine ab fw [4,5] [500] ?_;exact aV (Aq fw (Aq @aW.eq_1 (Aq @bo.eq_1 (Aq @cm.eq_1 (Aq @cm.eq_2 (Aq @Za.eq_1 (Aq @Za.eq_2 (Aq @aR.eq_1 (Aq @aR.eq_2 (Aq @aR.eq_3 @dQ.eq_1))))))))))
   | ok x k=>
    rw[hr]at hc;obtain⟨tx,cx,hx⟩:=dX x;have tB:=(qx (iM t d) (j+1) x k (YJ c40) hr).2;have xv:=ac6 G t k qh tB 41;have Bu:=mJ (c:=41) tB
    have zT:(Zy t 41 k).1=false->aM t (Zy t 41 k).2=(Zy t 41 k).2:=fun h=>by
     unfold Zy at h ⊢;split at h
     .cases h
     .rw[if_neg ‹_›];exact qC tB
    cases dw:Zy t 41 k with
    | mk b k2=>
    rw[dw]at xv Bu zT;dsimp only at xv Bu zT ⊢
    cases b with
    | true=>
     refine MC.aI (aw _) func197 rfl rfl (rs:=[.tmp 4,.tmp 5]) results197 (by simp[ntmps197]) rfl fun X=>?_;simp only[ntmps197];have fw:=(Aq @YG.eq_1 (Aq @aW.eq_1 (Aq @bo.eq_1 @dS.eq_1)));refine ab fw [0,1] [500] ?_;refine ae fun K1 ay=>?_;have qf:=(Aq fw @eH);refine aB [0,1,17] [500] ?_;refine af rfl ?_;refine ao (ay _ ?_);refine ae fun K2 aa=>?_;refine YR ?_;refine YT fw jj [0,1,20] [500] ?_;refine af rfl ?_;refine YT fw k40 [0,1,36] [500] ?_;refine YL rfl ?_;have qf:=(Aq fw (Aq @cm.eq_1 (Aq @cm.eq_2 (Aq @Za.eq_1 (Aq @Za.eq_2 @hx)))));refine ld hc [0,8,9] [500] ?_;refine ae fun K4 Y4=>?_;refine ab fw [0,8,9,47] [500] ?_;refine af rfl ?_;refine ao (Y4 _ ?_);refine ae fun K5 b8=>?_;refine YT fw xv [0,8,51] [500] ?_;refine af rfl ?_;refine ao (b8 _ ?_);refine ab fw [4,5] [500] ?_;exact aV (Aq fw (Aq @aW.eq_1 (Aq @bo.eq_1 (Aq @cm.eq_1 (Aq @cm.eq_2 (Aq @Za.eq_1 (Aq @Za.eq_2 (Aq @hx @dw))))))))
    | false=>
     have dM:=sR G t k2 qh Bu.2.1 3;rw[zT rfl]at dM;refine MC.aI (aw _) func197 rfl rfl (rs:=[.tmp 4,.tmp 5]) results197 (by simp[ntmps197]) rfl fun X=>?_;simp only[ntmps197];have fw:=(Aq @YG.eq_1 (Aq @aW.eq_1 (Aq @bo.eq_1 @dS.eq_1)));refine ab fw [0,1] [500] ?_;refine ae fun K1 ay=>?_;have qf:=(Aq fw @eH);refine aB [0,1,17] [500] ?_;refine af rfl ?_;refine ao (ay _ ?_);refine ae fun K2 aa=>?_;refine YR ?_;refine YT fw jj [0,1,20] [500] ?_;refine af rfl ?_;refine YT fw k40 [0,1,36] [500] ?_;refine YL rfl ?_;have qf:=(Aq fw (Aq @cm.eq_1 (Aq @cm.eq_2 (Aq @Za.eq_1 (Aq @Za.eq_2 @hx)))));refine ld hc [0,8,9] [500] ?_;refine ae fun K4 Y4=>?_;refine ab fw [0,8,9,47] [500] ?_;refine af rfl ?_;refine ao (Y4 _ ?_);refine ae fun K5 b8=>?_;refine YT fw xv [0,8,51] [500] ?_;refine YL rfl ?_;refine YT (Aq fw (Aq @aR.eq_1 (Aq @aR.eq_2 @aR.eq_3))) dM [4,5] [500] ?_;exact aV (Aq fw (Aq @aW.eq_1 (Aq @bo.eq_1 (Aq @cm.eq_1 (Aq @cm.eq_2 (Aq @Za.eq_1 (Aq @Za.eq_2 (Aq @aR.eq_1 (Aq @aR.eq_2 (Aq @aR.eq_3 (Aq @dQ.eq_1 @dw)))))))))))
  rw[if_neg c40]at k40 ⊢;by_cases D5:t[j]? = some 48
  .rw[if_pos D5]at mu ⊢;refine MC.aI (aw _) func197 rfl rfl (rs:=[.tmp 4,.tmp 5]) results197 (by simp[ntmps197]) rfl fun X=>?_;simp only[ntmps197];have fw:=(Aq @YG.eq_1 (Aq @aW.eq_1 (Aq @bo.eq_1 @dS.eq_1)));refine ab fw [0,1] [500] ?_;refine ae fun K1 ay=>?_;have qf:=(Aq fw @eH);refine aB [0,1,17] [500] ?_;refine af rfl ?_;refine ao (ay _ ?_);refine ae fun K2 aa=>?_;refine YR ?_;refine YT fw jj [0,1,20] [500] ?_;refine af rfl ?_;refine YT fw k40 [0,1,36] [500] ?_;refine af rfl ?_;refine YT fw mu [0,55] [500] ?_;refine YL rfl ?_;refine ab fw [4,5] [500] ?_;refine b7 ?_;simp[D.le,D.le.go,aQ,YG,aW,bo,dS,aW,bo,cm,Za,dE]
  rw[if_neg D5]at mu ⊢;by_cases c49:t[j]? = some 49
  .rw[if_pos c49]at nL ⊢;refine MC.aI (aw _) func197 rfl rfl (rs:=[.tmp 4,.tmp 5]) results197 (by simp[ntmps197]) rfl fun X=>?_;simp only[ntmps197];have fw:=(Aq @YG.eq_1 (Aq @aW.eq_1 (Aq @bo.eq_1 @dS.eq_1)));refine ab fw [0,1] [500] ?_;refine ae fun K1 ay=>?_;have qf:=(Aq fw @eH);refine aB [0,1,17] [500] ?_;refine af rfl ?_;refine ao (ay _ ?_);refine ae fun K2 aa=>?_;refine YR ?_;refine YT fw jj [0,1,20] [500] ?_;refine af rfl ?_;refine YT fw k40 [0,1,36] [500] ?_;refine af rfl ?_;refine YT fw mu [0,55] [500] ?_;refine af rfl ?_;refine YT fw nL [0,59] [500] ?_;refine YL rfl ?_;refine ab fw [4,5] [500] ?_;refine b7 ?_;simp[D.le,D.le.go,aQ,YG,aW,bo,dS,aW,bo,cm,Za,dE]
  rw[if_neg c49]at nL ⊢;by_cases y9:t[j]? = some 94
  .rw[if_pos y9]at oZ ⊢;have hc:=Dm G t 1 (j+1) qh (YJ y9);have hq:∀ {c:Int} {p q':Nat},fI t 1 (j+1) = .err c p q'->q'=1:=fun h=>Dl h
   cases hr:fI t 1 (j+1) with
   | err c p q'=>
    obtain rfl:=hq hr;rw[hr]at hc;refine MC.aI (aw _) func197 rfl rfl (rs:=[.tmp 4,.tmp 5]) results197 (by simp[ntmps197]) rfl fun X=>?_;simp only[ntmps197];have fw:=(Aq @YG.eq_1 (Aq @aW.eq_1 (Aq @bo.eq_1 @dS.eq_1)));refine ab fw [0,1] [500] ?_;refine ae fun K1 ay=>?_;have qf:=(Aq fw @eH);refine aB [0,1,17] [500] ?_;refine af rfl ?_;refine ao (ay _ ?_);refine ae fun K2 aa=>?_;refine YR ?_;refine YT fw jj [0,1,20] [500] ?_;refine af rfl ?_;refine YT fw k40 [0,1,36] [500] ?_;refine af rfl ?_;refine YT fw mu [0,55] [500] ?_;refine af rfl ?_;refine YT fw nL [0,59] [500] ?_;refine af rfl ?_;refine YT fw oZ [0,63] [500] ?_;refine YL rfl ?_;refine YT (Aq fw (Aq @aaR.eq_1 (Aq @aaR.eq_2 (Aq @aR.eq_1 (Aq @aR.eq_2 @aR.eq_3))))) hc [10,11] [500] ?_;refine ab fw [4,5] [500] ?_;refine b7 ?_;simp[D.le,D.le.go,aQ,YG,aW,bo,dS,aW,bo,cm,Za,aR,dQ,Rs.map,Zu]
   | ok s p=>
    rw[hr]at hc;refine MC.aI (aw _) func197 rfl rfl (rs:=[.tmp 4,.tmp 5]) results197 (by simp[ntmps197]) rfl fun X=>?_;simp only[ntmps197];have fw:=(Aq @YG.eq_1 (Aq @aW.eq_1 (Aq @bo.eq_1 @dS.eq_1)));refine ab fw [0,1] [500] ?_;refine ae fun K1 ay=>?_;have qf:=(Aq fw @eH);refine aB [0,1,17] [500] ?_;refine af rfl ?_;refine ao (ay _ ?_);refine ae fun K2 aa=>?_;refine YR ?_;refine YT fw jj [0,1,20] [500] ?_;refine af rfl ?_;refine YT fw k40 [0,1,36] [500] ?_;refine af rfl ?_;refine YT fw mu [0,55] [500] ?_;refine af rfl ?_;refine YT fw nL [0,59] [500] ?_;refine af rfl ?_;refine YT fw oZ [0,63] [500] ?_;refine YL rfl ?_;refine YT (Aq fw (Aq @aaR.eq_1 @aaR.eq_2)) hc [10,11] [500] ?_;refine ab fw [4,5] [500] ?_;refine b7 ?_;simp[D.le,D.le.go,aQ,YG,aW,bo,dS,aW,bo,cm,Za,Rs.map,dE]
  rw[if_neg y9]at oZ ⊢;by_cases y6:t[j]? = some 126
  .rw[if_pos y6]at rN ⊢;have hc:=Dm G t 2 (j+1) qh (YJ y6);have hq:∀ {c:Int} {p q':Nat},fI t 2 (j+1) = .err c p q'->q'=2:=fun h=>Dl h
   cases hr:fI t 2 (j+1) with
   | err c p q'=>
    obtain rfl:=hq hr;rw[hr]at hc;refine MC.aI (aw _) func197 rfl rfl (rs:=[.tmp 4,.tmp 5]) results197 (by simp[ntmps197]) rfl fun X=>?_;simp only[ntmps197];have fw:=(Aq @YG.eq_1 (Aq @aW.eq_1 (Aq @bo.eq_1 @dS.eq_1)));refine ab fw [0,1] [500] ?_;refine ae fun K1 ay=>?_;have qf:=(Aq fw @eH);refine aB [0,1,17] [500] ?_;refine af rfl ?_;refine ao (ay _ ?_);refine ae fun K2 aa=>?_;refine YR ?_;refine YT fw jj [0,1,20] [500] ?_;refine af rfl ?_;refine YT fw k40 [0,1,36] [500] ?_;refine af rfl ?_;refine YT fw mu [0,55] [500] ?_;refine af rfl ?_;refine YT fw nL [0,59] [500] ?_;refine af rfl ?_;refine YT fw oZ [0,63] [500] ?_;refine af rfl ?_;refine YT fw rN [0,74] [500] ?_;refine YL rfl ?_;refine YT (Aq fw (Aq @aaR.eq_1 (Aq @aaR.eq_2 (Aq @aR.eq_1 (Aq @aR.eq_2 @aR.eq_3))))) hc [12,13] [500] ?_;refine ab fw [4,5] [500] ?_;refine b7 ?_;simp[D.le,D.le.go,aQ,YG,aW,bo,dS,aW,bo,cm,Za,aR,dQ,Rs.map,Zu]
   | ok s p=>
    rw[hr]at hc;refine MC.aI (aw _) func197 rfl rfl (rs:=[.tmp 4,.tmp 5]) results197 (by simp[ntmps197]) rfl fun X=>?_;simp only[ntmps197];have fw:=(Aq @YG.eq_1 (Aq @aW.eq_1 (Aq @bo.eq_1 @dS.eq_1)));refine ab fw [0,1] [500] ?_;refine ae fun K1 ay=>?_;have qf:=(Aq fw @eH);refine aB [0,1,17] [500] ?_;refine af rfl ?_;refine ao (ay _ ?_);refine ae fun K2 aa=>?_;refine YR ?_;refine YT fw jj [0,1,20] [500] ?_;refine af rfl ?_;refine YT fw k40 [0,1,36] [500] ?_;refine af rfl ?_;refine YT fw mu [0,55] [500] ?_;refine af rfl ?_;refine YT fw nL [0,59] [500] ?_;refine af rfl ?_;refine YT fw oZ [0,63] [500] ?_;refine af rfl ?_;refine YT fw rN [0,74] [500] ?_;refine YL rfl ?_;refine YT (Aq fw (Aq @aaR.eq_1 @aaR.eq_2)) hc [12,13] [500] ?_;refine ab fw [4,5] [500] ?_;refine b7 ?_;simp[D.le,D.le.go,aQ,YG,aW,bo,dS,aW,bo,cm,Za,Rs.map,dE]
  rw[if_neg y6]at rN ⊢;have hc:=Dm G t 3 j qh aaA;have hq:∀ {c:Int} {p q':Nat},fI t 3 j = .err c p q'->q'=3:=fun h=>Dl h
  cases hr:fI t 3 j with
  | err c p q'=>
   obtain rfl:=hq hr;rw[hr]at hc;refine MC.aI (aw _) func197 rfl rfl (rs:=[.tmp 4,.tmp 5]) results197 (by simp[ntmps197]) rfl fun X=>?_;simp only[ntmps197];have fw:=(Aq @YG.eq_1 (Aq @aW.eq_1 (Aq @bo.eq_1 @dS.eq_1)));refine ab fw [0,1] [500] ?_;refine ae fun K1 ay=>?_;have qf:=(Aq fw @eH);refine aB [0,1,17] [500] ?_;refine af rfl ?_;refine ao (ay _ ?_);refine ae fun K2 aa=>?_;refine YR ?_;refine YT fw jj [0,1,20] [500] ?_;refine af rfl ?_;refine YT fw k40 [0,1,36] [500] ?_;refine af rfl ?_;refine YT fw mu [0,55] [500] ?_;refine af rfl ?_;refine YT fw nL [0,59] [500] ?_;refine af rfl ?_;refine YT fw oZ [0,63] [500] ?_;refine af rfl ?_;refine YT fw rN [0,74] [500] ?_;refine af rfl ?_;refine ao (aa _ ?_);refine YT (Aq fw (Aq @aaR.eq_1 (Aq @aaR.eq_2 (Aq @aR.eq_1 (Aq @aR.eq_2 @aR.eq_3))))) hc [14,15] [500] ?_;refine ab fw [4,5] [500] ?_;refine b7 ?_;simp[D.le,D.le.go,aQ,YG,aW,bo,dS,aW,bo,cm,Za,aR,dQ,Rs.map,Zu]
  | ok s p=>
   rw[hr]at hc;refine MC.aI (aw _) func197 rfl rfl (rs:=[.tmp 4,.tmp 5]) results197 (by simp[ntmps197]) rfl fun X=>?_;simp only[ntmps197];have fw:=(Aq @YG.eq_1 (Aq @aW.eq_1 (Aq @bo.eq_1 @dS.eq_1)));refine ab fw [0,1] [500] ?_;refine ae fun K1 ay=>?_;have qf:=(Aq fw @eH);refine aB [0,1,17] [500] ?_;refine af rfl ?_;refine ao (ay _ ?_);refine ae fun K2 aa=>?_;refine YR ?_;refine YT fw jj [0,1,20] [500] ?_;refine af rfl ?_;refine YT fw k40 [0,1,36] [500] ?_;refine af rfl ?_;refine YT fw mu [0,55] [500] ?_;refine af rfl ?_;refine YT fw nL [0,59] [500] ?_;refine af rfl ?_;refine YT fw oZ [0,63] [500] ?_;refine af rfl ?_;refine YT fw rN [0,74] [500] ?_;refine af rfl ?_;refine ao (aa _ ?_);refine YT (Aq fw (Aq @aaR.eq_1 @aaR.eq_2)) hc [14,15] [500] ?_;refine ab fw [4,5] [500] ?_;refine b7 ?_;simp[D.le,D.le.go,aQ,YG,aW,bo,dS,aW,bo,cm,Za,Rs.map,dE]
theorem x5 {r r':Nat} (h:r≠r') (row:Row):pd r r' (YH [(r,row)])=YH [(r',row.tr (gr r r') (gq r r'))]:=by
 funext q;unfold pd;by_cases h1:q=r'
 .subst h1;simp[YH,List.lookup]
 .rw[if_neg h1];by_cases h2:q=r
  .subst h2;simp[YH,List.lookup,h1,beq_eq_false_iff_ne.2 h1]
  .simp[YH,List.lookup,h2,beq_eq_false_iff_ne.2 h1,beq_eq_false_iff_ne.2 h2]
def jA:Option Ex->D
 | some x=>dE x
 | none=>.v .nilIface
theorem CA (G:YI) (t:List UInt8) (ht:t.length < 2^60):aq prog G 47 [dS t] (.aT [jA (Zx t).1,aR (Zx t).2]):=by
 unfold Zx;by_cases hl:2000 < t.length
 .have fk:(2000:Int) < (t.length:Int):=by omega
  rw[if_pos hl];refine aq.aI (aw _) func47 rfl rfl (rs:=[.tmp 2,.tmp 3]) results47 (by simp[ntmps47]) fun X=>?_;simp only[ntmps47,List.map];have fw:=(Aq @YG.eq_1 (Aq @aW.eq_1 (Aq @bo.eq_1 @dS.eq_1)));refine ab fw [0] [] ?_;refine ae fun K1 ay=>?_;have qf:=(Aq fw (Aq @bC (Aq @hl @fk)));refine aB [0,9] [] ?_;refine YL rfl ?_;refine ab fw [2,3] [] ?_;exact aV (Aq fw (Aq @jA.eq_1 (Aq @jA.eq_2 (Aq @aR.eq_1 (Aq @aR.eq_2 @aR.eq_3)))))
 have fk:¬ (2000:Int) < (t.length:Int):=by omega
 rw[if_neg hl];have ko:=Ib G t (by omega) 20 (T9 G t (by omega) 20 (by decide)) 0 (Nat.zero_le _)
 cases hr:iq t (bJ t 20) 0 with
 | err c p q=>
  rw[hr]at ko;refine aq.aI (aw _) func47 rfl rfl (rs:=[.tmp 2,.tmp 3]) results47 (by simp[ntmps47]) fun X=>?_;simp only[ntmps47,List.map];have fw:=(Aq @YG.eq_1 (Aq @aW.eq_1 (Aq @bo.eq_1 @dS.eq_1)));refine ab fw [0] [] ?_;refine ae fun K1 ay=>?_;have qf:=(Aq fw (Aq @bC (Aq @hl @fk)));refine aB [0,9] [] ?_;refine af rfl ?_;refine ao (ay _ ?_);refine ab fw [0,4] [13] ?_;refine AW.imp (aC.cU (r:=13) (r':=500) trivial (by simp)) ?_;refine AW.st (by simp[gr,gq,Go.Av.cU,x5];rfl) ?_;refine YT (Aq fw (Aq @cm.eq_1 (Aq @cm.eq_2 (Aq @aR.eq_1 (Aq @aR.eq_2 @aR.eq_3))))) ko [0,4,5,6] [500] ?_;refine ae fun K2 aa=>?_;refine ab fw [0,4,5,6,20] [500] ?_;refine YL rfl ?_;refine ab fw [2,3] [] ?_;exact aV (Aq fw (Aq @jA.eq_1 (Aq @jA.eq_2 (Aq @aR.eq_1 (Aq @aR.eq_2 @aR.eq_3)))))
 | ok x k=>
  rw[hr]at ko;have hk:=(qx (iM t 20) 0 x k (Nat.zero_le _) hr).2;have ZO:=vC G t k (by omega) hk;have aaA:=iu hk;have dM:=sR G t (aM t k) (by omega) aaA 3;rw[qC hk]at dM;obtain⟨tx,cx,hx⟩:=dX x;dsimp only;generalize aM t k=j at ZO aaA dM ⊢;by_cases hj:j < t.length
  .have eb:(j:Int) < (t.length:Int):=by omega
   rw[if_pos hj];refine aq.aI (aw _) func47 rfl rfl (rs:=[.tmp 2,.tmp 3]) results47 (by simp[ntmps47]) fun X=>?_;simp only[ntmps47,List.map];have fw:=(Aq @YG.eq_1 (Aq @aW.eq_1 (Aq @bo.eq_1 @dS.eq_1)));refine ab fw [0] [] ?_;refine ae fun K1 ay=>?_;have qf:=(Aq fw (Aq @bC (Aq @hl @fk)));refine aB [0,9] [] ?_;refine af rfl ?_;refine ao (ay _ ?_);refine ab fw [0,4] [13] ?_;refine AW.imp (aC.cU (r:=13) (r':=500) trivial (by simp)) ?_;refine AW.st (by simp[gr,gq,Go.Av.cU,x5];rfl) ?_;have qf:=(Aq fw (Aq @cm.eq_1 (Aq @cm.eq_2 (Aq @Za.eq_1 (Aq @Za.eq_2 @hx)))));refine ld ko [0,4,5,6] [500] ?_;refine ae fun K2 aa=>?_;refine ab fw [0,4,5,6,20] [500] ?_;refine af rfl ?_;refine ao (aa _ ?_);refine ae fun K3 YS=>?_;refine YT fw ZO [0,4,5] [500] ?_;have qf:=(Aq fw (Aq @bC (Aq @hj @eb)));refine aB [4,5,30] [500] ?_;refine YL rfl ?_;refine YT (Aq fw (Aq @aR.eq_1 (Aq @aR.eq_2 @aR.eq_3))) dM [2,3] [] ?_;exact aV (Aq fw (Aq @jA.eq_1 (Aq @jA.eq_2 (Aq @aR.eq_1 (Aq @aR.eq_2 @aR.eq_3)))))
  .have eb:¬ (j:Int) < (t.length:Int):=by omega
   rw[if_neg hj];refine aq.aI (aw _) func47 rfl rfl (rs:=[.tmp 2,.tmp 3]) results47 (by simp[ntmps47]) fun X=>?_;simp only[ntmps47,List.map];have fw:=(Aq @YG.eq_1 (Aq @aW.eq_1 (Aq @bo.eq_1 @dS.eq_1)));refine ab fw [0] [] ?_;refine ae fun K1 ay=>?_;have qf:=(Aq fw (Aq @bC (Aq @hl @fk)));refine aB [0,9] [] ?_;refine af rfl ?_;refine ao (ay _ ?_);refine ab fw [0,4] [13] ?_;refine AW.imp (aC.cU (r:=13) (r':=500) trivial (by simp)) ?_;refine AW.st (by simp[gr,gq,Go.Av.cU,x5];rfl) ?_;have qf:=(Aq fw (Aq @cm.eq_1 (Aq @cm.eq_2 (Aq @Za.eq_1 (Aq @Za.eq_2 @hx)))));refine ld ko [0,4,5,6] [500] ?_;refine ae fun K2 aa=>?_;refine ab fw [0,4,5,6,20] [500] ?_;refine af rfl ?_;refine ao (aa _ ?_);refine ae fun K3 YS=>?_;refine YT fw ZO [0,4,5] [500] ?_;have qf:=(Aq fw (Aq @bC (Aq @hj @eb)));refine aB [4,5,30] [500] ?_;refine af rfl ?_;refine ao (YS _ ?_);refine ab fw [2,3] [] ?_;exact aV (Aq fw (Aq @jA.eq_1 (Aq @jA.eq_2 (Aq @aR.eq_1 (Aq @aR.eq_2 (Aq @aR.eq_3 @hx))))))
theorem DX {l:List Ex} {i:Nat} (hi:i < l.length):eF (l.take i)+bE l[i]<=eF l:=by
 have h1:=su (l.take i) [l[i]];rw[<- List.take_succ_eq_append_getElem hi]at h1;have h2:=su (l.take (i+1)) (l.drop (i+1));rw[List.take_append_drop]at h2;simp only[eF]at h1;omega
theorem cells_one {y:D} (h:y.one=true):eU (.d y)=some [.d y]:=by
 cases y<;>first | (simp[eU,AV.one,D.one]at h ⊢;done) | (simp[D.one]at h;simp[eU,AV.one,D.one,h])
def cG (all:Bool):Ex->List UInt8
 | .bit s=>if all then s else []
 | .fW s=>s
 | .fO s=>s
 | _=>[]
def gI (s:List UInt8):List (List UInt8):=if s=[] then [] else [s]
mutual
def Y6 (all:Bool):Ex->List (List UInt8)
 | .not e=>Y6 all e
 | .and l=>eg all l
 | .or l=>eg all l
 | e=>gI (cG all e)
def eg (all:Bool):List Ex->List (List UInt8)
 | []=>[]
 | e :: l=>Y6 all e ++ eg all l
end
theorem HW (all:Bool):∀ a b:List Ex,eg all (a ++ b)=eg all a ++ eg all b
 | [],b=>rfl
 | e :: a,b=>by simp[eg,HW all a b]
theorem HX (all:Bool) {l:List Ex} {i:Nat} (hi:i < l.length):eg all (l.take (i+1))=eg all (l.take i) ++ Y6 all l[i]:=by
 rw[List.take_succ_eq_append_getElem hi,HW];simp[eg]
theorem Cn (all:Bool):∀ (n:Nat) (e:Ex),SizeOf.sizeOf e<=n->(Y6 all e).length<=bE e
 | 0,e,hn=>by cases e<;>simp at hn
 | n+1,e,hn=>by
  have many:∀ l:List Ex,(∀ x∈l,SizeOf.sizeOf x<=n)->(eg all l).length<=eF l:=by
   intro l
   induction l with
   | nil=>intro _;simp[eg]
   | cons x l ih=>
    intro h;have a:=ih fun y hy=>h y (by simp[hy]);have b:=Cn all n x (h x (by simp));simp only[eg,eF,List.length_append];omega
  have kX:∀ s,(gI s).length<=1:=fun s=>by unfold gI;split<;>simp
  have hp:=vw e
  cases e with
  | not x=>have:=Cn all n x (by simp at hn;omega);simp only[Y6,bE];omega
  | and l=>
   have:=many l fun x hx=>by have:=List.sizeOf_lt_of_mem hx;simp only[Ex.and.sizeOf_spec]at hn;omega
   simp only[Y6,bE];omega
  | or l=>
   have:=many l fun x hx=>by have:=List.sizeOf_lt_of_mem hx;simp only[Ex.or.sizeOf_spec]at hn;omega
   simp only[Y6,bE];omega
  | dT b=>have:=kX (cG all (.dT b));simp only[Y6];omega
  | bit s=>have:=kX (cG all (.bit s));simp only[Y6];omega
  | fW s=>have:=kX (cG all (.fW s));simp only[Y6];omega
  | fO s=>have:=kX (cG all (.fO s));simp only[Y6];omega
theorem qs (all:Bool) (e:Ex):(Y6 all e).length<=bE e:=Cn all _ e (Nat.le_refl _)
theorem Cm (all:Bool):∀ l:List Ex,(eg all l).length<=eF l
 | []=>by simp[eg]
 | e :: l=>by have:=qs all e;have:=Cm all l;simp only[eg,eF,List.length_append];omega
def cC (l:List (List UInt8)):List (Nat×Row):=[(502,.box 174 [.own 503 0 l.length]),(503,.sl 9 1 (l.map fun s=>[dS s]))]
def aa5 (all:Bool):FuncId:=if all then 157 else 182
theorem TF (G:YI) (e:Ex):aq prog G 157 [dE e] (dS (cG true e)):=by
 by_cases h1:∃ s,e = .bit s
 .obtain⟨s,rfl⟩:=h1;rw[dE];refine aq.aI (aw _) func157 rfl rfl (rs:=[.tmp 2]) results157 (by simp[ntmps157]) fun X=>?_;simp only[ntmps157,List.map];have fw:=(Aq @YG.eq_1 (Aq @dS.eq_1 (Aq @YN.eq_1 (Aq @YN.eq_2 @bG.eq_1))));refine ab fw [0] [] ?_;refine ae fun K1 ay=>?_;refine ab fw [6] [] ?_;refine YR ?_;refine ab fw [6,8,9] [] ?_;refine YL rfl ?_;refine ab fw [3] [] ?_;refine ab fw [2] [] ?_;exact aV (Aq fw (Aq @cG.eq_1 (Aq @cG.eq_2 (Aq @cG.eq_3 (Aq @cG.eq_4 @dS.eq_1)))))
 by_cases h2:∃ s,e = .fW s
 .obtain⟨s,rfl⟩:=h2;rw[dE];refine aq.aI (aw _) func157 rfl rfl (rs:=[.tmp 2]) results157 (by simp[ntmps157]) fun X=>?_;simp only[ntmps157,List.map];have fw:=(Aq @YG.eq_1 (Aq @dS.eq_1 (Aq @YN.eq_1 (Aq @YN.eq_2 @bG.eq_1))));refine ab fw [0] [] ?_;refine ae fun K1 ay=>?_;refine ab fw [6] [] ?_;refine YR ?_;refine ab fw [6,8,9] [] ?_;refine af rfl ?_;refine ab fw [6,12,13] [] ?_;refine YL rfl ?_;refine ab fw [4] [] ?_;refine ab fw [2] [] ?_;exact aV (Aq fw (Aq @cG.eq_1 (Aq @cG.eq_2 (Aq @cG.eq_3 (Aq @cG.eq_4 @dS.eq_1)))))
 by_cases h3:∃ s,e = .fO s
 .obtain⟨s,rfl⟩:=h3;rw[dE];refine aq.aI (aw _) func157 rfl rfl (rs:=[.tmp 2]) results157 (by simp[ntmps157]) fun X=>?_;simp only[ntmps157,List.map];have fw:=(Aq @YG.eq_1 (Aq @dS.eq_1 (Aq @YN.eq_1 (Aq @YN.eq_2 @bG.eq_1))));refine ab fw [0] [] ?_;refine ae fun K1 ay=>?_;refine ab fw [6] [] ?_;refine YR ?_;refine ab fw [6,8,9] [] ?_;refine af rfl ?_;refine ab fw [6,12,13] [] ?_;refine af rfl ?_;refine ab fw [16,17] [] ?_;refine YL rfl ?_;refine ab fw [5] [] ?_;refine ab fw [2] [] ?_;exact aV (Aq fw (Aq @cG.eq_1 (Aq @cG.eq_2 (Aq @cG.eq_3 (Aq @cG.eq_4 @dS.eq_1)))))
 have hk:∃ t c,dE e = .bh t c/\¬ t=189/\¬ t=190/\¬ t=191/\cG true e=[]:=by
  cases e with
  | bit s=>exact absurd ⟨s,rfl⟩ h1
  | fW s=>exact absurd ⟨s,rfl⟩ h2
  | fO s=>exact absurd ⟨s,rfl⟩ h3
  | dT b=>exact⟨_,_,by rw[dE],by decide,by decide,by decide,rfl⟩
  | not b=>exact⟨_,_,by rw[dE],by decide,by decide,by decide,rfl⟩
  | and b=>exact⟨_,_,by rw[dE],by decide,by decide,by decide,rfl⟩
  | or b=>exact⟨_,_,by rw[dE],by decide,by decide,by decide,rfl⟩
 obtain⟨t,c,hy,a1,a2,a3,a4⟩:=hk;rw[a4,hy];refine aq.aI (aw _) func157 rfl rfl (rs:=[.tmp 2]) results157 (by simp[ntmps157]) fun X=>?_;simp only[ntmps157,List.map];have fw:=(Aq @YG.eq_1 (Aq @dS.eq_1 (Aq @YN.eq_1 (Aq @YN.eq_2 @bG.eq_1))));refine ab fw [0] [] ?_;refine ae fun K1 ay=>?_;refine ab fw [6] [] ?_;refine YR ?_;have qf:=(Aq fw @a1);refine aB [6,8,9] [] ?_;refine af rfl ?_;have qf:=(Aq fw @a2);refine aB [6,12,13] [] ?_;refine af rfl ?_;have qf:=(Aq fw @a3);refine aB [16,17] [] ?_;refine af rfl ?_;refine ao (ay _ ?_);refine ab fw [2] [] ?_;refine b7 ?_;simp[D.le,D.le.go,aQ,YG,dS,YN,bG,dS,Zu,D.le_refl]
theorem Ms (G:YI) (e:Ex):aq prog G 182 [dE e] (dS (cG false e)):=by
 by_cases h2:∃ s,e = .fW s
 .obtain⟨s,rfl⟩:=h2;rw[dE];refine aq.aI (aw _) func182 rfl rfl (rs:=[.tmp 2]) results182 (by simp[ntmps182]) fun X=>?_;simp only[ntmps182,List.map];have fw:=(Aq @YG.eq_1 (Aq @dS.eq_1 (Aq @YN.eq_1 (Aq @YN.eq_2 @bG.eq_1))));refine ab fw [0] [] ?_;refine ae fun K1 ay=>?_;refine ab fw [5] [] ?_;refine YR ?_;refine ab fw [5,7,8] [] ?_;refine YL rfl ?_;refine ab fw [3] [] ?_;refine ab fw [2] [] ?_;exact aV (Aq fw (Aq @cG.eq_1 (Aq @cG.eq_2 (Aq @cG.eq_3 (Aq @cG.eq_4 @dS.eq_1)))))
 by_cases h3:∃ s,e = .fO s
 .obtain⟨s,rfl⟩:=h3;rw[dE];refine aq.aI (aw _) func182 rfl rfl (rs:=[.tmp 2]) results182 (by simp[ntmps182]) fun X=>?_;simp only[ntmps182,List.map];have fw:=(Aq @YG.eq_1 (Aq @dS.eq_1 (Aq @YN.eq_1 (Aq @YN.eq_2 @bG.eq_1))));refine ab fw [0] [] ?_;refine ae fun K1 ay=>?_;refine ab fw [5] [] ?_;refine YR ?_;refine ab fw [5,7,8] [] ?_;refine af rfl ?_;refine ab fw [11,12] [] ?_;refine YL rfl ?_;refine ab fw [4] [] ?_;refine ab fw [2] [] ?_;exact aV (Aq fw (Aq @cG.eq_1 (Aq @cG.eq_2 (Aq @cG.eq_3 (Aq @cG.eq_4 @dS.eq_1)))))
 have hk:∃ t c,dE e = .bh t c/\¬ t=190/\¬ t=191/\cG false e=[]:=by
  cases e with
  | fW s=>exact absurd ⟨s,rfl⟩ h2
  | fO s=>exact absurd ⟨s,rfl⟩ h3
  | dT b=>exact⟨_,_,by rw[dE],by decide,by decide,rfl⟩
  | bit b=>exact⟨_,_,by rw[dE],by decide,by decide,rfl⟩
  | not b=>exact⟨_,_,by rw[dE],by decide,by decide,rfl⟩
  | and b=>exact⟨_,_,by rw[dE],by decide,by decide,rfl⟩
  | or b=>exact⟨_,_,by rw[dE],by decide,by decide,rfl⟩
 obtain⟨t,c,hy,a2,a3,a4⟩:=hk;rw[a4,hy];refine aq.aI (aw _) func182 rfl rfl (rs:=[.tmp 2]) results182 (by simp[ntmps182]) fun X=>?_;simp only[ntmps182,List.map];have fw:=(Aq @YG.eq_1 (Aq @dS.eq_1 (Aq @YN.eq_1 (Aq @YN.eq_2 @bG.eq_1))));refine ab fw [0] [] ?_;refine ae fun K1 ay=>?_;refine ab fw [5] [] ?_;refine YR ?_;have qf:=(Aq fw @a2);refine aB [5,7,8] [] ?_;refine af rfl ?_;have qf:=(Aq fw @a3);refine aB [11,12] [] ?_;refine af rfl ?_;refine ao (ay _ ?_);refine ab fw [2] [] ?_;refine b7 ?_;simp[D.le,D.le.go,aQ,YG,dS,YN,bG,dS,Zu,D.le_refl]
theorem TB (G:YI) (all:Bool) (e:Ex):aq prog G (aa5 all) [dE e] (dS (cG all e)):=by
 cases all with
 | true=>exact TF G e
 | false=>exact Ms G e
theorem wc (G:YI) (all:Bool) (l:List (List UInt8)) (e:Ex) (hl:l.length < 2^40):MC prog G [502] 200 ([.d (dE e)] ++ [.d (.ip [.fn (.func (aa5 all)) []]),.ref 502 0 0]) (YH (cC l)) (.d (.aT [])) (YH (cC (l ++ gI (cG all e)))):=by
 have hn:=TB G all e;obtain⟨t,c,hx⟩:=dX e;rw[hx]at hn ⊢;generalize aa5 all=g at hn ⊢;generalize cG all e=s at hn ⊢;by_cases hs:s=[]
 .subst hs
  have he:l ++ gI []=l:=by simp[gI]
  rw[he];refine MC.aI (aw _) func200 rfl rfl (rs:=[]) results200 (by simp[ntmps200]) rfl fun X=>?_;simp only[ntmps200];have fw:=(Aq @YG.eq_1 (Aq @dS.eq_1 @cC.eq_1));refine aP fw hn [2,4] [502,503] ?_;refine rg [2,4,9] [502,503] (cH rfl) fun K' ah=>?_;(repeat (refine aJ fun K2 aa=>?_;simp[YG,dS,cC,bH,bL,Zu];(repeat (refine⟨by omega,?_⟩));refine aa _ ?_;clear aa K2));refine YZ (ah _ (AW.st (by simp[YG,dS,cC,bH,bL,Zu];rfl) ?_));clear ah K';refine af rfl ?_;refine ao ?_;simp[D.le_refl,cC,dS]
 .have he:gI s=[s]:=by unfold gI;rw[if_neg hs]
  have tV:s.isEmpty=false:=by rw[List.isEmpty_eq_false_iff];exact hs
  have GL:(s == [])=false:=by simpa using hs
  rw[he];refine MC.aI (aw _) func200 rfl rfl (rs:=[]) results200 (by simp[ntmps200]) rfl fun X=>?_;simp only[ntmps200];have fw:=(Aq @YG.eq_1 (Aq @dS.eq_1 @cC.eq_1));refine aP fw hn [2,4] [502,503] ?_;refine rg [2,4,9] [502,503] (cH rfl) fun K' ah=>?_;(repeat (refine aJ fun K2 aa=>?_;simp[YG,dS,cC,bH,bL,Zu,hs,tV,GL];(repeat (refine⟨by omega,?_⟩));refine aa _ ?_;clear aa K2));refine YZ (ah _ (AW.st (by simp[YG,dS,cC,bH,bL,Zu,hs,tV,GL];rfl) ?_));clear ah K';refine YL rfl ?_;refine ff (aw _) fun K' ah=>?_;(repeat (refine aJ fun K2 aa=>?_;simp[YG,dS,cC,List.take_of_length_le];(repeat (refine⟨by omega,?_⟩));refine aa _ ?_;clear aa K2));refine YZ (ah _ ?_);clear ah K';(try simp only[YO,bd]);simp[D.le_refl,cC,dS]
theorem W0 (G:YI) (all:Bool):∀ (m:Nat) (e:Ex),SizeOf.sizeOf e<=m->∀ l0:List (List UInt8),l0.length+bE e<=2^39->MC prog G [502] 199 [.d (dE e),.fn (.func 200) [.d (.ip [.fn (.func (aa5 all)) []]),.ref 502 0 0]] (YH (cC l0)) (.d (.aT [])) (YH (cC (l0 ++ Y6 all e))):=by
 intro m
 induction m with
 | zero=>intro e aK;cases e<;>simp at aK
 | succ m ih=>
  intro e aK l0 hb;have XC:=vw e;by_cases hN:∃ x,e = .not x
  .obtain⟨x,rfl⟩:=hN;simp only[bE]at hb;obtain⟨tx,cx,hx⟩:=dX x;have dH:=wc G all l0 (.not x) (by omega);have tJ:gI (cG all (.not x))=[]:=rfl;rw[tJ,List.append_nil,List.singleton_append]at dH;have hc:=ih x (by simp at aK;omega) l0 (by omega);rw[Y6];rw[dE,hx];rw[dE,hx]at dH;rw[hx]at hc;generalize l0 ++ Y6 all x=l1 at hc ⊢;generalize aa5 all=g at hc dH ⊢;refine MC.aI (aw _) func199 rfl rfl (rs:=[]) results199 (by simp[ntmps199]) rfl fun X=>?_;simp only[ntmps199];have fw:=(Aq @YG.eq_1 (Aq @dS.eq_1 (Aq @cC.eq_1 (Aq @YN.eq_1 (Aq @YN.eq_2 @bG.eq_1)))));refine YT fw dH [0,1] [502,503] ?_;refine ab fw [1,14] [502,503] ?_;refine YR ?_;refine ab fw [1,14,16,17] [502,503] ?_;refine YL rfl ?_;refine ab fw [1,4] [4,502,503] ?_;refine ff (aw _) fun K' ah=>?_;(repeat (refine aJ fun K2 aa=>?_;simp[YG,dS,cC,YN,bG];(repeat (refine⟨by omega,?_⟩));refine aa _ ?_;clear aa K2));refine aJ fun K2 aa=>?_;simp[YG,dS,cC,YN,bG];refine bU.mc (hc) ?_ ?_ ?_ ?_ ?_<;>simp[YG,dS,cC,YN,bG];refine aa _ ?_;clear aa K2;(repeat (refine aJ fun K2 aa=>?_;simp[YG,dS,cC,YN,bG];(repeat (refine⟨by omega,?_⟩));refine aa _ ?_;clear aa K2));refine YZ (ah _ ?_);clear ah K';(try simp only[YO,bd]);simp[D.le_refl,cC,dS]
  by_cases hand:∃ l,e = .and l
  .obtain⟨l,rfl⟩:=hand;simp only[bE]at hb;have dH:=wc G all l0 (.and l) (by omega);have tJ:gI (cG all (.and l))=[]:=rfl;rw[tJ,List.append_nil,List.singleton_append]at dH;have Zz:=fun (x:Ex) (hx:x∈l)=>ih x (by have:=List.sizeOf_lt_of_mem hx;simp only[Ex.and.sizeOf_spec]at aK;omega);have hln:=acj l;rw[Y6];rw[dE,abr];rw[dE,abr]at dH;clear ih;generalize hg:aa5 all=g at Zz dH ⊢;refine MC.aI (aw _) func199 rfl rfl (rs:=[]) results199 (by simp[ntmps199]) rfl fun X=>?_;simp only[ntmps199];have fw:=(Aq @YG.eq_1 (Aq @dS.eq_1 (Aq @cC.eq_1 (Aq @YN.eq_1 (Aq @YN.eq_2 @bG.eq_1)))));refine YT fw dH [0,1] [502,503] ?_;refine ab fw [1,14] [502,503] ?_;refine YR ?_;refine ab fw [1,14,16,17] [502,503] ?_;refine af rfl ?_;refine ab fw [1,14,23,24] [502,503] ?_;refine YL rfl ?_;refine ab fw [1,5] [502,503] ?_;refine ab fw [1,25,26,27] [502,503] ?_;refine Zb (S:=Nat) (fun i=>i<=l.length) (fun i=>⟨aZ [(1,.fn (.func 200) [.d (.ip [.fn (.func g) []]),.ref 502 0 0]),(25,.d (.sl none (l.map fun e=>[dE e]))),(26,int l.length),(27,int i)],YH (cC (l0 ++ eg all (l.take i)))⟩) (fun i=>l.length - i) 0 ?_ (by omega) ?_
   .refine bz (Aq fw (Aq @eg.eq_1 @eg.eq_2))
   .intro i hi;refine ab fw [1,25,26,27,28] [502,503] ?_;refine ae fun K1 ay=>?_;refine eM (b:=i < l.length) (by simp[D.le,D.le.go,aQ,YG,dS,cC,YN,bG]) (fun hc=>?_) (fun hc=>?_)
    .have eI:i < l.length:=hc;have h1:=HX all eI;have h2:=Cm all (l.take i);have h3:=DX eI;have YY:=Zz _ (List.getElem_mem eI) (l0 ++ eg all (l.take i)) (by rw[List.length_append];omega);rw[List.append_assoc,<- h1]at YY;obtain⟨tx,cx,hx⟩:=dX l[i];rw[hx]at YY;refine ao (ay _ ?_);refine ae fun K2 aa=>?_;refine YR ?_;have qf:=(Aq fw (Aq @eI @hx));refine aB [1,7,25,26,27] [502,503] ?_;refine ff (aw _) fun K' ah=>?_;(repeat (refine aJ fun K2 aa=>?_;simp[YG,dS,cC,YN,bG];(repeat (refine⟨by omega,?_⟩));refine aa _ ?_;clear aa K2));refine aJ fun K2 aa=>?_;simp[YG,dS,cC,YN,bG];refine bU.mc (YY) ?_ ?_ ?_ ?_ ?_<;>simp[YG,dS,cC,YN,bG];refine aa _ ?_;clear aa K2;(repeat (refine aJ fun K2 aa=>?_;simp[YG,dS,cC,YN,bG];(repeat (refine⟨by omega,?_⟩));refine aa _ ?_;clear aa K2));refine YZ (ah _ ?_);clear ah K';refine aa _ (AW.norm [1,25,26,27] [502,503] (cH rfl) (AW.st (by simp[YG,dS,cC,YN,bG];rfl) ?_));refine cf fw ?_;(try simp only[YO,bd]);refine bn.mk (i+1) (by omega) (by omega) ?_;refine bz fw
    .obtain rfl:i=l.length:=by omega
     refine bY ?_;simp[D.le_refl,List.take_length,cC,dS]
  by_cases ko:∃ l,e = .or l
  .obtain⟨l,rfl⟩:=ko;simp only[bE]at hb;have dH:=wc G all l0 (.or l) (by omega);have tJ:gI (cG all (.or l))=[]:=rfl;rw[tJ,List.append_nil,List.singleton_append]at dH;have Zz:=fun (x:Ex) (hx:x∈l)=>ih x (by have:=List.sizeOf_lt_of_mem hx;simp only[Ex.or.sizeOf_spec]at aK;omega);have hln:=acj l;rw[Y6];rw[dE,abr];rw[dE,abr]at dH;clear ih;generalize hg:aa5 all=g at Zz dH ⊢;refine MC.aI (aw _) func199 rfl rfl (rs:=[]) results199 (by simp[ntmps199]) rfl fun X=>?_;simp only[ntmps199];have fw:=(Aq @YG.eq_1 (Aq @dS.eq_1 (Aq @cC.eq_1 (Aq @YN.eq_1 (Aq @YN.eq_2 @bG.eq_1)))));refine YT fw dH [0,1] [502,503] ?_;refine ab fw [1,14] [502,503] ?_;refine YR ?_;refine ab fw [1,14,16,17] [502,503] ?_;refine af rfl ?_;refine ab fw [1,14,23,24] [502,503] ?_;refine af rfl ?_;refine ab fw [1,36,37] [502,503] ?_;refine YL rfl ?_;refine ab fw [1,8] [502,503] ?_;refine ab fw [1,38,39,40] [502,503] ?_;refine Zb (S:=Nat) (fun i=>i<=l.length) (fun i=>⟨aZ [(1,.fn (.func 200) [.d (.ip [.fn (.func g) []]),.ref 502 0 0]),(38,.d (.sl none (l.map fun e=>[dE e]))),(39,int l.length),(40,int i)],YH (cC (l0 ++ eg all (l.take i)))⟩) (fun i=>l.length - i) 0 ?_ (by omega) ?_
   .refine bz (Aq fw (Aq @eg.eq_1 @eg.eq_2))
   .intro i hi;refine ab fw [1,38,39,40,41] [502,503] ?_;refine ae fun K1 ay=>?_;refine eM (b:=i < l.length) (by simp[D.le,D.le.go,aQ,YG,dS,cC,YN,bG]) (fun hc=>?_) (fun hc=>?_)
    .have eI:i < l.length:=hc;have h1:=HX all eI;have h2:=Cm all (l.take i);have h3:=DX eI;have YY:=Zz _ (List.getElem_mem eI) (l0 ++ eg all (l.take i)) (by rw[List.length_append];omega);rw[List.append_assoc,<- h1]at YY;obtain⟨tx,cx,hx⟩:=dX l[i];rw[hx]at YY;refine ao (ay _ ?_);refine ae fun K2 aa=>?_;refine YR ?_;have qf:=(Aq fw (Aq @eI @hx));refine aB [1,10,38,39,40] [502,503] ?_;refine ff (aw _) fun K' ah=>?_;(repeat (refine aJ fun K2 aa=>?_;simp[YG,dS,cC,YN,bG];(repeat (refine⟨by omega,?_⟩));refine aa _ ?_;clear aa K2));refine aJ fun K2 aa=>?_;simp[YG,dS,cC,YN,bG];refine bU.mc (YY) ?_ ?_ ?_ ?_ ?_<;>simp[YG,dS,cC,YN,bG];refine aa _ ?_;clear aa K2;(repeat (refine aJ fun K2 aa=>?_;simp[YG,dS,cC,YN,bG];(repeat (refine⟨by omega,?_⟩));refine aa _ ?_;clear aa K2));refine YZ (ah _ ?_);clear ah K';refine aa _ (AW.norm [1,38,39,40] [502,503] (cH rfl) (AW.st (by simp[YG,dS,cC,YN,bG];rfl) ?_));refine cf fw ?_;(try simp only[YO,bd]);refine bn.mk (i+1) (by omega) (by omega) ?_;refine bz fw
    .obtain rfl:i=l.length:=by omega
     refine bY ?_;simp[D.le_refl,List.take_length,cC,dS]
  have hk:∃ t c,dE e = .bh t c/\¬ t=114/\¬ t=192/\¬ t=116/\Y6 all e=gI (cG all e):=by
   cases e with
   | not z=>exact absurd ⟨z,rfl⟩ hN
   | and l=>exact absurd ⟨l,rfl⟩ hand
   | or l=>exact absurd ⟨l,rfl⟩ ko
   | dT b=>exact⟨_,_,by rw[dE],by decide,by decide,by decide,rfl⟩
   | bit s=>exact⟨_,_,by rw[dE],by decide,by decide,by decide,rfl⟩
   | fW s=>exact⟨_,_,by rw[dE],by decide,by decide,by decide,rfl⟩
   | fO s=>exact⟨_,_,by rw[dE],by decide,by decide,by decide,rfl⟩
  obtain⟨t,c,hy,h1,h2,h3,h4⟩:=hk;have dH:=wc G all l0 e (by omega);rw[List.singleton_append]at dH;rw[h4,hy];rw[hy]at dH;generalize l0 ++ gI (cG all e)=l1 at dH ⊢;generalize aa5 all=g at dH ⊢;refine MC.aI (aw _) func199 rfl rfl (rs:=[]) results199 (by simp[ntmps199]) rfl fun X=>?_;simp only[ntmps199];have fw:=(Aq @YG.eq_1 (Aq @dS.eq_1 (Aq @cC.eq_1 (Aq @YN.eq_1 (Aq @YN.eq_2 @bG.eq_1)))));refine YT fw dH [0,1] [502,503] ?_;refine ab fw [1,14] [502,503] ?_;refine YR ?_;have qf:=(Aq fw @h1);refine aB [1,14,16,17] [502,503] ?_;refine af rfl ?_;have qf:=(Aq fw @h2);refine aB [1,14,23,24] [502,503] ?_;refine af rfl ?_;have qf:=(Aq fw @h3);refine aB [1,36,37] [502,503] ?_;refine af rfl ?_;refine ao ?_;simp[D.le_refl,cC,dS]
def Zw (all:Bool) (e:Ex):List (List UInt8):=Lib.compact (jY (Y6 all e))
theorem Ju (G:YI) (all:Bool) (e:Ex) (hb:bE e<=2^28):aq prog G 156 [dE e,.fn (.func (aa5 all)) []] (.sl none ((Zw all e).map fun s=>[dS s])):=by
 have hlen:=qs all e;have hw:=W0 G all _ e (Nat.le_refl _) [] (by simp;omega);rw[List.nil_append]at hw;have hso:=VQ G 503 9 (Y6 all e) (by omega);have fi:=L0 G 503 9 (jY (Y6 all e)) (by rw[mH];omega);rw[mH]at fi;have bQ:=Lib.compact_length_le (jY (Y6 all e));rw[mH]at bQ;unfold Zw;obtain⟨tx,cx,hx⟩:=dX e;rw[hx]at hw ⊢;generalize aa5 all=g at hw ⊢;generalize Y6 all e=l at hw hso fi bQ hlen ⊢;generalize jY l=z at hso fi bQ ⊢
 have fU:List.take (Lib.compact z).length ((Lib.compact z ++ List.replicate (l.length - (Lib.compact z).length) []).map fun s=>[dS s])=(Lib.compact z).map fun s=>[dS s]:=by
  rw[List.map_append,List.take_append_of_le_length (by simp),List.take_of_length_le (by simp)]
 have BF:(Lib.compact z ++ List.replicate (l.length - (Lib.compact z).length) []).length=l.length:=by simp;omega
 generalize Lib.compact z ++ List.replicate (l.length - (Lib.compact z).length) []=y at fi fU BF;generalize Lib.compact z=c at fi bQ fU ⊢;refine aq.aI (aw _) func156 rfl rfl (rs:=[.tmp 4]) results156 (by simp[ntmps156]) fun X=>?_;simp only[ntmps156,List.map];have fw:=(Aq @YG.eq_1 (Aq @dS.eq_1 (Aq @cC.eq_1 (Aq @YN.eq_1 (Aq @YN.eq_2 @bG.eq_1)))));refine ab fw [0,3] [3] ?_;refine cq fw 3 ?_;refine ab fw [0,3,5] [5] ?_;refine AW.imp (aC.cU (r:=5) (r':=502) trivial (by simp)) ?_;refine AW.st (by simp[gr,gq,Go.Av.cU,x5];rfl) ?_;refine AW.imp (aC.pC 502 0 503 9 1 rfl rfl rfl) ?_;refine AW.imp (τ:=⟨aZ [(0,.d (.bh tx cx)),(3,.d (.ip [.fn (.func g) []])),(5,.ref 502 0 0)],YH (cC [])⟩) ?_ ?_
 .refine bz (Aq fw @cC.eq_1)
 refine YT fw hw [5] [502,503] ?_;refine YT fw hso [5] [502,503] ?_;refine YT fw fi [4] [502,503] ?_
 have hle:c.length<=y.length:=by omega
 by_cases nq:c.length=y.length
 .have aaZ:(y.map fun s=>[dS s])=c.map fun s=>[dS s]:=by rw[<- fU,nq,List.take_of_length_le (by simp)]
  simp only[dS]at aaZ;refine AW.imp (aC.freeze 503 trivial) ?_;refine AW.st (by simp[YG,dS,cC,YN,bG,nq,hle,aaZ];rfl) ?_;exact aV (Aq fw (Aq @nq @aaZ))
 .simp only[dS]at fU;refine AW.imp (aC.freeze 503 trivial) ?_;refine AW.st (by simp[YG,dS,cC,YN,bG,nq,hle,fU];rfl) ?_;exact aV (Aq fw @fU)
theorem Cf (G:YI) (e:Ex) (hb:bE e<=2^28):aq prog G 109 [dE e] (.sl none ((Zw true e).map fun s=>[dS s])):=by
 have hs:=Ju G true e hb;obtain⟨tx,cx,hx⟩:=dX e;rw[hx]at hs ⊢;generalize Zw true e=l at hs ⊢;simp only[aa5,if_true,if_false,Bool.false_eq_true]at hs;refine aq.aI (aw _) func109 rfl rfl (rs:=[.tmp 2]) results109 (by simp[ntmps109]) fun X=>?_;simp only[ntmps109,List.map];have fw:=(Aq @YG.eq_1 (Aq @dS.eq_1 (Aq @cC.eq_1 (Aq @YN.eq_1 (Aq @YN.eq_2 @bG.eq_1)))));refine ab fw [0] [] ?_;refine aP fw hs [2] [] ?_;exact aV fw
theorem Mt (G:YI) (e:Ex) (hb:bE e<=2^28):aq prog G 127 [dE e] (.sl none ((Zw false e).map fun s=>[dS s])):=by
 have hs:=Ju G false e hb;obtain⟨tx,cx,hx⟩:=dX e;rw[hx]at hs ⊢;generalize Zw false e=l at hs ⊢;simp only[aa5,if_true,if_false,Bool.false_eq_true]at hs;refine aq.aI (aw _) func127 rfl rfl (rs:=[.tmp 2]) results127 (by simp[ntmps127]) fun X=>?_;simp only[ntmps127,List.map];have fw:=(Aq @YG.eq_1 (Aq @dS.eq_1 (Aq @cC.eq_1 (Aq @YN.eq_1 (Aq @YN.eq_2 @bG.eq_1)))));refine ab fw [0] [] ?_;refine aP fw hs [2] [] ?_;exact aV fw
abbrev Tx:=List UInt8
theorem B8 (d:Array Tx):∀ (m:Nat),m<=d.size->∀ j,j < m->d[j]!∈Lib.compactUpTo d m
 | 0,_,j,h=>by omega
 | m+1,hm,j,hj=>by
  rw[Lib.compactUpTo_succ];by_cases wU:j < m
  .exact List.mem_append_left _ (B8 d m (by omega) j wU)
  .obtain rfl:j=m:=by omega
   by_cases hk:Lib.keeps d j=true
   .exact List.mem_append_right _ (by simp[hk])
   .have iG:j≠0:=by rintro rfl;exact hk (Lib.keeps_lt_one d 0 (by omega))
    have he:d[j]! = d[j - 1]!:=by
     unfold Lib.keeps at hk;simp[iG]at hk
     first | exact hk | exact hk.symm
    rw[he];exact List.mem_append_left _ (B8 d j (by omega) (j - 1) (by omega))
theorem JV (d:Array Tx):∀ (m:Nat),m<=d.size->∀ x∈Lib.compactUpTo d m,∃ j,j < m/\x=d[j]!
 | 0,_,x,h=>by simp[Lib.compactUpTo]at h
 | m+1,hm,x,h=>by
  rw[Lib.compactUpTo_succ]at h
  rcases List.mem_append.1 h with h | h
  .obtain⟨j,hj,e⟩:=JV d m (by omega) x h;exact⟨j,by omega,e⟩
  .split at h
   .simp at h;exact⟨m,by omega,h⟩
   .simp at h
theorem qq {all:Bool} {e:Ex} {s:Tx}:s∈Zw all e↔s∈Y6 all e:=by
 unfold Zw
 have h0:∀ l:List Tx,s∈Lib.compact l↔s∈l:=by
  intro l;unfold Lib.compact;constructor
  .intro h;obtain⟨j,hj,rfl⟩:=JV l.toArray l.length (by simp) s h;rw[getElem!_pos l.toArray j (by simpa using hj)];simp
  .intro h;obtain⟨j,hj,rfl⟩:=List.mem_iff_getElem.1 h;have:=B8 l.toArray l.length (by simp) j hj;rw[getElem!_pos l.toArray j (by simpa using hj)]at this;simpa using this
 rw[h0];unfold jY;exact List.mem_mergeSort
theorem Ug {t:List UInt8} {e:Int×Option Nat} (h:(Zx t).2=some e):(Zx t).1=none:=by
 unfold Zx at h ⊢;split at h
 .rw[if_pos ‹_›]
 .rw[if_neg ‹_›];split at h
  .rfl
  .split at h
   .rw[if_pos ‹_›]
   .cases h
theorem xY {t:List UInt8} (h:(Zx t).2=none):∃ x,(Zx t).1=some x:=by
 unfold Zx at h ⊢;split at h
 .cases h
 .rw[if_neg ‹_›];split at h
  .cases h
  .split at h
   .cases h
   .rw[if_neg ‹_›];exact⟨_,rfl⟩
theorem G3 {α:Type} (p:α->Bool) (l:List α):decide (0<=idx p l)=l.any p:=by
 unfold idx
 cases h:l.findIdx? p with
 | none=>
  rw[List.findIdx?_eq_none_iff]at h
  have:l.any p=false:=by rw[List.any_eq_false];intro x hx;simp[h x hx]
  rw[this];simp
 | some i=>
  rw[List.findIdx?_eq_some_iff_getElem]at h;obtain⟨hi,hp,_⟩:=h;have:l.any p=true:=List.any_eq_true.2 ⟨_,List.getElem_mem hi,hp⟩;rw[this];simp
theorem EH (is dz:List UInt8->Bool):∀ l:List Ex,vU is dz l = !(l.any fun e=>!eX is dz e)
 | []=>rfl
 | e :: l=>by rw[vU,EH is dz l];simp
theorem EJ (is dz:List UInt8->Bool):∀ l:List Ex,evO is dz l=l.any fun e=>eX is dz e
 | []=>rfl
 | e :: l=>by rw[evO,EJ is dz l];simp
theorem QR (G:YI) (k:Option Bool) (xs:List Ex) (g:FuncId) (caps:List D) (p:Ex->Bool) (hl:xs.length < 2^63) (ha:∀ x∈xs,aq prog G g (dE x :: caps) (.v (.bool (p x)))) :
  aq prog G 151 [.sl k (xs.map fun x=>[dE x]),.fn (.func g) caps] (.v (.int .i64 (idx p xs))):=by
 refine aq.aI (aw _) func151 rfl rfl (rs:=[.tmp 4]) results151 (by simp[ntmps151]) fun X=>?_;simp only[ntmps151,List.map];refine al [0,1] [] ?_;refine ae fun K1 ay=>?_;refine al [0,1,7,8] [] ?_;refine Zb (S:=Nat) (fun n=>n<=xs.length/\∀ i (hi:i < xs.length),i < n->p xs[i]=false) (fun n=>⟨aZ [(0,.d (.sl k (xs.map fun x=>[dE x]))),(1,.d (.fn (.func g) caps)),(7,int xs.length),(8,int n)],YH []⟩) (fun n=>xs.length - n) 0 ?_ (by simp) ?_
 .refine ZH
 .rintro n ⟨hn,hp⟩;refine al [0,1,7,8,9] [] ?_;refine ae fun K2 aa=>?_;refine eM (b:=n < xs.length) (by simp[D.le,D.le.go,aQ]) (fun hc=>?_) (fun hc=>?_)
  .have hax:=ha xs[n] (by simp);refine ao (aa _ ?_);refine ae fun K3 YS=>?_;refine YR ?_;refine al [0,1,5,7,8] [] ?_;have qf:=@hc;refine eu hax [0,1,5,7,8,16] [] ?_;refine kI _ rfl (fun ZA=>?_) (fun ZA=>?_)
   .refine al [4] [] ?_;refine b7 ?_;simp[D.le,D.le.go,aQ];exact (oV hc ZA fun i hi=>hp i (by omega) hi).symm
   .refine ao (YS _ ?_);refine eL ?_;(try simp only[YO,bd]);refine bn.mk (n+1) ⟨by omega,fun i hi ax=>?_⟩ (by omega) ?_
    .by_cases h:i=n
     .subst h;exact ZA
     .exact hp i hi (by omega)
    refine ZH
  .refine bY (ay _ ?_);refine al [4] [] ?_;refine b7 ?_;simp[D.le,D.le.go,aQ];exact (oW fun i hi=>hp i hi (by omega)).symm
theorem L3 (G:YI) (k:Option Bool) (xs:List Ex) (g:FuncId) (caps:List D) (p:Ex->Bool) (hl:xs.length < 2^63) (ha:∀ x∈xs,aq prog G g (dE x :: caps) (.v (.bool (p x)))) :
  aq prog G 102 [.sl k (xs.map fun x=>[dE x]),.fn (.func g) caps] (.v (.bool (xs.any p))):=by
 have hi:=QR G k xs g caps p hl ha;have hd:=G3 p xs;generalize idx p xs=r at hi hd;rw[<- hd];refine aq.aI (aw _) func102 rfl rfl (rs:=[.tmp 4]) results102 (by simp[ntmps102]) fun X=>?_;simp only[ntmps102,List.map];refine al [0,1] [] ?_;refine aP trivial hi [4] [] ?_;exact dK
theorem QT (G:YI) (k:Option Bool) (xs:List Ex) (g:FuncId) (caps:List D) (p:Ex->Bool) (hl:xs.length < 2^63) (ha:∀ x∈xs,aq prog G g (dE x :: caps) (.v (.bool (p x)))) :
  aq prog G 152 [.sl k (xs.map fun x=>[dE x]),.fn (.func g) caps] (.v (.int .i64 (idx p xs))):=by
 refine aq.aI (aw _) func152 rfl rfl (rs:=[.tmp 4]) results152 (by simp[ntmps152]) fun X=>?_;simp only[ntmps152,List.map];refine al [0,1] [] ?_;refine ae fun K1 ay=>?_;refine al [0,1,7,8] [] ?_;refine Zb (S:=Nat) (fun n=>n<=xs.length/\∀ i (hi:i < xs.length),i < n->p xs[i]=false) (fun n=>⟨aZ [(0,.d (.sl k (xs.map fun x=>[dE x]))),(1,.d (.fn (.func g) caps)),(7,int xs.length),(8,int n)],YH []⟩) (fun n=>xs.length - n) 0 ?_ (by simp) ?_
 .refine ZH
 .rintro n ⟨hn,hp⟩;refine al [0,1,7,8,9] [] ?_;refine ae fun K2 aa=>?_;refine eM (b:=n < xs.length) (by simp[D.le,D.le.go,aQ]) (fun hc=>?_) (fun hc=>?_)
  .have hax:=ha xs[n] (by simp);refine ao (aa _ ?_);refine ae fun K3 YS=>?_;refine YR ?_;refine al [0,1,5,7,8] [] ?_;have qf:=@hc;refine eu hax [0,1,5,7,8,16] [] ?_;refine kI _ rfl (fun ZA=>?_) (fun ZA=>?_)
   .refine al [4] [] ?_;refine b7 ?_;simp[D.le,D.le.go,aQ];exact (oV hc ZA fun i hi=>hp i (by omega) hi).symm
   .refine ao (YS _ ?_);refine eL ?_;(try simp only[YO,bd]);refine bn.mk (n+1) ⟨by omega,fun i hi ax=>?_⟩ (by omega) ?_
    .by_cases h:i=n
     .subst h;exact ZA
     .exact hp i hi (by omega)
    refine ZH
  .refine bY (ay _ ?_);refine al [4] [] ?_;refine b7 ?_;simp[D.le,D.le.go,aQ];exact (oW fun i hi=>hp i hi (by omega)).symm
theorem L4 (G:YI) (k:Option Bool) (xs:List Ex) (g:FuncId) (caps:List D) (p:Ex->Bool) (hl:xs.length < 2^63) (ha:∀ x∈xs,aq prog G g (dE x :: caps) (.v (.bool (p x)))) :
  aq prog G 104 [.sl k (xs.map fun x=>[dE x]),.fn (.func g) caps] (.v (.bool (xs.any p))):=by
 have hi:=QT G k xs g caps p hl ha;have hd:=G3 p xs;generalize idx p xs=r at hi hd;rw[<- hd];refine aq.aI (aw _) func104 rfl rfl (rs:=[.tmp 4]) results104 (by simp[ntmps104]) fun X=>?_;simp only[ntmps104,List.map];refine al [0,1] [] ?_;refine aP trivial hi [4] [] ?_;exact dK
mutual
def gb (S1 S2:List UInt8->Prop):Ex->Prop
 | .dT _=>True
 | .bit s=>S1 s
 | .fW s=>S1 s/\S2 s
 | .fO s=>S1 s/\S2 s
 | .not e=>gb S1 S2 e
 | .and l=>mM S1 S2 l
 | .or l=>mM S1 S2 l
def mM (S1 S2:List UInt8->Prop):List Ex->Prop
 | []=>True
 | e :: l=>gb S1 S2 e/\mM S1 S2 l
end
theorem yx {S1 S2:List UInt8->Prop}:∀ {l:List Ex},mM S1 S2 l↔∀ x∈l,gb S1 S2 x
 | []=>by simp[mM]
 | e :: l=>by rw[mM,yx];simp
def pA (S:List UInt8->Prop) (G:YI) (g:FuncId) (caps:List D) (p:List UInt8->Bool):Prop:=∀ s,S s->aq prog G g (dS s :: caps) (.v (.bool (p s)))
theorem eval_at (G:YI) (g1 g2:FuncId) (c1 c2:List D) (is dz:List UInt8->Bool) (S1 S2:List UInt8->Prop) (h1:pA S1 G g1 c1 is) (h2:pA S2 G g2 c2 dz):∀ (n:Nat) (e:Ex),SizeOf.sizeOf e<=n->gb S1 S2 e->bE e<=2^28->aq prog G 51 [dE e,.fn (.func g1) c1,.fn (.func g2) c2] (.v (.bool (eX is dz e))):=by
 intro n
 induction n with
 | zero=>intro e aK;cases e<;>simp at aK
 | succ n ih=>
  intro e aK iF hb;have fw:=(Aq @YG.eq_1 (Aq @dS.eq_1 (Aq @YN.eq_1 (Aq @YN.eq_2 @bG.eq_1))))
  cases e with
  | dT b=>
   rw[dE];refine aq.aI (aw _) func51 rfl rfl (rs:=[.tmp 6]) results51 (by simp[ntmps51]) fun X=>?_;simp only[ntmps51,List.map];refine ab fw [0,4,5] [4,5] ?_;refine cq fw 4 ?_;refine cq fw 5 ?_;refine ae fun K1 ay=>?_;refine ab fw [4,5,14] [] ?_;refine YR ?_;refine ab fw [4,5,14,16,17] [] ?_;refine YL rfl ?_;refine ab fw [7] [] ?_;refine ab fw [6] [] ?_;refine b7 ?_;simp[D.le,D.le.go,aQ,YG,dS,YN,bG,eX]
  | bit s=>
   rw[gb]at iF;have hi:=h1 s iF;rw[dE,eX];refine aq.aI (aw _) func51 rfl rfl (rs:=[.tmp 6]) results51 (by simp[ntmps51]) fun X=>?_;simp only[ntmps51,List.map];refine ab fw [0,4,5] [4,5] ?_;refine cq fw 4 ?_;refine cq fw 5 ?_;refine ae fun K1 ay=>?_;refine ab fw [4,5,14] [] ?_;refine YR ?_;refine ab fw [4,5,14,16,17] [] ?_;refine af rfl ?_;refine ab fw [4,5,14,20,21] [] ?_;refine YL rfl ?_;refine ab fw [4,8] [] ?_;refine aP fw hi [6] [] ?_;exact aV fw
  | fW s=>
   rw[gb]at iF;have hi:=h1 s iF.1;have hw:=h2 s iF.2;rw[dE,eX]
   cases hs:is s with
   | false=>
    rw[hs]at hi;refine aq.aI (aw _) func51 rfl rfl (rs:=[.tmp 6]) results51 (by simp[ntmps51]) fun X=>?_;simp only[ntmps51,List.map];refine ab fw [0,4,5] [4,5] ?_;refine cq fw 4 ?_;refine cq fw 5 ?_;refine ae fun K1 ay=>?_;refine ab fw [4,5,14] [] ?_;refine YR ?_;refine ab fw [4,5,14,16,17] [] ?_;refine af rfl ?_;refine ab fw [4,5,14,20,21] [] ?_;refine af rfl ?_;refine ab fw [4,5,14,26,27] [] ?_;refine YL rfl ?_;refine ab fw [4,5,9] [] ?_;refine aP fw hi [6] [] ?_;exact aV fw
   | true=>
    rw[hs]at hi;refine aq.aI (aw _) func51 rfl rfl (rs:=[.tmp 6]) results51 (by simp[ntmps51]) fun X=>?_;simp only[ntmps51,List.map];refine ab fw [0,4,5] [4,5] ?_;refine cq fw 4 ?_;refine cq fw 5 ?_;refine ae fun K1 ay=>?_;refine ab fw [4,5,14] [] ?_;refine YR ?_;refine ab fw [4,5,14,16,17] [] ?_;refine af rfl ?_;refine ab fw [4,5,14,20,21] [] ?_;refine af rfl ?_;refine ab fw [4,5,14,26,27] [] ?_;refine YL rfl ?_;refine ab fw [4,5,9] [] ?_;refine rg [6] [] (fun _ _=>trivial) fun K' ah=>?_;(repeat (refine aJ fun K2 aa=>?_;simp[YG,dS,YN,bG];(repeat (refine⟨by omega,?_⟩));refine aa _ ?_;clear aa K2));refine aJ fun K2 aa=>?_;simp[YG,dS,YN,bG];refine bU.data (hi) (by simp;rfl) (by first | exact D.ba _ | simp[aQ,List.map_map,Function.comp_def,D.le,D.le.go,D.le_refl,D.ba,YG,dS,YN,bG]) ?_;refine aa _ ?_;clear aa K2;simp only[au,cw];(repeat (refine aJ fun K2 aa=>?_;simp[YG,dS,YN,bG];(repeat (refine⟨by omega,?_⟩));refine aa _ ?_;clear aa K2));refine aJ fun K2 aa=>?_;simp[YG,dS,YN,bG];refine bU.data (hw) (by simp;rfl) (by first | exact D.ba _ | simp[aQ,List.map_map,Function.comp_def,D.le,D.le.go,D.le_refl,D.ba,YG,dS,YN,bG]) ?_;refine aa _ ?_;clear aa K2;simp only[au,cw];(repeat (refine aJ fun K2 aa=>?_;simp[YG,dS,YN,bG];(repeat (refine⟨by omega,?_⟩));refine aa _ ?_;clear aa K2));refine YZ (ah _ (AW.st (by simp[YG,dS,YN,bG];rfl) ?_));clear ah K';exact aV fw
  | fO s=>
   rw[gb]at iF;have hi:=h1 s iF.1;have hw:=h2 s iF.2;rw[dE,eX]
   cases hs:is s with
   | true=>
    rw[hs]at hi;refine aq.aI (aw _) func51 rfl rfl (rs:=[.tmp 6]) results51 (by simp[ntmps51]) fun X=>?_;simp only[ntmps51,List.map];refine ab fw [0,4,5] [4,5] ?_;refine cq fw 4 ?_;refine cq fw 5 ?_;refine ae fun K1 ay=>?_;refine ab fw [4,5,14] [] ?_;refine YR ?_;refine ab fw [4,5,14,16,17] [] ?_;refine af rfl ?_;refine ab fw [4,5,14,20,21] [] ?_;refine af rfl ?_;refine ab fw [4,5,14,26,27] [] ?_;refine af rfl ?_;refine ab fw [4,5,14,38,39] [] ?_;refine YL rfl ?_;refine ab fw [4,5,10] [] ?_;refine aP fw hi [6] [] ?_;exact aV fw
   | false=>
    rw[hs]at hi;refine aq.aI (aw _) func51 rfl rfl (rs:=[.tmp 6]) results51 (by simp[ntmps51]) fun X=>?_;simp only[ntmps51,List.map];refine ab fw [0,4,5] [4,5] ?_;refine cq fw 4 ?_;refine cq fw 5 ?_;refine ae fun K1 ay=>?_;refine ab fw [4,5,14] [] ?_;refine YR ?_;refine ab fw [4,5,14,16,17] [] ?_;refine af rfl ?_;refine ab fw [4,5,14,20,21] [] ?_;refine af rfl ?_;refine ab fw [4,5,14,26,27] [] ?_;refine af rfl ?_;refine ab fw [4,5,14,38,39] [] ?_;refine YL rfl ?_;refine ab fw [4,5,10] [] ?_;refine rg [6] [] (fun _ _=>trivial) fun K' ah=>?_;(repeat (refine aJ fun K2 aa=>?_;simp[YG,dS,YN,bG];(repeat (refine⟨by omega,?_⟩));refine aa _ ?_;clear aa K2));refine aJ fun K2 aa=>?_;simp[YG,dS,YN,bG];refine bU.data (hi) (by simp;rfl) (by first | exact D.ba _ | simp[aQ,List.map_map,Function.comp_def,D.le,D.le.go,D.le_refl,D.ba,YG,dS,YN,bG]) ?_;refine aa _ ?_;clear aa K2;simp only[au,cw];(repeat (refine aJ fun K2 aa=>?_;simp[YG,dS,YN,bG];(repeat (refine⟨by omega,?_⟩));refine aa _ ?_;clear aa K2));refine aJ fun K2 aa=>?_;simp[YG,dS,YN,bG];refine bU.data (hw) (by simp;rfl) (by first | exact D.ba _ | simp[aQ,List.map_map,Function.comp_def,D.le,D.le.go,D.le_refl,D.ba,YG,dS,YN,bG]) ?_;refine aa _ ?_;clear aa K2;simp only[au,cw];(repeat (refine aJ fun K2 aa=>?_;simp[YG,dS,YN,bG];(repeat (refine⟨by omega,?_⟩));refine aa _ ?_;clear aa K2));refine YZ (ah _ (AW.st (by simp[YG,dS,YN,bG];rfl) ?_));clear ah K';exact aV fw
  | not x=>
   have hc:=ih x (by simp at aK;omega) (by rwa [gb]at iF) (by simp only[bE]at hb;omega);obtain⟨tx,cx,hx⟩:=dX x;rw[dE,eX,hx];rw[hx]at hc;generalize eX is dz x=r at hc ⊢;refine aq.aI (aw _) func51 rfl rfl (rs:=[.tmp 6]) results51 (by simp[ntmps51]) fun X=>?_;simp only[ntmps51,List.map];refine ab fw [0,4,5] [4,5] ?_;refine cq fw 4 ?_;refine cq fw 5 ?_;refine ae fun K1 ay=>?_;refine ab fw [4,5,14] [] ?_;refine YR ?_;refine ab fw [4,5,14,16,17] [] ?_;refine af rfl ?_;refine ab fw [4,5,14,20,21] [] ?_;refine af rfl ?_;refine ab fw [4,5,14,26,27] [] ?_;refine af rfl ?_;refine ab fw [4,5,14,38,39] [] ?_;refine af rfl ?_;refine ab fw [4,5,14,50,51] [] ?_;refine YL rfl ?_;refine ab fw [4,5,11] [11] ?_;refine aP fw hc [6] [11] ?_;exact aV fw
  | and l=>
   have Zz:∀ x∈l,aq prog G 103 [dE x,.ip [.fn (.func g1) c1],.ip [.fn (.func g2) c2]] (.v (.bool (!eX is dz x))):=fun x hx=>by
    have hc:=ih x (by have:=List.sizeOf_lt_of_mem hx;simp only[Ex.and.sizeOf_spec]at aK;omega) (by rw[gb,yx]at iF;exact iF x hx) (by have:=adf hx;simp only[bE]at hb;omega);obtain⟨tx,cx,BC⟩:=dX x;rw[BC]at hc ⊢;generalize eX is dz x=r at hc ⊢;refine aq.aI (aw _) func103 rfl rfl (rs:=[.tmp 4]) results103 (by simp[ntmps103]) fun X=>?_;simp only[ntmps103,List.map];refine ab fw [0,1,2] [] ?_;refine aP fw hc [4] [] ?_;exact aV fw
   have hln:=acj l;have th:=L3 G none l 103 [.ip [.fn (.func g1) c1],.ip [.fn (.func g2) c2]] (fun x=>!eX is dz x) (by simp only[bE]at hb;omega) Zz;rw[dE,abr,eX,EH];generalize l.any (fun x=>!eX is dz x)=r at th ⊢;refine aq.aI (aw _) func51 rfl rfl (rs:=[.tmp 6]) results51 (by simp[ntmps51]) fun X=>?_;simp only[ntmps51,List.map];refine ab fw [0,4,5] [4,5] ?_;refine cq fw 4 ?_;refine cq fw 5 ?_;refine ae fun K1 ay=>?_;refine ab fw [4,5,14] [] ?_;refine YR ?_;refine ab fw [4,5,14,16,17] [] ?_;refine af rfl ?_;refine ab fw [4,5,14,20,21] [] ?_;refine af rfl ?_;refine ab fw [4,5,14,26,27] [] ?_;refine af rfl ?_;refine ab fw [4,5,14,38,39] [] ?_;refine af rfl ?_;refine ab fw [4,5,14,50,51] [] ?_;refine af rfl ?_;refine ab fw [4,5,14,59,60] [] ?_;refine YL rfl ?_;refine ab fw [4,5,12] [] ?_;refine aP fw th [6] [] ?_;exact aV fw
  | or l=>
   have Zz:∀ x∈l,aq prog G 105 [dE x,.ip [.fn (.func g1) c1],.ip [.fn (.func g2) c2]] (.v (.bool (eX is dz x))):=fun x hx=>by
    have hc:=ih x (by have:=List.sizeOf_lt_of_mem hx;simp only[Ex.or.sizeOf_spec]at aK;omega) (by rw[gb,yx]at iF;exact iF x hx) (by have:=adf hx;simp only[bE]at hb;omega);obtain⟨tx,cx,BC⟩:=dX x;rw[BC]at hc ⊢;generalize eX is dz x=r at hc ⊢;refine aq.aI (aw _) func105 rfl rfl (rs:=[.tmp 4]) results105 (by simp[ntmps105]) fun X=>?_;simp only[ntmps105,List.map];refine ab fw [0,1,2] [] ?_;refine aP fw hc [4] [] ?_;exact aV fw
   have hln:=acj l;have th:=L4 G none l 105 [.ip [.fn (.func g1) c1],.ip [.fn (.func g2) c2]] (fun x=>eX is dz x) (by simp only[bE]at hb;omega) Zz;rw[dE,abr,eX,EJ];generalize l.any (fun x=>eX is dz x)=r at th ⊢;refine aq.aI (aw _) func51 rfl rfl (rs:=[.tmp 6]) results51 (by simp[ntmps51]) fun X=>?_;simp only[ntmps51,List.map];refine ab fw [0,4,5] [4,5] ?_;refine cq fw 4 ?_;refine cq fw 5 ?_;refine ae fun K1 ay=>?_;refine ab fw [4,5,14] [] ?_;refine YR ?_;refine ab fw [4,5,14,16,17] [] ?_;refine af rfl ?_;refine ab fw [4,5,14,20,21] [] ?_;refine af rfl ?_;refine ab fw [4,5,14,26,27] [] ?_;refine af rfl ?_;refine ab fw [4,5,14,38,39] [] ?_;refine af rfl ?_;refine ab fw [4,5,14,50,51] [] ?_;refine af rfl ?_;refine ab fw [4,5,14,59,60] [] ?_;refine af rfl ?_;refine ab fw [4,5,66,67] [] ?_;refine YL rfl ?_;refine ab fw [4,5,13] [] ?_;refine aP fw th [6] [] ?_;exact aV fw
theorem EK (G:YI) (g1 g2:FuncId) (c1 c2:List D) (is dz:List UInt8->Bool) (S1 S2:List UInt8->Prop) (h1:pA S1 G g1 c1 is) (h2:pA S2 G g2 c2 dz) (e:Ex) (ha:gb S1 S2 e) (hb:bE e<=2^28):aq prog G 51 [dE e,.fn (.func g1) c1,.fn (.func g2) c2] (.v (.bool (eX is dz e))):=
 eval_at G g1 g2 c1 c2 is dz S1 S2 h1 h2 _ e (Nat.le_refl _) ha hb
theorem la:(⟨#[97]⟩:ByteArray)=bs [97]:=rfl
theorem lb:(⟨#[98]⟩:ByteArray)=bs [98]:=rfl
theorem JS (x:Nat) (h:x < 2^64):(BitVec.ofInt 64 (x:Int)).toNat=x:=by
 rw[BitVec.toNat_ofInt]
 have:(2:Nat)^64=18446744073709551616:=by decide
 omega
theorem JT (x:Nat) (h:x < 2^64):IntKind.u64.wrap (x:Int)=(x:Int):=by
 rw[IntKind.wrap_u64]
 have:(2:Nat)^64=18446744073709551616:=by decide
 omega
theorem WD (x y:Nat) (hx:x < 2^64) (hy:y < 2^64):kb .and .u64 (x:Int) (y:Int)=((x &&& y:Nat):Int):=by
 unfold kb;dsimp only
 have h3:(BitVec.ofInt IntKind.u64.bits (x:Int) &&& BitVec.ofInt IntKind.u64.bits (y:Int)).toNat=x &&& y:=by
  show (BitVec.ofInt 64 (x:Int) &&& BitVec.ofInt 64 (y:Int)).toNat=x &&& y;rw[BitVec.toNat_and,JS x hx,JS y hy]
 rw[h3,JT _ (Nat.lt_of_le_of_lt Nat.and_le_left hx)]
structure dL where
 name:Tx
 kind:Int
 count:Int
structure fh where
 kind:Int
 name:Tx
 cond:Option Ex
structure YM where
 names:List dL
 ar:List fh
def YW (p:YM) (s:Tx):Int:=idx (fun n:dL=>n.name == s) p.names
theorem TU (p:YM) {i:Nat} (hi:i < p.names.length):0<=YW p p.names[i].name/\YW p p.names[i].name<=i:=by
 have aG:¬ YW p p.names[i].name < 0:=fun h=>by
  have:=BI h _ (List.getElem_mem hi);simp at this
 obtain⟨k,hk,he,_⟩:=oX aG;refine⟨by omega,?_⟩;apply Classical.byContradiction;intro YJ
 have AM:i < k:=by unfold YW at YJ;omega
 unfold idx at he
 cases hf:p.names.findIdx? (fun n:dL=>n.name == p.names[i].name) with
 | none=>rw[hf]at he;simp at he
 | some k'=>
  rw[hf]at he;simp only[Int.ofNat.injEq,Int.natCast_inj]at he
  have nz:k'=k:=by simpa using he
  subst nz;have:=(List.findIdx?_eq_some_iff_getElem.1 hf).2.2 i AM;simp at this
def jF {α:Type} (f:Nat->α->Int):List α->Nat->Option (Int×Nat)
 | [],_=>none
 | x :: l,i=>if f i x=0 then jF f l (i+1) else some (f i x,i)
theorem zM {α:Type} {f:Nat->α->Int}:∀ {l:List α} {i:Nat} {e:Int} {k:Nat},jF f l i=some (e,k)->i<=k/\k < i+l.length/\e≠0
 | x :: l,i,e,k,h=>by
  rw[jF]at h;split at h
  .have:=zM h;simp only[List.length_cons];omega
  .rename_i aG;simp only[Option.some.injEq,Prod.mk.injEq]at h;obtain⟨h1,h2⟩:=h;rw[h1]at aG;simp only[List.length_cons];exact⟨by omega,by omega,aG⟩
theorem v8 {α:Type} {f:Nat->α->Int}:∀ {l:List α} {i:Nat},jF f l i=none->∀ k (hk:k < l.length),f (i+k) l[k]=0
 | x :: l,i,h,k,hk=>by
  rw[jF]at h;split at h
  .rename_i h0
   cases k with
   | zero=>simpa using h0
   | succ k=>
    have:=v8 h k (by simpa using hk);simpa[Nat.add_assoc,Nat.add_comm 1 k]using this
  .cases h
def zi (n:dL):Bool:=decide (n.kind=3) || decide (n.kind=4)
def abK (p:YM) (i:Nat) (n:dL):Int:=
 if !eR n.name then 5 else if decide (n.kind < 1) || decide (n.kind > 4) then 1 else if (zi n && (decide (n.count < 1) || decide (n.count > 7))) || (!zi n && decide (n.count≠0)) then 2 else if YW p n.name < i then 9 else 0
def j1 (k:Int):Int:=if k<=3 then 2 else if k=4 then 3 else 4
def kL (p:YM) (r:fh):Int:=match r.cond with
 | none=>1
 | some e=>if decide (r.kind < 1) || decide (r.kind > 6) then 1 else if YW p r.name < 0 then 7
  else if j1 r.kind≠(p.names.getD (YW p r.name).toNat ⟨[],0,0⟩).kind then 1 else if (Zw true e).any fun s=>decide (YW p s < 0) then 7 else 0
def Y3 (p:YM):Option (Int×Option Nat):=
 if p.names.length > 12\/p.ar.length > 40 then some (4,none) else match jF (abK p) p.names 0 with
  | some (e,i)=>some (e,some i)
  | none=>match jF (fun _ r=>kL p r) p.ar 0 with
   | some (e,i)=>some (e,some (p.names.length+i))
   | none=>none
structure qS (p:YM):Prop where
 names:p.names.length<=12
 ar:p.ar.length<=40
 name:∀ n∈p.names,eR n.name=true/\1<=n.kind/\n.kind<=4
 count:∀ n∈p.names,(n.kind < 3/\n.count=0)\/(3<=n.kind/\1<=n.count/\n.count<=7)
 num:∀ i (hi:i < p.names.length),YW p p.names[i].name=i
theorem ZU {p:YM} (h:Y3 p=none):qS p:=by
 unfold Y3 at h;split at h
 .cases h
 .rename_i hl;split at h
  .cases h
  .rename_i hN;have bw:=fun i hi=>v8 hN i hi
   have one:∀ i (hi:i < p.names.length),eR p.names[i].name=true/\1<=p.names[i].kind/\p.names[i].kind<=4/\((p.names[i].kind < 3/\p.names[i].count=0)\/(3<=p.names[i].kind/\1<=p.names[i].count/\p.names[i].count<=7))/\YW p p.names[i].name=i:=fun i hi=>by
    have hb:=bw i hi;have hle:=TU p hi;rw[Nat.zero_add]at hb;generalize p.names[i]=n at hb hle ⊢;unfold abK zi at hb;split at hb
    .omega
    .rename_i h1;split at hb
     .omega
     .rename_i h2;split at hb
      .omega
      .rename_i h3;split at hb
       .omega
       .rename_i h4;simp at h1 h2 h3;refine⟨h1,by omega,by omega,?_,by omega⟩;by_cases hk:n.kind=3\/n.kind=4
        .exact .inr ⟨by omega,by have:=h3.1 hk;omega,by have:=h3.1 hk;omega⟩
        .have:=h3.2 (by omega) (by omega);exact .inl ⟨by omega,by omega⟩
   refine⟨by omega,by omega,fun n hn=>?_,fun n hn=>?_,fun i hi=>(one i hi).2.2.2.2⟩
   .obtain⟨i,hi,rfl⟩:=List.mem_iff_getElem.1 hn;exact⟨(one i hi).1,(one i hi).2.1,(one i hi).2.2.1⟩
   .obtain⟨i,hi,rfl⟩:=List.mem_iff_getElem.1 hn;exact (one i hi).2.2.2.1
def bk (n:dL):List D:=[dS n.name,.v (.int .i64 n.kind),.v (.int .i64 n.count)]
def vO (n:dL):D:=.agg (bk n)
def cz (l:List dL):D:=.sl none (l.map bk)
def dC (c:Option Ex):D:=match c with
 | none=>.v .nilIface
 | some e=>dE e
def bF (r:fh):List D:=[.v (.int .i64 r.kind),dS r.name,dC r.cond]
def zo (r:fh):D:=.agg (bF r)
def cu (l:List fh):D:=.sl none (l.map bF)
def cy (p:YM):List D:=[cz p.names,cu p.ar]
def cA (p:YM):D:=.agg (cy p)
theorem QS (G:YI) (k:Option Bool) (xs:List dL) (g:FuncId) (caps:List D) (p:dL->Bool) (hl:xs.length < 2^62) (ha:yw G g caps vO p xs) :
  aq prog G 153 [.sl k (xs.map bk),.fn (.func g) caps] (.v (.int .i64 (idx p xs))):=by
 refine aq.aI (aw _) func153 rfl rfl (rs:=[.tmp 4]) results153 (by simp[ntmps153]) fun X=>?_;simp only[ntmps153,List.map];refine al [0,1] [] ?_;refine ae fun K1 ay=>?_;refine al [0,1,7,8] [] ?_;refine Zb (S:=Nat) (fun n=>n<=xs.length/\∀ i (hi:i < xs.length),i < n->p xs[i]=false) (fun n=>⟨aZ [(0,.d (.sl k (xs.map bk))),(1,.d (.fn (.func g) caps)),(7,int xs.length),(8,int n)],YH []⟩) (fun n=>xs.length - n) 0 ?_ (by simp) ?_
 .refine ZH
 .rintro n ⟨hn,hp⟩;refine al [0,1,7,8,9] [] ?_;refine ae fun K2 aa=>?_;refine eM (b:=n < xs.length) (by simp[D.le,D.le.go,aQ]) (fun hc=>?_) (fun hc=>?_)
  .refine ao (aa _ ?_);refine ae fun K3 YS=>?_;refine YR ?_;refine al [0,1,5,7,8] [] ?_;have hax:=ha xs[n] (by simp);simp only[vO,bk]at hax;have qf:=(Aq @hc @bk.eq_1);refine eu hax [0,1,5,7,8,16] [] ?_;refine kI _ rfl (fun ZA=>?_) (fun ZA=>?_)
   .refine al [4] [] ?_;refine b7 ?_;simp[D.le,D.le.go,aQ];exact (oV hc ZA fun i hi=>hp i (by omega) hi).symm
   .refine ao (YS _ ?_);refine eL ?_;(try simp only[YO,bd]);refine bn.mk (n+1) ⟨by omega,fun i hi ax=>?_⟩ (by omega) ?_
    .by_cases h:i=n
     .subst h;exact ZA
     .exact hp i hi (by omega)
    refine ZH
  .refine bY (ay _ ?_);refine al [4] [] ?_;refine b7 ?_;simp[D.le,D.le.go,aQ];exact (oW fun i hi=>hp i hi (by omega)).symm
theorem QV (G:YI) (k:Option Bool) (xs:List (List UInt8)) (g:FuncId) (caps:List D) (p:(List UInt8)->Bool) (hl:xs.length < 2^62) (ha:yw G g caps dS p xs) :
  aq prog G 155 [.sl k (xs.map (fun s=>[dS s])),.fn (.func g) caps] (.v (.int .i64 (idx p xs))):=by
 refine aq.aI (aw _) func155 rfl rfl (rs:=[.tmp 4]) results155 (by simp[ntmps155]) fun X=>?_;simp only[ntmps155,List.map];refine al [0,1] [] ?_;refine ae fun K1 ay=>?_;refine al [0,1,7,8] [] ?_;refine Zb (S:=Nat) (fun n=>n<=xs.length/\∀ i (hi:i < xs.length),i < n->p xs[i]=false) (fun n=>⟨aZ [(0,.d (.sl k (xs.map (fun s=>[dS s])))),(1,.d (.fn (.func g) caps)),(7,int xs.length),(8,int n)],YH []⟩) (fun n=>xs.length - n) 0 ?_ (by simp) ?_
 .refine bz @dS.eq_1
 .rintro n ⟨hn,hp⟩;refine al [0,1,7,8,9] [] ?_;refine ae fun K2 aa=>?_;refine eM (b:=n < xs.length) (by simp[D.le,D.le.go,aQ]) (fun hc=>?_) (fun hc=>?_)
  .refine ao (aa _ ?_);refine ae fun K3 YS=>?_;refine YR ?_;refine al [0,1,5,7,8] [] ?_;have hax:=ha xs[n] (by simp);simp only[dS]at hax;have qf:=(Aq @hc @dS.eq_1);refine eu hax [0,1,5,7,8,16] [] ?_;refine kI _ rfl (fun ZA=>?_) (fun ZA=>?_)
   .refine al [4] [] ?_;refine b7 ?_;simp[D.le,D.le.go,aQ];exact (oV hc ZA fun i hi=>hp i (by omega) hi).symm
   .refine ao (YS _ ?_);refine eL ?_;(try simp only[YO,bd]);refine bn.mk (n+1) ⟨by omega,fun i hi ax=>?_⟩ (by omega) ?_
    .by_cases h:i=n
     .subst h;exact ZA
     .exact hp i hi (by omega)
    refine bz @dS.eq_1
  .refine bY (ay _ ?_);refine al [4] [] ?_;refine b7 ?_;simp[D.le,D.le.go,aQ];exact (oW fun i hi=>hp i hi (by omega)).symm
theorem zg (G:YI) (k:Option Bool) (xs:List (List UInt8)) (g:FuncId) (caps:List D) (p:List UInt8->Bool) (hl:xs.length < 2^62) (ha:yw G g caps dS p xs) :
  aq prog G 108 [.sl k (xs.map fun s=>[dS s]),.fn (.func g) caps] (.v (.bool (xs.any p))):=by
 refine aq.aI (aw _) func108 rfl rfl (rs:=[.tmp 4]) results108 (by simp[ntmps108]) fun X=>?_;simp only[ntmps108,List.map];refine al [0,1] [] ?_;refine aP trivial (QV G k xs g caps p hl ha) [4] [] ?_;refine b7 ?_;simp[D.le,D.le.go,aQ];exact ui p xs
theorem SY (G:YI) (n:dL) (s:List UInt8):aq prog G 154 [vO n,.ip [dS s]] (.v (.bool (n.name == s))):=by
 simp only[vO,bk,dS];refine aq.aI (aw _) func154 rfl rfl (rs:=[.tmp 3]) results154 (by simp[ntmps154]) fun X=>?_;simp only[ntmps154,List.map];refine al [1,2] [2] ?_;refine rg [3] [2] (fun _ _=>trivial) fun K' ah=>?_;(repeat (refine aJ fun K2 aa=>?_;simp[bH,bL];(repeat (refine⟨by omega,?_⟩));refine aa _ ?_;clear aa K2));refine YZ (ah _ (AW.st (by simp[bH,bL];rfl) ?_));clear ah K';exact dK
theorem nN (G:YI) (p:YM) (hp:p.names.length < 2^62) (s:List UInt8):aq prog G 107 [cA p,dS s] (.v (.int .i64 (YW p s))):=by
 have hi:=QS G none p.names 154 [.ip [dS s]] (fun n=>n.name == s) hp fun n _=>SY G n s;unfold YW;simp only[cA,cy,cz,dS]at hi ⊢;generalize cu p.ar=R at *;generalize idx (fun n:dL=>n.name == s) p.names=z at hi ⊢;refine aq.aI (aw _) func107 rfl rfl (rs:=[.tmp 4]) results107 (by simp[ntmps107]) fun X=>?_;simp only[ntmps107,List.map];refine ab @cu.eq_1 [2,3] [2,3] ?_;refine fzB 3 ?_;refine aP trivial hi [4] [2] ?_;exact dK
theorem Hx (G:YI) (p:YM) (hp:p.names.length < 2^62) (s:List UInt8):aq prog G 181 [dS s,.ip (cy p)] (.v (.bool (decide (YW p s < 0)))):=by
 have hi:=nN G p hp s;simp only[cA,cy,cz,cu,dS]at hi ⊢;refine aq.aI (aw _) func181 rfl rfl (rs:=[.tmp 3]) results181 (by simp[ntmps181]) fun X=>?_;simp only[ntmps181,List.map];refine al [0,1] [] ?_;refine aP trivial hi [3] [] ?_;exact dK
structure KC (T:Prop):Prop where
 out:T
theorem xB {T U:Prop} (h:KC T->U) (t:T):U:=h ⟨t⟩
theorem TV {p:YM} {s:List UInt8} (h:¬ YW p s < 0):∃ k:Nat,∃ hk:k < p.names.length,YW p s=k:=by
 obtain⟨k,hk,he,_⟩:=oX h;exact⟨k,hk,he⟩
theorem SX (G:YI) (p:YM) (hp:p.names.length < 2^62) (r:fh) (hb:∀ e,r.cond=some e->bE e<=2^28/\(Zw true e).length < 2^62):aq prog G 126 [cA p,zo r] (.v (.int .i64 (kL p r))):=by
 obtain⟨kind,name,cond⟩:=r;dsimp only at hb;have bK:=nN G p hp name;have aS:=fun s=>Hx G p hp s;simp only[cA,cy,cz,cu,zo,bF,dS]at bK aS ⊢
 cases cond with
 | none=>
  have fD:kL p ⟨kind,name,none⟩=1:=rfl;generalize kL p ⟨kind,name,none⟩=res at fD;refine aq.aI (aw _) func126 rfl rfl (rs:=[.tmp 4]) results126 (by simp[ntmps126]) fun X=>?_;simp only[ntmps126,List.map];have fw:=(Aq @dC.eq_1 @dC.eq_2);refine ab fw [2,3] [2,3] ?_;refine ae fun K1 ay=>?_;by_cases h1:kind < 1
  .have qf:=(Aq fw @h1);refine aB [2,3,19] [2,3] ?_;refine YL rfl ?_;refine ab fw [4] [] ?_;exact aV (Aq fw @fD)
  .by_cases h2:kind > 6
   .have qf:=(Aq fw (Aq @h1 @h2));refine aB [2,3,19] [2,3] ?_;refine YL rfl ?_;refine ab fw [4] [] ?_;exact aV (Aq fw @fD)
   .have qf:=(Aq fw (Aq @h1 @h2));refine aB [2,3,19] [2,3] ?_;refine YL rfl ?_;refine ab fw [4] [] ?_;exact aV (Aq fw @fD)
 | some e=>
  have fD:kL p ⟨kind,name,some e⟩=if decide (kind < 1) || decide (kind > 6) then 1 else if YW p name < 0 then 7
   else if j1 kind≠(p.names.getD (YW p name).toNat ⟨[],0,0⟩).kind then 1 else if (Zw true e).any fun s=>decide (YW p s < 0) then 7 else 0:=rfl
  generalize kL p ⟨kind,name,some e⟩=res at fD;obtain⟨FZ,eJ⟩:=hb e rfl;have qb:=Cf G e FZ;have nj:=zg G none (Zw true e) 181 [.ip (cy p)] (fun s=>decide (YW p s < 0)) eJ fun s _=>Hx G p hp s;have Au:dC (some e)=dE e:=rfl;rw[Au];obtain⟨tx,cx,hx⟩:=dX e;rw[hx]at qb ⊢;simp only[cy,cz,cu,dS]at qb nj;generalize ((Zw true e).any fun s=>decide (YW p s < 0))=an at fD nj;generalize Zw true e=nm at qb nj;refine aq.aI (aw _) func126 rfl rfl (rs:=[.tmp 4]) results126 (by simp[ntmps126]) fun X=>?_;simp only[ntmps126,List.map];have fw:=(Aq @dC.eq_1 @dC.eq_2);refine ab fw [2,3] [2,3] ?_;refine cq fw 2 ?_;refine cq fw 3 ?_;refine ae fun K1 ay=>?_;by_cases h1:kind < 1
  .rw[if_pos (by simp[h1])]at fD;have qf:=(Aq fw @h1);refine aB [2,3,19] [] ?_;refine YL rfl ?_;refine ab fw [4] [] ?_;exact aV (Aq fw @fD)
  by_cases h2:kind > 6
  .rw[if_pos (by simp[h2])]at fD;have qf:=(Aq fw (Aq @h1 @h2));refine aB [2,3,19] [] ?_;refine YL rfl ?_;refine ab fw [4] [] ?_;exact aV (Aq fw @fD)
  rw[if_neg (by simp[h1,h2])]at fD;have qf:=(Aq fw (Aq @h1 @h2));refine aB [2,3,19] [] ?_;refine af rfl ?_;refine ao (ay _ ?_);refine aP fw bK [2,3,5] [] ?_;refine ae fun K2 aa=>?_;refine ab fw [2,3,5,25] [] ?_;by_cases h3:YW p name < 0
  .rw[if_pos h3]at fD;refine YL (by simp[h3]) ?_;refine ab fw [4] [] ?_;exact aV (Aq fw @fD)
  rw[if_neg h3]at fD;obtain⟨k,hk,lN⟩:=TV h3
  have hgd:p.names.getD (YW p name).toNat ⟨[],0,0⟩=p.names[k]:=by
   rw[lN,Int.toNat_natCast,List.getD_eq_getElem?_getD,List.getElem?_eq_getElem hk];rfl
  rw[hgd]at fD;refine af (by simp[h3]) ?_;refine ao (aa _ ?_);refine ae fun K3 YS=>?_;have aap:bk p.names[k]=[dS p.names[k].name,.v (.int .i64 p.names[k].kind),.v (.int .i64 p.names[k].count)]:=rfl;generalize nz:p.names[k].kind=kk at fD aap
  refine' xB (fun YV=>?_) ?_
  rotate_left
  .have ry:=h1;by_cases cQ:kind=1
   .have qf:=(Aq fw @cQ);refine aB [2,3,5,6] [] ?_;refine AW.st (show _=(⟨aZ [(2,.d (.ip [.sl none (p.names.map bk),.sl none (p.ar.map bF)])),(3,.d (.ip [.v (.int .i64 kind),.v (.string (bs name)),.bh tx cx])),(5,int (YW p name)),(6,int (j1 kind))],YH []⟩:St) by rw[cQ]<;>rfl) ?_;exact YV.out
   by_cases cQ:kind=2
   .have qf:=(Aq fw @cQ);refine aB [2,3,5,6] [] ?_;refine AW.st (show _=(⟨aZ [(2,.d (.ip [.sl none (p.names.map bk),.sl none (p.ar.map bF)])),(3,.d (.ip [.v (.int .i64 kind),.v (.string (bs name)),.bh tx cx])),(5,int (YW p name)),(6,int (j1 kind))],YH []⟩:St) by rw[cQ]<;>rfl) ?_;exact YV.out
   by_cases cQ:kind=3
   .have qf:=(Aq fw @cQ);refine aB [2,3,5,6] [] ?_;refine AW.st (show _=(⟨aZ [(2,.d (.ip [.sl none (p.names.map bk),.sl none (p.ar.map bF)])),(3,.d (.ip [.v (.int .i64 kind),.v (.string (bs name)),.bh tx cx])),(5,int (YW p name)),(6,int (j1 kind))],YH []⟩:St) by rw[cQ]<;>rfl) ?_;exact YV.out
   by_cases cQ:kind=4
   .have qf:=(Aq fw @cQ);refine aB [2,3,5,6] [] ?_;refine AW.st (show _=(⟨aZ [(2,.d (.ip [.sl none (p.names.map bk),.sl none (p.ar.map bF)])),(3,.d (.ip [.v (.int .i64 kind),.v (.string (bs name)),.bh tx cx])),(5,int (YW p name)),(6,int (j1 kind))],YH []⟩:St) by rw[cQ]<;>rfl) ?_;exact YV.out
   by_cases cQ:kind=5
   .have qf:=(Aq fw @cQ);refine aB [2,3,5,6] [] ?_;refine AW.st (show _=(⟨aZ [(2,.d (.ip [.sl none (p.names.map bk),.sl none (p.ar.map bF)])),(3,.d (.ip [.v (.int .i64 kind),.v (.string (bs name)),.bh tx cx])),(5,int (YW p name)),(6,int (j1 kind))],YH []⟩:St) by rw[cQ]<;>rfl) ?_;exact YV.out
   have cQ:kind=6:=by omega
   have qf:=(Aq fw @cQ);refine aB [2,3,5,6] [] ?_;refine AW.st (show _=(⟨aZ [(2,.d (.ip [.sl none (p.names.map bk),.sl none (p.ar.map bF)])),(3,.d (.ip [.v (.int .i64 kind),.v (.string (bs name)),.bh tx cx])),(5,int (YW p name)),(6,int (j1 kind))],YH []⟩:St) by rw[cQ]<;>rfl) ?_;exact YV.out
  .rw[lN];have qf:=(Aq fw (Aq @hk @aap));refine aB [2,3,37] [] ?_;by_cases h4:kk=j1 kind
   .rw[if_neg (by simp[h4])]at fD;refine af (by simp[h4]) ?_;refine ao (YS _ ?_);refine ae fun K4 Y4=>?_;refine rg [42] [] (fun _ _=>trivial) fun K' ah=>?_;(repeat (refine aJ fun K2 aa=>?_;simp[dC];(repeat (refine⟨by omega,?_⟩));refine aa _ ?_;clear aa K2));refine aJ fun K2 aa=>?_;simp[dC];refine bU.data (qb) (by simp;rfl) (by first | exact D.ba _ | simp[aQ,List.map_map,Function.comp_def,D.le,D.le.go,D.le_refl,D.ba,dC]) ?_;refine aa _ ?_;clear aa K2;simp only[au,cw];(repeat (refine aJ fun K2 aa=>?_;simp[dC];(repeat (refine⟨by omega,?_⟩));refine aa _ ?_;clear aa K2));refine aJ fun K2 aa=>?_;simp[dC];refine bU.data (nj) (by simp;rfl) (by first | exact D.ba _ | simp[aQ,List.map_map,Function.comp_def,D.le,D.le.go,D.le_refl,D.ba,dC]) ?_;refine aa _ ?_;clear aa K2;simp only[au,cw];(repeat (refine aJ fun K2 aa=>?_;simp[dC];(repeat (refine⟨by omega,?_⟩));refine aa _ ?_;clear aa K2));refine YZ (ah _ (AW.st (by simp[dC];rfl) ?_));clear ah K'
    cases an with
    | true=>
     rw[if_pos rfl]at fD;refine YL rfl ?_;refine ab fw [4] [] ?_;exact aV (Aq fw @fD)
    | false=>
     rw[if_neg (by decide)]at fD;refine af rfl ?_;refine ao (Y4 _ ?_);refine ab fw [4] [] ?_;exact aV (Aq fw @fD)
   .rw[if_pos (fun h=>h4 h.symm)]at fD;refine YL (by simp[h4]) ?_;refine ab fw [4] [] ?_;exact aV (Aq fw @fD)
theorem zL {α:Type} {f:Nat->α->Int}:∀ {l:List α} {i n:Nat} (hn:n < l.length),(∀ k (hk:k < l.length),k < n->f (i+k) l[k]=0)->f (i+n) l[n]≠0->jF f l i=some (f (i+n) l[n],i+n)
 | x :: l,i,0,_,_,aG=>by rw[jF,if_neg (show ¬ f i x=0 from aG)];rfl
 | x :: l,i,n+1,hn,hb,aG=>by
  have h0:f i x=0:=hb 0 (by simp) (by omega)
  have e:∀ k,i+1+k=i+(k+1):=fun k=>by omega
  rw[jF,if_pos h0,zL (l:=l) (i:=i+1) (n:=n) (by simpa using hn) (fun k hk ml=>by rw[e];exact hb (k+1) (by simpa using hk) (by omega)) (by rw[e];exact aG),e];rfl
theorem zN {α:Type} {f:Nat->α->Int}:∀ {l:List α} {i:Nat},(∀ k (hk:k < l.length),f (i+k) l[k]=0)->jF f l i=none
 | [],_,_=>rfl
 | x :: l,i,hb=>by
  have e:∀ k,i+1+k=i+(k+1):=fun k=>by omega
  rw[jF,if_pos (show f i x=0 from hb 0 (by simp)),zN fun k hk=>by rw[e];exact hb (k+1) (by simpa using hk)]
structure yK (p:YM):Prop where
 nl:p.names.length < 2^62
 rl:p.ar.length < 2^62
 nn:∀ n∈p.names,n.name.length < 2^60
 cb:∀ r∈p.ar,∀ e,r.cond=some e->bE e<=2^28/\(Zw true e).length < 2^62
theorem Hp (G:YI) (p:YM) (hp:yK p):aq prog G 63 [cA p] (aR (Y3 p)):=by
 obtain⟨eJ,Z0,kW,wD⟩:=hp
 have nG:Y3 p=if p.names.length > 12\/p.ar.length > 40 then some (4,none) else match jF (abK p) p.names 0 with
  | some (e,i)=>some (e,some i)
  | none=>match jF (fun _ r=>kL p r) p.ar 0 with
   | some (e,i)=>some (e,some (p.names.length+i))
   | none=>none:=rfl
 generalize jh:Y3 p=res;rw[nG]at jh;have bK:=fun s=>nN G p eJ s;have jJ:=fun r h=>SX G p eJ r h;simp only[cA,cy,cz,cu,dS]at bK jJ ⊢;refine aq.aI (aw _) func63 rfl rfl (rs:=[.tmp 2]) results63 (by simp[ntmps63]) fun X=>?_;simp only[ntmps63,List.map];refine al [1] [1] ?_;refine fzB 1 ?_;refine ae fun K1 ay=>?_;by_cases g0:(p.names.length:Int) > 12
 .rw[if_pos (.inl (by omega))]at jh;have qf:=@g0;refine aB [1,19] [] ?_;refine YL rfl ?_;refine al [2] [] ?_;refine b7 ?_;simp[D.le,D.le.go,aQ];simp[<- jh,aR,D.le]
 by_cases g1:(p.ar.length:Int) > 40
 .rw[if_pos (.inr (by omega))]at jh;have qf:=(Aq @g0 @g1);refine aB [1,19] [] ?_;refine YL rfl ?_;refine al [2] [] ?_;refine b7 ?_;simp[D.le,D.le.go,aQ];simp[<- jh,aR,D.le]
 rw[if_neg (by omega)]at jh;have qf:=(Aq @g0 @g1);refine aB [1,19] [] ?_;refine af rfl ?_;refine ao (ay _ ?_);refine ae fun K2 aa=>?_;refine al [1,22,23,24] [] ?_;refine Zb (S:=Nat) (fun n=>n<=p.names.length/\∀ k (hk:k < p.names.length),k < n->abK p k p.names[k]=0) (fun n=>⟨aZ [(1,.d (.ip [.sl none (p.names.map bk),.sl none (p.ar.map bF)])),(22,.d (.sl none (p.names.map bk))),(23,int p.names.length),(24,int n)],YH []⟩) (fun n=>p.names.length - n) 0 ?_ (by simp) ?_
 .refine ZH
 .rintro n ⟨hn,hb⟩;refine al [1,22,23,24,25] [] ?_;refine ae fun K3 YS=>?_;refine eM (b:=n < p.names.length) (by simp[D.le,D.le.go,aQ]) (fun hc=>?_) (fun hc=>?_)
  .have YJ:=hc
   have hgo:abK p n p.names[n]≠0->res=some (abK p n p.names[n],some n):=fun aG=>by
    rw[<- jh,zL (i:=0) YJ (fun k hk ml=>by rw[Nat.zero_add];exact hb k hk ml) (by rw[Nat.zero_add];exact aG)];simp
   have gZ:=kW _ (List.getElem_mem YJ);have aap:bk p.names[n]=[dS p.names[n].name,.v (.int .i64 p.names[n].kind),.v (.int .i64 p.names[n].count)]:=rfl
   have dZ:abK p n p.names[n]=if !eR p.names[n].name then 5 else if decide (p.names[n].kind < 1) || decide (p.names[n].kind > 4) then 1 else if ((decide (p.names[n].kind=3) || decide (p.names[n].kind=4)) && (decide (p.names[n].count < 1) || decide (p.names[n].count > 7))) || (!(decide (p.names[n].kind=3) || decide (p.names[n].kind=4)) && decide (p.names[n].count≠0)) then 2 else if YW p p.names[n].name < n then 9 else 0:=rfl
   generalize hv:abK p n p.names[n]=v at dZ hgo;generalize p.names[n].name=nm at gZ aap dZ;generalize p.names[n].kind=kd at aap dZ;generalize p.names[n].count=ct at aap dZ;have oN:=HP G nm gZ;have oP:=bK nm;simp only[dS]at aap oN;generalize eR nm=nf at oN dZ;refine ao (YS _ ?_);refine ae fun K4 Y4=>?_;refine YR ?_;have qf:=(Aq @YJ @aap);refine aB [1,3,4,22,23,24] [4] ?_;refine fzB 4 ?_
   refine' xB (fun bA=>?_) ?_
   rotate_left
   .by_cases k3:kd=3
    .have qf:=@k3;refine aB [1,3,4,5,22,23,24] [] ?_;refine AW.st (show _=(⟨aZ [(1,.d (.ip [.sl none (p.names.map bk),.sl none (p.ar.map bF)])),(3,int n),(4,.d (.ip [.v (.string (bs nm)),.v (.int .i64 kd),.v (.int .i64 ct)])),(5,.d (.v (.bool (decide (kd=3) || decide (kd=4))))),(22,.d (.sl none (p.names.map bk))),(23,int p.names.length),(24,int n)],YH []⟩:St) by rw[k3]<;>rfl) ?_;exact bA.out
    .by_cases k4:kd=4
     .have qf:=(Aq @k3 @k4);refine aB [1,3,4,5,22,23,24] [] ?_;refine AW.st (show _=(⟨aZ [(1,.d (.ip [.sl none (p.names.map bk),.sl none (p.ar.map bF)])),(3,int n),(4,.d (.ip [.v (.string (bs nm)),.v (.int .i64 kd),.v (.int .i64 ct)])),(5,.d (.v (.bool (decide (kd=3) || decide (kd=4))))),(22,.d (.sl none (p.names.map bk))),(23,int p.names.length),(24,int n)],YH []⟩:St) by rw[k4]<;>rfl) ?_;exact bA.out
     .have e:(decide (kd=3) || decide (kd=4))=false:=by simp[k3,k4]
      have qf:=(Aq @k3 @k4);refine aB [1,3,4,5,22,23,24] [] ?_;refine AW.st (show _=(⟨aZ [(1,.d (.ip [.sl none (p.names.map bk),.sl none (p.ar.map bF)])),(3,int n),(4,.d (.ip [.v (.string (bs nm)),.v (.int .i64 kd),.v (.int .i64 ct)])),(5,.d (.v (.bool (decide (kd=3) || decide (kd=4))))),(22,.d (.sl none (p.names.map bk))),(23,int p.names.length),(24,int n)],YH []⟩:St) by rw[e]<;>rfl) ?_;exact bA.out
   .generalize (decide (kd=3) || decide (kd=4))=cB at dZ;refine al [1,3,4,5,6,22,23,24] [] ?_;refine ae fun K5 b8=>?_
    refine' xB (fun YV=>?_) ?_
    rotate_left
    .refine YR ?_;refine aP trivial oN [1,3,4,5,6,22,23,24,37] [] ?_;by_cases A9:nf=true
     rotate_left
     .have Gu:nf=false:=by simpa using A9
      rw[if_pos (by simp[Gu])]at dZ;rw[Gu];refine YL rfl ?_;refine gJ trivial b8 [1,3,6,22,23,24] [] ?_;refine AW.st (show _=(⟨aZ [(1,.d (.ip [.sl none (p.names.map bk),.sl none (p.ar.map bF)])),(3,int n),(6,int v),(22,.d (.sl none (p.names.map bk))),(23,int p.names.length),(24,int n)],YH []⟩:St) by rw[dZ]<;>rfl) ?_;exact YV.out
     .rw[if_neg (by simp[A9])]at dZ;rw[A9];refine af rfl ?_;by_cases k1:kd < 1
      .rw[if_pos (by simp[k1])]at dZ;have qf:=@k1;refine aB [1,3,4,5,6,22,23,24,42] [] ?_;refine YL rfl ?_;refine gJ trivial b8 [1,3,6,22,23,24] [] ?_;refine AW.st (show _=(⟨aZ [(1,.d (.ip [.sl none (p.names.map bk),.sl none (p.ar.map bF)])),(3,int n),(6,int v),(22,.d (.sl none (p.names.map bk))),(23,int p.names.length),(24,int n)],YH []⟩:St) by rw[dZ]<;>rfl) ?_;exact YV.out
      by_cases k2:kd > 4
      .rw[if_pos (by simp[k2])]at dZ;have qf:=(Aq @k1 @k2);refine aB [1,3,4,5,6,22,23,24,42] [] ?_;refine YL rfl ?_;refine gJ trivial b8 [1,3,6,22,23,24] [] ?_;refine AW.st (show _=(⟨aZ [(1,.d (.ip [.sl none (p.names.map bk),.sl none (p.ar.map bF)])),(3,int n),(6,int v),(22,.d (.sl none (p.names.map bk))),(23,int p.names.length),(24,int n)],YH []⟩:St) by rw[dZ]<;>rfl) ?_;exact YV.out
      rw[if_neg (by simp[k1,k2])]at dZ;have qf:=(Aq @k1 @k2);refine aB [1,3,4,5,6,22,23,24,42] [] ?_;refine af rfl ?_;by_cases F0:cB=true
      .rw[F0]at dZ ⊢;by_cases c1:ct < 1
       .rw[if_pos (by simp[c1])]at dZ;have qf:=@c1;refine aB [1,3,4,6,22,23,24,51] [] ?_;refine YL rfl ?_;refine gJ trivial b8 [1,3,6,22,23,24] [] ?_;refine AW.st (show _=(⟨aZ [(1,.d (.ip [.sl none (p.names.map bk),.sl none (p.ar.map bF)])),(3,int n),(6,int v),(22,.d (.sl none (p.names.map bk))),(23,int p.names.length),(24,int n)],YH []⟩:St) by rw[dZ]<;>rfl) ?_;exact YV.out
       by_cases c2:ct > 7
       .rw[if_pos (by simp[c2])]at dZ;have qf:=(Aq @c1 @c2);refine aB [1,3,4,6,22,23,24,51] [] ?_;refine YL rfl ?_;refine gJ trivial b8 [1,3,6,22,23,24] [] ?_;refine AW.st (show _=(⟨aZ [(1,.d (.ip [.sl none (p.names.map bk),.sl none (p.ar.map bF)])),(3,int n),(6,int v),(22,.d (.sl none (p.names.map bk))),(23,int p.names.length),(24,int n)],YH []⟩:St) by rw[dZ]<;>rfl) ?_;exact YV.out
       rw[if_neg (by simp[c1,c2])]at dZ;have qf:=(Aq @c1 @c2);refine aB [1,3,4,6,22,23,24,51] [] ?_;refine af rfl ?_;refine aP trivial oP [1,3,6,22,23,24,72] [] ?_;by_cases c9:YW p nm < n
       .rw[if_pos c9]at dZ;refine YL (by simp[c9]) ?_;refine gJ trivial b8 [1,3,6,22,23,24] [] ?_;refine AW.st (show _=(⟨aZ [(1,.d (.ip [.sl none (p.names.map bk),.sl none (p.ar.map bF)])),(3,int n),(6,int v),(22,.d (.sl none (p.names.map bk))),(23,int p.names.length),(24,int n)],YH []⟩:St) by rw[dZ]<;>rfl) ?_;exact YV.out
       .rw[if_neg c9]at dZ;refine af (by simp[c9]) ?_;refine ao ?_;refine b8 _ (AW.norm [1,3,6,22,23,24] [] (fun _ _=>trivial) (AW.st (by simp;rfl) ?_));refine AW.st (show _=(⟨aZ [(1,.d (.ip [.sl none (p.names.map bk),.sl none (p.ar.map bF)])),(3,int n),(6,int v),(22,.d (.sl none (p.names.map bk))),(23,int p.names.length),(24,int n)],YH []⟩:St) by rw[dZ]<;>rfl) ?_;exact YV.out
      .have OA:cB=false:=by simpa using F0
       rw[OA]at dZ ⊢;by_cases c0:ct=0
       .rw[if_neg (by simp[c0])]at dZ;have qf:=@c0;refine aB [1,3,4,6,22,23,24,51] [] ?_;refine af rfl ?_;refine aP trivial oP [1,3,6,22,23,24,72] [] ?_;by_cases c9:YW p nm < n
        .rw[if_pos c9]at dZ;refine YL (by simp[c9]) ?_;refine gJ trivial b8 [1,3,6,22,23,24] [] ?_;refine AW.st (show _=(⟨aZ [(1,.d (.ip [.sl none (p.names.map bk),.sl none (p.ar.map bF)])),(3,int n),(6,int v),(22,.d (.sl none (p.names.map bk))),(23,int p.names.length),(24,int n)],YH []⟩:St) by rw[dZ]<;>rfl) ?_;exact YV.out
        .rw[if_neg c9]at dZ;refine af (by simp[c9]) ?_;refine ao ?_;refine b8 _ (AW.norm [1,3,6,22,23,24] [] (fun _ _=>trivial) (AW.st (by simp;rfl) ?_));refine AW.st (show _=(⟨aZ [(1,.d (.ip [.sl none (p.names.map bk),.sl none (p.ar.map bF)])),(3,int n),(6,int v),(22,.d (.sl none (p.names.map bk))),(23,int p.names.length),(24,int n)],YH []⟩:St) by rw[dZ]<;>rfl) ?_;exact YV.out
       .rw[if_pos (by simp[c0])]at dZ;have qf:=@c0;refine aB [1,3,4,6,22,23,24,51] [] ?_;refine YL rfl ?_;refine gJ trivial b8 [1,3,6,22,23,24] [] ?_;refine AW.st (show _=(⟨aZ [(1,.d (.ip [.sl none (p.names.map bk),.sl none (p.ar.map bF)])),(3,int n),(6,int v),(22,.d (.sl none (p.names.map bk))),(23,int p.names.length),(24,int n)],YH []⟩:St) by rw[dZ]<;>rfl) ?_;exact YV.out
    .by_cases ji:v=0
     .have qf:=@ji;refine aB [1,3,6,22,23,24,80] [] ?_;refine af rfl ?_;refine ao ?_;refine Y4 _ ?_;refine eL ?_;(try simp only[YO,bd]);refine bn.mk (n+1) ⟨by omega,fun k hk ml=>?_⟩ (by omega) ?_
      .by_cases h:k=n
       .subst h;rw[hv,ji]
       .exact hb k hk (by omega)
      refine ZH
     .have qf:=@ji;refine aB [1,3,6,22,23,24,80] [] ?_;refine YL rfl ?_;refine al [2] [84] ?_;refine b7 ?_;simp[D.le,D.le.go,aQ];simp[hgo ji,aR,D.le,D.le.go]
  .rw[zN fun k hk=>by rw[Nat.zero_add];exact hb k hk (by omega)]at jh;dsimp only at jh;refine bY (aa _ ?_);refine ae fun K6 dD=>?_;refine al [1,88,89,90] [] ?_;refine Zb (S:=Nat) (fun n=>n<=p.ar.length/\∀ k (hk:k < p.ar.length),k < n->kL p p.ar[k]=0) (fun n=>⟨aZ [(1,.d (.ip [.sl none (p.names.map bk),.sl none (p.ar.map bF)])),(88,.d (.sl none (p.ar.map bF))),(89,int p.ar.length),(90,int n)],YH []⟩) (fun n=>p.ar.length - n) 0 ?_ (by simp) ?_
   .refine ZH
   .rintro n ⟨hn,hb⟩;refine al [1,88,89,90,91] [] ?_;refine ae fun K7 dY=>?_;refine eM (b:=n < p.ar.length) (by simp[D.le,D.le.go,aQ]) (fun hc=>?_) (fun hc=>?_)
    .have YJ:=hc
     have hgo:kL p p.ar[n]≠0->res=some (kL p p.ar[n],some (p.names.length+n)):=fun aG=>by
      rw[<- jh,zL (i:=0) YJ (fun k hk ml=>hb k hk ml) aG];simp
     have aap:bF p.ar[n]=[.v (.int .i64 p.ar[n].kind),dS p.ar[n].name,dC p.ar[n].cond]:=rfl;have aS:=jJ p.ar[n] (wD _ (List.getElem_mem YJ));simp only[zo,aap]at aS;generalize hv:kL p p.ar[n]=v at aS hgo
     obtain⟨tc,Au,Qg⟩:∃ tc,dC p.ar[n].cond=tc/\((∃ a b,tc = .bh a b)\/tc = .v .nilIface):=by
      cases p.ar[n].cond with
      | none=>exact⟨_,rfl,.inr rfl⟩
      | some e=>obtain⟨a,b,h⟩:=dX e;exact⟨_,rfl,.inl ⟨a,b,h⟩⟩
     rw[Au]at aap aS;generalize p.ar[n].kind=kd at aap aS;generalize p.ar[n].name=nm at aap aS;simp only[dS]at aap aS
     have oI:(p.names.length:Int)+(n:Int)<=2^62:=by omega
     refine ao (dY _ ?_);refine ae fun K8 Zl=>?_;refine YR ?_
     rcases Qg with⟨ta,tb2,rfl⟩ | rfl
     all_goals
      .have qf:=(Aq @YJ @aap);refine aB [1,7,8,88,89,90] [8] ?_;refine fzB 8 ?_;refine aP trivial aS [1,7,9,88,89,90] [] ?_;by_cases ji:v=0
       .have qf:=@ji;refine aB [1,7,9,88,89,90,99] [] ?_;refine af rfl ?_;refine ao (Zl _ ?_);refine eL ?_;(try simp only[YO,bd]);refine bn.mk (n+1) ⟨by omega,fun k hk ml=>?_⟩ (by omega) ?_
        .by_cases h:k=n
         .subst h;rw[hv,ji]
         .exact hb k hk (by omega)
        refine ZH
       .have qf:=@ji;refine aB [1,7,9,88,89,90,99] [] ?_;refine YL rfl ?_;refine al [2] [107] ?_;refine b7 ?_;simp[D.le,D.le.go,aQ];simp[hgo ji,aR,D.le,D.le.go]
    .rw[zN fun k hk=>hb k hk (by omega)]at jh;refine bY (dD _ ?_);refine al [2] [] ?_;refine b7 ?_;simp[D.le,D.le.go,aQ];simp[<- jh,aR]
def gF (l:List dL) (k:Int):Nat->List Int
 | 0=>[]
 | i+1=>gF l k i ++ if (l.getD i ⟨[],0,0⟩).kind=k then [(i:Int)] else []
theorem acG (l:List dL) (k:Int):∀ n,(gF l k n).length<=n
 | 0=>Nat.le_refl _
 | n+1=>by rw[gF,List.length_append];have:=acG l k n;split<;>simp<;>omega
theorem Ho (l:List dL) (k:Int):gF l k 0=[]:=rfl
theorem BT {l:List dL} {k:Int} {i:Nat} (h:i < l.length):gF l k (i+1)=gF l k i ++ if l[i].kind=k then [(i:Int)] else []:=by
 rw[gF,List.getD_eq_getElem?_getD,List.getElem?_eq_getElem h];rfl
theorem B0 (G:YI) (p:YM) (hl:p.names.length < 2^40) (k:Int):aq prog G 64 [cA p,.v (.int .i64 k)] (.sl none ((gF p.names k p.names.length).map fun x=>[.v (.int .i64 x)])):=by
 simp only[cA,cy,cz,cu];generalize p.ar.map bF=R;refine aq.aI (aw _) func64 rfl rfl (rs:=[.tmp 4]) results64 (by simp[ntmps64]) fun X=>?_;simp only[ntmps64,List.map];refine al [1,2] [2] ?_;refine fzB 2 ?_;refine al [1,2,5] [] ?_;refine ae fun K1 ay=>?_;refine al [1,5,9,10,11] [] ?_;refine Zb (S:=Nat) (fun i=>i<=p.names.length) (fun i=>⟨aZ [(1,.d (.v (.int .i64 k))),(5,.own 300 0 (gF p.names k i).length),(9,.d (.sl none (p.names.map bk))),(10,int p.names.length),(11,int i)],YH [(300,.sl 3 1 ((gF p.names k i).map fun x=>[.v (.int .i64 x)]))]⟩) (fun i=>p.names.length - i) 0 ?_ (by simp) ?_
 .refine (aC.lu 5 300 3 1 rfl rfl).trans ?_;refine aC.cO (fun _ _=>trivial) (by simp[Ho]) (by simp[Ho])
 .intro i hi;have ZP:=acG p.names k i;have tY:=fun h=>BT (l:=p.names) (k:=k) (i:=i) h;generalize Pq:gF p.names k i=L at ZP tY ⊢;refine al [1,5,9,10,11,12] [300] ?_;refine ae fun K2 aa=>?_;refine eM (b:=i < p.names.length) (by simp[D.le,D.le.go,aQ]) (fun hc=>?_) (fun hc=>?_)
  .have YJ:=hc;have Zv:=tY YJ;have ja:bk p.names[i]=[.v (.string (bs p.names[i].name)),.v (.int .i64 p.names[i].kind),.v (.int .i64 p.names[i].count)]:=rfl;generalize p.names[i].name=nm at ja;generalize p.names[i].kind=kd at ja Zv;generalize p.names[i].count=ct at ja;refine ao (aa _ ?_);refine ae fun K3 YS=>?_;refine YR ?_;have qf:=(Aq @YJ @ja);refine aB [1,5,6,7,9,10,11] [300,7] ?_;refine fzB 7 ?_;by_cases heq:kd=k
   .rw[if_pos heq]at Zv;have qf:=@heq;refine aB [1,5,6,9,10,11,19] [300] ?_;refine YL rfl ?_;refine ff (aw _) fun K' ah=>?_;(repeat (refine aJ fun K2 aa=>?_;simp[List.take_of_length_le];(repeat (refine⟨by omega,?_⟩));refine aa _ ?_;clear aa K2));refine YZ (ah _ ?_);clear ah K';refine YS _ (AW.norm [1,5,9,10,11] [300] (fun _ _=>trivial) (AW.st (by simp[List.take_of_length_le];rfl) ?_));refine eL ?_;(try simp only[YO,bd]);refine bn.mk (i+1) (by omega) (by omega) ?_;refine bz @Zv
   .rw[if_neg heq,List.append_nil]at Zv;have qf:=@heq;refine aB [1,5,6,9,10,11,19] [300] ?_;refine af rfl ?_;refine ao (YS _ ?_);refine eL ?_;(try simp only[YO,bd]);refine bn.mk (i+1) (by omega) (by omega) ?_;refine bz @Zv
  .obtain rfl:i=p.names.length:=by omega
   refine bY (ay _ ?_);refine AW.imp (aC.freeze 300 trivial) ?_;refine AW.st (by simp[List.take_of_length_le];rfl) ?_;refine al [4] [] ?_;exact aV @Pq
