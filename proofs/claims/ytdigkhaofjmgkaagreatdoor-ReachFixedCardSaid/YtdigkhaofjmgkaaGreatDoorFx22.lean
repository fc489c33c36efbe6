/- Parts. -/
import Derived.Test.YtdigkhaofjmgkaaGreatDoorFx20
import Derived.Test.YtdigkhaofjmgkaaGreatDoorFx21
import Derived.Shelf.Small.Strs
import Derived.Lib.IndexLaws
import Derived.Shelf.Strings.OnBuilder
set_option linter.unusedSimpArgs false
set_option linter.unusedVariables false
set_option maxHeartbeats 16000000
open Go.Proofs.Tryz
namespace Go.Proofs.YtdigkhaofjmgkaaGreatDoor
open Go.Av
open Go.Shelf
def bG (t:List UInt8) (i:Int):Row:=.box 182 [.d (dS t),int i]
def bk (t:List UInt8) (i:Int):List (Nat×Row):=[(500,bG t i)]
theorem vA (a:UInt8) (n:Nat) (hn:n < 256):((a.toNat:Int)=(n:Int))↔a=UInt8.ofNat n:=by
 constructor
 .intro h
  have:a.toNat=n:=by omega
  rw[<- this,UInt8.ofNat_toNat]
 .rintro rfl;simp;omega
theorem yL (G:aq) (t:List UInt8) (i:Nat) (ht:t.length < 2^60) (hi:i<=t.length) :
  MC prog G [500] 97 [.ref 500 0 0] (ak (bk t i)) (.d (.aW [])) (ak (bk t (aZ t i))):=by
 refine MC.abS (al _) func97 rfl rfl (rs:=[]) results97 (by simp[ntmps97]) rfl fun X=>?_;simp only[ntmps97];have fw:=(Aq @afg (Aq @bk.eq_1 (Aq @bG.eq_1 @afi)));refine bQ (S:=Nat) (fun k=>k<=t.length/\aZ t k=aZ t i) (fun k=>⟨aV [(0,.ref 500 0 0)],ak [(500,.box 182 [.d (dS t),int k])]⟩) (fun k=>t.length - k) i ?_ ⟨hi,rfl⟩ ?_
 .refine abW fw
 .rintro k ⟨hk,hs⟩;refine af fun K1 ax=>?_;by_cases hkl:k < t.length
  .have Sa:(k:Int) < (t.length:Int):=by omega
   have jq:t.getD k 0=t[k]:=by simp[abJ,hkl]
   by_cases hb:((t[k]).toNat:Int)=32
   .have qf:=(Aq fw (Aq @bl (Aq @cj (Aq @hkl @hb))));refine fQ [0,23] [500] ?_;refine abP rfl ?_;refine abO (ax _ ?_);refine aR ?_;refine reQ fw ?_;try simp only[aJ,aL]
    have gv:t[k]? = some 32:=by
     rw[By hkl,(vA _ 32 (by decide)).1 hb];rfl
    refine aS.mk (k+1) ⟨by omega,?_⟩ (by omega) ?_
    .rw[<- FU gv];exact hs
    refine abW fw
   .have qf:=(Aq fw (Aq @bl (Aq @cj (Aq @hkl @hb))));refine fQ [0,23] [500] ?_;refine abN rfl ?_;refine bx ?_
    have gv:t[k]?≠some 32:=by
     rw[By hkl];intro h;apply hb;rw[AI h];rfl
    rw[afS gv]at hs;rw[<- hs];simp[bk,bG,dS,D.le_refl]
  .obtain rfl:k=t.length:=by omega
   have qf:=(Aq fw (Aq @bl @cj));refine fQ [0,23] [500] ?_;refine abN rfl ?_;refine bx ?_
   have gv:t[t.length]?≠some 32:=by simp
   rw[afS gv]at hs;rw[<- hs];simp[bk,bG,dS,D.le_refl]
theorem Bo (G:aq) (t:List UInt8) (i:Nat) (ht:t.length < 2^60) (hi:i<=t.length) (c:UInt8) :
  MC prog G [500] 196 [.ref 500 0 0,.d (.v (.int .u8 c.toNat))] (ak (bk t i)) (.d (.v (.bool (cQ t c i).1))) (ak (bk t (cQ t c i).2)):=by
 have gM:=yL G t i ht hi;have aib:=im hi;unfold cQ;generalize aZ t i=j at gM aib ⊢;by_cases fg:j < t.length
 .rw[By fg];by_cases hb:t[j]=c
  .have aU:((t[j]).toNat:Int)=(c.toNat:Int):=by rw[hb]
   rw[if_pos (by rw[hb])];refine MC.abS (al _) func196 rfl rfl (rs:=[.tmp 4]) results196 (by simp[ntmps196]) rfl fun X=>?_;simp only[ntmps196];have fw:=(Aq @afg (Aq @bk.eq_1 (Aq @bG.eq_1 @afi)));refine rgq fw [0,1] [500] ?_;refine bf fw gM [0,1] [500] ?_;refine af fun K1 ax=>?_;have qf:=(Aq fw (Aq @bl (Aq @cj (Aq @fg @aU))));refine fQ [0,29] [500] ?_;refine abP rfl ?_;refine rgq fw [] [500] ?_;refine rgq fw [4] [500] ?_;exact aN (Aq fw (Aq @bk.eq_1 @bG.eq_1))
  .have aU:¬ ((t[j]).toNat:Int)=(c.toNat:Int):=fun h=>hb (UInt8.toNat_inj.1 (by omega));rw[if_neg (fun h=>hb (AI h))];refine MC.abS (al _) func196 rfl rfl (rs:=[.tmp 4]) results196 (by simp[ntmps196]) rfl fun X=>?_;simp only[ntmps196];have fw:=(Aq @afg (Aq @bk.eq_1 (Aq @bG.eq_1 @afi)));refine rgq fw [0,1] [500] ?_;refine bf fw gM [0,1] [500] ?_;refine af fun K1 ax=>?_;have qf:=(Aq fw (Aq @bl (Aq @cj (Aq @fg @aU))));refine fQ [0,29] [500] ?_;refine abN rfl ?_;refine abO (ax _ ?_);refine rgq fw [4] [500] ?_;exact aN (Aq fw (Aq @bk.eq_1 @bG.eq_1))
 .obtain rfl:j=t.length:=by omega
  rw[if_neg (by simp)];refine MC.abS (al _) func196 rfl rfl (rs:=[.tmp 4]) results196 (by simp[ntmps196]) rfl fun X=>?_;simp only[ntmps196];have fw:=(Aq @afg (Aq @bk.eq_1 (Aq @bG.eq_1 @afi)));refine rgq fw [0,1] [500] ?_;refine bf fw gM [0,1] [500] ?_;refine af fun K1 ax=>?_;have qf:=(Aq fw (Aq @bl @cj));refine fQ [0,29] [500] ?_;refine abN rfl ?_;refine abO (ax _ ?_);refine rgq fw [4] [500] ?_;exact aN (Aq fw (Aq @bk.eq_1 @bG.eq_1))
theorem wb (G:aq) (t:List UInt8) (i:Nat) (ht:t.length < 2^60) (hi:i<=t.length) (e:Int) :
  MC prog G [500] 98 [.ref 500 0 0,.d (ab e)] (ak (bk t i)) (.d (bd (some (e,some (aZ t i))))) (ak (bk t (aZ t i))):=by
 have gM:=yL G t i ht hi;generalize aZ t i=j at gM ⊢;refine MC.abS (al _) func98 rfl rfl (rs:=[.tmp 4]) results98 (by simp[ntmps98]) rfl fun X=>?_;simp only[ntmps98];have fw:=(Aq @afg (Aq @bk.eq_1 (Aq @bG.eq_1 @afi)));refine rgq fw [0,1] [500] ?_;refine bf fw gM [0,1] [500] ?_;refine rgq fw [4] [500,13] ?_;refine acp fw 13 ?_;exact aN (Aq fw (Aq @bk.eq_1 (Aq @bG.eq_1 (Aq @afG (Aq @afH @afI)))))
def mi:List UInt8:=[32,38,124,33,94,126,40,41,48,49,61]
theorem El (l:List UInt8) (c:UInt8):Lib.indexByte l c < 0↔c ∉ l:=by
 have qI:=Lib.indexByte_ge l c;constructor
 .intro h hm;obtain⟨k,hk,rfl⟩:=aco.1 hm;exact Lib.indexByte_none (show Lib.indexByte l l[k] = -1 by omega) k (By hk)
 .intro hm;apply acj;intro h;obtain⟨n,hn⟩:=acn (show 0<=Lib.indexByte l c by omega);exact hm (adG (Lib.indexByte_some hn).1)
theorem JW (G:aq) (l:List UInt8) (c:UInt8):ar prog G 116 [dS l,.v (.int .u8 c.toNat)] (ab (Lib.indexByte l c)):=by
 refine ar.nV (fe.of func116 rfl rfl) fun X w vs aK bD hgl=>?_
 obtain⟨a,b,rfl⟩:∃ a b,vs = #[a,b]:=by
  match vs,aK with
  | ⟨[a,b]⟩,_=>exact⟨a,b,rfl⟩
 have ha:=(bD 0 a _ rfl rfl).scalar;have hb:=(bD 1 b _ rfl rfl).scalar;subst ha hb;have fC:=Any.strings_IndexByte (P:=prog) (ρ:=Tryz.Ez) { Tryz.Ey with } (bs l) c.toNat w;rw[show (c.toNat:Int).toNat.toUInt8=c by simp]at fC;exact fC.mono fun e w' ⟨he,hw⟩=>⟨_,he,by rw[hw];exact bZ.refl _,.v _⟩
end Go.Proofs.YtdigkhaofjmgkaaGreatDoor
namespace Go.Proofs.YtdigkhaofjmgkaaGreatDoor
open Go.Av
theorem GZ (t:List UInt8) (i j:Nat):(bs t).extract i j=bs ((t.drop i).take (j - i)):=ByteArray.ext (by
 rw[ByteArray.data_extract];unfold bs;apply ada.1
 simp[List.take_drop,List.extract])
theorem th:(⟨#[32,38,124,33,94,126,40,41,48,49,61]⟩:ByteArray)=bs mi:=rfl
def j0:Rs (List UInt8)->D
 | .ok s _=>.aW [dS s,.v .nilIface]
 | .err c p _=>.aW [dS [],bd (some (c,some p))]
def ace {α:Type}:Rs α->Nat
 | .ok _ i=>i
 | .err _ p _=>p
theorem uY (c:UInt8):c∈mi↔(jc c=true\/c=48\/c=49):=by
 simp only[mi,jc,abV,List.not_mem_nil,or_false,acY];constructor
 .rintro (h | h | h | h | h | h | h | h | h | h | h)<;>simp[h]
 .rintro ((h | h | h | h | h | h | h | h | h) | h | h)<;>simp[h]
def rD (t:List UInt8) (j k:Nat):Prop:=k=j\/(j < k/\pF t j=true/\nc t (j+1)=nc t k)
theorem o4 {t:List UInt8} {j k:Nat} (h:rD t j k) (hk:k<=t.length) (hstop:∀ hk:k < t.length,t[k]∈mi/\(j < k->t[k]≠48/\t[k]≠49)):k=lO t j:=by
 unfold lO
 rcases h with rfl | ⟨hjk,hh,he⟩
 .by_cases eQ:k < t.length
  .have:=(uY _).1 (hstop eQ).1
   have fD:pF t k=false:=by
    unfold pF;rw[By eQ]
    rcases this with h | h | h<;>simp[h]
   rw[fD];rfl
  .have fD:pF t k=false:=by
    unfold pF;rw[adh (by omega)]
   rw[fD];rfl
 .rw[hh,if_pos rfl,he,Zx];intro eQ;obtain⟨h1,h2⟩:=hstop eQ
  rcases (uY _).1 h1 with h | h | h
  .exact h
  .exact absurd h (h2 hjk).1
  .exact absurd h (h2 hjk).2
theorem vQ {t:List UInt8} {j k:Nat} (h:rD t j k) (hk:k < t.length) (ek:t[k] ∉ mi\/(j < k/\(t[k]=48\/t[k]=49))):rD t j (k+1):=by
 have hs:jc t[k]=false:=by
  rcases ek with h | ⟨_,h⟩
  .cases hc:jc t[k] with
   | false=>rfl
   | true=>exact absurd ((uY _).2 (.inl hc)) h
  .rcases h with h | h<;>rw[h]<;>rfl
 right
 rcases h with rfl | ⟨hjk,hh,he⟩
 .refine⟨by omega,?_,rfl⟩
  rcases ek with h | ⟨h,_⟩
  .have h1:t[k]≠48:=fun e=>h ((uY _).2 (.inr (.inl e)));have h2:t[k]≠49:=fun e=>h ((uY _).2 (.inr (.inr e)));unfold pF;rw[By hk];simp[hs,h1,h2]
  .omega
 .refine⟨by omega,hh,?_⟩;rw[he,Zw hk hs]
theorem Gl (G:aq) (t:List UInt8) (q i:Nat) (ht:t.length < 2^60) (hi:i<=t.length) :
  MC prog G [500] 230 [.ref 500 0 0] (ak (bk t i)) (.d (j0 (ea t q i))) (ak (bk t (ace (ea t q i)))):=by
 have gM:=yL G t i ht hi;have aib:=im hi;have qJ:=afR hi;unfold ea;generalize aZ t i=j at gM aib qJ ⊢;have wT:=wb G t j ht aib 3;have wU:=wb G t j ht aib 5;rw[qJ]at wT wU;have hel:=Bs t j;have het:=Gc aib;have lA:(t.drop j).take (lO t j - j)=fS t j:=rfl
 have D1:(fS t j).length < 2^60:=by
  rw[<- lA,acz,acK];omega
 have ad8:=Ku G (fS t j) D1;refine MC.abS (al _) func230 rfl rfl (rs:=[.tmp 2,.tmp 3]) results230 (by simp[ntmps230]) rfl fun X=>?_;simp only[ntmps230];have fw:=(Aq @afg (Aq @bk.eq_1 (Aq @bG.eq_1 @afi)));refine rgq fw [0] [500] ?_;refine bf fw gM [0] [500] ?_;refine rgq fw [0,4] [500] ?_;refine af fun K1 ax=>?_;refine bQ (S:=Nat) (fun k=>j<=k/\k<=t.length/\rD t j k) (fun k=>⟨aV [(0,.ref 500 0 0),(4,int k)],ak [(500,.box 182 [.d (dS t),int j])]⟩) (fun k=>t.length - k) j ?_ ⟨abL _,aib,.inl rfl⟩ ?_
 .refine abW fw
 .rintro k ⟨hjk,hk,hat⟩;refine af fun K2 aa=>?_
  refine (fun ek hstop=>?_) (fun (σ:St) (hn:rD t j (k+1)) (hkl:k < t.length) himp=>aa σ (AW.imp (τ:=⟨aV [(0,.ref 500 0 0),(4,int k)],ak [(500,.box 182 [.d (dS t),int j])]⟩) himp ?_))
   (fun (σ:St) (he:k=lO t j) himp=>ax σ (AW.imp (τ:=⟨aV [(0,.ref 500 0 0),(4,int k)],ak [(500,.box 182 [.d (dS t),int j])]⟩) himp ?_))
  .by_cases hkl:k < t.length
   .have hix:=JW G mi t[k];have IU:=El mi t[k];by_cases hm:t[k]∈mi
    .have uy:¬ Lib.indexByte mi t[k] < 0:=fun h=>IU.1 h hm;by_cases aic:j < k
     .have iW:(j:Int) < (k:Int):=by omega
      by_cases mC:((t[k]).toNat:Int)=48
      .have hc:t[k]=48:=(vA _ 48 (by decide)).1 mC;have qf:=(Aq fw (Aq @bl (Aq @cj (Aq @th (Aq @hkl (Aq @uy (Aq @iW (Aq @aic @mC))))))));refine dr hix [0,4,63] [500] ?_;refine abP rfl ?_;refine abO (ek _ (vQ hat hkl (.inr ⟨aic,.inl hc⟩)) hkl ?_);refine abW fw
      .by_cases h49:((t[k]).toNat:Int)=49
       .have hc:t[k]=49:=(vA _ 49 (by decide)).1 h49;have qf:=(Aq fw (Aq @bl (Aq @cj (Aq @th (Aq @hkl (Aq @uy (Aq @iW (Aq @aic (Aq @mC @h49)))))))));refine dr hix [0,4,63] [500] ?_;refine abP rfl ?_;refine abO (ek _ (vQ hat hkl (.inr ⟨aic,.inr hc⟩)) hkl ?_);refine abW fw
       .have qf:=(Aq fw (Aq @bl (Aq @cj (Aq @th (Aq @hkl (Aq @uy (Aq @iW (Aq @aic (Aq @mC @h49)))))))));refine dr hix [0,4,63] [500] ?_;refine abN rfl ?_;refine bx (hstop _ (o4 hat hk fun _=>⟨hm,fun _=>⟨fun e=>mC (by rw[e];rfl),fun e=>h49 (by rw[e];rfl)⟩⟩) ?_);refine abW fw
     .have iW:¬ (j:Int) < (k:Int):=by omega
      have qf:=(Aq fw (Aq @bl (Aq @cj (Aq @th (Aq @hkl (Aq @uy (Aq @iW @aic)))))));refine dr hix [0,4,63] [500] ?_;refine abN rfl ?_;refine bx (hstop _ (o4 hat hk fun _=>⟨hm,fun h=>absurd h aic⟩) ?_);refine abW fw
    .have uy:Lib.indexByte mi t[k] < 0:=IU.2 hm;have qf:=(Aq fw (Aq @bl (Aq @cj (Aq @th (Aq @hkl @uy)))));refine dr hix [0,4,63] [500] ?_;refine abP rfl ?_;refine abO (ek _ (vQ hat hkl (.inl hm)) hkl ?_);refine abW fw
   .obtain rfl:k=t.length:=by omega
    by_cases aic:j < t.length
    .have iW:(j:Int) < (t.length:Int):=by omega
     have qf:=(Aq fw (Aq @bl (Aq @cj (Aq @th (Aq @iW @aic)))));refine abQ [0,4,63] [500] ?_;refine abN rfl ?_;refine bx (hstop _ (o4 hat hk fun h=>absurd h hkl) ?_);refine abW fw
    .have iW:¬ (j:Int) < (t.length:Int):=by omega
     have qf:=(Aq fw (Aq @bl (Aq @cj (Aq @th (Aq @iW @aic)))));refine abQ [0,4,63] [500] ?_;refine abN rfl ?_;refine bx (hstop _ (o4 hat hk fun h=>absurd h hkl) ?_);refine abW fw
  .refine aR ?_;refine reQ fw ?_;(try simp only[aJ,aL]);refine aS.mk (k+1) ⟨by omega,by omega,hn⟩ (by omega) ?_;refine abW fw
  .subst he;clear ax aa;have Ec:List.take (lO t j - j) (List.drop j t)=fS t j:=lA;have qf:=(Aq fw (Aq @bl (Aq @GZ (Aq @hel (Aq @het @Ec)))));refine fQ [0,4,5] [500] ?_;refine af fun K3 aQ=>?_;by_cases hs:fS t j=[]
   .refine rg [0,4,5,77] [500] (cJ rfl) fun K' ae=>?_;(repeat (refine sxn fun K2 aa=>?_;simp[ab,bk,bG,dS,hs,br,aY,aO];(repeat (refine⟨by omega,?_⟩));refine aa _ ?_;clear aa K2));refine sxz (ae _ (AW.st (by simp[ab,bk,bG,dS,hs,br,aY,aO];rfl) ?_));clear ae K';refine abP rfl ?_;refine bf (Aq fw (Aq @afG (Aq @afH @afI))) wT [2,3] [500] ?_;refine ab1 ?_;simp[D.le,D.le.go,aC,ab,bk,bG,dS,bk,bG,j0,ace,bd,br,hs]
   .have jS:(fS t j == [])=false:=by simpa using hs
    have nL:(fS t j).isEmpty=false:=by rw[ad3];exact hs
    refine rg [0,4,5,77] [500] (cJ rfl) fun K' ae=>?_;(repeat (refine sxn fun K2 aa=>?_;simp[ab,bk,bG,dS,br,aY,aO,hs,jS,nL];(repeat (refine⟨by omega,?_⟩));refine aa _ ?_;clear aa K2));refine sxz (ae _ (AW.st (by simp[ab,bk,bG,dS,br,aY,aO,hs,jS,nL];rfl) ?_));clear ae K';refine abN rfl ?_;refine abO (aQ _ ?_);refine af fun K4 bK=>?_
    cases hn:gd (fS t j) with
    | false=>
     rw[hn]at ad8;refine aT fw ad8 [0,4,5,82] [500] ?_;refine abP rfl ?_;refine bf (Aq fw (Aq @afG (Aq @afH @afI))) wU [2,3] [500] ?_;refine ab1 ?_;simp[D.le,D.le.go,aC,ab,bk,bG,dS,bk,bG,j0,ace,bd,br,hs,hn]
    | true=>
     rw[hn]at ad8;refine aT fw ad8 [0,4,5,82] [500] ?_;refine abN rfl ?_;refine abO (bK _ ?_);refine rgq fw [5] [500] ?_;refine rgq fw [2,3] [500] ?_;exact aN (Aq fw (Aq @bk.eq_1 (Aq @bG.eq_1 (Aq @j0.eq_1 (Aq @j0.eq_2 (Aq @ace.eq_1 (Aq @ace.eq_2 (Aq @hs @hn))))))))
end Go.Proofs.YtdigkhaofjmgkaaGreatDoor
namespace Go.Proofs.YtdigkhaofjmgkaaGreatDoor
theorem ahp {α:Type} {t:List UInt8} {s:UInt8} {f:Nat->Rs α} (hf:iu t f):∀ (n m i:Nat) (acc:List α),i<=t.length->t.length+1 - i<=n->t.length+1 - i<=m->fy t s f n i acc=fy t s f m i acc
 | 0,_,i,_,hi,h,_=>by omega
 | _+1,0,i,_,hi,_,h=>by omega
 | n+1,m+1,i,acc,hi,h1,h2=>by
  rw[fy,fy]
  cases bA:f i with
  | err c p q=>rfl
  | ok x j=>
   obtain⟨g1,g2⟩:=hf i x j hi bA;obtain⟨t1,t2,t3⟩:=ku (c:=s) g2;dsimp only;split
   .exact ahp hf n m _ _ t2 (by omega) (by omega)
   .rfl
def il {α:Type} (t:List UInt8) (s:UInt8) (f:Nat->Rs α) (i:Nat) (acc:List α):Rs (List α):=fy t s f (t.length+1 - i) i acc
theorem p5 {α:Type} {t:List UInt8} {s:UInt8} {f:Nat->Rs α} (hf:iu t f) {i:Nat} (hi:i<=t.length) (acc:List α):il t s f i acc=match f i with
  | .err c p _=>.err c p 0
  | .ok x j=>if (cQ t s j).1 then il t s f (cQ t s j).2 (acc ++ [x]) else .ok (acc ++ [x]) (cQ t s j).2:=by
 unfold il;obtain⟨n,hn⟩:∃ n,t.length+1 - i=n+1:=⟨t.length - i,by omega⟩;rw[hn,fy]
 cases bA:f i with
 | err c p q=>rfl
 | ok x j=>
  obtain⟨g1,g2⟩:=hf i x j hi bA;obtain⟨t1,t2,t3⟩:=ku (c:=s) g2;dsimp only;split
  .exact ahp hf _ _ _ _ t2 (by omega) (by omega)
  .rfl
theorem FR {α:Type} {t:List UInt8} {s:UInt8} {f:Nat->Rs α}:∀ (n i:Nat) (acc:List α) {c:Int} {p q:Nat},fy t s f n i acc = .err c p q->q=0
 | 0,_,_,_,_,_,h=>by simp only[fy,Rs.err.injEq]at h;omega
 | n+1,i,acc,c,p,q,h=>by
  rw[fy]at h;split at h
  .simp only[Rs.err.injEq]at h;omega
  .split at h
   .exact FR n _ _ h
   .cases h
theorem Cf {l:List Ex} (h:l.length≠1):o8 l = .and l:=by
 match l,h with
 | [],_=>rfl
 | [_],h=>exact absurd rfl h
 | _ :: _ :: _,_=>rfl
theorem Cg {l:List Ex} (h:l.length≠1):o9 l = .or l:=by
 match l,h with
 | [],_=>rfl
 | [_],h=>exact absurd rfl h
 | _ :: _ :: _,_=>rfl
open Go.Av
mutual
def dE:Ex->D
 | .ff b=>.bt 188 (.v (.bool b))
 | .bit s=>.bt 189 (dS s)
 | .adb s=>.bt 190 (dS s)
 | .fT s=>.bt 191 (dS s)
 | .not e=>.bt 114 (.agg [dE e])
 | .and l=>.bt 192 (.sl none (vX l))
 | .or l=>.bt 116 (.sl none (vX l))
def vX:List Ex->List (List D)
 | []=>[]
 | e :: l=>[dE e] :: vX l
end
theorem pb:∀ l:List Ex,vX l=l.map fun e=>[dE e]
 | []=>rfl
 | e :: l=>by rw[vX,pb l];rfl
theorem adE (e:Ex):∃ t y,dE e = .bt t y:=by
 cases e<;>simp only[dE]<;>exact⟨_,_,rfl⟩
def tO (l:List Ex):D:=.sl none (l.map fun e=>[dE e])
def dQ (q:Nat):D:=if q=1 then .bt 190 (dS []) else if q=2 then .bt 191 (dS []) else if q=3 then .bt 189 (dS []) else .v .nilIface
def cK:Rs Ex->D
 | .ok x _=>.aW [dE x,.v .nilIface]
 | .err c p q=>.aW [dQ q,bd (some (c,some p))]
def jZ:Rs (List Ex)->D
 | .ok l _=>.aW [tO l,.v .nilIface]
 | .err c p _=>.aW [.sl (some false) [],bd (some (c,some p))]
theorem L6 (G:aq) (t:List UInt8) (ht:t.length<=2000) (g:FuncId) (s:UInt8) (sn:Int) (fk:(s.toNat:Int)=sn) (d:Int) (f:Nat->Rs Ex) (hf:iu t f)
  (dJ:∀ i,i<=t.length->MC prog G [500] g [.ref 500 0 0,.d (ab d)] (ak (bk t i)) (.d (cK (f i))) (ak (bk t (ace (f i))))) (i:Nat) (hi:i<=t.length) :
  MC prog G [500] 148 [.ref 500 0 0,.d (.v (.int .u8 sn)),.d (ab d),.bm g (.ref 500 0 0)] (ak (bk t i)) (.d (jZ (il t s f i []))) (ak (bk t (ace (il t s f i [])))):=by
 generalize hR:il t s f i []=R;refine MC.abS (al _) func148 rfl rfl (rs:=[.tmp 8,.tmp 9]) results148 (by simp[ntmps148]) rfl fun X=>?_;simp only[ntmps148];have fw:=(Aq @afg (Aq @bk.eq_1 (Aq @bG.eq_1 @afi)));refine rgq fw [0,1,2,3] [500] ?_;refine rgq fw [0,1,2,3,10] [500] ?_;refine bQ (S:=Nat×List Ex) (fun z=>z.1<=t.length/\z.2.length<=z.1/\il t s f z.1 z.2=R) (fun z=>⟨aV [(0,.ref 500 0 0),(1,.d (.v (.int .u8 sn))),(2,.d (ab d)),(3,.bm g (.ref 500 0 0)),(10,.own 300 0 z.2.length)],ak [(500,.box 182 [.d (dS t),int z.1]),(300,.sl 90 1 (z.2.map fun e=>[dE e]))]⟩) (fun z=>t.length - z.1) (i,[]) ?_ ⟨hi,by simp,hR⟩ ?_
 .refine (aB.ky 10 300 90 1 rfl rfl).trans ?_;refine abW fw
 .rintro⟨k,acc⟩ ⟨hk,C6,hs⟩;dsimp only at hk C6 hs ⊢;have hc:=dJ k hk;rw[p5 hf hk]at hs;refine aR ?_
  cases Dw:f k with
  | err c p q=>
   rw[Dw]at hc hs;dsimp only at hs;subst hs;refine bf (Aq fw (Aq @cK.eq_1 (Aq @cK.eq_2 (Aq @afG (Aq @afH @afI))))) hc [0,1,2,3,10,11,12] [500,300] ?_;refine af fun K1 ax=>?_;refine rgq fw [0,1,2,3,10,11,12,20] [500,300] ?_;refine abP rfl ?_;refine rgq fw [8,9] [500] ?_;exact aN (Aq fw (Aq @bk.eq_1 (Aq @bG.eq_1 (Aq @jZ.eq_1 (Aq @jZ.eq_2 (Aq @ace.eq_1 (Aq @ace.eq_2 (Aq @afG (Aq @afH @afI)))))))))
  | ok x j=>
   rw[Dw]at hc hs;dsimp only at hs;obtain⟨g1,g2⟩:=hf k x j hk Dw;have cw:=Bo G t j (by omega) g2 s;rw[fk]at cw;obtain⟨t1,t2,t3⟩:=ku (c:=s) g2;obtain⟨tx,cx,hx⟩:=adE x;have qf:=(Aq fw (Aq @cK.eq_1 (Aq @cK.eq_2 (Aq @ace.eq_1 (Aq @ace.eq_2 @hx)))));refine adu hc [0,1,2,3,10,11,12] [500,300] ?_;refine af fun K1 ax=>?_;refine rgq fw [0,1,2,3,10,11,12,20] [500,300] ?_;refine abN rfl ?_;refine abO (ax _ ?_);refine rg [0,1,2,3,10] [500,300] (cJ rfl) fun K' ae=>?_;(repeat (refine sxn fun K2 aa=>?_;simp[ab,bk,bG,dS,sh];(repeat (refine⟨by omega,?_⟩));refine aa _ ?_;clear aa K2));refine sxz (ae _ (AW.st (by simp[ab,bk,bG,dS,sh];rfl) ?_));clear ae K'
   cases sG:cQ t s j with
   | mk b k2=>
   rw[sG]at hs cw t1 t2 t3;dsimp only at hs cw t1 t2 t3
   cases b with
   | true=>
    rw[if_pos rfl]at hs;have au:=t3 rfl;refine bf fw cw [0,1,2,3,10,29] [500,300] ?_;refine abN rfl ?_;refine abO ?_;refine aS.mk (k2,acc ++ [x]) ⟨t2,by simp;omega,hs⟩ (by dsimp only;omega) ?_;refine abW (Aq fw @hx)
   | false=>
    rw[if_neg (by simp)]at hs;subst hs;refine bf fw cw [0,1,2,3,10,29] [500,300] ?_;refine abP rfl ?_;refine AW.imp (aB.freeze 300 (by decide)) ?_;refine AW.st (by simp[ab,bk,bG,dS];rfl) ?_;refine rgq fw [8,9] [500] ?_;exact aN (Aq fw (Aq @bk.eq_1 (Aq @bG.eq_1 (Aq @jZ.eq_1 (Aq @jZ.eq_2 (Aq @tO.eq_1 (Aq @ace.eq_1 (Aq @ace.eq_2 @hx))))))))
theorem Nu (G:aq) (t:List UInt8) (ht:t.length<=2000) (d:Nat) (adK:∀ i,i<=t.length->MC prog G [500] 197 [.ref 500 0 0,.d (ab d)] (ak (bk t i)) (.d (cK (ab7 t d i))) (ak (bk t (ace (ab7 t d i))))) (i:Nat) (hi:i<=t.length) :
  MC prog G [500] 149 [.ref 500 0 0,.d (ab d)] (ak (bk t i)) (.d (cK (jG t (ab7 t d) i))) (ak (bk t (ace (jG t (ab7 t d) i)))):=by
 have nN:=L6 G t ht 197 38 38 rfl d (ab7 t d) (aeg t d) adK i hi;have hR:jG t (ab7 t d) i=(il t 38 (ab7 t d) i []).map o8:=rfl;rw[hR];have hq:∀ {c:Int} {p q:Nat},il t 38 (ab7 t d) i [] = .err c p q->q=0:=fun h=>FR _ _ _ h
 cases hs:il t 38 (ab7 t d) i [] with
 | err c p q=>
  obtain rfl:=hq hs;rw[hs]at nN;refine MC.abS (al _) func149 rfl rfl (rs:=[.tmp 4,.tmp 5]) results149 (by simp[ntmps149]) rfl fun X=>?_;simp only[ntmps149];have fw:=(Aq @afg (Aq @bk.eq_1 (Aq @bG.eq_1 @afi)));refine rgq fw [0,1] [500] ?_;refine bf (Aq fw (Aq @jZ.eq_1 (Aq @jZ.eq_2 (Aq @afG (Aq @afH @afI))))) nN [6,7] [500] ?_;refine af fun K1 ax=>?_;refine rgq fw [6,7,17] [500] ?_;refine abP rfl ?_;refine rgq fw [4,5] [500] ?_;refine ab1 ?_;simp[D.le,D.le.go,aC,ab,bk,bG,dS,bk,bG,cK,ace,bd,Rs.map,dQ]
 | ok l p=>
  rw[hs]at nN;by_cases hl:l.length=1
  .obtain⟨x,rfl⟩:=acX.1 hl;obtain⟨tx,cx,hx⟩:=adE x;refine MC.abS (al _) func149 rfl rfl (rs:=[.tmp 4,.tmp 5]) results149 (by simp[ntmps149]) rfl fun X=>?_;simp only[ntmps149];have fw:=(Aq @afg (Aq @bk.eq_1 (Aq @bG.eq_1 @afi)));refine rgq fw [0,1] [500] ?_;have qf:=(Aq fw (Aq @jZ.eq_1 (Aq @jZ.eq_2 (Aq @tO.eq_1 @hx))));refine adu nN [6,7] [500] ?_;refine af fun K1 ax=>?_;refine rgq fw [6,7,17] [500] ?_;refine abN rfl ?_;refine abO (ax _ ?_);refine af fun K2 aa=>?_;refine rgq fw [6,21] [500] ?_;refine abP rfl ?_;refine rgq fw [4,5] [500] ?_;refine ab1 ?_;simp[D.le,D.le.go,aC,ab,bk,bG,dS,bk,bG,cK,ace,Rs.map,o8,hx,D.le_refl]
  .have eF:¬ (l.length:Int)=1:=by omega
   have r9:=Cf hl;refine MC.abS (al _) func149 rfl rfl (rs:=[.tmp 4,.tmp 5]) results149 (by simp[ntmps149]) rfl fun X=>?_;simp only[ntmps149];have fw:=(Aq @afg (Aq @bk.eq_1 (Aq @bG.eq_1 @afi)));refine rgq fw [0,1] [500] ?_;refine bf (Aq fw (Aq @jZ.eq_1 (Aq @jZ.eq_2 @tO.eq_1))) nN [6,7] [500] ?_;refine af fun K1 ax=>?_;refine rgq fw [6,7,17] [500] ?_;refine abN rfl ?_;refine abO (ax _ ?_);refine af fun K2 aa=>?_;have qf:=(Aq fw (Aq @hl @eF));refine abQ [6,21] [500] ?_;refine abN rfl ?_;refine abO (aa _ ?_);refine rgq fw [4,5] [500] ?_;refine ab1 ?_;simp[D.le,D.le.go,aC,ab,bk,bG,dS,bk,bG,cK,ace,Rs.map,r9,dE,pb,D.le_refl,D.abY]
theorem KO (G:aq) (t:List UInt8) (ht:t.length<=2000) (d:Nat) (adK:∀ i,i<=t.length->MC prog G [500] 197 [.ref 500 0 0,.d (ab d)] (ak (bk t i)) (.d (cK (ab7 t d i))) (ak (bk t (ace (ab7 t d i))))) (i:Nat) (hi:i<=t.length) :
  MC prog G [500] 96 [.ref 500 0 0,.d (ab d)] (ak (bk t i)) (.d (cK (ij t (ab7 t d) i))) (ak (bk t (ace (ij t (ab7 t d) i)))):=by
 have nN:=L6 G t ht 149 124 124 rfl d (jG t (ab7 t d)) (vO (aeg t d)) (Nu G t ht d adK) i hi;have hR:ij t (ab7 t d) i=(il t 124 (jG t (ab7 t d)) i []).map o9:=rfl;rw[hR];have hq:∀ {c:Int} {p q:Nat},il t 124 (jG t (ab7 t d)) i [] = .err c p q->q=0:=fun h=>FR _ _ _ h
 cases hs:il t 124 (jG t (ab7 t d)) i [] with
 | err c p q=>
  obtain rfl:=hq hs;rw[hs]at nN;refine MC.abS (al _) func96 rfl rfl (rs:=[.tmp 4,.tmp 5]) results96 (by simp[ntmps96]) rfl fun X=>?_;simp only[ntmps96];have fw:=(Aq @afg (Aq @bk.eq_1 (Aq @bG.eq_1 @afi)));refine rgq fw [0,1] [500] ?_;refine bf (Aq fw (Aq @jZ.eq_1 (Aq @jZ.eq_2 (Aq @afG (Aq @afH @afI))))) nN [6,7] [500] ?_;refine af fun K1 ax=>?_;refine rgq fw [6,7,17] [500] ?_;refine abP rfl ?_;refine rgq fw [4,5] [500] ?_;refine ab1 ?_;simp[D.le,D.le.go,aC,ab,bk,bG,dS,bk,bG,cK,ace,bd,Rs.map,dQ]
 | ok l p=>
  rw[hs]at nN;by_cases hl:l.length=1
  .obtain⟨x,rfl⟩:=acX.1 hl;obtain⟨tx,cx,hx⟩:=adE x;refine MC.abS (al _) func96 rfl rfl (rs:=[.tmp 4,.tmp 5]) results96 (by simp[ntmps96]) rfl fun X=>?_;simp only[ntmps96];have fw:=(Aq @afg (Aq @bk.eq_1 (Aq @bG.eq_1 @afi)));refine rgq fw [0,1] [500] ?_;have qf:=(Aq fw (Aq @jZ.eq_1 (Aq @jZ.eq_2 (Aq @tO.eq_1 @hx))));refine adu nN [6,7] [500] ?_;refine af fun K1 ax=>?_;refine rgq fw [6,7,17] [500] ?_;refine abN rfl ?_;refine abO (ax _ ?_);refine af fun K2 aa=>?_;refine rgq fw [6,21] [500] ?_;refine abP rfl ?_;refine rgq fw [4,5] [500] ?_;refine ab1 ?_;simp[D.le,D.le.go,aC,ab,bk,bG,dS,bk,bG,cK,ace,Rs.map,o9,hx,D.le_refl]
  .have eF:¬ (l.length:Int)=1:=by omega
   have r9:=Cg hl;refine MC.abS (al _) func96 rfl rfl (rs:=[.tmp 4,.tmp 5]) results96 (by simp[ntmps96]) rfl fun X=>?_;simp only[ntmps96];have fw:=(Aq @afg (Aq @bk.eq_1 (Aq @bG.eq_1 @afi)));refine rgq fw [0,1] [500] ?_;refine bf (Aq fw (Aq @jZ.eq_1 (Aq @jZ.eq_2 @tO.eq_1))) nN [6,7] [500] ?_;refine af fun K1 ax=>?_;refine rgq fw [6,7,17] [500] ?_;refine abN rfl ?_;refine abO (ax _ ?_);refine af fun K2 aa=>?_;have qf:=(Aq fw (Aq @hl @eF));refine abQ [6,21] [500] ?_;refine abN rfl ?_;refine abO (aa _ ?_);refine rgq fw [4,5] [500] ?_;refine ab1 ?_;simp[D.le,D.le.go,aC,ab,bk,bG,dS,bk,bG,cK,ace,Rs.map,r9,dE,pb,D.le_refl,D.abY]
end Go.Proofs.YtdigkhaofjmgkaaGreatDoor
namespace Go.Proofs.YtdigkhaofjmgkaaGreatDoor
def afX {α:Type} (sz:α->Nat) (t:List UInt8) (f:Nat->Rs α):Prop:=∀ i x j,i<=t.length->f i = .ok x j->sz x<=5 * (j - i)
def Has (t:List UInt8) (p:Nat) (w:List UInt8):Prop:=∀ k,k < w.length->t[p+k]? = w[k]?
theorem Has.cons {t:List UInt8} {p:Nat} {c:UInt8} {w:List UInt8} (h:Has t p (c :: w)):t[p]? = some c/\Has t (p+1) w:=by
 refine⟨by simpa using h 0 (by simp),fun k hk=>?_⟩;have:=h (k+1) (by simp;omega);rw[show p+1+k=p+(k+1) by omega,this];rfl
theorem Has.app {t:List UInt8} {p:Nat} {u v:List UInt8} (h:Has t p (u ++ v)):Has t p u/\Has t (p+u.length) v:=by
 constructor
 .intro k hk;rw[h k (by simp;omega),adB hk]
 .intro k hk;rw[show p+u.length+k=p+(u.length+k) by omega,h (u.length+k) (by simp;omega),List.getElem?_append_right (by omega)];congr 1;omega
theorem Has.top {t:List UInt8} {p:Nat} {w:List UInt8} (h:Has t p w) (hp:p<=t.length):p+w.length<=t.length:=by
 cases w with
 | nil=>simpa using hp
 | cons c w=>
  have h1:=h w.length (by simp)
  have h2:(c :: w)[w.length]?≠none:=by simp
  rw[<- h1]at h2
  have h3:p+w.length < t.length:=by
   apply acj;intro hn;exact h2 (adh (by omega))
  simp only[acv];omega
theorem U7 {s:List UInt8} (h:gd s=true):s≠[]/\s.length<=8/\(∀ c∈s,jc c=false)/\∀ c,s[0]? = some c->jc c=false/\c≠48/\c≠49/\97<=c.toNat:=by
 unfold gd at h;simp only[abI,decide_eq_true_eq,Mz]at h;obtain⟨h1,h2,h3,h4,h5,-⟩:=h
 have hs:∀ c:UInt8,lW.contains c=true->jc c=false:=by
  have h:∀ n:Fin 256,lW.contains (UInt8.ofNat n)=true->jc (UInt8.ofNat n)=false:=by decide +kernel
  intro c;have:=h ⟨c.toNat,c.toNat_lt⟩;simpa using this
 refine⟨h1,h2,fun c hc=>hs c (h5 c hc),fun c hc=>?_⟩;have hm:c∈s:=adG hc
 have hg:s.getD 0 0=c:=by rw[abJ,hc];rfl
 rw[hg]at h3;refine⟨hs c (h5 c hm),?_,?_,h3⟩<;>rintro rfl<;>revert h3<;>decide
mutual
def fo:Ex->Prop
 | .ff _=>True
 | .bit s=>gd s=true
 | .adb s=>gd s=true
 | .fT s=>gd s=true
 | .not e=>fo e
 | .and l=>2<=l.length/\tD l
 | .or l=>2<=l.length/\tD l
def tD:List Ex->Prop
 | []=>True
 | e :: l=>fo e/\tD l
end
theorem rK:∀ l:List Ex,tD l↔∀ e∈l,fo e
 | []=>by simp[tD]
 | e :: l=>by simp[tD,rK l]
mutual
def dpE:Ex->Nat
 | .ff _=>1
 | .bit _=>1
 | .adb _=>1
 | .fT _=>1
 | .not e=>dpE e+1
 | .and l=>qq l+1
 | .or l=>qt l+1
def qq:List Ex->Nat
 | []=>0
 | e :: l=>max (dpE e) (qq l)
def qt:List Ex->Nat
 | []=>0
 | e :: l=>max (match e with | .and m=>qq m | e=>dpE e) (qt l)
end
def qs:Ex->Nat
 | .and l=>qq l
 | .or l=>qt l
 | e=>dpE e
def dpJ:Ex->Nat
 | .and l=>qq l
 | e=>dpE e
theorem Pd (e:Ex) (l:List Ex):qt (e :: l)=max (dpJ e) (qt l):=by
 cases e<;>simp[qt,dpJ]
theorem Pc (e:Ex):dpJ e<=dpE e:=by cases e<;>simp[dpJ,dpE]
theorem Pb (e:Ex):qs e<=dpJ e:=by
 cases e<;>simp[qs,dpJ,dpE]
theorem Pa (e:Ex):dpE e<=qs e+1:=by
 cases e<;>simp[qs,dpE]
theorem FN {t:List UInt8} {s:UInt8} {f:Nat->Rs Ex} (P:Ex->Prop) (hf:∀ i x j,f i = .ok x j->P x):∀ (n i:Nat) (acc l:List Ex) (j:Nat),fy t s f n i acc = .ok l j->(∀ x∈acc,P x)->∀ x∈l,P x
 | 0,i,acc,l,j,h,_=>by simp[fy]at h
 | n+1,i,acc,l,j,h,ha=>by
  rw[fy]at h
  cases bA:f i with
  | err c p q=>rw[bA]at h;cases h
  | ok x k=>
   rw[bA]at h;dsimp only at h
   have hap:∀ y∈acc ++ [x],P y:=fun y hy=>by
    rcases ab4.1 hy with hy | hy
    .exact ha y hy
    .simp at hy;subst hy;exact hf _ _ _ bA
   split at h
   .exact FN P hf n _ _ l j h hap
   .simp only[Rs.ok.injEq]at h;obtain⟨rfl,-⟩:=h;exact hap
theorem FQ {t:List UInt8} {s:UInt8} {f:Nat->Rs Ex}:∀ (n i:Nat) (acc l:List Ex) (j:Nat),fy t s f n i acc = .ok l j->acc.length < l.length
 | 0,i,acc,l,j,h=>by simp[fy]at h
 | n+1,i,acc,l,j,h=>by
  rw[fy]at h;split at h
  .cases h
  .split at h
   .have:=FQ n _ _ l j h;simp only[acC,aeL]at this;omega
   .simp only[Rs.ok.injEq]at h;obtain⟨rfl,-⟩:=h;simp
theorem Hp {d:Nat}:∀ {l:List Ex},(∀ x∈l,dpE x<=d)->qq l<=d
 | [],_=>by simp[qq]
 | e :: l,h=>by
  have h1:=h e (by simp);have h2:=Hp (l:=l) fun x hx=>h x (by simp[hx]);rw[qq];omega
theorem Hq {d:Nat}:∀ {l:List Ex},(∀ x∈l,dpJ x<=d)->qt l<=d
 | [],_=>by simp[qt]
 | e :: l,h=>by
  have h1:=h e (by simp);have h2:=Hq (l:=l) fun x hx=>h x (by simp[hx]);rw[Pd];omega
theorem Nv {t:List UInt8} {d:Nat} (h:∀ i x j,ab7 t d i = .ok x j->fo x/\dpE x<=d) {i j:Nat} {x:Ex} (he:jG t (ab7 t d) i = .ok x j):fo x/\dpJ x<=d:=by
 obtain⟨l,h1,rfl⟩:=kV he;have ha:=FN (fun x=>fo x/\dpE x<=d) h _ _ _ _ _ h1 (by simp);have hp:=FQ _ _ _ _ _ h1;by_cases hl:l.length=1
 .obtain⟨x,rfl⟩:=acX.1 hl;have:=ha x (by simp);exact⟨this.1,aew (Pc x) this.2⟩
 .rw[Cf hl];exact⟨⟨by simp at hp;omega,(rK _).2 fun x hx=>(ha x hx).1⟩,Hp fun x hx=>(ha x hx).2⟩
theorem KP {t:List UInt8} {d:Nat} (h:∀ i x j,ab7 t d i = .ok x j->fo x/\dpE x<=d) {i j:Nat} {x:Ex} (he:ij t (ab7 t d) i = .ok x j):fo x/\qs x<=d:=by
 obtain⟨l,h1,rfl⟩:=kV he;have ha:=FN (fun x=>fo x/\dpJ x<=d) (fun i x j h'=>Nv h h') _ _ _ _ _ h1 (by simp);have hp:=FQ _ _ _ _ _ h1;by_cases hl:l.length=1
 .obtain⟨x,rfl⟩:=acX.1 hl;have:=ha x (by simp);exact⟨this.1,aew (Pb x) this.2⟩
 .rw[Cg hl];exact⟨⟨by simp at hp;omega,(rK _).2 fun x hx=>(ha x hx).1⟩,Hq fun x hx=>(ha x hx).2⟩
theorem Gm {t:List UInt8} {q i j:Nat} {s:List UInt8} (h:ea t q i = .ok s j):gd s=true:=by
 unfold ea at h;split at h
 .cases h
 .split at h
  .cases h
  .rename_i hn;simp only[Rs.ok.injEq]at h;obtain⟨rfl,-⟩:=h;simpa using hn
theorem KL (t:List UInt8):∀ d i x j,ab7 t d i = .ok x j->fo x/\dpE x<=d
 | 0,i,x,j,h=>by simp[ab7]at h
 | d+1,i,x,j,h=>by
  have ih:=KL t d;rw[ab7]at h;split at h
  .cases he:ab7 t d (aZ t i+1) with
   | err c p q=>rw[he]at h;cases h
   | ok y k=>
    rw[he]at h;simp only[Rs.ok.injEq]at h;obtain⟨rfl,rfl⟩:=h;have:=ih _ _ _ he;exact⟨this.1,by simp only[dpE];omega⟩
  split at h
  .cases he:ij t (ab7 t d) (aZ t i+1) with
   | err c p q=>rw[he]at h;cases h
   | ok y k=>
    rw[he]at h;dsimp only at h;split at h
    .simp only[Rs.ok.injEq]at h;obtain⟨rfl,rfl⟩:=h;have:=KP ih he;have h3:=Pa y;exact⟨this.1,by omega⟩
    .cases h
  split at h
  .simp only[Rs.ok.injEq]at h;obtain⟨rfl,rfl⟩:=h;exact⟨trivial,by simp only[dpE];omega⟩
  split at h
  .simp only[Rs.ok.injEq]at h;obtain⟨rfl,rfl⟩:=h;exact⟨trivial,by simp only[dpE];omega⟩
  split at h
  .obtain⟨s,h3,rfl⟩:=kV h;exact⟨Gm h3,by simp only[dpE];omega⟩
  split at h
  .obtain⟨s,h3,rfl⟩:=kV h;exact⟨Gm h3,by simp only[dpE];omega⟩
  .obtain⟨s,h3,rfl⟩:=kV h;exact⟨Gm h3,by simp only[dpE];omega⟩
theorem Fj {t:List UInt8} {x:Ex} (h:(fF t).1=some x):fo x/\qs x<=20:=by
 unfold fF at h;split at h
 .cases h
 .split at h
  .cases h
  .rename_i y i he;split at h
   .cases h
   .obtain rfl:=AI h;exact KP (KL t 20) he
mutual
def c8 (is bH:List UInt8->Bool):Ex->Bool
 | .ff b=>b
 | .bit s=>is s
 | .adb s=>is s && !bH s
 | .fT s=>!is s && bH s
 | .not e=>!c8 is bH e
 | .and l=>tU is bH l
 | .or l=>tV is bH l
def tU (is bH:List UInt8->Bool):List Ex->Bool
 | []=>true
 | e :: l=>c8 is bH e && tU is bH l
def tV (is bH:List UInt8->Bool):List Ex->Bool
 | []=>false
 | e :: l=>c8 is bH e || tV is bH l
end
mutual
def bE:Ex->Nat
 | .ff _=>4
 | .bit s=>s.length+3
 | .adb s=>s.length+4
 | .fT s=>s.length+4
 | .not e=>bE e+1
 | .and l=>eY l+5
 | .or l=>eY l+5
def eY:List Ex->Nat
 | []=>0
 | e :: l=>bE e+eY l
end
theorem vR:∀ (a b:List Ex),eY (a ++ b)=eY a+eY b
 | [],b=>by simp[eY]
 | e :: a,b=>by simp only[aeo,eY,vR a b];omega
theorem yH:∀ e:Ex,3<=bE e
 | .not e=>by have:=yH e;simp only[bE];omega
 | .ff _=>by simp[bE]
 | .bit _=>by simp[bE]
 | .adb _=>by simp only[bE];omega
 | .fT _=>by simp only[bE];omega
 | .and _=>by simp only[bE];omega
 | .or _=>by simp only[bE];omega
theorem agd {x:Ex}:∀ {l:List Ex},x∈l->bE x<=eY l
 | y :: l,h=>by
  rw[eY]
  rcases abV.1 h with rfl | h
  .omega
  .have:=agd h;omega
theorem qi:∀ l:List Ex,3 * l.length<=eY l
 | []=>by simp
 | e :: l=>by have:=qi l;have:=yH e;simp only[acv,eY];omega
theorem FP {t:List UInt8} {s:UInt8} {f:Nat->Rs Ex} (hg:iu t f) (hf:afX bE t f):∀ (n i:Nat) (acc l:List Ex) (j:Nat),i<=t.length->fy t s f n i acc = .ok l j->eY l+5 * (l.length - 1)<=eY acc+5 * acc.length+5 * (j - i)/\acc.length < l.length
 | 0,i,acc,l,j,_,h=>by simp[fy]at h
 | n+1,i,acc,l,j,hi,h=>by
  rw[fy]at h
  cases bA:f i with
  | err c p q=>rw[bA]at h;cases h
  | ok x k=>
   rw[bA]at h;obtain⟨h1,h2⟩:=hg i x k hi bA;have h5:=hf i x k hi bA;obtain⟨t1,t2,t3⟩:=ku (c:=s) h2;dsimp only at h;split at h
   .rename_i ht;have h4:=t3 ht;have ih:=FP hg hf n _ _ l j t2 h;have h6:=Bh hg n _ _ l j t2 h;simp only[vR,eY,acC,aeL]at ih;omega
   .simp only[Rs.ok.injEq]at h;obtain⟨rfl,rfl⟩:=h;simp only[vR,eY,acC,aeL];omega
theorem OE {l:List Ex} {m:Nat} (h:eY l+5 * (l.length - 1)<=m) (h0:0 < l.length):bE (o8 l)<=m:=by
 by_cases h1:l.length=1
 .obtain⟨x,rfl⟩:=acX.1 h1;simp only[eY,aeL]at h;show bE x<=m;omega
 .rw[Cf h1,bE];omega
theorem OH {l:List Ex} {m:Nat} (h:eY l+5 * (l.length - 1)<=m) (h0:0 < l.length):bE (o9 l)<=m:=by
 by_cases h1:l.length=1
 .obtain⟨x,rfl⟩:=acX.1 h1;simp only[eY,aeL]at h;show bE x<=m;omega
 .rw[Cg h1,bE];omega
theorem Nt {t:List UInt8} {one:Nat->Rs Ex} (hg:iu t one) (h:afX bE t one):afX bE t (jG t one):=fun i x j hi he=>by
 obtain⟨l,h1,rfl⟩:=kV he;have:=FP hg h _ _ _ _ _ hi h1;simp only[eY,aeA]at this;exact OE (by omega) (by omega)
theorem KN {t:List UInt8} {one:Nat->Rs Ex} (hg:iu t one) (h:afX bE t one):afX bE t (ij t one):=fun i x j hi he=>by
 obtain⟨l,h1,rfl⟩:=kV he;have:=FP (vO hg) (Nt hg h) _ _ _ _ _ hi h1;simp only[eY,aeA]at this;exact OH (by omega) (by omega)
theorem Gh (t:List UInt8) (q i j:Nat) (s:List UInt8) (hi:i<=t.length) (h:ea t q i = .ok s j):s.length<=j - i/\1<=j - i:=by
 have hg:=Bx t q i s j hi h;have h1:=yc t i;unfold ea at h;split at h
 .cases h
 .split at h
  .cases h
  .simp only[Rs.ok.injEq]at h;obtain⟨rfl,rfl⟩:=h;have h4:=Bs t (aZ t i);unfold fS;rw[acz];omega
theorem KK (t:List UInt8):∀ d,afX bE t (ab7 t d)
 | 0=>fun i x j _ h=>by simp[ab7]at h
 | d+1=>fun i x j hi h=>by
  have ih:=KK t d;have hg:=aeg t d;have h1:=yc t i;have h2:=im hi;have hb:∀ {c:UInt8},t[aZ t i]? = some c->aZ t i < t.length:=fun hc=>(OF.1 hc).1;rw[ab7]at h;split at h
  .rename_i hc;have:=hb hc
   cases he:ab7 t d (aZ t i+1) with
   | err c p q=>rw[he]at h;cases h
   | ok y k=>
    rw[he]at h;simp only[Rs.ok.injEq]at h;obtain⟨rfl,rfl⟩:=h;have h3:=ih _ y k (by omega) he;have h4:=hg _ y k (by omega) he;simp only[bE];omega
  split at h
  .rename_i _ hc;have:=hb hc
   cases he:ij t (ab7 t d) (aZ t i+1) with
   | err c p q=>rw[he]at h;cases h
   | ok y k=>
    rw[he]at h;dsimp only at h;have h3:=KN hg ih _ y k (by omega) he;have h4:=afl hg _ y k (by omega) he;obtain⟨t1,t2,t3⟩:=ku (c:=41) h4.2;split at h
    .simp only[Rs.ok.injEq]at h;obtain⟨rfl,rfl⟩:=h;omega
    .cases h
  split at h
  .rename_i _ _ hc;have:=hb hc;simp only[Rs.ok.injEq]at h;obtain⟨rfl,rfl⟩:=h;simp only[bE];omega
  split at h
  .rename_i _ _ _ hc;have:=hb hc;simp only[Rs.ok.injEq]at h;obtain⟨rfl,rfl⟩:=h;simp only[bE];omega
  split at h
  .rename_i _ _ _ _ hc;have:=hb hc;obtain⟨s,h3,rfl⟩:=kV h;have h4:=Gh t 1 _ j s (by omega) h3;simp only[bE];omega
  split at h
  .rename_i _ _ _ _ _ hc;have:=hb hc;obtain⟨s,h3,rfl⟩:=kV h;have h4:=Gh t 2 _ j s (by omega) h3;simp only[bE];omega
  .obtain⟨s,h3,rfl⟩:=kV h;have h4:=Gh t 3 _ j s (by omega) h3;simp only[bE];omega
theorem KW {t:List UInt8} {x:Ex} (h:(fF t).1=some x):bE x<=10000:=by
 unfold fF at h;split at h
 .cases h
 .rename_i hl;split at h
  .cases h
  .rename_i y i he;split at h
   .cases h
   .obtain rfl:=AI h;have h1:=KN (aeg t 20) (KK t 20) 0 y i (ae2 _) he;have h2:=afl (aeg t 20) 0 y i (ae2 _) he;omega
open Go.Av
theorem ahq {t:List UInt8} {c:UInt8} {i j:Nat} (hj:aZ t i=j):cQ t c i=if t[j]? = some c then (true,j+1) else (false,j):=by
 unfold cQ;rw[hj]
theorem Gk {t:List UInt8} {q i:Nat} {c:Int} {p q':Nat} (h:ea t q i = .err c p q'):q'=q:=by
 unfold ea at h;split at h
 .simp only[Rs.err.injEq]at h;omega
 .split at h
  .simp only[Rs.err.injEq]at h;omega
  .cases h
theorem VA (G:aq) (t:List UInt8) (ht:t.length<=2000):∀ (d:Nat),d<=20->∀ i,i<=t.length->MC prog G [500] 197 [.ref 500 0 0,.d (ab d)] (ak (bk t i)) (.d (cK (ab7 t d i))) (ak (bk t (ace (ab7 t d i)))):=by
 intro d
 induction d with
 | zero=>
  intro _ i hi;have hfl:=wb G t i (by omega) hi 4;refine MC.abS (al _) func197 rfl rfl (rs:=[.tmp 4,.tmp 5]) results197 (by simp[ntmps197]) rfl fun X=>?_;simp only[ntmps197];have fw:=(Aq @afg (Aq @bk.eq_1 (Aq @bG.eq_1 @afi)));refine rgq fw [0,1] [500] ?_;refine af fun K1 ax=>?_;refine rgq fw [0,1,17] [500] ?_;refine abP rfl ?_;refine bf (Aq fw (Aq @afG (Aq @afH @afI))) hfl [4,5] [500] ?_;exact aN (Aq fw (Aq @bk.eq_1 (Aq @bG.eq_1 (Aq @cK.eq_1 (Aq @cK.eq_2 (Aq @ab7.eq_1 (Aq @ab7.eq_2 (Aq @ace.eq_1 (Aq @ace.eq_2 (Aq @afG (Aq @afH (Aq @afI @dQ.eq_1))))))))))))
 | succ d ih=>
  intro hd i hi;have ih:=ih (by omega);have ow:=KO G t ht d ih;have aib:=im hi;have qJ:=afR hi
  have gY:¬ (d:Int)+1=0:=by omega
  have sF:t.length < 2^60:=by omega
  have D9:∀ c,MC prog G [500] 196 [.ref 500 0 0,.d (.v (.int .u8 c.toNat))] (ak (bk t i)) (.d (.v (.bool (cQ t c i).1))) (ak (bk t (cQ t c i).2)):=fun c=>Bo G t i sF hi c;rw[ab7];generalize hj:aZ t i=j at aib qJ ⊢;have l5:∀ c,MC prog G [500] 196 [.ref 500 0 0,.d (.v (.int .u8 c.toNat))] (ak (bk t j)) (.d (.v (.bool (cQ t c j).1))) (ak (bk t (cQ t c j).2)):=fun c=>Bo G t j sF aib c;have BZ:=fun c=>ahq (t:=t) (c:=c) hj;have yG:=fun c=>ahq (t:=t) (c:=c) qJ;simp only[BZ]at D9;simp only[yG]at l5;have au:∀ {c:UInt8},t[j]? = some c->j+1<=t.length:=fun h=>(OF.1 h).1;have k33:=D9 33;have ma:=l5 40;have oD:=l5 48;have pZ:=l5 49;have k94:=l5 94;have uS:=l5 126;clear D9 BZ yG hj;by_cases c33:t[j]? = some 33
  .rw[if_pos c33]at k33 ⊢;have hc:=ih (j+1) (au c33)
   cases hr:ab7 t d (j+1) with
   | err c p q=>
    rw[hr]at hc;refine MC.abS (al _) func197 rfl rfl (rs:=[.tmp 4,.tmp 5]) results197 (by simp[ntmps197]) rfl fun X=>?_;simp only[ntmps197];have fw:=(Aq @afg (Aq @bk.eq_1 (Aq @bG.eq_1 @afi)));refine rgq fw [0,1] [500] ?_;refine af fun K1 ax=>?_;have qf:=(Aq fw @gY);refine abQ [0,1,17] [500] ?_;refine abN rfl ?_;refine abO (ax _ ?_);refine af fun K2 aa=>?_;refine aR ?_;refine bf fw k33 [0,1,20] [500] ?_;refine abP rfl ?_;refine bf (Aq fw (Aq @cK.eq_1 (Aq @cK.eq_2 (Aq @afG (Aq @afH @afI))))) hc [6,7] [500] ?_;refine af fun K3 aQ=>?_;refine rgq fw [6,7,31] [500] ?_;refine abP rfl ?_;refine rgq fw [4,5] [500] ?_;exact aN (Aq fw (Aq @bk.eq_1 (Aq @bG.eq_1 (Aq @cK.eq_1 (Aq @cK.eq_2 (Aq @ace.eq_1 (Aq @ace.eq_2 (Aq @afG (Aq @afH (Aq @afI @dQ.eq_1))))))))))
   | ok x k=>
    rw[hr]at hc;obtain⟨tx,cx,hx⟩:=adE x;refine MC.abS (al _) func197 rfl rfl (rs:=[.tmp 4,.tmp 5]) results197 (by simp[ntmps197]) rfl fun X=>?_;simp only[ntmps197];have fw:=(Aq @afg (Aq @bk.eq_1 (Aq @bG.eq_1 @afi)));refine rgq fw [0,1] [500] ?_;refine af fun K1 ax=>?_;have qf:=(Aq fw @gY);refine abQ [0,1,17] [500] ?_;refine abN rfl ?_;refine abO (ax _ ?_);refine af fun K2 aa=>?_;refine aR ?_;refine bf fw k33 [0,1,20] [500] ?_;refine abP rfl ?_;have qf:=(Aq fw (Aq @cK.eq_1 (Aq @cK.eq_2 @hx)));refine adu hc [6,7] [500] ?_;refine af fun K3 aQ=>?_;refine rgq fw [6,7,31] [500] ?_;refine abN rfl ?_;refine abO (aQ _ ?_);refine rgq fw [4,5] [500] ?_;refine ab1 ?_;simp[D.le,D.le.go,aC,ab,bk,bG,dS,bk,bG,cK,ace,dE,hx,D.le_refl]
  rw[if_neg c33]at k33 ⊢;by_cases c40:t[j]? = some 40
  .rw[if_pos c40]at ma ⊢;have hc:=ow (j+1) (au c40)
   cases hr:ij t (ab7 t d) (j+1) with
   | err c p q=>
    rw[hr]at hc;refine MC.abS (al _) func197 rfl rfl (rs:=[.tmp 4,.tmp 5]) results197 (by simp[ntmps197]) rfl fun X=>?_;simp only[ntmps197];have fw:=(Aq @afg (Aq @bk.eq_1 (Aq @bG.eq_1 @afi)));refine rgq fw [0,1] [500] ?_;refine af fun K1 ax=>?_;have qf:=(Aq fw @gY);refine abQ [0,1,17] [500] ?_;refine abN rfl ?_;refine abO (ax _ ?_);refine af fun K2 aa=>?_;refine aR ?_;refine bf fw k33 [0,1,20] [500] ?_;refine abN rfl ?_;refine bf fw ma [0,1,36] [500] ?_;refine abP rfl ?_;refine bf (Aq fw (Aq @cK.eq_1 (Aq @cK.eq_2 (Aq @afG (Aq @afH @afI))))) hc [0,8,9] [500] ?_;refine af fun K4 bK=>?_;refine rgq fw [0,8,9,47] [500] ?_;refine abP rfl ?_;refine rgq fw [4,5] [500] ?_;exact aN (Aq fw (Aq @bk.eq_1 (Aq @bG.eq_1 (Aq @cK.eq_1 (Aq @cK.eq_2 (Aq @ace.eq_1 (Aq @ace.eq_2 (Aq @afG (Aq @afH (Aq @afI @dQ.eq_1))))))))))
   | ok x k=>
    rw[hr]at hc;obtain⟨tx,cx,hx⟩:=adE x;have hkt:=(afl (aeg t d) (j+1) x k (au c40) hr).2;have Ae:=Bo G t k sF hkt 41;have D7:=ku (c:=41) hkt
    have CM:(cQ t 41 k).1=false->aZ t (cQ t 41 k).2=(cQ t 41 k).2:=fun h=>by
     unfold cQ at h ⊢;split at h
     .cases h
     .rw[if_neg ‹_›];exact afR hkt
    cases sG:cQ t 41 k with
    | mk b k2=>
    rw[sG]at Ae D7 CM;dsimp only at Ae D7 CM ⊢
    cases b with
    | true=>
     refine MC.abS (al _) func197 rfl rfl (rs:=[.tmp 4,.tmp 5]) results197 (by simp[ntmps197]) rfl fun X=>?_;simp only[ntmps197];have fw:=(Aq @afg (Aq @bk.eq_1 (Aq @bG.eq_1 @afi)));refine rgq fw [0,1] [500] ?_;refine af fun K1 ax=>?_;have qf:=(Aq fw @gY);refine abQ [0,1,17] [500] ?_;refine abN rfl ?_;refine abO (ax _ ?_);refine af fun K2 aa=>?_;refine aR ?_;refine bf fw k33 [0,1,20] [500] ?_;refine abN rfl ?_;refine bf fw ma [0,1,36] [500] ?_;refine abP rfl ?_;have qf:=(Aq fw (Aq @cK.eq_1 (Aq @cK.eq_2 (Aq @ace.eq_1 (Aq @ace.eq_2 @hx)))));refine adu hc [0,8,9] [500] ?_;refine af fun K4 bK=>?_;refine rgq fw [0,8,9,47] [500] ?_;refine abN rfl ?_;refine abO (bK _ ?_);refine af fun K5 bB=>?_;refine bf fw Ae [0,8,51] [500] ?_;refine abN rfl ?_;refine abO (bB _ ?_);refine rgq fw [4,5] [500] ?_;exact aN (Aq fw (Aq @bk.eq_1 (Aq @bG.eq_1 (Aq @cK.eq_1 (Aq @cK.eq_2 (Aq @ace.eq_1 (Aq @ace.eq_2 (Aq @hx @sG))))))))
    | false=>
     have hfl:=wb G t k2 sF D7.2.1 3;rw[CM rfl]at hfl;refine MC.abS (al _) func197 rfl rfl (rs:=[.tmp 4,.tmp 5]) results197 (by simp[ntmps197]) rfl fun X=>?_;simp only[ntmps197];have fw:=(Aq @afg (Aq @bk.eq_1 (Aq @bG.eq_1 @afi)));refine rgq fw [0,1] [500] ?_;refine af fun K1 ax=>?_;have qf:=(Aq fw @gY);refine abQ [0,1,17] [500] ?_;refine abN rfl ?_;refine abO (ax _ ?_);refine af fun K2 aa=>?_;refine aR ?_;refine bf fw k33 [0,1,20] [500] ?_;refine abN rfl ?_;refine bf fw ma [0,1,36] [500] ?_;refine abP rfl ?_;have qf:=(Aq fw (Aq @cK.eq_1 (Aq @cK.eq_2 (Aq @ace.eq_1 (Aq @ace.eq_2 @hx)))));refine adu hc [0,8,9] [500] ?_;refine af fun K4 bK=>?_;refine rgq fw [0,8,9,47] [500] ?_;refine abN rfl ?_;refine abO (bK _ ?_);refine af fun K5 bB=>?_;refine bf fw Ae [0,8,51] [500] ?_;refine abP rfl ?_;refine bf (Aq fw (Aq @afG (Aq @afH @afI))) hfl [4,5] [500] ?_;exact aN (Aq fw (Aq @bk.eq_1 (Aq @bG.eq_1 (Aq @cK.eq_1 (Aq @cK.eq_2 (Aq @ace.eq_1 (Aq @ace.eq_2 (Aq @afG (Aq @afH (Aq @afI (Aq @dQ.eq_1 @sG)))))))))))
  rw[if_neg c40]at ma ⊢;by_cases qj:t[j]? = some 48
  .rw[if_pos qj]at oD ⊢;refine MC.abS (al _) func197 rfl rfl (rs:=[.tmp 4,.tmp 5]) results197 (by simp[ntmps197]) rfl fun X=>?_;simp only[ntmps197];have fw:=(Aq @afg (Aq @bk.eq_1 (Aq @bG.eq_1 @afi)));refine rgq fw [0,1] [500] ?_;refine af fun K1 ax=>?_;have qf:=(Aq fw @gY);refine abQ [0,1,17] [500] ?_;refine abN rfl ?_;refine abO (ax _ ?_);refine af fun K2 aa=>?_;refine aR ?_;refine bf fw k33 [0,1,20] [500] ?_;refine abN rfl ?_;refine bf fw ma [0,1,36] [500] ?_;refine abN rfl ?_;refine bf fw oD [0,55] [500] ?_;refine abP rfl ?_;refine rgq fw [4,5] [500] ?_;refine ab1 ?_;simp[D.le,D.le.go,aC,ab,bk,bG,dS,bk,bG,cK,ace,dE]
  rw[if_neg qj]at oD ⊢;by_cases c49:t[j]? = some 49
  .rw[if_pos c49]at pZ ⊢;refine MC.abS (al _) func197 rfl rfl (rs:=[.tmp 4,.tmp 5]) results197 (by simp[ntmps197]) rfl fun X=>?_;simp only[ntmps197];have fw:=(Aq @afg (Aq @bk.eq_1 (Aq @bG.eq_1 @afi)));refine rgq fw [0,1] [500] ?_;refine af fun K1 ax=>?_;have qf:=(Aq fw @gY);refine abQ [0,1,17] [500] ?_;refine abN rfl ?_;refine abO (ax _ ?_);refine af fun K2 aa=>?_;refine aR ?_;refine bf fw k33 [0,1,20] [500] ?_;refine abN rfl ?_;refine bf fw ma [0,1,36] [500] ?_;refine abN rfl ?_;refine bf fw oD [0,55] [500] ?_;refine abN rfl ?_;refine bf fw pZ [0,59] [500] ?_;refine abP rfl ?_;refine rgq fw [4,5] [500] ?_;refine ab1 ?_;simp[D.le,D.le.go,aC,ab,bk,bG,dS,bk,bG,cK,ace,dE]
  rw[if_neg c49]at pZ ⊢;by_cases o6:t[j]? = some 94
  .rw[if_pos o6]at k94 ⊢;have hc:=Gl G t 1 (j+1) sF (au o6);have hq:∀ {c:Int} {p q':Nat},ea t 1 (j+1) = .err c p q'->q'=1:=fun h=>Gk h
   cases hr:ea t 1 (j+1) with
   | err c p q'=>
    obtain rfl:=hq hr;rw[hr]at hc;refine MC.abS (al _) func197 rfl rfl (rs:=[.tmp 4,.tmp 5]) results197 (by simp[ntmps197]) rfl fun X=>?_;simp only[ntmps197];have fw:=(Aq @afg (Aq @bk.eq_1 (Aq @bG.eq_1 @afi)));refine rgq fw [0,1] [500] ?_;refine af fun K1 ax=>?_;have qf:=(Aq fw @gY);refine abQ [0,1,17] [500] ?_;refine abN rfl ?_;refine abO (ax _ ?_);refine af fun K2 aa=>?_;refine aR ?_;refine bf fw k33 [0,1,20] [500] ?_;refine abN rfl ?_;refine bf fw ma [0,1,36] [500] ?_;refine abN rfl ?_;refine bf fw oD [0,55] [500] ?_;refine abN rfl ?_;refine bf fw pZ [0,59] [500] ?_;refine abN rfl ?_;refine bf fw k94 [0,63] [500] ?_;refine abP rfl ?_;refine bf (Aq fw (Aq @j0.eq_1 (Aq @j0.eq_2 (Aq @afG (Aq @afH @afI))))) hc [10,11] [500] ?_;refine rgq fw [4,5] [500] ?_;refine ab1 ?_;simp[D.le,D.le.go,aC,ab,bk,bG,dS,bk,bG,cK,ace,bd,dQ,Rs.map,br]
   | ok s p=>
    rw[hr]at hc;refine MC.abS (al _) func197 rfl rfl (rs:=[.tmp 4,.tmp 5]) results197 (by simp[ntmps197]) rfl fun X=>?_;simp only[ntmps197];have fw:=(Aq @afg (Aq @bk.eq_1 (Aq @bG.eq_1 @afi)));refine rgq fw [0,1] [500] ?_;refine af fun K1 ax=>?_;have qf:=(Aq fw @gY);refine abQ [0,1,17] [500] ?_;refine abN rfl ?_;refine abO (ax _ ?_);refine af fun K2 aa=>?_;refine aR ?_;refine bf fw k33 [0,1,20] [500] ?_;refine abN rfl ?_;refine bf fw ma [0,1,36] [500] ?_;refine abN rfl ?_;refine bf fw oD [0,55] [500] ?_;refine abN rfl ?_;refine bf fw pZ [0,59] [500] ?_;refine abN rfl ?_;refine bf fw k94 [0,63] [500] ?_;refine abP rfl ?_;refine bf (Aq fw (Aq @j0.eq_1 @j0.eq_2)) hc [10,11] [500] ?_;refine rgq fw [4,5] [500] ?_;refine ab1 ?_;simp[D.le,D.le.go,aC,ab,bk,bG,dS,bk,bG,cK,ace,Rs.map,dE]
  rw[if_neg o6]at k94 ⊢;by_cases o5:t[j]? = some 126
  .rw[if_pos o5]at uS ⊢;have hc:=Gl G t 2 (j+1) sF (au o5);have hq:∀ {c:Int} {p q':Nat},ea t 2 (j+1) = .err c p q'->q'=2:=fun h=>Gk h
   cases hr:ea t 2 (j+1) with
   | err c p q'=>
    obtain rfl:=hq hr;rw[hr]at hc;refine MC.abS (al _) func197 rfl rfl (rs:=[.tmp 4,.tmp 5]) results197 (by simp[ntmps197]) rfl fun X=>?_;simp only[ntmps197];have fw:=(Aq @afg (Aq @bk.eq_1 (Aq @bG.eq_1 @afi)));refine rgq fw [0,1] [500] ?_;refine af fun K1 ax=>?_;have qf:=(Aq fw @gY);refine abQ [0,1,17] [500] ?_;refine abN rfl ?_;refine abO (ax _ ?_);refine af fun K2 aa=>?_;refine aR ?_;refine bf fw k33 [0,1,20] [500] ?_;refine abN rfl ?_;refine bf fw ma [0,1,36] [500] ?_;refine abN rfl ?_;refine bf fw oD [0,55] [500] ?_;refine abN rfl ?_;refine bf fw pZ [0,59] [500] ?_;refine abN rfl ?_;refine bf fw k94 [0,63] [500] ?_;refine abN rfl ?_;refine bf fw uS [0,74] [500] ?_;refine abP rfl ?_;refine bf (Aq fw (Aq @j0.eq_1 (Aq @j0.eq_2 (Aq @afG (Aq @afH @afI))))) hc [12,13] [500] ?_;refine rgq fw [4,5] [500] ?_;refine ab1 ?_;simp[D.le,D.le.go,aC,ab,bk,bG,dS,bk,bG,cK,ace,bd,dQ,Rs.map,br]
   | ok s p=>
    rw[hr]at hc;refine MC.abS (al _) func197 rfl rfl (rs:=[.tmp 4,.tmp 5]) results197 (by simp[ntmps197]) rfl fun X=>?_;simp only[ntmps197];have fw:=(Aq @afg (Aq @bk.eq_1 (Aq @bG.eq_1 @afi)));refine rgq fw [0,1] [500] ?_;refine af fun K1 ax=>?_;have qf:=(Aq fw @gY);refine abQ [0,1,17] [500] ?_;refine abN rfl ?_;refine abO (ax _ ?_);refine af fun K2 aa=>?_;refine aR ?_;refine bf fw k33 [0,1,20] [500] ?_;refine abN rfl ?_;refine bf fw ma [0,1,36] [500] ?_;refine abN rfl ?_;refine bf fw oD [0,55] [500] ?_;refine abN rfl ?_;refine bf fw pZ [0,59] [500] ?_;refine abN rfl ?_;refine bf fw k94 [0,63] [500] ?_;refine abN rfl ?_;refine bf fw uS [0,74] [500] ?_;refine abP rfl ?_;refine bf (Aq fw (Aq @j0.eq_1 @j0.eq_2)) hc [12,13] [500] ?_;refine rgq fw [4,5] [500] ?_;refine ab1 ?_;simp[D.le,D.le.go,aC,ab,bk,bG,dS,bk,bG,cK,ace,Rs.map,dE]
  rw[if_neg o5]at uS ⊢;have hc:=Gl G t 3 j sF aib;have hq:∀ {c:Int} {p q':Nat},ea t 3 j = .err c p q'->q'=3:=fun h=>Gk h
  cases hr:ea t 3 j with
  | err c p q'=>
   obtain rfl:=hq hr;rw[hr]at hc;refine MC.abS (al _) func197 rfl rfl (rs:=[.tmp 4,.tmp 5]) results197 (by simp[ntmps197]) rfl fun X=>?_;simp only[ntmps197];have fw:=(Aq @afg (Aq @bk.eq_1 (Aq @bG.eq_1 @afi)));refine rgq fw [0,1] [500] ?_;refine af fun K1 ax=>?_;have qf:=(Aq fw @gY);refine abQ [0,1,17] [500] ?_;refine abN rfl ?_;refine abO (ax _ ?_);refine af fun K2 aa=>?_;refine aR ?_;refine bf fw k33 [0,1,20] [500] ?_;refine abN rfl ?_;refine bf fw ma [0,1,36] [500] ?_;refine abN rfl ?_;refine bf fw oD [0,55] [500] ?_;refine abN rfl ?_;refine bf fw pZ [0,59] [500] ?_;refine abN rfl ?_;refine bf fw k94 [0,63] [500] ?_;refine abN rfl ?_;refine bf fw uS [0,74] [500] ?_;refine abN rfl ?_;refine abO (aa _ ?_);refine bf (Aq fw (Aq @j0.eq_1 (Aq @j0.eq_2 (Aq @afG (Aq @afH @afI))))) hc [14,15] [500] ?_;refine rgq fw [4,5] [500] ?_;refine ab1 ?_;simp[D.le,D.le.go,aC,ab,bk,bG,dS,bk,bG,cK,ace,bd,dQ,Rs.map,br]
  | ok s p=>
   rw[hr]at hc;refine MC.abS (al _) func197 rfl rfl (rs:=[.tmp 4,.tmp 5]) results197 (by simp[ntmps197]) rfl fun X=>?_;simp only[ntmps197];have fw:=(Aq @afg (Aq @bk.eq_1 (Aq @bG.eq_1 @afi)));refine rgq fw [0,1] [500] ?_;refine af fun K1 ax=>?_;have qf:=(Aq fw @gY);refine abQ [0,1,17] [500] ?_;refine abN rfl ?_;refine abO (ax _ ?_);refine af fun K2 aa=>?_;refine aR ?_;refine bf fw k33 [0,1,20] [500] ?_;refine abN rfl ?_;refine bf fw ma [0,1,36] [500] ?_;refine abN rfl ?_;refine bf fw oD [0,55] [500] ?_;refine abN rfl ?_;refine bf fw pZ [0,59] [500] ?_;refine abN rfl ?_;refine bf fw k94 [0,63] [500] ?_;refine abN rfl ?_;refine bf fw uS [0,74] [500] ?_;refine abN rfl ?_;refine abO (aa _ ?_);refine bf (Aq fw (Aq @j0.eq_1 @j0.eq_2)) hc [14,15] [500] ?_;refine rgq fw [4,5] [500] ?_;refine ab1 ?_;simp[D.le,D.le.go,aC,ab,bk,bG,dS,bk,bG,cK,ace,Rs.map,dE]
theorem A6 {r r':Nat} (h:r≠r') (row:Row):mY r r' (ak [(r,row)])=ak [(r',row.tr (fb r r') (ac4 r r'))]:=by
 funext q;unfold mY;by_cases h1:q=r'
 .subst h1;simp[ak,List.lookup]
 .rw[if_neg h1];by_cases h2:q=r
  .subst h2;simp[ak,List.lookup,h1,beq_eq_false_iff_ne.2 h1]
  .simp[ak,List.lookup,h2,beq_eq_false_iff_ne.2 h1,beq_eq_false_iff_ne.2 h2]
def dOE:Option Ex->D
 | some x=>dE x
 | none=>.v .nilIface
theorem VH (G:aq) (t:List UInt8) (ht:t.length < 2^60):ar prog G 47 [dS t] (.aW [dOE (fF t).1,bd (fF t).2]):=by
 unfold fF;by_cases hl:2000 < t.length
 .have eF:(2000:Int) < (t.length:Int):=by omega
  rw[if_pos hl];refine ar.abS (al _) func47 rfl rfl (rs:=[.tmp 2,.tmp 3]) results47 (by simp[ntmps47]) fun X=>?_;simp only[ntmps47,List.map];have fw:=(Aq @afg (Aq @bk.eq_1 (Aq @bG.eq_1 @afi)));refine rgq fw [0] [] ?_;refine af fun K1 ax=>?_;have qf:=(Aq fw (Aq @bl (Aq @hl @eF)));refine abQ [0,9] [] ?_;refine abP rfl ?_;refine rgq fw [2,3] [] ?_;exact aN (Aq fw (Aq @dOE.eq_1 (Aq @dOE.eq_2 (Aq @afG (Aq @afH @afI)))))
 have eF:¬ (2000:Int) < (t.length:Int):=by omega
 rw[if_neg hl];have ow:=KO G t (by omega) 20 (VA G t (by omega) 20 (by decide)) 0 (ae2 _)
 cases hr:ij t (ab7 t 20) 0 with
 | err c p q=>
  rw[hr]at ow;refine ar.abS (al _) func47 rfl rfl (rs:=[.tmp 2,.tmp 3]) results47 (by simp[ntmps47]) fun X=>?_;simp only[ntmps47,List.map];have fw:=(Aq @afg (Aq @bk.eq_1 (Aq @bG.eq_1 @afi)));refine rgq fw [0] [] ?_;refine af fun K1 ax=>?_;have qf:=(Aq fw (Aq @bl (Aq @hl @eF)));refine abQ [0,9] [] ?_;refine abN rfl ?_;refine abO (ax _ ?_);refine rgq fw [0,4] [13] ?_;refine AW.imp (aB.ren (r:=13) (r':=500) trivial (by simp)) ?_;refine AW.st (by simp[fb,ac4,Go.Av.ren,A6];rfl) ?_;refine bf (Aq fw (Aq @cK.eq_1 (Aq @cK.eq_2 (Aq @afG (Aq @afH @afI))))) ow [0,4,5,6] [500] ?_;refine af fun K2 aa=>?_;refine rgq fw [0,4,5,6,20] [500] ?_;refine abP rfl ?_;refine rgq fw [2,3] [] ?_;exact aN (Aq fw (Aq @dOE.eq_1 (Aq @dOE.eq_2 (Aq @afG (Aq @afH @afI)))))
 | ok x k=>
  rw[hr]at ow;have hk:=(afl (aeg t 20) 0 x k (ae2 _) hr).2;have gM:=yL G t k (by omega) hk;have aib:=im hk;have hfl:=wb G t (aZ t k) (by omega) aib 3;rw[afR hk]at hfl;obtain⟨tx,cx,hx⟩:=adE x;dsimp only;generalize aZ t k=j at gM aib hfl ⊢;by_cases hj:j < t.length
  .have hj':(j:Int) < (t.length:Int):=by omega
   rw[if_pos hj];refine ar.abS (al _) func47 rfl rfl (rs:=[.tmp 2,.tmp 3]) results47 (by simp[ntmps47]) fun X=>?_;simp only[ntmps47,List.map];have fw:=(Aq @afg (Aq @bk.eq_1 (Aq @bG.eq_1 @afi)));refine rgq fw [0] [] ?_;refine af fun K1 ax=>?_;have qf:=(Aq fw (Aq @bl (Aq @hl @eF)));refine abQ [0,9] [] ?_;refine abN rfl ?_;refine abO (ax _ ?_);refine rgq fw [0,4] [13] ?_;refine AW.imp (aB.ren (r:=13) (r':=500) trivial (by simp)) ?_;refine AW.st (by simp[fb,ac4,Go.Av.ren,A6];rfl) ?_;have qf:=(Aq fw (Aq @cK.eq_1 (Aq @cK.eq_2 (Aq @ace.eq_1 (Aq @ace.eq_2 @hx)))));refine adu ow [0,4,5,6] [500] ?_;refine af fun K2 aa=>?_;refine rgq fw [0,4,5,6,20] [500] ?_;refine abN rfl ?_;refine abO (aa _ ?_);refine af fun K3 aQ=>?_;refine bf fw gM [0,4,5] [500] ?_;have qf:=(Aq fw (Aq @bl (Aq @hj @hj')));refine abQ [4,5,30] [500] ?_;refine abP rfl ?_;refine bf (Aq fw (Aq @afG (Aq @afH @afI))) hfl [2,3] [] ?_;exact aN (Aq fw (Aq @dOE.eq_1 (Aq @dOE.eq_2 (Aq @afG (Aq @afH @afI)))))
  .have hj':¬ (j:Int) < (t.length:Int):=by omega
   rw[if_neg hj];refine ar.abS (al _) func47 rfl rfl (rs:=[.tmp 2,.tmp 3]) results47 (by simp[ntmps47]) fun X=>?_;simp only[ntmps47,List.map];have fw:=(Aq @afg (Aq @bk.eq_1 (Aq @bG.eq_1 @afi)));refine rgq fw [0] [] ?_;refine af fun K1 ax=>?_;have qf:=(Aq fw (Aq @bl (Aq @hl @eF)));refine abQ [0,9] [] ?_;refine abN rfl ?_;refine abO (ax _ ?_);refine rgq fw [0,4] [13] ?_;refine AW.imp (aB.ren (r:=13) (r':=500) trivial (by simp)) ?_;refine AW.st (by simp[fb,ac4,Go.Av.ren,A6];rfl) ?_;have qf:=(Aq fw (Aq @cK.eq_1 (Aq @cK.eq_2 (Aq @ace.eq_1 (Aq @ace.eq_2 @hx)))));refine adu ow [0,4,5,6] [500] ?_;refine af fun K2 aa=>?_;refine rgq fw [0,4,5,6,20] [500] ?_;refine abN rfl ?_;refine abO (aa _ ?_);refine af fun K3 aQ=>?_;refine bf fw gM [0,4,5] [500] ?_;have qf:=(Aq fw (Aq @bl (Aq @hj @hj')));refine abQ [4,5,30] [500] ?_;refine abN rfl ?_;refine abO (aQ _ ?_);refine rgq fw [2,3] [] ?_;exact aN (Aq fw (Aq @dOE.eq_1 (Aq @dOE.eq_2 (Aq @afG (Aq @afH (Aq @afI @hx))))))
theorem B2 {l:List Ex} {i:Nat} (hi:i < l.length):eY (l.take i)+bE l[i]<=eY l:=by
 have h1:=vR (l.take i) [l[i]];rw[<- abR hi]at h1;have h2:=vR (l.take (i+1)) (l.drop (i+1));rw[aeM]at h2;simp only[eY]at h1;omega
