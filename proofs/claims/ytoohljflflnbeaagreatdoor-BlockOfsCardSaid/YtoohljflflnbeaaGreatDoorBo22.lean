/- Parts. -/
import Derived.Test.YtoohljflflnbeaaGreatDoorBo20
import Derived.Test.YtoohljflflnbeaaGreatDoorBo21
import Derived.Shelf.Small.Strs
import Derived.Lib.IndexLaws
import Derived.Shelf.Strings.OnBuilder
set_option linter.unusedSimpArgs false
set_option linter.unusedVariables false
set_option maxHeartbeats 16000000
open Go.Proofs.Tryz
namespace Go.Proofs.YtoohljflflnbeaaGreatDoor
open Go.Av
open Go.Shelf
def cg (t:List UInt8) (i:Int):Row:=.box 258 [.d (dS t),int i]
def bN (t:List UInt8) (i:Int):List (Nat×Row):=[(500,cg t i)]
theorem Ab (a:UInt8) (n:Nat) (hn:n < 256):((a.toNat:Int)=(n:Int))↔a=UInt8.ofNat n:=by
 constructor
 .intro h
  have:a.toNat=n:=aa
  rw[<- this,UInt8.ofNat_toNat]
 .rintro rfl;simp;omega
theorem aiA:type_of% (Aq @aih (Aq @bN.eq_1 (Aq @cg.eq_1 @aii))):=(Aq @aih (Aq @bN.eq_1 (Aq @cg.eq_1 @aii)))
theorem Dm (G:aC) (t:List UInt8) (i:Nat) (ht:t.length < 2^60) (hi:i<=t.length) :
  MC prog G [500] 137 [.ref 500 0 0] (aw (bN t i)) (.d (.bx [])) (aw (bN t (bw t i))):=by
 refine MC.aQ (aB _) func137 rfl rfl (rs:=[]) results137 (by simp[ntmps137]) rfl fun X=>?_;simp only[ntmps137];have fw:=aiA;refine cy (S:=Nat) (fun k=>k<=t.length/\bw t k=bw t i) (fun k=>⟨bn [(0,.ref 500 0 0)],aw [(500,.box 258 [.d (dS t),int k])]⟩) (fun k=>t.length - k) i ?_ ⟨hi,rfl⟩ ?_
 .refine bq fw
 .rintro k ⟨hk,hs⟩;refine ag fun K1 aF=>?_;by_cases dA:k < t.length
  .have Y4:(k:Int) < (t.length:Int):=aa
   have ka:t.getD k 0=t[k]:=by simp[agw,dA]
   by_cases hb:((t[k]).toNat:Int)=32
   .have qf:=(Aq fw (Aq @bQ (Aq @dk (Aq @dA @hb))));refine iV [0,23] [500] ?_;refine aI (ar (aF _ ?_));refine bd (cE fw ?_);try simp only[aT,aV]
    have js:t[k]? = some 32:=by
     rw[By dA,(Ab _ 32 bO).1 hb];rfl
    refine ba.mk (k+1) ⟨aa,?_⟩ aa ?_
    .rw[<- Ky js];exact hs
    refine bq fw
   .have qf:=(Aq fw (Aq @bQ (Aq @dk (Aq @dA @hb))));refine iV [0,23] [500] ?_;refine al (bW ?_)
    have js:t[k]?≠some 32:=by
     rw[By dA];intro h;apply hb;rw[AI h];rfl
    rw[x4 js]at hs;rw[<- hs];simp[bN,cg,dS,D.le_refl]
  .obtain rfl:k=t.length:=aa
   have qf:=(Aq fw (Aq @bQ @dk));refine iV [0,23] [500] ?_;refine al (bW ?_)
   have js:t[t.length]?≠some 32:=ak
   rw[x4 js]at hs;rw[<- hs];simp[bN,cg,dS,D.le_refl]
theorem FV (G:aC) (t:List UInt8) (i:Nat) (ht:t.length < 2^60) (hi:i<=t.length) (c:UInt8) :
  MC prog G [500] 258 [.ref 500 0 0,.d (.v (.int .u8 c.toNat))] (aw (bN t i)) (.d (.v (.bool (eD t c i).1))) (aw (bN t (eD t c i).2)):=by
 have gX:=Dm G t i ht hi;have iq:=lx hi;unfold eD;generalize bw t i=j at gX iq ⊢;by_cases iQ:j < t.length
 .rw[By iQ];by_cases hb:t[j]=c
  .have bk:((t[j]).toNat:Int)=(c.toNat:Int):=by rw[hb]
   rw[if_pos (by rw[hb])];refine MC.aQ (aB _) func258 rfl rfl (rs:=[.tmp 4]) results258 (by simp[ntmps258]) rfl fun X=>?_;simp only[ntmps258];have fw:=aiA;refine ae fw [0,1] [500] ?_;refine bD fw gX [0,1] [500] ?_;refine ag fun K1 aF=>?_;have qf:=(Aq fw (Aq @bQ (Aq @dk (Aq @iQ @bk))));refine iV [0,29] [500] ?_;refine aI (ae fw [] [500] ?_);refine ae fw [4] [500] ?_;exact aW (Aq fw (Aq @bN.eq_1 @cg.eq_1))
  .have bk:¬ ((t[j]).toNat:Int)=(c.toNat:Int):=fun h=>hb (UInt8.toNat_inj.1 aa);rw[if_neg (fun h=>hb (AI h))];refine MC.aQ (aB _) func258 rfl rfl (rs:=[.tmp 4]) results258 (by simp[ntmps258]) rfl fun X=>?_;simp only[ntmps258];have fw:=aiA;refine ae fw [0,1] [500] ?_;refine bD fw gX [0,1] [500] ?_;refine ag fun K1 aF=>?_;have qf:=(Aq fw (Aq @bQ (Aq @dk (Aq @iQ @bk))));refine iV [0,29] [500] ?_;refine al (ar (aF _ ?_));refine ae fw [4] [500] ?_;exact aW (Aq fw (Aq @bN.eq_1 @cg.eq_1))
 .obtain rfl:j=t.length:=aa
  rw[if_neg ak];refine MC.aQ (aB _) func258 rfl rfl (rs:=[.tmp 4]) results258 (by simp[ntmps258]) rfl fun X=>?_;simp only[ntmps258];have fw:=aiA;refine ae fw [0,1] [500] ?_;refine bD fw gX [0,1] [500] ?_;refine ag fun K1 aF=>?_;have qf:=(Aq fw (Aq @bQ @dk));refine iV [0,29] [500] ?_;refine al (ar (aF _ ?_));refine ae fw [4] [500] ?_;exact aW (Aq fw (Aq @bN.eq_1 @cg.eq_1))
theorem AG (G:aC) (t:List UInt8) (i:Nat) (ht:t.length < 2^60) (hi:i<=t.length) (e:Int) :
  MC prog G [500] 138 [.ref 500 0 0,.d (ab e)] (aw (bN t i)) (.d (bB (some (e,some (bw t i))))) (aw (bN t (bw t i))):=by
 have gX:=Dm G t i ht hi;generalize bw t i=j at gX ⊢;refine MC.aQ (aB _) func138 rfl rfl (rs:=[.tmp 4]) results138 (by simp[ntmps138]) rfl fun X=>?_;simp only[ntmps138];have fw:=aiA;refine ae fw [0,1] [500] ?_;refine bD fw gX [0,1] [500] ?_;refine ae fw [4] [500,13] ?_;refine dI fw 13 ?_;exact aW (Aq fw (Aq @bN.eq_1 (Aq @cg.eq_1 (Aq @air (Aq @ais @ait)))))
def qk:List UInt8:=[32,38,124,33,94,126,40,41,48,49,61]
theorem I8 (l:List UInt8) (c:UInt8):Lib.indexByte l c < 0↔c ∉ l:=by
 have u0:=Lib.indexByte_ge l c;constructor
 .intro h hm;obtain⟨k,hk,rfl⟩:=agG.1 hm;exact Lib.indexByte_none (show Lib.indexByte l l[k] = -1 by omega) k (By hk)
 .intro hm;apply ahb;intro h;obtain⟨n,hn⟩:=agY (show 0<=Lib.indexByte l c by omega);exact hm (ahr (Lib.indexByte_some hn).1)
theorem OX (G:aC) (l:List UInt8) (c:UInt8):aD prog G 174 [dS l,.v (.int .u8 c.toNat)] (ab (Lib.indexByte l c)):=by
 refine aD.rJ (gS.of func174 rfl rfl) fun X w vs bg cf dz=>?_
 obtain⟨a,b,rfl⟩:∃ a b,vs = #[a,b]:=by
  match vs,bg with
  | ⟨[a,b]⟩,_=>exact⟨a,b,rfl⟩
 have ha:=(cf 0 a _ rfl rfl).scalar;have hb:=(cf 1 b _ rfl rfl).scalar;subst ha hb;have iF:=Any.strings_IndexByte (P:=prog) (ρ:=Tryz.Jj) { Tryz.Ji with } (bs l) c.toNat w;rw[show (c.toNat:Int).toNat.toUInt8=c by simp]at iF;exact iF.mono fun e w' ⟨he,hw⟩=>⟨_,he,by rw[hw];exact cR.refl _,.v _⟩
end Go.Proofs.YtoohljflflnbeaaGreatDoor
namespace Go.Proofs.YtoohljflflnbeaaGreatDoor
open Go.Av
theorem LM (t:List UInt8) (i j:Nat):(bs t).extract i j=bs ((t.drop i).take (j - i)):=ByteArray.ext (by
 rw[ByteArray.data_extract];unfold bs;apply ahg.1
 simp[List.take_drop,List.extract])
theorem x1:(⟨#[32,38,124,33,94,126,40,41,48,49,61]⟩:ByteArray)=bs qk:=rfl
def nC:Rs (List UInt8)->D
 | .ok s _=>.bx [dS s,.v .nilIface]
 | .err c p _=>.bx [dS [],bB (some (c,some p))]
def cQ {α:Type}:Rs α->Nat
 | .ok _ i=>i
 | .err _ p _=>p
theorem zH (c:UInt8):c∈qk↔(l9 c=true\/c=48\/c=49):=by
 simp only[qk,l9,agK,List.not_mem_nil,or_false,aha];constructor
 .rintro (h | h | h | h | h | h | h | h | h | h | h)<;>simp[h]
 .rintro ((h | h | h | h | h | h | h | h | h) | h | h)<;>simp[h]
def vQ (t:List UInt8) (j k:Nat):Prop:=k=j\/(j < k/\tN t j=true/\qW t (j+1)=qW t k)
theorem sW {t:List UInt8} {j k:Nat} (h:vQ t j k) (hk:k<=t.length) (hstop:∀ hk:k < t.length,t[k]∈qk/\(j < k->t[k]≠48/\t[k]≠49)):k=pL t j:=by
 unfold pL
 rcases h with rfl | ⟨wY,hh,he⟩
 .by_cases gh:k < t.length
  .have:=(zH _).1 (hstop gh).1
   have jc:tN t k=false:=by
    unfold tN;rw[By gh]
    rcases this with h | h | h<;>simp[h]
   rw[jc];rfl
  .have jc:tN t k=false:=by
    unfold tN;rw[ahN aa]
   rw[jc];rfl
 .rw[hh,if_pos rfl,he,aen];intro gh;obtain⟨h1,h2⟩:=hstop gh
  rcases (zH _).1 h1 with h | h | h
  .exact h
  .exact absurd h (h2 wY).1
  .exact absurd h (h2 wY).2
theorem An {t:List UInt8} {j k:Nat} (h:vQ t j k) (hk:k < t.length) (fY:t[k] ∉ qk\/(j < k/\(t[k]=48\/t[k]=49))):vQ t j (k+1):=by
 have hs:l9 t[k]=false:=by
  rcases fY with h | ⟨_,h⟩
  .cases hc:l9 t[k] with
   | false=>rfl
   | true=>exact absurd ((zH _).2 (.inl hc)) h
  .rcases h with h | h<;>rw[h]<;>rfl
 right
 rcases h with rfl | ⟨wY,hh,he⟩
 .refine⟨aa,?_,rfl⟩
  rcases fY with h | ⟨h,_⟩
  .have h1:t[k]≠48:=fun e=>h ((zH _).2 (.inr (.inl e)));have h2:t[k]≠49:=fun e=>h ((zH _).2 (.inr (.inr e)));unfold tN;rw[By hk];simp[hs,h1,h2]
  .omega
 .refine⟨aa,hh,?_⟩;rw[he,aem hk hs]
theorem aiS:type_of% (Aq @air (Aq @ais @ait)):=(Aq @air (Aq @ais @ait))
theorem Lb (G:aC) (t:List UInt8) (q i:Nat) (ht:t.length < 2^60) (hi:i<=t.length) :
  MC prog G [500] 295 [.ref 500 0 0] (aw (bN t i)) (.d (nC (fK t q i))) (aw (bN t (cQ (fK t q i)))):=by
 have gX:=Dm G t i ht hi;have iq:=lx hi;have u2:=x3 hi;unfold fK;generalize bw t i=j at gX iq u2 ⊢;have Bn:=AG G t j ht iq 3;have Bo:=AG G t j ht iq 5;rw[u2]at Bn Bo;have bz:=F1 t j;have het:=KT iq;have nV:(t.drop j).take (pL t j - j)=iY t j:=rfl
 have IC:(iY t j).length < 2^60:=by
  rw[<- nV,agM,agX];omega
 have lM:=PA G (iY t j) IC;refine MC.aQ (aB _) func295 rfl rfl (rs:=[.tmp 2,.tmp 3]) results295 (by simp[ntmps295]) rfl fun X=>?_;simp only[ntmps295];have fw:=aiA;refine ae fw [0] [500] ?_;refine bD fw gX [0] [500] ?_;refine ae fw [0,4] [500] ?_;refine ag fun K1 aF=>cy (S:=Nat) (fun k=>j<=k/\k<=t.length/\vQ t j k) (fun k=>⟨bn [(0,.ref 500 0 0),(4,int k)],aw [(500,.box 258 [.d (dS t),int j])]⟩) (fun k=>t.length - k) j ?_ ⟨agD _,iq,.inl rfl⟩ ?_
 .refine bq fw
 .rintro k ⟨wY,hk,dB⟩;refine ag fun K2 au=>?_
  refine (fun fY hstop=>?_) (fun (σ:St) (hn:vQ t j (k+1)) (dA:k < t.length) himp=>au σ (AW.imp (τ:=⟨bn [(0,.ref 500 0 0),(4,int k)],aw [(500,.box 258 [.d (dS t),int j])]⟩) himp ?_))
   (fun (σ:St) (he:k=pL t j) himp=>aF σ (AW.imp (τ:=⟨bn [(0,.ref 500 0 0),(4,int k)],aw [(500,.box 258 [.d (dS t),int j])]⟩) himp ?_))
  .by_cases dA:k < t.length
   .have gN:=OX G qk t[k];have NK:=I8 qk t[k];by_cases hm:t[k]∈qk
    .have zd:¬ Lib.indexByte qk t[k] < 0:=fun h=>NK.1 h hm;by_cases kV:j < k
     .have lZ:(j:Int) < (k:Int):=aa
      by_cases qB:((t[k]).toNat:Int)=48
      .have hc:t[k]=48:=(Ab _ 48 bO).1 qB;have qf:=(Aq fw (Aq @bQ (Aq @dk (Aq @x1 (Aq @dA (Aq @zd (Aq @lZ (Aq @kV @qB))))))));refine fj gN [0,4,63] [500] ?_;refine aI (ar (fY _ (An dB dA (.inr ⟨kV,.inl hc⟩)) dA ?_));refine bq fw
      .by_cases r3:((t[k]).toNat:Int)=49
       .have hc:t[k]=49:=(Ab _ 49 bO).1 r3;have qf:=(Aq fw (Aq @bQ (Aq @dk (Aq @x1 (Aq @dA (Aq @zd (Aq @lZ (Aq @kV (Aq @qB @r3)))))))));refine fj gN [0,4,63] [500] ?_;refine aI (ar (fY _ (An dB dA (.inr ⟨kV,.inr hc⟩)) dA ?_));refine bq fw
       .have qf:=(Aq fw (Aq @bQ (Aq @dk (Aq @x1 (Aq @dA (Aq @zd (Aq @lZ (Aq @kV (Aq @qB @r3)))))))));refine fj gN [0,4,63] [500] ?_;refine al (bW (hstop _ (sW dB hk fun _=>⟨hm,fun _=>⟨fun e=>qB (by rw[e];rfl),fun e=>r3 (by rw[e];rfl)⟩⟩) ?_));refine bq fw
     .have lZ:¬ (j:Int) < (k:Int):=aa
      have qf:=(Aq fw (Aq @bQ (Aq @dk (Aq @x1 (Aq @dA (Aq @zd (Aq @lZ @kV)))))));refine fj gN [0,4,63] [500] ?_;refine al (bW (hstop _ (sW dB hk fun _=>⟨hm,fun h=>absurd h kV⟩) ?_));refine bq fw
    .have zd:Lib.indexByte qk t[k] < 0:=NK.2 hm;have qf:=(Aq fw (Aq @bQ (Aq @dk (Aq @x1 (Aq @dA @zd)))));refine fj gN [0,4,63] [500] ?_;refine aI (ar (fY _ (An dB dA (.inl hm)) dA ?_));refine bq fw
   .obtain rfl:k=t.length:=aa
    by_cases kV:j < t.length
    .have lZ:(j:Int) < (t.length:Int):=aa
     have qf:=(Aq fw (Aq @bQ (Aq @dk (Aq @x1 (Aq @lZ @kV)))));refine ay [0,4,63] [500] ?_;refine al (bW (hstop _ (sW dB hk fun h=>absurd h dA) ?_));refine bq fw
    .have lZ:¬ (j:Int) < (t.length:Int):=aa
     have qf:=(Aq fw (Aq @bQ (Aq @dk (Aq @x1 (Aq @lZ @kV)))));refine ay [0,4,63] [500] ?_;refine al (bW (hstop _ (sW dB hk fun h=>absurd h dA) ?_));refine bq fw
  .refine bd (cE fw ?_);(try simp only[aT,aV]);refine ba.mk (k+1) ⟨aa,aa,hn⟩ aa ?_;refine bq fw
  .subst he;clear aF au;have IW:List.take (pL t j - j) (List.drop j t)=iY t j:=nV;have qf:=(Aq fw (Aq @bQ (Aq @LM (Aq @bz (Aq @het @IW)))));refine iV [0,4,5] [500] ?_;refine ag fun K3 aU=>?_;by_cases hs:iY t j=[]
   .refine rg [0,4,5,77] [500] (eh rfl) fun K' ao=>?_;(repeat refine aM fun Kq af=>?_;simp[ab,bN,cg,dS,hs,bX,bt,bf];(repeat refine⟨aa,?_⟩);refine af _ ?_);refine bK (ao _ (AW.st (by simp[ab,bN,cg,dS,hs,bX,bt,bf];rfl) ?_));refine aI (bD (Aq fw aiS) Bn [2,3] [500] ?_);refine bR ?_;simp[D.le,D.le.go,aL,ab,bN,cg,dS,bN,cg,nC,cQ,bB,bX,hs]
   .have nj:(iY t j == [])=false:=by simpa using hs
    have BR:(iY t j).isEmpty=false:=by rw[ahL];exact hs
    refine rg [0,4,5,77] [500] (eh rfl) fun K' ao=>?_;(repeat refine aM fun Kq af=>?_;simp[ab,bN,cg,dS,bX,bt,bf,hs,nj,BR];(repeat refine⟨aa,?_⟩);refine af _ ?_);refine bK (ao _ (AW.st (by simp[ab,bN,cg,dS,bX,bt,bf,hs,nj,BR];rfl) ?_));refine al (ar (aU _ ?_));refine ag fun K4 ck=>?_
    cases hn:jg (iY t j) with
    | false=>
     rw[hn]at lM;refine br fw lM [0,4,5,82] [500] ?_;refine aI (bD (Aq fw aiS) Bo [2,3] [500] ?_);refine bR ?_;simp[D.le,D.le.go,aL,ab,bN,cg,dS,bN,cg,nC,cQ,bB,bX,hs,hn]
    | true=>
     rw[hn]at lM;refine br fw lM [0,4,5,82] [500] ?_;refine al (ar (ck _ ?_));refine ae fw [5] [500] ?_;refine ae fw [2,3] [500] ?_;exact aW (Aq fw (Aq @bN.eq_1 (Aq @cg.eq_1 (Aq @nC.eq_1 (Aq @nC.eq_2 (Aq @cQ.eq_1 (Aq @cQ.eq_2 (Aq @hs @hn))))))))
end Go.Proofs.YtoohljflflnbeaaGreatDoor
namespace Go.Proofs.YtoohljflflnbeaaGreatDoor
theorem Rn {α:Type} {t:List UInt8} {s:UInt8} {f:Nat->Rs α} (hf:lB t f):∀ (n m i:Nat) (acc:List α),i<=t.length->t.length+1 - i<=n->t.length+1 - i<=m->iu t s f n i acc=iu t s f m i acc
 | 0,_,i,_,hi,h,_=>aa
 | _+1,0,i,_,hi,_,h=>aa
 | n+1,m+1,i,acc,hi,h1,h2=>by
  rw[iu,iu]
  cases b8:f i with
  | err c p q=>rfl
  | ok x j=>
   obtain⟨g1,g2⟩:=hf i x j hi b8;obtain⟨t1,t2,t3⟩:=oh (c:=s) g2;dsimp only;split
   .exact Rn hf n m _ _ t2 aa aa
   .rfl
def lv {α:Type} (t:List UInt8) (s:UInt8) (f:Nat->Rs α) (i:Nat) (acc:List α):Rs (List α):=iu t s f (t.length+1 - i) i acc
theorem uw {α:Type} {t:List UInt8} {s:UInt8} {f:Nat->Rs α} (hf:lB t f) {i:Nat} (hi:i<=t.length) (acc:List α):lv t s f i acc=match f i with
  | .err c p _=>.err c p 0
  | .ok x j=>if (eD t s j).1 then lv t s f (eD t s j).2 (acc ++ [x]) else .ok (acc ++ [x]) (eD t s j).2:=by
 unfold lv;obtain⟨n,hn⟩:∃ n,t.length+1 - i=n+1:=⟨t.length - i,aa⟩;rw[hn,iu]
 cases b8:f i with
 | err c p q=>rfl
 | ok x j=>
  obtain⟨g1,g2⟩:=hf i x j hi b8;obtain⟨t1,t2,t3⟩:=oh (c:=s) g2;dsimp only;split
  .exact Rn hf _ _ _ _ t2 aa aa
  .rfl
theorem Kw {α:Type} {t:List UInt8} {s:UInt8} {f:Nat->Rs α}:∀ (n i:Nat) (acc:List α) {c:Int} {p q:Nat},iu t s f n i acc = .err c p q->q=0
 | 0,_,_,_,_,_,h=>by simp only[iu,Rs.err.injEq]at h;omega
 | n+1,i,acc,c,p,q,h=>by
  rw[iu]at h;split at h
  .simp only[Rs.err.injEq]at h;omega
  .split at h
   .exact Kw n _ _ h
   .cases h
theorem GF {l:List Ex} (h:l.length≠1):sZ l = .and l:=by
 match l,h with
 | [],_=>rfl
 | [_],h=>exact absurd rfl h
 | _ :: _ :: _,_=>rfl
theorem GG {l:List Ex} (h:l.length≠1):s3 l = .or l:=by
 match l,h with
 | [],_=>rfl
 | [_],h=>exact absurd rfl h
 | _ :: _ :: _,_=>rfl
open Go.Av
mutual
def dE:Ex->D
 | .gU b=>.bZ 163 (.v (.bool b))
 | .bit s=>.bZ 149 (dS s)
 | .jk s=>.bZ 160 (dS s)
 | .ja s=>.bZ 162 (dS s)
 | .not e=>.bZ 130 (.agg [dE e])
 | .and l=>.bZ 159 (.sl none (Ay l))
 | .or l=>.bZ 132 (.sl none (Ay l))
def Ay:List Ex->List (List D)
 | []=>[]
 | e :: l=>[dE e] :: Ay l
end
theorem s5:∀ l:List Ex,Ay l=l.map fun e=>[dE e]
 | []=>rfl
 | e :: l=>by rw[Ay,s5 l];rfl
theorem kJ (e:Ex):∃ t y,dE e = .bZ t y:=by
 cases e<;>simp only[dE]<;>exact⟨_,_,rfl⟩
def yz (l:List Ex):D:=.sl none (l.map fun e=>[dE e])
def dQ (q:Nat):D:=if q=1 then .bZ 160 (dS []) else if q=2 then .bZ 162 (dS []) else if q=3 then .bZ 149 (dS []) else .v .nilIface
def eu:Rs Ex->D
 | .ok x _=>.bx [dE x,.v .nilIface]
 | .err c p q=>.bx [dQ q,bB (some (c,some p))]
def nB:Rs (List Ex)->D
 | .ok l _=>.bx [yz l,.v .nilIface]
 | .err c p _=>.bx [.sl (some false) [],bB (some (c,some p))]
theorem aiN:type_of% (Aq @eu.eq_1 (Aq @eu.eq_2 (Aq @air (Aq @ais @ait)))):=(Aq @eu.eq_1 (Aq @eu.eq_2 (Aq @air (Aq @ais @ait))))
theorem Ro (G:aC) (t:List UInt8) (ht:t.length<=2000) (g:FuncId) (s:UInt8) (sn:Int) (tZ:(s.toNat:Int)=sn) (d:Int) (f:Nat->Rs Ex) (hf:lB t f)
  (fv:∀ i,i<=t.length->MC prog G [500] g [.ref 500 0 0,.d (ab d)] (aw (bN t i)) (.d (eu (f i))) (aw (bN t (cQ (f i))))) (i:Nat) (hi:i<=t.length) :
  MC prog G [500] 205 [.ref 500 0 0,.d (.v (.int .u8 sn)),.d (ab d),.bm g (.ref 500 0 0)] (aw (bN t i)) (.d (nB (lv t s f i []))) (aw (bN t (cQ (lv t s f i [])))):=by
 generalize hR:lv t s f i []=R;refine MC.aQ (aB _) func205 rfl rfl (rs:=[.tmp 8,.tmp 9]) results205 (by simp[ntmps205]) rfl fun X=>?_;simp only[ntmps205];have fw:=aiA;refine ae fw [0,1,2,3] [500] ?_;refine ae fw [0,1,2,3,10] [500] ?_;refine cy (S:=Nat×List Ex) (fun z=>z.1<=t.length/\z.2.length<=z.1/\lv t s f z.1 z.2=R) (fun z=>⟨bn [(0,.ref 500 0 0),(1,.d (.v (.int .u8 sn))),(2,.d (ab d)),(3,.bm g (.ref 500 0 0)),(10,.own 300 0 z.2.length)],aw [(500,.box 258 [.d (dS t),int z.1]),(300,.sl 34 1 (z.2.map fun e=>[dE e]))]⟩) (fun z=>t.length - z.1) (i,[]) ?_ ⟨hi,ak,hR⟩ ?_
 .refine (aK.kC 10 300 34 1 rfl rfl).trans ?_;refine bq fw
 .rintro⟨k,acc⟩ ⟨hk,Hq,hs⟩;dsimp only at hk Hq hs ⊢;have hc:=fv k hk;rw[uw hf hk]at hs;refine bd ?_
  cases HP:f k with
  | err c p q=>
   rw[HP]at hc hs;dsimp only at hs;subst hs;refine bD (Aq fw aiN) hc [0,1,2,3,10,11,12] [500,300] ?_;refine ag fun K1 aF=>ae fw [0,1,2,3,10,11,12,20] [500,300] ?_;refine aI (ae fw [8,9] [500] ?_);exact aW (Aq fw (Aq @bN.eq_1 (Aq @cg.eq_1 (Aq @nB.eq_1 (Aq @nB.eq_2 (Aq @cQ.eq_1 (Aq @cQ.eq_2 (Aq @air (Aq @ais @ait)))))))))
  | ok x j=>
   rw[HP]at hc hs;dsimp only at hs;obtain⟨g1,g2⟩:=hf k x j hk HP;have dK:=FV G t j aa g2 s;rw[tZ]at dK;obtain⟨t1,t2,t3⟩:=oh (c:=s) g2;obtain⟨tx,cx,hx⟩:=kJ x;have qf:=(Aq fw (Aq @eu.eq_1 (Aq @eu.eq_2 (Aq @cQ.eq_1 (Aq @cQ.eq_2 @hx)))));refine kr hc [0,1,2,3,10,11,12] [500,300] ?_;refine ag fun K1 aF=>ae fw [0,1,2,3,10,11,12,20] [500,300] ?_;refine al (ar (aF _ ?_));refine rg [0,1,2,3,10] [500,300] (eh rfl) fun K' ao=>?_;(repeat refine aM fun Kq af=>?_;simp[ab,bN,cg,dS,sh];(repeat refine⟨aa,?_⟩);refine af _ ?_);refine bK (ao _ (AW.st (by simp[ab,bN,cg,dS,sh];rfl) ?_))
   cases BV:eD t s j with
   | mk b k2=>
   rw[BV]at hs dK t1 t2 t3;dsimp only at hs dK t1 t2 t3
   cases b with
   | true=>
    rw[if_pos rfl]at hs;have aG:=t3 rfl;refine bD fw dK [0,1,2,3,10,29] [500,300] ?_;refine al (ar ?_);refine ba.mk (k2,acc ++ [x]) ⟨t2,by simp;omega,hs⟩ (by dsimp only;omega) ?_;refine bq (Aq fw @hx)
   | false=>
    rw[if_neg ak]at hs;subst hs;refine bD fw dK [0,1,2,3,10,29] [500,300] ?_;refine aI (AW.imp (aK.freeze 300 bO) ?_);refine AW.st (by simp[ab,bN,cg,dS];rfl) ?_;refine ae fw [8,9] [500] ?_;exact aW (Aq fw (Aq @bN.eq_1 (Aq @cg.eq_1 (Aq @nB.eq_1 (Aq @nB.eq_2 (Aq @yz.eq_1 (Aq @cQ.eq_1 (Aq @cQ.eq_2 @hx))))))))
theorem S3 (G:aC) (t:List UInt8) (ht:t.length<=2000) (d:Nat) (kN:∀ i,i<=t.length->MC prog G [500] 259 [.ref 500 0 0,.d (ab d)] (aw (bN t i)) (.d (eu (cD t d i))) (aw (bN t (cQ (cD t d i))))) (i:Nat) (hi:i<=t.length) :
  MC prog G [500] 206 [.ref 500 0 0,.d (ab d)] (aw (bN t i)) (.d (eu (mW t (cD t d) i))) (aw (bN t (cQ (mW t (cD t d) i)))):=by
 have rE:=Ro G t ht 259 38 38 rfl d (cD t d) (n9 t d) kN i hi;have hR:mW t (cD t d) i=(lv t 38 (cD t d) i []).map sZ:=rfl;rw[hR];have hq:∀ {c:Int} {p q:Nat},lv t 38 (cD t d) i [] = .err c p q->q=0:=fun h=>Kw _ _ _ h
 cases hs:lv t 38 (cD t d) i [] with
 | err c p q=>
  obtain rfl:=hq hs;rw[hs]at rE;refine MC.aQ (aB _) func206 rfl rfl (rs:=[.tmp 4,.tmp 5]) results206 (by simp[ntmps206]) rfl fun X=>?_;simp only[ntmps206];have fw:=aiA;refine ae fw [0,1] [500] ?_;refine bD (Aq fw (Aq @nB.eq_1 (Aq @nB.eq_2 (Aq @air (Aq @ais @ait))))) rE [6,7] [500] ?_;refine ag fun K1 aF=>ae fw [6,7,17] [500] ?_;refine aI (ae fw [4,5] [500] ?_);refine bR ?_;simp[D.le,D.le.go,aL,ab,bN,cg,dS,bN,cg,eu,cQ,bB,Rs.map,dQ]
 | ok l p=>
  rw[hs]at rE;by_cases hl:l.length=1
  .obtain⟨x,rfl⟩:=ag7.1 hl;obtain⟨tx,cx,hx⟩:=kJ x;refine MC.aQ (aB _) func206 rfl rfl (rs:=[.tmp 4,.tmp 5]) results206 (by simp[ntmps206]) rfl fun X=>?_;simp only[ntmps206];have fw:=aiA;refine ae fw [0,1] [500] ?_;have qf:=(Aq fw (Aq @nB.eq_1 (Aq @nB.eq_2 (Aq @yz.eq_1 @hx))));refine kr rE [6,7] [500] ?_;refine ag fun K1 aF=>ae fw [6,7,17] [500] ?_;refine al (ar (aF _ ?_));refine ag fun K2 au=>ae fw [6,21] [500] ?_;refine aI (ae fw [4,5] [500] ?_);refine bR ?_;simp[D.le,D.le.go,aL,ab,bN,cg,dS,bN,cg,eu,cQ,Rs.map,sZ,hx,D.le_refl]
  .have gr:¬ (l.length:Int)=1:=aa
   have wL:=GF hl;refine MC.aQ (aB _) func206 rfl rfl (rs:=[.tmp 4,.tmp 5]) results206 (by simp[ntmps206]) rfl fun X=>?_;simp only[ntmps206];have fw:=aiA;refine ae fw [0,1] [500] ?_;refine bD (Aq fw (Aq @nB.eq_1 (Aq @nB.eq_2 @yz.eq_1))) rE [6,7] [500] ?_;refine ag fun K1 aF=>ae fw [6,7,17] [500] ?_;refine al (ar (aF _ ?_));refine ag fun K2 au=>?_;have qf:=(Aq fw (Aq @hl @gr));refine ay [6,21] [500] ?_;refine al (ar (au _ ?_));refine ae fw [4,5] [500] ?_;refine bR ?_;simp[D.le,D.le.go,aL,ab,bN,cg,dS,bN,cg,eu,cQ,Rs.map,wL,dE,s5,D.le_refl,D.bJ]
theorem P8 (G:aC) (t:List UInt8) (ht:t.length<=2000) (d:Nat) (kN:∀ i,i<=t.length->MC prog G [500] 259 [.ref 500 0 0,.d (ab d)] (aw (bN t i)) (.d (eu (cD t d i))) (aw (bN t (cQ (cD t d i))))) (i:Nat) (hi:i<=t.length) :
  MC prog G [500] 136 [.ref 500 0 0,.d (ab d)] (aw (bN t i)) (.d (eu (lr t (cD t d) i))) (aw (bN t (cQ (lr t (cD t d) i)))):=by
 have rE:=Ro G t ht 206 124 124 rfl d (mW t (cD t d)) (Al (n9 t d)) (S3 G t ht d kN) i hi;have hR:lr t (cD t d) i=(lv t 124 (mW t (cD t d)) i []).map s3:=rfl;rw[hR];have hq:∀ {c:Int} {p q:Nat},lv t 124 (mW t (cD t d)) i [] = .err c p q->q=0:=fun h=>Kw _ _ _ h
 cases hs:lv t 124 (mW t (cD t d)) i [] with
 | err c p q=>
  obtain rfl:=hq hs;rw[hs]at rE;refine MC.aQ (aB _) func136 rfl rfl (rs:=[.tmp 4,.tmp 5]) results136 (by simp[ntmps136]) rfl fun X=>?_;simp only[ntmps136];have fw:=aiA;refine ae fw [0,1] [500] ?_;refine bD (Aq fw (Aq @nB.eq_1 (Aq @nB.eq_2 (Aq @air (Aq @ais @ait))))) rE [6,7] [500] ?_;refine ag fun K1 aF=>ae fw [6,7,17] [500] ?_;refine aI (ae fw [4,5] [500] ?_);refine bR ?_;simp[D.le,D.le.go,aL,ab,bN,cg,dS,bN,cg,eu,cQ,bB,Rs.map,dQ]
 | ok l p=>
  rw[hs]at rE;by_cases hl:l.length=1
  .obtain⟨x,rfl⟩:=ag7.1 hl;obtain⟨tx,cx,hx⟩:=kJ x;refine MC.aQ (aB _) func136 rfl rfl (rs:=[.tmp 4,.tmp 5]) results136 (by simp[ntmps136]) rfl fun X=>?_;simp only[ntmps136];have fw:=aiA;refine ae fw [0,1] [500] ?_;have qf:=(Aq fw (Aq @nB.eq_1 (Aq @nB.eq_2 (Aq @yz.eq_1 @hx))));refine kr rE [6,7] [500] ?_;refine ag fun K1 aF=>ae fw [6,7,17] [500] ?_;refine al (ar (aF _ ?_));refine ag fun K2 au=>ae fw [6,21] [500] ?_;refine aI (ae fw [4,5] [500] ?_);refine bR ?_;simp[D.le,D.le.go,aL,ab,bN,cg,dS,bN,cg,eu,cQ,Rs.map,s3,hx,D.le_refl]
  .have gr:¬ (l.length:Int)=1:=aa
   have wL:=GG hl;refine MC.aQ (aB _) func136 rfl rfl (rs:=[.tmp 4,.tmp 5]) results136 (by simp[ntmps136]) rfl fun X=>?_;simp only[ntmps136];have fw:=aiA;refine ae fw [0,1] [500] ?_;refine bD (Aq fw (Aq @nB.eq_1 (Aq @nB.eq_2 @yz.eq_1))) rE [6,7] [500] ?_;refine ag fun K1 aF=>ae fw [6,7,17] [500] ?_;refine al (ar (aF _ ?_));refine ag fun K2 au=>?_;have qf:=(Aq fw (Aq @hl @gr));refine ay [6,21] [500] ?_;refine al (ar (au _ ?_));refine ae fw [4,5] [500] ?_;refine bR ?_;simp[D.le,D.le.go,aL,ab,bN,cg,dS,bN,cg,eu,cQ,Rs.map,wL,dE,s5,D.le_refl,D.bJ]
end Go.Proofs.YtoohljflflnbeaaGreatDoor
namespace Go.Proofs.YtoohljflflnbeaaGreatDoor
def yg {α:Type} (sz:α->Nat) (t:List UInt8) (f:Nat->Rs α):Prop:=∀ i x j,i<=t.length->f i = .ok x j->sz x<=5 * (j - i)
theorem abF {s:List UInt8} (h:jg s=true):s≠[]/\s.length<=8/\(∀ c∈s,l9 c=false)/\∀ c,s[0]? = some c->l9 c=false/\c≠48/\c≠49/\97<=c.toNat:=by
 unfold jg at h;simp only[abi,decide_eq_true_eq,R8]at h;obtain⟨h1,h2,h3,h4,h5,-⟩:=h
 have hs:∀ c:UInt8,pT.contains c=true->l9 c=false:=by
  have h:∀ n:Fin 256,pT.contains (UInt8.ofNat n)=true->l9 (UInt8.ofNat n)=false:=by decide +kernel
  intro c;have:=h ⟨c.toNat,c.toNat_lt⟩;simpa using this
 refine⟨h1,h2,fun c hc=>hs c (h5 c hc),fun c hc=>?_⟩;have hm:c∈s:=ahr hc
 have hg:s.getD 0 0=c:=by rw[agw,hc];rfl
 rw[hg]at h3;refine⟨hs c (h5 c hm),?_,?_,h3⟩<;>rintro rfl<;>revert h3<;>decide
mutual
def hU:Ex->Prop
 | .gU _=>True
 | .bit s=>jg s=true
 | .jk s=>jg s=true
 | .ja s=>jg s=true
 | .not e=>hU e
 | .and l=>2<=l.length/\yj l
 | .or l=>2<=l.length/\yj l
def yj:List Ex->Prop
 | []=>True
 | e :: l=>hU e/\yj l
end
theorem wa:∀ l:List Ex,yj l↔∀ e∈l,hU e
 | []=>by simp[yj]
 | e :: l=>by simp[yj,wa l]
mutual
def k8:Ex->Nat
 | .gU _=>1
 | .bit _=>1
 | .jk _=>1
 | .ja _=>1
 | .not e=>k8 e+1
 | .and l=>uM l+1
 | .or l=>uO l+1
def uM:List Ex->Nat
 | []=>0
 | e :: l=>max (k8 e) (uM l)
def uO:List Ex->Nat
 | []=>0
 | e :: l=>max (match e with | .and m=>uM m | e=>k8 e) (uO l)
end
def uN:Ex->Nat
 | .and l=>uM l
 | .or l=>uO l
 | e=>k8 e
def s8:Ex->Nat
 | .and l=>uM l
 | e=>k8 e
theorem Wb (e:Ex) (l:List Ex):uO (e :: l)=max (s8 e) (uO l):=by
 cases e<;>simp[uO,s8]
theorem Wa (e:Ex):s8 e<=k8 e:=by cases e<;>simp[s8,k8]
theorem V9 (e:Ex):uN e<=s8 e:=by
 cases e<;>simp[uN,s8,k8]
theorem V8 (e:Ex):k8 e<=uN e+1:=by
 cases e<;>simp[uN,k8]
theorem Ks {t:List UInt8} {s:UInt8} {f:Nat->Rs Ex} (P:Ex->Prop) (hf:∀ i x j,f i = .ok x j->P x):∀ (n i:Nat) (acc l:List Ex) (j:Nat),iu t s f n i acc = .ok l j->(∀ x∈acc,P x)->∀ x∈l,P x
 | 0,i,acc,l,j,h,_=>by simp[iu]at h
 | n+1,i,acc,l,j,h,ha=>by
  rw[iu]at h
  cases b8:f i with
  | err c p q=>rw[b8]at h;cases h
  | ok x k=>
   rw[b8]at h;dsimp only at h
   have gL:∀ y∈acc ++ [x],P y:=fun y hy=>by
    rcases agN.1 hy with hy | hy
    .exact ha y hy
    .simp at hy;subst hy;exact hf _ _ _ b8
   split at h
   .exact Ks P hf n _ _ l j h gL
   .simp only[Rs.ok.injEq]at h;obtain⟨rfl,-⟩:=h;exact gL
theorem Kv {t:List UInt8} {s:UInt8} {f:Nat->Rs Ex}:∀ (n i:Nat) (acc l:List Ex) (j:Nat),iu t s f n i acc = .ok l j->acc.length < l.length
 | 0,i,acc,l,j,h=>by simp[iu]at h
 | n+1,i,acc,l,j,h=>by
  rw[iu]at h;split at h
  .cases h
  .split at h
   .have:=Kv n _ _ l j h;simp only[agU,ah4]at this;omega
   .simp only[Rs.ok.injEq]at h;obtain⟨rfl,-⟩:=h;simp
theorem Mg {d:Nat}:∀ {l:List Ex},(∀ x∈l,k8 x<=d)->uM l<=d
 | [],_=>by simp[uM]
 | e :: l,h=>by
  have h1:=h e ak;have h2:=Mg (l:=l) fun x hx=>h x (by simp[hx]);rw[uM];omega
theorem Mh {d:Nat}:∀ {l:List Ex},(∀ x∈l,s8 x<=d)->uO l<=d
 | [],_=>by simp[uO]
 | e :: l,h=>by
  have h1:=h e ak;have h2:=Mh (l:=l) fun x hx=>h x (by simp[hx]);rw[Wb];omega
theorem S4 {t:List UInt8} {d:Nat} (h:∀ i x j,cD t d i = .ok x j->hU x/\k8 x<=d) {i j:Nat} {x:Ex} (he:mW t (cD t d) i = .ok x j):hU x/\s8 x<=d:=by
 obtain⟨l,h1,rfl⟩:=oW he;have ha:=Ks (fun x=>hU x/\k8 x<=d) h _ _ _ _ _ h1 ak;have hp:=Kv _ _ _ _ _ h1;by_cases hl:l.length=1
 .obtain⟨x,rfl⟩:=ag7.1 hl;have:=ha x ak;exact⟨this.1,ah5 (Wa x) this.2⟩
 .rw[GF hl];exact⟨⟨by simp at hp;omega,(wa _).2 fun x hx=>(ha x hx).1⟩,Mg fun x hx=>(ha x hx).2⟩
theorem P9 {t:List UInt8} {d:Nat} (h:∀ i x j,cD t d i = .ok x j->hU x/\k8 x<=d) {i j:Nat} {x:Ex} (he:lr t (cD t d) i = .ok x j):hU x/\uN x<=d:=by
 obtain⟨l,h1,rfl⟩:=oW he;have ha:=Ks (fun x=>hU x/\s8 x<=d) (fun i x j h'=>S4 h h') _ _ _ _ _ h1 ak;have hp:=Kv _ _ _ _ _ h1;by_cases hl:l.length=1
 .obtain⟨x,rfl⟩:=ag7.1 hl;have:=ha x ak;exact⟨this.1,ah5 (V9 x) this.2⟩
 .rw[GG hl];exact⟨⟨by simp at hp;omega,(wa _).2 fun x hx=>(ha x hx).1⟩,Mh fun x hx=>(ha x hx).2⟩
theorem Lc {t:List UInt8} {q i j:Nat} {s:List UInt8} (h:fK t q i = .ok s j):jg s=true:=by
 unfold fK at h;split at h
 .cases h
 .split at h
  .cases h
  .rename_i hn;simp only[Rs.ok.injEq]at h;obtain⟨rfl,-⟩:=h;simpa using hn
theorem P0 (t:List UInt8):∀ d i x j,cD t d i = .ok x j->hU x/\k8 x<=d
 | 0,i,x,j,h=>by simp[cD]at h
 | d+1,i,x,j,h=>by
  have ih:=P0 t d;rw[cD]at h;split at h
  .cases he:cD t d (bw t i+1) with
   | err c p q=>rw[he]at h;cases h
   | ok y k=>
    rw[he]at h;simp only[Rs.ok.injEq]at h;obtain⟨rfl,rfl⟩:=h;have:=ih _ _ _ he;exact⟨this.1,by simp only[k8];omega⟩
  split at h
  .cases he:lr t (cD t d) (bw t i+1) with
   | err c p q=>rw[he]at h;cases h
   | ok y k=>
    rw[he]at h;dsimp only at h;split at h
    .simp only[Rs.ok.injEq]at h;obtain⟨rfl,rfl⟩:=h;have:=P9 ih he;have h3:=V8 y;exact⟨this.1,aa⟩
    .cases h
  split at h
  .simp only[Rs.ok.injEq]at h;obtain⟨rfl,rfl⟩:=h;exact⟨trivial,by simp only[k8];omega⟩
  split at h
  .simp only[Rs.ok.injEq]at h;obtain⟨rfl,rfl⟩:=h;exact⟨trivial,by simp only[k8];omega⟩
  split at h
  .obtain⟨s,h3,rfl⟩:=oW h;exact⟨Lc h3,by simp only[k8];omega⟩
  split at h
  .obtain⟨s,h3,rfl⟩:=oW h;exact⟨Lc h3,by simp only[k8];omega⟩
  .obtain⟨s,h3,rfl⟩:=oW h;exact⟨Lc h3,by simp only[k8];omega⟩
theorem J2 {t:List UInt8} {x:Ex} (h:(iH t).1=some x):hU x/\uN x<=20:=by
 unfold iH at h;split at h
 .cases h
 .split at h
  .cases h
  .rename_i y i he;split at h
   .cases h
   .obtain rfl:=AI h;exact P9 (P0 t 20) he
mutual
def eQ (is ch:List UInt8->Bool):Ex->Bool
 | .gU b=>b
 | .bit s=>is s
 | .jk s=>is s && !ch s
 | .ja s=>!is s && ch s
 | .not e=>!eQ is ch e
 | .and l=>yH is ch l
 | .or l=>yI is ch l
def yH (is ch:List UInt8->Bool):List Ex->Bool
 | []=>true
 | e :: l=>eQ is ch e && yH is ch l
def yI (is ch:List UInt8->Bool):List Ex->Bool
 | []=>false
 | e :: l=>eQ is ch e || yI is ch l
end
mutual
def bE:Ex->Nat
 | .gU _=>4
 | .bit s=>s.length+3
 | .jk s=>s.length+4
 | .ja s=>s.length+4
 | .not e=>bE e+1
 | .and l=>gK l+5
 | .or l=>gK l+5
def gK:List Ex->Nat
 | []=>0
 | e :: l=>bE e+gK l
end
theorem Ao:∀ (a b:List Ex),gK (a ++ b)=gK a+gK b
 | [],b=>by simp[gK]
 | e :: a,b=>by simp only[ahR,gK,Ao a b];omega
theorem Di:∀ e:Ex,3<=bE e
 | .not e=>by have:=Di e;simp only[bE];omega
 | .gU _=>by simp[bE]
 | .bit _=>by simp[bE]
 | .jk _=>by simp only[bE];omega
 | .ja _=>by simp only[bE];omega
 | .and _=>by simp only[bE];omega
 | .or _=>by simp only[bE];omega
theorem Ap {x:Ex}:∀ {l:List Ex},x∈l->bE x<=gK l
 | y :: l,h=>by
  rw[gK]
  rcases agK.1 h with rfl | h
  .omega
  .have:=Ap h;omega
theorem uF:∀ l:List Ex,3 * l.length<=gK l
 | []=>ak
 | e :: l=>by have:=uF l;have:=Di e;simp only[agS,gK];omega
theorem Ku {t:List UInt8} {s:UInt8} {f:Nat->Rs Ex} (hg:lB t f) (hf:yg bE t f):∀ (n i:Nat) (acc l:List Ex) (j:Nat),i<=t.length->iu t s f n i acc = .ok l j->gK l+5 * (l.length - 1)<=gK acc+5 * acc.length+5 * (j - i)/\acc.length < l.length
 | 0,i,acc,l,j,_,h=>by simp[iu]at h
 | n+1,i,acc,l,j,hi,h=>by
  rw[iu]at h
  cases b8:f i with
  | err c p q=>rw[b8]at h;cases h
  | ok x k=>
   rw[b8]at h;obtain⟨h1,h2⟩:=hg i x k hi b8;have h5:=hf i x k hi b8;obtain⟨t1,t2,t3⟩:=oh (c:=s) h2;dsimp only at h;split at h
   .rename_i ht;have h4:=t3 ht;have ih:=Ku hg hf n _ _ l j t2 h;have h6:=FM hg n _ _ l j t2 h;simp only[Ao,gK,agU,ah4]at ih;omega
   .simp only[Rs.ok.injEq]at h;obtain⟨rfl,rfl⟩:=h;simp only[Ao,gK,agU,ah4];omega
theorem VH {l:List Ex} {m:Nat} (h:gK l+5 * (l.length - 1)<=m) (h0:0 < l.length):bE (sZ l)<=m:=by
 by_cases h1:l.length=1
 .obtain⟨x,rfl⟩:=ag7.1 h1;simp only[gK,ah4]at h;show bE x<=m;omega
 .rw[GF h1,bE];omega
theorem VJ {l:List Ex} {m:Nat} (h:gK l+5 * (l.length - 1)<=m) (h0:0 < l.length):bE (s3 l)<=m:=by
 by_cases h1:l.length=1
 .obtain⟨x,rfl⟩:=ag7.1 h1;simp only[gK,ah4]at h;show bE x<=m;omega
 .rw[GG h1,bE];omega
theorem SZ {t:List UInt8} {one:Nat->Rs Ex} (hg:lB t one) (h:yg bE t one):yg bE t (mW t one):=fun i x j hi he=>by
 obtain⟨l,h1,rfl⟩:=oW he;have:=Ku hg h _ _ _ _ _ hi h1;simp only[gK,ahZ]at this;exact VH aa aa
theorem P4 {t:List UInt8} {one:Nat->Rs Ex} (hg:lB t one) (h:yg bE t one):yg bE t (lr t one):=fun i x j hi he=>by
 obtain⟨l,h1,rfl⟩:=oW he;have:=Ku (Al hg) (SZ hg h) _ _ _ _ _ hi h1;simp only[gK,ahZ]at this;exact VJ aa aa
theorem KX (t:List UInt8) (q i j:Nat) (s:List UInt8) (hi:i<=t.length) (h:fK t q i = .ok s j):s.length<=j - i/\1<=j - i:=by
 have hg:=F5 t q i s j hi h;have h1:=CL t i;unfold fK at h;split at h
 .cases h
 .split at h
  .cases h
  .simp only[Rs.ok.injEq]at h;obtain⟨rfl,rfl⟩:=h;have h4:=F1 t (bw t i);unfold iY;rw[agM];omega
theorem PZ (t:List UInt8):∀ d,yg bE t (cD t d)
 | 0=>fun i x j _ h=>by simp[cD]at h
 | d+1=>fun i x j hi h=>by
  have ih:=PZ t d;have hg:=n9 t d;have h1:=CL t i;have h2:=lx hi;have hb:∀ {c:UInt8},t[bw t i]? = some c->bw t i < t.length:=fun hc=>(BY.1 hc).1;rw[cD]at h;split at h
  .rename_i hc;have:=hb hc
   cases he:cD t d (bw t i+1) with
   | err c p q=>rw[he]at h;cases h
   | ok y k=>
    rw[he]at h;simp only[Rs.ok.injEq]at h;obtain⟨rfl,rfl⟩:=h;have h3:=ih _ y k aa he;have h4:=hg _ y k aa he;simp only[bE];omega
  split at h
  .rename_i _ hc;have:=hb hc
   cases he:lr t (cD t d) (bw t i+1) with
   | err c p q=>rw[he]at h;cases h
   | ok y k=>
    rw[he]at h;dsimp only at h;have h3:=P4 hg ih _ y k aa he;have h4:=ur hg _ y k aa he;obtain⟨t1,t2,t3⟩:=oh (c:=41) h4.2;split at h
    .simp only[Rs.ok.injEq]at h;obtain⟨rfl,rfl⟩:=h;omega
    .cases h
  split at h
  .rename_i _ _ hc;have:=hb hc;simp only[Rs.ok.injEq]at h;obtain⟨rfl,rfl⟩:=h;simp only[bE];omega
  split at h
  .rename_i _ _ _ hc;have:=hb hc;simp only[Rs.ok.injEq]at h;obtain⟨rfl,rfl⟩:=h;simp only[bE];omega
  split at h
  .rename_i _ _ _ _ hc;have:=hb hc;obtain⟨s,h3,rfl⟩:=oW h;have h4:=KX t 1 _ j s aa h3;simp only[bE];omega
  split at h
  .rename_i _ _ _ _ _ hc;have:=hb hc;obtain⟨s,h3,rfl⟩:=oW h;have h4:=KX t 2 _ j s aa h3;simp only[bE];omega
  .obtain⟨s,h3,rfl⟩:=oW h;have h4:=KX t 3 _ j s aa h3;simp only[bE];omega
theorem Qc {t:List UInt8} {x:Ex} (h:(iH t).1=some x):bE x<=10000:=by
 unfold iH at h;split at h
 .cases h
 .rename_i hl;split at h
  .cases h
  .rename_i y i he;split at h
   .cases h
   .obtain rfl:=AI h;have h1:=P4 (n9 t 20) (PZ t 20) 0 y i (aib _) he;have h2:=ur (n9 t 20) 0 y i (aib _) he;omega
open Go.Av
theorem RZ {t:List UInt8} {c:UInt8} {i j:Nat} (hj:bw t i=j):eD t c i=if t[j]? = some c then (true,j+1) else (false,j):=by
 unfold eD;rw[hj]
theorem La {t:List UInt8} {q i:Nat} {c:Int} {p q':Nat} (h:fK t q i = .err c p q'):q'=q:=by
 unfold fK at h;split at h
 .simp only[Rs.err.injEq]at h;omega
 .split at h
  .simp only[Rs.err.injEq]at h;omega
  .cases h
theorem aiP:type_of% (Aq @nC.eq_1 (Aq @nC.eq_2 (Aq @air (Aq @ais @ait)))):=(Aq @nC.eq_1 (Aq @nC.eq_2 (Aq @air (Aq @ais @ait))))
theorem ab7 (G:aC) (t:List UInt8) (ht:t.length<=2000):∀ (d:Nat),d<=20->∀ i,i<=t.length->MC prog G [500] 259 [.ref 500 0 0,.d (ab d)] (aw (bN t i)) (.d (eu (cD t d i))) (aw (bN t (cQ (cD t d i)))):=by
 intro d
 induction d with
 | zero=>
  intro _ i hi;have fB:=AG G t i aa hi 4;refine MC.aQ (aB _) func259 rfl rfl (rs:=[.tmp 4,.tmp 5]) results259 (by simp[ntmps259]) rfl fun X=>?_;simp only[ntmps259];have fw:=aiA;refine ae fw [0,1] [500] ?_;refine ag fun K1 aF=>ae fw [0,1,17] [500] ?_;refine aI (bD (Aq fw aiS) fB [4,5] [500] ?_);exact aW (Aq fw (Aq @bN.eq_1 (Aq @cg.eq_1 (Aq @eu.eq_1 (Aq @eu.eq_2 (Aq @cD.eq_1 (Aq @cD.eq_2 (Aq @cQ.eq_1 (Aq @cQ.eq_2 (Aq @air (Aq @ais (Aq @ait @dQ.eq_1))))))))))))
 | succ d ih=>
  intro hd i hi;have ih:=ih aa;have ni:=P8 G t ht d ih;have iq:=lx hi;have u2:=x3 hi
  have iP:¬ (d:Int)+1=0:=aa
  have xm:t.length < 2^60:=aa
  have IL:∀ c,MC prog G [500] 258 [.ref 500 0 0,.d (.v (.int .u8 c.toNat))] (aw (bN t i)) (.d (.v (.bool (eD t c i).1))) (aw (bN t (eD t c i).2)):=fun c=>FV G t i xm hi c;rw[cD];generalize hj:bw t i=j at iq u2 ⊢;have p7:∀ c,MC prog G [500] 258 [.ref 500 0 0,.d (.v (.int .u8 c.toNat))] (aw (bN t j)) (.d (.v (.bool (eD t c j).1))) (aw (bN t (eD t c j).2)):=fun c=>FV G t j xm iq c;have LD:=fun c=>RZ (t:=t) (c:=c) hj;have Dh:=fun c=>RZ (t:=t) (c:=c) u2;simp only[LD]at IL;simp only[Dh]at p7;have aG:∀ {c:UInt8},t[j]? = some c->j+1<=t.length:=fun h=>(BY.1 h).1;have oS:=IL 33;have qb:=p7 40;have sk:=p7 48;have uj:=p7 49;have vk:=p7 94;have zB:=p7 126;clear IL LD Dh hj;by_cases rT:t[j]? = some 33
  .rw[if_pos rT]at oS ⊢;have hc:=ih (j+1) (aG rT)
   cases hr:cD t d (j+1) with
   | err c p q=>
    rw[hr]at hc;refine MC.aQ (aB _) func259 rfl rfl (rs:=[.tmp 4,.tmp 5]) results259 (by simp[ntmps259]) rfl fun X=>?_;simp only[ntmps259];have fw:=aiA;refine ae fw [0,1] [500] ?_;refine ag fun K1 aF=>?_;have qf:=(Aq fw @iP);refine ay [0,1,17] [500] ?_;refine al (ar (aF _ ?_));refine ag fun K2 au=>bd ?_;refine bD fw oS [0,1,20] [500] ?_;refine aI (bD (Aq fw aiN) hc [6,7] [500] ?_);refine ag fun K3 aU=>ae fw [6,7,31] [500] ?_;refine aI (ae fw [4,5] [500] ?_);exact aW (Aq fw (Aq @bN.eq_1 (Aq @cg.eq_1 (Aq @eu.eq_1 (Aq @eu.eq_2 (Aq @cQ.eq_1 (Aq @cQ.eq_2 (Aq @air (Aq @ais (Aq @ait @dQ.eq_1))))))))))
   | ok x k=>
    rw[hr]at hc;obtain⟨tx,cx,hx⟩:=kJ x;refine MC.aQ (aB _) func259 rfl rfl (rs:=[.tmp 4,.tmp 5]) results259 (by simp[ntmps259]) rfl fun X=>?_;simp only[ntmps259];have fw:=aiA;refine ae fw [0,1] [500] ?_;refine ag fun K1 aF=>?_;have qf:=(Aq fw @iP);refine ay [0,1,17] [500] ?_;refine al (ar (aF _ ?_));refine ag fun K2 au=>bd ?_;refine bD fw oS [0,1,20] [500] ?_;refine aI ?_;have qf:=(Aq fw (Aq @eu.eq_1 (Aq @eu.eq_2 @hx)));refine kr hc [6,7] [500] ?_;refine ag fun K3 aU=>ae fw [6,7,31] [500] ?_;refine al (ar (aU _ ?_));refine ae fw [4,5] [500] ?_;refine bR ?_;simp[D.le,D.le.go,aL,ab,bN,cg,dS,bN,cg,eu,cQ,dE,hx,D.le_refl]
  rw[if_neg rT]at oS ⊢;by_cases c40:t[j]? = some 40
  .rw[if_pos c40]at qb ⊢;have hc:=ni (j+1) (aG c40)
   cases hr:lr t (cD t d) (j+1) with
   | err c p q=>
    rw[hr]at hc;refine MC.aQ (aB _) func259 rfl rfl (rs:=[.tmp 4,.tmp 5]) results259 (by simp[ntmps259]) rfl fun X=>?_;simp only[ntmps259];have fw:=aiA;refine ae fw [0,1] [500] ?_;refine ag fun K1 aF=>?_;have qf:=(Aq fw @iP);refine ay [0,1,17] [500] ?_;refine al (ar (aF _ ?_));refine ag fun K2 au=>bd ?_;refine bD fw oS [0,1,20] [500] ?_;refine al (bD fw qb [0,1,36] [500] ?_);refine aI (bD (Aq fw aiN) hc [0,8,9] [500] ?_);refine ag fun K4 ck=>ae fw [0,8,9,47] [500] ?_;refine aI (ae fw [4,5] [500] ?_);exact aW (Aq fw (Aq @bN.eq_1 (Aq @cg.eq_1 (Aq @eu.eq_1 (Aq @eu.eq_2 (Aq @cQ.eq_1 (Aq @cQ.eq_2 (Aq @air (Aq @ais (Aq @ait @dQ.eq_1))))))))))
   | ok x k=>
    rw[hr]at hc;obtain⟨tx,cx,hx⟩:=kJ x;have Bw:=(ur (n9 t d) (j+1) x k (aG c40) hr).2;have ES:=FV G t k xm Bw 41;have IJ:=oh (c:=41) Bw
    have G9:(eD t 41 k).1=false->bw t (eD t 41 k).2=(eD t 41 k).2:=fun h=>by
     unfold eD at h ⊢;split at h
     .cases h
     .rw[if_neg ‹_›];exact x3 Bw
    cases BV:eD t 41 k with
    | mk b k2=>
    rw[BV]at ES IJ G9;dsimp only at ES IJ G9 ⊢
    cases b with
    | true=>
     refine MC.aQ (aB _) func259 rfl rfl (rs:=[.tmp 4,.tmp 5]) results259 (by simp[ntmps259]) rfl fun X=>?_;simp only[ntmps259];have fw:=aiA;refine ae fw [0,1] [500] ?_;refine ag fun K1 aF=>?_;have qf:=(Aq fw @iP);refine ay [0,1,17] [500] ?_;refine al (ar (aF _ ?_));refine ag fun K2 au=>bd ?_;refine bD fw oS [0,1,20] [500] ?_;refine al (bD fw qb [0,1,36] [500] ?_);refine aI ?_;have qf:=(Aq fw (Aq @eu.eq_1 (Aq @eu.eq_2 (Aq @cQ.eq_1 (Aq @cQ.eq_2 @hx)))));refine kr hc [0,8,9] [500] ?_;refine ag fun K4 ck=>ae fw [0,8,9,47] [500] ?_;refine al (ar (ck _ ?_));refine ag fun K5 b9=>bD fw ES [0,8,51] [500] ?_;refine al (ar (b9 _ ?_));refine ae fw [4,5] [500] ?_;exact aW (Aq fw (Aq @bN.eq_1 (Aq @cg.eq_1 (Aq @eu.eq_1 (Aq @eu.eq_2 (Aq @cQ.eq_1 (Aq @cQ.eq_2 (Aq @hx @BV))))))))
    | false=>
     have fB:=AG G t k2 xm IJ.2.1 3;rw[G9 rfl]at fB;refine MC.aQ (aB _) func259 rfl rfl (rs:=[.tmp 4,.tmp 5]) results259 (by simp[ntmps259]) rfl fun X=>?_;simp only[ntmps259];have fw:=aiA;refine ae fw [0,1] [500] ?_;refine ag fun K1 aF=>?_;have qf:=(Aq fw @iP);refine ay [0,1,17] [500] ?_;refine al (ar (aF _ ?_));refine ag fun K2 au=>bd ?_;refine bD fw oS [0,1,20] [500] ?_;refine al (bD fw qb [0,1,36] [500] ?_);refine aI ?_;have qf:=(Aq fw (Aq @eu.eq_1 (Aq @eu.eq_2 (Aq @cQ.eq_1 (Aq @cQ.eq_2 @hx)))));refine kr hc [0,8,9] [500] ?_;refine ag fun K4 ck=>ae fw [0,8,9,47] [500] ?_;refine al (ar (ck _ ?_));refine ag fun K5 b9=>bD fw ES [0,8,51] [500] ?_;refine aI (bD (Aq fw aiS) fB [4,5] [500] ?_);exact aW (Aq fw (Aq @bN.eq_1 (Aq @cg.eq_1 (Aq @eu.eq_1 (Aq @eu.eq_2 (Aq @cQ.eq_1 (Aq @cQ.eq_2 (Aq @air (Aq @ais (Aq @ait (Aq @dQ.eq_1 @BV)))))))))))
  rw[if_neg c40]at qb ⊢;by_cases uG:t[j]? = some 48
  .rw[if_pos uG]at sk ⊢;refine MC.aQ (aB _) func259 rfl rfl (rs:=[.tmp 4,.tmp 5]) results259 (by simp[ntmps259]) rfl fun X=>?_;simp only[ntmps259];have fw:=aiA;refine ae fw [0,1] [500] ?_;refine ag fun K1 aF=>?_;have qf:=(Aq fw @iP);refine ay [0,1,17] [500] ?_;refine al (ar (aF _ ?_));refine ag fun K2 au=>bd ?_;refine bD fw oS [0,1,20] [500] ?_;refine al (bD fw qb [0,1,36] [500] ?_);refine al (bD fw sk [0,55] [500] ?_);refine aI (ae fw [4,5] [500] ?_);refine bR ?_;simp[D.le,D.le.go,aL,ab,bN,cg,dS,bN,cg,eu,cQ,dE]
  rw[if_neg uG]at sk ⊢;by_cases c49:t[j]? = some 49
  .rw[if_pos c49]at uj ⊢;refine MC.aQ (aB _) func259 rfl rfl (rs:=[.tmp 4,.tmp 5]) results259 (by simp[ntmps259]) rfl fun X=>?_;simp only[ntmps259];have fw:=aiA;refine ae fw [0,1] [500] ?_;refine ag fun K1 aF=>?_;have qf:=(Aq fw @iP);refine ay [0,1,17] [500] ?_;refine al (ar (aF _ ?_));refine ag fun K2 au=>bd ?_;refine bD fw oS [0,1,20] [500] ?_;refine al (bD fw qb [0,1,36] [500] ?_);refine al (bD fw sk [0,55] [500] ?_);refine al (bD fw uj [0,59] [500] ?_);refine aI (ae fw [4,5] [500] ?_);refine bR ?_;simp[D.le,D.le.go,aL,ab,bN,cg,dS,bN,cg,eu,cQ,dE]
  rw[if_neg c49]at uj ⊢;by_cases sY:t[j]? = some 94
  .rw[if_pos sY]at vk ⊢;have hc:=Lb G t 1 (j+1) xm (aG sY);have hq:∀ {c:Int} {p q':Nat},fK t 1 (j+1) = .err c p q'->q'=1:=fun h=>La h
   cases hr:fK t 1 (j+1) with
   | err c p q'=>
    obtain rfl:=hq hr;rw[hr]at hc;refine MC.aQ (aB _) func259 rfl rfl (rs:=[.tmp 4,.tmp 5]) results259 (by simp[ntmps259]) rfl fun X=>?_;simp only[ntmps259];have fw:=aiA;refine ae fw [0,1] [500] ?_;refine ag fun K1 aF=>?_;have qf:=(Aq fw @iP);refine ay [0,1,17] [500] ?_;refine al (ar (aF _ ?_));refine ag fun K2 au=>bd ?_;refine bD fw oS [0,1,20] [500] ?_;refine al (bD fw qb [0,1,36] [500] ?_);refine al (bD fw sk [0,55] [500] ?_);refine al (bD fw uj [0,59] [500] ?_);refine al (bD fw vk [0,63] [500] ?_);refine aI (bD (Aq fw aiP) hc [10,11] [500] ?_);refine ae fw [4,5] [500] ?_;refine bR ?_;simp[D.le,D.le.go,aL,ab,bN,cg,dS,bN,cg,eu,cQ,bB,dQ,Rs.map,bX]
   | ok s p=>
    rw[hr]at hc;refine MC.aQ (aB _) func259 rfl rfl (rs:=[.tmp 4,.tmp 5]) results259 (by simp[ntmps259]) rfl fun X=>?_;simp only[ntmps259];have fw:=aiA;refine ae fw [0,1] [500] ?_;refine ag fun K1 aF=>?_;have qf:=(Aq fw @iP);refine ay [0,1,17] [500] ?_;refine al (ar (aF _ ?_));refine ag fun K2 au=>bd ?_;refine bD fw oS [0,1,20] [500] ?_;refine al (bD fw qb [0,1,36] [500] ?_);refine al (bD fw sk [0,55] [500] ?_);refine al (bD fw uj [0,59] [500] ?_);refine al (bD fw vk [0,63] [500] ?_);refine aI (bD (Aq fw (Aq @nC.eq_1 @nC.eq_2)) hc [10,11] [500] ?_);refine ae fw [4,5] [500] ?_;refine bR ?_;simp[D.le,D.le.go,aL,ab,bN,cg,dS,bN,cg,eu,cQ,Rs.map,dE]
  rw[if_neg sY]at vk ⊢;by_cases sX:t[j]? = some 126
  .rw[if_pos sX]at zB ⊢;have hc:=Lb G t 2 (j+1) xm (aG sX);have hq:∀ {c:Int} {p q':Nat},fK t 2 (j+1) = .err c p q'->q'=2:=fun h=>La h
   cases hr:fK t 2 (j+1) with
   | err c p q'=>
    obtain rfl:=hq hr;rw[hr]at hc;refine MC.aQ (aB _) func259 rfl rfl (rs:=[.tmp 4,.tmp 5]) results259 (by simp[ntmps259]) rfl fun X=>?_;simp only[ntmps259];have fw:=aiA;refine ae fw [0,1] [500] ?_;refine ag fun K1 aF=>?_;have qf:=(Aq fw @iP);refine ay [0,1,17] [500] ?_;refine al (ar (aF _ ?_));refine ag fun K2 au=>bd ?_;refine bD fw oS [0,1,20] [500] ?_;refine al (bD fw qb [0,1,36] [500] ?_);refine al (bD fw sk [0,55] [500] ?_);refine al (bD fw uj [0,59] [500] ?_);refine al (bD fw vk [0,63] [500] ?_);refine al (bD fw zB [0,74] [500] ?_);refine aI (bD (Aq fw aiP) hc [12,13] [500] ?_);refine ae fw [4,5] [500] ?_;refine bR ?_;simp[D.le,D.le.go,aL,ab,bN,cg,dS,bN,cg,eu,cQ,bB,dQ,Rs.map,bX]
   | ok s p=>
    rw[hr]at hc;refine MC.aQ (aB _) func259 rfl rfl (rs:=[.tmp 4,.tmp 5]) results259 (by simp[ntmps259]) rfl fun X=>?_;simp only[ntmps259];have fw:=aiA;refine ae fw [0,1] [500] ?_;refine ag fun K1 aF=>?_;have qf:=(Aq fw @iP);refine ay [0,1,17] [500] ?_;refine al (ar (aF _ ?_));refine ag fun K2 au=>bd ?_;refine bD fw oS [0,1,20] [500] ?_;refine al (bD fw qb [0,1,36] [500] ?_);refine al (bD fw sk [0,55] [500] ?_);refine al (bD fw uj [0,59] [500] ?_);refine al (bD fw vk [0,63] [500] ?_);refine al (bD fw zB [0,74] [500] ?_);refine aI (bD (Aq fw (Aq @nC.eq_1 @nC.eq_2)) hc [12,13] [500] ?_);refine ae fw [4,5] [500] ?_;refine bR ?_;simp[D.le,D.le.go,aL,ab,bN,cg,dS,bN,cg,eu,cQ,Rs.map,dE]
  rw[if_neg sX]at zB ⊢;have hc:=Lb G t 3 j xm iq;have hq:∀ {c:Int} {p q':Nat},fK t 3 j = .err c p q'->q'=3:=fun h=>La h
  cases hr:fK t 3 j with
  | err c p q'=>
   obtain rfl:=hq hr;rw[hr]at hc;refine MC.aQ (aB _) func259 rfl rfl (rs:=[.tmp 4,.tmp 5]) results259 (by simp[ntmps259]) rfl fun X=>?_;simp only[ntmps259];have fw:=aiA;refine ae fw [0,1] [500] ?_;refine ag fun K1 aF=>?_;have qf:=(Aq fw @iP);refine ay [0,1,17] [500] ?_;refine al (ar (aF _ ?_));refine ag fun K2 au=>bd ?_;refine bD fw oS [0,1,20] [500] ?_;refine al (bD fw qb [0,1,36] [500] ?_);refine al (bD fw sk [0,55] [500] ?_);refine al (bD fw uj [0,59] [500] ?_);refine al (bD fw vk [0,63] [500] ?_);refine al (bD fw zB [0,74] [500] ?_);refine al (ar (au _ ?_));refine bD (Aq fw aiP) hc [14,15] [500] ?_;refine ae fw [4,5] [500] ?_;refine bR ?_;simp[D.le,D.le.go,aL,ab,bN,cg,dS,bN,cg,eu,cQ,bB,dQ,Rs.map,bX]
  | ok s p=>
   rw[hr]at hc;refine MC.aQ (aB _) func259 rfl rfl (rs:=[.tmp 4,.tmp 5]) results259 (by simp[ntmps259]) rfl fun X=>?_;simp only[ntmps259];have fw:=aiA;refine ae fw [0,1] [500] ?_;refine ag fun K1 aF=>?_;have qf:=(Aq fw @iP);refine ay [0,1,17] [500] ?_;refine al (ar (aF _ ?_));refine ag fun K2 au=>bd ?_;refine bD fw oS [0,1,20] [500] ?_;refine al (bD fw qb [0,1,36] [500] ?_);refine al (bD fw sk [0,55] [500] ?_);refine al (bD fw uj [0,59] [500] ?_);refine al (bD fw vk [0,63] [500] ?_);refine al (bD fw zB [0,74] [500] ?_);refine al (ar (au _ ?_));refine bD (Aq fw (Aq @nC.eq_1 @nC.eq_2)) hc [14,15] [500] ?_;refine ae fw [4,5] [500] ?_;refine bR ?_;simp[D.le,D.le.go,aL,ab,bN,cg,dS,bN,cg,eu,cQ,Rs.map,dE]
theorem FC {r r':Nat} (h:r≠r') (row:Row):qR r r' (aw [(r,row)])=aw [(r',row.tr (gR r r') (gQ r r'))]:=by
 funext q;unfold qR;by_cases h1:q=r'
 .subst h1;simp[aw,List.lookup]
 .rw[if_neg h1];by_cases h2:q=r
  .subst h2;simp[aw,List.lookup,h1,beq_eq_false_iff_ne.2 h1]
  .simp[aw,List.lookup,h2,beq_eq_false_iff_ne.2 h1,beq_eq_false_iff_ne.2 h2]
def rW:Option Ex->D
 | some x=>dE x
 | none=>.v .nilIface
theorem aiQ:type_of% (Aq @rW.eq_1 (Aq @rW.eq_2 (Aq @air (Aq @ais @ait)))):=(Aq @rW.eq_1 (Aq @rW.eq_2 (Aq @air (Aq @ais @ait))))
theorem acg (G:aC) (t:List UInt8) (ht:t.length < 2^60):aD prog G 64 [dS t] (.bx [rW (iH t).1,bB (iH t).2]):=by
 unfold iH;by_cases hl:2000 < t.length
 .have gr:(2000:Int) < (t.length:Int):=aa
  rw[if_pos hl];refine aD.aQ (aB _) func64 rfl rfl (rs:=[.tmp 2,.tmp 3]) results64 (by simp[ntmps64]) fun X=>?_;simp only[ntmps64,List.map];have fw:=aiA;refine ae fw [0] [] ?_;refine ag fun K1 aF=>?_;have qf:=(Aq fw (Aq @bQ (Aq @hl @gr)));refine ay [0,9] [] ?_;refine aI (ae fw [2,3] [] ?_);exact aW (Aq fw aiQ)
 have gr:¬ (2000:Int) < (t.length:Int):=aa
 rw[if_neg hl];have ni:=P8 G t aa 20 (ab7 G t aa 20 bO) 0 (aib _)
 cases hr:lr t (cD t 20) 0 with
 | err c p q=>
  rw[hr]at ni;refine aD.aQ (aB _) func64 rfl rfl (rs:=[.tmp 2,.tmp 3]) results64 (by simp[ntmps64]) fun X=>?_;simp only[ntmps64,List.map];have fw:=aiA;refine ae fw [0] [] ?_;refine ag fun K1 aF=>?_;have qf:=(Aq fw (Aq @bQ (Aq @hl @gr)));refine ay [0,9] [] ?_;refine al (ar (aF _ ?_));refine ae fw [0,4] [13] ?_;refine AW.imp (aK.dM (r:=13) (r':=500) trivial ak) ?_;refine AW.st (by simp[gR,gQ,Go.Av.dM,FC];rfl) ?_;refine bD (Aq fw aiN) ni [0,4,5,6] [500] ?_;refine ag fun K2 au=>ae fw [0,4,5,6,20] [500] ?_;refine aI (ae fw [2,3] [] ?_);exact aW (Aq fw aiQ)
 | ok x k=>
  rw[hr]at ni;have hk:=(ur (n9 t 20) 0 x k (aib _) hr).2;have gX:=Dm G t k aa hk;have iq:=lx hk;have fB:=AG G t (bw t k) aa iq 3;rw[x3 hk]at fB;obtain⟨tx,cx,hx⟩:=kJ x;dsimp only;generalize bw t k=j at gX iq fB ⊢;by_cases hj:j < t.length
  .have eN:(j:Int) < (t.length:Int):=aa
   rw[if_pos hj];refine aD.aQ (aB _) func64 rfl rfl (rs:=[.tmp 2,.tmp 3]) results64 (by simp[ntmps64]) fun X=>?_;simp only[ntmps64,List.map];have fw:=aiA;refine ae fw [0] [] ?_;refine ag fun K1 aF=>?_;have qf:=(Aq fw (Aq @bQ (Aq @hl @gr)));refine ay [0,9] [] ?_;refine al (ar (aF _ ?_));refine ae fw [0,4] [13] ?_;refine AW.imp (aK.dM (r:=13) (r':=500) trivial ak) ?_;refine AW.st (by simp[gR,gQ,Go.Av.dM,FC];rfl) ?_;have qf:=(Aq fw (Aq @eu.eq_1 (Aq @eu.eq_2 (Aq @cQ.eq_1 (Aq @cQ.eq_2 @hx)))));refine kr ni [0,4,5,6] [500] ?_;refine ag fun K2 au=>ae fw [0,4,5,6,20] [500] ?_;refine al (ar (au _ ?_));refine ag fun K3 aU=>bD fw gX [0,4,5] [500] ?_;have qf:=(Aq fw (Aq @bQ (Aq @hj @eN)));refine ay [4,5,30] [500] ?_;refine aI (bD (Aq fw aiS) fB [2,3] [] ?_);exact aW (Aq fw aiQ)
  .have eN:¬ (j:Int) < (t.length:Int):=aa
   rw[if_neg hj];refine aD.aQ (aB _) func64 rfl rfl (rs:=[.tmp 2,.tmp 3]) results64 (by simp[ntmps64]) fun X=>?_;simp only[ntmps64,List.map];have fw:=aiA;refine ae fw [0] [] ?_;refine ag fun K1 aF=>?_;have qf:=(Aq fw (Aq @bQ (Aq @hl @gr)));refine ay [0,9] [] ?_;refine al (ar (aF _ ?_));refine ae fw [0,4] [13] ?_;refine AW.imp (aK.dM (r:=13) (r':=500) trivial ak) ?_;refine AW.st (by simp[gR,gQ,Go.Av.dM,FC];rfl) ?_;have qf:=(Aq fw (Aq @eu.eq_1 (Aq @eu.eq_2 (Aq @cQ.eq_1 (Aq @cQ.eq_2 @hx)))));refine kr ni [0,4,5,6] [500] ?_;refine ag fun K2 au=>ae fw [0,4,5,6,20] [500] ?_;refine al (ar (au _ ?_));refine ag fun K3 aU=>bD fw gX [0,4,5] [500] ?_;have qf:=(Aq fw (Aq @bQ (Aq @hj @eN)));refine ay [4,5,30] [500] ?_;refine al (ar (aU _ ?_));refine ae fw [2,3] [] ?_;exact aW (Aq fw (Aq @rW.eq_1 (Aq @rW.eq_2 (Aq @air (Aq @ais (Aq @ait @hx))))))
theorem Gv {l:List Ex} {i:Nat} (hi:i < l.length):gK (l.take i)+bE l[i]<=gK l:=by
 have h1:=Ao (l.take i) [l[i]];rw[<- agB hi]at h1;have h2:=Ao (l.take (i+1)) (l.drop (i+1));rw[ah6]at h2;simp only[gK]at h1;omega
