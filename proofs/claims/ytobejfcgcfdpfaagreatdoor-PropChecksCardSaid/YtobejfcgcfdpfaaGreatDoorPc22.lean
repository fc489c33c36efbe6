/- Parts. -/
import Derived.Test.YtobejfcgcfdpfaaGreatDoorPc20
import Derived.Test.YtobejfcgcfdpfaaGreatDoorPc21
import Derived.Shelf.Small.Strs
import Derived.Lib.IndexLaws
import Derived.Shelf.Strings.OnBuilder
set_option linter.unusedSimpArgs false
set_option linter.unusedVariables false
set_option maxHeartbeats 16000000
open Go.Proofs.Tryz
namespace Go.Proofs.YtobejfcgcfdpfaaGreatDoor
open Go.Av
open Go.Shelf
def cG (t:List UInt8) (i:Int):Row:=.box 129 [.d (dS t),int i]
def bZ (t:List UInt8) (i:Int):List (Nat×Row):=[(500,cG t i)]
theorem CQ (a:UInt8) (n:Nat) (hn:n < 256):((a.toNat:Int)=(n:Int))↔a=UInt8.ofNat n:=by
 constructor
 .intro h
  have:a.toNat=n:=aa
  rw[<- this,UInt8.ofNat_toNat]
 .rintro rfl;simp;omega
theorem aor:type_of% (Aq @an8 (Aq @bZ.eq_1 (Aq @cG.eq_1 @an9))):=(Aq @an8 (Aq @bZ.eq_1 (Aq @cG.eq_1 @an9)))
theorem Gg (G:aB) (t:List UInt8) (i:Nat) (ht:t.length < 2^60) (hi:i<=t.length) :
  MC prog G [500] 60 [.ref 500 0 0] (aw (bZ t i)) (.d (.bz [])) (aw (bZ t (bB t i))):=by
 refine MC.aO (ay _) func60 rfl rfl (rs:=[]) results60 (by simp[ntmps60]) rfl fun X=>?_;simp only[ntmps60];have fw:=aor;refine ch (S:=Nat) (fun k=>k<=t.length/\bB t k=bB t i) (fun k=>⟨bg [(0,.ref 500 0 0)],aw [(500,.box 129 [.d (dS t),int k])]⟩) (fun k=>t.length - k) i ?_ ⟨hi,rfl⟩ ?_
 .refine bo fw
 .rintro k ⟨hk,hs⟩;refine ag fun K1 aF=>?_;by_cases dO:k < t.length
  .have acy:(k:Int) < (t.length:Int):=aa
   have iG:t.getD k 0=t[k]:=by simp[ame,dO]
   by_cases hb:((t[k]).toNat:Int)=32
   .have qf:=(Aq fw (Aq @bX (Aq @dM (Aq @dO @hb))));refine il [0,23] [500] ?_;refine aJ (aq (aF _ ?_));refine bf (cA fw ?_);try simp only[aT,aW]
    have j2:t[k]? = some 32:=by
     rw[AT dO,(CQ _ 32 bD).1 hb];rfl
    refine aZ.mk (k+1) ⟨aa,?_⟩ aa ?_
    .rw[<- Pn j2];exact hs
    refine bo fw
   .have qf:=(Aq fw (Aq @bX (Aq @dM (Aq @dO @hb))));refine il [0,23] [500] ?_;refine al (bL ?_)
    have j2:t[k]?≠some 32:=by
     rw[AT dO];intro h;apply hb;rw[AI h];rfl
    rw[AG j2]at hs;rw[<- hs];simp[bZ,cG,dS,D.le_refl]
  .obtain rfl:k=t.length:=aa
   have qf:=(Aq fw (Aq @bX @dM));refine il [0,23] [500] ?_;refine al (bL ?_)
   have j2:t[t.length]?≠some 32:=ak
   rw[AG j2]at hs;rw[<- hs];simp[bZ,cG,dS,D.le_refl]
theorem JD (G:aB) (t:List UInt8) (i:Nat) (ht:t.length < 2^60) (hi:i<=t.length) (c:UInt8) :
  MC prog G [500] 151 [.ref 500 0 0,.d (.v (.int .u8 c.toNat))] (aw (bZ t i)) (.d (.v (.bool (eX t c i).1))) (aw (bZ t (eX t c i).2)):=by
 have fI:=Gg G t i ht hi;have jj:=mw hi;unfold eX;generalize bB t i=j at fI jj ⊢;by_cases mb:j < t.length
 .rw[AT mb];by_cases hb:t[j]=c
  .have br:((t[j]).toNat:Int)=(c.toNat:Int):=by rw[hb]
   rw[if_pos (by rw[hb])];refine MC.aO (ay _) func151 rfl rfl (rs:=[.tmp 4]) results151 (by simp[ntmps151]) rfl fun X=>?_;simp only[ntmps151];have fw:=aor;refine ae fw [0,1] [500] ?_;refine bK fw fI [0,1] [500] ?_;refine ag fun K1 aF=>?_;have qf:=(Aq fw (Aq @bX (Aq @dM (Aq @mb @br))));refine il [0,29] [500] ?_;refine aJ (ae fw [] [500] ?_);refine ae fw [4] [500] ?_;exact aY (Aq fw (Aq @bZ.eq_1 @cG.eq_1))
  .have br:¬ ((t[j]).toNat:Int)=(c.toNat:Int):=fun h=>hb (UInt8.toNat_inj.1 aa);rw[if_neg (fun h=>hb (AI h))];refine MC.aO (ay _) func151 rfl rfl (rs:=[.tmp 4]) results151 (by simp[ntmps151]) rfl fun X=>?_;simp only[ntmps151];have fw:=aor;refine ae fw [0,1] [500] ?_;refine bK fw fI [0,1] [500] ?_;refine ag fun K1 aF=>?_;have qf:=(Aq fw (Aq @bX (Aq @dM (Aq @mb @br))));refine il [0,29] [500] ?_;refine al (aq (aF _ ?_));refine ae fw [4] [500] ?_;exact aY (Aq fw (Aq @bZ.eq_1 @cG.eq_1))
 .obtain rfl:j=t.length:=aa
  rw[if_neg ak];refine MC.aO (ay _) func151 rfl rfl (rs:=[.tmp 4]) results151 (by simp[ntmps151]) rfl fun X=>?_;simp only[ntmps151];have fw:=aor;refine ae fw [0,1] [500] ?_;refine bK fw fI [0,1] [500] ?_;refine ag fun K1 aF=>?_;have qf:=(Aq fw (Aq @bX @dM));refine il [0,29] [500] ?_;refine al (aq (aF _ ?_));refine ae fw [4] [500] ?_;exact aY (Aq fw (Aq @bZ.eq_1 @cG.eq_1))
theorem Dw (G:aB) (t:List UInt8) (i:Nat) (ht:t.length < 2^60) (hi:i<=t.length) (e:Int) :
  MC prog G [500] 61 [.ref 500 0 0,.d (ab e)] (aw (bZ t i)) (.d (bG (some (e,some (bB t i))))) (aw (bZ t (bB t i))):=by
 have fI:=Gg G t i ht hi;generalize bB t i=j at fI ⊢;refine MC.aO (ay _) func61 rfl rfl (rs:=[.tmp 4]) results61 (by simp[ntmps61]) rfl fun X=>?_;simp only[ntmps61];have fw:=aor;refine ae fw [0,1] [500] ?_;refine bK fw fI [0,1] [500] ?_;refine ae fw [4] [500,13] ?_;refine dZ fw 13 ?_;exact aY (Aq fw (Aq @bZ.eq_1 (Aq @cG.eq_1 (Aq @aoi (Aq @aoj @aok)))))
def r3:List UInt8:=[32,38,124,33,94,126,40,41,48,49,61]
theorem NC (l:List UInt8) (c:UInt8):Lib.indexByte l c < 0↔c ∉ l:=by
 have qH:=Lib.indexByte_ge l c;constructor
 .intro h hm;obtain⟨k,hk,rfl⟩:=amz.1 hm;exact Lib.indexByte_none (show Lib.indexByte l l[k] = -1 by omega) k (AT hk)
 .intro hm;apply amQ;intro h;obtain⟨n,hn⟩:=ami (show 0<=Lib.indexByte l c by omega);exact hm (amZ (Lib.indexByte_some hn).1)
theorem Us (G:aB) (l:List UInt8) (c:UInt8):aD prog G 87 [dS l,.v (.int .u8 c.toNat)] (ab (Lib.indexByte l c)):=by
 refine aD.tS (iV.of func87 rfl rfl) fun X w vs bp bQ cW=>?_
 obtain⟨a,b,rfl⟩:∃ a b,vs = #[a,b]:=by
  match vs,bp with
  | ⟨[a,b]⟩,_=>exact⟨a,b,rfl⟩
 have ha:=(bQ 0 a _ rfl rfl).scalar;have hb:=(bQ 1 b _ rfl rfl).scalar;subst ha hb;have ju:=Any.strings_IndexByte (P:=prog) (ρ:=Tryz.NQ) { Tryz.NP with } (bs l) c.toNat w;rw[show (c.toNat:Int).toNat.toUInt8=c by simp]at ju;exact ju.mono fun e w' ⟨he,hw⟩=>⟨_,he,by rw[hw];exact cX.refl _,.v _⟩
end Go.Proofs.YtobejfcgcfdpfaaGreatDoor
namespace Go.Proofs.YtobejfcgcfdpfaaGreatDoor
open Go.Av
theorem QD (t:List UInt8) (i j:Nat):(bs t).extract i j=bs ((t.drop i).take (j - i)):=ByteArray.ext (by
 rw[ByteArray.data_extract];unfold bs;apply amX.1
 simp[List.take_drop,List.extract])
theorem AD:(⟨#[32,38,124,33,94,126,40,41,48,49,61]⟩:ByteArray)=bs r3:=rfl
def pa:Rs (List UInt8)->D
 | .ok s _=>.bz [dS s,.v .nilIface]
 | .err c p _=>.bz [dS [],bG (some (c,some p))]
def dh {α:Type}:Rs α->Nat
 | .ok _ i=>i
 | .err _ p _=>p
theorem Cm (c:UInt8):c∈r3↔(nH c=true\/c=48\/c=49):=by
 simp only[r3,nH,amx,List.not_mem_nil,or_false,am1];constructor
 .rintro (h | h | h | h | h | h | h | h | h | h | h)<;>simp[h]
 .rintro ((h | h | h | h | h | h | h | h | h) | h | h)<;>simp[h]
def yL (t:List UInt8) (j k:Nat):Prop:=k=j\/(j < k/\vX t j=true/\sY t (j+1)=sY t k)
theorem vo {t:List UInt8} {j k:Nat} (h:yL t j k) (hk:k<=t.length) (hstop:∀ hk:k < t.length,t[k]∈r3/\(j < k->t[k]≠48/\t[k]≠49)):k=rb t j:=by
 unfold rb
 rcases h with rfl | ⟨zF,hh,he⟩
 .by_cases gX:k < t.length
  .have:=(Cm _).1 (hstop gX).1
   have ji:vX t k=false:=by
    unfold vX;rw[AT gX]
    rcases this with h | h | h<;>simp[h]
   rw[ji];rfl
  .have ji:vX t k=false:=by
    unfold vX;rw[anD aa]
   rw[ji];rfl
 .rw[hh,if_pos rfl,he,ajN];intro gX;obtain⟨h1,h2⟩:=hstop gX
  rcases (Cm _).1 h1 with h | h | h
  .exact h
  .exact absurd h (h2 zF).1
  .exact absurd h (h2 zF).2
theorem C9 {t:List UInt8} {j k:Nat} (h:yL t j k) (hk:k < t.length) (gw:t[k] ∉ r3\/(j < k/\(t[k]=48\/t[k]=49))):yL t j (k+1):=by
 have hs:nH t[k]=false:=by
  rcases gw with h | ⟨_,h⟩
  .cases hc:nH t[k] with
   | false=>rfl
   | true=>exact absurd ((Cm _).2 (.inl hc)) h
  .rcases h with h | h<;>rw[h]<;>rfl
 right
 rcases h with rfl | ⟨zF,hh,he⟩
 .refine⟨aa,?_,rfl⟩
  rcases gw with h | ⟨h,_⟩
  .have h1:t[k]≠48:=fun e=>h ((Cm _).2 (.inr (.inl e)));have h2:t[k]≠49:=fun e=>h ((Cm _).2 (.inr (.inr e)));unfold vX;rw[AT hk];simp[hs,h1,h2]
  .omega
 .refine⟨aa,hh,?_⟩;rw[he,ajM hk hs]
theorem aoJ:type_of% (Aq @aoi (Aq @aoj @aok)):=(Aq @aoi (Aq @aoj @aok))
theorem PZ (G:aB) (t:List UInt8) (q i:Nat) (ht:t.length < 2^60) (hi:i<=t.length) :
  MC prog G [500] 183 [.ref 500 0 0] (aw (bZ t i)) (.d (pa (gD t q i))) (aw (bZ t (dh (gD t q i)))):=by
 have fI:=Gg G t i ht hi;have jj:=mw hi;have xD:=AF hi;unfold gD;generalize bB t i=j at fI jj xD ⊢;have D4:=Dw G t j ht jj 3;have D5:=Dw G t j ht jj 5;rw[xD]at D4 D5;have bn:=JI t j;have het:=PH jj;have sL:(t.drop j).take (rb t j - j)=jJ t j:=rfl
 have M9:(jJ t j).length < 2^60:=by
  rw[<- sL,amw,amF];omega
 have mN:=Vb G (jJ t j) M9;refine MC.aO (ay _) func183 rfl rfl (rs:=[.tmp 2,.tmp 3]) results183 (by simp[ntmps183]) rfl fun X=>?_;simp only[ntmps183];have fw:=aor;refine ae fw [0] [500] ?_;refine bK fw fI [0] [500] ?_;refine ae fw [0,4] [500] ?_;refine ag fun K1 aF=>ch (S:=Nat) (fun k=>j<=k/\k<=t.length/\yL t j k) (fun k=>⟨bg [(0,.ref 500 0 0),(4,int k)],aw [(500,.box 129 [.d (dS t),int j])]⟩) (fun k=>t.length - k) j ?_ ⟨amh _,jj,.inl rfl⟩ ?_
 .refine bo fw
 .rintro k ⟨zF,hk,dz⟩;refine ag fun K2 au=>?_
  refine (fun gw hstop=>?_) (fun (σ:St) (hn:yL t j (k+1)) (dO:k < t.length) himp=>au σ (AW.imp (τ:=⟨bg [(0,.ref 500 0 0),(4,int k)],aw [(500,.box 129 [.d (dS t),int j])]⟩) himp ?_))
   (fun (σ:St) (he:k=rb t j) himp=>aF σ (AW.imp (τ:=⟨bg [(0,.ref 500 0 0),(4,int k)],aw [(500,.box 129 [.d (dS t),int j])]⟩) himp ?_))
  .by_cases dO:k < t.length
   .have gR:=Us G r3 t[k];have HB:=NC r3 t[k];by_cases hm:t[k]∈r3
    .have BU:¬ Lib.indexByte r3 t[k] < 0:=fun h=>HB.1 h hm;by_cases lT:j < k
     .have nw:(j:Int) < (k:Int):=aa
      by_cases sj:((t[k]).toNat:Int)=48
      .have hc:t[k]=48:=(CQ _ 48 bD).1 sj;have qf:=(Aq fw (Aq @bX (Aq @dM (Aq @AD (Aq @dO (Aq @BU (Aq @nw (Aq @lT @sj))))))));refine eF gR [0,4,63] [500] ?_;refine aJ (aq (gw _ (C9 dz dO (.inr ⟨lT,.inl hc⟩)) dO ?_));refine bo fw
      .by_cases ux:((t[k]).toNat:Int)=49
       .have hc:t[k]=49:=(CQ _ 49 bD).1 ux;have qf:=(Aq fw (Aq @bX (Aq @dM (Aq @AD (Aq @dO (Aq @BU (Aq @nw (Aq @lT (Aq @sj @ux)))))))));refine eF gR [0,4,63] [500] ?_;refine aJ (aq (gw _ (C9 dz dO (.inr ⟨lT,.inr hc⟩)) dO ?_));refine bo fw
       .have qf:=(Aq fw (Aq @bX (Aq @dM (Aq @AD (Aq @dO (Aq @BU (Aq @nw (Aq @lT (Aq @sj @ux)))))))));refine eF gR [0,4,63] [500] ?_;refine al (bL (hstop _ (vo dz hk fun _=>⟨hm,fun _=>⟨fun e=>sj (by rw[e];rfl),fun e=>ux (by rw[e];rfl)⟩⟩) ?_));refine bo fw
     .have nw:¬ (j:Int) < (k:Int):=aa
      have qf:=(Aq fw (Aq @bX (Aq @dM (Aq @AD (Aq @dO (Aq @BU (Aq @nw @lT)))))));refine eF gR [0,4,63] [500] ?_;refine al (bL (hstop _ (vo dz hk fun _=>⟨hm,fun h=>absurd h lT⟩) ?_));refine bo fw
    .have BU:Lib.indexByte r3 t[k] < 0:=HB.2 hm;have qf:=(Aq fw (Aq @bX (Aq @dM (Aq @AD (Aq @dO @BU)))));refine eF gR [0,4,63] [500] ?_;refine aJ (aq (gw _ (C9 dz dO (.inl hm)) dO ?_));refine bo fw
   .obtain rfl:k=t.length:=aa
    by_cases lT:j < t.length
    .have nw:(j:Int) < (t.length:Int):=aa
     have qf:=(Aq fw (Aq @bX (Aq @dM (Aq @AD (Aq @nw @lT)))));refine ax [0,4,63] [500] ?_;refine al (bL (hstop _ (vo dz hk fun h=>absurd h dO) ?_));refine bo fw
    .have nw:¬ (j:Int) < (t.length:Int):=aa
     have qf:=(Aq fw (Aq @bX (Aq @dM (Aq @AD (Aq @nw @lT)))));refine ax [0,4,63] [500] ?_;refine al (bL (hstop _ (vo dz hk fun h=>absurd h dO) ?_));refine bo fw
  .refine bf (cA fw ?_);(try simp only[aT,aW]);refine aZ.mk (k+1) ⟨aa,aa,hn⟩ aa ?_;refine bo fw
  .subst he;clear aF au;have EK:List.take (rb t j - j) (List.drop j t)=jJ t j:=sL;have qf:=(Aq fw (Aq @bX (Aq @QD (Aq @bn (Aq @het @EK)))));refine il [0,4,5] [500] ?_;refine ag fun K3 aX=>?_;by_cases hs:jJ t j=[]
   .refine rg [0,4,5,77] [500] (dT rfl) fun K' ao=>?_;(repeat refine aK fun Kq af=>?_;simp[ab,bZ,cG,dS,hs,cu,bA,bu];(repeat refine⟨aa,?_⟩);refine af _ ?_);refine bH (ao _ (AW.st (by simp[ab,bZ,cG,dS,hs,cu,bA,bu];rfl) ?_));refine aJ (bK (Aq fw aoJ) D4 [2,3] [500] ?_);refine bW ?_;simp[D.le,D.le.go,aP,ab,bZ,cG,dS,bZ,cG,pa,dh,bG,cu,hs]
   .have wz:(jJ t j == [])=false:=by simpa using hs
    have EC:(jJ t j).isEmpty=false:=by rw[anC];exact hs
    refine rg [0,4,5,77] [500] (dT rfl) fun K' ao=>?_;(repeat refine aK fun Kq af=>?_;simp[ab,bZ,cG,dS,cu,bA,bu,hs,wz,EC];(repeat refine⟨aa,?_⟩);refine af _ ?_);refine bH (ao _ (AW.st (by simp[ab,bZ,cG,dS,cu,bA,bu,hs,wz,EC];rfl) ?_));refine al (aq (aX _ ?_));refine ag fun K4 b6=>?_
    cases hn:jQ (jJ t j) with
    | false=>
     rw[hn]at mN;refine bh fw mN [0,4,5,82] [500] ?_;refine aJ (bK (Aq fw aoJ) D5 [2,3] [500] ?_);refine bW ?_;simp[D.le,D.le.go,aP,ab,bZ,cG,dS,bZ,cG,pa,dh,bG,cu,hs,hn]
    | true=>
     rw[hn]at mN;refine bh fw mN [0,4,5,82] [500] ?_;refine al (aq (b6 _ ?_));refine ae fw [5] [500] ?_;refine ae fw [2,3] [500] ?_;exact aY (Aq fw (Aq @bZ.eq_1 (Aq @cG.eq_1 (Aq @pa.eq_1 (Aq @pa.eq_2 (Aq @dh.eq_1 (Aq @dh.eq_2 (Aq @hs @hn))))))))
end Go.Proofs.YtobejfcgcfdpfaaGreatDoor
namespace Go.Proofs.YtobejfcgcfdpfaaGreatDoor
theorem W8 {α:Type} {t:List UInt8} {s:UInt8} {f:Nat->Rs α} (hf:mC t f):∀ (n m i:Nat) (acc:List α),i<=t.length->t.length+1 - i<=n->t.length+1 - i<=m->jn t s f n i acc=jn t s f m i acc
 | 0,_,i,_,hi,h,_=>aa
 | _+1,0,i,_,hi,_,h=>aa
 | n+1,m+1,i,acc,hi,h1,h2=>by
  rw[jn,jn]
  cases cE:f i with
  | err c p q=>rfl
  | ok x j=>
   obtain⟨g1,g2⟩:=hf i x j hi cE;obtain⟨t1,t2,t3⟩:=pM (c:=s) g2;dsimp only;split
   .exact W8 hf n m _ _ t2 aa aa
   .rfl
def mv {α:Type} (t:List UInt8) (s:UInt8) (f:Nat->Rs α) (i:Nat) (acc:List α):Rs (List α):=jn t s f (t.length+1 - i) i acc
theorem wN {α:Type} {t:List UInt8} {s:UInt8} {f:Nat->Rs α} (hf:mC t f) {i:Nat} (hi:i<=t.length) (acc:List α):mv t s f i acc=match f i with
  | .err c p _=>.err c p 0
  | .ok x j=>if (eX t s j).1 then mv t s f (eX t s j).2 (acc ++ [x]) else .ok (acc ++ [x]) (eX t s j).2:=by
 unfold mv;obtain⟨n,hn⟩:∃ n,t.length+1 - i=n+1:=⟨t.length - i,aa⟩;rw[hn,jn]
 cases cE:f i with
 | err c p q=>rfl
 | ok x j=>
  obtain⟨g1,g2⟩:=hf i x j hi cE;obtain⟨t1,t2,t3⟩:=pM (c:=s) g2;dsimp only;split
  .exact W8 hf _ _ _ _ t2 aa aa
  .rfl
theorem Pk {α:Type} {t:List UInt8} {s:UInt8} {f:Nat->Rs α}:∀ (n i:Nat) (acc:List α) {c:Int} {p q:Nat},jn t s f n i acc = .err c p q->q=0
 | 0,_,_,_,_,_,h=>by simp only[jn,Rs.err.injEq]at h;omega
 | n+1,i,acc,c,p,q,h=>by
  rw[jn]at h;split at h
  .simp only[Rs.err.injEq]at h;omega
  .split at h
   .exact Pk n _ _ h
   .cases h
theorem Kz {l:List Ex} (h:l.length≠1):vr l = .and l:=by
 match l,h with
 | [],_=>rfl
 | [_],h=>exact absurd rfl h
 | _ :: _ :: _,_=>rfl
theorem KA {l:List Ex} (h:l.length≠1):vt l = .or l:=by
 match l,h with
 | [],_=>rfl
 | [_],h=>exact absurd rfl h
 | _ :: _ :: _,_=>rfl
open Go.Av
mutual
def dE:Ex->D
 | .iW b=>.cC 141 (.v (.bool b))
 | .bit s=>.cC 134 (dS s)
 | .jV s=>.cC 135 (dS s)
 | .jL s=>.cC 136 (dS s)
 | .not e=>.cC 143 (.agg [dE e])
 | .and l=>.cC 145 (.sl none (Dn l))
 | .or l=>.cC 148 (.sl none (Dn l))
def Dn:List Ex->List (List D)
 | []=>[]
 | e :: l=>[dE e] :: Dn l
end
theorem vv:∀ l:List Ex,Dn l=l.map fun e=>[dE e]
 | []=>rfl
 | e :: l=>by rw[Dn,vv l];rfl
theorem js (e:Ex):∃ t y,dE e = .cC t y:=by
 cases e<;>simp only[dE]<;>exact⟨_,_,rfl⟩
def Bd (l:List Ex):D:=.sl none (l.map fun e=>[dE e])
def dQ (q:Nat):D:=if q=1 then .cC 135 (dS []) else if q=2 then .cC 136 (dS []) else if q=3 then .cC 134 (dS []) else .v .nilIface
def eS:Rs Ex->D
 | .ok x _=>.bz [dE x,.v .nilIface]
 | .err c p q=>.bz [dQ q,bG (some (c,some p))]
def o9:Rs (List Ex)->D
 | .ok l _=>.bz [Bd l,.v .nilIface]
 | .err c p _=>.bz [.sl (some false) [],bG (some (c,some p))]
theorem aoE:type_of% (Aq @eS.eq_1 (Aq @eS.eq_2 (Aq @aoi (Aq @aoj @aok)))):=(Aq @eS.eq_1 (Aq @eS.eq_2 (Aq @aoi (Aq @aoj @aok))))
theorem W9 (G:aB) (t:List UInt8) (ht:t.length<=2000) (g:FuncId) (s:UInt8) (sn:Int) (gy:(s.toNat:Int)=sn) (d:Int) (f:Nat->Rs Ex) (hf:mC t f)
  (fQ:∀ i,i<=t.length->MC prog G [500] g [.ref 500 0 0,.d (ab d)] (aw (bZ t i)) (.d (eS (f i))) (aw (bZ t (dh (f i))))) (i:Nat) (hi:i<=t.length) :
  MC prog G [500] 110 [.ref 500 0 0,.d (.v (.int .u8 sn)),.d (ab d),.bm g (.ref 500 0 0)] (aw (bZ t i)) (.d (o9 (mv t s f i []))) (aw (bZ t (dh (mv t s f i [])))):=by
 generalize hR:mv t s f i []=R;refine MC.aO (ay _) func110 rfl rfl (rs:=[.tmp 8,.tmp 9]) results110 (by simp[ntmps110]) rfl fun X=>?_;simp only[ntmps110];have fw:=aor;refine ae fw [0,1,2,3] [500] ?_;refine ae fw [0,1,2,3,10] [500] ?_;refine ch (S:=Nat×List Ex) (fun z=>z.1<=t.length/\z.2.length<=z.1/\mv t s f z.1 z.2=R) (fun z=>⟨bg [(0,.ref 500 0 0),(1,.d (.v (.int .u8 sn))),(2,.d (ab d)),(3,.bm g (.ref 500 0 0)),(10,.own 300 0 z.2.length)],aw [(500,.box 129 [.d (dS t),int z.1]),(300,.sl 27 1 (z.2.map fun e=>[dE e]))]⟩) (fun z=>t.length - z.1) (i,[]) ?_ ⟨hi,ak,hR⟩ ?_
 .refine (aL.lO 10 300 27 1 rfl rfl).trans ?_;refine bo fw
 .rintro⟨k,acc⟩ ⟨hk,LI,hs⟩;dsimp only at hk LI hs ⊢;have hc:=fQ k hk;rw[wN hf hk]at hs;refine bf ?_
  cases qG:f k with
  | err c p q=>
   rw[qG]at hc hs;dsimp only at hs;subst hs;refine bK (Aq fw aoE) hc [0,1,2,3,10,11,12] [500,300] ?_;refine ag fun K1 aF=>ae fw [0,1,2,3,10,11,12,20] [500,300] ?_;refine aJ (ae fw [8,9] [500] ?_);exact aY (Aq fw (Aq @bZ.eq_1 (Aq @cG.eq_1 (Aq @o9.eq_1 (Aq @o9.eq_2 (Aq @dh.eq_1 (Aq @dh.eq_2 (Aq @aoi (Aq @aoj @aok)))))))))
  | ok x j=>
   rw[qG]at hc hs;dsimp only at hs;obtain⟨g1,g2⟩:=hf k x j hk qG;have dA:=JD G t j aa g2 s;rw[gy]at dA;obtain⟨t1,t2,t3⟩:=pM (c:=s) g2;obtain⟨tx,cx,hx⟩:=js x;have qf:=(Aq fw (Aq @eS.eq_1 (Aq @eS.eq_2 (Aq @dh.eq_1 (Aq @dh.eq_2 @hx)))));refine ko hc [0,1,2,3,10,11,12] [500,300] ?_;refine ag fun K1 aF=>ae fw [0,1,2,3,10,11,12,20] [500,300] ?_;refine al (aq (aF _ ?_));refine rg [0,1,2,3,10] [500,300] (dT rfl) fun K' ao=>?_;(repeat refine aK fun Kq af=>?_;simp[ab,bZ,cG,dS,sh];(repeat refine⟨aa,?_⟩);refine af _ ?_);refine bH (ao _ (AW.st (by simp[ab,bZ,cG,dS,sh];rfl) ?_))
   cases gz:eX t s j with
   | mk b k2=>
   rw[gz]at hs dA t1 t2 t3;dsimp only at hs dA t1 t2 t3
   cases b with
   | true=>
    rw[if_pos rfl]at hs;have aG:=t3 rfl;refine bK fw dA [0,1,2,3,10,29] [500,300] ?_;refine al (aq ?_);refine aZ.mk (k2,acc ++ [x]) ⟨t2,by simp;omega,hs⟩ (by dsimp only;omega) ?_;refine bo (Aq fw @hx)
   | false=>
    rw[if_neg ak]at hs;subst hs;refine bK fw dA [0,1,2,3,10,29] [500,300] ?_;refine aJ (AW.imp (aL.freeze 300 bD) ?_);refine AW.st (by simp[ab,bZ,cG,dS];rfl) ?_;refine ae fw [8,9] [500] ?_;exact aY (Aq fw (Aq @bZ.eq_1 (Aq @cG.eq_1 (Aq @o9.eq_1 (Aq @o9.eq_2 (Aq @Bd.eq_1 (Aq @dh.eq_1 (Aq @dh.eq_2 @hx))))))))
theorem YK (G:aB) (t:List UInt8) (ht:t.length<=2000) (d:Nat) (lH:∀ i,i<=t.length->MC prog G [500] 152 [.ref 500 0 0,.d (ab d)] (aw (bZ t i)) (.d (eS (cR t d i))) (aw (bZ t (dh (cR t d i))))) (i:Nat) (hi:i<=t.length) :
  MC prog G [500] 111 [.ref 500 0 0,.d (ab d)] (aw (bZ t i)) (.d (eS (oL t (cR t d) i))) (aw (bZ t (dh (oL t (cR t d) i)))):=by
 have pC:=W9 G t ht 152 38 38 rfl d (cR t d) (pK t d) lH i hi;have hR:oL t (cR t d) i=(mv t 38 (cR t d) i []).map vr:=rfl;rw[hR];have hq:∀ {c:Int} {p q:Nat},mv t 38 (cR t d) i [] = .err c p q->q=0:=fun h=>Pk _ _ _ h
 cases hs:mv t 38 (cR t d) i [] with
 | err c p q=>
  obtain rfl:=hq hs;rw[hs]at pC;refine MC.aO (ay _) func111 rfl rfl (rs:=[.tmp 4,.tmp 5]) results111 (by simp[ntmps111]) rfl fun X=>?_;simp only[ntmps111];have fw:=aor;refine ae fw [0,1] [500] ?_;refine bK (Aq fw (Aq @o9.eq_1 (Aq @o9.eq_2 (Aq @aoi (Aq @aoj @aok))))) pC [6,7] [500] ?_;refine ag fun K1 aF=>ae fw [6,7,17] [500] ?_;refine aJ (ae fw [4,5] [500] ?_);refine bW ?_;simp[D.le,D.le.go,aP,ab,bZ,cG,dS,bZ,cG,eS,dh,bG,Rs.map,dQ]
 | ok l p=>
  rw[hs]at pC;by_cases hl:l.length=1
  .obtain⟨x,rfl⟩:=amW.1 hl;obtain⟨tx,cx,hx⟩:=js x;refine MC.aO (ay _) func111 rfl rfl (rs:=[.tmp 4,.tmp 5]) results111 (by simp[ntmps111]) rfl fun X=>?_;simp only[ntmps111];have fw:=aor;refine ae fw [0,1] [500] ?_;have qf:=(Aq fw (Aq @o9.eq_1 (Aq @o9.eq_2 (Aq @Bd.eq_1 @hx))));refine ko pC [6,7] [500] ?_;refine ag fun K1 aF=>ae fw [6,7,17] [500] ?_;refine al (aq (aF _ ?_));refine ag fun K2 au=>ae fw [6,21] [500] ?_;refine aJ (ae fw [4,5] [500] ?_);refine bW ?_;simp[D.le,D.le.go,aP,ab,bZ,cG,dS,bZ,cG,eS,dh,Rs.map,vr,hx,D.le_refl]
  .have fh:¬ (l.length:Int)=1:=aa
   have zu:=Kz hl;refine MC.aO (ay _) func111 rfl rfl (rs:=[.tmp 4,.tmp 5]) results111 (by simp[ntmps111]) rfl fun X=>?_;simp only[ntmps111];have fw:=aor;refine ae fw [0,1] [500] ?_;refine bK (Aq fw (Aq @o9.eq_1 (Aq @o9.eq_2 @Bd.eq_1))) pC [6,7] [500] ?_;refine ag fun K1 aF=>ae fw [6,7,17] [500] ?_;refine al (aq (aF _ ?_));refine ag fun K2 au=>?_;have qf:=(Aq fw (Aq @hl @fh));refine ax [6,21] [500] ?_;refine al (aq (au _ ?_));refine ae fw [4,5] [500] ?_;refine bW ?_;simp[D.le,D.le.go,aP,ab,bZ,cG,dS,bZ,cG,eS,dh,Rs.map,zu,dE,vv,D.le_refl,D.bC]
theorem VA (G:aB) (t:List UInt8) (ht:t.length<=2000) (d:Nat) (lH:∀ i,i<=t.length->MC prog G [500] 152 [.ref 500 0 0,.d (ab d)] (aw (bZ t i)) (.d (eS (cR t d i))) (aw (bZ t (dh (cR t d i))))) (i:Nat) (hi:i<=t.length) :
  MC prog G [500] 59 [.ref 500 0 0,.d (ab d)] (aw (bZ t i)) (.d (eS (mj t (cR t d) i))) (aw (bZ t (dh (mj t (cR t d) i)))):=by
 have pC:=W9 G t ht 111 124 124 rfl d (oL t (cR t d)) (C7 (pK t d)) (YK G t ht d lH) i hi;have hR:mj t (cR t d) i=(mv t 124 (oL t (cR t d)) i []).map vt:=rfl;rw[hR];have hq:∀ {c:Int} {p q:Nat},mv t 124 (oL t (cR t d)) i [] = .err c p q->q=0:=fun h=>Pk _ _ _ h
 cases hs:mv t 124 (oL t (cR t d)) i [] with
 | err c p q=>
  obtain rfl:=hq hs;rw[hs]at pC;refine MC.aO (ay _) func59 rfl rfl (rs:=[.tmp 4,.tmp 5]) results59 (by simp[ntmps59]) rfl fun X=>?_;simp only[ntmps59];have fw:=aor;refine ae fw [0,1] [500] ?_;refine bK (Aq fw (Aq @o9.eq_1 (Aq @o9.eq_2 (Aq @aoi (Aq @aoj @aok))))) pC [6,7] [500] ?_;refine ag fun K1 aF=>ae fw [6,7,17] [500] ?_;refine aJ (ae fw [4,5] [500] ?_);refine bW ?_;simp[D.le,D.le.go,aP,ab,bZ,cG,dS,bZ,cG,eS,dh,bG,Rs.map,dQ]
 | ok l p=>
  rw[hs]at pC;by_cases hl:l.length=1
  .obtain⟨x,rfl⟩:=amW.1 hl;obtain⟨tx,cx,hx⟩:=js x;refine MC.aO (ay _) func59 rfl rfl (rs:=[.tmp 4,.tmp 5]) results59 (by simp[ntmps59]) rfl fun X=>?_;simp only[ntmps59];have fw:=aor;refine ae fw [0,1] [500] ?_;have qf:=(Aq fw (Aq @o9.eq_1 (Aq @o9.eq_2 (Aq @Bd.eq_1 @hx))));refine ko pC [6,7] [500] ?_;refine ag fun K1 aF=>ae fw [6,7,17] [500] ?_;refine al (aq (aF _ ?_));refine ag fun K2 au=>ae fw [6,21] [500] ?_;refine aJ (ae fw [4,5] [500] ?_);refine bW ?_;simp[D.le,D.le.go,aP,ab,bZ,cG,dS,bZ,cG,eS,dh,Rs.map,vt,hx,D.le_refl]
  .have fh:¬ (l.length:Int)=1:=aa
   have zu:=KA hl;refine MC.aO (ay _) func59 rfl rfl (rs:=[.tmp 4,.tmp 5]) results59 (by simp[ntmps59]) rfl fun X=>?_;simp only[ntmps59];have fw:=aor;refine ae fw [0,1] [500] ?_;refine bK (Aq fw (Aq @o9.eq_1 (Aq @o9.eq_2 @Bd.eq_1))) pC [6,7] [500] ?_;refine ag fun K1 aF=>ae fw [6,7,17] [500] ?_;refine al (aq (aF _ ?_));refine ag fun K2 au=>?_;have qf:=(Aq fw (Aq @hl @fh));refine ax [6,21] [500] ?_;refine al (aq (au _ ?_));refine ae fw [4,5] [500] ?_;refine bW ?_;simp[D.le,D.le.go,aP,ab,bZ,cG,dS,bZ,cG,eS,dh,Rs.map,zu,dE,vv,D.le_refl,D.bC]
end Go.Proofs.YtobejfcgcfdpfaaGreatDoor
namespace Go.Proofs.YtobejfcgcfdpfaaGreatDoor
def AZ {α:Type} (sz:α->Nat) (t:List UInt8) (f:Nat->Rs α):Prop:=∀ i x j,i<=t.length->f i = .ok x j->sz x<=5 * (j - i)
theorem afa {s:List UInt8} (h:jQ s=true):s≠[]/\s.length<=8/\(∀ c∈s,nH c=false)/\∀ c,s[0]? = some c->nH c=false/\c≠48/\c≠49/\97<=c.toNat:=by
 unfold jQ at h;simp only[OF,decide_eq_true_eq,XH]at h;obtain⟨h1,h2,h3,h4,h5,-⟩:=h
 have hs:∀ c:UInt8,rp.contains c=true->nH c=false:=by
  have h:∀ n:Fin 256,rp.contains (UInt8.ofNat n)=true->nH (UInt8.ofNat n)=false:=by decide +kernel
  intro c;have:=h ⟨c.toNat,c.toNat_lt⟩;simpa using this
 refine⟨h1,h2,fun c hc=>hs c (h5 c hc),fun c hc=>?_⟩;have hm:c∈s:=amZ hc
 have hg:s.getD 0 0=c:=by rw[ame,hc];rfl
 rw[hg]at h3;refine⟨hs c (h5 c hm),?_,?_,h3⟩<;>rintro rfl<;>revert h3<;>decide
mutual
def gF:Ex->Prop
 | .iW _=>True
 | .bit s=>jQ s=true
 | .jV s=>jQ s=true
 | .jL s=>jQ s=true
 | .not e=>gF e
 | .and l=>2<=l.length/\A0 l
 | .or l=>2<=l.length/\A0 l
def A0:List Ex->Prop
 | []=>True
 | e :: l=>gF e/\A0 l
end
theorem yW:∀ l:List Ex,A0 l↔∀ e∈l,gF e
 | []=>by simp[A0]
 | e :: l=>by simp[A0,yW l]
mutual
def l6:Ex->Nat
 | .iW _=>1
 | .bit _=>1
 | .jV _=>1
 | .jL _=>1
 | .not e=>l6 e+1
 | .and l=>xe l+1
 | .or l=>xg l+1
def xe:List Ex->Nat
 | []=>0
 | e :: l=>max (l6 e) (xe l)
def xg:List Ex->Nat
 | []=>0
 | e :: l=>max (match e with | .and m=>xe m | e=>l6 e) (xg l)
end
def xf:Ex->Nat
 | .and l=>xe l
 | .or l=>xg l
 | e=>l6 e
def vy:Ex->Nat
 | .and l=>xe l
 | e=>l6 e
theorem aao (e:Ex) (l:List Ex):xg (e :: l)=max (vy e) (xg l):=by
 cases e<;>simp[xg,vy]
theorem aan (e:Ex):vy e<=l6 e:=by cases e<;>simp[vy,l6]
theorem aam (e:Ex):xf e<=vy e:=by
 cases e<;>simp[xf,vy,l6]
theorem aal (e:Ex):l6 e<=xf e+1:=by
 cases e<;>simp[xf,l6]
theorem Pf {t:List UInt8} {s:UInt8} {f:Nat->Rs Ex} (P:Ex->Prop) (hf:∀ i x j,f i = .ok x j->P x):∀ (n i:Nat) (acc l:List Ex) (j:Nat),jn t s f n i acc = .ok l j->(∀ x∈acc,P x)->∀ x∈l,P x
 | 0,i,acc,l,j,h,_=>by simp[jn]at h
 | n+1,i,acc,l,j,h,ha=>by
  rw[jn]at h
  cases cE:f i with
  | err c p q=>rw[cE]at h;cases h
  | ok x k=>
   rw[cE]at h;dsimp only at h
   have eO:∀ y∈acc ++ [x],P y:=fun y hy=>by
    rcases amq.1 hy with hy | hy
    .exact ha y hy
    .simp at hy;subst hy;exact hf _ _ _ cE
   split at h
   .exact Pf P hf n _ _ l j h eO
   .simp only[Rs.ok.injEq]at h;obtain⟨rfl,-⟩:=h;exact eO
theorem Pj {t:List UInt8} {s:UInt8} {f:Nat->Rs Ex}:∀ (n i:Nat) (acc l:List Ex) (j:Nat),jn t s f n i acc = .ok l j->acc.length < l.length
 | 0,i,acc,l,j,h=>by simp[jn]at h
 | n+1,i,acc,l,j,h=>by
  rw[jn]at h;split at h
  .cases h
  .split at h
   .have:=Pj n _ _ l j h;simp only[amp,anP]at this;omega
   .simp only[Rs.ok.injEq]at h;obtain⟨rfl,-⟩:=h;simp
theorem Q1 {d:Nat}:∀ {l:List Ex},(∀ x∈l,l6 x<=d)->xe l<=d
 | [],_=>by simp[xe]
 | e :: l,h=>by
  have h1:=h e ak;have h2:=Q1 (l:=l) fun x hx=>h x (by simp[hx]);rw[xe];omega
theorem Q3 {d:Nat}:∀ {l:List Ex},(∀ x∈l,vy x<=d)->xg l<=d
 | [],_=>by simp[xg]
 | e :: l,h=>by
  have h1:=h e ak;have h2:=Q3 (l:=l) fun x hx=>h x (by simp[hx]);rw[aao];omega
theorem YL {t:List UInt8} {d:Nat} (h:∀ i x j,cR t d i = .ok x j->gF x/\l6 x<=d) {i j:Nat} {x:Ex} (he:oL t (cR t d) i = .ok x j):gF x/\vy x<=d:=by
 obtain⟨l,h1,rfl⟩:=qm he;have ha:=Pf (fun x=>gF x/\l6 x<=d) h _ _ _ _ _ h1 ak;have hp:=Pj _ _ _ _ _ h1;by_cases hl:l.length=1
 .obtain⟨x,rfl⟩:=amW.1 hl;have:=ha x ak;exact⟨this.1,anQ (aan x) this.2⟩
 .rw[Kz hl];exact⟨⟨by simp at hp;omega,(yW _).2 fun x hx=>(ha x hx).1⟩,Q1 fun x hx=>(ha x hx).2⟩
theorem VB {t:List UInt8} {d:Nat} (h:∀ i x j,cR t d i = .ok x j->gF x/\l6 x<=d) {i j:Nat} {x:Ex} (he:mj t (cR t d) i = .ok x j):gF x/\xf x<=d:=by
 obtain⟨l,h1,rfl⟩:=qm he;have ha:=Pf (fun x=>gF x/\vy x<=d) (fun i x j h'=>YL h h') _ _ _ _ _ h1 ak;have hp:=Pj _ _ _ _ _ h1;by_cases hl:l.length=1
 .obtain⟨x,rfl⟩:=amW.1 hl;have:=ha x ak;exact⟨this.1,anQ (aam x) this.2⟩
 .rw[KA hl];exact⟨⟨by simp at hp;omega,(yW _).2 fun x hx=>(ha x hx).1⟩,Q3 fun x hx=>(ha x hx).2⟩
theorem P0 {t:List UInt8} {q i j:Nat} {s:List UInt8} (h:gD t q i = .ok s j):jQ s=true:=by
 unfold gD at h;split at h
 .cases h
 .split at h
  .cases h
  .rename_i hn;simp only[Rs.ok.injEq]at h;obtain⟨rfl,-⟩:=h;simpa using hn
theorem Vx (t:List UInt8):∀ d i x j,cR t d i = .ok x j->gF x/\l6 x<=d
 | 0,i,x,j,h=>by simp[cR]at h
 | d+1,i,x,j,h=>by
  have ih:=Vx t d;rw[cR]at h;split at h
  .cases he:cR t d (bB t i+1) with
   | err c p q=>rw[he]at h;cases h
   | ok y k=>
    rw[he]at h;simp only[Rs.ok.injEq]at h;obtain⟨rfl,rfl⟩:=h;have:=ih _ _ _ he;exact⟨this.1,by simp only[l6];omega⟩
  split at h
  .cases he:mj t (cR t d) (bB t i+1) with
   | err c p q=>rw[he]at h;cases h
   | ok y k=>
    rw[he]at h;dsimp only at h;split at h
    .simp only[Rs.ok.injEq]at h;obtain⟨rfl,rfl⟩:=h;have:=VB ih he;have h3:=aal y;exact⟨this.1,aa⟩
    .cases h
  split at h
  .simp only[Rs.ok.injEq]at h;obtain⟨rfl,rfl⟩:=h;exact⟨trivial,by simp only[l6];omega⟩
  split at h
  .simp only[Rs.ok.injEq]at h;obtain⟨rfl,rfl⟩:=h;exact⟨trivial,by simp only[l6];omega⟩
  split at h
  .obtain⟨s,h3,rfl⟩:=qm h;exact⟨P0 h3,by simp only[l6];omega⟩
  split at h
  .obtain⟨s,h3,rfl⟩:=qm h;exact⟨P0 h3,by simp only[l6];omega⟩
  .obtain⟨s,h3,rfl⟩:=qm h;exact⟨P0 h3,by simp only[l6];omega⟩
theorem I6 {t:List UInt8} {x:Ex} (h:(ig t).1=some x):gF x/\xf x<=20:=by
 unfold ig at h;split at h
 .cases h
 .split at h
  .cases h
  .rename_i y i he;split at h
   .cases h
   .obtain rfl:=AI h;exact VB (Vx t 20) he
mutual
def fg (is cI:List UInt8->Bool):Ex->Bool
 | .iW b=>b
 | .bit s=>is s
 | .jV s=>is s && !cI s
 | .jL s=>!is s && cI s
 | .not e=>!fg is cI e
 | .and l=>Bi is cI l
 | .or l=>Bj is cI l
def Bi (is cI:List UInt8->Bool):List Ex->Bool
 | []=>true
 | e :: l=>fg is cI e && Bi is cI l
def Bj (is cI:List UInt8->Bool):List Ex->Bool
 | []=>false
 | e :: l=>fg is cI e || Bj is cI l
end
mutual
def bE:Ex->Nat
 | .iW _=>4
 | .bit s=>s.length+3
 | .jV s=>s.length+4
 | .jL s=>s.length+4
 | .not e=>bE e+1
 | .and l=>iP l+5
 | .or l=>iP l+5
def iP:List Ex->Nat
 | []=>0
 | e :: l=>bE e+iP l
end
theorem Da:∀ (a b:List Ex),iP (a ++ b)=iP a+iP b
 | [],b=>by simp[iP]
 | e :: a,b=>by simp only[am7,iP,Da a b];omega
theorem Ga:∀ e:Ex,3<=bE e
 | .not e=>by have:=Ga e;simp only[bE];omega
 | .iW _=>by simp[bE]
 | .bit _=>by simp[bE]
 | .jV _=>by simp only[bE];omega
 | .jL _=>by simp only[bE];omega
 | .and _=>by simp only[bE];omega
 | .or _=>by simp only[bE];omega
theorem Db {x:Ex}:∀ {l:List Ex},x∈l->bE x<=iP l
 | y :: l,h=>by
  rw[iP]
  rcases amx.1 h with rfl | h
  .omega
  .have:=Db h;omega
theorem w7:∀ l:List Ex,3 * l.length<=iP l
 | []=>ak
 | e :: l=>by have:=w7 l;have:=Ga e;simp only[amo,iP];omega
theorem Ph {t:List UInt8} {s:UInt8} {f:Nat->Rs Ex} (hg:mC t f) (hf:AZ bE t f):∀ (n i:Nat) (acc l:List Ex) (j:Nat),i<=t.length->jn t s f n i acc = .ok l j->iP l+5 * (l.length - 1)<=iP acc+5 * acc.length+5 * (j - i)/\acc.length < l.length
 | 0,i,acc,l,j,_,h=>by simp[jn]at h
 | n+1,i,acc,l,j,hi,h=>by
  rw[jn]at h
  cases cE:f i with
  | err c p q=>rw[cE]at h;cases h
  | ok x k=>
   rw[cE]at h;obtain⟨h1,h2⟩:=hg i x k hi cE;have h5:=hf i x k hi cE;obtain⟨t1,t2,t3⟩:=pM (c:=s) h2;dsimp only at h;split at h
   .rename_i ht;have h4:=t3 ht;have ih:=Ph hg hf n _ _ l j t2 h;have h6:=Jt hg n _ _ l j t2 h;simp only[Da,iP,amp,anP]at ih;omega
   .simp only[Rs.ok.injEq]at h;obtain⟨rfl,rfl⟩:=h;simp only[Da,iP,amp,anP];omega
theorem ZU {l:List Ex} {m:Nat} (h:iP l+5 * (l.length - 1)<=m) (h0:0 < l.length):bE (vr l)<=m:=by
 by_cases h1:l.length=1
 .obtain⟨x,rfl⟩:=amW.1 h1;simp only[iP,anP]at h;show bE x<=m;omega
 .rw[Kz h1,bE];omega
theorem ZW {l:List Ex} {m:Nat} (h:iP l+5 * (l.length - 1)<=m) (h0:0 < l.length):bE (vt l)<=m:=by
 by_cases h1:l.length=1
 .obtain⟨x,rfl⟩:=amW.1 h1;simp only[iP,anP]at h;show bE x<=m;omega
 .rw[KA h1,bE];omega
theorem YJ {t:List UInt8} {one:Nat->Rs Ex} (hg:mC t one) (h:AZ bE t one):AZ bE t (oL t one):=fun i x j hi he=>by
 obtain⟨l,h1,rfl⟩:=qm he;have:=Ph hg h _ _ _ _ _ hi h1;simp only[iP,am2]at this;exact ZU aa aa
theorem Vz {t:List UInt8} {one:Nat->Rs Ex} (hg:mC t one) (h:AZ bE t one):AZ bE t (mj t one):=fun i x j hi he=>by
 obtain⟨l,h1,rfl⟩:=qm he;have:=Ph (C7 hg) (YJ hg h) _ _ _ _ _ hi h1;simp only[iP,am2]at this;exact ZW aa aa
theorem PU (t:List UInt8) (q i j:Nat) (s:List UInt8) (hi:i<=t.length) (h:gD t q i = .ok s j):s.length<=j - i/\1<=j - i:=by
 have hg:=JQ t q i s j hi h;have h1:=FE t i;unfold gD at h;split at h
 .cases h
 .split at h
  .cases h
  .simp only[Rs.ok.injEq]at h;obtain⟨rfl,rfl⟩:=h;have h4:=JI t (bB t i);unfold jJ;rw[amw];omega
theorem Vw (t:List UInt8):∀ d,AZ bE t (cR t d)
 | 0=>fun i x j _ h=>by simp[cR]at h
 | d+1=>fun i x j hi h=>by
  have ih:=Vw t d;have hg:=pK t d;have h1:=FE t i;have h2:=mw hi;have hb:∀ {c:UInt8},t[bB t i]? = some c->bB t i < t.length:=fun hc=>(BY.1 hc).1;rw[cR]at h;split at h
  .rename_i hc;have:=hb hc
   cases he:cR t d (bB t i+1) with
   | err c p q=>rw[he]at h;cases h
   | ok y k=>
    rw[he]at h;simp only[Rs.ok.injEq]at h;obtain⟨rfl,rfl⟩:=h;have h3:=ih _ y k aa he;have h4:=hg _ y k aa he;simp only[bE];omega
  split at h
  .rename_i _ hc;have:=hb hc
   cases he:mj t (cR t d) (bB t i+1) with
   | err c p q=>rw[he]at h;cases h
   | ok y k=>
    rw[he]at h;dsimp only at h;have h3:=Vz hg ih _ y k aa he;have h4:=wL hg _ y k aa he;obtain⟨t1,t2,t3⟩:=pM (c:=41) h4.2;split at h
    .simp only[Rs.ok.injEq]at h;obtain⟨rfl,rfl⟩:=h;omega
    .cases h
  split at h
  .rename_i _ _ hc;have:=hb hc;simp only[Rs.ok.injEq]at h;obtain⟨rfl,rfl⟩:=h;simp only[bE];omega
  split at h
  .rename_i _ _ _ hc;have:=hb hc;simp only[Rs.ok.injEq]at h;obtain⟨rfl,rfl⟩:=h;simp only[bE];omega
  split at h
  .rename_i _ _ _ _ hc;have:=hb hc;obtain⟨s,h3,rfl⟩:=qm h;have h4:=PU t 1 _ j s aa h3;simp only[bE];omega
  split at h
  .rename_i _ _ _ _ _ hc;have:=hb hc;obtain⟨s,h3,rfl⟩:=qm h;have h4:=PU t 2 _ j s aa h3;simp only[bE];omega
  .obtain⟨s,h3,rfl⟩:=qm h;have h4:=PU t 3 _ j s aa h3;simp only[bE];omega
theorem OL {t:List UInt8} {x:Ex} (h:(ig t).1=some x):bE x<=10000:=by
 unfold ig at h;split at h
 .cases h
 .rename_i hl;split at h
  .cases h
  .rename_i y i he;split at h
   .cases h
   .obtain rfl:=AI h;have h1:=Vz (pK t 20) (Vw t 20) 0 y i (anZ _) he;have h2:=wL (pK t 20) 0 y i (anZ _) he;omega
open Go.Av
theorem XA {t:List UInt8} {c:UInt8} {i j:Nat} (hj:bB t i=j):eX t c i=if t[j]? = some c then (true,j+1) else (false,j):=by
 unfold eX;rw[hj]
theorem PY {t:List UInt8} {q i:Nat} {c:Int} {p q':Nat} (h:gD t q i = .err c p q'):q'=q:=by
 unfold gD at h;split at h
 .simp only[Rs.err.injEq]at h;omega
 .split at h
  .simp only[Rs.err.injEq]at h;omega
  .cases h
theorem aoH:type_of% (Aq @pa.eq_1 (Aq @pa.eq_2 (Aq @aoi (Aq @aoj @aok)))):=(Aq @pa.eq_1 (Aq @pa.eq_2 (Aq @aoi (Aq @aoj @aok))))
theorem afA (G:aB) (t:List UInt8) (ht:t.length<=2000):∀ (d:Nat),d<=20->∀ i,i<=t.length->MC prog G [500] 152 [.ref 500 0 0,.d (ab d)] (aw (bZ t i)) (.d (eS (cR t d i))) (aw (bZ t (dh (cR t d i)))):=by
 intro d
 induction d with
 | zero=>
  intro _ i hi;have fm:=Dw G t i aa hi 4;refine MC.aO (ay _) func152 rfl rfl (rs:=[.tmp 4,.tmp 5]) results152 (by simp[ntmps152]) rfl fun X=>?_;simp only[ntmps152];have fw:=aor;refine ae fw [0,1] [500] ?_;refine ag fun K1 aF=>ae fw [0,1,17] [500] ?_;refine aJ (bK (Aq fw aoJ) fm [4,5] [500] ?_);exact aY (Aq fw (Aq @bZ.eq_1 (Aq @cG.eq_1 (Aq @eS.eq_1 (Aq @eS.eq_2 (Aq @cR.eq_1 (Aq @cR.eq_2 (Aq @dh.eq_1 (Aq @dh.eq_2 (Aq @aoi (Aq @aoj (Aq @aok @dQ.eq_1))))))))))))
 | succ d ih=>
  intro hd i hi;have ih:=ih aa;have uG:=VA G t ht d ih;have jj:=mw hi;have xD:=AF hi
  have jg:¬ (d:Int)+1=0:=aa
  have zR:t.length < 2^60:=aa
  have Nj:∀ c,MC prog G [500] 151 [.ref 500 0 0,.d (.v (.int .u8 c.toNat))] (aw (bZ t i)) (.d (.v (.bool (eX t c i).1))) (aw (bZ t (eX t c i).2)):=fun c=>JD G t i zR hi c;rw[cR];generalize hj:bB t i=j at jj xD ⊢;have pD:∀ c,MC prog G [500] 151 [.ref 500 0 0,.d (.v (.int .u8 c.toNat))] (aw (bZ t j)) (.d (.v (.bool (eX t c j).1))) (aw (bZ t (eX t c j).2)):=fun c=>JD G t j zR jj c;have Qr:=fun c=>XA (t:=t) (c:=c) hj;have F9:=fun c=>XA (t:=t) (c:=c) xD;simp only[Qr]at Nj;simp only[F9]at pD;have aG:∀ {c:UInt8},t[j]? = some c->j+1<=t.length:=fun h=>(BY.1 h).1;have qh:=Nj 33;have rQ:=pD 40;have uQ:=pD 48;have wG:=pD 49;have xX:=pD 94;have Cg:=pD 126;clear Nj Qr F9 hj;by_cases uf:t[j]? = some 33
  .rw[if_pos uf]at qh ⊢;have hc:=ih (j+1) (aG uf)
   cases hr:cR t d (j+1) with
   | err c p q=>
    rw[hr]at hc;refine MC.aO (ay _) func152 rfl rfl (rs:=[.tmp 4,.tmp 5]) results152 (by simp[ntmps152]) rfl fun X=>?_;simp only[ntmps152];have fw:=aor;refine ae fw [0,1] [500] ?_;refine ag fun K1 aF=>?_;have qf:=(Aq fw @jg);refine ax [0,1,17] [500] ?_;refine al (aq (aF _ ?_));refine ag fun K2 au=>bf ?_;refine bK fw qh [0,1,20] [500] ?_;refine aJ (bK (Aq fw aoE) hc [6,7] [500] ?_);refine ag fun K3 aX=>ae fw [6,7,31] [500] ?_;refine aJ (ae fw [4,5] [500] ?_);exact aY (Aq fw (Aq @bZ.eq_1 (Aq @cG.eq_1 (Aq @eS.eq_1 (Aq @eS.eq_2 (Aq @dh.eq_1 (Aq @dh.eq_2 (Aq @aoi (Aq @aoj (Aq @aok @dQ.eq_1))))))))))
   | ok x k=>
    rw[hr]at hc;obtain⟨tx,cx,hx⟩:=js x;refine MC.aO (ay _) func152 rfl rfl (rs:=[.tmp 4,.tmp 5]) results152 (by simp[ntmps152]) rfl fun X=>?_;simp only[ntmps152];have fw:=aor;refine ae fw [0,1] [500] ?_;refine ag fun K1 aF=>?_;have qf:=(Aq fw @jg);refine ax [0,1,17] [500] ?_;refine al (aq (aF _ ?_));refine ag fun K2 au=>bf ?_;refine bK fw qh [0,1,20] [500] ?_;refine aJ ?_;have qf:=(Aq fw (Aq @eS.eq_1 (Aq @eS.eq_2 @hx)));refine ko hc [6,7] [500] ?_;refine ag fun K3 aX=>ae fw [6,7,31] [500] ?_;refine al (aq (aX _ ?_));refine ae fw [4,5] [500] ?_;refine bW ?_;simp[D.le,D.le.go,aP,ab,bZ,cG,dS,bZ,cG,eS,dh,dE,hx,D.le_refl]
  rw[if_neg uf]at qh ⊢;by_cases c40:t[j]? = some 40
  .rw[if_pos c40]at rQ ⊢;have hc:=uG (j+1) (aG c40)
   cases hr:mj t (cR t d) (j+1) with
   | err c p q=>
    rw[hr]at hc;refine MC.aO (ay _) func152 rfl rfl (rs:=[.tmp 4,.tmp 5]) results152 (by simp[ntmps152]) rfl fun X=>?_;simp only[ntmps152];have fw:=aor;refine ae fw [0,1] [500] ?_;refine ag fun K1 aF=>?_;have qf:=(Aq fw @jg);refine ax [0,1,17] [500] ?_;refine al (aq (aF _ ?_));refine ag fun K2 au=>bf ?_;refine bK fw qh [0,1,20] [500] ?_;refine al (bK fw rQ [0,1,36] [500] ?_);refine aJ (bK (Aq fw aoE) hc [0,8,9] [500] ?_);refine ag fun K4 b6=>ae fw [0,8,9,47] [500] ?_;refine aJ (ae fw [4,5] [500] ?_);exact aY (Aq fw (Aq @bZ.eq_1 (Aq @cG.eq_1 (Aq @eS.eq_1 (Aq @eS.eq_2 (Aq @dh.eq_1 (Aq @dh.eq_2 (Aq @aoi (Aq @aoj (Aq @aok @dQ.eq_1))))))))))
   | ok x k=>
    rw[hr]at hc;obtain⟨tx,cx,hx⟩:=js x;have Eg:=(wL (pK t d) (j+1) x k (aG c40) hr).2;have Im:=JD G t k zR Eg 41;have Nh:=pM (c:=41) Eg
    have Li:(eX t 41 k).1=false->bB t (eX t 41 k).2=(eX t 41 k).2:=fun h=>by
     unfold eX at h ⊢;split at h
     .cases h
     .rw[if_neg ‹_›];exact AF Eg
    cases gz:eX t 41 k with
    | mk b k2=>
    rw[gz]at Im Nh Li;dsimp only at Im Nh Li ⊢
    cases b with
    | true=>
     refine MC.aO (ay _) func152 rfl rfl (rs:=[.tmp 4,.tmp 5]) results152 (by simp[ntmps152]) rfl fun X=>?_;simp only[ntmps152];have fw:=aor;refine ae fw [0,1] [500] ?_;refine ag fun K1 aF=>?_;have qf:=(Aq fw @jg);refine ax [0,1,17] [500] ?_;refine al (aq (aF _ ?_));refine ag fun K2 au=>bf ?_;refine bK fw qh [0,1,20] [500] ?_;refine al (bK fw rQ [0,1,36] [500] ?_);refine aJ ?_;have qf:=(Aq fw (Aq @eS.eq_1 (Aq @eS.eq_2 (Aq @dh.eq_1 (Aq @dh.eq_2 @hx)))));refine ko hc [0,8,9] [500] ?_;refine ag fun K4 b6=>ae fw [0,8,9,47] [500] ?_;refine al (aq (b6 _ ?_));refine ag fun K5 b5=>bK fw Im [0,8,51] [500] ?_;refine al (aq (b5 _ ?_));refine ae fw [4,5] [500] ?_;exact aY (Aq fw (Aq @bZ.eq_1 (Aq @cG.eq_1 (Aq @eS.eq_1 (Aq @eS.eq_2 (Aq @dh.eq_1 (Aq @dh.eq_2 (Aq @hx @gz))))))))
    | false=>
     have fm:=Dw G t k2 zR Nh.2.1 3;rw[Li rfl]at fm;refine MC.aO (ay _) func152 rfl rfl (rs:=[.tmp 4,.tmp 5]) results152 (by simp[ntmps152]) rfl fun X=>?_;simp only[ntmps152];have fw:=aor;refine ae fw [0,1] [500] ?_;refine ag fun K1 aF=>?_;have qf:=(Aq fw @jg);refine ax [0,1,17] [500] ?_;refine al (aq (aF _ ?_));refine ag fun K2 au=>bf ?_;refine bK fw qh [0,1,20] [500] ?_;refine al (bK fw rQ [0,1,36] [500] ?_);refine aJ ?_;have qf:=(Aq fw (Aq @eS.eq_1 (Aq @eS.eq_2 (Aq @dh.eq_1 (Aq @dh.eq_2 @hx)))));refine ko hc [0,8,9] [500] ?_;refine ag fun K4 b6=>ae fw [0,8,9,47] [500] ?_;refine al (aq (b6 _ ?_));refine ag fun K5 b5=>bK fw Im [0,8,51] [500] ?_;refine aJ (bK (Aq fw aoJ) fm [4,5] [500] ?_);exact aY (Aq fw (Aq @bZ.eq_1 (Aq @cG.eq_1 (Aq @eS.eq_1 (Aq @eS.eq_2 (Aq @dh.eq_1 (Aq @dh.eq_2 (Aq @aoi (Aq @aoj (Aq @aok (Aq @dQ.eq_1 @gz)))))))))))
  rw[if_neg c40]at rQ ⊢;by_cases w9:t[j]? = some 48
  .rw[if_pos w9]at uQ ⊢;refine MC.aO (ay _) func152 rfl rfl (rs:=[.tmp 4,.tmp 5]) results152 (by simp[ntmps152]) rfl fun X=>?_;simp only[ntmps152];have fw:=aor;refine ae fw [0,1] [500] ?_;refine ag fun K1 aF=>?_;have qf:=(Aq fw @jg);refine ax [0,1,17] [500] ?_;refine al (aq (aF _ ?_));refine ag fun K2 au=>bf ?_;refine bK fw qh [0,1,20] [500] ?_;refine al (bK fw rQ [0,1,36] [500] ?_);refine al (bK fw uQ [0,55] [500] ?_);refine aJ (ae fw [4,5] [500] ?_);refine bW ?_;simp[D.le,D.le.go,aP,ab,bZ,cG,dS,bZ,cG,eS,dh,dE]
  rw[if_neg w9]at uQ ⊢;by_cases c49:t[j]? = some 49
  .rw[if_pos c49]at wG ⊢;refine MC.aO (ay _) func152 rfl rfl (rs:=[.tmp 4,.tmp 5]) results152 (by simp[ntmps152]) rfl fun X=>?_;simp only[ntmps152];have fw:=aor;refine ae fw [0,1] [500] ?_;refine ag fun K1 aF=>?_;have qf:=(Aq fw @jg);refine ax [0,1,17] [500] ?_;refine al (aq (aF _ ?_));refine ag fun K2 au=>bf ?_;refine bK fw qh [0,1,20] [500] ?_;refine al (bK fw rQ [0,1,36] [500] ?_);refine al (bK fw uQ [0,55] [500] ?_);refine al (bK fw wG [0,59] [500] ?_);refine aJ (ae fw [4,5] [500] ?_);refine bW ?_;simp[D.le,D.le.go,aP,ab,bZ,cG,dS,bZ,cG,eS,dh,dE]
  rw[if_neg c49]at wG ⊢;by_cases vq:t[j]? = some 94
  .rw[if_pos vq]at xX ⊢;have hc:=PZ G t 1 (j+1) zR (aG vq);have hq:∀ {c:Int} {p q':Nat},gD t 1 (j+1) = .err c p q'->q'=1:=fun h=>PY h
   cases hr:gD t 1 (j+1) with
   | err c p q'=>
    obtain rfl:=hq hr;rw[hr]at hc;refine MC.aO (ay _) func152 rfl rfl (rs:=[.tmp 4,.tmp 5]) results152 (by simp[ntmps152]) rfl fun X=>?_;simp only[ntmps152];have fw:=aor;refine ae fw [0,1] [500] ?_;refine ag fun K1 aF=>?_;have qf:=(Aq fw @jg);refine ax [0,1,17] [500] ?_;refine al (aq (aF _ ?_));refine ag fun K2 au=>bf ?_;refine bK fw qh [0,1,20] [500] ?_;refine al (bK fw rQ [0,1,36] [500] ?_);refine al (bK fw uQ [0,55] [500] ?_);refine al (bK fw wG [0,59] [500] ?_);refine al (bK fw xX [0,63] [500] ?_);refine aJ (bK (Aq fw aoH) hc [10,11] [500] ?_);refine ae fw [4,5] [500] ?_;refine bW ?_;simp[D.le,D.le.go,aP,ab,bZ,cG,dS,bZ,cG,eS,dh,bG,dQ,Rs.map,cu]
   | ok s p=>
    rw[hr]at hc;refine MC.aO (ay _) func152 rfl rfl (rs:=[.tmp 4,.tmp 5]) results152 (by simp[ntmps152]) rfl fun X=>?_;simp only[ntmps152];have fw:=aor;refine ae fw [0,1] [500] ?_;refine ag fun K1 aF=>?_;have qf:=(Aq fw @jg);refine ax [0,1,17] [500] ?_;refine al (aq (aF _ ?_));refine ag fun K2 au=>bf ?_;refine bK fw qh [0,1,20] [500] ?_;refine al (bK fw rQ [0,1,36] [500] ?_);refine al (bK fw uQ [0,55] [500] ?_);refine al (bK fw wG [0,59] [500] ?_);refine al (bK fw xX [0,63] [500] ?_);refine aJ (bK (Aq fw (Aq @pa.eq_1 @pa.eq_2)) hc [10,11] [500] ?_);refine ae fw [4,5] [500] ?_;refine bW ?_;simp[D.le,D.le.go,aP,ab,bZ,cG,dS,bZ,cG,eS,dh,Rs.map,dE]
  rw[if_neg vq]at xX ⊢;by_cases vp:t[j]? = some 126
  .rw[if_pos vp]at Cg ⊢;have hc:=PZ G t 2 (j+1) zR (aG vp);have hq:∀ {c:Int} {p q':Nat},gD t 2 (j+1) = .err c p q'->q'=2:=fun h=>PY h
   cases hr:gD t 2 (j+1) with
   | err c p q'=>
    obtain rfl:=hq hr;rw[hr]at hc;refine MC.aO (ay _) func152 rfl rfl (rs:=[.tmp 4,.tmp 5]) results152 (by simp[ntmps152]) rfl fun X=>?_;simp only[ntmps152];have fw:=aor;refine ae fw [0,1] [500] ?_;refine ag fun K1 aF=>?_;have qf:=(Aq fw @jg);refine ax [0,1,17] [500] ?_;refine al (aq (aF _ ?_));refine ag fun K2 au=>bf ?_;refine bK fw qh [0,1,20] [500] ?_;refine al (bK fw rQ [0,1,36] [500] ?_);refine al (bK fw uQ [0,55] [500] ?_);refine al (bK fw wG [0,59] [500] ?_);refine al (bK fw xX [0,63] [500] ?_);refine al (bK fw Cg [0,74] [500] ?_);refine aJ (bK (Aq fw aoH) hc [12,13] [500] ?_);refine ae fw [4,5] [500] ?_;refine bW ?_;simp[D.le,D.le.go,aP,ab,bZ,cG,dS,bZ,cG,eS,dh,bG,dQ,Rs.map,cu]
   | ok s p=>
    rw[hr]at hc;refine MC.aO (ay _) func152 rfl rfl (rs:=[.tmp 4,.tmp 5]) results152 (by simp[ntmps152]) rfl fun X=>?_;simp only[ntmps152];have fw:=aor;refine ae fw [0,1] [500] ?_;refine ag fun K1 aF=>?_;have qf:=(Aq fw @jg);refine ax [0,1,17] [500] ?_;refine al (aq (aF _ ?_));refine ag fun K2 au=>bf ?_;refine bK fw qh [0,1,20] [500] ?_;refine al (bK fw rQ [0,1,36] [500] ?_);refine al (bK fw uQ [0,55] [500] ?_);refine al (bK fw wG [0,59] [500] ?_);refine al (bK fw xX [0,63] [500] ?_);refine al (bK fw Cg [0,74] [500] ?_);refine aJ (bK (Aq fw (Aq @pa.eq_1 @pa.eq_2)) hc [12,13] [500] ?_);refine ae fw [4,5] [500] ?_;refine bW ?_;simp[D.le,D.le.go,aP,ab,bZ,cG,dS,bZ,cG,eS,dh,Rs.map,dE]
  rw[if_neg vp]at Cg ⊢;have hc:=PZ G t 3 j zR jj;have hq:∀ {c:Int} {p q':Nat},gD t 3 j = .err c p q'->q'=3:=fun h=>PY h
  cases hr:gD t 3 j with
  | err c p q'=>
   obtain rfl:=hq hr;rw[hr]at hc;refine MC.aO (ay _) func152 rfl rfl (rs:=[.tmp 4,.tmp 5]) results152 (by simp[ntmps152]) rfl fun X=>?_;simp only[ntmps152];have fw:=aor;refine ae fw [0,1] [500] ?_;refine ag fun K1 aF=>?_;have qf:=(Aq fw @jg);refine ax [0,1,17] [500] ?_;refine al (aq (aF _ ?_));refine ag fun K2 au=>bf ?_;refine bK fw qh [0,1,20] [500] ?_;refine al (bK fw rQ [0,1,36] [500] ?_);refine al (bK fw uQ [0,55] [500] ?_);refine al (bK fw wG [0,59] [500] ?_);refine al (bK fw xX [0,63] [500] ?_);refine al (bK fw Cg [0,74] [500] ?_);refine al (aq (au _ ?_));refine bK (Aq fw aoH) hc [14,15] [500] ?_;refine ae fw [4,5] [500] ?_;refine bW ?_;simp[D.le,D.le.go,aP,ab,bZ,cG,dS,bZ,cG,eS,dh,bG,dQ,Rs.map,cu]
  | ok s p=>
   rw[hr]at hc;refine MC.aO (ay _) func152 rfl rfl (rs:=[.tmp 4,.tmp 5]) results152 (by simp[ntmps152]) rfl fun X=>?_;simp only[ntmps152];have fw:=aor;refine ae fw [0,1] [500] ?_;refine ag fun K1 aF=>?_;have qf:=(Aq fw @jg);refine ax [0,1,17] [500] ?_;refine al (aq (aF _ ?_));refine ag fun K2 au=>bf ?_;refine bK fw qh [0,1,20] [500] ?_;refine al (bK fw rQ [0,1,36] [500] ?_);refine al (bK fw uQ [0,55] [500] ?_);refine al (bK fw wG [0,59] [500] ?_);refine al (bK fw xX [0,63] [500] ?_);refine al (bK fw Cg [0,74] [500] ?_);refine al (aq (au _ ?_));refine bK (Aq fw (Aq @pa.eq_1 @pa.eq_2)) hc [14,15] [500] ?_;refine ae fw [4,5] [500] ?_;refine bW ?_;simp[D.le,D.le.go,aP,ab,bZ,cG,dS,bZ,cG,eS,dh,Rs.map,dE]
theorem Jj {r r':Nat} (h:r≠r') (row:Row):sT r r' (aw [(r,row)])=aw [(r',row.tr (iN r r') (iM r r'))]:=by
 funext q;unfold sT;by_cases h1:q=r'
 .subst h1;simp[aw,List.lookup]
 .rw[if_neg h1];by_cases h2:q=r
  .subst h2;simp[aw,List.lookup,h1,beq_eq_false_iff_ne.2 h1]
  .simp[aw,List.lookup,h2,beq_eq_false_iff_ne.2 h1,beq_eq_false_iff_ne.2 h2]
def s8:Option Ex->D
 | some x=>dE x
 | none=>.v .nilIface
theorem aoI:type_of% (Aq @s8.eq_1 (Aq @s8.eq_2 (Aq @aoi (Aq @aoj @aok)))):=(Aq @s8.eq_1 (Aq @s8.eq_2 (Aq @aoi (Aq @aoj @aok))))
theorem VF (G:aB) (t:List UInt8) (ht:t.length < 2^60):aD prog G 19 [dS t] (.bz [s8 (ig t).1,bG (ig t).2]):=by
 unfold ig;by_cases hl:2000 < t.length
 .have fh:(2000:Int) < (t.length:Int):=aa
  rw[if_pos hl];refine aD.aO (ay _) func19 rfl rfl (rs:=[.tmp 2,.tmp 3]) results19 (by simp[ntmps19]) fun X=>?_;simp only[ntmps19,List.map];have fw:=aor;refine ae fw [0] [] ?_;refine ag fun K1 aF=>?_;have qf:=(Aq fw (Aq @bX (Aq @hl @fh)));refine ax [0,9] [] ?_;refine aJ (ae fw [2,3] [] ?_);exact aY (Aq fw aoI)
 have fh:¬ (2000:Int) < (t.length:Int):=aa
 rw[if_neg hl];have uG:=VA G t aa 20 (afA G t aa 20 bD) 0 (anZ _)
 cases hr:mj t (cR t 20) 0 with
 | err c p q=>
  rw[hr]at uG;refine aD.aO (ay _) func19 rfl rfl (rs:=[.tmp 2,.tmp 3]) results19 (by simp[ntmps19]) fun X=>?_;simp only[ntmps19,List.map];have fw:=aor;refine ae fw [0] [] ?_;refine ag fun K1 aF=>?_;have qf:=(Aq fw (Aq @bX (Aq @hl @fh)));refine ax [0,9] [] ?_;refine al (aq (aF _ ?_));refine ae fw [0,4] [13] ?_;refine AW.imp (aL.eb (r:=13) (r':=500) trivial ak) ?_;refine AW.st (by simp[iN,iM,Go.Av.eb,Jj];rfl) ?_;refine bK (Aq fw aoE) uG [0,4,5,6] [500] ?_;refine ag fun K2 au=>ae fw [0,4,5,6,20] [500] ?_;refine aJ (ae fw [2,3] [] ?_);exact aY (Aq fw aoI)
 | ok x k=>
  rw[hr]at uG;have hk:=(wL (pK t 20) 0 x k (anZ _) hr).2;have fI:=Gg G t k aa hk;have jj:=mw hk;have fm:=Dw G t (bB t k) aa jj 3;rw[AF hk]at fm;obtain⟨tx,cx,hx⟩:=js x;dsimp only;generalize bB t k=j at fI jj fm ⊢;by_cases hj:j < t.length
  .have dG:(j:Int) < (t.length:Int):=aa
   rw[if_pos hj];refine aD.aO (ay _) func19 rfl rfl (rs:=[.tmp 2,.tmp 3]) results19 (by simp[ntmps19]) fun X=>?_;simp only[ntmps19,List.map];have fw:=aor;refine ae fw [0] [] ?_;refine ag fun K1 aF=>?_;have qf:=(Aq fw (Aq @bX (Aq @hl @fh)));refine ax [0,9] [] ?_;refine al (aq (aF _ ?_));refine ae fw [0,4] [13] ?_;refine AW.imp (aL.eb (r:=13) (r':=500) trivial ak) ?_;refine AW.st (by simp[iN,iM,Go.Av.eb,Jj];rfl) ?_;have qf:=(Aq fw (Aq @eS.eq_1 (Aq @eS.eq_2 (Aq @dh.eq_1 (Aq @dh.eq_2 @hx)))));refine ko uG [0,4,5,6] [500] ?_;refine ag fun K2 au=>ae fw [0,4,5,6,20] [500] ?_;refine al (aq (au _ ?_));refine ag fun K3 aX=>bK fw fI [0,4,5] [500] ?_;have qf:=(Aq fw (Aq @bX (Aq @hj @dG)));refine ax [4,5,30] [500] ?_;refine aJ (bK (Aq fw aoJ) fm [2,3] [] ?_);exact aY (Aq fw aoI)
  .have dG:¬ (j:Int) < (t.length:Int):=aa
   rw[if_neg hj];refine aD.aO (ay _) func19 rfl rfl (rs:=[.tmp 2,.tmp 3]) results19 (by simp[ntmps19]) fun X=>?_;simp only[ntmps19,List.map];have fw:=aor;refine ae fw [0] [] ?_;refine ag fun K1 aF=>?_;have qf:=(Aq fw (Aq @bX (Aq @hl @fh)));refine ax [0,9] [] ?_;refine al (aq (aF _ ?_));refine ae fw [0,4] [13] ?_;refine AW.imp (aL.eb (r:=13) (r':=500) trivial ak) ?_;refine AW.st (by simp[iN,iM,Go.Av.eb,Jj];rfl) ?_;have qf:=(Aq fw (Aq @eS.eq_1 (Aq @eS.eq_2 (Aq @dh.eq_1 (Aq @dh.eq_2 @hx)))));refine ko uG [0,4,5,6] [500] ?_;refine ag fun K2 au=>ae fw [0,4,5,6,20] [500] ?_;refine al (aq (au _ ?_));refine ag fun K3 aX=>bK fw fI [0,4,5] [500] ?_;have qf:=(Aq fw (Aq @bX (Aq @hj @dG)));refine ax [4,5,30] [500] ?_;refine al (aq (aX _ ?_));refine ae fw [2,3] [] ?_;exact aY (Aq fw (Aq @s8.eq_1 (Aq @s8.eq_2 (Aq @aoi (Aq @aoj (Aq @aok @hx))))))
theorem Kk {l:List Ex} {i:Nat} (hi:i < l.length):iP (l.take i)+bE l[i]<=iP l:=by
 have h1:=Da (l.take i) [l[i]];rw[<- aml hi]at h1;have h2:=Da (l.take (i+1)) (l.drop (i+1));rw[anR]at h2;simp only[iP]at h1;omega
