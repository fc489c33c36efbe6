/- Parts. -/
import Derived.Test.YtoohljflflnbeaaGreatDoorFr20
import Derived.Test.YtoohljflflnbeaaGreatDoorFr21
import Derived.Shelf.Small.Strs
import Derived.Lib.IndexLaws
import Derived.Shelf.Strings.OnBuilder
set_option linter.unusedSimpArgs false
set_option linter.unusedVariables false
set_option maxHeartbeats 16000000
open Go.Proofs.Tryz
namespace Go.Proofs.YtoohljflflnbeaaGreatDoor
open Go.Av
open Go.Shelf
def cy (t:List UInt8) (i:Int):Row:=.box 258 [.d (dS t),int i]
def bL (t:List UInt8) (i:Int):List (Nat×Row):=[(500,cy t i)]
theorem Bx (a:UInt8) (n:Nat) (hn:n < 256):((a.toNat:Int)=(n:Int))↔a=UInt8.ofNat n:=by
 constructor
 .intro h
  have:a.toNat=n:=aa
  rw[<- this,UInt8.ofNat_toNat]
 .rintro rfl;simp;omega
theorem alO:type_of% (Aq @alv (Aq @bL.eq_1 (Aq @cy.eq_1 @alw))):=(Aq @alv (Aq @bL.eq_1 (Aq @cy.eq_1 @alw)))
theorem EG (G:ay) (t:List UInt8) (i:Nat) (ht:t.length < 2^60) (hi:i<=t.length) :
  MC prog G [500] 137 [.ref 500 0 0] (aq (bL t i)) (.d (.bz [])) (aq (bL t (bx t i))):=by
 refine MC.aQ (aC _) func137 rfl rfl (rs:=[]) results137 (by simp[ntmps137]) rfl fun X=>?_;simp only[ntmps137];have fw:=alO;refine cG (S:=Nat) (fun k=>k<=t.length/\bx t k=bx t i) (fun k=>⟨bp [(0,.ref 500 0 0)],aq [(500,.box 258 [.d (dS t),int k])]⟩) (fun k=>t.length - k) i ?_ ⟨hi,rfl⟩ ?_
 .refine bt fw
 .rintro k ⟨hk,hs⟩;refine ag fun K1 aF=>?_;by_cases dB:k < t.length
  .have aap:(k:Int) < (t.length:Int):=aa
   have mN:t.getD k 0=t[k]:=by simp[OF,dB]
   by_cases hb:((t[k]).toNat:Int)=32
   .have qf:=(Aq fw (Aq @bN (Aq @dr (Aq @dB @hb))));refine iz [0,23] [500] ?_;refine aJ (ar (aF _ ?_));refine bg (cD fw ?_);try simp only[aV,aX]
    have jH:t[k]? = some 32:=by
     rw[AT dB,(Bx _ 32 bF).1 hb];rfl
    refine bh.mk (k+1) ⟨aa,?_⟩ aa ?_
    .rw[<- M3 jH];exact hs
    refine bt fw
   .have qf:=(Aq fw (Aq @bN (Aq @dr (Aq @dB @hb))));refine iz [0,23] [500] ?_;refine al (b5 ?_)
    have jH:t[k]?≠some 32:=by
     rw[AT dB];intro h;apply hb;rw[AI h];rfl
    rw[zd jH]at hs;rw[<- hs];simp[bL,cy,dS,D.le_refl]
  .obtain rfl:k=t.length:=aa
   have qf:=(Aq fw (Aq @bN @dr));refine iz [0,23] [500] ?_;refine al (b5 ?_)
   have jH:t[t.length]?≠some 32:=ak
   rw[zd jH]at hs;rw[<- hs];simp[bL,cy,dS,D.le_refl]
theorem HE (G:ay) (t:List UInt8) (i:Nat) (ht:t.length < 2^60) (hi:i<=t.length) (c:UInt8) :
  MC prog G [500] 258 [.ref 500 0 0,.d (.v (.int .u8 c.toNat))] (aq (bL t i)) (.d (.v (.bool (eC t c i).1))) (aq (bL t (eC t c i).2)):=by
 have j3:=EG G t i ht hi;have iQ:=lI hi;unfold eC;generalize bx t i=j at j3 iQ ⊢;by_cases nB:j < t.length
 .rw[AT nB];by_cases hb:t[j]=c
  .have bk:((t[j]).toNat:Int)=(c.toNat:Int):=by rw[hb]
   rw[if_pos (by rw[hb])];refine MC.aQ (aC _) func258 rfl rfl (rs:=[.tmp 4]) results258 (by simp[ntmps258]) rfl fun X=>?_;simp only[ntmps258];have fw:=alO;refine ae fw [0,1] [500] ?_;refine bG fw j3 [0,1] [500] ?_;refine ag fun K1 aF=>?_;have qf:=(Aq fw (Aq @bN (Aq @dr (Aq @nB @bk))));refine iz [0,29] [500] ?_;refine aJ (ae fw [] [500] ?_);refine ae fw [4] [500] ?_;exact aU (Aq fw (Aq @bL.eq_1 @cy.eq_1))
  .have bk:¬ ((t[j]).toNat:Int)=(c.toNat:Int):=fun h=>hb (UInt8.toNat_inj.1 aa);rw[if_neg (fun h=>hb (AI h))];refine MC.aQ (aC _) func258 rfl rfl (rs:=[.tmp 4]) results258 (by simp[ntmps258]) rfl fun X=>?_;simp only[ntmps258];have fw:=alO;refine ae fw [0,1] [500] ?_;refine bG fw j3 [0,1] [500] ?_;refine ag fun K1 aF=>?_;have qf:=(Aq fw (Aq @bN (Aq @dr (Aq @nB @bk))));refine iz [0,29] [500] ?_;refine al (ar (aF _ ?_));refine ae fw [4] [500] ?_;exact aU (Aq fw (Aq @bL.eq_1 @cy.eq_1))
 .obtain rfl:j=t.length:=aa
  rw[if_neg ak];refine MC.aQ (aC _) func258 rfl rfl (rs:=[.tmp 4]) results258 (by simp[ntmps258]) rfl fun X=>?_;simp only[ntmps258];have fw:=alO;refine ae fw [0,1] [500] ?_;refine bG fw j3 [0,1] [500] ?_;refine ag fun K1 aF=>?_;have qf:=(Aq fw (Aq @bN @dr));refine iz [0,29] [500] ?_;refine al (ar (aF _ ?_));refine ae fw [4] [500] ?_;exact aU (Aq fw (Aq @bL.eq_1 @cy.eq_1))
theorem B5 (G:ay) (t:List UInt8) (i:Nat) (ht:t.length < 2^60) (hi:i<=t.length) (e:Int) :
  MC prog G [500] 138 [.ref 500 0 0,.d (ab e)] (aq (bL t i)) (.d (bD (some (e,some (bx t i))))) (aq (bL t (bx t i))):=by
 have j3:=EG G t i ht hi;generalize bx t i=j at j3 ⊢;refine MC.aQ (aC _) func138 rfl rfl (rs:=[.tmp 4]) results138 (by simp[ntmps138]) rfl fun X=>?_;simp only[ntmps138];have fw:=alO;refine ae fw [0,1] [500] ?_;refine bG fw j3 [0,1] [500] ?_;refine ae fw [4] [500,13] ?_;refine dT fw 13 ?_;exact aU (Aq fw (Aq @bL.eq_1 (Aq @cy.eq_1 (Aq @alF (Aq @alG @alH)))))
def qW:List UInt8:=[32,38,124,33,94,126,40,41,48,49,61]
theorem Ls (l:List UInt8) (c:UInt8):Lib.indexByte l c < 0↔c ∉ l:=by
 have we:=Lib.indexByte_ge l c;constructor
 .intro h hm;obtain⟨k,hk,rfl⟩:=aj1.1 hm;exact Lib.indexByte_none (show Lib.indexByte l l[k] = -1 by omega) k (AT hk)
 .intro hm;apply akf;intro h;obtain⟨n,hn⟩:=ajL (show 0<=Lib.indexByte l c by omega);exact hm (akn (Lib.indexByte_some hn).1)
theorem Rz (G:ay) (l:List UInt8) (c:UInt8):aD prog G 174 [dS l,.v (.int .u8 c.toNat)] (ab (Lib.indexByte l c)):=by
 refine aD.sE (iA.of func174 rfl rfl) fun X w vs bd bY dt=>?_
 obtain⟨a,b,rfl⟩:∃ a b,vs = #[a,b]:=by
  match vs,bd with
  | ⟨[a,b]⟩,_=>exact⟨a,b,rfl⟩
 have ha:=(bY 0 a _ rfl rfl).scalar;have hb:=(bY 1 b _ rfl rfl).scalar;subst ha hb;have iW:=Any.strings_IndexByte (P:=prog) (ρ:=Tryz.LD) { Tryz.LC with } (bs l) c.toNat w;rw[show (c.toNat:Int).toNat.toUInt8=c by simp]at iW;exact iW.mono fun e w' ⟨he,hw⟩=>⟨_,he,by rw[hw];exact cN.refl _,.v _⟩
end Go.Proofs.YtoohljflflnbeaaGreatDoor
namespace Go.Proofs.YtoohljflflnbeaaGreatDoor
open Go.Av
theorem Ol (t:List UInt8) (i j:Nat):(bs t).extract i j=bs ((t.drop i).take (j - i)):=ByteArray.ext (by
 rw[ByteArray.data_extract];unfold bs;apply akl.1
 simp[List.take_drop,List.extract])
theorem za:(⟨#[32,38,124,33,94,126,40,41,48,49,61]⟩:ByteArray)=bs qW:=rfl
def nO:Rs (List UInt8)->D
 | .ok s _=>.bz [dS s,.v .nilIface]
 | .err c p _=>.bz [dS [],bD (some (c,some p))]
def cR {α:Type}:Rs α->Nat
 | .ok _ i=>i
 | .err _ p _=>p
theorem A4 (c:UInt8):c∈qW↔(mw c=true\/c=48\/c=49):=by
 simp only[qW,mw,ajX,List.not_mem_nil,or_false,akq];constructor
 .rintro (h | h | h | h | h | h | h | h | h | h | h)<;>simp[h]
 .rintro ((h | h | h | h | h | h | h | h | h) | h | h)<;>simp[h]
def xk (t:List UInt8) (j k:Nat):Prop:=k=j\/(j < k/\uW t j=true/\r0 t (j+1)=r0 t k)
theorem ui {t:List UInt8} {j k:Nat} (h:xk t j k) (hk:k<=t.length) (hstop:∀ hk:k < t.length,t[k]∈qW/\(j < k->t[k]≠48/\t[k]≠49)):k=qg t j:=by
 unfold qg
 rcases h with rfl | ⟨ya,hh,he⟩
 .by_cases gy:k < t.length
  .have:=(A4 _).1 (hstop gy).1
   have jj:uW t k=false:=by
    unfold uW;rw[AT gy]
    rcases this with h | h | h<;>simp[h]
   rw[jj];rfl
  .have jj:uW t k=false:=by
    unfold uW;rw[akZ aa]
   rw[jj];rfl
 .rw[hh,if_pos rfl,he,ahs];intro gy;obtain⟨h1,h2⟩:=hstop gy
  rcases (A4 _).1 h1 with h | h | h
  .exact h
  .exact absurd h (h2 ya).1
  .exact absurd h (h2 ya).2
theorem BL {t:List UInt8} {j k:Nat} (h:xk t j k) (hk:k < t.length) (fO:t[k] ∉ qW\/(j < k/\(t[k]=48\/t[k]=49))):xk t j (k+1):=by
 have hs:mw t[k]=false:=by
  rcases fO with h | ⟨_,h⟩
  .cases hc:mw t[k] with
   | false=>rfl
   | true=>exact absurd ((A4 _).2 (.inl hc)) h
  .rcases h with h | h<;>rw[h]<;>rfl
 right
 rcases h with rfl | ⟨ya,hh,he⟩
 .refine⟨aa,?_,rfl⟩
  rcases fO with h | ⟨h,_⟩
  .have h1:t[k]≠48:=fun e=>h ((A4 _).2 (.inr (.inl e)));have h2:t[k]≠49:=fun e=>h ((A4 _).2 (.inr (.inr e)));unfold uW;rw[AT hk];simp[hs,h1,h2]
  .omega
 .refine⟨aa,hh,?_⟩;rw[he,ahr hk hs]
theorem al6:type_of% (Aq @alF (Aq @alG @alH)):=(Aq @alF (Aq @alG @alH))
theorem NC (G:ay) (t:List UInt8) (q i:Nat) (ht:t.length < 2^60) (hi:i<=t.length) :
  MC prog G [500] 295 [.ref 500 0 0] (aq (bL t i)) (.d (nO (fU t q i))) (aq (bL t (cR (fU t q i)))):=by
 have j3:=EG G t i ht hi;have iQ:=lI hi;have wg:=zc hi;unfold fU;generalize bx t i=j at j3 iQ wg ⊢;have CA:=B5 G t j ht iQ 3;have CB:=B5 G t j ht iQ 5;rw[wg]at CA CB;have ba:=HJ t j;have het:=Nt iQ;have wH:(t.drop j).take (qg t j - j)=jk t j:=rfl
 have KS:(jk t j).length < 2^60:=by
  rw[<- wH,ajW,aj5];omega
 have lT:=Sr G (jk t j) KS;refine MC.aQ (aC _) func295 rfl rfl (rs:=[.tmp 2,.tmp 3]) results295 (by simp[ntmps295]) rfl fun X=>?_;simp only[ntmps295];have fw:=alO;refine ae fw [0] [500] ?_;refine bG fw j3 [0] [500] ?_;refine ae fw [0,4] [500] ?_;refine ag fun K1 aF=>cG (S:=Nat) (fun k=>j<=k/\k<=t.length/\xk t j k) (fun k=>⟨bp [(0,.ref 500 0 0),(4,int k)],aq [(500,.box 258 [.d (dS t),int j])]⟩) (fun k=>t.length - k) j ?_ ⟨ajJ _,iQ,.inl rfl⟩ ?_
 .refine bt fw
 .rintro k ⟨ya,hk,dD⟩;refine ag fun K2 aw=>?_
  refine (fun fO hstop=>?_) (fun (σ:St) (hn:xk t j (k+1)) (dB:k < t.length) himp=>aw σ (AW.imp (τ:=⟨bp [(0,.ref 500 0 0),(4,int k)],aq [(500,.box 258 [.d (dS t),int j])]⟩) himp ?_))
   (fun (σ:St) (he:k=qg t j) himp=>aF σ (AW.imp (τ:=⟨bp [(0,.ref 500 0 0),(4,int k)],aq [(500,.box 258 [.d (dS t),int j])]⟩) himp ?_))
  .by_cases dB:k < t.length
   .have iq:=Rz G qW t[k];have Qo:=Ls qW t[k];by_cases hm:t[k]∈qW
    .have As:¬ Lib.indexByte qW t[k] < 0:=fun h=>Qo.1 h hm;by_cases lg:j < k
     .have mf:(j:Int) < (k:Int):=aa
      by_cases rr:((t[k]).toNat:Int)=48
      .have hc:t[k]=48:=(Bx _ 48 bF).1 rr;have qf:=(Aq fw (Aq @bN (Aq @dr (Aq @za (Aq @dB (Aq @As (Aq @mf (Aq @lg @rr))))))));refine e7 iq [0,4,63] [500] ?_;refine aJ (ar (fO _ (BL dD dB (.inr ⟨lg,.inl hc⟩)) dB ?_));refine bt fw
      .by_cases sY:((t[k]).toNat:Int)=49
       .have hc:t[k]=49:=(Bx _ 49 bF).1 sY;have qf:=(Aq fw (Aq @bN (Aq @dr (Aq @za (Aq @dB (Aq @As (Aq @mf (Aq @lg (Aq @rr @sY)))))))));refine e7 iq [0,4,63] [500] ?_;refine aJ (ar (fO _ (BL dD dB (.inr ⟨lg,.inr hc⟩)) dB ?_));refine bt fw
       .have qf:=(Aq fw (Aq @bN (Aq @dr (Aq @za (Aq @dB (Aq @As (Aq @mf (Aq @lg (Aq @rr @sY)))))))));refine e7 iq [0,4,63] [500] ?_;refine al (b5 (hstop _ (ui dD hk fun _=>⟨hm,fun _=>⟨fun e=>rr (by rw[e];rfl),fun e=>sY (by rw[e];rfl)⟩⟩) ?_));refine bt fw
     .have mf:¬ (j:Int) < (k:Int):=aa
      have qf:=(Aq fw (Aq @bN (Aq @dr (Aq @za (Aq @dB (Aq @As (Aq @mf @lg)))))));refine e7 iq [0,4,63] [500] ?_;refine al (b5 (hstop _ (ui dD hk fun _=>⟨hm,fun h=>absurd h lg⟩) ?_));refine bt fw
    .have As:Lib.indexByte qW t[k] < 0:=Qo.2 hm;have qf:=(Aq fw (Aq @bN (Aq @dr (Aq @za (Aq @dB @As)))));refine e7 iq [0,4,63] [500] ?_;refine aJ (ar (fO _ (BL dD dB (.inl hm)) dB ?_));refine bt fw
   .obtain rfl:k=t.length:=aa
    by_cases lg:j < t.length
    .have mf:(j:Int) < (t.length:Int):=aa
     have qf:=(Aq fw (Aq @bN (Aq @dr (Aq @za (Aq @mf @lg)))));refine au [0,4,63] [500] ?_;refine al (b5 (hstop _ (ui dD hk fun h=>absurd h dB) ?_));refine bt fw
    .have mf:¬ (j:Int) < (t.length:Int):=aa
     have qf:=(Aq fw (Aq @bN (Aq @dr (Aq @za (Aq @mf @lg)))));refine au [0,4,63] [500] ?_;refine al (b5 (hstop _ (ui dD hk fun h=>absurd h dB) ?_));refine bt fw
  .refine bg (cD fw ?_);(try simp only[aV,aX]);refine bh.mk (k+1) ⟨aa,aa,hn⟩ aa ?_;refine bt fw
  .subst he;clear aF aw;have Ll:List.take (qg t j - j) (List.drop j t)=jk t j:=wH;have qf:=(Aq fw (Aq @bN (Aq @Ol (Aq @ba (Aq @het @Ll)))));refine iz [0,4,5] [500] ?_;refine ag fun K3 aZ=>?_;by_cases hs:jk t j=[]
   .refine rg [0,4,5,77] [500] (ew rfl) fun K' ao=>?_;(repeat refine aK fun Kq af=>?_;simp[ab,bL,cy,dS,hs,b7,bu,bo];(repeat refine⟨aa,?_⟩);refine af _ ?_);refine bJ (ao _ (AW.st (by simp[ab,bL,cy,dS,hs,b7,bu,bo];rfl) ?_));refine aJ (bG (Aq fw al6) CA [2,3] [500] ?_);refine bT ?_;simp[D.le,D.le.go,aR,ab,bL,cy,dS,bL,cy,nO,cR,bD,b7,hs]
   .have wC:(jk t j == [])=false:=by simpa using hs
    have Da:(jk t j).isEmpty=false:=by rw[akY];exact hs
    refine rg [0,4,5,77] [500] (ew rfl) fun K' ao=>?_;(repeat refine aK fun Kq af=>?_;simp[ab,bL,cy,dS,b7,bu,bo,hs,wC,Da];(repeat refine⟨aa,?_⟩);refine af _ ?_);refine bJ (ao _ (AW.st (by simp[ab,bL,cy,dS,b7,bu,bo,hs,wC,Da];rfl) ?_));refine al (ar (aZ _ ?_));refine ag fun K4 cr=>?_
    cases hn:jv (jk t j) with
    | false=>
     rw[hn]at lT;refine br fw lT [0,4,5,82] [500] ?_;refine aJ (bG (Aq fw al6) CB [2,3] [500] ?_);refine bT ?_;simp[D.le,D.le.go,aR,ab,bL,cy,dS,bL,cy,nO,cR,bD,b7,hs,hn]
    | true=>
     rw[hn]at lT;refine br fw lT [0,4,5,82] [500] ?_;refine al (ar (cr _ ?_));refine ae fw [5] [500] ?_;refine ae fw [2,3] [500] ?_;exact aU (Aq fw (Aq @bL.eq_1 (Aq @cy.eq_1 (Aq @nO.eq_1 (Aq @nO.eq_2 (Aq @cR.eq_1 (Aq @cR.eq_2 (Aq @hs @hn))))))))
end Go.Proofs.YtoohljflflnbeaaGreatDoor
namespace Go.Proofs.YtoohljflflnbeaaGreatDoor
theorem Uk {α:Type} {t:List UInt8} {s:UInt8} {f:Nat->Rs α} (hf:lM t f):∀ (n m i:Nat) (acc:List α),i<=t.length->t.length+1 - i<=n->t.length+1 - i<=m->iS t s f n i acc=iS t s f m i acc
 | 0,_,i,_,hi,h,_=>aa
 | _+1,0,i,_,hi,_,h=>aa
 | n+1,m+1,i,acc,hi,h1,h2=>by
  rw[iS,iS]
  cases cm:f i with
  | err c p q=>rfl
  | ok x j=>
   obtain⟨g1,g2⟩:=hf i x j hi cm;obtain⟨t1,t2,t3⟩:=oL (c:=s) g2;dsimp only;split
   .exact Uk hf n m _ _ t2 aa aa
   .rfl
def lH {α:Type} (t:List UInt8) (s:UInt8) (f:Nat->Rs α) (i:Nat) (acc:List α):Rs (List α):=iS t s f (t.length+1 - i) i acc
theorem vo {α:Type} {t:List UInt8} {s:UInt8} {f:Nat->Rs α} (hf:lM t f) {i:Nat} (hi:i<=t.length) (acc:List α):lH t s f i acc=match f i with
  | .err c p _=>.err c p 0
  | .ok x j=>if (eC t s j).1 then lH t s f (eC t s j).2 (acc ++ [x]) else .ok (acc ++ [x]) (eC t s j).2:=by
 unfold lH;obtain⟨n,hn⟩:∃ n,t.length+1 - i=n+1:=⟨t.length - i,aa⟩;rw[hn,iS]
 cases cm:f i with
 | err c p q=>rfl
 | ok x j=>
  obtain⟨g1,g2⟩:=hf i x j hi cm;obtain⟨t1,t2,t3⟩:=oL (c:=s) g2;dsimp only;split
  .exact Uk hf _ _ _ _ t2 aa aa
  .rfl
theorem M0 {α:Type} {t:List UInt8} {s:UInt8} {f:Nat->Rs α}:∀ (n i:Nat) (acc:List α) {c:Int} {p q:Nat},iS t s f n i acc = .err c p q->q=0
 | 0,_,_,_,_,_,h=>by simp only[iS,Rs.err.injEq]at h;omega
 | n+1,i,acc,c,p,q,h=>by
  rw[iS]at h;split at h
  .simp only[Rs.err.injEq]at h;omega
  .split at h
   .exact M0 n _ _ h
   .cases h
theorem IE {l:List Ex} (h:l.length≠1):ur l = .and l:=by
 match l,h with
 | [],_=>rfl
 | [_],h=>exact absurd rfl h
 | _ :: _ :: _,_=>rfl
theorem IF {l:List Ex} (h:l.length≠1):uu l = .or l:=by
 match l,h with
 | [],_=>rfl
 | [_],h=>exact absurd rfl h
 | _ :: _ :: _,_=>rfl
open Go.Av
mutual
def dE:Ex->D
 | .iD b=>.cf 163 (.v (.bool b))
 | .bit s=>.cf 149 (dS s)
 | .jA s=>.cf 160 (dS s)
 | .jm s=>.cf 162 (dS s)
 | .not e=>.cf 130 (.agg [dE e])
 | .and l=>.cf 159 (.sl none (BV l))
 | .or l=>.cf 132 (.sl none (BV l))
def BV:List Ex->List (List D)
 | []=>[]
 | e :: l=>[dE e] :: BV l
end
theorem ux:∀ l:List Ex,BV l=l.map fun e=>[dE e]
 | []=>rfl
 | e :: l=>by rw[BV,ux l];rfl
theorem kW (e:Ex):∃ t y,dE e = .cf t y:=by
 cases e<;>simp only[dE]<;>exact⟨_,_,rfl⟩
def zH (l:List Ex):D:=.sl none (l.map fun e=>[dE e])
def dQ (q:Nat):D:=if q=1 then .cf 160 (dS []) else if q=2 then .cf 162 (dS []) else if q=3 then .cf 149 (dS []) else .v .nilIface
def ez:Rs Ex->D
 | .ok x _=>.bz [dE x,.v .nilIface]
 | .err c p q=>.bz [dQ q,bD (some (c,some p))]
def nN:Rs (List Ex)->D
 | .ok l _=>.bz [zH l,.v .nilIface]
 | .err c p _=>.bz [.sl (some false) [],bD (some (c,some p))]
theorem al1:type_of% (Aq @ez.eq_1 (Aq @ez.eq_2 (Aq @alF (Aq @alG @alH)))):=(Aq @ez.eq_1 (Aq @ez.eq_2 (Aq @alF (Aq @alG @alH))))
theorem Ul (G:ay) (t:List UInt8) (ht:t.length<=2000) (g:FuncId) (s:UInt8) (sn:Int) (fQ:(s.toNat:Int)=sn) (d:Int) (f:Nat->Rs Ex) (hf:lM t f)
  (fh:∀ i,i<=t.length->MC prog G [500] g [.ref 500 0 0,.d (ab d)] (aq (bL t i)) (.d (ez (f i))) (aq (bL t (cR (f i))))) (i:Nat) (hi:i<=t.length) :
  MC prog G [500] 205 [.ref 500 0 0,.d (.v (.int .u8 sn)),.d (ab d),.bm g (.ref 500 0 0)] (aq (bL t i)) (.d (nN (lH t s f i []))) (aq (bL t (cR (lH t s f i [])))):=by
 generalize hR:lH t s f i []=R;refine MC.aQ (aC _) func205 rfl rfl (rs:=[.tmp 8,.tmp 9]) results205 (by simp[ntmps205]) rfl fun X=>?_;simp only[ntmps205];have fw:=alO;refine ae fw [0,1,2,3] [500] ?_;refine ae fw [0,1,2,3,10] [500] ?_;refine cG (S:=Nat×List Ex) (fun z=>z.1<=t.length/\z.2.length<=z.1/\lH t s f z.1 z.2=R) (fun z=>⟨bp [(0,.ref 500 0 0),(1,.d (.v (.int .u8 sn))),(2,.d (ab d)),(3,.bm g (.ref 500 0 0)),(10,.own 300 0 z.2.length)],aq [(500,.box 258 [.d (dS t),int z.1]),(300,.sl 34 1 (z.2.map fun e=>[dE e]))]⟩) (fun z=>t.length - z.1) (i,[]) ?_ ⟨hi,ak,hR⟩ ?_
 .refine (aM.nU 10 300 34 1 rfl rfl).trans ?_;refine bt fw
 .rintro⟨k,acc⟩ ⟨hk,JE,hs⟩;dsimp only at hk JE hs ⊢;have hc:=fh k hk;rw[vo hf hk]at hs;refine bg ?_
  cases J9:f k with
  | err c p q=>
   rw[J9]at hc hs;dsimp only at hs;subst hs;refine bG (Aq fw al1) hc [0,1,2,3,10,11,12] [500,300] ?_;refine ag fun K1 aF=>ae fw [0,1,2,3,10,11,12,20] [500,300] ?_;refine aJ (ae fw [8,9] [500] ?_);exact aU (Aq fw (Aq @bL.eq_1 (Aq @cy.eq_1 (Aq @nN.eq_1 (Aq @nN.eq_2 (Aq @cR.eq_1 (Aq @cR.eq_2 (Aq @alF (Aq @alG @alH)))))))))
  | ok x j=>
   rw[J9]at hc hs;dsimp only at hs;obtain⟨g1,g2⟩:=hf k x j hk J9;have cY:=HE G t j aa g2 s;rw[fQ]at cY;obtain⟨t1,t2,t3⟩:=oL (c:=s) g2;obtain⟨tx,cx,hx⟩:=kW x;have qf:=(Aq fw (Aq @ez.eq_1 (Aq @ez.eq_2 (Aq @cR.eq_1 (Aq @cR.eq_2 @hx)))));refine jW hc [0,1,2,3,10,11,12] [500,300] ?_;refine ag fun K1 aF=>ae fw [0,1,2,3,10,11,12,20] [500,300] ?_;refine al (ar (aF _ ?_));refine rg [0,1,2,3,10] [500,300] (ew rfl) fun K' ao=>?_;(repeat refine aK fun Kq af=>?_;simp[ab,bL,cy,dS,sh];(repeat refine⟨aa,?_⟩);refine af _ ?_);refine bJ (ao _ (AW.st (by simp[ab,bL,cy,dS,sh];rfl) ?_))
   cases fR:eC t s j with
   | mk b k2=>
   rw[fR]at hs cY t1 t2 t3;dsimp only at hs cY t1 t2 t3
   cases b with
   | true=>
    rw[if_pos rfl]at hs;have aH:=t3 rfl;refine bG fw cY [0,1,2,3,10,29] [500,300] ?_;refine al (ar ?_);refine bh.mk (k2,acc ++ [x]) ⟨t2,by simp;omega,hs⟩ (by dsimp only;omega) ?_;refine bt (Aq fw @hx)
   | false=>
    rw[if_neg ak]at hs;subst hs;refine bG fw cY [0,1,2,3,10,29] [500,300] ?_;refine aJ (AW.imp (aM.freeze 300 bF) ?_);refine AW.st (by simp[ab,bL,cy,dS];rfl) ?_;refine ae fw [8,9] [500] ?_;exact aU (Aq fw (Aq @bL.eq_1 (Aq @cy.eq_1 (Aq @nN.eq_1 (Aq @nN.eq_2 (Aq @zH.eq_1 (Aq @cR.eq_1 (Aq @cR.eq_2 @hx))))))))
theorem VR (G:ay) (t:List UInt8) (ht:t.length<=2000) (d:Nat) (kY:∀ i,i<=t.length->MC prog G [500] 259 [.ref 500 0 0,.d (ab d)] (aq (bL t i)) (.d (ez (cI t d i))) (aq (bL t (cR (cI t d i))))) (i:Nat) (hi:i<=t.length) :
  MC prog G [500] 206 [.ref 500 0 0,.d (ab d)] (aq (bL t i)) (.d (ez (nt t (cI t d) i))) (aq (bL t (cR (nt t (cI t d) i)))):=by
 have oA:=Ul G t ht 259 38 38 rfl d (cI t d) (oI t d) kY i hi;have hR:nt t (cI t d) i=(lH t 38 (cI t d) i []).map ur:=rfl;rw[hR];have hq:∀ {c:Int} {p q:Nat},lH t 38 (cI t d) i [] = .err c p q->q=0:=fun h=>M0 _ _ _ h
 cases hs:lH t 38 (cI t d) i [] with
 | err c p q=>
  obtain rfl:=hq hs;rw[hs]at oA;refine MC.aQ (aC _) func206 rfl rfl (rs:=[.tmp 4,.tmp 5]) results206 (by simp[ntmps206]) rfl fun X=>?_;simp only[ntmps206];have fw:=alO;refine ae fw [0,1] [500] ?_;refine bG (Aq fw (Aq @nN.eq_1 (Aq @nN.eq_2 (Aq @alF (Aq @alG @alH))))) oA [6,7] [500] ?_;refine ag fun K1 aF=>ae fw [6,7,17] [500] ?_;refine aJ (ae fw [4,5] [500] ?_);refine bT ?_;simp[D.le,D.le.go,aR,ab,bL,cy,dS,bL,cy,ez,cR,bD,Rs.map,dQ]
 | ok l p=>
  rw[hs]at oA;by_cases hl:l.length=1
  .obtain⟨x,rfl⟩:=akk.1 hl;obtain⟨tx,cx,hx⟩:=kW x;refine MC.aQ (aC _) func206 rfl rfl (rs:=[.tmp 4,.tmp 5]) results206 (by simp[ntmps206]) rfl fun X=>?_;simp only[ntmps206];have fw:=alO;refine ae fw [0,1] [500] ?_;have qf:=(Aq fw (Aq @nN.eq_1 (Aq @nN.eq_2 (Aq @zH.eq_1 @hx))));refine jW oA [6,7] [500] ?_;refine ag fun K1 aF=>ae fw [6,7,17] [500] ?_;refine al (ar (aF _ ?_));refine ag fun K2 aw=>ae fw [6,21] [500] ?_;refine aJ (ae fw [4,5] [500] ?_);refine bT ?_;simp[D.le,D.le.go,aR,ab,bL,cy,dS,bL,cy,ez,cR,Rs.map,ur,hx,D.le_refl]
  .have fo:¬ (l.length:Int)=1:=aa
   have xU:=IE hl;refine MC.aQ (aC _) func206 rfl rfl (rs:=[.tmp 4,.tmp 5]) results206 (by simp[ntmps206]) rfl fun X=>?_;simp only[ntmps206];have fw:=alO;refine ae fw [0,1] [500] ?_;refine bG (Aq fw (Aq @nN.eq_1 (Aq @nN.eq_2 @zH.eq_1))) oA [6,7] [500] ?_;refine ag fun K1 aF=>ae fw [6,7,17] [500] ?_;refine al (ar (aF _ ?_));refine ag fun K2 aw=>?_;have qf:=(Aq fw (Aq @hl @fo));refine au [6,21] [500] ?_;refine al (ar (aw _ ?_));refine ae fw [4,5] [500] ?_;refine bT ?_;simp[D.le,D.le.go,aR,ab,bL,cy,dS,bL,cy,ez,cR,Rs.map,xU,dE,ux,D.le_refl,D.bR]
theorem SR (G:ay) (t:List UInt8) (ht:t.length<=2000) (d:Nat) (kY:∀ i,i<=t.length->MC prog G [500] 259 [.ref 500 0 0,.d (ab d)] (aq (bL t i)) (.d (ez (cI t d i))) (aq (bL t (cR (cI t d i))))) (i:Nat) (hi:i<=t.length) :
  MC prog G [500] 136 [.ref 500 0 0,.d (ab d)] (aq (bL t i)) (.d (ez (lE t (cI t d) i))) (aq (bL t (cR (lE t (cI t d) i)))):=by
 have oA:=Ul G t ht 206 124 124 rfl d (nt t (cI t d)) (BJ (oI t d)) (VR G t ht d kY) i hi;have hR:lE t (cI t d) i=(lH t 124 (nt t (cI t d)) i []).map uu:=rfl;rw[hR];have hq:∀ {c:Int} {p q:Nat},lH t 124 (nt t (cI t d)) i [] = .err c p q->q=0:=fun h=>M0 _ _ _ h
 cases hs:lH t 124 (nt t (cI t d)) i [] with
 | err c p q=>
  obtain rfl:=hq hs;rw[hs]at oA;refine MC.aQ (aC _) func136 rfl rfl (rs:=[.tmp 4,.tmp 5]) results136 (by simp[ntmps136]) rfl fun X=>?_;simp only[ntmps136];have fw:=alO;refine ae fw [0,1] [500] ?_;refine bG (Aq fw (Aq @nN.eq_1 (Aq @nN.eq_2 (Aq @alF (Aq @alG @alH))))) oA [6,7] [500] ?_;refine ag fun K1 aF=>ae fw [6,7,17] [500] ?_;refine aJ (ae fw [4,5] [500] ?_);refine bT ?_;simp[D.le,D.le.go,aR,ab,bL,cy,dS,bL,cy,ez,cR,bD,Rs.map,dQ]
 | ok l p=>
  rw[hs]at oA;by_cases hl:l.length=1
  .obtain⟨x,rfl⟩:=akk.1 hl;obtain⟨tx,cx,hx⟩:=kW x;refine MC.aQ (aC _) func136 rfl rfl (rs:=[.tmp 4,.tmp 5]) results136 (by simp[ntmps136]) rfl fun X=>?_;simp only[ntmps136];have fw:=alO;refine ae fw [0,1] [500] ?_;have qf:=(Aq fw (Aq @nN.eq_1 (Aq @nN.eq_2 (Aq @zH.eq_1 @hx))));refine jW oA [6,7] [500] ?_;refine ag fun K1 aF=>ae fw [6,7,17] [500] ?_;refine al (ar (aF _ ?_));refine ag fun K2 aw=>ae fw [6,21] [500] ?_;refine aJ (ae fw [4,5] [500] ?_);refine bT ?_;simp[D.le,D.le.go,aR,ab,bL,cy,dS,bL,cy,ez,cR,Rs.map,uu,hx,D.le_refl]
  .have fo:¬ (l.length:Int)=1:=aa
   have xU:=IF hl;refine MC.aQ (aC _) func136 rfl rfl (rs:=[.tmp 4,.tmp 5]) results136 (by simp[ntmps136]) rfl fun X=>?_;simp only[ntmps136];have fw:=alO;refine ae fw [0,1] [500] ?_;refine bG (Aq fw (Aq @nN.eq_1 (Aq @nN.eq_2 @zH.eq_1))) oA [6,7] [500] ?_;refine ag fun K1 aF=>ae fw [6,7,17] [500] ?_;refine al (ar (aF _ ?_));refine ag fun K2 aw=>?_;have qf:=(Aq fw (Aq @hl @fo));refine au [6,21] [500] ?_;refine al (ar (aw _ ?_));refine ae fw [4,5] [500] ?_;refine bT ?_;simp[D.le,D.le.go,aR,ab,bL,cy,dS,bL,cy,ez,cR,Rs.map,xU,dE,ux,D.le_refl,D.bR]
end Go.Proofs.YtoohljflflnbeaaGreatDoor
namespace Go.Proofs.YtoohljflflnbeaaGreatDoor
def zt {α:Type} (sz:α->Nat) (t:List UInt8) (f:Nat->Rs α):Prop:=∀ i x j,i<=t.length->f i = .ok x j->sz x<=5 * (j - i)
theorem acR {s:List UInt8} (h:jv s=true):s≠[]/\s.length<=8/\(∀ c∈s,mw c=false)/\∀ c,s[0]? = some c->mw c=false/\c≠48/\c≠49/\97<=c.toNat:=by
 unfold jv at h;simp only[IT,decide_eq_true_eq,UR]at h;obtain⟨h1,h2,h3,h4,h5,-⟩:=h
 have hs:∀ c:UInt8,qn.contains c=true->mw c=false:=by
  have h:∀ n:Fin 256,qn.contains (UInt8.ofNat n)=true->mw (UInt8.ofNat n)=false:=by decide +kernel
  intro c;have:=h ⟨c.toNat,c.toNat_lt⟩;simpa using this
 refine⟨h1,h2,fun c hc=>hs c (h5 c hc),fun c hc=>?_⟩;have hm:c∈s:=akn hc
 have hg:s.getD 0 0=c:=by rw[OF,hc];rfl
 rw[hg]at h3;refine⟨hs c (h5 c hm),?_,?_,h3⟩<;>rintro rfl<;>revert h3<;>decide
mutual
def iL:Ex->Prop
 | .iD _=>True
 | .bit s=>jv s=true
 | .jA s=>jv s=true
 | .jm s=>jv s=true
 | .not e=>iL e
 | .and l=>2<=l.length/\zv l
 | .or l=>2<=l.length/\zv l
def zv:List Ex->Prop
 | []=>True
 | e :: l=>iL e/\zv l
end
theorem xv:∀ l:List Ex,zv l↔∀ e∈l,iL e
 | []=>by simp[zv]
 | e :: l=>by simp[zv,xv l]
mutual
def lr:Ex->Nat
 | .iD _=>1
 | .bit _=>1
 | .jA _=>1
 | .jm _=>1
 | .not e=>lr e+1
 | .and l=>vL l+1
 | .or l=>vN l+1
def vL:List Ex->Nat
 | []=>0
 | e :: l=>max (lr e) (vL l)
def vN:List Ex->Nat
 | []=>0
 | e :: l=>max (match e with | .and m=>vL m | e=>lr e) (vN l)
end
def vM:Ex->Nat
 | .and l=>vL l
 | .or l=>vN l
 | e=>lr e
def uC:Ex->Nat
 | .and l=>vL l
 | e=>lr e
theorem XA (e:Ex) (l:List Ex):vN (e :: l)=max (uC e) (vN l):=by
 cases e<;>simp[vN,uC]
theorem Xz (e:Ex):uC e<=lr e:=by cases e<;>simp[uC,lr]
theorem Xy (e:Ex):vM e<=uC e:=by
 cases e<;>simp[vM,uC,lr]
theorem Xx (e:Ex):lr e<=vM e+1:=by
 cases e<;>simp[vM,lr]
theorem MW {t:List UInt8} {s:UInt8} {f:Nat->Rs Ex} (P:Ex->Prop) (hf:∀ i x j,f i = .ok x j->P x):∀ (n i:Nat) (acc l:List Ex) (j:Nat),iS t s f n i acc = .ok l j->(∀ x∈acc,P x)->∀ x∈l,P x
 | 0,i,acc,l,j,h,_=>by simp[iS]at h
 | n+1,i,acc,l,j,h,ha=>by
  rw[iS]at h
  cases cm:f i with
  | err c p q=>rw[cm]at h;cases h
  | ok x k=>
   rw[cm]at h;dsimp only at h
   have eu:∀ y∈acc ++ [x],P y:=fun y hy=>by
    rcases ajR.1 hy with hy | hy
    .exact ha y hy
    .simp at hy;subst hy;exact hf _ _ _ cm
   split at h
   .exact MW P hf n _ _ l j h eu
   .simp only[Rs.ok.injEq]at h;obtain⟨rfl,-⟩:=h;exact eu
theorem MZ {t:List UInt8} {s:UInt8} {f:Nat->Rs Ex}:∀ (n i:Nat) (acc l:List Ex) (j:Nat),iS t s f n i acc = .ok l j->acc.length < l.length
 | 0,i,acc,l,j,h=>by simp[iS]at h
 | n+1,i,acc,l,j,h=>by
  rw[iS]at h;split at h
  .cases h
  .split at h
   .have:=MZ n _ _ l j h;simp only[ajQ,alc]at this;omega
   .simp only[Rs.ok.injEq]at h;obtain⟨rfl,-⟩:=h;simp
theorem OM {d:Nat}:∀ {l:List Ex},(∀ x∈l,lr x<=d)->vL l<=d
 | [],_=>by simp[vL]
 | e :: l,h=>by
  have h1:=h e ak;have h2:=OM (l:=l) fun x hx=>h x (by simp[hx]);rw[vL];omega
theorem ON {d:Nat}:∀ {l:List Ex},(∀ x∈l,uC x<=d)->vN l<=d
 | [],_=>by simp[vN]
 | e :: l,h=>by
  have h1:=h e ak;have h2:=ON (l:=l) fun x hx=>h x (by simp[hx]);rw[XA];omega
theorem VS {t:List UInt8} {d:Nat} (h:∀ i x j,cI t d i = .ok x j->iL x/\lr x<=d) {i j:Nat} {x:Ex} (he:nt t (cI t d) i = .ok x j):iL x/\uC x<=d:=by
 obtain⟨l,h1,rfl⟩:=ph he;have ha:=MW (fun x=>iL x/\lr x<=d) h _ _ _ _ _ h1 ak;have hp:=MZ _ _ _ _ _ h1;by_cases hl:l.length=1
 .obtain⟨x,rfl⟩:=akk.1 hl;have:=ha x ak;exact⟨this.1,ald (Xz x) this.2⟩
 .rw[IE hl];exact⟨⟨by simp at hp;omega,(xv _).2 fun x hx=>(ha x hx).1⟩,OM fun x hx=>(ha x hx).2⟩
theorem SS {t:List UInt8} {d:Nat} (h:∀ i x j,cI t d i = .ok x j->iL x/\lr x<=d) {i j:Nat} {x:Ex} (he:lE t (cI t d) i = .ok x j):iL x/\vM x<=d:=by
 obtain⟨l,h1,rfl⟩:=ph he;have ha:=MW (fun x=>iL x/\uC x<=d) (fun i x j h'=>VS h h') _ _ _ _ _ h1 ak;have hp:=MZ _ _ _ _ _ h1;by_cases hl:l.length=1
 .obtain⟨x,rfl⟩:=akk.1 hl;have:=ha x ak;exact⟨this.1,ald (Xy x) this.2⟩
 .rw[IF hl];exact⟨⟨by simp at hp;omega,(xv _).2 fun x hx=>(ha x hx).1⟩,ON fun x hx=>(ha x hx).2⟩
theorem ND {t:List UInt8} {q i j:Nat} {s:List UInt8} (h:fU t q i = .ok s j):jv s=true:=by
 unfold fU at h;split at h
 .cases h
 .split at h
  .cases h
  .rename_i hn;simp only[Rs.ok.injEq]at h;obtain⟨rfl,-⟩:=h;simpa using hn
theorem SO (t:List UInt8):∀ d i x j,cI t d i = .ok x j->iL x/\lr x<=d
 | 0,i,x,j,h=>by simp[cI]at h
 | d+1,i,x,j,h=>by
  have ih:=SO t d;rw[cI]at h;split at h
  .cases he:cI t d (bx t i+1) with
   | err c p q=>rw[he]at h;cases h
   | ok y k=>
    rw[he]at h;simp only[Rs.ok.injEq]at h;obtain⟨rfl,rfl⟩:=h;have:=ih _ _ _ he;exact⟨this.1,by simp only[lr];omega⟩
  split at h
  .cases he:lE t (cI t d) (bx t i+1) with
   | err c p q=>rw[he]at h;cases h
   | ok y k=>
    rw[he]at h;dsimp only at h;split at h
    .simp only[Rs.ok.injEq]at h;obtain⟨rfl,rfl⟩:=h;have:=SS ih he;have h3:=Xx y;exact⟨this.1,aa⟩
    .cases h
  split at h
  .simp only[Rs.ok.injEq]at h;obtain⟨rfl,rfl⟩:=h;exact⟨trivial,by simp only[lr];omega⟩
  split at h
  .simp only[Rs.ok.injEq]at h;obtain⟨rfl,rfl⟩:=h;exact⟨trivial,by simp only[lr];omega⟩
  split at h
  .obtain⟨s,h3,rfl⟩:=ph h;exact⟨ND h3,by simp only[lr];omega⟩
  split at h
  .obtain⟨s,h3,rfl⟩:=ph h;exact⟨ND h3,by simp only[lr];omega⟩
  .obtain⟨s,h3,rfl⟩:=ph h;exact⟨ND h3,by simp only[lr];omega⟩
theorem Ms {t:List UInt8} {x:Ex} (h:(iZ t).1=some x):iL x/\vM x<=20:=by
 unfold iZ at h;split at h
 .cases h
 .split at h
  .cases h
  .rename_i y i he;split at h
   .cases h
   .obtain rfl:=AI h;exact SS (SO t 20) he
mutual
def eN (is cz:List UInt8->Bool):Ex->Bool
 | .iD b=>b
 | .bit s=>is s
 | .jA s=>is s && !cz s
 | .jm s=>!is s && cz s
 | .not e=>!eN is cz e
 | .and l=>zO is cz l
 | .or l=>zP is cz l
def zO (is cz:List UInt8->Bool):List Ex->Bool
 | []=>true
 | e :: l=>eN is cz e && zO is cz l
def zP (is cz:List UInt8->Bool):List Ex->Bool
 | []=>false
 | e :: l=>eN is cz e || zP is cz l
end
mutual
def bE:Ex->Nat
 | .iD _=>4
 | .bit s=>s.length+3
 | .jA s=>s.length+4
 | .jm s=>s.length+4
 | .not e=>bE e+1
 | .and l=>il l+5
 | .or l=>il l+5
def il:List Ex->Nat
 | []=>0
 | e :: l=>bE e+il l
end
theorem BM:∀ (a b:List Ex),il (a ++ b)=il a+il b
 | [],b=>by simp[il]
 | e :: a,b=>by simp only[akF,il,BM a b];omega
theorem EB:∀ e:Ex,3<=bE e
 | .not e=>by have:=EB e;simp only[bE];omega
 | .iD _=>by simp[bE]
 | .bit _=>by simp[bE]
 | .jA _=>by simp only[bE];omega
 | .jm _=>by simp only[bE];omega
 | .and _=>by simp only[bE];omega
 | .or _=>by simp only[bE];omega
theorem BN {x:Ex}:∀ {l:List Ex},x∈l->bE x<=il l
 | y :: l,h=>by
  rw[il]
  rcases ajX.1 h with rfl | h
  .omega
  .have:=BN h;omega
theorem vF:∀ l:List Ex,3 * l.length<=il l
 | []=>ak
 | e :: l=>by have:=vF l;have:=EB e;simp only[ajP,il];omega
theorem MY {t:List UInt8} {s:UInt8} {f:Nat->Rs Ex} (hg:lM t f) (hf:zt bE t f):∀ (n i:Nat) (acc l:List Ex) (j:Nat),i<=t.length->iS t s f n i acc = .ok l j->il l+5 * (l.length - 1)<=il acc+5 * acc.length+5 * (j - i)/\acc.length < l.length
 | 0,i,acc,l,j,_,h=>by simp[iS]at h
 | n+1,i,acc,l,j,hi,h=>by
  rw[iS]at h
  cases cm:f i with
  | err c p q=>rw[cm]at h;cases h
  | ok x k=>
   rw[cm]at h;obtain⟨h1,h2⟩:=hg i x k hi cm;have h5:=hf i x k hi cm;obtain⟨t1,t2,t3⟩:=oL (c:=s) h2;dsimp only at h;split at h
   .rename_i ht;have h4:=t3 ht;have ih:=MY hg hf n _ _ l j t2 h;have h6:=Hw hg n _ _ l j t2 h;simp only[BM,il,ajQ,alc]at ih;omega
   .simp only[Rs.ok.injEq]at h;obtain⟨rfl,rfl⟩:=h;simp only[BM,il,ajQ,alc];omega
theorem W0 {l:List Ex} {m:Nat} (h:il l+5 * (l.length - 1)<=m) (h0:0 < l.length):bE (ur l)<=m:=by
 by_cases h1:l.length=1
 .obtain⟨x,rfl⟩:=akk.1 h1;simp only[il,alc]at h;show bE x<=m;omega
 .rw[IE h1,bE];omega
theorem W5 {l:List Ex} {m:Nat} (h:il l+5 * (l.length - 1)<=m) (h0:0 < l.length):bE (uu l)<=m:=by
 by_cases h1:l.length=1
 .obtain⟨x,rfl⟩:=akk.1 h1;simp only[il,alc]at h;show bE x<=m;omega
 .rw[IF h1,bE];omega
theorem VQ {t:List UInt8} {one:Nat->Rs Ex} (hg:lM t one) (h:zt bE t one):zt bE t (nt t one):=fun i x j hi he=>by
 obtain⟨l,h1,rfl⟩:=ph he;have:=MY hg h _ _ _ _ _ hi h1;simp only[il,akA]at this;exact W0 aa aa
theorem SQ {t:List UInt8} {one:Nat->Rs Ex} (hg:lM t one) (h:zt bE t one):zt bE t (lE t one):=fun i x j hi he=>by
 obtain⟨l,h1,rfl⟩:=ph he;have:=MY (BJ hg) (VQ hg h) _ _ _ _ _ hi h1;simp only[il,akA]at this;exact W5 aa aa
theorem Nx (t:List UInt8) (q i j:Nat) (s:List UInt8) (hi:i<=t.length) (h:fU t q i = .ok s j):s.length<=j - i/\1<=j - i:=by
 have hg:=HR t q i s j hi h;have h1:=D4 t i;unfold fU at h;split at h
 .cases h
 .split at h
  .cases h
  .simp only[Rs.ok.injEq]at h;obtain⟨rfl,rfl⟩:=h;have h4:=HJ t (bx t i);unfold jk;rw[ajW];omega
theorem SM (t:List UInt8):∀ d,zt bE t (cI t d)
 | 0=>fun i x j _ h=>by simp[cI]at h
 | d+1=>fun i x j hi h=>by
  have ih:=SM t d;have hg:=oI t d;have h1:=D4 t i;have h2:=lI hi;have hb:∀ {c:UInt8},t[bx t i]? = some c->bx t i < t.length:=fun hc=>(BY.1 hc).1;rw[cI]at h;split at h
  .rename_i hc;have:=hb hc
   cases he:cI t d (bx t i+1) with
   | err c p q=>rw[he]at h;cases h
   | ok y k=>
    rw[he]at h;simp only[Rs.ok.injEq]at h;obtain⟨rfl,rfl⟩:=h;have h3:=ih _ y k aa he;have h4:=hg _ y k aa he;simp only[bE];omega
  split at h
  .rename_i _ hc;have:=hb hc
   cases he:lE t (cI t d) (bx t i+1) with
   | err c p q=>rw[he]at h;cases h
   | ok y k=>
    rw[he]at h;dsimp only at h;have h3:=SQ hg ih _ y k aa he;have h4:=vm hg _ y k aa he;obtain⟨t1,t2,t3⟩:=oL (c:=41) h4.2;split at h
    .simp only[Rs.ok.injEq]at h;obtain⟨rfl,rfl⟩:=h;omega
    .cases h
  split at h
  .rename_i _ _ hc;have:=hb hc;simp only[Rs.ok.injEq]at h;obtain⟨rfl,rfl⟩:=h;simp only[bE];omega
  split at h
  .rename_i _ _ _ hc;have:=hb hc;simp only[Rs.ok.injEq]at h;obtain⟨rfl,rfl⟩:=h;simp only[bE];omega
  split at h
  .rename_i _ _ _ _ hc;have:=hb hc;obtain⟨s,h3,rfl⟩:=ph h;have h4:=Nx t 1 _ j s aa h3;simp only[bE];omega
  split at h
  .rename_i _ _ _ _ _ hc;have:=hb hc;obtain⟨s,h3,rfl⟩:=ph h;have h4:=Nx t 2 _ j s aa h3;simp only[bE];omega
  .obtain⟨s,h3,rfl⟩:=ph h;have h4:=Nx t 3 _ j s aa h3;simp only[bE];omega
theorem SW {t:List UInt8} {x:Ex} (h:(iZ t).1=some x):bE x<=10000:=by
 unfold iZ at h;split at h
 .cases h
 .rename_i hl;split at h
  .cases h
  .rename_i y i he;split at h
   .cases h
   .obtain rfl:=AI h;have h1:=SQ (oI t 20) (SM t 20) 0 y i (alm _) he;have h2:=vm (oI t 20) 0 y i (alm _) he;omega
open Go.Av
theorem UL {t:List UInt8} {c:UInt8} {i j:Nat} (hj:bx t i=j):eC t c i=if t[j]? = some c then (true,j+1) else (false,j):=by
 unfold eC;rw[hj]
theorem NB {t:List UInt8} {q i:Nat} {c:Int} {p q':Nat} (h:fU t q i = .err c p q'):q'=q:=by
 unfold fU at h;split at h
 .simp only[Rs.err.injEq]at h;omega
 .split at h
  .simp only[Rs.err.injEq]at h;omega
  .cases h
theorem al3:type_of% (Aq @nO.eq_1 (Aq @nO.eq_2 (Aq @alF (Aq @alG @alH)))):=(Aq @nO.eq_1 (Aq @nO.eq_2 (Aq @alF (Aq @alG @alH))))
theorem adk (G:ay) (t:List UInt8) (ht:t.length<=2000):∀ (d:Nat),d<=20->∀ i,i<=t.length->MC prog G [500] 259 [.ref 500 0 0,.d (ab d)] (aq (bL t i)) (.d (ez (cI t d i))) (aq (bL t (cR (cI t d i)))):=by
 intro d
 induction d with
 | zero=>
  intro _ i hi;have eQ:=B5 G t i aa hi 4;refine MC.aQ (aC _) func259 rfl rfl (rs:=[.tmp 4,.tmp 5]) results259 (by simp[ntmps259]) rfl fun X=>?_;simp only[ntmps259];have fw:=alO;refine ae fw [0,1] [500] ?_;refine ag fun K1 aF=>ae fw [0,1,17] [500] ?_;refine aJ (bG (Aq fw al6) eQ [4,5] [500] ?_);exact aU (Aq fw (Aq @bL.eq_1 (Aq @cy.eq_1 (Aq @ez.eq_1 (Aq @ez.eq_2 (Aq @cI.eq_1 (Aq @cI.eq_2 (Aq @cR.eq_1 (Aq @cR.eq_2 (Aq @alF (Aq @alG (Aq @alH @dQ.eq_1))))))))))))
 | succ d ih=>
  intro hd i hi;have ih:=ih aa;have s9:=SR G t ht d ih;have iQ:=lI hi;have wg:=zc hi
  have ji:¬ (d:Int)+1=0:=aa
  have yw:t.length < 2^60:=aa
  have Lc:∀ c,MC prog G [500] 258 [.ref 500 0 0,.d (.v (.int .u8 c.toNat))] (aq (bL t i)) (.d (.v (.bool (eC t c i).1))) (aq (bL t (eC t c i).2)):=fun c=>HE G t i yw hi c;rw[cI];generalize hj:bx t i=j at iQ wg ⊢;have oB:∀ c,MC prog G [500] 258 [.ref 500 0 0,.d (.v (.int .u8 c.toNat))] (aq (bL t j)) (.d (.v (.bool (eC t c j).1))) (aq (bL t (eC t c j).2)):=fun c=>HE G t j yw iQ c;have N8:=fun c=>UL (t:=t) (c:=c) hj;have EA:=fun c=>UL (t:=t) (c:=c) wg;simp only[N8]at Lc;simp only[EA]at oB;have aH:∀ {c:UInt8},t[j]? = some c->j+1<=t.length:=fun h=>(BY.1 h).1;have pb:=Lc 33;have qP:=oB 40;have tw:=oB 48;have vh:=oB 49;have wL:=oB 94;have AU:=oB 126;clear Lc N8 EA hj;by_cases sO:t[j]? = some 33
  .rw[if_pos sO]at pb ⊢;have hc:=ih (j+1) (aH sO)
   cases hr:cI t d (j+1) with
   | err c p q=>
    rw[hr]at hc;refine MC.aQ (aC _) func259 rfl rfl (rs:=[.tmp 4,.tmp 5]) results259 (by simp[ntmps259]) rfl fun X=>?_;simp only[ntmps259];have fw:=alO;refine ae fw [0,1] [500] ?_;refine ag fun K1 aF=>?_;have qf:=(Aq fw @ji);refine au [0,1,17] [500] ?_;refine al (ar (aF _ ?_));refine ag fun K2 aw=>bg ?_;refine bG fw pb [0,1,20] [500] ?_;refine aJ (bG (Aq fw al1) hc [6,7] [500] ?_);refine ag fun K3 aZ=>ae fw [6,7,31] [500] ?_;refine aJ (ae fw [4,5] [500] ?_);exact aU (Aq fw (Aq @bL.eq_1 (Aq @cy.eq_1 (Aq @ez.eq_1 (Aq @ez.eq_2 (Aq @cR.eq_1 (Aq @cR.eq_2 (Aq @alF (Aq @alG (Aq @alH @dQ.eq_1))))))))))
   | ok x k=>
    rw[hr]at hc;obtain⟨tx,cx,hx⟩:=kW x;refine MC.aQ (aC _) func259 rfl rfl (rs:=[.tmp 4,.tmp 5]) results259 (by simp[ntmps259]) rfl fun X=>?_;simp only[ntmps259];have fw:=alO;refine ae fw [0,1] [500] ?_;refine ag fun K1 aF=>?_;have qf:=(Aq fw @ji);refine au [0,1,17] [500] ?_;refine al (ar (aF _ ?_));refine ag fun K2 aw=>bg ?_;refine bG fw pb [0,1,20] [500] ?_;refine aJ ?_;have qf:=(Aq fw (Aq @ez.eq_1 (Aq @ez.eq_2 @hx)));refine jW hc [6,7] [500] ?_;refine ag fun K3 aZ=>ae fw [6,7,31] [500] ?_;refine al (ar (aZ _ ?_));refine ae fw [4,5] [500] ?_;refine bT ?_;simp[D.le,D.le.go,aR,ab,bL,cy,dS,bL,cy,ez,cR,dE,hx,D.le_refl]
  rw[if_neg sO]at pb ⊢;by_cases c40:t[j]? = some 40
  .rw[if_pos c40]at qP ⊢;have hc:=s9 (j+1) (aH c40)
   cases hr:lE t (cI t d) (j+1) with
   | err c p q=>
    rw[hr]at hc;refine MC.aQ (aC _) func259 rfl rfl (rs:=[.tmp 4,.tmp 5]) results259 (by simp[ntmps259]) rfl fun X=>?_;simp only[ntmps259];have fw:=alO;refine ae fw [0,1] [500] ?_;refine ag fun K1 aF=>?_;have qf:=(Aq fw @ji);refine au [0,1,17] [500] ?_;refine al (ar (aF _ ?_));refine ag fun K2 aw=>bg ?_;refine bG fw pb [0,1,20] [500] ?_;refine al (bG fw qP [0,1,36] [500] ?_);refine aJ (bG (Aq fw al1) hc [0,8,9] [500] ?_);refine ag fun K4 cr=>ae fw [0,8,9,47] [500] ?_;refine aJ (ae fw [4,5] [500] ?_);exact aU (Aq fw (Aq @bL.eq_1 (Aq @cy.eq_1 (Aq @ez.eq_1 (Aq @ez.eq_2 (Aq @cR.eq_1 (Aq @cR.eq_2 (Aq @alF (Aq @alG (Aq @alH @dQ.eq_1))))))))))
   | ok x k=>
    rw[hr]at hc;obtain⟨tx,cx,hx⟩:=kW x;have CM:=(vm (oI t d) (j+1) x k (aH c40) hr).2;have Gz:=HE G t k yw CM 41;have La:=oL (c:=41) CM
    have Jj:(eC t 41 k).1=false->bx t (eC t 41 k).2=(eC t 41 k).2:=fun h=>by
     unfold eC at h ⊢;split at h
     .cases h
     .rw[if_neg ‹_›];exact zc CM
    cases fR:eC t 41 k with
    | mk b k2=>
    rw[fR]at Gz La Jj;dsimp only at Gz La Jj ⊢
    cases b with
    | true=>
     refine MC.aQ (aC _) func259 rfl rfl (rs:=[.tmp 4,.tmp 5]) results259 (by simp[ntmps259]) rfl fun X=>?_;simp only[ntmps259];have fw:=alO;refine ae fw [0,1] [500] ?_;refine ag fun K1 aF=>?_;have qf:=(Aq fw @ji);refine au [0,1,17] [500] ?_;refine al (ar (aF _ ?_));refine ag fun K2 aw=>bg ?_;refine bG fw pb [0,1,20] [500] ?_;refine al (bG fw qP [0,1,36] [500] ?_);refine aJ ?_;have qf:=(Aq fw (Aq @ez.eq_1 (Aq @ez.eq_2 (Aq @cR.eq_1 (Aq @cR.eq_2 @hx)))));refine jW hc [0,8,9] [500] ?_;refine ag fun K4 cr=>ae fw [0,8,9,47] [500] ?_;refine al (ar (cr _ ?_));refine ag fun K5 cg=>bG fw Gz [0,8,51] [500] ?_;refine al (ar (cg _ ?_));refine ae fw [4,5] [500] ?_;exact aU (Aq fw (Aq @bL.eq_1 (Aq @cy.eq_1 (Aq @ez.eq_1 (Aq @ez.eq_2 (Aq @cR.eq_1 (Aq @cR.eq_2 (Aq @hx @fR))))))))
    | false=>
     have eQ:=B5 G t k2 yw La.2.1 3;rw[Jj rfl]at eQ;refine MC.aQ (aC _) func259 rfl rfl (rs:=[.tmp 4,.tmp 5]) results259 (by simp[ntmps259]) rfl fun X=>?_;simp only[ntmps259];have fw:=alO;refine ae fw [0,1] [500] ?_;refine ag fun K1 aF=>?_;have qf:=(Aq fw @ji);refine au [0,1,17] [500] ?_;refine al (ar (aF _ ?_));refine ag fun K2 aw=>bg ?_;refine bG fw pb [0,1,20] [500] ?_;refine al (bG fw qP [0,1,36] [500] ?_);refine aJ ?_;have qf:=(Aq fw (Aq @ez.eq_1 (Aq @ez.eq_2 (Aq @cR.eq_1 (Aq @cR.eq_2 @hx)))));refine jW hc [0,8,9] [500] ?_;refine ag fun K4 cr=>ae fw [0,8,9,47] [500] ?_;refine al (ar (cr _ ?_));refine ag fun K5 cg=>bG fw Gz [0,8,51] [500] ?_;refine aJ (bG (Aq fw al6) eQ [4,5] [500] ?_);exact aU (Aq fw (Aq @bL.eq_1 (Aq @cy.eq_1 (Aq @ez.eq_1 (Aq @ez.eq_2 (Aq @cR.eq_1 (Aq @cR.eq_2 (Aq @alF (Aq @alG (Aq @alH (Aq @dQ.eq_1 @fR)))))))))))
  rw[if_neg c40]at qP ⊢;by_cases vG:t[j]? = some 48
  .rw[if_pos vG]at tw ⊢;refine MC.aQ (aC _) func259 rfl rfl (rs:=[.tmp 4,.tmp 5]) results259 (by simp[ntmps259]) rfl fun X=>?_;simp only[ntmps259];have fw:=alO;refine ae fw [0,1] [500] ?_;refine ag fun K1 aF=>?_;have qf:=(Aq fw @ji);refine au [0,1,17] [500] ?_;refine al (ar (aF _ ?_));refine ag fun K2 aw=>bg ?_;refine bG fw pb [0,1,20] [500] ?_;refine al (bG fw qP [0,1,36] [500] ?_);refine al (bG fw tw [0,55] [500] ?_);refine aJ (ae fw [4,5] [500] ?_);refine bT ?_;simp[D.le,D.le.go,aR,ab,bL,cy,dS,bL,cy,ez,cR,dE]
  rw[if_neg vG]at tw ⊢;by_cases c49:t[j]? = some 49
  .rw[if_pos c49]at vh ⊢;refine MC.aQ (aC _) func259 rfl rfl (rs:=[.tmp 4,.tmp 5]) results259 (by simp[ntmps259]) rfl fun X=>?_;simp only[ntmps259];have fw:=alO;refine ae fw [0,1] [500] ?_;refine ag fun K1 aF=>?_;have qf:=(Aq fw @ji);refine au [0,1,17] [500] ?_;refine al (ar (aF _ ?_));refine ag fun K2 aw=>bg ?_;refine bG fw pb [0,1,20] [500] ?_;refine al (bG fw qP [0,1,36] [500] ?_);refine al (bG fw tw [0,55] [500] ?_);refine al (bG fw vh [0,59] [500] ?_);refine aJ (ae fw [4,5] [500] ?_);refine bT ?_;simp[D.le,D.le.go,aR,ab,bL,cy,dS,bL,cy,ez,cR,dE]
  rw[if_neg c49]at vh ⊢;by_cases uo:t[j]? = some 94
  .rw[if_pos uo]at wL ⊢;have hc:=NC G t 1 (j+1) yw (aH uo);have hq:∀ {c:Int} {p q':Nat},fU t 1 (j+1) = .err c p q'->q'=1:=fun h=>NB h
   cases hr:fU t 1 (j+1) with
   | err c p q'=>
    obtain rfl:=hq hr;rw[hr]at hc;refine MC.aQ (aC _) func259 rfl rfl (rs:=[.tmp 4,.tmp 5]) results259 (by simp[ntmps259]) rfl fun X=>?_;simp only[ntmps259];have fw:=alO;refine ae fw [0,1] [500] ?_;refine ag fun K1 aF=>?_;have qf:=(Aq fw @ji);refine au [0,1,17] [500] ?_;refine al (ar (aF _ ?_));refine ag fun K2 aw=>bg ?_;refine bG fw pb [0,1,20] [500] ?_;refine al (bG fw qP [0,1,36] [500] ?_);refine al (bG fw tw [0,55] [500] ?_);refine al (bG fw vh [0,59] [500] ?_);refine al (bG fw wL [0,63] [500] ?_);refine aJ (bG (Aq fw al3) hc [10,11] [500] ?_);refine ae fw [4,5] [500] ?_;refine bT ?_;simp[D.le,D.le.go,aR,ab,bL,cy,dS,bL,cy,ez,cR,bD,dQ,Rs.map,b7]
   | ok s p=>
    rw[hr]at hc;refine MC.aQ (aC _) func259 rfl rfl (rs:=[.tmp 4,.tmp 5]) results259 (by simp[ntmps259]) rfl fun X=>?_;simp only[ntmps259];have fw:=alO;refine ae fw [0,1] [500] ?_;refine ag fun K1 aF=>?_;have qf:=(Aq fw @ji);refine au [0,1,17] [500] ?_;refine al (ar (aF _ ?_));refine ag fun K2 aw=>bg ?_;refine bG fw pb [0,1,20] [500] ?_;refine al (bG fw qP [0,1,36] [500] ?_);refine al (bG fw tw [0,55] [500] ?_);refine al (bG fw vh [0,59] [500] ?_);refine al (bG fw wL [0,63] [500] ?_);refine aJ (bG (Aq fw (Aq @nO.eq_1 @nO.eq_2)) hc [10,11] [500] ?_);refine ae fw [4,5] [500] ?_;refine bT ?_;simp[D.le,D.le.go,aR,ab,bL,cy,dS,bL,cy,ez,cR,Rs.map,dE]
  rw[if_neg uo]at wL ⊢;by_cases uj:t[j]? = some 126
  .rw[if_pos uj]at AU ⊢;have hc:=NC G t 2 (j+1) yw (aH uj);have hq:∀ {c:Int} {p q':Nat},fU t 2 (j+1) = .err c p q'->q'=2:=fun h=>NB h
   cases hr:fU t 2 (j+1) with
   | err c p q'=>
    obtain rfl:=hq hr;rw[hr]at hc;refine MC.aQ (aC _) func259 rfl rfl (rs:=[.tmp 4,.tmp 5]) results259 (by simp[ntmps259]) rfl fun X=>?_;simp only[ntmps259];have fw:=alO;refine ae fw [0,1] [500] ?_;refine ag fun K1 aF=>?_;have qf:=(Aq fw @ji);refine au [0,1,17] [500] ?_;refine al (ar (aF _ ?_));refine ag fun K2 aw=>bg ?_;refine bG fw pb [0,1,20] [500] ?_;refine al (bG fw qP [0,1,36] [500] ?_);refine al (bG fw tw [0,55] [500] ?_);refine al (bG fw vh [0,59] [500] ?_);refine al (bG fw wL [0,63] [500] ?_);refine al (bG fw AU [0,74] [500] ?_);refine aJ (bG (Aq fw al3) hc [12,13] [500] ?_);refine ae fw [4,5] [500] ?_;refine bT ?_;simp[D.le,D.le.go,aR,ab,bL,cy,dS,bL,cy,ez,cR,bD,dQ,Rs.map,b7]
   | ok s p=>
    rw[hr]at hc;refine MC.aQ (aC _) func259 rfl rfl (rs:=[.tmp 4,.tmp 5]) results259 (by simp[ntmps259]) rfl fun X=>?_;simp only[ntmps259];have fw:=alO;refine ae fw [0,1] [500] ?_;refine ag fun K1 aF=>?_;have qf:=(Aq fw @ji);refine au [0,1,17] [500] ?_;refine al (ar (aF _ ?_));refine ag fun K2 aw=>bg ?_;refine bG fw pb [0,1,20] [500] ?_;refine al (bG fw qP [0,1,36] [500] ?_);refine al (bG fw tw [0,55] [500] ?_);refine al (bG fw vh [0,59] [500] ?_);refine al (bG fw wL [0,63] [500] ?_);refine al (bG fw AU [0,74] [500] ?_);refine aJ (bG (Aq fw (Aq @nO.eq_1 @nO.eq_2)) hc [12,13] [500] ?_);refine ae fw [4,5] [500] ?_;refine bT ?_;simp[D.le,D.le.go,aR,ab,bL,cy,dS,bL,cy,ez,cR,Rs.map,dE]
  rw[if_neg uj]at AU ⊢;have hc:=NC G t 3 j yw iQ;have hq:∀ {c:Int} {p q':Nat},fU t 3 j = .err c p q'->q'=3:=fun h=>NB h
  cases hr:fU t 3 j with
  | err c p q'=>
   obtain rfl:=hq hr;rw[hr]at hc;refine MC.aQ (aC _) func259 rfl rfl (rs:=[.tmp 4,.tmp 5]) results259 (by simp[ntmps259]) rfl fun X=>?_;simp only[ntmps259];have fw:=alO;refine ae fw [0,1] [500] ?_;refine ag fun K1 aF=>?_;have qf:=(Aq fw @ji);refine au [0,1,17] [500] ?_;refine al (ar (aF _ ?_));refine ag fun K2 aw=>bg ?_;refine bG fw pb [0,1,20] [500] ?_;refine al (bG fw qP [0,1,36] [500] ?_);refine al (bG fw tw [0,55] [500] ?_);refine al (bG fw vh [0,59] [500] ?_);refine al (bG fw wL [0,63] [500] ?_);refine al (bG fw AU [0,74] [500] ?_);refine al (ar (aw _ ?_));refine bG (Aq fw al3) hc [14,15] [500] ?_;refine ae fw [4,5] [500] ?_;refine bT ?_;simp[D.le,D.le.go,aR,ab,bL,cy,dS,bL,cy,ez,cR,bD,dQ,Rs.map,b7]
  | ok s p=>
   rw[hr]at hc;refine MC.aQ (aC _) func259 rfl rfl (rs:=[.tmp 4,.tmp 5]) results259 (by simp[ntmps259]) rfl fun X=>?_;simp only[ntmps259];have fw:=alO;refine ae fw [0,1] [500] ?_;refine ag fun K1 aF=>?_;have qf:=(Aq fw @ji);refine au [0,1,17] [500] ?_;refine al (ar (aF _ ?_));refine ag fun K2 aw=>bg ?_;refine bG fw pb [0,1,20] [500] ?_;refine al (bG fw qP [0,1,36] [500] ?_);refine al (bG fw tw [0,55] [500] ?_);refine al (bG fw vh [0,59] [500] ?_);refine al (bG fw wL [0,63] [500] ?_);refine al (bG fw AU [0,74] [500] ?_);refine al (ar (aw _ ?_));refine bG (Aq fw (Aq @nO.eq_1 @nO.eq_2)) hc [14,15] [500] ?_;refine ae fw [4,5] [500] ?_;refine bT ?_;simp[D.le,D.le.go,aR,ab,bL,cy,dS,bL,cy,ez,cR,Rs.map,dE]
theorem Hl {r r':Nat} (h:r≠r') (row:Row):rU r r' (aq [(r,row)])=aq [(r',row.tr (ik r r') (ij r r'))]:=by
 funext q;unfold rU;by_cases h1:q=r'
 .subst h1;simp[aq,List.lookup]
 .rw[if_neg h1];by_cases h2:q=r
  .subst h2;simp[aq,List.lookup,h1,beq_eq_false_iff_ne.2 h1]
  .simp[aq,List.lookup,h2,beq_eq_false_iff_ne.2 h1,beq_eq_false_iff_ne.2 h2]
def sQ:Option Ex->D
 | some x=>dE x
 | none=>.v .nilIface
theorem al4:type_of% (Aq @sQ.eq_1 (Aq @sQ.eq_2 (Aq @alF (Aq @alG @alH)))):=(Aq @sQ.eq_1 (Aq @sQ.eq_2 (Aq @alF (Aq @alG @alH))))
theorem adr (G:ay) (t:List UInt8) (ht:t.length < 2^60):aD prog G 64 [dS t] (.bz [sQ (iZ t).1,bD (iZ t).2]):=by
 unfold iZ;by_cases hl:2000 < t.length
 .have fo:(2000:Int) < (t.length:Int):=aa
  rw[if_pos hl];refine aD.aQ (aC _) func64 rfl rfl (rs:=[.tmp 2,.tmp 3]) results64 (by simp[ntmps64]) fun X=>?_;simp only[ntmps64,List.map];have fw:=alO;refine ae fw [0] [] ?_;refine ag fun K1 aF=>?_;have qf:=(Aq fw (Aq @bN (Aq @hl @fo)));refine au [0,9] [] ?_;refine aJ (ae fw [2,3] [] ?_);exact aU (Aq fw al4)
 have fo:¬ (2000:Int) < (t.length:Int):=aa
 rw[if_neg hl];have s9:=SR G t aa 20 (adk G t aa 20 bF) 0 (alm _)
 cases hr:lE t (cI t 20) 0 with
 | err c p q=>
  rw[hr]at s9;refine aD.aQ (aC _) func64 rfl rfl (rs:=[.tmp 2,.tmp 3]) results64 (by simp[ntmps64]) fun X=>?_;simp only[ntmps64,List.map];have fw:=alO;refine ae fw [0] [] ?_;refine ag fun K1 aF=>?_;have qf:=(Aq fw (Aq @bN (Aq @hl @fo)));refine au [0,9] [] ?_;refine al (ar (aF _ ?_));refine ae fw [0,4] [13] ?_;refine AW.imp (aM.dI (r:=13) (r':=500) trivial ak) ?_;refine AW.st (by simp[ik,ij,Go.Av.dI,Hl];rfl) ?_;refine bG (Aq fw al1) s9 [0,4,5,6] [500] ?_;refine ag fun K2 aw=>ae fw [0,4,5,6,20] [500] ?_;refine aJ (ae fw [2,3] [] ?_);exact aU (Aq fw al4)
 | ok x k=>
  rw[hr]at s9;have hk:=(vm (oI t 20) 0 x k (alm _) hr).2;have j3:=EG G t k aa hk;have iQ:=lI hk;have eQ:=B5 G t (bx t k) aa iQ 3;rw[zc hk]at eQ;obtain⟨tx,cx,hx⟩:=kW x;dsimp only;generalize bx t k=j at j3 iQ eQ ⊢;by_cases hj:j < t.length
  .have c6:(j:Int) < (t.length:Int):=aa
   rw[if_pos hj];refine aD.aQ (aC _) func64 rfl rfl (rs:=[.tmp 2,.tmp 3]) results64 (by simp[ntmps64]) fun X=>?_;simp only[ntmps64,List.map];have fw:=alO;refine ae fw [0] [] ?_;refine ag fun K1 aF=>?_;have qf:=(Aq fw (Aq @bN (Aq @hl @fo)));refine au [0,9] [] ?_;refine al (ar (aF _ ?_));refine ae fw [0,4] [13] ?_;refine AW.imp (aM.dI (r:=13) (r':=500) trivial ak) ?_;refine AW.st (by simp[ik,ij,Go.Av.dI,Hl];rfl) ?_;have qf:=(Aq fw (Aq @ez.eq_1 (Aq @ez.eq_2 (Aq @cR.eq_1 (Aq @cR.eq_2 @hx)))));refine jW s9 [0,4,5,6] [500] ?_;refine ag fun K2 aw=>ae fw [0,4,5,6,20] [500] ?_;refine al (ar (aw _ ?_));refine ag fun K3 aZ=>bG fw j3 [0,4,5] [500] ?_;have qf:=(Aq fw (Aq @bN (Aq @hj @c6)));refine au [4,5,30] [500] ?_;refine aJ (bG (Aq fw al6) eQ [2,3] [] ?_);exact aU (Aq fw al4)
  .have c6:¬ (j:Int) < (t.length:Int):=aa
   rw[if_neg hj];refine aD.aQ (aC _) func64 rfl rfl (rs:=[.tmp 2,.tmp 3]) results64 (by simp[ntmps64]) fun X=>?_;simp only[ntmps64,List.map];have fw:=alO;refine ae fw [0] [] ?_;refine ag fun K1 aF=>?_;have qf:=(Aq fw (Aq @bN (Aq @hl @fo)));refine au [0,9] [] ?_;refine al (ar (aF _ ?_));refine ae fw [0,4] [13] ?_;refine AW.imp (aM.dI (r:=13) (r':=500) trivial ak) ?_;refine AW.st (by simp[ik,ij,Go.Av.dI,Hl];rfl) ?_;have qf:=(Aq fw (Aq @ez.eq_1 (Aq @ez.eq_2 (Aq @cR.eq_1 (Aq @cR.eq_2 @hx)))));refine jW s9 [0,4,5,6] [500] ?_;refine ag fun K2 aw=>ae fw [0,4,5,6,20] [500] ?_;refine al (ar (aw _ ?_));refine ag fun K3 aZ=>bG fw j3 [0,4,5] [500] ?_;have qf:=(Aq fw (Aq @bN (Aq @hj @c6)));refine au [4,5,30] [500] ?_;refine al (ar (aZ _ ?_));refine ae fw [2,3] [] ?_;exact aU (Aq fw (Aq @sQ.eq_1 (Aq @sQ.eq_2 (Aq @alF (Aq @alG (Aq @alH @hx))))))
theorem Ir {l:List Ex} {i:Nat} (hi:i < l.length):il (l.take i)+bE l[i]<=il l:=by
 have h1:=BM (l.take i) [l[i]];rw[<- ajO hi]at h1;have h2:=BM (l.take (i+1)) (l.drop (i+1));rw[ale]at h2;simp only[il]at h1;omega
