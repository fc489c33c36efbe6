/- Parts. -/
import Derived.Test.YtoohljflflnbeaaGreatDoorFr18
import Derived.Test.YtoohljflflnbeaaGreatDoorFr19
import Derived.RegionTactic
import Derived.ChangeAlike
set_option linter.unusedSimpArgs false
set_option linter.unusedVariables false
set_option maxHeartbeats 8000000
open Go.Proofs.Tryz
namespace Go.Proofs.YtoohljflflnbeaaGreatDoor
open Go.RowKit Go.Extern.Stop Go.Stop Go.Extern
open Go.Av
theorem aho (v:Value) (xT:TypeId) (w:World):(Instr.typeAssert (.iface 50 v) xT 269 true).run prog w = .ok (.tuple #[.pointer none,.bool false]) w:=ah
theorem ahn (v:Value) (xT:TypeId) (w:World):(Instr.typeAssert (.iface 269 v) xT 269 true).run prog w = .ok (.tuple #[v,.bool true]) w:=ah
theorem ahp (v:Value) (xT:TypeId) (w:World):(Instr.typeAssert (.iface 50 v) xT 276 true).run prog w = .ok (.tuple #[.nilIface,.bool false]) w:=run_typeAssert_lacksB underlying276 ah ah v xT w
theorem adO (w:World):Calls prog 93 #[.nilIface] w fun e w'=>e = .returned (.tuple #[.int .i64 0,.int .i64 (-1)])/\cN w w':=by
 go_enter func93,ntmps93
 go_wp2_with (go_at_call 52;refine (UO _).mono ?_;rintro e w' ⟨rfl,rfl⟩)
 refine wp_loop_rounds 1 ?_;rw[rounds_succ]
 go_wp2
 go_ret2
 exact⟨rfl,cN.refl _⟩
theorem adN (n:Int) (w:World) (hg:w.cell? ⟨4,0,none⟩=some qs):Calls prog 93 #[.iface 50 (.int .i64 n)] w fun e w'=>e = .returned (.tuple #[.int .i64 n,.int .i64 (-1)])/\cN w w':=by
 have t1:=aho;have t2:=ahp
 go_enter func93,ntmps93
 go_wp2_with (go_at_call 52;refine (UN n _ hg).mono ?_;rintro e w' ⟨rfl,fJ⟩)
 refine wp_loop_rounds 1 ?_;rw[rounds_succ]
 go_wp2
 go_ret2
 exact⟨rfl,fJ⟩
theorem adM (n s:Int) (b o:Nat) (w:World) (hg:w.cell? ⟨4,0,none⟩=some qs) (ha:w.cell? ⟨b,o,none⟩=some (.int .i64 n)) (hs:w.cell? ⟨b,o+1,none⟩=some (.int .i64 s)) :
  Calls prog 93 #[.iface 269 (.pointer (some ⟨b,o,none⟩))] w fun e w'=>e = .returned (.tuple #[.int .i64 n,.int .i64 s])/\cN w w':=by
 have t1:=ahn
 go_enter func93,ntmps93
 go_wp2_with (go_at_call 52;refine (UM n _ _ hg ha).mono ?_;rintro e w' ⟨rfl,fJ⟩)
 have qG:w'.cell? ⟨b,o+1,none⟩=some (.int .i64 s):=by rw[World.cell?_of_block (w:=w) (fJ.same b (xx hs))];exact hs
 refine wp_loop_rounds 1 ?_;rw[rounds_succ]
 go_wp2
 go_region
 all_goals (go_wp2;go_ret2;exact⟨rfl,fJ.size,fJ.os,fJ.tape,fJ.output,fJ.same⟩)
theorem adP (G:ay) (hG:ra G) (e:Option (Int×Option Nat)):aD prog G 93 [bD e] (.bz [.v (.int .i64 (codeF e)),.v (.int .i64 (ch e))]):=by
 refine aD.sE (iA.of func93 rfl rfl) fun X w vs bd bY dt=>?_;have hg:=hG.cell dt;obtain⟨v,rfl⟩:∃ v,vs = #[v]:=Array.size_eq_one_iff.1 bd;have hv:=bY 0 v _ rfl rfl
 have two:∀ (w':World) (a b:Int),RD w' X (.tuple #[.int .i64 a,.int .i64 b]) (.bz [.v (.int .i64 a),.v (.int .i64 b)]):=fun w' a b=>.bz rfl fun j u c hu hc=>by
  match j,hu,hc with
  | 0,hu,hc=>simp at hu hc;subst hu hc;exact .v _
  | 1,hu,hc=>simp at hu hc;subst hu hc;exact .v _
  | j+2,hu,hc=>simp at hu
 match e,hv with
 | none,hv=>
  have:=hv.scalar;subst this;exact (adO w).mono fun e w' ⟨he,hw⟩=>⟨_,he,hw,two _ _ _⟩
 | some (c,none),hv=>
  obtain⟨u,rfl,hu⟩:=hv.tv;have:=hu.scalar;subst this;exact (adN c w hg).mono fun e w' ⟨he,hw⟩=>⟨_,he,hw,two _ _ _⟩
 | some (c,some s),hv=>
  obtain⟨u,rfl,hu⟩:=hv.tv;obtain⟨b,off,f,rfl,_,_,hc,hr⟩:=hu.rN;have h1:=hc 0 ak;have h2:=(hr 0 _ rfl).scalar;rw[h2]at h1;have h3:=hc 1 ak;have h4:=(hr 1 _ rfl).scalar;rw[h4]at h3;exact (adM c s b off w hg h1 h3).mono fun e w' ⟨he,hw⟩=>⟨_,he,hw,two _ _ _⟩
end Go.Proofs.YtoohljflflnbeaaGreatDoor
namespace Go.Proofs.YtoohljflflnbeaaGreatDoor
open Go.Av
def dz (e:Option (Int×Option Nat)):D:=.agg [ab (codeF e),ab (ch e)]
def vB (G:ay):Prop:=G 0=some (.ip [ab 0,ab (-1)])
theorem EC (G:ay) (c:Int):aD prog G 91 [ab c] (.agg [ab c,ab (-1)]):=by
 refine aD.aQ (aC _) func91 rfl rfl (rs:=[.cell 2 52]) results91 (by simp[ntmps91]) fun X=>?_;simp only[ntmps91,List.map];refine ae @alv [0,2] [2] ?_;refine ae @alv [2] [2] ?_;exact aU @alv
theorem Nv (G:ay) (n lo hi:Int):aD prog G 90 [ab n,ab lo,ab hi] (.v (.bool (decide (lo<=n) && decide (n<=hi)))):=by
 refine aD.aQ (aC _) func90 rfl rfl (rs:=[.tmp 6]) results90 (by simp[ntmps90]) fun X=>?_;simp only[ntmps90,List.map];refine ae @alv [0,1,2] [] ?_;by_cases h1:lo<=n
 .have qf:=@h1;refine au [6] [] ?_;exact aU @h1
 .have qf:=@h1;refine au [6] [] ?_;exact aU @h1
theorem R9 (G:ay) (k k':Option Bool) (l l':List Int) (h:l.length < 2^63):aD prog G 32 [qo k l,qo k' l'] (.v (.bool (l == l'))):=by
 refine aD.aQ (aC _) func32 rfl rfl (rs:=[.tmp 4]) results32 (by simp[ntmps32]) fun X=>?_;simp only[ntmps32,List.map];refine aB [0,1] [] ?_;refine ag fun K1 aF=>ae @qo.eq_1 [0,1,10] [] ?_;refine fG (b:=l.length≠l'.length) (by simp[D.le,D.le.go,aR]) (fun hc=>?_) (fun hc=>?_)
 .refine aB [4] [] ?_;refine bT ?_;simp[D.le,D.le.go,aR];intro e;subst e;simp at hc
 .refine ar (aF _ ?_)
  have hl:l.length=l'.length:=by simpa using hc
  refine ag fun K2 aw=>ae @qo.eq_1 [0,1,5] [] ?_;refine cG (S:=Nat) (fun n=>n<=l.length/\l.take n=l'.take n) (fun n=>⟨bp [(0,.d (qo k l)),(1,.d (qo k' l')),(5,int n)],aq []⟩) (fun n=>l.length - n) 0 ?_ ak ?_
  .refine bt @qo.eq_1
  .rintro n ⟨hn,ht⟩;refine ag fun K3 aZ=>ae @qo.eq_1 [0,1,5,14] [] ?_;refine fG (b:=n < l.length) (by simp[D.le,D.le.go,aR]) (fun hc=>?_) (fun hc=>?_)
   .refine ar (aZ _ (ag fun K4 cr=>bg ?_))
    have lS:n < l'.length:=aa
    have qf:=(Aq @qo.eq_1 (Aq @hc @lS));refine iz [0,1,5,25] [] ?_;refine fG (b:=¬ l[n]=l'[n]) (by simp[D.le,D.le.go,aR]) (fun hc=>?_) (fun hc=>?_)
    .refine aB [4] [] ?_;refine bT ?_;simp[D.le,D.le.go,aR];intro e;subst e;simp at hc
    .refine ar (cr _ (dN ?_));try simp only[aV,aX]
     have he:l[n]=l'[n]:=by simpa using hc
     refine bh.mk (n+1) ⟨aa,ahv ht aa lS he⟩ aa ?_;refine bt @qo.eq_1
   .refine b5 (aw _ (aB [4] [] ?_));refine bT ?_;simp[D.le,D.le.go,aR]
    have s8:n=l.length:=aa
    subst s8;exact ahu hl ht
theorem Wk (G:ay) (hG:ra G) (e e':Option (Int×Option Nat)):aD prog G 22 [bD e,dz e'] (.v (.bool (decide (codeF e=codeF e') && decide (ch e=ch e')))):=by
 have hp:=adP G hG e;refine aD.aQ (aC _) func22 rfl rfl (rs:=[.tmp 4]) results22 (by simp[ntmps22]) fun X=>?_;simp only[ntmps22,List.map];refine ae @dz.eq_1 [0,3] [3] ?_;refine br trivial hp [3,5,6] [3] ?_;by_cases h1:codeF e=codeF e'
 .have qf:=(Aq @alv @h1);refine au [4] [3] ?_;refine bT ?_;simp[D.le,D.le.go,aR,h1]
  try exact fun _=>h1
 .have qf:=(Aq @alv @h1);refine au [4] [3] ?_;refine bT ?_;simp[D.le,D.le.go,aR,h1]
  try exact fun h=>absurd h h1
theorem Wj (G:ay) (hG:ra G) (e:Option (Int×Option Nat)):aD prog G 22 [bD e,dz e] (.v (.bool true)):=by
 have:=Wk G hG e e;simpa using this
def sT (c:Int):Option (Int×Option Nat):=if c=0 then none else some (c,none)
theorem X5 (c:Int):codeF (sT c)=c:=by unfold sT;split<;>simp_all [codeF]
theorem X6 (c:Int):ch (sT c) = -1:=by unfold sT;split<;>simp[ch]
theorem Iv (G:ay) (hG:ra G) (c:Int):aD prog G 31 [bD (sT c),ab c] (.v (.bool true)):=by
 have h:=Wj G hG (sT c);rw[show dz (sT c) = .agg [ab c,ab (-1)] by rw[dz,X5,X6]]at h;refine aD.aQ (aC _) func31 rfl rfl (rs:=[.tmp 4]) results31 (by simp[ntmps31]) fun X=>?_;simp only[ntmps31,List.map];refine aB [0,1] [] ?_;refine rg [4] [] aN fun K' ao=>?_;(repeat refine aK fun Kq af=>?_;simp[ab];(repeat refine⟨aa,?_⟩);refine af _ ?_);refine aK fun Kq af=>?_;simp[ab];refine cX.data (EC G c) bB (by first | exact D.bR _ | simp[aR,ajN,ajG,D.le,D.le.go,D.le_refl,D.bR,ab]) ?_;refine af _ ?_;simp only[aL,dL];(repeat refine aK fun Kq af=>?_;simp[ab];(repeat refine⟨aa,?_⟩);refine af _ ?_);refine aK fun Kq af=>?_;simp[ab];refine cX.data (h) bB (by first | exact D.bR _ | simp[aR,ajN,ajG,D.le,D.le.go,D.le_refl,D.bR,ab]) ?_;refine af _ ?_;simp only[aL,dL];(repeat refine aK fun Kq af=>?_;simp[ab];(repeat refine⟨aa,?_⟩);refine af _ ?_);refine bJ (ao _ (AW.st (by simp[ab];rfl) ?_));exact gn
inductive Fm where
 | nil
 | mk (kind:Int) (name:List UInt8) (of:List Fm)
def ofK {α:Type} (l:List α):Option Bool:=match l with
 | []=>some false
 | _=>none
mutual
def dF:Fm->D
 | .nil=>.v (.pointer none)
 | .mk k s l=>.ip [ab k,dS s,.sl (ofK l) (OK l)]
def OK:List Fm->List (List D)
 | []=>[]
 | f :: l=>[dF f] :: OK l
end
end Go.Proofs.YtoohljflflnbeaaGreatDoor
namespace Go.Proofs.YtoohljflflnbeaaGreatDoor
theorem Re {α:Type} {p:α->Bool} {l:List α} (h:idx p l < 0):∀ x∈l,p x=false:=by
 unfold idx at h;split at h
 .omega
 .rename_i hn;rw[akX]at hn;intro x hx;simpa using hn x hx
theorem tu {α:Type} {p:α->Bool} {l:List α} (h:¬ idx p l < 0):∃ k,∃ hk:k < l.length,idx p l=(k:Int)/\p l[k]=true:=by
 unfold idx at h ⊢;split
 .rename_i i hi;rw[aj9]at hi;obtain⟨h1,h2,_⟩:=hi;exact⟨i,h1,rfl,h2⟩
 .rename_i hn;simp[hn]at h
def dn (L:List (List Int)) (n:Nat):Nat:=(ac4 L n).1.length
def nx (t:xu) (s c:Nat):Nat:=((t.next.getD s []).getD c 0).toNat
def te (t:xu) (s c:Nat):Int:=(t.ahx.getD s []).getD c 0
def wd (t:xu):Nat:=(t.next.getD 0 []).length
open Go.Av
def pre (l row:List Int) (i:Nat):List Int:=(row.take i).map fun x=>l.getD x.toNat 0
theorem wrap_u64 (n:Int):IntKind.u64.wrap n=n % 18446744073709551616:=by
 simp[IntKind.wrap,IntKind.signed,IntKind.bits]
theorem DM {l:List UInt8} {i:Nat} (h:sF l i=true) (hi:i < l.length) (hc:iI i l[i]=true):sF l (i+1)=true:=by
 unfold sF at h ⊢;rw[List.range_succ,List.all_append,h];simp only[List.all_cons,List.all_nil,Bool.and_true,Bool.true_and];rw[OF,AT hi];exact hc
theorem Bf {l:List UInt8} {i:Nat} (hi:i < l.length) (hc:iI i l[i]=false):sc l=false:=by
 have:sF l l.length=false:=by
  unfold sF;rw[List.all_eq_false];refine⟨i,akW.2 hi,?_⟩;rw[OF,AT hi];simp[hc]
 unfold sc;rw[this];rfl
theorem tV {l:List UInt8} (h:(([] :: mD).any fun x=>l == x)=true):sc l=false:=by
 unfold sc;rw[h];simp
theorem aid {l:List UInt8} (h:sF l l.length=true) (hw:(([] :: mD).any fun x=>l == x)=false):decide ((l.length:Int)<=8)=sc l:=by
 unfold sc;rw[h,hw];simp only[akG,Bool.true_and];by_cases h8:l.length<=8
 .simp[h8];omega
 .simp[h8];omega
theorem fN (l:List UInt8):(⟨l.toArray⟩:ByteArray)=bs l:=rfl
theorem Sw (G:ay) (l:List UInt8) (hl:l.length < 2^60):aD prog G 227 [dS l] (.v (.bool (sc l))):=by
 refine aD.aQ (aC _) func227 rfl rfl (rs:=[.tmp 2]) results227 (by simp[ntmps227]) fun X=>?_;simp only[ntmps227,List.map];refine ae @alw [0] [] ?_;refine ag fun K1 aF=>?_;have qf:=@bN;refine au [0,7,8] [] ?_;refine cG (S:=Nat) (fun i=>i<=l.length/\sF l i=true) (fun i=>⟨bp [(0,.d (dS l)),(7,int l.length),(8,int i)],aq []⟩) (fun i=>l.length - i) 0 ?_ (by simp[sF]) ?_
 .refine bt @alw
 .rintro i ⟨Qk,bX⟩;refine ae @alw [0,7,8,9] [] ?_;refine ag fun K2 aw=>fG (b:=i < l.length) (by simp[D.le,D.le.go,aR]) (fun hc=>?_) (fun hc=>?_)
  .have hi:i < l.length:=hc;refine ar (aw _ (ag fun K3 aZ=>bg (aB [0,3,7,8] [] ?_)));have qf:=(Aq @bN (Aq @dr @hi));refine au [0,3,4,7,8] [] ?_;by_cases ha:(97:Int)<=(l[i].toNat:Int)
   .by_cases hb:(l[i].toNat:Int)<=122
    .have qf:=(Aq @ha @hb);refine au [0,3,4,5,7,8] [] ?_;have qf:=(Aq @ha @hb);refine au [0,7,8,38] [] ?_;refine al (ar (aZ _ ?_));refine dN ?_;(try simp only[aV,aX]);refine bh.mk (i+1) ⟨aa,DM bX hi (by simp only[iI,oG,p7,akp,IT,decide_eq_true_eq];omega)⟩ aa ?_;refine bt @alw
    .by_cases hz:(i:Int)=0
     .have jP:i=0:=aa
      subst jP;have qf:=(Aq @ha @hb);refine au [0,3,4,5,7,8] [] ?_;have qf:=(Aq @ha @hb);refine au [0,7,8,38] [] ?_;refine aJ (aB [2] [] ?_);refine bT ?_;simp[D.le,D.le.go,aR];exact Bf hi (by simp only[iI,oG,p7,ak3,ak0,decide_eq_false_iff_not];omega)
     .have jP:¬ i=0:=aa
      by_cases hd:(48:Int)<=(l[i].toNat:Int)
      .by_cases he:(l[i].toNat:Int)<=57
       .have qf:=(Aq @ha (Aq @hb (Aq @hz (Aq @jP (Aq @hd @he)))));refine au [0,3,4,5,7,8] [] ?_;have qf:=(Aq @ha (Aq @hb (Aq @hz (Aq @jP (Aq @hd @he)))));refine au [0,7,8,38] [] ?_;refine al (ar (aZ _ ?_));refine dN ?_;(try simp only[aV,aX]);refine bh.mk (i+1) ⟨aa,DM bX hi (by simp only[iI,oG,p7,akp,IT,decide_eq_true_eq];omega)⟩ aa ?_;refine bt @alw
       .by_cases hu:(l[i].toNat:Int)=95
        .have qf:=(Aq @ha (Aq @hb (Aq @hz (Aq @jP (Aq @hd (Aq @he @hu))))));refine au [0,3,4,5,7,8] [] ?_;have qf:=(Aq @ha (Aq @hb (Aq @hz (Aq @jP (Aq @hd (Aq @he @hu))))));refine au [0,7,8,38] [] ?_;refine al (ar (aZ _ ?_));refine dN ?_;(try simp only[aV,aX]);refine bh.mk (i+1) ⟨aa,DM bX hi (by simp only[iI,oG,p7,akp,IT,decide_eq_true_eq];omega)⟩ aa ?_;refine bt @alw
        .have qf:=(Aq @ha (Aq @hb (Aq @hz (Aq @jP (Aq @hd (Aq @he @hu))))));refine au [0,3,4,5,7,8] [] ?_;have qf:=(Aq @ha (Aq @hb (Aq @hz (Aq @jP (Aq @hd (Aq @he @hu))))));refine au [0,7,8,38] [] ?_;refine aJ (aB [2] [] ?_);refine bT ?_;simp[D.le,D.le.go,aR];exact Bf hi (by simp only[iI,oG,p7,ak3,ak0,decide_eq_false_iff_not];omega)
      .have hu:¬ (l[i].toNat:Int)=95:=aa
       have qf:=(Aq @ha (Aq @hb (Aq @hz (Aq @jP (Aq @hd @hu)))));refine au [0,3,4,5,7,8] [] ?_;have qf:=(Aq @ha (Aq @hb (Aq @hz (Aq @jP (Aq @hd @hu)))));refine au [0,7,8,38] [] ?_;refine aJ (aB [2] [] ?_);refine bT ?_;simp[D.le,D.le.go,aR];exact Bf hi (by simp only[iI,oG,p7,ak3,ak0,decide_eq_false_iff_not];omega)
   .by_cases hz:(i:Int)=0
    .have jP:i=0:=aa
     subst jP;have qf:=@ha;refine au [0,3,4,5,7,8] [] ?_;have qf:=@ha;refine au [0,7,8,38] [] ?_;refine aJ (aB [2] [] ?_);refine bT ?_;simp[D.le,D.le.go,aR];exact Bf hi (by simp only[iI,oG,p7,ak3,ak0,decide_eq_false_iff_not];omega)
    .have jP:¬ i=0:=aa
     by_cases hd:(48:Int)<=(l[i].toNat:Int)
     .by_cases he:(l[i].toNat:Int)<=57
      .have qf:=(Aq @ha (Aq @hz (Aq @jP (Aq @hd @he))));refine au [0,3,4,5,7,8] [] ?_;have qf:=(Aq @ha (Aq @hz (Aq @jP (Aq @hd @he))));refine au [0,7,8,38] [] ?_;refine al (ar (aZ _ ?_));refine dN ?_;(try simp only[aV,aX]);refine bh.mk (i+1) ⟨aa,DM bX hi (by simp only[iI,oG,p7,akp,IT,decide_eq_true_eq];omega)⟩ aa ?_;refine bt @alw
      .by_cases hu:(l[i].toNat:Int)=95
       .have qf:=(Aq @ha (Aq @hz (Aq @jP (Aq @hd (Aq @he @hu)))));refine au [0,3,4,5,7,8] [] ?_;have qf:=(Aq @ha (Aq @hz (Aq @jP (Aq @hd (Aq @he @hu)))));refine au [0,7,8,38] [] ?_;refine al (ar (aZ _ ?_));refine dN ?_;(try simp only[aV,aX]);refine bh.mk (i+1) ⟨aa,DM bX hi (by simp only[iI,oG,p7,akp,IT,decide_eq_true_eq];omega)⟩ aa ?_;refine bt @alw
       .have qf:=(Aq @ha (Aq @hz (Aq @jP (Aq @hd (Aq @he @hu)))));refine au [0,3,4,5,7,8] [] ?_;have qf:=(Aq @ha (Aq @hz (Aq @jP (Aq @hd (Aq @he @hu)))));refine au [0,7,8,38] [] ?_;refine aJ (aB [2] [] ?_);refine bT ?_;simp[D.le,D.le.go,aR];exact Bf hi (by simp only[iI,oG,p7,ak3,ak0,decide_eq_false_iff_not];omega)
     .have hu:¬ (l[i].toNat:Int)=95:=aa
      have qf:=(Aq @ha (Aq @hz (Aq @jP (Aq @hd @hu))));refine au [0,3,4,5,7,8] [] ?_;have qf:=(Aq @ha (Aq @hz (Aq @jP (Aq @hd @hu))));refine au [0,7,8,38] [] ?_;refine aJ (aB [2] [] ?_);refine bT ?_;simp[D.le,D.le.go,aR];exact Bf hi (by simp only[iI,oG,p7,ak3,ak0,decide_eq_false_iff_not];omega)
  .have dM:i=l.length:=aa
   subst dM;refine b5 (aF _ (ag fun K4 cr=>aB [0,40] [] ?_));refine bg ?_;refine ag fun K5 cg=>?_;by_cases qL:l=[]
   .refine rg [0,40,41] [] aN fun K' ao=>?_;(repeat refine aK fun Kq af=>?_;simp[b7,bu,bo,dS,fN,qL];(repeat refine⟨aa,?_⟩);refine af _ ?_);refine bJ (ao _ (AW.st (by simp[b7,bu,bo,dS,fN,qL];rfl) ?_));refine aJ (ar (cg _ ?_));refine aJ (aB [2] [] ?_);refine bT ?_;simp[D.le,D.le.go,aR];exact tV (by simp[qL,mD])
   have wJ:l.isEmpty=false:=by simpa using qL
   refine rg [0,40,41] [] aN fun K' ao=>?_;(repeat refine aK fun Kq af=>?_;simp[b7,bu,bo,dS,fN,qL,wJ];(repeat refine⟨aa,?_⟩);refine af _ ?_);refine bJ (ao _ (AW.st (by simp[b7,bu,bo,dS,fN,qL,wJ];rfl) ?_));refine al ?_;by_cases j5:l=[105,110,112,117,116]
   .refine rg [0,40,41] [] aN fun K' ao=>?_;(repeat refine aK fun Kq af=>?_;simp[b7,bu,bo,dS,fN,j5];(repeat refine⟨aa,?_⟩);refine af _ ?_);refine bJ (ao _ (AW.st (by simp[b7,bu,bo,dS,fN,j5];rfl) ?_));refine aJ (ar (cg _ ?_));refine aJ (aB [2] [] ?_);refine bT ?_;simp[D.le,D.le.go,aR];exact tV (by simp[j5,mD])
   have Gk:(l == [105,110,112,117,116])=false:=by simpa using j5
   refine rg [0,40,41] [] aN fun K' ao=>?_;(repeat refine aK fun Kq af=>?_;simp[b7,bu,bo,dS,fN,j5,Gk];(repeat refine⟨aa,?_⟩);refine af _ ?_);refine bJ (ao _ (AW.st (by simp[b7,bu,bo,dS,fN,j5,Gk];rfl) ?_));refine al ?_;by_cases rK:l=[99,111,105,108]
   .refine rg [0,40,41] [] aN fun K' ao=>?_;(repeat refine aK fun Kq af=>?_;simp[b7,bu,bo,dS,fN,rK];(repeat refine⟨aa,?_⟩);refine af _ ?_);refine bJ (ao _ (AW.st (by simp[b7,bu,bo,dS,fN,rK];rfl) ?_));refine aJ (ar (cg _ ?_));refine aJ (aB [2] [] ?_);refine bT ?_;simp[D.le,D.le.go,aR];exact tV (by simp[rK,mD])
   have qM:(l == [99,111,105,108])=false:=by simpa using rK
   refine rg [0,40,41] [] aN fun K' ao=>?_;(repeat refine aK fun Kq af=>?_;simp[b7,bu,bo,dS,fN,rK,qM];(repeat refine⟨aa,?_⟩);refine af _ ?_);refine bJ (ao _ (AW.st (by simp[b7,bu,bo,dS,fN,rK,qM];rfl) ?_));refine al ?_;by_cases yz:l=[116,105,109,101,114]
   .refine rg [0,40,41] [] aN fun K' ao=>?_;(repeat refine aK fun Kq af=>?_;simp[b7,bu,bo,dS,fN,yz];(repeat refine⟨aa,?_⟩);refine af _ ?_);refine bJ (ao _ (AW.st (by simp[b7,bu,bo,dS,fN,yz];rfl) ?_));refine aJ (ar (cg _ ?_));refine aJ (aB [2] [] ?_);refine bT ?_;simp[D.le,D.le.go,aR];exact tV (by simp[yz,mD])
   have Q5:(l == [116,105,109,101,114])=false:=by simpa using yz
   refine rg [0,40,41] [] aN fun K' ao=>?_;(repeat refine aK fun Kq af=>?_;simp[b7,bu,bo,dS,fN,yz,Q5];(repeat refine⟨aa,?_⟩);refine af _ ?_);refine bJ (ao _ (AW.st (by simp[b7,bu,bo,dS,fN,yz,Q5];rfl) ?_));refine al ?_;by_cases yA:l=[99,111,117,110,116,101,114]
   .refine rg [0,40,41] [] aN fun K' ao=>?_;(repeat refine aK fun Kq af=>?_;simp[b7,bu,bo,dS,fN,yA];(repeat refine⟨aa,?_⟩);refine af _ ?_);refine bJ (ao _ (AW.st (by simp[b7,bu,bo,dS,fN,yA];rfl) ?_));refine aJ (ar (cg _ ?_));refine aJ (aB [2] [] ?_);refine bT ?_;simp[D.le,D.le.go,aR];exact tV (by simp[yA,mD])
   have Q6:(l == [99,111,117,110,116,101,114])=false:=by simpa using yA
   refine rg [0,40,41] [] aN fun K' ao=>?_;(repeat refine aK fun Kq af=>?_;simp[b7,bu,bo,dS,fN,yA,Q6];(repeat refine⟨aa,?_⟩);refine af _ ?_);refine bJ (ao _ (AW.st (by simp[b7,bu,bo,dS,fN,yA,Q6];rfl) ?_));refine al ?_;by_cases yB:l=[115,101,116]
   .refine rg [0,40,41] [] aN fun K' ao=>?_;(repeat refine aK fun Kq af=>?_;simp[b7,bu,bo,dS,fN,yB];(repeat refine⟨aa,?_⟩);refine af _ ?_);refine bJ (ao _ (AW.st (by simp[b7,bu,bo,dS,fN,yB];rfl) ?_));refine aJ (ar (cg _ ?_));refine aJ (aB [2] [] ?_);refine bT ?_;simp[D.le,D.le.go,aR];exact tV (by simp[yB,mD])
   have Q7:(l == [115,101,116])=false:=by simpa using yB
   refine rg [0,40,41] [] aN fun K' ao=>?_;(repeat refine aK fun Kq af=>?_;simp[b7,bu,bo,dS,fN,yB,Q7];(repeat refine⟨aa,?_⟩);refine af _ ?_);refine bJ (ao _ (AW.st (by simp[b7,bu,bo,dS,fN,yB,Q7];rfl) ?_));refine al ?_;by_cases yC:l=[114,101,115,101,116]
   .refine rg [0,40,41] [] aN fun K' ao=>?_;(repeat refine aK fun Kq af=>?_;simp[b7,bu,bo,dS,fN,yC];(repeat refine⟨aa,?_⟩);refine af _ ?_);refine bJ (ao _ (AW.st (by simp[b7,bu,bo,dS,fN,yC];rfl) ?_));refine aJ (ar (cg _ ?_));refine aJ (aB [2] [] ?_);refine bT ?_;simp[D.le,D.le.go,aR];exact tV (by simp[yC,mD])
   have Q8:(l == [114,101,115,101,116])=false:=by simpa using yC
   refine rg [0,40,41] [] aN fun K' ao=>?_;(repeat refine aK fun Kq af=>?_;simp[b7,bu,bo,dS,fN,yC,Q8];(repeat refine⟨aa,?_⟩);refine af _ ?_);refine bJ (ao _ (AW.st (by simp[b7,bu,bo,dS,fN,yC,Q8];rfl) ?_));refine al ?_;by_cases yD:l=[114,117,110]
   .refine rg [0,40,41] [] aN fun K' ao=>?_;(repeat refine aK fun Kq af=>?_;simp[b7,bu,bo,dS,fN,yD];(repeat refine⟨aa,?_⟩);refine af _ ?_);refine bJ (ao _ (AW.st (by simp[b7,bu,bo,dS,fN,yD];rfl) ?_));refine aJ (ar (cg _ ?_));refine aJ (aB [2] [] ?_);refine bT ?_;simp[D.le,D.le.go,aR];exact tV (by simp[yD,mD])
   have Q9:(l == [114,117,110])=false:=by simpa using yD
   refine rg [0,40,41] [] aN fun K' ao=>?_;(repeat refine aK fun Kq af=>?_;simp[b7,bu,bo,dS,fN,yD,Q9];(repeat refine⟨aa,?_⟩);refine af _ ?_);refine bJ (ao _ (AW.st (by simp[b7,bu,bo,dS,fN,yD,Q9];rfl) ?_));refine al ?_;by_cases yG:l=[99,111,117,110,116]
   .refine rg [0,40,41] [] aN fun K' ao=>?_;(repeat refine aK fun Kq af=>?_;simp[b7,bu,bo,dS,fN,yG];(repeat refine⟨aa,?_⟩);refine af _ ?_);refine bJ (ao _ (AW.st (by simp[b7,bu,bo,dS,fN,yG];rfl) ?_));refine aJ (ar (cg _ ?_));refine aJ (aB [2] [] ?_);refine bT ?_;simp[D.le,D.le.go,aR];exact tV (by simp[yG,mD])
   have Ra:(l == [99,111,117,110,116])=false:=by simpa using yG
   refine rg [0,40,41] [] aN fun K' ao=>?_;(repeat refine aK fun Kq af=>?_;simp[b7,bu,bo,dS,fN,yG,Ra];(repeat refine⟨aa,?_⟩);refine af _ ?_);refine bJ (ao _ (AW.st (by simp[b7,bu,bo,dS,fN,yG,Ra];rfl) ?_));refine al ?_;by_cases yH:l=[122,101,114,111]
   .refine fH (aC _) fun K' ao=>?_;(repeat refine aK fun Kq af=>?_;simp[b7,bu,bo,dS,fN,yH];(repeat refine⟨aa,?_⟩);refine af _ ?_);refine bJ (ao _ ?_);refine cg _ (AW.norm [0,41] [] aN (AW.st (by simp[b7,bu,bo,dS,fN,yH];rfl) ?_));refine aJ (aB [2] [] ?_);refine bT ?_;simp[D.le,D.le.go,aR];exact tV (by simp[yH,mD])
   have AN:(l == [122,101,114,111])=false:=by simpa using yH
   refine fH (aC _) fun K' ao=>?_;(repeat refine aK fun Kq af=>?_;simp[b7,bu,bo,dS,fN,yH,AN];(repeat refine⟨aa,?_⟩);refine af _ ?_);refine bJ (ao _ ?_);refine cg _ (AW.norm [0,41] [] aN (AW.st (by simp[b7,bu,bo,dS,fN,yH,AN];rfl) ?_));refine al (ar (cr _ ?_));have qf:=(Aq @alw @bN);refine au [2] [] ?_;refine bT ?_;simp[D.le,D.le.go,aR];exact aid bX (by simp[mD,qL,j5,rK,yz,yA,yB,yC,yD,yG,yH])
def tr:Fm:=.mk 2 [] []
def Iq (n:Int) (many:Nat):Nat:=((n % 18446744073709551616) % many).toNat
structure VJ where
 kind:Int
 a:Int
 b:Int
 name:List UInt8
def M6 (all:List Fm) (x:VJ):Fm:=
 if x.kind=2 then .mk 2 [] []
 else if x.kind=3\/x.kind=6\/x.kind=9\/x.kind=10 then .mk x.kind [] [all.getD (Iq x.a all.length) .nil]
 else if x.kind=4\/x.kind=5\/x.kind=7\/x.kind=8 then .mk x.kind [] [all.getD (Iq x.a all.length) .nil,all.getD (Iq x.b all.length) .nil]
 else .mk 1 x.name []
abbrev VK:=List (List (List UInt8))
end Go.Proofs.YtoohljflflnbeaaGreatDoor
namespace Go.Proofs.YtoohljflflnbeaaGreatDoor
section
variable (f g:Fm)
def wS:Fm:=.mk 3 [] [f]
end
section
variable (a r:VK) (hr:0 < r.length) (f g:Fm)
include hr
end
theorem alx:type_of% @dz.eq_1:=@dz.eq_1
