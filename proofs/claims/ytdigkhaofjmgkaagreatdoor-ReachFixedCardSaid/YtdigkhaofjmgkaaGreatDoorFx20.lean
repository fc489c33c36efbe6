/- Parts. -/
import Derived.Test.YtdigkhaofjmgkaaGreatDoorFx18
import Derived.Test.YtdigkhaofjmgkaaGreatDoorFx19
import Derived.RegionTactic
import Derived.ChangeAlike
set_option linter.unusedSimpArgs false
set_option linter.unusedVariables false
set_option maxHeartbeats 8000000
open Go.Proofs.Tryz
namespace Go.Proofs.YtdigkhaofjmgkaaGreatDoor
open Go.RowKit Go.Extern.Stop Go.Stop Go.Extern
open Go.Av
theorem Zt (v:Value) (xT:TypeId) (w:World):(Instr.typeAssert (.iface 40 v) xT 213 true).run prog w = .ok (.tuple #[.pointer none,.bool false]) w:=by kernel_rfl
theorem Zs (v:Value) (xT:TypeId) (w:World):(Instr.typeAssert (.iface 213 v) xT 213 true).run prog w = .ok (.tuple #[v,.bool true]) w:=by kernel_rfl
theorem Zu (v:Value) (xT:TypeId) (w:World):(Instr.typeAssert (.iface 40 v) xT 285 true).run prog w = .ok (.tuple #[.nilIface,.bool false]) w:=run_typeAssert_lacksB underlying285 (by kernel_rfl) (by kernel_rfl) v xT w
theorem VP (w:World):Calls prog 135 #[.nilIface] w fun e w'=>e = .returned (.tuple #[.int .i64 0,.int .i64 (-1)])/\bZ w w':=by
 go_enter func135,ntmps135
 go_wp2_with (go_at_call 37;refine (My _).mono ?_;rintro e w' ⟨rfl,rfl⟩)
 refine wp_loop_rounds 1 ?_;rw[rounds_succ]
 go_wp2
 go_ret2
 exact⟨rfl,bZ.refl _⟩
theorem VO (n:Int) (w:World) (hg:w.cell? ⟨3,0,none⟩=some lZ):Calls prog 135 #[.iface 40 (.int .i64 n)] w fun e w'=>e = .returned (.tuple #[.int .i64 n,.int .i64 (-1)])/\bZ w w':=by
 have t1:=Zt;have t2:=Zu
 go_enter func135,ntmps135
 go_wp2_with (go_at_call 37;refine (Mx n _ hg).mono ?_;rintro e w' ⟨rfl,hgr⟩)
 refine wp_loop_rounds 1 ?_;rw[rounds_succ]
 go_wp2
 go_ret2
 exact⟨rfl,hgr⟩
theorem VN (n s:Int) (b o:Nat) (w:World) (hg:w.cell? ⟨3,0,none⟩=some lZ) (ha:w.cell? ⟨b,o,none⟩=some (.int .i64 n)) (hs:w.cell? ⟨b,o+1,none⟩=some (.int .i64 s)) :
  Calls prog 135 #[.iface 213 (.pointer (some ⟨b,o,none⟩))] w fun e w'=>e = .returned (.tuple #[.int .i64 n,.int .i64 s])/\bZ w w':=by
 have t1:=Zs
 go_enter func135,ntmps135
 go_wp2_with (go_at_call 37;refine (Mw n _ _ hg ha).mono ?_;rintro e w' ⟨rfl,hgr⟩)
 have l3:w'.cell? ⟨b,o+1,none⟩=some (.int .i64 s):=by rw[World.cell?_of_block (w:=w) (hgr.same b (rM hs))];exact hs
 refine wp_loop_rounds 1 ?_;rw[rounds_succ]
 go_wp2
 go_region
 all_goals (go_wp2;go_ret2;exact⟨rfl,hgr.size,hgr.os,hgr.tape,hgr.output,hgr.same⟩)
theorem VQ (G:aq) (hG:mo G) (e:Option (Int×Option Nat)):ar prog G 135 [bd e] (.aW [.v (.int .i64 (codeF e)),.v (.int .i64 (bw e))]):=by
 refine ar.nV (fe.of func135 rfl rfl) fun X w vs aK bD hgl=>?_;have hg:=hG.cell hgl;obtain⟨v,rfl⟩:∃ v,vs = #[v]:=Array.size_eq_one_iff.1 aK;have hv:=bD 0 v _ rfl rfl
 have two:∀ (w':World) (a b:Int),RD w' X (.tuple #[.int .i64 a,.int .i64 b]) (.aW [.v (.int .i64 a),.v (.int .i64 b)]):=fun w' a b=>.aW rfl fun j u c hu hc=>by
  match j,hu,hc with
  | 0,hu,hc=>simp at hu hc;subst hu hc;exact .v _
  | 1,hu,hc=>simp at hu hc;subst hu hc;exact .v _
  | j+2,hu,hc=>simp at hu
 match e,hv with
 | none,hv=>
  have:=hv.scalar;subst this;exact (VP w).mono fun e w' ⟨he,hw⟩=>⟨_,he,hw,two _ _ _⟩
 | some (c,none),hv=>
  obtain⟨u,rfl,hu⟩:=hv.oC;have:=hu.scalar;subst this;exact (VO c w hg).mono fun e w' ⟨he,hw⟩=>⟨_,he,hw,two _ _ _⟩
 | some (c,some s),hv=>
  obtain⟨u,rfl,hu⟩:=hv.oC;obtain⟨b,off,f,rfl,_,_,hc,hr⟩:=hu.aeN;have h1:=hc 0 (by simp);have h2:=(hr 0 _ rfl).scalar;rw[h2]at h1;have h3:=hc 1 (by simp);have h4:=(hr 1 _ rfl).scalar;rw[h4]at h3;exact (VN c s b off w hg h1 h3).mono fun e w' ⟨he,hw⟩=>⟨_,he,hw,two _ _ _⟩
end Go.Proofs.YtdigkhaofjmgkaaGreatDoor
namespace Go.Proofs.YtdigkhaofjmgkaaGreatDoor
open Go.Av
def aci (e:Option (Int×Option Nat)):D:=.agg [ab (codeF e),ab (bw e)]
def qe (G:aq):Prop:=G 2=some (.ip [ab 0,ab (-1)])
theorem yI (G:aq) (c:Int):ar prog G 68 [ab c] (.agg [ab c,ab (-1)]):=by
 refine ar.abS (al _) func68 rfl rfl (rs:=[.cell 2 124]) results68 (by simp[ntmps68]) fun X=>?_;simp only[ntmps68,List.map];refine rgq @afg [0,2] [2] ?_;refine rgq @afg [2] [2] ?_;exact aN @afg
theorem Gf (G:aq) (n lo hi:Int):ar prog G 164 [ab n,ab lo,ab hi] (.v (.bool (decide (lo<=n) && decide (n<=hi)))):=by
 refine ar.abS (al _) func164 rfl rfl (rs:=[.tmp 6]) results164 (by simp[ntmps164]) fun X=>?_;simp only[ntmps164,List.map];refine rgq @afg [0,1,2] [] ?_;by_cases h1:lo<=n
 .have qf:=@h1;refine abQ [6] [] ?_;exact aN @h1
 .have qf:=@h1;refine abQ [6] [] ?_;exact aN @h1
theorem ahx (G:aq) (hG:mo G) (e e':Option (Int×Option Nat)):ar prog G 67 [bd e,aci e'] (.v (.bool (decide (codeF e=codeF e') && decide (bw e=bw e')))):=by
 have hp:=VQ G hG e;refine ar.abS (al _) func67 rfl rfl (rs:=[.tmp 4]) results67 (by simp[ntmps67]) fun X=>?_;simp only[ntmps67,List.map];refine rgq @aci.eq_1 [0,3] [3] ?_;refine aT trivial hp [3,5,6] [3] ?_;by_cases h1:codeF e=codeF e'
 .have qf:=(Aq @afg @h1);refine abQ [4] [3] ?_;refine ab1 ?_;simp[D.le,D.le.go,aC,h1]
  try exact fun _=>h1
 .have qf:=(Aq @afg @h1);refine abQ [4] [3] ?_;refine ab1 ?_;simp[D.le,D.le.go,aC,h1]
  try exact fun h=>absurd h h1
theorem ahw (G:aq) (hG:mo G) (e:Option (Int×Option Nat)):ar prog G 67 [bd e,aci e] (.v (.bool true)):=by
 have:=ahx G hG e e;simpa using this
def pg (c:Int):Option (Int×Option Nat):=if c=0 then none else some (c,none)
theorem PF (c:Int):codeF (pg c)=c:=by unfold pg;split<;>simp_all [codeF]
theorem PG (c:Int):bw (pg c) = -1:=by unfold pg;split<;>simp[bw]
theorem GW (G:aq) (hG:mo G) (c:Int):ar prog G 16 [bd (pg c),ab c] (.v (.bool true)):=by
 have h:=ahw G hG (pg c);rw[show aci (pg c) = .agg [ab c,ab (-1)] by rw[aci,PF,PG]]at h;refine ar.abS (al _) func16 rfl rfl (rs:=[.tmp 4]) results16 (by simp[ntmps16]) fun X=>?_;simp only[ntmps16,List.map];refine ah [0,1] [] ?_;refine rg [4] [] (fun _ _=>trivial) fun K' ae=>?_;(repeat (refine sxn fun K2 aa=>?_;simp[ab];(repeat (refine⟨by omega,?_⟩));refine aa _ ?_;clear aa K2));refine sxn fun K2 aa=>?_;simp[ab];refine ab8.data (yI G c) (by simp;rfl) (by first | exact D.abY _ | simp[aC,abU,abK,D.le,D.le.go,D.le_refl,D.abY,ab]) ?_;refine aa _ ?_;clear aa K2;simp only[aD,cz];(repeat (refine sxn fun K2 aa=>?_;simp[ab];(repeat (refine⟨by omega,?_⟩));refine aa _ ?_;clear aa K2));refine sxn fun K2 aa=>?_;simp[ab];refine ab8.data (h) (by simp;rfl) (by first | exact D.abY _ | simp[aC,abU,abK,D.le,D.le.go,D.le_refl,D.abY,ab]) ?_;refine aa _ ?_;clear aa K2;simp only[aD,cz];(repeat (refine sxn fun K2 aa=>?_;simp[ab];(repeat (refine⟨by omega,?_⟩));refine aa _ ?_;clear aa K2));refine sxz (ae _ (AW.st (by simp[ab];rfl) ?_));clear ae K';exact cZ
inductive Fm where
 | nil
 | mk (kind:Int) (name:List UInt8) (of:List Fm)
def Vn {α:Type} (l:List α):Option Bool:=match l with
 | []=>some false
 | _=>none
mutual
def dF:Fm->D
 | .nil=>.v (.pointer none)
 | .mk k s l=>.ip [ab k,dS s,.sl (Vn l) (Hn l)]
def Hn:List Fm->List (List D)
 | []=>[]
 | f :: l=>[dF f] :: Hn l
end
def vM.n (t:vM):Nat:=t.next.length
end Go.Proofs.YtdigkhaofjmgkaaGreatDoor
namespace Go.Proofs.YtdigkhaofjmgkaaGreatDoor
theorem Tb {α:Type} {p:α->Bool} {l:List α} (h:idx p l < 0):∀ x∈l,p x=false:=by
 unfold idx at h;split at h
 .omega
 .rename_i hn;rw[List.findIdx?_eq_none_iff]at hn;intro x hx;simpa using hn x hx
theorem pY {α:Type} {p:α->Bool} {l:List α} (h:¬ idx p l < 0):∃ k,∃ hk:k < l.length,idx p l=(k:Int)/\p l[k]=true:=by
 unfold idx at h ⊢;split
 .rename_i i hi;rw[acT]at hi;obtain⟨h1,h2,_⟩:=hi;exact⟨i,h1,rfl,h2⟩
 .rename_i hn;simp[hn]at h
def dn (L:List (List Int)) (n:Nat):Nat:=(Vj L n).1.length
def nx (t:vM) (s c:Nat):Nat:=((t.next.getD s []).getD c 0).toNat
def te (t:vM) (s c:Nat):Int:=(t.ZC.getD s []).getD c 0
def wd (t:vM):Nat:=(t.next.getD 0 []).length
open Go.Av
def pre (l row:List Int) (i:Nat):List Int:=(row.take i).map fun x=>l.getD x.toNat 0
theorem wrap_u64 (n:Int):IntKind.u64.wrap n=n % 18446744073709551616:=by
 simp[IntKind.wrap,IntKind.signed,IntKind.bits]
theorem xV {l:List UInt8} {i:Nat} (h:nW l i=true) (hi:i < l.length) (hc:okC i l[i]=true):nW l (i+1)=true:=by
 unfold nW at h ⊢;rw[List.range_succ,List.all_append,h];simp only[List.all_cons,List.all_nil,Bool.and_true,aeK];rw[abJ,By hi];exact hc
theorem vb {l:List UInt8} {i:Nat} (hi:i < l.length) (hc:okC i l[i]=false):aeU l=false:=by
 have:nW l l.length=false:=by
  unfold nW;rw[List.all_eq_false];refine⟨i,acW.2 hi,?_⟩;rw[abJ,By hi];simp[hc]
 unfold aeU;rw[this];rfl
theorem oU {l:List UInt8} (h:(([] :: jj).any fun x=>l == x)=true):aeU l=false:=by
 unfold aeU;rw[h];simp
theorem aam {l:List UInt8} (h:nW l l.length=true) (hw:(([] :: jj).any fun x=>l == x)=false):decide ((l.length:Int)<=8)=aeU l:=by
 unfold aeU;rw[h,hw];simp only[adg,aeK];by_cases h8:l.length<=8
 .simp[h8];omega
 .simp[h8];omega
theorem dV (l:List UInt8):(⟨l.toArray⟩:ByteArray)=bs l:=rfl
theorem Ky (G:aq) (l:List UInt8) (hl:l.length < 2^60):ar prog G 163 [dS l] (.v (.bool (aeU l))):=by
 refine ar.abS (al _) func163 rfl rfl (rs:=[.tmp 2]) results163 (by simp[ntmps163]) fun X=>?_;simp only[ntmps163,List.map];refine rgq @afi [0] [] ?_;refine af fun K1 ax=>?_;have qf:=@bl;refine abQ [0,7,8] [] ?_;refine bQ (S:=Nat) (fun i=>i<=l.length/\nW l i=true) (fun i=>⟨aV [(0,.d (dS l)),(7,int l.length),(8,int i)],ak []⟩) (fun i=>l.length - i) 0 ?_ (by simp[nW]) ?_
 .refine abW @afi
 .rintro i ⟨IM,hok⟩;refine rgq @afi [0,7,8,9] [] ?_;refine af fun K2 aa=>?_;refine eh (b:=i < l.length) (by simp[D.le,D.le.go,aC]) (fun hc=>?_) (fun hc=>?_)
  .have hi:i < l.length:=hc;refine abO (aa _ ?_);refine af fun K3 aQ=>?_;refine aR ?_;refine ah [0,3,7,8] [] ?_;have qf:=(Aq @bl (Aq @cj @hi));refine abQ [0,3,4,7,8] [] ?_;by_cases ha:(97:Int)<=(l[i].toNat:Int)
   .by_cases hb:(l[i].toNat:Int)<=122
    .have qf:=(Aq @ha @hb);refine abQ [0,3,4,5,7,8] [] ?_;have qf:=(Aq @ha @hb);refine abQ [0,7,8,38] [] ?_;refine abN rfl ?_;refine abO (aQ _ ?_);refine re0 ?_;(try simp only[aJ,aL]);refine aS.mk (i+1) ⟨by omega,xV hok hi (by simp only[okC,ko,lI,acI,abI,decide_eq_true_eq];omega)⟩ (by omega) ?_;refine abW @afi
    .by_cases hz:(i:Int)=0
     .have hz':i=0:=by omega
      subst hz';have qf:=(Aq @ha @hb);refine abQ [0,3,4,5,7,8] [] ?_;have qf:=(Aq @ha @hb);refine abQ [0,7,8,38] [] ?_;refine abP rfl ?_;refine ah [2] [] ?_;refine ab1 ?_;simp[D.le,D.le.go,aC];exact vb hi (by simp only[okC,ko,lI,aes,aeb,decide_eq_false_iff_not];omega)
     .have hz':¬ i=0:=by omega
      by_cases hd:(48:Int)<=(l[i].toNat:Int)
      .by_cases he:(l[i].toNat:Int)<=57
       .have qf:=(Aq @ha (Aq @hb (Aq @hz (Aq @hz' (Aq @hd @he)))));refine abQ [0,3,4,5,7,8] [] ?_;have qf:=(Aq @ha (Aq @hb (Aq @hz (Aq @hz' (Aq @hd @he)))));refine abQ [0,7,8,38] [] ?_;refine abN rfl ?_;refine abO (aQ _ ?_);refine re0 ?_;(try simp only[aJ,aL]);refine aS.mk (i+1) ⟨by omega,xV hok hi (by simp only[okC,ko,lI,acI,abI,decide_eq_true_eq];omega)⟩ (by omega) ?_;refine abW @afi
       .by_cases hu:(l[i].toNat:Int)=95
        .have qf:=(Aq @ha (Aq @hb (Aq @hz (Aq @hz' (Aq @hd (Aq @he @hu))))));refine abQ [0,3,4,5,7,8] [] ?_;have qf:=(Aq @ha (Aq @hb (Aq @hz (Aq @hz' (Aq @hd (Aq @he @hu))))));refine abQ [0,7,8,38] [] ?_;refine abN rfl ?_;refine abO (aQ _ ?_);refine re0 ?_;(try simp only[aJ,aL]);refine aS.mk (i+1) ⟨by omega,xV hok hi (by simp only[okC,ko,lI,acI,abI,decide_eq_true_eq];omega)⟩ (by omega) ?_;refine abW @afi
        .have qf:=(Aq @ha (Aq @hb (Aq @hz (Aq @hz' (Aq @hd (Aq @he @hu))))));refine abQ [0,3,4,5,7,8] [] ?_;have qf:=(Aq @ha (Aq @hb (Aq @hz (Aq @hz' (Aq @hd (Aq @he @hu))))));refine abQ [0,7,8,38] [] ?_;refine abP rfl ?_;refine ah [2] [] ?_;refine ab1 ?_;simp[D.le,D.le.go,aC];exact vb hi (by simp only[okC,ko,lI,aes,aeb,decide_eq_false_iff_not];omega)
      .have hu:¬ (l[i].toNat:Int)=95:=by omega
       have qf:=(Aq @ha (Aq @hb (Aq @hz (Aq @hz' (Aq @hd @hu)))));refine abQ [0,3,4,5,7,8] [] ?_;have qf:=(Aq @ha (Aq @hb (Aq @hz (Aq @hz' (Aq @hd @hu)))));refine abQ [0,7,8,38] [] ?_;refine abP rfl ?_;refine ah [2] [] ?_;refine ab1 ?_;simp[D.le,D.le.go,aC];exact vb hi (by simp only[okC,ko,lI,aes,aeb,decide_eq_false_iff_not];omega)
   .by_cases hz:(i:Int)=0
    .have hz':i=0:=by omega
     subst hz';have qf:=@ha;refine abQ [0,3,4,5,7,8] [] ?_;have qf:=@ha;refine abQ [0,7,8,38] [] ?_;refine abP rfl ?_;refine ah [2] [] ?_;refine ab1 ?_;simp[D.le,D.le.go,aC];exact vb hi (by simp only[okC,ko,lI,aes,aeb,decide_eq_false_iff_not];omega)
    .have hz':¬ i=0:=by omega
     by_cases hd:(48:Int)<=(l[i].toNat:Int)
     .by_cases he:(l[i].toNat:Int)<=57
      .have qf:=(Aq @ha (Aq @hz (Aq @hz' (Aq @hd @he))));refine abQ [0,3,4,5,7,8] [] ?_;have qf:=(Aq @ha (Aq @hz (Aq @hz' (Aq @hd @he))));refine abQ [0,7,8,38] [] ?_;refine abN rfl ?_;refine abO (aQ _ ?_);refine re0 ?_;(try simp only[aJ,aL]);refine aS.mk (i+1) ⟨by omega,xV hok hi (by simp only[okC,ko,lI,acI,abI,decide_eq_true_eq];omega)⟩ (by omega) ?_;refine abW @afi
      .by_cases hu:(l[i].toNat:Int)=95
       .have qf:=(Aq @ha (Aq @hz (Aq @hz' (Aq @hd (Aq @he @hu)))));refine abQ [0,3,4,5,7,8] [] ?_;have qf:=(Aq @ha (Aq @hz (Aq @hz' (Aq @hd (Aq @he @hu)))));refine abQ [0,7,8,38] [] ?_;refine abN rfl ?_;refine abO (aQ _ ?_);refine re0 ?_;(try simp only[aJ,aL]);refine aS.mk (i+1) ⟨by omega,xV hok hi (by simp only[okC,ko,lI,acI,abI,decide_eq_true_eq];omega)⟩ (by omega) ?_;refine abW @afi
       .have qf:=(Aq @ha (Aq @hz (Aq @hz' (Aq @hd (Aq @he @hu)))));refine abQ [0,3,4,5,7,8] [] ?_;have qf:=(Aq @ha (Aq @hz (Aq @hz' (Aq @hd (Aq @he @hu)))));refine abQ [0,7,8,38] [] ?_;refine abP rfl ?_;refine ah [2] [] ?_;refine ab1 ?_;simp[D.le,D.le.go,aC];exact vb hi (by simp only[okC,ko,lI,aes,aeb,decide_eq_false_iff_not];omega)
     .have hu:¬ (l[i].toNat:Int)=95:=by omega
      have qf:=(Aq @ha (Aq @hz (Aq @hz' (Aq @hd @hu))));refine abQ [0,3,4,5,7,8] [] ?_;have qf:=(Aq @ha (Aq @hz (Aq @hz' (Aq @hd @hu))));refine abQ [0,7,8,38] [] ?_;refine abP rfl ?_;refine ah [2] [] ?_;refine ab1 ?_;simp[D.le,D.le.go,aC];exact vb hi (by simp only[okC,ko,lI,aes,aeb,decide_eq_false_iff_not];omega)
  .have c6:i=l.length:=by omega
   subst c6;refine bx (ax _ ?_);refine af fun K4 bK=>?_;refine ah [0,40] [] ?_;refine aR ?_;refine af fun K5 bB=>?_;by_cases l6:l=[]
   .refine rg [0,40,41] [] (fun _ _=>trivial) fun K' ae=>?_;(repeat (refine sxn fun K2 aa=>?_;simp[br,aY,aO,dS,dV,l6];(repeat (refine⟨by omega,?_⟩));refine aa _ ?_;clear aa K2));refine sxz (ae _ (AW.st (by simp[br,aY,aO,dS,dV,l6];rfl) ?_));clear ae K';refine abP rfl ?_;refine abO (bB _ ?_);refine abP rfl ?_;refine ah [2] [] ?_;refine ab1 ?_;simp[D.le,D.le.go,aC];exact oU (by simp[l6,jj])
   have hx0:l.isEmpty=false:=by simpa using l6
   refine rg [0,40,41] [] (fun _ _=>trivial) fun K' ae=>?_;(repeat (refine sxn fun K2 aa=>?_;simp[br,aY,aO,dS,dV,l6,hx0];(repeat (refine⟨by omega,?_⟩));refine aa _ ?_;clear aa K2));refine sxz (ae _ (AW.st (by simp[br,aY,aO,dS,dV,l6,hx0];rfl) ?_));clear ae K';refine abN rfl ?_;by_cases gQ:l=[105,110,112,117,116]
   .refine rg [0,40,41] [] (fun _ _=>trivial) fun K' ae=>?_;(repeat (refine sxn fun K2 aa=>?_;simp[br,aY,aO,dS,dV,gQ];(repeat (refine⟨by omega,?_⟩));refine aa _ ?_;clear aa K2));refine sxz (ae _ (AW.st (by simp[br,aY,aO,dS,dV,gQ];rfl) ?_));clear ae K';refine abP rfl ?_;refine abO (bB _ ?_);refine abP rfl ?_;refine ah [2] [] ?_;refine ab1 ?_;simp[D.le,D.le.go,aC];exact oU (by simp[gQ,jj])
   have zW:(l == [105,110,112,117,116])=false:=by simpa using gQ
   refine rg [0,40,41] [] (fun _ _=>trivial) fun K' ae=>?_;(repeat (refine sxn fun K2 aa=>?_;simp[br,aY,aO,dS,dV,gQ,zW];(repeat (refine⟨by omega,?_⟩));refine aa _ ?_;clear aa K2));refine sxz (ae _ (AW.st (by simp[br,aY,aO,dS,dV,gQ,zW];rfl) ?_));clear ae K';refine abN rfl ?_;by_cases jz:l=[99,111,105,108]
   .refine rg [0,40,41] [] (fun _ _=>trivial) fun K' ae=>?_;(repeat (refine sxn fun K2 aa=>?_;simp[br,aY,aO,dS,dV,jz];(repeat (refine⟨by omega,?_⟩));refine aa _ ?_;clear aa K2));refine sxz (ae _ (AW.st (by simp[br,aY,aO,dS,dV,jz];rfl) ?_));clear ae K';refine abP rfl ?_;refine abO (bB _ ?_);refine abP rfl ?_;refine ah [2] [] ?_;refine ab1 ?_;simp[D.le,D.le.go,aC];exact oU (by simp[jz,jj])
   have jU:(l == [99,111,105,108])=false:=by simpa using jz
   refine rg [0,40,41] [] (fun _ _=>trivial) fun K' ae=>?_;(repeat (refine sxn fun K2 aa=>?_;simp[br,aY,aO,dS,dV,jz,jU];(repeat (refine⟨by omega,?_⟩));refine aa _ ?_;clear aa K2));refine sxz (ae _ (AW.st (by simp[br,aY,aO,dS,dV,jz,jU];rfl) ?_));clear ae K';refine abN rfl ?_;by_cases sL:l=[116,105,109,101,114]
   .refine rg [0,40,41] [] (fun _ _=>trivial) fun K' ae=>?_;(repeat (refine sxn fun K2 aa=>?_;simp[br,aY,aO,dS,dV,sL];(repeat (refine⟨by omega,?_⟩));refine aa _ ?_;clear aa K2));refine sxz (ae _ (AW.st (by simp[br,aY,aO,dS,dV,sL];rfl) ?_));clear ae K';refine abP rfl ?_;refine abO (bB _ ?_);refine abP rfl ?_;refine ah [2] [] ?_;refine ab1 ?_;simp[D.le,D.le.go,aC];exact oU (by simp[sL,jj])
   have Ju:(l == [116,105,109,101,114])=false:=by simpa using sL
   refine rg [0,40,41] [] (fun _ _=>trivial) fun K' ae=>?_;(repeat (refine sxn fun K2 aa=>?_;simp[br,aY,aO,dS,dV,sL,Ju];(repeat (refine⟨by omega,?_⟩));refine aa _ ?_;clear aa K2));refine sxz (ae _ (AW.st (by simp[br,aY,aO,dS,dV,sL,Ju];rfl) ?_));clear ae K';refine abN rfl ?_;by_cases sM:l=[99,111,117,110,116,101,114]
   .refine rg [0,40,41] [] (fun _ _=>trivial) fun K' ae=>?_;(repeat (refine sxn fun K2 aa=>?_;simp[br,aY,aO,dS,dV,sM];(repeat (refine⟨by omega,?_⟩));refine aa _ ?_;clear aa K2));refine sxz (ae _ (AW.st (by simp[br,aY,aO,dS,dV,sM];rfl) ?_));clear ae K';refine abP rfl ?_;refine abO (bB _ ?_);refine abP rfl ?_;refine ah [2] [] ?_;refine ab1 ?_;simp[D.le,D.le.go,aC];exact oU (by simp[sM,jj])
   have Jv:(l == [99,111,117,110,116,101,114])=false:=by simpa using sM
   refine rg [0,40,41] [] (fun _ _=>trivial) fun K' ae=>?_;(repeat (refine sxn fun K2 aa=>?_;simp[br,aY,aO,dS,dV,sM,Jv];(repeat (refine⟨by omega,?_⟩));refine aa _ ?_;clear aa K2));refine sxz (ae _ (AW.st (by simp[br,aY,aO,dS,dV,sM,Jv];rfl) ?_));clear ae K';refine abN rfl ?_;by_cases sN:l=[115,101,116]
   .refine rg [0,40,41] [] (fun _ _=>trivial) fun K' ae=>?_;(repeat (refine sxn fun K2 aa=>?_;simp[br,aY,aO,dS,dV,sN];(repeat (refine⟨by omega,?_⟩));refine aa _ ?_;clear aa K2));refine sxz (ae _ (AW.st (by simp[br,aY,aO,dS,dV,sN];rfl) ?_));clear ae K';refine abP rfl ?_;refine abO (bB _ ?_);refine abP rfl ?_;refine ah [2] [] ?_;refine ab1 ?_;simp[D.le,D.le.go,aC];exact oU (by simp[sN,jj])
   have Jw:(l == [115,101,116])=false:=by simpa using sN
   refine rg [0,40,41] [] (fun _ _=>trivial) fun K' ae=>?_;(repeat (refine sxn fun K2 aa=>?_;simp[br,aY,aO,dS,dV,sN,Jw];(repeat (refine⟨by omega,?_⟩));refine aa _ ?_;clear aa K2));refine sxz (ae _ (AW.st (by simp[br,aY,aO,dS,dV,sN,Jw];rfl) ?_));clear ae K';refine abN rfl ?_;by_cases sO:l=[114,101,115,101,116]
   .refine rg [0,40,41] [] (fun _ _=>trivial) fun K' ae=>?_;(repeat (refine sxn fun K2 aa=>?_;simp[br,aY,aO,dS,dV,sO];(repeat (refine⟨by omega,?_⟩));refine aa _ ?_;clear aa K2));refine sxz (ae _ (AW.st (by simp[br,aY,aO,dS,dV,sO];rfl) ?_));clear ae K';refine abP rfl ?_;refine abO (bB _ ?_);refine abP rfl ?_;refine ah [2] [] ?_;refine ab1 ?_;simp[D.le,D.le.go,aC];exact oU (by simp[sO,jj])
   have hx6:(l == [114,101,115,101,116])=false:=by simpa using sO
   refine rg [0,40,41] [] (fun _ _=>trivial) fun K' ae=>?_;(repeat (refine sxn fun K2 aa=>?_;simp[br,aY,aO,dS,dV,sO,hx6];(repeat (refine⟨by omega,?_⟩));refine aa _ ?_;clear aa K2));refine sxz (ae _ (AW.st (by simp[br,aY,aO,dS,dV,sO,hx6];rfl) ?_));clear ae K';refine abN rfl ?_;by_cases sP:l=[114,117,110]
   .refine rg [0,40,41] [] (fun _ _=>trivial) fun K' ae=>?_;(repeat (refine sxn fun K2 aa=>?_;simp[br,aY,aO,dS,dV,sP];(repeat (refine⟨by omega,?_⟩));refine aa _ ?_;clear aa K2));refine sxz (ae _ (AW.st (by simp[br,aY,aO,dS,dV,sP];rfl) ?_));clear ae K';refine abP rfl ?_;refine abO (bB _ ?_);refine abP rfl ?_;refine ah [2] [] ?_;refine ab1 ?_;simp[D.le,D.le.go,aC];exact oU (by simp[sP,jj])
   have Jy:(l == [114,117,110])=false:=by simpa using sP
   refine rg [0,40,41] [] (fun _ _=>trivial) fun K' ae=>?_;(repeat (refine sxn fun K2 aa=>?_;simp[br,aY,aO,dS,dV,sP,Jy];(repeat (refine⟨by omega,?_⟩));refine aa _ ?_;clear aa K2));refine sxz (ae _ (AW.st (by simp[br,aY,aO,dS,dV,sP,Jy];rfl) ?_));clear ae K';refine abN rfl ?_;by_cases sQ:l=[99,111,117,110,116]
   .refine rg [0,40,41] [] (fun _ _=>trivial) fun K' ae=>?_;(repeat (refine sxn fun K2 aa=>?_;simp[br,aY,aO,dS,dV,sQ];(repeat (refine⟨by omega,?_⟩));refine aa _ ?_;clear aa K2));refine sxz (ae _ (AW.st (by simp[br,aY,aO,dS,dV,sQ];rfl) ?_));clear ae K';refine abP rfl ?_;refine abO (bB _ ?_);refine abP rfl ?_;refine ah [2] [] ?_;refine ab1 ?_;simp[D.le,D.le.go,aC];exact oU (by simp[sQ,jj])
   have Jz:(l == [99,111,117,110,116])=false:=by simpa using sQ
   refine rg [0,40,41] [] (fun _ _=>trivial) fun K' ae=>?_;(repeat (refine sxn fun K2 aa=>?_;simp[br,aY,aO,dS,dV,sQ,Jz];(repeat (refine⟨by omega,?_⟩));refine aa _ ?_;clear aa K2));refine sxz (ae _ (AW.st (by simp[br,aY,aO,dS,dV,sQ,Jz];rfl) ?_));clear ae K';refine abN rfl ?_;by_cases sR:l=[122,101,114,111]
   .refine cR (al _) fun K' ae=>?_;(repeat (refine sxn fun K2 aa=>?_;simp[br,aY,aO,dS,dV,sR];(repeat (refine⟨by omega,?_⟩));refine aa _ ?_;clear aa K2));refine sxz (ae _ ?_);clear ae K';refine bB _ (AW.norm [0,41] [] (fun _ _=>trivial) (AW.st (by simp[br,aY,aO,dS,dV,sR];rfl) ?_));refine abP rfl ?_;refine ah [2] [] ?_;refine ab1 ?_;simp[D.le,D.le.go,aC];exact oU (by simp[sR,jj])
   have uN:(l == [122,101,114,111])=false:=by simpa using sR
   refine cR (al _) fun K' ae=>?_;(repeat (refine sxn fun K2 aa=>?_;simp[br,aY,aO,dS,dV,sR,uN];(repeat (refine⟨by omega,?_⟩));refine aa _ ?_;clear aa K2));refine sxz (ae _ ?_);clear ae K';refine bB _ (AW.norm [0,41] [] (fun _ _=>trivial) (AW.st (by simp[br,aY,aO,dS,dV,sR,uN];rfl) ?_));refine abN rfl ?_;refine abO (bK _ ?_);have qf:=(Aq @afi @bl);refine abQ [2] [] ?_;refine ab1 ?_;simp[D.le,D.le.go,aC];exact aam hok (by simp[jj,l6,gQ,jz,sL,sM,sN,sO,sP,sQ,sR])
def tr:Fm:=.mk 2 [] []
def B1 (n:Int) (many:Nat):Nat:=((n % 18446744073709551616) % many).toNat
structure Nk where
 kind:Int
 a:Int
 b:Int
 name:List UInt8
def FW (all:List Fm) (x:Nk):Fm:=
 if x.kind=2 then .mk 2 [] []
 else if x.kind=3\/x.kind=6\/x.kind=9\/x.kind=10 then .mk x.kind [] [all.getD (B1 x.a all.length) .nil]
 else if x.kind=4\/x.kind=5\/x.kind=7\/x.kind=8 then .mk x.kind [] [all.getD (B1 x.a all.length) .nil,all.getD (B1 x.b all.length) .nil]
 else .mk 1 x.name []
def GA (f:Fm):Prop:=∃ k s l,f = .mk k s l
theorem GA.ip {f:Fm} (h:GA f):∃ c,dF f = .ip c:=by
 obtain⟨k,s,l,rfl⟩:=h;exact⟨_,rfl⟩
abbrev Nl:=List (List (List UInt8))
end Go.Proofs.YtdigkhaofjmgkaaGreatDoor
namespace Go.Proofs.YtdigkhaofjmgkaaGreatDoor
section
variable (f g:Fm)
def rf:Fm:=.mk 3 [] [f]
end
section
variable (a r:Nl) (hr:0 < r.length) (f g:Fm)
include hr
end
theorem afj:type_of% @aci.eq_1:=@aci.eq_1
