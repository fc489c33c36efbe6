/- Parts. -/
import Derived.Test.YtobejfcgcfdpfaaGreatDoorPc18
import Derived.Test.YtobejfcgcfdpfaaGreatDoorPc19
import Derived.RegionTactic
import Derived.ChangeAlike
set_option linter.unusedSimpArgs false
set_option linter.unusedVariables false
set_option maxHeartbeats 8000000
open Go.Proofs.Tryz
namespace Go.Proofs.YtobejfcgcfdpfaaGreatDoor
open Go.RowKit Go.Extern.Stop Go.Stop Go.Extern
open Go.Av
theorem ajJ (v:Value) (xT:TypeId) (w:World):(Instr.typeAssert (.iface 40 v) xT 178 true).run prog w = .ok (.tuple #[.pointer none,.bool false]) w:=ah
theorem ajI (v:Value) (xT:TypeId) (w:World):(Instr.typeAssert (.iface 178 v) xT 178 true).run prog w = .ok (.tuple #[v,.bool true]) w:=ah
theorem ajK (v:Value) (xT:TypeId) (w:World):(Instr.typeAssert (.iface 40 v) xT 202 true).run prog w = .ok (.tuple #[.nilIface,.bool false]) w:=run_typeAssert_lacksB underlying202 ah ah v xT w
theorem ahA (w:World):Calls prog 79 #[.nilIface] w fun e w'=>e = .returned (.tuple #[.int .i64 0,.int .i64 (-1)])/\cX w w':=by
 go_enter func79,ntmps79
 go_wp2_with (go_at_call 120;refine (XE _).mono ?_;rintro e w' ⟨rfl,rfl⟩)
 refine wp_loop_rounds 1 ?_;rw[rounds_succ]
 go_wp2
 go_ret2
 exact⟨rfl,cX.refl _⟩
theorem ahz (n:Int) (w:World) (hg:w.cell? ⟨3,0,none⟩=some rv):Calls prog 79 #[.iface 40 (.int .i64 n)] w fun e w'=>e = .returned (.tuple #[.int .i64 n,.int .i64 (-1)])/\cX w w':=by
 have t1:=ajJ;have t2:=ajK
 go_enter func79,ntmps79
 go_wp2_with (go_at_call 120;refine (XC n _ hg).mono ?_;rintro e w' ⟨rfl,gm⟩)
 refine wp_loop_rounds 1 ?_;rw[rounds_succ]
 go_wp2
 go_ret2
 exact⟨rfl,gm⟩
theorem ahy (n s:Int) (b o:Nat) (w:World) (hg:w.cell? ⟨3,0,none⟩=some rv) (ha:w.cell? ⟨b,o,none⟩=some (.int .i64 n)) (hs:w.cell? ⟨b,o+1,none⟩=some (.int .i64 s)) :
  Calls prog 79 #[.iface 178 (.pointer (some ⟨b,o,none⟩))] w fun e w'=>e = .returned (.tuple #[.int .i64 n,.int .i64 s])/\cX w w':=by
 have t1:=ajI
 go_enter func79,ntmps79
 go_wp2_with (go_at_call 120;refine (XB n _ _ hg ha).mono ?_;rintro e w' ⟨rfl,gm⟩)
 have o0:w'.cell? ⟨b,o+1,none⟩=some (.int .i64 s):=by rw[World.cell?_of_block (w:=w) (gm.same b (yY hs))];exact hs
 refine wp_loop_rounds 1 ?_;rw[rounds_succ]
 go_wp2
 go_region
 all_goals (go_wp2;go_ret2;exact⟨rfl,gm.size,gm.os,gm.tape,gm.output,gm.same⟩)
theorem ahB (G:aB) (hG:r7 G) (e:Option (Int×Option Nat)):aD prog G 79 [bG e] (.bz [.v (.int .i64 (codeF e)),.v (.int .i64 (cz e))]):=by
 refine aD.tS (iV.of func79 rfl rfl) fun X w vs bp bQ cW=>?_;have hg:=hG.cell cW;obtain⟨v,rfl⟩:∃ v,vs = #[v]:=Array.size_eq_one_iff.1 bp;have hv:=bQ 0 v _ rfl rfl
 have two:∀ (w':World) (a b:Int),RD w' X (.tuple #[.int .i64 a,.int .i64 b]) (.bz [.v (.int .i64 a),.v (.int .i64 b)]):=fun w' a b=>.bz rfl fun j u c hu hc=>by
  match j,hu,hc with
  | 0,hu,hc=>simp at hu hc;subst hu hc;exact .v _
  | 1,hu,hc=>simp at hu hc;subst hu hc;exact .v _
  | j+2,hu,hc=>simp at hu
 match e,hv with
 | none,hv=>
  have:=hv.scalar;subst this;exact (ahA w).mono fun e w' ⟨he,hw⟩=>⟨_,he,hw,two _ _ _⟩
 | some (c,none),hv=>
  obtain⟨u,rfl,hu⟩:=hv.uP;have:=hu.scalar;subst this;exact (ahz c w hg).mono fun e w' ⟨he,hw⟩=>⟨_,he,hw,two _ _ _⟩
 | some (c,some s),hv=>
  obtain⟨u,rfl,hu⟩:=hv.uP;obtain⟨b,off,f,rfl,_,_,hc,hr⟩:=hu.sO;have h1:=hc 0 ak;have h2:=(hr 0 _ rfl).scalar;rw[h2]at h1;have h3:=hc 1 ak;have h4:=(hr 1 _ rfl).scalar;rw[h4]at h3;exact (ahy c s b off w hg h1 h3).mono fun e w' ⟨he,hw⟩=>⟨_,he,hw,two _ _ _⟩
end Go.Proofs.YtobejfcgcfdpfaaGreatDoor
namespace Go.Proofs.YtobejfcgcfdpfaaGreatDoor
open Go.Av
def dN (e:Option (Int×Option Nat)):D:=.agg [ab (codeF e),ab (cz e)]
def ve (G:aB):Prop:=G 0=some (.ip [ab 0,ab (-1)])
theorem Gb (G:aB) (c:Int):aD prog G 34 [ab c] (.agg [ab c,ab (-1)]):=by
 refine aD.aO (ay _) func34 rfl rfl (rs:=[.cell 2 68]) results34 (by simp[ntmps34]) fun X=>?_;simp only[ntmps34,List.map];refine ae @an8 [0,2] [2] ?_;refine ae @an8 [2] [2] ?_;exact aY @an8
theorem PQ (G:aB) (n lo hi:Int):aD prog G 128 [ab n,ab lo,ab hi] (.v (.bool (decide (lo<=n) && decide (n<=hi)))):=by
 refine aD.aO (ay _) func128 rfl rfl (rs:=[.tmp 6]) results128 (by simp[ntmps128]) fun X=>?_;simp only[ntmps128,List.map];refine ae @an8 [0,1,2] [] ?_;by_cases h1:lo<=n
 .have qf:=@h1;refine ax [6] [] ?_;exact aY @h1
 .have qf:=@h1;refine ax [6] [] ?_;exact aY @h1
theorem aeL (G:aB) (k k':Option Bool) (l l':List Int) (h:l.length < 2^63):aD prog G 13 [sd k l,sd k' l'] (.v (.bool (l == l'))):=by
 refine aD.aO (ay _) func13 rfl rfl (rs:=[.tmp 4]) results13 (by simp[ntmps13]) fun X=>?_;simp only[ntmps13,List.map];refine ar [0,1] [] ?_;refine ag fun K1 aF=>ae @sd.eq_1 [0,1,10] [] ?_;refine eY (b:=l.length≠l'.length) (by simp[D.le,D.le.go,aP]) (fun hc=>?_) (fun hc=>?_)
 .refine ar [4] [] ?_;refine bW ?_;simp[D.le,D.le.go,aP];intro e;subst e;simp at hc
 .refine aq (aF _ ?_)
  have hl:l.length=l'.length:=by simpa using hc
  refine ag fun K2 au=>ae @sd.eq_1 [0,1,5] [] ?_;refine ch (S:=Nat) (fun n=>n<=l.length/\l.take n=l'.take n) (fun n=>⟨bg [(0,.d (sd k l)),(1,.d (sd k' l')),(5,int n)],aw []⟩) (fun n=>l.length - n) 0 ?_ ak ?_
  .refine bo @sd.eq_1
  .rintro n ⟨hn,ht⟩;refine ag fun K3 aX=>ae @sd.eq_1 [0,1,5,14] [] ?_;refine eY (b:=n < l.length) (by simp[D.le,D.le.go,aP]) (fun hc=>?_) (fun hc=>?_)
   .refine aq (aX _ (ag fun K4 b6=>bf ?_))
    have lf:n < l'.length:=aa
    have qf:=(Aq @sd.eq_1 (Aq @hc @lf));refine il [0,1,5,25] [] ?_;refine eY (b:=¬ l[n]=l'[n]) (by simp[D.le,D.le.go,aP]) (fun hc=>?_) (fun hc=>?_)
    .refine ar [4] [] ?_;refine bW ?_;simp[D.le,D.le.go,aP];intro e;subst e;simp at hc
    .refine aq (b6 _ (cK ?_));try simp only[aT,aW]
     have he:l[n]=l'[n]:=by simpa using hc
     refine aZ.mk (n+1) ⟨aa,ajS ht aa lf he⟩ aa ?_;refine bo @sd.eq_1
   .refine bL (au _ (ar [4] [] ?_));refine bW ?_;simp[D.le,D.le.go,aP]
    have sD:n=l.length:=aa
    subst sD;exact ajR hl ht
theorem Zc (G:aB) (hG:r7 G) (e e':Option (Int×Option Nat)):aD prog G 33 [bG e,dN e'] (.v (.bool (decide (codeF e=codeF e') && decide (cz e=cz e')))):=by
 have hp:=ahB G hG e;refine aD.aO (ay _) func33 rfl rfl (rs:=[.tmp 4]) results33 (by simp[ntmps33]) fun X=>?_;simp only[ntmps33,List.map];refine ae @dN.eq_1 [0,3] [3] ?_;refine bh trivial hp [3,5,6] [3] ?_;by_cases h1:codeF e=codeF e'
 .have qf:=(Aq @an8 @h1);refine ax [4] [3] ?_;refine bW ?_;simp[D.le,D.le.go,aP,h1]
  try exact fun _=>h1
 .have qf:=(Aq @an8 @h1);refine ax [4] [3] ?_;refine bW ?_;simp[D.le,D.le.go,aP,h1]
  try exact fun h=>absurd h h1
theorem Zb (G:aB) (hG:r7 G) (e:Option (Int×Option Nat)):aD prog G 33 [bG e,dN e] (.v (.bool true)):=by
 have:=Zc G hG e e;simpa using this
def xl (c:Int):Option (Int×Option Nat):=if c=0 then none else some (c,none)
theorem aaP (c:Int):codeF (xl c)=c:=by unfold xl;split<;>simp_all [codeF]
theorem aaQ (c:Int):cz (xl c) = -1:=by unfold xl;split<;>simp[cz]
theorem Zi (G:aB) (hG:r7 G) (c:Int):aD prog G 8 [bG (xl c),ab c] (.v (.bool true)):=by
 have h:=Zb G hG (xl c);rw[show dN (xl c) = .agg [ab c,ab (-1)] by rw[dN,aaP,aaQ]]at h;refine aD.aO (ay _) func8 rfl rfl (rs:=[.tmp 4]) results8 (by simp[ntmps8]) fun X=>?_;simp only[ntmps8,List.map];refine ar [0,1] [] ?_;refine rg [4] [] aQ fun K' ao=>?_;(repeat refine aK fun Kq af=>?_;simp[ab];(repeat refine⟨aa,?_⟩);refine af _ ?_);refine aK fun Kq af=>?_;simp[ab];refine cZ.data (Gb G c) bt (by first | exact D.bC _ | simp[aP,amk,amc,D.le,D.le.go,D.le_refl,D.bC,ab]) ?_;refine af _ ?_;simp only[aN,du];(repeat refine aK fun Kq af=>?_;simp[ab];(repeat refine⟨aa,?_⟩);refine af _ ?_);refine aK fun Kq af=>?_;simp[ab];refine cZ.data (h) bt (by first | exact D.bC _ | simp[aP,amk,amc,D.le,D.le.go,D.le_refl,D.bC,ab]) ?_;refine af _ ?_;simp only[aN,du];(repeat refine aK fun Kq af=>?_;simp[ab];(repeat refine⟨aa,?_⟩);refine af _ ?_);refine bH (ao _ (AW.st (by simp[ab];rfl) ?_));exact fP
inductive Fm where
 | nil
 | mk (kind:Int) (name:List UInt8) (of:List Fm)
def ofK {α:Type} (l:List α):Option Bool:=match l with
 | []=>some false
 | _=>none
mutual
def dF:Fm->D
 | .nil=>.v (.pointer none)
 | .mk k s l=>.ip [ab k,dS s,.sl (ofK l) (QY l)]
def QY:List Fm->List (List D)
 | []=>[]
 | f :: l=>[dF f] :: QY l
end
end Go.Proofs.YtobejfcgcfdpfaaGreatDoor
namespace Go.Proofs.YtobejfcgcfdpfaaGreatDoor
theorem Nw {α:Type} {p:α->Bool} {l:List α} (h:idx p l < 0):∀ x∈l,p x=false:=by
 unfold idx at h;split at h
 .omega
 .rename_i hn;rw[anB]at hn;intro x hx;simpa using hn x hx
theorem tQ {α:Type} {p:α->Bool} {l:List α} (h:¬ idx p l < 0):∃ k,∃ hk:k < l.length,idx p l=(k:Int)/\p l[k]=true:=by
 unfold idx at h ⊢;split
 .rename_i i hi;rw[amG]at hi;obtain⟨h1,h2,_⟩:=hi;exact⟨i,h1,rfl,h2⟩
 .rename_i hn;simp[hn]at h
def dn (L:List (List Int)) (n:Nat):Nat:=(afm L n).1.length
def nx (t:yV) (s c:Nat):Nat:=((t.next.getD s []).getD c 0).toNat
def te (t:yV) (s c:Nat):Int:=(t.ajU.getD s []).getD c 0
def wd (t:yV):Nat:=(t.next.getD 0 []).length
open Go.Av
def pre (l row:List Int) (i:Nat):List Int:=(row.take i).map fun x=>l.getD x.toNat 0
theorem wrap_u64 (n:Int):IntKind.u64.wrap n=n % 18446744073709551616:=by
 simp[IntKind.wrap,IntKind.signed,IntKind.bits]
theorem Fj {l:List UInt8} {i:Nat} (h:tT l i=true) (hi:i < l.length) (hc:iU i l[i]=true):tT l (i+1)=true:=by
 unfold tT at h ⊢;rw[List.range_succ,List.all_append,h];simp only[List.all_cons,List.all_nil,Bool.and_true,Bool.true_and];rw[ame,AT hi];exact hc
theorem Cy {l:List UInt8} {i:Nat} (hi:i < l.length) (hc:iU i l[i]=false):s7 l=false:=by
 have:tT l l.length=false:=by
  unfold tT;rw[List.all_eq_false];refine⟨i,anA.2 hi,?_⟩;rw[ame,AT hi];simp[hc]
 unfold s7;rw[this];rfl
theorem u9 {l:List UInt8} (h:(([] :: nN).any fun x=>l == x)=true):s7 l=false:=by
 unfold s7;rw[h];simp
theorem akE {l:List UInt8} (h:tT l l.length=true) (hw:(([] :: nN).any fun x=>l == x)=false):decide ((l.length:Int)<=8)=s7 l:=by
 unfold s7;rw[h,hw];simp only[anl,Bool.true_and];by_cases h8:l.length<=8
 .simp[h8];omega
 .simp[h8];omega
theorem gr (l:List UInt8):(⟨l.toArray⟩:ByteArray)=bs l:=rfl
theorem Vf (G:aB) (l:List UInt8) (hl:l.length < 2^60):aD prog G 127 [dS l] (.v (.bool (s7 l))):=by
 refine aD.aO (ay _) func127 rfl rfl (rs:=[.tmp 2]) results127 (by simp[ntmps127]) fun X=>?_;simp only[ntmps127,List.map];refine ae @an9 [0] [] ?_;refine ag fun K1 aF=>?_;have qf:=@bX;refine ax [0,7,8] [] ?_;refine ch (S:=Nat) (fun i=>i<=l.length/\tT l i=true) (fun i=>⟨bg [(0,.d (dS l)),(7,int l.length),(8,int i)],aw []⟩) (fun i=>l.length - i) 0 ?_ (by simp[tT]) ?_
 .refine bo @an9
 .rintro i ⟨S5,cf⟩;refine ae @an9 [0,7,8,9] [] ?_;refine ag fun K2 au=>eY (b:=i < l.length) (by simp[D.le,D.le.go,aP]) (fun hc=>?_) (fun hc=>?_)
  .have hi:i < l.length:=hc;refine aq (au _ (ag fun K3 aX=>bf (ar [0,3,7,8] [] ?_)));have qf:=(Aq @bX (Aq @dM @hi));refine ax [0,3,4,7,8] [] ?_;by_cases ha:(97:Int)<=(l[i].toNat:Int)
   .by_cases hb:(l[i].toNat:Int)<=122
    .have qf:=(Aq @ha @hb);refine ax [0,3,4,5,7,8] [] ?_;have qf:=(Aq @ha @hb);refine ax [0,7,8,38] [] ?_;refine al (aq (aX _ ?_));refine cK ?_;(try simp only[aT,aW]);refine aZ.mk (i+1) ⟨aa,Fj cf hi (by simp only[iU,pI,qU,amU,OF,decide_eq_true_eq];omega)⟩ aa ?_;refine bo @an9
    .by_cases hz:(i:Int)=0
     .have ka:i=0:=aa
      subst ka;have qf:=(Aq @ha @hb);refine ax [0,3,4,5,7,8] [] ?_;have qf:=(Aq @ha @hb);refine ax [0,7,8,38] [] ?_;refine aJ (ar [2] [] ?_);refine bW ?_;simp[D.le,D.le.go,aP];exact Cy hi (by simp only[iU,pI,qU,anH,anE,decide_eq_false_iff_not];omega)
     .have ka:¬ i=0:=aa
      by_cases hd:(48:Int)<=(l[i].toNat:Int)
      .by_cases he:(l[i].toNat:Int)<=57
       .have qf:=(Aq @ha (Aq @hb (Aq @hz (Aq @ka (Aq @hd @he)))));refine ax [0,3,4,5,7,8] [] ?_;have qf:=(Aq @ha (Aq @hb (Aq @hz (Aq @ka (Aq @hd @he)))));refine ax [0,7,8,38] [] ?_;refine al (aq (aX _ ?_));refine cK ?_;(try simp only[aT,aW]);refine aZ.mk (i+1) ⟨aa,Fj cf hi (by simp only[iU,pI,qU,amU,OF,decide_eq_true_eq];omega)⟩ aa ?_;refine bo @an9
       .by_cases hu:(l[i].toNat:Int)=95
        .have qf:=(Aq @ha (Aq @hb (Aq @hz (Aq @ka (Aq @hd (Aq @he @hu))))));refine ax [0,3,4,5,7,8] [] ?_;have qf:=(Aq @ha (Aq @hb (Aq @hz (Aq @ka (Aq @hd (Aq @he @hu))))));refine ax [0,7,8,38] [] ?_;refine al (aq (aX _ ?_));refine cK ?_;(try simp only[aT,aW]);refine aZ.mk (i+1) ⟨aa,Fj cf hi (by simp only[iU,pI,qU,amU,OF,decide_eq_true_eq];omega)⟩ aa ?_;refine bo @an9
        .have qf:=(Aq @ha (Aq @hb (Aq @hz (Aq @ka (Aq @hd (Aq @he @hu))))));refine ax [0,3,4,5,7,8] [] ?_;have qf:=(Aq @ha (Aq @hb (Aq @hz (Aq @ka (Aq @hd (Aq @he @hu))))));refine ax [0,7,8,38] [] ?_;refine aJ (ar [2] [] ?_);refine bW ?_;simp[D.le,D.le.go,aP];exact Cy hi (by simp only[iU,pI,qU,anH,anE,decide_eq_false_iff_not];omega)
      .have hu:¬ (l[i].toNat:Int)=95:=aa
       have qf:=(Aq @ha (Aq @hb (Aq @hz (Aq @ka (Aq @hd @hu)))));refine ax [0,3,4,5,7,8] [] ?_;have qf:=(Aq @ha (Aq @hb (Aq @hz (Aq @ka (Aq @hd @hu)))));refine ax [0,7,8,38] [] ?_;refine aJ (ar [2] [] ?_);refine bW ?_;simp[D.le,D.le.go,aP];exact Cy hi (by simp only[iU,pI,qU,anH,anE,decide_eq_false_iff_not];omega)
   .by_cases hz:(i:Int)=0
    .have ka:i=0:=aa
     subst ka;have qf:=@ha;refine ax [0,3,4,5,7,8] [] ?_;have qf:=@ha;refine ax [0,7,8,38] [] ?_;refine aJ (ar [2] [] ?_);refine bW ?_;simp[D.le,D.le.go,aP];exact Cy hi (by simp only[iU,pI,qU,anH,anE,decide_eq_false_iff_not];omega)
    .have ka:¬ i=0:=aa
     by_cases hd:(48:Int)<=(l[i].toNat:Int)
     .by_cases he:(l[i].toNat:Int)<=57
      .have qf:=(Aq @ha (Aq @hz (Aq @ka (Aq @hd @he))));refine ax [0,3,4,5,7,8] [] ?_;have qf:=(Aq @ha (Aq @hz (Aq @ka (Aq @hd @he))));refine ax [0,7,8,38] [] ?_;refine al (aq (aX _ ?_));refine cK ?_;(try simp only[aT,aW]);refine aZ.mk (i+1) ⟨aa,Fj cf hi (by simp only[iU,pI,qU,amU,OF,decide_eq_true_eq];omega)⟩ aa ?_;refine bo @an9
      .by_cases hu:(l[i].toNat:Int)=95
       .have qf:=(Aq @ha (Aq @hz (Aq @ka (Aq @hd (Aq @he @hu)))));refine ax [0,3,4,5,7,8] [] ?_;have qf:=(Aq @ha (Aq @hz (Aq @ka (Aq @hd (Aq @he @hu)))));refine ax [0,7,8,38] [] ?_;refine al (aq (aX _ ?_));refine cK ?_;(try simp only[aT,aW]);refine aZ.mk (i+1) ⟨aa,Fj cf hi (by simp only[iU,pI,qU,amU,OF,decide_eq_true_eq];omega)⟩ aa ?_;refine bo @an9
       .have qf:=(Aq @ha (Aq @hz (Aq @ka (Aq @hd (Aq @he @hu)))));refine ax [0,3,4,5,7,8] [] ?_;have qf:=(Aq @ha (Aq @hz (Aq @ka (Aq @hd (Aq @he @hu)))));refine ax [0,7,8,38] [] ?_;refine aJ (ar [2] [] ?_);refine bW ?_;simp[D.le,D.le.go,aP];exact Cy hi (by simp only[iU,pI,qU,anH,anE,decide_eq_false_iff_not];omega)
     .have hu:¬ (l[i].toNat:Int)=95:=aa
      have qf:=(Aq @ha (Aq @hz (Aq @ka (Aq @hd @hu))));refine ax [0,3,4,5,7,8] [] ?_;have qf:=(Aq @ha (Aq @hz (Aq @ka (Aq @hd @hu))));refine ax [0,7,8,38] [] ?_;refine aJ (ar [2] [] ?_);refine bW ?_;simp[D.le,D.le.go,aP];exact Cy hi (by simp only[iU,pI,qU,anH,anE,decide_eq_false_iff_not];omega)
  .have dr:i=l.length:=aa
   subst dr;refine bL (aF _ (ag fun K4 b6=>ar [0,40] [] ?_));refine bf ?_;refine ag fun K5 b5=>?_;by_cases rL:l=[]
   .refine rg [0,40,41] [] aQ fun K' ao=>?_;(repeat refine aK fun Kq af=>?_;simp[cu,bA,bu,dS,gr,rL];(repeat refine⟨aa,?_⟩);refine af _ ?_);refine bH (ao _ (AW.st (by simp[cu,bA,bu,dS,gr,rL];rfl) ?_));refine aJ (aq (b5 _ ?_));refine aJ (ar [2] [] ?_);refine bW ?_;simp[D.le,D.le.go,aP];exact u9 (by simp[rL,nN])
   have xW:l.isEmpty=false:=by simpa using rL
   refine rg [0,40,41] [] aQ fun K' ao=>?_;(repeat refine aK fun Kq af=>?_;simp[cu,bA,bu,dS,gr,rL,xW];(repeat refine⟨aa,?_⟩);refine af _ ?_);refine bH (ao _ (AW.st (by simp[cu,bA,bu,dS,gr,rL,xW];rfl) ?_));refine al ?_;by_cases kC:l=[105,110,112,117,116]
   .refine rg [0,40,41] [] aQ fun K' ao=>?_;(repeat refine aK fun Kq af=>?_;simp[cu,bA,bu,dS,gr,kC];(repeat refine⟨aa,?_⟩);refine af _ ?_);refine bH (ao _ (AW.st (by simp[cu,bA,bu,dS,gr,kC];rfl) ?_));refine aJ (aq (b5 _ ?_));refine aJ (ar [2] [] ?_);refine bW ?_;simp[D.le,D.le.go,aP];exact u9 (by simp[kC,nN])
   have H6:(l == [105,110,112,117,116])=false:=by simpa using kC
   refine rg [0,40,41] [] aQ fun K' ao=>?_;(repeat refine aK fun Kq af=>?_;simp[cu,bA,bu,dS,gr,kC,H6];(repeat refine⟨aa,?_⟩);refine af _ ?_);refine bH (ao _ (AW.st (by simp[cu,bA,bu,dS,gr,kC,H6];rfl) ?_));refine al ?_;by_cases sJ:l=[99,111,105,108]
   .refine rg [0,40,41] [] aQ fun K' ao=>?_;(repeat refine aK fun Kq af=>?_;simp[cu,bA,bu,dS,gr,sJ];(repeat refine⟨aa,?_⟩);refine af _ ?_);refine bH (ao _ (AW.st (by simp[cu,bA,bu,dS,gr,sJ];rfl) ?_));refine aJ (aq (b5 _ ?_));refine aJ (ar [2] [] ?_);refine bW ?_;simp[D.le,D.le.go,aP];exact u9 (by simp[sJ,nN])
   have rM:(l == [99,111,105,108])=false:=by simpa using sJ
   refine rg [0,40,41] [] aQ fun K' ao=>?_;(repeat refine aK fun Kq af=>?_;simp[cu,bA,bu,dS,gr,sJ,rM];(repeat refine⟨aa,?_⟩);refine af _ ?_);refine bH (ao _ (AW.st (by simp[cu,bA,bu,dS,gr,sJ,rM];rfl) ?_));refine al ?_;by_cases zU:l=[116,105,109,101,114]
   .refine rg [0,40,41] [] aQ fun K' ao=>?_;(repeat refine aK fun Kq af=>?_;simp[cu,bA,bu,dS,gr,zU];(repeat refine⟨aa,?_⟩);refine af _ ?_);refine bH (ao _ (AW.st (by simp[cu,bA,bu,dS,gr,zU];rfl) ?_));refine aJ (aq (b5 _ ?_));refine aJ (ar [2] [] ?_);refine bW ?_;simp[D.le,D.le.go,aP];exact u9 (by simp[zU,nN])
   have TX:(l == [116,105,109,101,114])=false:=by simpa using zU
   refine rg [0,40,41] [] aQ fun K' ao=>?_;(repeat refine aK fun Kq af=>?_;simp[cu,bA,bu,dS,gr,zU,TX];(repeat refine⟨aa,?_⟩);refine af _ ?_);refine bH (ao _ (AW.st (by simp[cu,bA,bu,dS,gr,zU,TX];rfl) ?_));refine al ?_;by_cases zV:l=[99,111,117,110,116,101,114]
   .refine rg [0,40,41] [] aQ fun K' ao=>?_;(repeat refine aK fun Kq af=>?_;simp[cu,bA,bu,dS,gr,zV];(repeat refine⟨aa,?_⟩);refine af _ ?_);refine bH (ao _ (AW.st (by simp[cu,bA,bu,dS,gr,zV];rfl) ?_));refine aJ (aq (b5 _ ?_));refine aJ (ar [2] [] ?_);refine bW ?_;simp[D.le,D.le.go,aP];exact u9 (by simp[zV,nN])
   have TY:(l == [99,111,117,110,116,101,114])=false:=by simpa using zV
   refine rg [0,40,41] [] aQ fun K' ao=>?_;(repeat refine aK fun Kq af=>?_;simp[cu,bA,bu,dS,gr,zV,TY];(repeat refine⟨aa,?_⟩);refine af _ ?_);refine bH (ao _ (AW.st (by simp[cu,bA,bu,dS,gr,zV,TY];rfl) ?_));refine al ?_;by_cases zW:l=[115,101,116]
   .refine rg [0,40,41] [] aQ fun K' ao=>?_;(repeat refine aK fun Kq af=>?_;simp[cu,bA,bu,dS,gr,zW];(repeat refine⟨aa,?_⟩);refine af _ ?_);refine bH (ao _ (AW.st (by simp[cu,bA,bu,dS,gr,zW];rfl) ?_));refine aJ (aq (b5 _ ?_));refine aJ (ar [2] [] ?_);refine bW ?_;simp[D.le,D.le.go,aP];exact u9 (by simp[zW,nN])
   have TZ:(l == [115,101,116])=false:=by simpa using zW
   refine rg [0,40,41] [] aQ fun K' ao=>?_;(repeat refine aK fun Kq af=>?_;simp[cu,bA,bu,dS,gr,zW,TZ];(repeat refine⟨aa,?_⟩);refine af _ ?_);refine bH (ao _ (AW.st (by simp[cu,bA,bu,dS,gr,zW,TZ];rfl) ?_));refine al ?_;by_cases zX:l=[114,101,115,101,116]
   .refine rg [0,40,41] [] aQ fun K' ao=>?_;(repeat refine aK fun Kq af=>?_;simp[cu,bA,bu,dS,gr,zX];(repeat refine⟨aa,?_⟩);refine af _ ?_);refine bH (ao _ (AW.st (by simp[cu,bA,bu,dS,gr,zX];rfl) ?_));refine aJ (aq (b5 _ ?_));refine aJ (ar [2] [] ?_);refine bW ?_;simp[D.le,D.le.go,aP];exact u9 (by simp[zX,nN])
   have T0:(l == [114,101,115,101,116])=false:=by simpa using zX
   refine rg [0,40,41] [] aQ fun K' ao=>?_;(repeat refine aK fun Kq af=>?_;simp[cu,bA,bu,dS,gr,zX,T0];(repeat refine⟨aa,?_⟩);refine af _ ?_);refine bH (ao _ (AW.st (by simp[cu,bA,bu,dS,gr,zX,T0];rfl) ?_));refine al ?_;by_cases zY:l=[114,117,110]
   .refine rg [0,40,41] [] aQ fun K' ao=>?_;(repeat refine aK fun Kq af=>?_;simp[cu,bA,bu,dS,gr,zY];(repeat refine⟨aa,?_⟩);refine af _ ?_);refine bH (ao _ (AW.st (by simp[cu,bA,bu,dS,gr,zY];rfl) ?_));refine aJ (aq (b5 _ ?_));refine aJ (ar [2] [] ?_);refine bW ?_;simp[D.le,D.le.go,aP];exact u9 (by simp[zY,nN])
   have T1:(l == [114,117,110])=false:=by simpa using zY
   refine rg [0,40,41] [] aQ fun K' ao=>?_;(repeat refine aK fun Kq af=>?_;simp[cu,bA,bu,dS,gr,zY,T1];(repeat refine⟨aa,?_⟩);refine af _ ?_);refine bH (ao _ (AW.st (by simp[cu,bA,bu,dS,gr,zY,T1];rfl) ?_));refine al ?_;by_cases zZ:l=[99,111,117,110,116]
   .refine rg [0,40,41] [] aQ fun K' ao=>?_;(repeat refine aK fun Kq af=>?_;simp[cu,bA,bu,dS,gr,zZ];(repeat refine⟨aa,?_⟩);refine af _ ?_);refine bH (ao _ (AW.st (by simp[cu,bA,bu,dS,gr,zZ];rfl) ?_));refine aJ (aq (b5 _ ?_));refine aJ (ar [2] [] ?_);refine bW ?_;simp[D.le,D.le.go,aP];exact u9 (by simp[zZ,nN])
   have T4:(l == [99,111,117,110,116])=false:=by simpa using zZ
   refine rg [0,40,41] [] aQ fun K' ao=>?_;(repeat refine aK fun Kq af=>?_;simp[cu,bA,bu,dS,gr,zZ,T4];(repeat refine⟨aa,?_⟩);refine af _ ?_);refine bH (ao _ (AW.st (by simp[cu,bA,bu,dS,gr,zZ,T4];rfl) ?_));refine al ?_;by_cases z6:l=[122,101,114,111]
   .refine fD (ay _) fun K' ao=>?_;(repeat refine aK fun Kq af=>?_;simp[cu,bA,bu,dS,gr,z6];(repeat refine⟨aa,?_⟩);refine af _ ?_);refine bH (ao _ ?_);refine b5 _ (AW.norm [0,41] [] aQ (AW.st (by simp[cu,bA,bu,dS,gr,z6];rfl) ?_));refine aJ (ar [2] [] ?_);refine bW ?_;simp[D.le,D.le.go,aP];exact u9 (by simp[z6,nN])
   have Ca:(l == [122,101,114,111])=false:=by simpa using z6
   refine fD (ay _) fun K' ao=>?_;(repeat refine aK fun Kq af=>?_;simp[cu,bA,bu,dS,gr,z6,Ca];(repeat refine⟨aa,?_⟩);refine af _ ?_);refine bH (ao _ ?_);refine b5 _ (AW.norm [0,41] [] aQ (AW.st (by simp[cu,bA,bu,dS,gr,z6,Ca];rfl) ?_));refine al (aq (b6 _ ?_));have qf:=(Aq @an9 @bX);refine ax [2] [] ?_;refine bW ?_;simp[D.le,D.le.go,aP];exact akE cf (by simp[nN,rL,kC,sJ,zU,zV,zW,zX,zY,zZ,z6])
def tr:Fm:=.mk 2 [] []
def Ki (n:Int) (many:Nat):Nat:=((n % 18446744073709551616) % many).toNat
structure YA where
 kind:Int
 a:Int
 b:Int
 name:List UInt8
def Pq (all:List Fm) (x:YA):Fm:=
 if x.kind=2 then .mk 2 [] []
 else if x.kind=3\/x.kind=6\/x.kind=9\/x.kind=10 then .mk x.kind [] [all.getD (Ki x.a all.length) .nil]
 else if x.kind=4\/x.kind=5\/x.kind=7\/x.kind=8 then .mk x.kind [] [all.getD (Ki x.a all.length) .nil,all.getD (Ki x.b all.length) .nil]
 else .mk 1 x.name []
abbrev YD:=List (List (List UInt8))
end Go.Proofs.YtobejfcgcfdpfaaGreatDoor
namespace Go.Proofs.YtobejfcgcfdpfaaGreatDoor
section
variable (f g:Fm)
def ya:Fm:=.mk 3 [] [f]
end
section
variable (a r:YD) (hr:0 < r.length) (f g:Fm)
include hr
end
theorem aod:type_of% @dN.eq_1:=@dN.eq_1
