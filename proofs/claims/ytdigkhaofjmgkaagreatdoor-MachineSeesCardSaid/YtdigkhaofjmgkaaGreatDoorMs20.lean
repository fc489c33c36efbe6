/- Parts. -/
import Derived.Test.YtdigkhaofjmgkaaGreatDoorMs18
import Derived.Test.YtdigkhaofjmgkaaGreatDoorMs19
import Derived.RegionTactic
import Derived.ChangeAlike
set_option linter.unusedSimpArgs false
set_option linter.unusedVariables false
set_option maxHeartbeats 8000000
open Go.Proofs.Tryz
namespace Go.Proofs.YtdigkhaofjmgkaaGreatDoor
open Go.RowKit Go.Extern.Stop Go.Stop Go.Extern
open Go.Av
theorem XN (v:Value) (xT:TypeId) (w:World):(Instr.typeAssert (.iface 40 v) xT 213 true).run prog w = .ok (.tuple #[.pointer none,.bool false]) w:=by kernel_rfl
theorem XM (v:Value) (xT:TypeId) (w:World):(Instr.typeAssert (.iface 213 v) xT 213 true).run prog w = .ok (.tuple #[v,.bool true]) w:=by kernel_rfl
theorem XO (v:Value) (xT:TypeId) (w:World):(Instr.typeAssert (.iface 40 v) xT 285 true).run prog w = .ok (.tuple #[.nilIface,.bool false]) w:=run_typeAssert_lacksB underlying285 (by kernel_rfl) (by kernel_rfl) v xT w
theorem VJ (w:World):Calls prog 135 #[.nilIface] w fun e w'=>e = .returned (.tuple #[.int .i64 0,.int .i64 (-1)])/\bY w w':=by
 go_enter func135,ntmps135
 go_wp2_with (go_at_call 37;refine (Ln _).mono ?_;rintro e w' ⟨rfl,rfl⟩)
 refine wp_loop_rounds 1 ?_;rw[rounds_succ]
 go_wp2
 go_ret2
 exact⟨rfl,bY.refl _⟩
theorem VI (n:Int) (w:World) (hg:w.cell? ⟨3,0,none⟩=some lK):Calls prog 135 #[.iface 40 (.int .i64 n)] w fun e w'=>e = .returned (.tuple #[.int .i64 n,.int .i64 (-1)])/\bY w w':=by
 have t1:=XN;have t2:=XO
 go_enter func135,ntmps135
 go_wp2_with (go_at_call 37;refine (Lm n _ hg).mono ?_;rintro e w' ⟨rfl,dP⟩)
 refine wp_loop_rounds 1 ?_;rw[rounds_succ]
 go_wp2
 go_ret2
 exact⟨rfl,dP⟩
theorem VH (n s:Int) (b o:Nat) (w:World) (hg:w.cell? ⟨3,0,none⟩=some lK) (ha:w.cell? ⟨b,o,none⟩=some (.int .i64 n)) (hs:w.cell? ⟨b,o+1,none⟩=some (.int .i64 s)) :
  Calls prog 135 #[.iface 213 (.pointer (some ⟨b,o,none⟩))] w fun e w'=>e = .returned (.tuple #[.int .i64 n,.int .i64 s])/\bY w w':=by
 have t1:=XM
 go_enter func135,ntmps135
 go_wp2_with (go_at_call 37;refine (Ll n _ _ hg ha).mono ?_;rintro e w' ⟨rfl,dP⟩)
 have lQ:w'.cell? ⟨b,o+1,none⟩=some (.int .i64 s):=by rw[World.cell?_of_block (w:=w) (dP.same b (ad7 hs))];exact hs
 refine wp_loop_rounds 1 ?_;rw[rounds_succ]
 go_wp2
 go_region
 all_goals (go_wp2;go_ret2;exact⟨rfl,dP.size,dP.os,dP.tape,dP.output,dP.same⟩)
theorem VK (G:ao) (hG:l8 G) (e:Option (Int×Option Nat)):ar prog G 135 [ba e] (.tup [.v (.int .i64 (codeF e)),.v (.int .i64 (bx e))]):=by
 refine ar.nr (e7.of func135 rfl rfl) fun X w vs aK bC cq=>?_;have hg:=hG.cell cq;obtain⟨v,rfl⟩:∃ v,vs = #[v]:=Array.size_eq_one_iff.1 aK;have hv:=bC 0 v _ rfl rfl
 have two:∀ (w':World) (a b:Int),RD w' X (.tuple #[.int .i64 a,.int .i64 b]) (.tup [.v (.int .i64 a),.v (.int .i64 b)]):=fun w' a b=>.tup rfl fun j u c hu hc=>by
  match j,hu,hc with
  | 0,hu,hc=>simp at hu hc;subst hu hc;exact .v _
  | 1,hu,hc=>simp at hu hc;subst hu hc;exact .v _
  | j+2,hu,hc=>simp at hu
 match e,hv with
 | none,hv=>
  have:=hv.scalar;subst this;exact (VJ w).mono fun e w' ⟨he,hw⟩=>⟨_,he,hw,two _ _ _⟩
 | some (c,none),hv=>
  obtain⟨u,rfl,hu⟩:=hv.nV;have:=hu.scalar;subst this;exact (VI c w hg).mono fun e w' ⟨he,hw⟩=>⟨_,he,hw,two _ _ _⟩
 | some (c,some s),hv=>
  obtain⟨u,rfl,hu⟩:=hv.nV;obtain⟨b,off,f,rfl,_,_,hc,hr⟩:=hu.adp;have h1:=hc 0 (by simp);have h2:=(hr 0 _ rfl).scalar;rw[h2]at h1;have h3:=hc 1 (by simp);have h4:=(hr 1 _ rfl).scalar;rw[h4]at h3;exact (VH c s b off w hg h1 h3).mono fun e w' ⟨he,hw⟩=>⟨_,he,hw,two _ _ _⟩
end Go.Proofs.YtdigkhaofjmgkaaGreatDoor
namespace Go.Proofs.YtdigkhaofjmgkaaGreatDoor
open Go.Av
def aa0 (e:Option (Int×Option Nat)):D:=.agg [ab (codeF e),ab (bx e)]
def pK (G:ao):Prop:=G 2=some (.ip [ab 0,ab (-1)])
theorem xV (G:ao) (c:Int):ar prog G 68 [ab c] (.agg [ab c,ab (-1)]):=by
 refine ar.aC (aay _) func68 rfl rfl (rs:=[.cell 2 124]) results68 (by simp[ntmps68]) fun X=>?_;simp only[ntmps68,List.map];refine rgq @ab.eq_1 [0,2] [2] ?_;refine rgq @ab.eq_1 [2] [2] ?_;exact aG @ab.eq_1
theorem E4 (G:ao) (n lo hi:Int):ar prog G 164 [ab n,ab lo,ab hi] (.v (.bool (decide (lo<=n) && decide (n<=hi)))):=by
 refine ar.aC (aay _) func164 rfl rfl (rs:=[.tmp 6]) results164 (by simp[ntmps164]) fun X=>?_;simp only[ntmps164,List.map];refine rgq @ab.eq_1 [0,1,2] [] ?_;by_cases h1:lo<=n
 .have qf:=@h1;refine al [6] [] ?_;exact aG @h1
 .have qf:=@h1;refine al [6] [] ?_;exact aG @h1
theorem S7 (G:ao) (k k':Option Bool) (l l':List Int) (h:l.length < 2^63):ar prog G 27 [mO k l,mO k' l'] (.v (.bool (l == l'))):=by
 refine ar.aC (aay _) func27 rfl rfl (rs:=[.tmp 4]) results27 (by simp[ntmps27]) fun X=>?_;simp only[ntmps27,List.map];refine aq [0,1] [] ?_;refine ae fun K1 au=>?_;refine rgq @mO.eq_1 [0,1,10] [] ?_;refine dw (b:=l.length≠l'.length) (by simp[D.le,D.le.go,aaA]) (fun hc=>?_) (fun hc=>?_)
 .refine aq [4] [] ?_;refine bn ?_;simp[D.le,D.le.go,aaA];intro e;subst e;simp at hc
 .refine ah (au _ ?_)
  have hl:l.length=l'.length:=by simpa using hc
  refine ae fun K2 aa=>?_;refine rgq @mO.eq_1 [0,1,5] [] ?_;refine bZ (S:=Nat) (fun n=>n<=l.length/\l.take n=l'.take n) (fun n=>⟨lst [(0,.d (mO k l)),(1,.d (mO k' l')),(5,int n)],ak []⟩) (fun n=>l.length - n) 0 ?_ (by simp) ?_
  .refine aX @mO.eq_1
  .rintro n ⟨hn,ht⟩;refine ae fun K3 aH=>?_;refine rgq @mO.eq_1 [0,1,5,14] [] ?_;refine dw (b:=n < l.length) (by simp[D.le,D.le.go,aaA]) (fun hc=>?_) (fun hc=>?_)
   .refine ah (aH _ ?_);refine ae fun K4 hK4=>?_;refine aU ?_
    have kI:n < l'.length:=by omega
    have qf:=(Aq @mO.eq_1 (Aq @hc @kI));refine fv [0,1,5,25] [] ?_;refine dw (b:=¬ l[n]=l'[n]) (by simp[D.le,D.le.go,aaA]) (fun hc=>?_) (fun hc=>?_)
    .refine aq [4] [] ?_;refine bn ?_;simp[D.le,D.le.go,aaA];intro e;subst e;simp at hc
    .refine ah (hK4 _ ?_);refine cG ?_;try simp only[aM,aP]
     have he:l[n]=l'[n]:=by simpa using hc
     refine aV.mk (n+1) ⟨by omega,XW ht (by omega) kI he⟩ (by omega) ?_;refine aX @mO.eq_1
   .refine bG (aa _ ?_);refine aq [4] [] ?_;refine bn ?_;simp[D.le,D.le.go,aaA]
    have kL:n=l.length:=by omega
    subst kL;exact XV hl ht
theorem MN (G:ao) (hG:l8 G) (e e':Option (Int×Option Nat)):ar prog G 67 [ba e,aa0 e'] (.v (.bool (decide (codeF e=codeF e') && decide (bx e=bx e')))):=by
 have hp:=VK G hG e;refine ar.aC (aay _) func67 rfl rfl (rs:=[.tmp 4]) results67 (by simp[ntmps67]) fun X=>?_;simp only[ntmps67,List.map];refine rgq @aa0.eq_1 [0,3] [3] ?_;refine aR trivial hp [3,5,6] [3] ?_;by_cases h1:codeF e=codeF e'
 .have qf:=(Aq @ab.eq_1 @h1);refine al [4] [3] ?_;refine bn ?_;simp[D.le,D.le.go,aaA,h1]
  try exact fun _=>h1
 .have qf:=(Aq @ab.eq_1 @h1);refine al [4] [3] ?_;refine bn ?_;simp[D.le,D.le.go,aaA,h1]
  try exact fun h=>absurd h h1
theorem MM (G:ao) (hG:l8 G) (e:Option (Int×Option Nat)):ar prog G 67 [ba e,aa0 e] (.v (.bool true)):=by
 have:=MN G hG e e;simpa using this
def oH (c:Int):Option (Int×Option Nat):=if c=0 then none else some (c,none)
theorem Ol (c:Int):codeF (oH c)=c:=by unfold oH;split<;>simp_all [codeF]
theorem Om (c:Int):bx (oH c) = -1:=by unfold oH;split<;>simp[bx]
theorem FJ (G:ao) (hG:l8 G) (c:Int):ar prog G 16 [ba (oH c),ab c] (.v (.bool true)):=by
 have h:=MM G hG (oH c);rw[show aa0 (oH c) = .agg [ab c,ab (-1)] by rw[aa0,Ol,Om]]at h;refine ar.aC (aay _) func16 rfl rfl (rs:=[.tmp 4]) results16 (by simp[ntmps16]) fun X=>?_;simp only[ntmps16,List.map];refine aq [0,1] [] ?_;refine rg [4] [] (fun _ _=>trivial) fun K' af=>?_;(repeat (refine sxn fun K2 aa=>?_;simp[ab];(repeat (refine⟨by omega,?_⟩));refine aa _ ?_;clear aa K2));refine sxn fun K2 aa=>?_;simp[ab];refine aaT.data (xV G c) (by simp;rfl) (by first | exact D.aaE _ | simp[aaA,List.map_map,Function.comp_def,D.le,D.le.go,D.le_refl,D.aaE,ab]) ?_;refine aa _ ?_;clear aa K2;simp only[aD,cu];(repeat (refine sxn fun K2 aa=>?_;simp[ab];(repeat (refine⟨by omega,?_⟩));refine aa _ ?_;clear aa K2));refine sxn fun K2 aa=>?_;simp[ab];refine aaT.data (h) (by simp;rfl) (by first | exact D.aaE _ | simp[aaA,List.map_map,Function.comp_def,D.le,D.le.go,D.le_refl,D.aaE,ab]) ?_;refine aa _ ?_;clear aa K2;simp only[aD,cu];(repeat (refine sxn fun K2 aa=>?_;simp[ab];(repeat (refine⟨by omega,?_⟩));refine aa _ ?_;clear aa K2));refine sxz (af _ (AW.st (by simp[ab];rfl) ?_));clear af K';exact gG
inductive Fm where
 | nil
 | mk (kind:Int) (name:List UInt8) (of:List Fm)
def Vi {α:Type} (l:List α):Option Bool:=match l with
 | []=>some false
 | _=>none
mutual
def dF:Fm->D
 | .nil=>.v (.pointer none)
 | .mk k s l=>.ip [ab k,dS s,.sl (Vi l) (F9 l)]
def F9:List Fm->List (List D)
 | []=>[]
 | f :: l=>[dF f] :: F9 l
end
def ve.n (t:ve):Nat:=t.next.length
end Go.Proofs.YtdigkhaofjmgkaaGreatDoor
namespace Go.Proofs.YtdigkhaofjmgkaaGreatDoor
theorem agt {α:Type} {p:α->Bool} {l:List α} (h:idx p l < 0):∀ x∈l,p x=false:=by
 unfold idx at h;split at h
 .omega
 .rename_i hn;rw[List.findIdx?_eq_none_iff]at hn;intro x hx;simpa using hn x hx
theorem po {α:Type} {p:α->Bool} {l:List α} (h:¬ idx p l < 0):∃ k,∃ hk:k < l.length,idx p l=(k:Int)/\p l[k]=true:=by
 unfold idx at h ⊢;split
 .rename_i i hi;rw[List.findIdx?_eq_some_iff_getElem]at hi;obtain⟨h1,h2,_⟩:=hi;exact⟨i,h1,rfl,h2⟩
 .rename_i hn;simp[hn]at h
def dn (L:List (List Int)) (n:Nat):Nat:=(Ve L n).1.length
def nx (t:ve) (s c:Nat):Nat:=((t.next.getD s []).getD c 0).toNat
def te (t:ve) (s c:Nat):Int:=(t.XY.getD s []).getD c 0
def wd (t:ve):Nat:=(t.next.getD 0 []).length
open Go.Av
def pre (l row:List Int) (i:Nat):List Int:=(row.take i).map fun x=>l.getD x.toNat 0
theorem xa {l:List UInt8} {i:Nat} (h:adD l i=true) (hi:i < l.length) (hc:okC i l[i]=true):adD l (i+1)=true:=by
 unfold adD at h ⊢;rw[List.range_succ,List.all_append,h];simp only[List.all_cons,List.all_nil,Bool.and_true,Bool.true_and];rw[List.getD_eq_getElem?_getD,List.getElem?_eq_getElem hi];exact hc
theorem uE {l:List UInt8} {i:Nat} (hi:i < l.length) (hc:okC i l[i]=false):mN l=false:=by
 have:adD l l.length=false:=by
  unfold adD;rw[List.all_eq_false];refine⟨i,List.mem_range.2 hi,?_⟩;rw[List.getD_eq_getElem?_getD,List.getElem?_eq_getElem hi];simp[hc]
 unfold mN;rw[this];rfl
theorem og {l:List UInt8} (h:(([] :: ji).any fun x=>l == x)=true):mN l=false:=by
 unfold mN;rw[h];simp
theorem YF {l:List UInt8} (h:adD l l.length=true) (hw:(([] :: ji).any fun x=>l == x)=false):decide ((l.length:Int)<=8)=mN l:=by
 unfold mN;rw[h,hw];simp only[Bool.not_false,Bool.true_and];by_cases h8:l.length<=8
 .simp[h8];omega
 .simp[h8];omega
theorem dT (l:List UInt8):(⟨l.toArray⟩:ByteArray)=bs l:=rfl
theorem Jl (G:ao) (l:List UInt8) (hl:l.length < 2^60):ar prog G 163 [dS l] (.v (.bool (mN l))):=by
 refine ar.aC (aay _) func163 rfl rfl (rs:=[.tmp 2]) results163 (by simp[ntmps163]) fun X=>?_;simp only[ntmps163,List.map];refine rgq @dS.eq_1 [0] [] ?_;refine ae fun K1 au=>?_;have qf:=@bl;refine al [0,7,8] [] ?_;refine bZ (S:=Nat) (fun i=>i<=l.length/\adD l i=true) (fun i=>⟨lst [(0,.d (dS l)),(7,int l.length),(8,int i)],ak []⟩) (fun i=>l.length - i) 0 ?_ (by simp[adD]) ?_
 .refine aX @dS.eq_1
 .rintro i ⟨Hs,bJ⟩;refine rgq @dS.eq_1 [0,7,8,9] [] ?_;refine ae fun K2 aa=>?_;refine dw (b:=i < l.length) (by simp[D.le,D.le.go,aaA]) (fun hc=>?_) (fun hc=>?_)
  .have hi:i < l.length:=hc;refine ah (aa _ ?_);refine ae fun K3 aH=>?_;refine aU ?_;refine aq [0,3,7,8] [] ?_;have qf:=(Aq @bl (Aq @ch @hi));refine al [0,3,4,7,8] [] ?_;by_cases ha:(97:Int)<=(l[i].toNat:Int)
   .by_cases hb:(l[i].toNat:Int)<=122
    .have qf:=(Aq @ha @hb);refine al [0,3,4,5,7,8] [] ?_;have qf:=(Aq @ha @hb);refine al [0,7,8,38] [] ?_;refine ag rfl ?_;refine ah (aH _ ?_);refine cG ?_;(try simp only[aM,aP]);refine aV.mk (i+1) ⟨by omega,xa bJ hi (by simp only[okC,kp,lu,Bool.or_eq_true,Bool.and_eq_true,decide_eq_true_eq];omega)⟩ (by omega) ?_;refine aX @dS.eq_1
    .by_cases hz:(i:Int)=0
     .have hz':i=0:=by omega
      subst hz';have qf:=(Aq @ha @hb);refine al [0,3,4,5,7,8] [] ?_;have qf:=(Aq @ha @hb);refine al [0,7,8,38] [] ?_;refine aax rfl ?_;refine aq [2] [] ?_;refine bn ?_;simp[D.le,D.le.go,aaA];exact uE hi (by simp only[okC,kp,lu,Bool.or_eq_false_iff,Bool.and_eq_false_iff,decide_eq_false_iff_not];omega)
     .have hz':¬ i=0:=by omega
      by_cases hd:(48:Int)<=(l[i].toNat:Int)
      .by_cases he:(l[i].toNat:Int)<=57
       .have qf:=(Aq @ha (Aq @hb (Aq @hz (Aq @hz' (Aq @hd @he)))));refine al [0,3,4,5,7,8] [] ?_;have qf:=(Aq @ha (Aq @hb (Aq @hz (Aq @hz' (Aq @hd @he)))));refine al [0,7,8,38] [] ?_;refine ag rfl ?_;refine ah (aH _ ?_);refine cG ?_;(try simp only[aM,aP]);refine aV.mk (i+1) ⟨by omega,xa bJ hi (by simp only[okC,kp,lu,Bool.or_eq_true,Bool.and_eq_true,decide_eq_true_eq];omega)⟩ (by omega) ?_;refine aX @dS.eq_1
       .by_cases hu:(l[i].toNat:Int)=95
        .have qf:=(Aq @ha (Aq @hb (Aq @hz (Aq @hz' (Aq @hd (Aq @he @hu))))));refine al [0,3,4,5,7,8] [] ?_;have qf:=(Aq @ha (Aq @hb (Aq @hz (Aq @hz' (Aq @hd (Aq @he @hu))))));refine al [0,7,8,38] [] ?_;refine ag rfl ?_;refine ah (aH _ ?_);refine cG ?_;(try simp only[aM,aP]);refine aV.mk (i+1) ⟨by omega,xa bJ hi (by simp only[okC,kp,lu,Bool.or_eq_true,Bool.and_eq_true,decide_eq_true_eq];omega)⟩ (by omega) ?_;refine aX @dS.eq_1
        .have qf:=(Aq @ha (Aq @hb (Aq @hz (Aq @hz' (Aq @hd (Aq @he @hu))))));refine al [0,3,4,5,7,8] [] ?_;have qf:=(Aq @ha (Aq @hb (Aq @hz (Aq @hz' (Aq @hd (Aq @he @hu))))));refine al [0,7,8,38] [] ?_;refine aax rfl ?_;refine aq [2] [] ?_;refine bn ?_;simp[D.le,D.le.go,aaA];exact uE hi (by simp only[okC,kp,lu,Bool.or_eq_false_iff,Bool.and_eq_false_iff,decide_eq_false_iff_not];omega)
      .have hu:¬ (l[i].toNat:Int)=95:=by omega
       have qf:=(Aq @ha (Aq @hb (Aq @hz (Aq @hz' (Aq @hd @hu)))));refine al [0,3,4,5,7,8] [] ?_;have qf:=(Aq @ha (Aq @hb (Aq @hz (Aq @hz' (Aq @hd @hu)))));refine al [0,7,8,38] [] ?_;refine aax rfl ?_;refine aq [2] [] ?_;refine bn ?_;simp[D.le,D.le.go,aaA];exact uE hi (by simp only[okC,kp,lu,Bool.or_eq_false_iff,Bool.and_eq_false_iff,decide_eq_false_iff_not];omega)
   .by_cases hz:(i:Int)=0
    .have hz':i=0:=by omega
     subst hz';have qf:=@ha;refine al [0,3,4,5,7,8] [] ?_;have qf:=@ha;refine al [0,7,8,38] [] ?_;refine aax rfl ?_;refine aq [2] [] ?_;refine bn ?_;simp[D.le,D.le.go,aaA];exact uE hi (by simp only[okC,kp,lu,Bool.or_eq_false_iff,Bool.and_eq_false_iff,decide_eq_false_iff_not];omega)
    .have hz':¬ i=0:=by omega
     by_cases hd:(48:Int)<=(l[i].toNat:Int)
     .by_cases he:(l[i].toNat:Int)<=57
      .have qf:=(Aq @ha (Aq @hz (Aq @hz' (Aq @hd @he))));refine al [0,3,4,5,7,8] [] ?_;have qf:=(Aq @ha (Aq @hz (Aq @hz' (Aq @hd @he))));refine al [0,7,8,38] [] ?_;refine ag rfl ?_;refine ah (aH _ ?_);refine cG ?_;(try simp only[aM,aP]);refine aV.mk (i+1) ⟨by omega,xa bJ hi (by simp only[okC,kp,lu,Bool.or_eq_true,Bool.and_eq_true,decide_eq_true_eq];omega)⟩ (by omega) ?_;refine aX @dS.eq_1
      .by_cases hu:(l[i].toNat:Int)=95
       .have qf:=(Aq @ha (Aq @hz (Aq @hz' (Aq @hd (Aq @he @hu)))));refine al [0,3,4,5,7,8] [] ?_;have qf:=(Aq @ha (Aq @hz (Aq @hz' (Aq @hd (Aq @he @hu)))));refine al [0,7,8,38] [] ?_;refine ag rfl ?_;refine ah (aH _ ?_);refine cG ?_;(try simp only[aM,aP]);refine aV.mk (i+1) ⟨by omega,xa bJ hi (by simp only[okC,kp,lu,Bool.or_eq_true,Bool.and_eq_true,decide_eq_true_eq];omega)⟩ (by omega) ?_;refine aX @dS.eq_1
       .have qf:=(Aq @ha (Aq @hz (Aq @hz' (Aq @hd (Aq @he @hu)))));refine al [0,3,4,5,7,8] [] ?_;have qf:=(Aq @ha (Aq @hz (Aq @hz' (Aq @hd (Aq @he @hu)))));refine al [0,7,8,38] [] ?_;refine aax rfl ?_;refine aq [2] [] ?_;refine bn ?_;simp[D.le,D.le.go,aaA];exact uE hi (by simp only[okC,kp,lu,Bool.or_eq_false_iff,Bool.and_eq_false_iff,decide_eq_false_iff_not];omega)
     .have hu:¬ (l[i].toNat:Int)=95:=by omega
      have qf:=(Aq @ha (Aq @hz (Aq @hz' (Aq @hd @hu))));refine al [0,3,4,5,7,8] [] ?_;have qf:=(Aq @ha (Aq @hz (Aq @hz' (Aq @hd @hu))));refine al [0,7,8,38] [] ?_;refine aax rfl ?_;refine aq [2] [] ?_;refine bn ?_;simp[D.le,D.le.go,aaA];exact uE hi (by simp only[okC,kp,lu,Bool.or_eq_false_iff,Bool.and_eq_false_iff,decide_eq_false_iff_not];omega)
  .have c6:i=l.length:=by omega
   subst c6;refine bG (au _ ?_);refine ae fun K4 hK4=>?_;refine aq [0,40] [] ?_;refine aU ?_;refine ae fun K5 bN=>?_;by_cases lT:l=[]
   .refine rg [0,40,41] [] (fun _ _=>trivial) fun K' af=>?_;(repeat (refine sxn fun K2 aa=>?_;simp[br,aZ,aS,dS,dT,lT];(repeat (refine⟨by omega,?_⟩));refine aa _ ?_;clear aa K2));refine sxz (af _ (AW.st (by simp[br,aZ,aS,dS,dT,lT];rfl) ?_));clear af K';refine aax rfl ?_;refine ah (bN _ ?_);refine aax rfl ?_;refine aq [2] [] ?_;refine bn ?_;simp[D.le,D.le.go,aaA];exact og (by simp[lT,ji])
   have qs:l.isEmpty=false:=by simpa using lT
   refine rg [0,40,41] [] (fun _ _=>trivial) fun K' af=>?_;(repeat (refine sxn fun K2 aa=>?_;simp[br,aZ,aS,dS,dT,lT,qs];(repeat (refine⟨by omega,?_⟩));refine aa _ ?_;clear aa K2));refine sxz (af _ (AW.st (by simp[br,aZ,aS,dS,dT,lT,qs];rfl) ?_));clear af K';refine ag rfl ?_;by_cases gM:l=[105,110,112,117,116]
   .refine rg [0,40,41] [] (fun _ _=>trivial) fun K' af=>?_;(repeat (refine sxn fun K2 aa=>?_;simp[br,aZ,aS,dS,dT,gM];(repeat (refine⟨by omega,?_⟩));refine aa _ ?_;clear aa K2));refine sxz (af _ (AW.st (by simp[br,aZ,aS,dS,dT,gM];rfl) ?_));clear af K';refine aax rfl ?_;refine ah (bN _ ?_);refine aax rfl ?_;refine aq [2] [] ?_;refine bn ?_;simp[D.le,D.le.go,aaA];exact og (by simp[gM,ji])
   have y8:(l == [105,110,112,117,116])=false:=by simpa using gM
   refine rg [0,40,41] [] (fun _ _=>trivial) fun K' af=>?_;(repeat (refine sxn fun K2 aa=>?_;simp[br,aZ,aS,dS,dT,gM,y8];(repeat (refine⟨by omega,?_⟩));refine aa _ ?_;clear aa K2));refine sxz (af _ (AW.st (by simp[br,aZ,aS,dS,dT,gM,y8];rfl) ?_));clear af K';refine ag rfl ?_;by_cases hw2:l=[99,111,105,108]
   .refine rg [0,40,41] [] (fun _ _=>trivial) fun K' af=>?_;(repeat (refine sxn fun K2 aa=>?_;simp[br,aZ,aS,dS,dT,hw2];(repeat (refine⟨by omega,?_⟩));refine aa _ ?_;clear aa K2));refine sxz (af _ (AW.st (by simp[br,aZ,aS,dS,dT,hw2];rfl) ?_));clear af K';refine aax rfl ?_;refine ah (bN _ ?_);refine aax rfl ?_;refine aq [2] [] ?_;refine bn ?_;simp[D.le,D.le.go,aaA];exact og (by simp[hw2,ji])
   have lU:(l == [99,111,105,108])=false:=by simpa using hw2
   refine rg [0,40,41] [] (fun _ _=>trivial) fun K' af=>?_;(repeat (refine sxn fun K2 aa=>?_;simp[br,aZ,aS,dS,dT,hw2,lU];(repeat (refine⟨by omega,?_⟩));refine aa _ ?_;clear aa K2));refine sxz (af _ (AW.st (by simp[br,aZ,aS,dS,dT,hw2,lU];rfl) ?_));clear af K';refine ag rfl ?_;by_cases r9:l=[116,105,109,101,114]
   .refine rg [0,40,41] [] (fun _ _=>trivial) fun K' af=>?_;(repeat (refine sxn fun K2 aa=>?_;simp[br,aZ,aS,dS,dT,r9];(repeat (refine⟨by omega,?_⟩));refine aa _ ?_;clear aa K2));refine sxz (af _ (AW.st (by simp[br,aZ,aS,dS,dT,r9];rfl) ?_));clear af K';refine aax rfl ?_;refine ah (bN _ ?_);refine aax rfl ?_;refine aq [2] [] ?_;refine bn ?_;simp[D.le,D.le.go,aaA];exact og (by simp[r9,ji])
   have H4:(l == [116,105,109,101,114])=false:=by simpa using r9
   refine rg [0,40,41] [] (fun _ _=>trivial) fun K' af=>?_;(repeat (refine sxn fun K2 aa=>?_;simp[br,aZ,aS,dS,dT,r9,H4];(repeat (refine⟨by omega,?_⟩));refine aa _ ?_;clear aa K2));refine sxz (af _ (AW.st (by simp[br,aZ,aS,dS,dT,r9,H4];rfl) ?_));clear af K';refine ag rfl ?_;by_cases sa:l=[99,111,117,110,116,101,114]
   .refine rg [0,40,41] [] (fun _ _=>trivial) fun K' af=>?_;(repeat (refine sxn fun K2 aa=>?_;simp[br,aZ,aS,dS,dT,sa];(repeat (refine⟨by omega,?_⟩));refine aa _ ?_;clear aa K2));refine sxz (af _ (AW.st (by simp[br,aZ,aS,dS,dT,sa];rfl) ?_));clear af K';refine aax rfl ?_;refine ah (bN _ ?_);refine aax rfl ?_;refine aq [2] [] ?_;refine bn ?_;simp[D.le,D.le.go,aaA];exact og (by simp[sa,ji])
   have H5:(l == [99,111,117,110,116,101,114])=false:=by simpa using sa
   refine rg [0,40,41] [] (fun _ _=>trivial) fun K' af=>?_;(repeat (refine sxn fun K2 aa=>?_;simp[br,aZ,aS,dS,dT,sa,H5];(repeat (refine⟨by omega,?_⟩));refine aa _ ?_;clear aa K2));refine sxz (af _ (AW.st (by simp[br,aZ,aS,dS,dT,sa,H5];rfl) ?_));clear af K';refine ag rfl ?_;by_cases sb:l=[115,101,116]
   .refine rg [0,40,41] [] (fun _ _=>trivial) fun K' af=>?_;(repeat (refine sxn fun K2 aa=>?_;simp[br,aZ,aS,dS,dT,sb];(repeat (refine⟨by omega,?_⟩));refine aa _ ?_;clear aa K2));refine sxz (af _ (AW.st (by simp[br,aZ,aS,dS,dT,sb];rfl) ?_));clear af K';refine aax rfl ?_;refine ah (bN _ ?_);refine aax rfl ?_;refine aq [2] [] ?_;refine bn ?_;simp[D.le,D.le.go,aaA];exact og (by simp[sb,ji])
   have H6:(l == [115,101,116])=false:=by simpa using sb
   refine rg [0,40,41] [] (fun _ _=>trivial) fun K' af=>?_;(repeat (refine sxn fun K2 aa=>?_;simp[br,aZ,aS,dS,dT,sb,H6];(repeat (refine⟨by omega,?_⟩));refine aa _ ?_;clear aa K2));refine sxz (af _ (AW.st (by simp[br,aZ,aS,dS,dT,sb,H6];rfl) ?_));clear af K';refine ag rfl ?_;by_cases sc:l=[114,101,115,101,116]
   .refine rg [0,40,41] [] (fun _ _=>trivial) fun K' af=>?_;(repeat (refine sxn fun K2 aa=>?_;simp[br,aZ,aS,dS,dT,sc];(repeat (refine⟨by omega,?_⟩));refine aa _ ?_;clear aa K2));refine sxz (af _ (AW.st (by simp[br,aZ,aS,dS,dT,sc];rfl) ?_));clear af K';refine aax rfl ?_;refine ah (bN _ ?_);refine aax rfl ?_;refine aq [2] [] ?_;refine bn ?_;simp[D.le,D.le.go,aaA];exact og (by simp[sc,ji])
   have H7:(l == [114,101,115,101,116])=false:=by simpa using sc
   refine rg [0,40,41] [] (fun _ _=>trivial) fun K' af=>?_;(repeat (refine sxn fun K2 aa=>?_;simp[br,aZ,aS,dS,dT,sc,H7];(repeat (refine⟨by omega,?_⟩));refine aa _ ?_;clear aa K2));refine sxz (af _ (AW.st (by simp[br,aZ,aS,dS,dT,sc,H7];rfl) ?_));clear af K';refine ag rfl ?_;by_cases sd:l=[114,117,110]
   .refine rg [0,40,41] [] (fun _ _=>trivial) fun K' af=>?_;(repeat (refine sxn fun K2 aa=>?_;simp[br,aZ,aS,dS,dT,sd];(repeat (refine⟨by omega,?_⟩));refine aa _ ?_;clear aa K2));refine sxz (af _ (AW.st (by simp[br,aZ,aS,dS,dT,sd];rfl) ?_));clear af K';refine aax rfl ?_;refine ah (bN _ ?_);refine aax rfl ?_;refine aq [2] [] ?_;refine bn ?_;simp[D.le,D.le.go,aaA];exact og (by simp[sd,ji])
   have H8:(l == [114,117,110])=false:=by simpa using sd
   refine rg [0,40,41] [] (fun _ _=>trivial) fun K' af=>?_;(repeat (refine sxn fun K2 aa=>?_;simp[br,aZ,aS,dS,dT,sd,H8];(repeat (refine⟨by omega,?_⟩));refine aa _ ?_;clear aa K2));refine sxz (af _ (AW.st (by simp[br,aZ,aS,dS,dT,sd,H8];rfl) ?_));clear af K';refine ag rfl ?_;by_cases se:l=[99,111,117,110,116]
   .refine rg [0,40,41] [] (fun _ _=>trivial) fun K' af=>?_;(repeat (refine sxn fun K2 aa=>?_;simp[br,aZ,aS,dS,dT,se];(repeat (refine⟨by omega,?_⟩));refine aa _ ?_;clear aa K2));refine sxz (af _ (AW.st (by simp[br,aZ,aS,dS,dT,se];rfl) ?_));clear af K';refine aax rfl ?_;refine ah (bN _ ?_);refine aax rfl ?_;refine aq [2] [] ?_;refine bn ?_;simp[D.le,D.le.go,aaA];exact og (by simp[se,ji])
   have H9:(l == [99,111,117,110,116])=false:=by simpa using se
   refine rg [0,40,41] [] (fun _ _=>trivial) fun K' af=>?_;(repeat (refine sxn fun K2 aa=>?_;simp[br,aZ,aS,dS,dT,se,H9];(repeat (refine⟨by omega,?_⟩));refine aa _ ?_;clear aa K2));refine sxz (af _ (AW.st (by simp[br,aZ,aS,dS,dT,se,H9];rfl) ?_));clear af K';refine ag rfl ?_;by_cases sf:l=[122,101,114,111]
   .refine abl (aay _) fun K' af=>?_;(repeat (refine sxn fun K2 aa=>?_;simp[br,aZ,aS,dS,dT,sf];(repeat (refine⟨by omega,?_⟩));refine aa _ ?_;clear aa K2));refine sxz (af _ ?_);clear af K';refine bN _ (AW.norm [0,41] [] (fun _ _=>trivial) (AW.st (by simp[br,aZ,aS,dS,dT,sf];rfl) ?_));refine aax rfl ?_;refine aq [2] [] ?_;refine bn ?_;simp[D.le,D.le.go,aaA];exact og (by simp[sf,ji])
   have ue:(l == [122,101,114,111])=false:=by simpa using sf
   refine abl (aay _) fun K' af=>?_;(repeat (refine sxn fun K2 aa=>?_;simp[br,aZ,aS,dS,dT,sf,ue];(repeat (refine⟨by omega,?_⟩));refine aa _ ?_;clear aa K2));refine sxz (af _ ?_);clear af K';refine bN _ (AW.norm [0,41] [] (fun _ _=>trivial) (AW.st (by simp[br,aZ,aS,dS,dT,sf,ue];rfl) ?_));refine ag rfl ?_;refine ah (hK4 _ ?_);have qf:=(Aq @dS.eq_1 @bl);refine al [2] [] ?_;refine bn ?_;simp[D.le,D.le.go,aaA];exact YF bJ (by simp[ji,lT,gM,hw2,r9,sa,sb,sc,sd,se,sf])
def tr:Fm:=.mk 2 [] []
def A5 (n:Int) (many:Nat):Nat:=((n % 18446744073709551616) % many).toNat
structure L7 where
 kind:Int
 a:Int
 b:Int
 name:List UInt8
def EM (all:List Fm) (x:L7):Fm:=
 if x.kind=2 then .mk 2 [] []
 else if x.kind=3\/x.kind=6\/x.kind=9\/x.kind=10 then .mk x.kind [] [all.getD (A5 x.a all.length) .nil]
 else if x.kind=4\/x.kind=5\/x.kind=7\/x.kind=8 then .mk x.kind [] [all.getD (A5 x.a all.length) .nil,all.getD (A5 x.b all.length) .nil]
 else .mk 1 x.name []
def Fq (f:Fm):Prop:=∃ k s l,f = .mk k s l
theorem Fq.ip {f:Fm} (h:Fq f):∃ c,dF f = .ip c:=by
 obtain⟨k,s,l,rfl⟩:=h;exact⟨_,rfl⟩
abbrev L8:=List (List (List UInt8))
end Go.Proofs.YtdigkhaofjmgkaaGreatDoor
namespace Go.Proofs.YtdigkhaofjmgkaaGreatDoor
section
variable (f g:Fm)
def qC:Fm:=.mk 3 [] [f]
end
section
variable (a r:L8) (hr:0 < r.length) (f g:Fm)
include hr
end
